/-
  FinalizerOnce walked. No condition but that the arguments are what the types say.
-/
import Derived.Test.YtipmkaabogocfaaF7
set_option linter.unusedSimpArgs false
set_option linter.unusedVariables false
set_option maxRecDepth 100000
set_option maxHeartbeats 2000000
namespace Go.Proofs.Ytipmkaabogocfaa
open Go.Hp Go.J Go.S
open Go.Mem (Ty KTy blk elemAt pre suf blk_pre blk_suf aget aset strK aggDesc)
theorem sep_perm (A rg : List Int) : (sepL A rg ++ stayL A rg).Perm rg := by
  unfold sepL stayL lostL
  refine ((List.reverse_perm _).append_right _).trans (List.perm_append_comm.trans ?_)
  exact List.filter_append_perm (fun x => decide (x ∈ A)) rg
theorem stay_nil (rg : List Int) : stayL [] rg = [] := by unfold stayL; rw [List.filter_eq_nil_iff]; intro a _; simp
theorem once_step (x : Cl) {ad tk pd rg : List Int} (h : ad.Perm (tk ++ (pd ++ rg))) {b1 b2 : Bool} (h1 : (decide (x.kind = 0) && decide (prE x rg = 0)) = b1) (h2 : (decide (x.kind = 3) && prB x rg pd) = b2) : (if b1 = true then ad ++ [x.id] else ad).Perm ((if b2 = true then tk ++ [prN x pd] else tk) ++ (prP x rg pd ++ prR x rg)) := by
  have sp : ∀ A : List Int, ad.Perm (tk ++ ((pd ++ sepL A rg) ++ stayL A rg)) := fun A => by
    refine h.trans (List.Perm.append_left tk ?_)
    rw [List.append_assoc]
    exact List.Perm.append_left pd (sep_perm A rg).symm
  by_cases k0 : x.kind = 0
  · have e1 : prE x rg = addI rg x.id := by simp [prE, k0]
    have e2 : prR x rg = addL rg x.id := by simp [prR, k0]
    have e3 : prP x rg pd = pd := by simp [prP, k0]
    have b2f : b2 = false := by rw [← h2]; simp [k0]
    rw [e2, e3, b2f]
    rw [e1, decide_eq_true k0, Bool.true_and] at h1
    by_cases a : addI rg x.id = 0
    · rw [decide_eq_true a] at h1
      rw [← h1, add_ok a, ← List.append_assoc pd, ← List.append_assoc]
      exact h.append_right _
    · rw [decide_eq_false a] at h1
      rw [← h1, add_no a]; exact h
  · have b1f : b1 = false := by rw [← h1]; simp [k0]
    rw [b1f]
    by_cases k3 : x.kind = 3
    · have e2 : prR x rg = rg := by simp [prR, k3]
      have e3 : prP x rg pd = pd.tail := by simp [prP, k3]
      have e4 : prN x pd = nextI pd := by simp [prN, k3]
      have e5 : prB x rg pd = nextB pd := by simp [prB, k3]
      rw [e2, e3, e4]
      rw [e5, decide_eq_true k3, Bool.true_and] at h2
      rw [← h2]
      cases pd with
      | nil => exact h
      | cons a r => simpa [nextB, nextI] using h
    · have b2f : b2 = false := by rw [← h2]; simp [k3]
      rw [b2f]
      by_cases k1 : x.kind = 1
      · rw [show prR x rg = rg by simp [prR, k1], show prP x rg pd = pd by simp [prP, k1]]; exact h
      · by_cases k2 : x.kind = 2
        · rw [show prR x rg = stayL x.alive rg by simp [prR, k2], show prP x rg pd = pd ++ sepL x.alive rg by simp [prP, k2]]; exact sp _
        · by_cases k4 : x.kind = 4
          · rw [show prR x rg = rg by simp [prR, k4], show prP x rg pd = pd by simp [prP, k4]]; exact h
          · by_cases k5 : x.kind = 5
            · rw [show prR x rg = rg by simp [prR, k5], show prP x rg pd = pd by simp [prP, k5]]; exact h
            · rw [show prR x rg = stayL [] rg by simp [prR, k0, k1, k2, k3, k4, k5], show prP x rg pd = pd ++ sepL [] rg by simp [prP, k0, k1, k2, k3, k4, k5]]; exact sp _
theorem cnt_perm {A B : List Int} (h : A.Perm B) (n : Int) : cntI A n = cntI B n := (h.filter _).length_eq
theorem take_once {ad tk pl : List Int} (h : ad.Perm (tk ++ pl)) (hb : nextB pl = true) : ad.Perm (tk ++ [nextI pl] ++ pl.tail) ∧ pl.tail.length + 1 = pl.length := by
  cases pl with
  | nil => cases hb
  | cons a r => exact ⟨by simpa [nextI] using h, rfl⟩
theorem next_none {pl : List Int} (hb : nextB pl = false) : pl = [] := by
  cases pl with
  | nil => rfl
  | cons a r => cases hb
theorem once_w {Z : Zone} {lv : Value} {L : List Cl} (hL : Kn Z ClT lv L) (hC : ∀ x ∈ L, KnC Z x) : SF Try.prog 6 #[lv] Z [] fun r Bs => r = .bool true ∧ Bs = [] := by
  refine sf_enter Try.func6 130 [(0, lv)] (fun w0 => ?_)
  refine k_seq ?_
  refine k_reg ?_
  refine s_lt (t_pure (.bool false)) ?_
  refine s_nil ?_
  refine xs_then ?_
  refine k_seq ?_
  refine k_reg ?_
  refine s_pcall (fun _ h => qnew_s) ?_
  rintro _ _ ⟨q1, rfl, rfl⟩
  refine s_lt (t_pure (.pointer (some ⟨q1, 0, none⟩))) ?_
  refine s_nil ?_
  refine xs_then ?_
  refine k_seq ?_
  refine k_seq ?_
  refine k_reg ?_
  refine s_lt (t_pure (.pointer (some ⟨q1, 0, none⟩))) ?_
  refine s_lt (t_pure (.bool false)) ?_
  refine s_nil ?_
  refine xs_then ?_
  refine k_false ?_
  refine k_skip ?_
  refine xs_then ?_
  refine k_seq ?_
  refine k_seq ?_
  refine k_reg ?_
  refine s_lt (t_pure lv) ?_
  refine s_pcall (fun _ h => long_s (hL.up h) (fun x hx => (hC x hx).up h)) ?_
  rintro _ _ ⟨lb2, rfl, hlb3, rfl⟩
  refine s_nil ?_
  refine xs_then ?_
  refine k_cond lb2 (fun c4 => ?_) (fun c4 => ?_)
  ·
    refine k_seq ?_
    refine k_reg ?_
    refine s_vcall (fun _ h => awake_s) ?_
    rintro _ rfl
    refine s_lt (t_pure (.bool true)) ?_
    refine s_nil ?_
    refine xs_then ?_
    refine k_ret ?_
    refine xs_ret ?_
    exact xs_fin [.bool true] [] (SI.tmp 2 SI.nil) (fun _ h => h.re [] [0]) ⟨rfl, rfl⟩
  ·
    obtain ⟨hL1, hL2⟩ := hlb3 c4
    refine k_skip ?_
    refine xs_then ?_
    refine k_seq ?_
    refine k_reg ?_
    refine s_buildSlice (e := 3) [] #[] (fun g5 => ?_) (hb := by kernel_rfl)
    refine s_buildSlice (e := 3) [] #[] (fun g6 => ?_) (hb := by kernel_rfl)
    refine s_lt (t_pure (.slice (some ⟨g5, 0, none⟩) 0 0)) ?_
    refine s_lt (t_pure (.slice (some ⟨g6, 0, none⟩) 0 0)) ?_
    refine s_nil ?_
    refine xs_then ?_
    refine k_seq ?_
    refine k_seq ?_
    refine k_reg ?_
    refine s_lt (t_pure lv) ?_
    refine s_lt (t_len ClT_ok Try.underlying32 (.zn hL)) ?_
    refine s_lt (t_pure (.int .i64 0)) ?_
    refine s_nil ?_
    refine xs_then ?_
    refine k_block ?_
    refine k_mem (fun _ h => Holds.slice 1 h iTy_ok []) ?_
    refine k_mem (fun _ h => Holds.slice 0 h iTy_ok []) ?_
    refine k_loop (ι := List Int × List Int × List Int × List Int × Value × Value × Nat) (fun (rg, pd, ad, tk, ax, tx, i) => i ≤ L.length ∧ ad.Perm (tk ++ (pd ++ rg)) ∧ ad.length ≤ i) (fun (rg, pd, ad, tk, ax, tx, i) => [(0, lv), (2, .bool false), (3, .pointer (some ⟨q1, 0, none⟩)), (4, ax), (5, tx), (23, .int .i64 (L.length : Int)), (24, .int .i64 (i : Int))]) (fun (rg, pd, ad, tk, ax, tx, i) => [own iTy tx tk, own iTy ax ad, qA q1 rg pd]) (fun (rg, pd, ad, tk, ax, tx, i) => L.length - i) ([], [], [], [], (.slice (some ⟨g5, 0, none⟩) 0 0), (.slice (some ⟨g6, 0, none⟩) 0 0), 0) ⟨Nat.zero_le _, List.Perm.refl _, Nat.le_refl _⟩ (sub_of rfl ⟨⟨rfl, rfl⟩, ⟨⟨rfl, rfl⟩, ⟨⟨rfl, rfl⟩, ⟨⟨rfl, rfl⟩, ⟨⟨rfl, rfl⟩, ⟨⟨rfl, rfl⟩, ⟨⟨rfl, rfl⟩, trivial⟩⟩⟩⟩⟩⟩⟩) (fun _ h => h.re [0, 0, 0] []) ?_
    rintro ⟨rg, pd, ad, tk, ax, tx, i⟩ hi7
    replace hi7 : i ≤ L.length ∧ ad.Perm (tk ++ (pd ++ rg)) ∧ ad.length ≤ i := hi7
    show SK _ _ _ _ _ [(0, lv), (2, .bool false), (3, .pointer (some ⟨q1, 0, none⟩)), (4, ax), (5, tx), (23, .int .i64 (L.length : Int)), (24, .int .i64 (i : Int))] _ [own iTy tx tk, own iTy ax ad, qA q1 rg pd]
    have hln := hi7.2.1.length_eq; rw [List.length_append, List.length_append] at hln; have hal := hi7.2.2
    refine k_seq ?_
    refine k_reg ?_
    refine s_lt t_cmp ?_
    refine s_nil ?_
    refine xs_then ?_
    refine k_seq ?_
    refine k_cond (decide ((i : Int) < (L.length : Int))) (fun c8 => ?_) (fun c8 => ?_)
    ·
      have p9 := of_decide_eq_true c8
      refine k_skip ?_
      refine xs_then ?_
      refine k_seq ?_
      refine k_block ?_
      refine k_seq ?_
      refine k_reg ?_
      refine s_lt (t_pure (.int .i64 (i : Int))) ?_
      refine s_lt (t_pure (.int .i64 (i : Int))) ?_
      refine s_nil ?_
      refine xs_then ?_
      refine k_seq ?_
      refine k_reg ?_
      refine s_lt (t_pure (.pointer (some ⟨q1, 0, none⟩))) ?_
      refine s_lt (t_pure lv) ?_
      refine s_lt (t_pure (.int .i64 (i : Int))) ?_
      refine s_lt (t_index ClT_ok Try.underlying32 (.zn hL) (i : Int) i (by omega) (by (try simp only [List.length_nil, List.length_cons, List.length_append, List.length_take, List.length_drop, List.length_set, List.length_replicate, List.length_reverse, bits_len]); omega) (by omega)) ?_
      obtain ⟨y10, hy11⟩ : ∃ y, L[i]? = some y := ⟨_, List.getElem?_eq_getElem (by (try simp only [List.length_nil, List.length_cons, List.length_append, List.length_take, List.length_drop, List.length_set, List.length_replicate, List.length_reverse, bits_len]); omega)⟩
      have hk12 := hC y10 (List.mem_of_getElem? hy11)
      refine s_lt (t_loadE ClT_ok (.zn hL) hy11) ?_
      refine s_call [2] (program_s (reg := rg) (pend := pd) hk12 (by first | omega | (simp only [List.length_nil]; omega) | decide) (by first | omega | (simp only [List.length_nil]; omega) | decide)) ?_
      rintro _ _ ⟨lv13, rfl, rfl⟩
      refine s_fact (fun H h => ((Acc.own (T := iTy) (L := (prL y10 rg pd)) 1 rfl) H h).form) (fun hf14 => ?_)
      refine s_alloc (.agg #[(.slice none 0 0), .int .i64 0, .bool false, .int .i64 0]) #[(.slice none 0 0), .int .i64 0, .bool false, .int .i64 0] (fun g15 => ?_)
      refine s_store (u := .agg #[lv13, .int .i64 (prN y10 pd), .bool (prB y10 rg pd), .int .i64 (prE y10 rg)]) (m := 4) 0 #[lv13, .int .i64 (prN y10 pd), .bool (prB y10 rg pd), .int .i64 (prE y10 rg)] ?_ (hm := by (obtain ⟨_, _, e0⟩ := hf14; rw [e0]; rfl)) (h1 := by (obtain ⟨_, _, e0⟩ := hf14; rw [e0]; rfl)) (ha' := by (obtain ⟨_, _, e0⟩ := hf14; rw [e0]; rfl))
      refine s_nil ?_
      refine xs_then ?_
      refine k_seq ?_
      refine k_cut (ι := Unit) (fun _ => True) (fun _ => [(0, lv), (2, .bool false), (3, .pointer (some ⟨q1, 0, none⟩)), (4, ax), (5, tx), (6, .int .i64 (i : Int)), (7, .pointer (some ⟨g15, 0, none⟩)), (23, .int .i64 (L.length : Int)), (24, .int .i64 (i : Int)), (25, .bool (decide ((i : Int) < (L.length : Int)))), (26, .int .i64 (i : Int)), (27, .pointer (some ⟨q1, 0, none⟩)), (28, lv), (29, .int .i64 (i : Int)), (30, .pointer (some (elemAt ClT.size lv i))), (31, .agg #[.int .i64 y10.kind, .int .i64 y10.id, y10.av.v]), (32, .agg #[lv13, .int .i64 (prN y10 pd), .bool (prB y10 rg pd), .int .i64 (prE y10 rg)]), (33, lv), (34, .int .i64 (i : Int)), (35, .pointer (some (elemAt ClT.size lv i))), (36, .pointer (some (elemAt ClT.size lv i))), (37, .int .i64 y10.kind), (38, .bool (decide (y10.kind = 0))), (39, .bool (decide (y10.kind = 0))), (43, .bool ((decide (y10.kind = 0)) && (decide ((prE y10 rg) = 0))))]) (fun _ => [blkA g15 #[lv13, .int .i64 (prN y10 pd), .bool (prB y10 rg pd), .int .i64 (prE y10 rg)] 37, qA q1 (prR y10 rg) (prP y10 rg pd), own iTy lv13 (prL y10 rg pd), own iTy tx tk, own iTy ax ad]) ?_ (fun _ _ => ?_)
      ·
        refine k_reg ?_
        refine s_lt (t_pure lv) ?_
        refine s_lt (t_pure (.int .i64 (i : Int))) ?_
        refine s_lt (t_index ClT_ok Try.underlying32 (.zn hL) (i : Int) i (by omega) (by (try simp only [List.length_nil, List.length_cons, List.length_append, List.length_take, List.length_drop, List.length_set, List.length_replicate, List.length_reverse, bits_len]); omega) (by omega)) ?_
        refine s_lt (t_pure (.pointer (some (elemAt ClT.size lv i)))) ?_
        refine s_lt (t_loadF 0 ClT_ok (.zn hL) hy11) ?_
        refine s_lt t_cmp ?_
        refine s_lt (t_pure (.bool (decide (y10.kind = 0)))) ?_
        refine s_fork 39 (decide (y10.kind = 0)) (fun c16 => ?_) (fun c16 => ?_)
        ·
          have p17 := of_decide_eq_true c16
          refine s_lt (t_pure (.pointer (some ⟨g15, 3, none⟩))) ?_
          refine s_lt (t_load 0 (.int .i64 (prE y10 rg))) ?_
          refine s_lt t_cmp ?_
          refine s_lt (t_pure (.bool (decide ((prE y10 rg) = 0)))) ?_
          refine s_nil ?_
          exact xs_cut () trivial (sub_of rfl ⟨⟨rfl, rfl⟩, ⟨⟨rfl, rfl⟩, ⟨⟨rfl, rfl⟩, ⟨⟨rfl, rfl⟩, ⟨⟨rfl, rfl⟩, ⟨⟨rfl, rfl⟩, ⟨⟨rfl, rfl⟩, ⟨⟨rfl, rfl⟩, ⟨⟨rfl, rfl⟩, ⟨⟨rfl, rfl⟩, ⟨⟨rfl, rfl⟩, ⟨⟨rfl, rfl⟩, ⟨⟨rfl, rfl⟩, ⟨⟨rfl, rfl⟩, ⟨⟨rfl, rfl⟩, ⟨⟨rfl, rfl⟩, ⟨⟨rfl, rfl⟩, ⟨⟨rfl, rfl⟩, ⟨⟨rfl, rfl⟩, ⟨⟨rfl, rfl⟩, ⟨⟨rfl, rfl⟩, ⟨⟨rfl, rfl⟩, ⟨⟨rfl, rfl⟩, ⟨⟨rfl, show Value.bool true = Value.bool (decide (y10.kind = 0)) by first | (simp only [c16, Bool.true_and, Bool.false_and, Bool.and_true, Bool.and_false, Bool.true_or, Bool.or_true, Bool.false_or, Bool.or_false, Bool.not_true, Bool.not_false]; done) | simp [c16]⟩, ⟨⟨rfl, show Value.bool (decide ((prE y10 rg) = 0)) = Value.bool ((decide (y10.kind = 0)) && (decide ((prE y10 rg) = 0))) by first | (simp only [c16, Bool.true_and, Bool.false_and, Bool.and_true, Bool.and_false, Bool.true_or, Bool.or_true, Bool.false_or, Bool.or_false, Bool.not_true, Bool.not_false]; done) | simp [c16]⟩, trivial⟩⟩⟩⟩⟩⟩⟩⟩⟩⟩⟩⟩⟩⟩⟩⟩⟩⟩⟩⟩⟩⟩⟩⟩⟩) (fun _ h => h.re [0, 0, 0, 0, 0] [])
        ·
          have p18 := of_decide_eq_false c16
          refine s_skip ?_
          refine s_skip ?_
          refine s_skip ?_
          refine s_lt (t_pure (.bool false)) ?_
          refine s_nil ?_
          exact xs_cut () trivial (sub_of rfl ⟨⟨rfl, rfl⟩, ⟨⟨rfl, rfl⟩, ⟨⟨rfl, rfl⟩, ⟨⟨rfl, rfl⟩, ⟨⟨rfl, rfl⟩, ⟨⟨rfl, rfl⟩, ⟨⟨rfl, rfl⟩, ⟨⟨rfl, rfl⟩, ⟨⟨rfl, rfl⟩, ⟨⟨rfl, rfl⟩, ⟨⟨rfl, rfl⟩, ⟨⟨rfl, rfl⟩, ⟨⟨rfl, rfl⟩, ⟨⟨rfl, rfl⟩, ⟨⟨rfl, rfl⟩, ⟨⟨rfl, rfl⟩, ⟨⟨rfl, rfl⟩, ⟨⟨rfl, rfl⟩, ⟨⟨rfl, rfl⟩, ⟨⟨rfl, rfl⟩, ⟨⟨rfl, rfl⟩, ⟨⟨rfl, rfl⟩, ⟨⟨rfl, rfl⟩, ⟨⟨rfl, show Value.bool false = Value.bool (decide (y10.kind = 0)) by first | (simp only [c16, Bool.true_and, Bool.false_and, Bool.and_true, Bool.and_false, Bool.true_or, Bool.or_true, Bool.false_or, Bool.or_false, Bool.not_true, Bool.not_false]; done) | simp [c16]⟩, ⟨⟨rfl, show Value.bool false = Value.bool ((decide (y10.kind = 0)) && (decide ((prE y10 rg) = 0))) by first | (simp only [c16, Bool.true_and, Bool.false_and, Bool.and_true, Bool.and_false, Bool.true_or, Bool.or_true, Bool.false_or, Bool.or_false, Bool.not_true, Bool.not_false]; done) | simp [c16]⟩, trivial⟩⟩⟩⟩⟩⟩⟩⟩⟩⟩⟩⟩⟩⟩⟩⟩⟩⟩⟩⟩⟩⟩⟩⟩⟩) (fun _ h => h.re [0, 0, 0, 0, 0] [])
      ·
        refine k_cond ((decide (y10.kind = 0)) && (decide ((prE y10 rg) = 0))) (fun c19 => ?_) (fun c19 => ?_)
        ·
          obtain ⟨c20, c21⟩ := and_t c19
          have p22 := of_decide_eq_true c20
          have p23 := of_decide_eq_true c21
          refine k_reg ?_
          refine s_lt (t_pure ax) ?_
          refine s_lt (t_pure lv) ?_
          refine s_lt (t_pure (.int .i64 (i : Int))) ?_
          refine s_lt (t_index ClT_ok Try.underlying32 (.zn hL) (i : Int) i (by omega) (by (try simp only [List.length_nil, List.length_cons, List.length_append, List.length_take, List.length_drop, List.length_set, List.length_replicate, List.length_reverse, bits_len]); omega) (by omega)) ?_
          refine s_lt (t_pure (.pointer (some ((elemAt ClT.size lv i).add 1)))) ?_
          refine s_lt (t_loadF 1 ClT_ok (.zn hL) hy11) ?_
          refine s_buildSlice (e := 3) [(0, .int .i64 y10.id)] #[.int .i64 y10.id] (fun g24 => ?_) (hb := by kernel_rfl)
          refine s_append (L := ad) 5 iTy_ok Try.underlying22 (.lit 0 iTy_ok [y10.id]) (by show _ * 8 ≤ _; (try simp only [List.length_nil, List.length_cons, List.length_append, List.length_take, List.length_drop, List.length_set, List.length_replicate, List.length_reverse, bits_len]); omega) (by (try simp only [List.length_nil, List.length_cons, List.length_append, List.length_take, List.length_drop, List.length_set, List.length_replicate, List.length_reverse, bits_len]); omega) (fun v25 => ?_)
          refine s_fact (fun H h => ((Acc.own (T := iTy) (L := (ad ++ [y10.id])) 5 rfl) H h).form) (fun hf26 => ?_)
          refine s_lt (t_pure v25) ?_
          refine s_nil ?_
          refine xs_then ?_
          refine k_cut (ι := Unit) (fun _ => True) (fun _ => [(0, lv), (2, .bool false), (3, .pointer (some ⟨q1, 0, none⟩)), (4, v25), (5, tx), (6, .int .i64 (i : Int)), (7, .pointer (some ⟨g15, 0, none⟩)), (23, .int .i64 (L.length : Int)), (24, .int .i64 (i : Int)), (25, .bool (decide ((i : Int) < (L.length : Int)))), (26, .int .i64 (i : Int)), (27, .pointer (some ⟨q1, 0, none⟩)), (28, lv), (29, .int .i64 (i : Int)), (30, .pointer (some (elemAt ClT.size lv i))), (31, .agg #[.int .i64 y10.kind, .int .i64 y10.id, y10.av.v]), (32, .agg #[lv13, .int .i64 (prN y10 pd), .bool (prB y10 rg pd), .int .i64 (prE y10 rg)]), (33, lv), (34, .int .i64 (i : Int)), (35, .pointer (some (elemAt ClT.size lv i))), (36, .pointer (some (elemAt ClT.size lv i))), (37, .int .i64 y10.kind), (38, .bool (decide (y10.kind = 0))), (39, .bool (decide (y10.kind = 0))), (43, .bool ((decide (y10.kind = 0)) && (decide ((prE y10 rg) = 0)))), (44, ax), (45, lv), (46, .int .i64 (i : Int)), (47, .pointer (some (elemAt ClT.size lv i))), (48, .pointer (some ((elemAt ClT.size lv i).add 1))), (49, .int .i64 y10.id), (50, (.slice (some ⟨g24, 0, none⟩) 1 1)), (51, v25), (52, lv), (53, .int .i64 (i : Int)), (54, .pointer (some (elemAt ClT.size lv i))), (55, .pointer (some (elemAt ClT.size lv i))), (56, .int .i64 y10.kind), (57, .bool (decide (y10.kind = 3))), (58, .bool (decide (y10.kind = 3))), (61, .bool ((decide (y10.kind = 3)) && (prB y10 rg pd)))]) (fun _ => [blkA g24 #[.int .i64 y10.id] 3, blkA g15 #[lv13, .int .i64 (prN y10 pd), .bool (prB y10 rg pd), .int .i64 (prE y10 rg)] 37, qA q1 (prR y10 rg) (prP y10 rg pd), own iTy lv13 (prL y10 rg pd), own iTy tx tk, own iTy v25 (ad ++ [y10.id])]) ?_ (fun _ _ => ?_)
          ·
            refine k_reg ?_
            refine s_lt (t_pure lv) ?_
            refine s_lt (t_pure (.int .i64 (i : Int))) ?_
            refine s_lt (t_index ClT_ok Try.underlying32 (.zn hL) (i : Int) i (by omega) (by (try simp only [List.length_nil, List.length_cons, List.length_append, List.length_take, List.length_drop, List.length_set, List.length_replicate, List.length_reverse, bits_len]); omega) (by omega)) ?_
            refine s_lt (t_pure (.pointer (some (elemAt ClT.size lv i)))) ?_
            refine s_lt (t_loadF 0 ClT_ok (.zn hL) hy11) ?_
            refine s_lt t_cmp ?_
            refine s_lt (t_pure (.bool (decide (y10.kind = 3)))) ?_
            refine s_fork 58 (decide (y10.kind = 3)) (fun c27 => ?_) (fun c27 => ?_)
            ·
              have p28 := of_decide_eq_true c27
              refine s_lt (t_pure (.pointer (some ⟨g15, 2, none⟩))) ?_
              refine s_lt (t_load 1 (.bool (prB y10 rg pd))) ?_
              refine s_lt (t_pure (.bool (prB y10 rg pd))) ?_
              refine s_nil ?_
              exact xs_cut () trivial (sub_of rfl ⟨⟨rfl, rfl⟩, ⟨⟨rfl, rfl⟩, ⟨⟨rfl, rfl⟩, ⟨⟨rfl, rfl⟩, ⟨⟨rfl, rfl⟩, ⟨⟨rfl, rfl⟩, ⟨⟨rfl, rfl⟩, ⟨⟨rfl, rfl⟩, ⟨⟨rfl, rfl⟩, ⟨⟨rfl, rfl⟩, ⟨⟨rfl, rfl⟩, ⟨⟨rfl, rfl⟩, ⟨⟨rfl, rfl⟩, ⟨⟨rfl, rfl⟩, ⟨⟨rfl, rfl⟩, ⟨⟨rfl, rfl⟩, ⟨⟨rfl, rfl⟩, ⟨⟨rfl, rfl⟩, ⟨⟨rfl, rfl⟩, ⟨⟨rfl, rfl⟩, ⟨⟨rfl, rfl⟩, ⟨⟨rfl, rfl⟩, ⟨⟨rfl, rfl⟩, ⟨⟨rfl, rfl⟩, ⟨⟨rfl, rfl⟩, ⟨⟨rfl, rfl⟩, ⟨⟨rfl, rfl⟩, ⟨⟨rfl, rfl⟩, ⟨⟨rfl, rfl⟩, ⟨⟨rfl, rfl⟩, ⟨⟨rfl, rfl⟩, ⟨⟨rfl, rfl⟩, ⟨⟨rfl, rfl⟩, ⟨⟨rfl, rfl⟩, ⟨⟨rfl, rfl⟩, ⟨⟨rfl, rfl⟩, ⟨⟨rfl, rfl⟩, ⟨⟨rfl, rfl⟩, ⟨⟨rfl, rfl⟩, ⟨⟨rfl, show Value.bool true = Value.bool (decide (y10.kind = 3)) by first | (simp only [c27, Bool.true_and, Bool.false_and, Bool.and_true, Bool.and_false, Bool.true_or, Bool.or_true, Bool.false_or, Bool.or_false, Bool.not_true, Bool.not_false]; done) | simp [c27]⟩, ⟨⟨rfl, show Value.bool (prB y10 rg pd) = Value.bool ((decide (y10.kind = 3)) && (prB y10 rg pd)) by first | (simp only [c27, Bool.true_and, Bool.false_and, Bool.and_true, Bool.and_false, Bool.true_or, Bool.or_true, Bool.false_or, Bool.or_false, Bool.not_true, Bool.not_false]; done) | simp [c27]⟩, trivial⟩⟩⟩⟩⟩⟩⟩⟩⟩⟩⟩⟩⟩⟩⟩⟩⟩⟩⟩⟩⟩⟩⟩⟩⟩⟩⟩⟩⟩⟩⟩⟩⟩⟩⟩⟩⟩⟩⟩⟩⟩) (fun _ h => h.re [0, 0, 0, 0, 0, 0] [])
            ·
              have p29 := of_decide_eq_false c27
              refine s_skip ?_
              refine s_skip ?_
              refine s_lt (t_pure (.bool false)) ?_
              refine s_nil ?_
              exact xs_cut () trivial (sub_of rfl ⟨⟨rfl, rfl⟩, ⟨⟨rfl, rfl⟩, ⟨⟨rfl, rfl⟩, ⟨⟨rfl, rfl⟩, ⟨⟨rfl, rfl⟩, ⟨⟨rfl, rfl⟩, ⟨⟨rfl, rfl⟩, ⟨⟨rfl, rfl⟩, ⟨⟨rfl, rfl⟩, ⟨⟨rfl, rfl⟩, ⟨⟨rfl, rfl⟩, ⟨⟨rfl, rfl⟩, ⟨⟨rfl, rfl⟩, ⟨⟨rfl, rfl⟩, ⟨⟨rfl, rfl⟩, ⟨⟨rfl, rfl⟩, ⟨⟨rfl, rfl⟩, ⟨⟨rfl, rfl⟩, ⟨⟨rfl, rfl⟩, ⟨⟨rfl, rfl⟩, ⟨⟨rfl, rfl⟩, ⟨⟨rfl, rfl⟩, ⟨⟨rfl, rfl⟩, ⟨⟨rfl, rfl⟩, ⟨⟨rfl, rfl⟩, ⟨⟨rfl, rfl⟩, ⟨⟨rfl, rfl⟩, ⟨⟨rfl, rfl⟩, ⟨⟨rfl, rfl⟩, ⟨⟨rfl, rfl⟩, ⟨⟨rfl, rfl⟩, ⟨⟨rfl, rfl⟩, ⟨⟨rfl, rfl⟩, ⟨⟨rfl, rfl⟩, ⟨⟨rfl, rfl⟩, ⟨⟨rfl, rfl⟩, ⟨⟨rfl, rfl⟩, ⟨⟨rfl, rfl⟩, ⟨⟨rfl, rfl⟩, ⟨⟨rfl, show Value.bool false = Value.bool (decide (y10.kind = 3)) by first | (simp only [c27, Bool.true_and, Bool.false_and, Bool.and_true, Bool.and_false, Bool.true_or, Bool.or_true, Bool.false_or, Bool.or_false, Bool.not_true, Bool.not_false]; done) | simp [c27]⟩, ⟨⟨rfl, show Value.bool false = Value.bool ((decide (y10.kind = 3)) && (prB y10 rg pd)) by first | (simp only [c27, Bool.true_and, Bool.false_and, Bool.and_true, Bool.and_false, Bool.true_or, Bool.or_true, Bool.false_or, Bool.or_false, Bool.not_true, Bool.not_false]; done) | simp [c27]⟩, trivial⟩⟩⟩⟩⟩⟩⟩⟩⟩⟩⟩⟩⟩⟩⟩⟩⟩⟩⟩⟩⟩⟩⟩⟩⟩⟩⟩⟩⟩⟩⟩⟩⟩⟩⟩⟩⟩⟩⟩⟩⟩) (fun _ h => h.re [0, 0, 0, 0, 0, 0] [])
          ·
            refine k_cond ((decide (y10.kind = 3)) && (prB y10 rg pd)) (fun c30 => ?_) (fun c30 => ?_)
            ·
              obtain ⟨c31, c32⟩ := and_t c30
              have p33 := of_decide_eq_true c31
              refine k_reg ?_
              refine s_lt (t_pure tx) ?_
              refine s_lt (t_pure (.pointer (some ⟨g15, 1, none⟩))) ?_
              refine s_lt (t_load 1 (.int .i64 (prN y10 pd))) ?_
              refine s_buildSlice (e := 3) [(0, .int .i64 (prN y10 pd))] #[.int .i64 (prN y10 pd)] (fun g34 => ?_) (hb := by kernel_rfl)
              refine s_append (L := tk) 5 iTy_ok Try.underlying22 (.lit 0 iTy_ok [(prN y10 pd)]) (by show _ * 8 ≤ _; (try simp only [List.length_nil, List.length_cons, List.length_append, List.length_take, List.length_drop, List.length_set, List.length_replicate, List.length_reverse, bits_len]); omega) (by (try simp only [List.length_nil, List.length_cons, List.length_append, List.length_take, List.length_drop, List.length_set, List.length_replicate, List.length_reverse, bits_len]); omega) (fun v35 => ?_)
              refine s_fact (fun H h => ((Acc.own (T := iTy) (L := (tk ++ [(prN y10 pd)])) 5 rfl) H h).form) (fun hf36 => ?_)
              refine s_lt (t_pure v35) ?_
              refine s_nil ?_
              refine xs_block ?_
              refine xs_then ?_
              refine k_reg ?_
              refine s_lt (t_add (i : Int) 1 (by (try simp only [List.length_nil, List.length_cons, List.length_append, List.length_take, List.length_drop, List.length_set, List.length_replicate, List.length_reverse, bits_len]); omega)) ?_
              refine s_lt (t_pure (.int .i64 ((i : Int) + 1))) ?_
              refine s_nil ?_
              exact xs_round (prR y10 rg, prP y10 rg pd, ad ++ [y10.id], tk ++ [prN y10 pd], v25, v35, i + 1) (by show L.length - (i + 1) < L.length - i; omega) (by obtain ⟨hi1, hi2, hi3⟩ := hi7; exact ⟨by omega, once_step y10 hi2 c19 c30, by rw [List.length_append]; simp only [List.length_singleton]; omega⟩) (sub_of rfl ⟨⟨rfl, rfl⟩, ⟨⟨rfl, rfl⟩, ⟨⟨rfl, rfl⟩, ⟨⟨rfl, rfl⟩, ⟨⟨rfl, rfl⟩, ⟨⟨rfl, rfl⟩, ⟨⟨rfl, rfl⟩, trivial⟩⟩⟩⟩⟩⟩⟩) (fun _ h => h.re [5, 5, 3] [3, 3, 3, 3])
            ·
              have p37 := c30
              simp only [Bool.and_eq_true, Bool.or_eq_true, Bool.and_eq_false_iff, Bool.or_eq_false_iff, Bool.not_eq_true', Bool.not_eq_false', decide_eq_true_eq, decide_eq_false_iff_not] at p37
              refine k_skip ?_
              refine xs_block ?_
              refine xs_then ?_
              refine k_reg ?_
              refine s_lt (t_add (i : Int) 1 (by (try simp only [List.length_nil, List.length_cons, List.length_append, List.length_take, List.length_drop, List.length_set, List.length_replicate, List.length_reverse, bits_len]); omega)) ?_
              refine s_lt (t_pure (.int .i64 ((i : Int) + 1))) ?_
              refine s_nil ?_
              exact xs_round (prR y10 rg, prP y10 rg pd, ad ++ [y10.id], tk, v25, tx, i + 1) (by show L.length - (i + 1) < L.length - i; omega) (by obtain ⟨hi1, hi2, hi3⟩ := hi7; exact ⟨by omega, once_step y10 hi2 c19 c30, by rw [List.length_append]; simp only [List.length_singleton]; omega⟩) (sub_of rfl ⟨⟨rfl, rfl⟩, ⟨⟨rfl, rfl⟩, ⟨⟨rfl, rfl⟩, ⟨⟨rfl, rfl⟩, ⟨⟨rfl, rfl⟩, ⟨⟨rfl, rfl⟩, ⟨⟨rfl, rfl⟩, trivial⟩⟩⟩⟩⟩⟩⟩) (fun _ h => h.re [4, 4, 2] [3, 3, 3])
        ·
          have p38 := c19
          simp only [Bool.and_eq_true, Bool.or_eq_true, Bool.and_eq_false_iff, Bool.or_eq_false_iff, Bool.not_eq_true', Bool.not_eq_false', decide_eq_true_eq, decide_eq_false_iff_not] at p38
          refine k_skip ?_
          refine xs_then ?_
          refine k_cut (ι := Unit) (fun _ => True) (fun _ => [(0, lv), (2, .bool false), (3, .pointer (some ⟨q1, 0, none⟩)), (4, ax), (5, tx), (6, .int .i64 (i : Int)), (7, .pointer (some ⟨g15, 0, none⟩)), (23, .int .i64 (L.length : Int)), (24, .int .i64 (i : Int)), (25, .bool (decide ((i : Int) < (L.length : Int)))), (26, .int .i64 (i : Int)), (27, .pointer (some ⟨q1, 0, none⟩)), (28, lv), (29, .int .i64 (i : Int)), (30, .pointer (some (elemAt ClT.size lv i))), (31, .agg #[.int .i64 y10.kind, .int .i64 y10.id, y10.av.v]), (32, .agg #[lv13, .int .i64 (prN y10 pd), .bool (prB y10 rg pd), .int .i64 (prE y10 rg)]), (33, lv), (34, .int .i64 (i : Int)), (35, .pointer (some (elemAt ClT.size lv i))), (36, .pointer (some (elemAt ClT.size lv i))), (37, .int .i64 y10.kind), (38, .bool (decide (y10.kind = 0))), (39, .bool (decide (y10.kind = 0))), (43, .bool ((decide (y10.kind = 0)) && (decide ((prE y10 rg) = 0)))), (52, lv), (53, .int .i64 (i : Int)), (54, .pointer (some (elemAt ClT.size lv i))), (55, .pointer (some (elemAt ClT.size lv i))), (56, .int .i64 y10.kind), (57, .bool (decide (y10.kind = 3))), (58, .bool (decide (y10.kind = 3))), (61, .bool ((decide (y10.kind = 3)) && (prB y10 rg pd)))]) (fun _ => [blkA g15 #[lv13, .int .i64 (prN y10 pd), .bool (prB y10 rg pd), .int .i64 (prE y10 rg)] 37, qA q1 (prR y10 rg) (prP y10 rg pd), own iTy lv13 (prL y10 rg pd), own iTy tx tk, own iTy ax ad]) ?_ (fun _ _ => ?_)
          ·
            refine k_reg ?_
            refine s_lt (t_pure lv) ?_
            refine s_lt (t_pure (.int .i64 (i : Int))) ?_
            refine s_lt (t_index ClT_ok Try.underlying32 (.zn hL) (i : Int) i (by omega) (by (try simp only [List.length_nil, List.length_cons, List.length_append, List.length_take, List.length_drop, List.length_set, List.length_replicate, List.length_reverse, bits_len]); omega) (by omega)) ?_
            refine s_lt (t_pure (.pointer (some (elemAt ClT.size lv i)))) ?_
            refine s_lt (t_loadF 0 ClT_ok (.zn hL) hy11) ?_
            refine s_lt t_cmp ?_
            refine s_lt (t_pure (.bool (decide (y10.kind = 3)))) ?_
            refine s_fork 58 (decide (y10.kind = 3)) (fun c39 => ?_) (fun c39 => ?_)
            ·
              have p40 := of_decide_eq_true c39
              refine s_lt (t_pure (.pointer (some ⟨g15, 2, none⟩))) ?_
              refine s_lt (t_load 0 (.bool (prB y10 rg pd))) ?_
              refine s_lt (t_pure (.bool (prB y10 rg pd))) ?_
              refine s_nil ?_
              exact xs_cut () trivial (sub_of rfl ⟨⟨rfl, rfl⟩, ⟨⟨rfl, rfl⟩, ⟨⟨rfl, rfl⟩, ⟨⟨rfl, rfl⟩, ⟨⟨rfl, rfl⟩, ⟨⟨rfl, rfl⟩, ⟨⟨rfl, rfl⟩, ⟨⟨rfl, rfl⟩, ⟨⟨rfl, rfl⟩, ⟨⟨rfl, rfl⟩, ⟨⟨rfl, rfl⟩, ⟨⟨rfl, rfl⟩, ⟨⟨rfl, rfl⟩, ⟨⟨rfl, rfl⟩, ⟨⟨rfl, rfl⟩, ⟨⟨rfl, rfl⟩, ⟨⟨rfl, rfl⟩, ⟨⟨rfl, rfl⟩, ⟨⟨rfl, rfl⟩, ⟨⟨rfl, rfl⟩, ⟨⟨rfl, rfl⟩, ⟨⟨rfl, rfl⟩, ⟨⟨rfl, rfl⟩, ⟨⟨rfl, rfl⟩, ⟨⟨rfl, rfl⟩, ⟨⟨rfl, rfl⟩, ⟨⟨rfl, rfl⟩, ⟨⟨rfl, rfl⟩, ⟨⟨rfl, rfl⟩, ⟨⟨rfl, rfl⟩, ⟨⟨rfl, rfl⟩, ⟨⟨rfl, show Value.bool true = Value.bool (decide (y10.kind = 3)) by first | (simp only [c39, Bool.true_and, Bool.false_and, Bool.and_true, Bool.and_false, Bool.true_or, Bool.or_true, Bool.false_or, Bool.or_false, Bool.not_true, Bool.not_false]; done) | simp [c39]⟩, ⟨⟨rfl, show Value.bool (prB y10 rg pd) = Value.bool ((decide (y10.kind = 3)) && (prB y10 rg pd)) by first | (simp only [c39, Bool.true_and, Bool.false_and, Bool.and_true, Bool.and_false, Bool.true_or, Bool.or_true, Bool.false_or, Bool.or_false, Bool.not_true, Bool.not_false]; done) | simp [c39]⟩, trivial⟩⟩⟩⟩⟩⟩⟩⟩⟩⟩⟩⟩⟩⟩⟩⟩⟩⟩⟩⟩⟩⟩⟩⟩⟩⟩⟩⟩⟩⟩⟩⟩⟩) (fun _ h => h.re [0, 0, 0, 0, 0] [])
            ·
              have p41 := of_decide_eq_false c39
              refine s_skip ?_
              refine s_skip ?_
              refine s_lt (t_pure (.bool false)) ?_
              refine s_nil ?_
              exact xs_cut () trivial (sub_of rfl ⟨⟨rfl, rfl⟩, ⟨⟨rfl, rfl⟩, ⟨⟨rfl, rfl⟩, ⟨⟨rfl, rfl⟩, ⟨⟨rfl, rfl⟩, ⟨⟨rfl, rfl⟩, ⟨⟨rfl, rfl⟩, ⟨⟨rfl, rfl⟩, ⟨⟨rfl, rfl⟩, ⟨⟨rfl, rfl⟩, ⟨⟨rfl, rfl⟩, ⟨⟨rfl, rfl⟩, ⟨⟨rfl, rfl⟩, ⟨⟨rfl, rfl⟩, ⟨⟨rfl, rfl⟩, ⟨⟨rfl, rfl⟩, ⟨⟨rfl, rfl⟩, ⟨⟨rfl, rfl⟩, ⟨⟨rfl, rfl⟩, ⟨⟨rfl, rfl⟩, ⟨⟨rfl, rfl⟩, ⟨⟨rfl, rfl⟩, ⟨⟨rfl, rfl⟩, ⟨⟨rfl, rfl⟩, ⟨⟨rfl, rfl⟩, ⟨⟨rfl, rfl⟩, ⟨⟨rfl, rfl⟩, ⟨⟨rfl, rfl⟩, ⟨⟨rfl, rfl⟩, ⟨⟨rfl, rfl⟩, ⟨⟨rfl, rfl⟩, ⟨⟨rfl, show Value.bool false = Value.bool (decide (y10.kind = 3)) by first | (simp only [c39, Bool.true_and, Bool.false_and, Bool.and_true, Bool.and_false, Bool.true_or, Bool.or_true, Bool.false_or, Bool.or_false, Bool.not_true, Bool.not_false]; done) | simp [c39]⟩, ⟨⟨rfl, show Value.bool false = Value.bool ((decide (y10.kind = 3)) && (prB y10 rg pd)) by first | (simp only [c39, Bool.true_and, Bool.false_and, Bool.and_true, Bool.and_false, Bool.true_or, Bool.or_true, Bool.false_or, Bool.or_false, Bool.not_true, Bool.not_false]; done) | simp [c39]⟩, trivial⟩⟩⟩⟩⟩⟩⟩⟩⟩⟩⟩⟩⟩⟩⟩⟩⟩⟩⟩⟩⟩⟩⟩⟩⟩⟩⟩⟩⟩⟩⟩⟩⟩) (fun _ h => h.re [0, 0, 0, 0, 0] [])
          ·
            refine k_cond ((decide (y10.kind = 3)) && (prB y10 rg pd)) (fun c42 => ?_) (fun c42 => ?_)
            ·
              obtain ⟨c43, c44⟩ := and_t c42
              have p45 := of_decide_eq_true c43
              refine k_reg ?_
              refine s_lt (t_pure tx) ?_
              refine s_lt (t_pure (.pointer (some ⟨g15, 1, none⟩))) ?_
              refine s_lt (t_load 0 (.int .i64 (prN y10 pd))) ?_
              refine s_buildSlice (e := 3) [(0, .int .i64 (prN y10 pd))] #[.int .i64 (prN y10 pd)] (fun g46 => ?_) (hb := by kernel_rfl)
              refine s_append (L := tk) 4 iTy_ok Try.underlying22 (.lit 0 iTy_ok [(prN y10 pd)]) (by show _ * 8 ≤ _; (try simp only [List.length_nil, List.length_cons, List.length_append, List.length_take, List.length_drop, List.length_set, List.length_replicate, List.length_reverse, bits_len]); omega) (by (try simp only [List.length_nil, List.length_cons, List.length_append, List.length_take, List.length_drop, List.length_set, List.length_replicate, List.length_reverse, bits_len]); omega) (fun v47 => ?_)
              refine s_fact (fun H h => ((Acc.own (T := iTy) (L := (tk ++ [(prN y10 pd)])) 4 rfl) H h).form) (fun hf48 => ?_)
              refine s_lt (t_pure v47) ?_
              refine s_nil ?_
              refine xs_block ?_
              refine xs_then ?_
              refine k_reg ?_
              refine s_lt (t_add (i : Int) 1 (by (try simp only [List.length_nil, List.length_cons, List.length_append, List.length_take, List.length_drop, List.length_set, List.length_replicate, List.length_reverse, bits_len]); omega)) ?_
              refine s_lt (t_pure (.int .i64 ((i : Int) + 1))) ?_
              refine s_nil ?_
              exact xs_round (prR y10 rg, prP y10 rg pd, ad, tk ++ [prN y10 pd], ax, v47, i + 1) (by show L.length - (i + 1) < L.length - i; omega) (by obtain ⟨hi1, hi2, hi3⟩ := hi7; exact ⟨by omega, once_step y10 hi2 c19 c42, by omega⟩) (sub_of rfl ⟨⟨rfl, rfl⟩, ⟨⟨rfl, rfl⟩, ⟨⟨rfl, rfl⟩, ⟨⟨rfl, rfl⟩, ⟨⟨rfl, rfl⟩, ⟨⟨rfl, rfl⟩, ⟨⟨rfl, rfl⟩, trivial⟩⟩⟩⟩⟩⟩⟩) (fun _ h => h.re [4, 4, 2] [3, 3, 3])
            ·
              have p49 := c42
              simp only [Bool.and_eq_true, Bool.or_eq_true, Bool.and_eq_false_iff, Bool.or_eq_false_iff, Bool.not_eq_true', Bool.not_eq_false', decide_eq_true_eq, decide_eq_false_iff_not] at p49
              refine k_skip ?_
              refine xs_block ?_
              refine xs_then ?_
              refine k_reg ?_
              refine s_lt (t_add (i : Int) 1 (by (try simp only [List.length_nil, List.length_cons, List.length_append, List.length_take, List.length_drop, List.length_set, List.length_replicate, List.length_reverse, bits_len]); omega)) ?_
              refine s_lt (t_pure (.int .i64 ((i : Int) + 1))) ?_
              refine s_nil ?_
              exact xs_round (prR y10 rg, prP y10 rg pd, ad, tk, ax, tx, i + 1) (by show L.length - (i + 1) < L.length - i; omega) (by obtain ⟨hi1, hi2, hi3⟩ := hi7; exact ⟨by omega, once_step y10 hi2 c19 c42, by omega⟩) (sub_of rfl ⟨⟨rfl, rfl⟩, ⟨⟨rfl, rfl⟩, ⟨⟨rfl, rfl⟩, ⟨⟨rfl, rfl⟩, ⟨⟨rfl, rfl⟩, ⟨⟨rfl, rfl⟩, ⟨⟨rfl, rfl⟩, trivial⟩⟩⟩⟩⟩⟩⟩) (fun _ h => h.re [3, 3, 1] [3, 3])
    ·
      have p50 := of_decide_eq_false c8
      refine k_exit ?_
      refine xs_exit ?_
      refine xs_exit ?_
      refine xs_here ?_
      refine xs_then ?_
      refine k_seq ?_
      refine k_reg ?_
      refine s_lt (t_pure (.pointer (some ⟨q1, 0, none⟩))) ?_
      refine s_call [2] (end_s (reg := rg) (pend := pd) (by first | omega | (simp only [List.length_nil]; omega) | decide) (by first | omega | (simp only [List.length_nil]; omega) | decide)) ?_
      rintro v51 _ rfl
      refine s_fact (fun H h => ((Acc.own (T := iTy) (L := (sepL [] rg)) 1 rfl) H h).form) (fun hf52 => ?_)
      rw [stay_nil]
      obtain ⟨P, hP⟩ : ∃ P, P = pd ++ sepL [] rg := ⟨_, rfl⟩; rw [← hP]
      have hpm : ad.Perm (tk ++ P) := by rw [hP]; have h := once_step (⟨6, 0, ⟨none, 0, 0⟩, []⟩ : Cl) hi7.2.1 rfl rfl; simpa [prP, prR, prB, stay_nil] using h
      have hpl := hpm.length_eq; rw [List.length_append] at hpl
      refine s_nil ?_
      refine xs_then ?_
      refine k_seq ?_
      refine k_reg ?_
      refine s_lt (t_pure (.pointer (some ⟨q1, 0, none⟩))) ?_
      refine s_call [0] (next_s (pend := P) (by first | omega | (simp only [List.length_nil]; omega) | decide)) ?_
      rintro _ _ ⟨rfl, rfl⟩
      refine s_lt (t_pure (.tuple #[.int .i64 (nextI P), .bool (nextB P)])) ?_
      refine s_lt (t_pure (.int .i64 (nextI P))) ?_
      refine s_lt (t_pure (.bool (nextB P))) ?_
      refine s_lt (t_pure (.int .i64 (nextI P))) ?_
      refine s_lt (t_pure (.bool (nextB P))) ?_
      refine s_nil ?_
      refine xs_then ?_
      refine k_seq ?_
      refine k_seq ?_
      refine k_reg ?_
      refine s_lt (t_pure (.int .i64 0)) ?_
      refine s_nil ?_
      refine xs_then ?_
      refine k_block ?_
      refine k_loop (ι := List Int × List Int × Value × Nat) (fun (tk2, pl, ty, n) => ad.Perm (tk2 ++ pl) ∧ n + pl.length ≤ 100) (fun (tk2, pl, ty, n) => [(2, .bool false), (3, .pointer (some ⟨q1, 0, none⟩)), (4, ax), (5, ty), (8, .int .i64 (nextI pl)), (9, .bool (nextB pl)), (10, .int .i64 (n : Int))]) (fun (tk2, pl, ty, n) => [qA q1 [] pl.tail, own iTy v51 (sepL [] rg), own iTy ty tk2, own iTy ax ad]) (fun (tk2, pl, ty, n) => pl.length) (tk, P, tx, 0) ⟨hpm, by show 0 + P.length ≤ 100; omega⟩ (sub_of rfl ⟨⟨rfl, rfl⟩, ⟨⟨rfl, rfl⟩, ⟨⟨rfl, rfl⟩, ⟨⟨rfl, rfl⟩, ⟨⟨rfl, rfl⟩, ⟨⟨rfl, rfl⟩, ⟨⟨rfl, rfl⟩, trivial⟩⟩⟩⟩⟩⟩⟩) (fun _ h => h.re [0, 0, 0, 0] []) ?_
      rintro ⟨tk2, pl, ty, n⟩ hi53
      replace hi53 : ad.Perm (tk2 ++ pl) ∧ n + pl.length ≤ 100 := hi53
      show SK _ _ _ _ _ [(2, .bool false), (3, .pointer (some ⟨q1, 0, none⟩)), (4, ax), (5, ty), (8, .int .i64 (nextI pl)), (9, .bool (nextB pl)), (10, .int .i64 (n : Int))] _ [qA q1 [] pl.tail, own iTy v51 (sepL [] rg), own iTy ty tk2, own iTy ax ad]
      have hl2 := hi53.1.length_eq; rw [List.length_append] at hl2; have hl3 := hi53.2; have htl : pl.tail.length ≤ pl.length := by rw [List.length_tail]; omega
      refine k_seq ?_
      refine k_cut (ι := Unit) (fun _ => True) (fun _ => [(2, .bool false), (3, .pointer (some ⟨q1, 0, none⟩)), (4, ax), (5, ty), (8, .int .i64 (nextI pl)), (9, .bool (nextB pl)), (10, .int .i64 (n : Int)), (75, .bool (nextB pl)), (76, .bool (nextB pl)), (79, .bool ((nextB pl) && (decide ((n : Int) < 200))))]) (fun _ => [qA q1 [] pl.tail, own iTy v51 (sepL [] rg), own iTy ty tk2, own iTy ax ad]) ?_ (fun _ _ => ?_)
      ·
        refine k_reg ?_
        refine s_lt (t_pure (.bool (nextB pl))) ?_
        refine s_lt (t_pure (.bool (nextB pl))) ?_
        refine s_fork 76 (nextB pl) (fun c54 => ?_) (fun c54 => ?_)
        ·
          refine s_lt (t_pure (.int .i64 (n : Int))) ?_
          refine s_lt t_cmp ?_
          refine s_lt (t_pure (.bool (decide ((n : Int) < 200)))) ?_
          refine s_nil ?_
          exact xs_cut () trivial (sub_of rfl ⟨⟨rfl, rfl⟩, ⟨⟨rfl, rfl⟩, ⟨⟨rfl, rfl⟩, ⟨⟨rfl, rfl⟩, ⟨⟨rfl, rfl⟩, ⟨⟨rfl, rfl⟩, ⟨⟨rfl, rfl⟩, ⟨⟨rfl, rfl⟩, ⟨⟨rfl, show Value.bool true = Value.bool (nextB pl) by first | (simp only [c54, Bool.true_and, Bool.false_and, Bool.and_true, Bool.and_false, Bool.true_or, Bool.or_true, Bool.false_or, Bool.or_false, Bool.not_true, Bool.not_false]; done) | simp [c54]⟩, ⟨⟨rfl, show Value.bool (decide ((n : Int) < 200)) = Value.bool ((nextB pl) && (decide ((n : Int) < 200))) by first | (simp only [c54, Bool.true_and, Bool.false_and, Bool.and_true, Bool.and_false, Bool.true_or, Bool.or_true, Bool.false_or, Bool.or_false, Bool.not_true, Bool.not_false]; done) | simp [c54]⟩, trivial⟩⟩⟩⟩⟩⟩⟩⟩⟩⟩) (fun _ h => h.re [0, 0, 0, 0] [])
        ·
          refine s_skip ?_
          refine s_skip ?_
          refine s_lt (t_pure (.bool false)) ?_
          refine s_nil ?_
          exact xs_cut () trivial (sub_of rfl ⟨⟨rfl, rfl⟩, ⟨⟨rfl, rfl⟩, ⟨⟨rfl, rfl⟩, ⟨⟨rfl, rfl⟩, ⟨⟨rfl, rfl⟩, ⟨⟨rfl, rfl⟩, ⟨⟨rfl, rfl⟩, ⟨⟨rfl, rfl⟩, ⟨⟨rfl, show Value.bool false = Value.bool (nextB pl) by first | (simp only [c54, Bool.true_and, Bool.false_and, Bool.and_true, Bool.and_false, Bool.true_or, Bool.or_true, Bool.false_or, Bool.or_false, Bool.not_true, Bool.not_false]; done) | simp [c54]⟩, ⟨⟨rfl, show Value.bool false = Value.bool ((nextB pl) && (decide ((n : Int) < 200))) by first | (simp only [c54, Bool.true_and, Bool.false_and, Bool.and_true, Bool.and_false, Bool.true_or, Bool.or_true, Bool.false_or, Bool.or_false, Bool.not_true, Bool.not_false]; done) | simp [c54]⟩, trivial⟩⟩⟩⟩⟩⟩⟩⟩⟩⟩) (fun _ h => h.re [0, 0, 0, 0] [])
      ·
        refine k_cond ((nextB pl) && (decide ((n : Int) < 200))) (fun c55 => ?_) (fun c55 => ?_)
        ·
          obtain ⟨c56, c57⟩ := and_t c55
          have p58 := of_decide_eq_true c57
          refine k_skip ?_
          refine xs_then ?_
          refine k_seq ?_
          refine k_block ?_
          refine k_seq ?_
          refine k_reg ?_
          refine s_lt (t_pure ty) ?_
          refine s_lt (t_pure (.int .i64 (nextI pl))) ?_
          refine s_buildSlice (e := 3) [(0, .int .i64 (nextI pl))] #[.int .i64 (nextI pl)] (fun g59 => ?_) (hb := by kernel_rfl)
          refine s_append (L := tk2) 3 iTy_ok Try.underlying22 (.lit 0 iTy_ok [(nextI pl)]) (by show _ * 8 ≤ _; (try simp only [List.length_nil, List.length_cons, List.length_append, List.length_take, List.length_drop, List.length_set, List.length_replicate, List.length_reverse, bits_len]); omega) (by (try simp only [List.length_nil, List.length_cons, List.length_append, List.length_take, List.length_drop, List.length_set, List.length_replicate, List.length_reverse, bits_len]); omega) (fun v60 => ?_)
          refine s_fact (fun H h => ((Acc.own (T := iTy) (L := (tk2 ++ [(nextI pl)])) 3 rfl) H h).form) (fun hf61 => ?_)
          refine s_lt (t_pure v60) ?_
          refine s_nil ?_
          refine xs_then ?_
          refine k_seq ?_
          refine k_reg ?_
          refine s_lt (t_pure (.pointer (some ⟨q1, 0, none⟩))) ?_
          refine s_call [1] (next_s (pend := pl.tail) (by first | omega | (simp only [List.length_nil]; omega) | decide)) ?_
          rintro _ _ ⟨rfl, rfl⟩
          refine s_lt (t_pure (.tuple #[.int .i64 (nextI pl.tail), .bool (nextB pl.tail)])) ?_
          refine s_lt (t_pure (.int .i64 (nextI pl.tail))) ?_
          refine s_lt (t_pure (.bool (nextB pl.tail))) ?_
          refine s_lt (t_pure (.int .i64 (nextI pl.tail))) ?_
          refine s_lt (t_pure (.bool (nextB pl.tail))) ?_
          refine s_nil ?_
          refine xs_then ?_
          refine k_seq ?_
          refine k_reg ?_
          refine s_lt (t_pure (.int .i64 (nextI pl.tail))) ?_
          refine s_lt (t_pure (.int .i64 (nextI pl.tail))) ?_
          refine s_nil ?_
          refine xs_then ?_
          refine k_reg ?_
          refine s_lt (t_pure (.bool (nextB pl.tail))) ?_
          refine s_lt (t_pure (.bool (nextB pl.tail))) ?_
          refine s_nil ?_
          refine xs_block ?_
          refine xs_then ?_
          refine k_reg ?_
          refine s_lt (t_pure (.int .i64 (n : Int))) ?_
          refine s_lt (t_add (n : Int) 1 (by (try simp only [List.length_nil, List.length_cons, List.length_append, List.length_take, List.length_drop, List.length_set, List.length_replicate, List.length_reverse, bits_len]); omega)) ?_
          refine s_lt (t_pure (.int .i64 ((n : Int) + 1))) ?_
          refine s_nil ?_
          obtain ⟨hb1, hb2⟩ := take_once hi53.1 (and_t c55).1
          exact xs_round (tk2 ++ [nextI pl], pl.tail, v60, n + 1) (by show pl.tail.length < pl.length; omega) ⟨hb1, by show n + 1 + pl.tail.length ≤ 100; omega⟩ (sub_of rfl ⟨⟨rfl, rfl⟩, ⟨⟨rfl, rfl⟩, ⟨⟨rfl, rfl⟩, ⟨⟨rfl, rfl⟩, ⟨⟨rfl, rfl⟩, ⟨⟨rfl, rfl⟩, ⟨⟨rfl, rfl⟩, trivial⟩⟩⟩⟩⟩⟩⟩) (fun _ h => h.re [0, 1, 1, 1] [4])
        ·
          have p62 := c55
          simp only [Bool.and_eq_true, Bool.or_eq_true, Bool.and_eq_false_iff, Bool.or_eq_false_iff, Bool.not_eq_true', Bool.not_eq_false', decide_eq_true_eq, decide_eq_false_iff_not] at p62
          refine k_exit ?_
          have hnb : nextB pl = false := by
            rcases hq : nextB pl with _ | _
            · rfl
            · exfalso; have hh := c55; rw [hq, Bool.true_and] at hh; have := of_decide_eq_false hh; omega
          obtain rfl := next_none hnb
          rw [List.tail_nil]
          have hfin : ad.Perm tk2 := by have h := hi53.1; rwa [List.append_nil] at h
          have hfl := hfin.length_eq
          refine xs_exit ?_
          refine xs_exit ?_
          refine xs_here ?_
          refine xs_then ?_
          refine k_seq ?_
          refine k_seq ?_
          refine k_reg ?_
          refine s_lt (t_pure ax) ?_
          refine s_lt (t_len iTy_ok Try.underlying22 (.own 3)) ?_
          refine s_lt (t_pure ty) ?_
          refine s_lt (t_len iTy_ok Try.underlying22 (.own 2)) ?_
          refine s_lt (Lt.to t_cmp (congrArg Value.bool (decide_eq_false (by omega) : (decide ((ad.length : Int) ≠ (tk2.length : Int))) = false))) ?_
          refine s_lt (t_pure (.bool false)) ?_
          refine s_lt (t_pure (.pointer (some ⟨q1, 0, none⟩))) ?_
          refine s_call [0] (registered_s (reg := []) (by first | omega | (simp only [List.length_nil]; omega) | decide)) ?_
          rintro v63 _ rfl
          refine s_fact (fun H h => ((Acc.own (T := iTy) (L := []) 0 rfl) H h).form) (fun hf64 => ?_)
          refine s_lt (Lt.to (v' := .int .i64 0) (t_len (L := []) iTy_ok Try.underlying22 (.own 0)) rfl) ?_
          refine s_lt (t_cmp (c := false)) ?_
          refine s_lt (t_pure (.bool false)) ?_
          refine s_lt (t_pure (.bool false)) ?_
          refine s_lt (t_pure (.pointer (some ⟨q1, 0, none⟩))) ?_
          refine s_call [1] (pending_s (pend := []) (by first | omega | (simp only [List.length_nil]; omega) | decide)) ?_
          rintro v65 _ rfl
          refine s_fact (fun H h => ((Acc.own (T := iTy) (L := []) 0 rfl) H h).form) (fun hf66 => ?_)
          refine s_lt (Lt.to (v' := .int .i64 0) (t_len (L := []) iTy_ok Try.underlying22 (.own 0)) rfl) ?_
          refine s_lt (t_cmp (c := false)) ?_
          refine s_lt (t_pure (.bool false)) ?_
          refine s_nil ?_
          refine xs_then ?_
          refine k_false ?_
          refine k_skip ?_
          refine xs_then ?_
          refine k_seq ?_
          refine k_seq ?_
          refine k_reg ?_
          refine s_lt (t_pure ax) ?_
          refine s_lt (t_len iTy_ok Try.underlying22 (.own 5)) ?_
          refine s_lt (t_pure (.int .i64 0)) ?_
          refine s_nil ?_
          refine xs_then ?_
          refine k_block ?_
          refine k_loop (ι := Nat) (fun j => j ≤ ad.length) (fun j => [(2, .bool false), (4, ax), (5, ty), (111, .int .i64 (ad.length : Int)), (112, .int .i64 (j : Int))]) (fun j => [own iTy v65 [], qA q1 [] [], own iTy v63 [], own iTy v51 (sepL [] rg), own iTy ty tk2, own iTy ax ad]) (fun j => ad.length - j) 0 (Nat.zero_le _) (sub_of rfl ⟨⟨rfl, rfl⟩, ⟨⟨rfl, rfl⟩, ⟨⟨rfl, rfl⟩, ⟨⟨rfl, rfl⟩, ⟨⟨rfl, rfl⟩, trivial⟩⟩⟩⟩⟩) (fun _ h => h.re [0, 0, 0, 0, 0, 0] []) ?_
          rintro j hi67
          show SK _ _ _ _ _ [(2, .bool false), (4, ax), (5, ty), (111, .int .i64 (ad.length : Int)), (112, .int .i64 (j : Int))] _ [own iTy v65 [], qA q1 [] [], own iTy v63 [], own iTy v51 (sepL [] rg), own iTy ty tk2, own iTy ax ad]
          refine k_seq ?_
          refine k_reg ?_
          refine s_lt t_cmp ?_
          refine s_nil ?_
          refine xs_then ?_
          refine k_seq ?_
          refine k_cond (decide ((j : Int) < (ad.length : Int))) (fun c68 => ?_) (fun c68 => ?_)
          ·
            have p69 := of_decide_eq_true c68
            refine k_skip ?_
            refine xs_then ?_
            refine k_seq ?_
            refine k_block ?_
            refine k_seq ?_
            refine k_reg ?_
            refine s_lt (t_pure (.int .i64 (j : Int))) ?_
            refine s_lt (t_pure (.int .i64 (j : Int))) ?_
            refine s_nil ?_
            refine xs_then ?_
            refine k_seq ?_
            refine k_held [own iTy v65 [], own iTy v63 [], own iTy v51 (sepL [] rg), own iTy ty tk2, own iTy ax ad] ?_
            refine h_lt 0 rfl (np_then (np_block (np_then (np_then (np_block (np_then np_finS)))))) [0, 1, 1, 1, 1] (fun _ => (t_pure ax)) ?_
            refine h_lt 1 rfl (np_then (np_block (np_then (np_then (np_block (np_then np_finS)))))) [0, 1, 1, 1, 1] (fun _ => (t_pure ax)) ?_
            refine h_lt 2 rfl (np_then (np_block (np_then (np_then (np_block (np_then np_finS)))))) [0, 1, 1, 1, 1] (fun _ => (t_pure (.int .i64 (j : Int)))) ?_
            refine h_lt 3 rfl (np_then (np_block (np_then (np_then (np_block (np_then np_finS)))))) [0, 1, 1, 1, 1] (fun _ => (t_index iTy_ok Try.underlying22 (.own 4) (j : Int) j (by omega) (by (try simp only [List.length_nil, List.length_cons, List.length_append, List.length_take, List.length_drop, List.length_set, List.length_replicate, List.length_reverse, bits_len]); omega) (by omega))) ?_
            obtain ⟨y70, hy71⟩ : ∃ y, ad[j]? = some y := ⟨_, List.getElem?_eq_getElem (by (try simp only [List.length_nil, List.length_cons, List.length_append, List.length_take, List.length_drop, List.length_set, List.length_replicate, List.length_reverse, bits_len]); omega)⟩
            refine h_lt 4 rfl (np_then (np_block (np_then (np_then (np_block (np_then np_finS)))))) [0, 1, 1, 1, 1] (fun _ => (t_loadE iTy_ok (.own 4) hy71)) ?_
            refine h_lt 6 rfl (np_then (np_block (np_then (np_then (np_block (np_then np_finS)))))) [0, 1, 1, 1, 1] (fun _ => (t_pure ty)) ?_
            refine h_lt 7 rfl (np_then (np_block (np_then (np_then (np_block (np_then np_finS)))))) [0, 1, 1, 1, 1] (fun _ => (t_pure ax)) ?_
            refine h_lt 8 rfl (np_then (np_block (np_then (np_then (np_block (np_then np_finS)))))) [0, 1, 1, 1, 1] (fun _ => (t_pure (.int .i64 (j : Int)))) ?_
            refine h_lt 9 rfl (np_then (np_block (np_then (np_then (np_block (np_then np_finS)))))) [0, 1, 1, 1, 1] (fun _ => (t_index iTy_ok Try.underlying22 (.own 4) (j : Int) j (by omega) (by (try simp only [List.length_nil, List.length_cons, List.length_append, List.length_take, List.length_drop, List.length_set, List.length_replicate, List.length_reverse, bits_len]); omega) (by omega))) ?_
            refine h_lt 10 rfl (np_then (np_block (np_then (np_then (np_block (np_then np_finS)))))) [0, 1, 1, 1, 1] (fun _ => (t_loadE iTy_ok (.own 4) hy71)) ?_
            refine h_stepS 5 ?_
            refine s_vcall (fun _ h => count_s (L := ad) (Acc.kn (.own 5) h) y70 (by (try simp only [List.length_nil, List.length_cons, List.length_append, List.length_take, List.length_drop, List.length_set, List.length_replicate, List.length_reverse, bits_len]); omega)) ?_
            rintro _ rfl
            refine s_nil (xs_held [0, 1, 1, 1, 1] ?_)
            refine h_stepS 11 ?_
            refine s_vcall (fun _ h => count_s (L := tk2) (Acc.kn (.own 4) h) y70 (by (try simp only [List.length_nil, List.length_cons, List.length_append, List.length_take, List.length_drop, List.length_set, List.length_replicate, List.length_reverse, bits_len]); omega)) ?_
            rintro _ rfl
            refine s_nil (xs_held [0, 1, 1, 1, 1] ?_)
            refine h_lt 12 rfl (np_then (np_block (np_then (np_then (np_block (np_then np_finS)))))) [0, 1, 1, 1, 1] (fun _ => (Lt.to t_cmp (congrArg Value.bool (decide_eq_false (by rw [cnt_perm hfin]; exact fun h => h rfl) : (decide ((cntI ad y70 : Int) ≠ (cntI tk2 y70 : Int))) = false)))) ?_
            refine h_doneS ?_
            refine xs_then ?_
            refine k_false ?_
            refine k_skip ?_
            refine xs_block ?_
            refine xs_then ?_
            refine k_reg ?_
            refine s_lt (t_add (j : Int) 1 (by (try simp only [List.length_nil, List.length_cons, List.length_append, List.length_take, List.length_drop, List.length_set, List.length_replicate, List.length_reverse, bits_len]); omega)) ?_
            refine s_lt (t_pure (.int .i64 ((j : Int) + 1))) ?_
            refine s_nil ?_
            exact xs_round (j + 1) (by omega) (by show j + 1 ≤ ad.length; omega) (sub_of rfl ⟨⟨rfl, rfl⟩, ⟨⟨rfl, rfl⟩, ⟨⟨rfl, rfl⟩, ⟨⟨rfl, rfl⟩, ⟨⟨rfl, rfl⟩, trivial⟩⟩⟩⟩⟩) (fun _ h => h.re [0, 0, 0, 0, 0, 0] [])
          ·
            have p72 := of_decide_eq_false c68
            refine k_exit ?_
            refine xs_exit ?_
            refine xs_exit ?_
            refine xs_here ?_
            refine xs_then ?_
            refine k_seq ?_
            refine k_reg ?_
            refine s_vcall (fun _ h => awake_s) ?_
            rintro _ rfl
            refine s_lt (t_pure (.bool true)) ?_
            refine s_nil ?_
            refine xs_then ?_
            refine k_ret ?_
            exact xs_fin [.bool true] [] (SI.tmp 2 SI.nil) (fun _ h => h.re [] [0, 0, 0, 0, 0, 0]) ⟨rfl, rfl⟩
end Go.Proofs.Ytipmkaabogocfaa
