/-
  Enter over memory in parts.
-/
import Derived.Test.YtikbimlfbcffhaaW6
set_option linter.unusedSimpArgs false
set_option linter.unusedVariables false
set_option maxRecDepth 100000
namespace Go.Proofs.Ytikbimlfbcffhaa
open Go.Hp Go.J Go.S
open Go.Mem (Ty KTy blk elemAt pre suf blk_pre blk_suf aget aset strK)
theorem enter_s {Z : Zone} {lv : Value} {l : List Vl} (n : Int) (vb : Bool) (hL : Kn Z VlT lv l) (hl : l.length ≤ 1000) : SF Try.prog 21 #[lv, .int .i64 n, .bool vb] Z [] fun v Bs => ∃ v1 v2, v = .tuple #[v1, v2] ∧ Bs = [own VlT v1 (fitL l (par n)), own VlT v2 (extraL l n vb)] := by
  refine sf_enter Try.func21 28 [(0, lv), (1, .int .i64 n), (2, .bool vb)] (fun w0 => ?_)
  refine k_seq ?_
  refine k_reg ?_
  refine s_lt (t_pure (.slice none 0 0)) ?_
  refine s_lt (t_pure (.slice none 0 0)) ?_
  refine s_nil ?_
  refine xs_then ?_
  refine k_seq ?_
  refine k_reg ?_
  refine s_lt (t_pure (.int .i64 n)) ?_
  refine s_lt t_max ?_
  refine s_lt t_min ?_
  refine s_lt (t_pure (.int .i64 (if 200 < (if n < 0 then 0 else n) then 200 else (if n < 0 then 0 else n)))) ?_
  refine s_nil ?_
  refine xs_then ?_
  refine k_seq ?_
  refine k_cut (ι := Unit) (fun _ => True) (fun _ => [(0, lv), (6, (.slice none 0 0)), (7, (.slice none 0 0)), (8, .int .i64 (if 200 < (if n < 0 then 0 else n) then 200 else (if n < 0 then 0 else n))), (18, .bool (vb && (decide ((if 200 < (if n < 0 then 0 else n) then 200 else (if n < 0 then 0 else n)) < (l.length : Int)))))]) (fun _ => []) ?_ (fun _ _ => ?_)
  ·
    refine k_reg ?_
    refine s_lt (t_pure (.bool vb)) ?_
    refine s_lt (t_pure (.bool vb)) ?_
    refine s_fork 13 vb (fun c1 => ?_) (fun c1 => ?_)
    ·
      refine s_lt (t_pure lv) ?_
      refine s_lt (t_len VlT_ok Try.underlying36 (.zn hL)) ?_
      refine s_lt (t_pure (.int .i64 (if 200 < (if n < 0 then 0 else n) then 200 else (if n < 0 then 0 else n)))) ?_
      refine s_lt t_cmp ?_
      refine s_lt (t_pure (.bool (decide ((if 200 < (if n < 0 then 0 else n) then 200 else (if n < 0 then 0 else n)) < (l.length : Int))))) ?_
      refine s_nil ?_
      exact xs_cut () trivial (sub_of rfl ⟨⟨rfl, rfl⟩, ⟨⟨rfl, rfl⟩, ⟨⟨rfl, rfl⟩, ⟨⟨rfl, rfl⟩, ⟨⟨rfl, show Value.bool (decide ((if 200 < (if n < 0 then 0 else n) then 200 else (if n < 0 then 0 else n)) < (l.length : Int))) = Value.bool (vb && (decide ((if 200 < (if n < 0 then 0 else n) then 200 else (if n < 0 then 0 else n)) < (l.length : Int)))) by simp [c1]⟩, trivial⟩⟩⟩⟩⟩) (fun _ h => h.re [] [])
    ·
      refine s_skip ?_
      refine s_skip ?_
      refine s_skip ?_
      refine s_skip ?_
      refine s_lt (t_pure (.bool false)) ?_
      refine s_nil ?_
      exact xs_cut () trivial (sub_of rfl ⟨⟨rfl, rfl⟩, ⟨⟨rfl, rfl⟩, ⟨⟨rfl, rfl⟩, ⟨⟨rfl, rfl⟩, ⟨⟨rfl, show Value.bool false = Value.bool (vb && (decide ((if 200 < (if n < 0 then 0 else n) then 200 else (if n < 0 then 0 else n)) < (l.length : Int)))) by simp [c1]⟩, trivial⟩⟩⟩⟩⟩) (fun _ h => h.re [] [])
  ·
    refine k_cond (vb && (decide ((if 200 < (if n < 0 then 0 else n) then 200 else (if n < 0 then 0 else n)) < (l.length : Int)))) (fun c2 => ?_) (fun c2 => ?_)
    ·
      obtain ⟨c3, c4⟩ := and_t c2
      have p5 := of_decide_eq_true c4
      refine k_reg ?_
      refine s_lt (t_pure (.slice none 0 0)) ?_
      refine s_lt (t_pure lv) ?_
      refine s_lt (t_pure (.int .i64 (if 200 < (if n < 0 then 0 else n) then 200 else (if n < 0 then 0 else n)))) ?_
      refine s_lt (t_suf VlT_ok Try.underlying36 (.zn hL) (if 200 < (if n < 0 then 0 else n) then 200 else (if n < 0 then 0 else n)) (((if 200 < (if n < 0 then 0 else n) then 200 else (if n < 0 then 0 else n))).toNat) (by omega) (by (try simp only [List.length_nil, List.length_cons, List.length_append, List.length_take, List.length_drop, List.length_set, List.length_replicate]); omega) (by omega)) ?_
      refine s_appendN VlT_ok Try.underlying36 (Acc.suf (.zn hL) VlT_ok (((if 200 < (if n < 0 then 0 else n) then 200 else (if n < 0 then 0 else n))).toNat) (by omega)) (by show _ * 48 ≤ _; (try simp only [List.length_nil, List.length_cons, List.length_append, List.length_take, List.length_drop, List.length_set, List.length_replicate]); omega) (fun v6 => ?_)
      refine s_lt (t_pure v6) ?_
      refine s_nil ?_
      refine xs_then ?_
      refine k_seq ?_
      refine k_reg ?_
      refine s_lt (t_pure lv) ?_
      refine s_lt (t_pure (.int .i64 (if 200 < (if n < 0 then 0 else n) then 200 else (if n < 0 then 0 else n)))) ?_
      refine s_pcall (fun _ h => fit_s (if 200 < (if n < 0 then 0 else n) then 200 else (if n < 0 then 0 else n)) (Acc.kn (.zn hL) h) (by omega)) ?_
      rintro v7 _ rfl
      refine s_lt (t_pure v6) ?_
      refine s_lt (t_pure v7) ?_
      refine s_lt (t_pure v6) ?_
      refine s_nil ?_
      refine xs_then ?_
      refine k_ret ?_
      /- ['own VlT v7 (fitL l (if 200 < (if n < 0 then 0 else n) then 200 else (if n < 0 then 0 else n)))', 'own VlT v6 (l.drop (((if 200 < (if n < 0 then 0 else n) then 200 else (if n < 0 then 0 else n))).toNat))'] -/
      refine xs_fin [v7, v6] [own VlT v7 (fitL l (par n)), own VlT v6 (l.drop (par n).toNat)] (SI.tmp 6 (SI.tmp 7 SI.nil)) (fun _ h => h.re [] []) ⟨_, _, rfl, ?_⟩
      rw [extraL, if_pos (by simp only [par, clip]; exact ⟨c3, p5⟩)]
    ·
      have p8 := c2
      simp only [Bool.and_eq_true, Bool.or_eq_true, Bool.and_eq_false_iff, Bool.or_eq_false_iff, Bool.not_eq_true', Bool.not_eq_false', decide_eq_true_eq, decide_eq_false_iff_not] at p8
      refine k_skip ?_
      refine xs_then ?_
      refine k_seq ?_
      refine k_reg ?_
      refine s_lt (t_pure lv) ?_
      refine s_lt (t_pure (.int .i64 (if 200 < (if n < 0 then 0 else n) then 200 else (if n < 0 then 0 else n)))) ?_
      refine s_pcall (fun _ h => fit_s (if 200 < (if n < 0 then 0 else n) then 200 else (if n < 0 then 0 else n)) (Acc.kn (.zn hL) h) (by omega)) ?_
      rintro v9 _ rfl
      refine s_lt (t_pure (.slice none 0 0)) ?_
      refine s_lt (t_pure v9) ?_
      refine s_lt (t_pure (.slice none 0 0)) ?_
      refine s_nil ?_
      refine xs_then ?_
      refine k_ret ?_
      /- ['own VlT v9 (fitL l (if 200 < (if n < 0 then 0 else n) then 200 else (if n < 0 then 0 else n)))'] -/
      refine xs_fin [v9, (.slice none 0 0)] [own VlT v9 (fitL l (par n)), own VlT (.slice none 0 0) []] (SI.tmp 6 (SI.tmp 7 SI.nil)) (fun _ h => h.nilS.re [1] []) ⟨_, _, rfl, ?_⟩
      rw [extraL, if_neg (by simp only [par, clip]; rintro ⟨rfl, h⟩; simp at p8; omega)]
end Go.Proofs.Ytikbimlfbcffhaa
