/-
  FramesInverse: Push and Pop are opposite, Replace keeps the depth, there are at most MaxCalls frames; for every script and frame.
-/
import Derived.Test.YtikbimlfbcffhaaW7
set_option linter.unusedSimpArgs false
set_option linter.unusedVariables false
set_option maxRecDepth 100000
namespace Go.Proofs.Ytikbimlfbcffhaa
open Go.Hp Go.J Go.S
open Go.Mem (Ty KTy blk elemAt pre suf blk_pre blk_suf aget aset strK)

theorem do_s {Z : Zone} {F : List Asr} {b c : Nat} {L : List Fr} (x : Opn) : SF Try.prog 12 #[.pointer (some ⟨b, 0, none⟩), .pointer (some ⟨c, 0, none⟩), x.v] Z (fsA b L :: rsA c L :: F) fun v Bs => v = .bool true ∧ Bs = fsA b (stepL L x) :: rsA c (stepL L x) :: F := fun H hH => by
  have h1 : Holds Z (stA True [fsA b L, rsA c L] :: F) H := Holds.shut_st trivial hH
  have key : SF Try.prog 12 #[.pointer (some ⟨b, 0, none⟩), .pointer (some ⟨c, 0, none⟩), x.v] Z (stA True [fsA b L, rsA c L] :: F) fun v Bs => v = .bool true ∧ Bs = stA True [fsA b (stepL L x), rsA c (stepL L x)] :: F := by
    refine sf_of fun H S hS => ?_
    obtain ⟨_, S1, S2, hF, ⟨S3, S4, hR, h4, h5, h6⟩, hd, hU⟩ := hS
    have e3 : ∀ k, S2 k ↔ S3 k := fun k => by rw [h6 k]; simp [h4 k]
    refine (do_ok x H b c L S1 S3 hF hR fun k a b => hd k a ((e3 k).2 b)).mono fun v H' ⟨hv, fp', fq', hF', hR', hd', hc, hs1, hs2⟩ => ⟨hv, fun k => fp' k ∨ fq' k, ⟨trivial, fp', fq', hF', sepL_one (A := rsA c (stepL L x)) hR', hd', fun k => Iff.rfl⟩, hc.mono (fun k _ hk => (hU k).2 (hk.imp id (e3 k).2)), ?_⟩
    rintro k (a | a)
    · exact (hs1 k a).imp (fun h => (hU k).2 (.inl h)) id
    · exact (hs2 k a).imp (fun h => (hU k).2 (.inr ((e3 k).2 h))) id
  exact (key H h1).mono fun v H' ⟨Bs, ⟨hv, hB⟩, hH'⟩ => ⟨_, ⟨hv, rfl⟩, by subst hB; exact hH'.open_st.2⟩
def runL (l : List Opn) (i : Nat) : List Fr := (l.take i).foldl stepL []
theorem runL_succ {l : List Opn} {i : Nat} {y : Opn} (h : l[i]? = some y) : runL l (i + 1) = stepL (runL l i) y := by
  rw [runL, List.take_add_one, h]; simp [runL]
theorem runL_len (l : List Opn) (i : Nat) : (runL l i).length ≤ 150 := by
  rw [runL]
  suffices ∀ (M : List Opn) (L : List Fr), L.length ≤ 150 → (M.foldl stepL L).length ≤ 150 from this _ _ (by simp)
  intro M
  induction M with
  | nil => intro L h; exact h
  | cons x r ih => intro L h; exact ih _ (stepL_len x h)
def wellB (x : Opn) : Prop := 0 ≤ x.line ∧ 0 ≤ x.base ∧ 0 ≤ x.extra ∧ -1 ≤ x.want
theorem wellB_iff (x : Opn) : rightB x.fr = true ↔ wellB x := by
  show ((decide (0 ≤ x.line) && decide (0 ≤ x.base) && decide (0 ≤ x.extra) && decide (-1 ≤ x.want)) = true) ↔ _
  simp [wellB, and_assoc]
theorem push_cases (L : List Fr) (x : Opn) (hl : L.length ≤ 150) : (pushR L x.fr = (2, L) ∧ replR L x.fr = (2, L) ∧ ¬ wellB x) ∨ (pushR L x.fr = (17, L) ∧ wellB x ∧ (L.length : Int) = 150) ∨ (pushR L x.fr = (0, L ++ [x.fr]) ∧ wellB x ∧ (L.length : Int) < 150) := by
  rw [← wellB_iff]
  by_cases h : rightB x.fr = true
  · by_cases h2 : (150 : Int) ≤ L.length
    · right; left; exact ⟨by simp [pushR, h, h2], h, by omega⟩
    · right; right; exact ⟨by simp [pushR, h, h2], h, by omega⟩
  · left; simp only [Bool.not_eq_true] at h; exact ⟨by simp [pushR, h], by simp [replR, h], by simp [h]⟩
theorem repl_cases (L : List Fr) (x : Opn) (hw : wellB x) : (replR L x.fr = (18, L) ∧ (L.length : Int) = 0) ∨ (replR L x.fr = (0, L.set (L.length - 1) (tl x.fr)) ∧ (0 : Int) < L.length) := by
  have h := (wellB_iff x).2 hw
  by_cases h2 : (L.length : Int) = 0
  · left; exact ⟨by simp [replR, h, h2], h2⟩
  · right; exact ⟨replR_ok (by simp [h]) h2, by omega⟩
theorem pop_last (L : List Fr) (f : Fr) : popR (L ++ [f]) = ((f, true), L) := by
  have h : (L ++ [f])[(L ++ [f]).length - 1]? = some f := by simp
  rw [popR_some h]; simp
theorem pop_set {L : List Fr} (f : Fr) (h : (0 : Int) < L.length) : popR (L.set (L.length - 1) f) = ((f, true), L.take (L.length - 1)) := by
  have h1 : (L.set (L.length - 1) f)[(L.set (L.length - 1) f).length - 1]? = some f := by rw [List.length_set, List.getElem?_set_self (by omega)]
  rw [popR_some h1]; simp [List.take_set_of_le]
section
variable {Z : Zone} {F : List Asr} {b : Nat} {L L' : List Fr} {f g : Fr} {e : Int} {t : Bool}
theorem push_e (hp : pushR L f = (e, L')) : SF Try.prog 23 #[.pointer (some ⟨b, 0, none⟩), f.v] Z (fsA b L :: F) fun v Bs => v = .int .i64 e ∧ Bs = fsA b L' :: F := by have := push_s (Z := Z) (F := F) (b := b) (L := L) f; rw [hp] at this; exact this
theorem repl_e (hp : replR L f = (e, L')) : SF Try.prog 26 #[.pointer (some ⟨b, 0, none⟩), f.v] Z (fsA b L :: F) fun v Bs => v = .int .i64 e ∧ Bs = fsA b L' :: F := by have := repl_s (Z := Z) (F := F) (b := b) (L := L) f; rw [hp] at this; exact this
theorem pop_e (hp : popR L = ((g, t), L')) : SF Try.prog 25 #[.pointer (some ⟨b, 0, none⟩)] Z (fsA b L :: F) fun v Bs => v = .tuple #[g.v, .bool t] ∧ Bs = fsA b L' :: F := by have := pop_s (Z := Z) (F := F) (b := b) (L := L); rw [hp] at this; exact this
end
theorem inverse_s {Z : Zone} {lv : Value} {l : List Opn} (x : Opn) (hL : Kn Z OpT lv l) : SF Try.prog 6 #[lv, x.v] Z [] fun v Bs => v = .bool true ∧ Bs = [] := by
  refine sf_enter Try.func6 161 [(0, lv), (1, .agg #[.int .i64 x.kind, .int .i64 x.n, .string x.name, .int .i64 x.line, .int .i64 x.base, .int .i64 x.extra, .int .i64 x.want, .bool x.tail])] (fun w0 => ?_)
  refine k_fact (fun H h => (hL.get h).len_le) (fun lL => ?_)
  refine k_seq ?_
  refine k_reg ?_
  refine s_box #[.int .i64 x.kind, .int .i64 x.n, .string x.name, .int .i64 x.line, .int .i64 x.base, .int .i64 x.extra, .int .i64 x.want, .bool x.tail] (fun g1 => ?_)
  refine s_lt (t_pure (.bool false)) ?_
  refine s_nil ?_
  refine xs_then ?_
  refine k_seq ?_
  refine k_seq ?_
  refine k_reg ?_
  refine s_lt (t_pure lv) ?_
  refine s_lt (t_len OpT_ok Try.underlying22 (.zn hL)) ?_
  refine s_lt t_cmp ?_
  refine s_nil ?_
  refine xs_then ?_
  refine k_cond (decide ((600 : Int) < (l.length : Int))) (fun c2 => ?_) (fun c2 => ?_)
  ·
    have p3 := of_decide_eq_true c2
    refine k_seq ?_
    refine k_reg ?_
    refine s_vcall (fun _ h => awake_s) ?_
    rintro _ rfl
    refine s_lt (t_pure (.bool true)) ?_
    refine s_nil ?_
    refine xs_then ?_
    refine k_ret ?_
    refine xs_ret ?_
    exact xs_fin [.bool true] [] (SI.tmp 4 SI.nil) (fun _ h => h.re [] [0]) ⟨rfl, rfl⟩
  ·
    have p4 := of_decide_eq_false c2
    refine k_skip ?_
    refine xs_then ?_
    refine k_seq ?_
    refine k_reg ?_
    refine s_pcall (fun _ h => new_s) ?_
    rintro _ _ ⟨b5, rfl, rfl⟩
    refine s_lt (t_pure (.pointer (some ⟨b5, 0, none⟩))) ?_
    refine s_nil ?_
    refine xs_then ?_
    refine k_seq ?_
    refine k_reg ?_
    refine s_pcall (fun _ h => rnew_s) ?_
    rintro _ _ ⟨b6, rfl, rfl⟩
    refine s_lt (t_pure (.pointer (some ⟨b6, 0, none⟩))) ?_
    refine s_nil ?_
    refine xs_then ?_
    refine k_seq ?_
    refine k_seq ?_
    refine k_reg ?_
    refine s_lt (t_pure (.pointer (some ⟨b5, 0, none⟩))) ?_
    refine s_lt (t_pure (.bool false)) ?_
    refine s_nil ?_
    refine xs_then ?_
    refine k_false ?_
    refine k_skip ?_
    refine xs_then ?_
    refine k_seq ?_
    refine k_seq ?_
    refine k_reg ?_
    refine s_lt (t_pure (.int .i64 0)) ?_
    refine s_nil ?_
    refine xs_then ?_
    refine k_block ?_
    refine k_loop (ι := Nat) (fun i => i ≤ l.length) (fun i => [(0, lv), (3, .pointer (some ⟨g1, 0, none⟩)), (4, .bool false), (5, .pointer (some ⟨b5, 0, none⟩)), (6, .pointer (some ⟨b6, 0, none⟩)), (7, .int .i64 (i : Int))]) (fun i => [fsA b5 (runL l i), rsA b6 (runL l i), blkA g1 #[.int .i64 x.kind, .int .i64 x.n, .string x.name, .int .i64 x.line, .int .i64 x.base, .int .i64 x.extra, .int .i64 x.want, .bool x.tail] 30]) (fun i => l.length - i) 0 (Nat.zero_le _) (sub_of rfl ⟨⟨rfl, rfl⟩, ⟨⟨rfl, rfl⟩, ⟨⟨rfl, rfl⟩, ⟨⟨rfl, rfl⟩, ⟨⟨rfl, rfl⟩, ⟨⟨rfl, rfl⟩, trivial⟩⟩⟩⟩⟩⟩) (fun _ h => h.re [1, 0, 0] []) ?_
    rintro i hi7
    show SK _ _ _ _ _ [(0, lv), (3, .pointer (some ⟨g1, 0, none⟩)), (4, .bool false), (5, .pointer (some ⟨b5, 0, none⟩)), (6, .pointer (some ⟨b6, 0, none⟩)), (7, .int .i64 (i : Int))] _ [fsA b5 (runL l i), rsA b6 (runL l i), blkA g1 #[.int .i64 x.kind, .int .i64 x.n, .string x.name, .int .i64 x.line, .int .i64 x.base, .int .i64 x.extra, .int .i64 x.want, .bool x.tail] 30]
    refine k_seq ?_
    refine k_seq ?_
    refine k_reg ?_
    refine s_lt (t_pure (.int .i64 (i : Int))) ?_
    refine s_lt (t_pure lv) ?_
    refine s_lt (t_len OpT_ok Try.underlying22 (.zn hL)) ?_
    refine s_lt t_cmp ?_
    refine s_nil ?_
    refine xs_then ?_
    refine k_cond (decide ((i : Int) < (l.length : Int))) (fun c8 => ?_) (fun c8 => ?_)
    ·
      have p9 := of_decide_eq_true c8
      refine k_skip ?_
      refine xs_then ?_
      refine k_seq ?_
      refine k_block ?_
      refine k_reg ?_
      refine s_lt (t_pure (.pointer (some ⟨b5, 0, none⟩))) ?_
      refine s_lt (t_pure (.pointer (some ⟨b6, 0, none⟩))) ?_
      refine s_lt (t_pure lv) ?_
      refine s_lt (t_pure (.int .i64 (i : Int))) ?_
      refine s_lt (t_index OpT_ok Try.underlying22 (.zn hL) (i : Int) i (by omega) (by (try simp only [List.length_nil, List.length_cons, List.length_append, List.length_take, List.length_drop, List.length_set, List.length_replicate]); omega) (by omega)) ?_
      obtain ⟨y10, hy11⟩ : ∃ y, l[i]? = some y := ⟨_, List.getElem?_eq_getElem (by (try simp only [List.length_nil, List.length_cons, List.length_append, List.length_take, List.length_drop, List.length_set, List.length_replicate]); omega)⟩
      refine s_lt (t_loadE OpT_ok (.zn hL) hy11) ?_
      refine s_call [0, 0] (do_s y10) ?_
      rintro _ _ ⟨rfl, rfl⟩
      refine s_nil ?_
      refine xs_block ?_
      refine xs_then ?_
      refine k_reg ?_
      refine s_lt (t_pure (.int .i64 (i : Int))) ?_
      refine s_lt (t_add (i : Int) 1 (by (try simp only [List.length_nil, List.length_cons, List.length_append, List.length_take, List.length_drop, List.length_set, List.length_replicate]); omega)) ?_
      refine s_lt (t_pure (.int .i64 ((i : Int) + 1))) ?_
      refine s_nil ?_
      exact xs_round (i + 1) (by omega) (by omega) (sub_of rfl ⟨⟨rfl, rfl⟩, ⟨⟨rfl, rfl⟩, ⟨⟨rfl, rfl⟩, ⟨⟨rfl, rfl⟩, ⟨⟨rfl, rfl⟩, ⟨⟨rfl, rfl⟩, trivial⟩⟩⟩⟩⟩⟩) (fun _ h => by rw [runL_succ hy11]; exact h.re [0, 0, 0] [])
    ·
      have p12 := of_decide_eq_false c8
      refine k_exit ?_
      obtain rfl : i = l.length := by omega
      refine xs_exit ?_
      refine xs_exit ?_
      refine xs_here ?_
      refine xs_then ?_
      refine k_seq ?_
      refine k_reg ?_
      refine s_lt (t_pure (.pointer (some ⟨b5, 0, none⟩))) ?_
      refine s_pcall (fun _ h => trace_s (h.kn 0) (by have := runL_len l l.length; omega)) ?_
      rintro v13 _ rfl
      refine s_lt (t_pure v13) ?_
      refine s_nil ?_
      refine xs_then ?_
      refine k_seq ?_
      refine k_reg ?_
      refine s_lt (t_pure (.pointer (some ⟨b5, 0, none⟩))) ?_
      refine s_vcall (fun _ h => depth_s (h.kn 1)) ?_
      rintro _ rfl
      refine s_lt (t_pure (.int .i64 ((runL l (l.length)).length : Int))) ?_
      refine s_nil ?_
      refine xs_then ?_
      refine k_cut (ι := Unit) (fun _ => True) (fun _ => [(3, .pointer (some ⟨g1, 0, none⟩)), (4, .bool false), (5, .pointer (some ⟨b5, 0, none⟩)), (8, v13), (9, .int .i64 ((runL l (l.length)).length : Int)), (10, .bool ((decide ((0 : Int) ≤ x.line)) && ((decide ((0 : Int) ≤ x.base)) && ((decide ((0 : Int) ≤ x.extra)) && (decide ((-1) ≤ x.want))))))]) (fun _ => [own PlT v13 (trL (runL l (l.length))), fsA b5 (runL l (l.length)), rsA b6 (runL l (l.length)), blkA g1 #[.int .i64 x.kind, .int .i64 x.n, .string x.name, .int .i64 x.line, .int .i64 x.base, .int .i64 x.extra, .int .i64 x.want, .bool x.tail] 30]) ?_ (fun _ _ => ?_)
      ·
        refine k_reg ?_
        refine s_lt (t_pure (.pointer (some ⟨g1, 3, none⟩))) ?_
        refine s_lt (t_load 3) ?_
        refine s_lt t_cmp ?_
        refine s_lt (t_pure (.bool (decide ((0 : Int) ≤ x.line)))) ?_
        refine s_fork 44 (decide ((0 : Int) ≤ x.line)) (fun c14 => ?_) (fun c14 => ?_)
        ·
          have p15 := of_decide_eq_true c14
          refine s_lt (t_pure (.pointer (some ⟨g1, 4, none⟩))) ?_
          refine s_lt (t_load 3) ?_
          refine s_lt t_cmp ?_
          refine s_lt (t_pure (.bool (decide ((0 : Int) ≤ x.base)))) ?_
          refine s_lt (t_pure (.bool (decide ((0 : Int) ≤ x.base)))) ?_
          refine s_fork 49 (decide ((0 : Int) ≤ x.base)) (fun c16 => ?_) (fun c16 => ?_)
          ·
            have p17 := of_decide_eq_true c16
            refine s_lt (t_pure (.pointer (some ⟨g1, 5, none⟩))) ?_
            refine s_lt (t_load 3) ?_
            refine s_lt t_cmp ?_
            refine s_lt (t_pure (.bool (decide ((0 : Int) ≤ x.extra)))) ?_
            refine s_lt (t_pure (.bool (decide ((0 : Int) ≤ x.extra)))) ?_
            refine s_fork 54 (decide ((0 : Int) ≤ x.extra)) (fun c18 => ?_) (fun c18 => ?_)
            ·
              have p19 := of_decide_eq_true c18
              refine s_lt (t_pure (.pointer (some ⟨g1, 6, none⟩))) ?_
              refine s_lt (t_load 3) ?_
              refine s_lt t_cmp ?_
              refine s_lt (t_pure (.bool (decide ((-1) ≤ x.want)))) ?_
              refine s_lt (t_pure (.bool (decide ((-1) ≤ x.want)))) ?_
              refine s_nil ?_
              exact xs_cut () trivial (sub_of rfl ⟨⟨rfl, rfl⟩, ⟨⟨rfl, rfl⟩, ⟨⟨rfl, rfl⟩, ⟨⟨rfl, rfl⟩, ⟨⟨rfl, rfl⟩, ⟨⟨rfl, show Value.bool (decide ((-1) ≤ x.want)) = Value.bool ((decide ((0 : Int) ≤ x.line)) && ((decide ((0 : Int) ≤ x.base)) && ((decide ((0 : Int) ≤ x.extra)) && (decide ((-1) ≤ x.want))))) by simp [c14, c16, c18]⟩, trivial⟩⟩⟩⟩⟩⟩) (fun _ h => h.re [] [])
            ·
              have p20 := of_decide_eq_false c18
              refine s_skip ?_
              refine s_skip ?_
              refine s_skip ?_
              refine s_lt (t_pure (.bool false)) ?_
              refine s_lt (t_pure (.bool false)) ?_
              refine s_nil ?_
              exact xs_cut () trivial (sub_of rfl ⟨⟨rfl, rfl⟩, ⟨⟨rfl, rfl⟩, ⟨⟨rfl, rfl⟩, ⟨⟨rfl, rfl⟩, ⟨⟨rfl, rfl⟩, ⟨⟨rfl, show Value.bool false = Value.bool ((decide ((0 : Int) ≤ x.line)) && ((decide ((0 : Int) ≤ x.base)) && ((decide ((0 : Int) ≤ x.extra)) && (decide ((-1) ≤ x.want))))) by simp [c14, c16, c18]⟩, trivial⟩⟩⟩⟩⟩⟩) (fun _ h => h.re [] [])
          ·
            have p21 := of_decide_eq_false c16
            refine s_skip ?_
            refine s_skip ?_
            refine s_skip ?_
            refine s_lt (t_pure (.bool false)) ?_
            refine s_lt (t_pure (.bool false)) ?_
            refine s_skip ?_
            refine s_skip ?_
            refine s_skip ?_
            refine s_lt (t_pure (.bool false)) ?_
            refine s_lt (t_pure (.bool false)) ?_
            refine s_nil ?_
            exact xs_cut () trivial (sub_of rfl ⟨⟨rfl, rfl⟩, ⟨⟨rfl, rfl⟩, ⟨⟨rfl, rfl⟩, ⟨⟨rfl, rfl⟩, ⟨⟨rfl, rfl⟩, ⟨⟨rfl, show Value.bool false = Value.bool ((decide ((0 : Int) ≤ x.line)) && ((decide ((0 : Int) ≤ x.base)) && ((decide ((0 : Int) ≤ x.extra)) && (decide ((-1) ≤ x.want))))) by simp [c14, c16]⟩, trivial⟩⟩⟩⟩⟩⟩) (fun _ h => h.re [] [])
        ·
          have p22 := of_decide_eq_false c14
          refine s_skip ?_
          refine s_skip ?_
          refine s_skip ?_
          refine s_lt (t_pure (.bool false)) ?_
          refine s_lt (t_pure (.bool false)) ?_
          refine s_skip ?_
          refine s_skip ?_
          refine s_skip ?_
          refine s_lt (t_pure (.bool false)) ?_
          refine s_lt (t_pure (.bool false)) ?_
          refine s_skip ?_
          refine s_skip ?_
          refine s_skip ?_
          refine s_lt (t_pure (.bool false)) ?_
          refine s_lt (t_pure (.bool false)) ?_
          refine s_nil ?_
          exact xs_cut () trivial (sub_of rfl ⟨⟨rfl, rfl⟩, ⟨⟨rfl, rfl⟩, ⟨⟨rfl, rfl⟩, ⟨⟨rfl, rfl⟩, ⟨⟨rfl, rfl⟩, ⟨⟨rfl, show Value.bool false = Value.bool ((decide ((0 : Int) ≤ x.line)) && ((decide ((0 : Int) ≤ x.base)) && ((decide ((0 : Int) ≤ x.extra)) && (decide ((-1) ≤ x.want))))) by simp [c14]⟩, trivial⟩⟩⟩⟩⟩⟩) (fun _ h => h.re [] [])
      ·
        refine k_seq ?_
        refine k_reg ?_
        refine s_lt (t_pure (.pointer (some ⟨b5, 0, none⟩))) ?_
        refine s_lt (t_loadA 3 #[.int .i64 x.kind, .int .i64 x.n, .string x.name, .int .i64 x.line, .int .i64 x.base, .int .i64 x.extra, .int .i64 x.want, .bool x.tail]) ?_
        refine s_vcall (fun _ h => frame_s x) ?_
        rintro _ rfl
        rcases push_cases (runL l (l.length)) x (runL_len _ _) with ⟨hp, hr, hw⟩ | ⟨hp, hw, hn⟩ | ⟨hp, hw, hn⟩
        ·
          refine s_call [1] (push_e hp) ?_
          rintro _ _ ⟨rfl, rfl⟩
          refine s_lt (t_pure (.int .i64 2)) ?_
          refine s_nil ?_
          refine xs_then ?_
          refine k_seq ?_
          refine k_seq ?_
          refine k_reg ?_
          refine s_lt (t_pure (.int .i64 ((runL l (l.length)).length : Int))) ?_
          refine s_lt (Lt.to t_cmp (congrArg Value.bool (decide_eq_false (by have := runL_len l l.length; omega) : (decide ((150 : Int) < ((runL l (l.length)).length : Int))) = false))) ?_
          refine s_lt (t_pure (.bool false)) ?_
          refine s_lt (Lt.to (t_pure (.bool ((decide ((0 : Int) ≤ x.line)) && ((decide ((0 : Int) ≤ x.base)) && ((decide ((0 : Int) ≤ x.extra)) && (decide ((-1) ≤ x.want))))))) (congrArg Value.bool (by simp only [wellB] at hw; first | (simp only [Bool.and_eq_true, decide_eq_true_eq]; omega) | (simp only [Bool.and_eq_false_iff, decide_eq_false_iff_not]; omega) : ((decide ((0 : Int) ≤ x.line)) && ((decide ((0 : Int) ≤ x.base)) && ((decide ((0 : Int) ≤ x.extra)) && (decide ((-1) ≤ x.want))))) = false))) ?_
          refine s_lt (t_pure (.bool true)) ?_
          refine s_lt (t_pure (.bool true)) ?_
          refine s_lt (t_pure (.int .i64 2)) ?_
          refine s_lt (t_cmp (c := false)) ?_
          refine s_lt (t_pure (.bool false)) ?_
          refine s_lt (t_pure (.bool false)) ?_
          refine s_lt (t_pure (.bool false)) ?_
          refine s_lt (Lt.to (t_pure (.bool ((decide ((0 : Int) ≤ x.line)) && ((decide ((0 : Int) ≤ x.base)) && ((decide ((0 : Int) ≤ x.extra)) && (decide ((-1) ≤ x.want))))))) (congrArg Value.bool (by simp only [wellB] at hw; first | (simp only [Bool.and_eq_true, decide_eq_true_eq]; omega) | (simp only [Bool.and_eq_false_iff, decide_eq_false_iff_not]; omega) : ((decide ((0 : Int) ≤ x.line)) && ((decide ((0 : Int) ≤ x.base)) && ((decide ((0 : Int) ≤ x.extra)) && (decide ((-1) ≤ x.want))))) = false))) ?_
          refine s_lt (t_pure (.bool false)) ?_
          refine s_skip ?_
          refine s_skip ?_
          refine s_skip ?_
          refine s_skip ?_
          refine s_skip ?_
          refine s_lt (t_pure (.bool false)) ?_
          refine s_lt (t_pure (.bool false)) ?_
          refine s_nil ?_
          refine xs_then ?_
          refine k_false ?_
          refine k_skip ?_
          refine xs_then ?_
          refine k_seq ?_
          refine k_seq ?_
          refine k_reg ?_
          refine s_lt (t_pure (.int .i64 2)) ?_
          refine s_lt (t_cmp (c := false)) ?_
          refine s_nil ?_
          refine xs_then ?_
          refine k_false ?_
          refine k_skip ?_
          refine xs_then ?_
          refine k_seq ?_
          refine k_seq ?_
          refine k_reg ?_
          refine s_lt (t_pure (.pointer (some ⟨b5, 0, none⟩))) ?_
          refine s_pcall (fun _ h => trace_s (h.kn 0) (by have := runL_len l l.length; omega)) ?_
          rintro v23 _ rfl
          refine s_lt (t_pure v13) ?_
          refine s_vcall (fun _ h => places_s (Acc.kn (.own 0) h) (Acc.kn (.own 2) h)) ?_
          rintro u25 e24
          obtain rfl : u25 = .bool true := e24.trans (congrArg Value.bool (decide_eq_true rfl))
          refine s_lt (t_pure (.bool false)) ?_
          refine s_lt (t_pure (.bool false)) ?_
          refine s_lt (t_pure (.pointer (some ⟨b5, 0, none⟩))) ?_
          refine s_vcall (fun _ h => depth_s (h.kn 1)) ?_
          rintro _ rfl
          refine s_lt (t_pure (.int .i64 ((runL l (l.length)).length : Int))) ?_
          refine s_lt (Lt.to t_cmp (congrArg Value.bool (decide_eq_false (fun h => h rfl) : (decide (((runL l (l.length)).length : Int) ≠ ((runL l (l.length)).length : Int))) = false))) ?_
          refine s_lt (t_pure (.bool false)) ?_
          refine s_nil ?_
          refine xs_then ?_
          refine k_false ?_
          refine k_skip ?_
          refine xs_then ?_
          refine k_seq ?_
          refine k_reg ?_
          refine s_lt (t_pure (.pointer (some ⟨b5, 0, none⟩))) ?_
          refine s_lt (t_loadA 4 #[.int .i64 x.kind, .int .i64 x.n, .string x.name, .int .i64 x.line, .int .i64 x.base, .int .i64 x.extra, .int .i64 x.want, .bool x.tail]) ?_
          refine s_vcall (fun _ h => frame_s x) ?_
          rintro _ rfl
          refine s_call [1] (repl_e hr) ?_
          rintro _ _ ⟨rfl, rfl⟩
          refine s_lt (t_pure (.int .i64 2)) ?_
          refine s_nil ?_
          refine xs_then ?_
          refine k_seq ?_
          refine k_seq ?_
          refine k_reg ?_
          refine s_lt (Lt.to (t_pure (.bool ((decide ((0 : Int) ≤ x.line)) && ((decide ((0 : Int) ≤ x.base)) && ((decide ((0 : Int) ≤ x.extra)) && (decide ((-1) ≤ x.want))))))) (congrArg Value.bool (by simp only [wellB] at hw; first | (simp only [Bool.and_eq_true, decide_eq_true_eq]; omega) | (simp only [Bool.and_eq_false_iff, decide_eq_false_iff_not]; omega) : ((decide ((0 : Int) ≤ x.line)) && ((decide ((0 : Int) ≤ x.base)) && ((decide ((0 : Int) ≤ x.extra)) && (decide ((-1) ≤ x.want))))) = false))) ?_
          refine s_lt (t_pure (.bool true)) ?_
          refine s_lt (t_pure (.bool true)) ?_
          refine s_skip ?_
          refine s_skip ?_
          refine s_lt (t_pure (.bool true)) ?_
          refine s_nil ?_
          refine xs_then ?_
          refine k_true ?_
          refine k_seq ?_
          refine k_reg ?_
          refine s_lt (t_pure (.int .i64 2)) ?_
          refine s_lt (t_cmp (c := true)) ?_
          refine s_lt (t_pure (.bool true)) ?_
          refine s_lt (t_pure (.pointer (some ⟨b5, 0, none⟩))) ?_
          refine s_pcall (fun _ h => trace_s (h.kn 0) (by have := runL_len l l.length; omega)) ?_
          rintro v26 _ rfl
          refine s_lt (t_pure v13) ?_
          refine s_vcall (fun _ h => places_s (Acc.kn (.own 0) h) (Acc.kn (.own 3) h)) ?_
          rintro u28 e27
          obtain rfl : u28 = .bool true := e27.trans (congrArg Value.bool (decide_eq_true rfl))
          refine s_lt (t_pure (.bool true)) ?_
          refine s_lt (t_pure (.bool true)) ?_
          refine s_vcall (fun _ h => awake_s) ?_
          rintro _ rfl
          refine s_lt (t_pure (.bool true)) ?_
          refine s_lt (t_pure (.bool true)) ?_
          refine s_nil ?_
          refine xs_then ?_
          refine k_ret ?_
          refine xs_ret ?_
          exact xs_fin [.bool true] [] (SI.tmp 4 SI.nil) (fun _ h => h.re [] [0, 0, 0, 0, 0, 0]) ⟨rfl, rfl⟩
        ·
          refine s_call [1] (push_e hp) ?_
          rintro _ _ ⟨rfl, rfl⟩
          refine s_lt (t_pure (.int .i64 17)) ?_
          refine s_nil ?_
          refine xs_then ?_
          refine k_seq ?_
          refine k_seq ?_
          refine k_reg ?_
          refine s_lt (t_pure (.int .i64 ((runL l (l.length)).length : Int))) ?_
          refine s_lt (Lt.to t_cmp (congrArg Value.bool (decide_eq_false (by have := runL_len l l.length; omega) : (decide ((150 : Int) < ((runL l (l.length)).length : Int))) = false))) ?_
          refine s_lt (t_pure (.bool false)) ?_
          refine s_lt (Lt.to (t_pure (.bool ((decide ((0 : Int) ≤ x.line)) && ((decide ((0 : Int) ≤ x.base)) && ((decide ((0 : Int) ≤ x.extra)) && (decide ((-1) ≤ x.want))))))) (congrArg Value.bool (by simp only [wellB] at hw; first | (simp only [Bool.and_eq_true, decide_eq_true_eq]; omega) | (simp only [Bool.and_eq_false_iff, decide_eq_false_iff_not]; omega) : ((decide ((0 : Int) ≤ x.line)) && ((decide ((0 : Int) ≤ x.base)) && ((decide ((0 : Int) ≤ x.extra)) && (decide ((-1) ≤ x.want))))) = true))) ?_
          refine s_lt (t_pure (.bool false)) ?_
          refine s_lt (t_pure (.bool false)) ?_
          refine s_skip ?_
          refine s_skip ?_
          refine s_lt (t_pure (.bool false)) ?_
          refine s_lt (t_pure (.bool false)) ?_
          refine s_lt (t_pure (.bool false)) ?_
          refine s_lt (Lt.to (t_pure (.bool ((decide ((0 : Int) ≤ x.line)) && ((decide ((0 : Int) ≤ x.base)) && ((decide ((0 : Int) ≤ x.extra)) && (decide ((-1) ≤ x.want))))))) (congrArg Value.bool (by simp only [wellB] at hw; first | (simp only [Bool.and_eq_true, decide_eq_true_eq]; omega) | (simp only [Bool.and_eq_false_iff, decide_eq_false_iff_not]; omega) : ((decide ((0 : Int) ≤ x.line)) && ((decide ((0 : Int) ≤ x.base)) && ((decide ((0 : Int) ≤ x.extra)) && (decide ((-1) ≤ x.want))))) = true))) ?_
          refine s_lt (t_pure (.bool true)) ?_
          refine s_lt (t_pure (.int .i64 17)) ?_
          refine s_lt (t_cmp (c := false)) ?_
          refine s_lt (t_pure (.int .i64 ((runL l (l.length)).length : Int))) ?_
          refine s_lt (Lt.to t_cmp (congrArg Value.bool (decide_eq_false (by omega) : (decide (((runL l (l.length)).length : Int) < 150)) = false))) ?_
          refine s_lt (t_pure (.bool false)) ?_
          refine s_lt (t_pure (.bool false)) ?_
          refine s_lt (t_pure (.bool false)) ?_
          refine s_nil ?_
          refine xs_then ?_
          refine k_false ?_
          refine k_skip ?_
          refine xs_then ?_
          refine k_seq ?_
          refine k_seq ?_
          refine k_reg ?_
          refine s_lt (t_pure (.int .i64 17)) ?_
          refine s_lt (t_cmp (c := false)) ?_
          refine s_nil ?_
          refine xs_then ?_
          refine k_false ?_
          refine k_skip ?_
          refine xs_then ?_
          refine k_seq ?_
          refine k_seq ?_
          refine k_reg ?_
          refine s_lt (t_pure (.pointer (some ⟨b5, 0, none⟩))) ?_
          refine s_pcall (fun _ h => trace_s (h.kn 0) (by have := runL_len l l.length; omega)) ?_
          rintro v29 _ rfl
          refine s_lt (t_pure v13) ?_
          refine s_vcall (fun _ h => places_s (Acc.kn (.own 0) h) (Acc.kn (.own 2) h)) ?_
          rintro u31 e30
          obtain rfl : u31 = .bool true := e30.trans (congrArg Value.bool (decide_eq_true rfl))
          refine s_lt (t_pure (.bool false)) ?_
          refine s_lt (t_pure (.bool false)) ?_
          refine s_lt (t_pure (.pointer (some ⟨b5, 0, none⟩))) ?_
          refine s_vcall (fun _ h => depth_s (h.kn 1)) ?_
          rintro _ rfl
          refine s_lt (t_pure (.int .i64 ((runL l (l.length)).length : Int))) ?_
          refine s_lt (Lt.to t_cmp (congrArg Value.bool (decide_eq_false (fun h => h rfl) : (decide (((runL l (l.length)).length : Int) ≠ ((runL l (l.length)).length : Int))) = false))) ?_
          refine s_lt (t_pure (.bool false)) ?_
          refine s_nil ?_
          refine xs_then ?_
          refine k_false ?_
          refine k_skip ?_
          refine xs_then ?_
          refine k_seq ?_
          refine k_reg ?_
          refine s_lt (t_pure (.pointer (some ⟨b5, 0, none⟩))) ?_
          refine s_lt (t_loadA 4 #[.int .i64 x.kind, .int .i64 x.n, .string x.name, .int .i64 x.line, .int .i64 x.base, .int .i64 x.extra, .int .i64 x.want, .bool x.tail]) ?_
          refine s_vcall (fun _ h => frame_s x) ?_
          rintro _ rfl
          rcases repl_cases (runL l (l.length)) x hw with ⟨hq, hn2⟩ | ⟨hq, hn2⟩
          ·
            refine s_call [1] (repl_e hq) ?_
            rintro _ _ ⟨rfl, rfl⟩
            refine s_lt (t_pure (.int .i64 18)) ?_
            refine s_nil ?_
            refine xs_then ?_
            refine k_seq ?_
            refine k_seq ?_
            refine k_reg ?_
            refine s_lt (Lt.to (t_pure (.bool ((decide ((0 : Int) ≤ x.line)) && ((decide ((0 : Int) ≤ x.base)) && ((decide ((0 : Int) ≤ x.extra)) && (decide ((-1) ≤ x.want))))))) (congrArg Value.bool (by simp only [wellB] at hw; first | (simp only [Bool.and_eq_true, decide_eq_true_eq]; omega) | (simp only [Bool.and_eq_false_iff, decide_eq_false_iff_not]; omega) : ((decide ((0 : Int) ≤ x.line)) && ((decide ((0 : Int) ≤ x.base)) && ((decide ((0 : Int) ≤ x.extra)) && (decide ((-1) ≤ x.want))))) = true))) ?_
            refine s_lt (t_pure (.bool false)) ?_
            refine s_lt (t_pure (.bool false)) ?_
            refine s_lt (t_pure (.int .i64 ((runL l (l.length)).length : Int))) ?_
            refine s_lt (Lt.to t_cmp (congrArg Value.bool (decide_eq_true (by omega) : (decide (((runL l (l.length)).length : Int) = 0)) = true))) ?_
            refine s_lt (t_pure (.bool true)) ?_
            refine s_nil ?_
            refine xs_then ?_
            refine k_true ?_
            refine k_seq ?_
            refine k_reg ?_
            refine s_lt (t_pure (.int .i64 18)) ?_
            refine s_lt (t_cmp (c := true)) ?_
            refine s_lt (t_pure (.bool true)) ?_
            refine s_lt (t_pure (.pointer (some ⟨b5, 0, none⟩))) ?_
            refine s_pcall (fun _ h => trace_s (h.kn 0) (by have := runL_len l l.length; omega)) ?_
            rintro v32 _ rfl
            refine s_lt (t_pure v13) ?_
            refine s_vcall (fun _ h => places_s (Acc.kn (.own 0) h) (Acc.kn (.own 3) h)) ?_
            rintro u34 e33
            obtain rfl : u34 = .bool true := e33.trans (congrArg Value.bool (decide_eq_true rfl))
            refine s_lt (t_pure (.bool true)) ?_
            refine s_lt (t_pure (.bool true)) ?_
            refine s_vcall (fun _ h => awake_s) ?_
            rintro _ rfl
            refine s_lt (t_pure (.bool true)) ?_
            refine s_lt (t_pure (.bool true)) ?_
            refine s_nil ?_
            refine xs_then ?_
            refine k_ret ?_
            refine xs_ret ?_
            exact xs_fin [.bool true] [] (SI.tmp 4 SI.nil) (fun _ h => h.re [] [0, 0, 0, 0, 0, 0]) ⟨rfl, rfl⟩
          ·
            refine s_call [1] (repl_e hq) ?_
            rintro _ _ ⟨rfl, rfl⟩
            refine s_lt (t_pure (.int .i64 0)) ?_
            refine s_nil ?_
            refine xs_then ?_
            refine k_seq ?_
            refine k_seq ?_
            refine k_reg ?_
            refine s_lt (Lt.to (t_pure (.bool ((decide ((0 : Int) ≤ x.line)) && ((decide ((0 : Int) ≤ x.base)) && ((decide ((0 : Int) ≤ x.extra)) && (decide ((-1) ≤ x.want))))))) (congrArg Value.bool (by simp only [wellB] at hw; first | (simp only [Bool.and_eq_true, decide_eq_true_eq]; omega) | (simp only [Bool.and_eq_false_iff, decide_eq_false_iff_not]; omega) : ((decide ((0 : Int) ≤ x.line)) && ((decide ((0 : Int) ≤ x.base)) && ((decide ((0 : Int) ≤ x.extra)) && (decide ((-1) ≤ x.want))))) = true))) ?_
            refine s_lt (t_pure (.bool false)) ?_
            refine s_lt (t_pure (.bool false)) ?_
            refine s_lt (t_pure (.int .i64 ((runL l (l.length)).length : Int))) ?_
            refine s_lt (Lt.to t_cmp (congrArg Value.bool (decide_eq_false (by omega) : (decide (((runL l (l.length)).length : Int) = 0)) = false))) ?_
            refine s_lt (t_pure (.bool false)) ?_
            refine s_nil ?_
            refine xs_then ?_
            refine k_false ?_
            refine k_skip ?_
            refine xs_then ?_
            refine k_seq ?_
            refine k_reg ?_
            refine s_lt (t_pure (.pointer (some ⟨b5, 0, none⟩))) ?_
            refine s_call [0] (pop_e (pop_set _ hn2)) ?_
            rintro _ _ ⟨rfl, rfl⟩
            refine s_lt (t_pure (.tuple #[.agg #[.string ((tl x.fr).name), .int .i64 ((tl x.fr).line), .int .i64 ((tl x.fr).base), .int .i64 ((tl x.fr).extra), .int .i64 ((tl x.fr).want), .bool ((tl x.fr).tail)], .bool true])) ?_
            refine s_lt (t_pure (.agg #[.string ((tl x.fr).name), .int .i64 ((tl x.fr).line), .int .i64 ((tl x.fr).base), .int .i64 ((tl x.fr).extra), .int .i64 ((tl x.fr).want), .bool ((tl x.fr).tail)])) ?_
            refine s_lt (t_pure (.bool true)) ?_
            refine s_alloc (.agg #[.string ByteArray.empty, .int .i64 0, .int .i64 0, .int .i64 0, .int .i64 0, .bool false]) #[.string ByteArray.empty, .int .i64 0, .int .i64 0, .int .i64 0, .int .i64 0, .bool false] (fun g35 => ?_)
            refine s_store 0 #[.string ((tl x.fr).name), .int .i64 ((tl x.fr).line), .int .i64 ((tl x.fr).base), .int .i64 ((tl x.fr).extra), .int .i64 ((tl x.fr).want), .bool ((tl x.fr).tail)] ?_
            refine s_lt (t_pure (.bool true)) ?_
            refine s_nil ?_
            refine xs_then ?_
            refine k_seq ?_
            refine k_reg ?_
            refine s_lt (t_pure (.int .i64 0)) ?_
            refine s_lt (t_cmp (c := true)) ?_
            refine s_lt (t_pure (.bool true)) ?_
            refine s_lt (t_pure (.bool true)) ?_
            refine s_lt (t_pure (.bool true)) ?_
            refine s_lt (t_pure (.bool true)) ?_
            refine s_lt (t_pure (.pointer (some ⟨g35, 5, none⟩))) ?_
            refine s_lt (t_load 0) ?_
            refine s_lt (t_pure (.bool ((tl x.fr).tail))) ?_
            refine s_lt (Lt.to (t_pure (.bool ((tl x.fr).tail))) (congrArg Value.bool (rfl : ((tl x.fr).tail) = true))) ?_
            refine s_lt (t_pure (.pointer (some ⟨g35, 0, none⟩))) ?_
            refine s_lt (t_load 0) ?_
            refine s_lt (t_pure (.pointer (some ⟨g1, 2, none⟩))) ?_
            refine s_lt (t_load 5) ?_
            refine s_lt (Lt.to t_cmpS (congrArg Value.bool (decide_eq_true (by first | rfl | (simp; omega)) : (decide ((tl x.fr).name = x.name)) = true))) ?_
            refine s_lt (t_pure (.bool true)) ?_
            refine s_lt (t_pure (.bool true)) ?_
            refine s_lt (t_pure (.pointer (some ⟨b5, 0, none⟩))) ?_
            refine s_vcall (fun _ h => depth_s (h.kn 1)) ?_
            rintro _ rfl
            refine s_lt (t_pure (.int .i64 ((runL l (l.length)).length : Int))) ?_
            refine s_lt (t_sub ((runL l (l.length)).length : Int) 1 (by (try simp only [List.length_nil, List.length_cons, List.length_append, List.length_take, List.length_drop, List.length_set, List.length_replicate]); omega)) ?_
            refine s_lt (Lt.to t_cmp (congrArg Value.bool (decide_eq_true (by first | rfl | (simp; omega)) : (decide ((((runL l (l.length)).take ((runL l (l.length)).length - 1)).length : Int) = (((runL l (l.length)).length : Int) - 1))) = true))) ?_
            refine s_lt (t_pure (.bool true)) ?_
            refine s_lt (t_pure (.bool true)) ?_
            refine s_vcall (fun _ h => awake_s) ?_
            rintro _ rfl
            refine s_lt (t_pure (.bool true)) ?_
            refine s_lt (t_pure (.bool true)) ?_
            refine s_nil ?_
            refine xs_then ?_
            refine k_ret ?_
            exact xs_fin [.bool true] [] (SI.tmp 4 SI.nil) (fun _ h => h.re [] [0, 0, 0, 0, 0, 0]) ⟨rfl, rfl⟩
        ·
          refine s_call [1] (push_e hp) ?_
          rintro _ _ ⟨rfl, rfl⟩
          refine s_lt (t_pure (.int .i64 0)) ?_
          refine s_nil ?_
          refine xs_then ?_
          refine k_seq ?_
          refine k_seq ?_
          refine k_reg ?_
          refine s_lt (t_pure (.int .i64 ((runL l (l.length)).length : Int))) ?_
          refine s_lt (Lt.to t_cmp (congrArg Value.bool (decide_eq_false (by have := runL_len l l.length; omega) : (decide ((150 : Int) < ((runL l (l.length)).length : Int))) = false))) ?_
          refine s_lt (t_pure (.bool false)) ?_
          refine s_lt (Lt.to (t_pure (.bool ((decide ((0 : Int) ≤ x.line)) && ((decide ((0 : Int) ≤ x.base)) && ((decide ((0 : Int) ≤ x.extra)) && (decide ((-1) ≤ x.want))))))) (congrArg Value.bool (by simp only [wellB] at hw; first | (simp only [Bool.and_eq_true, decide_eq_true_eq]; omega) | (simp only [Bool.and_eq_false_iff, decide_eq_false_iff_not]; omega) : ((decide ((0 : Int) ≤ x.line)) && ((decide ((0 : Int) ≤ x.base)) && ((decide ((0 : Int) ≤ x.extra)) && (decide ((-1) ≤ x.want))))) = true))) ?_
          refine s_lt (t_pure (.bool false)) ?_
          refine s_lt (t_pure (.bool false)) ?_
          refine s_skip ?_
          refine s_skip ?_
          refine s_lt (t_pure (.bool false)) ?_
          refine s_lt (t_pure (.bool false)) ?_
          refine s_lt (t_pure (.bool false)) ?_
          refine s_lt (Lt.to (t_pure (.bool ((decide ((0 : Int) ≤ x.line)) && ((decide ((0 : Int) ≤ x.base)) && ((decide ((0 : Int) ≤ x.extra)) && (decide ((-1) ≤ x.want))))))) (congrArg Value.bool (by simp only [wellB] at hw; first | (simp only [Bool.and_eq_true, decide_eq_true_eq]; omega) | (simp only [Bool.and_eq_false_iff, decide_eq_false_iff_not]; omega) : ((decide ((0 : Int) ≤ x.line)) && ((decide ((0 : Int) ≤ x.base)) && ((decide ((0 : Int) ≤ x.extra)) && (decide ((-1) ≤ x.want))))) = true))) ?_
          refine s_lt (t_pure (.bool true)) ?_
          refine s_lt (t_pure (.int .i64 0)) ?_
          refine s_lt (t_cmp (c := true)) ?_
          refine s_lt (t_pure (.int .i64 ((runL l (l.length)).length : Int))) ?_
          refine s_lt (Lt.to t_cmp (congrArg Value.bool (decide_eq_true (by omega) : (decide (((runL l (l.length)).length : Int) < 150)) = true))) ?_
          refine s_lt (t_pure (.bool false)) ?_
          refine s_lt (t_pure (.bool false)) ?_
          refine s_lt (t_pure (.bool false)) ?_
          refine s_nil ?_
          refine xs_then ?_
          refine k_false ?_
          refine k_skip ?_
          refine xs_then ?_
          refine k_seq ?_
          refine k_seq ?_
          refine k_reg ?_
          refine s_lt (t_pure (.int .i64 0)) ?_
          refine s_lt (t_cmp (c := true)) ?_
          refine s_nil ?_
          refine xs_then ?_
          refine k_true ?_
          refine k_seq ?_
          refine k_reg ?_
          refine s_lt (t_pure (.pointer (some ⟨b5, 0, none⟩))) ?_
          refine s_call [0] (pop_e (pop_last _ _)) ?_
          rintro _ _ ⟨rfl, rfl⟩
          refine s_lt (t_pure (.tuple #[.agg #[.string x.fr.name, .int .i64 x.fr.line, .int .i64 x.fr.base, .int .i64 x.fr.extra, .int .i64 x.fr.want, .bool x.fr.tail], .bool true])) ?_
          refine s_lt (t_pure (.agg #[.string x.fr.name, .int .i64 x.fr.line, .int .i64 x.fr.base, .int .i64 x.fr.extra, .int .i64 x.fr.want, .bool x.fr.tail])) ?_
          refine s_lt (t_pure (.bool true)) ?_
          refine s_alloc (.agg #[.string ByteArray.empty, .int .i64 0, .int .i64 0, .int .i64 0, .int .i64 0, .bool false]) #[.string ByteArray.empty, .int .i64 0, .int .i64 0, .int .i64 0, .int .i64 0, .bool false] (fun g36 => ?_)
          refine s_store 0 #[.string x.fr.name, .int .i64 x.fr.line, .int .i64 x.fr.base, .int .i64 x.fr.extra, .int .i64 x.fr.want, .bool x.fr.tail] ?_
          refine s_lt (t_pure (.bool true)) ?_
          refine s_nil ?_
          refine xs_then ?_
          refine k_seq ?_
          refine k_held [blkA g36 #[.string x.fr.name, .int .i64 x.fr.line, .int .i64 x.fr.base, .int .i64 x.fr.extra, .int .i64 x.fr.want, .bool x.fr.tail] 46, own PlT v13 (trL (runL l (l.length))), blkA g1 #[.int .i64 x.kind, .int .i64 x.n, .string x.name, .int .i64 x.line, .int .i64 x.base, .int .i64 x.extra, .int .i64 x.want, .bool x.tail] 30] ?_
          refine h_lt 0 rfl (np_then (np_then np_finS)) [0, 1, 2] (fun _ => (t_loadA 0 #[.string x.fr.name, .int .i64 x.fr.line, .int .i64 x.fr.base, .int .i64 x.fr.extra, .int .i64 x.fr.want, .bool x.fr.tail])) ?_
          refine h_stepS 1 ?_
          refine s_lt (t_loadA 4 #[.int .i64 x.kind, .int .i64 x.n, .string x.name, .int .i64 x.line, .int .i64 x.base, .int .i64 x.extra, .int .i64 x.want, .bool x.tail]) ?_
          refine s_nil (xs_held [0, 1, 2] ?_)
          refine h_stepS 2 ?_
          refine s_vcall (fun _ h => frame_s x) ?_
          rintro _ rfl
          refine s_nil (xs_held [0, 1, 2] ?_)
          refine h_stepS 3 ?_
          refine s_lt (Lt.to (t_eqS (fun w => (eq46 x.fr x.fr w).2)) (congrArg Value.bool ((congrArg Bool.not (decide_eq_true rfl : (decide (x.fr = x.fr)) = true)).trans rfl : (!(decide (x.fr = x.fr))) = false))) ?_
          refine s_nil (xs_held [0, 1, 2] ?_)
          refine h_stepS 4 ?_
          refine s_lt (t_pure (.bool false)) ?_
          refine s_nil (xs_held [0, 1, 2] ?_)
          refine h_stepS 5 ?_
          refine s_lt (t_pure (.bool true)) ?_
          refine s_nil (xs_held [0, 1, 2] ?_)
          refine h_stepS 6 ?_
          refine s_lt (t_pure (.bool false)) ?_
          refine s_nil (xs_held [0, 1, 2] ?_)
          refine h_stepS 7 ?_
          refine s_lt (t_pure (.bool false)) ?_
          refine s_nil (xs_held [0, 1, 2] ?_)
          refine h_doneS ?_
          refine xs_then ?_
          refine k_false ?_
          refine k_skip ?_
          refine xs_then ?_
          refine k_seq ?_
          refine k_seq ?_
          refine k_reg ?_
          refine s_lt (t_pure (.pointer (some ⟨b5, 0, none⟩))) ?_
          refine s_pcall (fun _ h => trace_s (h.kn 1) (by have := runL_len l l.length; omega)) ?_
          rintro v37 _ rfl
          refine s_lt (t_pure v13) ?_
          refine s_vcall (fun _ h => places_s (Acc.kn (.own 0) h) (Acc.kn (.own 3) h)) ?_
          rintro u39 e38
          obtain rfl : u39 = .bool true := e38.trans (congrArg Value.bool (decide_eq_true rfl))
          refine s_lt (t_pure (.bool false)) ?_
          refine s_lt (t_pure (.bool false)) ?_
          refine s_lt (t_pure (.pointer (some ⟨b5, 0, none⟩))) ?_
          refine s_vcall (fun _ h => depth_s (h.kn 2)) ?_
          rintro _ rfl
          refine s_lt (t_pure (.int .i64 ((runL l (l.length)).length : Int))) ?_
          refine s_lt (Lt.to t_cmp (congrArg Value.bool (decide_eq_false (fun h => h rfl) : (decide (((runL l (l.length)).length : Int) ≠ ((runL l (l.length)).length : Int))) = false))) ?_
          refine s_lt (t_pure (.bool false)) ?_
          refine s_nil ?_
          refine xs_then ?_
          refine k_false ?_
          refine k_skip ?_
          refine xs_then ?_
          refine k_seq ?_
          refine k_reg ?_
          refine s_lt (t_pure (.pointer (some ⟨b5, 0, none⟩))) ?_
          refine s_lt (t_loadA 5 #[.int .i64 x.kind, .int .i64 x.n, .string x.name, .int .i64 x.line, .int .i64 x.base, .int .i64 x.extra, .int .i64 x.want, .bool x.tail]) ?_
          refine s_vcall (fun _ h => frame_s x) ?_
          rintro _ rfl
          rcases repl_cases (runL l (l.length)) x hw with ⟨hq, hn2⟩ | ⟨hq, hn2⟩
          ·
            refine s_call [2] (repl_e hq) ?_
            rintro _ _ ⟨rfl, rfl⟩
            refine s_lt (t_pure (.int .i64 18)) ?_
            refine s_nil ?_
            refine xs_then ?_
            refine k_seq ?_
            refine k_seq ?_
            refine k_reg ?_
            refine s_lt (Lt.to (t_pure (.bool ((decide ((0 : Int) ≤ x.line)) && ((decide ((0 : Int) ≤ x.base)) && ((decide ((0 : Int) ≤ x.extra)) && (decide ((-1) ≤ x.want))))))) (congrArg Value.bool (by simp only [wellB] at hw; first | (simp only [Bool.and_eq_true, decide_eq_true_eq]; omega) | (simp only [Bool.and_eq_false_iff, decide_eq_false_iff_not]; omega) : ((decide ((0 : Int) ≤ x.line)) && ((decide ((0 : Int) ≤ x.base)) && ((decide ((0 : Int) ≤ x.extra)) && (decide ((-1) ≤ x.want))))) = true))) ?_
            refine s_lt (t_pure (.bool false)) ?_
            refine s_lt (t_pure (.bool false)) ?_
            refine s_lt (t_pure (.int .i64 ((runL l (l.length)).length : Int))) ?_
            refine s_lt (Lt.to t_cmp (congrArg Value.bool (decide_eq_true (by omega) : (decide (((runL l (l.length)).length : Int) = 0)) = true))) ?_
            refine s_lt (t_pure (.bool true)) ?_
            refine s_nil ?_
            refine xs_then ?_
            refine k_true ?_
            refine k_seq ?_
            refine k_reg ?_
            refine s_lt (t_pure (.int .i64 18)) ?_
            refine s_lt (t_cmp (c := true)) ?_
            refine s_lt (t_pure (.bool true)) ?_
            refine s_lt (t_pure (.pointer (some ⟨b5, 0, none⟩))) ?_
            refine s_pcall (fun _ h => trace_s (h.kn 0) (by have := runL_len l l.length; omega)) ?_
            rintro v40 _ rfl
            refine s_lt (t_pure v13) ?_
            refine s_vcall (fun _ h => places_s (Acc.kn (.own 0) h) (Acc.kn (.own 4) h)) ?_
            rintro u42 e41
            obtain rfl : u42 = .bool true := e41.trans (congrArg Value.bool (decide_eq_true rfl))
            refine s_lt (t_pure (.bool true)) ?_
            refine s_lt (t_pure (.bool true)) ?_
            refine s_vcall (fun _ h => awake_s) ?_
            rintro _ rfl
            refine s_lt (t_pure (.bool true)) ?_
            refine s_lt (t_pure (.bool true)) ?_
            refine s_nil ?_
            refine xs_then ?_
            refine k_ret ?_
            refine xs_ret ?_
            exact xs_fin [.bool true] [] (SI.tmp 4 SI.nil) (fun _ h => h.re [] [0, 0, 0, 0, 0, 0, 0]) ⟨rfl, rfl⟩
          ·
            refine s_call [2] (repl_e hq) ?_
            rintro _ _ ⟨rfl, rfl⟩
            refine s_lt (t_pure (.int .i64 0)) ?_
            refine s_nil ?_
            refine xs_then ?_
            refine k_seq ?_
            refine k_seq ?_
            refine k_reg ?_
            refine s_lt (Lt.to (t_pure (.bool ((decide ((0 : Int) ≤ x.line)) && ((decide ((0 : Int) ≤ x.base)) && ((decide ((0 : Int) ≤ x.extra)) && (decide ((-1) ≤ x.want))))))) (congrArg Value.bool (by simp only [wellB] at hw; first | (simp only [Bool.and_eq_true, decide_eq_true_eq]; omega) | (simp only [Bool.and_eq_false_iff, decide_eq_false_iff_not]; omega) : ((decide ((0 : Int) ≤ x.line)) && ((decide ((0 : Int) ≤ x.base)) && ((decide ((0 : Int) ≤ x.extra)) && (decide ((-1) ≤ x.want))))) = true))) ?_
            refine s_lt (t_pure (.bool false)) ?_
            refine s_lt (t_pure (.bool false)) ?_
            refine s_lt (t_pure (.int .i64 ((runL l (l.length)).length : Int))) ?_
            refine s_lt (Lt.to t_cmp (congrArg Value.bool (decide_eq_false (by omega) : (decide (((runL l (l.length)).length : Int) = 0)) = false))) ?_
            refine s_lt (t_pure (.bool false)) ?_
            refine s_nil ?_
            refine xs_then ?_
            refine k_false ?_
            refine k_skip ?_
            refine xs_then ?_
            refine k_seq ?_
            refine k_reg ?_
            refine s_lt (t_pure (.pointer (some ⟨b5, 0, none⟩))) ?_
            refine s_call [0] (pop_e (pop_set _ hn2)) ?_
            rintro _ _ ⟨rfl, rfl⟩
            refine s_lt (t_pure (.tuple #[.agg #[.string ((tl x.fr).name), .int .i64 ((tl x.fr).line), .int .i64 ((tl x.fr).base), .int .i64 ((tl x.fr).extra), .int .i64 ((tl x.fr).want), .bool ((tl x.fr).tail)], .bool true])) ?_
            refine s_lt (t_pure (.agg #[.string ((tl x.fr).name), .int .i64 ((tl x.fr).line), .int .i64 ((tl x.fr).base), .int .i64 ((tl x.fr).extra), .int .i64 ((tl x.fr).want), .bool ((tl x.fr).tail)])) ?_
            refine s_lt (t_pure (.bool true)) ?_
            refine s_alloc (.agg #[.string ByteArray.empty, .int .i64 0, .int .i64 0, .int .i64 0, .int .i64 0, .bool false]) #[.string ByteArray.empty, .int .i64 0, .int .i64 0, .int .i64 0, .int .i64 0, .bool false] (fun g43 => ?_)
            refine s_store 0 #[.string ((tl x.fr).name), .int .i64 ((tl x.fr).line), .int .i64 ((tl x.fr).base), .int .i64 ((tl x.fr).extra), .int .i64 ((tl x.fr).want), .bool ((tl x.fr).tail)] ?_
            refine s_lt (t_pure (.bool true)) ?_
            refine s_nil ?_
            refine xs_then ?_
            refine k_seq ?_
            refine k_reg ?_
            refine s_lt (t_pure (.int .i64 0)) ?_
            refine s_lt (t_cmp (c := true)) ?_
            refine s_lt (t_pure (.bool true)) ?_
            refine s_lt (t_pure (.bool true)) ?_
            refine s_lt (t_pure (.bool true)) ?_
            refine s_lt (t_pure (.bool true)) ?_
            refine s_lt (t_pure (.pointer (some ⟨g43, 5, none⟩))) ?_
            refine s_lt (t_load 0) ?_
            refine s_lt (t_pure (.bool ((tl x.fr).tail))) ?_
            refine s_lt (Lt.to (t_pure (.bool ((tl x.fr).tail))) (congrArg Value.bool (rfl : ((tl x.fr).tail) = true))) ?_
            refine s_lt (t_pure (.pointer (some ⟨g43, 0, none⟩))) ?_
            refine s_lt (t_load 0) ?_
            refine s_lt (t_pure (.pointer (some ⟨g1, 2, none⟩))) ?_
            refine s_lt (t_load 6) ?_
            refine s_lt (Lt.to t_cmpS (congrArg Value.bool (decide_eq_true (by first | rfl | (simp; omega)) : (decide ((tl x.fr).name = x.name)) = true))) ?_
            refine s_lt (t_pure (.bool true)) ?_
            refine s_lt (t_pure (.bool true)) ?_
            refine s_lt (t_pure (.pointer (some ⟨b5, 0, none⟩))) ?_
            refine s_vcall (fun _ h => depth_s (h.kn 1)) ?_
            rintro _ rfl
            refine s_lt (t_pure (.int .i64 ((runL l (l.length)).length : Int))) ?_
            refine s_lt (t_sub ((runL l (l.length)).length : Int) 1 (by (try simp only [List.length_nil, List.length_cons, List.length_append, List.length_take, List.length_drop, List.length_set, List.length_replicate]); omega)) ?_
            refine s_lt (Lt.to t_cmp (congrArg Value.bool (decide_eq_true (by first | rfl | (simp; omega)) : (decide ((((runL l (l.length)).take ((runL l (l.length)).length - 1)).length : Int) = (((runL l (l.length)).length : Int) - 1))) = true))) ?_
            refine s_lt (t_pure (.bool true)) ?_
            refine s_lt (t_pure (.bool true)) ?_
            refine s_vcall (fun _ h => awake_s) ?_
            rintro _ rfl
            refine s_lt (t_pure (.bool true)) ?_
            refine s_lt (t_pure (.bool true)) ?_
            refine s_nil ?_
            refine xs_then ?_
            refine k_ret ?_
            exact xs_fin [.bool true] [] (SI.tmp 4 SI.nil) (fun _ h => h.re [] [0, 0, 0, 0, 0, 0, 0]) ⟨rfl, rfl⟩
end Go.Proofs.Ytikbimlfbcffhaa
