/-
  Clear of layer 26, of the program and of the reference. Each law says its conditions.
-/
import Derived.Test.YtjdlkemmcnncaaaW4
set_option linter.unusedSimpArgs false
set_option linter.unusedVariables false
set_option maxRecDepth 100000
set_option maxHeartbeats 2000000
namespace Go.Proofs.Ytjdlkemmcnncaaa
open Go.Hp Go.J Go.S
open Go.Mem (Ty KTy blk elemAt pre suf blk_pre blk_suf aget aset strK aggDesc)
def lostB (A : List Int) (id : Int) : Bool := decide (id ≠ 0) && !decide (id ∈ A)
def keepB (A : List Int) (weak : Int) (e : Ent) : Bool := !(((decide (weak = 1) || decide (weak = 3)) && lostB A e.key) || ((decide (weak = 2) || decide (weak = 3)) && lostB A e.val))
def ascA (last : Int) : List Int → Bool
  | [] => true
  | a :: r => decide (last < a) && ascA a r
theorem ascA_drop {last : Int} {L : List Int} {i : Nat} {y : Int} (hy : L[i]? = some y) : ascA last (L.drop i) = (decide (last < y) && ascA y (L.drop (i + 1))) := by
  have h : L.drop i = y :: L.drop (i + 1) := by
    obtain ⟨hi, e⟩ := List.getElem?_eq_some_iff.1 hy
    rw [← e]; exact List.drop_eq_getElem_cons hi
  rw [h]; rfl
theorem ascA_lt {last : Int} {L : List Int} (h : ascA last L = true) : ∀ x ∈ L, last < x := by
  induction L generalizing last with
  | nil => simp
  | cons a r ih =>
    simp only [ascA, Bool.and_eq_true, decide_eq_true_eq] at h
    intro x hx
    rcases List.mem_cons.1 hx with rfl | hx
    · exact h.1
    · have := ih h.2 x hx; omega
theorem ascA_asc {last : Int} {L : List Int} (h : ascA last L = true) : L.Pairwise (· < ·) := by
  induction L generalizing last with
  | nil => exact .nil
  | cons a r ih =>
    simp only [ascA, Bool.and_eq_true, decide_eq_true_eq] at h
    exact List.pairwise_cons.2 ⟨ascA_lt h.2, ih h.2⟩
theorem ascA_of {last : Int} {L : List Int} (h : L.Pairwise (· < ·)) (h0 : ∀ x ∈ L, last < x) : ascA last L = true := by
  induction L generalizing last with
  | nil => rfl
  | cons a r ih =>
    obtain ⟨h1, h2⟩ := List.pairwise_cons.1 h
    simp only [ascA, Bool.and_eq_true, decide_eq_true_eq]
    exact ⟨h0 a (by simp), ih h2 h1⟩
abbrev Core := Int × Int × Int × List Int × List Ent
def clr (A : List Int) (x : Ob) : Core := (x.id, x.size, x.weak, x.refs, x.ents.filter (keepB A x.weak))
def AllO (L : List Ob) (H : Heap) : Prop := ∀ x ∈ L, Sl H iTy x.rv.v x.refs ∧ Sl H EntT x.ev.v x.ents
theorem frz_push {Z : Zone} {As : List Asr} {H : Heap} {L : List Ob} (nb : Ob) (h : Holds Z (own iTy nb.rv.v nb.refs :: own EntT nb.ev.v nb.ents :: frz (AllO L) :: As) H) : Holds Z (frz (AllO (L ++ [nb])) :: As) H := by
  have h1 : Holds Z (own EntT nb.ev.v nb.ents :: frz (AllO L) :: own iTy nb.rv.v nb.refs :: As) H := h.re [1, 1] []
  have h2 := h1.frzO
  have h3 : Holds Z (own iTy nb.rv.v nb.refs :: frz (fun H => Sl H EntT nb.ev.v nb.ents ∧ AllO L H) :: As) H := h2.re [1] []
  refine h3.frzO.frzM fun H ⟨a, b, c⟩ x hx => ?_
  rcases List.mem_append.1 hx with hx | hx
  · exact c x hx
  · simp at hx; subst hx; exact ⟨a, b⟩
theorem gr_shut {Z : Zone} {As : List Asr} {H : Heap} {ov rv : Value} {L : List Ob} {R : List Int} (h : Holds Z (own ObT ov L :: own iTy rv R :: frz (AllO L) :: As) H) : Holds Z (frz (GrA ov rv L R) :: As) H := by
  have h1 : Holds Z (own iTy rv R :: frz (AllO L) :: own ObT ov L :: As) H := h.re [1, 1] []
  have h3 : Holds Z (own ObT ov L :: frz (fun H => Sl H iTy rv R ∧ AllO L H) :: As) H := (h1.frzO).re [1] []
  exact h3.frzO.frzM fun H ⟨a, b, c⟩ => ⟨a, b, c⟩
theorem gr_nil {Z : Zone} {As : List Asr} {H : Heap} (h : Holds Z As H) : Holds Z (frz (GrA (.slice none 0 0) (.slice none 0 0) [] []) :: As) H :=
  h.frz0 fun H => ⟨Sl.nil _ _, Sl.nil _ _, fun x hx => by cases hx⟩
theorem filt_yes {p : Ent → Bool} {L : List Ent} {k : Nat} {e : Ent} (h : L[k]? = some e) (hp : p e = true) : (L.take k).filter p ++ [e] = (L.take (k + 1)).filter p := by
  rw [List.take_add_one, h]; simp [List.filter_append, hp]
theorem filt_no {p : Ent → Bool} {L : List Ent} {k : Nat} {e : Ent} (h : L[k]? = some e) (hp : p e = false) : (L.take k).filter p = (L.take (k + 1)).filter p := by
  rw [List.take_add_one, h]; simp [List.filter_append, hp]
theorem map_snoc {α β γ : Type} {g : β → γ} {L : List α} {M : List β} {i : Nat} {y : α} {z : β} {γ' : α → γ} (hy : L[i]? = some y) (h : M.map g = (L.take i).map γ') (hz : g z = γ' y) : (M ++ [z]).map g = (L.take (i + 1)).map γ' := by
  rw [List.take_add_one, hy, List.map_append, List.map_append, h]; simp [hz]
theorem lost_s {Z : Zone} {av : Value} {A : List Int} (hA : Kn Z iTy av A) (hs : A.Pairwise (· < ·)) (hl : A.length ≤ 1000000) (id : Int) : SF Try.prog 34 #[av, .int .i64 id] Z [] fun r Bs => r = .bool (lostB A id) ∧ Bs = [] := by
  refine sf_enter Try.func34 19 [(0, av), (1, .int .i64 id)] (fun w0 => ?_)
  refine k_seq ?_
  refine k_reg ?_
  refine s_lt (t_pure (.bool false)) ?_
  refine s_nil ?_
  refine xs_then ?_
  refine k_seq ?_
  refine k_reg ?_
  refine s_lt (t_pure av) ?_
  refine s_lt (t_pure (.int .i64 id)) ?_
  refine s_vcall (fun _ h => find_s id (Acc.kn (.zn hA) h) (by omega) (hs.imp fun h => by omega)) ?_
  rintro _ rfl
  refine s_lt (t_pure (.tuple #[.int .i64 (A.countP (· < id) : Nat), .bool (decide (id ∈ A))])) ?_
  refine s_lt (t_pure (.int .i64 (A.countP (· < id) : Nat))) ?_
  refine s_lt (t_pure (.bool (decide (id ∈ A)))) ?_
  refine s_lt (t_pure (.int .i64 (A.countP (· < id) : Nat))) ?_
  refine s_lt (t_pure (.bool (decide (id ∈ A)))) ?_
  refine s_nil ?_
  refine xs_then ?_
  refine k_cut (ι := Unit) (fun _ => True) (fun _ => [(4, .bool ((decide (id ≠ 0)) && (!(decide (id ∈ A)))))]) (fun _ => []) ?_ (fun _ _ => ?_)
  ·
    refine k_reg ?_
    refine s_lt (t_pure (.int .i64 id)) ?_
    refine s_lt t_cmp ?_
    refine s_lt (t_pure (.bool (decide (id ≠ 0)))) ?_
    refine s_fork 15 (decide (id ≠ 0)) (fun c1 => ?_) (fun c1 => ?_)
    ·
      have p2 := of_decide_eq_true c1
      refine s_lt (t_pure (.bool (decide (id ∈ A)))) ?_
      refine s_lt (t_pure (.bool (!(decide (id ∈ A))))) ?_
      refine s_lt (t_pure (.bool (!(decide (id ∈ A))))) ?_
      refine s_lt (t_pure (.bool (!(decide (id ∈ A))))) ?_
      refine s_nil ?_
      exact xs_cut () trivial (sub_of rfl ⟨⟨rfl, show Value.bool (!(decide (id ∈ A))) = Value.bool ((decide (id ≠ 0)) && (!(decide (id ∈ A)))) by first | (simp only [c1, Bool.true_and, Bool.false_and, Bool.and_true, Bool.and_false, Bool.true_or, Bool.or_true, Bool.false_or, Bool.or_false, Bool.not_true, Bool.not_false]; done) | simp [c1]⟩, trivial⟩) (fun _ h => h.re [] [])
    ·
      have p3 := Decidable.not_not.1 (of_decide_eq_false c1)
      refine s_skip ?_
      refine s_skip ?_
      refine s_lt (t_pure (.bool false)) ?_
      refine s_lt (t_pure (.bool false)) ?_
      refine s_nil ?_
      exact xs_cut () trivial (sub_of rfl ⟨⟨rfl, show Value.bool false = Value.bool ((decide (id ≠ 0)) && (!(decide (id ∈ A)))) by first | (simp only [c1, Bool.true_and, Bool.false_and, Bool.and_true, Bool.and_false, Bool.true_or, Bool.or_true, Bool.false_or, Bool.or_false, Bool.not_true, Bool.not_false]; done) | simp [c1]⟩, trivial⟩) (fun _ h => h.re [] [])
  ·
    refine k_ret ?_
    exact xs_fin [.bool ((decide (id ≠ 0)) && (!(decide (id ∈ A))))] [] (SI.tmp 4 SI.nil) (fun _ h => h.re [] []) ⟨congrArg Value.bool (by unfold lostB; simp []), rfl⟩
theorem left_s {Z : Zone} {av : Value} {A : List Int} (hA : Kn Z iTy av A) (hs : A.Pairwise (· < ·)) (hl : A.length ≤ 1000000) (weak : Int) (e : Ent) : SF Try.prog 35 #[.int .i64 weak, e.v, av] Z [] fun r Bs => r = .bool (keepB A weak e) ∧ Bs = [] := by
  refine sf_enter Try.func35 42 [(0, .int .i64 weak), (1, .agg #[.int .i64 e.key, .int .i64 e.val]), (2, av)] (fun w0 => ?_)
  refine k_seq ?_
  refine k_reg ?_
  refine s_box #[.int .i64 e.key, .int .i64 e.val] (fun g1 => ?_)
  refine s_lt (t_pure (.bool false)) ?_
  refine s_nil ?_
  refine xs_then ?_
  refine k_seq ?_
  refine k_seq ?_
  refine k_reg ?_
  refine s_lt (t_pure (.int .i64 weak)) ?_
  refine s_lt t_cmp ?_
  refine s_lt (t_pure (.bool (decide (weak = 1)))) ?_
  refine s_fork 9 (decide (weak = 1)) (fun c2 => ?_) (fun c2 => ?_)
  ·
    have p3 := of_decide_eq_true c2
    refine s_skip ?_
    refine s_skip ?_
    refine s_lt (t_pure (.bool true)) ?_
    refine s_lt (t_pure (.bool true)) ?_
    refine s_lt (t_pure (.pointer (some ⟨g1, 0, none⟩))) ?_
    refine s_lt (t_load 0 (.int .i64 e.key)) ?_
    refine s_lt t_cmp ?_
    refine s_lt (t_pure (.bool (decide (e.key ≠ 0)))) ?_
    refine s_lt (t_pure (.bool (decide (e.key ≠ 0)))) ?_
    refine s_fork 18 (decide (e.key ≠ 0)) (fun c4 => ?_) (fun c4 => ?_)
    ·
      have p5 := of_decide_eq_true c4
      refine s_lt (t_pure av) ?_
      refine s_lt (t_pure (.pointer (some ⟨g1, 0, none⟩))) ?_
      refine s_lt (t_load 0 (.int .i64 e.key)) ?_
      refine s_vcall (fun _ h => in_s e.key (Acc.kn (.zn hA) h) hs hl) ?_
      rintro _ rfl
      refine s_lt (t_pure (.bool (!(decide (e.key ∈ A))))) ?_
      refine s_lt (t_pure (.bool (!(decide (e.key ∈ A))))) ?_
      refine s_nil ?_
      refine xs_then ?_
      refine k_cond (!(decide (e.key ∈ A))) (fun c6 => ?_) (fun c6 => ?_)
      ·
        have c7 := not_t c6
        have p8 := of_decide_eq_false c7
        refine k_seq ?_
        refine k_reg ?_
        refine s_lt (t_pure (.bool false)) ?_
        refine s_nil ?_
        refine xs_then ?_
        refine k_ret ?_
        refine xs_ret ?_
        exact xs_fin [.bool false] [] (SI.tmp 6 SI.nil) (fun _ h => h.re [] [0]) ⟨congrArg Value.bool (by first | (unfold keepB lostB; simp [p3, p5, p8]; done) | (exfalso; omega)), rfl⟩
      ·
        have c9 := not_f c6
        have p10 := of_decide_eq_true c9
        refine k_skip ?_
        refine xs_then ?_
        refine k_seq ?_
        refine k_reg ?_
        refine s_lt (t_pure (.int .i64 weak)) ?_
        refine s_lt t_cmp ?_
        refine s_lt (t_pure (.bool (decide (weak ≠ 2)))) ?_
        refine s_fork 27 (decide (weak ≠ 2)) (fun c11 => ?_) (fun c11 => ?_)
        ·
          have p12 := of_decide_eq_true c11
          refine s_lt (t_pure (.int .i64 weak)) ?_
          refine s_lt t_cmp ?_
          refine s_lt (t_pure (.bool (decide (weak ≠ 3)))) ?_
          refine s_lt (t_pure (.bool (decide (weak ≠ 3)))) ?_
          refine s_fork 31 (decide (weak ≠ 3)) (fun c13 => ?_) (fun c13 => ?_)
          ·
            have p14 := of_decide_eq_true c13
            refine s_skip ?_
            refine s_skip ?_
            refine s_skip ?_
            refine s_lt (t_pure (.bool true)) ?_
            refine s_lt (t_pure (.bool true)) ?_
            refine s_skip ?_
            refine s_skip ?_
            refine s_skip ?_
            refine s_skip ?_
            refine s_lt (t_pure (.bool true)) ?_
            refine s_lt (t_pure (.bool true)) ?_
            refine s_nil ?_
            refine xs_then ?_
            refine k_ret ?_
            exact xs_fin [.bool true] [] (SI.tmp 6 SI.nil) (fun _ h => h.re [] [0]) ⟨congrArg Value.bool (by first | (unfold keepB lostB; simp [p3, p5, p10, p12, p14]; done) | (exfalso; omega)), rfl⟩
          ·
            have p15 := Decidable.not_not.1 (of_decide_eq_false c13)
            refine s_lt (t_pure (.pointer (some ⟨g1, 1, none⟩))) ?_
            refine s_lt (t_load 0 (.int .i64 e.val)) ?_
            refine s_lt t_cmp ?_
            refine s_lt (t_pure (.bool (decide (e.val = 0)))) ?_
            refine s_lt (t_pure (.bool (decide (e.val = 0)))) ?_
            refine s_fork 36 (decide (e.val = 0)) (fun c16 => ?_) (fun c16 => ?_)
            ·
              have p17 := of_decide_eq_true c16
              refine s_skip ?_
              refine s_skip ?_
              refine s_skip ?_
              refine s_skip ?_
              refine s_lt (t_pure (.bool true)) ?_
              refine s_lt (t_pure (.bool true)) ?_
              refine s_nil ?_
              refine xs_then ?_
              refine k_ret ?_
              exact xs_fin [.bool true] [] (SI.tmp 6 SI.nil) (fun _ h => h.re [] [0]) ⟨congrArg Value.bool (by first | (unfold keepB lostB; simp [p3, p5, p10, p12, p15, p17]; done) | (exfalso; omega)), rfl⟩
            ·
              have p18 := of_decide_eq_false c16
              refine s_lt (t_pure av) ?_
              refine s_lt (t_pure (.pointer (some ⟨g1, 1, none⟩))) ?_
              refine s_lt (t_load 0 (.int .i64 e.val)) ?_
              refine s_vcall (fun _ h => in_s e.val (Acc.kn (.zn hA) h) hs hl) ?_
              rintro _ rfl
              refine s_lt (t_pure (.bool (decide (e.val ∈ A)))) ?_
              refine s_lt (t_pure (.bool (decide (e.val ∈ A)))) ?_
              refine s_nil ?_
              refine xs_then ?_
              refine k_ret ?_
              exact xs_fin [.bool (decide (e.val ∈ A))] [] (SI.tmp 6 SI.nil) (fun _ h => h.re [] [0]) ⟨congrArg Value.bool (by first | (unfold keepB lostB; simp [p3, p5, p10, p12, p15, p18]; done) | (exfalso; omega)), rfl⟩
        ·
          have p19 := Decidable.not_not.1 (of_decide_eq_false c11)
          refine s_skip ?_
          refine s_skip ?_
          refine s_lt (t_pure (.bool false)) ?_
          refine s_lt (t_pure (.bool false)) ?_
          refine s_lt (t_pure (.pointer (some ⟨g1, 1, none⟩))) ?_
          refine s_lt (t_load 0 (.int .i64 e.val)) ?_
          refine s_lt t_cmp ?_
          refine s_lt (t_pure (.bool (decide (e.val = 0)))) ?_
          refine s_lt (t_pure (.bool (decide (e.val = 0)))) ?_
          refine s_fork 36 (decide (e.val = 0)) (fun c20 => ?_) (fun c20 => ?_)
          ·
            have p21 := of_decide_eq_true c20
            refine s_skip ?_
            refine s_skip ?_
            refine s_skip ?_
            refine s_skip ?_
            refine s_lt (t_pure (.bool true)) ?_
            refine s_lt (t_pure (.bool true)) ?_
            refine s_nil ?_
            refine xs_then ?_
            refine k_ret ?_
            exact xs_fin [.bool true] [] (SI.tmp 6 SI.nil) (fun _ h => h.re [] [0]) ⟨congrArg Value.bool (by first | (unfold keepB lostB; simp [p3, p5, p10, p19, p21]; done) | (exfalso; omega)), rfl⟩
          ·
            have p22 := of_decide_eq_false c20
            refine s_lt (t_pure av) ?_
            refine s_lt (t_pure (.pointer (some ⟨g1, 1, none⟩))) ?_
            refine s_lt (t_load 0 (.int .i64 e.val)) ?_
            refine s_vcall (fun _ h => in_s e.val (Acc.kn (.zn hA) h) hs hl) ?_
            rintro _ rfl
            refine s_lt (t_pure (.bool (decide (e.val ∈ A)))) ?_
            refine s_lt (t_pure (.bool (decide (e.val ∈ A)))) ?_
            refine s_nil ?_
            refine xs_then ?_
            refine k_ret ?_
            exact xs_fin [.bool (decide (e.val ∈ A))] [] (SI.tmp 6 SI.nil) (fun _ h => h.re [] [0]) ⟨congrArg Value.bool (by first | (unfold keepB lostB; simp [p3, p5, p10, p19, p22]; done) | (exfalso; omega)), rfl⟩
    ·
      have p23 := Decidable.not_not.1 (of_decide_eq_false c4)
      refine s_skip ?_
      refine s_skip ?_
      refine s_skip ?_
      refine s_skip ?_
      refine s_skip ?_
      refine s_lt (t_pure (.bool false)) ?_
      refine s_nil ?_
      refine xs_then ?_
      refine k_false ?_
      refine k_skip ?_
      refine xs_then ?_
      refine k_seq ?_
      refine k_reg ?_
      refine s_lt (t_pure (.int .i64 weak)) ?_
      refine s_lt t_cmp ?_
      refine s_lt (t_pure (.bool (decide (weak ≠ 2)))) ?_
      refine s_fork 27 (decide (weak ≠ 2)) (fun c24 => ?_) (fun c24 => ?_)
      ·
        have p25 := of_decide_eq_true c24
        refine s_lt (t_pure (.int .i64 weak)) ?_
        refine s_lt t_cmp ?_
        refine s_lt (t_pure (.bool (decide (weak ≠ 3)))) ?_
        refine s_lt (t_pure (.bool (decide (weak ≠ 3)))) ?_
        refine s_fork 31 (decide (weak ≠ 3)) (fun c26 => ?_) (fun c26 => ?_)
        ·
          have p27 := of_decide_eq_true c26
          refine s_skip ?_
          refine s_skip ?_
          refine s_skip ?_
          refine s_lt (t_pure (.bool true)) ?_
          refine s_lt (t_pure (.bool true)) ?_
          refine s_skip ?_
          refine s_skip ?_
          refine s_skip ?_
          refine s_skip ?_
          refine s_lt (t_pure (.bool true)) ?_
          refine s_lt (t_pure (.bool true)) ?_
          refine s_nil ?_
          refine xs_then ?_
          refine k_ret ?_
          exact xs_fin [.bool true] [] (SI.tmp 6 SI.nil) (fun _ h => h.re [] [0]) ⟨congrArg Value.bool (by first | (unfold keepB lostB; simp [p3, p23, p25, p27]; done) | (exfalso; omega)), rfl⟩
        ·
          have p28 := Decidable.not_not.1 (of_decide_eq_false c26)
          refine s_lt (t_pure (.pointer (some ⟨g1, 1, none⟩))) ?_
          refine s_lt (t_load 0 (.int .i64 e.val)) ?_
          refine s_lt t_cmp ?_
          refine s_lt (t_pure (.bool (decide (e.val = 0)))) ?_
          refine s_lt (t_pure (.bool (decide (e.val = 0)))) ?_
          refine s_fork 36 (decide (e.val = 0)) (fun c29 => ?_) (fun c29 => ?_)
          ·
            have p30 := of_decide_eq_true c29
            refine s_skip ?_
            refine s_skip ?_
            refine s_skip ?_
            refine s_skip ?_
            refine s_lt (t_pure (.bool true)) ?_
            refine s_lt (t_pure (.bool true)) ?_
            refine s_nil ?_
            refine xs_then ?_
            refine k_ret ?_
            exact xs_fin [.bool true] [] (SI.tmp 6 SI.nil) (fun _ h => h.re [] [0]) ⟨congrArg Value.bool (by first | (unfold keepB lostB; simp [p3, p23, p25, p28, p30]; done) | (exfalso; omega)), rfl⟩
          ·
            have p31 := of_decide_eq_false c29
            refine s_lt (t_pure av) ?_
            refine s_lt (t_pure (.pointer (some ⟨g1, 1, none⟩))) ?_
            refine s_lt (t_load 0 (.int .i64 e.val)) ?_
            refine s_vcall (fun _ h => in_s e.val (Acc.kn (.zn hA) h) hs hl) ?_
            rintro _ rfl
            refine s_lt (t_pure (.bool (decide (e.val ∈ A)))) ?_
            refine s_lt (t_pure (.bool (decide (e.val ∈ A)))) ?_
            refine s_nil ?_
            refine xs_then ?_
            refine k_ret ?_
            exact xs_fin [.bool (decide (e.val ∈ A))] [] (SI.tmp 6 SI.nil) (fun _ h => h.re [] [0]) ⟨congrArg Value.bool (by first | (unfold keepB lostB; simp [p3, p23, p25, p28, p31]; done) | (exfalso; omega)), rfl⟩
      ·
        have p32 := Decidable.not_not.1 (of_decide_eq_false c24)
        refine s_skip ?_
        refine s_skip ?_
        refine s_lt (t_pure (.bool false)) ?_
        refine s_lt (t_pure (.bool false)) ?_
        refine s_lt (t_pure (.pointer (some ⟨g1, 1, none⟩))) ?_
        refine s_lt (t_load 0 (.int .i64 e.val)) ?_
        refine s_lt t_cmp ?_
        refine s_lt (t_pure (.bool (decide (e.val = 0)))) ?_
        refine s_lt (t_pure (.bool (decide (e.val = 0)))) ?_
        refine s_fork 36 (decide (e.val = 0)) (fun c33 => ?_) (fun c33 => ?_)
        ·
          have p34 := of_decide_eq_true c33
          refine s_skip ?_
          refine s_skip ?_
          refine s_skip ?_
          refine s_skip ?_
          refine s_lt (t_pure (.bool true)) ?_
          refine s_lt (t_pure (.bool true)) ?_
          refine s_nil ?_
          refine xs_then ?_
          refine k_ret ?_
          exact xs_fin [.bool true] [] (SI.tmp 6 SI.nil) (fun _ h => h.re [] [0]) ⟨congrArg Value.bool (by first | (unfold keepB lostB; simp [p3, p23, p32, p34]; done) | (exfalso; omega)), rfl⟩
        ·
          have p35 := of_decide_eq_false c33
          refine s_lt (t_pure av) ?_
          refine s_lt (t_pure (.pointer (some ⟨g1, 1, none⟩))) ?_
          refine s_lt (t_load 0 (.int .i64 e.val)) ?_
          refine s_vcall (fun _ h => in_s e.val (Acc.kn (.zn hA) h) hs hl) ?_
          rintro _ rfl
          refine s_lt (t_pure (.bool (decide (e.val ∈ A)))) ?_
          refine s_lt (t_pure (.bool (decide (e.val ∈ A)))) ?_
          refine s_nil ?_
          refine xs_then ?_
          refine k_ret ?_
          exact xs_fin [.bool (decide (e.val ∈ A))] [] (SI.tmp 6 SI.nil) (fun _ h => h.re [] [0]) ⟨congrArg Value.bool (by first | (unfold keepB lostB; simp [p3, p23, p32, p35]; done) | (exfalso; omega)), rfl⟩
  ·
    have p36 := of_decide_eq_false c2
    refine s_lt (t_pure (.int .i64 weak)) ?_
    refine s_lt t_cmp ?_
    refine s_lt (t_pure (.bool (decide (weak = 3)))) ?_
    refine s_lt (t_pure (.bool (decide (weak = 3)))) ?_
    refine s_fork 13 (decide (weak = 3)) (fun c37 => ?_) (fun c37 => ?_)
    ·
      have p38 := of_decide_eq_true c37
      refine s_lt (t_pure (.pointer (some ⟨g1, 0, none⟩))) ?_
      refine s_lt (t_load 0 (.int .i64 e.key)) ?_
      refine s_lt t_cmp ?_
      refine s_lt (t_pure (.bool (decide (e.key ≠ 0)))) ?_
      refine s_lt (t_pure (.bool (decide (e.key ≠ 0)))) ?_
      refine s_fork 18 (decide (e.key ≠ 0)) (fun c39 => ?_) (fun c39 => ?_)
      ·
        have p40 := of_decide_eq_true c39
        refine s_lt (t_pure av) ?_
        refine s_lt (t_pure (.pointer (some ⟨g1, 0, none⟩))) ?_
        refine s_lt (t_load 0 (.int .i64 e.key)) ?_
        refine s_vcall (fun _ h => in_s e.key (Acc.kn (.zn hA) h) hs hl) ?_
        rintro _ rfl
        refine s_lt (t_pure (.bool (!(decide (e.key ∈ A))))) ?_
        refine s_lt (t_pure (.bool (!(decide (e.key ∈ A))))) ?_
        refine s_nil ?_
        refine xs_then ?_
        refine k_cond (!(decide (e.key ∈ A))) (fun c41 => ?_) (fun c41 => ?_)
        ·
          have c42 := not_t c41
          have p43 := of_decide_eq_false c42
          refine k_seq ?_
          refine k_reg ?_
          refine s_lt (t_pure (.bool false)) ?_
          refine s_nil ?_
          refine xs_then ?_
          refine k_ret ?_
          refine xs_ret ?_
          exact xs_fin [.bool false] [] (SI.tmp 6 SI.nil) (fun _ h => h.re [] [0]) ⟨congrArg Value.bool (by first | (unfold keepB lostB; simp [p36, p38, p40, p43]; done) | (exfalso; omega)), rfl⟩
        ·
          have c44 := not_f c41
          have p45 := of_decide_eq_true c44
          refine k_skip ?_
          refine xs_then ?_
          refine k_seq ?_
          refine k_reg ?_
          refine s_lt (t_pure (.int .i64 weak)) ?_
          refine s_lt t_cmp ?_
          refine s_lt (t_pure (.bool (decide (weak ≠ 2)))) ?_
          refine s_fork 27 (decide (weak ≠ 2)) (fun c46 => ?_) (fun c46 => ?_)
          ·
            have p47 := of_decide_eq_true c46
            refine s_lt (t_pure (.int .i64 weak)) ?_
            refine s_lt t_cmp ?_
            refine s_lt (t_pure (.bool (decide (weak ≠ 3)))) ?_
            refine s_lt (t_pure (.bool (decide (weak ≠ 3)))) ?_
            refine s_fork 31 (decide (weak ≠ 3)) (fun c48 => ?_) (fun c48 => ?_)
            ·
              have p49 := of_decide_eq_true c48
              refine s_skip ?_
              refine s_skip ?_
              refine s_skip ?_
              refine s_lt (t_pure (.bool true)) ?_
              refine s_lt (t_pure (.bool true)) ?_
              refine s_skip ?_
              refine s_skip ?_
              refine s_skip ?_
              refine s_skip ?_
              refine s_lt (t_pure (.bool true)) ?_
              refine s_lt (t_pure (.bool true)) ?_
              refine s_nil ?_
              refine xs_then ?_
              refine k_ret ?_
              exact xs_fin [.bool true] [] (SI.tmp 6 SI.nil) (fun _ h => h.re [] [0]) ⟨congrArg Value.bool (by first | (unfold keepB lostB; simp [p36, p38, p40, p45, p47, p49]; done) | (exfalso; omega)), rfl⟩
            ·
              have p50 := Decidable.not_not.1 (of_decide_eq_false c48)
              refine s_lt (t_pure (.pointer (some ⟨g1, 1, none⟩))) ?_
              refine s_lt (t_load 0 (.int .i64 e.val)) ?_
              refine s_lt t_cmp ?_
              refine s_lt (t_pure (.bool (decide (e.val = 0)))) ?_
              refine s_lt (t_pure (.bool (decide (e.val = 0)))) ?_
              refine s_fork 36 (decide (e.val = 0)) (fun c51 => ?_) (fun c51 => ?_)
              ·
                have p52 := of_decide_eq_true c51
                refine s_skip ?_
                refine s_skip ?_
                refine s_skip ?_
                refine s_skip ?_
                refine s_lt (t_pure (.bool true)) ?_
                refine s_lt (t_pure (.bool true)) ?_
                refine s_nil ?_
                refine xs_then ?_
                refine k_ret ?_
                exact xs_fin [.bool true] [] (SI.tmp 6 SI.nil) (fun _ h => h.re [] [0]) ⟨congrArg Value.bool (by first | (unfold keepB lostB; simp [p36, p38, p40, p45, p47, p50, p52]; done) | (exfalso; omega)), rfl⟩
              ·
                have p53 := of_decide_eq_false c51
                refine s_lt (t_pure av) ?_
                refine s_lt (t_pure (.pointer (some ⟨g1, 1, none⟩))) ?_
                refine s_lt (t_load 0 (.int .i64 e.val)) ?_
                refine s_vcall (fun _ h => in_s e.val (Acc.kn (.zn hA) h) hs hl) ?_
                rintro _ rfl
                refine s_lt (t_pure (.bool (decide (e.val ∈ A)))) ?_
                refine s_lt (t_pure (.bool (decide (e.val ∈ A)))) ?_
                refine s_nil ?_
                refine xs_then ?_
                refine k_ret ?_
                exact xs_fin [.bool (decide (e.val ∈ A))] [] (SI.tmp 6 SI.nil) (fun _ h => h.re [] [0]) ⟨congrArg Value.bool (by first | (unfold keepB lostB; simp [p36, p38, p40, p45, p47, p50, p53]; done) | (exfalso; omega)), rfl⟩
          ·
            have p54 := Decidable.not_not.1 (of_decide_eq_false c46)
            refine s_skip ?_
            refine s_skip ?_
            refine s_lt (t_pure (.bool false)) ?_
            refine s_lt (t_pure (.bool false)) ?_
            refine s_lt (t_pure (.pointer (some ⟨g1, 1, none⟩))) ?_
            refine s_lt (t_load 0 (.int .i64 e.val)) ?_
            refine s_lt t_cmp ?_
            refine s_lt (t_pure (.bool (decide (e.val = 0)))) ?_
            refine s_lt (t_pure (.bool (decide (e.val = 0)))) ?_
            refine s_fork 36 (decide (e.val = 0)) (fun c55 => ?_) (fun c55 => ?_)
            ·
              have p56 := of_decide_eq_true c55
              refine s_skip ?_
              refine s_skip ?_
              refine s_skip ?_
              refine s_skip ?_
              refine s_lt (t_pure (.bool true)) ?_
              refine s_lt (t_pure (.bool true)) ?_
              refine s_nil ?_
              refine xs_then ?_
              refine k_ret ?_
              exact xs_fin [.bool true] [] (SI.tmp 6 SI.nil) (fun _ h => h.re [] [0]) ⟨congrArg Value.bool (by first | (unfold keepB lostB; simp [p36, p38, p40, p45, p54, p56]; done) | (exfalso; omega)), rfl⟩
            ·
              have p57 := of_decide_eq_false c55
              refine s_lt (t_pure av) ?_
              refine s_lt (t_pure (.pointer (some ⟨g1, 1, none⟩))) ?_
              refine s_lt (t_load 0 (.int .i64 e.val)) ?_
              refine s_vcall (fun _ h => in_s e.val (Acc.kn (.zn hA) h) hs hl) ?_
              rintro _ rfl
              refine s_lt (t_pure (.bool (decide (e.val ∈ A)))) ?_
              refine s_lt (t_pure (.bool (decide (e.val ∈ A)))) ?_
              refine s_nil ?_
              refine xs_then ?_
              refine k_ret ?_
              exact xs_fin [.bool (decide (e.val ∈ A))] [] (SI.tmp 6 SI.nil) (fun _ h => h.re [] [0]) ⟨congrArg Value.bool (by first | (unfold keepB lostB; simp [p36, p38, p40, p45, p54, p57]; done) | (exfalso; omega)), rfl⟩
      ·
        have p58 := Decidable.not_not.1 (of_decide_eq_false c39)
        refine s_skip ?_
        refine s_skip ?_
        refine s_skip ?_
        refine s_skip ?_
        refine s_skip ?_
        refine s_lt (t_pure (.bool false)) ?_
        refine s_nil ?_
        refine xs_then ?_
        refine k_false ?_
        refine k_skip ?_
        refine xs_then ?_
        refine k_seq ?_
        refine k_reg ?_
        refine s_lt (t_pure (.int .i64 weak)) ?_
        refine s_lt t_cmp ?_
        refine s_lt (t_pure (.bool (decide (weak ≠ 2)))) ?_
        refine s_fork 27 (decide (weak ≠ 2)) (fun c59 => ?_) (fun c59 => ?_)
        ·
          have p60 := of_decide_eq_true c59
          refine s_lt (t_pure (.int .i64 weak)) ?_
          refine s_lt t_cmp ?_
          refine s_lt (t_pure (.bool (decide (weak ≠ 3)))) ?_
          refine s_lt (t_pure (.bool (decide (weak ≠ 3)))) ?_
          refine s_fork 31 (decide (weak ≠ 3)) (fun c61 => ?_) (fun c61 => ?_)
          ·
            have p62 := of_decide_eq_true c61
            refine s_skip ?_
            refine s_skip ?_
            refine s_skip ?_
            refine s_lt (t_pure (.bool true)) ?_
            refine s_lt (t_pure (.bool true)) ?_
            refine s_skip ?_
            refine s_skip ?_
            refine s_skip ?_
            refine s_skip ?_
            refine s_lt (t_pure (.bool true)) ?_
            refine s_lt (t_pure (.bool true)) ?_
            refine s_nil ?_
            refine xs_then ?_
            refine k_ret ?_
            exact xs_fin [.bool true] [] (SI.tmp 6 SI.nil) (fun _ h => h.re [] [0]) ⟨congrArg Value.bool (by first | (unfold keepB lostB; simp [p36, p38, p58, p60, p62]; done) | (exfalso; omega)), rfl⟩
          ·
            have p63 := Decidable.not_not.1 (of_decide_eq_false c61)
            refine s_lt (t_pure (.pointer (some ⟨g1, 1, none⟩))) ?_
            refine s_lt (t_load 0 (.int .i64 e.val)) ?_
            refine s_lt t_cmp ?_
            refine s_lt (t_pure (.bool (decide (e.val = 0)))) ?_
            refine s_lt (t_pure (.bool (decide (e.val = 0)))) ?_
            refine s_fork 36 (decide (e.val = 0)) (fun c64 => ?_) (fun c64 => ?_)
            ·
              have p65 := of_decide_eq_true c64
              refine s_skip ?_
              refine s_skip ?_
              refine s_skip ?_
              refine s_skip ?_
              refine s_lt (t_pure (.bool true)) ?_
              refine s_lt (t_pure (.bool true)) ?_
              refine s_nil ?_
              refine xs_then ?_
              refine k_ret ?_
              exact xs_fin [.bool true] [] (SI.tmp 6 SI.nil) (fun _ h => h.re [] [0]) ⟨congrArg Value.bool (by first | (unfold keepB lostB; simp [p36, p38, p58, p60, p63, p65]; done) | (exfalso; omega)), rfl⟩
            ·
              have p66 := of_decide_eq_false c64
              refine s_lt (t_pure av) ?_
              refine s_lt (t_pure (.pointer (some ⟨g1, 1, none⟩))) ?_
              refine s_lt (t_load 0 (.int .i64 e.val)) ?_
              refine s_vcall (fun _ h => in_s e.val (Acc.kn (.zn hA) h) hs hl) ?_
              rintro _ rfl
              refine s_lt (t_pure (.bool (decide (e.val ∈ A)))) ?_
              refine s_lt (t_pure (.bool (decide (e.val ∈ A)))) ?_
              refine s_nil ?_
              refine xs_then ?_
              refine k_ret ?_
              exact xs_fin [.bool (decide (e.val ∈ A))] [] (SI.tmp 6 SI.nil) (fun _ h => h.re [] [0]) ⟨congrArg Value.bool (by first | (unfold keepB lostB; simp [p36, p38, p58, p60, p63, p66]; done) | (exfalso; omega)), rfl⟩
        ·
          have p67 := Decidable.not_not.1 (of_decide_eq_false c59)
          refine s_skip ?_
          refine s_skip ?_
          refine s_lt (t_pure (.bool false)) ?_
          refine s_lt (t_pure (.bool false)) ?_
          refine s_lt (t_pure (.pointer (some ⟨g1, 1, none⟩))) ?_
          refine s_lt (t_load 0 (.int .i64 e.val)) ?_
          refine s_lt t_cmp ?_
          refine s_lt (t_pure (.bool (decide (e.val = 0)))) ?_
          refine s_lt (t_pure (.bool (decide (e.val = 0)))) ?_
          refine s_fork 36 (decide (e.val = 0)) (fun c68 => ?_) (fun c68 => ?_)
          ·
            have p69 := of_decide_eq_true c68
            refine s_skip ?_
            refine s_skip ?_
            refine s_skip ?_
            refine s_skip ?_
            refine s_lt (t_pure (.bool true)) ?_
            refine s_lt (t_pure (.bool true)) ?_
            refine s_nil ?_
            refine xs_then ?_
            refine k_ret ?_
            exact xs_fin [.bool true] [] (SI.tmp 6 SI.nil) (fun _ h => h.re [] [0]) ⟨congrArg Value.bool (by first | (unfold keepB lostB; simp [p36, p38, p58, p67, p69]; done) | (exfalso; omega)), rfl⟩
          ·
            have p70 := of_decide_eq_false c68
            refine s_lt (t_pure av) ?_
            refine s_lt (t_pure (.pointer (some ⟨g1, 1, none⟩))) ?_
            refine s_lt (t_load 0 (.int .i64 e.val)) ?_
            refine s_vcall (fun _ h => in_s e.val (Acc.kn (.zn hA) h) hs hl) ?_
            rintro _ rfl
            refine s_lt (t_pure (.bool (decide (e.val ∈ A)))) ?_
            refine s_lt (t_pure (.bool (decide (e.val ∈ A)))) ?_
            refine s_nil ?_
            refine xs_then ?_
            refine k_ret ?_
            exact xs_fin [.bool (decide (e.val ∈ A))] [] (SI.tmp 6 SI.nil) (fun _ h => h.re [] [0]) ⟨congrArg Value.bool (by first | (unfold keepB lostB; simp [p36, p38, p58, p67, p70]; done) | (exfalso; omega)), rfl⟩
    ·
      have p71 := of_decide_eq_false c37
      refine s_skip ?_
      refine s_skip ?_
      refine s_skip ?_
      refine s_lt (t_pure (.bool false)) ?_
      refine s_lt (t_pure (.bool false)) ?_
      refine s_skip ?_
      refine s_skip ?_
      refine s_skip ?_
      refine s_skip ?_
      refine s_skip ?_
      refine s_lt (t_pure (.bool false)) ?_
      refine s_nil ?_
      refine xs_then ?_
      refine k_false ?_
      refine k_skip ?_
      refine xs_then ?_
      refine k_seq ?_
      refine k_reg ?_
      refine s_lt (t_pure (.int .i64 weak)) ?_
      refine s_lt t_cmp ?_
      refine s_lt (t_pure (.bool (decide (weak ≠ 2)))) ?_
      refine s_fork 27 (decide (weak ≠ 2)) (fun c72 => ?_) (fun c72 => ?_)
      ·
        have p73 := of_decide_eq_true c72
        refine s_lt (t_pure (.int .i64 weak)) ?_
        refine s_lt t_cmp ?_
        refine s_lt (t_pure (.bool (decide (weak ≠ 3)))) ?_
        refine s_lt (t_pure (.bool (decide (weak ≠ 3)))) ?_
        refine s_fork 31 (decide (weak ≠ 3)) (fun c74 => ?_) (fun c74 => ?_)
        ·
          have p75 := of_decide_eq_true c74
          refine s_skip ?_
          refine s_skip ?_
          refine s_skip ?_
          refine s_lt (t_pure (.bool true)) ?_
          refine s_lt (t_pure (.bool true)) ?_
          refine s_skip ?_
          refine s_skip ?_
          refine s_skip ?_
          refine s_skip ?_
          refine s_lt (t_pure (.bool true)) ?_
          refine s_lt (t_pure (.bool true)) ?_
          refine s_nil ?_
          refine xs_then ?_
          refine k_ret ?_
          exact xs_fin [.bool true] [] (SI.tmp 6 SI.nil) (fun _ h => h.re [] [0]) ⟨congrArg Value.bool (by first | (unfold keepB lostB; simp [p36, p71, p73, p75]; done) | (exfalso; omega)), rfl⟩
        ·
          have p76 := Decidable.not_not.1 (of_decide_eq_false c74)
          refine s_lt (t_pure (.pointer (some ⟨g1, 1, none⟩))) ?_
          refine s_lt (t_load 0 (.int .i64 e.val)) ?_
          refine s_lt t_cmp ?_
          refine s_lt (t_pure (.bool (decide (e.val = 0)))) ?_
          refine s_lt (t_pure (.bool (decide (e.val = 0)))) ?_
          refine s_fork 36 (decide (e.val = 0)) (fun c77 => ?_) (fun c77 => ?_)
          ·
            have p78 := of_decide_eq_true c77
            refine s_skip ?_
            refine s_skip ?_
            refine s_skip ?_
            refine s_skip ?_
            refine s_lt (t_pure (.bool true)) ?_
            refine s_lt (t_pure (.bool true)) ?_
            refine s_nil ?_
            refine xs_then ?_
            refine k_ret ?_
            exact xs_fin [.bool true] [] (SI.tmp 6 SI.nil) (fun _ h => h.re [] [0]) ⟨congrArg Value.bool (by first | (unfold keepB lostB; simp [p36, p71, p73, p76, p78]; done) | (exfalso; omega)), rfl⟩
          ·
            have p79 := of_decide_eq_false c77
            refine s_lt (t_pure av) ?_
            refine s_lt (t_pure (.pointer (some ⟨g1, 1, none⟩))) ?_
            refine s_lt (t_load 0 (.int .i64 e.val)) ?_
            refine s_vcall (fun _ h => in_s e.val (Acc.kn (.zn hA) h) hs hl) ?_
            rintro _ rfl
            refine s_lt (t_pure (.bool (decide (e.val ∈ A)))) ?_
            refine s_lt (t_pure (.bool (decide (e.val ∈ A)))) ?_
            refine s_nil ?_
            refine xs_then ?_
            refine k_ret ?_
            exact xs_fin [.bool (decide (e.val ∈ A))] [] (SI.tmp 6 SI.nil) (fun _ h => h.re [] [0]) ⟨congrArg Value.bool (by first | (unfold keepB lostB; simp [p36, p71, p73, p76, p79]; done) | (exfalso; omega)), rfl⟩
      ·
        have p80 := Decidable.not_not.1 (of_decide_eq_false c72)
        refine s_skip ?_
        refine s_skip ?_
        refine s_lt (t_pure (.bool false)) ?_
        refine s_lt (t_pure (.bool false)) ?_
        refine s_lt (t_pure (.pointer (some ⟨g1, 1, none⟩))) ?_
        refine s_lt (t_load 0 (.int .i64 e.val)) ?_
        refine s_lt t_cmp ?_
        refine s_lt (t_pure (.bool (decide (e.val = 0)))) ?_
        refine s_lt (t_pure (.bool (decide (e.val = 0)))) ?_
        refine s_fork 36 (decide (e.val = 0)) (fun c81 => ?_) (fun c81 => ?_)
        ·
          have p82 := of_decide_eq_true c81
          refine s_skip ?_
          refine s_skip ?_
          refine s_skip ?_
          refine s_skip ?_
          refine s_lt (t_pure (.bool true)) ?_
          refine s_lt (t_pure (.bool true)) ?_
          refine s_nil ?_
          refine xs_then ?_
          refine k_ret ?_
          exact xs_fin [.bool true] [] (SI.tmp 6 SI.nil) (fun _ h => h.re [] [0]) ⟨congrArg Value.bool (by first | (unfold keepB lostB; simp [p36, p71, p80, p82]; done) | (exfalso; omega)), rfl⟩
        ·
          have p83 := of_decide_eq_false c81
          refine s_lt (t_pure av) ?_
          refine s_lt (t_pure (.pointer (some ⟨g1, 1, none⟩))) ?_
          refine s_lt (t_load 0 (.int .i64 e.val)) ?_
          refine s_vcall (fun _ h => in_s e.val (Acc.kn (.zn hA) h) hs hl) ?_
          rintro _ rfl
          refine s_lt (t_pure (.bool (decide (e.val ∈ A)))) ?_
          refine s_lt (t_pure (.bool (decide (e.val ∈ A)))) ?_
          refine s_nil ?_
          refine xs_then ?_
          refine k_ret ?_
          exact xs_fin [.bool (decide (e.val ∈ A))] [] (SI.tmp 6 SI.nil) (fun _ h => h.re [] [0]) ⟨congrArg Value.bool (by first | (unfold keepB lostB; simp [p36, p71, p80, p83]; done) | (exfalso; omega)), rfl⟩
theorem Clear_s {Z : Zone} {ov rv : Value} {l : List Ob} {R : List Int} (hg : KnG Z ov rv l R) {av : Value} {A : List Int} (hA : Kn Z iTy av A) (hlA : A.length ≤ 100000) (hl : l.length ≤ 100000) (hr : R.length ≤ 100000) (hsm : ∀ o ∈ l, o.refs.length ≤ 400 ∧ o.ents.length ≤ 400) : SF Try.prog 16 #[.agg #[ov, rv], av] Z [] fun r Bs => ∃ ov' rv' l' R', r = .tuple #[.agg #[ov', rv'], .int .i64 (errI (chk 0 l && ascA 0 A))] ∧ l'.map Ob.c = (if (chk 0 l && ascA 0 A) = true then l.map (clr A) else []) ∧ R' = (if (chk 0 l && ascA 0 A) = true then R else []) ∧ Bs = [frz (GrA ov' rv' l' R')] := by
  refine sf_enter Try.func16 105 [(0, .agg #[ov, rv]), (1, av)] (fun w0 => ?_)
  refine k_seq ?_
  refine k_reg ?_
  refine s_box #[ov, rv] (fun g1 => ?_)
  refine s_alloc (.agg #[(.slice none 0 0), (.slice none 0 0)]) #[(.slice none 0 0), (.slice none 0 0)] (fun g2 => ?_)
  refine s_lt (t_pure (.int .i64 0)) ?_
  refine s_nil ?_
  refine xs_then ?_
  refine k_seq ?_
  refine k_seq ?_
  refine k_reg ?_
  refine s_lt (t_loadA 1 #[ov, rv]) ?_
  refine s_vcall (fun _ h => check_s (hg.up h)) ?_
  rintro _ rfl
  refine s_lt (t_pure (.int .i64 (errI (chk 0 l)))) ?_
  refine s_nil ?_
  refine xs_then ?_
  refine k_seq ?_
  refine k_reg ?_
  refine s_lt (t_pure (.int .i64 (errI (chk 0 l)))) ?_
  refine s_lt t_cmp ?_
  refine s_nil ?_
  refine xs_then ?_
  refine k_cond (decide ((errI (chk 0 l)) ≠ 0)) (fun c3 => ?_) (fun c3 => ?_)
  ·
    have p4 := of_decide_eq_true c3
    have hc := errI_bad p4
    refine k_seq ?_
    refine k_reg ?_
    refine s_lt (t_kern (.agg #[(.slice none 0 0), (.slice none 0 0)])) ?_
    refine s_lt (t_pure (.int .i64 (errI (chk 0 l)))) ?_
    refine s_store 0 #[(.slice none 0 0), (.slice none 0 0)] ?_
    refine s_lt (t_pure (.int .i64 (errI (chk 0 l)))) ?_
    refine s_nil ?_
    refine xs_then ?_
    refine k_ret ?_
    refine xs_ret ?_
    have hA0 : (chk 0 l && ascA 0 A) = false := by rw [hc]; rfl
    refine xs_fin [.agg #[(.slice none 0 0), (.slice none 0 0)], .int .i64 (errI (chk 0 l))] [frz (GrA (.slice none 0 0) (.slice none 0 0) [] [])] (SI.agg 4 25 0 (SI.tmp 5 SI.nil)) (fun _ h => (gr_nil h).re [0] [1, 1]) ⟨_, _, [], [], by rw [hA0, hc]; rfl, by rw [hA0]; rfl, by rw [hA0]; rfl, rfl⟩
  ·
    have p5 := Decidable.not_not.1 (of_decide_eq_false c3)
    have hc := errI_ok p5; have hs := chk_asc hc
    refine k_skip ?_
    refine xs_then ?_
    refine k_seq ?_
    refine k_reg ?_
    refine s_lt (t_pure (.int .i64 0)) ?_
    refine s_nil ?_
    refine xs_then ?_
    refine k_seq ?_
    refine k_seq ?_
    refine k_reg ?_
    refine s_lt (t_pure av) ?_
    refine s_lt (t_len iTy_ok Try.underlying23 (.zn hA)) ?_
    refine s_lt (t_pure (.int .i64 0)) ?_
    refine s_nil ?_
    refine xs_then ?_
    refine k_block ?_
    refine k_loop (ι := Int × Nat) (fun (last, i) => i ≤ A.length ∧ ascA 0 A = ascA last (A.drop i) ∧ 0 ≤ last) (fun (last, i) => [(1, av), (2, .pointer (some ⟨g1, 0, none⟩)), (4, .pointer (some ⟨g2, 0, none⟩)), (5, .int .i64 0), (7, .int .i64 last), (24, av), (25, .int .i64 (A.length : Int)), (26, .int .i64 (i : Int))]) (fun (last, i) => [blkA g2 #[(.slice none 0 0), (.slice none 0 0)] 25, blkA g1 #[ov, rv] 25]) (fun (last, i) => A.length - i) (0, 0) ⟨Nat.zero_le _, rfl, Int.le_refl _⟩ (sub_of rfl ⟨⟨rfl, rfl⟩, ⟨⟨rfl, rfl⟩, ⟨⟨rfl, rfl⟩, ⟨⟨rfl, rfl⟩, ⟨⟨rfl, rfl⟩, ⟨⟨rfl, rfl⟩, ⟨⟨rfl, rfl⟩, ⟨⟨rfl, rfl⟩, trivial⟩⟩⟩⟩⟩⟩⟩⟩) (fun _ h => h.re [0, 0] []) ?_
    rintro ⟨last, i⟩ hi6
    replace hi6 : i ≤ A.length ∧ ascA 0 A = ascA last (A.drop i) ∧ 0 ≤ last := hi6
    show SK _ _ _ _ _ [(1, av), (2, .pointer (some ⟨g1, 0, none⟩)), (4, .pointer (some ⟨g2, 0, none⟩)), (5, .int .i64 0), (7, .int .i64 last), (24, av), (25, .int .i64 (A.length : Int)), (26, .int .i64 (i : Int))] _ [blkA g2 #[(.slice none 0 0), (.slice none 0 0)] 25, blkA g1 #[ov, rv] 25]
    refine k_seq ?_
    refine k_reg ?_
    refine s_lt t_cmp ?_
    refine s_nil ?_
    refine xs_then ?_
    refine k_seq ?_
    refine k_cond (decide ((i : Int) < (A.length : Int))) (fun c7 => ?_) (fun c7 => ?_)
    ·
      have p8 := of_decide_eq_true c7
      refine k_skip ?_
      refine xs_then ?_
      refine k_seq ?_
      refine k_block ?_
      refine k_seq ?_
      refine k_reg ?_
      refine s_lt (t_index iTy_ok Try.underlying23 (.zn hA) (i : Int) i (by omega) (by (try simp only [List.length_nil, List.length_cons, List.length_append, List.length_take, List.length_drop, List.length_set, List.length_replicate, List.length_reverse, bits_len]); omega) (by omega)) ?_
      obtain ⟨y9, hy10⟩ : ∃ y, A[i]? = some y := ⟨_, List.getElem?_eq_getElem (by (try simp only [List.length_nil, List.length_cons, List.length_append, List.length_take, List.length_drop, List.length_set, List.length_replicate, List.length_reverse, bits_len]); omega)⟩
      refine s_lt (t_loadE iTy_ok (.zn hA) hy10) ?_
      refine s_lt (t_pure (.int .i64 y9)) ?_
      refine s_nil ?_
      refine xs_then ?_
      refine k_seq ?_
      refine k_seq ?_
      refine k_reg ?_
      refine s_lt (t_pure (.int .i64 y9)) ?_
      refine s_lt (t_pure (.int .i64 last)) ?_
      refine s_lt t_cmp ?_
      refine s_nil ?_
      refine xs_then ?_
      refine k_cond (decide (y9 ≤ last)) (fun c11 => ?_) (fun c11 => ?_)
      ·
        have p12 := of_decide_eq_true c11
        refine k_seq ?_
        refine k_reg ?_
        refine s_lt (t_kern (.agg #[(.slice none 0 0), (.slice none 0 0)])) ?_
        refine s_store 0 #[(.slice none 0 0), (.slice none 0 0)] ?_
        refine s_lt (t_pure (.int .i64 2)) ?_
        refine s_nil ?_
        refine xs_then ?_
        refine k_ret ?_
        refine xs_ret ?_
        refine xs_retBlock ?_
        refine xs_ret ?_
        refine xs_ret ?_
        refine xs_retBlock ?_
        refine xs_ret ?_
        have hA0 : (chk 0 l && ascA 0 A) = false := by rw [hi6.2.1, ascA_drop hy10, decide_eq_false (p := last < y9) (by omega)]; simp
        refine xs_fin [.agg #[(.slice none 0 0), (.slice none 0 0)], .int .i64 2] [frz (GrA (.slice none 0 0) (.slice none 0 0) [] [])] (SI.agg 4 25 0 (SI.tmp 5 SI.nil)) (fun _ h => (gr_nil h).re [0] [1, 1]) ⟨_, _, [], [], by rw [hA0]; rfl, by rw [hA0]; rfl, by rw [hA0]; rfl, rfl⟩
      ·
        have p13 := of_decide_eq_false c11
        refine k_skip ?_
        refine xs_then ?_
        refine k_reg ?_
        refine s_lt (t_pure (.int .i64 y9)) ?_
        refine s_lt (t_pure (.int .i64 y9)) ?_
        refine s_nil ?_
        refine xs_block ?_
        refine xs_then ?_
        refine k_reg ?_
        refine s_lt (t_add (i : Int) 1 (by (try simp only [List.length_nil, List.length_cons, List.length_append, List.length_take, List.length_drop, List.length_set, List.length_replicate, List.length_reverse, bits_len]); omega)) ?_
        refine s_lt (t_pure (.int .i64 ((i : Int) + 1))) ?_
        refine s_nil ?_
        exact xs_round (y9, i + 1) (by show A.length - (i + 1) < A.length - i; omega) (by obtain ⟨hi1, hi2, hi3⟩ := hi6; have hd := ascA_drop (last := last) hy10; refine ⟨by omega, ?_, by omega⟩; rw [hi2, hd, decide_eq_true (by omega)]; rfl) (sub_of rfl ⟨⟨rfl, rfl⟩, ⟨⟨rfl, rfl⟩, ⟨⟨rfl, rfl⟩, ⟨⟨rfl, rfl⟩, ⟨⟨rfl, rfl⟩, ⟨⟨rfl, rfl⟩, ⟨⟨rfl, rfl⟩, ⟨⟨rfl, rfl⟩, trivial⟩⟩⟩⟩⟩⟩⟩⟩) (fun _ h => h.re [0, 0] [])
    ·
      have p14 := of_decide_eq_false c7
      refine k_exit ?_
      refine xs_exit ?_
      refine xs_exit ?_
      refine xs_here ?_
      refine xs_then ?_
      refine k_seq ?_
      refine k_reg ?_
      refine s_lt (t_pure (.pointer (some ⟨g1, 1, none⟩))) ?_
      refine s_lt (t_load 1 rv) ?_
      refine s_pcall (fun _ h => clone_s (Acc.kn (.zn hg.roots) h) (by (try simp only [List.length_nil, List.length_cons, List.length_append, List.length_take, List.length_drop, List.length_set, List.length_replicate, List.length_reverse, bits_len]); omega)) ?_
      rintro v15 _ rfl
      refine s_fact (fun H h => ((Acc.own (T := iTy) (L := R) 0 rfl) H h).form) (fun hf16 => ?_)
      refine s_lt (show Lt _ _ _ _ _ (.agg #[(.slice none 0 0), v15]) from by obtain ⟨_, _, e⟩ := hf16; rw [e]; clear e; exact t_kern _) ?_
      refine s_alloc (.agg #[(.slice none 0 0), (.slice none 0 0)]) #[(.slice none 0 0), (.slice none 0 0)] (fun g17 => ?_)
      refine s_store (u := .agg #[(.slice none 0 0), v15]) (m := 2) 0 #[(.slice none 0 0), v15] ?_ (hm := by (obtain ⟨_, _, e0⟩ := hf16; rw [e0]; rfl)) (h1 := by (obtain ⟨_, _, e0⟩ := hf16; rw [e0]; rfl)) (ha' := by (obtain ⟨_, _, e0⟩ := hf16; rw [e0]; rfl))
      refine s_nil ?_
      refine xs_then ?_
      refine k_seq ?_
      refine k_seq ?_
      refine k_reg ?_
      refine s_lt (t_pure (.pointer (some ⟨g1, 0, none⟩))) ?_
      refine s_lt (t_load 3 ov) ?_
      refine s_lt (t_len ObT_ok Try.underlying22 (.zn hg.obs)) ?_
      refine s_lt (t_pure (.int .i64 0)) ?_
      refine s_nil ?_
      refine xs_then ?_
      refine k_block ?_
      have hA1 : ascA 0 A = true := by rw [hi6.2.1, List.drop_of_length_le (by omega)]; rfl
      have hA2 := ascA_asc hA1
      skip
      refine k_mem (fun _ h => Holds.nilS (T := ObT) (h.frz0 (F := AllO []) (by intro _ x hx; cases hx))) ?_
      refine k_loop (ι := Value × List Ob × Nat) (fun (ox, N, j) => j ≤ l.length ∧ N.map Ob.c = (l.take j).map (clr A)) (fun (ox, N, j) => [(1, av), (4, .pointer (some ⟨g2, 0, none⟩)), (5, .int .i64 0), (10, .pointer (some ⟨g17, 0, none⟩)), (41, ov), (42, .int .i64 (l.length : Int)), (43, .int .i64 (j : Int))]) (fun (ox, N, j) => [own ObT ox N, frz (AllO N), blkA g17 #[ox, v15] 25, own iTy v15 R, blkA g2 #[(.slice none 0 0), (.slice none 0 0)] 25, blkA g1 #[ov, rv] 25]) (fun (ox, N, j) => l.length - j) (.slice none 0 0, [], 0) ⟨Nat.zero_le _, rfl⟩ (sub_of rfl ⟨⟨rfl, rfl⟩, ⟨⟨rfl, rfl⟩, ⟨⟨rfl, rfl⟩, ⟨⟨rfl, rfl⟩, ⟨⟨rfl, rfl⟩, ⟨⟨rfl, rfl⟩, ⟨⟨rfl, rfl⟩, trivial⟩⟩⟩⟩⟩⟩⟩) (fun _ h => h.re [0, 0, 0, 0, 0, 0] []) ?_
      rintro ⟨ox, N, j⟩ hi18
      replace hi18 : j ≤ l.length ∧ N.map Ob.c = (l.take j).map (clr A) := hi18
      show SK _ _ _ _ _ [(1, av), (4, .pointer (some ⟨g2, 0, none⟩)), (5, .int .i64 0), (10, .pointer (some ⟨g17, 0, none⟩)), (41, ov), (42, .int .i64 (l.length : Int)), (43, .int .i64 (j : Int))] _ [own ObT ox N, frz (AllO N), blkA g17 #[ox, v15] 25, own iTy v15 R, blkA g2 #[(.slice none 0 0), (.slice none 0 0)] 25, blkA g1 #[ov, rv] 25]
      have hNl : N.length = j := by have := congrArg List.length hi18.2; simp only [List.length_map, List.length_take] at this; omega
      refine k_seq ?_
      refine k_reg ?_
      refine s_lt t_cmp ?_
      refine s_nil ?_
      refine xs_then ?_
      refine k_seq ?_
      refine k_cond (decide ((j : Int) < (l.length : Int))) (fun c19 => ?_) (fun c19 => ?_)
      ·
        have p20 := of_decide_eq_true c19
        refine k_skip ?_
        refine xs_then ?_
        refine k_seq ?_
        refine k_block ?_
        refine k_seq ?_
        refine k_reg ?_
        refine s_lt (t_index ObT_ok Try.underlying22 (.zn hg.obs) (j : Int) j (by omega) (by (try simp only [List.length_nil, List.length_cons, List.length_append, List.length_take, List.length_drop, List.length_set, List.length_replicate, List.length_reverse, bits_len]); omega) (by omega)) ?_
        obtain ⟨y21, hy22⟩ : ∃ y, l[j]? = some y := ⟨_, List.getElem?_eq_getElem (by (try simp only [List.length_nil, List.length_cons, List.length_append, List.length_take, List.length_drop, List.length_set, List.length_replicate, List.length_reverse, bits_len]); omega)⟩
        have hk23 := hg.each y21 (List.mem_of_getElem? hy22)
        have hsy := hsm y21 (List.mem_of_getElem? hy22)
        refine s_lt (t_loadE ObT_ok (.zn hg.obs) hy22) ?_
        refine s_alloc (.agg #[.int .i64 0, .int .i64 0, .int .i64 0, (.slice none 0 0), (.slice none 0 0)]) #[.int .i64 0, .int .i64 0, .int .i64 0, (.slice none 0 0), (.slice none 0 0)] (fun g24 => ?_)
        refine s_store 0 #[.int .i64 y21.id, .int .i64 y21.size, .int .i64 y21.weak, y21.rv.v, y21.ev.v] ?_
        refine s_nil ?_
        refine xs_then ?_
        refine k_seq ?_
        refine k_reg ?_
        refine s_lt (t_pure (.pointer (some ⟨g24, 3, none⟩))) ?_
        refine s_lt (t_load 0 y21.rv.v) ?_
        refine s_pcall (fun _ h => clone_s (Acc.kn (.zn hk23.1) h) (by (try simp only [List.length_nil, List.length_cons, List.length_append, List.length_take, List.length_drop, List.length_set, List.length_replicate, List.length_reverse, bits_len]); omega)) ?_
        rintro v25 _ rfl
        refine s_fact (fun H h => ((Acc.own (T := iTy) (L := y21.refs) 0 rfl) H h).form) (fun hf26 => ?_)
        refine s_lt (t_pure (.pointer (some ⟨g24, 3, none⟩))) ?_
        refine s_store (u := v25) (m := 1) 1 #[.int .i64 y21.id, .int .i64 y21.size, .int .i64 y21.weak, v25, y21.ev.v] ?_ (hm := by (obtain ⟨_, _, e0⟩ := hf26; rw [e0]; rfl)) (h1 := by (obtain ⟨_, _, e0⟩ := hf26; rw [e0]; rfl)) (ha' := by (obtain ⟨_, _, e0⟩ := hf26; rw [e0]; rfl))
        refine s_nil ?_
        refine xs_then ?_
        refine k_seq ?_
        refine k_reg ?_
        refine s_lt (t_pure (.slice none 0 0)) ?_
        refine s_nil ?_
        refine xs_then ?_
        refine k_seq ?_
        refine k_seq ?_
        refine k_reg ?_
        refine s_lt (t_pure (.pointer (some ⟨g24, 4, none⟩))) ?_
        refine s_lt (t_load 1 y21.ev.v) ?_
        refine s_lt (t_len EntT_ok Try.underlying40 (.zn hk23.2)) ?_
        refine s_lt (t_pure (.int .i64 0)) ?_
        refine s_nil ?_
        refine xs_then ?_
        refine k_block ?_
        refine k_mem (fun _ h => Holds.nilS (T := EntT) h) ?_
        refine k_mem (Bs := [own EntT (.slice none 0 0) ((y21.ents.take 0).filter (keepB A y21.weak)), own iTy v25 y21.refs, blkA g24 #[.int .i64 y21.id, .int .i64 y21.size, .int .i64 y21.weak, v25, y21.ev.v] 42, own ObT ox N, frz (AllO N), blkA g17 #[ox, v15] 25, own iTy v15 R, blkA g2 #[(.slice none 0 0), (.slice none 0 0)] 25, blkA g1 #[ov, rv] 25]) (fun _ h => h) ?_
        refine k_loop (ι := Value × Nat) (fun (sy, k) => k ≤ y21.ents.length) (fun (sy, k) => [(1, av), (4, .pointer (some ⟨g2, 0, none⟩)), (5, .int .i64 0), (10, .pointer (some ⟨g17, 0, none⟩)), (12, .pointer (some ⟨g24, 0, none⟩)), (13, sy), (41, ov), (42, .int .i64 (l.length : Int)), (43, .int .i64 (j : Int)), (44, .bool (decide ((j : Int) < (l.length : Int)))), (45, .pointer (some (elemAt ObT.size ov j))), (46, .agg #[.int .i64 y21.id, .int .i64 y21.size, .int .i64 y21.weak, y21.rv.v, y21.ev.v]), (47, .pointer (some ⟨g24, 3, none⟩)), (48, y21.rv.v), (49, v25), (50, .pointer (some ⟨g24, 3, none⟩)), (51, .pointer (some ⟨g24, 4, none⟩)), (52, y21.ev.v), (53, .int .i64 (y21.ents.length : Int)), (54, .int .i64 (k : Int))]) (fun (sy, k) => [own EntT sy ((y21.ents.take k).filter (keepB A y21.weak)), own iTy v25 y21.refs, blkA g24 #[.int .i64 y21.id, .int .i64 y21.size, .int .i64 y21.weak, v25, y21.ev.v] 42, own ObT ox N, frz (AllO N), blkA g17 #[ox, v15] 25, own iTy v15 R, blkA g2 #[(.slice none 0 0), (.slice none 0 0)] 25, blkA g1 #[ov, rv] 25]) (fun (sy, k) => y21.ents.length - k) (.slice none 0 0, 0) (Nat.zero_le _) (sub_of rfl ⟨⟨rfl, rfl⟩, ⟨⟨rfl, rfl⟩, ⟨⟨rfl, rfl⟩, ⟨⟨rfl, rfl⟩, ⟨⟨rfl, rfl⟩, ⟨⟨rfl, rfl⟩, ⟨⟨rfl, rfl⟩, ⟨⟨rfl, rfl⟩, ⟨⟨rfl, rfl⟩, ⟨⟨rfl, rfl⟩, ⟨⟨rfl, rfl⟩, ⟨⟨rfl, rfl⟩, ⟨⟨rfl, rfl⟩, ⟨⟨rfl, rfl⟩, ⟨⟨rfl, rfl⟩, ⟨⟨rfl, rfl⟩, ⟨⟨rfl, rfl⟩, ⟨⟨rfl, rfl⟩, ⟨⟨rfl, rfl⟩, ⟨⟨rfl, rfl⟩, trivial⟩⟩⟩⟩⟩⟩⟩⟩⟩⟩⟩⟩⟩⟩⟩⟩⟩⟩⟩⟩) (fun _ h => h.re [0, 0, 0, 0, 0, 0, 0, 0, 0] []) ?_
        rintro ⟨sy, k⟩ hi27
        replace hi27 : k ≤ y21.ents.length := hi27
        show SK _ _ _ _ _ [(1, av), (4, .pointer (some ⟨g2, 0, none⟩)), (5, .int .i64 0), (10, .pointer (some ⟨g17, 0, none⟩)), (12, .pointer (some ⟨g24, 0, none⟩)), (13, sy), (41, ov), (42, .int .i64 (l.length : Int)), (43, .int .i64 (j : Int)), (44, .bool (decide ((j : Int) < (l.length : Int)))), (45, .pointer (some (elemAt ObT.size ov j))), (46, .agg #[.int .i64 y21.id, .int .i64 y21.size, .int .i64 y21.weak, y21.rv.v, y21.ev.v]), (47, .pointer (some ⟨g24, 3, none⟩)), (48, y21.rv.v), (49, v25), (50, .pointer (some ⟨g24, 3, none⟩)), (51, .pointer (some ⟨g24, 4, none⟩)), (52, y21.ev.v), (53, .int .i64 (y21.ents.length : Int)), (54, .int .i64 (k : Int))] _ [own EntT sy ((y21.ents.take k).filter (keepB A y21.weak)), own iTy v25 y21.refs, blkA g24 #[.int .i64 y21.id, .int .i64 y21.size, .int .i64 y21.weak, v25, y21.ev.v] 42, own ObT ox N, frz (AllO N), blkA g17 #[ox, v15] 25, own iTy v15 R, blkA g2 #[(.slice none 0 0), (.slice none 0 0)] 25, blkA g1 #[ov, rv] 25]
        have hfl := List.length_filter_le (keepB A y21.weak) (y21.ents.take k); rw [List.length_take] at hfl
        refine k_seq ?_
        refine k_reg ?_
        refine s_lt t_cmp ?_
        refine s_nil ?_
        refine xs_then ?_
        refine k_seq ?_
        refine k_cond (decide ((k : Int) < (y21.ents.length : Int))) (fun c28 => ?_) (fun c28 => ?_)
        ·
          have p29 := of_decide_eq_true c28
          refine k_skip ?_
          refine xs_then ?_
          refine k_seq ?_
          refine k_block ?_
          refine k_seq ?_
          refine k_reg ?_
          refine s_lt (t_index EntT_ok Try.underlying40 (.zn hk23.2) (k : Int) k (by omega) (by (try simp only [List.length_nil, List.length_cons, List.length_append, List.length_take, List.length_drop, List.length_set, List.length_replicate, List.length_reverse, bits_len]); omega) (by omega)) ?_
          obtain ⟨y30, hy31⟩ : ∃ y, y21.ents[k]? = some y := ⟨_, List.getElem?_eq_getElem (by (try simp only [List.length_nil, List.length_cons, List.length_append, List.length_take, List.length_drop, List.length_set, List.length_replicate, List.length_reverse, bits_len]); omega)⟩
          refine s_lt (t_loadE EntT_ok (.zn hk23.2) hy31) ?_
          refine s_alloc (.agg #[.int .i64 0, .int .i64 0]) #[.int .i64 0, .int .i64 0] (fun g32 => ?_)
          refine s_store 0 #[.int .i64 y30.key, .int .i64 y30.val] ?_
          refine s_nil ?_
          refine xs_then ?_
          refine k_cut (ι := Unit) (fun _ => True) (fun _ => [(1, av), (4, .pointer (some ⟨g2, 0, none⟩)), (5, .int .i64 0), (10, .pointer (some ⟨g17, 0, none⟩)), (12, .pointer (some ⟨g24, 0, none⟩)), (13, sy), (15, .pointer (some ⟨g32, 0, none⟩)), (16, .bool ((decide (y21.weak = 1)) || (decide (y21.weak = 3)))), (41, ov), (42, .int .i64 (l.length : Int)), (43, .int .i64 (j : Int)), (44, .bool (decide ((j : Int) < (l.length : Int)))), (45, .pointer (some (elemAt ObT.size ov j))), (46, .agg #[.int .i64 y21.id, .int .i64 y21.size, .int .i64 y21.weak, y21.rv.v, y21.ev.v]), (47, .pointer (some ⟨g24, 3, none⟩)), (48, y21.rv.v), (49, v25), (50, .pointer (some ⟨g24, 3, none⟩)), (51, .pointer (some ⟨g24, 4, none⟩)), (52, y21.ev.v), (53, .int .i64 (y21.ents.length : Int)), (54, .int .i64 (k : Int)), (55, .bool (decide ((k : Int) < (y21.ents.length : Int)))), (56, .pointer (some (elemAt EntT.size y21.ev.v k))), (57, .agg #[.int .i64 y30.key, .int .i64 y30.val]), (58, .pointer (some ⟨g24, 2, none⟩)), (59, .int .i64 y21.weak), (60, .bool (decide (y21.weak = 1))), (61, .bool (decide (y21.weak = 1))), (65, .bool ((decide (y21.weak = 1)) || (decide (y21.weak = 3))))]) (fun _ => [blkA g32 #[.int .i64 y30.key, .int .i64 y30.val] 45, own EntT sy ((y21.ents.take k).filter (keepB A y21.weak)), own iTy v25 y21.refs, blkA g24 #[.int .i64 y21.id, .int .i64 y21.size, .int .i64 y21.weak, v25, y21.ev.v] 42, own ObT ox N, frz (AllO N), blkA g17 #[ox, v15] 25, own iTy v15 R, blkA g2 #[(.slice none 0 0), (.slice none 0 0)] 25, blkA g1 #[ov, rv] 25]) ?_ (fun _ _ => ?_)
          ·
            refine k_reg ?_
            refine s_lt (t_pure (.pointer (some ⟨g24, 2, none⟩))) ?_
            refine s_lt (t_load 3 (.int .i64 y21.weak)) ?_
            refine s_lt t_cmp ?_
            refine s_lt (t_pure (.bool (decide (y21.weak = 1)))) ?_
            refine s_fork 61 (decide (y21.weak = 1)) (fun c33 => ?_) (fun c33 => ?_)
            ·
              have p34 := of_decide_eq_true c33
              refine s_skip ?_
              refine s_skip ?_
              refine s_skip ?_
              refine s_lt (t_pure (.bool true)) ?_
              refine s_lt (t_pure (.bool true)) ?_
              refine s_nil ?_
              exact xs_cut () trivial (sub_of rfl ⟨⟨rfl, rfl⟩, ⟨⟨rfl, rfl⟩, ⟨⟨rfl, rfl⟩, ⟨⟨rfl, rfl⟩, ⟨⟨rfl, rfl⟩, ⟨⟨rfl, rfl⟩, ⟨⟨rfl, rfl⟩, ⟨⟨rfl, show Value.bool true = Value.bool ((decide (y21.weak = 1)) || (decide (y21.weak = 3))) by first | (simp only [c33, Bool.true_and, Bool.false_and, Bool.and_true, Bool.and_false, Bool.true_or, Bool.or_true, Bool.false_or, Bool.or_false, Bool.not_true, Bool.not_false]; done) | simp [c33]⟩, ⟨⟨rfl, rfl⟩, ⟨⟨rfl, rfl⟩, ⟨⟨rfl, rfl⟩, ⟨⟨rfl, rfl⟩, ⟨⟨rfl, rfl⟩, ⟨⟨rfl, rfl⟩, ⟨⟨rfl, rfl⟩, ⟨⟨rfl, rfl⟩, ⟨⟨rfl, rfl⟩, ⟨⟨rfl, rfl⟩, ⟨⟨rfl, rfl⟩, ⟨⟨rfl, rfl⟩, ⟨⟨rfl, rfl⟩, ⟨⟨rfl, rfl⟩, ⟨⟨rfl, rfl⟩, ⟨⟨rfl, rfl⟩, ⟨⟨rfl, rfl⟩, ⟨⟨rfl, rfl⟩, ⟨⟨rfl, rfl⟩, ⟨⟨rfl, rfl⟩, ⟨⟨rfl, show Value.bool true = Value.bool (decide (y21.weak = 1)) by first | (simp only [c33, Bool.true_and, Bool.false_and, Bool.and_true, Bool.and_false, Bool.true_or, Bool.or_true, Bool.false_or, Bool.or_false, Bool.not_true, Bool.not_false]; done) | simp [c33]⟩, ⟨⟨rfl, show Value.bool true = Value.bool ((decide (y21.weak = 1)) || (decide (y21.weak = 3))) by first | (simp only [c33, Bool.true_and, Bool.false_and, Bool.and_true, Bool.and_false, Bool.true_or, Bool.or_true, Bool.false_or, Bool.or_false, Bool.not_true, Bool.not_false]; done) | simp [c33]⟩, trivial⟩⟩⟩⟩⟩⟩⟩⟩⟩⟩⟩⟩⟩⟩⟩⟩⟩⟩⟩⟩⟩⟩⟩⟩⟩⟩⟩⟩⟩⟩) (fun _ h => h.re [0, 0, 0, 0, 0, 0, 0, 0, 0, 0] [])
            ·
              have p35 := of_decide_eq_false c33
              refine s_lt (t_pure (.pointer (some ⟨g24, 2, none⟩))) ?_
              refine s_lt (t_load 3 (.int .i64 y21.weak)) ?_
              refine s_lt t_cmp ?_
              refine s_lt (t_pure (.bool (decide (y21.weak = 3)))) ?_
              refine s_lt (t_pure (.bool (decide (y21.weak = 3)))) ?_
              refine s_nil ?_
              exact xs_cut () trivial (sub_of rfl ⟨⟨rfl, rfl⟩, ⟨⟨rfl, rfl⟩, ⟨⟨rfl, rfl⟩, ⟨⟨rfl, rfl⟩, ⟨⟨rfl, rfl⟩, ⟨⟨rfl, rfl⟩, ⟨⟨rfl, rfl⟩, ⟨⟨rfl, show Value.bool (decide (y21.weak = 3)) = Value.bool ((decide (y21.weak = 1)) || (decide (y21.weak = 3))) by first | (simp only [c33, Bool.true_and, Bool.false_and, Bool.and_true, Bool.and_false, Bool.true_or, Bool.or_true, Bool.false_or, Bool.or_false, Bool.not_true, Bool.not_false]; done) | simp [c33]⟩, ⟨⟨rfl, rfl⟩, ⟨⟨rfl, rfl⟩, ⟨⟨rfl, rfl⟩, ⟨⟨rfl, rfl⟩, ⟨⟨rfl, rfl⟩, ⟨⟨rfl, rfl⟩, ⟨⟨rfl, rfl⟩, ⟨⟨rfl, rfl⟩, ⟨⟨rfl, rfl⟩, ⟨⟨rfl, rfl⟩, ⟨⟨rfl, rfl⟩, ⟨⟨rfl, rfl⟩, ⟨⟨rfl, rfl⟩, ⟨⟨rfl, rfl⟩, ⟨⟨rfl, rfl⟩, ⟨⟨rfl, rfl⟩, ⟨⟨rfl, rfl⟩, ⟨⟨rfl, rfl⟩, ⟨⟨rfl, rfl⟩, ⟨⟨rfl, rfl⟩, ⟨⟨rfl, show Value.bool false = Value.bool (decide (y21.weak = 1)) by first | (simp only [c33, Bool.true_and, Bool.false_and, Bool.and_true, Bool.and_false, Bool.true_or, Bool.or_true, Bool.false_or, Bool.or_false, Bool.not_true, Bool.not_false]; done) | simp [c33]⟩, ⟨⟨rfl, show Value.bool (decide (y21.weak = 3)) = Value.bool ((decide (y21.weak = 1)) || (decide (y21.weak = 3))) by first | (simp only [c33, Bool.true_and, Bool.false_and, Bool.and_true, Bool.and_false, Bool.true_or, Bool.or_true, Bool.false_or, Bool.or_false, Bool.not_true, Bool.not_false]; done) | simp [c33]⟩, trivial⟩⟩⟩⟩⟩⟩⟩⟩⟩⟩⟩⟩⟩⟩⟩⟩⟩⟩⟩⟩⟩⟩⟩⟩⟩⟩⟩⟩⟩⟩) (fun _ h => h.re [0, 0, 0, 0, 0, 0, 0, 0, 0, 0] [])
          ·
            refine k_cut (ι := Unit) (fun _ => True) (fun _ => [(1, av), (4, .pointer (some ⟨g2, 0, none⟩)), (5, .int .i64 0), (10, .pointer (some ⟨g17, 0, none⟩)), (12, .pointer (some ⟨g24, 0, none⟩)), (13, sy), (15, .pointer (some ⟨g32, 0, none⟩)), (16, .bool ((decide (y21.weak = 1)) || (decide (y21.weak = 3)))), (17, .bool ((decide (y21.weak = 2)) || (decide (y21.weak = 3)))), (41, ov), (42, .int .i64 (l.length : Int)), (43, .int .i64 (j : Int)), (44, .bool (decide ((j : Int) < (l.length : Int)))), (45, .pointer (some (elemAt ObT.size ov j))), (46, .agg #[.int .i64 y21.id, .int .i64 y21.size, .int .i64 y21.weak, y21.rv.v, y21.ev.v]), (47, .pointer (some ⟨g24, 3, none⟩)), (48, y21.rv.v), (49, v25), (50, .pointer (some ⟨g24, 3, none⟩)), (51, .pointer (some ⟨g24, 4, none⟩)), (52, y21.ev.v), (53, .int .i64 (y21.ents.length : Int)), (54, .int .i64 (k : Int)), (55, .bool (decide ((k : Int) < (y21.ents.length : Int)))), (56, .pointer (some (elemAt EntT.size y21.ev.v k))), (57, .agg #[.int .i64 y30.key, .int .i64 y30.val]), (58, .pointer (some ⟨g24, 2, none⟩)), (59, .int .i64 y21.weak), (60, .bool (decide (y21.weak = 1))), (61, .bool (decide (y21.weak = 1))), (65, .bool ((decide (y21.weak = 1)) || (decide (y21.weak = 3)))), (66, .pointer (some ⟨g24, 2, none⟩)), (67, .int .i64 y21.weak), (68, .bool (decide (y21.weak = 2))), (69, .bool (decide (y21.weak = 2))), (73, .bool ((decide (y21.weak = 2)) || (decide (y21.weak = 3))))]) (fun _ => [blkA g32 #[.int .i64 y30.key, .int .i64 y30.val] 45, own EntT sy ((y21.ents.take k).filter (keepB A y21.weak)), own iTy v25 y21.refs, blkA g24 #[.int .i64 y21.id, .int .i64 y21.size, .int .i64 y21.weak, v25, y21.ev.v] 42, own ObT ox N, frz (AllO N), blkA g17 #[ox, v15] 25, own iTy v15 R, blkA g2 #[(.slice none 0 0), (.slice none 0 0)] 25, blkA g1 #[ov, rv] 25]) ?_ (fun _ _ => ?_)
            ·
              refine k_reg ?_
              refine s_lt (t_pure (.pointer (some ⟨g24, 2, none⟩))) ?_
              refine s_lt (t_load 3 (.int .i64 y21.weak)) ?_
              refine s_lt t_cmp ?_
              refine s_lt (t_pure (.bool (decide (y21.weak = 2)))) ?_
              refine s_fork 69 (decide (y21.weak = 2)) (fun c36 => ?_) (fun c36 => ?_)
              ·
                have p37 := of_decide_eq_true c36
                refine s_skip ?_
                refine s_skip ?_
                refine s_skip ?_
                refine s_lt (t_pure (.bool true)) ?_
                refine s_lt (t_pure (.bool true)) ?_
                refine s_nil ?_
                exact xs_cut () trivial (sub_of rfl ⟨⟨rfl, rfl⟩, ⟨⟨rfl, rfl⟩, ⟨⟨rfl, rfl⟩, ⟨⟨rfl, rfl⟩, ⟨⟨rfl, rfl⟩, ⟨⟨rfl, rfl⟩, ⟨⟨rfl, rfl⟩, ⟨⟨rfl, rfl⟩, ⟨⟨rfl, show Value.bool true = Value.bool ((decide (y21.weak = 2)) || (decide (y21.weak = 3))) by first | (simp only [c36, Bool.true_and, Bool.false_and, Bool.and_true, Bool.and_false, Bool.true_or, Bool.or_true, Bool.false_or, Bool.or_false, Bool.not_true, Bool.not_false]; done) | simp [c36]⟩, ⟨⟨rfl, rfl⟩, ⟨⟨rfl, rfl⟩, ⟨⟨rfl, rfl⟩, ⟨⟨rfl, rfl⟩, ⟨⟨rfl, rfl⟩, ⟨⟨rfl, rfl⟩, ⟨⟨rfl, rfl⟩, ⟨⟨rfl, rfl⟩, ⟨⟨rfl, rfl⟩, ⟨⟨rfl, rfl⟩, ⟨⟨rfl, rfl⟩, ⟨⟨rfl, rfl⟩, ⟨⟨rfl, rfl⟩, ⟨⟨rfl, rfl⟩, ⟨⟨rfl, rfl⟩, ⟨⟨rfl, rfl⟩, ⟨⟨rfl, rfl⟩, ⟨⟨rfl, rfl⟩, ⟨⟨rfl, rfl⟩, ⟨⟨rfl, rfl⟩, ⟨⟨rfl, rfl⟩, ⟨⟨rfl, rfl⟩, ⟨⟨rfl, rfl⟩, ⟨⟨rfl, rfl⟩, ⟨⟨rfl, rfl⟩, ⟨⟨rfl, show Value.bool true = Value.bool (decide (y21.weak = 2)) by first | (simp only [c36, Bool.true_and, Bool.false_and, Bool.and_true, Bool.and_false, Bool.true_or, Bool.or_true, Bool.false_or, Bool.or_false, Bool.not_true, Bool.not_false]; done) | simp [c36]⟩, ⟨⟨rfl, show Value.bool true = Value.bool ((decide (y21.weak = 2)) || (decide (y21.weak = 3))) by first | (simp only [c36, Bool.true_and, Bool.false_and, Bool.and_true, Bool.and_false, Bool.true_or, Bool.or_true, Bool.false_or, Bool.or_false, Bool.not_true, Bool.not_false]; done) | simp [c36]⟩, trivial⟩⟩⟩⟩⟩⟩⟩⟩⟩⟩⟩⟩⟩⟩⟩⟩⟩⟩⟩⟩⟩⟩⟩⟩⟩⟩⟩⟩⟩⟩⟩⟩⟩⟩⟩⟩) (fun _ h => h.re [0, 0, 0, 0, 0, 0, 0, 0, 0, 0] [])
              ·
                have p38 := of_decide_eq_false c36
                refine s_lt (t_pure (.pointer (some ⟨g24, 2, none⟩))) ?_
                refine s_lt (t_load 3 (.int .i64 y21.weak)) ?_
                refine s_lt t_cmp ?_
                refine s_lt (t_pure (.bool (decide (y21.weak = 3)))) ?_
                refine s_lt (t_pure (.bool (decide (y21.weak = 3)))) ?_
                refine s_nil ?_
                exact xs_cut () trivial (sub_of rfl ⟨⟨rfl, rfl⟩, ⟨⟨rfl, rfl⟩, ⟨⟨rfl, rfl⟩, ⟨⟨rfl, rfl⟩, ⟨⟨rfl, rfl⟩, ⟨⟨rfl, rfl⟩, ⟨⟨rfl, rfl⟩, ⟨⟨rfl, rfl⟩, ⟨⟨rfl, show Value.bool (decide (y21.weak = 3)) = Value.bool ((decide (y21.weak = 2)) || (decide (y21.weak = 3))) by first | (simp only [c36, Bool.true_and, Bool.false_and, Bool.and_true, Bool.and_false, Bool.true_or, Bool.or_true, Bool.false_or, Bool.or_false, Bool.not_true, Bool.not_false]; done) | simp [c36]⟩, ⟨⟨rfl, rfl⟩, ⟨⟨rfl, rfl⟩, ⟨⟨rfl, rfl⟩, ⟨⟨rfl, rfl⟩, ⟨⟨rfl, rfl⟩, ⟨⟨rfl, rfl⟩, ⟨⟨rfl, rfl⟩, ⟨⟨rfl, rfl⟩, ⟨⟨rfl, rfl⟩, ⟨⟨rfl, rfl⟩, ⟨⟨rfl, rfl⟩, ⟨⟨rfl, rfl⟩, ⟨⟨rfl, rfl⟩, ⟨⟨rfl, rfl⟩, ⟨⟨rfl, rfl⟩, ⟨⟨rfl, rfl⟩, ⟨⟨rfl, rfl⟩, ⟨⟨rfl, rfl⟩, ⟨⟨rfl, rfl⟩, ⟨⟨rfl, rfl⟩, ⟨⟨rfl, rfl⟩, ⟨⟨rfl, rfl⟩, ⟨⟨rfl, rfl⟩, ⟨⟨rfl, rfl⟩, ⟨⟨rfl, rfl⟩, ⟨⟨rfl, show Value.bool false = Value.bool (decide (y21.weak = 2)) by first | (simp only [c36, Bool.true_and, Bool.false_and, Bool.and_true, Bool.and_false, Bool.true_or, Bool.or_true, Bool.false_or, Bool.or_false, Bool.not_true, Bool.not_false]; done) | simp [c36]⟩, ⟨⟨rfl, show Value.bool (decide (y21.weak = 3)) = Value.bool ((decide (y21.weak = 2)) || (decide (y21.weak = 3))) by first | (simp only [c36, Bool.true_and, Bool.false_and, Bool.and_true, Bool.and_false, Bool.true_or, Bool.or_true, Bool.false_or, Bool.or_false, Bool.not_true, Bool.not_false]; done) | simp [c36]⟩, trivial⟩⟩⟩⟩⟩⟩⟩⟩⟩⟩⟩⟩⟩⟩⟩⟩⟩⟩⟩⟩⟩⟩⟩⟩⟩⟩⟩⟩⟩⟩⟩⟩⟩⟩⟩⟩) (fun _ h => h.re [0, 0, 0, 0, 0, 0, 0, 0, 0, 0] [])
            ·
              refine k_seq ?_
              refine k_cut (ι := Unit) (fun _ => True) (fun _ => [(1, av), (4, .pointer (some ⟨g2, 0, none⟩)), (5, .int .i64 0), (10, .pointer (some ⟨g17, 0, none⟩)), (12, .pointer (some ⟨g24, 0, none⟩)), (13, sy), (15, .pointer (some ⟨g32, 0, none⟩)), (16, .bool ((decide (y21.weak = 1)) || (decide (y21.weak = 3)))), (17, .bool ((decide (y21.weak = 2)) || (decide (y21.weak = 3)))), (41, ov), (42, .int .i64 (l.length : Int)), (43, .int .i64 (j : Int)), (44, .bool (decide ((j : Int) < (l.length : Int)))), (45, .pointer (some (elemAt ObT.size ov j))), (46, .agg #[.int .i64 y21.id, .int .i64 y21.size, .int .i64 y21.weak, y21.rv.v, y21.ev.v]), (47, .pointer (some ⟨g24, 3, none⟩)), (48, y21.rv.v), (49, v25), (50, .pointer (some ⟨g24, 3, none⟩)), (51, .pointer (some ⟨g24, 4, none⟩)), (52, y21.ev.v), (53, .int .i64 (y21.ents.length : Int)), (54, .int .i64 (k : Int)), (55, .bool (decide ((k : Int) < (y21.ents.length : Int)))), (56, .pointer (some (elemAt EntT.size y21.ev.v k))), (57, .agg #[.int .i64 y30.key, .int .i64 y30.val]), (58, .pointer (some ⟨g24, 2, none⟩)), (59, .int .i64 y21.weak), (60, .bool (decide (y21.weak = 1))), (61, .bool (decide (y21.weak = 1))), (65, .bool ((decide (y21.weak = 1)) || (decide (y21.weak = 3)))), (66, .pointer (some ⟨g24, 2, none⟩)), (67, .int .i64 y21.weak), (68, .bool (decide (y21.weak = 2))), (69, .bool (decide (y21.weak = 2))), (73, .bool ((decide (y21.weak = 2)) || (decide (y21.weak = 3)))), (74, .bool ((decide (y21.weak = 1)) || (decide (y21.weak = 3)))), (75, .bool ((decide (y21.weak = 1)) || (decide (y21.weak = 3)))), (80, .bool (((decide (y21.weak = 1)) || (decide (y21.weak = 3))) && (lostB A y30.key))), (81, .bool (((decide (y21.weak = 1)) || (decide (y21.weak = 3))) && (lostB A y30.key))), (89, .bool (bif ((decide (y21.weak = 1)) || (decide (y21.weak = 3))) then ((lostB A y30.key) || (((decide (y21.weak = 2)) || (decide (y21.weak = 3))) && (lostB A y30.val))) else (((decide (y21.weak = 2)) || (decide (y21.weak = 3))) && (lostB A y30.val))))]) (fun _ => [blkA g32 #[.int .i64 y30.key, .int .i64 y30.val] 45, own EntT sy ((y21.ents.take k).filter (keepB A y21.weak)), own iTy v25 y21.refs, blkA g24 #[.int .i64 y21.id, .int .i64 y21.size, .int .i64 y21.weak, v25, y21.ev.v] 42, own ObT ox N, frz (AllO N), blkA g17 #[ox, v15] 25, own iTy v15 R, blkA g2 #[(.slice none 0 0), (.slice none 0 0)] 25, blkA g1 #[ov, rv] 25]) ?_ (fun _ _ => ?_)
              ·
                refine k_reg ?_
                refine s_lt (t_pure (.bool ((decide (y21.weak = 1)) || (decide (y21.weak = 3))))) ?_
                refine s_lt (t_pure (.bool ((decide (y21.weak = 1)) || (decide (y21.weak = 3))))) ?_
                refine s_fork 75 ((decide (y21.weak = 1)) || (decide (y21.weak = 3))) (fun c39 => ?_) (fun c39 => ?_)
                ·
                  have p40 := c39
                  simp only [Bool.and_eq_true, Bool.or_eq_true, Bool.and_eq_false_iff, Bool.or_eq_false_iff, Bool.not_eq_true', Bool.not_eq_false', decide_eq_true_eq, decide_eq_false_iff_not] at p40
                  refine s_lt (t_pure av) ?_
                  refine s_lt (t_pure (.pointer (some ⟨g32, 0, none⟩))) ?_
                  refine s_lt (t_load 0 (.int .i64 y30.key)) ?_
                  refine s_vcall (fun _ h => lost_s (Acc.kn (.zn hA) h) hA2 (by omega) y30.key) ?_
                  rintro _ rfl
                  refine s_lt (t_pure (.bool (lostB A y30.key))) ?_
                  refine s_lt (t_pure (.bool (lostB A y30.key))) ?_
                  refine s_fork 81 (lostB A y30.key) (fun c41 => ?_) (fun c41 => ?_)
                  ·
                    refine s_skip ?_
                    refine s_skip ?_
                    refine s_skip ?_
                    refine s_skip ?_
                    refine s_skip ?_
                    refine s_skip ?_
                    refine s_skip ?_
                    refine s_lt (t_pure (.bool true)) ?_
                    refine s_nil ?_
                    exact xs_cut () trivial (sub_of rfl ⟨⟨rfl, rfl⟩, ⟨⟨rfl, rfl⟩, ⟨⟨rfl, rfl⟩, ⟨⟨rfl, rfl⟩, ⟨⟨rfl, rfl⟩, ⟨⟨rfl, rfl⟩, ⟨⟨rfl, rfl⟩, ⟨⟨rfl, rfl⟩, ⟨⟨rfl, rfl⟩, ⟨⟨rfl, rfl⟩, ⟨⟨rfl, rfl⟩, ⟨⟨rfl, rfl⟩, ⟨⟨rfl, rfl⟩, ⟨⟨rfl, rfl⟩, ⟨⟨rfl, rfl⟩, ⟨⟨rfl, rfl⟩, ⟨⟨rfl, rfl⟩, ⟨⟨rfl, rfl⟩, ⟨⟨rfl, rfl⟩, ⟨⟨rfl, rfl⟩, ⟨⟨rfl, rfl⟩, ⟨⟨rfl, rfl⟩, ⟨⟨rfl, rfl⟩, ⟨⟨rfl, rfl⟩, ⟨⟨rfl, rfl⟩, ⟨⟨rfl, rfl⟩, ⟨⟨rfl, rfl⟩, ⟨⟨rfl, rfl⟩, ⟨⟨rfl, rfl⟩, ⟨⟨rfl, rfl⟩, ⟨⟨rfl, rfl⟩, ⟨⟨rfl, rfl⟩, ⟨⟨rfl, rfl⟩, ⟨⟨rfl, rfl⟩, ⟨⟨rfl, rfl⟩, ⟨⟨rfl, rfl⟩, ⟨⟨rfl, rfl⟩, ⟨⟨rfl, show Value.bool true = Value.bool ((decide (y21.weak = 1)) || (decide (y21.weak = 3))) by first | (simp only [c39, c41, Bool.true_and, Bool.false_and, Bool.and_true, Bool.and_false, Bool.true_or, Bool.or_true, Bool.false_or, Bool.or_false, Bool.not_true, Bool.not_false]; done) | simp [c39, c41]⟩, ⟨⟨rfl, show Value.bool (lostB A y30.key) = Value.bool (((decide (y21.weak = 1)) || (decide (y21.weak = 3))) && (lostB A y30.key)) by first | (simp only [c39, c41, Bool.true_and, Bool.false_and, Bool.and_true, Bool.and_false, Bool.true_or, Bool.or_true, Bool.false_or, Bool.or_false, Bool.not_true, Bool.not_false]; done) | simp [c39, c41]⟩, ⟨⟨rfl, show Value.bool true = Value.bool (((decide (y21.weak = 1)) || (decide (y21.weak = 3))) && (lostB A y30.key)) by first | (simp only [c39, c41, Bool.true_and, Bool.false_and, Bool.and_true, Bool.and_false, Bool.true_or, Bool.or_true, Bool.false_or, Bool.or_false, Bool.not_true, Bool.not_false]; done) | simp [c39, c41]⟩, ⟨⟨rfl, show Value.bool true = Value.bool (bif ((decide (y21.weak = 1)) || (decide (y21.weak = 3))) then ((lostB A y30.key) || (((decide (y21.weak = 2)) || (decide (y21.weak = 3))) && (lostB A y30.val))) else (((decide (y21.weak = 2)) || (decide (y21.weak = 3))) && (lostB A y30.val))) by first | (simp only [c39, c41, Bool.true_and, Bool.false_and, Bool.and_true, Bool.and_false, Bool.true_or, Bool.or_true, Bool.false_or, Bool.or_false, Bool.not_true, Bool.not_false]; done) | simp [c39, c41]⟩, trivial⟩⟩⟩⟩⟩⟩⟩⟩⟩⟩⟩⟩⟩⟩⟩⟩⟩⟩⟩⟩⟩⟩⟩⟩⟩⟩⟩⟩⟩⟩⟩⟩⟩⟩⟩⟩⟩⟩⟩⟩⟩) (fun _ h => h.re [0, 0, 0, 0, 0, 0, 0, 0, 0, 0] [])
                  ·
                    refine s_lt (t_pure (.bool ((decide (y21.weak = 2)) || (decide (y21.weak = 3))))) ?_
                    refine s_lt (t_pure (.bool ((decide (y21.weak = 2)) || (decide (y21.weak = 3))))) ?_
                    refine s_fork 83 ((decide (y21.weak = 2)) || (decide (y21.weak = 3))) (fun c42 => ?_) (fun c42 => ?_)
                    ·
                      have p43 := c42
                      simp only [Bool.and_eq_true, Bool.or_eq_true, Bool.and_eq_false_iff, Bool.or_eq_false_iff, Bool.not_eq_true', Bool.not_eq_false', decide_eq_true_eq, decide_eq_false_iff_not] at p43
                      refine s_lt (t_pure av) ?_
                      refine s_lt (t_pure (.pointer (some ⟨g32, 1, none⟩))) ?_
                      refine s_lt (t_load 0 (.int .i64 y30.val)) ?_
                      refine s_vcall (fun _ h => lost_s (Acc.kn (.zn hA) h) hA2 (by omega) y30.val) ?_
                      rintro _ rfl
                      refine s_lt (t_pure (.bool (lostB A y30.val))) ?_
                      refine s_lt (t_pure (.bool (lostB A y30.val))) ?_
                      refine s_nil ?_
                      exact xs_cut () trivial (sub_of rfl ⟨⟨rfl, rfl⟩, ⟨⟨rfl, rfl⟩, ⟨⟨rfl, rfl⟩, ⟨⟨rfl, rfl⟩, ⟨⟨rfl, rfl⟩, ⟨⟨rfl, rfl⟩, ⟨⟨rfl, rfl⟩, ⟨⟨rfl, rfl⟩, ⟨⟨rfl, rfl⟩, ⟨⟨rfl, rfl⟩, ⟨⟨rfl, rfl⟩, ⟨⟨rfl, rfl⟩, ⟨⟨rfl, rfl⟩, ⟨⟨rfl, rfl⟩, ⟨⟨rfl, rfl⟩, ⟨⟨rfl, rfl⟩, ⟨⟨rfl, rfl⟩, ⟨⟨rfl, rfl⟩, ⟨⟨rfl, rfl⟩, ⟨⟨rfl, rfl⟩, ⟨⟨rfl, rfl⟩, ⟨⟨rfl, rfl⟩, ⟨⟨rfl, rfl⟩, ⟨⟨rfl, rfl⟩, ⟨⟨rfl, rfl⟩, ⟨⟨rfl, rfl⟩, ⟨⟨rfl, rfl⟩, ⟨⟨rfl, rfl⟩, ⟨⟨rfl, rfl⟩, ⟨⟨rfl, rfl⟩, ⟨⟨rfl, rfl⟩, ⟨⟨rfl, rfl⟩, ⟨⟨rfl, rfl⟩, ⟨⟨rfl, rfl⟩, ⟨⟨rfl, rfl⟩, ⟨⟨rfl, rfl⟩, ⟨⟨rfl, rfl⟩, ⟨⟨rfl, show Value.bool true = Value.bool ((decide (y21.weak = 1)) || (decide (y21.weak = 3))) by first | (simp only [c39, c41, c42, Bool.true_and, Bool.false_and, Bool.and_true, Bool.and_false, Bool.true_or, Bool.or_true, Bool.false_or, Bool.or_false, Bool.not_true, Bool.not_false]; done) | simp [c39, c41, c42]⟩, ⟨⟨rfl, show Value.bool (lostB A y30.key) = Value.bool (((decide (y21.weak = 1)) || (decide (y21.weak = 3))) && (lostB A y30.key)) by first | (simp only [c39, c41, c42, Bool.true_and, Bool.false_and, Bool.and_true, Bool.and_false, Bool.true_or, Bool.or_true, Bool.false_or, Bool.or_false, Bool.not_true, Bool.not_false]; done) | simp [c39, c41, c42]⟩, ⟨⟨rfl, show Value.bool false = Value.bool (((decide (y21.weak = 1)) || (decide (y21.weak = 3))) && (lostB A y30.key)) by first | (simp only [c39, c41, c42, Bool.true_and, Bool.false_and, Bool.and_true, Bool.and_false, Bool.true_or, Bool.or_true, Bool.false_or, Bool.or_false, Bool.not_true, Bool.not_false]; done) | simp [c39, c41, c42]⟩, ⟨⟨rfl, show Value.bool (lostB A y30.val) = Value.bool (bif ((decide (y21.weak = 1)) || (decide (y21.weak = 3))) then ((lostB A y30.key) || (((decide (y21.weak = 2)) || (decide (y21.weak = 3))) && (lostB A y30.val))) else (((decide (y21.weak = 2)) || (decide (y21.weak = 3))) && (lostB A y30.val))) by first | (simp only [c39, c41, c42, Bool.true_and, Bool.false_and, Bool.and_true, Bool.and_false, Bool.true_or, Bool.or_true, Bool.false_or, Bool.or_false, Bool.not_true, Bool.not_false]; done) | simp [c39, c41, c42]⟩, trivial⟩⟩⟩⟩⟩⟩⟩⟩⟩⟩⟩⟩⟩⟩⟩⟩⟩⟩⟩⟩⟩⟩⟩⟩⟩⟩⟩⟩⟩⟩⟩⟩⟩⟩⟩⟩⟩⟩⟩⟩⟩) (fun _ h => h.re [0, 0, 0, 0, 0, 0, 0, 0, 0, 0] [])
                    ·
                      obtain ⟨c44, c45⟩ := or_f c42
                      have p46 := of_decide_eq_false c44
                      have p47 := of_decide_eq_false c45
                      refine s_skip ?_
                      refine s_skip ?_
                      refine s_skip ?_
                      refine s_skip ?_
                      refine s_lt (t_pure (.bool false)) ?_
                      refine s_lt (t_pure (.bool false)) ?_
                      refine s_nil ?_
                      exact xs_cut () trivial (sub_of rfl ⟨⟨rfl, rfl⟩, ⟨⟨rfl, rfl⟩, ⟨⟨rfl, rfl⟩, ⟨⟨rfl, rfl⟩, ⟨⟨rfl, rfl⟩, ⟨⟨rfl, rfl⟩, ⟨⟨rfl, rfl⟩, ⟨⟨rfl, rfl⟩, ⟨⟨rfl, rfl⟩, ⟨⟨rfl, rfl⟩, ⟨⟨rfl, rfl⟩, ⟨⟨rfl, rfl⟩, ⟨⟨rfl, rfl⟩, ⟨⟨rfl, rfl⟩, ⟨⟨rfl, rfl⟩, ⟨⟨rfl, rfl⟩, ⟨⟨rfl, rfl⟩, ⟨⟨rfl, rfl⟩, ⟨⟨rfl, rfl⟩, ⟨⟨rfl, rfl⟩, ⟨⟨rfl, rfl⟩, ⟨⟨rfl, rfl⟩, ⟨⟨rfl, rfl⟩, ⟨⟨rfl, rfl⟩, ⟨⟨rfl, rfl⟩, ⟨⟨rfl, rfl⟩, ⟨⟨rfl, rfl⟩, ⟨⟨rfl, rfl⟩, ⟨⟨rfl, rfl⟩, ⟨⟨rfl, rfl⟩, ⟨⟨rfl, rfl⟩, ⟨⟨rfl, rfl⟩, ⟨⟨rfl, rfl⟩, ⟨⟨rfl, rfl⟩, ⟨⟨rfl, rfl⟩, ⟨⟨rfl, rfl⟩, ⟨⟨rfl, rfl⟩, ⟨⟨rfl, show Value.bool true = Value.bool ((decide (y21.weak = 1)) || (decide (y21.weak = 3))) by first | (simp only [c39, c41, c42, Bool.true_and, Bool.false_and, Bool.and_true, Bool.and_false, Bool.true_or, Bool.or_true, Bool.false_or, Bool.or_false, Bool.not_true, Bool.not_false]; done) | simp [c39, c41, c42]⟩, ⟨⟨rfl, show Value.bool (lostB A y30.key) = Value.bool (((decide (y21.weak = 1)) || (decide (y21.weak = 3))) && (lostB A y30.key)) by first | (simp only [c39, c41, c42, Bool.true_and, Bool.false_and, Bool.and_true, Bool.and_false, Bool.true_or, Bool.or_true, Bool.false_or, Bool.or_false, Bool.not_true, Bool.not_false]; done) | simp [c39, c41, c42]⟩, ⟨⟨rfl, show Value.bool false = Value.bool (((decide (y21.weak = 1)) || (decide (y21.weak = 3))) && (lostB A y30.key)) by first | (simp only [c39, c41, c42, Bool.true_and, Bool.false_and, Bool.and_true, Bool.and_false, Bool.true_or, Bool.or_true, Bool.false_or, Bool.or_false, Bool.not_true, Bool.not_false]; done) | simp [c39, c41, c42]⟩, ⟨⟨rfl, show Value.bool false = Value.bool (bif ((decide (y21.weak = 1)) || (decide (y21.weak = 3))) then ((lostB A y30.key) || (((decide (y21.weak = 2)) || (decide (y21.weak = 3))) && (lostB A y30.val))) else (((decide (y21.weak = 2)) || (decide (y21.weak = 3))) && (lostB A y30.val))) by first | (simp only [c39, c41, c42, Bool.true_and, Bool.false_and, Bool.and_true, Bool.and_false, Bool.true_or, Bool.or_true, Bool.false_or, Bool.or_false, Bool.not_true, Bool.not_false]; done) | simp [c39, c41, c42]⟩, trivial⟩⟩⟩⟩⟩⟩⟩⟩⟩⟩⟩⟩⟩⟩⟩⟩⟩⟩⟩⟩⟩⟩⟩⟩⟩⟩⟩⟩⟩⟩⟩⟩⟩⟩⟩⟩⟩⟩⟩⟩⟩) (fun _ h => h.re [0, 0, 0, 0, 0, 0, 0, 0, 0, 0] [])
                ·
                  obtain ⟨c48, c49⟩ := or_f c39
                  have p50 := of_decide_eq_false c48
                  have p51 := of_decide_eq_false c49
                  refine s_skip ?_
                  refine s_skip ?_
                  refine s_skip ?_
                  refine s_skip ?_
                  refine s_lt (t_pure (.bool false)) ?_
                  refine s_lt (t_pure (.bool false)) ?_
                  refine s_lt (t_pure (.bool ((decide (y21.weak = 2)) || (decide (y21.weak = 3))))) ?_
                  refine s_lt (t_pure (.bool ((decide (y21.weak = 2)) || (decide (y21.weak = 3))))) ?_
                  refine s_fork 83 ((decide (y21.weak = 2)) || (decide (y21.weak = 3))) (fun c52 => ?_) (fun c52 => ?_)
                  ·
                    have p53 := c52
                    simp only [Bool.and_eq_true, Bool.or_eq_true, Bool.and_eq_false_iff, Bool.or_eq_false_iff, Bool.not_eq_true', Bool.not_eq_false', decide_eq_true_eq, decide_eq_false_iff_not] at p53
                    refine s_lt (t_pure av) ?_
                    refine s_lt (t_pure (.pointer (some ⟨g32, 1, none⟩))) ?_
                    refine s_lt (t_load 0 (.int .i64 y30.val)) ?_
                    refine s_vcall (fun _ h => lost_s (Acc.kn (.zn hA) h) hA2 (by omega) y30.val) ?_
                    rintro _ rfl
                    refine s_lt (t_pure (.bool (lostB A y30.val))) ?_
                    refine s_lt (t_pure (.bool (lostB A y30.val))) ?_
                    refine s_nil ?_
                    exact xs_cut () trivial (sub_of rfl ⟨⟨rfl, rfl⟩, ⟨⟨rfl, rfl⟩, ⟨⟨rfl, rfl⟩, ⟨⟨rfl, rfl⟩, ⟨⟨rfl, rfl⟩, ⟨⟨rfl, rfl⟩, ⟨⟨rfl, rfl⟩, ⟨⟨rfl, rfl⟩, ⟨⟨rfl, rfl⟩, ⟨⟨rfl, rfl⟩, ⟨⟨rfl, rfl⟩, ⟨⟨rfl, rfl⟩, ⟨⟨rfl, rfl⟩, ⟨⟨rfl, rfl⟩, ⟨⟨rfl, rfl⟩, ⟨⟨rfl, rfl⟩, ⟨⟨rfl, rfl⟩, ⟨⟨rfl, rfl⟩, ⟨⟨rfl, rfl⟩, ⟨⟨rfl, rfl⟩, ⟨⟨rfl, rfl⟩, ⟨⟨rfl, rfl⟩, ⟨⟨rfl, rfl⟩, ⟨⟨rfl, rfl⟩, ⟨⟨rfl, rfl⟩, ⟨⟨rfl, rfl⟩, ⟨⟨rfl, rfl⟩, ⟨⟨rfl, rfl⟩, ⟨⟨rfl, rfl⟩, ⟨⟨rfl, rfl⟩, ⟨⟨rfl, rfl⟩, ⟨⟨rfl, rfl⟩, ⟨⟨rfl, rfl⟩, ⟨⟨rfl, rfl⟩, ⟨⟨rfl, rfl⟩, ⟨⟨rfl, rfl⟩, ⟨⟨rfl, rfl⟩, ⟨⟨rfl, show Value.bool false = Value.bool ((decide (y21.weak = 1)) || (decide (y21.weak = 3))) by first | (simp only [c39, c52, Bool.true_and, Bool.false_and, Bool.and_true, Bool.and_false, Bool.true_or, Bool.or_true, Bool.false_or, Bool.or_false, Bool.not_true, Bool.not_false]; done) | simp [c39, c52]⟩, ⟨⟨rfl, show Value.bool false = Value.bool (((decide (y21.weak = 1)) || (decide (y21.weak = 3))) && (lostB A y30.key)) by first | (simp only [c39, c52, Bool.true_and, Bool.false_and, Bool.and_true, Bool.and_false, Bool.true_or, Bool.or_true, Bool.false_or, Bool.or_false, Bool.not_true, Bool.not_false]; done) | simp [c39, c52]⟩, ⟨⟨rfl, show Value.bool false = Value.bool (((decide (y21.weak = 1)) || (decide (y21.weak = 3))) && (lostB A y30.key)) by first | (simp only [c39, c52, Bool.true_and, Bool.false_and, Bool.and_true, Bool.and_false, Bool.true_or, Bool.or_true, Bool.false_or, Bool.or_false, Bool.not_true, Bool.not_false]; done) | simp [c39, c52]⟩, ⟨⟨rfl, show Value.bool (lostB A y30.val) = Value.bool (bif ((decide (y21.weak = 1)) || (decide (y21.weak = 3))) then ((lostB A y30.key) || (((decide (y21.weak = 2)) || (decide (y21.weak = 3))) && (lostB A y30.val))) else (((decide (y21.weak = 2)) || (decide (y21.weak = 3))) && (lostB A y30.val))) by first | (simp only [c39, c52, Bool.true_and, Bool.false_and, Bool.and_true, Bool.and_false, Bool.true_or, Bool.or_true, Bool.false_or, Bool.or_false, Bool.not_true, Bool.not_false]; done) | simp [c39, c52]⟩, trivial⟩⟩⟩⟩⟩⟩⟩⟩⟩⟩⟩⟩⟩⟩⟩⟩⟩⟩⟩⟩⟩⟩⟩⟩⟩⟩⟩⟩⟩⟩⟩⟩⟩⟩⟩⟩⟩⟩⟩⟩⟩) (fun _ h => h.re [0, 0, 0, 0, 0, 0, 0, 0, 0, 0] [])
                  ·
                    obtain ⟨c54, c55⟩ := or_f c52
                    have p56 := of_decide_eq_false c54
                    have p57 := of_decide_eq_false c55
                    refine s_skip ?_
                    refine s_skip ?_
                    refine s_skip ?_
                    refine s_skip ?_
                    refine s_lt (t_pure (.bool false)) ?_
                    refine s_lt (t_pure (.bool false)) ?_
                    refine s_nil ?_
                    exact xs_cut () trivial (sub_of rfl ⟨⟨rfl, rfl⟩, ⟨⟨rfl, rfl⟩, ⟨⟨rfl, rfl⟩, ⟨⟨rfl, rfl⟩, ⟨⟨rfl, rfl⟩, ⟨⟨rfl, rfl⟩, ⟨⟨rfl, rfl⟩, ⟨⟨rfl, rfl⟩, ⟨⟨rfl, rfl⟩, ⟨⟨rfl, rfl⟩, ⟨⟨rfl, rfl⟩, ⟨⟨rfl, rfl⟩, ⟨⟨rfl, rfl⟩, ⟨⟨rfl, rfl⟩, ⟨⟨rfl, rfl⟩, ⟨⟨rfl, rfl⟩, ⟨⟨rfl, rfl⟩, ⟨⟨rfl, rfl⟩, ⟨⟨rfl, rfl⟩, ⟨⟨rfl, rfl⟩, ⟨⟨rfl, rfl⟩, ⟨⟨rfl, rfl⟩, ⟨⟨rfl, rfl⟩, ⟨⟨rfl, rfl⟩, ⟨⟨rfl, rfl⟩, ⟨⟨rfl, rfl⟩, ⟨⟨rfl, rfl⟩, ⟨⟨rfl, rfl⟩, ⟨⟨rfl, rfl⟩, ⟨⟨rfl, rfl⟩, ⟨⟨rfl, rfl⟩, ⟨⟨rfl, rfl⟩, ⟨⟨rfl, rfl⟩, ⟨⟨rfl, rfl⟩, ⟨⟨rfl, rfl⟩, ⟨⟨rfl, rfl⟩, ⟨⟨rfl, rfl⟩, ⟨⟨rfl, show Value.bool false = Value.bool ((decide (y21.weak = 1)) || (decide (y21.weak = 3))) by first | (simp only [c39, c52, Bool.true_and, Bool.false_and, Bool.and_true, Bool.and_false, Bool.true_or, Bool.or_true, Bool.false_or, Bool.or_false, Bool.not_true, Bool.not_false]; done) | simp [c39, c52]⟩, ⟨⟨rfl, show Value.bool false = Value.bool (((decide (y21.weak = 1)) || (decide (y21.weak = 3))) && (lostB A y30.key)) by first | (simp only [c39, c52, Bool.true_and, Bool.false_and, Bool.and_true, Bool.and_false, Bool.true_or, Bool.or_true, Bool.false_or, Bool.or_false, Bool.not_true, Bool.not_false]; done) | simp [c39, c52]⟩, ⟨⟨rfl, show Value.bool false = Value.bool (((decide (y21.weak = 1)) || (decide (y21.weak = 3))) && (lostB A y30.key)) by first | (simp only [c39, c52, Bool.true_and, Bool.false_and, Bool.and_true, Bool.and_false, Bool.true_or, Bool.or_true, Bool.false_or, Bool.or_false, Bool.not_true, Bool.not_false]; done) | simp [c39, c52]⟩, ⟨⟨rfl, show Value.bool false = Value.bool (bif ((decide (y21.weak = 1)) || (decide (y21.weak = 3))) then ((lostB A y30.key) || (((decide (y21.weak = 2)) || (decide (y21.weak = 3))) && (lostB A y30.val))) else (((decide (y21.weak = 2)) || (decide (y21.weak = 3))) && (lostB A y30.val))) by first | (simp only [c39, c52, Bool.true_and, Bool.false_and, Bool.and_true, Bool.and_false, Bool.true_or, Bool.or_true, Bool.false_or, Bool.or_false, Bool.not_true, Bool.not_false]; done) | simp [c39, c52]⟩, trivial⟩⟩⟩⟩⟩⟩⟩⟩⟩⟩⟩⟩⟩⟩⟩⟩⟩⟩⟩⟩⟩⟩⟩⟩⟩⟩⟩⟩⟩⟩⟩⟩⟩⟩⟩⟩⟩⟩⟩⟩⟩) (fun _ h => h.re [0, 0, 0, 0, 0, 0, 0, 0, 0, 0] [])
              ·
                refine k_cond (bif ((decide (y21.weak = 1)) || (decide (y21.weak = 3))) then ((lostB A y30.key) || (((decide (y21.weak = 2)) || (decide (y21.weak = 3))) && (lostB A y30.val))) else (((decide (y21.weak = 2)) || (decide (y21.weak = 3))) && (lostB A y30.val))) (fun c58 => ?_) (fun c58 => ?_)
                ·
                  refine k_exit ?_
                  refine xs_exit ?_
                  refine xs_here ?_
                  refine xs_then ?_
                  refine k_reg ?_
                  refine s_lt (t_add (k : Int) 1 (by (try simp only [List.length_nil, List.length_cons, List.length_append, List.length_take, List.length_drop, List.length_set, List.length_replicate, List.length_reverse, bits_len]); omega)) ?_
                  refine s_lt (t_pure (.int .i64 ((k : Int) + 1))) ?_
                  refine s_nil ?_
                  rw [filt_no (p := keepB A y21.weak) hy31 (by have h := c58; unfold keepB; revert h; generalize (decide (y21.weak = 1) || decide (y21.weak = 3)) = b1; generalize (decide (y21.weak = 2) || decide (y21.weak = 3)) = b2; generalize lostB A y30.key = b3; generalize lostB A y30.val = b4; revert b1 b2 b3 b4; decide)]
                  exact xs_round (sy, k + 1) (by show y21.ents.length - (k + 1) < y21.ents.length - k; omega) (by show k + 1 ≤ y21.ents.length; omega) (sub_of rfl ⟨⟨rfl, rfl⟩, ⟨⟨rfl, rfl⟩, ⟨⟨rfl, rfl⟩, ⟨⟨rfl, rfl⟩, ⟨⟨rfl, rfl⟩, ⟨⟨rfl, rfl⟩, ⟨⟨rfl, rfl⟩, ⟨⟨rfl, rfl⟩, ⟨⟨rfl, rfl⟩, ⟨⟨rfl, rfl⟩, ⟨⟨rfl, rfl⟩, ⟨⟨rfl, rfl⟩, ⟨⟨rfl, rfl⟩, ⟨⟨rfl, rfl⟩, ⟨⟨rfl, rfl⟩, ⟨⟨rfl, rfl⟩, ⟨⟨rfl, rfl⟩, ⟨⟨rfl, rfl⟩, ⟨⟨rfl, rfl⟩, ⟨⟨rfl, rfl⟩, trivial⟩⟩⟩⟩⟩⟩⟩⟩⟩⟩⟩⟩⟩⟩⟩⟩⟩⟩⟩⟩) (fun _ h => h.re [1, 1, 1, 1, 1, 1, 1, 1, 1] [9])
                ·
                  refine k_skip ?_
                  refine xs_then ?_
                  refine k_reg ?_
                  refine s_lt (t_pure sy) ?_
                  refine s_lt (t_loadA 0 #[.int .i64 y30.key, .int .i64 y30.val]) ?_
                  refine s_buildSlice (e := 45) [(0, .agg #[.int .i64 y30.key, .int .i64 y30.val])] #[.int .i64 y30.key, .int .i64 y30.val] (fun g59 => ?_) (hb := by kernel_rfl)
                  refine s_append (L := ((y21.ents.take k).filter (keepB A y21.weak))) 2 EntT_ok Try.underlying40 (.lit 0 EntT_ok [y30]) (by show _ * 16 ≤ _; (try simp only [List.length_nil, List.length_cons, List.length_append, List.length_take, List.length_drop, List.length_set, List.length_replicate, List.length_reverse, bits_len]); omega) (by (try simp only [List.length_nil, List.length_cons, List.length_append, List.length_take, List.length_drop, List.length_set, List.length_replicate, List.length_reverse, bits_len]); omega) (fun v60 => ?_)
                  refine s_fact (fun H h => ((Acc.own (T := EntT) (L := (((y21.ents.take k).filter (keepB A y21.weak)) ++ [y30])) 2 rfl) H h).form) (fun hf61 => ?_)
                  refine s_lt (t_pure v60) ?_
                  refine s_nil ?_
                  refine xs_block ?_
                  refine xs_then ?_
                  refine k_reg ?_
                  refine s_lt (t_add (k : Int) 1 (by (try simp only [List.length_nil, List.length_cons, List.length_append, List.length_take, List.length_drop, List.length_set, List.length_replicate, List.length_reverse, bits_len]); omega)) ?_
                  refine s_lt (t_pure (.int .i64 ((k : Int) + 1))) ?_
                  refine s_nil ?_
                  rw [filt_yes (p := keepB A y21.weak) hy31 (by have h := c58; unfold keepB; revert h; generalize (decide (y21.weak = 1) || decide (y21.weak = 3)) = b1; generalize (decide (y21.weak = 2) || decide (y21.weak = 3)) = b2; generalize lostB A y30.key = b3; generalize lostB A y30.val = b4; revert b1 b2 b3 b4; decide)]
                  exact xs_round (v60, k + 1) (by show y21.ents.length - (k + 1) < y21.ents.length - k; omega) (by show k + 1 ≤ y21.ents.length; omega) (sub_of rfl ⟨⟨rfl, rfl⟩, ⟨⟨rfl, rfl⟩, ⟨⟨rfl, rfl⟩, ⟨⟨rfl, rfl⟩, ⟨⟨rfl, rfl⟩, ⟨⟨rfl, rfl⟩, ⟨⟨rfl, rfl⟩, ⟨⟨rfl, rfl⟩, ⟨⟨rfl, rfl⟩, ⟨⟨rfl, rfl⟩, ⟨⟨rfl, rfl⟩, ⟨⟨rfl, rfl⟩, ⟨⟨rfl, rfl⟩, ⟨⟨rfl, rfl⟩, ⟨⟨rfl, rfl⟩, ⟨⟨rfl, rfl⟩, ⟨⟨rfl, rfl⟩, ⟨⟨rfl, rfl⟩, ⟨⟨rfl, rfl⟩, ⟨⟨rfl, rfl⟩, trivial⟩⟩⟩⟩⟩⟩⟩⟩⟩⟩⟩⟩⟩⟩⟩⟩⟩⟩⟩⟩) (fun _ h => h.re [2, 2, 2, 2, 2, 2, 2, 2, 2] [9, 9])
        ·
          have p62 := of_decide_eq_false c28
          refine k_exit ?_
          obtain rfl : k = y21.ents.length := by omega
          rw [List.take_length]
          have hfl := List.length_filter_le (keepB A y21.weak) y21.ents
          refine xs_exit ?_
          refine xs_exit ?_
          refine xs_here ?_
          refine xs_then ?_
          refine k_seq ?_
          refine k_reg ?_
          refine s_lt (t_pure sy) ?_
          refine s_lt (t_pure (.pointer (some ⟨g24, 4, none⟩))) ?_
          refine s_fact (fun H h => ((Acc.own (T := EntT) (L := (y21.ents.filter (keepB A y21.weak))) 0 rfl) H h).form) (fun hf63 => ?_)
          refine s_store (u := sy) (m := 1) 2 #[.int .i64 y21.id, .int .i64 y21.size, .int .i64 y21.weak, v25, sy] ?_ (hm := by (obtain ⟨_, _, e0⟩ := hf63; rw [e0]; rfl)) (h1 := by (obtain ⟨_, _, e0⟩ := hf63; rw [e0]; rfl)) (ha' := by (obtain ⟨_, _, e0⟩ := hf63; rw [e0]; rfl))
          refine s_nil ?_
          refine xs_then ?_
          refine k_reg ?_
          refine s_lt (t_pure (.pointer (some ⟨g17, 0, none⟩))) ?_
          refine s_lt (t_load 5 ox) ?_
          obtain ⟨pp64, cc65, e⟩ := hf26; subst e
          obtain ⟨pp66, cc67, e⟩ := hf63; subst e
          refine s_lt (t_loadA 2 #[.int .i64 y21.id, .int .i64 y21.size, .int .i64 y21.weak, (.slice pp64 y21.refs.length cc65), (.slice pp66 (y21.ents.filter (keepB A y21.weak)).length cc67)]) ?_
          refine s_buildSlice (e := 42) [(0, .agg #[.int .i64 y21.id, .int .i64 y21.size, .int .i64 y21.weak, (.slice pp64 y21.refs.length cc65), (.slice pp66 (y21.ents.filter (keepB A y21.weak)).length cc67)])] #[.int .i64 y21.id, .int .i64 y21.size, .int .i64 y21.weak, (.slice pp64 y21.refs.length cc65), (.slice pp66 (y21.ents.filter (keepB A y21.weak)).length cc67)] (fun g68 => ?_) (hb := by kernel_rfl)
          refine s_append (L := N) 4 ObT_ok Try.underlying22 (.lit 0 ObT_ok [(⟨y21.id, y21.size, y21.weak, ⟨pp64, y21.refs.length, cc65⟩, ⟨pp66, (y21.ents.filter (keepB A y21.weak)).length, cc67⟩, y21.refs, (y21.ents.filter (keepB A y21.weak))⟩ : Ob)]) (by show _ * 72 ≤ _; (try simp only [List.length_nil, List.length_cons, List.length_append, List.length_take, List.length_drop, List.length_set, List.length_replicate, List.length_reverse, bits_len]); omega) (by (try simp only [List.length_nil, List.length_cons, List.length_append, List.length_take, List.length_drop, List.length_set, List.length_replicate, List.length_reverse, bits_len]); omega) (fun v69 => ?_)
          refine s_fact (fun H h => ((Acc.own (T := ObT) (L := (N ++ [(⟨y21.id, y21.size, y21.weak, ⟨pp64, y21.refs.length, cc65⟩, ⟨pp66, (y21.ents.filter (keepB A y21.weak)).length, cc67⟩, y21.refs, (y21.ents.filter (keepB A y21.weak))⟩ : Ob)])) 4 rfl) H h).form) (fun hf70 => ?_)
          refine s_lt (t_pure (.pointer (some ⟨g17, 0, none⟩))) ?_
          refine s_store (u := v69) (m := 1) 6 #[v69, v15] ?_ (hm := by (obtain ⟨_, _, e0⟩ := hf70; rw [e0]; rfl)) (h1 := by (obtain ⟨_, _, e0⟩ := hf70; rw [e0]; rfl)) (ha' := by (obtain ⟨_, _, e0⟩ := hf70; rw [e0]; rfl))
          refine s_nil ?_
          refine xs_block ?_
          refine xs_then ?_
          refine k_reg ?_
          refine s_lt (t_add (j : Int) 1 (by (try simp only [List.length_nil, List.length_cons, List.length_append, List.length_take, List.length_drop, List.length_set, List.length_replicate, List.length_reverse, bits_len]); omega)) ?_
          refine s_lt (t_pure (.int .i64 ((j : Int) + 1))) ?_
          refine s_nil ?_
          refine xs_mem (fun _ h => frz_push (⟨y21.id, y21.size, y21.weak, ⟨pp64, y21.refs.length, cc65⟩, ⟨pp66, (y21.ents.filter (keepB A y21.weak)).length, cc67⟩, y21.refs, (y21.ents.filter (keepB A y21.weak))⟩ : Ob) (h.re [2, 1, 3] [])) ?_
          exact xs_round (v69, N ++ [(⟨y21.id, y21.size, y21.weak, ⟨pp64, y21.refs.length, cc65⟩, ⟨pp66, (y21.ents.filter (keepB A y21.weak)).length, cc67⟩, y21.refs, (y21.ents.filter (keepB A y21.weak))⟩ : Ob)], j + 1) (by show l.length - (j + 1) < l.length - j; omega) (by obtain ⟨hk1, hk2⟩ := hi18; exact ⟨by omega, map_snoc hy22 hk2 rfl⟩) (sub_of rfl ⟨⟨rfl, rfl⟩, ⟨⟨rfl, rfl⟩, ⟨⟨rfl, rfl⟩, ⟨⟨rfl, rfl⟩, ⟨⟨rfl, rfl⟩, ⟨⟨rfl, rfl⟩, ⟨⟨rfl, rfl⟩, trivial⟩⟩⟩⟩⟩⟩⟩) (fun _ h => h.re [3, 0, 2, 2, 2, 2] [6, 6])
      ·
        have p71 := of_decide_eq_false c19
        refine k_exit ?_
        refine xs_exit ?_
        refine xs_exit ?_
        refine xs_here ?_
        refine xs_then ?_
        refine k_seq ?_
        refine k_reg ?_
        refine s_lt (t_loadA 2 #[ox, v15]) ?_
        refine s_fact (fun H h => ((Acc.own (T := ObT) (L := N) 0 rfl) H h).form) (fun hf72 => ?_)
        refine s_store (u := .agg #[ox, v15]) (m := 2) 4 #[ox, v15] ?_ (hm := by (obtain ⟨_, _, e0⟩ := hf72; obtain ⟨_, _, e1⟩ := hf16; rw [e0, e1]; rfl)) (h1 := by (obtain ⟨_, _, e0⟩ := hf72; obtain ⟨_, _, e1⟩ := hf16; rw [e0, e1]; rfl)) (ha' := by (obtain ⟨_, _, e0⟩ := hf72; obtain ⟨_, _, e1⟩ := hf16; rw [e0, e1]; rfl))
        refine s_lt (t_pure (.int .i64 0)) ?_
        refine s_nil ?_
        refine xs_then ?_
        refine k_ret ?_
        have hA0 : (chk 0 l && ascA 0 A) = true := by rw [hc, hA1]; rfl
        obtain ⟨hk1, hk2⟩ := hi18
        obtain rfl : j = l.length := by omega
        rw [List.take_length] at hk2
        exact xs_fin [.agg #[ox, v15], .int .i64 0] [frz (GrA ox v15 N R)] (SI.agg 4 25 4 (SI.tmp 5 SI.nil)) (fun _ h => gr_shut (h.re [0, 2, 0] [3, 3, 3])) ⟨_, _, N, R, by rw [hA0]; rfl, by rw [hA0]; exact hk2, by rw [hA0]; rfl, rfl⟩
theorem rClear_s {Z : Zone} {ov rv : Value} {l : List Ob} {R : List Int} (hg : KnG Z ov rv l R) {av : Value} {A : List Int} (hA : Kn Z iTy av A) (hlA : A.length ≤ 100000) (hl : l.length ≤ 100000) (hr : R.length ≤ 100000) (hsm : ∀ o ∈ l, o.refs.length ≤ 400 ∧ o.ents.length ≤ 400) : SF Try.prog 17 #[.agg #[ov, rv], av] Z [] fun r Bs => ∃ ov' rv' l' R', r = .tuple #[.agg #[ov', rv'], .int .i64 (errI (chk 0 l && ascA 0 A))] ∧ l'.map Ob.c = (if (chk 0 l && ascA 0 A) = true then l.map (clr A) else []) ∧ R' = (if (chk 0 l && ascA 0 A) = true then R else []) ∧ Bs = [frz (GrA ov' rv' l' R')] := by
  refine sf_enter Try.func17 108 [(0, .agg #[ov, rv]), (1, av)] (fun w0 => ?_)
  refine k_seq ?_
  refine k_reg ?_
  refine s_box #[ov, rv] (fun g1 => ?_)
  refine s_alloc (.agg #[(.slice none 0 0), (.slice none 0 0)]) #[(.slice none 0 0), (.slice none 0 0)] (fun g2 => ?_)
  refine s_lt (t_pure (.int .i64 0)) ?_
  refine s_nil ?_
  refine xs_then ?_
  refine k_seq ?_
  refine k_seq ?_
  refine k_reg ?_
  refine s_lt (t_loadA 1 #[ov, rv]) ?_
  refine s_vcall (fun _ h => rcheck_s (hg.up h)) ?_
  rintro _ rfl
  refine s_lt (t_pure (.int .i64 (errI (chk 0 l)))) ?_
  refine s_nil ?_
  refine xs_then ?_
  refine k_seq ?_
  refine k_reg ?_
  refine s_lt (t_pure (.int .i64 (errI (chk 0 l)))) ?_
  refine s_lt t_cmp ?_
  refine s_nil ?_
  refine xs_then ?_
  refine k_cond (decide ((errI (chk 0 l)) ≠ 0)) (fun c3 => ?_) (fun c3 => ?_)
  ·
    have p4 := of_decide_eq_true c3
    have hc := errI_bad p4
    refine k_seq ?_
    refine k_reg ?_
    refine s_lt (t_kern (.agg #[(.slice none 0 0), (.slice none 0 0)])) ?_
    refine s_lt (t_pure (.int .i64 (errI (chk 0 l)))) ?_
    refine s_store 0 #[(.slice none 0 0), (.slice none 0 0)] ?_
    refine s_lt (t_pure (.int .i64 (errI (chk 0 l)))) ?_
    refine s_nil ?_
    refine xs_then ?_
    refine k_ret ?_
    refine xs_ret ?_
    have hA0 : (chk 0 l && ascA 0 A) = false := by rw [hc]; rfl
    refine xs_fin [.agg #[(.slice none 0 0), (.slice none 0 0)], .int .i64 (errI (chk 0 l))] [frz (GrA (.slice none 0 0) (.slice none 0 0) [] [])] (SI.agg 4 25 0 (SI.tmp 5 SI.nil)) (fun _ h => (gr_nil h).re [0] [1, 1]) ⟨_, _, [], [], by rw [hA0, hc]; rfl, by rw [hA0]; rfl, by rw [hA0]; rfl, rfl⟩
  ·
    have p5 := Decidable.not_not.1 (of_decide_eq_false c3)
    have hc := errI_ok p5; have hs := chk_asc hc
    refine k_skip ?_
    refine xs_then ?_
    refine k_seq ?_
    refine k_seq ?_
    refine k_reg ?_
    refine s_lt (t_pure (.int .i64 0)) ?_
    refine s_nil ?_
    refine xs_then ?_
    refine k_block ?_
    refine k_loop (ι := Int × Nat) (fun (last, i) => i ≤ A.length ∧ ascA 0 A = ascA last (A.drop i) ∧ 0 ≤ last ∧ last = (if i = 0 then 0 else (A[i - 1]?).getD 0)) (fun (last, i) => [(1, av), (2, .pointer (some ⟨g1, 0, none⟩)), (4, .pointer (some ⟨g2, 0, none⟩)), (5, .int .i64 0), (7, .int .i64 (i : Int))]) (fun (last, i) => [blkA g2 #[(.slice none 0 0), (.slice none 0 0)] 25, blkA g1 #[ov, rv] 25]) (fun (last, i) => A.length - i) (0, 0) ⟨Nat.zero_le _, rfl, Int.le_refl _, rfl⟩ (sub_of rfl ⟨⟨rfl, rfl⟩, ⟨⟨rfl, rfl⟩, ⟨⟨rfl, rfl⟩, ⟨⟨rfl, rfl⟩, ⟨⟨rfl, rfl⟩, trivial⟩⟩⟩⟩⟩) (fun _ h => h.re [0, 0] []) ?_
    rintro ⟨last, i⟩ hi6
    replace hi6 : i ≤ A.length ∧ ascA 0 A = ascA last (A.drop i) ∧ 0 ≤ last ∧ last = (if i = 0 then 0 else (A[i - 1]?).getD 0) := hi6
    show SK _ _ _ _ _ [(1, av), (2, .pointer (some ⟨g1, 0, none⟩)), (4, .pointer (some ⟨g2, 0, none⟩)), (5, .int .i64 0), (7, .int .i64 (i : Int))] _ [blkA g2 #[(.slice none 0 0), (.slice none 0 0)] 25, blkA g1 #[ov, rv] 25]
    obtain ⟨hj1, hj2, hj3, hj4⟩ := id hi6
    refine k_seq ?_
    refine k_seq ?_
    refine k_reg ?_
    refine s_lt (t_pure (.int .i64 (i : Int))) ?_
    refine s_lt (t_pure av) ?_
    refine s_lt (t_len iTy_ok Try.underlying23 (.zn hA)) ?_
    refine s_lt t_cmp ?_
    refine s_nil ?_
    refine xs_then ?_
    refine k_cond (decide ((i : Int) < (A.length : Int))) (fun c7 => ?_) (fun c7 => ?_)
    ·
      have p8 := of_decide_eq_true c7
      refine k_skip ?_
      refine xs_then ?_
      refine k_seq ?_
      refine k_block ?_
      refine k_seq ?_
      refine k_draw ?_
      refine s_lt (t_pure av) ?_
      refine s_lt (t_pure (.int .i64 (i : Int))) ?_
      refine s_lt (t_index iTy_ok Try.underlying23 (.zn hA) (i : Int) i (by omega) (by (try simp only [List.length_nil, List.length_cons, List.length_append, List.length_take, List.length_drop, List.length_set, List.length_replicate, List.length_reverse, bits_len]); omega) (by omega)) ?_
      obtain ⟨y9, hy10⟩ : ∃ y, A[i]? = some y := ⟨_, List.getElem?_eq_getElem (by (try simp only [List.length_nil, List.length_cons, List.length_append, List.length_take, List.length_drop, List.length_set, List.length_replicate, List.length_reverse, bits_len]); omega)⟩
      refine s_lt (t_loadE iTy_ok (.zn hA) hy10) ?_
      refine s_lt t_cmp ?_
      refine s_lt (t_pure (.bool (decide (y9 < 1)))) ?_
      refine s_fork 30 (decide (y9 < 1)) (fun c11 => ?_) (fun c11 => ?_)
      ·
        have p12 := of_decide_eq_true c11
        refine s_skip ?_
        refine s_skip ?_
        refine s_skip ?_
        refine s_skip ?_
        refine s_skip ?_
        refine s_skip ?_
        refine s_skip ?_
        refine s_skip ?_
        refine s_skip ?_
        refine s_skip ?_
        refine s_skip ?_
        refine s_skip ?_
        refine s_skip ?_
        refine s_skip ?_
        refine s_lt (t_pure (.bool true)) ?_
        refine s_nil ?_
        refine x_dynS (fun _ h => by kernel_rfl) ?_
        refine xs_then ?_
        refine k_true ?_
        refine k_seq ?_
        refine k_reg ?_
        refine s_lt (t_kern (.agg #[(.slice none 0 0), (.slice none 0 0)])) ?_
        refine s_store 0 #[(.slice none 0 0), (.slice none 0 0)] ?_
        refine s_lt (t_pure (.int .i64 2)) ?_
        refine s_nil ?_
        refine xs_then ?_
        refine k_ret ?_
        refine xs_retBlock ?_
        refine xs_ret ?_
        refine xs_ret ?_
        refine xs_retBlock ?_
        refine xs_ret ?_
        have hA0 : (chk 0 l && ascA 0 A) = false := by rw [hi6.2.1, ascA_drop hy10, decide_eq_false (p := last < y9) (by omega)]; simp
        refine xs_fin [.agg #[(.slice none 0 0), (.slice none 0 0)], .int .i64 2] [frz (GrA (.slice none 0 0) (.slice none 0 0) [] [])] (SI.agg 4 25 0 (SI.tmp 5 SI.nil)) (fun _ h => (gr_nil h).re [0] [1, 1]) ⟨_, _, [], [], by rw [hA0]; rfl, by rw [hA0]; rfl, by rw [hA0]; rfl, rfl⟩
      ·
        have p13 := of_decide_eq_false c11
        refine s_lt (t_pure (.int .i64 (i : Int))) ?_
        refine s_lt t_cmp ?_
        refine s_lt (t_pure (.bool (decide ((0 : Int) < (i : Int))))) ?_
        refine s_fork 33 (decide ((0 : Int) < (i : Int))) (fun c14 => ?_) (fun c14 => ?_)
        ·
          have p15 := of_decide_eq_true c14
          refine s_lt (t_pure av) ?_
          refine s_lt (t_pure (.int .i64 (i : Int))) ?_
          refine s_lt (t_index iTy_ok Try.underlying23 (.zn hA) (i : Int) i (by omega) (by (try simp only [List.length_nil, List.length_cons, List.length_append, List.length_take, List.length_drop, List.length_set, List.length_replicate, List.length_reverse, bits_len]); omega) (by omega)) ?_
          refine s_lt (t_loadE iTy_ok (.zn hA) hy10) ?_
          refine s_lt (t_pure av) ?_
          refine s_lt (t_pure (.int .i64 (i : Int))) ?_
          refine s_lt (t_sub (i : Int) 1 (by (try simp only [List.length_nil, List.length_cons, List.length_append, List.length_take, List.length_drop, List.length_set, List.length_replicate, List.length_reverse, bits_len]); omega)) ?_
          refine s_lt (t_index iTy_ok Try.underlying23 (.zn hA) ((i : Int) - 1) (i - 1) (by omega) (by (try simp only [List.length_nil, List.length_cons, List.length_append, List.length_take, List.length_drop, List.length_set, List.length_replicate, List.length_reverse, bits_len]); omega) (by omega)) ?_
          obtain ⟨y16, hy17⟩ : ∃ y, A[(i - 1)]? = some y := ⟨_, List.getElem?_eq_getElem (by (try simp only [List.length_nil, List.length_cons, List.length_append, List.length_take, List.length_drop, List.length_set, List.length_replicate, List.length_reverse, bits_len]); omega)⟩
          have hq : last = y16 := by rw [hj4, if_neg (by omega), hy17]; rfl
          refine s_lt (t_loadE iTy_ok (.zn hA) hy17) ?_
          refine s_lt t_cmp ?_
          refine s_lt (t_pure (.bool (decide (y9 ≤ y16)))) ?_
          refine s_lt (t_pure (.bool (decide (y9 ≤ y16)))) ?_
          refine s_nil ?_
          refine x_dynS (fun _ h => by kernel_rfl) ?_
          refine xs_then ?_
          refine k_cond (decide (y9 ≤ y16)) (fun c18 => ?_) (fun c18 => ?_)
          ·
            have p19 := of_decide_eq_true c18
            refine k_seq ?_
            refine k_reg ?_
            refine s_lt (t_kern (.agg #[(.slice none 0 0), (.slice none 0 0)])) ?_
            refine s_store 0 #[(.slice none 0 0), (.slice none 0 0)] ?_
            refine s_lt (t_pure (.int .i64 2)) ?_
            refine s_nil ?_
            refine xs_then ?_
            refine k_ret ?_
            refine xs_retBlock ?_
            refine xs_ret ?_
            refine xs_ret ?_
            refine xs_retBlock ?_
            refine xs_ret ?_
            have hA0 : (chk 0 l && ascA 0 A) = false := by rw [hi6.2.1, ascA_drop hy10, decide_eq_false (p := last < y9) (by omega)]; simp
            refine xs_fin [.agg #[(.slice none 0 0), (.slice none 0 0)], .int .i64 2] [frz (GrA (.slice none 0 0) (.slice none 0 0) [] [])] (SI.agg 4 25 0 (SI.tmp 5 SI.nil)) (fun _ h => (gr_nil h).re [0] [1, 1]) ⟨_, _, [], [], by rw [hA0]; rfl, by rw [hA0]; rfl, by rw [hA0]; rfl, rfl⟩
          ·
            have p20 := of_decide_eq_false c18
            refine k_skip ?_
            refine xs_block ?_
            refine xs_then ?_
            refine k_reg ?_
            refine s_lt (t_pure (.int .i64 (i : Int))) ?_
            refine s_lt (t_add (i : Int) 1 (by (try simp only [List.length_nil, List.length_cons, List.length_append, List.length_take, List.length_drop, List.length_set, List.length_replicate, List.length_reverse, bits_len]); omega)) ?_
            refine s_lt (t_pure (.int .i64 ((i : Int) + 1))) ?_
            refine s_nil ?_
            exact xs_round (y9, i + 1) (by show A.length - (i + 1) < A.length - i; omega) (by obtain ⟨hi1, hi2, hi3, hi4⟩ := hi6; have hd := ascA_drop (last := last) hy10; refine ⟨by omega, ?_, by omega, by show y9 = if i + 1 = 0 then 0 else (A[i + 1 - 1]?).getD 0; rw [if_neg (by omega), Nat.add_sub_cancel, hy10]; rfl⟩; rw [hi2, hd, decide_eq_true (by omega)]; rfl) (sub_of rfl ⟨⟨rfl, rfl⟩, ⟨⟨rfl, rfl⟩, ⟨⟨rfl, rfl⟩, ⟨⟨rfl, rfl⟩, ⟨⟨rfl, rfl⟩, trivial⟩⟩⟩⟩⟩) (fun _ h => h.re [0, 0] [])
        ·
          have p21 := of_decide_eq_false c14
          refine s_skip ?_
          refine s_skip ?_
          refine s_skip ?_
          refine s_skip ?_
          refine s_skip ?_
          refine s_skip ?_
          refine s_skip ?_
          refine s_skip ?_
          refine s_skip ?_
          refine s_skip ?_
          refine s_lt (t_pure (.bool false)) ?_
          refine s_lt (t_pure (.bool false)) ?_
          refine s_nil ?_
          refine x_dynS (fun _ h => by kernel_rfl) ?_
          refine xs_then ?_
          refine k_false ?_
          refine k_skip ?_
          refine xs_block ?_
          refine xs_then ?_
          refine k_reg ?_
          refine s_lt (t_pure (.int .i64 (i : Int))) ?_
          refine s_lt (t_add (i : Int) 1 (by (try simp only [List.length_nil, List.length_cons, List.length_append, List.length_take, List.length_drop, List.length_set, List.length_replicate, List.length_reverse, bits_len]); omega)) ?_
          refine s_lt (t_pure (.int .i64 ((i : Int) + 1))) ?_
          refine s_nil ?_
          exact xs_round (y9, i + 1) (by show A.length - (i + 1) < A.length - i; omega) (by obtain ⟨hi1, hi2, hi3, hi4⟩ := hi6; have hd := ascA_drop (last := last) hy10; refine ⟨by omega, ?_, by omega, by show y9 = if i + 1 = 0 then 0 else (A[i + 1 - 1]?).getD 0; rw [if_neg (by omega), Nat.add_sub_cancel, hy10]; rfl⟩; rw [hi2, hd, decide_eq_true (by omega)]; rfl) (sub_of rfl ⟨⟨rfl, rfl⟩, ⟨⟨rfl, rfl⟩, ⟨⟨rfl, rfl⟩, ⟨⟨rfl, rfl⟩, ⟨⟨rfl, rfl⟩, trivial⟩⟩⟩⟩⟩) (fun _ h => h.re [0, 0] [])
    ·
      have p22 := of_decide_eq_false c7
      refine k_exit ?_
      refine xs_exit ?_
      refine xs_exit ?_
      refine xs_here ?_
      refine xs_then ?_
      refine k_seq ?_
      refine k_reg ?_
      refine s_buildSlice (e := 3) [] #[] (fun g23 => ?_) (hb := by kernel_rfl)
      refine s_lt (t_pure (.pointer (some ⟨g1, 1, none⟩))) ?_
      refine s_lt (t_load 2 rv) ?_
      refine s_mem (fun _ h => Holds.slice 0 h iTy_ok []) ?_
      refine s_append (L := []) 0 iTy_ok Try.underlying23 (.zn hg.roots) (by show _ * 8 ≤ _; (try simp only [List.length_nil, List.length_cons, List.length_append, List.length_take, List.length_drop, List.length_set, List.length_replicate, List.length_reverse, bits_len]); omega) (by (try simp only [List.length_nil, List.length_cons, List.length_append, List.length_take, List.length_drop, List.length_set, List.length_replicate, List.length_reverse, bits_len]); omega) (fun v24 => ?_)
      rw [List.nil_append]
      refine s_fact (fun H h => ((Acc.own (T := iTy) (L := R) 0 rfl) H h).form) (fun hf25 => ?_)
      refine s_lt (show Lt _ _ _ _ _ (.agg #[(.slice none 0 0), v24]) from by obtain ⟨_, _, e⟩ := hf25; rw [e]; clear e; exact t_kern _) ?_
      refine s_alloc (.agg #[(.slice none 0 0), (.slice none 0 0)]) #[(.slice none 0 0), (.slice none 0 0)] (fun g26 => ?_)
      refine s_store (u := .agg #[(.slice none 0 0), v24]) (m := 2) 0 #[(.slice none 0 0), v24] ?_ (hm := by (obtain ⟨_, _, e0⟩ := hf25; rw [e0]; rfl)) (h1 := by (obtain ⟨_, _, e0⟩ := hf25; rw [e0]; rfl)) (ha' := by (obtain ⟨_, _, e0⟩ := hf25; rw [e0]; rfl))
      refine s_nil ?_
      refine xs_then ?_
      refine k_seq ?_
      refine k_seq ?_
      refine k_reg ?_
      refine s_lt (t_pure (.int .i64 0)) ?_
      refine s_nil ?_
      refine xs_then ?_
      refine k_block ?_
      have hA1 : ascA 0 A = true := by rw [hi6.2.1, List.drop_of_length_le (by omega)]; rfl
      have hA2 := ascA_asc hA1
      skip
      refine k_mem (fun _ h => Holds.nilS (T := ObT) (h.frz0 (F := AllO []) (by intro _ x hx; cases hx))) ?_
      refine k_loop (ι := Value × List Ob × Nat) (fun (ox, N, j) => j ≤ l.length ∧ N.map Ob.c = (l.take j).map (clr A)) (fun (ox, N, j) => [(1, av), (2, .pointer (some ⟨g1, 0, none⟩)), (4, .pointer (some ⟨g2, 0, none⟩)), (5, .int .i64 0), (8, .pointer (some ⟨g26, 0, none⟩)), (9, .int .i64 (j : Int))]) (fun (ox, N, j) => [own ObT ox N, frz (AllO N), blkA g26 #[ox, v24] 25, own iTy v24 R, blkA g2 #[(.slice none 0 0), (.slice none 0 0)] 25, blkA g1 #[ov, rv] 25]) (fun (ox, N, j) => l.length - j) (.slice none 0 0, [], 0) ⟨Nat.zero_le _, rfl⟩ (sub_of rfl ⟨⟨rfl, rfl⟩, ⟨⟨rfl, rfl⟩, ⟨⟨rfl, rfl⟩, ⟨⟨rfl, rfl⟩, ⟨⟨rfl, rfl⟩, ⟨⟨rfl, rfl⟩, trivial⟩⟩⟩⟩⟩⟩) (fun _ h => h.re [0, 0, 0, 0, 0, 0] []) ?_
      rintro ⟨ox, N, j⟩ hi27
      replace hi27 : j ≤ l.length ∧ N.map Ob.c = (l.take j).map (clr A) := hi27
      show SK _ _ _ _ _ [(1, av), (2, .pointer (some ⟨g1, 0, none⟩)), (4, .pointer (some ⟨g2, 0, none⟩)), (5, .int .i64 0), (8, .pointer (some ⟨g26, 0, none⟩)), (9, .int .i64 (j : Int))] _ [own ObT ox N, frz (AllO N), blkA g26 #[ox, v24] 25, own iTy v24 R, blkA g2 #[(.slice none 0 0), (.slice none 0 0)] 25, blkA g1 #[ov, rv] 25]
      have hNl : N.length = j := by have := congrArg List.length hi27.2; simp only [List.length_map, List.length_take] at this; omega
      refine k_seq ?_
      refine k_seq ?_
      refine k_reg ?_
      refine s_lt (t_pure (.int .i64 (j : Int))) ?_
      refine s_lt (t_pure (.pointer (some ⟨g1, 0, none⟩))) ?_
      refine s_lt (t_load 5 ov) ?_
      refine s_lt (t_len ObT_ok Try.underlying22 (.zn hg.obs)) ?_
      refine s_lt t_cmp ?_
      refine s_nil ?_
      refine xs_then ?_
      refine k_cond (decide ((j : Int) < (l.length : Int))) (fun c28 => ?_) (fun c28 => ?_)
      ·
        have p29 := of_decide_eq_true c28
        refine k_skip ?_
        refine xs_then ?_
        refine k_seq ?_
        refine k_block ?_
        refine k_seq ?_
        refine k_reg ?_
        refine s_lt (t_pure (.pointer (some ⟨g1, 0, none⟩))) ?_
        refine s_lt (t_load 5 ov) ?_
        refine s_lt (t_pure (.int .i64 (j : Int))) ?_
        refine s_lt (t_index ObT_ok Try.underlying22 (.zn hg.obs) (j : Int) j (by omega) (by (try simp only [List.length_nil, List.length_cons, List.length_append, List.length_take, List.length_drop, List.length_set, List.length_replicate, List.length_reverse, bits_len]); omega) (by omega)) ?_
        obtain ⟨y30, hy31⟩ : ∃ y, l[j]? = some y := ⟨_, List.getElem?_eq_getElem (by (try simp only [List.length_nil, List.length_cons, List.length_append, List.length_take, List.length_drop, List.length_set, List.length_replicate, List.length_reverse, bits_len]); omega)⟩
        have hk32 := hg.each y30 (List.mem_of_getElem? hy31)
        have hsy := hsm y30 (List.mem_of_getElem? hy31)
        refine s_lt (t_loadE ObT_ok (.zn hg.obs) hy31) ?_
        refine s_alloc (.agg #[.int .i64 0, .int .i64 0, .int .i64 0, (.slice none 0 0), (.slice none 0 0)]) #[.int .i64 0, .int .i64 0, .int .i64 0, (.slice none 0 0), (.slice none 0 0)] (fun g33 => ?_)
        refine s_store 0 #[.int .i64 y30.id, .int .i64 y30.size, .int .i64 y30.weak, y30.rv.v, y30.ev.v] ?_
        refine s_nil ?_
        refine xs_then ?_
        refine k_seq ?_
        refine k_held [blkA g33 #[.int .i64 y30.id, .int .i64 y30.size, .int .i64 y30.weak, y30.rv.v, y30.ev.v] 42, own ObT ox N, blkA g26 #[ox, v24] 25, own iTy v24 R, blkA g2 #[(.slice none 0 0), (.slice none 0 0)] 25, blkA g1 #[ov, rv] 25] ?_
        refine h_lt 0 rfl (np_then (np_block (np_then (np_then (np_block (np_then np_finS)))))) [0, 0, 1, 1, 1, 1] (fun _ => (t_pure (.pointer (some ⟨g33, 0, none⟩)))) ?_
        refine h_lt 1 rfl (np_then (np_block (np_then (np_then (np_block (np_then np_finS)))))) [0, 0, 1, 1, 1, 1] (fun _ => (t_load 0 (.int .i64 y30.id))) ?_
        refine h_lt 2 rfl (np_then (np_block (np_then (np_then (np_block (np_then np_finS)))))) [0, 0, 1, 1, 1, 1] (fun _ => (t_pure (.pointer (some ⟨g33, 1, none⟩)))) ?_
        refine h_lt 3 rfl (np_then (np_block (np_then (np_then (np_block (np_then np_finS)))))) [0, 0, 1, 1, 1, 1] (fun _ => (t_load 0 (.int .i64 y30.size))) ?_
        refine h_lt 4 rfl (np_then (np_block (np_then (np_then (np_block (np_then np_finS)))))) [0, 0, 1, 1, 1, 1] (fun _ => (t_pure (.pointer (some ⟨g33, 2, none⟩)))) ?_
        refine h_lt 5 rfl (np_then (np_block (np_then (np_then (np_block (np_then np_finS)))))) [0, 0, 1, 1, 1, 1] (fun _ => (t_load 0 (.int .i64 y30.weak))) ?_
        refine h_lt 7 rfl (np_then (np_block (np_then (np_then (np_block (np_then np_finS)))))) [0, 0, 1, 1, 1, 1] (fun _ => (t_pure (.pointer (some ⟨g33, 3, none⟩)))) ?_
        refine h_lt 8 rfl (np_then (np_block (np_then (np_then (np_block (np_then np_finS)))))) [0, 0, 1, 1, 1, 1] (fun _ => (t_load 0 y30.rv.v)) ?_
        refine h_stepS2 6 11 ?_ ?_
        ·
          refine s_buildSlice (e := 3) [] #[] (fun g34 => ?_) (hb := by kernel_rfl)
          refine s_nil (xs_held [1, 1, 2, 2, 2, 2] ?_)
          refine h_stepS2 9 11 ?_ ?_
          ·
            refine s_mem (fun _ h => Holds.slice 0 h iTy_ok []) ?_
            refine s_append (L := []) 0 iTy_ok Try.underlying23 (.zn hk32.1) (by show _ * 8 ≤ _; (try simp only [List.length_nil, List.length_cons, List.length_append, List.length_take, List.length_drop, List.length_set, List.length_replicate, List.length_reverse, bits_len]); omega) (by (try simp only [List.length_nil, List.length_cons, List.length_append, List.length_take, List.length_drop, List.length_set, List.length_replicate, List.length_reverse, bits_len]); omega) (fun v35 => ?_)
            rw [List.nil_append]
            refine s_fact (fun H h => ((Acc.own (T := iTy) (L := y30.refs) 0 rfl) H h).form) (fun hf36 => ?_)
            refine s_nil (xs_held [1, 1, 2, 2, 2, 2] ?_)
            refine h_lt 10 rfl (np_then (np_block (np_then (np_then (np_block (np_then np_finS)))))) [1, 1, 2, 2, 2, 2] (fun _ => (show Lt _ _ _ _ _ (.agg #[.int .i64 y30.id, .int .i64 y30.size, .int .i64 y30.weak, v35, (.slice none 0 0)]) from by obtain ⟨_, _, e⟩ := hf36; rw [e]; clear e; exact t_kern _)) ?_
            refine h_stepS 11 ?_
            refine s_alloc (.agg #[.int .i64 0, .int .i64 0, .int .i64 0, (.slice none 0 0), (.slice none 0 0)]) #[.int .i64 0, .int .i64 0, .int .i64 0, (.slice none 0 0), (.slice none 0 0)] (fun g37 => ?_)
            refine s_nil (xs_held [2, 2, 3, 3, 3, 3] ?_)
            refine h_stepS 12 ?_
            refine s_store (u := .agg #[.int .i64 y30.id, .int .i64 y30.size, .int .i64 y30.weak, v35, (.slice none 0 0)]) (m := 5) 0 #[.int .i64 y30.id, .int .i64 y30.size, .int .i64 y30.weak, v35, (.slice none 0 0)] ?_ (hm := by (obtain ⟨_, _, e0⟩ := hf36; rw [e0]; rfl)) (h1 := by (obtain ⟨_, _, e0⟩ := hf36; rw [e0]; rfl)) (ha' := by (obtain ⟨_, _, e0⟩ := hf36; rw [e0]; rfl))
            refine s_nil (xs_held [2, 2, 3, 3, 3, 3] ?_)
            refine h_doneS ?_
            refine xs_then ?_
            refine k_seq ?_
            refine k_seq ?_
            refine k_reg ?_
            refine s_lt (t_pure (.int .i64 0)) ?_
            refine s_nil ?_
            refine xs_then ?_
            refine k_block ?_
            refine k_mem (fun _ h => Holds.nilS (T := EntT) h) ?_
            refine k_mem (Bs := [own EntT (.slice none 0 0) ((y30.ents.take 0).filter (keepB A y30.weak)), blkA g37 #[.int .i64 y30.id, .int .i64 y30.size, .int .i64 y30.weak, v35, (.slice none 0 0)] 42, own iTy v35 y30.refs, blkA g33 #[.int .i64 y30.id, .int .i64 y30.size, .int .i64 y30.weak, y30.rv.v, y30.ev.v] 42, own ObT ox N, frz (AllO N), blkA g26 #[ox, v24] 25, own iTy v24 R, blkA g2 #[(.slice none 0 0), (.slice none 0 0)] 25, blkA g1 #[ov, rv] 25]) (fun _ h => h) ?_
            refine k_loop (ι := Value × Nat) (fun (sy, k) => k ≤ y30.ents.length) (fun (sy, k) => [(1, av), (2, .pointer (some ⟨g1, 0, none⟩)), (4, .pointer (some ⟨g2, 0, none⟩)), (5, .int .i64 0), (8, .pointer (some ⟨g26, 0, none⟩)), (9, .int .i64 (j : Int)), (10, .pointer (some ⟨g33, 0, none⟩)), (11, .pointer (some ⟨g37, 0, none⟩)), (12, .int .i64 (k : Int)), (52, .int .i64 (j : Int)), (53, .pointer (some ⟨g1, 0, none⟩)), (54, ov), (55, .int .i64 (l.length : Int)), (56, .bool (decide ((j : Int) < (l.length : Int)))), (59, .pointer (some ⟨g1, 0, none⟩)), (60, ov), (61, .int .i64 (j : Int)), (62, .pointer (some (elemAt ObT.size ov j))), (63, .agg #[.int .i64 y30.id, .int .i64 y30.size, .int .i64 y30.weak, y30.rv.v, y30.ev.v]), (64, .pointer (some ⟨g33, 0, none⟩)), (65, .int .i64 y30.id), (66, .pointer (some ⟨g33, 1, none⟩)), (67, .int .i64 y30.size), (68, .pointer (some ⟨g33, 2, none⟩)), (69, .int .i64 y30.weak), (70, (.slice (some ⟨g34, 0, none⟩) 0 0)), (71, .pointer (some ⟨g33, 3, none⟩)), (72, y30.rv.v), (73, v35), (74, .agg #[.int .i64 y30.id, .int .i64 y30.size, .int .i64 y30.weak, v35, (.slice none 0 0)])]) (fun (sy, k) => [own EntT sy ((y30.ents.take k).filter (keepB A y30.weak)), blkA g37 #[.int .i64 y30.id, .int .i64 y30.size, .int .i64 y30.weak, v35, sy] 42, own iTy v35 y30.refs, blkA g33 #[.int .i64 y30.id, .int .i64 y30.size, .int .i64 y30.weak, y30.rv.v, y30.ev.v] 42, own ObT ox N, frz (AllO N), blkA g26 #[ox, v24] 25, own iTy v24 R, blkA g2 #[(.slice none 0 0), (.slice none 0 0)] 25, blkA g1 #[ov, rv] 25]) (fun (sy, k) => y30.ents.length - k) (.slice none 0 0, 0) (Nat.zero_le _) (sub_of rfl ⟨⟨rfl, rfl⟩, ⟨⟨rfl, rfl⟩, ⟨⟨rfl, rfl⟩, ⟨⟨rfl, rfl⟩, ⟨⟨rfl, rfl⟩, ⟨⟨rfl, rfl⟩, ⟨⟨rfl, rfl⟩, ⟨⟨rfl, rfl⟩, ⟨⟨rfl, rfl⟩, ⟨⟨rfl, rfl⟩, ⟨⟨rfl, rfl⟩, ⟨⟨rfl, rfl⟩, ⟨⟨rfl, rfl⟩, ⟨⟨rfl, rfl⟩, ⟨⟨rfl, rfl⟩, ⟨⟨rfl, rfl⟩, ⟨⟨rfl, rfl⟩, ⟨⟨rfl, rfl⟩, ⟨⟨rfl, rfl⟩, ⟨⟨rfl, rfl⟩, ⟨⟨rfl, rfl⟩, ⟨⟨rfl, rfl⟩, ⟨⟨rfl, rfl⟩, ⟨⟨rfl, rfl⟩, ⟨⟨rfl, rfl⟩, ⟨⟨rfl, rfl⟩, ⟨⟨rfl, rfl⟩, ⟨⟨rfl, rfl⟩, ⟨⟨rfl, rfl⟩, ⟨⟨rfl, rfl⟩, trivial⟩⟩⟩⟩⟩⟩⟩⟩⟩⟩⟩⟩⟩⟩⟩⟩⟩⟩⟩⟩⟩⟩⟩⟩⟩⟩⟩⟩⟩⟩) (fun _ h => h.re [0, 0, 0, 0, 0, 0, 0, 0, 0, 0] []) ?_
            rintro ⟨sy, k⟩ hi38
            replace hi38 : k ≤ y30.ents.length := hi38
            show SK _ _ _ _ _ [(1, av), (2, .pointer (some ⟨g1, 0, none⟩)), (4, .pointer (some ⟨g2, 0, none⟩)), (5, .int .i64 0), (8, .pointer (some ⟨g26, 0, none⟩)), (9, .int .i64 (j : Int)), (10, .pointer (some ⟨g33, 0, none⟩)), (11, .pointer (some ⟨g37, 0, none⟩)), (12, .int .i64 (k : Int)), (52, .int .i64 (j : Int)), (53, .pointer (some ⟨g1, 0, none⟩)), (54, ov), (55, .int .i64 (l.length : Int)), (56, .bool (decide ((j : Int) < (l.length : Int)))), (59, .pointer (some ⟨g1, 0, none⟩)), (60, ov), (61, .int .i64 (j : Int)), (62, .pointer (some (elemAt ObT.size ov j))), (63, .agg #[.int .i64 y30.id, .int .i64 y30.size, .int .i64 y30.weak, y30.rv.v, y30.ev.v]), (64, .pointer (some ⟨g33, 0, none⟩)), (65, .int .i64 y30.id), (66, .pointer (some ⟨g33, 1, none⟩)), (67, .int .i64 y30.size), (68, .pointer (some ⟨g33, 2, none⟩)), (69, .int .i64 y30.weak), (70, (.slice (some ⟨g34, 0, none⟩) 0 0)), (71, .pointer (some ⟨g33, 3, none⟩)), (72, y30.rv.v), (73, v35), (74, .agg #[.int .i64 y30.id, .int .i64 y30.size, .int .i64 y30.weak, v35, (.slice none 0 0)])] _ [own EntT sy ((y30.ents.take k).filter (keepB A y30.weak)), blkA g37 #[.int .i64 y30.id, .int .i64 y30.size, .int .i64 y30.weak, v35, sy] 42, own iTy v35 y30.refs, blkA g33 #[.int .i64 y30.id, .int .i64 y30.size, .int .i64 y30.weak, y30.rv.v, y30.ev.v] 42, own ObT ox N, frz (AllO N), blkA g26 #[ox, v24] 25, own iTy v24 R, blkA g2 #[(.slice none 0 0), (.slice none 0 0)] 25, blkA g1 #[ov, rv] 25]
            have hfl := List.length_filter_le (keepB A y30.weak) (y30.ents.take k); rw [List.length_take] at hfl
            refine k_seq ?_
            refine k_seq ?_
            refine k_reg ?_
            refine s_lt (t_pure (.int .i64 (k : Int))) ?_
            refine s_lt (t_pure (.pointer (some ⟨g33, 4, none⟩))) ?_
            refine s_lt (t_load 3 y30.ev.v) ?_
            refine s_lt (t_len EntT_ok Try.underlying40 (.zn hk32.2)) ?_
            refine s_lt t_cmp ?_
            refine s_nil ?_
            refine xs_then ?_
            refine k_cond (decide ((k : Int) < (y30.ents.length : Int))) (fun c39 => ?_) (fun c39 => ?_)
            ·
              have p40 := of_decide_eq_true c39
              refine k_skip ?_
              refine xs_then ?_
              refine k_seq ?_
              refine k_block ?_
              refine k_seq ?_
              refine k_draw ?_
              refine s_lt (t_pure (.pointer (some ⟨g33, 2, none⟩))) ?_
              refine s_lt (t_load 3 (.int .i64 y30.weak)) ?_
              refine s_lt (t_pure (.pointer (some ⟨g33, 4, none⟩))) ?_
              refine s_lt (t_load 3 y30.ev.v) ?_
              refine s_lt (t_pure (.int .i64 (k : Int))) ?_
              refine s_lt (t_index EntT_ok Try.underlying40 (.zn hk32.2) (k : Int) k (by omega) (by (try simp only [List.length_nil, List.length_cons, List.length_append, List.length_take, List.length_drop, List.length_set, List.length_replicate, List.length_reverse, bits_len]); omega) (by omega)) ?_
              obtain ⟨y41, hy42⟩ : ∃ y, y30.ents[k]? = some y := ⟨_, List.getElem?_eq_getElem (by (try simp only [List.length_nil, List.length_cons, List.length_append, List.length_take, List.length_drop, List.length_set, List.length_replicate, List.length_reverse, bits_len]); omega)⟩
              refine s_lt (t_loadE EntT_ok (.zn hk32.2) hy42) ?_
              refine s_lt (t_pure av) ?_
              refine s_vcall (fun _ h => left_s (Acc.kn (.zn hA) h) hA2 (by omega) y30.weak y41) ?_
              rintro _ rfl
              refine s_nil ?_
              refine x_dynS (fun _ h => by kernel_rfl) ?_
              refine xs_then ?_
              refine k_cond (keepB A y30.weak y41) (fun c43 => ?_) (fun c43 => ?_)
              ·
                refine k_draw ?_
                refine s_lt (t_pure (.pointer (some ⟨g37, 4, none⟩))) ?_
                refine s_lt (t_load 1 sy) ?_
                refine s_lt (t_pure (.pointer (some ⟨g33, 4, none⟩))) ?_
                refine s_lt (t_load 3 y30.ev.v) ?_
                refine s_lt (t_pure (.int .i64 (k : Int))) ?_
                refine s_lt (t_index EntT_ok Try.underlying40 (.zn hk32.2) (k : Int) k (by omega) (by (try simp only [List.length_nil, List.length_cons, List.length_append, List.length_take, List.length_drop, List.length_set, List.length_replicate, List.length_reverse, bits_len]); omega) (by omega)) ?_
                refine s_lt (t_loadE EntT_ok (.zn hk32.2) hy42) ?_
                refine s_buildSlice (e := 45) [(0, .agg #[.int .i64 y41.key, .int .i64 y41.val])] #[.int .i64 y41.key, .int .i64 y41.val] (fun g44 => ?_) (hb := by kernel_rfl)
                refine s_append (L := ((y30.ents.take k).filter (keepB A y30.weak))) 1 EntT_ok Try.underlying40 (.lit 0 EntT_ok [y41]) (by show _ * 16 ≤ _; (try simp only [List.length_nil, List.length_cons, List.length_append, List.length_take, List.length_drop, List.length_set, List.length_replicate, List.length_reverse, bits_len]); omega) (by (try simp only [List.length_nil, List.length_cons, List.length_append, List.length_take, List.length_drop, List.length_set, List.length_replicate, List.length_reverse, bits_len]); omega) (fun v45 => ?_)
                refine s_fact (fun H h => ((Acc.own (T := EntT) (L := (((y30.ents.take k).filter (keepB A y30.weak)) ++ [y41])) 1 rfl) H h).form) (fun hf46 => ?_)
                refine s_lt (t_pure (.pointer (some ⟨g37, 4, none⟩))) ?_
                refine s_store (u := v45) (m := 1) 2 #[.int .i64 y30.id, .int .i64 y30.size, .int .i64 y30.weak, v35, v45] ?_ (hm := by (obtain ⟨_, _, e0⟩ := hf46; rw [e0]; rfl)) (h1 := by (obtain ⟨_, _, e0⟩ := hf46; rw [e0]; rfl)) (ha' := by (obtain ⟨_, _, e0⟩ := hf46; rw [e0]; rfl))
                refine s_nil ?_
                refine x_dynS (fun _ h => by kernel_rfl) ?_
                refine xs_block ?_
                refine xs_then ?_
                refine k_reg ?_
                refine s_lt (t_pure (.int .i64 (k : Int))) ?_
                refine s_lt (t_add (k : Int) 1 (by (try simp only [List.length_nil, List.length_cons, List.length_append, List.length_take, List.length_drop, List.length_set, List.length_replicate, List.length_reverse, bits_len]); omega)) ?_
                refine s_lt (t_pure (.int .i64 ((k : Int) + 1))) ?_
                refine s_nil ?_
                rw [filt_yes (p := keepB A y30.weak) hy42 c43]
                exact xs_round (v45, k + 1) (by show y30.ents.length - (k + 1) < y30.ents.length - k; omega) (by show k + 1 ≤ y30.ents.length; omega) (sub_of rfl ⟨⟨rfl, rfl⟩, ⟨⟨rfl, rfl⟩, ⟨⟨rfl, rfl⟩, ⟨⟨rfl, rfl⟩, ⟨⟨rfl, rfl⟩, ⟨⟨rfl, rfl⟩, ⟨⟨rfl, rfl⟩, ⟨⟨rfl, rfl⟩, ⟨⟨rfl, rfl⟩, ⟨⟨rfl, rfl⟩, ⟨⟨rfl, rfl⟩, ⟨⟨rfl, rfl⟩, ⟨⟨rfl, rfl⟩, ⟨⟨rfl, rfl⟩, ⟨⟨rfl, rfl⟩, ⟨⟨rfl, rfl⟩, ⟨⟨rfl, rfl⟩, ⟨⟨rfl, rfl⟩, ⟨⟨rfl, rfl⟩, ⟨⟨rfl, rfl⟩, ⟨⟨rfl, rfl⟩, ⟨⟨rfl, rfl⟩, ⟨⟨rfl, rfl⟩, ⟨⟨rfl, rfl⟩, ⟨⟨rfl, rfl⟩, ⟨⟨rfl, rfl⟩, ⟨⟨rfl, rfl⟩, ⟨⟨rfl, rfl⟩, ⟨⟨rfl, rfl⟩, ⟨⟨rfl, rfl⟩, trivial⟩⟩⟩⟩⟩⟩⟩⟩⟩⟩⟩⟩⟩⟩⟩⟩⟩⟩⟩⟩⟩⟩⟩⟩⟩⟩⟩⟩⟩⟩) (fun _ h => h.re [1, 1, 1, 1, 1, 1, 1, 1, 1, 1] [10])
              ·
                refine k_skip ?_
                refine xs_block ?_
                refine xs_then ?_
                refine k_reg ?_
                refine s_lt (t_pure (.int .i64 (k : Int))) ?_
                refine s_lt (t_add (k : Int) 1 (by (try simp only [List.length_nil, List.length_cons, List.length_append, List.length_take, List.length_drop, List.length_set, List.length_replicate, List.length_reverse, bits_len]); omega)) ?_
                refine s_lt (t_pure (.int .i64 ((k : Int) + 1))) ?_
                refine s_nil ?_
                rw [filt_no (p := keepB A y30.weak) hy42 c43]
                exact xs_round (sy, k + 1) (by show y30.ents.length - (k + 1) < y30.ents.length - k; omega) (by show k + 1 ≤ y30.ents.length; omega) (sub_of rfl ⟨⟨rfl, rfl⟩, ⟨⟨rfl, rfl⟩, ⟨⟨rfl, rfl⟩, ⟨⟨rfl, rfl⟩, ⟨⟨rfl, rfl⟩, ⟨⟨rfl, rfl⟩, ⟨⟨rfl, rfl⟩, ⟨⟨rfl, rfl⟩, ⟨⟨rfl, rfl⟩, ⟨⟨rfl, rfl⟩, ⟨⟨rfl, rfl⟩, ⟨⟨rfl, rfl⟩, ⟨⟨rfl, rfl⟩, ⟨⟨rfl, rfl⟩, ⟨⟨rfl, rfl⟩, ⟨⟨rfl, rfl⟩, ⟨⟨rfl, rfl⟩, ⟨⟨rfl, rfl⟩, ⟨⟨rfl, rfl⟩, ⟨⟨rfl, rfl⟩, ⟨⟨rfl, rfl⟩, ⟨⟨rfl, rfl⟩, ⟨⟨rfl, rfl⟩, ⟨⟨rfl, rfl⟩, ⟨⟨rfl, rfl⟩, ⟨⟨rfl, rfl⟩, ⟨⟨rfl, rfl⟩, ⟨⟨rfl, rfl⟩, ⟨⟨rfl, rfl⟩, ⟨⟨rfl, rfl⟩, trivial⟩⟩⟩⟩⟩⟩⟩⟩⟩⟩⟩⟩⟩⟩⟩⟩⟩⟩⟩⟩⟩⟩⟩⟩⟩⟩⟩⟩⟩⟩) (fun _ h => h.re [0, 0, 0, 0, 0, 0, 0, 0, 0, 0] [])
            ·
              have p47 := of_decide_eq_false c39
              refine k_exit ?_
              obtain rfl : k = y30.ents.length := by omega
              rw [List.take_length]
              have hfl := List.length_filter_le (keepB A y30.weak) y30.ents
              refine xs_exit ?_
              refine xs_exit ?_
              refine xs_here ?_
              refine xs_then ?_
              refine k_reg ?_
              refine s_lt (t_pure (.pointer (some ⟨g26, 0, none⟩))) ?_
              refine s_lt (t_load 6 ox) ?_
              obtain ⟨pp48, cc49, e⟩ := hf36; subst e
              refine s_fact (fun H h => ((Acc.own (T := EntT) (L := (y30.ents.filter (keepB A y30.weak))) 0 rfl) H h).form) (fun hf50 => ?_)
              obtain ⟨pp51, cc52, e⟩ := hf50; subst e
              refine s_lt (t_loadA 1 #[.int .i64 y30.id, .int .i64 y30.size, .int .i64 y30.weak, (.slice pp48 y30.refs.length cc49), (.slice pp51 (y30.ents.filter (keepB A y30.weak)).length cc52)]) ?_
              refine s_buildSlice (e := 42) [(0, .agg #[.int .i64 y30.id, .int .i64 y30.size, .int .i64 y30.weak, (.slice pp48 y30.refs.length cc49), (.slice pp51 (y30.ents.filter (keepB A y30.weak)).length cc52)])] #[.int .i64 y30.id, .int .i64 y30.size, .int .i64 y30.weak, (.slice pp48 y30.refs.length cc49), (.slice pp51 (y30.ents.filter (keepB A y30.weak)).length cc52)] (fun g53 => ?_) (hb := by kernel_rfl)
              refine s_append (L := N) 5 ObT_ok Try.underlying22 (.lit 0 ObT_ok [(⟨y30.id, y30.size, y30.weak, ⟨pp48, y30.refs.length, cc49⟩, ⟨pp51, (y30.ents.filter (keepB A y30.weak)).length, cc52⟩, y30.refs, (y30.ents.filter (keepB A y30.weak))⟩ : Ob)]) (by show _ * 72 ≤ _; (try simp only [List.length_nil, List.length_cons, List.length_append, List.length_take, List.length_drop, List.length_set, List.length_replicate, List.length_reverse, bits_len]); omega) (by (try simp only [List.length_nil, List.length_cons, List.length_append, List.length_take, List.length_drop, List.length_set, List.length_replicate, List.length_reverse, bits_len]); omega) (fun v54 => ?_)
              refine s_fact (fun H h => ((Acc.own (T := ObT) (L := (N ++ [(⟨y30.id, y30.size, y30.weak, ⟨pp48, y30.refs.length, cc49⟩, ⟨pp51, (y30.ents.filter (keepB A y30.weak)).length, cc52⟩, y30.refs, (y30.ents.filter (keepB A y30.weak))⟩ : Ob)])) 5 rfl) H h).form) (fun hf55 => ?_)
              refine s_lt (t_pure (.pointer (some ⟨g26, 0, none⟩))) ?_
              refine s_store (u := v54) (m := 1) 7 #[v54, v24] ?_ (hm := by (obtain ⟨_, _, e0⟩ := hf55; rw [e0]; rfl)) (h1 := by (obtain ⟨_, _, e0⟩ := hf55; rw [e0]; rfl)) (ha' := by (obtain ⟨_, _, e0⟩ := hf55; rw [e0]; rfl))
              refine s_nil ?_
              refine xs_block ?_
              refine xs_then ?_
              refine k_reg ?_
              refine s_lt (t_pure (.int .i64 (j : Int))) ?_
              refine s_lt (t_add (j : Int) 1 (by (try simp only [List.length_nil, List.length_cons, List.length_append, List.length_take, List.length_drop, List.length_set, List.length_replicate, List.length_reverse, bits_len]); omega)) ?_
              refine s_lt (t_pure (.int .i64 ((j : Int) + 1))) ?_
              refine s_nil ?_
              refine xs_mem (fun _ h => frz_push (⟨y30.id, y30.size, y30.weak, ⟨pp48, y30.refs.length, cc49⟩, ⟨pp51, (y30.ents.filter (keepB A y30.weak)).length, cc52⟩, y30.refs, (y30.ents.filter (keepB A y30.weak))⟩ : Ob) (h.re [3, 1, 4] [])) ?_
              exact xs_round (v54, N ++ [(⟨y30.id, y30.size, y30.weak, ⟨pp48, y30.refs.length, cc49⟩, ⟨pp51, (y30.ents.filter (keepB A y30.weak)).length, cc52⟩, y30.refs, (y30.ents.filter (keepB A y30.weak))⟩ : Ob)], j + 1) (by show l.length - (j + 1) < l.length - j; omega) (by obtain ⟨hk1, hk2⟩ := hi27; exact ⟨by omega, map_snoc hy31 hk2 rfl⟩) (sub_of rfl ⟨⟨rfl, rfl⟩, ⟨⟨rfl, rfl⟩, ⟨⟨rfl, rfl⟩, ⟨⟨rfl, rfl⟩, ⟨⟨rfl, rfl⟩, ⟨⟨rfl, rfl⟩, trivial⟩⟩⟩⟩⟩⟩) (fun _ h => h.re [4, 0, 3, 3, 3, 3] [6, 6, 6])
          ·
            refine s_alloc (.agg #[.int .i64 0, .int .i64 0, .int .i64 0, (.slice none 0 0), (.slice none 0 0)]) #[.int .i64 0, .int .i64 0, .int .i64 0, (.slice none 0 0), (.slice none 0 0)] (fun g56 => ?_)
            refine s_nil (xs_held [2, 2, 3, 3, 3, 3] ?_)
            refine h_stepS 9 ?_
            refine s_mem (fun _ h => Holds.slice 1 h iTy_ok []) ?_
            refine s_append (L := []) 1 iTy_ok Try.underlying23 (.zn hk32.1) (by show _ * 8 ≤ _; (try simp only [List.length_nil, List.length_cons, List.length_append, List.length_take, List.length_drop, List.length_set, List.length_replicate, List.length_reverse, bits_len]); omega) (by (try simp only [List.length_nil, List.length_cons, List.length_append, List.length_take, List.length_drop, List.length_set, List.length_replicate, List.length_reverse, bits_len]); omega) (fun v57 => ?_)
            rw [List.nil_append]
            refine s_fact (fun H h => ((Acc.own (T := iTy) (L := y30.refs) 1 rfl) H h).form) (fun hf58 => ?_)
            refine s_nil (xs_held [2, 2, 3, 3, 3, 3] ?_)
            refine h_lt 10 rfl (np_then (np_block (np_then (np_then (np_block (np_then np_finS)))))) [2, 2, 3, 3, 3, 3] (fun _ => (show Lt _ _ _ _ _ (.agg #[.int .i64 y30.id, .int .i64 y30.size, .int .i64 y30.weak, v57, (.slice none 0 0)]) from by obtain ⟨_, _, e⟩ := hf58; rw [e]; clear e; exact t_kern _)) ?_
            refine h_stepS 12 ?_
            refine s_store (u := .agg #[.int .i64 y30.id, .int .i64 y30.size, .int .i64 y30.weak, v57, (.slice none 0 0)]) (m := 5) 0 #[.int .i64 y30.id, .int .i64 y30.size, .int .i64 y30.weak, v57, (.slice none 0 0)] ?_ (hm := by (obtain ⟨_, _, e0⟩ := hf58; rw [e0]; rfl)) (h1 := by (obtain ⟨_, _, e0⟩ := hf58; rw [e0]; rfl)) (ha' := by (obtain ⟨_, _, e0⟩ := hf58; rw [e0]; rfl))
            refine s_nil (xs_held [2, 2, 3, 3, 3, 3] ?_)
            refine h_doneS ?_
            refine xs_then ?_
            refine k_seq ?_
            refine k_seq ?_
            refine k_reg ?_
            refine s_lt (t_pure (.int .i64 0)) ?_
            refine s_nil ?_
            refine xs_then ?_
            refine k_block ?_
            refine k_mem (fun _ h => Holds.nilS (T := EntT) h) ?_
            refine k_mem (Bs := [own EntT (.slice none 0 0) ((y30.ents.take 0).filter (keepB A y30.weak)), blkA g56 #[.int .i64 y30.id, .int .i64 y30.size, .int .i64 y30.weak, v57, (.slice none 0 0)] 42, own iTy v57 y30.refs, blkA g33 #[.int .i64 y30.id, .int .i64 y30.size, .int .i64 y30.weak, y30.rv.v, y30.ev.v] 42, own ObT ox N, frz (AllO N), blkA g26 #[ox, v24] 25, own iTy v24 R, blkA g2 #[(.slice none 0 0), (.slice none 0 0)] 25, blkA g1 #[ov, rv] 25]) (fun _ h => h) ?_
            refine k_loop (ι := Value × Nat) (fun (sy, k) => k ≤ y30.ents.length) (fun (sy, k) => [(1, av), (2, .pointer (some ⟨g1, 0, none⟩)), (4, .pointer (some ⟨g2, 0, none⟩)), (5, .int .i64 0), (8, .pointer (some ⟨g26, 0, none⟩)), (9, .int .i64 (j : Int)), (10, .pointer (some ⟨g33, 0, none⟩)), (11, .pointer (some ⟨g56, 0, none⟩)), (12, .int .i64 (k : Int)), (52, .int .i64 (j : Int)), (53, .pointer (some ⟨g1, 0, none⟩)), (54, ov), (55, .int .i64 (l.length : Int)), (56, .bool (decide ((j : Int) < (l.length : Int)))), (59, .pointer (some ⟨g1, 0, none⟩)), (60, ov), (61, .int .i64 (j : Int)), (62, .pointer (some (elemAt ObT.size ov j))), (63, .agg #[.int .i64 y30.id, .int .i64 y30.size, .int .i64 y30.weak, y30.rv.v, y30.ev.v]), (64, .pointer (some ⟨g33, 0, none⟩)), (65, .int .i64 y30.id), (66, .pointer (some ⟨g33, 1, none⟩)), (67, .int .i64 y30.size), (68, .pointer (some ⟨g33, 2, none⟩)), (69, .int .i64 y30.weak), (70, (.slice (some ⟨g34, 0, none⟩) 0 0)), (71, .pointer (some ⟨g33, 3, none⟩)), (72, y30.rv.v), (73, v57), (74, .agg #[.int .i64 y30.id, .int .i64 y30.size, .int .i64 y30.weak, v57, (.slice none 0 0)])]) (fun (sy, k) => [own EntT sy ((y30.ents.take k).filter (keepB A y30.weak)), blkA g56 #[.int .i64 y30.id, .int .i64 y30.size, .int .i64 y30.weak, v57, sy] 42, own iTy v57 y30.refs, blkA g33 #[.int .i64 y30.id, .int .i64 y30.size, .int .i64 y30.weak, y30.rv.v, y30.ev.v] 42, own ObT ox N, frz (AllO N), blkA g26 #[ox, v24] 25, own iTy v24 R, blkA g2 #[(.slice none 0 0), (.slice none 0 0)] 25, blkA g1 #[ov, rv] 25]) (fun (sy, k) => y30.ents.length - k) (.slice none 0 0, 0) (Nat.zero_le _) (sub_of rfl ⟨⟨rfl, rfl⟩, ⟨⟨rfl, rfl⟩, ⟨⟨rfl, rfl⟩, ⟨⟨rfl, rfl⟩, ⟨⟨rfl, rfl⟩, ⟨⟨rfl, rfl⟩, ⟨⟨rfl, rfl⟩, ⟨⟨rfl, rfl⟩, ⟨⟨rfl, rfl⟩, ⟨⟨rfl, rfl⟩, ⟨⟨rfl, rfl⟩, ⟨⟨rfl, rfl⟩, ⟨⟨rfl, rfl⟩, ⟨⟨rfl, rfl⟩, ⟨⟨rfl, rfl⟩, ⟨⟨rfl, rfl⟩, ⟨⟨rfl, rfl⟩, ⟨⟨rfl, rfl⟩, ⟨⟨rfl, rfl⟩, ⟨⟨rfl, rfl⟩, ⟨⟨rfl, rfl⟩, ⟨⟨rfl, rfl⟩, ⟨⟨rfl, rfl⟩, ⟨⟨rfl, rfl⟩, ⟨⟨rfl, rfl⟩, ⟨⟨rfl, rfl⟩, ⟨⟨rfl, rfl⟩, ⟨⟨rfl, rfl⟩, ⟨⟨rfl, rfl⟩, ⟨⟨rfl, rfl⟩, trivial⟩⟩⟩⟩⟩⟩⟩⟩⟩⟩⟩⟩⟩⟩⟩⟩⟩⟩⟩⟩⟩⟩⟩⟩⟩⟩⟩⟩⟩⟩) (fun _ h => h.re [0, 0, 0, 0, 0, 0, 0, 0, 0, 0] []) ?_
            rintro ⟨sy, k⟩ hi59
            replace hi59 : k ≤ y30.ents.length := hi59
            show SK _ _ _ _ _ [(1, av), (2, .pointer (some ⟨g1, 0, none⟩)), (4, .pointer (some ⟨g2, 0, none⟩)), (5, .int .i64 0), (8, .pointer (some ⟨g26, 0, none⟩)), (9, .int .i64 (j : Int)), (10, .pointer (some ⟨g33, 0, none⟩)), (11, .pointer (some ⟨g56, 0, none⟩)), (12, .int .i64 (k : Int)), (52, .int .i64 (j : Int)), (53, .pointer (some ⟨g1, 0, none⟩)), (54, ov), (55, .int .i64 (l.length : Int)), (56, .bool (decide ((j : Int) < (l.length : Int)))), (59, .pointer (some ⟨g1, 0, none⟩)), (60, ov), (61, .int .i64 (j : Int)), (62, .pointer (some (elemAt ObT.size ov j))), (63, .agg #[.int .i64 y30.id, .int .i64 y30.size, .int .i64 y30.weak, y30.rv.v, y30.ev.v]), (64, .pointer (some ⟨g33, 0, none⟩)), (65, .int .i64 y30.id), (66, .pointer (some ⟨g33, 1, none⟩)), (67, .int .i64 y30.size), (68, .pointer (some ⟨g33, 2, none⟩)), (69, .int .i64 y30.weak), (70, (.slice (some ⟨g34, 0, none⟩) 0 0)), (71, .pointer (some ⟨g33, 3, none⟩)), (72, y30.rv.v), (73, v57), (74, .agg #[.int .i64 y30.id, .int .i64 y30.size, .int .i64 y30.weak, v57, (.slice none 0 0)])] _ [own EntT sy ((y30.ents.take k).filter (keepB A y30.weak)), blkA g56 #[.int .i64 y30.id, .int .i64 y30.size, .int .i64 y30.weak, v57, sy] 42, own iTy v57 y30.refs, blkA g33 #[.int .i64 y30.id, .int .i64 y30.size, .int .i64 y30.weak, y30.rv.v, y30.ev.v] 42, own ObT ox N, frz (AllO N), blkA g26 #[ox, v24] 25, own iTy v24 R, blkA g2 #[(.slice none 0 0), (.slice none 0 0)] 25, blkA g1 #[ov, rv] 25]
            have hfl := List.length_filter_le (keepB A y30.weak) (y30.ents.take k); rw [List.length_take] at hfl
            refine k_seq ?_
            refine k_seq ?_
            refine k_reg ?_
            refine s_lt (t_pure (.int .i64 (k : Int))) ?_
            refine s_lt (t_pure (.pointer (some ⟨g33, 4, none⟩))) ?_
            refine s_lt (t_load 3 y30.ev.v) ?_
            refine s_lt (t_len EntT_ok Try.underlying40 (.zn hk32.2)) ?_
            refine s_lt t_cmp ?_
            refine s_nil ?_
            refine xs_then ?_
            refine k_cond (decide ((k : Int) < (y30.ents.length : Int))) (fun c60 => ?_) (fun c60 => ?_)
            ·
              have p61 := of_decide_eq_true c60
              refine k_skip ?_
              refine xs_then ?_
              refine k_seq ?_
              refine k_block ?_
              refine k_seq ?_
              refine k_draw ?_
              refine s_lt (t_pure (.pointer (some ⟨g33, 2, none⟩))) ?_
              refine s_lt (t_load 3 (.int .i64 y30.weak)) ?_
              refine s_lt (t_pure (.pointer (some ⟨g33, 4, none⟩))) ?_
              refine s_lt (t_load 3 y30.ev.v) ?_
              refine s_lt (t_pure (.int .i64 (k : Int))) ?_
              refine s_lt (t_index EntT_ok Try.underlying40 (.zn hk32.2) (k : Int) k (by omega) (by (try simp only [List.length_nil, List.length_cons, List.length_append, List.length_take, List.length_drop, List.length_set, List.length_replicate, List.length_reverse, bits_len]); omega) (by omega)) ?_
              obtain ⟨y62, hy63⟩ : ∃ y, y30.ents[k]? = some y := ⟨_, List.getElem?_eq_getElem (by (try simp only [List.length_nil, List.length_cons, List.length_append, List.length_take, List.length_drop, List.length_set, List.length_replicate, List.length_reverse, bits_len]); omega)⟩
              refine s_lt (t_loadE EntT_ok (.zn hk32.2) hy63) ?_
              refine s_lt (t_pure av) ?_
              refine s_vcall (fun _ h => left_s (Acc.kn (.zn hA) h) hA2 (by omega) y30.weak y62) ?_
              rintro _ rfl
              refine s_nil ?_
              refine x_dynS (fun _ h => by kernel_rfl) ?_
              refine xs_then ?_
              refine k_cond (keepB A y30.weak y62) (fun c64 => ?_) (fun c64 => ?_)
              ·
                refine k_draw ?_
                refine s_lt (t_pure (.pointer (some ⟨g56, 4, none⟩))) ?_
                refine s_lt (t_load 1 sy) ?_
                refine s_lt (t_pure (.pointer (some ⟨g33, 4, none⟩))) ?_
                refine s_lt (t_load 3 y30.ev.v) ?_
                refine s_lt (t_pure (.int .i64 (k : Int))) ?_
                refine s_lt (t_index EntT_ok Try.underlying40 (.zn hk32.2) (k : Int) k (by omega) (by (try simp only [List.length_nil, List.length_cons, List.length_append, List.length_take, List.length_drop, List.length_set, List.length_replicate, List.length_reverse, bits_len]); omega) (by omega)) ?_
                refine s_lt (t_loadE EntT_ok (.zn hk32.2) hy63) ?_
                refine s_buildSlice (e := 45) [(0, .agg #[.int .i64 y62.key, .int .i64 y62.val])] #[.int .i64 y62.key, .int .i64 y62.val] (fun g65 => ?_) (hb := by kernel_rfl)
                refine s_append (L := ((y30.ents.take k).filter (keepB A y30.weak))) 1 EntT_ok Try.underlying40 (.lit 0 EntT_ok [y62]) (by show _ * 16 ≤ _; (try simp only [List.length_nil, List.length_cons, List.length_append, List.length_take, List.length_drop, List.length_set, List.length_replicate, List.length_reverse, bits_len]); omega) (by (try simp only [List.length_nil, List.length_cons, List.length_append, List.length_take, List.length_drop, List.length_set, List.length_replicate, List.length_reverse, bits_len]); omega) (fun v66 => ?_)
                refine s_fact (fun H h => ((Acc.own (T := EntT) (L := (((y30.ents.take k).filter (keepB A y30.weak)) ++ [y62])) 1 rfl) H h).form) (fun hf67 => ?_)
                refine s_lt (t_pure (.pointer (some ⟨g56, 4, none⟩))) ?_
                refine s_store (u := v66) (m := 1) 2 #[.int .i64 y30.id, .int .i64 y30.size, .int .i64 y30.weak, v57, v66] ?_ (hm := by (obtain ⟨_, _, e0⟩ := hf67; rw [e0]; rfl)) (h1 := by (obtain ⟨_, _, e0⟩ := hf67; rw [e0]; rfl)) (ha' := by (obtain ⟨_, _, e0⟩ := hf67; rw [e0]; rfl))
                refine s_nil ?_
                refine x_dynS (fun _ h => by kernel_rfl) ?_
                refine xs_block ?_
                refine xs_then ?_
                refine k_reg ?_
                refine s_lt (t_pure (.int .i64 (k : Int))) ?_
                refine s_lt (t_add (k : Int) 1 (by (try simp only [List.length_nil, List.length_cons, List.length_append, List.length_take, List.length_drop, List.length_set, List.length_replicate, List.length_reverse, bits_len]); omega)) ?_
                refine s_lt (t_pure (.int .i64 ((k : Int) + 1))) ?_
                refine s_nil ?_
                rw [filt_yes (p := keepB A y30.weak) hy63 c64]
                exact xs_round (v66, k + 1) (by show y30.ents.length - (k + 1) < y30.ents.length - k; omega) (by show k + 1 ≤ y30.ents.length; omega) (sub_of rfl ⟨⟨rfl, rfl⟩, ⟨⟨rfl, rfl⟩, ⟨⟨rfl, rfl⟩, ⟨⟨rfl, rfl⟩, ⟨⟨rfl, rfl⟩, ⟨⟨rfl, rfl⟩, ⟨⟨rfl, rfl⟩, ⟨⟨rfl, rfl⟩, ⟨⟨rfl, rfl⟩, ⟨⟨rfl, rfl⟩, ⟨⟨rfl, rfl⟩, ⟨⟨rfl, rfl⟩, ⟨⟨rfl, rfl⟩, ⟨⟨rfl, rfl⟩, ⟨⟨rfl, rfl⟩, ⟨⟨rfl, rfl⟩, ⟨⟨rfl, rfl⟩, ⟨⟨rfl, rfl⟩, ⟨⟨rfl, rfl⟩, ⟨⟨rfl, rfl⟩, ⟨⟨rfl, rfl⟩, ⟨⟨rfl, rfl⟩, ⟨⟨rfl, rfl⟩, ⟨⟨rfl, rfl⟩, ⟨⟨rfl, rfl⟩, ⟨⟨rfl, rfl⟩, ⟨⟨rfl, rfl⟩, ⟨⟨rfl, rfl⟩, ⟨⟨rfl, rfl⟩, ⟨⟨rfl, rfl⟩, trivial⟩⟩⟩⟩⟩⟩⟩⟩⟩⟩⟩⟩⟩⟩⟩⟩⟩⟩⟩⟩⟩⟩⟩⟩⟩⟩⟩⟩⟩⟩) (fun _ h => h.re [1, 1, 1, 1, 1, 1, 1, 1, 1, 1] [10])
              ·
                refine k_skip ?_
                refine xs_block ?_
                refine xs_then ?_
                refine k_reg ?_
                refine s_lt (t_pure (.int .i64 (k : Int))) ?_
                refine s_lt (t_add (k : Int) 1 (by (try simp only [List.length_nil, List.length_cons, List.length_append, List.length_take, List.length_drop, List.length_set, List.length_replicate, List.length_reverse, bits_len]); omega)) ?_
                refine s_lt (t_pure (.int .i64 ((k : Int) + 1))) ?_
                refine s_nil ?_
                rw [filt_no (p := keepB A y30.weak) hy63 c64]
                exact xs_round (sy, k + 1) (by show y30.ents.length - (k + 1) < y30.ents.length - k; omega) (by show k + 1 ≤ y30.ents.length; omega) (sub_of rfl ⟨⟨rfl, rfl⟩, ⟨⟨rfl, rfl⟩, ⟨⟨rfl, rfl⟩, ⟨⟨rfl, rfl⟩, ⟨⟨rfl, rfl⟩, ⟨⟨rfl, rfl⟩, ⟨⟨rfl, rfl⟩, ⟨⟨rfl, rfl⟩, ⟨⟨rfl, rfl⟩, ⟨⟨rfl, rfl⟩, ⟨⟨rfl, rfl⟩, ⟨⟨rfl, rfl⟩, ⟨⟨rfl, rfl⟩, ⟨⟨rfl, rfl⟩, ⟨⟨rfl, rfl⟩, ⟨⟨rfl, rfl⟩, ⟨⟨rfl, rfl⟩, ⟨⟨rfl, rfl⟩, ⟨⟨rfl, rfl⟩, ⟨⟨rfl, rfl⟩, ⟨⟨rfl, rfl⟩, ⟨⟨rfl, rfl⟩, ⟨⟨rfl, rfl⟩, ⟨⟨rfl, rfl⟩, ⟨⟨rfl, rfl⟩, ⟨⟨rfl, rfl⟩, ⟨⟨rfl, rfl⟩, ⟨⟨rfl, rfl⟩, ⟨⟨rfl, rfl⟩, ⟨⟨rfl, rfl⟩, trivial⟩⟩⟩⟩⟩⟩⟩⟩⟩⟩⟩⟩⟩⟩⟩⟩⟩⟩⟩⟩⟩⟩⟩⟩⟩⟩⟩⟩⟩⟩) (fun _ h => h.re [0, 0, 0, 0, 0, 0, 0, 0, 0, 0] [])
            ·
              have p68 := of_decide_eq_false c60
              refine k_exit ?_
              obtain rfl : k = y30.ents.length := by omega
              rw [List.take_length]
              have hfl := List.length_filter_le (keepB A y30.weak) y30.ents
              refine xs_exit ?_
              refine xs_exit ?_
              refine xs_here ?_
              refine xs_then ?_
              refine k_reg ?_
              refine s_lt (t_pure (.pointer (some ⟨g26, 0, none⟩))) ?_
              refine s_lt (t_load 6 ox) ?_
              obtain ⟨pp69, cc70, e⟩ := hf58; subst e
              refine s_fact (fun H h => ((Acc.own (T := EntT) (L := (y30.ents.filter (keepB A y30.weak))) 0 rfl) H h).form) (fun hf71 => ?_)
              obtain ⟨pp72, cc73, e⟩ := hf71; subst e
              refine s_lt (t_loadA 1 #[.int .i64 y30.id, .int .i64 y30.size, .int .i64 y30.weak, (.slice pp69 y30.refs.length cc70), (.slice pp72 (y30.ents.filter (keepB A y30.weak)).length cc73)]) ?_
              refine s_buildSlice (e := 42) [(0, .agg #[.int .i64 y30.id, .int .i64 y30.size, .int .i64 y30.weak, (.slice pp69 y30.refs.length cc70), (.slice pp72 (y30.ents.filter (keepB A y30.weak)).length cc73)])] #[.int .i64 y30.id, .int .i64 y30.size, .int .i64 y30.weak, (.slice pp69 y30.refs.length cc70), (.slice pp72 (y30.ents.filter (keepB A y30.weak)).length cc73)] (fun g74 => ?_) (hb := by kernel_rfl)
              refine s_append (L := N) 5 ObT_ok Try.underlying22 (.lit 0 ObT_ok [(⟨y30.id, y30.size, y30.weak, ⟨pp69, y30.refs.length, cc70⟩, ⟨pp72, (y30.ents.filter (keepB A y30.weak)).length, cc73⟩, y30.refs, (y30.ents.filter (keepB A y30.weak))⟩ : Ob)]) (by show _ * 72 ≤ _; (try simp only [List.length_nil, List.length_cons, List.length_append, List.length_take, List.length_drop, List.length_set, List.length_replicate, List.length_reverse, bits_len]); omega) (by (try simp only [List.length_nil, List.length_cons, List.length_append, List.length_take, List.length_drop, List.length_set, List.length_replicate, List.length_reverse, bits_len]); omega) (fun v75 => ?_)
              refine s_fact (fun H h => ((Acc.own (T := ObT) (L := (N ++ [(⟨y30.id, y30.size, y30.weak, ⟨pp69, y30.refs.length, cc70⟩, ⟨pp72, (y30.ents.filter (keepB A y30.weak)).length, cc73⟩, y30.refs, (y30.ents.filter (keepB A y30.weak))⟩ : Ob)])) 5 rfl) H h).form) (fun hf76 => ?_)
              refine s_lt (t_pure (.pointer (some ⟨g26, 0, none⟩))) ?_
              refine s_store (u := v75) (m := 1) 7 #[v75, v24] ?_ (hm := by (obtain ⟨_, _, e0⟩ := hf76; rw [e0]; rfl)) (h1 := by (obtain ⟨_, _, e0⟩ := hf76; rw [e0]; rfl)) (ha' := by (obtain ⟨_, _, e0⟩ := hf76; rw [e0]; rfl))
              refine s_nil ?_
              refine xs_block ?_
              refine xs_then ?_
              refine k_reg ?_
              refine s_lt (t_pure (.int .i64 (j : Int))) ?_
              refine s_lt (t_add (j : Int) 1 (by (try simp only [List.length_nil, List.length_cons, List.length_append, List.length_take, List.length_drop, List.length_set, List.length_replicate, List.length_reverse, bits_len]); omega)) ?_
              refine s_lt (t_pure (.int .i64 ((j : Int) + 1))) ?_
              refine s_nil ?_
              refine xs_mem (fun _ h => frz_push (⟨y30.id, y30.size, y30.weak, ⟨pp69, y30.refs.length, cc70⟩, ⟨pp72, (y30.ents.filter (keepB A y30.weak)).length, cc73⟩, y30.refs, (y30.ents.filter (keepB A y30.weak))⟩ : Ob) (h.re [3, 1, 4] [])) ?_
              exact xs_round (v75, N ++ [(⟨y30.id, y30.size, y30.weak, ⟨pp69, y30.refs.length, cc70⟩, ⟨pp72, (y30.ents.filter (keepB A y30.weak)).length, cc73⟩, y30.refs, (y30.ents.filter (keepB A y30.weak))⟩ : Ob)], j + 1) (by show l.length - (j + 1) < l.length - j; omega) (by obtain ⟨hk1, hk2⟩ := hi27; exact ⟨by omega, map_snoc hy31 hk2 rfl⟩) (sub_of rfl ⟨⟨rfl, rfl⟩, ⟨⟨rfl, rfl⟩, ⟨⟨rfl, rfl⟩, ⟨⟨rfl, rfl⟩, ⟨⟨rfl, rfl⟩, ⟨⟨rfl, rfl⟩, trivial⟩⟩⟩⟩⟩⟩) (fun _ h => h.re [4, 0, 3, 3, 3, 3] [6, 6, 6])
        ·
          refine s_alloc (.agg #[.int .i64 0, .int .i64 0, .int .i64 0, (.slice none 0 0), (.slice none 0 0)]) #[.int .i64 0, .int .i64 0, .int .i64 0, (.slice none 0 0), (.slice none 0 0)] (fun g77 => ?_)
          refine s_nil (xs_held [1, 1, 2, 2, 2, 2] ?_)
          refine h_stepS 6 ?_
          refine s_buildSlice (e := 3) [] #[] (fun g78 => ?_) (hb := by kernel_rfl)
          refine s_nil (xs_held [2, 2, 3, 3, 3, 3] ?_)
          refine h_stepS 9 ?_
          refine s_mem (fun _ h => Holds.slice 0 h iTy_ok []) ?_
          refine s_append (L := []) 0 iTy_ok Try.underlying23 (.zn hk32.1) (by show _ * 8 ≤ _; (try simp only [List.length_nil, List.length_cons, List.length_append, List.length_take, List.length_drop, List.length_set, List.length_replicate, List.length_reverse, bits_len]); omega) (by (try simp only [List.length_nil, List.length_cons, List.length_append, List.length_take, List.length_drop, List.length_set, List.length_replicate, List.length_reverse, bits_len]); omega) (fun v79 => ?_)
          rw [List.nil_append]
          refine s_fact (fun H h => ((Acc.own (T := iTy) (L := y30.refs) 0 rfl) H h).form) (fun hf80 => ?_)
          refine s_nil (xs_held [2, 2, 3, 3, 3, 3] ?_)
          refine h_lt 10 rfl (np_then (np_block (np_then (np_then (np_block (np_then np_finS)))))) [2, 2, 3, 3, 3, 3] (fun _ => (show Lt _ _ _ _ _ (.agg #[.int .i64 y30.id, .int .i64 y30.size, .int .i64 y30.weak, v79, (.slice none 0 0)]) from by obtain ⟨_, _, e⟩ := hf80; rw [e]; clear e; exact t_kern _)) ?_
          refine h_stepS 12 ?_
          refine s_store (u := .agg #[.int .i64 y30.id, .int .i64 y30.size, .int .i64 y30.weak, v79, (.slice none 0 0)]) (m := 5) 1 #[.int .i64 y30.id, .int .i64 y30.size, .int .i64 y30.weak, v79, (.slice none 0 0)] ?_ (hm := by (obtain ⟨_, _, e0⟩ := hf80; rw [e0]; rfl)) (h1 := by (obtain ⟨_, _, e0⟩ := hf80; rw [e0]; rfl)) (ha' := by (obtain ⟨_, _, e0⟩ := hf80; rw [e0]; rfl))
          refine s_nil (xs_held [2, 2, 3, 3, 3, 3] ?_)
          refine h_doneS ?_
          refine xs_then ?_
          refine k_seq ?_
          refine k_seq ?_
          refine k_reg ?_
          refine s_lt (t_pure (.int .i64 0)) ?_
          refine s_nil ?_
          refine xs_then ?_
          refine k_block ?_
          refine k_mem (fun _ h => Holds.nilS (T := EntT) h) ?_
          refine k_mem (Bs := [own EntT (.slice none 0 0) ((y30.ents.take 0).filter (keepB A y30.weak)), own iTy v79 y30.refs, blkA g77 #[.int .i64 y30.id, .int .i64 y30.size, .int .i64 y30.weak, v79, (.slice none 0 0)] 42, blkA g33 #[.int .i64 y30.id, .int .i64 y30.size, .int .i64 y30.weak, y30.rv.v, y30.ev.v] 42, own ObT ox N, frz (AllO N), blkA g26 #[ox, v24] 25, own iTy v24 R, blkA g2 #[(.slice none 0 0), (.slice none 0 0)] 25, blkA g1 #[ov, rv] 25]) (fun _ h => h) ?_
          refine k_loop (ι := Value × Nat) (fun (sy, k) => k ≤ y30.ents.length) (fun (sy, k) => [(1, av), (2, .pointer (some ⟨g1, 0, none⟩)), (4, .pointer (some ⟨g2, 0, none⟩)), (5, .int .i64 0), (8, .pointer (some ⟨g26, 0, none⟩)), (9, .int .i64 (j : Int)), (10, .pointer (some ⟨g33, 0, none⟩)), (11, .pointer (some ⟨g77, 0, none⟩)), (12, .int .i64 (k : Int)), (52, .int .i64 (j : Int)), (53, .pointer (some ⟨g1, 0, none⟩)), (54, ov), (55, .int .i64 (l.length : Int)), (56, .bool (decide ((j : Int) < (l.length : Int)))), (59, .pointer (some ⟨g1, 0, none⟩)), (60, ov), (61, .int .i64 (j : Int)), (62, .pointer (some (elemAt ObT.size ov j))), (63, .agg #[.int .i64 y30.id, .int .i64 y30.size, .int .i64 y30.weak, y30.rv.v, y30.ev.v]), (64, .pointer (some ⟨g33, 0, none⟩)), (65, .int .i64 y30.id), (66, .pointer (some ⟨g33, 1, none⟩)), (67, .int .i64 y30.size), (68, .pointer (some ⟨g33, 2, none⟩)), (69, .int .i64 y30.weak), (70, (.slice (some ⟨g78, 0, none⟩) 0 0)), (71, .pointer (some ⟨g33, 3, none⟩)), (72, y30.rv.v), (73, v79), (74, .agg #[.int .i64 y30.id, .int .i64 y30.size, .int .i64 y30.weak, v79, (.slice none 0 0)])]) (fun (sy, k) => [own EntT sy ((y30.ents.take k).filter (keepB A y30.weak)), own iTy v79 y30.refs, blkA g77 #[.int .i64 y30.id, .int .i64 y30.size, .int .i64 y30.weak, v79, sy] 42, blkA g33 #[.int .i64 y30.id, .int .i64 y30.size, .int .i64 y30.weak, y30.rv.v, y30.ev.v] 42, own ObT ox N, frz (AllO N), blkA g26 #[ox, v24] 25, own iTy v24 R, blkA g2 #[(.slice none 0 0), (.slice none 0 0)] 25, blkA g1 #[ov, rv] 25]) (fun (sy, k) => y30.ents.length - k) (.slice none 0 0, 0) (Nat.zero_le _) (sub_of rfl ⟨⟨rfl, rfl⟩, ⟨⟨rfl, rfl⟩, ⟨⟨rfl, rfl⟩, ⟨⟨rfl, rfl⟩, ⟨⟨rfl, rfl⟩, ⟨⟨rfl, rfl⟩, ⟨⟨rfl, rfl⟩, ⟨⟨rfl, rfl⟩, ⟨⟨rfl, rfl⟩, ⟨⟨rfl, rfl⟩, ⟨⟨rfl, rfl⟩, ⟨⟨rfl, rfl⟩, ⟨⟨rfl, rfl⟩, ⟨⟨rfl, rfl⟩, ⟨⟨rfl, rfl⟩, ⟨⟨rfl, rfl⟩, ⟨⟨rfl, rfl⟩, ⟨⟨rfl, rfl⟩, ⟨⟨rfl, rfl⟩, ⟨⟨rfl, rfl⟩, ⟨⟨rfl, rfl⟩, ⟨⟨rfl, rfl⟩, ⟨⟨rfl, rfl⟩, ⟨⟨rfl, rfl⟩, ⟨⟨rfl, rfl⟩, ⟨⟨rfl, rfl⟩, ⟨⟨rfl, rfl⟩, ⟨⟨rfl, rfl⟩, ⟨⟨rfl, rfl⟩, ⟨⟨rfl, rfl⟩, trivial⟩⟩⟩⟩⟩⟩⟩⟩⟩⟩⟩⟩⟩⟩⟩⟩⟩⟩⟩⟩⟩⟩⟩⟩⟩⟩⟩⟩⟩⟩) (fun _ h => h.re [0, 0, 0, 0, 0, 0, 0, 0, 0, 0] []) ?_
          rintro ⟨sy, k⟩ hi81
          replace hi81 : k ≤ y30.ents.length := hi81
          show SK _ _ _ _ _ [(1, av), (2, .pointer (some ⟨g1, 0, none⟩)), (4, .pointer (some ⟨g2, 0, none⟩)), (5, .int .i64 0), (8, .pointer (some ⟨g26, 0, none⟩)), (9, .int .i64 (j : Int)), (10, .pointer (some ⟨g33, 0, none⟩)), (11, .pointer (some ⟨g77, 0, none⟩)), (12, .int .i64 (k : Int)), (52, .int .i64 (j : Int)), (53, .pointer (some ⟨g1, 0, none⟩)), (54, ov), (55, .int .i64 (l.length : Int)), (56, .bool (decide ((j : Int) < (l.length : Int)))), (59, .pointer (some ⟨g1, 0, none⟩)), (60, ov), (61, .int .i64 (j : Int)), (62, .pointer (some (elemAt ObT.size ov j))), (63, .agg #[.int .i64 y30.id, .int .i64 y30.size, .int .i64 y30.weak, y30.rv.v, y30.ev.v]), (64, .pointer (some ⟨g33, 0, none⟩)), (65, .int .i64 y30.id), (66, .pointer (some ⟨g33, 1, none⟩)), (67, .int .i64 y30.size), (68, .pointer (some ⟨g33, 2, none⟩)), (69, .int .i64 y30.weak), (70, (.slice (some ⟨g78, 0, none⟩) 0 0)), (71, .pointer (some ⟨g33, 3, none⟩)), (72, y30.rv.v), (73, v79), (74, .agg #[.int .i64 y30.id, .int .i64 y30.size, .int .i64 y30.weak, v79, (.slice none 0 0)])] _ [own EntT sy ((y30.ents.take k).filter (keepB A y30.weak)), own iTy v79 y30.refs, blkA g77 #[.int .i64 y30.id, .int .i64 y30.size, .int .i64 y30.weak, v79, sy] 42, blkA g33 #[.int .i64 y30.id, .int .i64 y30.size, .int .i64 y30.weak, y30.rv.v, y30.ev.v] 42, own ObT ox N, frz (AllO N), blkA g26 #[ox, v24] 25, own iTy v24 R, blkA g2 #[(.slice none 0 0), (.slice none 0 0)] 25, blkA g1 #[ov, rv] 25]
          have hfl := List.length_filter_le (keepB A y30.weak) (y30.ents.take k); rw [List.length_take] at hfl
          refine k_seq ?_
          refine k_seq ?_
          refine k_reg ?_
          refine s_lt (t_pure (.int .i64 (k : Int))) ?_
          refine s_lt (t_pure (.pointer (some ⟨g33, 4, none⟩))) ?_
          refine s_lt (t_load 3 y30.ev.v) ?_
          refine s_lt (t_len EntT_ok Try.underlying40 (.zn hk32.2)) ?_
          refine s_lt t_cmp ?_
          refine s_nil ?_
          refine xs_then ?_
          refine k_cond (decide ((k : Int) < (y30.ents.length : Int))) (fun c82 => ?_) (fun c82 => ?_)
          ·
            have p83 := of_decide_eq_true c82
            refine k_skip ?_
            refine xs_then ?_
            refine k_seq ?_
            refine k_block ?_
            refine k_seq ?_
            refine k_draw ?_
            refine s_lt (t_pure (.pointer (some ⟨g33, 2, none⟩))) ?_
            refine s_lt (t_load 3 (.int .i64 y30.weak)) ?_
            refine s_lt (t_pure (.pointer (some ⟨g33, 4, none⟩))) ?_
            refine s_lt (t_load 3 y30.ev.v) ?_
            refine s_lt (t_pure (.int .i64 (k : Int))) ?_
            refine s_lt (t_index EntT_ok Try.underlying40 (.zn hk32.2) (k : Int) k (by omega) (by (try simp only [List.length_nil, List.length_cons, List.length_append, List.length_take, List.length_drop, List.length_set, List.length_replicate, List.length_reverse, bits_len]); omega) (by omega)) ?_
            obtain ⟨y84, hy85⟩ : ∃ y, y30.ents[k]? = some y := ⟨_, List.getElem?_eq_getElem (by (try simp only [List.length_nil, List.length_cons, List.length_append, List.length_take, List.length_drop, List.length_set, List.length_replicate, List.length_reverse, bits_len]); omega)⟩
            refine s_lt (t_loadE EntT_ok (.zn hk32.2) hy85) ?_
            refine s_lt (t_pure av) ?_
            refine s_vcall (fun _ h => left_s (Acc.kn (.zn hA) h) hA2 (by omega) y30.weak y84) ?_
            rintro _ rfl
            refine s_nil ?_
            refine x_dynS (fun _ h => by kernel_rfl) ?_
            refine xs_then ?_
            refine k_cond (keepB A y30.weak y84) (fun c86 => ?_) (fun c86 => ?_)
            ·
              refine k_draw ?_
              refine s_lt (t_pure (.pointer (some ⟨g77, 4, none⟩))) ?_
              refine s_lt (t_load 2 sy) ?_
              refine s_lt (t_pure (.pointer (some ⟨g33, 4, none⟩))) ?_
              refine s_lt (t_load 3 y30.ev.v) ?_
              refine s_lt (t_pure (.int .i64 (k : Int))) ?_
              refine s_lt (t_index EntT_ok Try.underlying40 (.zn hk32.2) (k : Int) k (by omega) (by (try simp only [List.length_nil, List.length_cons, List.length_append, List.length_take, List.length_drop, List.length_set, List.length_replicate, List.length_reverse, bits_len]); omega) (by omega)) ?_
              refine s_lt (t_loadE EntT_ok (.zn hk32.2) hy85) ?_
              refine s_buildSlice (e := 45) [(0, .agg #[.int .i64 y84.key, .int .i64 y84.val])] #[.int .i64 y84.key, .int .i64 y84.val] (fun g87 => ?_) (hb := by kernel_rfl)
              refine s_append (L := ((y30.ents.take k).filter (keepB A y30.weak))) 1 EntT_ok Try.underlying40 (.lit 0 EntT_ok [y84]) (by show _ * 16 ≤ _; (try simp only [List.length_nil, List.length_cons, List.length_append, List.length_take, List.length_drop, List.length_set, List.length_replicate, List.length_reverse, bits_len]); omega) (by (try simp only [List.length_nil, List.length_cons, List.length_append, List.length_take, List.length_drop, List.length_set, List.length_replicate, List.length_reverse, bits_len]); omega) (fun v88 => ?_)
              refine s_fact (fun H h => ((Acc.own (T := EntT) (L := (((y30.ents.take k).filter (keepB A y30.weak)) ++ [y84])) 1 rfl) H h).form) (fun hf89 => ?_)
              refine s_lt (t_pure (.pointer (some ⟨g77, 4, none⟩))) ?_
              refine s_store (u := v88) (m := 1) 3 #[.int .i64 y30.id, .int .i64 y30.size, .int .i64 y30.weak, v79, v88] ?_ (hm := by (obtain ⟨_, _, e0⟩ := hf89; rw [e0]; rfl)) (h1 := by (obtain ⟨_, _, e0⟩ := hf89; rw [e0]; rfl)) (ha' := by (obtain ⟨_, _, e0⟩ := hf89; rw [e0]; rfl))
              refine s_nil ?_
              refine x_dynS (fun _ h => by kernel_rfl) ?_
              refine xs_block ?_
              refine xs_then ?_
              refine k_reg ?_
              refine s_lt (t_pure (.int .i64 (k : Int))) ?_
              refine s_lt (t_add (k : Int) 1 (by (try simp only [List.length_nil, List.length_cons, List.length_append, List.length_take, List.length_drop, List.length_set, List.length_replicate, List.length_reverse, bits_len]); omega)) ?_
              refine s_lt (t_pure (.int .i64 ((k : Int) + 1))) ?_
              refine s_nil ?_
              rw [filt_yes (p := keepB A y30.weak) hy85 c86]
              exact xs_round (v88, k + 1) (by show y30.ents.length - (k + 1) < y30.ents.length - k; omega) (by show k + 1 ≤ y30.ents.length; omega) (sub_of rfl ⟨⟨rfl, rfl⟩, ⟨⟨rfl, rfl⟩, ⟨⟨rfl, rfl⟩, ⟨⟨rfl, rfl⟩, ⟨⟨rfl, rfl⟩, ⟨⟨rfl, rfl⟩, ⟨⟨rfl, rfl⟩, ⟨⟨rfl, rfl⟩, ⟨⟨rfl, rfl⟩, ⟨⟨rfl, rfl⟩, ⟨⟨rfl, rfl⟩, ⟨⟨rfl, rfl⟩, ⟨⟨rfl, rfl⟩, ⟨⟨rfl, rfl⟩, ⟨⟨rfl, rfl⟩, ⟨⟨rfl, rfl⟩, ⟨⟨rfl, rfl⟩, ⟨⟨rfl, rfl⟩, ⟨⟨rfl, rfl⟩, ⟨⟨rfl, rfl⟩, ⟨⟨rfl, rfl⟩, ⟨⟨rfl, rfl⟩, ⟨⟨rfl, rfl⟩, ⟨⟨rfl, rfl⟩, ⟨⟨rfl, rfl⟩, ⟨⟨rfl, rfl⟩, ⟨⟨rfl, rfl⟩, ⟨⟨rfl, rfl⟩, ⟨⟨rfl, rfl⟩, ⟨⟨rfl, rfl⟩, trivial⟩⟩⟩⟩⟩⟩⟩⟩⟩⟩⟩⟩⟩⟩⟩⟩⟩⟩⟩⟩⟩⟩⟩⟩⟩⟩⟩⟩⟩⟩) (fun _ h => h.re [1, 1, 1, 1, 1, 1, 1, 1, 1, 1] [10])
            ·
              refine k_skip ?_
              refine xs_block ?_
              refine xs_then ?_
              refine k_reg ?_
              refine s_lt (t_pure (.int .i64 (k : Int))) ?_
              refine s_lt (t_add (k : Int) 1 (by (try simp only [List.length_nil, List.length_cons, List.length_append, List.length_take, List.length_drop, List.length_set, List.length_replicate, List.length_reverse, bits_len]); omega)) ?_
              refine s_lt (t_pure (.int .i64 ((k : Int) + 1))) ?_
              refine s_nil ?_
              rw [filt_no (p := keepB A y30.weak) hy85 c86]
              exact xs_round (sy, k + 1) (by show y30.ents.length - (k + 1) < y30.ents.length - k; omega) (by show k + 1 ≤ y30.ents.length; omega) (sub_of rfl ⟨⟨rfl, rfl⟩, ⟨⟨rfl, rfl⟩, ⟨⟨rfl, rfl⟩, ⟨⟨rfl, rfl⟩, ⟨⟨rfl, rfl⟩, ⟨⟨rfl, rfl⟩, ⟨⟨rfl, rfl⟩, ⟨⟨rfl, rfl⟩, ⟨⟨rfl, rfl⟩, ⟨⟨rfl, rfl⟩, ⟨⟨rfl, rfl⟩, ⟨⟨rfl, rfl⟩, ⟨⟨rfl, rfl⟩, ⟨⟨rfl, rfl⟩, ⟨⟨rfl, rfl⟩, ⟨⟨rfl, rfl⟩, ⟨⟨rfl, rfl⟩, ⟨⟨rfl, rfl⟩, ⟨⟨rfl, rfl⟩, ⟨⟨rfl, rfl⟩, ⟨⟨rfl, rfl⟩, ⟨⟨rfl, rfl⟩, ⟨⟨rfl, rfl⟩, ⟨⟨rfl, rfl⟩, ⟨⟨rfl, rfl⟩, ⟨⟨rfl, rfl⟩, ⟨⟨rfl, rfl⟩, ⟨⟨rfl, rfl⟩, ⟨⟨rfl, rfl⟩, ⟨⟨rfl, rfl⟩, trivial⟩⟩⟩⟩⟩⟩⟩⟩⟩⟩⟩⟩⟩⟩⟩⟩⟩⟩⟩⟩⟩⟩⟩⟩⟩⟩⟩⟩⟩⟩) (fun _ h => h.re [0, 0, 0, 0, 0, 0, 0, 0, 0, 0] [])
          ·
            have p90 := of_decide_eq_false c82
            refine k_exit ?_
            obtain rfl : k = y30.ents.length := by omega
            rw [List.take_length]
            have hfl := List.length_filter_le (keepB A y30.weak) y30.ents
            refine xs_exit ?_
            refine xs_exit ?_
            refine xs_here ?_
            refine xs_then ?_
            refine k_reg ?_
            refine s_lt (t_pure (.pointer (some ⟨g26, 0, none⟩))) ?_
            refine s_lt (t_load 6 ox) ?_
            obtain ⟨pp91, cc92, e⟩ := hf80; subst e
            refine s_fact (fun H h => ((Acc.own (T := EntT) (L := (y30.ents.filter (keepB A y30.weak))) 0 rfl) H h).form) (fun hf93 => ?_)
            obtain ⟨pp94, cc95, e⟩ := hf93; subst e
            refine s_lt (t_loadA 2 #[.int .i64 y30.id, .int .i64 y30.size, .int .i64 y30.weak, (.slice pp91 y30.refs.length cc92), (.slice pp94 (y30.ents.filter (keepB A y30.weak)).length cc95)]) ?_
            refine s_buildSlice (e := 42) [(0, .agg #[.int .i64 y30.id, .int .i64 y30.size, .int .i64 y30.weak, (.slice pp91 y30.refs.length cc92), (.slice pp94 (y30.ents.filter (keepB A y30.weak)).length cc95)])] #[.int .i64 y30.id, .int .i64 y30.size, .int .i64 y30.weak, (.slice pp91 y30.refs.length cc92), (.slice pp94 (y30.ents.filter (keepB A y30.weak)).length cc95)] (fun g96 => ?_) (hb := by kernel_rfl)
            refine s_append (L := N) 5 ObT_ok Try.underlying22 (.lit 0 ObT_ok [(⟨y30.id, y30.size, y30.weak, ⟨pp91, y30.refs.length, cc92⟩, ⟨pp94, (y30.ents.filter (keepB A y30.weak)).length, cc95⟩, y30.refs, (y30.ents.filter (keepB A y30.weak))⟩ : Ob)]) (by show _ * 72 ≤ _; (try simp only [List.length_nil, List.length_cons, List.length_append, List.length_take, List.length_drop, List.length_set, List.length_replicate, List.length_reverse, bits_len]); omega) (by (try simp only [List.length_nil, List.length_cons, List.length_append, List.length_take, List.length_drop, List.length_set, List.length_replicate, List.length_reverse, bits_len]); omega) (fun v97 => ?_)
            refine s_fact (fun H h => ((Acc.own (T := ObT) (L := (N ++ [(⟨y30.id, y30.size, y30.weak, ⟨pp91, y30.refs.length, cc92⟩, ⟨pp94, (y30.ents.filter (keepB A y30.weak)).length, cc95⟩, y30.refs, (y30.ents.filter (keepB A y30.weak))⟩ : Ob)])) 5 rfl) H h).form) (fun hf98 => ?_)
            refine s_lt (t_pure (.pointer (some ⟨g26, 0, none⟩))) ?_
            refine s_store (u := v97) (m := 1) 7 #[v97, v24] ?_ (hm := by (obtain ⟨_, _, e0⟩ := hf98; rw [e0]; rfl)) (h1 := by (obtain ⟨_, _, e0⟩ := hf98; rw [e0]; rfl)) (ha' := by (obtain ⟨_, _, e0⟩ := hf98; rw [e0]; rfl))
            refine s_nil ?_
            refine xs_block ?_
            refine xs_then ?_
            refine k_reg ?_
            refine s_lt (t_pure (.int .i64 (j : Int))) ?_
            refine s_lt (t_add (j : Int) 1 (by (try simp only [List.length_nil, List.length_cons, List.length_append, List.length_take, List.length_drop, List.length_set, List.length_replicate, List.length_reverse, bits_len]); omega)) ?_
            refine s_lt (t_pure (.int .i64 ((j : Int) + 1))) ?_
            refine s_nil ?_
            refine xs_mem (fun _ h => frz_push (⟨y30.id, y30.size, y30.weak, ⟨pp91, y30.refs.length, cc92⟩, ⟨pp94, (y30.ents.filter (keepB A y30.weak)).length, cc95⟩, y30.refs, (y30.ents.filter (keepB A y30.weak))⟩ : Ob) (h.re [2, 1, 4] [])) ?_
            exact xs_round (v97, N ++ [(⟨y30.id, y30.size, y30.weak, ⟨pp91, y30.refs.length, cc92⟩, ⟨pp94, (y30.ents.filter (keepB A y30.weak)).length, cc95⟩, y30.refs, (y30.ents.filter (keepB A y30.weak))⟩ : Ob)], j + 1) (by show l.length - (j + 1) < l.length - j; omega) (by obtain ⟨hk1, hk2⟩ := hi27; exact ⟨by omega, map_snoc hy31 hk2 rfl⟩) (sub_of rfl ⟨⟨rfl, rfl⟩, ⟨⟨rfl, rfl⟩, ⟨⟨rfl, rfl⟩, ⟨⟨rfl, rfl⟩, ⟨⟨rfl, rfl⟩, ⟨⟨rfl, rfl⟩, trivial⟩⟩⟩⟩⟩⟩) (fun _ h => h.re [4, 0, 3, 3, 3, 3] [6, 6, 6])
      ·
        have p99 := of_decide_eq_false c28
        refine k_exit ?_
        refine xs_exit ?_
        refine xs_exit ?_
        refine xs_here ?_
        refine xs_then ?_
        refine k_seq ?_
        refine k_reg ?_
        refine s_lt (t_loadA 2 #[ox, v24]) ?_
        refine s_fact (fun H h => ((Acc.own (T := ObT) (L := N) 0 rfl) H h).form) (fun hf100 => ?_)
        refine s_store (u := .agg #[ox, v24]) (m := 2) 4 #[ox, v24] ?_ (hm := by (obtain ⟨_, _, e0⟩ := hf100; obtain ⟨_, _, e1⟩ := hf25; rw [e0, e1]; rfl)) (h1 := by (obtain ⟨_, _, e0⟩ := hf100; obtain ⟨_, _, e1⟩ := hf25; rw [e0, e1]; rfl)) (ha' := by (obtain ⟨_, _, e0⟩ := hf100; obtain ⟨_, _, e1⟩ := hf25; rw [e0, e1]; rfl))
        refine s_lt (t_pure (.int .i64 0)) ?_
        refine s_nil ?_
        refine xs_then ?_
        refine k_ret ?_
        have hA0 : (chk 0 l && ascA 0 A) = true := by rw [hc, hA1]; rfl
        obtain ⟨hk1, hk2⟩ := hi27
        obtain rfl : j = l.length := by omega
        rw [List.take_length] at hk2
        exact xs_fin [.agg #[ox, v24], .int .i64 0] [frz (GrA ox v24 N R)] (SI.agg 4 25 4 (SI.tmp 5 SI.nil)) (fun _ h => gr_shut (h.re [0, 2, 0] [3, 3, 3])) ⟨_, _, N, R, by rw [hA0]; rfl, by rw [hA0]; exact hk2, by rw [hA0]; rfl, rfl⟩
end Go.Proofs.Ytjdlkemmcnncaaa
