/-
  A cycle of layer 27: objects cleared, graphs cloned, the four steps. Each law says its conditions.
-/
import Derived.Test.YtipmkaabogocfaaF1
import Derived.Test.YtipmkaabogocfaaGC
set_option linter.unusedSimpArgs false
set_option linter.unusedVariables false
set_option maxRecDepth 100000
set_option maxHeartbeats 2000000
namespace Go.Proofs.Ytipmkaabogocfaa
open Go.Hp Go.J Go.S
open Go.Mem (Ty KTy blk elemAt pre suf blk_pre blk_suf aget aset strK aggDesc)
def valB (A : List Int) (e : Ent) : Bool := decide (e.val = 0) || decide (e.val ∈ A)
def unvB (A : List Int) (x : Ob) : Bool := decide (x.id ∈ A) && (decide (x.weak = 2) || decide (x.weak = 3))
def unv (A : List Int) (x : Ob) : Core := (x.id, x.size, x.weak, x.refs, if unvB A x = true then x.ents.filter (valB A) else x.ents)
def SlO (x : Ob) (H : Heap) : Prop := Sl H iTy x.rv.v x.refs ∧ Sl H EntT x.ev.v x.ents
section
variable {Z : Zone} {As : List Asr} {H : Heap} {ov rv : Value} {l : List Ob} {R : List Int}
theorem zob_old {x : Ob} (hx : KnO Z x) (h : Holds Z As H) : Holds Z (zfr Z (SlO x) :: As) H := h.zfr0 fun H hz => ⟨hx.1 H hz, hx.2 H hz⟩
theorem zob_new {x : Ob} (hx : KnO Z x) (nb : Ob) (h : Holds Z (own EntT nb.ev.v nb.ents :: As) H) (e1 : nb.rv = x.rv := by rfl) (e2 : nb.refs = x.refs := by rfl) : Holds Z (zfr Z (SlO nb) :: As) H := by
  have h1 := h.zfr0 (F := fun H => Sl H iTy x.rv.v x.refs) fun H hz => hx.1 H hz
  have h2 : Holds Z (own EntT nb.ev.v nb.ents :: zfr Z (fun H => Sl H iTy x.rv.v x.refs) :: As) H := h1.swap
  exact h2.zfrO.zfrM fun H hz ⟨a, b⟩ => ⟨by rw [e1, e2]; exact b, a⟩
theorem zall_push {L : List Ob} (nb : Ob) (h : Holds Z (zfr Z (SlO nb) :: zfr Z (AllO L) :: As) H) : Holds Z (zfr Z (AllO (L ++ [nb])) :: As) H :=
  h.zfrJ.zfrM fun H _ ⟨a, b⟩ x hx => by
    rcases List.mem_append.1 hx with hx | hx
    · exact b x hx
    · simp at hx; subst hx; exact a
theorem zall_nil (h : Holds Z As H) : Holds Z (zfr Z (AllO []) :: As) H := h.zfr0 fun H _ x hx => by cases hx
theorem zgr_shut {L : List Ob} (hR : Kn Z iTy rv R) (h : Holds Z (own ObT ov L :: zfr Z (AllO L) :: As) H) : Holds Z (zfr Z (GrA ov rv L R) :: As) H :=
  h.zfrO.zfrM fun H hz ⟨a, b⟩ => ⟨a, hR H hz, b⟩
theorem zgr_cut {N l1 l2 : List Ob} {o1 o2 r2 : Value} {R2 : List Int} (hN : ∀ x ∈ N, x ∈ l2) (h : Holds Z (own ObT ov N :: frz (GrA o2 r2 l2 R2) :: zfr Z (GrA o1 rv l1 R) :: As) H) : Holds Z (zfr Z (GrA ov rv N R) :: As) H := by
  have h1 : Holds Z (frz (GrA o2 r2 l2 R2) :: zfr Z (GrA o1 rv l1 R) :: own ObT ov N :: As) H := h.re [1, 1] []
  have h2 : Holds Z (own ObT ov N :: zfr Z (fun H => GrA o2 r2 l2 R2 H ∧ GrA o1 rv l1 R H) :: As) H := (h1.toZ.zfrJ).swap
  exact h2.zfrO.zfrM fun H _ ⟨a, b, c⟩ => ⟨a, c.2.1, fun x hx => b.2.2 x (hN x hx)⟩
theorem accZF (i : Nat) (hi : gt As i = some (zfr Z (GrA ov rv l R)) := by rfl) : Acc Z As ObT ov l := fun H h => (h.zfrF i hi).1
theorem accZR (i : Nat) (hi : gt As i = some (zfr Z (GrA ov rv l R)) := by rfl) : Acc Z As iTy rv R := fun H h => (h.zfrF i hi).2.1
theorem accZ1 {x : Ob} (i : Nat) (hx : x ∈ l) (hi : gt As i = some (zfr Z (GrA ov rv l R)) := by rfl) : Acc Z As iTy x.rv.v x.refs := fun H h => ((h.zfrF i hi).2.2 x hx).1
theorem accZ2 {x : Ob} (i : Nat) (hx : x ∈ l) (hi : gt As i = some (zfr Z (GrA ov rv l R)) := by rfl) : Acc Z As EntT x.ev.v x.ents := fun H h => ((h.zfrF i hi).2.2 x hx).2
theorem gr_more {v : Value} {M : List Int} (hG : GrA ov rv l R H) (hv : Kn (zoneOf H) iTy v M) : KnG (zoneOf H) ov v l M := ⟨hG.kn.obs, hv, hG.kn.each⟩
end
theorem unv_yes {A : List Int} {x : Ob} (h : unvB A x = true) : (if unvB A x = true then x.ents.filter (valB A) else x.ents) = x.ents.filter (valB A) := if_pos h
theorem filt_yes' {p : Ent → Bool} {L : List Ent} {k : Nat} {e : Ent} (h : L[k]? = some e) (hp : p e = true) : (L.take k).filter p ++ [e] = (L.take (k + 1)).filter p := filt_yes h hp
theorem cleared_s {Z : Zone} {F : List Asr} {x : Ob} {mb : Nat} {A : List Int} (hx : KnO Z x) (hsm : x.refs.length ≤ 400 ∧ x.ents.length ≤ 400) : SF Try.prog 60 #[x.v, .map (some mb)] Z (mpA (Go.Mem.intK 3) bV mb (setL A) :: F) fun r Bs => ∃ x', r = x'.v ∧ x'.c = unv A x ∧ Bs = zfr Z (SlO x') :: mpA (Go.Mem.intK 3) bV mb (setL A) :: F := by
  refine sf_enter Try.func60 48 [(0, .agg #[.int .i64 x.id, .int .i64 x.size, .int .i64 x.weak, x.rv.v, x.ev.v]), (1, .map (some mb))] (fun w0 => ?_)
  refine k_seq ?_
  refine k_reg ?_
  refine s_box #[.int .i64 x.id, .int .i64 x.size, .int .i64 x.weak, x.rv.v, x.ev.v] (fun g1 => ?_)
  refine s_alloc (.agg #[.int .i64 0, .int .i64 0, .int .i64 0, (.slice none 0 0), (.slice none 0 0)]) #[.int .i64 0, .int .i64 0, .int .i64 0, (.slice none 0 0), (.slice none 0 0)] (fun g2 => ?_)
  refine s_nil ?_
  refine xs_then ?_
  refine k_seq ?_
  refine k_cut (ι := Unit) (fun _ => True) (fun _ => [(1, .map (some mb)), (2, .pointer (some ⟨g1, 0, none⟩)), (4, .pointer (some ⟨g2, 0, none⟩)), (22, .bool ((!(decide (x.id ∈ A))) || ((decide (x.weak ≠ 2)) && (decide (x.weak ≠ 3)))))]) (fun _ => blkA g2 #[.int .i64 0, .int .i64 0, .int .i64 0, (.slice none 0 0), (.slice none 0 0)] 74 :: blkA g1 #[.int .i64 x.id, .int .i64 x.size, .int .i64 x.weak, x.rv.v, x.ev.v] 74 :: mpA (Go.Mem.intK 3) bV mb (setL A) :: F) ?_ (fun _ _ => ?_)
  ·
    refine k_reg ?_
    refine s_lt (t_pure (.map (some mb))) ?_
    refine s_lt (t_pure (.pointer (some ⟨g1, 0, none⟩))) ?_
    refine s_lt (t_load 1 (.int .i64 x.id)) ?_
    refine s_lt (Lt.to (v' := .bool (decide (x.id ∈ A))) (t_lookup 2 intOk Try.underlying79 (.bool false) x.id) (got_set _ _)) ?_
    refine s_lt (t_pure (.bool (!(decide (x.id ∈ A))))) ?_
    refine s_lt (t_pure (.bool (!(decide (x.id ∈ A))))) ?_
    refine s_fork 13 (!(decide (x.id ∈ A))) (fun c3 => ?_) (fun c3 => ?_)
    ·
      have c4 := not_t c3
      have p5 := of_decide_eq_false c4
      refine s_skip ?_
      refine s_skip ?_
      refine s_skip ?_
      refine s_skip ?_
      refine s_skip ?_
      refine s_skip ?_
      refine s_skip ?_
      refine s_skip ?_
      refine s_lt (t_pure (.bool true)) ?_
      refine s_nil ?_
      exact xs_cut () trivial (sub_of rfl ⟨⟨rfl, rfl⟩, ⟨⟨rfl, rfl⟩, ⟨⟨rfl, rfl⟩, ⟨⟨rfl, show Value.bool true = Value.bool ((!(decide (x.id ∈ A))) || ((decide (x.weak ≠ 2)) && (decide (x.weak ≠ 3)))) by first | (simp only [c3, Bool.true_and, Bool.false_and, Bool.and_true, Bool.and_false, Bool.true_or, Bool.or_true, Bool.false_or, Bool.or_false, Bool.not_true, Bool.not_false]; done) | simp [c3]⟩, trivial⟩⟩⟩⟩) (fun _ h => h.re [0, 0, 0] [])
    ·
      have c6 := not_f c3
      have p7 := of_decide_eq_true c6
      refine s_lt (t_pure (.pointer (some ⟨g1, 2, none⟩))) ?_
      refine s_lt (t_load 1 (.int .i64 x.weak)) ?_
      refine s_lt t_cmp ?_
      refine s_lt (t_pure (.bool (decide (x.weak ≠ 2)))) ?_
      refine s_fork 17 (decide (x.weak ≠ 2)) (fun c8 => ?_) (fun c8 => ?_)
      ·
        have p9 := of_decide_eq_true c8
        refine s_lt (t_pure (.pointer (some ⟨g1, 2, none⟩))) ?_
        refine s_lt (t_load 1 (.int .i64 x.weak)) ?_
        refine s_lt t_cmp ?_
        refine s_lt (t_pure (.bool (decide (x.weak ≠ 3)))) ?_
        refine s_lt (t_pure (.bool (decide (x.weak ≠ 3)))) ?_
        refine s_nil ?_
        exact xs_cut () trivial (sub_of rfl ⟨⟨rfl, rfl⟩, ⟨⟨rfl, rfl⟩, ⟨⟨rfl, rfl⟩, ⟨⟨rfl, show Value.bool (decide (x.weak ≠ 3)) = Value.bool ((!(decide (x.id ∈ A))) || ((decide (x.weak ≠ 2)) && (decide (x.weak ≠ 3)))) by first | (simp only [c3, c8, Bool.true_and, Bool.false_and, Bool.and_true, Bool.and_false, Bool.true_or, Bool.or_true, Bool.false_or, Bool.or_false, Bool.not_true, Bool.not_false]; done) | simp [c3, c8]⟩, trivial⟩⟩⟩⟩) (fun _ h => h.re [0, 0, 0] [])
      ·
        have p10 := Decidable.not_not.1 (of_decide_eq_false c8)
        refine s_skip ?_
        refine s_skip ?_
        refine s_skip ?_
        refine s_lt (t_pure (.bool false)) ?_
        refine s_lt (t_pure (.bool false)) ?_
        refine s_nil ?_
        exact xs_cut () trivial (sub_of rfl ⟨⟨rfl, rfl⟩, ⟨⟨rfl, rfl⟩, ⟨⟨rfl, rfl⟩, ⟨⟨rfl, show Value.bool false = Value.bool ((!(decide (x.id ∈ A))) || ((decide (x.weak ≠ 2)) && (decide (x.weak ≠ 3)))) by first | (simp only [c3, c8, Bool.true_and, Bool.false_and, Bool.and_true, Bool.and_false, Bool.true_or, Bool.or_true, Bool.false_or, Bool.or_false, Bool.not_true, Bool.not_false]; done) | simp [c3, c8]⟩, trivial⟩⟩⟩⟩) (fun _ h => h.re [0, 0, 0] [])
  ·
    refine k_cond ((!(decide (x.id ∈ A))) || ((decide (x.weak ≠ 2)) && (decide (x.weak ≠ 3)))) (fun c11 => ?_) (fun c11 => ?_)
    ·
      have p12 := c11
      simp only [Bool.and_eq_true, Bool.or_eq_true, Bool.and_eq_false_iff, Bool.or_eq_false_iff, Bool.not_eq_true', Bool.not_eq_false', decide_eq_true_eq, decide_eq_false_iff_not] at p12
      refine k_seq ?_
      refine k_reg ?_
      refine s_lt (t_loadA 1 #[.int .i64 x.id, .int .i64 x.size, .int .i64 x.weak, x.rv.v, x.ev.v]) ?_
      refine s_store 0 #[.int .i64 x.id, .int .i64 x.size, .int .i64 x.weak, x.rv.v, x.ev.v] ?_
      refine s_nil ?_
      refine xs_then ?_
      refine k_ret ?_
      refine xs_ret ?_
      have hu : unvB A x = false := (by have h := c11; revert h; unfold unvB; generalize decide (x.id ∈ A) = b1; rw [show decide (x.weak ≠ 2) = !decide (x.weak = 2) by simp, show decide (x.weak ≠ 3) = !decide (x.weak = 3) by simp]; generalize decide (x.weak = 2) = b2; generalize decide (x.weak = 3) = b3; revert b1 b2 b3; decide)
      exact xs_fin [x.v] (zfr Z (SlO x) :: mpA (Go.Mem.intK 3) bV mb (setL A) :: F) (SI.agg 4 74 0 SI.nil) (fun _ h => (zob_old hx h).re [0, 2] [2, 2]) ⟨x, rfl, by unfold unv; rw [hu]; rfl, rfl⟩
    ·
      obtain ⟨c13, c14⟩ := or_f c11
      have c15 := not_f c13
      have p16 := of_decide_eq_true c15
      have p17 := c14
      simp only [Bool.and_eq_true, Bool.or_eq_true, Bool.and_eq_false_iff, Bool.or_eq_false_iff, Bool.not_eq_true', Bool.not_eq_false', decide_eq_true_eq, decide_eq_false_iff_not] at p17
      refine k_skip ?_
      refine xs_then ?_
      refine k_seq ?_
      refine k_reg ?_
      refine s_lt (t_pure (.slice none 0 0)) ?_
      refine s_nil ?_
      refine xs_then ?_
      refine k_seq ?_
      refine k_seq ?_
      refine k_reg ?_
      refine s_lt (t_pure (.pointer (some ⟨g1, 4, none⟩))) ?_
      refine s_lt (t_load 1 x.ev.v) ?_
      refine s_lt (t_len EntT_ok Try.underlying72 (.zn hx.2)) ?_
      refine s_lt (t_pure (.int .i64 0)) ?_
      refine s_nil ?_
      refine xs_then ?_
      refine k_block ?_
      refine k_mem (fun _ h => Holds.nilS (T := EntT) h) ?_
      refine k_mem (Bs := own EntT (.slice none 0 0) ((x.ents.take 0).filter (valB A)) :: blkA g2 #[.int .i64 0, .int .i64 0, .int .i64 0, (.slice none 0 0), (.slice none 0 0)] 74 :: blkA g1 #[.int .i64 x.id, .int .i64 x.size, .int .i64 x.weak, x.rv.v, x.ev.v] 74 :: mpA (Go.Mem.intK 3) bV mb (setL A) :: F) (fun _ h => h) ?_
      refine k_loop (ι := Value × Nat) (fun (sy, k) => k ≤ x.ents.length) (fun (sy, k) => [(1, .map (some mb)), (2, .pointer (some ⟨g1, 0, none⟩)), (4, .pointer (some ⟨g2, 0, none⟩)), (5, sy), (25, x.ev.v), (26, .int .i64 (x.ents.length : Int)), (27, .int .i64 (k : Int))]) (fun (sy, k) => own EntT sy ((x.ents.take k).filter (valB A)) :: blkA g2 #[.int .i64 0, .int .i64 0, .int .i64 0, (.slice none 0 0), (.slice none 0 0)] 74 :: blkA g1 #[.int .i64 x.id, .int .i64 x.size, .int .i64 x.weak, x.rv.v, x.ev.v] 74 :: mpA (Go.Mem.intK 3) bV mb (setL A) :: F) (fun (sy, k) => x.ents.length - k) (.slice none 0 0, 0) (Nat.zero_le _) (sub_of rfl ⟨⟨rfl, rfl⟩, ⟨⟨rfl, rfl⟩, ⟨⟨rfl, rfl⟩, ⟨⟨rfl, rfl⟩, ⟨⟨rfl, rfl⟩, ⟨⟨rfl, rfl⟩, ⟨⟨rfl, rfl⟩, trivial⟩⟩⟩⟩⟩⟩⟩) (fun _ h => h.re [0, 0, 0, 0] []) ?_
      rintro ⟨sy, k⟩ hi18
      replace hi18 : k ≤ x.ents.length := hi18
      show SK _ _ _ _ _ [(1, .map (some mb)), (2, .pointer (some ⟨g1, 0, none⟩)), (4, .pointer (some ⟨g2, 0, none⟩)), (5, sy), (25, x.ev.v), (26, .int .i64 (x.ents.length : Int)), (27, .int .i64 (k : Int))] _ (own EntT sy ((x.ents.take k).filter (valB A)) :: blkA g2 #[.int .i64 0, .int .i64 0, .int .i64 0, (.slice none 0 0), (.slice none 0 0)] 74 :: blkA g1 #[.int .i64 x.id, .int .i64 x.size, .int .i64 x.weak, x.rv.v, x.ev.v] 74 :: mpA (Go.Mem.intK 3) bV mb (setL A) :: F)
      have hfl := List.length_filter_le (valB A) (x.ents.take k); rw [List.length_take] at hfl
      refine k_seq ?_
      refine k_reg ?_
      refine s_lt t_cmp ?_
      refine s_nil ?_
      refine xs_then ?_
      refine k_seq ?_
      refine k_cond (decide ((k : Int) < (x.ents.length : Int))) (fun c19 => ?_) (fun c19 => ?_)
      ·
        have p20 := of_decide_eq_true c19
        refine k_skip ?_
        refine xs_then ?_
        refine k_seq ?_
        refine k_block ?_
        refine k_seq ?_
        refine k_reg ?_
        refine s_lt (t_index EntT_ok Try.underlying72 (.zn hx.2) (k : Int) k (by omega) (by (try simp only [List.length_nil, List.length_cons, List.length_append, List.length_take, List.length_drop, List.length_set, List.length_replicate, List.length_reverse, bits_len]); omega) (by omega)) ?_
        obtain ⟨y21, hy22⟩ : ∃ y, x.ents[k]? = some y := ⟨_, List.getElem?_eq_getElem (by (try simp only [List.length_nil, List.length_cons, List.length_append, List.length_take, List.length_drop, List.length_set, List.length_replicate, List.length_reverse, bits_len]); omega)⟩
        refine s_lt (t_loadE EntT_ok (.zn hx.2) hy22) ?_
        refine s_alloc (.agg #[.int .i64 0, .int .i64 0]) #[.int .i64 0, .int .i64 0] (fun g23 => ?_)
        refine s_store 0 #[.int .i64 y21.key, .int .i64 y21.val] ?_
        refine s_nil ?_
        refine xs_then ?_
        refine k_cut (ι := Unit) (fun _ => True) (fun _ => [(1, .map (some mb)), (2, .pointer (some ⟨g1, 0, none⟩)), (4, .pointer (some ⟨g2, 0, none⟩)), (5, sy), (7, .pointer (some ⟨g23, 0, none⟩)), (25, x.ev.v), (26, .int .i64 (x.ents.length : Int)), (27, .int .i64 (k : Int)), (28, .bool (decide ((k : Int) < (x.ents.length : Int)))), (29, .pointer (some (elemAt EntT.size x.ev.v k))), (30, .agg #[.int .i64 y21.key, .int .i64 y21.val]), (31, .pointer (some ⟨g23, 1, none⟩)), (32, .int .i64 y21.val), (33, .bool (decide (y21.val = 0))), (34, .bool (decide (y21.val = 0))), (39, .bool ((decide (y21.val = 0)) || (decide (y21.val ∈ A))))]) (fun _ => blkA g23 #[.int .i64 y21.key, .int .i64 y21.val] 95 :: own EntT sy ((x.ents.take k).filter (valB A)) :: blkA g2 #[.int .i64 0, .int .i64 0, .int .i64 0, (.slice none 0 0), (.slice none 0 0)] 74 :: blkA g1 #[.int .i64 x.id, .int .i64 x.size, .int .i64 x.weak, x.rv.v, x.ev.v] 74 :: mpA (Go.Mem.intK 3) bV mb (setL A) :: F) ?_ (fun _ _ => ?_)
        ·
          refine k_reg ?_
          refine s_lt (t_pure (.pointer (some ⟨g23, 1, none⟩))) ?_
          refine s_lt (t_load 0 (.int .i64 y21.val)) ?_
          refine s_lt t_cmp ?_
          refine s_lt (t_pure (.bool (decide (y21.val = 0)))) ?_
          refine s_fork 34 (decide (y21.val = 0)) (fun c24 => ?_) (fun c24 => ?_)
          ·
            have p25 := of_decide_eq_true c24
            refine s_skip ?_
            refine s_skip ?_
            refine s_skip ?_
            refine s_skip ?_
            refine s_lt (t_pure (.bool true)) ?_
            refine s_nil ?_
            exact xs_cut () trivial (sub_of rfl ⟨⟨rfl, rfl⟩, ⟨⟨rfl, rfl⟩, ⟨⟨rfl, rfl⟩, ⟨⟨rfl, rfl⟩, ⟨⟨rfl, rfl⟩, ⟨⟨rfl, rfl⟩, ⟨⟨rfl, rfl⟩, ⟨⟨rfl, rfl⟩, ⟨⟨rfl, rfl⟩, ⟨⟨rfl, rfl⟩, ⟨⟨rfl, rfl⟩, ⟨⟨rfl, rfl⟩, ⟨⟨rfl, rfl⟩, ⟨⟨rfl, rfl⟩, ⟨⟨rfl, show Value.bool true = Value.bool (decide (y21.val = 0)) by first | (simp only [c24, Bool.true_and, Bool.false_and, Bool.and_true, Bool.and_false, Bool.true_or, Bool.or_true, Bool.false_or, Bool.or_false, Bool.not_true, Bool.not_false]; done) | simp [c24]⟩, ⟨⟨rfl, show Value.bool true = Value.bool ((decide (y21.val = 0)) || (decide (y21.val ∈ A))) by first | (simp only [c24, Bool.true_and, Bool.false_and, Bool.and_true, Bool.and_false, Bool.true_or, Bool.or_true, Bool.false_or, Bool.or_false, Bool.not_true, Bool.not_false]; done) | simp [c24]⟩, trivial⟩⟩⟩⟩⟩⟩⟩⟩⟩⟩⟩⟩⟩⟩⟩⟩) (fun _ h => h.re [0, 0, 0, 0, 0] [])
          ·
            have p26 := of_decide_eq_false c24
            refine s_lt (t_pure (.map (some mb))) ?_
            refine s_lt (t_pure (.pointer (some ⟨g23, 1, none⟩))) ?_
            refine s_lt (t_load 0 (.int .i64 y21.val)) ?_
            refine s_lt (Lt.to (v' := .bool (decide (y21.val ∈ A))) (t_lookup 4 intOk Try.underlying79 (.bool false) y21.val) (got_set _ _)) ?_
            refine s_lt (t_pure (.bool (decide (y21.val ∈ A)))) ?_
            refine s_nil ?_
            exact xs_cut () trivial (sub_of rfl ⟨⟨rfl, rfl⟩, ⟨⟨rfl, rfl⟩, ⟨⟨rfl, rfl⟩, ⟨⟨rfl, rfl⟩, ⟨⟨rfl, rfl⟩, ⟨⟨rfl, rfl⟩, ⟨⟨rfl, rfl⟩, ⟨⟨rfl, rfl⟩, ⟨⟨rfl, rfl⟩, ⟨⟨rfl, rfl⟩, ⟨⟨rfl, rfl⟩, ⟨⟨rfl, rfl⟩, ⟨⟨rfl, rfl⟩, ⟨⟨rfl, rfl⟩, ⟨⟨rfl, show Value.bool false = Value.bool (decide (y21.val = 0)) by first | (simp only [c24, Bool.true_and, Bool.false_and, Bool.and_true, Bool.and_false, Bool.true_or, Bool.or_true, Bool.false_or, Bool.or_false, Bool.not_true, Bool.not_false]; done) | simp [c24]⟩, ⟨⟨rfl, show Value.bool (decide (y21.val ∈ A)) = Value.bool ((decide (y21.val = 0)) || (decide (y21.val ∈ A))) by first | (simp only [c24, Bool.true_and, Bool.false_and, Bool.and_true, Bool.and_false, Bool.true_or, Bool.or_true, Bool.false_or, Bool.or_false, Bool.not_true, Bool.not_false]; done) | simp [c24]⟩, trivial⟩⟩⟩⟩⟩⟩⟩⟩⟩⟩⟩⟩⟩⟩⟩⟩) (fun _ h => h.re [0, 0, 0, 0, 0] [])
        ·
          refine k_cond ((decide (y21.val = 0)) || (decide (y21.val ∈ A))) (fun c27 => ?_) (fun c27 => ?_)
          ·
            have p28 := c27
            simp only [Bool.and_eq_true, Bool.or_eq_true, Bool.and_eq_false_iff, Bool.or_eq_false_iff, Bool.not_eq_true', Bool.not_eq_false', decide_eq_true_eq, decide_eq_false_iff_not] at p28
            refine k_reg ?_
            refine s_lt (t_pure sy) ?_
            refine s_lt (t_loadA 0 #[.int .i64 y21.key, .int .i64 y21.val]) ?_
            refine s_buildSlice (e := 95) [(0, .agg #[.int .i64 y21.key, .int .i64 y21.val])] #[.int .i64 y21.key, .int .i64 y21.val] (fun g29 => ?_) (hb := by kernel_rfl)
            refine s_append (L := ((x.ents.take k).filter (valB A))) 2 EntT_ok Try.underlying72 (.lit 0 EntT_ok [y21]) (by show _ * 16 ≤ _; (try simp only [List.length_nil, List.length_cons, List.length_append, List.length_take, List.length_drop, List.length_set, List.length_replicate, List.length_reverse, bits_len]); omega) (by (try simp only [List.length_nil, List.length_cons, List.length_append, List.length_take, List.length_drop, List.length_set, List.length_replicate, List.length_reverse, bits_len]); omega) (fun v30 => ?_)
            refine s_fact (fun H h => ((Acc.own (T := EntT) (L := (((x.ents.take k).filter (valB A)) ++ [y21])) 2 rfl) H h).form) (fun hf31 => ?_)
            refine s_lt (t_pure v30) ?_
            refine s_nil ?_
            refine xs_block ?_
            refine xs_then ?_
            refine k_reg ?_
            refine s_lt (t_add (k : Int) 1 (by (try simp only [List.length_nil, List.length_cons, List.length_append, List.length_take, List.length_drop, List.length_set, List.length_replicate, List.length_reverse, bits_len]); omega)) ?_
            refine s_lt (t_pure (.int .i64 ((k : Int) + 1))) ?_
            refine s_nil ?_
            rw [filt_yes (p := valB A) hy22 (by have h := c27; revert h; unfold valB; generalize decide (y21.val = 0) = b1; generalize decide (y21.val ∈ A) = b2; revert b1 b2; decide)]
            exact xs_round (v30, k + 1) (by show x.ents.length - (k + 1) < x.ents.length - k; omega) (by show k + 1 ≤ x.ents.length; omega) (sub_of rfl ⟨⟨rfl, rfl⟩, ⟨⟨rfl, rfl⟩, ⟨⟨rfl, rfl⟩, ⟨⟨rfl, rfl⟩, ⟨⟨rfl, rfl⟩, ⟨⟨rfl, rfl⟩, ⟨⟨rfl, rfl⟩, trivial⟩⟩⟩⟩⟩⟩⟩) (fun _ h => h.re [2, 2, 2, 2] [4, 4])
          ·
            obtain ⟨c32, c33⟩ := or_f c27
            have p34 := of_decide_eq_false c32
            have p35 := of_decide_eq_false c33
            refine k_skip ?_
            refine xs_block ?_
            refine xs_then ?_
            refine k_reg ?_
            refine s_lt (t_add (k : Int) 1 (by (try simp only [List.length_nil, List.length_cons, List.length_append, List.length_take, List.length_drop, List.length_set, List.length_replicate, List.length_reverse, bits_len]); omega)) ?_
            refine s_lt (t_pure (.int .i64 ((k : Int) + 1))) ?_
            refine s_nil ?_
            rw [filt_no (p := valB A) hy22 (by have h := c27; revert h; unfold valB; generalize decide (y21.val = 0) = b1; generalize decide (y21.val ∈ A) = b2; revert b1 b2; decide)]
            exact xs_round (sy, k + 1) (by show x.ents.length - (k + 1) < x.ents.length - k; omega) (by show k + 1 ≤ x.ents.length; omega) (sub_of rfl ⟨⟨rfl, rfl⟩, ⟨⟨rfl, rfl⟩, ⟨⟨rfl, rfl⟩, ⟨⟨rfl, rfl⟩, ⟨⟨rfl, rfl⟩, ⟨⟨rfl, rfl⟩, ⟨⟨rfl, rfl⟩, trivial⟩⟩⟩⟩⟩⟩⟩) (fun _ h => h.re [1, 1, 1, 1] [4])
      ·
        have p36 := of_decide_eq_false c19
        refine k_exit ?_
        obtain rfl : k = x.ents.length := by omega
        rw [List.take_length]
        have hfl := List.length_filter_le (valB A) x.ents
        refine xs_exit ?_
        refine xs_exit ?_
        refine xs_here ?_
        refine xs_then ?_
        refine k_seq ?_
        refine k_reg ?_
        refine s_lt (t_pure sy) ?_
        refine s_lt (t_pure (.pointer (some ⟨g1, 4, none⟩))) ?_
        refine s_fact (fun H h => ((Acc.own (T := EntT) (L := (x.ents.filter (valB A))) 0 rfl) H h).form) (fun hf37 => ?_)
        refine s_store (u := sy) (m := 1) 2 #[.int .i64 x.id, .int .i64 x.size, .int .i64 x.weak, x.rv.v, sy] ?_ (hm := by (obtain ⟨_, _, e0⟩ := hf37; rw [e0]; rfl)) (h1 := by (obtain ⟨_, _, e0⟩ := hf37; rw [e0]; rfl)) (ha' := by (obtain ⟨_, _, e0⟩ := hf37; rw [e0]; rfl))
        refine s_nil ?_
        refine xs_then ?_
        refine k_seq ?_
        refine k_reg ?_
        obtain ⟨pp38, cc39, e⟩ := hf37; subst e
        refine s_lt (t_loadA 2 #[.int .i64 x.id, .int .i64 x.size, .int .i64 x.weak, x.rv.v, (.slice pp38 (x.ents.filter (valB A)).length cc39)]) ?_
        refine s_store 1 #[.int .i64 x.id, .int .i64 x.size, .int .i64 x.weak, x.rv.v, (.slice pp38 (x.ents.filter (valB A)).length cc39)] ?_
        refine s_nil ?_
        refine xs_then ?_
        refine k_ret ?_
        have hu : unvB A x = true := (by have h := c11; revert h; unfold unvB; generalize decide (x.id ∈ A) = b1; rw [show decide (x.weak ≠ 2) = !decide (x.weak = 2) by simp, show decide (x.weak ≠ 3) = !decide (x.weak = 3) by simp]; generalize decide (x.weak = 2) = b2; generalize decide (x.weak = 3) = b3; revert b1 b2 b3; decide)
        exact xs_fin [.agg #[.int .i64 x.id, .int .i64 x.size, .int .i64 x.weak, x.rv.v, (.slice pp38 (x.ents.filter (valB A)).length cc39)]] (zfr Z (SlO (⟨x.id, x.size, x.weak, x.rv, ⟨pp38, (x.ents.filter (valB A)).length, cc39⟩, x.refs, (x.ents.filter (valB A))⟩ : Ob)) :: mpA (Go.Mem.intK 3) bV mb (setL A) :: F) (SI.agg 4 74 1 SI.nil) (fun _ h => zob_new hx (⟨x.id, x.size, x.weak, x.rv, ⟨pp38, (x.ents.filter (valB A)).length, cc39⟩, x.refs, (x.ents.filter (valB A))⟩ : Ob) (h.re [0, 2] [2, 2])) ⟨(⟨x.id, x.size, x.weak, x.rv, ⟨pp38, (x.ents.filter (valB A)).length, cc39⟩, x.refs, (x.ents.filter (valB A))⟩ : Ob), rfl, by unfold unv; rw [hu]; rfl, rfl⟩
theorem cloneE_s {Z : Zone} {lv : Value} {L : List Ent} (hL : Kn Z EntT lv L) (hl : L.length ≤ 1000000) : SF Try.prog 62 #[lv] Z [] fun r Bs => Bs = [own EntT r L] := by
  refine sf_enter Try.func62 8 [(0, lv)] (fun w0 => ?_)
  refine k_factH (fun H h => hL.get h) (fun H0 hsl => ?_)
  refine k_seq ?_
  refine k_reg ?_
  refine s_lt (t_pure (.slice none 0 0)) ?_
  refine s_nil ?_
  refine xs_then ?_
  refine k_seq ?_
  refine k_seq ?_
  refine k_reg ?_
  refine s_lt (t_pure lv) ?_
  refine s_lt (t_nilS Try.underlying72 (.zn hL)) ?_
  refine s_nil ?_
  refine xs_then ?_
  refine k_cond (nilS lv) (fun c1 => ?_) (fun c1 => ?_)
  ·
    refine k_seq ?_
    refine k_reg ?_
    refine s_lt (t_pure (.slice none 0 0)) ?_
    refine s_nil ?_
    refine xs_then ?_
    refine k_ret ?_
    refine xs_ret ?_
    have hn : L = [] := (nilS_spec hsl c1).2
    exact xs_fin [(.slice none 0 0)] [own EntT (.slice none 0 0) L] (SI.tmp 2 SI.nil) (fun _ h => by rw [hn]; exact h.nilS.re [0] []) rfl
  ·
    refine k_skip ?_
    refine xs_then ?_
    refine k_seq ?_
    refine k_reg ?_
    refine s_buildSlice (e := 95) [] #[] (fun g2 => ?_) (hb := by kernel_rfl)
    refine s_lt (t_pure lv) ?_
    refine s_mem (fun _ h => Holds.slice 0 h EntT_ok []) ?_
    refine s_append (L := []) 0 EntT_ok Try.underlying72 (.zn hL) (by show _ * 16 ≤ _; (try simp only [List.length_nil, List.length_cons, List.length_append, List.length_take, List.length_drop, List.length_set, List.length_replicate, List.length_reverse, bits_len]); omega) (by (try simp only [List.length_nil, List.length_cons, List.length_append, List.length_take, List.length_drop, List.length_set, List.length_replicate, List.length_reverse, bits_len]); omega) (fun v3 => ?_)
    rw [List.nil_append]
    refine s_fact (fun H h => ((Acc.own (T := EntT) (L := L) 0 rfl) H h).form) (fun hf4 => ?_)
    refine s_lt (t_pure v3) ?_
    refine s_nil ?_
    refine xs_then ?_
    refine k_ret ?_
    exact xs_fin [v3] [own EntT v3 L] (SI.tmp 2 SI.nil) (fun _ h => h.re [0] []) rfl
theorem clone_g {Z : Zone} {ov rv : Value} {l : List Ob} {R : List Int} (hg : KnG Z ov rv l R) (hl : l.length ≤ 100000) (hr : R.length ≤ 100000) (hsm : ∀ o ∈ l, o.refs.length ≤ 400 ∧ o.ents.length ≤ 400) : SF Try.prog 48 #[.agg #[ov, rv]] Z [] fun r Bs => ∃ ov' rv' l', r = .agg #[ov', rv'] ∧ l'.map Ob.c = l.map Ob.c ∧ Bs = [frz (GrA ov' rv' l' R)] := by
  refine sf_enter Try.func48 33 [(0, .agg #[ov, rv])] (fun w0 => ?_)
  refine k_seq ?_
  refine k_reg ?_
  refine s_box #[ov, rv] (fun g1 => ?_)
  refine s_alloc (.agg #[(.slice none 0 0), (.slice none 0 0)]) #[(.slice none 0 0), (.slice none 0 0)] (fun g2 => ?_)
  refine s_nil ?_
  refine xs_then ?_
  refine k_seq ?_
  refine k_reg ?_
  refine s_lt (t_pure (.pointer (some ⟨g1, 1, none⟩))) ?_
  refine s_lt (t_load 1 rv) ?_
  refine s_pcall (fun _ h => clone_s (Acc.kn (.zn hg.roots) h) (by (try simp only [List.length_nil, List.length_cons, List.length_append, List.length_take, List.length_drop, List.length_set, List.length_replicate, List.length_reverse, bits_len]); omega)) ?_
  rintro v3 _ rfl
  refine s_fact (fun H h => ((Acc.own (T := iTy) (L := R) 0 rfl) H h).form) (fun hf4 => ?_)
  refine s_lt (show Lt _ _ _ _ _ (.agg #[(.slice none 0 0), v3]) from by obtain ⟨_, _, e⟩ := hf4; rw [e]; clear e; exact t_kern _) ?_
  refine s_alloc (.agg #[(.slice none 0 0), (.slice none 0 0)]) #[(.slice none 0 0), (.slice none 0 0)] (fun g5 => ?_)
  refine s_store (u := .agg #[(.slice none 0 0), v3]) (m := 2) 0 #[(.slice none 0 0), v3] ?_ (hm := by (obtain ⟨_, _, e0⟩ := hf4; rw [e0]; rfl)) (h1 := by (obtain ⟨_, _, e0⟩ := hf4; rw [e0]; rfl)) (ha' := by (obtain ⟨_, _, e0⟩ := hf4; rw [e0]; rfl))
  refine s_nil ?_
  refine xs_then ?_
  refine k_seq ?_
  refine k_seq ?_
  refine k_reg ?_
  refine s_lt (t_pure (.pointer (some ⟨g1, 0, none⟩))) ?_
  refine s_lt (t_load 3 ov) ?_
  refine s_lt (t_len ObT_ok Try.underlying42 (.zn hg.obs)) ?_
  refine s_lt (t_pure (.int .i64 0)) ?_
  refine s_nil ?_
  refine xs_then ?_
  refine k_block ?_
  refine k_mem (fun _ h => Holds.nilS (T := ObT) (h.frz0 (F := AllO []) (by intro _ x hx; cases hx))) ?_
  refine k_loop (ι := Value × List Ob × Nat) (fun (ox, N, j) => j ≤ l.length ∧ N.map Ob.c = (l.take j).map Ob.c) (fun (ox, N, j) => [(2, .pointer (some ⟨g2, 0, none⟩)), (3, .pointer (some ⟨g5, 0, none⟩)), (11, ov), (12, .int .i64 (l.length : Int)), (13, .int .i64 (j : Int))]) (fun (ox, N, j) => [own ObT ox N, frz (AllO N), blkA g5 #[ox, v3] 44, own iTy v3 R, blkA g2 #[(.slice none 0 0), (.slice none 0 0)] 44, blkA g1 #[ov, rv] 44]) (fun (ox, N, j) => l.length - j) (.slice none 0 0, [], 0) ⟨Nat.zero_le _, rfl⟩ (sub_of rfl ⟨⟨rfl, rfl⟩, ⟨⟨rfl, rfl⟩, ⟨⟨rfl, rfl⟩, ⟨⟨rfl, rfl⟩, ⟨⟨rfl, rfl⟩, trivial⟩⟩⟩⟩⟩) (fun _ h => h.re [0, 0, 0, 0, 0, 0] []) ?_
  rintro ⟨ox, N, j⟩ hi6
  replace hi6 : j ≤ l.length ∧ N.map Ob.c = (l.take j).map Ob.c := hi6
  show SK _ _ _ _ _ [(2, .pointer (some ⟨g2, 0, none⟩)), (3, .pointer (some ⟨g5, 0, none⟩)), (11, ov), (12, .int .i64 (l.length : Int)), (13, .int .i64 (j : Int))] _ [own ObT ox N, frz (AllO N), blkA g5 #[ox, v3] 44, own iTy v3 R, blkA g2 #[(.slice none 0 0), (.slice none 0 0)] 44, blkA g1 #[ov, rv] 44]
  have hNl : N.length = j := by have := congrArg List.length hi6.2; simp only [List.length_map, List.length_take] at this; omega
  refine k_seq ?_
  refine k_reg ?_
  refine s_lt t_cmp ?_
  refine s_nil ?_
  refine xs_then ?_
  refine k_seq ?_
  refine k_cond (decide ((j : Int) < (l.length : Int))) (fun c7 => ?_) (fun c7 => ?_)
  ·
    have p8 := of_decide_eq_true c7
    refine k_skip ?_
    refine xs_then ?_
    refine k_seq ?_
    refine k_block ?_
    refine k_seq ?_
    refine k_reg ?_
    refine s_lt (t_index ObT_ok Try.underlying42 (.zn hg.obs) (j : Int) j (by omega) (by (try simp only [List.length_nil, List.length_cons, List.length_append, List.length_take, List.length_drop, List.length_set, List.length_replicate, List.length_reverse, bits_len]); omega) (by omega)) ?_
    obtain ⟨y9, hy10⟩ : ∃ y, l[j]? = some y := ⟨_, List.getElem?_eq_getElem (by (try simp only [List.length_nil, List.length_cons, List.length_append, List.length_take, List.length_drop, List.length_set, List.length_replicate, List.length_reverse, bits_len]); omega)⟩
    have hk11 := hg.each y9 (List.mem_of_getElem? hy10)
    have hsy := hsm y9 (List.mem_of_getElem? hy10)
    refine s_lt (t_loadE ObT_ok (.zn hg.obs) hy10) ?_
    refine s_alloc (.agg #[.int .i64 0, .int .i64 0, .int .i64 0, (.slice none 0 0), (.slice none 0 0)]) #[.int .i64 0, .int .i64 0, .int .i64 0, (.slice none 0 0), (.slice none 0 0)] (fun g12 => ?_)
    refine s_store 0 #[.int .i64 y9.id, .int .i64 y9.size, .int .i64 y9.weak, y9.rv.v, y9.ev.v] ?_
    refine s_nil ?_
    refine xs_then ?_
    refine k_seq ?_
    refine k_reg ?_
    refine s_lt (t_pure (.pointer (some ⟨g12, 3, none⟩))) ?_
    refine s_lt (t_load 0 y9.rv.v) ?_
    refine s_pcall (fun _ h => clone_s (Acc.kn (.zn hk11.1) h) (by (try simp only [List.length_nil, List.length_cons, List.length_append, List.length_take, List.length_drop, List.length_set, List.length_replicate, List.length_reverse, bits_len]); omega)) ?_
    rintro v13 _ rfl
    refine s_fact (fun H h => ((Acc.own (T := iTy) (L := y9.refs) 0 rfl) H h).form) (fun hf14 => ?_)
    refine s_lt (t_pure (.pointer (some ⟨g12, 3, none⟩))) ?_
    refine s_store (u := v13) (m := 1) 1 #[.int .i64 y9.id, .int .i64 y9.size, .int .i64 y9.weak, v13, y9.ev.v] ?_ (hm := by (obtain ⟨_, _, e0⟩ := hf14; rw [e0]; rfl)) (h1 := by (obtain ⟨_, _, e0⟩ := hf14; rw [e0]; rfl)) (ha' := by (obtain ⟨_, _, e0⟩ := hf14; rw [e0]; rfl))
    refine s_nil ?_
    refine xs_then ?_
    refine k_seq ?_
    refine k_reg ?_
    refine s_lt (t_pure (.pointer (some ⟨g12, 4, none⟩))) ?_
    refine s_lt (t_load 1 y9.ev.v) ?_
    refine s_pcall (fun _ h => cloneE_s (L := y9.ents) (Acc.kn (.zn hk11.2) h) (by (try simp only [List.length_nil, List.length_cons, List.length_append, List.length_take, List.length_drop, List.length_set, List.length_replicate, List.length_reverse, bits_len]); omega)) ?_
    rintro v15 _ rfl
    refine s_fact (fun H h => ((Acc.own (T := EntT) (L := y9.ents) 0 rfl) H h).form) (fun hf16 => ?_)
    refine s_lt (t_pure (.pointer (some ⟨g12, 4, none⟩))) ?_
    refine s_store (u := v15) (m := 1) 2 #[.int .i64 y9.id, .int .i64 y9.size, .int .i64 y9.weak, v13, v15] ?_ (hm := by (obtain ⟨_, _, e0⟩ := hf16; rw [e0]; rfl)) (h1 := by (obtain ⟨_, _, e0⟩ := hf16; rw [e0]; rfl)) (ha' := by (obtain ⟨_, _, e0⟩ := hf16; rw [e0]; rfl))
    refine s_nil ?_
    refine xs_then ?_
    refine k_reg ?_
    refine s_lt (t_pure (.pointer (some ⟨g5, 0, none⟩))) ?_
    refine s_lt (t_load 5 ox) ?_
    obtain ⟨pp17, cc18, e⟩ := hf14; subst e
    obtain ⟨pp19, cc20, e⟩ := hf16; subst e
    refine s_lt (t_loadA 2 #[.int .i64 y9.id, .int .i64 y9.size, .int .i64 y9.weak, (.slice pp17 y9.refs.length cc18), (.slice pp19 y9.ents.length cc20)]) ?_
    refine s_buildSlice (e := 74) [(0, .agg #[.int .i64 y9.id, .int .i64 y9.size, .int .i64 y9.weak, (.slice pp17 y9.refs.length cc18), (.slice pp19 y9.ents.length cc20)])] #[.int .i64 y9.id, .int .i64 y9.size, .int .i64 y9.weak, (.slice pp17 y9.refs.length cc18), (.slice pp19 y9.ents.length cc20)] (fun g21 => ?_) (hb := by kernel_rfl)
    refine s_append (L := N) 4 ObT_ok Try.underlying42 (.lit 0 ObT_ok [(⟨y9.id, y9.size, y9.weak, ⟨pp17, y9.refs.length, cc18⟩, ⟨pp19, y9.ents.length, cc20⟩, y9.refs, y9.ents⟩ : Ob)]) (by show _ * 72 ≤ _; (try simp only [List.length_nil, List.length_cons, List.length_append, List.length_take, List.length_drop, List.length_set, List.length_replicate, List.length_reverse, bits_len]); omega) (by (try simp only [List.length_nil, List.length_cons, List.length_append, List.length_take, List.length_drop, List.length_set, List.length_replicate, List.length_reverse, bits_len]); omega) (fun v22 => ?_)
    refine s_fact (fun H h => ((Acc.own (T := ObT) (L := (N ++ [(⟨y9.id, y9.size, y9.weak, ⟨pp17, y9.refs.length, cc18⟩, ⟨pp19, y9.ents.length, cc20⟩, y9.refs, y9.ents⟩ : Ob)])) 4 rfl) H h).form) (fun hf23 => ?_)
    refine s_lt (t_pure (.pointer (some ⟨g5, 0, none⟩))) ?_
    refine s_store (u := v22) (m := 1) 6 #[v22, v3] ?_ (hm := by (obtain ⟨_, _, e0⟩ := hf23; rw [e0]; rfl)) (h1 := by (obtain ⟨_, _, e0⟩ := hf23; rw [e0]; rfl)) (ha' := by (obtain ⟨_, _, e0⟩ := hf23; rw [e0]; rfl))
    refine s_nil ?_
    refine xs_block ?_
    refine xs_then ?_
    refine k_reg ?_
    refine s_lt (t_add (j : Int) 1 (by (try simp only [List.length_nil, List.length_cons, List.length_append, List.length_take, List.length_drop, List.length_set, List.length_replicate, List.length_reverse, bits_len]); omega)) ?_
    refine s_lt (t_pure (.int .i64 ((j : Int) + 1))) ?_
    refine s_nil ?_
    refine xs_mem (fun _ h => frz_push (⟨y9.id, y9.size, y9.weak, ⟨pp17, y9.refs.length, cc18⟩, ⟨pp19, y9.ents.length, cc20⟩, y9.refs, y9.ents⟩ : Ob) (h.re [2, 1, 3] [])) ?_
    exact xs_round (v22, N ++ [(⟨y9.id, y9.size, y9.weak, ⟨pp17, y9.refs.length, cc18⟩, ⟨pp19, y9.ents.length, cc20⟩, y9.refs, y9.ents⟩ : Ob)], j + 1) (by show l.length - (j + 1) < l.length - j; omega) (by obtain ⟨hk1, hk2⟩ := hi6; exact ⟨by omega, map_snoc hy10 hk2 rfl⟩) (sub_of rfl ⟨⟨rfl, rfl⟩, ⟨⟨rfl, rfl⟩, ⟨⟨rfl, rfl⟩, ⟨⟨rfl, rfl⟩, ⟨⟨rfl, rfl⟩, trivial⟩⟩⟩⟩⟩) (fun _ h => h.re [3, 0, 2, 2, 2, 2] [6, 6])
  ·
    have p24 := of_decide_eq_false c7
    refine k_exit ?_
    refine xs_exit ?_
    refine xs_exit ?_
    refine xs_here ?_
    refine xs_then ?_
    refine k_seq ?_
    refine k_reg ?_
    refine s_lt (t_loadA 2 #[ox, v3]) ?_
    refine s_fact (fun H h => ((Acc.own (T := ObT) (L := N) 0 rfl) H h).form) (fun hf25 => ?_)
    refine s_store (u := .agg #[ox, v3]) (m := 2) 4 #[ox, v3] ?_ (hm := by (obtain ⟨_, _, e0⟩ := hf25; obtain ⟨_, _, e1⟩ := hf4; rw [e0, e1]; rfl)) (h1 := by (obtain ⟨_, _, e0⟩ := hf25; obtain ⟨_, _, e1⟩ := hf4; rw [e0, e1]; rfl)) (ha' := by (obtain ⟨_, _, e0⟩ := hf25; obtain ⟨_, _, e1⟩ := hf4; rw [e0, e1]; rfl))
    refine s_nil ?_
    refine xs_then ?_
    refine k_ret ?_
    obtain ⟨hk1, hk2⟩ := hi6
    obtain rfl : j = l.length := by omega
    rw [List.take_length] at hk2
    exact xs_fin [.agg #[ox, v3]] [frz (GrA ox v3 N R)] (SI.agg 2 44 4 SI.nil) (fun _ h => gr_shut (h.re [0, 2, 0] [3, 3, 3])) ⟨_, _, N, rfl, hk2, rfl⟩
end Go.Proofs.Ytipmkaabogocfaa
