/-
  The cycle of the reference of layer 27. Each law says its conditions.
-/
import Derived.Test.YtipmkaabogocfaaF11
import Derived.Test.YtipmkaabogocfaaFL
import Derived.Test.YtipmkaabogocfaaFS
set_option linter.unusedSimpArgs false
set_option linter.unusedVariables false
set_option maxRecDepth 100000
set_option maxHeartbeats 2000000
namespace Go.Proofs.Ytipmkaabogocfaa
open Go.Hp Go.J Go.S
open Go.Mem (Ty KTy blk elemAt pre suf blk_pre blk_suf aget aset strK aggDesc)
theorem zgr_own {Z : Zone} {As : List Asr} {H : Heap} {ov rr : Value} {L : List Ob} {R : List Int} (h : Holds Z (own ObT ov L :: own iTy rr R :: zfr Z (AllO L) :: As) H) : Holds Z (zfr Z (GrA ov rr L R) :: As) H := by
  have h1 : Holds Z (own iTy rr R :: zfr Z (AllO L) :: own ObT ov L :: As) H := h.re [1, 1] []
  have h3 : Holds Z (own ObT ov L :: zfr Z (fun H => Sl H iTy rr R ∧ AllO L H) :: As) H := (h1.zfrO).re [1] []
  exact h3.zfrO.zfrM fun H _ ⟨a, b, c⟩ => ⟨a, b, c⟩
theorem gr_part2 {Z : Zone} {As : List Asr} {H : Heap} {ov rr o2 r2 : Value} {l2 N : List Ob} {R R2 : List Int} (hN : ∀ x ∈ N, x ∈ l2) (h : Holds Z (own ObT ov N :: own iTy rr R :: frz (GrA o2 r2 l2 R2) :: As) H) : Holds Z (frz (GrA ov rr N R) :: As) H := by
  have h1 : Holds Z (own iTy rr R :: frz (GrA o2 r2 l2 R2) :: own ObT ov N :: As) H := h.re [1, 1] []
  have h3 : Holds Z (own ObT ov N :: frz (fun H => Sl H iTy rr R ∧ GrA o2 r2 l2 R2 H) :: As) H := (h1.frzO).re [1] []
  exact h3.frzO.frzM fun H ⟨a, b, c⟩ => ⟨a, b, fun x hx => c.2.2 x (hN x hx)⟩
def hasL (l : List Ob) (P : List Int) : List Int := P.filter fun x => decide (x ∈ l.map Ob.id)
theorem has_yes {l : List Ob} {P : List Int} {i : Nat} {y : Int} (h : P[i]? = some y) (hy : y ∈ l.map Ob.id) : hasL l (P.take i) ++ [y] = hasL l (P.take (i + 1)) := by
  unfold hasL; rw [← take_snoc h, List.filter_append]; simp at hy; simp [hy]
theorem has_no {l : List Ob} {P : List Int} {i : Nat} {y : Int} (h : P[i]? = some y) (hy : y ∉ l.map Ob.id) : hasL l (P.take i) = hasL l (P.take (i + 1)) := by
  unfold hasL; rw [← take_snoc h, List.filter_append]; simp at hy; simp; exact hy
theorem has_len (l : List Ob) (P : List Int) : (hasL l P).length ≤ P.length := List.length_filter_le _ _
theorem is_ids {l : List Ob} {x : Int} (h : Is l x) : x ∈ l.map Ob.id := by
  obtain ⟨o, ho⟩ := Option.isSome_iff_exists.1 h
  obtain ⟨h1, h2⟩ := fnd_id ho
  exact List.mem_map.2 ⟨o, h2, h1⟩
theorem unv_idsR {A : List Int} {l l1 : List Ob} (h : l1.map Ob.c = l.map (unv A)) : l1.map Ob.id = l.map Ob.id := by
  have := congrArg (List.map fun q : Core => q.1) h
  rw [List.map_map, List.map_map] at this
  exact this
theorem has_alive {l l1 : List Ob} {A R P : List Int} (h : l1.map Ob.c = l.map (unv A)) : aliveR l1 (R ++ hasL l P) = aliveR l1 (R ++ P) := by
  refine alive_roots (fun r hr hi => ?_) (fun r hr hi => ?_)
  · rcases List.mem_append.1 hr with hr | hr
    · exact List.mem_append_left _ hr
    · exact List.mem_append_right _ (List.mem_filter.1 hr).1
  · rcases List.mem_append.1 hr with hr | hr
    · exact List.mem_append_left _ hr
    · refine List.mem_append_right _ (List.mem_filter.2 ⟨hr, decide_eq_true ?_⟩)
      rw [← unv_idsR h]; exact is_ids hi
theorem free_cyc {l l1 l2 : List Ob} {A B : List Int} (h1 : l1.map Ob.c = l.map (unv A)) (h2 : l2.map Ob.c = l1.map (clr B)) : freeL B (l2.map Ob.c) = (l.map Ob.id).filter fun x => !decide (x ∈ B) := by
  have e : l2.map Ob.id = l.map Ob.id := by
    rw [← unv_idsR h1]
    have := congrArg (List.map fun q : Core => q.1) h2
    rw [List.map_map, List.map_map] at this
    exact this
  unfold freeL
  rw [← e, List.filter_map, List.filter_map, List.map_map]; rfl
theorem rhasg_s {Z : Zone} {ov rv : Value} {l : List Ob} {R : List Int} (hg : KnG Z ov rv l R) (id : Int) : SF Try.prog 51 #[.agg #[ov, rv], .int .i64 id] Z [] fun r Bs => r = .bool (decide (id ∈ l.map Ob.id)) ∧ Bs = [] := by
  refine sf_enter Try.func51 21 [(0, .agg #[ov, rv]), (1, .int .i64 id)] (fun w0 => ?_)
  refine k_fact (fun H h => (hg.obs.get h).len_le) (fun lA => ?_)
  refine k_seq ?_
  refine k_reg ?_
  refine s_box #[ov, rv] (fun g1 => ?_)
  refine s_lt (t_pure (.bool false)) ?_
  refine s_nil ?_
  refine xs_then ?_
  refine k_seq ?_
  refine k_seq ?_
  refine k_reg ?_
  refine s_lt (t_pure (.int .i64 0)) ?_
  refine s_nil ?_
  refine xs_then ?_
  refine k_block ?_
  refine k_loop (ι := Nat) (fun i => i ≤ l.length ∧ ∀ o ∈ l.take i, o.id ≠ id) (fun i => [(1, .int .i64 id), (2, .pointer (some ⟨g1, 0, none⟩)), (4, .bool false), (5, .int .i64 (i : Int))]) (fun i => [blkA g1 #[ov, rv] 44]) (fun i => l.length - i) 0 ⟨Nat.zero_le _, by simp⟩ (sub_of rfl ⟨⟨rfl, rfl⟩, ⟨⟨rfl, rfl⟩, ⟨⟨rfl, rfl⟩, ⟨⟨rfl, rfl⟩, trivial⟩⟩⟩⟩) (fun _ h => h.re [0] []) ?_
  rintro i hi2
  show SK _ _ _ _ _ [(1, .int .i64 id), (2, .pointer (some ⟨g1, 0, none⟩)), (4, .bool false), (5, .int .i64 (i : Int))] _ [blkA g1 #[ov, rv] 44]
  refine k_seq ?_
  refine k_seq ?_
  refine k_reg ?_
  refine s_lt (t_pure (.int .i64 (i : Int))) ?_
  refine s_lt (t_pure (.pointer (some ⟨g1, 0, none⟩))) ?_
  refine s_lt (t_load 0 ov) ?_
  refine s_lt (t_len ObT_ok Try.underlying42 (.zn hg.obs)) ?_
  refine s_lt t_cmp ?_
  refine s_nil ?_
  refine xs_then ?_
  refine k_cond (decide ((i : Int) < (l.length : Int))) (fun c3 => ?_) (fun c3 => ?_)
  ·
    have p4 := of_decide_eq_true c3
    refine k_skip ?_
    refine xs_then ?_
    refine k_seq ?_
    refine k_block ?_
    refine k_seq ?_
    refine k_reg ?_
    refine s_lt (t_pure (.pointer (some ⟨g1, 0, none⟩))) ?_
    refine s_lt (t_load 0 ov) ?_
    refine s_lt (t_pure (.int .i64 (i : Int))) ?_
    refine s_lt (t_index ObT_ok Try.underlying42 (.zn hg.obs) (i : Int) i (by omega) (by (try simp only [List.length_nil, List.length_cons, List.length_append, List.length_take, List.length_drop, List.length_set, List.length_replicate, List.length_reverse, bits_len]); omega) (by omega)) ?_
    refine s_lt (t_pure (.pointer (some (elemAt ObT.size ov i)))) ?_
    obtain ⟨y5, hy6⟩ : ∃ y, l[i]? = some y := ⟨_, List.getElem?_eq_getElem (by (try simp only [List.length_nil, List.length_cons, List.length_append, List.length_take, List.length_drop, List.length_set, List.length_replicate, List.length_reverse, bits_len]); omega)⟩
    have hk7 := hg.each y5 (List.mem_of_getElem? hy6)
    refine s_lt (t_loadF 0 ObT_ok (.zn hg.obs) hy6) ?_
    refine s_lt (t_pure (.int .i64 id)) ?_
    refine s_lt t_cmp ?_
    refine s_nil ?_
    refine xs_then ?_
    refine k_cond (decide (y5.id = id)) (fun c8 => ?_) (fun c8 => ?_)
    ·
      have p9 := of_decide_eq_true c8
      refine k_seq ?_
      refine k_reg ?_
      refine s_lt (t_pure (.bool true)) ?_
      refine s_nil ?_
      refine xs_then ?_
      refine k_ret ?_
      refine xs_retBlock ?_
      refine xs_ret ?_
      refine xs_ret ?_
      refine xs_retBlock ?_
      refine xs_ret ?_
      refine xs_fin [.bool true] [] (SI.tmp 4 SI.nil) (fun _ h => h.re [] [0]) ⟨congrArg Value.bool ?_, rfl⟩
      exact (decide_eq_true (List.mem_map.2 ⟨y5, List.mem_of_getElem? hy6, p9⟩)).symm
    ·
      have p10 := of_decide_eq_false c8
      refine k_skip ?_
      refine xs_block ?_
      refine xs_then ?_
      refine k_reg ?_
      refine s_lt (t_pure (.int .i64 (i : Int))) ?_
      refine s_lt (t_add (i : Int) 1 (by (try simp only [List.length_nil, List.length_cons, List.length_append, List.length_take, List.length_drop, List.length_set, List.length_replicate, List.length_reverse, bits_len]); omega)) ?_
      refine s_lt (t_pure (.int .i64 ((i : Int) + 1))) ?_
      refine s_nil ?_
      exact xs_round (i + 1) (by omega) (by obtain ⟨hi1, hi2⟩ := hi2; refine ⟨by omega, fun o ho => ?_⟩; rw [← take_snoc hy6] at ho; rcases List.mem_append.1 ho with ho | ho; exact hi2 o ho; simp at ho; subst ho; exact p10) (sub_of rfl ⟨⟨rfl, rfl⟩, ⟨⟨rfl, rfl⟩, ⟨⟨rfl, rfl⟩, ⟨⟨rfl, rfl⟩, trivial⟩⟩⟩⟩) (fun _ h => h.re [0] [])
  ·
    have p11 := of_decide_eq_false c3
    refine k_exit ?_
    refine xs_exit ?_
    refine xs_exit ?_
    refine xs_here ?_
    refine xs_then ?_
    refine k_seq ?_
    refine k_reg ?_
    refine s_lt (t_pure (.bool false)) ?_
    refine s_nil ?_
    refine xs_then ?_
    refine k_ret ?_
    refine xs_fin [.bool false] [] (SI.tmp 4 SI.nil) (fun _ h => h.re [] [0]) ⟨congrArg Value.bool ?_, rfl⟩
    exact (decide_eq_false fun h => by obtain ⟨o, ho, e⟩ := List.mem_map.1 h; exact hi2.2 o (by rw [List.take_of_length_le (by omega)]; exact ho) e).symm
theorem unvalued_s {Z : Zone} {ov rv : Value} {l : List Ob} {R : List Int} (hg : KnG Z ov rv l R) {F : List Asr} {av : Value} {A : List Int} (hl : l.length ≤ 100000) (hr : R.length ≤ 100000) (hsm : ∀ o ∈ l, o.refs.length ≤ 400 ∧ o.ents.length ≤ 400) : SF Try.prog 50 #[.agg #[ov, rv], av] Z (own iTy av A :: F) fun r Bs => ∃ ov' rv' l', r = .agg #[ov', rv'] ∧ l'.map Ob.c = l.map (unv A) ∧ Bs = zfr Z (GrA ov' rv' l' R) :: own iTy av A :: F := by
  refine sf_enter Try.func50 83 [(0, .agg #[ov, rv]), (1, av)] (fun w0 => ?_)
  refine k_seq ?_
  refine k_reg ?_
  refine s_box #[ov, rv] (fun g1 => ?_)
  refine s_alloc (.agg #[(.slice none 0 0), (.slice none 0 0)]) #[(.slice none 0 0), (.slice none 0 0)] (fun g2 => ?_)
  refine s_nil ?_
  refine xs_then ?_
  refine k_seq ?_
  refine k_reg ?_
  refine s_buildSlice (e := 3) [] #[] (fun g3 => ?_) (hb := by kernel_rfl)
  refine s_lt (t_pure (.pointer (some ⟨g1, 1, none⟩))) ?_
  refine s_lt (t_load 2 rv) ?_
  refine s_mem (fun _ h => Holds.slice 0 h iTy_ok []) ?_
  refine s_append (L := []) 0 iTy_ok Try.underlying22 (.zn hg.roots) (by show _ * 8 ≤ _; (try simp only [List.length_nil, List.length_cons, List.length_append, List.length_take, List.length_drop, List.length_set, List.length_replicate, List.length_reverse, bits_len]); omega) (by (try simp only [List.length_nil, List.length_cons, List.length_append, List.length_take, List.length_drop, List.length_set, List.length_replicate, List.length_reverse, bits_len]); omega) (fun v4 => ?_)
  rw [List.nil_append]
  refine s_fact (fun H h => ((Acc.own (T := iTy) (L := R) 0 rfl) H h).form) (fun hf5 => ?_)
  refine s_lt (show Lt _ _ _ _ _ (.agg #[(.slice none 0 0), v4]) from by obtain ⟨_, _, e⟩ := hf5; rw [e]; clear e; exact t_kern _) ?_
  refine s_alloc (.agg #[(.slice none 0 0), (.slice none 0 0)]) #[(.slice none 0 0), (.slice none 0 0)] (fun g6 => ?_)
  refine s_store (u := .agg #[(.slice none 0 0), v4]) (m := 2) 0 #[(.slice none 0 0), v4] ?_ (hm := by (obtain ⟨_, _, e0⟩ := hf5; rw [e0]; rfl)) (h1 := by (obtain ⟨_, _, e0⟩ := hf5; rw [e0]; rfl)) (ha' := by (obtain ⟨_, _, e0⟩ := hf5; rw [e0]; rfl))
  refine s_nil ?_
  refine xs_then ?_
  refine k_seq ?_
  refine k_seq ?_
  refine k_reg ?_
  refine s_lt (t_pure (.int .i64 0)) ?_
  refine s_nil ?_
  refine xs_then ?_
  refine k_block ?_
  refine k_mem (fun _ h => Holds.nilS (T := ObT) (zall_nil h)) ?_
  refine k_loop (ι := Value × List Ob × Nat) (fun (ox, N, j) => j ≤ l.length ∧ N.map Ob.c = (l.take j).map (unv A)) (fun (ox, N, j) => [(1, av), (2, .pointer (some ⟨g1, 0, none⟩)), (4, .pointer (some ⟨g2, 0, none⟩)), (5, .pointer (some ⟨g6, 0, none⟩)), (6, .int .i64 (j : Int))]) (fun (ox, N, j) => own ObT ox N :: zfr Z (AllO N) :: blkA g6 #[ox, v4] 44 :: own iTy v4 R :: blkA g2 #[(.slice none 0 0), (.slice none 0 0)] 44 :: blkA g1 #[ov, rv] 44 :: own iTy av A :: F) (fun (ox, N, j) => l.length - j) (.slice none 0 0, [], 0) ⟨Nat.zero_le _, rfl⟩ (sub_of rfl ⟨⟨rfl, rfl⟩, ⟨⟨rfl, rfl⟩, ⟨⟨rfl, rfl⟩, ⟨⟨rfl, rfl⟩, ⟨⟨rfl, rfl⟩, trivial⟩⟩⟩⟩⟩) (fun _ h => h.re [0, 0, 0, 0, 0, 0, 0] []) ?_
  rintro ⟨ox, N, j⟩ hi7
  replace hi7 : j ≤ l.length ∧ N.map Ob.c = (l.take j).map (unv A) := hi7
  show SK _ _ _ _ _ [(1, av), (2, .pointer (some ⟨g1, 0, none⟩)), (4, .pointer (some ⟨g2, 0, none⟩)), (5, .pointer (some ⟨g6, 0, none⟩)), (6, .int .i64 (j : Int))] _ (own ObT ox N :: zfr Z (AllO N) :: blkA g6 #[ox, v4] 44 :: own iTy v4 R :: blkA g2 #[(.slice none 0 0), (.slice none 0 0)] 44 :: blkA g1 #[ov, rv] 44 :: own iTy av A :: F)
  have hNl : N.length = j := by have := congrArg List.length hi7.2; simp only [List.length_map, List.length_take] at this; omega
  refine k_seq ?_
  refine k_seq ?_
  refine k_reg ?_
  refine s_lt (t_pure (.int .i64 (j : Int))) ?_
  refine s_lt (t_pure (.pointer (some ⟨g1, 0, none⟩))) ?_
  refine s_lt (t_load 5 ov) ?_
  refine s_lt (t_len ObT_ok Try.underlying42 (.zn hg.obs)) ?_
  refine s_lt t_cmp ?_
  refine s_nil ?_
  refine xs_then ?_
  refine k_cond (decide ((j : Int) < (l.length : Int))) (fun c8 => ?_) (fun c8 => ?_)
  ·
    have p9 := of_decide_eq_true c8
    refine k_skip ?_
    refine xs_then ?_
    refine k_seq ?_
    refine k_block ?_
    refine k_seq ?_
    refine k_reg ?_
    refine s_lt (t_pure (.pointer (some ⟨g1, 0, none⟩))) ?_
    refine s_lt (t_load 5 ov) ?_
    refine s_lt (t_pure (.int .i64 (j : Int))) ?_
    refine s_lt (t_index ObT_ok Try.underlying42 (.zn hg.obs) (j : Int) j (by omega) (by (try simp only [List.length_nil, List.length_cons, List.length_append, List.length_take, List.length_drop, List.length_set, List.length_replicate, List.length_reverse, bits_len]); omega) (by omega)) ?_
    obtain ⟨y10, hy11⟩ : ∃ y, l[j]? = some y := ⟨_, List.getElem?_eq_getElem (by (try simp only [List.length_nil, List.length_cons, List.length_append, List.length_take, List.length_drop, List.length_set, List.length_replicate, List.length_reverse, bits_len]); omega)⟩
    have hk12 := hg.each y10 (List.mem_of_getElem? hy11)
    have hsy := hsm y10 (List.mem_of_getElem? hy11)
    refine s_lt (t_loadE ObT_ok (.zn hg.obs) hy11) ?_
    refine s_alloc (.agg #[.int .i64 0, .int .i64 0, .int .i64 0, (.slice none 0 0), (.slice none 0 0)]) #[.int .i64 0, .int .i64 0, .int .i64 0, (.slice none 0 0), (.slice none 0 0)] (fun g13 => ?_)
    refine s_store 0 #[.int .i64 y10.id, .int .i64 y10.size, .int .i64 y10.weak, y10.rv.v, y10.ev.v] ?_
    refine s_nil ?_
    refine xs_then ?_
    refine k_seq ?_
    refine k_cut (ι := Unit) (fun _ => True) (fun _ => [(1, av), (2, .pointer (some ⟨g1, 0, none⟩)), (4, .pointer (some ⟨g2, 0, none⟩)), (5, .pointer (some ⟨g6, 0, none⟩)), (6, .int .i64 (j : Int)), (7, .pointer (some ⟨g13, 0, none⟩)), (15, .int .i64 (j : Int)), (16, .pointer (some ⟨g1, 0, none⟩)), (17, ov), (18, .int .i64 (l.length : Int)), (19, .bool (decide ((j : Int) < (l.length : Int)))), (22, .pointer (some ⟨g1, 0, none⟩)), (23, ov), (24, .int .i64 (j : Int)), (25, .pointer (some (elemAt ObT.size ov j))), (26, .agg #[.int .i64 y10.id, .int .i64 y10.size, .int .i64 y10.weak, y10.rv.v, y10.ev.v]), (27, av), (28, .pointer (some ⟨g13, 0, none⟩)), (29, .int .i64 y10.id), (30, .bool (decide (y10.id ∈ A))), (31, .bool (decide (y10.id ∈ A))), (40, .bool ((decide (y10.id ∈ A)) && ((decide (y10.weak = 2)) || (decide (y10.weak = 3)))))]) (fun _ => blkA g13 #[.int .i64 y10.id, .int .i64 y10.size, .int .i64 y10.weak, y10.rv.v, y10.ev.v] 74 :: own ObT ox N :: zfr Z (AllO N) :: blkA g6 #[ox, v4] 44 :: own iTy v4 R :: blkA g2 #[(.slice none 0 0), (.slice none 0 0)] 44 :: blkA g1 #[ov, rv] 44 :: own iTy av A :: F) ?_ (fun _ _ => ?_)
    ·
      refine k_reg ?_
      refine s_lt (t_pure av) ?_
      refine s_lt (t_pure (.pointer (some ⟨g13, 0, none⟩))) ?_
      refine s_lt (t_load 0 (.int .i64 y10.id)) ?_
      refine s_vcall (fun _ h => rin_s (L := A) (Acc.kn (.own 7) h) y10.id) ?_
      rintro _ rfl
      refine s_lt (t_pure (.bool (decide (y10.id ∈ A)))) ?_
      refine s_fork 31 (decide (y10.id ∈ A)) (fun c14 => ?_) (fun c14 => ?_)
      ·
        have p15 := of_decide_eq_true c14
        refine s_lt (t_pure (.pointer (some ⟨g13, 2, none⟩))) ?_
        refine s_lt (t_load 0 (.int .i64 y10.weak)) ?_
        refine s_lt t_cmp ?_
        refine s_lt (t_pure (.bool (decide (y10.weak = 2)))) ?_
        refine s_fork 35 (decide (y10.weak = 2)) (fun c16 => ?_) (fun c16 => ?_)
        ·
          have p17 := of_decide_eq_true c16
          refine s_skip ?_
          refine s_skip ?_
          refine s_skip ?_
          refine s_lt (t_pure (.bool true)) ?_
          refine s_lt (t_pure (.bool true)) ?_
          refine s_nil ?_
          exact xs_cut () trivial (sub_of rfl ⟨⟨rfl, rfl⟩, ⟨⟨rfl, rfl⟩, ⟨⟨rfl, rfl⟩, ⟨⟨rfl, rfl⟩, ⟨⟨rfl, rfl⟩, ⟨⟨rfl, rfl⟩, ⟨⟨rfl, rfl⟩, ⟨⟨rfl, rfl⟩, ⟨⟨rfl, rfl⟩, ⟨⟨rfl, rfl⟩, ⟨⟨rfl, rfl⟩, ⟨⟨rfl, rfl⟩, ⟨⟨rfl, rfl⟩, ⟨⟨rfl, rfl⟩, ⟨⟨rfl, rfl⟩, ⟨⟨rfl, rfl⟩, ⟨⟨rfl, rfl⟩, ⟨⟨rfl, rfl⟩, ⟨⟨rfl, rfl⟩, ⟨⟨rfl, rfl⟩, ⟨⟨rfl, show Value.bool true = Value.bool (decide (y10.id ∈ A)) by first | (simp only [c14, c16, Bool.true_and, Bool.false_and, Bool.and_true, Bool.and_false, Bool.true_or, Bool.or_true, Bool.false_or, Bool.or_false, Bool.not_true, Bool.not_false]; done) | simp [c14, c16]⟩, ⟨⟨rfl, show Value.bool true = Value.bool ((decide (y10.id ∈ A)) && ((decide (y10.weak = 2)) || (decide (y10.weak = 3)))) by first | (simp only [c14, c16, Bool.true_and, Bool.false_and, Bool.and_true, Bool.and_false, Bool.true_or, Bool.or_true, Bool.false_or, Bool.or_false, Bool.not_true, Bool.not_false]; done) | simp [c14, c16]⟩, trivial⟩⟩⟩⟩⟩⟩⟩⟩⟩⟩⟩⟩⟩⟩⟩⟩⟩⟩⟩⟩⟩⟩) (fun _ h => h.re [0, 0, 0, 0, 0, 0, 0, 0] [])
        ·
          have p18 := of_decide_eq_false c16
          refine s_lt (t_pure (.pointer (some ⟨g13, 2, none⟩))) ?_
          refine s_lt (t_load 0 (.int .i64 y10.weak)) ?_
          refine s_lt t_cmp ?_
          refine s_lt (t_pure (.bool (decide (y10.weak = 3)))) ?_
          refine s_lt (t_pure (.bool (decide (y10.weak = 3)))) ?_
          refine s_nil ?_
          exact xs_cut () trivial (sub_of rfl ⟨⟨rfl, rfl⟩, ⟨⟨rfl, rfl⟩, ⟨⟨rfl, rfl⟩, ⟨⟨rfl, rfl⟩, ⟨⟨rfl, rfl⟩, ⟨⟨rfl, rfl⟩, ⟨⟨rfl, rfl⟩, ⟨⟨rfl, rfl⟩, ⟨⟨rfl, rfl⟩, ⟨⟨rfl, rfl⟩, ⟨⟨rfl, rfl⟩, ⟨⟨rfl, rfl⟩, ⟨⟨rfl, rfl⟩, ⟨⟨rfl, rfl⟩, ⟨⟨rfl, rfl⟩, ⟨⟨rfl, rfl⟩, ⟨⟨rfl, rfl⟩, ⟨⟨rfl, rfl⟩, ⟨⟨rfl, rfl⟩, ⟨⟨rfl, rfl⟩, ⟨⟨rfl, show Value.bool true = Value.bool (decide (y10.id ∈ A)) by first | (simp only [c14, c16, Bool.true_and, Bool.false_and, Bool.and_true, Bool.and_false, Bool.true_or, Bool.or_true, Bool.false_or, Bool.or_false, Bool.not_true, Bool.not_false]; done) | simp [c14, c16]⟩, ⟨⟨rfl, show Value.bool (decide (y10.weak = 3)) = Value.bool ((decide (y10.id ∈ A)) && ((decide (y10.weak = 2)) || (decide (y10.weak = 3)))) by first | (simp only [c14, c16, Bool.true_and, Bool.false_and, Bool.and_true, Bool.and_false, Bool.true_or, Bool.or_true, Bool.false_or, Bool.or_false, Bool.not_true, Bool.not_false]; done) | simp [c14, c16]⟩, trivial⟩⟩⟩⟩⟩⟩⟩⟩⟩⟩⟩⟩⟩⟩⟩⟩⟩⟩⟩⟩⟩⟩) (fun _ h => h.re [0, 0, 0, 0, 0, 0, 0, 0] [])
      ·
        have p19 := of_decide_eq_false c14
        refine s_skip ?_
        refine s_skip ?_
        refine s_skip ?_
        refine s_skip ?_
        refine s_skip ?_
        refine s_skip ?_
        refine s_skip ?_
        refine s_skip ?_
        refine s_lt (t_pure (.bool false)) ?_
        refine s_nil ?_
        exact xs_cut () trivial (sub_of rfl ⟨⟨rfl, rfl⟩, ⟨⟨rfl, rfl⟩, ⟨⟨rfl, rfl⟩, ⟨⟨rfl, rfl⟩, ⟨⟨rfl, rfl⟩, ⟨⟨rfl, rfl⟩, ⟨⟨rfl, rfl⟩, ⟨⟨rfl, rfl⟩, ⟨⟨rfl, rfl⟩, ⟨⟨rfl, rfl⟩, ⟨⟨rfl, rfl⟩, ⟨⟨rfl, rfl⟩, ⟨⟨rfl, rfl⟩, ⟨⟨rfl, rfl⟩, ⟨⟨rfl, rfl⟩, ⟨⟨rfl, rfl⟩, ⟨⟨rfl, rfl⟩, ⟨⟨rfl, rfl⟩, ⟨⟨rfl, rfl⟩, ⟨⟨rfl, rfl⟩, ⟨⟨rfl, show Value.bool false = Value.bool (decide (y10.id ∈ A)) by first | (simp only [c14, Bool.true_and, Bool.false_and, Bool.and_true, Bool.and_false, Bool.true_or, Bool.or_true, Bool.false_or, Bool.or_false, Bool.not_true, Bool.not_false]; done) | simp [c14]⟩, ⟨⟨rfl, show Value.bool false = Value.bool ((decide (y10.id ∈ A)) && ((decide (y10.weak = 2)) || (decide (y10.weak = 3)))) by first | (simp only [c14, Bool.true_and, Bool.false_and, Bool.and_true, Bool.and_false, Bool.true_or, Bool.or_true, Bool.false_or, Bool.or_false, Bool.not_true, Bool.not_false]; done) | simp [c14]⟩, trivial⟩⟩⟩⟩⟩⟩⟩⟩⟩⟩⟩⟩⟩⟩⟩⟩⟩⟩⟩⟩⟩⟩) (fun _ h => h.re [0, 0, 0, 0, 0, 0, 0, 0] [])
    ·
      refine k_cond ((decide (y10.id ∈ A)) && ((decide (y10.weak = 2)) || (decide (y10.weak = 3)))) (fun c20 => ?_) (fun c20 => ?_)
      ·
        obtain ⟨c21, c22⟩ := and_t c20
        have p23 := of_decide_eq_true c21
        have p24 := c22
        simp only [Bool.and_eq_true, Bool.or_eq_true, Bool.and_eq_false_iff, Bool.or_eq_false_iff, Bool.not_eq_true', Bool.not_eq_false', decide_eq_true_eq, decide_eq_false_iff_not] at p24
        refine k_seq ?_
        refine k_reg ?_
        refine s_buildSlice (e := 95) [] #[] (fun g25 => ?_) (hb := by kernel_rfl)
        refine s_lt (t_pure (.slice (some ⟨g25, 0, none⟩) 0 0)) ?_
        refine s_nil ?_
        refine xs_then ?_
        refine k_seq ?_
        refine k_seq ?_
        refine k_reg ?_
        refine s_lt (t_pure (.int .i64 0)) ?_
        refine s_nil ?_
        refine xs_then ?_
        refine k_block ?_
        refine k_mem (fun _ h => Holds.slice 0 h EntT_ok []) ?_
        refine k_mem (Bs := own EntT (.slice (some ⟨g25, 0, none⟩) 0 0) ((y10.ents.take 0).filter (valB A)) :: blkA g13 #[.int .i64 y10.id, .int .i64 y10.size, .int .i64 y10.weak, y10.rv.v, y10.ev.v] 74 :: own ObT ox N :: zfr Z (AllO N) :: blkA g6 #[ox, v4] 44 :: own iTy v4 R :: blkA g2 #[(.slice none 0 0), (.slice none 0 0)] 44 :: blkA g1 #[ov, rv] 44 :: own iTy av A :: F) (fun _ h => h) ?_
        refine k_loop (ι := Value × Nat) (fun (sy, k) => k ≤ y10.ents.length) (fun (sy, k) => [(1, av), (2, .pointer (some ⟨g1, 0, none⟩)), (4, .pointer (some ⟨g2, 0, none⟩)), (5, .pointer (some ⟨g6, 0, none⟩)), (6, .int .i64 (j : Int)), (7, .pointer (some ⟨g13, 0, none⟩)), (8, sy), (9, .int .i64 (k : Int)), (15, .int .i64 (j : Int)), (16, .pointer (some ⟨g1, 0, none⟩)), (17, ov), (18, .int .i64 (l.length : Int)), (19, .bool (decide ((j : Int) < (l.length : Int)))), (22, .pointer (some ⟨g1, 0, none⟩)), (23, ov), (24, .int .i64 (j : Int)), (25, .pointer (some (elemAt ObT.size ov j))), (26, .agg #[.int .i64 y10.id, .int .i64 y10.size, .int .i64 y10.weak, y10.rv.v, y10.ev.v]), (27, av), (28, .pointer (some ⟨g13, 0, none⟩)), (29, .int .i64 y10.id), (30, .bool (decide (y10.id ∈ A))), (31, .bool (decide (y10.id ∈ A))), (40, .bool ((decide (y10.id ∈ A)) && ((decide (y10.weak = 2)) || (decide (y10.weak = 3))))), (41, (.slice (some ⟨g25, 0, none⟩) 0 0))]) (fun (sy, k) => own EntT sy ((y10.ents.take k).filter (valB A)) :: blkA g13 #[.int .i64 y10.id, .int .i64 y10.size, .int .i64 y10.weak, y10.rv.v, y10.ev.v] 74 :: own ObT ox N :: zfr Z (AllO N) :: blkA g6 #[ox, v4] 44 :: own iTy v4 R :: blkA g2 #[(.slice none 0 0), (.slice none 0 0)] 44 :: blkA g1 #[ov, rv] 44 :: own iTy av A :: F) (fun (sy, k) => y10.ents.length - k) ((.slice (some ⟨g25, 0, none⟩) 0 0), 0) (Nat.zero_le _) (sub_of rfl ⟨⟨rfl, rfl⟩, ⟨⟨rfl, rfl⟩, ⟨⟨rfl, rfl⟩, ⟨⟨rfl, rfl⟩, ⟨⟨rfl, rfl⟩, ⟨⟨rfl, rfl⟩, ⟨⟨rfl, rfl⟩, ⟨⟨rfl, rfl⟩, ⟨⟨rfl, rfl⟩, ⟨⟨rfl, rfl⟩, ⟨⟨rfl, rfl⟩, ⟨⟨rfl, rfl⟩, ⟨⟨rfl, rfl⟩, ⟨⟨rfl, rfl⟩, ⟨⟨rfl, rfl⟩, ⟨⟨rfl, rfl⟩, ⟨⟨rfl, rfl⟩, ⟨⟨rfl, rfl⟩, ⟨⟨rfl, rfl⟩, ⟨⟨rfl, rfl⟩, ⟨⟨rfl, rfl⟩, ⟨⟨rfl, rfl⟩, ⟨⟨rfl, rfl⟩, ⟨⟨rfl, rfl⟩, ⟨⟨rfl, rfl⟩, trivial⟩⟩⟩⟩⟩⟩⟩⟩⟩⟩⟩⟩⟩⟩⟩⟩⟩⟩⟩⟩⟩⟩⟩⟩⟩) (fun _ h => h.re [0, 0, 0, 0, 0, 0, 0, 0, 0] []) ?_
        rintro ⟨sy, k⟩ hi26
        replace hi26 : k ≤ y10.ents.length := hi26
        show SK _ _ _ _ _ [(1, av), (2, .pointer (some ⟨g1, 0, none⟩)), (4, .pointer (some ⟨g2, 0, none⟩)), (5, .pointer (some ⟨g6, 0, none⟩)), (6, .int .i64 (j : Int)), (7, .pointer (some ⟨g13, 0, none⟩)), (8, sy), (9, .int .i64 (k : Int)), (15, .int .i64 (j : Int)), (16, .pointer (some ⟨g1, 0, none⟩)), (17, ov), (18, .int .i64 (l.length : Int)), (19, .bool (decide ((j : Int) < (l.length : Int)))), (22, .pointer (some ⟨g1, 0, none⟩)), (23, ov), (24, .int .i64 (j : Int)), (25, .pointer (some (elemAt ObT.size ov j))), (26, .agg #[.int .i64 y10.id, .int .i64 y10.size, .int .i64 y10.weak, y10.rv.v, y10.ev.v]), (27, av), (28, .pointer (some ⟨g13, 0, none⟩)), (29, .int .i64 y10.id), (30, .bool (decide (y10.id ∈ A))), (31, .bool (decide (y10.id ∈ A))), (40, .bool ((decide (y10.id ∈ A)) && ((decide (y10.weak = 2)) || (decide (y10.weak = 3))))), (41, (.slice (some ⟨g25, 0, none⟩) 0 0))] _ (own EntT sy ((y10.ents.take k).filter (valB A)) :: blkA g13 #[.int .i64 y10.id, .int .i64 y10.size, .int .i64 y10.weak, y10.rv.v, y10.ev.v] 74 :: own ObT ox N :: zfr Z (AllO N) :: blkA g6 #[ox, v4] 44 :: own iTy v4 R :: blkA g2 #[(.slice none 0 0), (.slice none 0 0)] 44 :: blkA g1 #[ov, rv] 44 :: own iTy av A :: F)
        have hfl := List.length_filter_le (valB A) (y10.ents.take k); rw [List.length_take] at hfl
        refine k_seq ?_
        refine k_seq ?_
        refine k_reg ?_
        refine s_lt (t_pure (.int .i64 (k : Int))) ?_
        refine s_lt (t_pure (.pointer (some ⟨g13, 4, none⟩))) ?_
        refine s_lt (t_load 1 y10.ev.v) ?_
        refine s_lt (t_len EntT_ok Try.underlying72 (.zn hk12.2)) ?_
        refine s_lt t_cmp ?_
        refine s_nil ?_
        refine xs_then ?_
        refine k_cond (decide ((k : Int) < (y10.ents.length : Int))) (fun c27 => ?_) (fun c27 => ?_)
        ·
          have p28 := of_decide_eq_true c27
          refine k_skip ?_
          refine xs_then ?_
          refine k_seq ?_
          refine k_block ?_
          refine k_seq ?_
          refine k_reg ?_
          refine s_lt (t_pure (.pointer (some ⟨g13, 4, none⟩))) ?_
          refine s_lt (t_load 1 y10.ev.v) ?_
          refine s_lt (t_pure (.int .i64 (k : Int))) ?_
          refine s_lt (t_index EntT_ok Try.underlying72 (.zn hk12.2) (k : Int) k (by omega) (by (try simp only [List.length_nil, List.length_cons, List.length_append, List.length_take, List.length_drop, List.length_set, List.length_replicate, List.length_reverse, bits_len]); omega) (by omega)) ?_
          refine s_lt (t_pure (.pointer (some ((elemAt EntT.size y10.ev.v k).add 1)))) ?_
          obtain ⟨y29, hy30⟩ : ∃ y, y10.ents[k]? = some y := ⟨_, List.getElem?_eq_getElem (by (try simp only [List.length_nil, List.length_cons, List.length_append, List.length_take, List.length_drop, List.length_set, List.length_replicate, List.length_reverse, bits_len]); omega)⟩
          refine s_lt (t_loadF 1 EntT_ok (.zn hk12.2) hy30) ?_
          refine s_lt t_cmp ?_
          refine s_lt (t_pure (.bool (decide (y29.val = 0)))) ?_
          refine s_fork 56 (decide (y29.val = 0)) (fun c31 => ?_) (fun c31 => ?_)
          ·
            have p32 := of_decide_eq_true c31
            refine s_skip ?_
            refine s_skip ?_
            refine s_skip ?_
            refine s_skip ?_
            refine s_skip ?_
            refine s_skip ?_
            refine s_skip ?_
            refine s_skip ?_
            refine s_lt (t_pure (.bool true)) ?_
            refine s_nil ?_
            refine xs_then ?_
            refine k_true ?_
            refine k_reg ?_
            refine s_lt (t_pure sy) ?_
            refine s_lt (t_pure (.pointer (some ⟨g13, 4, none⟩))) ?_
            refine s_lt (t_load 1 y10.ev.v) ?_
            refine s_lt (t_pure (.int .i64 (k : Int))) ?_
            refine s_lt (t_index EntT_ok Try.underlying72 (.zn hk12.2) (k : Int) k (by omega) (by (try simp only [List.length_nil, List.length_cons, List.length_append, List.length_take, List.length_drop, List.length_set, List.length_replicate, List.length_reverse, bits_len]); omega) (by omega)) ?_
            refine s_lt (t_loadE EntT_ok (.zn hk12.2) hy30) ?_
            refine s_buildSlice (e := 95) [(0, .agg #[.int .i64 y29.key, .int .i64 y29.val])] #[.int .i64 y29.key, .int .i64 y29.val] (fun g33 => ?_) (hb := by kernel_rfl)
            refine s_append (L := ((y10.ents.take k).filter (valB A))) 1 EntT_ok Try.underlying72 (.lit 0 EntT_ok [y29]) (by show _ * 16 ≤ _; (try simp only [List.length_nil, List.length_cons, List.length_append, List.length_take, List.length_drop, List.length_set, List.length_replicate, List.length_reverse, bits_len]); omega) (by (try simp only [List.length_nil, List.length_cons, List.length_append, List.length_take, List.length_drop, List.length_set, List.length_replicate, List.length_reverse, bits_len]); omega) (fun v34 => ?_)
            refine s_fact (fun H h => ((Acc.own (T := EntT) (L := (((y10.ents.take k).filter (valB A)) ++ [y29])) 1 rfl) H h).form) (fun hf35 => ?_)
            refine s_lt (t_pure v34) ?_
            refine s_nil ?_
            refine xs_block ?_
            refine xs_then ?_
            refine k_reg ?_
            refine s_lt (t_pure (.int .i64 (k : Int))) ?_
            refine s_lt (t_add (k : Int) 1 (by (try simp only [List.length_nil, List.length_cons, List.length_append, List.length_take, List.length_drop, List.length_set, List.length_replicate, List.length_reverse, bits_len]); omega)) ?_
            refine s_lt (t_pure (.int .i64 ((k : Int) + 1))) ?_
            refine s_nil ?_
            rw [filt_yes (p := valB A) hy30 (by unfold valB; simp [p28, p32])]
            exact xs_round (v34, k + 1) (by show y10.ents.length - (k + 1) < y10.ents.length - k; omega) (by show k + 1 ≤ y10.ents.length; omega) (sub_of rfl ⟨⟨rfl, rfl⟩, ⟨⟨rfl, rfl⟩, ⟨⟨rfl, rfl⟩, ⟨⟨rfl, rfl⟩, ⟨⟨rfl, rfl⟩, ⟨⟨rfl, rfl⟩, ⟨⟨rfl, rfl⟩, ⟨⟨rfl, rfl⟩, ⟨⟨rfl, rfl⟩, ⟨⟨rfl, rfl⟩, ⟨⟨rfl, rfl⟩, ⟨⟨rfl, rfl⟩, ⟨⟨rfl, rfl⟩, ⟨⟨rfl, rfl⟩, ⟨⟨rfl, rfl⟩, ⟨⟨rfl, rfl⟩, ⟨⟨rfl, rfl⟩, ⟨⟨rfl, rfl⟩, ⟨⟨rfl, rfl⟩, ⟨⟨rfl, rfl⟩, ⟨⟨rfl, rfl⟩, ⟨⟨rfl, rfl⟩, ⟨⟨rfl, rfl⟩, ⟨⟨rfl, rfl⟩, ⟨⟨rfl, rfl⟩, trivial⟩⟩⟩⟩⟩⟩⟩⟩⟩⟩⟩⟩⟩⟩⟩⟩⟩⟩⟩⟩⟩⟩⟩⟩⟩) (fun _ h => h.re [1, 1, 1, 1, 1, 1, 1, 1, 1] [9])
          ·
            have p36 := of_decide_eq_false c31
            refine s_lt (t_pure av) ?_
            refine s_lt (t_pure (.pointer (some ⟨g13, 4, none⟩))) ?_
            refine s_lt (t_load 1 y10.ev.v) ?_
            refine s_lt (t_pure (.int .i64 (k : Int))) ?_
            refine s_lt (t_index EntT_ok Try.underlying72 (.zn hk12.2) (k : Int) k (by omega) (by (try simp only [List.length_nil, List.length_cons, List.length_append, List.length_take, List.length_drop, List.length_set, List.length_replicate, List.length_reverse, bits_len]); omega) (by omega)) ?_
            refine s_lt (t_pure (.pointer (some ((elemAt EntT.size y10.ev.v k).add 1)))) ?_
            refine s_lt (t_loadF 1 EntT_ok (.zn hk12.2) hy30) ?_
            refine s_vcall (fun _ h => rin_s (L := A) (Acc.kn (.own 8) h) y29.val) ?_
            rintro _ rfl
            refine s_lt (t_pure (.bool (decide (y29.val ∈ A)))) ?_
            refine s_nil ?_
            refine xs_then ?_
            refine k_cond (decide (y29.val ∈ A)) (fun c37 => ?_) (fun c37 => ?_)
            ·
              have p38 := of_decide_eq_true c37
              refine k_reg ?_
              refine s_lt (t_pure sy) ?_
              refine s_lt (t_pure (.pointer (some ⟨g13, 4, none⟩))) ?_
              refine s_lt (t_load 1 y10.ev.v) ?_
              refine s_lt (t_pure (.int .i64 (k : Int))) ?_
              refine s_lt (t_index EntT_ok Try.underlying72 (.zn hk12.2) (k : Int) k (by omega) (by (try simp only [List.length_nil, List.length_cons, List.length_append, List.length_take, List.length_drop, List.length_set, List.length_replicate, List.length_reverse, bits_len]); omega) (by omega)) ?_
              refine s_lt (t_loadE EntT_ok (.zn hk12.2) hy30) ?_
              refine s_buildSlice (e := 95) [(0, .agg #[.int .i64 y29.key, .int .i64 y29.val])] #[.int .i64 y29.key, .int .i64 y29.val] (fun g39 => ?_) (hb := by kernel_rfl)
              refine s_append (L := ((y10.ents.take k).filter (valB A))) 1 EntT_ok Try.underlying72 (.lit 0 EntT_ok [y29]) (by show _ * 16 ≤ _; (try simp only [List.length_nil, List.length_cons, List.length_append, List.length_take, List.length_drop, List.length_set, List.length_replicate, List.length_reverse, bits_len]); omega) (by (try simp only [List.length_nil, List.length_cons, List.length_append, List.length_take, List.length_drop, List.length_set, List.length_replicate, List.length_reverse, bits_len]); omega) (fun v40 => ?_)
              refine s_fact (fun H h => ((Acc.own (T := EntT) (L := (((y10.ents.take k).filter (valB A)) ++ [y29])) 1 rfl) H h).form) (fun hf41 => ?_)
              refine s_lt (t_pure v40) ?_
              refine s_nil ?_
              refine xs_block ?_
              refine xs_then ?_
              refine k_reg ?_
              refine s_lt (t_pure (.int .i64 (k : Int))) ?_
              refine s_lt (t_add (k : Int) 1 (by (try simp only [List.length_nil, List.length_cons, List.length_append, List.length_take, List.length_drop, List.length_set, List.length_replicate, List.length_reverse, bits_len]); omega)) ?_
              refine s_lt (t_pure (.int .i64 ((k : Int) + 1))) ?_
              refine s_nil ?_
              rw [filt_yes (p := valB A) hy30 (by unfold valB; simp [p36, p38])]
              exact xs_round (v40, k + 1) (by show y10.ents.length - (k + 1) < y10.ents.length - k; omega) (by show k + 1 ≤ y10.ents.length; omega) (sub_of rfl ⟨⟨rfl, rfl⟩, ⟨⟨rfl, rfl⟩, ⟨⟨rfl, rfl⟩, ⟨⟨rfl, rfl⟩, ⟨⟨rfl, rfl⟩, ⟨⟨rfl, rfl⟩, ⟨⟨rfl, rfl⟩, ⟨⟨rfl, rfl⟩, ⟨⟨rfl, rfl⟩, ⟨⟨rfl, rfl⟩, ⟨⟨rfl, rfl⟩, ⟨⟨rfl, rfl⟩, ⟨⟨rfl, rfl⟩, ⟨⟨rfl, rfl⟩, ⟨⟨rfl, rfl⟩, ⟨⟨rfl, rfl⟩, ⟨⟨rfl, rfl⟩, ⟨⟨rfl, rfl⟩, ⟨⟨rfl, rfl⟩, ⟨⟨rfl, rfl⟩, ⟨⟨rfl, rfl⟩, ⟨⟨rfl, rfl⟩, ⟨⟨rfl, rfl⟩, ⟨⟨rfl, rfl⟩, ⟨⟨rfl, rfl⟩, trivial⟩⟩⟩⟩⟩⟩⟩⟩⟩⟩⟩⟩⟩⟩⟩⟩⟩⟩⟩⟩⟩⟩⟩⟩⟩) (fun _ h => h.re [1, 1, 1, 1, 1, 1, 1, 1, 1] [9])
            ·
              have p42 := of_decide_eq_false c37
              refine k_skip ?_
              refine xs_block ?_
              refine xs_then ?_
              refine k_reg ?_
              refine s_lt (t_pure (.int .i64 (k : Int))) ?_
              refine s_lt (t_add (k : Int) 1 (by (try simp only [List.length_nil, List.length_cons, List.length_append, List.length_take, List.length_drop, List.length_set, List.length_replicate, List.length_reverse, bits_len]); omega)) ?_
              refine s_lt (t_pure (.int .i64 ((k : Int) + 1))) ?_
              refine s_nil ?_
              rw [filt_no (p := valB A) hy30 (by unfold valB; simp [p36, p42])]
              exact xs_round (sy, k + 1) (by show y10.ents.length - (k + 1) < y10.ents.length - k; omega) (by show k + 1 ≤ y10.ents.length; omega) (sub_of rfl ⟨⟨rfl, rfl⟩, ⟨⟨rfl, rfl⟩, ⟨⟨rfl, rfl⟩, ⟨⟨rfl, rfl⟩, ⟨⟨rfl, rfl⟩, ⟨⟨rfl, rfl⟩, ⟨⟨rfl, rfl⟩, ⟨⟨rfl, rfl⟩, ⟨⟨rfl, rfl⟩, ⟨⟨rfl, rfl⟩, ⟨⟨rfl, rfl⟩, ⟨⟨rfl, rfl⟩, ⟨⟨rfl, rfl⟩, ⟨⟨rfl, rfl⟩, ⟨⟨rfl, rfl⟩, ⟨⟨rfl, rfl⟩, ⟨⟨rfl, rfl⟩, ⟨⟨rfl, rfl⟩, ⟨⟨rfl, rfl⟩, ⟨⟨rfl, rfl⟩, ⟨⟨rfl, rfl⟩, ⟨⟨rfl, rfl⟩, ⟨⟨rfl, rfl⟩, ⟨⟨rfl, rfl⟩, ⟨⟨rfl, rfl⟩, trivial⟩⟩⟩⟩⟩⟩⟩⟩⟩⟩⟩⟩⟩⟩⟩⟩⟩⟩⟩⟩⟩⟩⟩⟩⟩) (fun _ h => h.re [0, 0, 0, 0, 0, 0, 0, 0, 0] [])
        ·
          have p43 := of_decide_eq_false c27
          refine k_exit ?_
          obtain rfl : k = y10.ents.length := by omega
          rw [List.take_length]
          have hfl2 := List.length_filter_le (valB A) y10.ents
          refine xs_exit ?_
          refine xs_exit ?_
          refine xs_here ?_
          refine xs_then ?_
          refine k_reg ?_
          refine s_lt (t_pure sy) ?_
          refine s_lt (t_pure (.pointer (some ⟨g13, 4, none⟩))) ?_
          refine s_fact (fun H h => ((Acc.own (T := EntT) (L := (y10.ents.filter (valB A))) 0 rfl) H h).form) (fun hf44 => ?_)
          refine s_store (u := sy) (m := 1) 1 #[.int .i64 y10.id, .int .i64 y10.size, .int .i64 y10.weak, y10.rv.v, sy] ?_ (hm := by (obtain ⟨_, _, e0⟩ := hf44; rw [e0]; rfl)) (h1 := by (obtain ⟨_, _, e0⟩ := hf44; rw [e0]; rfl)) (ha' := by (obtain ⟨_, _, e0⟩ := hf44; rw [e0]; rfl))
          refine s_nil ?_
          refine xs_then ?_
          refine k_reg ?_
          refine s_lt (t_pure (.pointer (some ⟨g6, 0, none⟩))) ?_
          refine s_lt (t_load 4 ox) ?_
          obtain ⟨pp45, cc46, e⟩ := hf44; subst e
          refine s_lt (t_loadA 1 #[.int .i64 y10.id, .int .i64 y10.size, .int .i64 y10.weak, y10.rv.v, (.slice pp45 (y10.ents.filter (valB A)).length cc46)]) ?_
          refine s_buildSlice (e := 74) [(0, .agg #[.int .i64 y10.id, .int .i64 y10.size, .int .i64 y10.weak, y10.rv.v, (.slice pp45 (y10.ents.filter (valB A)).length cc46)])] #[.int .i64 y10.id, .int .i64 y10.size, .int .i64 y10.weak, y10.rv.v, (.slice pp45 (y10.ents.filter (valB A)).length cc46)] (fun g47 => ?_) (hb := by kernel_rfl)
          refine s_append (L := N) 3 ObT_ok Try.underlying42 (.lit 0 ObT_ok [(⟨y10.id, y10.size, y10.weak, y10.rv, ⟨pp45, (y10.ents.filter (valB A)).length, cc46⟩, y10.refs, (y10.ents.filter (valB A))⟩ : Ob)]) (by show _ * 72 ≤ _; (try simp only [List.length_nil, List.length_cons, List.length_append, List.length_take, List.length_drop, List.length_set, List.length_replicate, List.length_reverse, bits_len]); omega) (by (try simp only [List.length_nil, List.length_cons, List.length_append, List.length_take, List.length_drop, List.length_set, List.length_replicate, List.length_reverse, bits_len]); omega) (fun v48 => ?_)
          refine s_fact (fun H h => ((Acc.own (T := ObT) (L := (N ++ [(⟨y10.id, y10.size, y10.weak, y10.rv, ⟨pp45, (y10.ents.filter (valB A)).length, cc46⟩, y10.refs, (y10.ents.filter (valB A))⟩ : Ob)])) 3 rfl) H h).form) (fun hf49 => ?_)
          refine s_lt (t_pure (.pointer (some ⟨g6, 0, none⟩))) ?_
          refine s_store (u := v48) (m := 1) 5 #[v48, v4] ?_ (hm := by (obtain ⟨_, _, e0⟩ := hf49; rw [e0]; rfl)) (h1 := by (obtain ⟨_, _, e0⟩ := hf49; rw [e0]; rfl)) (ha' := by (obtain ⟨_, _, e0⟩ := hf49; rw [e0]; rfl))
          refine s_nil ?_
          refine xs_block ?_
          refine xs_then ?_
          refine k_reg ?_
          refine s_lt (t_pure (.int .i64 (j : Int))) ?_
          refine s_lt (t_add (j : Int) 1 (by (try simp only [List.length_nil, List.length_cons, List.length_append, List.length_take, List.length_drop, List.length_set, List.length_replicate, List.length_reverse, bits_len]); omega)) ?_
          refine s_lt (t_pure (.int .i64 ((j : Int) + 1))) ?_
          refine s_nil ?_
          have hu : unvB A y10 = true := (by have h := c20; revert h; unfold unvB; generalize decide (y10.id ∈ A) = b1; generalize decide (y10.weak = 2) = b2; generalize decide (y10.weak = 3) = b3; revert b1 b2 b3; decide)
          refine xs_mem (fun _ h => zob_new (hg.each y10 (List.mem_of_getElem? hy11)) (⟨y10.id, y10.size, y10.weak, y10.rv, ⟨pp45, (y10.ents.filter (valB A)).length, cc46⟩, y10.refs, (y10.ents.filter (valB A))⟩ : Ob) (h.re [1] [])) ?_
          refine xs_mem (fun _ h => zall_push (⟨y10.id, y10.size, y10.weak, y10.rv, ⟨pp45, (y10.ents.filter (valB A)).length, cc46⟩, y10.refs, (y10.ents.filter (valB A))⟩ : Ob) (h.re [0, 3] [])) ?_
          exact xs_round (v48, N ++ [(⟨y10.id, y10.size, y10.weak, y10.rv, ⟨pp45, (y10.ents.filter (valB A)).length, cc46⟩, y10.refs, (y10.ents.filter (valB A))⟩ : Ob)], j + 1) (by show l.length - (j + 1) < l.length - j; omega) (by obtain ⟨hk1, hk2⟩ := hi7; exact ⟨by omega, map_snoc hy11 hk2 (by unfold unv; rw [hu]; rfl)⟩) (sub_of rfl ⟨⟨rfl, rfl⟩, ⟨⟨rfl, rfl⟩, ⟨⟨rfl, rfl⟩, ⟨⟨rfl, rfl⟩, ⟨⟨rfl, rfl⟩, trivial⟩⟩⟩⟩⟩) (fun _ h => h.re [3, 0, 2, 2, 2, 2, 2] [7, 7])
      ·
        have p50 := c20
        simp only [Bool.and_eq_true, Bool.or_eq_true, Bool.and_eq_false_iff, Bool.or_eq_false_iff, Bool.not_eq_true', Bool.not_eq_false', decide_eq_true_eq, decide_eq_false_iff_not] at p50
        refine k_skip ?_
        refine xs_then ?_
        refine k_reg ?_
        refine s_lt (t_pure (.pointer (some ⟨g6, 0, none⟩))) ?_
        refine s_lt (t_load 3 ox) ?_
        refine s_lt (t_loadA 0 #[.int .i64 y10.id, .int .i64 y10.size, .int .i64 y10.weak, y10.rv.v, y10.ev.v]) ?_
        refine s_buildSlice (e := 74) [(0, .agg #[.int .i64 y10.id, .int .i64 y10.size, .int .i64 y10.weak, y10.rv.v, y10.ev.v])] #[.int .i64 y10.id, .int .i64 y10.size, .int .i64 y10.weak, y10.rv.v, y10.ev.v] (fun g51 => ?_) (hb := by kernel_rfl)
        refine s_append (L := N) 2 ObT_ok Try.underlying42 (.lit 0 ObT_ok [y10]) (by show _ * 72 ≤ _; (try simp only [List.length_nil, List.length_cons, List.length_append, List.length_take, List.length_drop, List.length_set, List.length_replicate, List.length_reverse, bits_len]); omega) (by (try simp only [List.length_nil, List.length_cons, List.length_append, List.length_take, List.length_drop, List.length_set, List.length_replicate, List.length_reverse, bits_len]); omega) (fun v52 => ?_)
        refine s_fact (fun H h => ((Acc.own (T := ObT) (L := (N ++ [y10])) 2 rfl) H h).form) (fun hf53 => ?_)
        refine s_lt (t_pure (.pointer (some ⟨g6, 0, none⟩))) ?_
        refine s_store (u := v52) (m := 1) 4 #[v52, v4] ?_ (hm := by (obtain ⟨_, _, e0⟩ := hf53; rw [e0]; rfl)) (h1 := by (obtain ⟨_, _, e0⟩ := hf53; rw [e0]; rfl)) (ha' := by (obtain ⟨_, _, e0⟩ := hf53; rw [e0]; rfl))
        refine s_nil ?_
        refine xs_block ?_
        refine xs_then ?_
        refine k_reg ?_
        refine s_lt (t_pure (.int .i64 (j : Int))) ?_
        refine s_lt (t_add (j : Int) 1 (by (try simp only [List.length_nil, List.length_cons, List.length_append, List.length_take, List.length_drop, List.length_set, List.length_replicate, List.length_reverse, bits_len]); omega)) ?_
        refine s_lt (t_pure (.int .i64 ((j : Int) + 1))) ?_
        refine s_nil ?_
        have hu : unvB A y10 = false := (by have h := c20; revert h; unfold unvB; generalize decide (y10.id ∈ A) = b1; generalize decide (y10.weak = 2) = b2; generalize decide (y10.weak = 3) = b3; revert b1 b2 b3; decide)
        refine xs_mem (fun _ h => zob_old (hg.each y10 (List.mem_of_getElem? hy11)) h) ?_
        refine xs_mem (fun _ h => zall_push y10 (h.re [0, 3] [])) ?_
        exact xs_round (v52, N ++ [y10], j + 1) (by show l.length - (j + 1) < l.length - j; omega) (by obtain ⟨hk1, hk2⟩ := hi7; exact ⟨by omega, map_snoc hy11 hk2 (by unfold unv; rw [hu]; rfl)⟩) (sub_of rfl ⟨⟨rfl, rfl⟩, ⟨⟨rfl, rfl⟩, ⟨⟨rfl, rfl⟩, ⟨⟨rfl, rfl⟩, ⟨⟨rfl, rfl⟩, trivial⟩⟩⟩⟩⟩) (fun _ h => h.re [3, 0, 2, 2, 2, 2, 2] [7, 7])
  ·
    have p54 := of_decide_eq_false c8
    refine k_exit ?_
    refine xs_exit ?_
    refine xs_exit ?_
    refine xs_here ?_
    refine xs_then ?_
    refine k_seq ?_
    refine k_reg ?_
    refine s_lt (t_loadA 2 #[ox, v4]) ?_
    refine s_fact (fun H h => ((Acc.own (T := ObT) (L := N) 0 rfl) H h).form) (fun hf55 => ?_)
    refine s_store (u := .agg #[ox, v4]) (m := 2) 4 #[ox, v4] ?_ (hm := by (obtain ⟨_, _, e0⟩ := hf55; obtain ⟨_, _, e1⟩ := hf5; rw [e0, e1]; rfl)) (h1 := by (obtain ⟨_, _, e0⟩ := hf55; obtain ⟨_, _, e1⟩ := hf5; rw [e0, e1]; rfl)) (ha' := by (obtain ⟨_, _, e0⟩ := hf55; obtain ⟨_, _, e1⟩ := hf5; rw [e0, e1]; rfl))
    refine s_nil ?_
    refine xs_then ?_
    refine k_ret ?_
    obtain ⟨hk1, hk2⟩ := hi7
    obtain rfl : j = l.length := by omega
    rw [List.take_length] at hk2
    exact xs_fin [.agg #[ox, v4]] (zfr Z (GrA ox v4 N R) :: own iTy av A :: F) (SI.agg 4 44 4 SI.nil) (fun _ h => zgr_own (h.re [0, 2, 0, 3] [4, 4, 4])) ⟨_, _, N, rfl, hk2, rfl⟩
end Go.Proofs.Ytipmkaabogocfaa
