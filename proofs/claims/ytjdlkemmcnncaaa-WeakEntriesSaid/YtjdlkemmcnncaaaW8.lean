/-
  Graphs compared; WeakRounds, WeakClears and WeakCollects walked. No condition but that the arguments are what the types say.
-/
import Derived.Test.YtjdlkemmcnncaaaW7
import Derived.Test.YtjdlkemmcnncaaaL4
set_option linter.unusedSimpArgs false
set_option linter.unusedVariables false
set_option maxRecDepth 100000
set_option maxHeartbeats 2000000
namespace Go.Proofs.Ytjdlkemmcnncaaa
open Go.Hp Go.J Go.S
open Go.Mem (Ty KTy blk elemAt pre suf blk_pre blk_suf aget aset strK aggDesc)
theorem c_succ {A B : List Ob} {i : Nat} {x y : Ob} (h : (A.take i).map Ob.c = (B.take i).map Ob.c) (hx : A[i]? = some x) (hy : B[i]? = some y) (e : x.c = y.c) : (A.take (i + 1)).map Ob.c = (B.take (i + 1)).map Ob.c := by
  rw [List.take_add_one, List.take_add_one, hx, hy, List.map_append, List.map_append, h]; simp [e]
theorem c_ne {A B : List Ob} {i : Nat} {x y : Ob} (hx : A[i]? = some x) (hy : B[i]? = some y) (e : x.c ≠ y.c) : A.map Ob.c ≠ B.map Ob.c := fun h => by
  have := congrArg (·[i]?) h
  simp only [List.getElem?_map, hx, hy, Option.map_some] at this
  exact e (Option.some.inj this)
theorem c_all {A B : List Ob} {i : Nat} (h : (A.take i).map Ob.c = (B.take i).map Ob.c) (h1 : A.length ≤ i) (h2 : B.length ≤ i) : A.map Ob.c = B.map Ob.c := by
  rwa [List.take_of_length_le h1, List.take_of_length_le h2] at h
def sameB (l l' : List Ob) (R R' : List Int) : Bool := decide (l.map Ob.c = l'.map Ob.c ∧ R = R')
theorem same_s {Z : Zone} {ov rv : Value} {l : List Ob} {R : List Int} (hg : KnG Z ov rv l R) {ov' rv' : Value} {l' : List Ob} {R' : List Int} (hg' : KnG Z ov' rv' l' R') : SF Try.prog 18 #[.agg #[ov, rv], .agg #[ov', rv']] Z [] fun r Bs => r = .bool (sameB l l' R R') ∧ Bs = [] := by
  refine sf_enter Try.func18 95 [(0, .agg #[ov, rv]), (1, .agg #[ov', rv'])] (fun w0 => ?_)
  refine k_fact (fun H h => (hg.obs.get h).len_le) (fun lA => ?_)
  refine k_seq ?_
  refine k_reg ?_
  refine s_box #[ov, rv] (fun g1 => ?_)
  refine s_box #[ov', rv'] (fun g2 => ?_)
  refine s_lt (t_pure (.bool false)) ?_
  refine s_nil ?_
  refine xs_then ?_
  refine k_seq ?_
  refine k_cut (ι := Unit) (fun _ => True) (fun _ => [(2, .pointer (some ⟨g1, 0, none⟩)), (3, .pointer (some ⟨g2, 0, none⟩)), (4, .bool false), (23, .bool ((decide ((l.length : Int) ≠ (l'.length : Int))) || (!(decide (R = R')))))]) (fun _ => [blkA g2 #[ov', rv'] 25, blkA g1 #[ov, rv] 25]) ?_ (fun _ _ => ?_)
  ·
    refine k_reg ?_
    refine s_lt (t_pure (.pointer (some ⟨g1, 0, none⟩))) ?_
    refine s_lt (t_load 1 ov) ?_
    refine s_lt (t_len ObT_ok Try.underlying22 (.zn hg.obs)) ?_
    refine s_lt (t_pure (.pointer (some ⟨g2, 0, none⟩))) ?_
    refine s_lt (t_load 0 ov') ?_
    refine s_lt (t_len ObT_ok Try.underlying22 (.zn hg'.obs)) ?_
    refine s_lt t_cmp ?_
    refine s_lt (t_pure (.bool (decide ((l.length : Int) ≠ (l'.length : Int))))) ?_
    refine s_fork 16 (decide ((l.length : Int) ≠ (l'.length : Int))) (fun c3 => ?_) (fun c3 => ?_)
    ·
      have p4 := of_decide_eq_true c3
      refine s_skip ?_
      refine s_skip ?_
      refine s_skip ?_
      refine s_skip ?_
      refine s_skip ?_
      refine s_skip ?_
      refine s_lt (t_pure (.bool true)) ?_
      refine s_nil ?_
      exact xs_cut () trivial (sub_of rfl ⟨⟨rfl, rfl⟩, ⟨⟨rfl, rfl⟩, ⟨⟨rfl, rfl⟩, ⟨⟨rfl, show Value.bool true = Value.bool ((decide ((l.length : Int) ≠ (l'.length : Int))) || (!(decide (R = R')))) by first | (simp only [c3, Bool.true_and, Bool.false_and, Bool.and_true, Bool.and_false, Bool.true_or, Bool.or_true, Bool.false_or, Bool.or_false, Bool.not_true, Bool.not_false]; done) | simp [c3]⟩, trivial⟩⟩⟩⟩) (fun _ h => h.re [0, 0] [])
    ·
      have p5 := Decidable.not_not.1 (of_decide_eq_false c3)
      refine s_lt (t_pure (.pointer (some ⟨g1, 1, none⟩))) ?_
      refine s_lt (t_load 1 rv) ?_
      refine s_lt (t_pure (.pointer (some ⟨g2, 1, none⟩))) ?_
      refine s_lt (t_load 0 rv') ?_
      refine s_vcall (fun _ h => ints_s (Acc.kn (.zn hg.roots) h) (Acc.kn (.zn hg'.roots) h)) ?_
      rintro _ rfl
      refine s_lt (t_pure (.bool (!(decide (R = R'))))) ?_
      refine s_lt (t_pure (.bool (!(decide (R = R'))))) ?_
      refine s_nil ?_
      exact xs_cut () trivial (sub_of rfl ⟨⟨rfl, rfl⟩, ⟨⟨rfl, rfl⟩, ⟨⟨rfl, rfl⟩, ⟨⟨rfl, show Value.bool (!(decide (R = R'))) = Value.bool ((decide ((l.length : Int) ≠ (l'.length : Int))) || (!(decide (R = R')))) by first | (simp only [c3, Bool.true_and, Bool.false_and, Bool.and_true, Bool.and_false, Bool.true_or, Bool.or_true, Bool.false_or, Bool.or_false, Bool.not_true, Bool.not_false]; done) | simp [c3]⟩, trivial⟩⟩⟩⟩) (fun _ h => h.re [0, 0] [])
  ·
    refine k_cond ((decide ((l.length : Int) ≠ (l'.length : Int))) || (!(decide (R = R')))) (fun c6 => ?_) (fun c6 => ?_)
    ·
      have p7 := c6
      simp only [Bool.and_eq_true, Bool.or_eq_true, Bool.and_eq_false_iff, Bool.or_eq_false_iff, Bool.not_eq_true', Bool.not_eq_false', decide_eq_true_eq, decide_eq_false_iff_not] at p7
      refine k_seq ?_
      refine k_reg ?_
      refine s_lt (t_pure (.bool false)) ?_
      refine s_nil ?_
      refine xs_then ?_
      refine k_ret ?_
      refine xs_ret ?_
      refine xs_fin [.bool false] [] (SI.tmp 4 SI.nil) (fun _ h => h.re [] [0, 0]) ⟨congrArg Value.bool ?_, rfl⟩
      refine (decide_eq_false fun h => ?_).symm
      have q := p7
      have hl := congrArg List.length h.1; simp only [List.length_map] at hl; simp [hl, h.2] at q
    ·
      obtain ⟨c8, c9⟩ := or_f c6
      have p10 := Decidable.not_not.1 (of_decide_eq_false c8)
      have c11 := not_f c9
      have p12 := of_decide_eq_true c11
      have hRR := p12
      refine k_skip ?_
      refine xs_then ?_
      refine k_seq ?_
      refine k_seq ?_
      refine k_reg ?_
      refine s_lt (t_pure (.int .i64 0)) ?_
      refine s_nil ?_
      refine xs_then ?_
      refine k_block ?_
      refine k_loop (ι := Nat) (fun i => i ≤ l.length ∧ (l.take i).map Ob.c = (l'.take i).map Ob.c) (fun i => [(2, .pointer (some ⟨g1, 0, none⟩)), (3, .pointer (some ⟨g2, 0, none⟩)), (4, .bool false), (5, .int .i64 (i : Int))]) (fun i => [blkA g2 #[ov', rv'] 25, blkA g1 #[ov, rv] 25]) (fun i => l.length - i) 0 ⟨Nat.zero_le _, rfl⟩ (sub_of rfl ⟨⟨rfl, rfl⟩, ⟨⟨rfl, rfl⟩, ⟨⟨rfl, rfl⟩, ⟨⟨rfl, rfl⟩, trivial⟩⟩⟩⟩) (fun _ h => h.re [0, 0] []) ?_
      rintro i hi13
      show SK _ _ _ _ _ [(2, .pointer (some ⟨g1, 0, none⟩)), (3, .pointer (some ⟨g2, 0, none⟩)), (4, .bool false), (5, .int .i64 (i : Int))] _ [blkA g2 #[ov', rv'] 25, blkA g1 #[ov, rv] 25]
      refine k_seq ?_
      refine k_seq ?_
      refine k_reg ?_
      refine s_lt (t_pure (.int .i64 (i : Int))) ?_
      refine s_lt (t_pure (.pointer (some ⟨g1, 0, none⟩))) ?_
      refine s_lt (t_load 1 ov) ?_
      refine s_lt (t_len ObT_ok Try.underlying22 (.zn hg.obs)) ?_
      refine s_lt t_cmp ?_
      refine s_nil ?_
      refine xs_then ?_
      refine k_cond (decide ((i : Int) < (l.length : Int))) (fun c14 => ?_) (fun c14 => ?_)
      ·
        have p15 := of_decide_eq_true c14
        refine k_skip ?_
        refine xs_then ?_
        refine k_seq ?_
        refine k_block ?_
        refine k_seq ?_
        refine k_held [blkA g2 #[ov', rv'] 25, blkA g1 #[ov, rv] 25] ?_
        refine h_lt 0 rfl (np_then (np_block (np_then (np_then (np_block (np_then np_finS)))))) [0, 0] (fun _ => (t_pure (.pointer (some ⟨g1, 0, none⟩)))) ?_
        refine h_lt 1 rfl (np_then (np_block (np_then (np_then (np_block (np_then np_finS)))))) [0, 0] (fun _ => (t_load 1 ov)) ?_
        refine h_lt 2 rfl (np_then (np_block (np_then (np_then (np_block (np_then np_finS)))))) [0, 0] (fun _ => (t_pure (.int .i64 (i : Int)))) ?_
        refine h_lt 3 rfl (np_then (np_block (np_then (np_then (np_block (np_then np_finS)))))) [0, 0] (fun _ => (t_index ObT_ok Try.underlying22 (.zn hg.obs) (i : Int) i (by omega) (by (try simp only [List.length_nil, List.length_cons, List.length_append, List.length_take, List.length_drop, List.length_set, List.length_replicate, List.length_reverse]); omega) (by omega))) ?_
        obtain ⟨y16, hy17⟩ : ∃ y, l[i]? = some y := ⟨_, List.getElem?_eq_getElem (by (try simp only [List.length_nil, List.length_cons, List.length_append, List.length_take, List.length_drop, List.length_set, List.length_replicate, List.length_reverse]); omega)⟩
        have hk18 := hg.each y16 (List.mem_of_getElem? hy17)
        refine h_lt 4 rfl (np_then (np_block (np_then (np_then (np_block (np_then np_finS)))))) [0, 0] (fun _ => (t_loadE ObT_ok (.zn hg.obs) hy17)) ?_
        refine h_lt 5 rfl (np_then (np_block (np_then (np_then (np_block (np_then np_finS)))))) [0, 0] (fun _ => (t_pure (.pointer (some ⟨g2, 0, none⟩)))) ?_
        refine h_lt 6 rfl (np_then (np_block (np_then (np_then (np_block (np_then np_finS)))))) [0, 0] (fun _ => (t_load 0 ov')) ?_
        refine h_lt 7 rfl (np_then (np_block (np_then (np_then (np_block (np_then np_finS)))))) [0, 0] (fun _ => (t_pure (.int .i64 (i : Int)))) ?_
        refine h_lt 8 rfl (np_then (np_block (np_then (np_then (np_block (np_then np_finS)))))) [0, 0] (fun _ => (t_index ObT_ok Try.underlying22 (.zn hg'.obs) (i : Int) i (by omega) (by (try simp only [List.length_nil, List.length_cons, List.length_append, List.length_take, List.length_drop, List.length_set, List.length_replicate, List.length_reverse]); omega) (by omega))) ?_
        obtain ⟨y19, hy20⟩ : ∃ y, l'[i]? = some y := ⟨_, List.getElem?_eq_getElem (by (try simp only [List.length_nil, List.length_cons, List.length_append, List.length_take, List.length_drop, List.length_set, List.length_replicate, List.length_reverse]); omega)⟩
        have hk21 := hg'.each y19 (List.mem_of_getElem? hy20)
        refine h_lt 9 rfl (np_then (np_block (np_then (np_then (np_block (np_then np_finS)))))) [0, 0] (fun _ => (t_loadE ObT_ok (.zn hg'.obs) hy20)) ?_
        refine h_stepS2 10 11 ?_ ?_
        ·
          refine s_alloc (.agg #[.int .i64 0, .int .i64 0, .int .i64 0, (.slice none 0 0), (.slice none 0 0)]) #[.int .i64 0, .int .i64 0, .int .i64 0, (.slice none 0 0), (.slice none 0 0)] (fun g22 => ?_)
          refine s_nil (xs_held [1, 1] ?_)
          refine h_stepS 11 ?_
          refine s_alloc (.agg #[.int .i64 0, .int .i64 0, .int .i64 0, (.slice none 0 0), (.slice none 0 0)]) #[.int .i64 0, .int .i64 0, .int .i64 0, (.slice none 0 0), (.slice none 0 0)] (fun g23 => ?_)
          refine s_nil (xs_held [2, 2] ?_)
          refine h_stepS 12 ?_
          refine s_store 1 #[.int .i64 y16.id, .int .i64 y16.size, .int .i64 y16.weak, y16.rv.v, y16.ev.v] ?_
          refine s_nil (xs_held [2, 2] ?_)
          refine h_stepS 13 ?_
          refine s_store 0 #[.int .i64 y19.id, .int .i64 y19.size, .int .i64 y19.weak, y19.rv.v, y19.ev.v] ?_
          refine s_nil (xs_held [2, 2] ?_)
          refine h_doneS ?_
          refine xs_then ?_
          refine k_seq ?_
          refine k_cut (ι := Unit) (fun _ => True) (fun _ => [(2, .pointer (some ⟨g1, 0, none⟩)), (3, .pointer (some ⟨g2, 0, none⟩)), (4, .bool false), (5, .int .i64 (i : Int)), (6, .pointer (some ⟨g22, 0, none⟩)), (7, .pointer (some ⟨g23, 0, none⟩)), (24, .int .i64 (i : Int)), (25, .pointer (some ⟨g1, 0, none⟩)), (26, ov), (27, .int .i64 (l.length : Int)), (28, .bool (decide ((i : Int) < (l.length : Int)))), (31, .pointer (some ⟨g1, 0, none⟩)), (32, ov), (33, .int .i64 (i : Int)), (34, .pointer (some (elemAt ObT.size ov i))), (35, .agg #[.int .i64 y16.id, .int .i64 y16.size, .int .i64 y16.weak, y16.rv.v, y16.ev.v]), (36, .pointer (some ⟨g2, 0, none⟩)), (37, ov'), (38, .int .i64 (i : Int)), (39, .pointer (some (elemAt ObT.size ov' i))), (40, .agg #[.int .i64 y19.id, .int .i64 y19.size, .int .i64 y19.weak, y19.rv.v, y19.ev.v]), (41, .pointer (some ⟨g22, 0, none⟩)), (42, .int .i64 y16.id), (43, .pointer (some ⟨g23, 0, none⟩)), (44, .int .i64 y19.id), (45, .bool (decide (y16.id ≠ y19.id))), (46, .bool (decide (y16.id ≠ y19.id))), (52, .bool ((decide (y16.id ≠ y19.id)) || (decide (y16.size ≠ y19.size)))), (53, .bool ((decide (y16.id ≠ y19.id)) || (decide (y16.size ≠ y19.size)))), (59, .bool ((decide (y16.id ≠ y19.id)) || ((decide (y16.size ≠ y19.size)) || (decide (y16.weak ≠ y19.weak))))), (60, .bool ((decide (y16.id ≠ y19.id)) || ((decide (y16.size ≠ y19.size)) || (decide (y16.weak ≠ y19.weak))))), (67, .bool ((decide (y16.id ≠ y19.id)) || ((decide (y16.size ≠ y19.size)) || ((decide (y16.weak ≠ y19.weak)) || (!(decide (y16.refs = y19.refs))))))), (68, .bool ((decide (y16.id ≠ y19.id)) || ((decide (y16.size ≠ y19.size)) || ((decide (y16.weak ≠ y19.weak)) || (!(decide (y16.refs = y19.refs))))))), (76, .bool ((decide (y16.id ≠ y19.id)) || ((decide (y16.size ≠ y19.size)) || ((decide (y16.weak ≠ y19.weak)) || ((!(decide (y16.refs = y19.refs))) || (decide ((y16.ents.length : Int) ≠ (y19.ents.length : Int))))))))]) (fun _ => [blkA g23 #[.int .i64 y19.id, .int .i64 y19.size, .int .i64 y19.weak, y19.rv.v, y19.ev.v] 42, blkA g22 #[.int .i64 y16.id, .int .i64 y16.size, .int .i64 y16.weak, y16.rv.v, y16.ev.v] 42, blkA g2 #[ov', rv'] 25, blkA g1 #[ov, rv] 25]) ?_ (fun _ _ => ?_)
          ·
            refine k_reg ?_
            refine s_lt (t_pure (.pointer (some ⟨g22, 0, none⟩))) ?_
            refine s_lt (t_load 1 (.int .i64 y16.id)) ?_
            refine s_lt (t_pure (.pointer (some ⟨g23, 0, none⟩))) ?_
            refine s_lt (t_load 0 (.int .i64 y19.id)) ?_
            refine s_lt t_cmp ?_
            refine s_lt (t_pure (.bool (decide (y16.id ≠ y19.id)))) ?_
            refine s_fork 46 (decide (y16.id ≠ y19.id)) (fun c24 => ?_) (fun c24 => ?_)
            ·
              have p25 := of_decide_eq_true c24
              refine s_skip ?_
              refine s_skip ?_
              refine s_skip ?_
              refine s_skip ?_
              refine s_skip ?_
              refine s_lt (t_pure (.bool true)) ?_
              refine s_lt (t_pure (.bool true)) ?_
              refine s_skip ?_
              refine s_skip ?_
              refine s_skip ?_
              refine s_skip ?_
              refine s_skip ?_
              refine s_lt (t_pure (.bool true)) ?_
              refine s_lt (t_pure (.bool true)) ?_
              refine s_skip ?_
              refine s_skip ?_
              refine s_skip ?_
              refine s_skip ?_
              refine s_skip ?_
              refine s_skip ?_
              refine s_lt (t_pure (.bool true)) ?_
              refine s_lt (t_pure (.bool true)) ?_
              refine s_skip ?_
              refine s_skip ?_
              refine s_skip ?_
              refine s_skip ?_
              refine s_skip ?_
              refine s_skip ?_
              refine s_skip ?_
              refine s_lt (t_pure (.bool true)) ?_
              refine s_nil ?_
              exact xs_cut () trivial (sub_of rfl ⟨⟨rfl, rfl⟩, ⟨⟨rfl, rfl⟩, ⟨⟨rfl, rfl⟩, ⟨⟨rfl, rfl⟩, ⟨⟨rfl, rfl⟩, ⟨⟨rfl, rfl⟩, ⟨⟨rfl, rfl⟩, ⟨⟨rfl, rfl⟩, ⟨⟨rfl, rfl⟩, ⟨⟨rfl, rfl⟩, ⟨⟨rfl, rfl⟩, ⟨⟨rfl, rfl⟩, ⟨⟨rfl, rfl⟩, ⟨⟨rfl, rfl⟩, ⟨⟨rfl, rfl⟩, ⟨⟨rfl, rfl⟩, ⟨⟨rfl, rfl⟩, ⟨⟨rfl, rfl⟩, ⟨⟨rfl, rfl⟩, ⟨⟨rfl, rfl⟩, ⟨⟨rfl, rfl⟩, ⟨⟨rfl, rfl⟩, ⟨⟨rfl, rfl⟩, ⟨⟨rfl, rfl⟩, ⟨⟨rfl, rfl⟩, ⟨⟨rfl, rfl⟩, ⟨⟨rfl, show Value.bool true = Value.bool (decide (y16.id ≠ y19.id)) by first | (simp only [c24, Bool.true_and, Bool.false_and, Bool.and_true, Bool.and_false, Bool.true_or, Bool.or_true, Bool.false_or, Bool.or_false, Bool.not_true, Bool.not_false]; done) | simp [c24]⟩, ⟨⟨rfl, show Value.bool true = Value.bool ((decide (y16.id ≠ y19.id)) || (decide (y16.size ≠ y19.size))) by first | (simp only [c24, Bool.true_and, Bool.false_and, Bool.and_true, Bool.and_false, Bool.true_or, Bool.or_true, Bool.false_or, Bool.or_false, Bool.not_true, Bool.not_false]; done) | simp [c24]⟩, ⟨⟨rfl, show Value.bool true = Value.bool ((decide (y16.id ≠ y19.id)) || (decide (y16.size ≠ y19.size))) by first | (simp only [c24, Bool.true_and, Bool.false_and, Bool.and_true, Bool.and_false, Bool.true_or, Bool.or_true, Bool.false_or, Bool.or_false, Bool.not_true, Bool.not_false]; done) | simp [c24]⟩, ⟨⟨rfl, show Value.bool true = Value.bool ((decide (y16.id ≠ y19.id)) || ((decide (y16.size ≠ y19.size)) || (decide (y16.weak ≠ y19.weak)))) by first | (simp only [c24, Bool.true_and, Bool.false_and, Bool.and_true, Bool.and_false, Bool.true_or, Bool.or_true, Bool.false_or, Bool.or_false, Bool.not_true, Bool.not_false]; done) | simp [c24]⟩, ⟨⟨rfl, show Value.bool true = Value.bool ((decide (y16.id ≠ y19.id)) || ((decide (y16.size ≠ y19.size)) || (decide (y16.weak ≠ y19.weak)))) by first | (simp only [c24, Bool.true_and, Bool.false_and, Bool.and_true, Bool.and_false, Bool.true_or, Bool.or_true, Bool.false_or, Bool.or_false, Bool.not_true, Bool.not_false]; done) | simp [c24]⟩, ⟨⟨rfl, show Value.bool true = Value.bool ((decide (y16.id ≠ y19.id)) || ((decide (y16.size ≠ y19.size)) || ((decide (y16.weak ≠ y19.weak)) || (!(decide (y16.refs = y19.refs)))))) by first | (simp only [c24, Bool.true_and, Bool.false_and, Bool.and_true, Bool.and_false, Bool.true_or, Bool.or_true, Bool.false_or, Bool.or_false, Bool.not_true, Bool.not_false]; done) | simp [c24]⟩, ⟨⟨rfl, show Value.bool true = Value.bool ((decide (y16.id ≠ y19.id)) || ((decide (y16.size ≠ y19.size)) || ((decide (y16.weak ≠ y19.weak)) || (!(decide (y16.refs = y19.refs)))))) by first | (simp only [c24, Bool.true_and, Bool.false_and, Bool.and_true, Bool.and_false, Bool.true_or, Bool.or_true, Bool.false_or, Bool.or_false, Bool.not_true, Bool.not_false]; done) | simp [c24]⟩, ⟨⟨rfl, show Value.bool true = Value.bool ((decide (y16.id ≠ y19.id)) || ((decide (y16.size ≠ y19.size)) || ((decide (y16.weak ≠ y19.weak)) || ((!(decide (y16.refs = y19.refs))) || (decide ((y16.ents.length : Int) ≠ (y19.ents.length : Int))))))) by first | (simp only [c24, Bool.true_and, Bool.false_and, Bool.and_true, Bool.and_false, Bool.true_or, Bool.or_true, Bool.false_or, Bool.or_false, Bool.not_true, Bool.not_false]; done) | simp [c24]⟩, trivial⟩⟩⟩⟩⟩⟩⟩⟩⟩⟩⟩⟩⟩⟩⟩⟩⟩⟩⟩⟩⟩⟩⟩⟩⟩⟩⟩⟩⟩⟩⟩⟩⟩⟩) (fun _ h => h.re [0, 0, 0, 0] [])
            ·
              have p26 := Decidable.not_not.1 (of_decide_eq_false c24)
              refine s_lt (t_pure (.pointer (some ⟨g22, 1, none⟩))) ?_
              refine s_lt (t_load 1 (.int .i64 y16.size)) ?_
              refine s_lt (t_pure (.pointer (some ⟨g23, 1, none⟩))) ?_
              refine s_lt (t_load 0 (.int .i64 y19.size)) ?_
              refine s_lt t_cmp ?_
              refine s_lt (t_pure (.bool (decide (y16.size ≠ y19.size)))) ?_
              refine s_lt (t_pure (.bool (decide (y16.size ≠ y19.size)))) ?_
              refine s_fork 53 (decide (y16.size ≠ y19.size)) (fun c27 => ?_) (fun c27 => ?_)
              ·
                have p28 := of_decide_eq_true c27
                refine s_skip ?_
                refine s_skip ?_
                refine s_skip ?_
                refine s_skip ?_
                refine s_skip ?_
                refine s_lt (t_pure (.bool true)) ?_
                refine s_lt (t_pure (.bool true)) ?_
                refine s_skip ?_
                refine s_skip ?_
                refine s_skip ?_
                refine s_skip ?_
                refine s_skip ?_
                refine s_skip ?_
                refine s_lt (t_pure (.bool true)) ?_
                refine s_lt (t_pure (.bool true)) ?_
                refine s_skip ?_
                refine s_skip ?_
                refine s_skip ?_
                refine s_skip ?_
                refine s_skip ?_
                refine s_skip ?_
                refine s_skip ?_
                refine s_lt (t_pure (.bool true)) ?_
                refine s_nil ?_
                exact xs_cut () trivial (sub_of rfl ⟨⟨rfl, rfl⟩, ⟨⟨rfl, rfl⟩, ⟨⟨rfl, rfl⟩, ⟨⟨rfl, rfl⟩, ⟨⟨rfl, rfl⟩, ⟨⟨rfl, rfl⟩, ⟨⟨rfl, rfl⟩, ⟨⟨rfl, rfl⟩, ⟨⟨rfl, rfl⟩, ⟨⟨rfl, rfl⟩, ⟨⟨rfl, rfl⟩, ⟨⟨rfl, rfl⟩, ⟨⟨rfl, rfl⟩, ⟨⟨rfl, rfl⟩, ⟨⟨rfl, rfl⟩, ⟨⟨rfl, rfl⟩, ⟨⟨rfl, rfl⟩, ⟨⟨rfl, rfl⟩, ⟨⟨rfl, rfl⟩, ⟨⟨rfl, rfl⟩, ⟨⟨rfl, rfl⟩, ⟨⟨rfl, rfl⟩, ⟨⟨rfl, rfl⟩, ⟨⟨rfl, rfl⟩, ⟨⟨rfl, rfl⟩, ⟨⟨rfl, rfl⟩, ⟨⟨rfl, show Value.bool false = Value.bool (decide (y16.id ≠ y19.id)) by first | (simp only [c24, c27, Bool.true_and, Bool.false_and, Bool.and_true, Bool.and_false, Bool.true_or, Bool.or_true, Bool.false_or, Bool.or_false, Bool.not_true, Bool.not_false]; done) | simp [c24, c27]⟩, ⟨⟨rfl, show Value.bool (decide (y16.size ≠ y19.size)) = Value.bool ((decide (y16.id ≠ y19.id)) || (decide (y16.size ≠ y19.size))) by first | (simp only [c24, c27, Bool.true_and, Bool.false_and, Bool.and_true, Bool.and_false, Bool.true_or, Bool.or_true, Bool.false_or, Bool.or_false, Bool.not_true, Bool.not_false]; done) | simp [c24, c27]⟩, ⟨⟨rfl, show Value.bool true = Value.bool ((decide (y16.id ≠ y19.id)) || (decide (y16.size ≠ y19.size))) by first | (simp only [c24, c27, Bool.true_and, Bool.false_and, Bool.and_true, Bool.and_false, Bool.true_or, Bool.or_true, Bool.false_or, Bool.or_false, Bool.not_true, Bool.not_false]; done) | simp [c24, c27]⟩, ⟨⟨rfl, show Value.bool true = Value.bool ((decide (y16.id ≠ y19.id)) || ((decide (y16.size ≠ y19.size)) || (decide (y16.weak ≠ y19.weak)))) by first | (simp only [c24, c27, Bool.true_and, Bool.false_and, Bool.and_true, Bool.and_false, Bool.true_or, Bool.or_true, Bool.false_or, Bool.or_false, Bool.not_true, Bool.not_false]; done) | simp [c24, c27]⟩, ⟨⟨rfl, show Value.bool true = Value.bool ((decide (y16.id ≠ y19.id)) || ((decide (y16.size ≠ y19.size)) || (decide (y16.weak ≠ y19.weak)))) by first | (simp only [c24, c27, Bool.true_and, Bool.false_and, Bool.and_true, Bool.and_false, Bool.true_or, Bool.or_true, Bool.false_or, Bool.or_false, Bool.not_true, Bool.not_false]; done) | simp [c24, c27]⟩, ⟨⟨rfl, show Value.bool true = Value.bool ((decide (y16.id ≠ y19.id)) || ((decide (y16.size ≠ y19.size)) || ((decide (y16.weak ≠ y19.weak)) || (!(decide (y16.refs = y19.refs)))))) by first | (simp only [c24, c27, Bool.true_and, Bool.false_and, Bool.and_true, Bool.and_false, Bool.true_or, Bool.or_true, Bool.false_or, Bool.or_false, Bool.not_true, Bool.not_false]; done) | simp [c24, c27]⟩, ⟨⟨rfl, show Value.bool true = Value.bool ((decide (y16.id ≠ y19.id)) || ((decide (y16.size ≠ y19.size)) || ((decide (y16.weak ≠ y19.weak)) || (!(decide (y16.refs = y19.refs)))))) by first | (simp only [c24, c27, Bool.true_and, Bool.false_and, Bool.and_true, Bool.and_false, Bool.true_or, Bool.or_true, Bool.false_or, Bool.or_false, Bool.not_true, Bool.not_false]; done) | simp [c24, c27]⟩, ⟨⟨rfl, show Value.bool true = Value.bool ((decide (y16.id ≠ y19.id)) || ((decide (y16.size ≠ y19.size)) || ((decide (y16.weak ≠ y19.weak)) || ((!(decide (y16.refs = y19.refs))) || (decide ((y16.ents.length : Int) ≠ (y19.ents.length : Int))))))) by first | (simp only [c24, c27, Bool.true_and, Bool.false_and, Bool.and_true, Bool.and_false, Bool.true_or, Bool.or_true, Bool.false_or, Bool.or_false, Bool.not_true, Bool.not_false]; done) | simp [c24, c27]⟩, trivial⟩⟩⟩⟩⟩⟩⟩⟩⟩⟩⟩⟩⟩⟩⟩⟩⟩⟩⟩⟩⟩⟩⟩⟩⟩⟩⟩⟩⟩⟩⟩⟩⟩⟩) (fun _ h => h.re [0, 0, 0, 0] [])
              ·
                have p29 := Decidable.not_not.1 (of_decide_eq_false c27)
                refine s_lt (t_pure (.pointer (some ⟨g22, 2, none⟩))) ?_
                refine s_lt (t_load 1 (.int .i64 y16.weak)) ?_
                refine s_lt (t_pure (.pointer (some ⟨g23, 2, none⟩))) ?_
                refine s_lt (t_load 0 (.int .i64 y19.weak)) ?_
                refine s_lt t_cmp ?_
                refine s_lt (t_pure (.bool (decide (y16.weak ≠ y19.weak)))) ?_
                refine s_lt (t_pure (.bool (decide (y16.weak ≠ y19.weak)))) ?_
                refine s_fork 60 (decide (y16.weak ≠ y19.weak)) (fun c30 => ?_) (fun c30 => ?_)
                ·
                  have p31 := of_decide_eq_true c30
                  refine s_skip ?_
                  refine s_skip ?_
                  refine s_skip ?_
                  refine s_skip ?_
                  refine s_skip ?_
                  refine s_skip ?_
                  refine s_lt (t_pure (.bool true)) ?_
                  refine s_lt (t_pure (.bool true)) ?_
                  refine s_skip ?_
                  refine s_skip ?_
                  refine s_skip ?_
                  refine s_skip ?_
                  refine s_skip ?_
                  refine s_skip ?_
                  refine s_skip ?_
                  refine s_lt (t_pure (.bool true)) ?_
                  refine s_nil ?_
                  exact xs_cut () trivial (sub_of rfl ⟨⟨rfl, rfl⟩, ⟨⟨rfl, rfl⟩, ⟨⟨rfl, rfl⟩, ⟨⟨rfl, rfl⟩, ⟨⟨rfl, rfl⟩, ⟨⟨rfl, rfl⟩, ⟨⟨rfl, rfl⟩, ⟨⟨rfl, rfl⟩, ⟨⟨rfl, rfl⟩, ⟨⟨rfl, rfl⟩, ⟨⟨rfl, rfl⟩, ⟨⟨rfl, rfl⟩, ⟨⟨rfl, rfl⟩, ⟨⟨rfl, rfl⟩, ⟨⟨rfl, rfl⟩, ⟨⟨rfl, rfl⟩, ⟨⟨rfl, rfl⟩, ⟨⟨rfl, rfl⟩, ⟨⟨rfl, rfl⟩, ⟨⟨rfl, rfl⟩, ⟨⟨rfl, rfl⟩, ⟨⟨rfl, rfl⟩, ⟨⟨rfl, rfl⟩, ⟨⟨rfl, rfl⟩, ⟨⟨rfl, rfl⟩, ⟨⟨rfl, rfl⟩, ⟨⟨rfl, show Value.bool false = Value.bool (decide (y16.id ≠ y19.id)) by first | (simp only [c24, c27, c30, Bool.true_and, Bool.false_and, Bool.and_true, Bool.and_false, Bool.true_or, Bool.or_true, Bool.false_or, Bool.or_false, Bool.not_true, Bool.not_false]; done) | simp [c24, c27, c30]⟩, ⟨⟨rfl, show Value.bool (decide (y16.size ≠ y19.size)) = Value.bool ((decide (y16.id ≠ y19.id)) || (decide (y16.size ≠ y19.size))) by first | (simp only [c24, c27, c30, Bool.true_and, Bool.false_and, Bool.and_true, Bool.and_false, Bool.true_or, Bool.or_true, Bool.false_or, Bool.or_false, Bool.not_true, Bool.not_false]; done) | simp [c24, c27, c30]⟩, ⟨⟨rfl, show Value.bool false = Value.bool ((decide (y16.id ≠ y19.id)) || (decide (y16.size ≠ y19.size))) by first | (simp only [c24, c27, c30, Bool.true_and, Bool.false_and, Bool.and_true, Bool.and_false, Bool.true_or, Bool.or_true, Bool.false_or, Bool.or_false, Bool.not_true, Bool.not_false]; done) | simp [c24, c27, c30]⟩, ⟨⟨rfl, show Value.bool (decide (y16.weak ≠ y19.weak)) = Value.bool ((decide (y16.id ≠ y19.id)) || ((decide (y16.size ≠ y19.size)) || (decide (y16.weak ≠ y19.weak)))) by first | (simp only [c24, c27, c30, Bool.true_and, Bool.false_and, Bool.and_true, Bool.and_false, Bool.true_or, Bool.or_true, Bool.false_or, Bool.or_false, Bool.not_true, Bool.not_false]; done) | simp [c24, c27, c30]⟩, ⟨⟨rfl, show Value.bool true = Value.bool ((decide (y16.id ≠ y19.id)) || ((decide (y16.size ≠ y19.size)) || (decide (y16.weak ≠ y19.weak)))) by first | (simp only [c24, c27, c30, Bool.true_and, Bool.false_and, Bool.and_true, Bool.and_false, Bool.true_or, Bool.or_true, Bool.false_or, Bool.or_false, Bool.not_true, Bool.not_false]; done) | simp [c24, c27, c30]⟩, ⟨⟨rfl, show Value.bool true = Value.bool ((decide (y16.id ≠ y19.id)) || ((decide (y16.size ≠ y19.size)) || ((decide (y16.weak ≠ y19.weak)) || (!(decide (y16.refs = y19.refs)))))) by first | (simp only [c24, c27, c30, Bool.true_and, Bool.false_and, Bool.and_true, Bool.and_false, Bool.true_or, Bool.or_true, Bool.false_or, Bool.or_false, Bool.not_true, Bool.not_false]; done) | simp [c24, c27, c30]⟩, ⟨⟨rfl, show Value.bool true = Value.bool ((decide (y16.id ≠ y19.id)) || ((decide (y16.size ≠ y19.size)) || ((decide (y16.weak ≠ y19.weak)) || (!(decide (y16.refs = y19.refs)))))) by first | (simp only [c24, c27, c30, Bool.true_and, Bool.false_and, Bool.and_true, Bool.and_false, Bool.true_or, Bool.or_true, Bool.false_or, Bool.or_false, Bool.not_true, Bool.not_false]; done) | simp [c24, c27, c30]⟩, ⟨⟨rfl, show Value.bool true = Value.bool ((decide (y16.id ≠ y19.id)) || ((decide (y16.size ≠ y19.size)) || ((decide (y16.weak ≠ y19.weak)) || ((!(decide (y16.refs = y19.refs))) || (decide ((y16.ents.length : Int) ≠ (y19.ents.length : Int))))))) by first | (simp only [c24, c27, c30, Bool.true_and, Bool.false_and, Bool.and_true, Bool.and_false, Bool.true_or, Bool.or_true, Bool.false_or, Bool.or_false, Bool.not_true, Bool.not_false]; done) | simp [c24, c27, c30]⟩, trivial⟩⟩⟩⟩⟩⟩⟩⟩⟩⟩⟩⟩⟩⟩⟩⟩⟩⟩⟩⟩⟩⟩⟩⟩⟩⟩⟩⟩⟩⟩⟩⟩⟩⟩) (fun _ h => h.re [0, 0, 0, 0] [])
                ·
                  have p32 := Decidable.not_not.1 (of_decide_eq_false c30)
                  refine s_lt (t_pure (.pointer (some ⟨g22, 3, none⟩))) ?_
                  refine s_lt (t_load 1 y16.rv.v) ?_
                  refine s_lt (t_pure (.pointer (some ⟨g23, 3, none⟩))) ?_
                  refine s_lt (t_load 0 y19.rv.v) ?_
                  refine s_vcall (fun _ h => ints_s (Acc.kn (.zn hk18.1) h) (Acc.kn (.zn hk21.1) h)) ?_
                  rintro _ rfl
                  refine s_lt (t_pure (.bool (!(decide (y16.refs = y19.refs))))) ?_
                  refine s_lt (t_pure (.bool (!(decide (y16.refs = y19.refs))))) ?_
                  refine s_lt (t_pure (.bool (!(decide (y16.refs = y19.refs))))) ?_
                  refine s_fork 68 (!(decide (y16.refs = y19.refs))) (fun c33 => ?_) (fun c33 => ?_)
                  ·
                    have c34 := not_t c33
                    have p35 := of_decide_eq_false c34
                    refine s_skip ?_
                    refine s_skip ?_
                    refine s_skip ?_
                    refine s_skip ?_
                    refine s_skip ?_
                    refine s_skip ?_
                    refine s_skip ?_
                    refine s_lt (t_pure (.bool true)) ?_
                    refine s_nil ?_
                    exact xs_cut () trivial (sub_of rfl ⟨⟨rfl, rfl⟩, ⟨⟨rfl, rfl⟩, ⟨⟨rfl, rfl⟩, ⟨⟨rfl, rfl⟩, ⟨⟨rfl, rfl⟩, ⟨⟨rfl, rfl⟩, ⟨⟨rfl, rfl⟩, ⟨⟨rfl, rfl⟩, ⟨⟨rfl, rfl⟩, ⟨⟨rfl, rfl⟩, ⟨⟨rfl, rfl⟩, ⟨⟨rfl, rfl⟩, ⟨⟨rfl, rfl⟩, ⟨⟨rfl, rfl⟩, ⟨⟨rfl, rfl⟩, ⟨⟨rfl, rfl⟩, ⟨⟨rfl, rfl⟩, ⟨⟨rfl, rfl⟩, ⟨⟨rfl, rfl⟩, ⟨⟨rfl, rfl⟩, ⟨⟨rfl, rfl⟩, ⟨⟨rfl, rfl⟩, ⟨⟨rfl, rfl⟩, ⟨⟨rfl, rfl⟩, ⟨⟨rfl, rfl⟩, ⟨⟨rfl, rfl⟩, ⟨⟨rfl, show Value.bool false = Value.bool (decide (y16.id ≠ y19.id)) by first | (simp only [c24, c27, c30, c33, Bool.true_and, Bool.false_and, Bool.and_true, Bool.and_false, Bool.true_or, Bool.or_true, Bool.false_or, Bool.or_false, Bool.not_true, Bool.not_false]; done) | simp [c24, c27, c30, c33]⟩, ⟨⟨rfl, show Value.bool (decide (y16.size ≠ y19.size)) = Value.bool ((decide (y16.id ≠ y19.id)) || (decide (y16.size ≠ y19.size))) by first | (simp only [c24, c27, c30, c33, Bool.true_and, Bool.false_and, Bool.and_true, Bool.and_false, Bool.true_or, Bool.or_true, Bool.false_or, Bool.or_false, Bool.not_true, Bool.not_false]; done) | simp [c24, c27, c30, c33]⟩, ⟨⟨rfl, show Value.bool false = Value.bool ((decide (y16.id ≠ y19.id)) || (decide (y16.size ≠ y19.size))) by first | (simp only [c24, c27, c30, c33, Bool.true_and, Bool.false_and, Bool.and_true, Bool.and_false, Bool.true_or, Bool.or_true, Bool.false_or, Bool.or_false, Bool.not_true, Bool.not_false]; done) | simp [c24, c27, c30, c33]⟩, ⟨⟨rfl, show Value.bool (decide (y16.weak ≠ y19.weak)) = Value.bool ((decide (y16.id ≠ y19.id)) || ((decide (y16.size ≠ y19.size)) || (decide (y16.weak ≠ y19.weak)))) by first | (simp only [c24, c27, c30, c33, Bool.true_and, Bool.false_and, Bool.and_true, Bool.and_false, Bool.true_or, Bool.or_true, Bool.false_or, Bool.or_false, Bool.not_true, Bool.not_false]; done) | simp [c24, c27, c30, c33]⟩, ⟨⟨rfl, show Value.bool false = Value.bool ((decide (y16.id ≠ y19.id)) || ((decide (y16.size ≠ y19.size)) || (decide (y16.weak ≠ y19.weak)))) by first | (simp only [c24, c27, c30, c33, Bool.true_and, Bool.false_and, Bool.and_true, Bool.and_false, Bool.true_or, Bool.or_true, Bool.false_or, Bool.or_false, Bool.not_true, Bool.not_false]; done) | simp [c24, c27, c30, c33]⟩, ⟨⟨rfl, show Value.bool (!(decide (y16.refs = y19.refs))) = Value.bool ((decide (y16.id ≠ y19.id)) || ((decide (y16.size ≠ y19.size)) || ((decide (y16.weak ≠ y19.weak)) || (!(decide (y16.refs = y19.refs)))))) by first | (simp only [c24, c27, c30, c33, Bool.true_and, Bool.false_and, Bool.and_true, Bool.and_false, Bool.true_or, Bool.or_true, Bool.false_or, Bool.or_false, Bool.not_true, Bool.not_false]; done) | simp [c24, c27, c30, c33]⟩, ⟨⟨rfl, show Value.bool true = Value.bool ((decide (y16.id ≠ y19.id)) || ((decide (y16.size ≠ y19.size)) || ((decide (y16.weak ≠ y19.weak)) || (!(decide (y16.refs = y19.refs)))))) by first | (simp only [c24, c27, c30, c33, Bool.true_and, Bool.false_and, Bool.and_true, Bool.and_false, Bool.true_or, Bool.or_true, Bool.false_or, Bool.or_false, Bool.not_true, Bool.not_false]; done) | simp [c24, c27, c30, c33]⟩, ⟨⟨rfl, show Value.bool true = Value.bool ((decide (y16.id ≠ y19.id)) || ((decide (y16.size ≠ y19.size)) || ((decide (y16.weak ≠ y19.weak)) || ((!(decide (y16.refs = y19.refs))) || (decide ((y16.ents.length : Int) ≠ (y19.ents.length : Int))))))) by first | (simp only [c24, c27, c30, c33, Bool.true_and, Bool.false_and, Bool.and_true, Bool.and_false, Bool.true_or, Bool.or_true, Bool.false_or, Bool.or_false, Bool.not_true, Bool.not_false]; done) | simp [c24, c27, c30, c33]⟩, trivial⟩⟩⟩⟩⟩⟩⟩⟩⟩⟩⟩⟩⟩⟩⟩⟩⟩⟩⟩⟩⟩⟩⟩⟩⟩⟩⟩⟩⟩⟩⟩⟩⟩⟩) (fun _ h => h.re [0, 0, 0, 0] [])
                  ·
                    have c36 := not_f c33
                    have p37 := of_decide_eq_true c36
                    refine s_lt (t_pure (.pointer (some ⟨g22, 4, none⟩))) ?_
                    refine s_lt (t_load 1 y16.ev.v) ?_
                    refine s_lt (t_len EntT_ok Try.underlying40 (.zn hk18.2)) ?_
                    refine s_lt (t_pure (.pointer (some ⟨g23, 4, none⟩))) ?_
                    refine s_lt (t_load 0 y19.ev.v) ?_
                    refine s_lt (t_len EntT_ok Try.underlying40 (.zn hk21.2)) ?_
                    refine s_lt t_cmp ?_
                    refine s_lt (t_pure (.bool (decide ((y16.ents.length : Int) ≠ (y19.ents.length : Int))))) ?_
                    refine s_nil ?_
                    exact xs_cut () trivial (sub_of rfl ⟨⟨rfl, rfl⟩, ⟨⟨rfl, rfl⟩, ⟨⟨rfl, rfl⟩, ⟨⟨rfl, rfl⟩, ⟨⟨rfl, rfl⟩, ⟨⟨rfl, rfl⟩, ⟨⟨rfl, rfl⟩, ⟨⟨rfl, rfl⟩, ⟨⟨rfl, rfl⟩, ⟨⟨rfl, rfl⟩, ⟨⟨rfl, rfl⟩, ⟨⟨rfl, rfl⟩, ⟨⟨rfl, rfl⟩, ⟨⟨rfl, rfl⟩, ⟨⟨rfl, rfl⟩, ⟨⟨rfl, rfl⟩, ⟨⟨rfl, rfl⟩, ⟨⟨rfl, rfl⟩, ⟨⟨rfl, rfl⟩, ⟨⟨rfl, rfl⟩, ⟨⟨rfl, rfl⟩, ⟨⟨rfl, rfl⟩, ⟨⟨rfl, rfl⟩, ⟨⟨rfl, rfl⟩, ⟨⟨rfl, rfl⟩, ⟨⟨rfl, rfl⟩, ⟨⟨rfl, show Value.bool false = Value.bool (decide (y16.id ≠ y19.id)) by first | (simp only [c24, c27, c30, c33, Bool.true_and, Bool.false_and, Bool.and_true, Bool.and_false, Bool.true_or, Bool.or_true, Bool.false_or, Bool.or_false, Bool.not_true, Bool.not_false]; done) | simp [c24, c27, c30, c33]⟩, ⟨⟨rfl, show Value.bool (decide (y16.size ≠ y19.size)) = Value.bool ((decide (y16.id ≠ y19.id)) || (decide (y16.size ≠ y19.size))) by first | (simp only [c24, c27, c30, c33, Bool.true_and, Bool.false_and, Bool.and_true, Bool.and_false, Bool.true_or, Bool.or_true, Bool.false_or, Bool.or_false, Bool.not_true, Bool.not_false]; done) | simp [c24, c27, c30, c33]⟩, ⟨⟨rfl, show Value.bool false = Value.bool ((decide (y16.id ≠ y19.id)) || (decide (y16.size ≠ y19.size))) by first | (simp only [c24, c27, c30, c33, Bool.true_and, Bool.false_and, Bool.and_true, Bool.and_false, Bool.true_or, Bool.or_true, Bool.false_or, Bool.or_false, Bool.not_true, Bool.not_false]; done) | simp [c24, c27, c30, c33]⟩, ⟨⟨rfl, show Value.bool (decide (y16.weak ≠ y19.weak)) = Value.bool ((decide (y16.id ≠ y19.id)) || ((decide (y16.size ≠ y19.size)) || (decide (y16.weak ≠ y19.weak)))) by first | (simp only [c24, c27, c30, c33, Bool.true_and, Bool.false_and, Bool.and_true, Bool.and_false, Bool.true_or, Bool.or_true, Bool.false_or, Bool.or_false, Bool.not_true, Bool.not_false]; done) | simp [c24, c27, c30, c33]⟩, ⟨⟨rfl, show Value.bool false = Value.bool ((decide (y16.id ≠ y19.id)) || ((decide (y16.size ≠ y19.size)) || (decide (y16.weak ≠ y19.weak)))) by first | (simp only [c24, c27, c30, c33, Bool.true_and, Bool.false_and, Bool.and_true, Bool.and_false, Bool.true_or, Bool.or_true, Bool.false_or, Bool.or_false, Bool.not_true, Bool.not_false]; done) | simp [c24, c27, c30, c33]⟩, ⟨⟨rfl, show Value.bool (!(decide (y16.refs = y19.refs))) = Value.bool ((decide (y16.id ≠ y19.id)) || ((decide (y16.size ≠ y19.size)) || ((decide (y16.weak ≠ y19.weak)) || (!(decide (y16.refs = y19.refs)))))) by first | (simp only [c24, c27, c30, c33, Bool.true_and, Bool.false_and, Bool.and_true, Bool.and_false, Bool.true_or, Bool.or_true, Bool.false_or, Bool.or_false, Bool.not_true, Bool.not_false]; done) | simp [c24, c27, c30, c33]⟩, ⟨⟨rfl, show Value.bool false = Value.bool ((decide (y16.id ≠ y19.id)) || ((decide (y16.size ≠ y19.size)) || ((decide (y16.weak ≠ y19.weak)) || (!(decide (y16.refs = y19.refs)))))) by first | (simp only [c24, c27, c30, c33, Bool.true_and, Bool.false_and, Bool.and_true, Bool.and_false, Bool.true_or, Bool.or_true, Bool.false_or, Bool.or_false, Bool.not_true, Bool.not_false]; done) | simp [c24, c27, c30, c33]⟩, ⟨⟨rfl, show Value.bool (decide ((y16.ents.length : Int) ≠ (y19.ents.length : Int))) = Value.bool ((decide (y16.id ≠ y19.id)) || ((decide (y16.size ≠ y19.size)) || ((decide (y16.weak ≠ y19.weak)) || ((!(decide (y16.refs = y19.refs))) || (decide ((y16.ents.length : Int) ≠ (y19.ents.length : Int))))))) by first | (simp only [c24, c27, c30, c33, Bool.true_and, Bool.false_and, Bool.and_true, Bool.and_false, Bool.true_or, Bool.or_true, Bool.false_or, Bool.or_false, Bool.not_true, Bool.not_false]; done) | simp [c24, c27, c30, c33]⟩, trivial⟩⟩⟩⟩⟩⟩⟩⟩⟩⟩⟩⟩⟩⟩⟩⟩⟩⟩⟩⟩⟩⟩⟩⟩⟩⟩⟩⟩⟩⟩⟩⟩⟩⟩) (fun _ h => h.re [0, 0, 0, 0] [])
          ·
            refine k_cond ((decide (y16.id ≠ y19.id)) || ((decide (y16.size ≠ y19.size)) || ((decide (y16.weak ≠ y19.weak)) || ((!(decide (y16.refs = y19.refs))) || (decide ((y16.ents.length : Int) ≠ (y19.ents.length : Int))))))) (fun c38 => ?_) (fun c38 => ?_)
            ·
              have p39 := c38
              simp only [Bool.and_eq_true, Bool.or_eq_true, Bool.and_eq_false_iff, Bool.or_eq_false_iff, Bool.not_eq_true', Bool.not_eq_false', decide_eq_true_eq, decide_eq_false_iff_not] at p39
              refine k_seq ?_
              refine k_reg ?_
              refine s_lt (t_pure (.bool false)) ?_
              refine s_nil ?_
              refine xs_then ?_
              refine k_ret ?_
              refine xs_ret ?_
              refine xs_retBlock ?_
              refine xs_ret ?_
              refine xs_ret ?_
              refine xs_retBlock ?_
              refine xs_ret ?_
              refine xs_fin [.bool false] [] (SI.tmp 4 SI.nil) (fun _ h => h.re [] [0, 0, 0, 0]) ⟨congrArg Value.bool ?_, rfl⟩
              refine (decide_eq_false fun h => c_ne hy17 hy20 (fun hc => ?_) h.1).symm
              have q := p39
              simp only [Ob.c, Prod.mk.injEq] at hc; obtain ⟨c1, c2, c3, c4, c5⟩ := hc
              simp [c1, c2, c3, c4, c5] at q
            ·
              obtain ⟨c40, c41⟩ := or_f c38
              have p42 := Decidable.not_not.1 (of_decide_eq_false c40)
              obtain ⟨c43, c44⟩ := or_f c41
              have p45 := Decidable.not_not.1 (of_decide_eq_false c43)
              obtain ⟨c46, c47⟩ := or_f c44
              have p48 := Decidable.not_not.1 (of_decide_eq_false c46)
              obtain ⟨c49, c50⟩ := or_f c47
              have c51 := not_f c49
              have p52 := of_decide_eq_true c51
              have p53 := Decidable.not_not.1 (of_decide_eq_false c50)
              refine k_skip ?_
              refine xs_then ?_
              refine k_seq ?_
              refine k_reg ?_
              refine s_lt (t_pure (.int .i64 0)) ?_
              refine s_nil ?_
              refine xs_then ?_
              refine k_block ?_
              refine k_fact (fun H h => (hk18.2.get h).len_le) (fun le => ?_)
              refine k_loop (ι := Nat) (fun k => k ≤ y16.ents.length ∧ y16.ents.take k = y19.ents.take k) (fun k => [(2, .pointer (some ⟨g1, 0, none⟩)), (3, .pointer (some ⟨g2, 0, none⟩)), (4, .bool false), (5, .int .i64 (i : Int)), (6, .pointer (some ⟨g22, 0, none⟩)), (7, .pointer (some ⟨g23, 0, none⟩)), (8, .int .i64 (k : Int)), (24, .int .i64 (i : Int)), (25, .pointer (some ⟨g1, 0, none⟩)), (26, ov), (27, .int .i64 (l.length : Int)), (28, .bool (decide ((i : Int) < (l.length : Int)))), (31, .pointer (some ⟨g1, 0, none⟩)), (32, ov), (33, .int .i64 (i : Int)), (34, .pointer (some (elemAt ObT.size ov i))), (35, .agg #[.int .i64 y16.id, .int .i64 y16.size, .int .i64 y16.weak, y16.rv.v, y16.ev.v]), (36, .pointer (some ⟨g2, 0, none⟩)), (37, ov'), (38, .int .i64 (i : Int)), (39, .pointer (some (elemAt ObT.size ov' i))), (40, .agg #[.int .i64 y19.id, .int .i64 y19.size, .int .i64 y19.weak, y19.rv.v, y19.ev.v]), (41, .pointer (some ⟨g22, 0, none⟩)), (42, .int .i64 y16.id), (43, .pointer (some ⟨g23, 0, none⟩)), (44, .int .i64 y19.id), (45, .bool (decide (y16.id ≠ y19.id))), (46, .bool (decide (y16.id ≠ y19.id))), (52, .bool ((decide (y16.id ≠ y19.id)) || (decide (y16.size ≠ y19.size)))), (53, .bool ((decide (y16.id ≠ y19.id)) || (decide (y16.size ≠ y19.size)))), (59, .bool ((decide (y16.id ≠ y19.id)) || ((decide (y16.size ≠ y19.size)) || (decide (y16.weak ≠ y19.weak))))), (60, .bool ((decide (y16.id ≠ y19.id)) || ((decide (y16.size ≠ y19.size)) || (decide (y16.weak ≠ y19.weak))))), (67, .bool ((decide (y16.id ≠ y19.id)) || ((decide (y16.size ≠ y19.size)) || ((decide (y16.weak ≠ y19.weak)) || (!(decide (y16.refs = y19.refs))))))), (68, .bool ((decide (y16.id ≠ y19.id)) || ((decide (y16.size ≠ y19.size)) || ((decide (y16.weak ≠ y19.weak)) || (!(decide (y16.refs = y19.refs))))))), (76, .bool ((decide (y16.id ≠ y19.id)) || ((decide (y16.size ≠ y19.size)) || ((decide (y16.weak ≠ y19.weak)) || ((!(decide (y16.refs = y19.refs))) || (decide ((y16.ents.length : Int) ≠ (y19.ents.length : Int))))))))]) (fun k => [blkA g23 #[.int .i64 y19.id, .int .i64 y19.size, .int .i64 y19.weak, y19.rv.v, y19.ev.v] 42, blkA g22 #[.int .i64 y16.id, .int .i64 y16.size, .int .i64 y16.weak, y16.rv.v, y16.ev.v] 42, blkA g2 #[ov', rv'] 25, blkA g1 #[ov, rv] 25]) (fun k => y16.ents.length - k) 0 ⟨Nat.zero_le _, rfl⟩ (sub_of rfl ⟨⟨rfl, rfl⟩, ⟨⟨rfl, rfl⟩, ⟨⟨rfl, rfl⟩, ⟨⟨rfl, rfl⟩, ⟨⟨rfl, rfl⟩, ⟨⟨rfl, rfl⟩, ⟨⟨rfl, rfl⟩, ⟨⟨rfl, rfl⟩, ⟨⟨rfl, rfl⟩, ⟨⟨rfl, rfl⟩, ⟨⟨rfl, rfl⟩, ⟨⟨rfl, rfl⟩, ⟨⟨rfl, rfl⟩, ⟨⟨rfl, rfl⟩, ⟨⟨rfl, rfl⟩, ⟨⟨rfl, rfl⟩, ⟨⟨rfl, rfl⟩, ⟨⟨rfl, rfl⟩, ⟨⟨rfl, rfl⟩, ⟨⟨rfl, rfl⟩, ⟨⟨rfl, rfl⟩, ⟨⟨rfl, rfl⟩, ⟨⟨rfl, rfl⟩, ⟨⟨rfl, rfl⟩, ⟨⟨rfl, rfl⟩, ⟨⟨rfl, rfl⟩, ⟨⟨rfl, rfl⟩, ⟨⟨rfl, rfl⟩, ⟨⟨rfl, rfl⟩, ⟨⟨rfl, rfl⟩, ⟨⟨rfl, rfl⟩, ⟨⟨rfl, rfl⟩, ⟨⟨rfl, rfl⟩, ⟨⟨rfl, rfl⟩, ⟨⟨rfl, rfl⟩, trivial⟩⟩⟩⟩⟩⟩⟩⟩⟩⟩⟩⟩⟩⟩⟩⟩⟩⟩⟩⟩⟩⟩⟩⟩⟩⟩⟩⟩⟩⟩⟩⟩⟩⟩⟩) (fun _ h => h.re [0, 0, 0, 0] []) ?_
              rintro k hi54
              show SK _ _ _ _ _ [(2, .pointer (some ⟨g1, 0, none⟩)), (3, .pointer (some ⟨g2, 0, none⟩)), (4, .bool false), (5, .int .i64 (i : Int)), (6, .pointer (some ⟨g22, 0, none⟩)), (7, .pointer (some ⟨g23, 0, none⟩)), (8, .int .i64 (k : Int)), (24, .int .i64 (i : Int)), (25, .pointer (some ⟨g1, 0, none⟩)), (26, ov), (27, .int .i64 (l.length : Int)), (28, .bool (decide ((i : Int) < (l.length : Int)))), (31, .pointer (some ⟨g1, 0, none⟩)), (32, ov), (33, .int .i64 (i : Int)), (34, .pointer (some (elemAt ObT.size ov i))), (35, .agg #[.int .i64 y16.id, .int .i64 y16.size, .int .i64 y16.weak, y16.rv.v, y16.ev.v]), (36, .pointer (some ⟨g2, 0, none⟩)), (37, ov'), (38, .int .i64 (i : Int)), (39, .pointer (some (elemAt ObT.size ov' i))), (40, .agg #[.int .i64 y19.id, .int .i64 y19.size, .int .i64 y19.weak, y19.rv.v, y19.ev.v]), (41, .pointer (some ⟨g22, 0, none⟩)), (42, .int .i64 y16.id), (43, .pointer (some ⟨g23, 0, none⟩)), (44, .int .i64 y19.id), (45, .bool (decide (y16.id ≠ y19.id))), (46, .bool (decide (y16.id ≠ y19.id))), (52, .bool ((decide (y16.id ≠ y19.id)) || (decide (y16.size ≠ y19.size)))), (53, .bool ((decide (y16.id ≠ y19.id)) || (decide (y16.size ≠ y19.size)))), (59, .bool ((decide (y16.id ≠ y19.id)) || ((decide (y16.size ≠ y19.size)) || (decide (y16.weak ≠ y19.weak))))), (60, .bool ((decide (y16.id ≠ y19.id)) || ((decide (y16.size ≠ y19.size)) || (decide (y16.weak ≠ y19.weak))))), (67, .bool ((decide (y16.id ≠ y19.id)) || ((decide (y16.size ≠ y19.size)) || ((decide (y16.weak ≠ y19.weak)) || (!(decide (y16.refs = y19.refs))))))), (68, .bool ((decide (y16.id ≠ y19.id)) || ((decide (y16.size ≠ y19.size)) || ((decide (y16.weak ≠ y19.weak)) || (!(decide (y16.refs = y19.refs))))))), (76, .bool ((decide (y16.id ≠ y19.id)) || ((decide (y16.size ≠ y19.size)) || ((decide (y16.weak ≠ y19.weak)) || ((!(decide (y16.refs = y19.refs))) || (decide ((y16.ents.length : Int) ≠ (y19.ents.length : Int))))))))] _ [blkA g23 #[.int .i64 y19.id, .int .i64 y19.size, .int .i64 y19.weak, y19.rv.v, y19.ev.v] 42, blkA g22 #[.int .i64 y16.id, .int .i64 y16.size, .int .i64 y16.weak, y16.rv.v, y16.ev.v] 42, blkA g2 #[ov', rv'] 25, blkA g1 #[ov, rv] 25]
              refine k_seq ?_
              refine k_seq ?_
              refine k_reg ?_
              refine s_lt (t_pure (.int .i64 (k : Int))) ?_
              refine s_lt (t_pure (.pointer (some ⟨g22, 4, none⟩))) ?_
              refine s_lt (t_load 1 y16.ev.v) ?_
              refine s_lt (t_len EntT_ok Try.underlying40 (.zn hk18.2)) ?_
              refine s_lt t_cmp ?_
              refine s_nil ?_
              refine xs_then ?_
              refine k_cond (decide ((k : Int) < (y16.ents.length : Int))) (fun c55 => ?_) (fun c55 => ?_)
              ·
                have p56 := of_decide_eq_true c55
                refine k_skip ?_
                refine xs_then ?_
                refine k_seq ?_
                refine k_block ?_
                refine k_seq ?_
                refine k_draw ?_
                refine s_lt (t_pure (.pointer (some ⟨g22, 4, none⟩))) ?_
                refine s_lt (t_load 1 y16.ev.v) ?_
                refine s_lt (t_pure (.int .i64 (k : Int))) ?_
                refine s_lt (t_index EntT_ok Try.underlying40 (.zn hk18.2) (k : Int) k (by omega) (by (try simp only [List.length_nil, List.length_cons, List.length_append, List.length_take, List.length_drop, List.length_set, List.length_replicate, List.length_reverse]); omega) (by omega)) ?_
                obtain ⟨y57, hy58⟩ : ∃ y, y16.ents[k]? = some y := ⟨_, List.getElem?_eq_getElem (by (try simp only [List.length_nil, List.length_cons, List.length_append, List.length_take, List.length_drop, List.length_set, List.length_replicate, List.length_reverse]); omega)⟩
                refine s_lt (t_loadE EntT_ok (.zn hk18.2) hy58) ?_
                refine s_lt (t_pure (.pointer (some ⟨g23, 4, none⟩))) ?_
                refine s_lt (t_load 0 y19.ev.v) ?_
                refine s_lt (t_pure (.int .i64 (k : Int))) ?_
                refine s_lt (t_index EntT_ok Try.underlying40 (.zn hk21.2) (k : Int) k (by omega) (by (try simp only [List.length_nil, List.length_cons, List.length_append, List.length_take, List.length_drop, List.length_set, List.length_replicate, List.length_reverse]); omega) (by omega)) ?_
                obtain ⟨y59, hy60⟩ : ∃ y, y19.ents[k]? = some y := ⟨_, List.getElem?_eq_getElem (by (try simp only [List.length_nil, List.length_cons, List.length_append, List.length_take, List.length_drop, List.length_set, List.length_replicate, List.length_reverse]); omega)⟩
                refine s_lt (t_loadE EntT_ok (.zn hk21.2) hy60) ?_
                refine s_lt (t_eqS (fun w => (eqEntT y57 y59 w).2)) ?_
                refine s_nil ?_
                refine x_dynS (fun _ h => by kernel_rfl) ?_
                refine xs_then ?_
                refine k_cond (!(decide (y57 = y59))) (fun c61 => ?_) (fun c61 => ?_)
                ·
                  have c62 := not_t c61
                  have p63 := of_decide_eq_false c62
                  refine k_seq ?_
                  refine k_reg ?_
                  refine s_lt (t_pure (.bool false)) ?_
                  refine s_nil ?_
                  refine xs_then ?_
                  refine k_ret ?_
                  refine xs_retBlock ?_
                  refine xs_ret ?_
                  refine xs_ret ?_
                  refine xs_retBlock ?_
                  refine xs_retBlock ?_
                  refine xs_ret ?_
                  refine xs_ret ?_
                  refine xs_retBlock ?_
                  refine xs_ret ?_
                  refine xs_fin [.bool false] [] (SI.tmp 4 SI.nil) (fun _ h => h.re [] [0, 0, 0, 0]) ⟨congrArg Value.bool ?_, rfl⟩
                  exact (decide_eq_false fun h => c_ne hy17 hy20 (fun hc => ne_of_get hy58 hy60 p63 (congrArg (fun q => q.2.2.2.2) hc)) h.1).symm
                ·
                  have c64 := not_f c61
                  have p65 := of_decide_eq_true c64
                  refine k_skip ?_
                  refine xs_block ?_
                  refine xs_then ?_
                  refine k_reg ?_
                  refine s_lt (t_pure (.int .i64 (k : Int))) ?_
                  refine s_lt (t_add (k : Int) 1 (by (try simp only [List.length_nil, List.length_cons, List.length_append, List.length_take, List.length_drop, List.length_set, List.length_replicate, List.length_reverse]); omega)) ?_
                  refine s_lt (t_pure (.int .i64 ((k : Int) + 1))) ?_
                  refine s_nil ?_
                  exact xs_round (k + 1) (by omega) (by obtain ⟨hk1, hk2⟩ := hi54; exact ⟨by omega, take_eq_succ hk2 hy58 hy60 p65⟩) (sub_of rfl ⟨⟨rfl, rfl⟩, ⟨⟨rfl, rfl⟩, ⟨⟨rfl, rfl⟩, ⟨⟨rfl, rfl⟩, ⟨⟨rfl, rfl⟩, ⟨⟨rfl, rfl⟩, ⟨⟨rfl, rfl⟩, ⟨⟨rfl, rfl⟩, ⟨⟨rfl, rfl⟩, ⟨⟨rfl, rfl⟩, ⟨⟨rfl, rfl⟩, ⟨⟨rfl, rfl⟩, ⟨⟨rfl, rfl⟩, ⟨⟨rfl, rfl⟩, ⟨⟨rfl, rfl⟩, ⟨⟨rfl, rfl⟩, ⟨⟨rfl, rfl⟩, ⟨⟨rfl, rfl⟩, ⟨⟨rfl, rfl⟩, ⟨⟨rfl, rfl⟩, ⟨⟨rfl, rfl⟩, ⟨⟨rfl, rfl⟩, ⟨⟨rfl, rfl⟩, ⟨⟨rfl, rfl⟩, ⟨⟨rfl, rfl⟩, ⟨⟨rfl, rfl⟩, ⟨⟨rfl, rfl⟩, ⟨⟨rfl, rfl⟩, ⟨⟨rfl, rfl⟩, ⟨⟨rfl, rfl⟩, ⟨⟨rfl, rfl⟩, ⟨⟨rfl, rfl⟩, ⟨⟨rfl, rfl⟩, ⟨⟨rfl, rfl⟩, ⟨⟨rfl, rfl⟩, trivial⟩⟩⟩⟩⟩⟩⟩⟩⟩⟩⟩⟩⟩⟩⟩⟩⟩⟩⟩⟩⟩⟩⟩⟩⟩⟩⟩⟩⟩⟩⟩⟩⟩⟩⟩) (fun _ h => h.re [0, 0, 0, 0] [])
              ·
                have p66 := of_decide_eq_false c55
                refine k_exit ?_
                have hents : y16.ents = y19.ents := take_all hi54.2 (by omega) (by omega)
                have hcore : y16.c = y19.c := by simp only [Ob.c, hents, p10, p12, p15, p42, p45, p48, p52, p53]
                refine xs_exit ?_
                refine xs_exit ?_
                refine xs_here ?_
                refine xs_block ?_
                refine xs_then ?_
                refine k_reg ?_
                refine s_lt (t_pure (.int .i64 (i : Int))) ?_
                refine s_lt (t_add (i : Int) 1 (by (try simp only [List.length_nil, List.length_cons, List.length_append, List.length_take, List.length_drop, List.length_set, List.length_replicate, List.length_reverse]); omega)) ?_
                refine s_lt (t_pure (.int .i64 ((i : Int) + 1))) ?_
                refine s_nil ?_
                exact xs_round (i + 1) (by omega) (by obtain ⟨hi1, hi2⟩ := hi13; exact ⟨by omega, c_succ hi2 hy17 hy20 hcore⟩) (sub_of rfl ⟨⟨rfl, rfl⟩, ⟨⟨rfl, rfl⟩, ⟨⟨rfl, rfl⟩, ⟨⟨rfl, rfl⟩, trivial⟩⟩⟩⟩) (fun _ h => h.re [2, 2] [2, 2])
        ·
          refine s_alloc (.agg #[.int .i64 0, .int .i64 0, .int .i64 0, (.slice none 0 0), (.slice none 0 0)]) #[.int .i64 0, .int .i64 0, .int .i64 0, (.slice none 0 0), (.slice none 0 0)] (fun g67 => ?_)
          refine s_nil (xs_held [1, 1] ?_)
          refine h_stepS 10 ?_
          refine s_alloc (.agg #[.int .i64 0, .int .i64 0, .int .i64 0, (.slice none 0 0), (.slice none 0 0)]) #[.int .i64 0, .int .i64 0, .int .i64 0, (.slice none 0 0), (.slice none 0 0)] (fun g68 => ?_)
          refine s_nil (xs_held [2, 2] ?_)
          refine h_stepS 12 ?_
          refine s_store 0 #[.int .i64 y16.id, .int .i64 y16.size, .int .i64 y16.weak, y16.rv.v, y16.ev.v] ?_
          refine s_nil (xs_held [2, 2] ?_)
          refine h_stepS 13 ?_
          refine s_store 1 #[.int .i64 y19.id, .int .i64 y19.size, .int .i64 y19.weak, y19.rv.v, y19.ev.v] ?_
          refine s_nil (xs_held [2, 2] ?_)
          refine h_doneS ?_
          refine xs_then ?_
          refine k_seq ?_
          refine k_cut (ι := Unit) (fun _ => True) (fun _ => [(2, .pointer (some ⟨g1, 0, none⟩)), (3, .pointer (some ⟨g2, 0, none⟩)), (4, .bool false), (5, .int .i64 (i : Int)), (6, .pointer (some ⟨g68, 0, none⟩)), (7, .pointer (some ⟨g67, 0, none⟩)), (24, .int .i64 (i : Int)), (25, .pointer (some ⟨g1, 0, none⟩)), (26, ov), (27, .int .i64 (l.length : Int)), (28, .bool (decide ((i : Int) < (l.length : Int)))), (31, .pointer (some ⟨g1, 0, none⟩)), (32, ov), (33, .int .i64 (i : Int)), (34, .pointer (some (elemAt ObT.size ov i))), (35, .agg #[.int .i64 y16.id, .int .i64 y16.size, .int .i64 y16.weak, y16.rv.v, y16.ev.v]), (36, .pointer (some ⟨g2, 0, none⟩)), (37, ov'), (38, .int .i64 (i : Int)), (39, .pointer (some (elemAt ObT.size ov' i))), (40, .agg #[.int .i64 y19.id, .int .i64 y19.size, .int .i64 y19.weak, y19.rv.v, y19.ev.v]), (41, .pointer (some ⟨g68, 0, none⟩)), (42, .int .i64 y16.id), (43, .pointer (some ⟨g67, 0, none⟩)), (44, .int .i64 y19.id), (45, .bool (decide (y16.id ≠ y19.id))), (46, .bool (decide (y16.id ≠ y19.id))), (52, .bool ((decide (y16.id ≠ y19.id)) || (decide (y16.size ≠ y19.size)))), (53, .bool ((decide (y16.id ≠ y19.id)) || (decide (y16.size ≠ y19.size)))), (59, .bool ((decide (y16.id ≠ y19.id)) || ((decide (y16.size ≠ y19.size)) || (decide (y16.weak ≠ y19.weak))))), (60, .bool ((decide (y16.id ≠ y19.id)) || ((decide (y16.size ≠ y19.size)) || (decide (y16.weak ≠ y19.weak))))), (67, .bool ((decide (y16.id ≠ y19.id)) || ((decide (y16.size ≠ y19.size)) || ((decide (y16.weak ≠ y19.weak)) || (!(decide (y16.refs = y19.refs))))))), (68, .bool ((decide (y16.id ≠ y19.id)) || ((decide (y16.size ≠ y19.size)) || ((decide (y16.weak ≠ y19.weak)) || (!(decide (y16.refs = y19.refs))))))), (76, .bool ((decide (y16.id ≠ y19.id)) || ((decide (y16.size ≠ y19.size)) || ((decide (y16.weak ≠ y19.weak)) || ((!(decide (y16.refs = y19.refs))) || (decide ((y16.ents.length : Int) ≠ (y19.ents.length : Int))))))))]) (fun _ => [blkA g68 #[.int .i64 y16.id, .int .i64 y16.size, .int .i64 y16.weak, y16.rv.v, y16.ev.v] 42, blkA g67 #[.int .i64 y19.id, .int .i64 y19.size, .int .i64 y19.weak, y19.rv.v, y19.ev.v] 42, blkA g2 #[ov', rv'] 25, blkA g1 #[ov, rv] 25]) ?_ (fun _ _ => ?_)
          ·
            refine k_reg ?_
            refine s_lt (t_pure (.pointer (some ⟨g68, 0, none⟩))) ?_
            refine s_lt (t_load 0 (.int .i64 y16.id)) ?_
            refine s_lt (t_pure (.pointer (some ⟨g67, 0, none⟩))) ?_
            refine s_lt (t_load 1 (.int .i64 y19.id)) ?_
            refine s_lt t_cmp ?_
            refine s_lt (t_pure (.bool (decide (y16.id ≠ y19.id)))) ?_
            refine s_fork 46 (decide (y16.id ≠ y19.id)) (fun c69 => ?_) (fun c69 => ?_)
            ·
              have p70 := of_decide_eq_true c69
              refine s_skip ?_
              refine s_skip ?_
              refine s_skip ?_
              refine s_skip ?_
              refine s_skip ?_
              refine s_lt (t_pure (.bool true)) ?_
              refine s_lt (t_pure (.bool true)) ?_
              refine s_skip ?_
              refine s_skip ?_
              refine s_skip ?_
              refine s_skip ?_
              refine s_skip ?_
              refine s_lt (t_pure (.bool true)) ?_
              refine s_lt (t_pure (.bool true)) ?_
              refine s_skip ?_
              refine s_skip ?_
              refine s_skip ?_
              refine s_skip ?_
              refine s_skip ?_
              refine s_skip ?_
              refine s_lt (t_pure (.bool true)) ?_
              refine s_lt (t_pure (.bool true)) ?_
              refine s_skip ?_
              refine s_skip ?_
              refine s_skip ?_
              refine s_skip ?_
              refine s_skip ?_
              refine s_skip ?_
              refine s_skip ?_
              refine s_lt (t_pure (.bool true)) ?_
              refine s_nil ?_
              exact xs_cut () trivial (sub_of rfl ⟨⟨rfl, rfl⟩, ⟨⟨rfl, rfl⟩, ⟨⟨rfl, rfl⟩, ⟨⟨rfl, rfl⟩, ⟨⟨rfl, rfl⟩, ⟨⟨rfl, rfl⟩, ⟨⟨rfl, rfl⟩, ⟨⟨rfl, rfl⟩, ⟨⟨rfl, rfl⟩, ⟨⟨rfl, rfl⟩, ⟨⟨rfl, rfl⟩, ⟨⟨rfl, rfl⟩, ⟨⟨rfl, rfl⟩, ⟨⟨rfl, rfl⟩, ⟨⟨rfl, rfl⟩, ⟨⟨rfl, rfl⟩, ⟨⟨rfl, rfl⟩, ⟨⟨rfl, rfl⟩, ⟨⟨rfl, rfl⟩, ⟨⟨rfl, rfl⟩, ⟨⟨rfl, rfl⟩, ⟨⟨rfl, rfl⟩, ⟨⟨rfl, rfl⟩, ⟨⟨rfl, rfl⟩, ⟨⟨rfl, rfl⟩, ⟨⟨rfl, rfl⟩, ⟨⟨rfl, show Value.bool true = Value.bool (decide (y16.id ≠ y19.id)) by first | (simp only [c69, Bool.true_and, Bool.false_and, Bool.and_true, Bool.and_false, Bool.true_or, Bool.or_true, Bool.false_or, Bool.or_false, Bool.not_true, Bool.not_false]; done) | simp [c69]⟩, ⟨⟨rfl, show Value.bool true = Value.bool ((decide (y16.id ≠ y19.id)) || (decide (y16.size ≠ y19.size))) by first | (simp only [c69, Bool.true_and, Bool.false_and, Bool.and_true, Bool.and_false, Bool.true_or, Bool.or_true, Bool.false_or, Bool.or_false, Bool.not_true, Bool.not_false]; done) | simp [c69]⟩, ⟨⟨rfl, show Value.bool true = Value.bool ((decide (y16.id ≠ y19.id)) || (decide (y16.size ≠ y19.size))) by first | (simp only [c69, Bool.true_and, Bool.false_and, Bool.and_true, Bool.and_false, Bool.true_or, Bool.or_true, Bool.false_or, Bool.or_false, Bool.not_true, Bool.not_false]; done) | simp [c69]⟩, ⟨⟨rfl, show Value.bool true = Value.bool ((decide (y16.id ≠ y19.id)) || ((decide (y16.size ≠ y19.size)) || (decide (y16.weak ≠ y19.weak)))) by first | (simp only [c69, Bool.true_and, Bool.false_and, Bool.and_true, Bool.and_false, Bool.true_or, Bool.or_true, Bool.false_or, Bool.or_false, Bool.not_true, Bool.not_false]; done) | simp [c69]⟩, ⟨⟨rfl, show Value.bool true = Value.bool ((decide (y16.id ≠ y19.id)) || ((decide (y16.size ≠ y19.size)) || (decide (y16.weak ≠ y19.weak)))) by first | (simp only [c69, Bool.true_and, Bool.false_and, Bool.and_true, Bool.and_false, Bool.true_or, Bool.or_true, Bool.false_or, Bool.or_false, Bool.not_true, Bool.not_false]; done) | simp [c69]⟩, ⟨⟨rfl, show Value.bool true = Value.bool ((decide (y16.id ≠ y19.id)) || ((decide (y16.size ≠ y19.size)) || ((decide (y16.weak ≠ y19.weak)) || (!(decide (y16.refs = y19.refs)))))) by first | (simp only [c69, Bool.true_and, Bool.false_and, Bool.and_true, Bool.and_false, Bool.true_or, Bool.or_true, Bool.false_or, Bool.or_false, Bool.not_true, Bool.not_false]; done) | simp [c69]⟩, ⟨⟨rfl, show Value.bool true = Value.bool ((decide (y16.id ≠ y19.id)) || ((decide (y16.size ≠ y19.size)) || ((decide (y16.weak ≠ y19.weak)) || (!(decide (y16.refs = y19.refs)))))) by first | (simp only [c69, Bool.true_and, Bool.false_and, Bool.and_true, Bool.and_false, Bool.true_or, Bool.or_true, Bool.false_or, Bool.or_false, Bool.not_true, Bool.not_false]; done) | simp [c69]⟩, ⟨⟨rfl, show Value.bool true = Value.bool ((decide (y16.id ≠ y19.id)) || ((decide (y16.size ≠ y19.size)) || ((decide (y16.weak ≠ y19.weak)) || ((!(decide (y16.refs = y19.refs))) || (decide ((y16.ents.length : Int) ≠ (y19.ents.length : Int))))))) by first | (simp only [c69, Bool.true_and, Bool.false_and, Bool.and_true, Bool.and_false, Bool.true_or, Bool.or_true, Bool.false_or, Bool.or_false, Bool.not_true, Bool.not_false]; done) | simp [c69]⟩, trivial⟩⟩⟩⟩⟩⟩⟩⟩⟩⟩⟩⟩⟩⟩⟩⟩⟩⟩⟩⟩⟩⟩⟩⟩⟩⟩⟩⟩⟩⟩⟩⟩⟩⟩) (fun _ h => h.re [0, 0, 0, 0] [])
            ·
              have p71 := Decidable.not_not.1 (of_decide_eq_false c69)
              refine s_lt (t_pure (.pointer (some ⟨g68, 1, none⟩))) ?_
              refine s_lt (t_load 0 (.int .i64 y16.size)) ?_
              refine s_lt (t_pure (.pointer (some ⟨g67, 1, none⟩))) ?_
              refine s_lt (t_load 1 (.int .i64 y19.size)) ?_
              refine s_lt t_cmp ?_
              refine s_lt (t_pure (.bool (decide (y16.size ≠ y19.size)))) ?_
              refine s_lt (t_pure (.bool (decide (y16.size ≠ y19.size)))) ?_
              refine s_fork 53 (decide (y16.size ≠ y19.size)) (fun c72 => ?_) (fun c72 => ?_)
              ·
                have p73 := of_decide_eq_true c72
                refine s_skip ?_
                refine s_skip ?_
                refine s_skip ?_
                refine s_skip ?_
                refine s_skip ?_
                refine s_lt (t_pure (.bool true)) ?_
                refine s_lt (t_pure (.bool true)) ?_
                refine s_skip ?_
                refine s_skip ?_
                refine s_skip ?_
                refine s_skip ?_
                refine s_skip ?_
                refine s_skip ?_
                refine s_lt (t_pure (.bool true)) ?_
                refine s_lt (t_pure (.bool true)) ?_
                refine s_skip ?_
                refine s_skip ?_
                refine s_skip ?_
                refine s_skip ?_
                refine s_skip ?_
                refine s_skip ?_
                refine s_skip ?_
                refine s_lt (t_pure (.bool true)) ?_
                refine s_nil ?_
                exact xs_cut () trivial (sub_of rfl ⟨⟨rfl, rfl⟩, ⟨⟨rfl, rfl⟩, ⟨⟨rfl, rfl⟩, ⟨⟨rfl, rfl⟩, ⟨⟨rfl, rfl⟩, ⟨⟨rfl, rfl⟩, ⟨⟨rfl, rfl⟩, ⟨⟨rfl, rfl⟩, ⟨⟨rfl, rfl⟩, ⟨⟨rfl, rfl⟩, ⟨⟨rfl, rfl⟩, ⟨⟨rfl, rfl⟩, ⟨⟨rfl, rfl⟩, ⟨⟨rfl, rfl⟩, ⟨⟨rfl, rfl⟩, ⟨⟨rfl, rfl⟩, ⟨⟨rfl, rfl⟩, ⟨⟨rfl, rfl⟩, ⟨⟨rfl, rfl⟩, ⟨⟨rfl, rfl⟩, ⟨⟨rfl, rfl⟩, ⟨⟨rfl, rfl⟩, ⟨⟨rfl, rfl⟩, ⟨⟨rfl, rfl⟩, ⟨⟨rfl, rfl⟩, ⟨⟨rfl, rfl⟩, ⟨⟨rfl, show Value.bool false = Value.bool (decide (y16.id ≠ y19.id)) by first | (simp only [c69, c72, Bool.true_and, Bool.false_and, Bool.and_true, Bool.and_false, Bool.true_or, Bool.or_true, Bool.false_or, Bool.or_false, Bool.not_true, Bool.not_false]; done) | simp [c69, c72]⟩, ⟨⟨rfl, show Value.bool (decide (y16.size ≠ y19.size)) = Value.bool ((decide (y16.id ≠ y19.id)) || (decide (y16.size ≠ y19.size))) by first | (simp only [c69, c72, Bool.true_and, Bool.false_and, Bool.and_true, Bool.and_false, Bool.true_or, Bool.or_true, Bool.false_or, Bool.or_false, Bool.not_true, Bool.not_false]; done) | simp [c69, c72]⟩, ⟨⟨rfl, show Value.bool true = Value.bool ((decide (y16.id ≠ y19.id)) || (decide (y16.size ≠ y19.size))) by first | (simp only [c69, c72, Bool.true_and, Bool.false_and, Bool.and_true, Bool.and_false, Bool.true_or, Bool.or_true, Bool.false_or, Bool.or_false, Bool.not_true, Bool.not_false]; done) | simp [c69, c72]⟩, ⟨⟨rfl, show Value.bool true = Value.bool ((decide (y16.id ≠ y19.id)) || ((decide (y16.size ≠ y19.size)) || (decide (y16.weak ≠ y19.weak)))) by first | (simp only [c69, c72, Bool.true_and, Bool.false_and, Bool.and_true, Bool.and_false, Bool.true_or, Bool.or_true, Bool.false_or, Bool.or_false, Bool.not_true, Bool.not_false]; done) | simp [c69, c72]⟩, ⟨⟨rfl, show Value.bool true = Value.bool ((decide (y16.id ≠ y19.id)) || ((decide (y16.size ≠ y19.size)) || (decide (y16.weak ≠ y19.weak)))) by first | (simp only [c69, c72, Bool.true_and, Bool.false_and, Bool.and_true, Bool.and_false, Bool.true_or, Bool.or_true, Bool.false_or, Bool.or_false, Bool.not_true, Bool.not_false]; done) | simp [c69, c72]⟩, ⟨⟨rfl, show Value.bool true = Value.bool ((decide (y16.id ≠ y19.id)) || ((decide (y16.size ≠ y19.size)) || ((decide (y16.weak ≠ y19.weak)) || (!(decide (y16.refs = y19.refs)))))) by first | (simp only [c69, c72, Bool.true_and, Bool.false_and, Bool.and_true, Bool.and_false, Bool.true_or, Bool.or_true, Bool.false_or, Bool.or_false, Bool.not_true, Bool.not_false]; done) | simp [c69, c72]⟩, ⟨⟨rfl, show Value.bool true = Value.bool ((decide (y16.id ≠ y19.id)) || ((decide (y16.size ≠ y19.size)) || ((decide (y16.weak ≠ y19.weak)) || (!(decide (y16.refs = y19.refs)))))) by first | (simp only [c69, c72, Bool.true_and, Bool.false_and, Bool.and_true, Bool.and_false, Bool.true_or, Bool.or_true, Bool.false_or, Bool.or_false, Bool.not_true, Bool.not_false]; done) | simp [c69, c72]⟩, ⟨⟨rfl, show Value.bool true = Value.bool ((decide (y16.id ≠ y19.id)) || ((decide (y16.size ≠ y19.size)) || ((decide (y16.weak ≠ y19.weak)) || ((!(decide (y16.refs = y19.refs))) || (decide ((y16.ents.length : Int) ≠ (y19.ents.length : Int))))))) by first | (simp only [c69, c72, Bool.true_and, Bool.false_and, Bool.and_true, Bool.and_false, Bool.true_or, Bool.or_true, Bool.false_or, Bool.or_false, Bool.not_true, Bool.not_false]; done) | simp [c69, c72]⟩, trivial⟩⟩⟩⟩⟩⟩⟩⟩⟩⟩⟩⟩⟩⟩⟩⟩⟩⟩⟩⟩⟩⟩⟩⟩⟩⟩⟩⟩⟩⟩⟩⟩⟩⟩) (fun _ h => h.re [0, 0, 0, 0] [])
              ·
                have p74 := Decidable.not_not.1 (of_decide_eq_false c72)
                refine s_lt (t_pure (.pointer (some ⟨g68, 2, none⟩))) ?_
                refine s_lt (t_load 0 (.int .i64 y16.weak)) ?_
                refine s_lt (t_pure (.pointer (some ⟨g67, 2, none⟩))) ?_
                refine s_lt (t_load 1 (.int .i64 y19.weak)) ?_
                refine s_lt t_cmp ?_
                refine s_lt (t_pure (.bool (decide (y16.weak ≠ y19.weak)))) ?_
                refine s_lt (t_pure (.bool (decide (y16.weak ≠ y19.weak)))) ?_
                refine s_fork 60 (decide (y16.weak ≠ y19.weak)) (fun c75 => ?_) (fun c75 => ?_)
                ·
                  have p76 := of_decide_eq_true c75
                  refine s_skip ?_
                  refine s_skip ?_
                  refine s_skip ?_
                  refine s_skip ?_
                  refine s_skip ?_
                  refine s_skip ?_
                  refine s_lt (t_pure (.bool true)) ?_
                  refine s_lt (t_pure (.bool true)) ?_
                  refine s_skip ?_
                  refine s_skip ?_
                  refine s_skip ?_
                  refine s_skip ?_
                  refine s_skip ?_
                  refine s_skip ?_
                  refine s_skip ?_
                  refine s_lt (t_pure (.bool true)) ?_
                  refine s_nil ?_
                  exact xs_cut () trivial (sub_of rfl ⟨⟨rfl, rfl⟩, ⟨⟨rfl, rfl⟩, ⟨⟨rfl, rfl⟩, ⟨⟨rfl, rfl⟩, ⟨⟨rfl, rfl⟩, ⟨⟨rfl, rfl⟩, ⟨⟨rfl, rfl⟩, ⟨⟨rfl, rfl⟩, ⟨⟨rfl, rfl⟩, ⟨⟨rfl, rfl⟩, ⟨⟨rfl, rfl⟩, ⟨⟨rfl, rfl⟩, ⟨⟨rfl, rfl⟩, ⟨⟨rfl, rfl⟩, ⟨⟨rfl, rfl⟩, ⟨⟨rfl, rfl⟩, ⟨⟨rfl, rfl⟩, ⟨⟨rfl, rfl⟩, ⟨⟨rfl, rfl⟩, ⟨⟨rfl, rfl⟩, ⟨⟨rfl, rfl⟩, ⟨⟨rfl, rfl⟩, ⟨⟨rfl, rfl⟩, ⟨⟨rfl, rfl⟩, ⟨⟨rfl, rfl⟩, ⟨⟨rfl, rfl⟩, ⟨⟨rfl, show Value.bool false = Value.bool (decide (y16.id ≠ y19.id)) by first | (simp only [c69, c72, c75, Bool.true_and, Bool.false_and, Bool.and_true, Bool.and_false, Bool.true_or, Bool.or_true, Bool.false_or, Bool.or_false, Bool.not_true, Bool.not_false]; done) | simp [c69, c72, c75]⟩, ⟨⟨rfl, show Value.bool (decide (y16.size ≠ y19.size)) = Value.bool ((decide (y16.id ≠ y19.id)) || (decide (y16.size ≠ y19.size))) by first | (simp only [c69, c72, c75, Bool.true_and, Bool.false_and, Bool.and_true, Bool.and_false, Bool.true_or, Bool.or_true, Bool.false_or, Bool.or_false, Bool.not_true, Bool.not_false]; done) | simp [c69, c72, c75]⟩, ⟨⟨rfl, show Value.bool false = Value.bool ((decide (y16.id ≠ y19.id)) || (decide (y16.size ≠ y19.size))) by first | (simp only [c69, c72, c75, Bool.true_and, Bool.false_and, Bool.and_true, Bool.and_false, Bool.true_or, Bool.or_true, Bool.false_or, Bool.or_false, Bool.not_true, Bool.not_false]; done) | simp [c69, c72, c75]⟩, ⟨⟨rfl, show Value.bool (decide (y16.weak ≠ y19.weak)) = Value.bool ((decide (y16.id ≠ y19.id)) || ((decide (y16.size ≠ y19.size)) || (decide (y16.weak ≠ y19.weak)))) by first | (simp only [c69, c72, c75, Bool.true_and, Bool.false_and, Bool.and_true, Bool.and_false, Bool.true_or, Bool.or_true, Bool.false_or, Bool.or_false, Bool.not_true, Bool.not_false]; done) | simp [c69, c72, c75]⟩, ⟨⟨rfl, show Value.bool true = Value.bool ((decide (y16.id ≠ y19.id)) || ((decide (y16.size ≠ y19.size)) || (decide (y16.weak ≠ y19.weak)))) by first | (simp only [c69, c72, c75, Bool.true_and, Bool.false_and, Bool.and_true, Bool.and_false, Bool.true_or, Bool.or_true, Bool.false_or, Bool.or_false, Bool.not_true, Bool.not_false]; done) | simp [c69, c72, c75]⟩, ⟨⟨rfl, show Value.bool true = Value.bool ((decide (y16.id ≠ y19.id)) || ((decide (y16.size ≠ y19.size)) || ((decide (y16.weak ≠ y19.weak)) || (!(decide (y16.refs = y19.refs)))))) by first | (simp only [c69, c72, c75, Bool.true_and, Bool.false_and, Bool.and_true, Bool.and_false, Bool.true_or, Bool.or_true, Bool.false_or, Bool.or_false, Bool.not_true, Bool.not_false]; done) | simp [c69, c72, c75]⟩, ⟨⟨rfl, show Value.bool true = Value.bool ((decide (y16.id ≠ y19.id)) || ((decide (y16.size ≠ y19.size)) || ((decide (y16.weak ≠ y19.weak)) || (!(decide (y16.refs = y19.refs)))))) by first | (simp only [c69, c72, c75, Bool.true_and, Bool.false_and, Bool.and_true, Bool.and_false, Bool.true_or, Bool.or_true, Bool.false_or, Bool.or_false, Bool.not_true, Bool.not_false]; done) | simp [c69, c72, c75]⟩, ⟨⟨rfl, show Value.bool true = Value.bool ((decide (y16.id ≠ y19.id)) || ((decide (y16.size ≠ y19.size)) || ((decide (y16.weak ≠ y19.weak)) || ((!(decide (y16.refs = y19.refs))) || (decide ((y16.ents.length : Int) ≠ (y19.ents.length : Int))))))) by first | (simp only [c69, c72, c75, Bool.true_and, Bool.false_and, Bool.and_true, Bool.and_false, Bool.true_or, Bool.or_true, Bool.false_or, Bool.or_false, Bool.not_true, Bool.not_false]; done) | simp [c69, c72, c75]⟩, trivial⟩⟩⟩⟩⟩⟩⟩⟩⟩⟩⟩⟩⟩⟩⟩⟩⟩⟩⟩⟩⟩⟩⟩⟩⟩⟩⟩⟩⟩⟩⟩⟩⟩⟩) (fun _ h => h.re [0, 0, 0, 0] [])
                ·
                  have p77 := Decidable.not_not.1 (of_decide_eq_false c75)
                  refine s_lt (t_pure (.pointer (some ⟨g68, 3, none⟩))) ?_
                  refine s_lt (t_load 0 y16.rv.v) ?_
                  refine s_lt (t_pure (.pointer (some ⟨g67, 3, none⟩))) ?_
                  refine s_lt (t_load 1 y19.rv.v) ?_
                  refine s_vcall (fun _ h => ints_s (Acc.kn (.zn hk18.1) h) (Acc.kn (.zn hk21.1) h)) ?_
                  rintro _ rfl
                  refine s_lt (t_pure (.bool (!(decide (y16.refs = y19.refs))))) ?_
                  refine s_lt (t_pure (.bool (!(decide (y16.refs = y19.refs))))) ?_
                  refine s_lt (t_pure (.bool (!(decide (y16.refs = y19.refs))))) ?_
                  refine s_fork 68 (!(decide (y16.refs = y19.refs))) (fun c78 => ?_) (fun c78 => ?_)
                  ·
                    have c79 := not_t c78
                    have p80 := of_decide_eq_false c79
                    refine s_skip ?_
                    refine s_skip ?_
                    refine s_skip ?_
                    refine s_skip ?_
                    refine s_skip ?_
                    refine s_skip ?_
                    refine s_skip ?_
                    refine s_lt (t_pure (.bool true)) ?_
                    refine s_nil ?_
                    exact xs_cut () trivial (sub_of rfl ⟨⟨rfl, rfl⟩, ⟨⟨rfl, rfl⟩, ⟨⟨rfl, rfl⟩, ⟨⟨rfl, rfl⟩, ⟨⟨rfl, rfl⟩, ⟨⟨rfl, rfl⟩, ⟨⟨rfl, rfl⟩, ⟨⟨rfl, rfl⟩, ⟨⟨rfl, rfl⟩, ⟨⟨rfl, rfl⟩, ⟨⟨rfl, rfl⟩, ⟨⟨rfl, rfl⟩, ⟨⟨rfl, rfl⟩, ⟨⟨rfl, rfl⟩, ⟨⟨rfl, rfl⟩, ⟨⟨rfl, rfl⟩, ⟨⟨rfl, rfl⟩, ⟨⟨rfl, rfl⟩, ⟨⟨rfl, rfl⟩, ⟨⟨rfl, rfl⟩, ⟨⟨rfl, rfl⟩, ⟨⟨rfl, rfl⟩, ⟨⟨rfl, rfl⟩, ⟨⟨rfl, rfl⟩, ⟨⟨rfl, rfl⟩, ⟨⟨rfl, rfl⟩, ⟨⟨rfl, show Value.bool false = Value.bool (decide (y16.id ≠ y19.id)) by first | (simp only [c69, c72, c75, c78, Bool.true_and, Bool.false_and, Bool.and_true, Bool.and_false, Bool.true_or, Bool.or_true, Bool.false_or, Bool.or_false, Bool.not_true, Bool.not_false]; done) | simp [c69, c72, c75, c78]⟩, ⟨⟨rfl, show Value.bool (decide (y16.size ≠ y19.size)) = Value.bool ((decide (y16.id ≠ y19.id)) || (decide (y16.size ≠ y19.size))) by first | (simp only [c69, c72, c75, c78, Bool.true_and, Bool.false_and, Bool.and_true, Bool.and_false, Bool.true_or, Bool.or_true, Bool.false_or, Bool.or_false, Bool.not_true, Bool.not_false]; done) | simp [c69, c72, c75, c78]⟩, ⟨⟨rfl, show Value.bool false = Value.bool ((decide (y16.id ≠ y19.id)) || (decide (y16.size ≠ y19.size))) by first | (simp only [c69, c72, c75, c78, Bool.true_and, Bool.false_and, Bool.and_true, Bool.and_false, Bool.true_or, Bool.or_true, Bool.false_or, Bool.or_false, Bool.not_true, Bool.not_false]; done) | simp [c69, c72, c75, c78]⟩, ⟨⟨rfl, show Value.bool (decide (y16.weak ≠ y19.weak)) = Value.bool ((decide (y16.id ≠ y19.id)) || ((decide (y16.size ≠ y19.size)) || (decide (y16.weak ≠ y19.weak)))) by first | (simp only [c69, c72, c75, c78, Bool.true_and, Bool.false_and, Bool.and_true, Bool.and_false, Bool.true_or, Bool.or_true, Bool.false_or, Bool.or_false, Bool.not_true, Bool.not_false]; done) | simp [c69, c72, c75, c78]⟩, ⟨⟨rfl, show Value.bool false = Value.bool ((decide (y16.id ≠ y19.id)) || ((decide (y16.size ≠ y19.size)) || (decide (y16.weak ≠ y19.weak)))) by first | (simp only [c69, c72, c75, c78, Bool.true_and, Bool.false_and, Bool.and_true, Bool.and_false, Bool.true_or, Bool.or_true, Bool.false_or, Bool.or_false, Bool.not_true, Bool.not_false]; done) | simp [c69, c72, c75, c78]⟩, ⟨⟨rfl, show Value.bool (!(decide (y16.refs = y19.refs))) = Value.bool ((decide (y16.id ≠ y19.id)) || ((decide (y16.size ≠ y19.size)) || ((decide (y16.weak ≠ y19.weak)) || (!(decide (y16.refs = y19.refs)))))) by first | (simp only [c69, c72, c75, c78, Bool.true_and, Bool.false_and, Bool.and_true, Bool.and_false, Bool.true_or, Bool.or_true, Bool.false_or, Bool.or_false, Bool.not_true, Bool.not_false]; done) | simp [c69, c72, c75, c78]⟩, ⟨⟨rfl, show Value.bool true = Value.bool ((decide (y16.id ≠ y19.id)) || ((decide (y16.size ≠ y19.size)) || ((decide (y16.weak ≠ y19.weak)) || (!(decide (y16.refs = y19.refs)))))) by first | (simp only [c69, c72, c75, c78, Bool.true_and, Bool.false_and, Bool.and_true, Bool.and_false, Bool.true_or, Bool.or_true, Bool.false_or, Bool.or_false, Bool.not_true, Bool.not_false]; done) | simp [c69, c72, c75, c78]⟩, ⟨⟨rfl, show Value.bool true = Value.bool ((decide (y16.id ≠ y19.id)) || ((decide (y16.size ≠ y19.size)) || ((decide (y16.weak ≠ y19.weak)) || ((!(decide (y16.refs = y19.refs))) || (decide ((y16.ents.length : Int) ≠ (y19.ents.length : Int))))))) by first | (simp only [c69, c72, c75, c78, Bool.true_and, Bool.false_and, Bool.and_true, Bool.and_false, Bool.true_or, Bool.or_true, Bool.false_or, Bool.or_false, Bool.not_true, Bool.not_false]; done) | simp [c69, c72, c75, c78]⟩, trivial⟩⟩⟩⟩⟩⟩⟩⟩⟩⟩⟩⟩⟩⟩⟩⟩⟩⟩⟩⟩⟩⟩⟩⟩⟩⟩⟩⟩⟩⟩⟩⟩⟩⟩) (fun _ h => h.re [0, 0, 0, 0] [])
                  ·
                    have c81 := not_f c78
                    have p82 := of_decide_eq_true c81
                    refine s_lt (t_pure (.pointer (some ⟨g68, 4, none⟩))) ?_
                    refine s_lt (t_load 0 y16.ev.v) ?_
                    refine s_lt (t_len EntT_ok Try.underlying40 (.zn hk18.2)) ?_
                    refine s_lt (t_pure (.pointer (some ⟨g67, 4, none⟩))) ?_
                    refine s_lt (t_load 1 y19.ev.v) ?_
                    refine s_lt (t_len EntT_ok Try.underlying40 (.zn hk21.2)) ?_
                    refine s_lt t_cmp ?_
                    refine s_lt (t_pure (.bool (decide ((y16.ents.length : Int) ≠ (y19.ents.length : Int))))) ?_
                    refine s_nil ?_
                    exact xs_cut () trivial (sub_of rfl ⟨⟨rfl, rfl⟩, ⟨⟨rfl, rfl⟩, ⟨⟨rfl, rfl⟩, ⟨⟨rfl, rfl⟩, ⟨⟨rfl, rfl⟩, ⟨⟨rfl, rfl⟩, ⟨⟨rfl, rfl⟩, ⟨⟨rfl, rfl⟩, ⟨⟨rfl, rfl⟩, ⟨⟨rfl, rfl⟩, ⟨⟨rfl, rfl⟩, ⟨⟨rfl, rfl⟩, ⟨⟨rfl, rfl⟩, ⟨⟨rfl, rfl⟩, ⟨⟨rfl, rfl⟩, ⟨⟨rfl, rfl⟩, ⟨⟨rfl, rfl⟩, ⟨⟨rfl, rfl⟩, ⟨⟨rfl, rfl⟩, ⟨⟨rfl, rfl⟩, ⟨⟨rfl, rfl⟩, ⟨⟨rfl, rfl⟩, ⟨⟨rfl, rfl⟩, ⟨⟨rfl, rfl⟩, ⟨⟨rfl, rfl⟩, ⟨⟨rfl, rfl⟩, ⟨⟨rfl, show Value.bool false = Value.bool (decide (y16.id ≠ y19.id)) by first | (simp only [c69, c72, c75, c78, Bool.true_and, Bool.false_and, Bool.and_true, Bool.and_false, Bool.true_or, Bool.or_true, Bool.false_or, Bool.or_false, Bool.not_true, Bool.not_false]; done) | simp [c69, c72, c75, c78]⟩, ⟨⟨rfl, show Value.bool (decide (y16.size ≠ y19.size)) = Value.bool ((decide (y16.id ≠ y19.id)) || (decide (y16.size ≠ y19.size))) by first | (simp only [c69, c72, c75, c78, Bool.true_and, Bool.false_and, Bool.and_true, Bool.and_false, Bool.true_or, Bool.or_true, Bool.false_or, Bool.or_false, Bool.not_true, Bool.not_false]; done) | simp [c69, c72, c75, c78]⟩, ⟨⟨rfl, show Value.bool false = Value.bool ((decide (y16.id ≠ y19.id)) || (decide (y16.size ≠ y19.size))) by first | (simp only [c69, c72, c75, c78, Bool.true_and, Bool.false_and, Bool.and_true, Bool.and_false, Bool.true_or, Bool.or_true, Bool.false_or, Bool.or_false, Bool.not_true, Bool.not_false]; done) | simp [c69, c72, c75, c78]⟩, ⟨⟨rfl, show Value.bool (decide (y16.weak ≠ y19.weak)) = Value.bool ((decide (y16.id ≠ y19.id)) || ((decide (y16.size ≠ y19.size)) || (decide (y16.weak ≠ y19.weak)))) by first | (simp only [c69, c72, c75, c78, Bool.true_and, Bool.false_and, Bool.and_true, Bool.and_false, Bool.true_or, Bool.or_true, Bool.false_or, Bool.or_false, Bool.not_true, Bool.not_false]; done) | simp [c69, c72, c75, c78]⟩, ⟨⟨rfl, show Value.bool false = Value.bool ((decide (y16.id ≠ y19.id)) || ((decide (y16.size ≠ y19.size)) || (decide (y16.weak ≠ y19.weak)))) by first | (simp only [c69, c72, c75, c78, Bool.true_and, Bool.false_and, Bool.and_true, Bool.and_false, Bool.true_or, Bool.or_true, Bool.false_or, Bool.or_false, Bool.not_true, Bool.not_false]; done) | simp [c69, c72, c75, c78]⟩, ⟨⟨rfl, show Value.bool (!(decide (y16.refs = y19.refs))) = Value.bool ((decide (y16.id ≠ y19.id)) || ((decide (y16.size ≠ y19.size)) || ((decide (y16.weak ≠ y19.weak)) || (!(decide (y16.refs = y19.refs)))))) by first | (simp only [c69, c72, c75, c78, Bool.true_and, Bool.false_and, Bool.and_true, Bool.and_false, Bool.true_or, Bool.or_true, Bool.false_or, Bool.or_false, Bool.not_true, Bool.not_false]; done) | simp [c69, c72, c75, c78]⟩, ⟨⟨rfl, show Value.bool false = Value.bool ((decide (y16.id ≠ y19.id)) || ((decide (y16.size ≠ y19.size)) || ((decide (y16.weak ≠ y19.weak)) || (!(decide (y16.refs = y19.refs)))))) by first | (simp only [c69, c72, c75, c78, Bool.true_and, Bool.false_and, Bool.and_true, Bool.and_false, Bool.true_or, Bool.or_true, Bool.false_or, Bool.or_false, Bool.not_true, Bool.not_false]; done) | simp [c69, c72, c75, c78]⟩, ⟨⟨rfl, show Value.bool (decide ((y16.ents.length : Int) ≠ (y19.ents.length : Int))) = Value.bool ((decide (y16.id ≠ y19.id)) || ((decide (y16.size ≠ y19.size)) || ((decide (y16.weak ≠ y19.weak)) || ((!(decide (y16.refs = y19.refs))) || (decide ((y16.ents.length : Int) ≠ (y19.ents.length : Int))))))) by first | (simp only [c69, c72, c75, c78, Bool.true_and, Bool.false_and, Bool.and_true, Bool.and_false, Bool.true_or, Bool.or_true, Bool.false_or, Bool.or_false, Bool.not_true, Bool.not_false]; done) | simp [c69, c72, c75, c78]⟩, trivial⟩⟩⟩⟩⟩⟩⟩⟩⟩⟩⟩⟩⟩⟩⟩⟩⟩⟩⟩⟩⟩⟩⟩⟩⟩⟩⟩⟩⟩⟩⟩⟩⟩⟩) (fun _ h => h.re [0, 0, 0, 0] [])
          ·
            refine k_cond ((decide (y16.id ≠ y19.id)) || ((decide (y16.size ≠ y19.size)) || ((decide (y16.weak ≠ y19.weak)) || ((!(decide (y16.refs = y19.refs))) || (decide ((y16.ents.length : Int) ≠ (y19.ents.length : Int))))))) (fun c83 => ?_) (fun c83 => ?_)
            ·
              have p84 := c83
              simp only [Bool.and_eq_true, Bool.or_eq_true, Bool.and_eq_false_iff, Bool.or_eq_false_iff, Bool.not_eq_true', Bool.not_eq_false', decide_eq_true_eq, decide_eq_false_iff_not] at p84
              refine k_seq ?_
              refine k_reg ?_
              refine s_lt (t_pure (.bool false)) ?_
              refine s_nil ?_
              refine xs_then ?_
              refine k_ret ?_
              refine xs_ret ?_
              refine xs_retBlock ?_
              refine xs_ret ?_
              refine xs_ret ?_
              refine xs_retBlock ?_
              refine xs_ret ?_
              refine xs_fin [.bool false] [] (SI.tmp 4 SI.nil) (fun _ h => h.re [] [0, 0, 0, 0]) ⟨congrArg Value.bool ?_, rfl⟩
              refine (decide_eq_false fun h => c_ne hy17 hy20 (fun hc => ?_) h.1).symm
              have q := p84
              simp only [Ob.c, Prod.mk.injEq] at hc; obtain ⟨c1, c2, c3, c4, c5⟩ := hc
              simp [c1, c2, c3, c4, c5] at q
            ·
              obtain ⟨c85, c86⟩ := or_f c83
              have p87 := Decidable.not_not.1 (of_decide_eq_false c85)
              obtain ⟨c88, c89⟩ := or_f c86
              have p90 := Decidable.not_not.1 (of_decide_eq_false c88)
              obtain ⟨c91, c92⟩ := or_f c89
              have p93 := Decidable.not_not.1 (of_decide_eq_false c91)
              obtain ⟨c94, c95⟩ := or_f c92
              have c96 := not_f c94
              have p97 := of_decide_eq_true c96
              have p98 := Decidable.not_not.1 (of_decide_eq_false c95)
              refine k_skip ?_
              refine xs_then ?_
              refine k_seq ?_
              refine k_reg ?_
              refine s_lt (t_pure (.int .i64 0)) ?_
              refine s_nil ?_
              refine xs_then ?_
              refine k_block ?_
              refine k_fact (fun H h => (hk18.2.get h).len_le) (fun le => ?_)
              refine k_loop (ι := Nat) (fun k => k ≤ y16.ents.length ∧ y16.ents.take k = y19.ents.take k) (fun k => [(2, .pointer (some ⟨g1, 0, none⟩)), (3, .pointer (some ⟨g2, 0, none⟩)), (4, .bool false), (5, .int .i64 (i : Int)), (6, .pointer (some ⟨g68, 0, none⟩)), (7, .pointer (some ⟨g67, 0, none⟩)), (8, .int .i64 (k : Int)), (24, .int .i64 (i : Int)), (25, .pointer (some ⟨g1, 0, none⟩)), (26, ov), (27, .int .i64 (l.length : Int)), (28, .bool (decide ((i : Int) < (l.length : Int)))), (31, .pointer (some ⟨g1, 0, none⟩)), (32, ov), (33, .int .i64 (i : Int)), (34, .pointer (some (elemAt ObT.size ov i))), (35, .agg #[.int .i64 y16.id, .int .i64 y16.size, .int .i64 y16.weak, y16.rv.v, y16.ev.v]), (36, .pointer (some ⟨g2, 0, none⟩)), (37, ov'), (38, .int .i64 (i : Int)), (39, .pointer (some (elemAt ObT.size ov' i))), (40, .agg #[.int .i64 y19.id, .int .i64 y19.size, .int .i64 y19.weak, y19.rv.v, y19.ev.v]), (41, .pointer (some ⟨g68, 0, none⟩)), (42, .int .i64 y16.id), (43, .pointer (some ⟨g67, 0, none⟩)), (44, .int .i64 y19.id), (45, .bool (decide (y16.id ≠ y19.id))), (46, .bool (decide (y16.id ≠ y19.id))), (52, .bool ((decide (y16.id ≠ y19.id)) || (decide (y16.size ≠ y19.size)))), (53, .bool ((decide (y16.id ≠ y19.id)) || (decide (y16.size ≠ y19.size)))), (59, .bool ((decide (y16.id ≠ y19.id)) || ((decide (y16.size ≠ y19.size)) || (decide (y16.weak ≠ y19.weak))))), (60, .bool ((decide (y16.id ≠ y19.id)) || ((decide (y16.size ≠ y19.size)) || (decide (y16.weak ≠ y19.weak))))), (67, .bool ((decide (y16.id ≠ y19.id)) || ((decide (y16.size ≠ y19.size)) || ((decide (y16.weak ≠ y19.weak)) || (!(decide (y16.refs = y19.refs))))))), (68, .bool ((decide (y16.id ≠ y19.id)) || ((decide (y16.size ≠ y19.size)) || ((decide (y16.weak ≠ y19.weak)) || (!(decide (y16.refs = y19.refs))))))), (76, .bool ((decide (y16.id ≠ y19.id)) || ((decide (y16.size ≠ y19.size)) || ((decide (y16.weak ≠ y19.weak)) || ((!(decide (y16.refs = y19.refs))) || (decide ((y16.ents.length : Int) ≠ (y19.ents.length : Int))))))))]) (fun k => [blkA g68 #[.int .i64 y16.id, .int .i64 y16.size, .int .i64 y16.weak, y16.rv.v, y16.ev.v] 42, blkA g67 #[.int .i64 y19.id, .int .i64 y19.size, .int .i64 y19.weak, y19.rv.v, y19.ev.v] 42, blkA g2 #[ov', rv'] 25, blkA g1 #[ov, rv] 25]) (fun k => y16.ents.length - k) 0 ⟨Nat.zero_le _, rfl⟩ (sub_of rfl ⟨⟨rfl, rfl⟩, ⟨⟨rfl, rfl⟩, ⟨⟨rfl, rfl⟩, ⟨⟨rfl, rfl⟩, ⟨⟨rfl, rfl⟩, ⟨⟨rfl, rfl⟩, ⟨⟨rfl, rfl⟩, ⟨⟨rfl, rfl⟩, ⟨⟨rfl, rfl⟩, ⟨⟨rfl, rfl⟩, ⟨⟨rfl, rfl⟩, ⟨⟨rfl, rfl⟩, ⟨⟨rfl, rfl⟩, ⟨⟨rfl, rfl⟩, ⟨⟨rfl, rfl⟩, ⟨⟨rfl, rfl⟩, ⟨⟨rfl, rfl⟩, ⟨⟨rfl, rfl⟩, ⟨⟨rfl, rfl⟩, ⟨⟨rfl, rfl⟩, ⟨⟨rfl, rfl⟩, ⟨⟨rfl, rfl⟩, ⟨⟨rfl, rfl⟩, ⟨⟨rfl, rfl⟩, ⟨⟨rfl, rfl⟩, ⟨⟨rfl, rfl⟩, ⟨⟨rfl, rfl⟩, ⟨⟨rfl, rfl⟩, ⟨⟨rfl, rfl⟩, ⟨⟨rfl, rfl⟩, ⟨⟨rfl, rfl⟩, ⟨⟨rfl, rfl⟩, ⟨⟨rfl, rfl⟩, ⟨⟨rfl, rfl⟩, ⟨⟨rfl, rfl⟩, trivial⟩⟩⟩⟩⟩⟩⟩⟩⟩⟩⟩⟩⟩⟩⟩⟩⟩⟩⟩⟩⟩⟩⟩⟩⟩⟩⟩⟩⟩⟩⟩⟩⟩⟩⟩) (fun _ h => h.re [0, 0, 0, 0] []) ?_
              rintro k hi99
              show SK _ _ _ _ _ [(2, .pointer (some ⟨g1, 0, none⟩)), (3, .pointer (some ⟨g2, 0, none⟩)), (4, .bool false), (5, .int .i64 (i : Int)), (6, .pointer (some ⟨g68, 0, none⟩)), (7, .pointer (some ⟨g67, 0, none⟩)), (8, .int .i64 (k : Int)), (24, .int .i64 (i : Int)), (25, .pointer (some ⟨g1, 0, none⟩)), (26, ov), (27, .int .i64 (l.length : Int)), (28, .bool (decide ((i : Int) < (l.length : Int)))), (31, .pointer (some ⟨g1, 0, none⟩)), (32, ov), (33, .int .i64 (i : Int)), (34, .pointer (some (elemAt ObT.size ov i))), (35, .agg #[.int .i64 y16.id, .int .i64 y16.size, .int .i64 y16.weak, y16.rv.v, y16.ev.v]), (36, .pointer (some ⟨g2, 0, none⟩)), (37, ov'), (38, .int .i64 (i : Int)), (39, .pointer (some (elemAt ObT.size ov' i))), (40, .agg #[.int .i64 y19.id, .int .i64 y19.size, .int .i64 y19.weak, y19.rv.v, y19.ev.v]), (41, .pointer (some ⟨g68, 0, none⟩)), (42, .int .i64 y16.id), (43, .pointer (some ⟨g67, 0, none⟩)), (44, .int .i64 y19.id), (45, .bool (decide (y16.id ≠ y19.id))), (46, .bool (decide (y16.id ≠ y19.id))), (52, .bool ((decide (y16.id ≠ y19.id)) || (decide (y16.size ≠ y19.size)))), (53, .bool ((decide (y16.id ≠ y19.id)) || (decide (y16.size ≠ y19.size)))), (59, .bool ((decide (y16.id ≠ y19.id)) || ((decide (y16.size ≠ y19.size)) || (decide (y16.weak ≠ y19.weak))))), (60, .bool ((decide (y16.id ≠ y19.id)) || ((decide (y16.size ≠ y19.size)) || (decide (y16.weak ≠ y19.weak))))), (67, .bool ((decide (y16.id ≠ y19.id)) || ((decide (y16.size ≠ y19.size)) || ((decide (y16.weak ≠ y19.weak)) || (!(decide (y16.refs = y19.refs))))))), (68, .bool ((decide (y16.id ≠ y19.id)) || ((decide (y16.size ≠ y19.size)) || ((decide (y16.weak ≠ y19.weak)) || (!(decide (y16.refs = y19.refs))))))), (76, .bool ((decide (y16.id ≠ y19.id)) || ((decide (y16.size ≠ y19.size)) || ((decide (y16.weak ≠ y19.weak)) || ((!(decide (y16.refs = y19.refs))) || (decide ((y16.ents.length : Int) ≠ (y19.ents.length : Int))))))))] _ [blkA g68 #[.int .i64 y16.id, .int .i64 y16.size, .int .i64 y16.weak, y16.rv.v, y16.ev.v] 42, blkA g67 #[.int .i64 y19.id, .int .i64 y19.size, .int .i64 y19.weak, y19.rv.v, y19.ev.v] 42, blkA g2 #[ov', rv'] 25, blkA g1 #[ov, rv] 25]
              refine k_seq ?_
              refine k_seq ?_
              refine k_reg ?_
              refine s_lt (t_pure (.int .i64 (k : Int))) ?_
              refine s_lt (t_pure (.pointer (some ⟨g68, 4, none⟩))) ?_
              refine s_lt (t_load 0 y16.ev.v) ?_
              refine s_lt (t_len EntT_ok Try.underlying40 (.zn hk18.2)) ?_
              refine s_lt t_cmp ?_
              refine s_nil ?_
              refine xs_then ?_
              refine k_cond (decide ((k : Int) < (y16.ents.length : Int))) (fun c100 => ?_) (fun c100 => ?_)
              ·
                have p101 := of_decide_eq_true c100
                refine k_skip ?_
                refine xs_then ?_
                refine k_seq ?_
                refine k_block ?_
                refine k_seq ?_
                refine k_draw ?_
                refine s_lt (t_pure (.pointer (some ⟨g68, 4, none⟩))) ?_
                refine s_lt (t_load 0 y16.ev.v) ?_
                refine s_lt (t_pure (.int .i64 (k : Int))) ?_
                refine s_lt (t_index EntT_ok Try.underlying40 (.zn hk18.2) (k : Int) k (by omega) (by (try simp only [List.length_nil, List.length_cons, List.length_append, List.length_take, List.length_drop, List.length_set, List.length_replicate, List.length_reverse]); omega) (by omega)) ?_
                obtain ⟨y102, hy103⟩ : ∃ y, y16.ents[k]? = some y := ⟨_, List.getElem?_eq_getElem (by (try simp only [List.length_nil, List.length_cons, List.length_append, List.length_take, List.length_drop, List.length_set, List.length_replicate, List.length_reverse]); omega)⟩
                refine s_lt (t_loadE EntT_ok (.zn hk18.2) hy103) ?_
                refine s_lt (t_pure (.pointer (some ⟨g67, 4, none⟩))) ?_
                refine s_lt (t_load 1 y19.ev.v) ?_
                refine s_lt (t_pure (.int .i64 (k : Int))) ?_
                refine s_lt (t_index EntT_ok Try.underlying40 (.zn hk21.2) (k : Int) k (by omega) (by (try simp only [List.length_nil, List.length_cons, List.length_append, List.length_take, List.length_drop, List.length_set, List.length_replicate, List.length_reverse]); omega) (by omega)) ?_
                obtain ⟨y104, hy105⟩ : ∃ y, y19.ents[k]? = some y := ⟨_, List.getElem?_eq_getElem (by (try simp only [List.length_nil, List.length_cons, List.length_append, List.length_take, List.length_drop, List.length_set, List.length_replicate, List.length_reverse]); omega)⟩
                refine s_lt (t_loadE EntT_ok (.zn hk21.2) hy105) ?_
                refine s_lt (t_eqS (fun w => (eqEntT y102 y104 w).2)) ?_
                refine s_nil ?_
                refine x_dynS (fun _ h => by kernel_rfl) ?_
                refine xs_then ?_
                refine k_cond (!(decide (y102 = y104))) (fun c106 => ?_) (fun c106 => ?_)
                ·
                  have c107 := not_t c106
                  have p108 := of_decide_eq_false c107
                  refine k_seq ?_
                  refine k_reg ?_
                  refine s_lt (t_pure (.bool false)) ?_
                  refine s_nil ?_
                  refine xs_then ?_
                  refine k_ret ?_
                  refine xs_retBlock ?_
                  refine xs_ret ?_
                  refine xs_ret ?_
                  refine xs_retBlock ?_
                  refine xs_retBlock ?_
                  refine xs_ret ?_
                  refine xs_ret ?_
                  refine xs_retBlock ?_
                  refine xs_ret ?_
                  refine xs_fin [.bool false] [] (SI.tmp 4 SI.nil) (fun _ h => h.re [] [0, 0, 0, 0]) ⟨congrArg Value.bool ?_, rfl⟩
                  exact (decide_eq_false fun h => c_ne hy17 hy20 (fun hc => ne_of_get hy103 hy105 p108 (congrArg (fun q => q.2.2.2.2) hc)) h.1).symm
                ·
                  have c109 := not_f c106
                  have p110 := of_decide_eq_true c109
                  refine k_skip ?_
                  refine xs_block ?_
                  refine xs_then ?_
                  refine k_reg ?_
                  refine s_lt (t_pure (.int .i64 (k : Int))) ?_
                  refine s_lt (t_add (k : Int) 1 (by (try simp only [List.length_nil, List.length_cons, List.length_append, List.length_take, List.length_drop, List.length_set, List.length_replicate, List.length_reverse]); omega)) ?_
                  refine s_lt (t_pure (.int .i64 ((k : Int) + 1))) ?_
                  refine s_nil ?_
                  exact xs_round (k + 1) (by omega) (by obtain ⟨hk1, hk2⟩ := hi99; exact ⟨by omega, take_eq_succ hk2 hy103 hy105 p110⟩) (sub_of rfl ⟨⟨rfl, rfl⟩, ⟨⟨rfl, rfl⟩, ⟨⟨rfl, rfl⟩, ⟨⟨rfl, rfl⟩, ⟨⟨rfl, rfl⟩, ⟨⟨rfl, rfl⟩, ⟨⟨rfl, rfl⟩, ⟨⟨rfl, rfl⟩, ⟨⟨rfl, rfl⟩, ⟨⟨rfl, rfl⟩, ⟨⟨rfl, rfl⟩, ⟨⟨rfl, rfl⟩, ⟨⟨rfl, rfl⟩, ⟨⟨rfl, rfl⟩, ⟨⟨rfl, rfl⟩, ⟨⟨rfl, rfl⟩, ⟨⟨rfl, rfl⟩, ⟨⟨rfl, rfl⟩, ⟨⟨rfl, rfl⟩, ⟨⟨rfl, rfl⟩, ⟨⟨rfl, rfl⟩, ⟨⟨rfl, rfl⟩, ⟨⟨rfl, rfl⟩, ⟨⟨rfl, rfl⟩, ⟨⟨rfl, rfl⟩, ⟨⟨rfl, rfl⟩, ⟨⟨rfl, rfl⟩, ⟨⟨rfl, rfl⟩, ⟨⟨rfl, rfl⟩, ⟨⟨rfl, rfl⟩, ⟨⟨rfl, rfl⟩, ⟨⟨rfl, rfl⟩, ⟨⟨rfl, rfl⟩, ⟨⟨rfl, rfl⟩, ⟨⟨rfl, rfl⟩, trivial⟩⟩⟩⟩⟩⟩⟩⟩⟩⟩⟩⟩⟩⟩⟩⟩⟩⟩⟩⟩⟩⟩⟩⟩⟩⟩⟩⟩⟩⟩⟩⟩⟩⟩⟩) (fun _ h => h.re [0, 0, 0, 0] [])
              ·
                have p111 := of_decide_eq_false c100
                refine k_exit ?_
                have hents : y16.ents = y19.ents := take_all hi99.2 (by omega) (by omega)
                have hcore : y16.c = y19.c := by simp only [Ob.c, hents, p10, p12, p15, p87, p90, p93, p97, p98]
                refine xs_exit ?_
                refine xs_exit ?_
                refine xs_here ?_
                refine xs_block ?_
                refine xs_then ?_
                refine k_reg ?_
                refine s_lt (t_pure (.int .i64 (i : Int))) ?_
                refine s_lt (t_add (i : Int) 1 (by (try simp only [List.length_nil, List.length_cons, List.length_append, List.length_take, List.length_drop, List.length_set, List.length_replicate, List.length_reverse]); omega)) ?_
                refine s_lt (t_pure (.int .i64 ((i : Int) + 1))) ?_
                refine s_nil ?_
                exact xs_round (i + 1) (by omega) (by obtain ⟨hi1, hi2⟩ := hi13; exact ⟨by omega, c_succ hi2 hy17 hy20 hcore⟩) (sub_of rfl ⟨⟨rfl, rfl⟩, ⟨⟨rfl, rfl⟩, ⟨⟨rfl, rfl⟩, ⟨⟨rfl, rfl⟩, trivial⟩⟩⟩⟩) (fun _ h => h.re [2, 2] [2, 2])
      ·
        have p112 := of_decide_eq_false c14
        refine k_exit ?_
        refine xs_exit ?_
        refine xs_exit ?_
        refine xs_here ?_
        refine xs_then ?_
        refine k_seq ?_
        refine k_reg ?_
        refine s_lt (t_pure (.bool true)) ?_
        refine s_nil ?_
        refine xs_then ?_
        refine k_ret ?_
        refine xs_fin [.bool true] [] (SI.tmp 4 SI.nil) (fun _ h => h.re [] [0, 0]) ⟨congrArg Value.bool ?_, rfl⟩
        exact (decide_eq_true ⟨c_all hi13.2 (by omega) (by omega), hRR⟩).symm
theorem rounds_w {Z : Zone} {ov rv : Value} {l : List Ob} {R : List Int} (hg : KnG Z ov rv l R) : SF Try.prog 6 #[.agg #[ov, rv]] Z [] fun r Bs => r = .bool true ∧ Bs = [] := by
  refine sf_enter Try.func6 69 [(0, .agg #[ov, rv])] (fun w0 => ?_)
  refine k_seq ?_
  refine k_reg ?_
  refine s_box #[ov, rv] (fun g1 => ?_)
  refine s_lt (t_pure (.bool false)) ?_
  refine s_nil ?_
  refine xs_then ?_
  refine k_seq ?_
  refine k_seq ?_
  refine k_reg ?_
  refine s_lt (t_loadA 0 #[ov, rv]) ?_
  refine s_vcall (fun _ h => large_s (hg.up h)) ?_
  rintro _ rfl
  refine s_nil ?_
  refine xs_then ?_
  refine k_cond (largeB l R) (fun c2 => ?_) (fun c2 => ?_)
  ·
    refine k_seq ?_
    refine k_reg ?_
    refine s_vcall (fun _ h => awake_s) ?_
    rintro _ rfl
    refine s_lt (t_pure (.bool true)) ?_
    refine s_nil ?_
    refine xs_then ?_
    refine k_ret ?_
    refine xs_ret ?_
    exact xs_fin [.bool true] [] (SI.tmp 2 SI.nil) (fun _ h => h.re [] [0]) ⟨rfl, rfl⟩
  ·
    obtain ⟨hl0, hr0, hsm⟩ := small_of c2
    have hp0 := pot_le l hsm []
    have hp : pot l [] ≤ 1000000 := by omega
    have hl : l.length ≤ 100000 := by omega
    have hr : R.length ≤ 100000 := by omega
    refine k_skip ?_
    refine xs_then ?_
    refine k_seq ?_
    refine k_reg ?_
    refine s_lt (t_loadA 0 #[ov, rv]) ?_
    refine s_vcall (fun _ h => Rounds_s (hg.up h) hl hp) ?_
    rintro _ rfl
    refine s_lt (t_pure (.tuple #[.int .i64 (roundsP l R), .int .i64 (errI (chk 0 l))])) ?_
    refine s_lt (t_pure (.int .i64 (roundsP l R))) ?_
    refine s_lt (t_pure (.int .i64 (errI (chk 0 l)))) ?_
    refine s_lt (t_pure (.int .i64 (roundsP l R))) ?_
    refine s_lt (t_pure (.int .i64 (errI (chk 0 l)))) ?_
    refine s_nil ?_
    refine xs_then ?_
    refine k_seq ?_
    refine k_reg ?_
    refine s_lt (t_loadA 0 #[ov, rv]) ?_
    refine s_vcall (fun _ h => rRounds_s (hg.up h) hl hp hsm (by omega)) ?_
    rintro _ rfl
    refine s_lt (t_pure (.tuple #[.int .i64 (roundsP l R), .int .i64 (errI (chk 0 l))])) ?_
    refine s_lt (t_pure (.int .i64 (roundsP l R))) ?_
    refine s_lt (t_pure (.int .i64 (errI (chk 0 l)))) ?_
    refine s_lt (t_pure (.int .i64 (roundsP l R))) ?_
    refine s_lt (t_pure (.int .i64 (errI (chk 0 l)))) ?_
    refine s_nil ?_
    refine xs_then ?_
    refine k_seq ?_
    refine k_reg ?_
    refine s_lt (t_pure (.int .i64 1)) ?_
    refine s_nil ?_
    refine xs_then ?_
    refine k_seq ?_
    refine k_seq ?_
    refine k_reg ?_
    refine s_lt (t_pure (.int .i64 0)) ?_
    refine s_nil ?_
    refine xs_then ?_
    refine k_block ?_
    refine k_loop (ι := Int × Nat) (fun (mo, i) => i ≤ l.length ∧ mo = 1 + (mostS (l.take i) : Int)) (fun (mo, i) => [(1, .pointer (some ⟨g1, 0, none⟩)), (2, .bool false), (3, .int .i64 (roundsP l R)), (4, .int .i64 (errI (chk 0 l))), (5, .int .i64 (roundsP l R)), (6, .int .i64 (errI (chk 0 l))), (7, .int .i64 mo), (8, .int .i64 (i : Int))]) (fun (mo, i) => [blkA g1 #[ov, rv] 25]) (fun (mo, i) => l.length - i) (1, 0) ⟨Nat.zero_le _, rfl⟩ (sub_of rfl ⟨⟨rfl, rfl⟩, ⟨⟨rfl, rfl⟩, ⟨⟨rfl, rfl⟩, ⟨⟨rfl, rfl⟩, ⟨⟨rfl, rfl⟩, ⟨⟨rfl, rfl⟩, ⟨⟨rfl, rfl⟩, ⟨⟨rfl, rfl⟩, trivial⟩⟩⟩⟩⟩⟩⟩⟩) (fun _ h => h.re [0] []) ?_
    rintro ⟨mo, i⟩ hi3
    replace hi3 : i ≤ l.length ∧ mo = 1 + (mostS (l.take i) : Int) := hi3
    show SK _ _ _ _ _ [(1, .pointer (some ⟨g1, 0, none⟩)), (2, .bool false), (3, .int .i64 (roundsP l R)), (4, .int .i64 (errI (chk 0 l))), (5, .int .i64 (roundsP l R)), (6, .int .i64 (errI (chk 0 l))), (7, .int .i64 mo), (8, .int .i64 (i : Int))] _ [blkA g1 #[ov, rv] 25]
    have hml := most_le (l.take i) (fun o ho => (hsm o (List.mem_of_mem_take ho)).2); rw [List.length_take] at hml
    have hmi := hi3.2
    refine k_seq ?_
    refine k_seq ?_
    refine k_reg ?_
    refine s_lt (t_pure (.int .i64 (i : Int))) ?_
    refine s_lt (t_pure (.pointer (some ⟨g1, 0, none⟩))) ?_
    refine s_lt (t_load 0 ov) ?_
    refine s_lt (t_len ObT_ok Try.underlying22 (.zn hg.obs)) ?_
    refine s_lt t_cmp ?_
    refine s_nil ?_
    refine xs_then ?_
    refine k_cond (decide ((i : Int) < (l.length : Int))) (fun c4 => ?_) (fun c4 => ?_)
    ·
      have p5 := of_decide_eq_true c4
      refine k_skip ?_
      refine xs_then ?_
      refine k_seq ?_
      refine k_block ?_
      refine k_seq ?_
      refine k_reg ?_
      refine s_lt (t_pure (.pointer (some ⟨g1, 0, none⟩))) ?_
      refine s_lt (t_load 0 ov) ?_
      refine s_lt (t_pure (.int .i64 (i : Int))) ?_
      refine s_lt (t_index ObT_ok Try.underlying22 (.zn hg.obs) (i : Int) i (by omega) (by (try simp only [List.length_nil, List.length_cons, List.length_append, List.length_take, List.length_drop, List.length_set, List.length_replicate, List.length_reverse, bits_len]); omega) (by omega)) ?_
      refine s_lt (t_pure (.pointer (some ((elemAt ObT.size ov i).add 2)))) ?_
      obtain ⟨y6, hy7⟩ : ∃ y, l[i]? = some y := ⟨_, List.getElem?_eq_getElem (by (try simp only [List.length_nil, List.length_cons, List.length_append, List.length_take, List.length_drop, List.length_set, List.length_replicate, List.length_reverse, bits_len]); omega)⟩
      have hk8 := hg.each y6 (List.mem_of_getElem? hy7)
      have hsy := hsm y6 (List.mem_of_getElem? hy7)
      refine s_lt (t_loadF 2 ObT_ok (.zn hg.obs) hy7) ?_
      refine s_lt t_cmp ?_
      refine s_nil ?_
      refine xs_then ?_
      refine k_cond (decide (y6.weak = 1)) (fun c9 => ?_) (fun c9 => ?_)
      ·
        have p10 := of_decide_eq_true c9
        refine k_reg ?_
        refine s_lt (t_pure (.int .i64 mo)) ?_
        refine s_lt (t_add mo 1 (by (try simp only [List.length_nil, List.length_cons, List.length_append, List.length_take, List.length_drop, List.length_set, List.length_replicate, List.length_reverse, bits_len]); omega)) ?_
        refine s_lt (t_pure (.pointer (some ⟨g1, 0, none⟩))) ?_
        refine s_lt (t_load 0 ov) ?_
        refine s_lt (t_pure (.int .i64 (i : Int))) ?_
        refine s_lt (t_index ObT_ok Try.underlying22 (.zn hg.obs) (i : Int) i (by omega) (by (try simp only [List.length_nil, List.length_cons, List.length_append, List.length_take, List.length_drop, List.length_set, List.length_replicate, List.length_reverse, bits_len]); omega) (by omega)) ?_
        refine s_lt (t_pure (.pointer (some ((elemAt ObT.size ov i).add 4)))) ?_
        refine s_lt (t_loadF 4 ObT_ok (.zn hg.obs) hy7) ?_
        refine s_lt (t_len EntT_ok Try.underlying40 (.zn hk8.2)) ?_
        refine s_lt (t_add (mo + 1) (y6.ents.length : Int) (by (try simp only [List.length_nil, List.length_cons, List.length_append, List.length_take, List.length_drop, List.length_set, List.length_replicate, List.length_reverse, bits_len]); omega)) ?_
        refine s_lt (t_pure (.int .i64 ((mo + 1) + (y6.ents.length : Int)))) ?_
        refine s_nil ?_
        refine xs_block ?_
        refine xs_then ?_
        refine k_reg ?_
        refine s_lt (t_pure (.int .i64 (i : Int))) ?_
        refine s_lt (t_add (i : Int) 1 (by (try simp only [List.length_nil, List.length_cons, List.length_append, List.length_take, List.length_drop, List.length_set, List.length_replicate, List.length_reverse, bits_len]); omega)) ?_
        refine s_lt (t_pure (.int .i64 ((i : Int) + 1))) ?_
        refine s_nil ?_
        exact xs_round (((mo + 1) + (y6.ents.length : Int)), i + 1) (by show l.length - (i + 1) < l.length - i; omega) (by obtain ⟨hi1, hi2⟩ := hi3; refine ⟨by omega, ?_⟩; rw [most_yes hy7 p10]; omega) (sub_of rfl ⟨⟨rfl, rfl⟩, ⟨⟨rfl, rfl⟩, ⟨⟨rfl, rfl⟩, ⟨⟨rfl, rfl⟩, ⟨⟨rfl, rfl⟩, ⟨⟨rfl, rfl⟩, ⟨⟨rfl, rfl⟩, ⟨⟨rfl, rfl⟩, trivial⟩⟩⟩⟩⟩⟩⟩⟩) (fun _ h => h.re [0] [])
      ·
        have p11 := of_decide_eq_false c9
        refine k_skip ?_
        refine xs_block ?_
        refine xs_then ?_
        refine k_reg ?_
        refine s_lt (t_pure (.int .i64 (i : Int))) ?_
        refine s_lt (t_add (i : Int) 1 (by (try simp only [List.length_nil, List.length_cons, List.length_append, List.length_take, List.length_drop, List.length_set, List.length_replicate, List.length_reverse, bits_len]); omega)) ?_
        refine s_lt (t_pure (.int .i64 ((i : Int) + 1))) ?_
        refine s_nil ?_
        exact xs_round (mo, i + 1) (by show l.length - (i + 1) < l.length - i; omega) (by obtain ⟨hi1, hi2⟩ := hi3; refine ⟨by omega, ?_⟩; rw [most_no hy7 p11]; omega) (sub_of rfl ⟨⟨rfl, rfl⟩, ⟨⟨rfl, rfl⟩, ⟨⟨rfl, rfl⟩, ⟨⟨rfl, rfl⟩, ⟨⟨rfl, rfl⟩, ⟨⟨rfl, rfl⟩, ⟨⟨rfl, rfl⟩, ⟨⟨rfl, rfl⟩, trivial⟩⟩⟩⟩⟩⟩⟩⟩) (fun _ h => h.re [0] [])
    ·
      have p12 := of_decide_eq_false c4
      refine k_exit ?_
      obtain rfl : i = l.length := by omega
      have hmo : mo = 1 + (mostS l : Int) := by have h := hi3.2; rwa [List.take_length] at h
      refine xs_exit ?_
      refine xs_exit ?_
      refine xs_here ?_
      refine xs_then ?_
      refine k_seq ?_
      refine k_reg ?_
      refine s_lt (t_pure (.int .i64 (roundsP l R))) ?_
      refine s_lt (t_pure (.int .i64 (roundsP l R))) ?_
      refine s_lt (Lt.to t_cmp (congrArg Value.bool (decide_eq_true rfl : (decide ((roundsP l R) = (roundsP l R))) = true))) ?_
      refine s_lt (t_pure (.bool true)) ?_
      refine s_lt (t_pure (.int .i64 (errI (chk 0 l)))) ?_
      refine s_lt (t_pure (.int .i64 (errI (chk 0 l)))) ?_
      refine s_lt (Lt.to t_cmp (congrArg Value.bool (decide_eq_true rfl : (decide ((errI (chk 0 l)) = (errI (chk 0 l)))) = true))) ?_
      refine s_lt (t_pure (.bool true)) ?_
      refine s_lt (t_pure (.bool true)) ?_
      refine s_lt (t_pure (.int .i64 (roundsP l R))) ?_
      refine s_lt (t_pure (.int .i64 mo)) ?_
      refine s_lt (Lt.to t_cmp (congrArg Value.bool (decide_eq_true (by have := rounds_le l R; omega) : (decide ((roundsP l R) ≤ mo)) = true))) ?_
      refine s_lt (t_pure (.bool true)) ?_
      refine s_lt (t_pure (.bool true)) ?_
      refine s_lt (t_pure (.int .i64 (roundsP l R))) ?_
      refine s_lt t_cmp ?_
      refine s_lt (t_pure (.int .i64 (errI (chk 0 l)))) ?_
      refine s_lt t_cmp ?_
      refine s_lt (Lt.to (t_pure (.bool ((decide ((1 : Int) ≤ (roundsP l R))) == (decide ((errI (chk 0 l)) = 0))))) (congrArg Value.bool (rounds_ok l R : ((decide ((1 : Int) ≤ (roundsP l R))) == (decide ((errI (chk 0 l)) = 0))) = true))) ?_
      refine s_lt (t_pure (.bool true)) ?_
      refine s_lt (t_pure (.bool true)) ?_
      refine s_vcall (fun _ h => awake_s) ?_
      rintro _ rfl
      refine s_lt (t_pure (.bool true)) ?_
      refine s_lt (t_pure (.bool true)) ?_
      refine s_nil ?_
      refine xs_then ?_
      refine k_ret ?_
      exact xs_fin [.bool true] [] (SI.tmp 2 SI.nil) (fun _ h => h.re [] [0]) ⟨rfl, rfl⟩
theorem collects_w {Z : Zone} {ov rv : Value} {l : List Ob} {R : List Int} (hg : KnG Z ov rv l R) : SF Try.prog 5 #[.agg #[ov, rv]] Z [] fun r Bs => r = .bool true ∧ Bs = [] := by
  refine sf_enter Try.func5 40 [(0, .agg #[ov, rv])] (fun w0 => ?_)
  refine k_seq ?_
  refine k_reg ?_
  refine s_box #[ov, rv] (fun g1 => ?_)
  refine s_lt (t_pure (.bool false)) ?_
  refine s_nil ?_
  refine xs_then ?_
  refine k_seq ?_
  refine k_seq ?_
  refine k_reg ?_
  refine s_lt (t_loadA 0 #[ov, rv]) ?_
  refine s_vcall (fun _ h => large_s (hg.up h)) ?_
  rintro _ rfl
  refine s_nil ?_
  refine xs_then ?_
  refine k_cond (largeB l R) (fun c2 => ?_) (fun c2 => ?_)
  ·
    refine k_seq ?_
    refine k_reg ?_
    refine s_vcall (fun _ h => awake_s) ?_
    rintro _ rfl
    refine s_lt (t_pure (.bool true)) ?_
    refine s_nil ?_
    refine xs_then ?_
    refine k_ret ?_
    refine xs_ret ?_
    exact xs_fin [.bool true] [] (SI.tmp 2 SI.nil) (fun _ h => h.re [] [0]) ⟨rfl, rfl⟩
  ·
    obtain ⟨hl0, hr0, hsm⟩ := small_of c2
    have hp0 := pot_le l hsm []
    have hp : pot l [] ≤ 1000000 := by omega
    have hl : l.length ≤ 100000 := by omega
    have hr : R.length ≤ 100000 := by omega
    refine k_skip ?_
    refine xs_then ?_
    refine k_seq ?_
    refine k_reg ?_
    refine s_lt (t_loadA 0 #[ov, rv]) ?_
    refine s_pcall (fun _ h => Collect_s (hg.up h) hl hp hsm hr) ?_
    rintro _ _ ⟨ov3, rv4, fv5, l6, R7, rfl, hl8, hR9, rfl⟩
    refine s_fact (fun H h => ((Acc.own (T := iTy) (L := (collF l R)) 1 rfl) H h).form) (fun hf10 => ?_)
    refine s_lt (t_pure (.tuple #[.agg #[ov3, rv4], fv5, .int .i64 (errI (chk 0 l))])) ?_
    refine s_lt (t_pure (.agg #[ov3, rv4])) ?_
    refine s_lt (t_pure fv5) ?_
    refine s_lt (t_pure (.int .i64 (errI (chk 0 l)))) ?_
    refine s_alloc (.agg #[(.slice none 0 0), (.slice none 0 0)]) #[(.slice none 0 0), (.slice none 0 0)] (fun g11 => ?_)
    refine s_fact (fun H h => ((show Acc _ _ ObT _ _ from (accF 1)) H h).form) (fun hf12 => ?_)
    refine s_fact (fun H h => ((show Acc _ _ iTy _ _ from (accR 1)) H h).form) (fun hf13 => ?_)
    refine s_store (u := .agg #[ov3, rv4]) (m := 2) 0 #[ov3, rv4] ?_ (hm := by (obtain ⟨_, _, e0⟩ := hf12; obtain ⟨_, _, e1⟩ := hf13; rw [e0, e1]; rfl)) (h1 := by (obtain ⟨_, _, e0⟩ := hf12; obtain ⟨_, _, e1⟩ := hf13; rw [e0, e1]; rfl)) (ha' := by (obtain ⟨_, _, e0⟩ := hf12; obtain ⟨_, _, e1⟩ := hf13; rw [e0, e1]; rfl))
    refine s_lt (t_pure fv5) ?_
    refine s_lt (t_pure (.int .i64 (errI (chk 0 l)))) ?_
    refine s_nil ?_
    refine xs_then ?_
    refine k_seq ?_
    refine k_reg ?_
    refine s_lt (t_loadA 3 #[ov, rv]) ?_
    refine s_pcall (fun _ h => rCollect_s (hg.up h) hl hp hsm hr) ?_
    rintro _ _ ⟨ov14, rv15, fv16, l17, R18, rfl, hl19, hR20, rfl⟩
    refine s_fact (fun H h => ((Acc.own (T := iTy) (L := (collF l R)) 1 rfl) H h).form) (fun hf21 => ?_)
    refine s_lt (t_pure (.tuple #[.agg #[ov14, rv15], fv16, .int .i64 (errI (chk 0 l))])) ?_
    refine s_lt (t_pure (.agg #[ov14, rv15])) ?_
    refine s_lt (t_pure fv16) ?_
    refine s_lt (t_pure (.int .i64 (errI (chk 0 l)))) ?_
    refine s_alloc (.agg #[(.slice none 0 0), (.slice none 0 0)]) #[(.slice none 0 0), (.slice none 0 0)] (fun g22 => ?_)
    refine s_fact (fun H h => ((show Acc _ _ ObT _ _ from (accF 1)) H h).form) (fun hf23 => ?_)
    refine s_fact (fun H h => ((show Acc _ _ iTy _ _ from (accR 1)) H h).form) (fun hf24 => ?_)
    refine s_store (u := .agg #[ov14, rv15]) (m := 2) 0 #[ov14, rv15] ?_ (hm := by (obtain ⟨_, _, e0⟩ := hf23; obtain ⟨_, _, e1⟩ := hf24; rw [e0, e1]; rfl)) (h1 := by (obtain ⟨_, _, e0⟩ := hf23; obtain ⟨_, _, e1⟩ := hf24; rw [e0, e1]; rfl)) (ha' := by (obtain ⟨_, _, e0⟩ := hf23; obtain ⟨_, _, e1⟩ := hf24; rw [e0, e1]; rfl))
    refine s_lt (t_pure fv16) ?_
    refine s_lt (t_pure (.int .i64 (errI (chk 0 l)))) ?_
    refine s_nil ?_
    refine xs_then ?_
    refine k_seq ?_
    refine k_reg ?_
    refine s_lt (t_loadA 3 #[ov3, rv4]) ?_
    refine s_lt (t_loadA 0 #[ov14, rv15]) ?_
    refine s_vcall (fun _ h => same_s (GrA.kn (h.frzF 4)) (GrA.kn (h.frzF 1))) ?_
    rintro u26 e25
    obtain rfl : u26 = .bool true := e25.trans (congrArg Value.bool (decide_eq_true ⟨hl8.trans hl19.symm, hR9.trans hR20.symm⟩))
    refine s_lt (t_pure (.bool true)) ?_
    refine s_lt (t_pure fv5) ?_
    refine s_lt (t_pure fv16) ?_
    refine s_vcall (fun _ h => ints_s (Acc.kn (.own 5) h) (Acc.kn (.own 2) h)) ?_
    rintro u28 e27
    obtain rfl : u28 = .bool true := e27.trans (congrArg Value.bool (decide_eq_true rfl))
    refine s_lt (t_pure (.bool true)) ?_
    refine s_lt (t_pure (.bool true)) ?_
    refine s_lt (t_pure (.int .i64 (errI (chk 0 l)))) ?_
    refine s_lt (t_pure (.int .i64 (errI (chk 0 l)))) ?_
    refine s_lt (Lt.to t_cmp (congrArg Value.bool (decide_eq_true rfl : (decide ((errI (chk 0 l)) = (errI (chk 0 l)))) = true))) ?_
    refine s_lt (t_pure (.bool true)) ?_
    refine s_lt (t_pure (.bool true)) ?_
    refine s_vcall (fun _ h => awake_s) ?_
    rintro _ rfl
    refine s_lt (t_pure (.bool true)) ?_
    refine s_lt (t_pure (.bool true)) ?_
    refine s_nil ?_
    refine xs_then ?_
    refine k_ret ?_
    exact xs_fin [.bool true] [] (SI.tmp 2 SI.nil) (fun _ h => h.re [] [0, 0, 0, 0, 0, 0, 0]) ⟨rfl, rfl⟩
theorem clears_w {Z : Zone} {ov rv : Value} {l : List Ob} {R : List Int} (hg : KnG Z ov rv l R) {av : Value} {A : List Int} (hA : Kn Z iTy av A) : SF Try.prog 4 #[.agg #[ov, rv], av] Z [] fun r Bs => r = .bool true ∧ Bs = [] := by
  refine sf_enter Try.func4 40 [(0, .agg #[ov, rv]), (1, av)] (fun w0 => ?_)
  refine k_seq ?_
  refine k_reg ?_
  refine s_box #[ov, rv] (fun g1 => ?_)
  refine s_lt (t_pure (.bool false)) ?_
  refine s_nil ?_
  refine xs_then ?_
  refine k_seq ?_
  refine k_cut (ι := Unit) (fun _ => True) (fun _ => [(1, av), (2, .pointer (some ⟨g1, 0, none⟩)), (4, .bool false), (15, .bool ((largeB l R) || (decide ((400 : Int) < (A.length : Int)))))]) (fun _ => [blkA g1 #[ov, rv] 25]) ?_ (fun _ _ => ?_)
  ·
    refine k_reg ?_
    refine s_lt (t_loadA 0 #[ov, rv]) ?_
    refine s_vcall (fun _ h => large_s (hg.up h)) ?_
    rintro _ rfl
    refine s_lt (t_pure (.bool (largeB l R))) ?_
    refine s_fork 11 (largeB l R) (fun c2 => ?_) (fun c2 => ?_)
    ·
      refine s_skip ?_
      refine s_skip ?_
      refine s_skip ?_
      refine s_lt (t_pure (.bool true)) ?_
      refine s_nil ?_
      exact xs_cut () trivial (sub_of rfl ⟨⟨rfl, rfl⟩, ⟨⟨rfl, rfl⟩, ⟨⟨rfl, rfl⟩, ⟨⟨rfl, show Value.bool true = Value.bool ((largeB l R) || (decide ((400 : Int) < (A.length : Int)))) by first | (simp only [c2, Bool.true_and, Bool.false_and, Bool.and_true, Bool.and_false, Bool.true_or, Bool.or_true, Bool.false_or, Bool.or_false, Bool.not_true, Bool.not_false]; done) | simp [c2]⟩, trivial⟩⟩⟩⟩) (fun _ h => h.re [0] [])
    ·
      obtain ⟨hl0, hr0, hsm⟩ := small_of c2
      have hp0 := pot_le l hsm []
      have hp : pot l [] ≤ 1000000 := by omega
      have hl : l.length ≤ 100000 := by omega
      have hr : R.length ≤ 100000 := by omega
      refine s_lt (t_pure av) ?_
      refine s_lt (t_len iTy_ok Try.underlying23 (.zn hA)) ?_
      refine s_lt t_cmp ?_
      refine s_lt (t_pure (.bool (decide ((400 : Int) < (A.length : Int))))) ?_
      refine s_nil ?_
      exact xs_cut () trivial (sub_of rfl ⟨⟨rfl, rfl⟩, ⟨⟨rfl, rfl⟩, ⟨⟨rfl, rfl⟩, ⟨⟨rfl, show Value.bool (decide ((400 : Int) < (A.length : Int))) = Value.bool ((largeB l R) || (decide ((400 : Int) < (A.length : Int)))) by first | (simp only [c2, Bool.true_and, Bool.false_and, Bool.and_true, Bool.and_false, Bool.true_or, Bool.or_true, Bool.false_or, Bool.or_false, Bool.not_true, Bool.not_false]; done) | simp [c2]⟩, trivial⟩⟩⟩⟩) (fun _ h => h.re [0] [])
  ·
    refine k_cond ((largeB l R) || (decide ((400 : Int) < (A.length : Int)))) (fun c3 => ?_) (fun c3 => ?_)
    ·
      have p4 := c3
      simp only [Bool.and_eq_true, Bool.or_eq_true, Bool.and_eq_false_iff, Bool.or_eq_false_iff, Bool.not_eq_true', Bool.not_eq_false', decide_eq_true_eq, decide_eq_false_iff_not] at p4
      refine k_seq ?_
      refine k_reg ?_
      refine s_vcall (fun _ h => awake_s) ?_
      rintro _ rfl
      refine s_lt (t_pure (.bool true)) ?_
      refine s_nil ?_
      refine xs_then ?_
      refine k_ret ?_
      refine xs_ret ?_
      exact xs_fin [.bool true] [] (SI.tmp 4 SI.nil) (fun _ h => h.re [] [0]) ⟨rfl, rfl⟩
    ·
      obtain ⟨c5, c6⟩ := or_f c3
      obtain ⟨hl0, hr0, hsm⟩ := small_of c5
      have hp0 := pot_le l hsm []
      have hp : pot l [] ≤ 1000000 := by omega
      have hl : l.length ≤ 100000 := by omega
      have hr : R.length ≤ 100000 := by omega
      have p7 := of_decide_eq_false c6
      refine k_skip ?_
      refine xs_then ?_
      refine k_seq ?_
      refine k_reg ?_
      refine s_lt (t_loadA 0 #[ov, rv]) ?_
      refine s_lt (t_pure av) ?_
      refine s_pcall (fun _ h => Clear_s (hg.up h) (Acc.kn (.zn hA) h) (by omega) hl hr hsm) ?_
      rintro _ _ ⟨ov8, rv9, l10, R11, rfl, hl12, hR13, rfl⟩
      refine s_lt (t_pure (.tuple #[.agg #[ov8, rv9], .int .i64 (errI (chk 0 l && ascA 0 A))])) ?_
      refine s_lt (t_pure (.agg #[ov8, rv9])) ?_
      refine s_lt (t_pure (.int .i64 (errI (chk 0 l && ascA 0 A)))) ?_
      refine s_alloc (.agg #[(.slice none 0 0), (.slice none 0 0)]) #[(.slice none 0 0), (.slice none 0 0)] (fun g14 => ?_)
      refine s_fact (fun H h => ((show Acc _ _ ObT _ _ from (accF 1)) H h).form) (fun hf15 => ?_)
      refine s_fact (fun H h => ((show Acc _ _ iTy _ _ from (accR 1)) H h).form) (fun hf16 => ?_)
      refine s_store (u := .agg #[ov8, rv9]) (m := 2) 0 #[ov8, rv9] ?_ (hm := by (obtain ⟨_, _, e0⟩ := hf15; obtain ⟨_, _, e1⟩ := hf16; rw [e0, e1]; rfl)) (h1 := by (obtain ⟨_, _, e0⟩ := hf15; obtain ⟨_, _, e1⟩ := hf16; rw [e0, e1]; rfl)) (ha' := by (obtain ⟨_, _, e0⟩ := hf15; obtain ⟨_, _, e1⟩ := hf16; rw [e0, e1]; rfl))
      refine s_lt (t_pure (.int .i64 (errI (chk 0 l && ascA 0 A)))) ?_
      refine s_nil ?_
      refine xs_then ?_
      refine k_seq ?_
      refine k_reg ?_
      refine s_lt (t_loadA 2 #[ov, rv]) ?_
      refine s_lt (t_pure av) ?_
      refine s_pcall (fun _ h => rClear_s (hg.up h) (Acc.kn (.zn hA) h) (by omega) hl hr hsm) ?_
      rintro _ _ ⟨ov17, rv18, l19, R20, rfl, hl21, hR22, rfl⟩
      refine s_lt (t_pure (.tuple #[.agg #[ov17, rv18], .int .i64 (errI (chk 0 l && ascA 0 A))])) ?_
      refine s_lt (t_pure (.agg #[ov17, rv18])) ?_
      refine s_lt (t_pure (.int .i64 (errI (chk 0 l && ascA 0 A)))) ?_
      refine s_alloc (.agg #[(.slice none 0 0), (.slice none 0 0)]) #[(.slice none 0 0), (.slice none 0 0)] (fun g23 => ?_)
      refine s_fact (fun H h => ((show Acc _ _ ObT _ _ from (accF 1)) H h).form) (fun hf24 => ?_)
      refine s_fact (fun H h => ((show Acc _ _ iTy _ _ from (accR 1)) H h).form) (fun hf25 => ?_)
      refine s_store (u := .agg #[ov17, rv18]) (m := 2) 0 #[ov17, rv18] ?_ (hm := by (obtain ⟨_, _, e0⟩ := hf24; obtain ⟨_, _, e1⟩ := hf25; rw [e0, e1]; rfl)) (h1 := by (obtain ⟨_, _, e0⟩ := hf24; obtain ⟨_, _, e1⟩ := hf25; rw [e0, e1]; rfl)) (ha' := by (obtain ⟨_, _, e0⟩ := hf24; obtain ⟨_, _, e1⟩ := hf25; rw [e0, e1]; rfl))
      refine s_lt (t_pure (.int .i64 (errI (chk 0 l && ascA 0 A)))) ?_
      refine s_nil ?_
      refine xs_then ?_
      refine k_seq ?_
      refine k_reg ?_
      refine s_lt (t_loadA 2 #[ov8, rv9]) ?_
      refine s_lt (t_loadA 0 #[ov17, rv18]) ?_
      refine s_vcall (fun _ h => same_s (GrA.kn (h.frzF 3)) (GrA.kn (h.frzF 1))) ?_
      rintro u27 e26
      obtain rfl : u27 = .bool true := e26.trans (congrArg Value.bool (decide_eq_true ⟨hl12.trans hl21.symm, hR13.trans hR22.symm⟩))
      refine s_lt (t_pure (.bool true)) ?_
      refine s_lt (t_pure (.int .i64 (errI (chk 0 l && ascA 0 A)))) ?_
      refine s_lt (t_pure (.int .i64 (errI (chk 0 l && ascA 0 A)))) ?_
      refine s_lt (Lt.to t_cmp (congrArg Value.bool (decide_eq_true rfl : (decide ((errI (chk 0 l && ascA 0 A)) = (errI (chk 0 l && ascA 0 A)))) = true))) ?_
      refine s_lt (t_pure (.bool true)) ?_
      refine s_lt (t_pure (.bool true)) ?_
      refine s_vcall (fun _ h => awake_s) ?_
      rintro _ rfl
      refine s_lt (t_pure (.bool true)) ?_
      refine s_lt (t_pure (.bool true)) ?_
      refine s_nil ?_
      refine xs_then ?_
      refine k_ret ?_
      exact xs_fin [.bool true] [] (SI.tmp 4 SI.nil) (fun _ h => h.re [] [0, 0, 0, 0, 0]) ⟨rfl, rfl⟩
end Go.Proofs.Ytjdlkemmcnncaaa
