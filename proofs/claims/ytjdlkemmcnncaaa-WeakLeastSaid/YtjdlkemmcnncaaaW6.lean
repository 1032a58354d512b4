/-
  Collect of layer 26, of the program and of the reference; graphs compared. Each law says its conditions.
-/
import Derived.Test.YtjdlkemmcnncaaaW5
set_option linter.unusedSimpArgs false
set_option linter.unusedVariables false
set_option maxRecDepth 100000
set_option maxHeartbeats 2000000
namespace Go.Proofs.Ytjdlkemmcnncaaa
open Go.Hp Go.J Go.S
open Go.Mem (Ty KTy blk elemAt pre suf blk_pre blk_suf aget aset strK aggDesc)
theorem chk_pos {l : List Ob} (h : chk 0 l = true) : ∀ x ∈ l, 0 < x.id := chk_lt h
theorem live_pos {l : List Ob} (h : chk 0 l = true) (M : List Int) : ∀ x ∈ live l M, 0 < x := by
  intro x hx
  simp only [live, List.mem_map, List.mem_filter] at hx
  obtain ⟨o, ⟨ho, _⟩, rfl⟩ := hx
  exact chk_pos h o ho
theorem ascA_alive {l : List Ob} (h : chk 0 l = true) (R : List Int) : ascA 0 (aliveR l R) = true := by
  rw [aliveR_ok h]; exact ascA_of (live_asc (chk_asc h) _) (live_pos h _)
theorem gr_part {Z : Zone} {As : List Asr} {H : Heap} {ov ov' rv : Value} {l L : List Ob} {R : List Int} (hL : ∀ x ∈ L, x ∈ l) (h : Holds Z (own ObT ov' L :: frz (GrA ov rv l R) :: As) H) : Holds Z (frz (GrA ov' rv L R) :: As) H :=
  h.frzO.frzM fun H ⟨a, b, c, d⟩ => ⟨a, c, fun x hx => d x (hL x hx)⟩
theorem accF {Z : Zone} {As : List Asr} {ov rv : Value} {l : List Ob} {R : List Int} (i : Nat) (hi : gt As i = some (frz (GrA ov rv l R)) := by rfl) : Acc Z As ObT ov l := fun H h => (h.frzF i hi).1
theorem accR {Z : Zone} {As : List Asr} {ov rv : Value} {l : List Ob} {R : List Int} (i : Nat) (hi : gt As i = some (frz (GrA ov rv l R)) := by rfl) : Acc Z As iTy rv R := fun H h => (h.frzF i hi).2.1
theorem accE1 {Z : Zone} {As : List Asr} {ov rv : Value} {l : List Ob} {R : List Int} {x : Ob} (i : Nat) (hx : x ∈ l) (hi : gt As i = some (frz (GrA ov rv l R)) := by rfl) : Acc Z As iTy x.rv.v x.refs := fun H h => ((h.frzF i hi).2.2 x hx).1
theorem accE2 {Z : Zone} {As : List Asr} {ov rv : Value} {l : List Ob} {R : List Int} {x : Ob} (i : Nat) (hx : x ∈ l) (hi : gt As i = some (frz (GrA ov rv l R)) := by rfl) : Acc Z As EntT x.ev.v x.ents := fun H h => ((h.frzF i hi).2.2 x hx).2
/-- What is left, and what is freed, of objects. -/
def lastL (A : List Int) (l : List Core) : List Core := l.filter fun x => decide (x.1 ∈ A)
def freeL (A : List Int) (l : List Core) : List Int := (l.filter fun x => !decide (x.1 ∈ A)).map fun x => x.1
theorem last_yes {A : List Int} {l N : List Ob} {i : Nat} {y : Ob} (hy : l[i]? = some y) (h : y.id ∈ A) (hN : N.map Ob.c = lastL A ((l.take i).map Ob.c)) : (N ++ [y]).map Ob.c = lastL A ((l.take (i + 1)).map Ob.c) := by
  rw [List.take_add_one, hy]; simp [lastL, List.filter_append, h] at hN ⊢; rw [hN]
theorem last_no {A : List Int} {l N : List Ob} {i : Nat} {y : Ob} (hy : l[i]? = some y) (h : y.id ∉ A) (hN : N.map Ob.c = lastL A ((l.take i).map Ob.c)) : N.map Ob.c = lastL A ((l.take (i + 1)).map Ob.c) := by
  rw [List.take_add_one, hy]; simp [lastL, List.filter_append, h] at hN ⊢; rw [hN]
theorem free_yes {A : List Int} {l : List Ob} {i : Nat} {y : Ob} (hy : l[i]? = some y) (h : y.id ∉ A) : freeL A ((l.take i).map Ob.c) ++ [y.id] = freeL A ((l.take (i + 1)).map Ob.c) := by
  rw [List.take_add_one, hy]; simp [freeL, List.filter_append, h]
theorem free_no {A : List Int} {l : List Ob} {i : Nat} {y : Ob} (hy : l[i]? = some y) (h : y.id ∈ A) : freeL A ((l.take i).map Ob.c) = freeL A ((l.take (i + 1)).map Ob.c) := by
  rw [List.take_add_one, hy]; simp [freeL, List.filter_append, h]
theorem free_len (A : List Int) (l : List Core) : (freeL A l).length ≤ l.length := by unfold freeL; rw [List.length_map]; exact List.length_filter_le _ _
theorem lost_id {A : List Int} {id : Int} (h0 : 0 < id) : lostB A id = !decide (id ∈ A) := by unfold lostB; rw [decide_eq_true (by omega)]; rfl
theorem pos_of_map {l l' : List Ob} {A : List Int} (h : l'.map Ob.c = l.map (clr A)) (hp : ∀ x ∈ l, 0 < x.id) : ∀ x ∈ l', 0 < x.id := fun x hx => by
  have : x.c ∈ l'.map Ob.c := List.mem_map.2 ⟨x, hx, rfl⟩
  rw [h] at this
  obtain ⟨y, hy, e⟩ := List.mem_map.1 this
  have : y.id = x.id := congrArg (·.1) e
  rw [← this]; exact hp y hy
theorem len_of_map {l l' : List Ob} {A : List Int} (h : l'.map Ob.c = l.map (clr A)) : l'.length = l.length := by have := congrArg List.length h; simpa using this
theorem free_asc {A B : List Int} {l : List Ob} (h : Asc l) : (freeL A (l.map (clr B))).Pairwise (· < ·) := by
  unfold freeL
  rw [List.pairwise_map]
  refine List.Pairwise.filter _ ?_
  rw [List.pairwise_map]; exact h
def collL (l : List Ob) (R : List Int) : List Core := if chk 0 l = true then lastL (aliveR l R) (l.map (clr (aliveR l R))) else []
def collF (l : List Ob) (R : List Int) : List Int := if chk 0 l = true then freeL (aliveR l R) (l.map (clr (aliveR l R))) else []
theorem collL_ok {l : List Ob} {R : List Int} (h : chk 0 l = true) : collL l R = lastL (aliveR l R) (l.map (clr (aliveR l R))) := if_pos h
theorem collL_bad {l : List Ob} {R : List Int} (h : chk 0 l = false) : collL l R = [] := if_neg (by simp [h])
theorem collF_ok {l : List Ob} {R : List Int} (h : chk 0 l = true) : collF l R = freeL (aliveR l R) (l.map (clr (aliveR l R))) := if_pos h
theorem collF_bad {l : List Ob} {R : List Int} (h : chk 0 l = false) : collF l R = [] := if_neg (by simp [h])
theorem Collect_s {Z : Zone} {ov rv : Value} {l : List Ob} {R : List Int} (hg : KnG Z ov rv l R) (hl : l.length ≤ 100000) (hp : pot l [] ≤ 1000000) (hsm : ∀ o ∈ l, o.refs.length ≤ 400 ∧ o.ents.length ≤ 400) (hr : R.length ≤ 100000) : SF Try.prog 19 #[.agg #[ov, rv]] Z [] fun r Bs => ∃ ov' rv' fv l' R', r = .tuple #[.agg #[ov', rv'], fv, .int .i64 (errI (chk 0 l))] ∧ l'.map Ob.c = collL l R ∧ R' = (if chk 0 l = true then R else []) ∧ Bs = [frz (GrA ov' rv' l' R'), own iTy fv (collF l R)] := by
  refine sf_enter Try.func19 58 [(0, .agg #[ov, rv])] (fun w0 => ?_)
  refine k_seq ?_
  refine k_reg ?_
  refine s_box #[ov, rv] (fun g1 => ?_)
  refine s_alloc (.agg #[(.slice none 0 0), (.slice none 0 0)]) #[(.slice none 0 0), (.slice none 0 0)] (fun g2 => ?_)
  refine s_lt (t_pure (.slice none 0 0)) ?_
  refine s_lt (t_pure (.int .i64 0)) ?_
  refine s_nil ?_
  refine xs_then ?_
  refine k_seq ?_
  refine k_reg ?_
  refine s_lt (t_loadA 1 #[ov, rv]) ?_
  refine s_pcall (fun _ h => Alive_s (hg.up h) hl hp) ?_
  rintro _ _ ⟨v3, rfl, rfl⟩
  rw [alive_eq]
  refine s_fact (fun H h => ((Acc.own (T := iTy) (L := (aliveR l R)) 0 rfl) H h).form) (fun hf4 => ?_)
  refine s_lt (t_pure (.tuple #[v3, .int .i64 (errI (chk 0 l))])) ?_
  refine s_lt (t_pure v3) ?_
  refine s_lt (t_pure (.int .i64 (errI (chk 0 l)))) ?_
  refine s_lt (t_pure v3) ?_
  refine s_lt (t_pure (.int .i64 (errI (chk 0 l)))) ?_
  refine s_nil ?_
  refine xs_then ?_
  refine k_seq ?_
  refine k_seq ?_
  refine k_reg ?_
  refine s_lt (t_pure (.int .i64 (errI (chk 0 l)))) ?_
  refine s_lt t_cmp ?_
  refine s_nil ?_
  refine xs_then ?_
  refine k_cond (decide ((errI (chk 0 l)) ≠ 0)) (fun c5 => ?_) (fun c5 => ?_)
  ·
    have p6 := of_decide_eq_true c5
    have hc := errI_bad p6
    refine k_seq ?_
    refine k_reg ?_
    refine s_lt (t_kern (.agg #[(.slice none 0 0), (.slice none 0 0)])) ?_
    refine s_lt (t_pure (.int .i64 (errI (chk 0 l)))) ?_
    refine s_store 1 #[(.slice none 0 0), (.slice none 0 0)] ?_
    refine s_lt (t_pure (.slice none 0 0)) ?_
    refine s_lt (t_pure (.int .i64 (errI (chk 0 l)))) ?_
    refine s_nil ?_
    refine xs_then ?_
    refine k_ret ?_
    refine xs_ret ?_
    exact xs_fin [.agg #[(.slice none 0 0), (.slice none 0 0)], (.slice none 0 0), .int .i64 (errI (chk 0 l))] [frz (GrA (.slice none 0 0) (.slice none 0 0) [] []), own iTy (.slice none 0 0) []] (SI.agg 2 25 1 (SI.tmp 3 (SI.tmp 4 SI.nil))) (fun _ h => (Holds.nilS (T := iTy) (gr_nil h)).re [1, 0] [2, 2, 2]) ⟨_, _, _, [], [], rfl, by rw [collL_bad hc]; rfl, by rw [hc]; rfl, by rw [collF_bad hc]⟩
  ·
    have p7 := Decidable.not_not.1 (of_decide_eq_false c5)
    have hc := errI_ok p7; have hs := chk_asc hc
    refine k_skip ?_
    refine xs_then ?_
    refine k_seq ?_
    refine k_reg ?_
    refine s_lt (t_loadA 2 #[ov, rv]) ?_
    refine s_lt (t_pure v3) ?_
    refine s_pcall (fun _ h => Clear_s (hg.up h) (Acc.kn (.own 0) h) (by have := alive_len l R; omega) hl hr hsm) ?_
    rintro _ _ ⟨ov8, rv9, l10, R11, rfl, hl12, hR13, rfl⟩
    refine s_lt (t_pure (.tuple #[.agg #[ov8, rv9], .int .i64 (errI (chk 0 l && ascA 0 (aliveR l R)))])) ?_
    refine s_lt (t_pure (.agg #[ov8, rv9])) ?_
    refine s_lt (t_pure (.int .i64 (errI (chk 0 l && ascA 0 (aliveR l R))))) ?_
    refine s_alloc (.agg #[(.slice none 0 0), (.slice none 0 0)]) #[(.slice none 0 0), (.slice none 0 0)] (fun g14 => ?_)
    refine s_fact (fun H h => ((show Acc _ _ ObT _ _ from (accF 1)) H h).form) (fun hf15 => ?_)
    refine s_fact (fun H h => ((show Acc _ _ iTy _ _ from (accR 1)) H h).form) (fun hf16 => ?_)
    refine s_store (u := .agg #[ov8, rv9]) (m := 2) 0 #[ov8, rv9] ?_ (hm := by (obtain ⟨_, _, e0⟩ := hf15; obtain ⟨_, _, e1⟩ := hf16; rw [e0, e1]; rfl)) (h1 := by (obtain ⟨_, _, e0⟩ := hf15; obtain ⟨_, _, e1⟩ := hf16; rw [e0, e1]; rfl)) (ha' := by (obtain ⟨_, _, e0⟩ := hf15; obtain ⟨_, _, e1⟩ := hf16; rw [e0, e1]; rfl))
    refine s_lt (t_pure (.int .i64 (errI (chk 0 l && ascA 0 (aliveR l R))))) ?_
    refine s_nil ?_
    refine xs_then ?_
    refine k_seq ?_
    refine k_reg ?_
    refine s_lt (t_pure (.pointer (some ⟨g14, 1, none⟩))) ?_
    refine s_lt (t_load 0 rv9) ?_
    refine s_lt (show Lt _ _ _ _ _ (.agg #[(.slice none 0 0), rv9]) from by obtain ⟨_, _, e⟩ := hf16; rw [e]; clear e; exact t_kern _) ?_
    refine s_alloc (.agg #[(.slice none 0 0), (.slice none 0 0)]) #[(.slice none 0 0), (.slice none 0 0)] (fun g17 => ?_)
    refine s_store (u := .agg #[(.slice none 0 0), rv9]) (m := 2) 0 #[(.slice none 0 0), rv9] ?_ (hm := by (obtain ⟨_, _, e0⟩ := hf16; rw [e0]; rfl)) (h1 := by (obtain ⟨_, _, e0⟩ := hf16; rw [e0]; rfl)) (ha' := by (obtain ⟨_, _, e0⟩ := hf16; rw [e0]; rfl))
    refine s_nil ?_
    refine xs_then ?_
    refine k_seq ?_
    refine k_reg ?_
    refine s_lt (t_pure (.slice none 0 0)) ?_
    refine s_nil ?_
    refine xs_then ?_
    refine k_seq ?_
    refine k_seq ?_
    refine k_reg ?_
    refine s_lt (t_pure (.pointer (some ⟨g14, 0, none⟩))) ?_
    refine s_lt (t_load 1 ov8) ?_
    refine s_lt (t_len ObT_ok Try.underlying22 (accF 2)) ?_
    refine s_lt (t_pure (.int .i64 0)) ?_
    refine s_nil ?_
    refine xs_then ?_
    refine k_block ?_
    have hOK : (chk 0 l && ascA 0 (aliveR l R)) = true := by rw [hc, ascA_alive hc]; rfl
    rw [hOK, if_pos rfl] at hl12 hR13; replace hR13 := hR13.symm; subst hR13
    have hpos := pos_of_map hl12 (chk_pos hc); have hlen := len_of_map hl12
    refine k_mem (fun _ h => Holds.nilS (T := iTy) h) ?_
    refine k_mem (fun _ h => Holds.nilS (T := ObT) h) ?_
    refine k_mem (Bs := [own ObT (.slice none 0 0) [], own iTy (.slice none 0 0) (freeL (aliveR l R) ((l10.take 0).map Ob.c)), blkA g17 #[(.slice none 0 0), rv9] 25, blkA g14 #[ov8, rv9] 25, frz (GrA ov8 rv9 l10 R), own iTy v3 (aliveR l R), blkA g2 #[(.slice none 0 0), (.slice none 0 0)] 25, blkA g1 #[ov, rv] 25]) (fun _ h => h) ?_
    refine k_loop (ι := Value × List Ob × Value × Nat) (fun (ox, N, fx, i) => i ≤ l10.length ∧ N.map Ob.c = lastL (aliveR l R) ((l10.take i).map Ob.c) ∧ (∀ x ∈ N, x ∈ l10) ∧ N.length ≤ i) (fun (ox, N, fx, i) => [(2, .pointer (some ⟨g2, 0, none⟩)), (3, (.slice none 0 0)), (4, .int .i64 0), (5, v3), (9, .pointer (some ⟨g17, 0, none⟩)), (10, fx), (32, ov8), (33, .int .i64 (l10.length : Int)), (34, .int .i64 (i : Int))]) (fun (ox, N, fx, i) => [own ObT ox N, own iTy fx (freeL (aliveR l R) ((l10.take i).map Ob.c)), blkA g17 #[ox, rv9] 25, blkA g14 #[ov8, rv9] 25, frz (GrA ov8 rv9 l10 R), own iTy v3 (aliveR l R), blkA g2 #[(.slice none 0 0), (.slice none 0 0)] 25, blkA g1 #[ov, rv] 25]) (fun (ox, N, fx, i) => l10.length - i) (.slice none 0 0, [], (.slice none 0 0), 0) ⟨Nat.zero_le _, rfl, by simp, Nat.le_refl _⟩ (sub_of rfl ⟨⟨rfl, rfl⟩, ⟨⟨rfl, rfl⟩, ⟨⟨rfl, rfl⟩, ⟨⟨rfl, rfl⟩, ⟨⟨rfl, rfl⟩, ⟨⟨rfl, rfl⟩, ⟨⟨rfl, rfl⟩, ⟨⟨rfl, rfl⟩, ⟨⟨rfl, rfl⟩, trivial⟩⟩⟩⟩⟩⟩⟩⟩⟩) (fun _ h => h.re [0, 0, 0, 0, 0, 0, 0, 0] []) ?_
    rintro ⟨ox, N, fx, i⟩ hi18
    replace hi18 : i ≤ l10.length ∧ N.map Ob.c = lastL (aliveR l R) ((l10.take i).map Ob.c) ∧ (∀ x ∈ N, x ∈ l10) ∧ N.length ≤ i := hi18
    show SK _ _ _ _ _ [(2, .pointer (some ⟨g2, 0, none⟩)), (3, (.slice none 0 0)), (4, .int .i64 0), (5, v3), (9, .pointer (some ⟨g17, 0, none⟩)), (10, fx), (32, ov8), (33, .int .i64 (l10.length : Int)), (34, .int .i64 (i : Int))] _ [own ObT ox N, own iTy fx (freeL (aliveR l R) ((l10.take i).map Ob.c)), blkA g17 #[ox, rv9] 25, blkA g14 #[ov8, rv9] 25, frz (GrA ov8 rv9 l10 R), own iTy v3 (aliveR l R), blkA g2 #[(.slice none 0 0), (.slice none 0 0)] 25, blkA g1 #[ov, rv] 25]
    have hNl := hi18.2.2.2; have hfl := free_len (aliveR l R) ((l10.take i).map Ob.c); rw [List.length_map, List.length_take] at hfl
    refine k_seq ?_
    refine k_reg ?_
    refine s_lt t_cmp ?_
    refine s_nil ?_
    refine xs_then ?_
    refine k_seq ?_
    refine k_cond (decide ((i : Int) < (l10.length : Int))) (fun c19 => ?_) (fun c19 => ?_)
    ·
      have p20 := of_decide_eq_true c19
      refine k_skip ?_
      refine xs_then ?_
      refine k_seq ?_
      refine k_block ?_
      refine k_seq ?_
      refine k_reg ?_
      refine s_lt (t_index ObT_ok Try.underlying22 (accF 4) (i : Int) i (by omega) (by (try simp only [List.length_nil, List.length_cons, List.length_append, List.length_take, List.length_drop, List.length_set, List.length_replicate, List.length_reverse, bits_len]); omega) (by omega)) ?_
      obtain ⟨y21, hy22⟩ : ∃ y, l10[i]? = some y := ⟨_, List.getElem?_eq_getElem (by (try simp only [List.length_nil, List.length_cons, List.length_append, List.length_take, List.length_drop, List.length_set, List.length_replicate, List.length_reverse, bits_len]); omega)⟩
      refine s_lt (t_loadE ObT_ok (accF 4) hy22) ?_
      refine s_alloc (.agg #[.int .i64 0, .int .i64 0, .int .i64 0, (.slice none 0 0), (.slice none 0 0)]) #[.int .i64 0, .int .i64 0, .int .i64 0, (.slice none 0 0), (.slice none 0 0)] (fun g23 => ?_)
      refine s_store 0 #[.int .i64 y21.id, .int .i64 y21.size, .int .i64 y21.weak, y21.rv.v, y21.ev.v] ?_
      refine s_nil ?_
      refine xs_then ?_
      refine k_seq ?_
      refine k_reg ?_
      refine s_lt (t_pure v3) ?_
      refine s_lt (t_pure (.pointer (some ⟨g23, 0, none⟩))) ?_
      refine s_lt (t_load 0 (.int .i64 y21.id)) ?_
      refine s_vcall (fun _ h => lost_s (Acc.kn (.own 6) h) (alive_asc l R) (by have := alive_len l R; omega) y21.id) ?_
      rintro _ rfl
      refine s_nil ?_
      refine xs_then ?_
      refine k_cond (lostB (aliveR l R) y21.id) (fun c24 => ?_) (fun c24 => ?_)
      ·
        refine k_reg ?_
        refine s_lt (t_pure fx) ?_
        refine s_lt (t_pure (.pointer (some ⟨g23, 0, none⟩))) ?_
        refine s_lt (t_load 0 (.int .i64 y21.id)) ?_
        refine s_buildSlice (e := 3) [(0, .int .i64 y21.id)] #[.int .i64 y21.id] (fun g25 => ?_) (hb := by kernel_rfl)
        refine s_append (L := (freeL (aliveR l R) ((l10.take i).map Ob.c))) 3 iTy_ok Try.underlying23 (.lit 0 iTy_ok [y21.id]) (by show _ * 8 ≤ _; (try simp only [List.length_nil, List.length_cons, List.length_append, List.length_take, List.length_drop, List.length_set, List.length_replicate, List.length_reverse, bits_len]); omega) (by (try simp only [List.length_nil, List.length_cons, List.length_append, List.length_take, List.length_drop, List.length_set, List.length_replicate, List.length_reverse, bits_len]); omega) (fun v26 => ?_)
        refine s_fact (fun H h => ((Acc.own (T := iTy) (L := ((freeL (aliveR l R) ((l10.take i).map Ob.c)) ++ [y21.id])) 3 rfl) H h).form) (fun hf27 => ?_)
        refine s_lt (t_pure v26) ?_
        refine s_nil ?_
        refine xs_block ?_
        refine xs_then ?_
        refine k_reg ?_
        refine s_lt (t_add (i : Int) 1 (by (try simp only [List.length_nil, List.length_cons, List.length_append, List.length_take, List.length_drop, List.length_set, List.length_replicate, List.length_reverse, bits_len]); omega)) ?_
        refine s_lt (t_pure (.int .i64 ((i : Int) + 1))) ?_
        refine s_nil ?_
        have hin : y21.id ∉ aliveR l R := (by have hh := c24; rw [lost_id (hpos y21 (List.mem_of_getElem? hy22))] at hh; simpa using hh)
        rw [free_yes hy22 hin]
        exact xs_round (ox, N, v26, i + 1) (by show l10.length - (i + 1) < l10.length - i; omega) (by obtain ⟨hk1, hk2, hk3, hk4⟩ := hi18; exact ⟨by omega, last_no hy22 hin hk2, hk3, by omega⟩) (sub_of rfl ⟨⟨rfl, rfl⟩, ⟨⟨rfl, rfl⟩, ⟨⟨rfl, rfl⟩, ⟨⟨rfl, rfl⟩, ⟨⟨rfl, rfl⟩, ⟨⟨rfl, rfl⟩, ⟨⟨rfl, rfl⟩, ⟨⟨rfl, rfl⟩, ⟨⟨rfl, rfl⟩, trivial⟩⟩⟩⟩⟩⟩⟩⟩⟩) (fun _ h => h.re [2, 2, 2, 2, 2, 2, 2, 2] [8, 8])
      ·
        refine k_reg ?_
        refine s_lt (t_pure (.pointer (some ⟨g17, 0, none⟩))) ?_
        refine s_lt (t_load 3 ox) ?_
        refine s_lt (t_loadA 0 #[.int .i64 y21.id, .int .i64 y21.size, .int .i64 y21.weak, y21.rv.v, y21.ev.v]) ?_
        refine s_buildSlice (e := 42) [(0, .agg #[.int .i64 y21.id, .int .i64 y21.size, .int .i64 y21.weak, y21.rv.v, y21.ev.v])] #[.int .i64 y21.id, .int .i64 y21.size, .int .i64 y21.weak, y21.rv.v, y21.ev.v] (fun g28 => ?_) (hb := by kernel_rfl)
        refine s_append (L := N) 2 ObT_ok Try.underlying22 (.lit 0 ObT_ok [y21]) (by show _ * 72 ≤ _; (try simp only [List.length_nil, List.length_cons, List.length_append, List.length_take, List.length_drop, List.length_set, List.length_replicate, List.length_reverse, bits_len]); omega) (by (try simp only [List.length_nil, List.length_cons, List.length_append, List.length_take, List.length_drop, List.length_set, List.length_replicate, List.length_reverse, bits_len]); omega) (fun v29 => ?_)
        refine s_fact (fun H h => ((Acc.own (T := ObT) (L := (N ++ [y21])) 2 rfl) H h).form) (fun hf30 => ?_)
        refine s_lt (t_pure (.pointer (some ⟨g17, 0, none⟩))) ?_
        refine s_store (u := v29) (m := 1) 4 #[v29, rv9] ?_ (hm := by (obtain ⟨_, _, e0⟩ := hf30; rw [e0]; rfl)) (h1 := by (obtain ⟨_, _, e0⟩ := hf30; rw [e0]; rfl)) (ha' := by (obtain ⟨_, _, e0⟩ := hf30; rw [e0]; rfl))
        refine s_nil ?_
        refine xs_block ?_
        refine xs_then ?_
        refine k_reg ?_
        refine s_lt (t_add (i : Int) 1 (by (try simp only [List.length_nil, List.length_cons, List.length_append, List.length_take, List.length_drop, List.length_set, List.length_replicate, List.length_reverse, bits_len]); omega)) ?_
        refine s_lt (t_pure (.int .i64 ((i : Int) + 1))) ?_
        refine s_nil ?_
        have hin : y21.id ∈ aliveR l R := (by have hh := c24; rw [lost_id (hpos y21 (List.mem_of_getElem? hy22))] at hh; simpa using hh)
        rw [free_no hy22 hin]
        exact xs_round (v29, N ++ [y21], fx, i + 1) (by show l10.length - (i + 1) < l10.length - i; omega) (by obtain ⟨hk1, hk2, hk3, hk4⟩ := hi18; exact ⟨by omega, last_yes hy22 hin hk2, fun x hx => by rcases List.mem_append.1 hx with hx | hx; exact hk3 x hx; simp at hx; subst hx; exact List.mem_of_getElem? hy22, by rw [List.length_append]; simp only [List.length_singleton]; omega⟩) (sub_of rfl ⟨⟨rfl, rfl⟩, ⟨⟨rfl, rfl⟩, ⟨⟨rfl, rfl⟩, ⟨⟨rfl, rfl⟩, ⟨⟨rfl, rfl⟩, ⟨⟨rfl, rfl⟩, ⟨⟨rfl, rfl⟩, ⟨⟨rfl, rfl⟩, ⟨⟨rfl, rfl⟩, trivial⟩⟩⟩⟩⟩⟩⟩⟩⟩) (fun _ h => h.re [2, 2, 2, 2, 2, 2, 2, 2] [8, 8])
    ·
      have p31 := of_decide_eq_false c19
      refine k_exit ?_
      obtain rfl : i = l10.length := by omega
      have hfz : freeL (aliveR l R) ((l10.take l10.length).map Ob.c) = freeL (aliveR l R) (l.map (clr (aliveR l R))) := by rw [List.take_length, hl12]
      have hfl2 := free_len (aliveR l R) (l.map (clr (aliveR l R))); rw [List.length_map] at hfl2
      rw [hfz]
      refine xs_exit ?_
      refine xs_exit ?_
      refine xs_here ?_
      refine xs_then ?_
      refine k_seq ?_
      refine k_reg ?_
      refine s_lt (t_pure fx) ?_
      refine s_call [1] (sort_s (L := (freeL (aliveR l R) (l.map (clr (aliveR l R))))) (by (try simp only [List.length_nil, List.length_cons, List.length_append, List.length_take, List.length_drop, List.length_set, List.length_replicate, List.length_reverse, bits_len]); omega)) ?_
      rintro _ _ ⟨rfl, rfl⟩
      refine s_nil ?_
      refine xs_then ?_
      refine k_seq ?_
      refine k_reg ?_
      refine s_lt (t_loadA 2 #[ox, rv9]) ?_
      refine s_lt (t_pure fx) ?_
      refine s_fact (fun H h => ((Acc.own (T := ObT) (L := N) 1 rfl) H h).form) (fun hf32 => ?_)
      refine s_store (u := .agg #[ox, rv9]) (m := 2) 6 #[ox, rv9] ?_ (hm := by (obtain ⟨_, _, e0⟩ := hf32; obtain ⟨_, _, e1⟩ := hf16; rw [e0, e1]; rfl)) (h1 := by (obtain ⟨_, _, e0⟩ := hf32; obtain ⟨_, _, e1⟩ := hf16; rw [e0, e1]; rfl)) (ha' := by (obtain ⟨_, _, e0⟩ := hf32; obtain ⟨_, _, e1⟩ := hf16; rw [e0, e1]; rfl))
      refine s_lt (t_pure fx) ?_
      refine s_lt (t_pure (.int .i64 0)) ?_
      refine s_nil ?_
      refine xs_then ?_
      refine k_ret ?_
      obtain ⟨hk1, hk2, hk3, hk4⟩ := hi18
      rw [List.take_length, hl12] at hk2
      rw [srt_asc (free_asc (chk_asc hc))]
      exact xs_fin [.agg #[ox, rv9], fx, .int .i64 0] [frz (GrA ox rv9 N R), own iTy fx (freeL (aliveR l R) (l.map (clr (aliveR l R))))] (SI.agg 2 25 6 (SI.tmp 3 (SI.tmp 4 SI.nil))) (fun _ h => gr_part hk3 (h.re [1, 3, 0] [3, 3, 3, 3, 3])) ⟨_, _, _, N, R, by rw [hc]; rfl, by rw [collL_ok hc]; exact hk2, by rw [hc]; rfl, by rw [collF_ok hc]⟩
theorem rCollect_s {Z : Zone} {ov rv : Value} {l : List Ob} {R : List Int} (hg : KnG Z ov rv l R) (hl : l.length ≤ 100000) (hp : pot l [] ≤ 1000000) (hsm : ∀ o ∈ l, o.refs.length ≤ 400 ∧ o.ents.length ≤ 400) (hr : R.length ≤ 100000) : SF Try.prog 20 #[.agg #[ov, rv]] Z [] fun r Bs => ∃ ov' rv' fv l' R', r = .tuple #[.agg #[ov', rv'], fv, .int .i64 (errI (chk 0 l))] ∧ l'.map Ob.c = collL l R ∧ R' = (if chk 0 l = true then R else []) ∧ Bs = [frz (GrA ov' rv' l' R'), own iTy fv (collF l R)] := by
  refine sf_enter Try.func20 67 [(0, .agg #[ov, rv])] (fun w0 => ?_)
  refine k_seq ?_
  refine k_reg ?_
  refine s_box #[ov, rv] (fun g1 => ?_)
  refine s_alloc (.agg #[(.slice none 0 0), (.slice none 0 0)]) #[(.slice none 0 0), (.slice none 0 0)] (fun g2 => ?_)
  refine s_lt (t_pure (.slice none 0 0)) ?_
  refine s_lt (t_pure (.int .i64 0)) ?_
  refine s_nil ?_
  refine xs_then ?_
  refine k_seq ?_
  refine k_reg ?_
  refine s_lt (t_loadA 1 #[ov, rv]) ?_
  refine s_pcall (fun _ h => rAlive_s (hg.up h) hl hp hsm (by omega)) ?_
  rintro _ _ ⟨v3, rfl, rfl⟩
  refine s_fact (fun H h => ((Acc.own (T := iTy) (L := (aliveR l R)) 0 rfl) H h).form) (fun hf4 => ?_)
  refine s_lt (t_pure (.tuple #[v3, .int .i64 (errI (chk 0 l))])) ?_
  refine s_lt (t_pure v3) ?_
  refine s_lt (t_pure (.int .i64 (errI (chk 0 l)))) ?_
  refine s_lt (t_pure v3) ?_
  refine s_lt (t_pure (.int .i64 (errI (chk 0 l)))) ?_
  refine s_nil ?_
  refine xs_then ?_
  refine k_seq ?_
  refine k_seq ?_
  refine k_reg ?_
  refine s_lt (t_pure (.int .i64 (errI (chk 0 l)))) ?_
  refine s_lt t_cmp ?_
  refine s_nil ?_
  refine xs_then ?_
  refine k_cond (decide ((errI (chk 0 l)) ≠ 0)) (fun c5 => ?_) (fun c5 => ?_)
  ·
    have p6 := of_decide_eq_true c5
    have hc := errI_bad p6
    refine k_seq ?_
    refine k_reg ?_
    refine s_lt (t_kern (.agg #[(.slice none 0 0), (.slice none 0 0)])) ?_
    refine s_lt (t_pure (.int .i64 (errI (chk 0 l)))) ?_
    refine s_store 1 #[(.slice none 0 0), (.slice none 0 0)] ?_
    refine s_lt (t_pure (.slice none 0 0)) ?_
    refine s_lt (t_pure (.int .i64 (errI (chk 0 l)))) ?_
    refine s_nil ?_
    refine xs_then ?_
    refine k_ret ?_
    refine xs_ret ?_
    exact xs_fin [.agg #[(.slice none 0 0), (.slice none 0 0)], (.slice none 0 0), .int .i64 (errI (chk 0 l))] [frz (GrA (.slice none 0 0) (.slice none 0 0) [] []), own iTy (.slice none 0 0) []] (SI.agg 2 25 1 (SI.tmp 3 (SI.tmp 4 SI.nil))) (fun _ h => (Holds.nilS (T := iTy) (gr_nil h)).re [1, 0] [2, 2, 2]) ⟨_, _, _, [], [], rfl, by rw [collL_bad hc]; rfl, by rw [hc]; rfl, by rw [collF_bad hc]⟩
  ·
    have p7 := Decidable.not_not.1 (of_decide_eq_false c5)
    have hc := errI_ok p7; have hs := chk_asc hc
    refine k_skip ?_
    refine xs_then ?_
    refine k_seq ?_
    refine k_reg ?_
    refine s_lt (t_loadA 2 #[ov, rv]) ?_
    refine s_lt (t_pure v3) ?_
    refine s_pcall (fun _ h => rClear_s (hg.up h) (Acc.kn (.own 0) h) (by have := alive_len l R; omega) hl hr hsm) ?_
    rintro _ _ ⟨ov8, rv9, l10, R11, rfl, hl12, hR13, rfl⟩
    refine s_lt (t_pure (.tuple #[.agg #[ov8, rv9], .int .i64 (errI (chk 0 l && ascA 0 (aliveR l R)))])) ?_
    refine s_lt (t_pure (.agg #[ov8, rv9])) ?_
    refine s_lt (t_pure (.int .i64 (errI (chk 0 l && ascA 0 (aliveR l R))))) ?_
    refine s_alloc (.agg #[(.slice none 0 0), (.slice none 0 0)]) #[(.slice none 0 0), (.slice none 0 0)] (fun g14 => ?_)
    refine s_fact (fun H h => ((show Acc _ _ ObT _ _ from (accF 1)) H h).form) (fun hf15 => ?_)
    refine s_fact (fun H h => ((show Acc _ _ iTy _ _ from (accR 1)) H h).form) (fun hf16 => ?_)
    refine s_store (u := .agg #[ov8, rv9]) (m := 2) 0 #[ov8, rv9] ?_ (hm := by (obtain ⟨_, _, e0⟩ := hf15; obtain ⟨_, _, e1⟩ := hf16; rw [e0, e1]; rfl)) (h1 := by (obtain ⟨_, _, e0⟩ := hf15; obtain ⟨_, _, e1⟩ := hf16; rw [e0, e1]; rfl)) (ha' := by (obtain ⟨_, _, e0⟩ := hf15; obtain ⟨_, _, e1⟩ := hf16; rw [e0, e1]; rfl))
    refine s_lt (t_pure (.int .i64 (errI (chk 0 l && ascA 0 (aliveR l R))))) ?_
    refine s_nil ?_
    refine xs_then ?_
    refine k_seq ?_
    refine k_reg ?_
    refine s_lt (t_pure (.pointer (some ⟨g14, 1, none⟩))) ?_
    refine s_lt (t_load 0 rv9) ?_
    refine s_lt (show Lt _ _ _ _ _ (.agg #[(.slice none 0 0), rv9]) from by obtain ⟨_, _, e⟩ := hf16; rw [e]; clear e; exact t_kern _) ?_
    refine s_alloc (.agg #[(.slice none 0 0), (.slice none 0 0)]) #[(.slice none 0 0), (.slice none 0 0)] (fun g17 => ?_)
    refine s_store (u := .agg #[(.slice none 0 0), rv9]) (m := 2) 0 #[(.slice none 0 0), rv9] ?_ (hm := by (obtain ⟨_, _, e0⟩ := hf16; rw [e0]; rfl)) (h1 := by (obtain ⟨_, _, e0⟩ := hf16; rw [e0]; rfl)) (ha' := by (obtain ⟨_, _, e0⟩ := hf16; rw [e0]; rfl))
    refine s_nil ?_
    refine xs_then ?_
    refine k_seq ?_
    refine k_reg ?_
    refine s_buildSlice (e := 3) [] #[] (fun g18 => ?_) (hb := by kernel_rfl)
    refine s_lt (t_pure (.slice (some ⟨g18, 0, none⟩) 0 0)) ?_
    refine s_nil ?_
    refine xs_then ?_
    refine k_seq ?_
    refine k_seq ?_
    refine k_reg ?_
    refine s_lt (t_pure (.int .i64 0)) ?_
    refine s_nil ?_
    refine xs_then ?_
    refine k_block ?_
    have hOK : (chk 0 l && ascA 0 (aliveR l R)) = true := by rw [hc, ascA_alive hc]; rfl
    rw [hOK, if_pos rfl] at hl12 hR13; replace hR13 := hR13.symm; subst hR13
    have hpos := pos_of_map hl12 (chk_pos hc); have hlen := len_of_map hl12
    refine k_mem (fun _ h => Holds.slice 0 h iTy_ok []) ?_
    refine k_mem (fun _ h => Holds.nilS (T := ObT) h) ?_
    refine k_mem (Bs := [own ObT (.slice none 0 0) [], own iTy (.slice (some ⟨g18, 0, none⟩) 0 0) (freeL (aliveR l R) ((l10.take 0).map Ob.c)), blkA g17 #[(.slice none 0 0), rv9] 25, blkA g14 #[ov8, rv9] 25, frz (GrA ov8 rv9 l10 R), own iTy v3 (aliveR l R), blkA g2 #[(.slice none 0 0), (.slice none 0 0)] 25, blkA g1 #[ov, rv] 25]) (fun _ h => h) ?_
    refine k_loop (ι := Value × List Ob × Value × Nat) (fun (ox, N, fx, i) => i ≤ l10.length ∧ N.map Ob.c = lastL (aliveR l R) ((l10.take i).map Ob.c) ∧ (∀ x ∈ N, x ∈ l10) ∧ N.length ≤ i) (fun (ox, N, fx, i) => [(2, .pointer (some ⟨g2, 0, none⟩)), (3, (.slice none 0 0)), (4, .int .i64 0), (5, v3), (7, .pointer (some ⟨g14, 0, none⟩)), (9, .pointer (some ⟨g17, 0, none⟩)), (10, fx), (11, .int .i64 (i : Int))]) (fun (ox, N, fx, i) => [own ObT ox N, own iTy fx (freeL (aliveR l R) ((l10.take i).map Ob.c)), blkA g17 #[ox, rv9] 25, blkA g14 #[ov8, rv9] 25, frz (GrA ov8 rv9 l10 R), own iTy v3 (aliveR l R), blkA g2 #[(.slice none 0 0), (.slice none 0 0)] 25, blkA g1 #[ov, rv] 25]) (fun (ox, N, fx, i) => l10.length - i) (.slice none 0 0, [], (.slice (some ⟨g18, 0, none⟩) 0 0), 0) ⟨Nat.zero_le _, rfl, by simp, Nat.le_refl _⟩ (sub_of rfl ⟨⟨rfl, rfl⟩, ⟨⟨rfl, rfl⟩, ⟨⟨rfl, rfl⟩, ⟨⟨rfl, rfl⟩, ⟨⟨rfl, rfl⟩, ⟨⟨rfl, rfl⟩, ⟨⟨rfl, rfl⟩, ⟨⟨rfl, rfl⟩, trivial⟩⟩⟩⟩⟩⟩⟩⟩) (fun _ h => h.re [0, 0, 0, 0, 0, 0, 0, 0] []) ?_
    rintro ⟨ox, N, fx, i⟩ hi19
    replace hi19 : i ≤ l10.length ∧ N.map Ob.c = lastL (aliveR l R) ((l10.take i).map Ob.c) ∧ (∀ x ∈ N, x ∈ l10) ∧ N.length ≤ i := hi19
    show SK _ _ _ _ _ [(2, .pointer (some ⟨g2, 0, none⟩)), (3, (.slice none 0 0)), (4, .int .i64 0), (5, v3), (7, .pointer (some ⟨g14, 0, none⟩)), (9, .pointer (some ⟨g17, 0, none⟩)), (10, fx), (11, .int .i64 (i : Int))] _ [own ObT ox N, own iTy fx (freeL (aliveR l R) ((l10.take i).map Ob.c)), blkA g17 #[ox, rv9] 25, blkA g14 #[ov8, rv9] 25, frz (GrA ov8 rv9 l10 R), own iTy v3 (aliveR l R), blkA g2 #[(.slice none 0 0), (.slice none 0 0)] 25, blkA g1 #[ov, rv] 25]
    have hNl := hi19.2.2.2; have hfl := free_len (aliveR l R) ((l10.take i).map Ob.c); rw [List.length_map, List.length_take] at hfl
    refine k_seq ?_
    refine k_seq ?_
    refine k_reg ?_
    refine s_lt (t_pure (.int .i64 (i : Int))) ?_
    refine s_lt (t_pure (.pointer (some ⟨g14, 0, none⟩))) ?_
    refine s_lt (t_load 3 ov8) ?_
    refine s_lt (t_len ObT_ok Try.underlying22 (accF 4)) ?_
    refine s_lt t_cmp ?_
    refine s_nil ?_
    refine xs_then ?_
    refine k_cond (decide ((i : Int) < (l10.length : Int))) (fun c20 => ?_) (fun c20 => ?_)
    ·
      have p21 := of_decide_eq_true c20
      refine k_skip ?_
      refine xs_then ?_
      refine k_seq ?_
      refine k_block ?_
      refine k_seq ?_
      refine k_reg ?_
      refine s_lt (t_pure v3) ?_
      refine s_lt (t_pure (.pointer (some ⟨g14, 0, none⟩))) ?_
      refine s_lt (t_load 3 ov8) ?_
      refine s_lt (t_pure (.int .i64 (i : Int))) ?_
      refine s_lt (t_index ObT_ok Try.underlying22 (accF 4) (i : Int) i (by omega) (by (try simp only [List.length_nil, List.length_cons, List.length_append, List.length_take, List.length_drop, List.length_set, List.length_replicate, List.length_reverse, bits_len]); omega) (by omega)) ?_
      refine s_lt (t_pure (.pointer (some (elemAt ObT.size ov8 i)))) ?_
      obtain ⟨y22, hy23⟩ : ∃ y, l10[i]? = some y := ⟨_, List.getElem?_eq_getElem (by (try simp only [List.length_nil, List.length_cons, List.length_append, List.length_take, List.length_drop, List.length_set, List.length_replicate, List.length_reverse, bits_len]); omega)⟩
      refine s_lt (t_loadF 0 ObT_ok (accF 4) hy23) ?_
      refine s_vcall (fun _ h => in_s y22.id (Acc.kn (.own 5) h) (alive_asc l R) (by have := alive_len l R; omega)) ?_
      rintro _ rfl
      refine s_nil ?_
      refine xs_then ?_
      refine k_cond (decide (y22.id ∈ (aliveR l R))) (fun c24 => ?_) (fun c24 => ?_)
      ·
        have p25 := of_decide_eq_true c24
        refine k_draw ?_
        refine s_lt (t_pure (.pointer (some ⟨g17, 0, none⟩))) ?_
        refine s_lt (t_load 2 ox) ?_
        refine s_lt (t_pure (.pointer (some ⟨g14, 0, none⟩))) ?_
        refine s_lt (t_load 3 ov8) ?_
        refine s_lt (t_pure (.int .i64 (i : Int))) ?_
        refine s_lt (t_index ObT_ok Try.underlying22 (accF 4) (i : Int) i (by omega) (by (try simp only [List.length_nil, List.length_cons, List.length_append, List.length_take, List.length_drop, List.length_set, List.length_replicate, List.length_reverse, bits_len]); omega) (by omega)) ?_
        refine s_lt (t_loadE ObT_ok (accF 4) hy23) ?_
        refine s_buildSlice (e := 42) [(0, .agg #[.int .i64 y22.id, .int .i64 y22.size, .int .i64 y22.weak, y22.rv.v, y22.ev.v])] #[.int .i64 y22.id, .int .i64 y22.size, .int .i64 y22.weak, y22.rv.v, y22.ev.v] (fun g26 => ?_) (hb := by kernel_rfl)
        refine s_append (L := N) 1 ObT_ok Try.underlying22 (.lit 0 ObT_ok [y22]) (by show _ * 72 ≤ _; (try simp only [List.length_nil, List.length_cons, List.length_append, List.length_take, List.length_drop, List.length_set, List.length_replicate, List.length_reverse, bits_len]); omega) (by (try simp only [List.length_nil, List.length_cons, List.length_append, List.length_take, List.length_drop, List.length_set, List.length_replicate, List.length_reverse, bits_len]); omega) (fun v27 => ?_)
        refine s_fact (fun H h => ((Acc.own (T := ObT) (L := (N ++ [y22])) 1 rfl) H h).form) (fun hf28 => ?_)
        refine s_lt (t_pure (.pointer (some ⟨g17, 0, none⟩))) ?_
        refine s_store (u := v27) (m := 1) 3 #[v27, rv9] ?_ (hm := by (obtain ⟨_, _, e0⟩ := hf28; rw [e0]; rfl)) (h1 := by (obtain ⟨_, _, e0⟩ := hf28; rw [e0]; rfl)) (ha' := by (obtain ⟨_, _, e0⟩ := hf28; rw [e0]; rfl))
        refine s_nil ?_
        refine x_dynS (fun _ h => by kernel_rfl) ?_
        refine xs_block ?_
        refine xs_then ?_
        refine k_reg ?_
        refine s_lt (t_pure (.int .i64 (i : Int))) ?_
        refine s_lt (t_add (i : Int) 1 (by (try simp only [List.length_nil, List.length_cons, List.length_append, List.length_take, List.length_drop, List.length_set, List.length_replicate, List.length_reverse, bits_len]); omega)) ?_
        refine s_lt (t_pure (.int .i64 ((i : Int) + 1))) ?_
        refine s_nil ?_
        have hin : y22.id ∈ aliveR l R := p25
        rw [free_no hy23 hin]
        exact xs_round (v27, N ++ [y22], fx, i + 1) (by show l10.length - (i + 1) < l10.length - i; omega) (by obtain ⟨hk1, hk2, hk3, hk4⟩ := hi19; exact ⟨by omega, last_yes hy23 hin hk2, fun x hx => by rcases List.mem_append.1 hx with hx | hx; exact hk3 x hx; simp at hx; subst hx; exact List.mem_of_getElem? hy23, by rw [List.length_append]; simp only [List.length_singleton]; omega⟩) (sub_of rfl ⟨⟨rfl, rfl⟩, ⟨⟨rfl, rfl⟩, ⟨⟨rfl, rfl⟩, ⟨⟨rfl, rfl⟩, ⟨⟨rfl, rfl⟩, ⟨⟨rfl, rfl⟩, ⟨⟨rfl, rfl⟩, ⟨⟨rfl, rfl⟩, trivial⟩⟩⟩⟩⟩⟩⟩⟩) (fun _ h => h.re [1, 1, 1, 1, 1, 1, 1, 1] [8])
      ·
        have p29 := of_decide_eq_false c24
        refine k_reg ?_
        refine s_lt (t_pure fx) ?_
        refine s_lt (t_pure (.pointer (some ⟨g14, 0, none⟩))) ?_
        refine s_lt (t_load 3 ov8) ?_
        refine s_lt (t_pure (.int .i64 (i : Int))) ?_
        refine s_lt (t_index ObT_ok Try.underlying22 (accF 4) (i : Int) i (by omega) (by (try simp only [List.length_nil, List.length_cons, List.length_append, List.length_take, List.length_drop, List.length_set, List.length_replicate, List.length_reverse, bits_len]); omega) (by omega)) ?_
        refine s_lt (t_pure (.pointer (some (elemAt ObT.size ov8 i)))) ?_
        refine s_lt (t_loadF 0 ObT_ok (accF 4) hy23) ?_
        refine s_buildSlice (e := 3) [(0, .int .i64 y22.id)] #[.int .i64 y22.id] (fun g30 => ?_) (hb := by kernel_rfl)
        refine s_append (L := (freeL (aliveR l R) ((l10.take i).map Ob.c))) 2 iTy_ok Try.underlying23 (.lit 0 iTy_ok [y22.id]) (by show _ * 8 ≤ _; (try simp only [List.length_nil, List.length_cons, List.length_append, List.length_take, List.length_drop, List.length_set, List.length_replicate, List.length_reverse, bits_len]); omega) (by (try simp only [List.length_nil, List.length_cons, List.length_append, List.length_take, List.length_drop, List.length_set, List.length_replicate, List.length_reverse, bits_len]); omega) (fun v31 => ?_)
        refine s_fact (fun H h => ((Acc.own (T := iTy) (L := ((freeL (aliveR l R) ((l10.take i).map Ob.c)) ++ [y22.id])) 2 rfl) H h).form) (fun hf32 => ?_)
        refine s_lt (t_pure v31) ?_
        refine s_nil ?_
        refine xs_block ?_
        refine xs_then ?_
        refine k_reg ?_
        refine s_lt (t_pure (.int .i64 (i : Int))) ?_
        refine s_lt (t_add (i : Int) 1 (by (try simp only [List.length_nil, List.length_cons, List.length_append, List.length_take, List.length_drop, List.length_set, List.length_replicate, List.length_reverse, bits_len]); omega)) ?_
        refine s_lt (t_pure (.int .i64 ((i : Int) + 1))) ?_
        refine s_nil ?_
        have hin : y22.id ∉ aliveR l R := p29
        rw [free_yes hy23 hin]
        exact xs_round (ox, N, v31, i + 1) (by show l10.length - (i + 1) < l10.length - i; omega) (by obtain ⟨hk1, hk2, hk3, hk4⟩ := hi19; exact ⟨by omega, last_no hy23 hin hk2, hk3, by omega⟩) (sub_of rfl ⟨⟨rfl, rfl⟩, ⟨⟨rfl, rfl⟩, ⟨⟨rfl, rfl⟩, ⟨⟨rfl, rfl⟩, ⟨⟨rfl, rfl⟩, ⟨⟨rfl, rfl⟩, ⟨⟨rfl, rfl⟩, ⟨⟨rfl, rfl⟩, trivial⟩⟩⟩⟩⟩⟩⟩⟩) (fun _ h => h.re [1, 1, 1, 1, 1, 1, 1, 1] [8])
    ·
      have p33 := of_decide_eq_false c20
      refine k_exit ?_
      obtain rfl : i = l10.length := by omega
      have hfz : freeL (aliveR l R) ((l10.take l10.length).map Ob.c) = freeL (aliveR l R) (l.map (clr (aliveR l R))) := by rw [List.take_length, hl12]
      have hfl2 := free_len (aliveR l R) (l.map (clr (aliveR l R))); rw [List.length_map] at hfl2
      rw [hfz]
      refine xs_exit ?_
      refine xs_exit ?_
      refine xs_here ?_
      refine xs_then ?_
      refine k_seq ?_
      refine k_reg ?_
      refine s_lt (t_loadA 2 #[ox, rv9]) ?_
      refine s_lt (t_pure fx) ?_
      refine s_fact (fun H h => ((Acc.own (T := ObT) (L := N) 0 rfl) H h).form) (fun hf34 => ?_)
      refine s_store (u := .agg #[ox, rv9]) (m := 2) 6 #[ox, rv9] ?_ (hm := by (obtain ⟨_, _, e0⟩ := hf34; obtain ⟨_, _, e1⟩ := hf16; rw [e0, e1]; rfl)) (h1 := by (obtain ⟨_, _, e0⟩ := hf34; obtain ⟨_, _, e1⟩ := hf16; rw [e0, e1]; rfl)) (ha' := by (obtain ⟨_, _, e0⟩ := hf34; obtain ⟨_, _, e1⟩ := hf16; rw [e0, e1]; rfl))
      refine s_lt (t_pure fx) ?_
      refine s_lt (t_pure (.int .i64 0)) ?_
      refine s_nil ?_
      refine xs_then ?_
      refine k_ret ?_
      obtain ⟨hk1, hk2, hk3, hk4⟩ := hi19
      rw [List.take_length, hl12] at hk2
      exact xs_fin [.agg #[ox, rv9], fx, .int .i64 0] [frz (GrA ox rv9 N R), own iTy fx (freeL (aliveR l R) (l.map (clr (aliveR l R))))] (SI.agg 2 25 6 (SI.tmp 3 (SI.tmp 4 SI.nil))) (fun _ h => gr_part hk3 (h.re [0, 3, 0] [3, 3, 3, 3, 3])) ⟨_, _, _, N, R, by rw [hc]; rfl, by rw [collL_ok hc]; exact hk2, by rw [hc]; rfl, by rw [collF_ok hc]⟩
end Go.Proofs.Ytjdlkemmcnncaaa
