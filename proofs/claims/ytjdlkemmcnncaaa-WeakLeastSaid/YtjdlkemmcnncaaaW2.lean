/-
  The marker of layer 26: its methods. Each law says its conditions.
-/
import Derived.Test.YtjdlkemmcnncaaaW1
import Derived.Test.YtjdlkemmcnncaaaL2
set_option linter.unusedSimpArgs false
set_option linter.unusedVariables false
set_option maxRecDepth 100000
namespace Go.Proofs.Ytjdlkemmcnncaaa
open Go.Hp Go.J Go.S
open Go.Mem (Ty KTy blk elemAt pre suf blk_pre blk_suf aget aset strK aggDesc)
open Go.Mem (aget_aset aset_new apos aget_none_iff)
def keyed (l : List Ob) : List Int := (tabs l).map Ob.id
def atL (l : List Ob) : List (Int × Ob) := l.map fun o => (o.id, o)
def mkL (M : List Int) : List (Int × Int) := M.map fun x => (x, 1)
def mkI (M : List Int) (k : Int) : Int := if k ∈ M then 1 else 0
theorem mkI_ne {M : List Int} {k : Int} (h : mkI M k ≠ 0) : k ∈ M := by unfold mkI at h; split at h <;> simp_all
theorem mkI_eq {M : List Int} {k : Int} (h : mkI M k = 0) : k ∉ M := by unfold mkI at h; split at h <;> simp_all
theorem aget_at (l : List Ob) (k : Int) : aget (atL l) k = fnd l k := by
  unfold atL fnd
  induction l with
  | nil => rfl
  | cons o r ih => simp only [List.map_cons, aget, List.find?_cons, ih]; by_cases h : o.id = k <;> simp [h]
theorem aget_mk (M : List Int) (k : Int) : aget (mkL M) k = if k ∈ M then some 1 else none := by
  unfold mkL
  induction M with
  | nil => rfl
  | cons x r ih => 
    simp only [List.map_cons, aget, ih, List.mem_cons]
    by_cases h : x = k
    · simp [h]
    · have h2 : ¬ k = x := fun e => h e.symm
      simp [h, h2]
theorem got_mk (M : List Int) (k : Int) : ((aget (mkL M) k).map iV).getD (.int .i64 0) = .int .i64 (mkI M k) := by
  rw [aget_mk]; unfold mkI; split <;> rfl
theorem apos_none_of {β : Type} {m : List (Int × β)} {k : Int} (h : k ∉ m.map Prod.fst) : apos m k = none := by
  cases hp : apos m k with
  | none => rfl
  | some i => obtain ⟨_, x, h1, _⟩ := Go.Mem.apos_lt hp; exact absurd (List.mem_map.2 ⟨_, List.mem_of_getElem? h1, rfl⟩) h
theorem aset_mk {M : List Int} {k : Int} (h : k ∉ M) : aset (mkL M) k 1 = mkL (M ++ [k]) := by
  rw [aset_new (apos_none_of (by simpa [mkL, List.map_map, Function.comp_def] using h))]; simp [mkL]
theorem aset_at {l : List Ob} (hl : Asc l) {i : Nat} {y : Ob} (hy : l[i]? = some y) : aset (atL (l.take i)) y.id y = atL (l.take (i + 1)) := by
  rw [aset_new (apos_none_of ?_), List.take_add_one, hy]
  · simp [atL]
  · intro hm
    simp only [atL, List.map_map, List.mem_map, Function.comp_def] at hm
    obtain ⟨o, ho, e⟩ := hm
    obtain ⟨j, hj⟩ := List.mem_iff_getElem?.1 ho
    rw [List.getElem?_take] at hj
    split at hj
    · rename_i hlt
      have := asc_lt hl hj hy hlt
      omega
    · cases hj
theorem keyed_yes {l : List Ob} {i : Nat} {y : Ob} (hy : l[i]? = some y) (h : y.weak = 1) : keyed (l.take i) ++ [y.id] = keyed (l.take (i + 1)) := by
  rw [List.take_add_one, hy]; simp [keyed, tabs, List.filter_append, h]
theorem keyed_no {l : List Ob} {i : Nat} {y : Ob} (hy : l[i]? = some y) (h : ¬ y.weak = 1) : keyed (l.take i) = keyed (l.take (i + 1)) := by
  rw [List.take_add_one, hy]; simp [keyed, tabs, List.filter_append, h]
theorem keyed_asc {l : List Ob} (h : Asc l) : (keyed l).Pairwise (· < ·) := by
  unfold keyed tabs; rw [List.pairwise_map]; exact h.filter _
theorem keyed_len (l : List Ob) : (keyed l).length ≤ l.length := by
  unfold keyed tabs; rw [List.length_map]; exact List.length_filter_le _ _
theorem keyed_get {l : List Ob} (hl : Asc l) {i : Nat} {y : Int} (h : (keyed l)[i]? = some y) : ∃ o, (tabs l)[i]? = some o ∧ o.id = y ∧ o.weak = 1 ∧ fnd l y = some o ∧ o ∈ l := by
  unfold keyed at h
  rw [List.getElem?_map, Option.map_eq_some_iff] at h
  obtain ⟨o, ho, rfl⟩ := h
  have hm := List.mem_of_getElem? ho
  have hm' : o ∈ l ∧ o.weak = 1 := by simpa [tabs] using hm
  exact ⟨o, ho, rfl, hm'.2, fnd_mem hl hm'.1, hm'.1⟩
theorem keyed_tabs (l : List Ob) : (keyed l).length = (tabs l).length := List.length_map _
theorem kept_all (W : List Int) (o : Ob) : W ++ o.refs ++ o.ents.flatMap (keptE o.weak) = W ++ keptO o := by rw [List.append_assoc]; rfl
theorem kept_pre (o : Ob) (k : Nat) : o.refs.length + ((o.ents.take k).flatMap (keptE o.weak)).length ≤ (keptO o).length := by
  have : o.ents.flatMap (keptE o.weak) = (o.ents.take k).flatMap (keptE o.weak) ++ (o.ents.drop k).flatMap (keptE o.weak) := by rw [← List.flatMap_append, List.take_append_drop]
  unfold keptO; rw [this]; simp only [List.length_append]; omega
theorem kept_pre1 {o : Ob} {k : Nat} {e : Ent} (h : o.ents[k]? = some e) : o.refs.length + ((o.ents.take k).flatMap (keptE o.weak)).length + (keptE o.weak e).length ≤ (keptO o).length := by
  have h1 := kept_pre o (k + 1)
  rw [← kept_take h, List.length_append] at h1; omega
theorem kept_step {weak : Int} {L : List Ent} {k : Nat} {e : Ent} (A : List Int) (h : L[k]? = some e) : A ++ (L.take k).flatMap (keptE weak) ++ keptE weak e = A ++ (L.take (k + 1)).flatMap (keptE weak) := by rw [List.append_assoc, kept_take h]
/-- A marker in memory. -/
def mkA (t : TypeId) (b : Nat) (l : List Ob) (M : List Int) : Asr := exA fun a => exA fun m => exA fun kv => stA True [blkA b #[.map (some a), .map (some m), kv] t, mpA (Go.Mem.intK 3) Ob.v a (atL l), mpA (Go.Mem.intK 3) iV m (mkL M), own iTy kv (keyed l)]
theorem mk_open {t : TypeId} {b : Nat} {l : List Ob} {M : List Int} {Z : Zone} {F : List Asr} {H : Heap} (h : Holds Z (mkA t b l M :: F) H) : ∃ a m kv, True ∧ Holds Z (blkA b #[.map (some a), .map (some m), kv] t :: mpA (Go.Mem.intK 3) Ob.v a (atL l) :: mpA (Go.Mem.intK 3) iV m (mkL M) :: own iTy kv (keyed l) :: F) H := by
  obtain ⟨a, h⟩ := h.open_ex
  obtain ⟨m, h⟩ := h.open_ex
  obtain ⟨kv, h⟩ := h.open_ex
  exact ⟨a, m, kv, h.open_st⟩
theorem mk_shut {t : TypeId} {b : Nat} {l : List Ob} {M : List Int} {Z : Zone} {F : List Asr} {H : Heap} {a m : Nat} {kv : Value} (h : Holds Z (blkA b #[.map (some a), .map (some m), kv] t :: mpA (Go.Mem.intK 3) Ob.v a (atL l) :: mpA (Go.Mem.intK 3) iV m (mkL M) :: own iTy kv (keyed l) :: F) H) : Holds Z (mkA t b l M :: F) H :=
  Holds.shut_ex a (Holds.shut_ex m (Holds.shut_ex kv (Holds.shut_st trivial h)))
theorem kept_s {Z : Zone} (weak : Int) (e : Ent) : SF Try.prog 50 #[.int .i64 weak, e.v] Z [] fun r Bs => Bs = [own iTy r (keptE weak e)] := by
  refine sf_enter Try.func50 26 [(0, .int .i64 weak), (1, .agg #[.int .i64 e.key, .int .i64 e.val])] (fun w0 => ?_)
  refine k_seq ?_
  refine k_reg ?_
  refine s_box #[.int .i64 e.key, .int .i64 e.val] (fun g1 => ?_)
  refine s_lt (t_pure (.slice none 0 0)) ?_
  refine s_nil ?_
  refine xs_then ?_
  refine k_seq ?_
  refine k_seq ?_
  refine k_reg ?_
  refine s_lt (t_pure (.int .i64 weak)) ?_
  refine s_nil ?_
  refine xs_then ?_
  refine k_block ?_
  refine k_seq ?_
  refine k_reg ?_
  refine s_lt t_cmp ?_
  refine s_lt (t_pure (.bool (decide (weak = 1)))) ?_
  refine s_nil ?_
  refine xs_then ?_
  refine k_cond (decide (weak = 1)) (fun c2 => ?_) (fun c2 => ?_)
  ·
    have p3 := of_decide_eq_true c2
    refine k_seq ?_
    refine k_seq ?_
    refine k_reg ?_
    refine s_lt (t_pure (.pointer (some ⟨g1, 0, none⟩))) ?_
    refine s_lt (t_load 0 (.int .i64 e.key)) ?_
    refine s_lt t_cmp ?_
    refine s_nil ?_
    refine xs_then ?_
    refine k_cond (decide (e.key = 0)) (fun c4 => ?_) (fun c4 => ?_)
    ·
      have p5 := of_decide_eq_true c4
      refine k_seq ?_
      refine k_reg ?_
      refine s_lt (t_pure (.pointer (some ⟨g1, 1, none⟩))) ?_
      refine s_lt (t_load 0 (.int .i64 e.val)) ?_
      refine s_buildSlice (e := 3) [(0, .int .i64 e.val)] #[.int .i64 e.val] (fun g6 => ?_) (hb := by kernel_rfl)
      refine s_lt (t_pure (.slice (some ⟨g6, 0, none⟩) 1 1)) ?_
      refine s_nil ?_
      refine xs_then ?_
      refine k_ret ?_
      refine xs_ret ?_
      refine xs_retBlock ?_
      refine xs_ret ?_
      have hq : keptE weak e = [e.val] := by simp [keptE, p3, p5]
      exact xs_fin [(.slice (some ⟨g6, 0, none⟩) 1 1)] [own iTy (.slice (some ⟨g6, 0, none⟩) 1 1) (keptE weak e)] (SI.tmp 4 SI.nil) (fun _ h => by rw [hq]; exact (Holds.slice 0 h iTy_ok [e.val]).re [0] [1]) rfl
    ·
      have p7 := of_decide_eq_false c4
      refine k_skip ?_
      refine xs_then ?_
      refine k_seq ?_
      refine k_reg ?_
      refine s_lt (t_pure (.slice none 0 0)) ?_
      refine s_nil ?_
      refine xs_then ?_
      refine k_ret ?_
      refine xs_retBlock ?_
      refine xs_ret ?_
      have hq : keptE weak e = [] := by simp [keptE, p3, p7]
      exact xs_fin [(.slice none 0 0)] [own iTy (.slice none 0 0) (keptE weak e)] (SI.tmp 4 SI.nil) (fun _ h => by rw [hq]; exact h.nilS.re [0] [1]) rfl
  ·
    have p8 := of_decide_eq_false c2
    refine k_seq ?_
    refine k_reg ?_
    refine s_lt t_cmp ?_
    refine s_lt (t_pure (.bool (decide (weak = 2)))) ?_
    refine s_nil ?_
    refine xs_then ?_
    refine k_cond (decide (weak = 2)) (fun c9 => ?_) (fun c9 => ?_)
    ·
      have p10 := of_decide_eq_true c9
      refine k_seq ?_
      refine k_reg ?_
      refine s_lt (t_pure (.pointer (some ⟨g1, 0, none⟩))) ?_
      refine s_lt (t_load 0 (.int .i64 e.key)) ?_
      refine s_buildSlice (e := 3) [(0, .int .i64 e.key)] #[.int .i64 e.key] (fun g11 => ?_) (hb := by kernel_rfl)
      refine s_lt (t_pure (.slice (some ⟨g11, 0, none⟩) 1 1)) ?_
      refine s_nil ?_
      refine xs_then ?_
      refine k_ret ?_
      refine xs_retBlock ?_
      refine xs_ret ?_
      have hq : keptE weak e = [e.key] := by simp [keptE, p8, p10]
      exact xs_fin [(.slice (some ⟨g11, 0, none⟩) 1 1)] [own iTy (.slice (some ⟨g11, 0, none⟩) 1 1) (keptE weak e)] (SI.tmp 4 SI.nil) (fun _ h => by rw [hq]; exact (Holds.slice 0 h iTy_ok [e.key]).re [0] [1]) rfl
    ·
      have p12 := of_decide_eq_false c9
      refine k_seq ?_
      refine k_reg ?_
      refine s_lt t_cmp ?_
      refine s_lt (t_pure (.bool (decide (weak = 3)))) ?_
      refine s_nil ?_
      refine xs_then ?_
      refine k_cond (decide (weak = 3)) (fun c13 => ?_) (fun c13 => ?_)
      ·
        have p14 := of_decide_eq_true c13
        refine k_seq ?_
        refine k_reg ?_
        refine s_lt (t_pure (.slice none 0 0)) ?_
        refine s_nil ?_
        refine xs_then ?_
        refine k_ret ?_
        refine xs_retBlock ?_
        refine xs_ret ?_
        have hq : keptE weak e = [] := by simp [keptE, p8, p12, p14]
        exact xs_fin [(.slice none 0 0)] [own iTy (.slice none 0 0) (keptE weak e)] (SI.tmp 4 SI.nil) (fun _ h => by rw [hq]; exact h.nilS.re [0] [1]) rfl
      ·
        have p15 := of_decide_eq_false c13
        refine k_skip ?_
        refine xs_block ?_
        refine xs_then ?_
        refine k_seq ?_
        refine k_reg ?_
        refine s_lt (t_pure (.pointer (some ⟨g1, 0, none⟩))) ?_
        refine s_lt (t_load 0 (.int .i64 e.key)) ?_
        refine s_lt (t_pure (.pointer (some ⟨g1, 1, none⟩))) ?_
        refine s_lt (t_load 0 (.int .i64 e.val)) ?_
        refine s_buildSlice (e := 3) [(0, .int .i64 e.key), (1, .int .i64 e.val)] #[.int .i64 e.key, .int .i64 e.val] (fun g16 => ?_) (hb := by kernel_rfl)
        refine s_lt (t_pure (.slice (some ⟨g16, 0, none⟩) 2 2)) ?_
        refine s_nil ?_
        refine xs_then ?_
        refine k_ret ?_
        have hq : keptE weak e = [e.key, e.val] := by simp [keptE, p8, p12, p15]
        exact xs_fin [(.slice (some ⟨g16, 0, none⟩) 2 2)] [own iTy (.slice (some ⟨g16, 0, none⟩) 2 2) (keptE weak e)] (SI.tmp 4 SI.nil) (fun _ h => by rw [hq]; exact (Holds.slice 0 h iTy_ok [e.key, e.val]).re [0] [1]) rfl
theorem newMarker_s {Z : Zone} {ov rv : Value} {l : List Ob} {R : List Int} (hg : KnG Z ov rv l R) (hs : Asc l) (hl : l.length ≤ 100000) : SF Try.prog 28 #[.agg #[ov, rv]] Z [] fun r Bs => ∃ b, r = .pointer (some ⟨b, 0, none⟩) ∧ Bs = [mkA 71 b l []] := by
  refine sf_enter Try.func28 45 [(0, .agg #[ov, rv])] (fun w0 => ?_)
  refine k_seq ?_
  refine k_reg ?_
  refine s_box #[ov, rv] (fun g1 => ?_)
  refine s_lt (t_pure (.pointer none)) ?_
  refine s_nil ?_
  refine xs_then ?_
  refine k_seq ?_
  refine k_reg ?_
  refine s_makeMap (Go.Mem.intK 3) Ob.v (fun b2 => ?_)
  refine s_makeMap (Go.Mem.intK 3) iV (fun b3 => ?_)
  refine s_lt (t_kern (.agg #[.map (some b2), .map (some b3), (.slice none 0 0)])) ?_
  refine s_box #[.map (some b2), .map (some b3), (.slice none 0 0)] (fun g4 => ?_)
  refine s_lt (t_pure (.pointer (some ⟨g4, 0, none⟩))) ?_
  refine s_nil ?_
  refine xs_then ?_
  refine k_seq ?_
  refine k_seq ?_
  refine k_reg ?_
  refine s_lt (t_pure (.pointer (some ⟨g1, 0, none⟩))) ?_
  refine s_lt (t_load 3 ov) ?_
  refine s_lt (t_len ObT_ok Try.underlying22 (.zn hg.obs)) ?_
  refine s_lt (t_pure (.int .i64 0)) ?_
  refine s_nil ?_
  refine xs_then ?_
  refine k_block ?_
  refine k_mem (fun _ h => Holds.nilS (T := iTy) h) ?_
  rw [show ([] : List Int) = keyed (l.take 0) from rfl]
  rw [show mpA (Go.Mem.intK 3) Ob.v b2 [] = mpA (Go.Mem.intK 3) Ob.v b2 (atL (l.take 0)) from rfl]
  refine k_loop (ι := Value × Nat) (fun (kx, i) => i ≤ l.length) (fun (kx, i) => [(2, .pointer none), (3, .pointer (some ⟨g4, 0, none⟩)), (11, ov), (12, .int .i64 (l.length : Int)), (13, .int .i64 (i : Int))]) (fun (kx, i) => [own iTy kx (keyed (l.take i)), blkA g4 #[.map (some b2), .map (some b3), kx] 71, mpA (Go.Mem.intK 3) iV b3 [], mpA (Go.Mem.intK 3) Ob.v b2 (atL (l.take i)), blkA g1 #[ov, rv] 25]) (fun (kx, i) => l.length - i) (.slice none 0 0, 0) (Nat.zero_le _) (sub_of rfl ⟨⟨rfl, rfl⟩, ⟨⟨rfl, rfl⟩, ⟨⟨rfl, rfl⟩, ⟨⟨rfl, rfl⟩, ⟨⟨rfl, rfl⟩, trivial⟩⟩⟩⟩⟩) (fun _ h => h.re [0, 0, 0, 0, 0] []) ?_
  rintro ⟨kx, i⟩ hi5
  replace hi5 : i ≤ l.length := hi5
  show SK _ _ _ _ _ [(2, .pointer none), (3, .pointer (some ⟨g4, 0, none⟩)), (11, ov), (12, .int .i64 (l.length : Int)), (13, .int .i64 (i : Int))] _ [own iTy kx (keyed (l.take i)), blkA g4 #[.map (some b2), .map (some b3), kx] 71, mpA (Go.Mem.intK 3) iV b3 [], mpA (Go.Mem.intK 3) Ob.v b2 (atL (l.take i)), blkA g1 #[ov, rv] 25]
  have hkl := keyed_len (l.take i); rw [List.length_take] at hkl
  refine k_seq ?_
  refine k_reg ?_
  refine s_lt t_cmp ?_
  refine s_nil ?_
  refine xs_then ?_
  refine k_seq ?_
  refine k_cond (decide ((i : Int) < (l.length : Int))) (fun c6 => ?_) (fun c6 => ?_)
  ·
    have p7 := of_decide_eq_true c6
    refine k_skip ?_
    refine xs_then ?_
    refine k_seq ?_
    refine k_block ?_
    refine k_seq ?_
    refine k_reg ?_
    refine s_lt (t_index ObT_ok Try.underlying22 (.zn hg.obs) (i : Int) i (by omega) (by (try simp only [List.length_nil, List.length_cons, List.length_append, List.length_take, List.length_drop, List.length_set, List.length_replicate, List.length_reverse]); omega) (by omega)) ?_
    obtain ⟨y8, hy9⟩ : ∃ y, l[i]? = some y := ⟨_, List.getElem?_eq_getElem (by (try simp only [List.length_nil, List.length_cons, List.length_append, List.length_take, List.length_drop, List.length_set, List.length_replicate, List.length_reverse]); omega)⟩
    have hk10 := hg.each y8 (List.mem_of_getElem? hy9)
    refine s_lt (t_loadE ObT_ok (.zn hg.obs) hy9) ?_
    refine s_alloc (.agg #[.int .i64 0, .int .i64 0, .int .i64 0, (.slice none 0 0), (.slice none 0 0)]) #[.int .i64 0, .int .i64 0, .int .i64 0, (.slice none 0 0), (.slice none 0 0)] (fun g11 => ?_)
    refine s_store 0 #[.int .i64 y8.id, .int .i64 y8.size, .int .i64 y8.weak, y8.rv.v, y8.ev.v] ?_
    refine s_nil ?_
    refine xs_then ?_
    refine k_seq ?_
    refine k_draw ?_
    refine s_lt (t_pure (.pointer (some ⟨g4, 0, none⟩))) ?_
    refine s_lt (t_pure (.pointer (some ⟨g4, 0, none⟩))) ?_
    refine s_lt (t_pure (.pointer (some ⟨g4, 0, none⟩))) ?_
    refine s_lt (t_load 2 (.map (some b2))) ?_
    refine s_lt (t_pure (.pointer (some ⟨g11, 0, none⟩))) ?_
    refine s_lt (t_load 0 (.int .i64 y8.id)) ?_
    refine s_lt (t_loadA 0 #[.int .i64 y8.id, .int .i64 y8.size, .int .i64 y8.weak, y8.rv.v, y8.ev.v]) ?_
    refine s_update 4 intOk Try.underlying68 y8.id y8 ?_
    refine s_nil ?_
    refine x_dynS (fun _ h => by kernel_rfl) ?_
    refine xs_then ?_
    refine k_seq ?_
    refine k_reg ?_
    refine s_lt (t_pure (.pointer (some ⟨g11, 2, none⟩))) ?_
    refine s_lt (t_load 0 (.int .i64 y8.weak)) ?_
    refine s_lt t_cmp ?_
    refine s_nil ?_
    refine xs_then ?_
    refine k_cond (decide (y8.weak = 1)) (fun c12 => ?_) (fun c12 => ?_)
    ·
      have p13 := of_decide_eq_true c12
      refine k_draw ?_
      refine s_lt (t_pure (.pointer (some ⟨g4, 0, none⟩))) ?_
      refine s_lt (t_pure (.pointer (some ⟨g4, 0, none⟩))) ?_
      refine s_lt (t_pure (.pointer (some ⟨g4, 0, none⟩))) ?_
      refine s_lt (t_pure (.pointer (some ⟨g4, 2, none⟩))) ?_
      refine s_lt (t_load 2 kx) ?_
      refine s_lt (t_pure (.pointer (some ⟨g11, 0, none⟩))) ?_
      refine s_lt (t_load 0 (.int .i64 y8.id)) ?_
      refine s_buildSlice (e := 3) [(0, .int .i64 y8.id)] #[.int .i64 y8.id] (fun g14 => ?_) (hb := by kernel_rfl)
      refine s_append (L := (keyed (l.take i))) 2 iTy_ok Try.underlying23 (.lit 0 iTy_ok [y8.id]) (by show _ * 8 ≤ _; (try simp only [List.length_nil, List.length_cons, List.length_append, List.length_take, List.length_drop, List.length_set, List.length_replicate, List.length_reverse]); omega) (by (try simp only [List.length_nil, List.length_cons, List.length_append, List.length_take, List.length_drop, List.length_set, List.length_replicate, List.length_reverse]); omega) (fun v15 => ?_)
      refine s_lt (t_pure (.pointer (some ⟨g4, 0, none⟩))) ?_
      refine s_lt (t_pure (.pointer (some ⟨g4, 2, none⟩))) ?_
      refine s_fact (fun H h => ((Acc.own (T := iTy) (L := ((keyed (l.take i)) ++ [y8.id])) 2 rfl) H h).form) (fun hf16 => ?_)
      refine s_store (u := v15) (m := 1) 3 #[.map (some b2), .map (some b3), v15] ?_ (hm := by (obtain ⟨_, _, e⟩ := hf16; rw [e]; rfl)) (h1 := by (obtain ⟨_, _, e⟩ := hf16; rw [e]; rfl)) (ha' := by (obtain ⟨_, _, e⟩ := hf16; rw [e]; rfl))
      refine s_nil ?_
      refine x_dynS (fun _ h => by kernel_rfl) ?_
      refine xs_block ?_
      refine xs_then ?_
      refine k_reg ?_
      refine s_lt (t_add (i : Int) 1 (by (try simp only [List.length_nil, List.length_cons, List.length_append, List.length_take, List.length_drop, List.length_set, List.length_replicate, List.length_reverse]); omega)) ?_
      refine s_lt (t_pure (.int .i64 ((i : Int) + 1))) ?_
      refine s_nil ?_
      rw [aset_at hs hy9, keyed_yes hy9 p13]
      exact xs_round (v15, i + 1) (by show l.length - (i + 1) < l.length - i; omega) (by show i + 1 ≤ l.length; omega) (sub_of rfl ⟨⟨rfl, rfl⟩, ⟨⟨rfl, rfl⟩, ⟨⟨rfl, rfl⟩, ⟨⟨rfl, rfl⟩, ⟨⟨rfl, rfl⟩, trivial⟩⟩⟩⟩⟩) (fun _ h => h.re [2, 2, 2, 2, 2] [5, 5])
    ·
      have p17 := of_decide_eq_false c12
      refine k_skip ?_
      refine xs_block ?_
      refine xs_then ?_
      refine k_reg ?_
      refine s_lt (t_add (i : Int) 1 (by (try simp only [List.length_nil, List.length_cons, List.length_append, List.length_take, List.length_drop, List.length_set, List.length_replicate, List.length_reverse]); omega)) ?_
      refine s_lt (t_pure (.int .i64 ((i : Int) + 1))) ?_
      refine s_nil ?_
      rw [aset_at hs hy9, keyed_no hy9 p17]
      exact xs_round (kx, i + 1) (by show l.length - (i + 1) < l.length - i; omega) (by show i + 1 ≤ l.length; omega) (sub_of rfl ⟨⟨rfl, rfl⟩, ⟨⟨rfl, rfl⟩, ⟨⟨rfl, rfl⟩, ⟨⟨rfl, rfl⟩, ⟨⟨rfl, rfl⟩, trivial⟩⟩⟩⟩⟩) (fun _ h => h.re [1, 1, 1, 1, 1] [5])
  ·
    have p18 := of_decide_eq_false c6
    refine k_exit ?_
    obtain rfl : i = l.length := by omega
    have hkl2 := keyed_len l
    rw [List.take_length]
    refine xs_exit ?_
    refine xs_exit ?_
    refine xs_here ?_
    refine xs_then ?_
    refine k_seq ?_
    refine k_reg ?_
    refine s_lt (t_pure (.pointer (some ⟨g4, 0, none⟩))) ?_
    refine s_lt (t_pure (.pointer (some ⟨g4, 0, none⟩))) ?_
    refine s_lt (t_pure (.pointer (some ⟨g4, 2, none⟩))) ?_
    refine s_lt (t_load 1 kx) ?_
    refine s_call [0] (sort_s (L := (keyed l)) (by (try simp only [List.length_nil, List.length_cons, List.length_append, List.length_take, List.length_drop, List.length_set, List.length_replicate, List.length_reverse]); omega)) ?_
    rintro _ _ ⟨rfl, rfl⟩
    refine s_nil ?_
    refine xs_then ?_
    refine k_seq ?_
    refine k_reg ?_
    refine s_lt (t_pure (.pointer (some ⟨g4, 0, none⟩))) ?_
    refine s_lt (t_pure (.pointer (some ⟨g4, 0, none⟩))) ?_
    refine s_nil ?_
    refine xs_then ?_
    refine k_ret ?_
    exact xs_fin [.pointer (some ⟨g4, 0, none⟩)] [mkA 71 g4 l []] (SI.tmp 2 SI.nil) (fun _ h => mk_shut (by rw [srt_asc (keyed_asc hs)] at h; exact h.re [1, 2, 1, 0] [4])) ⟨g4, rfl, rfl⟩
theorem mark_s {Z : Zone} {F : List Asr} {b : Nat} {l : List Ob} {M0 : List Int} (hO : ∀ x ∈ l, KnO Z x) (hp : pot l [] ≤ 1000000) (id : Int) : SF Try.prog 40 #[.pointer (some ⟨b, 0, none⟩), .int .i64 id] Z (mkA 71 b l M0 :: F) fun r Bs => r = .bool (decide (M0.length < (dfs l M0 [id]).length)) ∧ Bs = mkA 71 b l (dfs l M0 [id]) :: F := by
  refine sf_enter Try.func40 72 [(0, .pointer (some ⟨b, 0, none⟩)), (1, .int .i64 id)] (fun w0 => ?_)
  refine k_mem3 (fun H h => mk_open (h.re [0] [])) (fun at1 mb2 kv3 hw => ?_)
  refine k_seq ?_
  refine k_reg ?_
  refine s_lt (t_pure (.bool false)) ?_
  refine s_nil ?_
  refine xs_then ?_
  refine k_seq ?_
  refine k_reg ?_
  refine s_lt (t_pure (.int .i64 id)) ?_
  refine s_buildSlice (e := 3) [(0, .int .i64 id)] #[.int .i64 id] (fun g4 => ?_) (hb := by kernel_rfl)
  refine s_lt (t_pure (.slice (some ⟨g4, 0, none⟩) 1 1)) ?_
  refine s_nil ?_
  refine xs_then ?_
  refine k_seq ?_
  refine k_reg ?_
  refine s_lt (t_pure (.bool false)) ?_
  refine s_nil ?_
  refine xs_then ?_
  refine k_seq ?_
  refine k_block ?_
  refine k_mem (fun _ h => Holds.slice 0 h iTy_ok [id]) ?_
  refine k_loop (ι := Value × List Int × List Int × Bool) (fun (sx, M, W, fr) => dfs l M0 [id] = dfs l M W ∧ M0.length ≤ M.length ∧ pot l M + W.length ≤ 1000001 ∧ fr = decide (M0.length < M.length)) (fun (sx, M, W, fr) => [(0, .pointer (some ⟨b, 0, none⟩)), (4, .bool false), (5, sx), (6, .bool fr)]) (fun (sx, M, W, fr) => own iTy sx W :: blkA b #[.map (some at1), .map (some mb2), kv3] 71 :: mpA (Go.Mem.intK 3) Ob.v at1 (atL l) :: mpA (Go.Mem.intK 3) iV mb2 (mkL M) :: own iTy kv3 (keyed l) :: F) (fun (sx, M, W, fr) => pot l M + W.length) ((.slice (some ⟨g4, 0, none⟩) 1 1), M0, [id], false) ⟨rfl, Nat.le_refl _, by have := pot_mono (M := []) (N := M0) (by simp) l; simp; omega, (decide_eq_false (Nat.lt_irrefl _)).symm⟩ (sub_of rfl ⟨⟨rfl, rfl⟩, ⟨⟨rfl, rfl⟩, ⟨⟨rfl, rfl⟩, ⟨⟨rfl, rfl⟩, trivial⟩⟩⟩⟩) (fun _ h => h.re [0, 0, 0, 0, 0] []) ?_
  rintro ⟨sx, M, W, fr⟩ hi5
  replace hi5 : dfs l M0 [id] = dfs l M W ∧ M0.length ≤ M.length ∧ pot l M + W.length ≤ 1000001 ∧ fr = decide (M0.length < M.length) := hi5
  show SK _ _ _ _ _ [(0, .pointer (some ⟨b, 0, none⟩)), (4, .bool false), (5, sx), (6, .bool fr)] _ (own iTy sx W :: blkA b #[.map (some at1), .map (some mb2), kv3] 71 :: mpA (Go.Mem.intK 3) Ob.v at1 (atL l) :: mpA (Go.Mem.intK 3) iV mb2 (mkL M) :: own iTy kv3 (keyed l) :: F)
  have hbnd := hi5.2.2.1
  refine k_seq ?_
  refine k_seq ?_
  refine k_reg ?_
  refine s_lt (t_pure sx) ?_
  refine s_lt (t_len iTy_ok Try.underlying23 (.own 0)) ?_
  refine s_lt t_cmp ?_
  refine s_nil ?_
  refine xs_then ?_
  refine k_cond (decide ((0 : Int) < (W.length : Int))) (fun c6 => ?_) (fun c6 => ?_)
  ·
    have p7 := of_decide_eq_true c6
    refine k_skip ?_
    refine xs_then ?_
    refine k_block ?_
    refine k_seq ?_
    refine k_reg ?_
    refine s_lt (t_pure sx) ?_
    refine s_lt (t_pure sx) ?_
    refine s_lt (t_len iTy_ok Try.underlying23 (.own 0)) ?_
    refine s_lt (t_sub (W.length : Int) 1 (by (try simp only [List.length_nil, List.length_cons, List.length_append, List.length_take, List.length_drop, List.length_set, List.length_replicate, List.length_reverse]); omega)) ?_
    refine s_lt (t_index iTy_ok Try.underlying23 (.own 0) ((W.length : Int) - 1) (W.length - 1) (by omega) (by (try simp only [List.length_nil, List.length_cons, List.length_append, List.length_take, List.length_drop, List.length_set, List.length_replicate, List.length_reverse]); omega) (by omega)) ?_
    obtain ⟨y8, hy9⟩ : ∃ y, W[(W.length - 1)]? = some y := ⟨_, List.getElem?_eq_getElem (by (try simp only [List.length_nil, List.length_cons, List.length_append, List.length_take, List.length_drop, List.length_set, List.length_replicate, List.length_reverse]); omega)⟩
    refine s_lt (t_loadE iTy_ok (.own 0) hy9) ?_
    refine s_lt (t_pure (.int .i64 y8)) ?_
    refine s_nil ?_
    refine xs_then ?_
    refine k_seq ?_
    refine k_reg ?_
    refine s_lt (t_pure sx) ?_
    refine s_lt (t_pure sx) ?_
    refine s_lt (t_len iTy_ok Try.underlying23 (.own 0)) ?_
    refine s_lt (t_sub (W.length : Int) 1 (by (try simp only [List.length_nil, List.length_cons, List.length_append, List.length_take, List.length_drop, List.length_set, List.length_replicate, List.length_reverse]); omega)) ?_
    refine s_lt (t_pre iTy_ok Try.underlying23 (.own 0) ((W.length : Int) - 1) (W.length - 1) (by omega) (by (try simp only [List.length_nil, List.length_cons, List.length_append, List.length_take, List.length_drop, List.length_set, List.length_replicate, List.length_reverse]); omega) (by omega)) ?_
    refine s_lt (t_pure (pre sx (W.length - 1))) ?_
    refine s_nil ?_
    refine xs_then ?_
    refine k_seq ?_
    refine k_reg ?_
    refine s_lt (t_pure (.pointer (some ⟨b, 0, none⟩))) ?_
    refine s_lt (t_pure (.pointer (some ⟨b, 0, none⟩))) ?_
    refine s_lt (t_pure (.pointer (some ⟨b, 0, none⟩))) ?_
    refine s_lt (t_load 1 (.map (some at1))) ?_
    refine s_lt (t_pure (.int .i64 y8)) ?_
    rcases hf10 : fnd l y8 with _ | ob11
    ·
      refine s_lt (Lt.to (v' := .tuple #[.agg #[.int .i64 0, .int .i64 0, .int .i64 0, (.slice none 0 0), (.slice none 0 0)], .bool false]) (t_lookupOk 2 intOk Try.underlying68 (.agg #[.int .i64 0, .int .i64 0, .int .i64 0, (.slice none 0 0), (.slice none 0 0)]) y8) (by rw [aget_at, hf10]; rfl)) ?_
      refine s_lt (t_pure (.tuple #[.agg #[.int .i64 0, .int .i64 0, .int .i64 0, (.slice none 0 0), (.slice none 0 0)], .bool false])) ?_
      refine s_lt (t_pure (.agg #[.int .i64 0, .int .i64 0, .int .i64 0, (.slice none 0 0), (.slice none 0 0)])) ?_
      refine s_lt (t_pure (.bool false)) ?_
      refine s_alloc (.agg #[.int .i64 0, .int .i64 0, .int .i64 0, (.slice none 0 0), (.slice none 0 0)]) #[.int .i64 0, .int .i64 0, .int .i64 0, (.slice none 0 0), (.slice none 0 0)] (fun g12 => ?_)
      refine s_store 0 #[.int .i64 0, .int .i64 0, .int .i64 0, (.slice none 0 0), (.slice none 0 0)] ?_
      refine s_lt (t_pure (.bool false)) ?_
      refine s_nil ?_
      refine xs_then ?_
      refine k_seq ?_
      refine k_seq ?_
      refine k_reg ?_
      refine s_lt (t_pure (.bool false)) ?_
      refine s_lt (t_pure (.bool true)) ?_
      refine s_lt (t_pure (.bool true)) ?_
      refine s_skip ?_
      refine s_skip ?_
      refine s_skip ?_
      refine s_skip ?_
      refine s_skip ?_
      refine s_skip ?_
      refine s_skip ?_
      refine s_lt (t_pure (.bool true)) ?_
      refine s_nil ?_
      refine xs_then ?_
      refine k_true ?_
      refine k_exit ?_
      refine xs_exit ?_
      refine xs_here ?_
      refine xs_mem (fun _ h => Holds.pre (i := 1) h iTy_ok (W.length - 1) rfl (by (try simp only [List.length_nil, List.length_cons, List.length_append, List.length_take, List.length_drop, List.length_set, List.length_replicate, List.length_reverse]); omega)) ?_
      exact xs_round ((pre sx (W.length - 1)), M, (W.take (W.length - 1)), fr) (by show pot l M + (W.take (W.length - 1)).length < pot l M + W.length; rw [List.length_take]; omega) (by obtain ⟨hi1, hi2, hi3, hi4⟩ := hi5; refine ⟨(by rw [← snoc_of hy9] at hi1; rw [hi1]; exact dfs_skip (.inl hf10)), hi2, by rw [List.length_take]; omega, hi4⟩) (sub_of rfl ⟨⟨rfl, rfl⟩, ⟨⟨rfl, rfl⟩, ⟨⟨rfl, rfl⟩, ⟨⟨rfl, rfl⟩, trivial⟩⟩⟩⟩) (fun _ h => h.re [1, 1, 1, 1, 1] [5])
    ·
      refine s_lt (Lt.to (v' := .tuple #[ob11.v, .bool true]) (t_lookupOk 2 intOk Try.underlying68 (.agg #[.int .i64 0, .int .i64 0, .int .i64 0, (.slice none 0 0), (.slice none 0 0)]) y8) (by rw [aget_at, hf10]; rfl)) ?_
      have hk13 := hO ob11 (fnd_id hf10).2
      refine s_lt (t_pure (.tuple #[.agg #[.int .i64 ob11.id, .int .i64 ob11.size, .int .i64 ob11.weak, ob11.rv.v, ob11.ev.v], .bool true])) ?_
      refine s_lt (t_pure (.agg #[.int .i64 ob11.id, .int .i64 ob11.size, .int .i64 ob11.weak, ob11.rv.v, ob11.ev.v])) ?_
      refine s_lt (t_pure (.bool true)) ?_
      refine s_alloc (.agg #[.int .i64 0, .int .i64 0, .int .i64 0, (.slice none 0 0), (.slice none 0 0)]) #[.int .i64 0, .int .i64 0, .int .i64 0, (.slice none 0 0), (.slice none 0 0)] (fun g14 => ?_)
      refine s_store 0 #[.int .i64 ob11.id, .int .i64 ob11.size, .int .i64 ob11.weak, ob11.rv.v, ob11.ev.v] ?_
      refine s_lt (t_pure (.bool true)) ?_
      refine s_nil ?_
      refine xs_then ?_
      refine k_seq ?_
      refine k_seq ?_
      refine k_reg ?_
      refine s_lt (t_pure (.bool true)) ?_
      refine s_lt (t_pure (.bool false)) ?_
      refine s_lt (t_pure (.bool false)) ?_
      refine s_lt (t_pure (.pointer (some ⟨b, 0, none⟩))) ?_
      refine s_lt (t_pure (.pointer (some ⟨b, 0, none⟩))) ?_
      refine s_lt (t_pure (.pointer (some ⟨b, 1, none⟩))) ?_
      refine s_lt (t_load 2 (.map (some mb2))) ?_
      refine s_lt (t_pure (.int .i64 y8)) ?_
      refine s_lt (Lt.to (v' := .int .i64 (mkI M y8)) (t_lookup 4 intOk Try.underlying69 (.int .i64 0) y8) (got_mk _ _)) ?_
      refine s_lt t_cmp ?_
      refine s_lt (t_pure (.bool (decide ((mkI M y8) ≠ 0)))) ?_
      refine s_nil ?_
      refine xs_then ?_
      refine k_cond (decide ((mkI M y8) ≠ 0)) (fun c15 => ?_) (fun c15 => ?_)
      ·
        have p16 := of_decide_eq_true c15
        refine k_exit ?_
        refine xs_exit ?_
        refine xs_here ?_
        refine xs_mem (fun _ h => Holds.pre (i := 1) h iTy_ok (W.length - 1) rfl (by (try simp only [List.length_nil, List.length_cons, List.length_append, List.length_take, List.length_drop, List.length_set, List.length_replicate, List.length_reverse]); omega)) ?_
        exact xs_round ((pre sx (W.length - 1)), M, (W.take (W.length - 1)), fr) (by show pot l M + (W.take (W.length - 1)).length < pot l M + W.length; rw [List.length_take]; omega) (by obtain ⟨hi1, hi2, hi3, hi4⟩ := hi5; refine ⟨(by rw [← snoc_of hy9] at hi1; rw [hi1]; exact dfs_skip (.inr (mkI_ne p16))), hi2, by rw [List.length_take]; omega, hi4⟩) (sub_of rfl ⟨⟨rfl, rfl⟩, ⟨⟨rfl, rfl⟩, ⟨⟨rfl, rfl⟩, ⟨⟨rfl, rfl⟩, trivial⟩⟩⟩⟩) (fun _ h => h.re [1, 1, 1, 1, 1] [5])
      ·
        have p17 := Decidable.not_not.1 (of_decide_eq_false c15)
        refine k_skip ?_
        refine xs_then ?_
        refine k_seq ?_
        refine k_reg ?_
        refine s_lt (t_pure (.pointer (some ⟨b, 0, none⟩))) ?_
        refine s_lt (t_pure (.pointer (some ⟨b, 0, none⟩))) ?_
        refine s_lt (t_pure (.pointer (some ⟨b, 1, none⟩))) ?_
        refine s_lt (t_load 2 (.map (some mb2))) ?_
        refine s_lt (t_pure (.int .i64 y8)) ?_
        refine s_update 4 intOk Try.underlying69 y8 (1 : Int) ?_
        rw [aset_mk (mkI_eq p17)]
        have hmk := p17; have hpa := pot_add (mkI_eq p17) hf10; have hk0 := kept_pre ob11 0
        refine s_nil ?_
        refine xs_then ?_
        refine k_seq ?_
        refine k_reg ?_
        refine s_lt (t_pure (.bool true)) ?_
        refine s_nil ?_
        refine xs_then ?_
        refine k_seq ?_
        refine k_reg ?_
        refine s_lt (t_pure (pre sx (W.length - 1))) ?_
        refine s_lt (t_pure (.pointer (some ⟨g14, 3, none⟩))) ?_
        refine s_lt (t_load 0 ob11.rv.v) ?_
        refine s_mem (fun _ h => Holds.pre (i := 1) h iTy_ok (W.length - 1) rfl (by (try simp only [List.length_nil, List.length_cons, List.length_append, List.length_take, List.length_drop, List.length_set, List.length_replicate, List.length_reverse]); omega)) ?_
        refine s_append (L := (W.take (W.length - 1))) 1 iTy_ok Try.underlying23 (.zn hk13.1) (by show _ * 8 ≤ _; (try simp only [List.length_nil, List.length_cons, List.length_append, List.length_take, List.length_drop, List.length_set, List.length_replicate, List.length_reverse]); omega) (by (try simp only [List.length_nil, List.length_cons, List.length_append, List.length_take, List.length_drop, List.length_set, List.length_replicate, List.length_reverse]); omega) (fun v18 => ?_)
        refine s_lt (t_pure v18) ?_
        refine s_nil ?_
        refine xs_then ?_
        refine k_seq ?_
        refine k_reg ?_
        refine s_lt (t_pure (.pointer (some ⟨g14, 4, none⟩))) ?_
        refine s_lt (t_load 0 ob11.ev.v) ?_
        refine s_lt (t_len EntT_ok Try.underlying40 (.zn hk13.2)) ?_
        refine s_lt (t_pure (.int .i64 0)) ?_
        refine s_nil ?_
        refine xs_then ?_
        refine k_block ?_
        refine k_fact (fun H h => (hk13.2.get h).len_le) (fun le => ?_)
        rw [show (W.take (W.length - 1)) ++ ob11.refs = (W.take (W.length - 1)) ++ ob11.refs ++ (ob11.ents.take 0).flatMap (keptE ob11.weak) from (List.append_nil _).symm]
        refine k_loop (ι := Value × Nat) (fun (sy, k) => k ≤ ob11.ents.length) (fun (sy, k) => [(0, .pointer (some ⟨b, 0, none⟩)), (4, .bool false), (5, sy), (6, .bool true), (7, .int .i64 y8), (8, .pointer (some ⟨g14, 0, none⟩)), (9, .bool true), (14, sx), (15, .int .i64 (W.length : Int)), (16, .bool (decide ((0 : Int) < (W.length : Int)))), (17, sx), (18, sx), (19, .int .i64 (W.length : Int)), (20, .int .i64 ((W.length : Int) - 1)), (21, .pointer (some (elemAt iTy.size sx (W.length - 1)))), (22, .int .i64 y8), (23, sx), (24, sx), (25, .int .i64 (W.length : Int)), (26, .int .i64 ((W.length : Int) - 1)), (27, (pre sx (W.length - 1))), (28, .tuple #[.agg #[.int .i64 ob11.id, .int .i64 ob11.size, .int .i64 ob11.weak, ob11.rv.v, ob11.ev.v], .bool true]), (29, .pointer (some ⟨b, 0, none⟩)), (30, .pointer (some ⟨b, 0, none⟩)), (31, .pointer (some ⟨b, 0, none⟩)), (32, .map (some at1)), (33, .int .i64 y8), (34, .tuple #[.agg #[.int .i64 ob11.id, .int .i64 ob11.size, .int .i64 ob11.weak, ob11.rv.v, ob11.ev.v], .bool true]), (35, .agg #[.int .i64 ob11.id, .int .i64 ob11.size, .int .i64 ob11.weak, ob11.rv.v, ob11.ev.v]), (36, .bool true), (37, .bool true), (38, .bool false), (39, .bool false), (40, .pointer (some ⟨b, 0, none⟩)), (41, .pointer (some ⟨b, 0, none⟩)), (42, .pointer (some ⟨b, 1, none⟩)), (43, .map (some mb2)), (44, .int .i64 y8), (45, .int .i64 (mkI M y8)), (46, .bool (decide ((mkI M y8) ≠ 0))), (47, .bool (decide ((mkI M y8) ≠ 0))), (48, .pointer (some ⟨b, 0, none⟩)), (49, .pointer (some ⟨b, 0, none⟩)), (50, .pointer (some ⟨b, 1, none⟩)), (51, .map (some mb2)), (52, .int .i64 y8), (53, (pre sx (W.length - 1))), (54, .pointer (some ⟨g14, 3, none⟩)), (55, ob11.rv.v), (56, v18), (57, .pointer (some ⟨g14, 4, none⟩)), (58, ob11.ev.v), (59, .int .i64 (ob11.ents.length : Int)), (60, .int .i64 (k : Int))]) (fun (sy, k) => blkA g14 #[.int .i64 ob11.id, .int .i64 ob11.size, .int .i64 ob11.weak, ob11.rv.v, ob11.ev.v] 42 :: own iTy sy ((W.take (W.length - 1)) ++ ob11.refs ++ (ob11.ents.take k).flatMap (keptE ob11.weak)) :: blkA b #[.map (some at1), .map (some mb2), kv3] 71 :: mpA (Go.Mem.intK 3) Ob.v at1 (atL l) :: mpA (Go.Mem.intK 3) iV mb2 (mkL (M ++ [y8])) :: own iTy kv3 (keyed l) :: F) (fun (sy, k) => ob11.ents.length - k) (v18, 0) (Nat.zero_le _) (sub_of rfl ⟨⟨rfl, rfl⟩, ⟨⟨rfl, rfl⟩, ⟨⟨rfl, rfl⟩, ⟨⟨rfl, rfl⟩, ⟨⟨rfl, rfl⟩, ⟨⟨rfl, rfl⟩, ⟨⟨rfl, rfl⟩, ⟨⟨rfl, rfl⟩, ⟨⟨rfl, rfl⟩, ⟨⟨rfl, rfl⟩, ⟨⟨rfl, rfl⟩, ⟨⟨rfl, rfl⟩, ⟨⟨rfl, rfl⟩, ⟨⟨rfl, rfl⟩, ⟨⟨rfl, rfl⟩, ⟨⟨rfl, rfl⟩, ⟨⟨rfl, rfl⟩, ⟨⟨rfl, rfl⟩, ⟨⟨rfl, rfl⟩, ⟨⟨rfl, rfl⟩, ⟨⟨rfl, rfl⟩, ⟨⟨rfl, rfl⟩, ⟨⟨rfl, rfl⟩, ⟨⟨rfl, rfl⟩, ⟨⟨rfl, rfl⟩, ⟨⟨rfl, rfl⟩, ⟨⟨rfl, rfl⟩, ⟨⟨rfl, rfl⟩, ⟨⟨rfl, rfl⟩, ⟨⟨rfl, rfl⟩, ⟨⟨rfl, rfl⟩, ⟨⟨rfl, rfl⟩, ⟨⟨rfl, rfl⟩, ⟨⟨rfl, rfl⟩, ⟨⟨rfl, rfl⟩, ⟨⟨rfl, rfl⟩, ⟨⟨rfl, rfl⟩, ⟨⟨rfl, rfl⟩, ⟨⟨rfl, rfl⟩, ⟨⟨rfl, rfl⟩, ⟨⟨rfl, rfl⟩, ⟨⟨rfl, rfl⟩, ⟨⟨rfl, rfl⟩, ⟨⟨rfl, rfl⟩, ⟨⟨rfl, rfl⟩, ⟨⟨rfl, rfl⟩, ⟨⟨rfl, rfl⟩, ⟨⟨rfl, rfl⟩, ⟨⟨rfl, rfl⟩, ⟨⟨rfl, rfl⟩, ⟨⟨rfl, rfl⟩, ⟨⟨rfl, rfl⟩, ⟨⟨rfl, rfl⟩, ⟨⟨rfl, rfl⟩, trivial⟩⟩⟩⟩⟩⟩⟩⟩⟩⟩⟩⟩⟩⟩⟩⟩⟩⟩⟩⟩⟩⟩⟩⟩⟩⟩⟩⟩⟩⟩⟩⟩⟩⟩⟩⟩⟩⟩⟩⟩⟩⟩⟩⟩⟩⟩⟩⟩⟩⟩⟩⟩⟩⟩) (fun _ h => h.re [0, 0, 0, 0, 0, 0] []) ?_
        rintro ⟨sy, k⟩ hi19
        replace hi19 : k ≤ ob11.ents.length := hi19
        show SK _ _ _ _ _ [(0, .pointer (some ⟨b, 0, none⟩)), (4, .bool false), (5, sy), (6, .bool true), (7, .int .i64 y8), (8, .pointer (some ⟨g14, 0, none⟩)), (9, .bool true), (14, sx), (15, .int .i64 (W.length : Int)), (16, .bool (decide ((0 : Int) < (W.length : Int)))), (17, sx), (18, sx), (19, .int .i64 (W.length : Int)), (20, .int .i64 ((W.length : Int) - 1)), (21, .pointer (some (elemAt iTy.size sx (W.length - 1)))), (22, .int .i64 y8), (23, sx), (24, sx), (25, .int .i64 (W.length : Int)), (26, .int .i64 ((W.length : Int) - 1)), (27, (pre sx (W.length - 1))), (28, .tuple #[.agg #[.int .i64 ob11.id, .int .i64 ob11.size, .int .i64 ob11.weak, ob11.rv.v, ob11.ev.v], .bool true]), (29, .pointer (some ⟨b, 0, none⟩)), (30, .pointer (some ⟨b, 0, none⟩)), (31, .pointer (some ⟨b, 0, none⟩)), (32, .map (some at1)), (33, .int .i64 y8), (34, .tuple #[.agg #[.int .i64 ob11.id, .int .i64 ob11.size, .int .i64 ob11.weak, ob11.rv.v, ob11.ev.v], .bool true]), (35, .agg #[.int .i64 ob11.id, .int .i64 ob11.size, .int .i64 ob11.weak, ob11.rv.v, ob11.ev.v]), (36, .bool true), (37, .bool true), (38, .bool false), (39, .bool false), (40, .pointer (some ⟨b, 0, none⟩)), (41, .pointer (some ⟨b, 0, none⟩)), (42, .pointer (some ⟨b, 1, none⟩)), (43, .map (some mb2)), (44, .int .i64 y8), (45, .int .i64 (mkI M y8)), (46, .bool (decide ((mkI M y8) ≠ 0))), (47, .bool (decide ((mkI M y8) ≠ 0))), (48, .pointer (some ⟨b, 0, none⟩)), (49, .pointer (some ⟨b, 0, none⟩)), (50, .pointer (some ⟨b, 1, none⟩)), (51, .map (some mb2)), (52, .int .i64 y8), (53, (pre sx (W.length - 1))), (54, .pointer (some ⟨g14, 3, none⟩)), (55, ob11.rv.v), (56, v18), (57, .pointer (some ⟨g14, 4, none⟩)), (58, ob11.ev.v), (59, .int .i64 (ob11.ents.length : Int)), (60, .int .i64 (k : Int))] _ (blkA g14 #[.int .i64 ob11.id, .int .i64 ob11.size, .int .i64 ob11.weak, ob11.rv.v, ob11.ev.v] 42 :: own iTy sy ((W.take (W.length - 1)) ++ ob11.refs ++ (ob11.ents.take k).flatMap (keptE ob11.weak)) :: blkA b #[.map (some at1), .map (some mb2), kv3] 71 :: mpA (Go.Mem.intK 3) Ob.v at1 (atL l) :: mpA (Go.Mem.intK 3) iV mb2 (mkL (M ++ [y8])) :: own iTy kv3 (keyed l) :: F)
        have hkp := kept_pre ob11 k
        refine k_seq ?_
        refine k_reg ?_
        refine s_lt t_cmp ?_
        refine s_nil ?_
        refine xs_then ?_
        refine k_seq ?_
        refine k_cond (decide ((k : Int) < (ob11.ents.length : Int))) (fun c20 => ?_) (fun c20 => ?_)
        ·
          have p21 := of_decide_eq_true c20
          refine k_skip ?_
          refine xs_then ?_
          refine k_seq ?_
          refine k_block ?_
          refine k_seq ?_
          refine k_reg ?_
          refine s_lt (t_index EntT_ok Try.underlying40 (.zn hk13.2) (k : Int) k (by omega) (by (try simp only [List.length_nil, List.length_cons, List.length_append, List.length_take, List.length_drop, List.length_set, List.length_replicate, List.length_reverse]); omega) (by omega)) ?_
          obtain ⟨y22, hy23⟩ : ∃ y, ob11.ents[k]? = some y := ⟨_, List.getElem?_eq_getElem (by (try simp only [List.length_nil, List.length_cons, List.length_append, List.length_take, List.length_drop, List.length_set, List.length_replicate, List.length_reverse]); omega)⟩
          have hkq := kept_pre1 hy23
          refine s_lt (t_loadE EntT_ok (.zn hk13.2) hy23) ?_
          refine s_alloc (.agg #[.int .i64 0, .int .i64 0]) #[.int .i64 0, .int .i64 0] (fun g24 => ?_)
          refine s_store 0 #[.int .i64 y22.key, .int .i64 y22.val] ?_
          refine s_nil ?_
          refine xs_then ?_
          refine k_reg ?_
          refine s_lt (t_pure sy) ?_
          refine s_lt (t_pure (.pointer (some ⟨g14, 2, none⟩))) ?_
          refine s_lt (t_load 1 (.int .i64 ob11.weak)) ?_
          refine s_lt (t_loadA 0 #[.int .i64 y22.key, .int .i64 y22.val]) ?_
          refine s_pcall (fun _ h => kept_s ob11.weak y22) ?_
          rintro v25 _ rfl
          refine s_append (L := ((W.take (W.length - 1)) ++ ob11.refs ++ (ob11.ents.take k).flatMap (keptE ob11.weak))) 3 iTy_ok Try.underlying23 (.own 0) (by show _ * 8 ≤ _; (try simp only [List.length_nil, List.length_cons, List.length_append, List.length_take, List.length_drop, List.length_set, List.length_replicate, List.length_reverse]); omega) (by (try simp only [List.length_nil, List.length_cons, List.length_append, List.length_take, List.length_drop, List.length_set, List.length_replicate, List.length_reverse]); omega) (fun v26 => ?_)
          refine s_lt (t_pure v26) ?_
          refine s_nil ?_
          refine xs_block ?_
          refine xs_then ?_
          refine k_reg ?_
          refine s_lt (t_add (k : Int) 1 (by (try simp only [List.length_nil, List.length_cons, List.length_append, List.length_take, List.length_drop, List.length_set, List.length_replicate, List.length_reverse]); omega)) ?_
          refine s_lt (t_pure (.int .i64 ((k : Int) + 1))) ?_
          refine s_nil ?_
          rw [kept_step _ hy23]
          exact xs_round (v26, k + 1) (by show ob11.ents.length - (k + 1) < ob11.ents.length - k; omega) (by show k + 1 ≤ ob11.ents.length; omega) (sub_of rfl ⟨⟨rfl, rfl⟩, ⟨⟨rfl, rfl⟩, ⟨⟨rfl, rfl⟩, ⟨⟨rfl, rfl⟩, ⟨⟨rfl, rfl⟩, ⟨⟨rfl, rfl⟩, ⟨⟨rfl, rfl⟩, ⟨⟨rfl, rfl⟩, ⟨⟨rfl, rfl⟩, ⟨⟨rfl, rfl⟩, ⟨⟨rfl, rfl⟩, ⟨⟨rfl, rfl⟩, ⟨⟨rfl, rfl⟩, ⟨⟨rfl, rfl⟩, ⟨⟨rfl, rfl⟩, ⟨⟨rfl, rfl⟩, ⟨⟨rfl, rfl⟩, ⟨⟨rfl, rfl⟩, ⟨⟨rfl, rfl⟩, ⟨⟨rfl, rfl⟩, ⟨⟨rfl, rfl⟩, ⟨⟨rfl, rfl⟩, ⟨⟨rfl, rfl⟩, ⟨⟨rfl, rfl⟩, ⟨⟨rfl, rfl⟩, ⟨⟨rfl, rfl⟩, ⟨⟨rfl, rfl⟩, ⟨⟨rfl, rfl⟩, ⟨⟨rfl, rfl⟩, ⟨⟨rfl, rfl⟩, ⟨⟨rfl, rfl⟩, ⟨⟨rfl, rfl⟩, ⟨⟨rfl, rfl⟩, ⟨⟨rfl, rfl⟩, ⟨⟨rfl, rfl⟩, ⟨⟨rfl, rfl⟩, ⟨⟨rfl, rfl⟩, ⟨⟨rfl, rfl⟩, ⟨⟨rfl, rfl⟩, ⟨⟨rfl, rfl⟩, ⟨⟨rfl, rfl⟩, ⟨⟨rfl, rfl⟩, ⟨⟨rfl, rfl⟩, ⟨⟨rfl, rfl⟩, ⟨⟨rfl, rfl⟩, ⟨⟨rfl, rfl⟩, ⟨⟨rfl, rfl⟩, ⟨⟨rfl, rfl⟩, ⟨⟨rfl, rfl⟩, ⟨⟨rfl, rfl⟩, ⟨⟨rfl, rfl⟩, ⟨⟨rfl, rfl⟩, ⟨⟨rfl, rfl⟩, ⟨⟨rfl, rfl⟩, trivial⟩⟩⟩⟩⟩⟩⟩⟩⟩⟩⟩⟩⟩⟩⟩⟩⟩⟩⟩⟩⟩⟩⟩⟩⟩⟩⟩⟩⟩⟩⟩⟩⟩⟩⟩⟩⟩⟩⟩⟩⟩⟩⟩⟩⟩⟩⟩⟩⟩⟩⟩⟩⟩⟩) (fun _ h => h.re [2, 2, 2, 2, 2, 2] [6, 6])
        ·
          have p27 := of_decide_eq_false c20
          refine k_exit ?_
          obtain rfl : k = ob11.ents.length := by omega
          rw [List.take_length, kept_all]
          refine xs_exit ?_
          refine xs_exit ?_
          refine xs_here ?_
          refine xs_block ?_
          exact xs_round (sy, M ++ [y8], (W.take (W.length - 1)) ++ keptO ob11, true) (by show pot l (M ++ [y8]) + ((W.take (W.length - 1)) ++ keptO ob11).length < pot l M + W.length; rw [List.length_append, List.length_take]; omega) (by obtain ⟨hi1, hi2, hi3, hi4⟩ := hi5; refine ⟨(by rw [← snoc_of hy9] at hi1; rw [hi1]; exact dfs_new hf10 (mkI_eq hmk)), by rw [List.length_append]; omega, by rw [List.length_append, List.length_take]; omega, (decide_eq_true (by rw [List.length_append]; show M0.length < M.length + 1; omega)).symm⟩) (sub_of rfl ⟨⟨rfl, rfl⟩, ⟨⟨rfl, rfl⟩, ⟨⟨rfl, rfl⟩, ⟨⟨rfl, rfl⟩, trivial⟩⟩⟩⟩) (fun _ h => h.re [1, 1, 1, 1, 1] [5])
  ·
    have p28 := of_decide_eq_false c6
    refine k_exit ?_
    refine xs_exit ?_
    refine xs_exit ?_
    refine xs_here ?_
    refine xs_then ?_
    refine k_seq ?_
    refine k_reg ?_
    refine s_lt (t_pure (.bool fr)) ?_
    refine s_lt (t_pure (.bool fr)) ?_
    refine s_nil ?_
    refine xs_then ?_
    refine k_ret ?_
    refine xs_mem (fun _ h => mk_shut (h.re [1, 1, 1, 1] [])) ?_
    obtain ⟨hi1, hi2, hi3, hi4⟩ := hi5
    obtain rfl : W = [] := List.eq_nil_of_length_eq_zero (by omega)
    rw [dfs_nil] at hi1
    refine xs_fin [.bool fr] (mkA 71 b l M :: F) (SI.tmp 4 SI.nil) (fun _ h => h.re [0] [1]) ?_
    rw [hi1, ← hi4]; exact ⟨rfl, rfl⟩
end Go.Proofs.Ytjdlkemmcnncaaa
