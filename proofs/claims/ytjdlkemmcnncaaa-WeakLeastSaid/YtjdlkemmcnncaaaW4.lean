/-
  The reference of layer 26: its marking. Each law says its conditions.
-/
import Derived.Test.YtjdlkemmcnncaaaW3
set_option linter.unusedSimpArgs false
set_option linter.unusedVariables false
set_option maxRecDepth 100000
namespace Go.Proofs.Ytjdlkemmcnncaaa
open Go.Hp Go.J Go.S
open Go.Mem (Ty KTy blk elemAt pre suf blk_pre blk_suf aget aset strK aggDesc)
def bits (l : List Ob) (M : List Int) : List Bool := l.map fun o => decide (o.id ∈ M)
theorem bits_len (l : List Ob) (M : List Int) : (bits l M).length = l.length := List.length_map _
theorem bits_at {l : List Ob} {M : List Int} {i : Nat} {o : Ob} (h : l[i]? = some o) : (bits l M)[i]? = some (decide (o.id ∈ M)) := by unfold bits; rw [List.getElem?_map, h]; rfl
theorem bits_set {l : List Ob} (hs : Asc l) {M : List Int} {i : Nat} {o : Ob} {id : Int} (h : l[i]? = some o) (hid : o.id = id) : (bits l M).set i true = bits l (M ++ [id]) := by
  apply List.ext_getElem?
  intro j
  rw [List.getElem?_set]
  by_cases hj : i = j
  · subst hj
    have hi : i < (bits l M).length := by rw [bits_len]; exact (List.getElem?_eq_some_iff.1 h).1
    rw [if_pos rfl, if_pos hi, bits_at h, hid]; simp
  · rw [if_neg hj]
    unfold bits
    rw [List.getElem?_map, List.getElem?_map]
    cases hx : l[j]? with
    | none => rfl
    | some p =>
      have : p.id ≠ id := fun e => hj (asc_inj hs h hx (hid.trans e.symm))
      simp [this]
theorem bits_nil (l : List Ob) : List.replicate (l.length : Int).toNat false = bits l [] := by
  unfold bits
  apply List.ext_getElem?
  intro j
  by_cases hj : j < l.length <;> simp [hj]
theorem tabs_yes {l : List Ob} {i : Nat} {y : Ob} (hy : l[i]? = some y) (h : y.weak = 1) : tabs (l.take (i + 1)) = tabs (l.take i) ++ [y] := by
  rw [List.take_add_one, hy]; simp [tabs, List.filter_append, h]
theorem tabs_no {l : List Ob} {i : Nat} {y : Ob} (hy : l[i]? = some y) (h : y.weak ≠ 1) : tabs (l.take (i + 1)) = tabs (l.take i) := by
  rw [List.take_add_one, hy]; simp [tabs, List.filter_append, h]
theorem live_yes {l : List Ob} {i : Nat} {y : Ob} {M : List Int} (hy : l[i]? = some y) (h : y.id ∈ M) : live (l.take i) M ++ [y.id] = live (l.take (i + 1)) M := by
  rw [List.take_add_one, hy]; simp [live, List.filter_append, h]
theorem live_no {l : List Ob} {i : Nat} {y : Ob} {M : List Int} (hy : l[i]? = some y) (h : y.id ∉ M) : live (l.take i) M = live (l.take (i + 1)) M := by
  rw [List.take_add_one, hy]; simp [live, List.filter_append, h]
theorem live_len (l : List Ob) (M : List Int) : (live l M).length ≤ l.length := by unfold live; rw [List.length_map]; exact List.length_filter_le _ _
theorem rkept_s {Z : Zone} {x : Ob} (hk : KnO Z x) (h1 : x.refs.length ≤ 1000000) (h2 : x.ents.length ≤ 1000000) : SF Try.prog 51 #[x.v] Z [] fun r Bs => Bs = [own iTy r (keptO x)] := by
  refine sf_enter Try.func51 51 [(0, .agg #[.int .i64 x.id, .int .i64 x.size, .int .i64 x.weak, x.rv.v, x.ev.v])] (fun w0 => ?_)
  refine k_seq ?_
  refine k_reg ?_
  refine s_box #[.int .i64 x.id, .int .i64 x.size, .int .i64 x.weak, x.rv.v, x.ev.v] (fun g1 => ?_)
  refine s_lt (t_pure (.slice none 0 0)) ?_
  refine s_nil ?_
  refine xs_then ?_
  refine k_seq ?_
  refine k_reg ?_
  refine s_buildSlice (e := 3) [] #[] (fun g2 => ?_) (hb := by kernel_rfl)
  refine s_lt (t_pure (.pointer (some ⟨g1, 3, none⟩))) ?_
  refine s_lt (t_load 1 x.rv.v) ?_
  refine s_mem (fun _ h => Holds.slice 0 h iTy_ok []) ?_
  refine s_append (L := []) 0 iTy_ok Try.underlying23 (.zn hk.1) (by show _ * 8 ≤ _; (try simp only [List.length_nil, List.length_cons, List.length_append, List.length_take, List.length_drop, List.length_set, List.length_replicate, List.length_reverse]); omega) (by (try simp only [List.length_nil, List.length_cons, List.length_append, List.length_take, List.length_drop, List.length_set, List.length_replicate, List.length_reverse]); omega) (fun v3 => ?_)
  refine s_lt (t_pure v3) ?_
  refine s_nil ?_
  refine xs_then ?_
  refine k_seq ?_
  refine k_seq ?_
  refine k_reg ?_
  refine s_lt (t_pure (.int .i64 0)) ?_
  refine s_nil ?_
  refine xs_then ?_
  refine k_block ?_
  skip
  rw [show ([] ++ x.refs) = x.refs ++ (x.ents.take 0).flatMap (keptE x.weak) by simp]
  refine k_loop (ι := Value × Nat) (fun (sx, k) => k ≤ x.ents.length) (fun (sx, k) => [(1, .pointer (some ⟨g1, 0, none⟩)), (2, (.slice none 0 0)), (3, sx), (4, .int .i64 (k : Int))]) (fun (sx, k) => [own iTy sx (x.refs ++ (x.ents.take k).flatMap (keptE x.weak)), blkA g1 #[.int .i64 x.id, .int .i64 x.size, .int .i64 x.weak, x.rv.v, x.ev.v] 42]) (fun (sx, k) => x.ents.length - k) (v3, 0) (Nat.zero_le _) (sub_of rfl ⟨⟨rfl, rfl⟩, ⟨⟨rfl, rfl⟩, ⟨⟨rfl, rfl⟩, ⟨⟨rfl, rfl⟩, trivial⟩⟩⟩⟩) (fun _ h => h.re [0, 0] []) ?_
  rintro ⟨sx, k⟩ hi4
  replace hi4 : k ≤ x.ents.length := hi4
  show SK _ _ _ _ _ [(1, .pointer (some ⟨g1, 0, none⟩)), (2, (.slice none 0 0)), (3, sx), (4, .int .i64 (k : Int))] _ [own iTy sx (x.refs ++ (x.ents.take k).flatMap (keptE x.weak)), blkA g1 #[.int .i64 x.id, .int .i64 x.size, .int .i64 x.weak, x.rv.v, x.ev.v] 42]
  have hkl := kept_len x.weak (x.ents.take k); rw [List.length_take] at hkl
  refine k_seq ?_
  refine k_seq ?_
  refine k_reg ?_
  refine s_lt (t_pure (.int .i64 (k : Int))) ?_
  refine s_lt (t_pure (.pointer (some ⟨g1, 4, none⟩))) ?_
  refine s_lt (t_load 1 x.ev.v) ?_
  refine s_lt (t_len EntT_ok Try.underlying40 (.zn hk.2)) ?_
  refine s_lt t_cmp ?_
  refine s_nil ?_
  refine xs_then ?_
  refine k_cond (decide ((k : Int) < (x.ents.length : Int))) (fun c5 => ?_) (fun c5 => ?_)
  ·
    have p6 := of_decide_eq_true c5
    refine k_skip ?_
    refine xs_then ?_
    refine k_seq ?_
    refine k_block ?_
    refine k_seq ?_
    refine k_reg ?_
    refine s_lt (t_pure (.pointer (some ⟨g1, 4, none⟩))) ?_
    refine s_lt (t_load 1 x.ev.v) ?_
    refine s_lt (t_pure (.int .i64 (k : Int))) ?_
    refine s_lt (t_index EntT_ok Try.underlying40 (.zn hk.2) (k : Int) k (by omega) (by (try simp only [List.length_nil, List.length_cons, List.length_append, List.length_take, List.length_drop, List.length_set, List.length_replicate, List.length_reverse]); omega) (by omega)) ?_
    obtain ⟨y7, hy8⟩ : ∃ y, x.ents[k]? = some y := ⟨_, List.getElem?_eq_getElem (by (try simp only [List.length_nil, List.length_cons, List.length_append, List.length_take, List.length_drop, List.length_set, List.length_replicate, List.length_reverse]); omega)⟩
    refine s_lt (t_loadE EntT_ok (.zn hk.2) hy8) ?_
    refine s_alloc (.agg #[.int .i64 0, .int .i64 0]) #[.int .i64 0, .int .i64 0] (fun g9 => ?_)
    refine s_store 0 #[.int .i64 y7.key, .int .i64 y7.val] ?_
    refine s_nil ?_
    refine xs_then ?_
    refine k_seq ?_
    refine k_reg ?_
    refine s_lt (t_pure (.pointer (some ⟨g1, 2, none⟩))) ?_
    refine s_lt (t_load 2 (.int .i64 x.weak)) ?_
    refine s_nil ?_
    refine xs_then ?_
    refine k_block ?_
    refine k_seq ?_
    refine k_reg ?_
    refine s_lt t_cmp ?_
    refine s_lt (t_pure (.bool (decide (x.weak = 3)))) ?_
    refine s_nil ?_
    refine xs_then ?_
    refine k_cond (decide (x.weak = 3)) (fun c10 => ?_) (fun c10 => ?_)
    ·
      have p11 := of_decide_eq_true c10
      refine k_skip ?_
      refine xs_block ?_
      refine xs_block ?_
      refine xs_then ?_
      refine k_reg ?_
      refine s_lt (t_pure (.int .i64 (k : Int))) ?_
      refine s_lt (t_add (k : Int) 1 (by (try simp only [List.length_nil, List.length_cons, List.length_append, List.length_take, List.length_drop, List.length_set, List.length_replicate, List.length_reverse]); omega)) ?_
      refine s_lt (t_pure (.int .i64 ((k : Int) + 1))) ?_
      refine s_nil ?_
      rw [show (x.refs ++ (x.ents.take k).flatMap (keptE x.weak)) = x.refs ++ (x.ents.take (k + 1)).flatMap (keptE x.weak) by rw [← kept_take hy8]; simp [keptE, List.append_assoc, p6, p11]]
      exact xs_round (sx, k + 1) (by show x.ents.length - (k + 1) < x.ents.length - k; omega) (by show k + 1 ≤ x.ents.length; omega) (sub_of rfl ⟨⟨rfl, rfl⟩, ⟨⟨rfl, rfl⟩, ⟨⟨rfl, rfl⟩, ⟨⟨rfl, rfl⟩, trivial⟩⟩⟩⟩) (fun _ h => h.re [1, 1] [2])
    ·
      have p12 := of_decide_eq_false c10
      refine k_seq ?_
      refine k_reg ?_
      refine s_lt t_cmp ?_
      refine s_lt (t_pure (.bool (decide (x.weak = 2)))) ?_
      refine s_nil ?_
      refine xs_then ?_
      refine k_cond (decide (x.weak = 2)) (fun c13 => ?_) (fun c13 => ?_)
      ·
        have p14 := of_decide_eq_true c13
        refine k_reg ?_
        refine s_lt (t_pure sx) ?_
        refine s_lt (t_pure (.pointer (some ⟨g9, 0, none⟩))) ?_
        refine s_lt (t_load 0 (.int .i64 y7.key)) ?_
        refine s_buildSlice (e := 3) [(0, .int .i64 y7.key)] #[.int .i64 y7.key] (fun g15 => ?_) (hb := by kernel_rfl)
        refine s_append (L := (x.refs ++ (x.ents.take k).flatMap (keptE x.weak))) 2 iTy_ok Try.underlying23 (.lit 0 iTy_ok [y7.key]) (by show _ * 8 ≤ _; (try simp only [List.length_nil, List.length_cons, List.length_append, List.length_take, List.length_drop, List.length_set, List.length_replicate, List.length_reverse]); omega) (by (try simp only [List.length_nil, List.length_cons, List.length_append, List.length_take, List.length_drop, List.length_set, List.length_replicate, List.length_reverse]); omega) (fun v16 => ?_)
        refine s_lt (t_pure v16) ?_
        refine s_nil ?_
        refine xs_block ?_
        refine xs_block ?_
        refine xs_then ?_
        refine k_reg ?_
        refine s_lt (t_pure (.int .i64 (k : Int))) ?_
        refine s_lt (t_add (k : Int) 1 (by (try simp only [List.length_nil, List.length_cons, List.length_append, List.length_take, List.length_drop, List.length_set, List.length_replicate, List.length_reverse]); omega)) ?_
        refine s_lt (t_pure (.int .i64 ((k : Int) + 1))) ?_
        refine s_nil ?_
        rw [show ((x.refs ++ (x.ents.take k).flatMap (keptE x.weak)) ++ [y7.key]) = x.refs ++ (x.ents.take (k + 1)).flatMap (keptE x.weak) by rw [← kept_take hy8]; simp [keptE, List.append_assoc, p6, p12, p14]]
        exact xs_round (v16, k + 1) (by show x.ents.length - (k + 1) < x.ents.length - k; omega) (by show k + 1 ≤ x.ents.length; omega) (sub_of rfl ⟨⟨rfl, rfl⟩, ⟨⟨rfl, rfl⟩, ⟨⟨rfl, rfl⟩, ⟨⟨rfl, rfl⟩, trivial⟩⟩⟩⟩) (fun _ h => h.re [2, 2] [2, 2])
      ·
        have p17 := of_decide_eq_false c13
        refine k_seq ?_
        refine k_reg ?_
        refine s_lt t_cmp ?_
        refine s_lt (t_pure (.bool (decide (x.weak = 1)))) ?_
        refine s_nil ?_
        refine xs_then ?_
        refine k_cond (decide (x.weak = 1)) (fun c18 => ?_) (fun c18 => ?_)
        ·
          have p19 := of_decide_eq_true c18
          refine k_seq ?_
          refine k_reg ?_
          refine s_lt (t_pure (.pointer (some ⟨g9, 0, none⟩))) ?_
          refine s_lt (t_load 0 (.int .i64 y7.key)) ?_
          refine s_lt t_cmp ?_
          refine s_nil ?_
          refine xs_then ?_
          refine k_cond (decide (y7.key = 0)) (fun c20 => ?_) (fun c20 => ?_)
          ·
            have p21 := of_decide_eq_true c20
            refine k_reg ?_
            refine s_lt (t_pure sx) ?_
            refine s_lt (t_pure (.pointer (some ⟨g9, 1, none⟩))) ?_
            refine s_lt (t_load 0 (.int .i64 y7.val)) ?_
            refine s_buildSlice (e := 3) [(0, .int .i64 y7.val)] #[.int .i64 y7.val] (fun g22 => ?_) (hb := by kernel_rfl)
            refine s_append (L := (x.refs ++ (x.ents.take k).flatMap (keptE x.weak))) 2 iTy_ok Try.underlying23 (.lit 0 iTy_ok [y7.val]) (by show _ * 8 ≤ _; (try simp only [List.length_nil, List.length_cons, List.length_append, List.length_take, List.length_drop, List.length_set, List.length_replicate, List.length_reverse]); omega) (by (try simp only [List.length_nil, List.length_cons, List.length_append, List.length_take, List.length_drop, List.length_set, List.length_replicate, List.length_reverse]); omega) (fun v23 => ?_)
            refine s_lt (t_pure v23) ?_
            refine s_nil ?_
            refine xs_block ?_
            refine xs_block ?_
            refine xs_then ?_
            refine k_reg ?_
            refine s_lt (t_pure (.int .i64 (k : Int))) ?_
            refine s_lt (t_add (k : Int) 1 (by (try simp only [List.length_nil, List.length_cons, List.length_append, List.length_take, List.length_drop, List.length_set, List.length_replicate, List.length_reverse]); omega)) ?_
            refine s_lt (t_pure (.int .i64 ((k : Int) + 1))) ?_
            refine s_nil ?_
            rw [show ((x.refs ++ (x.ents.take k).flatMap (keptE x.weak)) ++ [y7.val]) = x.refs ++ (x.ents.take (k + 1)).flatMap (keptE x.weak) by rw [← kept_take hy8]; simp [keptE, List.append_assoc, p6, p12, p17, p19, p21]]
            exact xs_round (v23, k + 1) (by show x.ents.length - (k + 1) < x.ents.length - k; omega) (by show k + 1 ≤ x.ents.length; omega) (sub_of rfl ⟨⟨rfl, rfl⟩, ⟨⟨rfl, rfl⟩, ⟨⟨rfl, rfl⟩, ⟨⟨rfl, rfl⟩, trivial⟩⟩⟩⟩) (fun _ h => h.re [2, 2] [2, 2])
          ·
            have p24 := of_decide_eq_false c20
            refine k_skip ?_
            refine xs_block ?_
            refine xs_block ?_
            refine xs_then ?_
            refine k_reg ?_
            refine s_lt (t_pure (.int .i64 (k : Int))) ?_
            refine s_lt (t_add (k : Int) 1 (by (try simp only [List.length_nil, List.length_cons, List.length_append, List.length_take, List.length_drop, List.length_set, List.length_replicate, List.length_reverse]); omega)) ?_
            refine s_lt (t_pure (.int .i64 ((k : Int) + 1))) ?_
            refine s_nil ?_
            rw [show (x.refs ++ (x.ents.take k).flatMap (keptE x.weak)) = x.refs ++ (x.ents.take (k + 1)).flatMap (keptE x.weak) by rw [← kept_take hy8]; simp [keptE, List.append_assoc, p6, p12, p17, p19, p24]]
            exact xs_round (sx, k + 1) (by show x.ents.length - (k + 1) < x.ents.length - k; omega) (by show k + 1 ≤ x.ents.length; omega) (sub_of rfl ⟨⟨rfl, rfl⟩, ⟨⟨rfl, rfl⟩, ⟨⟨rfl, rfl⟩, ⟨⟨rfl, rfl⟩, trivial⟩⟩⟩⟩) (fun _ h => h.re [1, 1] [2])
        ·
          have p25 := of_decide_eq_false c18
          refine k_reg ?_
          refine s_lt (t_pure sx) ?_
          refine s_lt (t_pure (.pointer (some ⟨g9, 0, none⟩))) ?_
          refine s_lt (t_load 0 (.int .i64 y7.key)) ?_
          refine s_lt (t_pure (.pointer (some ⟨g9, 1, none⟩))) ?_
          refine s_lt (t_load 0 (.int .i64 y7.val)) ?_
          refine s_buildSlice (e := 3) [(0, .int .i64 y7.key), (1, .int .i64 y7.val)] #[.int .i64 y7.key, .int .i64 y7.val] (fun g26 => ?_) (hb := by kernel_rfl)
          refine s_append (L := (x.refs ++ (x.ents.take k).flatMap (keptE x.weak))) 2 iTy_ok Try.underlying23 (.lit 0 iTy_ok [y7.key, y7.val]) (by show _ * 8 ≤ _; (try simp only [List.length_nil, List.length_cons, List.length_append, List.length_take, List.length_drop, List.length_set, List.length_replicate, List.length_reverse]); omega) (by (try simp only [List.length_nil, List.length_cons, List.length_append, List.length_take, List.length_drop, List.length_set, List.length_replicate, List.length_reverse]); omega) (fun v27 => ?_)
          refine s_lt (t_pure v27) ?_
          refine s_nil ?_
          refine xs_block ?_
          refine xs_block ?_
          refine xs_then ?_
          refine k_reg ?_
          refine s_lt (t_pure (.int .i64 (k : Int))) ?_
          refine s_lt (t_add (k : Int) 1 (by (try simp only [List.length_nil, List.length_cons, List.length_append, List.length_take, List.length_drop, List.length_set, List.length_replicate, List.length_reverse]); omega)) ?_
          refine s_lt (t_pure (.int .i64 ((k : Int) + 1))) ?_
          refine s_nil ?_
          rw [show ((x.refs ++ (x.ents.take k).flatMap (keptE x.weak)) ++ [y7.key, y7.val]) = x.refs ++ (x.ents.take (k + 1)).flatMap (keptE x.weak) by rw [← kept_take hy8]; simp [keptE, List.append_assoc, p6, p12, p17, p25]]
          exact xs_round (v27, k + 1) (by show x.ents.length - (k + 1) < x.ents.length - k; omega) (by show k + 1 ≤ x.ents.length; omega) (sub_of rfl ⟨⟨rfl, rfl⟩, ⟨⟨rfl, rfl⟩, ⟨⟨rfl, rfl⟩, ⟨⟨rfl, rfl⟩, trivial⟩⟩⟩⟩) (fun _ h => h.re [2, 2] [2, 2])
  ·
    have p28 := of_decide_eq_false c5
    refine k_exit ?_
    refine xs_exit ?_
    refine xs_exit ?_
    refine xs_here ?_
    refine xs_then ?_
    refine k_seq ?_
    refine k_reg ?_
    refine s_lt (t_pure sx) ?_
    refine s_lt (t_pure sx) ?_
    refine s_nil ?_
    refine xs_then ?_
    refine k_ret ?_
    obtain rfl : k = x.ents.length := by omega
    exact xs_fin [sx] [own iTy sx (keptO x)] (SI.tmp 2 SI.nil) (fun _ h => by rw [List.take_length] at h; exact h.re [0] [1]) rfl
theorem spread_s {Z : Zone} {ov rv : Value} {l : List Ob} {R : List Int} (hg : KnG Z ov rv l R) {F : List Asr} {mv iv : Value} {M0 I : List Int} (hs : Asc l) (hl : l.length ≤ 100000) (hp : pot l [] ≤ 1000000) (hsm : ∀ o ∈ l, o.refs.length ≤ 400 ∧ o.ents.length ≤ 400) (hI : Kn Z iTy iv I) (hi : I.length ≤ 1000000) : SF Try.prog 42 #[.agg #[ov, rv], mv, iv] Z (own bTy mv (bits l M0) :: F) fun r Bs => r = .bool (decide (M0.length < (dfs l M0 I).length)) ∧ Bs = own bTy mv (bits l (dfs l M0 I)) :: F := by
  refine sf_enter Try.func42 49 [(0, .agg #[ov, rv]), (1, mv), (2, iv)] (fun w0 => ?_)
  refine k_seq ?_
  refine k_reg ?_
  refine s_box #[ov, rv] (fun g1 => ?_)
  refine s_lt (t_pure (.bool false)) ?_
  refine s_nil ?_
  refine xs_then ?_
  refine k_seq ?_
  refine k_reg ?_
  refine s_lt (t_pure (.bool false)) ?_
  refine s_nil ?_
  refine xs_then ?_
  refine k_seq ?_
  refine k_reg ?_
  refine s_buildSlice (e := 3) [] #[] (fun g2 => ?_) (hb := by kernel_rfl)
  refine s_lt (t_pure iv) ?_
  refine s_mem (fun _ h => Holds.slice 0 h iTy_ok []) ?_
  refine s_append (L := []) 0 iTy_ok Try.underlying23 (.zn hI) (by show _ * 8 ≤ _; (try simp only [List.length_nil, List.length_cons, List.length_append, List.length_take, List.length_drop, List.length_set, List.length_replicate, List.length_reverse, bits_len]); omega) (by (try simp only [List.length_nil, List.length_cons, List.length_append, List.length_take, List.length_drop, List.length_set, List.length_replicate, List.length_reverse, bits_len]); omega) (fun v3 => ?_)
  refine s_lt (t_pure v3) ?_
  refine s_nil ?_
  refine xs_then ?_
  refine k_seq ?_
  refine k_block ?_
  refine k_loop (ι := Value × List Int × List Int × Bool) (fun (sx, M, W, fr) => dfs l M0 I = dfs l M W ∧ M0.length ≤ M.length ∧ pot l M + W.length ≤ 2000000 ∧ fr = decide (M0.length < M.length)) (fun (sx, M, W, fr) => [(1, mv), (3, .pointer (some ⟨g1, 0, none⟩)), (6, .bool false), (7, .bool fr), (8, sx)]) (fun (sx, M, W, fr) => own iTy sx W :: blkA g1 #[ov, rv] 25 :: own bTy mv (bits l M) :: F) (fun (sx, M, W, fr) => pot l M + W.length) (v3, M0, I, false) ⟨rfl, Nat.le_refl _, by have := pot_mono (M := []) (N := M0) (by simp) l; omega, (decide_eq_false (Nat.lt_irrefl _)).symm⟩ (sub_of rfl ⟨⟨rfl, rfl⟩, ⟨⟨rfl, rfl⟩, ⟨⟨rfl, rfl⟩, ⟨⟨rfl, rfl⟩, ⟨⟨rfl, rfl⟩, trivial⟩⟩⟩⟩⟩) (fun _ h => h.re [0, 0, 0] []) ?_
  rintro ⟨sx, M, W, fr⟩ hi4
  replace hi4 : dfs l M0 I = dfs l M W ∧ M0.length ≤ M.length ∧ pot l M + W.length ≤ 2000000 ∧ fr = decide (M0.length < M.length) := hi4
  show SK _ _ _ _ _ [(1, mv), (3, .pointer (some ⟨g1, 0, none⟩)), (6, .bool false), (7, .bool fr), (8, sx)] _ (own iTy sx W :: blkA g1 #[ov, rv] 25 :: own bTy mv (bits l M) :: F)
  have hbnd := hi4.2.2.1
  refine k_seq ?_
  refine k_seq ?_
  refine k_reg ?_
  refine s_lt (t_pure sx) ?_
  refine s_lt (t_len iTy_ok Try.underlying23 (.own 0)) ?_
  refine s_lt t_cmp ?_
  refine s_nil ?_
  refine xs_then ?_
  refine k_cond (decide ((0 : Int) < (W.length : Int))) (fun c5 => ?_) (fun c5 => ?_)
  ·
    have p6 := of_decide_eq_true c5
    refine k_skip ?_
    refine xs_then ?_
    refine k_block ?_
    refine k_seq ?_
    refine k_draw ?_
    refine s_lt (t_loadA 1 #[ov, rv]) ?_
    refine s_lt (t_pure sx) ?_
    refine s_lt (t_pure sx) ?_
    refine s_fact (fun H h => ((Acc.own (T := iTy) (L := W) 0 rfl) H h).form) (fun hf7 => ?_)
    refine s_lt (t_len iTy_ok Try.underlying23 (.own 0)) ?_
    refine s_lt (t_sub (W.length : Int) 1 (by (try simp only [List.length_nil, List.length_cons, List.length_append, List.length_take, List.length_drop, List.length_set, List.length_replicate, List.length_reverse, bits_len]); omega)) ?_
    refine s_lt (t_index iTy_ok Try.underlying23 (.own 0) ((W.length : Int) - 1) (W.length - 1) (by omega) (by (try simp only [List.length_nil, List.length_cons, List.length_append, List.length_take, List.length_drop, List.length_set, List.length_replicate, List.length_reverse, bits_len]); omega) (by omega)) ?_
    obtain ⟨y8, hy9⟩ : ∃ y, W[(W.length - 1)]? = some y := ⟨_, List.getElem?_eq_getElem (by (try simp only [List.length_nil, List.length_cons, List.length_append, List.length_take, List.length_drop, List.length_set, List.length_replicate, List.length_reverse, bits_len]); omega)⟩
    refine s_lt (t_loadE iTy_ok (.own 0) hy9) ?_
    refine s_vcall (fun _ h => find2_s (hg.up h) hs (by omega) y8) ?_
    rintro _ rfl
    rcases find_cases hs y8 with ⟨hf12, he16⟩ | ⟨ix10, ob11, hx13, hid14, hf15, he16⟩
    ·
      rw [he16]
      refine s_lt (t_pure (.int .i64 (-1))) ?_
      refine s_nil ?_
      refine x_dynS (fun _ h => by obtain ⟨_, _, e⟩ := hf7; subst e; kernel_rfl) ?_
      refine xs_then ?_
      refine k_seq ?_
      refine k_reg ?_
      refine s_lt (t_pure sx) ?_
      refine s_lt (t_pure sx) ?_
      refine s_lt (t_len iTy_ok Try.underlying23 (.own 0)) ?_
      refine s_lt (t_sub (W.length : Int) 1 (by (try simp only [List.length_nil, List.length_cons, List.length_append, List.length_take, List.length_drop, List.length_set, List.length_replicate, List.length_reverse, bits_len]); omega)) ?_
      refine s_lt (t_pre iTy_ok Try.underlying23 (.own 0) ((W.length : Int) - 1) (W.length - 1) (by omega) (by (try simp only [List.length_nil, List.length_cons, List.length_append, List.length_take, List.length_drop, List.length_set, List.length_replicate, List.length_reverse, bits_len]); omega) (by omega)) ?_
      refine s_lt (t_pure (pre sx (W.length - 1))) ?_
      refine s_nil ?_
      refine xs_then ?_
      refine k_seq ?_
      refine k_seq ?_
      refine k_reg ?_
      refine s_lt (t_pure (.int .i64 (-1))) ?_
      refine s_lt (t_cmp (c := true)) ?_
      refine s_lt (t_pure (.bool true)) ?_
      refine s_skip ?_
      refine s_skip ?_
      refine s_skip ?_
      refine s_skip ?_
      refine s_lt (t_pure (.bool true)) ?_
      refine s_nil ?_
      refine xs_then ?_
      refine k_true ?_
      refine k_exit ?_
      refine xs_exit ?_
      refine xs_here ?_
      refine xs_mem (fun _ h => Holds.pre (i := 0) h iTy_ok (W.length - 1) rfl (by (try simp only [List.length_nil, List.length_cons, List.length_append, List.length_take, List.length_drop, List.length_set, List.length_replicate, List.length_reverse, bits_len]); omega)) ?_
      exact xs_round ((pre sx (W.length - 1)), M, (W.take (W.length - 1)), fr) (by show pot l M + (W.take (W.length - 1)).length < pot l M + W.length; rw [List.length_take]; omega) (by obtain ⟨hi1, hi2, hi3, hi4⟩ := hi4; refine ⟨(by rw [← snoc_of hy9] at hi1; rw [hi1]; exact dfs_skip (.inl hf12)), hi2, by rw [List.length_take]; omega, hi4⟩) (sub_of rfl ⟨⟨rfl, rfl⟩, ⟨⟨rfl, rfl⟩, ⟨⟨rfl, rfl⟩, ⟨⟨rfl, rfl⟩, ⟨⟨rfl, rfl⟩, trivial⟩⟩⟩⟩⟩) (fun _ h => h.re [0, 0, 0] [])
    ·
      rw [he16]
      have hk17 := hg.each ob11 (List.mem_of_getElem? hx13)
      have hlt18 : ix10 < l.length := (List.getElem?_eq_some_iff.1 hx13).1
      refine s_lt (t_pure (.int .i64 (ix10 : Int))) ?_
      refine s_nil ?_
      refine x_dynS (fun _ h => by obtain ⟨_, _, e⟩ := hf7; subst e; kernel_rfl) ?_
      refine xs_then ?_
      refine k_seq ?_
      refine k_reg ?_
      refine s_lt (t_pure sx) ?_
      refine s_lt (t_pure sx) ?_
      refine s_lt (t_len iTy_ok Try.underlying23 (.own 0)) ?_
      refine s_lt (t_sub (W.length : Int) 1 (by (try simp only [List.length_nil, List.length_cons, List.length_append, List.length_take, List.length_drop, List.length_set, List.length_replicate, List.length_reverse, bits_len]); omega)) ?_
      refine s_lt (t_pre iTy_ok Try.underlying23 (.own 0) ((W.length : Int) - 1) (W.length - 1) (by omega) (by (try simp only [List.length_nil, List.length_cons, List.length_append, List.length_take, List.length_drop, List.length_set, List.length_replicate, List.length_reverse, bits_len]); omega) (by omega)) ?_
      refine s_lt (t_pure (pre sx (W.length - 1))) ?_
      refine s_nil ?_
      refine xs_then ?_
      refine k_seq ?_
      refine k_seq ?_
      refine k_reg ?_
      refine s_lt (t_pure (.int .i64 (ix10 : Int))) ?_
      refine s_lt (Lt.to t_cmp (congrArg Value.bool (decide_eq_false (by omega) : (decide ((ix10 : Int) < 0)) = false))) ?_
      refine s_lt (t_pure (.bool false)) ?_
      refine s_lt (t_pure mv) ?_
      refine s_lt (t_pure (.int .i64 (ix10 : Int))) ?_
      refine s_lt (t_index bTy_ok Try.underlying52 (.own 2) (ix10 : Int) ix10 (by omega) (by (try simp only [List.length_nil, List.length_cons, List.length_append, List.length_take, List.length_drop, List.length_set, List.length_replicate, List.length_reverse, bits_len]); omega) (by omega)) ?_
      refine s_lt (t_loadE bTy_ok (.own 2) (bits_at (M := M) hx13)) ?_
      refine s_lt (t_pure (.bool (decide (ob11.id ∈ M)))) ?_
      refine s_nil ?_
      refine xs_then ?_
      refine k_cond (decide (ob11.id ∈ M)) (fun c19 => ?_) (fun c19 => ?_)
      ·
        have p20 := of_decide_eq_true c19
        refine k_exit ?_
        refine xs_exit ?_
        refine xs_here ?_
        refine xs_mem (fun _ h => Holds.pre (i := 0) h iTy_ok (W.length - 1) rfl (by (try simp only [List.length_nil, List.length_cons, List.length_append, List.length_take, List.length_drop, List.length_set, List.length_replicate, List.length_reverse, bits_len]); omega)) ?_
        exact xs_round ((pre sx (W.length - 1)), M, (W.take (W.length - 1)), fr) (by show pot l M + (W.take (W.length - 1)).length < pot l M + W.length; rw [List.length_take]; omega) (by obtain ⟨hi1, hi2, hi3, hi4⟩ := hi4; refine ⟨(by rw [← snoc_of hy9] at hi1; rw [hi1]; exact dfs_skip (.inr (by rw [← hid14]; exact p20))), hi2, by rw [List.length_take]; omega, hi4⟩) (sub_of rfl ⟨⟨rfl, rfl⟩, ⟨⟨rfl, rfl⟩, ⟨⟨rfl, rfl⟩, ⟨⟨rfl, rfl⟩, ⟨⟨rfl, rfl⟩, trivial⟩⟩⟩⟩⟩) (fun _ h => h.re [0, 0, 0] [])
      ·
        have p21 := of_decide_eq_false c19
        refine k_skip ?_
        refine xs_then ?_
        refine k_seq ?_
        refine k_reg ?_
        refine s_lt (t_pure mv) ?_
        refine s_lt (t_pure (.int .i64 (ix10 : Int))) ?_
        refine s_lt (t_index bTy_ok Try.underlying52 (.own 2) (ix10 : Int) ix10 (by omega) (by (try simp only [List.length_nil, List.length_cons, List.length_append, List.length_take, List.length_drop, List.length_set, List.length_replicate, List.length_reverse, bits_len]); omega) (by omega)) ?_
        have hnm : y8 ∉ M := by rw [← hid14]; exact p21
        have hpa := pot_add hnm hf15
        refine s_storeE 2 0 true bTy_ok (bits_at (M := M) hx13) ?_
        rw [bits_set hs hx13 hid14]
        refine s_nil ?_
        refine xs_then ?_
        refine k_seq ?_
        refine k_reg ?_
        refine s_lt (t_pure (.bool true)) ?_
        refine s_nil ?_
        refine xs_then ?_
        refine k_reg ?_
        refine s_lt (t_pure (pre sx (W.length - 1))) ?_
        refine s_lt (t_pure (.pointer (some ⟨g1, 0, none⟩))) ?_
        refine s_lt (t_load 1 ov) ?_
        refine s_lt (t_pure (.int .i64 (ix10 : Int))) ?_
        refine s_lt (t_index ObT_ok Try.underlying22 (.zn hg.obs) (ix10 : Int) ix10 (by omega) (by (try simp only [List.length_nil, List.length_cons, List.length_append, List.length_take, List.length_drop, List.length_set, List.length_replicate, List.length_reverse, bits_len]); omega) (by omega)) ?_
        refine s_lt (t_loadE ObT_ok (.zn hg.obs) hx13) ?_
        refine s_pcall (fun _ h => rkept_s (x := ob11) ⟨hk17.1.up h, hk17.2.up h⟩ (by have := hsm ob11 (List.mem_of_getElem? hx13); omega) (by have := hsm ob11 (List.mem_of_getElem? hx13); omega)) ?_
        rintro v22 _ rfl
        refine s_mem (fun _ h => Holds.pre (i := 1) h iTy_ok (W.length - 1) rfl (by (try simp only [List.length_nil, List.length_cons, List.length_append, List.length_take, List.length_drop, List.length_set, List.length_replicate, List.length_reverse, bits_len]); omega)) ?_
        refine s_append (L := (W.take (W.length - 1))) 1 iTy_ok Try.underlying23 (.own 0) (by show _ * 8 ≤ _; (try simp only [List.length_nil, List.length_cons, List.length_append, List.length_take, List.length_drop, List.length_set, List.length_replicate, List.length_reverse, bits_len]); omega) (by (try simp only [List.length_nil, List.length_cons, List.length_append, List.length_take, List.length_drop, List.length_set, List.length_replicate, List.length_reverse, bits_len]); omega) (fun v23 => ?_)
        refine s_lt (t_pure v23) ?_
        refine s_nil ?_
        refine xs_block ?_
        exact xs_round (v23, M ++ [y8], (W.take (W.length - 1)) ++ keptO ob11, true) (by show pot l (M ++ [y8]) + ((W.take (W.length - 1)) ++ keptO ob11).length < pot l M + W.length; rw [List.length_append, List.length_take]; omega) (by obtain ⟨hi1, hi2, hi3, hi4⟩ := hi4; refine ⟨(by rw [← snoc_of hy9] at hi1; rw [hi1]; exact dfs_new hf15 hnm), by rw [List.length_append]; omega, by rw [List.length_append, List.length_take]; omega, (decide_eq_true (by rw [List.length_append]; show M0.length < M.length + 1; omega)).symm⟩) (sub_of rfl ⟨⟨rfl, rfl⟩, ⟨⟨rfl, rfl⟩, ⟨⟨rfl, rfl⟩, ⟨⟨rfl, rfl⟩, ⟨⟨rfl, rfl⟩, trivial⟩⟩⟩⟩⟩) (fun _ h => h.re [1, 1, 1] [3])
  ·
    have p24 := of_decide_eq_false c5
    refine k_exit ?_
    refine xs_exit ?_
    refine xs_exit ?_
    refine xs_here ?_
    refine xs_then ?_
    refine k_seq ?_
    refine k_reg ?_
    refine s_lt (t_pure (.bool fr)) ?_
    refine s_lt (t_pure (.bool fr)) ?_
    refine s_nil ?_
    refine xs_then ?_
    refine k_ret ?_
    obtain ⟨hi1, hi2, hi3, hi4⟩ := hi4
    obtain rfl : W = [] := List.eq_nil_of_length_eq_zero (by omega)
    rw [dfs_nil] at hi1
    refine xs_fin [.bool fr] (own bTy mv (bits l M) :: F) (SI.tmp 6 SI.nil) (fun _ h => h.re [2] [1, 1]) ?_
    rw [hi1, ← hi4]; exact ⟨rfl, rfl⟩
theorem spread1_s {Z : Zone} {ov rv : Value} {l : List Ob} {R : List Int} (hg : KnG Z ov rv l R) {F : List Asr} {mv iv : Value} {M0 I : List Int} (hs : Asc l) (hl : l.length ≤ 100000) (hp : pot l [] ≤ 1000000) (hsm : ∀ o ∈ l, o.refs.length ≤ 400 ∧ o.ents.length ≤ 400) (hi : I.length ≤ 1000000) : SF Try.prog 42 #[.agg #[ov, rv], mv, iv] Z (own bTy mv (bits l M0) :: own iTy iv I :: F) fun r Bs => r = .bool (decide (M0.length < (dfs l M0 I).length)) ∧ Bs = own bTy mv (bits l (dfs l M0 I)) :: F := by
  refine sf_enter Try.func42 49 [(0, .agg #[ov, rv]), (1, mv), (2, iv)] (fun w0 => ?_)
  refine k_seq ?_
  refine k_reg ?_
  refine s_box #[ov, rv] (fun g1 => ?_)
  refine s_lt (t_pure (.bool false)) ?_
  refine s_nil ?_
  refine xs_then ?_
  refine k_seq ?_
  refine k_reg ?_
  refine s_lt (t_pure (.bool false)) ?_
  refine s_nil ?_
  refine xs_then ?_
  refine k_seq ?_
  refine k_reg ?_
  refine s_buildSlice (e := 3) [] #[] (fun g2 => ?_) (hb := by kernel_rfl)
  refine s_lt (t_pure iv) ?_
  refine s_mem (fun _ h => Holds.slice 0 h iTy_ok []) ?_
  refine s_append (L := []) 0 iTy_ok Try.underlying23 (.own 3) (by show _ * 8 ≤ _; (try simp only [List.length_nil, List.length_cons, List.length_append, List.length_take, List.length_drop, List.length_set, List.length_replicate, List.length_reverse, bits_len]); omega) (by (try simp only [List.length_nil, List.length_cons, List.length_append, List.length_take, List.length_drop, List.length_set, List.length_replicate, List.length_reverse, bits_len]); omega) (fun v3 => ?_)
  refine s_lt (t_pure v3) ?_
  refine s_nil ?_
  refine xs_then ?_
  refine k_seq ?_
  refine k_block ?_
  refine k_loop (ι := Value × List Int × List Int × Bool) (fun (sx, M, W, fr) => dfs l M0 I = dfs l M W ∧ M0.length ≤ M.length ∧ pot l M + W.length ≤ 2000000 ∧ fr = decide (M0.length < M.length)) (fun (sx, M, W, fr) => [(1, mv), (3, .pointer (some ⟨g1, 0, none⟩)), (6, .bool false), (7, .bool fr), (8, sx)]) (fun (sx, M, W, fr) => own iTy sx W :: blkA g1 #[ov, rv] 25 :: own bTy mv (bits l M) :: own iTy iv I :: F) (fun (sx, M, W, fr) => pot l M + W.length) (v3, M0, I, false) ⟨rfl, Nat.le_refl _, by have := pot_mono (M := []) (N := M0) (by simp) l; omega, (decide_eq_false (Nat.lt_irrefl _)).symm⟩ (sub_of rfl ⟨⟨rfl, rfl⟩, ⟨⟨rfl, rfl⟩, ⟨⟨rfl, rfl⟩, ⟨⟨rfl, rfl⟩, ⟨⟨rfl, rfl⟩, trivial⟩⟩⟩⟩⟩) (fun _ h => h.re [0, 0, 0, 0] []) ?_
  rintro ⟨sx, M, W, fr⟩ hi4
  replace hi4 : dfs l M0 I = dfs l M W ∧ M0.length ≤ M.length ∧ pot l M + W.length ≤ 2000000 ∧ fr = decide (M0.length < M.length) := hi4
  show SK _ _ _ _ _ [(1, mv), (3, .pointer (some ⟨g1, 0, none⟩)), (6, .bool false), (7, .bool fr), (8, sx)] _ (own iTy sx W :: blkA g1 #[ov, rv] 25 :: own bTy mv (bits l M) :: own iTy iv I :: F)
  have hbnd := hi4.2.2.1
  refine k_seq ?_
  refine k_seq ?_
  refine k_reg ?_
  refine s_lt (t_pure sx) ?_
  refine s_lt (t_len iTy_ok Try.underlying23 (.own 0)) ?_
  refine s_lt t_cmp ?_
  refine s_nil ?_
  refine xs_then ?_
  refine k_cond (decide ((0 : Int) < (W.length : Int))) (fun c5 => ?_) (fun c5 => ?_)
  ·
    have p6 := of_decide_eq_true c5
    refine k_skip ?_
    refine xs_then ?_
    refine k_block ?_
    refine k_seq ?_
    refine k_draw ?_
    refine s_lt (t_loadA 1 #[ov, rv]) ?_
    refine s_lt (t_pure sx) ?_
    refine s_lt (t_pure sx) ?_
    refine s_fact (fun H h => ((Acc.own (T := iTy) (L := W) 0 rfl) H h).form) (fun hf7 => ?_)
    refine s_lt (t_len iTy_ok Try.underlying23 (.own 0)) ?_
    refine s_lt (t_sub (W.length : Int) 1 (by (try simp only [List.length_nil, List.length_cons, List.length_append, List.length_take, List.length_drop, List.length_set, List.length_replicate, List.length_reverse, bits_len]); omega)) ?_
    refine s_lt (t_index iTy_ok Try.underlying23 (.own 0) ((W.length : Int) - 1) (W.length - 1) (by omega) (by (try simp only [List.length_nil, List.length_cons, List.length_append, List.length_take, List.length_drop, List.length_set, List.length_replicate, List.length_reverse, bits_len]); omega) (by omega)) ?_
    obtain ⟨y8, hy9⟩ : ∃ y, W[(W.length - 1)]? = some y := ⟨_, List.getElem?_eq_getElem (by (try simp only [List.length_nil, List.length_cons, List.length_append, List.length_take, List.length_drop, List.length_set, List.length_replicate, List.length_reverse, bits_len]); omega)⟩
    refine s_lt (t_loadE iTy_ok (.own 0) hy9) ?_
    refine s_vcall (fun _ h => find2_s (hg.up h) hs (by omega) y8) ?_
    rintro _ rfl
    rcases find_cases hs y8 with ⟨hf12, he16⟩ | ⟨ix10, ob11, hx13, hid14, hf15, he16⟩
    ·
      rw [he16]
      refine s_lt (t_pure (.int .i64 (-1))) ?_
      refine s_nil ?_
      refine x_dynS (fun _ h => by obtain ⟨_, _, e⟩ := hf7; subst e; kernel_rfl) ?_
      refine xs_then ?_
      refine k_seq ?_
      refine k_reg ?_
      refine s_lt (t_pure sx) ?_
      refine s_lt (t_pure sx) ?_
      refine s_lt (t_len iTy_ok Try.underlying23 (.own 0)) ?_
      refine s_lt (t_sub (W.length : Int) 1 (by (try simp only [List.length_nil, List.length_cons, List.length_append, List.length_take, List.length_drop, List.length_set, List.length_replicate, List.length_reverse, bits_len]); omega)) ?_
      refine s_lt (t_pre iTy_ok Try.underlying23 (.own 0) ((W.length : Int) - 1) (W.length - 1) (by omega) (by (try simp only [List.length_nil, List.length_cons, List.length_append, List.length_take, List.length_drop, List.length_set, List.length_replicate, List.length_reverse, bits_len]); omega) (by omega)) ?_
      refine s_lt (t_pure (pre sx (W.length - 1))) ?_
      refine s_nil ?_
      refine xs_then ?_
      refine k_seq ?_
      refine k_seq ?_
      refine k_reg ?_
      refine s_lt (t_pure (.int .i64 (-1))) ?_
      refine s_lt (t_cmp (c := true)) ?_
      refine s_lt (t_pure (.bool true)) ?_
      refine s_skip ?_
      refine s_skip ?_
      refine s_skip ?_
      refine s_skip ?_
      refine s_lt (t_pure (.bool true)) ?_
      refine s_nil ?_
      refine xs_then ?_
      refine k_true ?_
      refine k_exit ?_
      refine xs_exit ?_
      refine xs_here ?_
      refine xs_mem (fun _ h => Holds.pre (i := 0) h iTy_ok (W.length - 1) rfl (by (try simp only [List.length_nil, List.length_cons, List.length_append, List.length_take, List.length_drop, List.length_set, List.length_replicate, List.length_reverse, bits_len]); omega)) ?_
      exact xs_round ((pre sx (W.length - 1)), M, (W.take (W.length - 1)), fr) (by show pot l M + (W.take (W.length - 1)).length < pot l M + W.length; rw [List.length_take]; omega) (by obtain ⟨hi1, hi2, hi3, hi4⟩ := hi4; refine ⟨(by rw [← snoc_of hy9] at hi1; rw [hi1]; exact dfs_skip (.inl hf12)), hi2, by rw [List.length_take]; omega, hi4⟩) (sub_of rfl ⟨⟨rfl, rfl⟩, ⟨⟨rfl, rfl⟩, ⟨⟨rfl, rfl⟩, ⟨⟨rfl, rfl⟩, ⟨⟨rfl, rfl⟩, trivial⟩⟩⟩⟩⟩) (fun _ h => h.re [0, 0, 0, 0] [])
    ·
      rw [he16]
      have hk17 := hg.each ob11 (List.mem_of_getElem? hx13)
      have hlt18 : ix10 < l.length := (List.getElem?_eq_some_iff.1 hx13).1
      refine s_lt (t_pure (.int .i64 (ix10 : Int))) ?_
      refine s_nil ?_
      refine x_dynS (fun _ h => by obtain ⟨_, _, e⟩ := hf7; subst e; kernel_rfl) ?_
      refine xs_then ?_
      refine k_seq ?_
      refine k_reg ?_
      refine s_lt (t_pure sx) ?_
      refine s_lt (t_pure sx) ?_
      refine s_lt (t_len iTy_ok Try.underlying23 (.own 0)) ?_
      refine s_lt (t_sub (W.length : Int) 1 (by (try simp only [List.length_nil, List.length_cons, List.length_append, List.length_take, List.length_drop, List.length_set, List.length_replicate, List.length_reverse, bits_len]); omega)) ?_
      refine s_lt (t_pre iTy_ok Try.underlying23 (.own 0) ((W.length : Int) - 1) (W.length - 1) (by omega) (by (try simp only [List.length_nil, List.length_cons, List.length_append, List.length_take, List.length_drop, List.length_set, List.length_replicate, List.length_reverse, bits_len]); omega) (by omega)) ?_
      refine s_lt (t_pure (pre sx (W.length - 1))) ?_
      refine s_nil ?_
      refine xs_then ?_
      refine k_seq ?_
      refine k_seq ?_
      refine k_reg ?_
      refine s_lt (t_pure (.int .i64 (ix10 : Int))) ?_
      refine s_lt (Lt.to t_cmp (congrArg Value.bool (decide_eq_false (by omega) : (decide ((ix10 : Int) < 0)) = false))) ?_
      refine s_lt (t_pure (.bool false)) ?_
      refine s_lt (t_pure mv) ?_
      refine s_lt (t_pure (.int .i64 (ix10 : Int))) ?_
      refine s_lt (t_index bTy_ok Try.underlying52 (.own 2) (ix10 : Int) ix10 (by omega) (by (try simp only [List.length_nil, List.length_cons, List.length_append, List.length_take, List.length_drop, List.length_set, List.length_replicate, List.length_reverse, bits_len]); omega) (by omega)) ?_
      refine s_lt (t_loadE bTy_ok (.own 2) (bits_at (M := M) hx13)) ?_
      refine s_lt (t_pure (.bool (decide (ob11.id ∈ M)))) ?_
      refine s_nil ?_
      refine xs_then ?_
      refine k_cond (decide (ob11.id ∈ M)) (fun c19 => ?_) (fun c19 => ?_)
      ·
        have p20 := of_decide_eq_true c19
        refine k_exit ?_
        refine xs_exit ?_
        refine xs_here ?_
        refine xs_mem (fun _ h => Holds.pre (i := 0) h iTy_ok (W.length - 1) rfl (by (try simp only [List.length_nil, List.length_cons, List.length_append, List.length_take, List.length_drop, List.length_set, List.length_replicate, List.length_reverse, bits_len]); omega)) ?_
        exact xs_round ((pre sx (W.length - 1)), M, (W.take (W.length - 1)), fr) (by show pot l M + (W.take (W.length - 1)).length < pot l M + W.length; rw [List.length_take]; omega) (by obtain ⟨hi1, hi2, hi3, hi4⟩ := hi4; refine ⟨(by rw [← snoc_of hy9] at hi1; rw [hi1]; exact dfs_skip (.inr (by rw [← hid14]; exact p20))), hi2, by rw [List.length_take]; omega, hi4⟩) (sub_of rfl ⟨⟨rfl, rfl⟩, ⟨⟨rfl, rfl⟩, ⟨⟨rfl, rfl⟩, ⟨⟨rfl, rfl⟩, ⟨⟨rfl, rfl⟩, trivial⟩⟩⟩⟩⟩) (fun _ h => h.re [0, 0, 0, 0] [])
      ·
        have p21 := of_decide_eq_false c19
        refine k_skip ?_
        refine xs_then ?_
        refine k_seq ?_
        refine k_reg ?_
        refine s_lt (t_pure mv) ?_
        refine s_lt (t_pure (.int .i64 (ix10 : Int))) ?_
        refine s_lt (t_index bTy_ok Try.underlying52 (.own 2) (ix10 : Int) ix10 (by omega) (by (try simp only [List.length_nil, List.length_cons, List.length_append, List.length_take, List.length_drop, List.length_set, List.length_replicate, List.length_reverse, bits_len]); omega) (by omega)) ?_
        have hnm : y8 ∉ M := by rw [← hid14]; exact p21
        have hpa := pot_add hnm hf15
        refine s_storeE 2 0 true bTy_ok (bits_at (M := M) hx13) ?_
        rw [bits_set hs hx13 hid14]
        refine s_nil ?_
        refine xs_then ?_
        refine k_seq ?_
        refine k_reg ?_
        refine s_lt (t_pure (.bool true)) ?_
        refine s_nil ?_
        refine xs_then ?_
        refine k_reg ?_
        refine s_lt (t_pure (pre sx (W.length - 1))) ?_
        refine s_lt (t_pure (.pointer (some ⟨g1, 0, none⟩))) ?_
        refine s_lt (t_load 1 ov) ?_
        refine s_lt (t_pure (.int .i64 (ix10 : Int))) ?_
        refine s_lt (t_index ObT_ok Try.underlying22 (.zn hg.obs) (ix10 : Int) ix10 (by omega) (by (try simp only [List.length_nil, List.length_cons, List.length_append, List.length_take, List.length_drop, List.length_set, List.length_replicate, List.length_reverse, bits_len]); omega) (by omega)) ?_
        refine s_lt (t_loadE ObT_ok (.zn hg.obs) hx13) ?_
        refine s_pcall (fun _ h => rkept_s (x := ob11) ⟨hk17.1.up h, hk17.2.up h⟩ (by have := hsm ob11 (List.mem_of_getElem? hx13); omega) (by have := hsm ob11 (List.mem_of_getElem? hx13); omega)) ?_
        rintro v22 _ rfl
        refine s_mem (fun _ h => Holds.pre (i := 1) h iTy_ok (W.length - 1) rfl (by (try simp only [List.length_nil, List.length_cons, List.length_append, List.length_take, List.length_drop, List.length_set, List.length_replicate, List.length_reverse, bits_len]); omega)) ?_
        refine s_append (L := (W.take (W.length - 1))) 1 iTy_ok Try.underlying23 (.own 0) (by show _ * 8 ≤ _; (try simp only [List.length_nil, List.length_cons, List.length_append, List.length_take, List.length_drop, List.length_set, List.length_replicate, List.length_reverse, bits_len]); omega) (by (try simp only [List.length_nil, List.length_cons, List.length_append, List.length_take, List.length_drop, List.length_set, List.length_replicate, List.length_reverse, bits_len]); omega) (fun v23 => ?_)
        refine s_lt (t_pure v23) ?_
        refine s_nil ?_
        refine xs_block ?_
        exact xs_round (v23, M ++ [y8], (W.take (W.length - 1)) ++ keptO ob11, true) (by show pot l (M ++ [y8]) + ((W.take (W.length - 1)) ++ keptO ob11).length < pot l M + W.length; rw [List.length_append, List.length_take]; omega) (by obtain ⟨hi1, hi2, hi3, hi4⟩ := hi4; refine ⟨(by rw [← snoc_of hy9] at hi1; rw [hi1]; exact dfs_new hf15 hnm), by rw [List.length_append]; omega, by rw [List.length_append, List.length_take]; omega, (decide_eq_true (by rw [List.length_append]; show M0.length < M.length + 1; omega)).symm⟩) (sub_of rfl ⟨⟨rfl, rfl⟩, ⟨⟨rfl, rfl⟩, ⟨⟨rfl, rfl⟩, ⟨⟨rfl, rfl⟩, ⟨⟨rfl, rfl⟩, trivial⟩⟩⟩⟩⟩) (fun _ h => h.re [1, 1, 1, 1] [4])
  ·
    have p24 := of_decide_eq_false c5
    refine k_exit ?_
    refine xs_exit ?_
    refine xs_exit ?_
    refine xs_here ?_
    refine xs_then ?_
    refine k_seq ?_
    refine k_reg ?_
    refine s_lt (t_pure (.bool fr)) ?_
    refine s_lt (t_pure (.bool fr)) ?_
    refine s_nil ?_
    refine xs_then ?_
    refine k_ret ?_
    obtain ⟨hi1, hi2, hi3, hi4⟩ := hi4
    obtain rfl : W = [] := List.eq_nil_of_length_eq_zero (by omega)
    rw [dfs_nil] at hi1
    refine xs_fin [.bool fr] (own bTy mv (bits l M) :: F) (SI.tmp 6 SI.nil) (fun _ h => h.re [2] [1, 1, 1]) ?_
    rw [hi1, ← hi4]; exact ⟨rfl, rfl⟩
theorem marked_s {Z : Zone} {ov rv : Value} {l : List Ob} {R : List Int} (hg : KnG Z ov rv l R) {mv : Value} {M : List Int} (hs : Asc l) (hl : l.length ≤ 100000) (hM : Kn Z bTy mv (bits l M)) (hin : ∀ x ∈ M, Is l x) (id : Int) : SF Try.prog 52 #[.agg #[ov, rv], mv, .int .i64 id] Z [] fun r Bs => r = .bool (decide (id ∈ M)) ∧ Bs = [] := by
  refine sf_enter Try.func52 19 [(0, .agg #[ov, rv]), (1, mv), (2, .int .i64 id)] (fun w0 => ?_)
  refine k_seq ?_
  refine k_reg ?_
  refine s_box #[ov, rv] (fun g1 => ?_)
  refine s_lt (t_pure (.bool false)) ?_
  refine s_nil ?_
  refine xs_then ?_
  refine k_seq ?_
  refine k_reg ?_
  refine s_lt (t_loadA 0 #[ov, rv]) ?_
  refine s_lt (t_pure (.int .i64 id)) ?_
  refine s_vcall (fun _ h => find2_s (hg.up h) hs (by omega) id) ?_
  rintro _ rfl
  rcases find_cases hs id with ⟨hf4, he8⟩ | ⟨ix2, ob3, hx5, hid6, hf7, he8⟩
  ·
    rw [he8]
    refine s_lt (t_pure (.int .i64 (-1))) ?_
    refine s_nil ?_
    refine xs_then ?_
    refine k_seq ?_
    refine k_reg ?_
    refine s_lt (t_pure (.int .i64 (-1))) ?_
    refine s_lt (t_cmp (c := false)) ?_
    refine s_lt (t_pure (.bool false)) ?_
    refine s_skip ?_
    refine s_skip ?_
    refine s_skip ?_
    refine s_skip ?_
    refine s_lt (t_pure (.bool false)) ?_
    refine s_lt (t_pure (.bool false)) ?_
    refine s_nil ?_
    refine xs_then ?_
    refine k_ret ?_
    refine xs_fin [.bool false] [] (SI.tmp 6 SI.nil) (fun _ h => h.re [] [0]) ⟨congrArg Value.bool ?_, rfl⟩
    exact (decide_eq_false fun hm => by have := hin _ hm; rw [Is, hf4] at this; cases this).symm
  ·
    rw [he8]
    have hk9 := hg.each ob3 (List.mem_of_getElem? hx5)
    have hlt10 : ix2 < l.length := (List.getElem?_eq_some_iff.1 hx5).1
    refine s_lt (t_pure (.int .i64 (ix2 : Int))) ?_
    refine s_nil ?_
    refine xs_then ?_
    refine k_seq ?_
    refine k_reg ?_
    refine s_lt (t_pure (.int .i64 (ix2 : Int))) ?_
    refine s_lt (Lt.to t_cmp (congrArg Value.bool (decide_eq_true (by omega) : (decide ((0 : Int) ≤ (ix2 : Int))) = true))) ?_
    refine s_lt (t_pure (.bool true)) ?_
    refine s_lt (t_pure mv) ?_
    refine s_lt (t_pure (.int .i64 (ix2 : Int))) ?_
    refine s_lt (t_index bTy_ok Try.underlying52 (.zn hM) (ix2 : Int) ix2 (by omega) (by (try simp only [List.length_nil, List.length_cons, List.length_append, List.length_take, List.length_drop, List.length_set, List.length_replicate, List.length_reverse, bits_len]); omega) (by omega)) ?_
    refine s_lt (t_loadE bTy_ok (.zn hM) (bits_at (M := M) hx5)) ?_
    refine s_lt (t_pure (.bool (decide (ob3.id ∈ M)))) ?_
    refine s_lt (t_pure (.bool (decide (ob3.id ∈ M)))) ?_
    refine s_nil ?_
    refine xs_then ?_
    refine k_ret ?_
    refine xs_fin [.bool (decide (ob3.id ∈ M))] [] (SI.tmp 6 SI.nil) (fun _ h => h.re [] [0]) ⟨congrArg Value.bool ?_, rfl⟩
    rw [hid6]
theorem rround_s {Z : Zone} {ov rv : Value} {l : List Ob} {R : List Int} (hg : KnG Z ov rv l R) {F : List Asr} {mv : Value} {M0 : List Int} (hs : Asc l) (hl : l.length ≤ 100000) (hp : pot l [] ≤ 1000000) (hsm : ∀ o ∈ l, o.refs.length ≤ 400 ∧ o.ents.length ≤ 400) (hg0 : Good l M0) : SF Try.prog 43 #[.agg #[ov, rv], mv] Z (own bTy mv (bits l M0) :: F) fun r Bs => r = .bool (rnd l M0).2 ∧ Bs = own bTy mv (bits l (rnd l M0).1) :: F := by
  refine sf_enter Try.func43 60 [(0, .agg #[ov, rv]), (1, mv)] (fun w0 => ?_)
  refine k_seq ?_
  refine k_reg ?_
  refine s_box #[ov, rv] (fun g1 => ?_)
  refine s_lt (t_pure (.bool false)) ?_
  refine s_nil ?_
  refine xs_then ?_
  refine k_seq ?_
  refine k_reg ?_
  refine s_lt (t_pure (.bool false)) ?_
  refine s_nil ?_
  refine xs_then ?_
  refine k_seq ?_
  refine k_seq ?_
  refine k_reg ?_
  refine s_lt (t_pure (.int .i64 0)) ?_
  refine s_nil ?_
  refine xs_then ?_
  refine k_block ?_
  refine k_loop (ι := List Int × Bool × Nat) (fun (M, ch, i) => i ≤ l.length ∧ (M, ch) = (tabs (l.take i)).foldl (stepT l) (M0, false)) (fun (M, ch, i) => [(1, mv), (2, .pointer (some ⟨g1, 0, none⟩)), (4, .bool false), (5, .bool ch), (6, .int .i64 (i : Int))]) (fun (M, ch, i) => blkA g1 #[ov, rv] 25 :: own bTy mv (bits l M) :: F) (fun (M, ch, i) => l.length - i) (M0, false, 0) ⟨Nat.zero_le _, rfl⟩ (sub_of rfl ⟨⟨rfl, rfl⟩, ⟨⟨rfl, rfl⟩, ⟨⟨rfl, rfl⟩, ⟨⟨rfl, rfl⟩, ⟨⟨rfl, rfl⟩, trivial⟩⟩⟩⟩⟩) (fun _ h => h.re [0, 0] []) ?_
  rintro ⟨M, ch, i⟩ hi2
  replace hi2 : i ≤ l.length ∧ (M, ch) = (tabs (l.take i)).foldl (stepT l) (M0, false) := hi2
  show SK _ _ _ _ _ [(1, mv), (2, .pointer (some ⟨g1, 0, none⟩)), (4, .bool false), (5, .bool ch), (6, .int .i64 (i : Int))] _ (blkA g1 #[ov, rv] 25 :: own bTy mv (bits l M) :: F)
  have hgM : Good l M := by have h := (step_fold (step_t l) (tabs (l.take i)) (M0, false)).good hg0; rw [← hi2.2] at h; exact h
  refine k_seq ?_
  refine k_seq ?_
  refine k_reg ?_
  refine s_lt (t_pure (.int .i64 (i : Int))) ?_
  refine s_lt (t_pure (.pointer (some ⟨g1, 0, none⟩))) ?_
  refine s_lt (t_load 0 ov) ?_
  refine s_lt (t_len ObT_ok Try.underlying22 (.zn hg.obs)) ?_
  refine s_lt t_cmp ?_
  refine s_nil ?_
  refine xs_then ?_
  refine k_cond (decide ((i : Int) < (l.length : Int))) (fun c3 => ?_) (fun c3 => ?_)
  ·
    have p4 := of_decide_eq_true c3
    refine k_skip ?_
    refine xs_then ?_
    refine k_seq ?_
    refine k_block ?_
    refine k_seq ?_
    refine k_reg ?_
    refine s_lt (t_pure (.pointer (some ⟨g1, 0, none⟩))) ?_
    refine s_lt (t_load 0 ov) ?_
    refine s_lt (t_pure (.int .i64 (i : Int))) ?_
    refine s_lt (t_index ObT_ok Try.underlying22 (.zn hg.obs) (i : Int) i (by omega) (by (try simp only [List.length_nil, List.length_cons, List.length_append, List.length_take, List.length_drop, List.length_set, List.length_replicate, List.length_reverse, bits_len]); omega) (by omega)) ?_
    obtain ⟨y5, hy6⟩ : ∃ y, l[i]? = some y := ⟨_, List.getElem?_eq_getElem (by (try simp only [List.length_nil, List.length_cons, List.length_append, List.length_take, List.length_drop, List.length_set, List.length_replicate, List.length_reverse, bits_len]); omega)⟩
    have hk7 := hg.each y5 (List.mem_of_getElem? hy6)
    refine s_lt (t_loadE ObT_ok (.zn hg.obs) hy6) ?_
    refine s_alloc (.agg #[.int .i64 0, .int .i64 0, .int .i64 0, (.slice none 0 0), (.slice none 0 0)]) #[.int .i64 0, .int .i64 0, .int .i64 0, (.slice none 0 0), (.slice none 0 0)] (fun g8 => ?_)
    refine s_store 0 #[.int .i64 y5.id, .int .i64 y5.size, .int .i64 y5.weak, y5.rv.v, y5.ev.v] ?_
    refine s_nil ?_
    refine xs_then ?_
    refine k_seq ?_
    refine k_seq ?_
    refine k_reg ?_
    refine s_lt (t_pure (.pointer (some ⟨g8, 2, none⟩))) ?_
    refine s_lt (t_load 0 (.int .i64 y5.weak)) ?_
    refine s_lt t_cmp ?_
    refine s_lt (t_pure (.bool (decide (y5.weak ≠ 1)))) ?_
    refine s_fork 24 (decide (y5.weak ≠ 1)) (fun c9 => ?_) (fun c9 => ?_)
    ·
      have p10 := of_decide_eq_true c9
      refine s_skip ?_
      refine s_skip ?_
      refine s_skip ?_
      refine s_skip ?_
      refine s_skip ?_
      refine s_lt (t_pure (.bool true)) ?_
      refine s_nil ?_
      refine xs_then ?_
      refine k_true ?_
      refine k_exit ?_
      refine xs_exit ?_
      refine xs_here ?_
      refine xs_then ?_
      refine k_reg ?_
      refine s_lt (t_pure (.int .i64 (i : Int))) ?_
      refine s_lt (t_add (i : Int) 1 (by (try simp only [List.length_nil, List.length_cons, List.length_append, List.length_take, List.length_drop, List.length_set, List.length_replicate, List.length_reverse, bits_len]); omega)) ?_
      refine s_lt (t_pure (.int .i64 ((i : Int) + 1))) ?_
      refine s_nil ?_
      exact xs_round (M, ch, i + 1) (by show l.length - (i + 1) < l.length - i; omega) (by obtain ⟨hi1, hi2⟩ := hi2; exact ⟨by omega, by rw [tabs_no hy6 p10]; exact hi2⟩) (sub_of rfl ⟨⟨rfl, rfl⟩, ⟨⟨rfl, rfl⟩, ⟨⟨rfl, rfl⟩, ⟨⟨rfl, rfl⟩, ⟨⟨rfl, rfl⟩, trivial⟩⟩⟩⟩⟩) (fun _ h => h.re [1, 1] [2])
    ·
      have p11 := Decidable.not_not.1 (of_decide_eq_false c9)
      refine s_lt (t_pure mv) ?_
      refine s_lt (t_pure (.int .i64 (i : Int))) ?_
      refine s_lt (t_index bTy_ok Try.underlying52 (.own 2) (i : Int) i (by omega) (by (try simp only [List.length_nil, List.length_cons, List.length_append, List.length_take, List.length_drop, List.length_set, List.length_replicate, List.length_reverse, bits_len]); omega) (by omega)) ?_
      refine s_lt (t_loadE bTy_ok (.own 2) (bits_at (M := M) hy6)) ?_
      refine s_lt (t_pure (.bool (!(decide (y5.id ∈ M))))) ?_
      refine s_lt (t_pure (.bool (!(decide (y5.id ∈ M))))) ?_
      refine s_nil ?_
      refine xs_then ?_
      refine k_cond (!(decide (y5.id ∈ M))) (fun c12 => ?_) (fun c12 => ?_)
      ·
        have c13 := not_t c12
        have p14 := of_decide_eq_false c13
        refine k_exit ?_
        refine xs_exit ?_
        refine xs_here ?_
        refine xs_then ?_
        refine k_reg ?_
        refine s_lt (t_pure (.int .i64 (i : Int))) ?_
        refine s_lt (t_add (i : Int) 1 (by (try simp only [List.length_nil, List.length_cons, List.length_append, List.length_take, List.length_drop, List.length_set, List.length_replicate, List.length_reverse, bits_len]); omega)) ?_
        refine s_lt (t_pure (.int .i64 ((i : Int) + 1))) ?_
        refine s_nil ?_
        exact xs_round (M, ch, i + 1) (by show l.length - (i + 1) < l.length - i; omega) (by obtain ⟨hi1, hi2⟩ := hi2; refine ⟨by omega, ?_⟩; rw [tabs_yes hy6 p11, List.foldl_append, ← hi2]; exact (stepT_out p14).symm) (sub_of rfl ⟨⟨rfl, rfl⟩, ⟨⟨rfl, rfl⟩, ⟨⟨rfl, rfl⟩, ⟨⟨rfl, rfl⟩, ⟨⟨rfl, rfl⟩, trivial⟩⟩⟩⟩⟩) (fun _ h => h.re [1, 1] [2])
      ·
        have c15 := not_f c12
        have p16 := of_decide_eq_true c15
        refine k_skip ?_
        refine xs_then ?_
        refine k_seq ?_
        refine k_reg ?_
        refine s_lt (t_pure (.int .i64 0)) ?_
        refine s_nil ?_
        refine xs_then ?_
        refine k_block ?_
        refine k_fact (fun H h => (hk7.2.get h).len_le) (fun le => ?_)
        refine k_loop (ι := List Int × Bool × Nat) (fun (N, ci, k) => k ≤ y5.ents.length ∧ (N, ci) = (y5.ents.take k).foldl (stepE l) (M, ch)) (fun (N, ci, k) => [(1, mv), (2, .pointer (some ⟨g1, 0, none⟩)), (4, .bool false), (5, .bool ci), (6, .int .i64 (i : Int)), (7, .pointer (some ⟨g8, 0, none⟩)), (8, .int .i64 (k : Int)), (9, .int .i64 (i : Int)), (10, .pointer (some ⟨g1, 0, none⟩)), (11, ov), (12, .int .i64 (l.length : Int)), (13, .bool (decide ((i : Int) < (l.length : Int)))), (16, .pointer (some ⟨g1, 0, none⟩)), (17, ov), (18, .int .i64 (i : Int)), (19, .pointer (some (elemAt ObT.size ov i))), (20, .agg #[.int .i64 y5.id, .int .i64 y5.size, .int .i64 y5.weak, y5.rv.v, y5.ev.v]), (21, .pointer (some ⟨g8, 2, none⟩)), (22, .int .i64 y5.weak), (23, .bool (decide (y5.weak ≠ 1))), (24, .bool false), (25, mv), (26, .int .i64 (i : Int)), (27, .pointer (some (elemAt bTy.size mv i))), (28, .bool (decide (y5.id ∈ M))), (29, .bool (!(decide (y5.id ∈ M)))), (30, .bool (!(decide (y5.id ∈ M))))]) (fun (N, ci, k) => blkA g8 #[.int .i64 y5.id, .int .i64 y5.size, .int .i64 y5.weak, y5.rv.v, y5.ev.v] 42 :: blkA g1 #[ov, rv] 25 :: own bTy mv (bits l N) :: F) (fun (N, ci, k) => y5.ents.length - k) (M, ch, 0) ⟨Nat.zero_le _, rfl⟩ (sub_of rfl ⟨⟨rfl, rfl⟩, ⟨⟨rfl, rfl⟩, ⟨⟨rfl, rfl⟩, ⟨⟨rfl, rfl⟩, ⟨⟨rfl, rfl⟩, ⟨⟨rfl, rfl⟩, ⟨⟨rfl, rfl⟩, ⟨⟨rfl, rfl⟩, ⟨⟨rfl, rfl⟩, ⟨⟨rfl, rfl⟩, ⟨⟨rfl, rfl⟩, ⟨⟨rfl, rfl⟩, ⟨⟨rfl, rfl⟩, ⟨⟨rfl, rfl⟩, ⟨⟨rfl, rfl⟩, ⟨⟨rfl, rfl⟩, ⟨⟨rfl, rfl⟩, ⟨⟨rfl, rfl⟩, ⟨⟨rfl, rfl⟩, ⟨⟨rfl, rfl⟩, ⟨⟨rfl, rfl⟩, ⟨⟨rfl, rfl⟩, ⟨⟨rfl, rfl⟩, ⟨⟨rfl, rfl⟩, ⟨⟨rfl, rfl⟩, ⟨⟨rfl, rfl⟩, ⟨⟨rfl, rfl⟩, trivial⟩⟩⟩⟩⟩⟩⟩⟩⟩⟩⟩⟩⟩⟩⟩⟩⟩⟩⟩⟩⟩⟩⟩⟩⟩⟩⟩) (fun _ h => h.re [0, 0, 0] []) ?_
        rintro ⟨N, ci, k⟩ hi17
        replace hi17 : k ≤ y5.ents.length ∧ (N, ci) = (y5.ents.take k).foldl (stepE l) (M, ch) := hi17
        show SK _ _ _ _ _ [(1, mv), (2, .pointer (some ⟨g1, 0, none⟩)), (4, .bool false), (5, .bool ci), (6, .int .i64 (i : Int)), (7, .pointer (some ⟨g8, 0, none⟩)), (8, .int .i64 (k : Int)), (9, .int .i64 (i : Int)), (10, .pointer (some ⟨g1, 0, none⟩)), (11, ov), (12, .int .i64 (l.length : Int)), (13, .bool (decide ((i : Int) < (l.length : Int)))), (16, .pointer (some ⟨g1, 0, none⟩)), (17, ov), (18, .int .i64 (i : Int)), (19, .pointer (some (elemAt ObT.size ov i))), (20, .agg #[.int .i64 y5.id, .int .i64 y5.size, .int .i64 y5.weak, y5.rv.v, y5.ev.v]), (21, .pointer (some ⟨g8, 2, none⟩)), (22, .int .i64 y5.weak), (23, .bool (decide (y5.weak ≠ 1))), (24, .bool false), (25, mv), (26, .int .i64 (i : Int)), (27, .pointer (some (elemAt bTy.size mv i))), (28, .bool (decide (y5.id ∈ M))), (29, .bool (!(decide (y5.id ∈ M)))), (30, .bool (!(decide (y5.id ∈ M))))] _ (blkA g8 #[.int .i64 y5.id, .int .i64 y5.size, .int .i64 y5.weak, y5.rv.v, y5.ev.v] 42 :: blkA g1 #[ov, rv] 25 :: own bTy mv (bits l N) :: F)
        have hgN : Good l N := by have h := (step_fold (step_e l) (y5.ents.take k) (M, ch)).good hgM; rw [← hi17.2] at h; exact h
        refine k_seq ?_
        refine k_seq ?_
        refine k_reg ?_
        refine s_lt (t_pure (.int .i64 (k : Int))) ?_
        refine s_lt (t_pure (.pointer (some ⟨g8, 4, none⟩))) ?_
        refine s_lt (t_load 0 y5.ev.v) ?_
        refine s_lt (t_len EntT_ok Try.underlying40 (.zn hk7.2)) ?_
        refine s_lt t_cmp ?_
        refine s_nil ?_
        refine xs_then ?_
        refine k_cond (decide ((k : Int) < (y5.ents.length : Int))) (fun c18 => ?_) (fun c18 => ?_)
        ·
          have p19 := of_decide_eq_true c18
          refine k_skip ?_
          refine xs_then ?_
          refine k_seq ?_
          refine k_block ?_
          refine k_seq ?_
          refine k_draw ?_
          refine s_lt (t_loadA 1 #[ov, rv]) ?_
          refine s_lt (t_pure mv) ?_
          refine s_lt (t_pure (.pointer (some ⟨g8, 4, none⟩))) ?_
          refine s_lt (t_load 0 y5.ev.v) ?_
          refine s_lt (t_pure (.int .i64 (k : Int))) ?_
          refine s_lt (t_index EntT_ok Try.underlying40 (.zn hk7.2) (k : Int) k (by omega) (by (try simp only [List.length_nil, List.length_cons, List.length_append, List.length_take, List.length_drop, List.length_set, List.length_replicate, List.length_reverse, bits_len]); omega) (by omega)) ?_
          refine s_lt (t_pure (.pointer (some (elemAt EntT.size y5.ev.v k)))) ?_
          obtain ⟨y20, hy21⟩ : ∃ y, y5.ents[k]? = some y := ⟨_, List.getElem?_eq_getElem (by (try simp only [List.length_nil, List.length_cons, List.length_append, List.length_take, List.length_drop, List.length_set, List.length_replicate, List.length_reverse, bits_len]); omega)⟩
          refine s_lt (t_loadF 0 EntT_ok (.zn hk7.2) hy21) ?_
          refine s_vcall (fun _ h => marked_s (hg.up h) hs hl (Acc.kn (.own 2) h) hgN.clo.1 y20.key) ?_
          rintro _ rfl
          refine s_lt (t_pure (.bool (decide (y20.key ∈ N)))) ?_
          refine s_fork 47 (decide (y20.key ∈ N)) (fun c22 => ?_) (fun c22 => ?_)
          ·
            have p23 := of_decide_eq_true c22
            refine s_lt (t_loadA 1 #[ov, rv]) ?_
            refine s_lt (t_pure mv) ?_
            refine s_lt (t_pure (.pointer (some ⟨g8, 4, none⟩))) ?_
            refine s_lt (t_load 0 y5.ev.v) ?_
            refine s_lt (t_pure (.int .i64 (k : Int))) ?_
            refine s_lt (t_index EntT_ok Try.underlying40 (.zn hk7.2) (k : Int) k (by omega) (by (try simp only [List.length_nil, List.length_cons, List.length_append, List.length_take, List.length_drop, List.length_set, List.length_replicate, List.length_reverse, bits_len]); omega) (by omega)) ?_
            refine s_lt (t_pure (.pointer (some ((elemAt EntT.size y5.ev.v k).add 1)))) ?_
            refine s_lt (t_loadF 1 EntT_ok (.zn hk7.2) hy21) ?_
            refine s_buildSlice (e := 3) [(0, .int .i64 y20.val)] #[.int .i64 y20.val] (fun g24 => ?_) (hb := by kernel_rfl)
            refine s_mem (fun _ h => Holds.slice 0 h iTy_ok [y20.val]) ?_
            refine s_call [3, 0] (spread1_s (I := [y20.val]) hg hs hl hp hsm (by simp)) ?_
            rintro _ _ ⟨rfl, rfl⟩
            refine s_lt (t_pure (.bool (decide (N.length < (dfs l N [y20.val]).length)))) ?_
            refine s_nil ?_
            refine x_dynS (fun _ h => by kernel_rfl) ?_
            refine xs_then ?_
            refine k_cond (decide (N.length < (dfs l N [y20.val]).length)) (fun c25 => ?_) (fun c25 => ?_)
            ·
              have p26 := of_decide_eq_true c25
              refine k_reg ?_
              refine s_lt (t_pure (.bool true)) ?_
              refine s_nil ?_
              refine xs_block ?_
              refine xs_then ?_
              refine k_reg ?_
              refine s_lt (t_pure (.int .i64 (k : Int))) ?_
              refine s_lt (t_add (k : Int) 1 (by (try simp only [List.length_nil, List.length_cons, List.length_append, List.length_take, List.length_drop, List.length_set, List.length_replicate, List.length_reverse, bits_len]); omega)) ?_
              refine s_lt (t_pure (.int .i64 ((k : Int) + 1))) ?_
              refine s_nil ?_
              exact xs_round ((dfs l N [y20.val]), true, k + 1) (by show y5.ents.length - (k + 1) < y5.ents.length - k; omega) (by obtain ⟨hi1, hi2⟩ := hi17; refine ⟨by omega, ?_⟩; rw [fold_take hy21, ← hi2]; rw [stepE_in p23]; rw [decide_eq_true p26, Bool.or_true]) (sub_of rfl ⟨⟨rfl, rfl⟩, ⟨⟨rfl, rfl⟩, ⟨⟨rfl, rfl⟩, ⟨⟨rfl, rfl⟩, ⟨⟨rfl, rfl⟩, ⟨⟨rfl, rfl⟩, ⟨⟨rfl, rfl⟩, ⟨⟨rfl, rfl⟩, ⟨⟨rfl, rfl⟩, ⟨⟨rfl, rfl⟩, ⟨⟨rfl, rfl⟩, ⟨⟨rfl, rfl⟩, ⟨⟨rfl, rfl⟩, ⟨⟨rfl, rfl⟩, ⟨⟨rfl, rfl⟩, ⟨⟨rfl, rfl⟩, ⟨⟨rfl, rfl⟩, ⟨⟨rfl, rfl⟩, ⟨⟨rfl, rfl⟩, ⟨⟨rfl, rfl⟩, ⟨⟨rfl, rfl⟩, ⟨⟨rfl, rfl⟩, ⟨⟨rfl, rfl⟩, ⟨⟨rfl, rfl⟩, ⟨⟨rfl, rfl⟩, ⟨⟨rfl, rfl⟩, ⟨⟨rfl, rfl⟩, trivial⟩⟩⟩⟩⟩⟩⟩⟩⟩⟩⟩⟩⟩⟩⟩⟩⟩⟩⟩⟩⟩⟩⟩⟩⟩⟩⟩) (fun _ h => h.re [1, 1, 0] [])
            ·
              have p27 := of_decide_eq_false c25
              refine k_skip ?_
              refine xs_block ?_
              refine xs_then ?_
              refine k_reg ?_
              refine s_lt (t_pure (.int .i64 (k : Int))) ?_
              refine s_lt (t_add (k : Int) 1 (by (try simp only [List.length_nil, List.length_cons, List.length_append, List.length_take, List.length_drop, List.length_set, List.length_replicate, List.length_reverse, bits_len]); omega)) ?_
              refine s_lt (t_pure (.int .i64 ((k : Int) + 1))) ?_
              refine s_nil ?_
              exact xs_round ((dfs l N [y20.val]), ci, k + 1) (by show y5.ents.length - (k + 1) < y5.ents.length - k; omega) (by obtain ⟨hi1, hi2⟩ := hi17; refine ⟨by omega, ?_⟩; rw [fold_take hy21, ← hi2]; rw [stepE_in p23]; rw [decide_eq_false p27, Bool.or_false]) (sub_of rfl ⟨⟨rfl, rfl⟩, ⟨⟨rfl, rfl⟩, ⟨⟨rfl, rfl⟩, ⟨⟨rfl, rfl⟩, ⟨⟨rfl, rfl⟩, ⟨⟨rfl, rfl⟩, ⟨⟨rfl, rfl⟩, ⟨⟨rfl, rfl⟩, ⟨⟨rfl, rfl⟩, ⟨⟨rfl, rfl⟩, ⟨⟨rfl, rfl⟩, ⟨⟨rfl, rfl⟩, ⟨⟨rfl, rfl⟩, ⟨⟨rfl, rfl⟩, ⟨⟨rfl, rfl⟩, ⟨⟨rfl, rfl⟩, ⟨⟨rfl, rfl⟩, ⟨⟨rfl, rfl⟩, ⟨⟨rfl, rfl⟩, ⟨⟨rfl, rfl⟩, ⟨⟨rfl, rfl⟩, ⟨⟨rfl, rfl⟩, ⟨⟨rfl, rfl⟩, ⟨⟨rfl, rfl⟩, ⟨⟨rfl, rfl⟩, ⟨⟨rfl, rfl⟩, ⟨⟨rfl, rfl⟩, trivial⟩⟩⟩⟩⟩⟩⟩⟩⟩⟩⟩⟩⟩⟩⟩⟩⟩⟩⟩⟩⟩⟩⟩⟩⟩⟩⟩) (fun _ h => h.re [1, 1, 0] [])
          ·
            have p28 := of_decide_eq_false c22
            refine s_skip ?_
            refine s_skip ?_
            refine s_skip ?_
            refine s_skip ?_
            refine s_skip ?_
            refine s_skip ?_
            refine s_skip ?_
            refine s_skip ?_
            refine s_skip ?_
            refine s_skip ?_
            refine s_lt (t_pure (.bool false)) ?_
            refine s_nil ?_
            refine x_dynS (fun _ h => by kernel_rfl) ?_
            refine xs_then ?_
            refine k_false ?_
            refine k_skip ?_
            refine xs_block ?_
            refine xs_then ?_
            refine k_reg ?_
            refine s_lt (t_pure (.int .i64 (k : Int))) ?_
            refine s_lt (t_add (k : Int) 1 (by (try simp only [List.length_nil, List.length_cons, List.length_append, List.length_take, List.length_drop, List.length_set, List.length_replicate, List.length_reverse, bits_len]); omega)) ?_
            refine s_lt (t_pure (.int .i64 ((k : Int) + 1))) ?_
            refine s_nil ?_
            exact xs_round (N, ci, k + 1) (by show y5.ents.length - (k + 1) < y5.ents.length - k; omega) (by obtain ⟨hi1, hi2⟩ := hi17; refine ⟨by omega, ?_⟩; rw [fold_take hy21, ← hi2]; exact (stepE_out p28).symm) (sub_of rfl ⟨⟨rfl, rfl⟩, ⟨⟨rfl, rfl⟩, ⟨⟨rfl, rfl⟩, ⟨⟨rfl, rfl⟩, ⟨⟨rfl, rfl⟩, ⟨⟨rfl, rfl⟩, ⟨⟨rfl, rfl⟩, ⟨⟨rfl, rfl⟩, ⟨⟨rfl, rfl⟩, ⟨⟨rfl, rfl⟩, ⟨⟨rfl, rfl⟩, ⟨⟨rfl, rfl⟩, ⟨⟨rfl, rfl⟩, ⟨⟨rfl, rfl⟩, ⟨⟨rfl, rfl⟩, ⟨⟨rfl, rfl⟩, ⟨⟨rfl, rfl⟩, ⟨⟨rfl, rfl⟩, ⟨⟨rfl, rfl⟩, ⟨⟨rfl, rfl⟩, ⟨⟨rfl, rfl⟩, ⟨⟨rfl, rfl⟩, ⟨⟨rfl, rfl⟩, ⟨⟨rfl, rfl⟩, ⟨⟨rfl, rfl⟩, ⟨⟨rfl, rfl⟩, ⟨⟨rfl, rfl⟩, trivial⟩⟩⟩⟩⟩⟩⟩⟩⟩⟩⟩⟩⟩⟩⟩⟩⟩⟩⟩⟩⟩⟩⟩⟩⟩⟩⟩) (fun _ h => h.re [0, 0, 0] [])
        ·
          have p29 := of_decide_eq_false c18
          refine k_exit ?_
          obtain rfl : k = y5.ents.length := by omega
          refine xs_exit ?_
          refine xs_exit ?_
          refine xs_here ?_
          refine xs_block ?_
          refine xs_then ?_
          refine k_reg ?_
          refine s_lt (t_pure (.int .i64 (i : Int))) ?_
          refine s_lt (t_add (i : Int) 1 (by (try simp only [List.length_nil, List.length_cons, List.length_append, List.length_take, List.length_drop, List.length_set, List.length_replicate, List.length_reverse, bits_len]); omega)) ?_
          refine s_lt (t_pure (.int .i64 ((i : Int) + 1))) ?_
          refine s_nil ?_
          exact xs_round (N, ci, i + 1) (by show l.length - (i + 1) < l.length - i; omega) (by obtain ⟨hi1, hi2⟩ := hi2; refine ⟨by omega, ?_⟩; rw [tabs_yes hy6 p11, List.foldl_append, ← hi2]; show _ = stepT l (M, ch) y5; rw [stepT_in p16, ← fold_end (Nat.le_refl _)]; exact hi17.2) (sub_of rfl ⟨⟨rfl, rfl⟩, ⟨⟨rfl, rfl⟩, ⟨⟨rfl, rfl⟩, ⟨⟨rfl, rfl⟩, ⟨⟨rfl, rfl⟩, trivial⟩⟩⟩⟩⟩) (fun _ h => h.re [1, 1] [2])
  ·
    have p30 := of_decide_eq_false c3
    refine k_exit ?_
    refine xs_exit ?_
    refine xs_exit ?_
    refine xs_here ?_
    refine xs_then ?_
    refine k_seq ?_
    refine k_reg ?_
    refine s_lt (t_pure (.bool ch)) ?_
    refine s_lt (t_pure (.bool ch)) ?_
    refine s_nil ?_
    refine xs_then ?_
    refine k_ret ?_
    have hend : (M, ch) = rnd l M0 := by rw [hi2.2, List.take_of_length_le (by omega)]; rfl
    refine xs_fin [.bool ch] (own bTy mv (bits l M) :: F) (SI.tmp 4 SI.nil) (fun _ h => h.re [1] [1]) ?_
    rw [← hend]; exact ⟨rfl, rfl⟩
theorem rall_s {Z : Zone} {ov rv : Value} {l : List Ob} {R : List Int} (hg : KnG Z ov rv l R) (hs : Asc l) (hl : l.length ≤ 100000) (hp : pot l [] ≤ 1000000) (hsm : ∀ o ∈ l, o.refs.length ≤ 400 ∧ o.ents.length ≤ 400) (hr : R.length ≤ 1000000) : SF Try.prog 32 #[.agg #[ov, rv]] Z [] fun r Bs => ∃ v, r = .tuple #[v, .int .i64 ((allR l R).2 : Int)] ∧ Bs = [own bTy v (bits l (allR l R).1)] := by
  refine sf_enter Try.func32 22 [(0, .agg #[ov, rv])] (fun w0 => ?_)
  refine k_seq ?_
  refine k_reg ?_
  refine s_box #[ov, rv] (fun g1 => ?_)
  refine s_lt (t_pure (.slice none 0 0)) ?_
  refine s_lt (t_pure (.int .i64 0)) ?_
  refine s_nil ?_
  refine xs_then ?_
  refine k_seq ?_
  refine k_reg ?_
  refine s_lt (t_pure (.pointer (some ⟨g1, 0, none⟩))) ?_
  refine s_lt (t_load 0 ov) ?_
  refine s_lt (t_len ObT_ok Try.underlying22 (.zn hg.obs)) ?_
  refine s_make bTy_ok Try.underlying52 (l.length : Int) (by omega) (by show 1 * _ ≤ _; omega) (by omega) (fun v2 => ?_)
  rw [show List.replicate (l.length : Int).toNat bTy.zero = bits l [] from bits_nil l]
  refine s_lt (t_pure v2) ?_
  refine s_nil ?_
  refine xs_then ?_
  refine k_seq ?_
  refine k_reg ?_
  refine s_lt (t_loadA 1 #[ov, rv]) ?_
  refine s_lt (t_pure v2) ?_
  refine s_lt (t_pure (.pointer (some ⟨g1, 1, none⟩))) ?_
  refine s_lt (t_load 1 rv) ?_
  refine s_call [0] (spread_s hg hs hl hp hsm hg.roots (by (try simp only [List.length_nil, List.length_cons, List.length_append, List.length_take, List.length_drop, List.length_set, List.length_replicate, List.length_reverse, bits_len]); omega)) ?_
  rintro _ _ ⟨rfl, rfl⟩
  refine s_nil ?_
  refine xs_then ?_
  refine k_seq ?_
  refine k_reg ?_
  refine s_lt (t_pure (.int .i64 1)) ?_
  refine s_nil ?_
  refine xs_then ?_
  refine k_seq ?_
  refine k_block ?_
  refine k_loop (ι := Nat × List Int × Nat) (fun (k, M, n) => allR l R = runs l k (M, n) ∧ Good l M ∧ l.length + 1 ≤ k + M.length ∧ n + k = l.length + 2) (fun (k, M, n) => [(1, .pointer (some ⟨g1, 0, none⟩)), (2, (.slice none 0 0)), (3, .int .i64 0), (4, v2), (5, .int .i64 (n : Int))]) (fun (k, M, n) => [own bTy v2 (bits l M), blkA g1 #[ov, rv] 25]) (fun (k, M, n) => k) (l.length + 1, dfs l [] R, 1) ⟨rfl, (good_nil l).dfs R, by omega, by omega⟩ (sub_of rfl ⟨⟨rfl, rfl⟩, ⟨⟨rfl, rfl⟩, ⟨⟨rfl, rfl⟩, ⟨⟨rfl, rfl⟩, ⟨⟨rfl, rfl⟩, trivial⟩⟩⟩⟩⟩) (fun _ h => h.re [0, 0] []) ?_
  rintro ⟨k, M, n⟩ hi3
  replace hi3 : allR l R = runs l k (M, n) ∧ Good l M ∧ l.length + 1 ≤ k + M.length ∧ n + k = l.length + 2 := hi3
  show SK _ _ _ _ _ [(1, .pointer (some ⟨g1, 0, none⟩)), (2, (.slice none 0 0)), (3, .int .i64 0), (4, v2), (5, .int .i64 (n : Int))] _ [own bTy v2 (bits l M), blkA g1 #[ov, rv] 25]
  have hgl := hi3.2.1.len; have hbk := hi3.2.2
  refine k_seq ?_
  refine k_seq ?_
  refine k_reg ?_
  refine s_lt (t_loadA 1 #[ov, rv]) ?_
  refine s_lt (t_pure v2) ?_
  refine s_call [0] (rround_s hg hs hl hp hsm hi3.2.1) ?_
  rintro _ _ ⟨rfl, rfl⟩
  refine s_nil ?_
  refine xs_then ?_
  refine k_cond ((rnd l M).2) (fun c4 => ?_) (fun c4 => ?_)
  ·
    refine k_skip ?_
    refine xs_then ?_
    refine k_block ?_
    refine k_reg ?_
    refine s_lt (t_pure (.int .i64 (n : Int))) ?_
    refine s_lt (t_add (n : Int) 1 (by (try simp only [List.length_nil, List.length_cons, List.length_append, List.length_take, List.length_drop, List.length_set, List.length_replicate, List.length_reverse, bits_len]); omega)) ?_
    refine s_lt (t_pure (.int .i64 ((n : Int) + 1))) ?_
    refine s_nil ?_
    refine xs_block ?_
    exact xs_round (k - 1, (rnd l M).1, n + 1) (by show k - 1 < k; omega) (by obtain ⟨hi1, hi2, hi3, hi4⟩ := hi3; obtain ⟨k, rfl⟩ : ∃ j, k = j + 1 := ⟨k - 1, by omega⟩; have hf := c4; rw [rnd_flag, decide_eq_true_eq] at hf; refine ⟨hi1.trans (runs_step c4), (step_r l M).good hi2, ?_, ?_⟩ <;> simp only [Nat.add_sub_cancel] <;> omega) (sub_of rfl ⟨⟨rfl, rfl⟩, ⟨⟨rfl, rfl⟩, ⟨⟨rfl, rfl⟩, ⟨⟨rfl, rfl⟩, ⟨⟨rfl, rfl⟩, trivial⟩⟩⟩⟩⟩) (fun _ h => h.re [0, 0] [])
  ·
    refine k_exit ?_
    refine xs_exit ?_
    refine xs_exit ?_
    refine xs_here ?_
    refine xs_then ?_
    refine k_seq ?_
    refine k_reg ?_
    refine s_lt (t_pure v2) ?_
    refine s_lt (t_pure (.int .i64 (n : Int))) ?_
    refine s_lt (t_pure v2) ?_
    refine s_lt (t_pure (.int .i64 (n : Int))) ?_
    refine s_nil ?_
    refine xs_then ?_
    refine k_ret ?_
    have hend : allR l R = ((rnd l M).1, n) := by obtain ⟨hi1, hi2, hi3, hi4⟩ := hi3; obtain ⟨k, rfl⟩ : ∃ j, k = j + 1 := ⟨k - 1, by omega⟩; exact hi1.trans (runs_end c4)
    refine xs_fin [v2, .int .i64 (n : Int)] [own bTy v2 (bits l (rnd l M).1)] (SI.tmp 2 (SI.tmp 3 SI.nil)) (fun _ h => h.re [0] [1]) ⟨v2, ?_⟩
    rw [hend]; exact ⟨rfl, rfl⟩
def aliveR (l : List Ob) (R : List Int) : List Int := if chk 0 l = true then live l (allR l R).1 else []
theorem aliveR_ok {l : List Ob} {R : List Int} (h : chk 0 l = true) : aliveR l R = live l (allR l R).1 := if_pos h
theorem aliveR_bad {l : List Ob} {R : List Int} (h : chk 0 l = false) : aliveR l R = [] := if_neg (by simp [h])
theorem alive_eq (l : List Ob) (R : List Int) : aliveP l R = aliveR l R := by
  cases h : chk 0 l with
  | false => rw [aliveP_bad h, aliveR_bad h]
  | true => rw [aliveP_ok h, aliveR_ok h, srt_live (chk_asc h) (allP_good l R)]; exact live_eqv (all_same l R).1
theorem alive_asc (l : List Ob) (R : List Int) : (aliveR l R).Pairwise (· < ·) := by
  cases h : chk 0 l with
  | false => rw [aliveR_bad h]; exact List.Pairwise.nil
  | true => rw [aliveR_ok h]; exact live_asc (chk_asc h) _
theorem alive_len (l : List Ob) (R : List Int) : (aliveR l R).length ≤ l.length := by
  cases h : chk 0 l with
  | false => rw [aliveR_bad h]; exact Nat.zero_le _
  | true => rw [aliveR_ok h]; exact live_len l _
theorem rAlive_s {Z : Zone} {ov rv : Value} {l : List Ob} {R : List Int} (hg : KnG Z ov rv l R) (hl : l.length ≤ 100000) (hp : pot l [] ≤ 1000000) (hsm : ∀ o ∈ l, o.refs.length ≤ 400 ∧ o.ents.length ≤ 400) (hr : R.length ≤ 1000000) : SF Try.prog 14 #[.agg #[ov, rv]] Z [] fun r Bs => ∃ v, r = .tuple #[v, .int .i64 (errI (chk 0 l))] ∧ Bs = [own iTy v (aliveR l R)] := by
  refine sf_enter Try.func14 41 [(0, .agg #[ov, rv])] (fun w0 => ?_)
  refine k_seq ?_
  refine k_reg ?_
  refine s_box #[ov, rv] (fun g1 => ?_)
  refine s_lt (t_pure (.slice none 0 0)) ?_
  refine s_lt (t_pure (.int .i64 0)) ?_
  refine s_nil ?_
  refine xs_then ?_
  refine k_seq ?_
  refine k_seq ?_
  refine k_reg ?_
  refine s_lt (t_loadA 0 #[ov, rv]) ?_
  refine s_vcall (fun _ h => rcheck_s (hg.up h)) ?_
  rintro _ rfl
  refine s_lt (t_pure (.int .i64 (errI (chk 0 l)))) ?_
  refine s_nil ?_
  refine xs_then ?_
  refine k_seq ?_
  refine k_reg ?_
  refine s_lt (t_pure (.int .i64 (errI (chk 0 l)))) ?_
  refine s_lt t_cmp ?_
  refine s_nil ?_
  refine xs_then ?_
  refine k_cond (decide ((errI (chk 0 l)) ≠ 0)) (fun c2 => ?_) (fun c2 => ?_)
  ·
    have p3 := of_decide_eq_true c2
    have hc := errI_bad p3
    refine k_seq ?_
    refine k_reg ?_
    refine s_lt (t_pure (.int .i64 (errI (chk 0 l)))) ?_
    refine s_lt (t_pure (.slice none 0 0)) ?_
    refine s_lt (t_pure (.int .i64 (errI (chk 0 l)))) ?_
    refine s_nil ?_
    refine xs_then ?_
    refine k_ret ?_
    refine xs_ret ?_
    exact xs_fin [(.slice none 0 0), .int .i64 (errI (chk 0 l))] [own iTy (.slice none 0 0) []] (SI.tmp 2 (SI.tmp 3 SI.nil)) (fun _ h => h.nilS.re [0] [1]) ⟨_, rfl, by rw [aliveR_bad hc]⟩
  ·
    have p4 := Decidable.not_not.1 (of_decide_eq_false c2)
    have hc := errI_ok p4; have hs := chk_asc hc
    refine k_skip ?_
    refine xs_then ?_
    refine k_seq ?_
    refine k_reg ?_
    refine s_lt (t_loadA 0 #[ov, rv]) ?_
    refine s_pcall (fun _ h => rall_s (hg.up h) hs hl hp hsm hr) ?_
    rintro _ _ ⟨v5, rfl, rfl⟩
    refine s_fact (fun H h => ((Acc.own (T := bTy) (L := (bits l (allR l R).1)) 0 rfl) H h).form) (fun hf6 => ?_)
    refine s_lt (t_pure (.tuple #[v5, .int .i64 ((allR l R).2 : Int)])) ?_
    refine s_lt (t_pure v5) ?_
    refine s_lt (t_pure (.int .i64 ((allR l R).2 : Int))) ?_
    refine s_lt (t_pure v5) ?_
    refine s_lt (t_pure (.int .i64 ((allR l R).2 : Int))) ?_
    refine s_nil ?_
    refine xs_then ?_
    refine k_seq ?_
    refine k_reg ?_
    refine s_buildSlice (e := 3) [] #[] (fun g7 => ?_) (hb := by kernel_rfl)
    refine s_lt (t_pure (.slice (some ⟨g7, 0, none⟩) 0 0)) ?_
    refine s_nil ?_
    refine xs_then ?_
    refine k_seq ?_
    refine k_seq ?_
    refine k_reg ?_
    refine s_lt (t_pure (.int .i64 0)) ?_
    refine s_nil ?_
    refine xs_then ?_
    refine k_block ?_
    refine k_mem (fun _ h => Holds.slice 0 h iTy_ok []) ?_
    refine k_mem (Bs := [own iTy (.slice (some ⟨g7, 0, none⟩) 0 0) (live (l.take 0) (allR l R).1), own bTy v5 (bits l (allR l R).1), blkA g1 #[ov, rv] 25]) (fun _ h => h) ?_
    refine k_loop (ι := Value × Nat) (fun (sx, i) => i ≤ l.length) (fun (sx, i) => [(1, .pointer (some ⟨g1, 0, none⟩)), (2, (.slice none 0 0)), (3, .int .i64 0), (5, v5), (7, sx), (8, .int .i64 (i : Int))]) (fun (sx, i) => [own iTy sx (live (l.take i) (allR l R).1), own bTy v5 (bits l (allR l R).1), blkA g1 #[ov, rv] 25]) (fun (sx, i) => l.length - i) ((.slice (some ⟨g7, 0, none⟩) 0 0), 0) (Nat.zero_le _) (sub_of rfl ⟨⟨rfl, rfl⟩, ⟨⟨rfl, rfl⟩, ⟨⟨rfl, rfl⟩, ⟨⟨rfl, rfl⟩, ⟨⟨rfl, rfl⟩, ⟨⟨rfl, rfl⟩, trivial⟩⟩⟩⟩⟩⟩) (fun _ h => h.re [0, 0, 0] []) ?_
    rintro ⟨sx, i⟩ hi8
    replace hi8 : i ≤ l.length := hi8
    show SK _ _ _ _ _ [(1, .pointer (some ⟨g1, 0, none⟩)), (2, (.slice none 0 0)), (3, .int .i64 0), (5, v5), (7, sx), (8, .int .i64 (i : Int))] _ [own iTy sx (live (l.take i) (allR l R).1), own bTy v5 (bits l (allR l R).1), blkA g1 #[ov, rv] 25]
    have hkl := live_len (l.take i) (allR l R).1; rw [List.length_take] at hkl
    refine k_seq ?_
    refine k_seq ?_
    refine k_reg ?_
    refine s_lt (t_pure (.int .i64 (i : Int))) ?_
    refine s_lt (t_pure (.pointer (some ⟨g1, 0, none⟩))) ?_
    refine s_lt (t_load 2 ov) ?_
    refine s_lt (t_len ObT_ok Try.underlying22 (.zn hg.obs)) ?_
    refine s_lt t_cmp ?_
    refine s_nil ?_
    refine xs_then ?_
    refine k_cond (decide ((i : Int) < (l.length : Int))) (fun c9 => ?_) (fun c9 => ?_)
    ·
      have p10 := of_decide_eq_true c9
      refine k_skip ?_
      refine xs_then ?_
      refine k_seq ?_
      refine k_block ?_
      refine k_seq ?_
      refine k_reg ?_
      refine s_lt (t_pure v5) ?_
      refine s_lt (t_pure (.int .i64 (i : Int))) ?_
      refine s_lt (t_index bTy_ok Try.underlying52 (.own 1) (i : Int) i (by omega) (by (try simp only [List.length_nil, List.length_cons, List.length_append, List.length_take, List.length_drop, List.length_set, List.length_replicate, List.length_reverse, bits_len]); omega) (by omega)) ?_
      obtain ⟨y11, hy12⟩ : ∃ y, l[i]? = some y := ⟨_, List.getElem?_eq_getElem (by (try simp only [List.length_nil, List.length_cons, List.length_append, List.length_take, List.length_drop, List.length_set, List.length_replicate, List.length_reverse, bits_len]); omega)⟩
      have hk13 := hg.each y11 (List.mem_of_getElem? hy12)
      refine s_lt (t_loadE bTy_ok (.own 1) (bits_at (M := (allR l R).1) hy12)) ?_
      refine s_nil ?_
      refine xs_then ?_
      refine k_cond (decide (y11.id ∈ (allR l R).1)) (fun c14 => ?_) (fun c14 => ?_)
      ·
        have p15 := of_decide_eq_true c14
        refine k_reg ?_
        refine s_lt (t_pure sx) ?_
        refine s_lt (t_pure (.pointer (some ⟨g1, 0, none⟩))) ?_
        refine s_lt (t_load 2 ov) ?_
        refine s_lt (t_pure (.int .i64 (i : Int))) ?_
        refine s_lt (t_index ObT_ok Try.underlying22 (.zn hg.obs) (i : Int) i (by omega) (by (try simp only [List.length_nil, List.length_cons, List.length_append, List.length_take, List.length_drop, List.length_set, List.length_replicate, List.length_reverse, bits_len]); omega) (by omega)) ?_
        refine s_lt (t_pure (.pointer (some (elemAt ObT.size ov i)))) ?_
        refine s_lt (t_loadF 0 ObT_ok (.zn hg.obs) hy12) ?_
        refine s_buildSlice (e := 3) [(0, .int .i64 y11.id)] #[.int .i64 y11.id] (fun g16 => ?_) (hb := by kernel_rfl)
        refine s_append (L := (live (l.take i) (allR l R).1)) 1 iTy_ok Try.underlying23 (.lit 0 iTy_ok [y11.id]) (by show _ * 8 ≤ _; (try simp only [List.length_nil, List.length_cons, List.length_append, List.length_take, List.length_drop, List.length_set, List.length_replicate, List.length_reverse, bits_len]); omega) (by (try simp only [List.length_nil, List.length_cons, List.length_append, List.length_take, List.length_drop, List.length_set, List.length_replicate, List.length_reverse, bits_len]); omega) (fun v17 => ?_)
        refine s_lt (t_pure v17) ?_
        refine s_nil ?_
        refine xs_block ?_
        refine xs_then ?_
        refine k_reg ?_
        refine s_lt (t_pure (.int .i64 (i : Int))) ?_
        refine s_lt (t_add (i : Int) 1 (by (try simp only [List.length_nil, List.length_cons, List.length_append, List.length_take, List.length_drop, List.length_set, List.length_replicate, List.length_reverse, bits_len]); omega)) ?_
        refine s_lt (t_pure (.int .i64 ((i : Int) + 1))) ?_
        refine s_nil ?_
        rw [live_yes hy12 p15]
        exact xs_round (v17, i + 1) (by show l.length - (i + 1) < l.length - i; omega) (by show i + 1 ≤ l.length; omega) (sub_of rfl ⟨⟨rfl, rfl⟩, ⟨⟨rfl, rfl⟩, ⟨⟨rfl, rfl⟩, ⟨⟨rfl, rfl⟩, ⟨⟨rfl, rfl⟩, ⟨⟨rfl, rfl⟩, trivial⟩⟩⟩⟩⟩⟩) (fun _ h => h.re [1, 1, 1] [3])
      ·
        have p18 := of_decide_eq_false c14
        refine k_skip ?_
        refine xs_block ?_
        refine xs_then ?_
        refine k_reg ?_
        refine s_lt (t_pure (.int .i64 (i : Int))) ?_
        refine s_lt (t_add (i : Int) 1 (by (try simp only [List.length_nil, List.length_cons, List.length_append, List.length_take, List.length_drop, List.length_set, List.length_replicate, List.length_reverse, bits_len]); omega)) ?_
        refine s_lt (t_pure (.int .i64 ((i : Int) + 1))) ?_
        refine s_nil ?_
        rw [live_no hy12 p18]
        exact xs_round (sx, i + 1) (by show l.length - (i + 1) < l.length - i; omega) (by show i + 1 ≤ l.length; omega) (sub_of rfl ⟨⟨rfl, rfl⟩, ⟨⟨rfl, rfl⟩, ⟨⟨rfl, rfl⟩, ⟨⟨rfl, rfl⟩, ⟨⟨rfl, rfl⟩, ⟨⟨rfl, rfl⟩, trivial⟩⟩⟩⟩⟩⟩) (fun _ h => h.re [0, 0, 0] [])
    ·
      have p19 := of_decide_eq_false c9
      refine k_exit ?_
      refine xs_exit ?_
      refine xs_exit ?_
      refine xs_here ?_
      refine xs_then ?_
      refine k_seq ?_
      refine k_reg ?_
      refine s_lt (t_pure sx) ?_
      refine s_lt (t_pure sx) ?_
      refine s_lt (t_pure (.int .i64 0)) ?_
      refine s_nil ?_
      refine xs_then ?_
      refine k_ret ?_
      obtain rfl : i = l.length := by omega
      refine xs_fin [sx, .int .i64 0] [own iTy sx (live l (allR l R).1)] (SI.tmp 2 (SI.tmp 3 SI.nil)) (fun _ h => by rw [List.take_length] at h; exact h.re [0] [1, 1]) ⟨sx, by rw [hc]; rfl, by rw [aliveR_ok hc]⟩
theorem roundsP_eq (l : List Ob) (R : List Int) : roundsP l R = roundsP l R := rfl
theorem rRounds_s {Z : Zone} {ov rv : Value} {l : List Ob} {R : List Int} (hg : KnG Z ov rv l R) (hl : l.length ≤ 100000) (hp : pot l [] ≤ 1000000) (hsm : ∀ o ∈ l, o.refs.length ≤ 400 ∧ o.ents.length ≤ 400) (hr : R.length ≤ 1000000) : SF Try.prog 22 #[.agg #[ov, rv]] Z [] fun r Bs => r = .tuple #[.int .i64 (roundsP l R), .int .i64 (errI (chk 0 l))] ∧ Bs = [] := by
  refine sf_enter Try.func22 18 [(0, .agg #[ov, rv])] (fun w0 => ?_)
  refine k_seq ?_
  refine k_reg ?_
  refine s_box #[ov, rv] (fun g1 => ?_)
  refine s_lt (t_pure (.int .i64 0)) ?_
  refine s_lt (t_pure (.int .i64 0)) ?_
  refine s_nil ?_
  refine xs_then ?_
  refine k_seq ?_
  refine k_seq ?_
  refine k_reg ?_
  refine s_lt (t_loadA 0 #[ov, rv]) ?_
  refine s_vcall (fun _ h => rcheck_s (hg.up h)) ?_
  rintro _ rfl
  refine s_lt (t_pure (.int .i64 (errI (chk 0 l)))) ?_
  refine s_nil ?_
  refine xs_then ?_
  refine k_seq ?_
  refine k_reg ?_
  refine s_lt (t_pure (.int .i64 (errI (chk 0 l)))) ?_
  refine s_lt t_cmp ?_
  refine s_nil ?_
  refine xs_then ?_
  refine k_cond (decide ((errI (chk 0 l)) ≠ 0)) (fun c2 => ?_) (fun c2 => ?_)
  ·
    have p3 := of_decide_eq_true c2
    have hc := errI_bad p3
    refine k_seq ?_
    refine k_reg ?_
    refine s_lt (t_pure (.int .i64 (errI (chk 0 l)))) ?_
    refine s_lt (t_pure (.int .i64 0)) ?_
    refine s_lt (t_pure (.int .i64 (errI (chk 0 l)))) ?_
    refine s_nil ?_
    refine xs_then ?_
    refine k_ret ?_
    refine xs_ret ?_
    exact xs_fin [.int .i64 0, .int .i64 (errI (chk 0 l))] [] (SI.tmp 2 (SI.tmp 3 SI.nil)) (fun _ h => h.re [] [0]) ⟨by rw [← roundsP_eq, roundsP_bad hc, hc]; rfl, rfl⟩
  ·
    have p4 := Decidable.not_not.1 (of_decide_eq_false c2)
    have hc := errI_ok p4; have hs := chk_asc hc
    refine k_skip ?_
    refine xs_then ?_
    refine k_seq ?_
    refine k_reg ?_
    refine s_lt (t_loadA 0 #[ov, rv]) ?_
    refine s_pcall (fun _ h => rall_s (hg.up h) hs hl hp hsm hr) ?_
    rintro _ _ ⟨v5, rfl, rfl⟩
    refine s_fact (fun H h => ((Acc.own (T := bTy) (L := (bits l (allR l R).1)) 0 rfl) H h).form) (fun hf6 => ?_)
    refine s_lt (t_pure (.tuple #[v5, .int .i64 ((allR l R).2 : Int)])) ?_
    refine s_lt (t_pure v5) ?_
    refine s_lt (t_pure (.int .i64 ((allR l R).2 : Int))) ?_
    refine s_lt (t_pure v5) ?_
    refine s_lt (t_pure (.int .i64 ((allR l R).2 : Int))) ?_
    refine s_nil ?_
    refine xs_then ?_
    refine k_seq ?_
    refine k_reg ?_
    refine s_lt (t_pure (.int .i64 ((allR l R).2 : Int))) ?_
    refine s_lt (t_pure (.int .i64 ((allR l R).2 : Int))) ?_
    refine s_lt (t_pure (.int .i64 0)) ?_
    refine s_nil ?_
    refine xs_then ?_
    refine k_ret ?_
    exact xs_fin [.int .i64 ((allR l R).2 : Int), .int .i64 0] [] (SI.tmp 2 (SI.tmp 3 SI.nil)) (fun _ h => h.re [] [0, 0]) ⟨by rw [← roundsP_eq, roundsP_ok hc, hc]; rw [(all_same l R).2]; rfl, rfl⟩
end Go.Proofs.Ytjdlkemmcnncaaa
