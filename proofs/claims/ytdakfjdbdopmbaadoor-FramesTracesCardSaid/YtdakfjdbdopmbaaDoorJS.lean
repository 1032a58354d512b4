/-
  Arguments that came in, with the form's reach: strings and integers within structs and within the elements of slices, and how long they are at most. No condition but those that each rule says.
-/
import Derived.Test.YtdakfjdbdopmbaaDoorJQ
set_option linter.unusedSimpArgs false
set_option linter.unusedVariables false
namespace Go.J
open Go.ChangeShapes Go.WideShapes Go.RowKit Go.Hp
open Go.Mem (Ty)
section
variable {H : Type} {enc : TypeId × Value → H} {P : Program} {W : World}
abbrev TrS (enc : TypeId × Value → H) (P : Program) (W : World) (t : TypeId) (cs : List Value) : Prop := ∃ n x, DataW.trod enc P W 0 (fun _ => true) true n t cs = some x ∧ (x.1.weights P t).all (· ≤ reachBytes) = true
theorem TrS.tr {t : TypeId} {cs : List Value} (h : TrS enc P W t cs) : Tr enc P W t cs := by obtain ⟨n, x, h, _⟩ := h; exact ⟨n, x, h⟩
theorem each_at {p : Nat → Bool} : ∀ {ts : List TypeId} {ds : List (DataW H)} {j : Nat} {t : TypeId} {d : DataW H}, (DataW.weightsEach P ts ds).all p = true → ts[j]? = some t → ds[j]? = some d → (d.weights P t).all p = true
  | t :: ts, d :: ds, 0, _, _, h, rfl, rfl => by
    rw [DataW.weightsEach, List.all_append, Bool.and_eq_true] at h; exact h.1
  | t :: ts, d :: ds, j + 1, _, _, h, h1, h2 => by
    rw [DataW.weightsEach, List.all_append, Bool.and_eq_true] at h; exact each_at h.2 h1 h2
  | [], _, _, _, _, _, h, _ => by simp at h
  | _ :: _, [], _, _, _, _, _, h => by simp at h
theorem all_at {p : Nat → Bool} {e : TypeId} : ∀ {ds : List (DataW H)} {j : Nat} {d : DataW H}, (DataW.weightsAll P e ds).all p = true → ds[j]? = some d → (d.weights P e).all p = true
  | d :: ds, 0, _, h, rfl => by
    rw [DataW.weightsAll, List.all_append, Bool.and_eq_true] at h; exact h.1
  | d :: ds, j + 1, _, h, h2 => by
    rw [DataW.weightsAll, List.all_append, Bool.and_eq_true] at h; exact all_at h.2 h2
  | [], _, _, _, h => by simp at h
/-- An argument, as the row hands it. -/
theorem trs_arg {ts : List TypeId} {ds gs : List (DataW H)} {us : List TypeId} {j : Nat} {t : TypeId} {v : Value} {d : DataW H} {p : List MemPlace} (hw : (DataW.weightsEach P (ts ++ us) (ds ++ gs)).all (· ≤ reachBytes) = true) (ht : (ts ++ us)[j]? = some t) (hd : (ds ++ gs)[j]? = some d)
    (h : DataW.Trod enc P W 0 (fun _ => true) true t v d p) : TrS enc P W t v.cells.toList := by
  obtain ⟨n, h⟩ := h
  exact ⟨n, _, h, each_at hw ht hd⟩
theorem trs_field {t : TypeId} {fs : Array Field} {cs : List Value} (hu : P.underlying t = some (.struct fs)) (h : TrS enc P W t cs) (j : Nat) (u : TypeId) (off m : Nat) (hf : (fs[j]?).map (fun f => (f.type, f.offset)) = some (u, off) := by rfl) (hc : P.cellsOf u = m := by kernel_rfl) : TrS enc P W u ((cs.drop off).take m) := by
  obtain ⟨fuel, x, hx, hw⟩ := h
  obtain ⟨xs, n, _, rfl, hlen, hxl, hall⟩ := DataW.trod_struct hu hx
  cases hfj : fs[j]? with
  | none => rw [hfj] at hf; cases hf
  | some f =>
    rw [hfj] at hf
    injection hf with hf; injection hf with e1 e2
    subst e1 e2 hc
    have h2 := hall j f hfj
    have hj : j < xs.length := by rw [hxl]; exact (Array.getElem?_eq_some_iff.1 hfj).1
    rw [List.getElem?_eq_getElem hj] at h2
    refine ⟨n, _, h2, ?_⟩
    simp only [DataW.weights, hu] at hw
    exact each_at hw (by rw [List.getElem?_map, Array.getElem?_toList, hfj]; rfl) (by rw [List.getElem?_map, List.getElem?_eq_getElem hj]; rfl)
theorem trs_len {t : TypeId} {fs : Array Field} {cs : List Value} (hu : P.underlying t = some (.struct fs)) (h : TrS enc P W t cs) (m : Nat) (hc : P.cellsOf t = m := by kernel_rfl) : cs.length = m := (tr_len hu h.tr).trans hc
theorem wf64 {n : Int} (h : (Lit.int .i64 n).wf = true) : -9223372036854775808 ≤ n ∧ n ≤ 9223372036854775807 := by
  simp only [Lit.wf, Bool.and_eq_true, decide_eq_true_eq] at h
  have e1 : IntKind.i64.min = -9223372036854775808 := by decide
  have e2 : IntKind.i64.max = 9223372036854775807 := by decide
  omega
theorem trs_int {t : TypeId} {cs : List Value} (hu : P.underlying t = some (.int .i64)) (h : TrS enc P W t cs) : ∃ n, cs = [.int .i64 n] ∧ -9223372036854775808 ≤ n ∧ n ≤ 9223372036854775807 := by
  obtain ⟨n, h1, h2⟩ := tr_int hu h.tr
  exact ⟨n, h1, wf64 h2⟩
theorem trs_bool {t : TypeId} {cs : List Value} (hu : P.underlying t = some .bool) (h : TrS enc P W t cs) : ∃ b, cs = [.bool b] := tr_bool hu h.tr
theorem trs_str {t : TypeId} {cs : List Value} (hu : P.underlying t = some .string) (h : TrS enc P W t cs) : ∃ s, cs = [.string s] ∧ (s.size : Int) ≤ 140737488351232 := by
  obtain ⟨fuel, x, hx, hw⟩ := h
  obtain ⟨s, h1, rfl, _⟩ := DataW.trod_string hu hx
  refine ⟨s, h1, ?_⟩
  simp only [DataW.weights, List.all_cons, List.all_nil, Bool.and_true, decide_eq_true_eq] at hw
  have e : reachBytes = 140737488351232 := rfl
  have e2 : s.data.toList.length = s.size := rfl
  omega
/-- A slice that is read: its elements, and that each of them is read. -/
theorem trs_slice {α : Type} [Inhabited α] {T : Ty α} (hT : T.Ok P) {t : TypeId} {cs : List Value} (ht : P.underlying t = some (.slice T.id)) (hc : P.cellsOf T.id = T.size)
    {Q : α → Prop} (hdec : ∀ cs, TrS enc P W T.id cs → ∃ x, T.enc x = cs ∧ Q x) (h : TrS enc P W t cs) : ∃ v L, cs = [v] ∧ Sl W.heap T v L ∧ (∀ y ∈ L, Q y) ∧ L.length * P.bytesOf T.id ≤ 140737488351232 := by
  obtain ⟨fuel, x, hf, hw⟩ := h
  rcases Deep.open_slice ht hf with ⟨h0, _⟩ | ⟨a, len0, cap, m, n, D, Pl, h0, _, hl, hm, hmm, ex, hx⟩
  · exact ⟨_, [], h0, .inl ⟨⟨none, rfl⟩, rfl⟩, by simp⟩
  simp only [if_true] at hmm
  subst hmm
  subst ex
  simp only [DataW.weights, ht, List.all_cons, List.all_append, Bool.and_eq_true, decide_eq_true_eq, List.length_map, List.length_range] at hw
  have hwD : ∀ i, i < m → ((D i).weights P T.id).all (· ≤ reachBytes) = true := fun i hi => by
    by_cases h : i < len0
    · exact all_at (j := i) hw.2.1 (by simp [h])
    · exact all_at (j := i - len0) hw.2.2 (by
        rw [List.getElem?_map, List.getElem?_range (by omega)]; simp; congr 1; omega)
  have hroom : len0 * P.bytesOf T.id ≤ 140737488351232 := Nat.le_trans (Nat.mul_le_mul_right _ (by omega)) hw.1
  have hpos := hT.pos
  rw [hc] at hx
  by_cases hcap : m = 0
  · subst hcap
    obtain rfl : len0 = 0 := by omega
    exact ⟨_, [], h0, .inl ⟨⟨some a, rfl⟩, rfl⟩, by simp⟩
  obtain ⟨g, off, spot⟩ := a
  have key : spot = none ∧ ∃ arr e fr, W.heap[g]? = some (.cells arr e fr) := by
    obtain ⟨cs', h1, h2⟩ := hx 0 (by omega)
    obtain ⟨_, hlen, hcell⟩ := World.cells?_some h1
    have h3 := hcell 0 hpos
    simp only [Nat.zero_mul, Addr.add, if_true] at h3
    have hne : cs'[0]? ≠ none := by rw [List.getElem?_eq_getElem (by omega)]; exact fun h => nomatch h
    unfold World.cell? at h3
    simp only at h3
    cases hg : W.heap[g]? with
    | none => rw [hg] at h3; simp only at h3; exact absurd h3.symm hne
    | some ob =>
      rw [hg] at h3
      cases ob <;> simp only at h3 <;> first | (exact absurd h3.symm hne) | skip
      rename_i arr e fr
      cases spot with
      | none => exact ⟨rfl, arr, e, fr, rfl⟩
      | some s => simp only [Option.isSome_some, if_true] at h3; exact absurd h3.symm hne
  obtain ⟨rfl, arr, e, fr, hg⟩ := key
  obtain ⟨X, hX⟩ := Deep.choose_lt (α := α) (p := fun i x => (∀ j u, (T.enc x)[j]? = some u → arr[off + i * T.size + j]? = some u) ∧ Q x) (fun i hi => by
    obtain ⟨cs', h1, h2⟩ := hx i hi
    obtain ⟨_, hlen, hcell⟩ := World.cells?_some h1
    obtain ⟨x, hx', hQ⟩ := hdec cs' ⟨_, _, h2, hwD i hi⟩
    refine ⟨x, fun j u hj => ?_, hQ⟩
    rw [hx'] at hj
    have hjl : j < T.size := by rw [← hlen]; exact (List.getElem?_eq_some_iff.1 hj).1
    have := hcell j hjl
    rw [Mem.addr_add, Mem.addr_add, cell_of_row W g _ arr e fr hg, hj] at this
    exact this)
  have hget : ∀ i j, i < m → j < T.size → ∃ u, (T.enc (X i))[j]? = some u ∧ arr[off + i * T.size + j]? = some u := fun i j hi hj => by
    have : j < (T.enc (X i)).length := by rw [hT.len]; exact hj
    exact ⟨_, List.getElem?_eq_getElem this, (hX i hi).1 j _ (List.getElem?_eq_getElem this)⟩
  refine ⟨_, (List.range len0).map X, h0, .inr ⟨g, off, m, arr, e, fr, by simp, hg, by simpa using hl, hm, ?_, ?_⟩, ?_, by simpa using hroom⟩
  · intro hcp
    obtain ⟨u, _, hu⟩ := hget (m - 1) (T.size - 1) (by omega) (by omega)
    have hlt := (Array.getElem?_eq_some_iff.1 hu).1
    have : m * T.size = (m - 1) * T.size + T.size := by rw [Nat.sub_mul]; have : T.size ≤ m * T.size := Nat.le_mul_of_pos_left _ hcp; omega
    omega
  · apply List.ext_getElem?
    intro q
    have hfl := hT.flat_len ((List.range len0).map X)
    simp only [List.length_map, List.length_range] at hfl ⊢
    by_cases hq : q < len0 * T.size
    · have hi : q / T.size < len0 := Nat.div_lt_of_lt_mul (by rw [Nat.mul_comm]; exact hq)
      have hj : q % T.size < T.size := Nat.mod_lt _ hpos
      have e1 : q = q / T.size * T.size + q % T.size := by rw [Nat.mul_comm]; exact (Nat.div_add_mod _ _).symm
      obtain ⟨u, h1, h2⟩ := hget (q / T.size) (q % T.size) (by omega) hj
      have hL : ((List.range len0).map X)[q / T.size]? = some (X (q / T.size)) := by simp [hi]
      have h3 := hT.flat_get hL hj
      rw [← e1, h1] at h3
      rw [h3, List.getElem?_take, if_pos hq, List.getElem?_drop, Array.getElem?_toList]
      rw [← h2]
      congr 1
      omega
    · rw [List.getElem?_eq_none (by simp; omega), List.getElem?_eq_none (by rw [hfl]; omega)]
  · intro y hy
    simp only [List.mem_map, List.mem_range] at hy
    obtain ⟨i, hi, rfl⟩ := hy
    exact (hX i (by omega)).2
end
end Go.J
