/-
  Rows: a law that returns true and changes no block that stood before; arguments opened: slices of plain structs.
-/
import Derived.Test.YtjdlkemmcnncaaaJN
import Derived.ProofKit
import Derived.Deep.Slices
set_option linter.unusedSimpArgs false
set_option linter.unusedVariables false
namespace Go.J
open Go.Hp Go.RowKit Go.ChangeShapes Go.WideShapes Go.ChangeAt
open Go.Mem (Ty blk)
section
variable {H : Type} {enc : TypeId × Value → H} {P : Program}
/-- The arguments read as they did. -/
theorem trodAll_below (hl : laidOutB P = true) {W W' : World} (hb : Below W.heap.size W W') : ∀ {ts : List TypeId} {vs : List Value} {ds : List (DataW H)} {ps : List MemPlace},
    (ts.all fun t => P.readableRec t && Nat.blt t P.types.size) = true → DataW.TrodAll enc P W 0 (fun _ => true) true ts vs ds ps → (∀ x ∈ ps, x.block < W.heap.size) →
    DataW.TrodAll enc P W' 0 (fun b => decide (b < W.heap.size)) true ts vs ds ps
  | [], [], [], ps, _, h, _ => h
  | t :: ts, v :: vs, d :: ds, ps, ht, h, hlt => by
    obtain ⟨p, q, h1, h2, rfl⟩ := h
    simp only [List.all_cons, Bool.and_eq_true] at ht
    refine ⟨p, q, Below.trod hl ht.1.1 (by simpa [Nat.blt_eq] using ht.1.2) h1 hb (fun x hx => hlt x (by simp [hx])), trodAll_below hl hb ht.2 h2 (fun x hx => hlt x (by simp [hx])), rfl⟩
  | [], [], _ :: _, _, _, h, _ => h.elim
  | [], _ :: _, _, _, _, h, _ => h.elim
  | _ :: _, [], _, _, _, h, _ => h.elim
  | _ :: _, _ :: _, [], _, _, h, _ => h.elim
theorem keptBut_below {W W' : World} {may : MemPlace → Prop} (hb : Below W.heap.size W W') : W.keptBut W' may := by
  refine ⟨hb.os, hb.output, fun i hi => ?_⟩
  rw [hb.block i hi]
  have := World.keptBut_refl W may
  exact this.2.2 i hi
/-- A law: one bool result, no variables. -/
theorem law_post {f : Func} {s : ChangeSpec} {W W' : World} {args : Array Value} {ds : List (DataW H)} {before : List MemPlace} {tb : TypeId} (hl : laidOutB P = true) (hts : (f.params.toList.all fun t => P.readableRec t && Nat.blt t P.types.size) = true)
    (hv : s.vars = []) (hr : f.resultTypes = #[tb]) (htb : P.underlying tb = some .bool) (hb : Below W.heap.size W W') (hW : DataW.Whole enc P f.params.toList s.vars false W args.toList ds [] before)
    (hfn : s.fn H ds = { results := [.lit (.bool true)], args := ds }) : s.post enc P f false true false false W args (.bool true) W' := by
  have hlt : ∀ x ∈ before, x.block < W.heap.size := fun x hx => hW.lt x hx
  obtain ⟨p, q, hA, hV, rfl, hz, hn⟩ := hW
  rw [hv] at hV
  have hq : q = [] := hV
  subst hq
  refine ⟨ds, [], p ++ [], [], p, [], ⟨p, [], hA, by rw [hv]; rfl, rfl, hz, hn⟩, ?_, ?_, ?_, ?_, by simp⟩
  · rw [List.append_nil, hfn, hr]
    refine ⟨[], [], ⟨1, ?_⟩, rfl, rfl⟩
    simp [DataW.trod, htb, Value.cells]
  · rw [List.append_nil, hfn]
    exact trodAll_below hl hb hts hA (fun x hx => hlt x (by simp [hx]))
  · rw [hv, List.append_nil, hfn]; rfl
  · exact keptBut_below hb
/-- From a contract to a call. -/
theorem calls_of_hc {f : FuncId} {args : Array Value} {W : World} (h : HC P f args W.heap fun v H' => v = .bool true ∧ Chg (fun _ => False) W.heap H') :
    Calls P f args W fun e W' => e = .returned (.bool true) ∧ Below W.heap.size W W' :=
  (h W rfl).mono fun e W' ⟨v, he, hat, hv, hc⟩ => by
    subst he hv
    exact ⟨rfl, ⟨hat.os, hat.tape, hat.output, hc.size, fun k hk => hc.block k hk (fun h => h)⟩⟩
variable {w : World} {base : Nat} {spare : Nat → Bool} {held : Bool}
theorem take_one_of {l : List Value} {n : Nat} {v : Value} (h : l.take n = [v]) : l.take 1 = [v] := by
  cases l with
  | nil => simp at h
  | cons x l =>
    cases n with
    | zero => simp at h
    | succ n => simp only [List.take_succ_cons, List.cons.injEq] at h; simp [h.1]
theorem fitsL_join : ∀ {ks ks' : List Nat} {vs : List Value}, fitsL ks (vs.take ks.length) = true → fitsL ks' ((vs.drop ks.length).take ks'.length) = true → fitsL (ks ++ ks') (vs.take (ks ++ ks').length) = true
  | [], ks', vs, _, h => by simpa using h
  | k :: ks, ks', [], h, _ => by simp [fitsL] at h
  | k :: ks, ks', v :: vs, h, h' => by
    simp only [List.length_cons, List.take_succ_cons, List.drop_succ_cons, fitsL, Bool.and_eq_true] at h h'
    simp only [List.cons_append, List.length_cons, List.take_succ_cons, fitsL, Bool.and_eq_true]
    exact ⟨h.1, fitsL_join h.2 h'⟩
mutual
/-- A struct of plain cells that is read: its cells are of their kinds. -/
theorem fits_trod : ∀ (d : Nat) (t : TypeId) (ks : List Nat), kindsOf P d t = some ks → ∀ (fuel : Nat) (l : List Value) (m : Nat) (x : DataW H × List MemPlace), DataW.trod enc P w base spare held fuel t (l.take m) = some x → fitsL ks (l.take ks.length) = true ∧ ((match P.underlying t with | some (.struct _) => true | _ => false) = true → (l.take m).length = ks.length)
  | 0, _, _, hk, _, _, _, _, _ => by simp [kindsOf] at hk
  | d + 1, t, ks, hk, fuel, l, m, x, hx => by
    unfold kindsOf at hk
    cases hu : P.underlying t with
    | none => rw [hu] at hk; simp at hk
    | some u =>
      rw [hu] at hk
      cases u <;> first | (simp at hk; done) | skip
      case int q =>
        cases q <;> first | (simp at hk; done) | skip
        simp only [Option.some.injEq] at hk
        subst hk
        obtain ⟨n, h1, _, _⟩ := DataW.trod_int hu hx
        exact ⟨by rw [show [0].length = 1 from rfl, take_one_of h1]; rfl, by simp⟩
      case bool =>
        simp only [Option.some.injEq] at hk
        subst hk
        obtain ⟨n, h1, _⟩ := DataW.trod_bool hu hx
        exact ⟨by rw [show [2].length = 1 from rfl, take_one_of h1]; rfl, by simp⟩
      case string =>
        simp only [Option.some.injEq] at hk
        subst hk
        obtain ⟨n, h1, _⟩ := DataW.trod_string hu hx
        exact ⟨by rw [show [1].length = 1 from rfl, take_one_of h1]; rfl, by simp⟩
      case struct fs =>
        simp only at hk
        split at hk
        · simp at hk
        · cases hf : kindsOfFields P d fs.toList 0 with
          | none => rw [hf] at hk; simp at hk
          | some ks' =>
            rw [hf] at hk
            cases hi : P.info? t with
            | none => rw [hi] at hk; simp at hk
            | some i =>
              rw [hi] at hk
              simp only at hk
              split at hk
              · rename_i hs
                simp only [Option.some.injEq] at hk
                subst hk
                have hs := Nat.eq_of_beq_eq_true hs
                obtain ⟨xs, n, _, _, hlen, hxl, hall⟩ := DataW.trod_struct hu hx
                have hc : P.cellsOf t = ks'.length := by simp [Program.cellsOf, hi, hs]
                have := fits_fields d fs.toList 0 ks' hf n (l.take m) (fun f hf' => by
                  obtain ⟨j, hj, rfl⟩ := List.getElem_of_mem hf'
                  have hj' : j < fs.size := by simpa using hj
                  have h2 := hall j fs[j] (Array.getElem?_eq_getElem hj')
                  rw [List.getElem?_eq_getElem (by omega)] at h2
                  exact ⟨_, _, by simpa using h2⟩)
                rw [hc] at hlen
                refine ⟨?_, fun _ => hlen⟩
                rw [List.drop_zero, ← hlen, List.take_length] at this
                have e : l.take ks'.length = l.take m := by
                  rw [List.length_take] at hlen
                  rw [List.take_eq_take_iff]; omega
                rw [e]; exact this
              · simp at hk
theorem fits_fields : ∀ (d : Nat) (fs : List Field) (off : Nat) (ks : List Nat), kindsOfFields P d fs off = some ks → ∀ (n : Nat) (cs : List Value), (∀ f ∈ fs, ∃ m x, DataW.trod enc P w base spare held n f.type ((cs.drop f.offset).take m) = some x) → fitsL ks ((cs.drop off).take ks.length) = true
  | _, [], off, ks, hk, n, cs, _ => by
    unfold kindsOfFields at hk
    simp only [Option.some.injEq] at hk
    subst hk; rfl
  | 0, _ :: _, _, _, hk, _, _, _ => by simp [kindsOfFields] at hk
  | d + 1, f :: fs, off, ks, hk, n, cs, hall => by
    unfold kindsOfFields at hk
    split at hk
    · rename_i hn
      cases h1 : kindsOf P d f.type with
      | none => rw [h1] at hk; simp at hk
      | some k1 =>
        rw [h1] at hk
        simp only at hk
        cases h2 : kindsOfFields P d fs (off + k1.length) with
        | none => rw [h2] at hk; simp at hk
        | some k2 =>
          rw [h2] at hk
          simp only [Option.some.injEq] at hk
          subst hk
          obtain ⟨m, x, hx⟩ := hall f (by simp)
          rw [hn.2] at hx
          have a1 := (fits_trod d f.type k1 h1 n _ m x hx).1
          have a2 := fits_fields d fs (off + k1.length) k2 h2 n cs (fun g hg => hall g (by simp [hg]))
          rw [← List.drop_drop] at a2
          exact fitsL_join a1 a2
    · simp at hk
end
/-- A slice of plain structs that came in. -/
theorem open_sl {α : Type} [Inhabited α] {T : Ty α} (hT : T.Ok P) {t : TypeId} {b0 : Nat} {W : World} {v : Value} {dd : DataW H} {pp : List MemPlace} (ht : P.underlying t = some (.slice T.id)) (ks : List Nat) (hk : kindsOf P 20 T.id = some ks) (hc : P.cellsOf T.id = T.size) (hks : ks.length = T.size)
    (hdec : ∀ cs, fitsL ks cs = true → ∃ x, T.enc x = cs) (hv : Value.okWide P W .any b0 t v) (h : DataW.Trod enc P W 0 (fun _ => true) true t v dd pp) : ∃ L, Sl W.heap T v L := by
  obtain ⟨a0, len0, cap0, rfl⟩ := okWide_slice ht hv
  obtain ⟨fuel, hf⟩ := h
  have hcs : (Value.slice a0 len0 cap0).cells.toList = [.slice a0 len0 cap0] := rfl
  rw [hcs] at hf
  rcases Deep.open_slice ht hf with ⟨h0, _⟩ | ⟨a, len, cap, m, n, D, Pl, h0, _, hl, hm, hmm, _, hx⟩
  · rw [List.cons.injEq] at h0
    exact ⟨[], .inl ⟨⟨none, h0.1⟩, rfl⟩⟩
  · rw [List.cons.injEq] at h0
    obtain ⟨h0, _⟩ := h0
    injection h0 with e1 e2 e3
    subst e1 e2 e3
    simp only [Value.okWide, ht, Cell.okWide, Cell.ok] at hv
    obtain ⟨_, _, _, hsp, row, cells, hsh, _⟩ := hv
    obtain ⟨g, off, spot⟩ := a
    simp only at hsp
    subst hsp
    simp only [if_true] at hmm
    subst hmm
    unfold World.shape? at hsh
    cases hg : W.heap[g]? with
    | none => rw [hg] at hsh; simp at hsh
    | some ob =>
      rw [hg] at hsh
      cases ob <;> simp at hsh
      rename_i arr e fr
      rw [hc] at hx
      obtain ⟨X, hX⟩ := Deep.choose_lt (α := α) (p := fun i x => ∀ j u, (T.enc x)[j]? = some u → arr[off + i * T.size + j]? = some u) (fun i hi => by
        obtain ⟨cs', h1, h2⟩ := hx i hi
        obtain ⟨_, hlen, hcell⟩ := World.cells?_some h1
        rw [← List.take_length (l := cs')] at h2
        have hfit := (fits_trod 20 T.id ks hk n cs' cs'.length _ h2).1
        rw [hks, ← hlen, List.take_length] at hfit
        obtain ⟨x, hx'⟩ := hdec cs' hfit
        refine ⟨x, fun j u hj => ?_⟩
        rw [hx'] at hj
        have hjl : j < T.size := by rw [← hlen]; exact (List.getElem?_eq_some_iff.1 hj).1
        have := hcell j hjl
        rw [Mem.addr_add, Mem.addr_add, cell_of_row W g _ arr e fr hg, hj] at this
        exact this)
      have hpos := hT.pos
      have hget : ∀ i j, i < m → j < T.size → ∃ u, (T.enc (X i))[j]? = some u ∧ arr[off + i * T.size + j]? = some u := fun i j hi hj => by
        have : j < (T.enc (X i)).length := by rw [hT.len]; exact hj
        exact ⟨_, List.getElem?_eq_getElem this, hX i hi j _ (List.getElem?_eq_getElem this)⟩
      refine ⟨(List.range len0).map X, .inr ⟨g, off, m, arr, e, fr, by simp, hg, by simpa using hl, hm, ?_, ?_⟩⟩
      · intro hcp
        obtain ⟨u, _, hu⟩ := hget (m - 1) (T.size - 1) (by omega) (by omega)
        have hlt := (Array.getElem?_eq_some_iff.1 hu).1
        have : m * T.size = (m - 1) * T.size + T.size := by rw [Nat.sub_mul]; have : T.size ≤ m * T.size := Nat.le_mul_of_pos_left _ hcp; omega
        omega
      · apply List.ext_getElem?
        intro q
        have hfl := hT.flat_len ((List.range len0).map X)
        simp only [List.length_map, List.length_range] at hfl ⊢
        by_cases hq : q < len0 * T.size
        · have hi : q / T.size < len0 := Nat.div_lt_of_lt_mul (by rw [Nat.mul_comm]; exact hq)
          have hj : q % T.size < T.size := Nat.mod_lt _ hpos
          have e1 : q = q / T.size * T.size + q % T.size := by rw [Nat.mul_comm]; exact (Nat.div_add_mod _ _).symm
          obtain ⟨u, h1, h2⟩ := hget (q / T.size) (q % T.size) (by omega) hj
          have hL : ((List.range len0).map X)[q / T.size]? = some (X (q / T.size)) := by simp [hi]
          have h3 := hT.flat_get hL hj
          rw [← e1, h1] at h3
          rw [h3, List.getElem?_take, if_pos hq, List.getElem?_drop, Array.getElem?_toList]
          rw [← h2]
          congr 1
          omega
        · rw [List.getElem?_eq_none (by simp; omega), List.getElem?_eq_none (by rw [hfl]; omega)]
/-- A plain struct that came in. -/
theorem open_struct {α : Type} {T : Ty α} (hT : T.Ok P) {b0 : Nat} {W : World} {v : Value} {dd : DataW H} {pp : List MemPlace} {fs : Array Field} (ht : P.underlying T.id = some (.struct fs)) (ks : List Nat) (hk : kindsOf P 20 T.id = some ks)
    (hdec : ∀ cs, fitsL ks cs = true → ∃ x, T.enc x = cs) (hv : Value.okWide P W .any b0 T.id v) (h : DataW.Trod enc P W 0 (fun _ => true) true T.id v dd pp) : ∃ x, v = T.val x := by
  obtain ⟨cs, rfl, _⟩ := okWide_struct ht hv
  obtain ⟨fuel, hf⟩ := h
  have hcs : (Value.agg cs).cells.toList = cs.toList := rfl
  rw [hcs, ← List.take_length (l := cs.toList)] at hf
  obtain ⟨h1, h2⟩ := fits_trod 20 T.id ks hk fuel cs.toList _ _ hf
  have h3 := h2 (by rw [ht])
  rw [List.take_length] at h3
  rw [← h3, List.take_length] at h1
  obtain ⟨x, hx⟩ := hdec _ h1
  obtain ⟨d, hd, ha⟩ := hT.desc
  rw [ht] at hd
  cases hd
  refine ⟨x, ?_⟩
  rw [hT.val x, ← ha, hx]
  rfl
end
end Go.J
