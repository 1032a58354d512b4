/-
  '==' of structs whose cells are integers (int), strings and bools, nested or not: cell by cell. Condition: the type is such a struct (by evaluation).
-/
import Derived.Test.YtjdlkemmcnncaaaJM
set_option linter.unusedSimpArgs false
set_option linter.unusedVariables false
namespace Go.J
open Go.Mem (aggDesc)

/-- 0: int, 1: string, 2: bool. -/
def fitsK : Nat → Value → Bool
  | 0, .int .i64 _ => true
  | 1, .string _ => true
  | 2, .bool _ => true
  | _, _ => false
def fitsL : List Nat → List Value → Bool
  | [], [] => true
  | k :: ks, v :: vs => fitsK k v && fitsL ks vs
  | _, _ => false
def cellEq : Value → Value → Bool
  | .int _ a, .int _ b => decide (a = b)
  | .string a, .string b => decide (a = b)
  | .bool a, .bool b => decide (a = b)
  | _, _ => false
def cellsEq : List Value → List Value → Bool
  | [], [] => true
  | x :: xs, y :: ys => cellEq x y && cellsEq xs ys
  | _, _ => false
mutual
def kindsOf (P : Program) : Nat → TypeId → Option (List Nat)
  | 0, _ => none
  | d + 1, t =>
    match P.underlying t with
    | some (.int .i64) => some [0]
    | some .string => some [1]
    | some .bool => some [2]
    | some (.struct fs) => if P.stoodInHeld t then none else
      match kindsOfFields P d fs.toList 0 with
      | some ks => (match P.info? t with | some i => if Nat.beq i.size ks.length then some ks else none | none => none)
      | none => none
    | _ => none
def kindsOfFields (P : Program) : Nat → List Field → Nat → Option (List Nat)
  | _, [], _ => some []
  | 0, _ :: _, _ => none
  | d + 1, f :: fs, off =>
    if f.name ≠ "_" ∧ f.offset = off then
      match kindsOf P d f.type with
      | some ks => (match kindsOfFields P d fs (off + ks.length) with | some ks' => some (ks ++ ks') | none => none)
      | none => none
    else none
end
theorem fitsL_len : ∀ {ks : List Nat} {vs : List Value}, fitsL ks vs = true → vs.length = ks.length
  | [], [], _ => rfl
  | k :: ks, v :: vs, h => by simp only [fitsL, Bool.and_eq_true] at h; simp [fitsL_len h.2]
  | [], _ :: _, h => by simp [fitsL] at h
  | _ :: _, [], h => by simp [fitsL] at h
theorem fitsL_append : ∀ {ks ks' : List Nat} {vs : List Value}, fitsL (ks ++ ks') vs = true → fitsL ks (vs.take ks.length) = true ∧ fitsL ks' (vs.drop ks.length) = true
  | [], ks', vs, h => by simpa [fitsL] using h
  | k :: ks, ks', [], h => by simp [fitsL] at h
  | k :: ks, ks', v :: vs, h => by
    simp only [List.cons_append, fitsL, Bool.and_eq_true] at h
    have := fitsL_append h.2
    simp [fitsL, h.1, this.1, this.2]
theorem cellsEq_append : ∀ (n : Nat) (xs ys : List Value), xs.length = ys.length → cellsEq xs ys = (cellsEq (xs.take n) (ys.take n) && cellsEq (xs.drop n) (ys.drop n))
  | 0, xs, ys, _ => by simp [cellsEq]
  | n + 1, [], [], _ => by simp [cellsEq]
  | n + 1, x :: xs, y :: ys, h => by
    simp only [List.take_succ_cons, List.drop_succ_cons, cellsEq]
    rw [cellsEq_append n xs ys (by simpa using h), Bool.and_assoc]
  | n + 1, [], y :: ys, h => by simp at h
  | n + 1, x :: xs, [], h => by simp at h
section
variable {P : Program}
/-- The value of these cells at a type. -/
def ofCells (P : Program) (t : TypeId) (vs : List Value) : Value := match P.underlying t with | some (.struct _) => .agg vs.toArray | _ => vs.headD undef
theorem part_cells {t : TypeId} {d : Nat} {ks : List Nat} (hk : kindsOf P d t = some ks) (xs : Array Value) (off : Nat) (hfit : fitsL ks ((xs.toList.drop off).take ks.length) = true) (w : World) :
    (part t xs off).run P w = .ok (ofCells P t ((xs.toList.drop off).take ks.length)) w := by
  cases d with
  | zero => simp [kindsOf] at hk
  | succ d =>
    unfold kindsOf at hk
    cases hu : P.underlying t with
    | none => rw [hu] at hk; simp at hk
    | some u =>
      rw [hu] at hk
      have hlen := fitsL_len hfit
      have scalar : aggDesc u = false → ks.length = 1 → (part t xs off).run P w = .ok (ofCells P t ((xs.toList.drop off).take ks.length)) w := by
        intro ha h1
        unfold part
        rw [Sem.run_bind, run_isAgg hu, Result.andThen_ok, ha]
        rw [h1] at hlen ⊢
        obtain ⟨v, hv⟩ := List.length_eq_one_iff.1 hlen
        have hx : xs[off]? = some v := by
          have := congrArg (·[0]?) hv
          simpa [List.getElem?_take, List.getElem?_drop] using this
        rw [hv]
        simp only [Bool.false_eq_true, if_false, hx]
        unfold ofCells
        rw [hu]
        cases u <;> simp [aggDesc] at ha <;> rfl
      cases u <;> first | (simp at hk; done) | skip
      case int q => cases q <;> first | (simp at hk; done) | (simp only [Option.some.injEq] at hk; exact scalar rfl (by rw [← hk]; rfl))
      case bool => simp only [Option.some.injEq] at hk; exact scalar rfl (by rw [← hk]; rfl)
      case string => simp only [Option.some.injEq] at hk; exact scalar rfl (by rw [← hk]; rfl)
      case struct fs =>
        simp only at hk
        split at hk
        · simp at hk
        · cases hf : kindsOfFields P d fs.toList 0 with
          | none => rw [hf] at hk; simp at hk
          | some ks' =>
            rw [hf] at hk
            cases hi : P.info? t with
            | none => rw [hi] at hk; simp at hk
            | some i =>
              rw [hi] at hk
              simp only at hk
              split at hk
              · rename_i hs
                simp only [Option.some.injEq] at hk
                subst hk
                have hs := Nat.eq_of_beq_eq_true hs
                unfold part
                rw [Sem.run_bind, run_isAgg hu, Result.andThen_ok]
                simp only [aggDesc, if_true, Sem.run_bind, sizeOf, typeInfo, program, Sem.run, Result.andThen_ok, hi, Sem.run_pure, hs]
                unfold ofCells
                rw [hu]
                congr 2
                apply Array.ext'
                simp [List.take_drop, Array.toList_extract, List.extract_eq_take_drop]
              · simp at hk
mutual
theorem equalIn_plain : ∀ (d : Nat) (t : TypeId) (ks : List Nat), kindsOf P d t = some ks → ∀ (xs ys : List Value), fitsL ks xs = true → fitsL ks ys = true → ∀ (D : Nat) (w : World), d ≤ D →
    (Op.equalIn D t (ofCells P t xs) (ofCells P t ys)).run P w = .ok (cellsEq xs ys) w
  | 0, _, _, hk, _, _, _, _, _, _, _ => by simp [kindsOf] at hk
  | d + 1, t, ks, hk, xs, ys, hx, hy, D, w, hD => by
    obtain ⟨D, rfl⟩ : ∃ D', D = D' + 1 := ⟨D - 1, by omega⟩
    unfold kindsOf at hk
    cases hu : P.underlying t with
    | none => rw [hu] at hk; simp at hk
    | some u =>
      rw [hu] at hk
      cases u <;> first | (simp at hk; done) | skip
      case int q =>
        cases q <;> first | (simp at hk; done) | skip
        simp only [Option.some.injEq] at hk
        subst hk
        obtain ⟨x, rfl⟩ := List.length_eq_one_iff.1 (fitsL_len hx)
        obtain ⟨y, rfl⟩ := List.length_eq_one_iff.1 (fitsL_len hy)
        · cases x <;> simp [fitsL, fitsK] at hx
          cases y <;> simp [fitsL, fitsK] at hy
          rename_i k a k' b
          cases k <;> simp [fitsK] at hx
          cases k' <;> simp [fitsK] at hy
          simp only [ofCells, hu, List.headD_cons]
          rw [run_equalIn_int w D t _ _ a b hu]
          simp [cellsEq, cellEq, Bool.beq_eq_decide_eq]
      case bool =>
        simp only [Option.some.injEq] at hk
        subst hk
        obtain ⟨x, rfl⟩ := List.length_eq_one_iff.1 (fitsL_len hx)
        obtain ⟨y, rfl⟩ := List.length_eq_one_iff.1 (fitsL_len hy)
        · cases x <;> simp [fitsL, fitsK] at hx
          cases y <;> simp [fitsL, fitsK] at hy
          rename_i a b
          simp only [ofCells, hu, List.headD_cons]
          rw [run_equalIn_bool' w D t a b hu]
          simp [cellsEq, cellEq, Bool.beq_eq_decide_eq]
      case string =>
        simp only [Option.some.injEq] at hk
        subst hk
        obtain ⟨x, rfl⟩ := List.length_eq_one_iff.1 (fitsL_len hx)
        obtain ⟨y, rfl⟩ := List.length_eq_one_iff.1 (fitsL_len hy)
        · cases x <;> simp [fitsL, fitsK] at hx
          cases y <;> simp [fitsL, fitsK] at hy
          rename_i a b
          simp only [ofCells, hu, List.headD_cons]
          rw [run_equalIn_string w D t a b hu, toList_eq]
          simp [cellsEq, cellEq]
      case struct fs =>
        simp only at hk
        split at hk
        · simp at hk
        · rename_i hst
          cases hf : kindsOfFields P d fs.toList 0 with
          | none => rw [hf] at hk; simp at hk
          | some ks' =>
            rw [hf] at hk
            cases hi : P.info? t with
            | none => rw [hi] at hk; simp at hk
            | some i =>
              rw [hi] at hk
              simp only at hk
              split at hk
              · simp only [Option.some.injEq] at hk
                subst hk
                have hfo : P.fieldsOf t = fs := by simp [Program.fieldsOf, hu]
                simp only [ofCells, hu]
                rw [run_equalIn_struct w D t _ _ (by rw [hfo]; exact hu) (by simpa using hst), hfo]
                have := eqFields_plain d fs.toList 0 ks' hf xs.toArray ys.toArray (by simpa using hx) (by simpa using hy) D w (by omega)
                simpa using this
              · simp at hk
theorem eqFields_plain : ∀ (d : Nat) (fs : List Field) (off : Nat) (ks : List Nat), kindsOfFields P d fs off = some ks → ∀ (xs ys : Array Value), fitsL ks (xs.toList.drop off) = true → fitsL ks (ys.toList.drop off) = true → ∀ (D : Nat) (w : World), d ≤ D + 1 →
    (Op.eqFields D xs ys fs).run P w = .ok (cellsEq (xs.toList.drop off) (ys.toList.drop off)) w
  | _, [], off, ks, hk, xs, ys, hx, hy, D, w, _ => by
    unfold kindsOfFields at hk
    simp only [Option.some.injEq] at hk
    subst hk
    have h1 := fitsL_len hx
    have h2 := fitsL_len hy
    rw [List.eq_nil_of_length_eq_zero h1, List.eq_nil_of_length_eq_zero h2]
    rfl
  | 0, _ :: _, _, _, hk, _, _, _, _, _, _, _ => by simp [kindsOfFields] at hk
  | d + 1, f :: fs, off, ks, hk, xs, ys, hx, hy, D, w, hD => by
    unfold kindsOfFields at hk
    split at hk
    · rename_i hn
      cases h1 : kindsOf P d f.type with
      | none => rw [h1] at hk; simp at hk
      | some k1 =>
        rw [h1] at hk
        simp only at hk
        cases h2 : kindsOfFields P d fs (off + k1.length) with
        | none => rw [h2] at hk; simp at hk
        | some k2 =>
          rw [h2] at hk
          simp only [Option.some.injEq] at hk
          subst hk
          have fx := fitsL_append hx
          have fy := fitsL_append hy
          rw [List.drop_drop] at fx fy
          have px := part_cells h1 xs off fx.1 w
          have py := part_cells h1 ys off fy.1 w
          have he := equalIn_plain d f.type k1 h1 _ _ fx.1 fy.1 D w (by omega)
          have ih := eqFields_plain d fs (off + k1.length) k2 h2 xs ys fx.2 fy.2 D w (by omega)
          have hl : (xs.toList.drop off).length = (ys.toList.drop off).length := (fitsL_len hx).trans (fitsL_len hy).symm
          rw [cellsEq_append k1.length _ _ hl, List.drop_drop, List.drop_drop]
          unfold Op.eqFields
          rw [if_pos hn.1, hn.2]
          simp only [Sem.run_bind, px, py, he, Result.andThen_ok]
          cases cellsEq ((xs.toList.drop off).take k1.length) ((ys.toList.drop off).take k1.length) with
          | true => simp [ih]
          | false => simp
    · simp at hk
end
/-- '==' of two structs. -/
theorem run_eqS {t : TypeId} (ks : List Nat) (hk : kindsOf P 20 t = some ks) (hs : (match P.underlying t with | some (.struct _) => true | _ => false) = true) (xs ys : Array Value) (hx : fitsL ks xs.toList = true) (hy : fitsL ks ys.toList = true) (w : World) :
    (binOp .eql t (.agg xs) (.agg ys)).run P w = .ok (.bool (cellsEq xs.toList ys.toList)) w ∧ (binOp .neq t (.agg xs) (.agg ys)).run P w = .ok (.bool (!cellsEq xs.toList ys.toList)) w := by
  have h := equalIn_plain 20 t ks hk xs.toList ys.toList hx hy 10000 w (by omega)
  have ho : ∀ zs : Array Value, ofCells P t zs.toList = .agg zs := by
    intro zs
    unfold ofCells
    cases hu : P.underlying t with
    | none => rw [hu] at hs; simp at hs
    | some u => rw [hu] at hs; cases u <;> simp at hs ⊢
  rw [ho, ho] at h
  refine ⟨?_, ?_⟩
  · rw [run_eql_struct, h]; rfl
  · rw [run_neq_struct, h]; rfl
end
end Go.J
