/-
  The logic of walks: the rules for operations. Each rule says its conditions.
-/
import Derived.Test.YtjdlkemmcnncaaaJA
set_option linter.unusedSimpArgs false
set_option linter.unusedVariables false
set_option linter.unusedSectionVars false
namespace Go.J
open Go.Hp
open Go.Mem (Ty KTy blk elemAt addr_add addr_add_add pre suf aget aset adel apos Stamps aggDesc spliceAt)

section
variable {P : Program} {w0 : World} {ops : Array Oper} {Q : Exit → Act → World → Prop} {n : Nat} {E : Env} {H : Heap} {o : Oper} {rest : List Oper}

/-- The operation is carried out. -/
def want (ops : Array Oper) (E : Env) (o : Oper) : Bool :=
  match o.guard with
  | none => true
  | some (g, b) => match (ops[g]?).bind (·.dst) with
    | some d => has E d && (match look E d with | .bool c => c == b | _ => false)
    | none => false
/-- Its guard says no. -/
def unwant (ops : Array Oper) (E : Env) (o : Oper) : Bool :=
  match o.guard with
  | none => false
  | some (g, b) => match (ops[g]?).bind (·.dst) with
    | some d => has E d && (match look E d with | .bool c => c != b | .tuple _ => true | _ => false)
    | none => false
theorem yields_of {a : Act} (hf : Fits n a E) {g : Nat} {d : Tmp} (hd : (ops[g]?).bind (·.dst) = some d) (hh : has E d = true) {c : Bool} (hc : look E d = .bool c) : yielded ops a.tmps g = some c := by
  unfold yielded
  simp only [hd, Option.bind_some, hf.get d hh, hc]
theorem want_spec {a : Act} (hf : Fits n a E) (h : want ops E o = true) : Region.wanted o (yielded ops a.tmps) = true := by
  unfold want at h
  unfold Region.wanted
  cases hg : o.guard with
  | none => rfl
  | some gb =>
    obtain ⟨g, b⟩ := gb
    rw [hg] at h
    simp only at h ⊢
    cases hd : (ops[g]?).bind (·.dst) with
    | none => rw [hd] at h; simp at h
    | some d =>
      rw [hd] at h
      simp only [Bool.and_eq_true] at h
      cases hl : look E d <;> rw [hl] at h <;> simp only at h <;> first | (simp at h; done) | skip
      rename_i c
      rw [yields_of hf hd h.1 hl]
      simpa using h.2
theorem unwant_spec {a : Act} (hf : Fits n a E) (h : unwant ops E o = true) : Region.wanted o (yielded ops a.tmps) = false := by
  unfold unwant at h
  unfold Region.wanted
  cases hg : o.guard with
  | none => rw [hg] at h; simp at h
  | some gb =>
    obtain ⟨g, b⟩ := gb
    rw [hg] at h
    simp only at h ⊢
    cases hd : (ops[g]?).bind (·.dst) with
    | none => rw [hd] at h; simp at h
    | some d =>
      rw [hd] at h
      simp only [Bool.and_eq_true] at h
      cases hl : look E d <;> rw [hl] at h <;> simp only at h <;> first | (simp at h; done) | skip
      case bool c =>
        rw [yields_of hf hd h.1 hl]
        simpa using h.2
      case tuple xs =>
        have hy : yielded ops a.tmps g = none := by
          unfold yielded
          simp only [hd, Option.bind_some, hf.get d h.1, hl]
        rw [hy]; rfl
theorem l_skip (hu : unwant ops E o = true) (hd : dstOk n o.dst = true) (h : JL P w0 ops Q n rest (put E o.dst undef) H) : JL P w0 ops Q n (o :: rest) E H := fun a w hf ha =>
  wpList_skip (unwant_spec hf hu) (h _ w (hf.put o.dst undef hd) ha)
def notSel (o : Oper) : Bool := match o.op with | .select .. => false | _ => true
def okOp (ops : Array Oper) (n : Nat) (E : Env) (o : Oper) : Bool := want ops E o && o.op.operands.toList.all (knows E) && dstOk n o.dst && notSel o
theorem exec_eq {a : Act} (hf : Fits n a E) (hk : o.op.operands.toList.all (knows E) = true) (hs : notSel o = true) : execOp a.eval o = execOp (ev E) o :=
  execOp_congr o (fun cs b e => by unfold notSel at hs; rw [e] at hs; simp at hs) fun x hx => hf.eval (List.all_eq_true.1 hk x (by simpa using hx))
/-- An operation whose run is known. -/
theorem l_run {R : Value → Heap → Prop} (hk : okOp ops n E o = true) (hr : ∀ w, At w0 H w → ∃ v w', (execOp (ev E) o).run P w = .ok (.value v) w' ∧ At w0 w'.heap w' ∧ R v w'.heap)
    (h : ∀ v H', R v H' → JL P w0 ops Q n rest (put E o.dst v) H') : JL P w0 ops Q n (o :: rest) E H := by
  intro a w hf ha
  unfold okOp at hk
  simp only [Bool.and_eq_true] at hk
  obtain ⟨⟨⟨h1, h2⟩, h3⟩, h4⟩ := hk
  obtain ⟨v, w', hrun, hat, hR⟩ := hr w ha
  exact Mem.wpList_run (want_spec hf h1) (by rw [exec_eq hf h2 h4]; exact hrun) (h v _ hR _ w' (hf.put o.dst v h3) hat)
theorem l_runs {R : Heap → Prop} (hk : okOp ops n E o = true) (hr : ∀ w, At w0 H w → ∃ w', (execOp (ev E) o).run P w = .ok .skip w' ∧ At w0 w'.heap w' ∧ R w'.heap)
    (h : ∀ H', R H' → JL P w0 ops Q n rest (put E o.dst undef) H') : JL P w0 ops Q n (o :: rest) E H := by
  intro a w hf ha
  unfold okOp at hk
  simp only [Bool.and_eq_true] at hk
  obtain ⟨⟨⟨h1, h2⟩, h3⟩, h4⟩ := hk
  obtain ⟨w', hrun, hat, hR⟩ := hr w ha
  exact Mem.wpList_runs (want_spec hf h1) (by rw [exec_eq hf h2 h4]; exact hrun) (h _ hR _ w' (hf.put o.dst undef h3) hat)
/-- An operation that looks at no memory. -/
theorem l_pure (v : Value) (hk : okOp ops n E o = true) (hr : ∀ w, (execOp (ev E) o).run P w = .ok (.value v) w) (h : JL P w0 ops Q n rest (put E o.dst v) H) : JL P w0 ops Q n (o :: rest) E H :=
  l_run (R := fun v' H' => v' = v ∧ H' = H) hk (fun w ha => ⟨v, w, hr w, ⟨rfl, ha.os, ha.tape, ha.output⟩, rfl, ha.heap⟩) (by rintro _ _ ⟨rfl, rfl⟩; exact h)
/-- An operation that reads memory. -/
theorem l_read (v : Value) (hk : okOp ops n E o = true) (hr : ∀ w : World, w.heap = H → (execOp (ev E) o).run P w = .ok (.value v) w) (h : JL P w0 ops Q n rest (put E o.dst v) H) : JL P w0 ops Q n (o :: rest) E H :=
  l_run (R := fun v' H' => v' = v ∧ H' = H) hk (fun w ha => ⟨v, w, hr w ha.heap, ⟨rfl, ha.os, ha.tape, ha.output⟩, rfl, ha.heap⟩) (by rintro _ _ ⟨rfl, rfl⟩; exact h)
/-- Some temporaries are spelt otherwise. -/
theorem l_env (E' : Env) (hs : subB E E') {l : List Oper} (h : JL P w0 ops Q n l E' H) : JL P w0 ops Q n l E H := fun a w hf ha => h a w (hf.of_sub hs) ha

/-! ### Arithmetic -/
theorem bin_run {op : BinOp} {t u : TypeId} {x y : Operand} {v : Value} (ho : o.op = .binOp op t x y u) (vx vy : Value) (hx : ev E x = vx) (hy : ev E y = vy) (hg : ∀ w, (eqGuard op t x y vx vy).run P w = .ok () w) (hr : ∀ w, (binOp op t vx vy).run P w = .ok v w) (w : World) :
    (execOp (ev E) o).run P w = .ok (.value v) w := by
  unfold execOp
  simp only [ho, hx, hy, Sem.run_bind, hg, hr, Result.andThen_ok, Sem.run_pure]
theorem wrap64 {z : Int} (h : -9223372036854775808 ≤ z ∧ z ≤ 9223372036854775807) : IntKind.i64.wrap z = z := by rw [IntKind.wrap_i64]; omega
theorem eqg_int {op : BinOp} {t : TypeId} {x y : Operand} {k k' : IntKind} {a b : Int} (w : World) : (eqGuard op t x y (.int k a) (.int k' b)).run P w = .ok () w := by
  unfold eqGuard; split <;> rfl
theorem l_add {t u : TypeId} {x y : Operand} (ho : o.op = .binOp .add t x y u) (a b : Int) (hk : okOp ops n E o = true) (hx : ev E x = .int .i64 a) (hy : ev E y = .int .i64 b) (hb : -9223372036854775808 ≤ a + b ∧ a + b ≤ 9223372036854775807)
    (h : JL P w0 ops Q n rest (put E o.dst (.int .i64 (a + b))) H) : JL P w0 ops Q n (o :: rest) E H :=
  l_pure _ hk (bin_run ho _ _ hx hy eqg_int fun w => by simp [binOp, Op.intArith, wrap64 hb, Sem.run_pure]) h
theorem l_sub {t u : TypeId} {x y : Operand} (ho : o.op = .binOp .sub t x y u) (a b : Int) (hk : okOp ops n E o = true) (hx : ev E x = .int .i64 a) (hy : ev E y = .int .i64 b) (hb : -9223372036854775808 ≤ a - b ∧ a - b ≤ 9223372036854775807)
    (h : JL P w0 ops Q n rest (put E o.dst (.int .i64 (a - b))) H) : JL P w0 ops Q n (o :: rest) E H :=
  l_pure _ hk (bin_run ho _ _ hx hy eqg_int fun w => by simp [binOp, Op.intArith, wrap64 hb, Sem.run_pure]) h
theorem l_addW {t u : TypeId} {x y : Operand} (ho : o.op = .binOp .add t x y u) (a b : Int) (hk : okOp ops n E o = true) (hx : ev E x = .int .i64 a) (hy : ev E y = .int .i64 b)
    (h : JL P w0 ops Q n rest (put E o.dst (.int .i64 (IntKind.i64.wrap (a + b)))) H) : JL P w0 ops Q n (o :: rest) E H :=
  l_pure _ hk (bin_run ho _ _ hx hy eqg_int fun w => by simp [binOp, Op.intArith, Sem.run_pure]) h
theorem l_subW {t u : TypeId} {x y : Operand} (ho : o.op = .binOp .sub t x y u) (a b : Int) (hk : okOp ops n E o = true) (hx : ev E x = .int .i64 a) (hy : ev E y = .int .i64 b)
    (h : JL P w0 ops Q n rest (put E o.dst (.int .i64 (IntKind.i64.wrap (a - b)))) H) : JL P w0 ops Q n (o :: rest) E H :=
  l_pure _ hk (bin_run ho _ _ hx hy eqg_int fun w => by simp [binOp, Op.intArith, Sem.run_pure]) h
theorem l_mul {t u : TypeId} {x y : Operand} (ho : o.op = .binOp .mul t x y u) (a b : Int) (hk : okOp ops n E o = true) (hx : ev E x = .int .i64 a) (hy : ev E y = .int .i64 b) (hb : -9223372036854775808 ≤ a * b ∧ a * b ≤ 9223372036854775807)
    (h : JL P w0 ops Q n rest (put E o.dst (.int .i64 (a * b))) H) : JL P w0 ops Q n (o :: rest) E H :=
  l_pure _ hk (bin_run ho _ _ hx hy eqg_int fun w => by simp [binOp, Op.intArith, wrap64 hb, Sem.run_pure]) h
/-- The comparisons of integers. -/
def cmpI : BinOp → Int → Int → Option Bool
  | .eql, a, b => some (decide (a = b))
  | .neq, a, b => some (decide (a ≠ b))
  | .lss, a, b => some (decide (a < b))
  | .leq, a, b => some (decide (a ≤ b))
  | .gtr, a, b => some (decide (b < a))
  | .geq, a, b => some (decide (b ≤ a))
  | _, _, _ => none
theorem l_cmp {op : BinOp} {t u : TypeId} {x y : Operand} (ho : o.op = .binOp op t x y u) (k : IntKind) (a b : Int) (c : Bool) (hk : okOp ops n E o = true) (hx : ev E x = .int k a) (hy : ev E y = .int k b) (hc : cmpI op a b = some c)
    (h : JL P w0 ops Q n rest (put E o.dst (.bool c)) H) : JL P w0 ops Q n (o :: rest) E H := by
  refine l_pure _ hk (bin_run ho _ _ hx hy eqg_int fun w => ?_) h
  cases op <;> simp only [cmpI, Option.some.injEq] at hc <;> first | (cases hc; done) | skip
  all_goals
    subst hc
    simp only [binOp, ne_eq, not_true_eq_false, if_false, Op.intCmp]
    first
    | rfl
    | (simp [Sem.run_pure, bne, BEq.beq])
/-- The comparisons of strings. -/
def cmpS : BinOp → ByteArray → ByteArray → Option Bool
  | .eql, a, b => some (decide (a = b))
  | .neq, a, b => some (decide (a ≠ b))
  | _, _, _ => none
theorem toList_eq {a b : ByteArray} : (a.toList == b.toList) = decide (a = b) := by
  rw [Bool.eq_iff_iff]
  simp only [beq_iff_eq, decide_eq_true_eq]
  constructor
  · intro h
    rw [ByteArray.toList_eq, ByteArray.toList_eq] at h
    obtain ⟨a⟩ := a
    obtain ⟨b⟩ := b
    simp at h
    rw [h]
  · rintro rfl; rfl
theorem l_cmpS {op : BinOp} {t u : TypeId} {x y : Operand} (ho : o.op = .binOp op t x y u) (a b : ByteArray) (c : Bool) (hk : okOp ops n E o = true) (hx : ev E x = .string a) (hy : ev E y = .string b) (hc : cmpS op a b = some c)
    (h : JL P w0 ops Q n rest (put E o.dst (.bool c)) H) : JL P w0 ops Q n (o :: rest) E H := by
  refine l_pure _ hk (bin_run ho _ _ hx hy (fun w => by unfold eqGuard; split <;> rfl) fun w => ?_) h
  cases op <;> simp only [cmpS, Option.some.injEq] at hc <;> first | (cases hc; done) | skip
  all_goals
    subst hc
    simp [binOp, Op.stringOp, toList_eq, Sem.run_pure]
theorem eqg_agg {op : BinOp} {t : TypeId} {x y : Operand} {xs ys : Array Value} (hg : P.eqGuardType P.depth t = false) (w : World) : (eqGuard op t x y (.agg xs) (.agg ys)).run P w = .ok () w := by
  have h1 : (do let p ← program; let q ← program; if (!p.eqGuardType q.depth t) = true then pure () else do
      let b ← Op.eqGuardIn Op.maxDepth t (Value.agg xs) (Value.agg ys)
      if b = true then unsupported (Unsupported.noEntry "binop/eql: two nil values of an interface type with methods, in a part of a struct or an array") else pure () : Sem Unit).run P w = .ok () w := by
    simp [program, Sem.run, hg]
  cases op <;> first | rfl | exact h1
/-- '==' and '!=' of structs of plain cells, by a run that is known. -/
theorem l_eqS {op : BinOp} {t u : TypeId} {x y : Operand} (ho : o.op = .binOp op t x y u) (xs ys : Array Value) (c : Bool) (hk : okOp ops n E o = true) (hx : ev E x = .agg xs) (hy : ev E y = .agg ys) (hg : P.eqGuardType P.depth t = false) (hr : ∀ w, (binOp op t (.agg xs) (.agg ys)).run P w = .ok (.bool c) w)
    (h : JL P w0 ops Q n rest (put E o.dst (.bool c)) H) : JL P w0 ops Q n (o :: rest) E H :=
  l_pure _ hk (bin_run ho _ _ hx hy (eqg_agg hg) hr) h
/-- Both ways of a guard. -/
theorem l_fork {l : List Oper} (t : Nat) (c : Bool) (hh : has E t = true) (hv : look E t = .bool c) (h1 : c = true → JL P w0 ops Q n l ((t, .bool true) :: E) H) (h2 : c = false → JL P w0 ops Q n l ((t, .bool false) :: E) H) : JL P w0 ops Q n l E H := by
  have key : ∀ b, c = b → ∀ a, Fits n a E → Fits n a ((t, .bool b) :: E) := fun b hb a hf => hf.sub fun t' ht' => by
    rw [look_cons]
    rw [has_cons] at ht'
    by_cases e : t = t'
    · subst e; rw [if_pos rfl, hv, hb]; exact ⟨hh, rfl⟩
    · rw [if_neg e]; exact ⟨by simpa [e] using ht', rfl⟩
  cases hc : c with
  | true => exact fun a w hf ha => h1 hc a w (key _ hc a hf) ha
  | false => exact fun a w hf ha => h2 hc a w (key _ hc a hf) ha
/-- Both ways of a test. -/
theorem l_split {l : List Oper} (c : Bool) (E1 E2 : Env) (h1 : c = true → subB E E1 ∧ JL P w0 ops Q n l E1 H) (h2 : c = false → subB E E2 ∧ JL P w0 ops Q n l E2 H) : JL P w0 ops Q n l E H := by
  cases c with
  | true => exact l_env E1 (h1 rfl).1 (h1 rfl).2
  | false => exact l_env E2 (h2 rfl).1 (h2 rfl).2
end
end Go.J
