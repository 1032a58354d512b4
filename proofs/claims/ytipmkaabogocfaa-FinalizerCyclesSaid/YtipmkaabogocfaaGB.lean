/-
  A logic of walks: temporaries as a list of pairs, memory as an array of blocks; the rules for control. No condition but those that each rule says.
  The logic of walks: the rules for operations. Each rule says its conditions.
  The logic of walks: the rules for memory, slices, maps and calls. Each rule says its conditions.
  '==' of structs whose cells are integers (int), strings and bools, nested or not: cell by cell. Condition: the type is such a struct (by evaluation).
  Regions that draw their order, whose loads may stand ahead of their calls or behind them: the light operations are taken first, under a condition S on memory that holds behind every operation. The rules, and what each light operation yields.
  'copy(dst, src)' of lists of elements. Condition: dst may be written from its block's head on.
-/
import Derived.Test.YtipmkaabogocfaaGA
import Derived.OrdersHeld

set_option linter.unusedSimpArgs false
set_option linter.unusedVariables false
namespace Go.J
open Go.Hp

abbrev Env := List (Nat × Value)
def look : Env → Nat → Value
  | [], _ => undef
  | (k, v) :: r, t => bif Nat.beq k t then v else look r t
def has : Env → Nat → Bool
  | [], _ => false
  | (k, _) :: r, t => Nat.beq k t || has r t
def ev (E : Env) : Operand → Value
  | .tmp t => look E t
  | .const v => v
  | .global g => .pointer (some ⟨g, 0, none⟩)
  | .func f => .func (.func f) #[] #[]
def knows (E : Env) : Operand → Bool
  | .tmp t => has E t
  | _ => true
def put (E : Env) : Option Tmp → Value → Env
  | some d, v => (d, v) :: E
  | none, _ => E
def dstOk (n : Nat) : Option Tmp → Bool
  | some d => Nat.blt d n
  | none => true

/-- The temporaries hold what the list says. -/
structure Fits (n : Nat) (a : Act) (E : Env) : Prop where
  size : a.tmps.size = n
  defers : a.defers = []
  get : ∀ t, has E t = true → a.tmps[t]? = some (look E t)

section
variable {n : Nat} {a : Act} {E : Env}
theorem beq_false {k t : Nat} (h : ¬ k = t) : Nat.beq k t = false := by
  cases hb : Nat.beq k t with
  | true => exact absurd (Nat.eq_of_beq_eq_true hb) h
  | false => rfl
theorem look_cons (k : Nat) (v : Value) (r : Env) (t : Nat) : look ((k, v) :: r) t = if k = t then v else look r t := by
  show (bif Nat.beq k t then v else look r t) = _
  by_cases h : k = t
  · subst h; simp
  · simp [beq_false h, h]
theorem has_cons (k : Nat) (v : Value) (r : Env) (t : Nat) : has ((k, v) :: r) t = (decide (k = t) || has r t) := by
  show (Nat.beq k t || has r t) = _
  by_cases h : k = t
  · subst h; simp
  · simp [beq_false h, h]
theorem Fits.put (h : Fits n a E) (d : Option Tmp) (v : Value) (hd : dstOk n d = true) : Fits n (a.put d v) (J.put E d v) := by
  cases d with
  | none => exact h
  | some d =>
    have hlt : d < n := by simpa [dstOk, Nat.blt_eq] using hd
    refine ⟨by simp [Act.put, h.size], by simp [Act.put, h.defers], fun t ht => ?_⟩
    simp only [J.put] at ht ⊢
    rw [look_cons]
    rw [has_cons] at ht
    simp only [Act.put]
    by_cases e : d = t
    · subst e
      rw [if_pos rfl, Array.getElem?_setIfInBounds_self_of_lt (by rw [h.size]; exact hlt)]
    · rw [if_neg e, Array.getElem?_setIfInBounds_ne e]
      exact h.get t (by simpa [e] using ht)
theorem Fits.eval (h : Fits n a E) {x : Operand} (hk : knows E x = true) : a.eval x = ev E x := by
  cases x with
  | tmp t => simp only [Act.eval, ev, Array.getD_eq_getD_getElem?, h.get t hk, Option.getD_some]
  | _ => rfl
/-- Fewer temporaries are known. -/
theorem Fits.sub (h : Fits n a E) {E' : Env} (hs : ∀ t, has E' t = true → has E t = true ∧ look E t = look E' t) : Fits n a E' :=
  ⟨h.size, h.defers, fun t ht => by rw [h.get t (hs t ht).1, (hs t ht).2]⟩
def subB (E E' : Env) : Prop := ∀ p ∈ E', has E p.1 = true ∧ look E p.1 = look E' p.1
theorem has_mem : ∀ {E : Env} {t : Nat}, has E t = true → ∃ v, (t, v) ∈ E
  | [], _, h => by simp [has] at h
  | (k, v) :: r, t, h => by
    rw [has_cons] at h
    by_cases e : k = t
    · subst e; exact ⟨v, by simp⟩
    · obtain ⟨u, hu⟩ := has_mem (E := r) (by simpa [e] using h)
      exact ⟨u, by simp [hu]⟩
theorem Fits.of_sub (h : Fits n a E) {E' : Env} (hs : subB E E') : Fits n a E' := h.sub fun t ht => by
  obtain ⟨v, hv⟩ := has_mem ht
  exact hs (t, v) hv
/-- The same, entry by entry. -/
def subL (E : Env) : Env → Prop
  | [] => True
  | (t, v) :: r => (has E t = true ∧ look E t = v) ∧ subL E r
def distinctB : Env → Bool
  | [] => true
  | (t, _) :: r => !has r t && distinctB r
theorem sub_of {E' : Env} (hd : distinctB E' = true) (h : subL E E') : subB E E' := by
  have key : ∀ (E' : Env), distinctB E' = true → subL E E' → ∀ t, has E' t = true → has E t = true ∧ look E t = look E' t := by
    intro E'
    induction E' with
    | nil => intro _ _ t ht; simp [has] at ht
    | cons p r ih =>
      obtain ⟨k, v⟩ := p
      intro hd hs t ht
      simp only [distinctB, Bool.and_eq_true, Bool.not_eq_true'] at hd
      obtain ⟨⟨h1, h2⟩, h3⟩ := hs
      rw [look_cons]
      rw [has_cons] at ht
      by_cases e : k = t
      · subst e; rw [if_pos rfl]; exact ⟨h1, h2⟩
      · rw [if_neg e]; exact ih hd.2 h3 t (by simpa [e] using ht)
  intro p hp
  refine key E' hd h p.1 ?_
  have : ∀ (E : Env) (p : Nat × Value), p ∈ E → has E p.1 = true := by
    intro E
    induction E with
    | nil => intro p hp; cases hp
    | cons q r ih =>
      intro p hp
      obtain ⟨k, v⟩ := q
      rw [has_cons]
      rcases List.mem_cons.1 hp with rfl | h
      · simp
      · simp [ih p h]
  exact this E' p hp
theorem Fits.args {args : Array Value} {m : Nat} (hm : args.size ≤ m) : Fits m { tmps := args ++ Array.replicate (m - args.size) undef, defers := [] } (args.toList.zipIdx.map fun p => (p.2, p.1)) := by
  refine ⟨by simp; omega, rfl, fun t ht => ?_⟩
  obtain ⟨v, hv⟩ := has_mem ht
  simp only [List.mem_map, Prod.mk.injEq, Prod.exists] at hv
  obtain ⟨x, i, hx, rfl, rfl⟩ := hv
  have hx' := List.mem_zipIdx_iff_getElem?.1 hx
  simp only at hx'
  have hlook : ∀ (l : List Value) (k t : Nat) (x : Value), k ≤ t → l[t - k]? = some x → look ((l.zipIdx k).map fun p => (p.2, p.1)) t = x := by
    intro l
    induction l with
    | nil => intro k t x _ h; simp at h
    | cons y r ih =>
      intro k t x hk h
      simp only [List.zipIdx_cons, List.map_cons, look_cons]
      by_cases e : k = t
      · subst e; simp at h; rw [if_pos rfl]; exact h
      · rw [if_neg e]
        refine ih (k + 1) t x (by omega) ?_
        have e2 : t - k = (t - (k + 1)) + 1 := by omega
        rw [e2] at h
        simpa using h
  have h1 := hlook args.toList 0 i x (Nat.zero_le _) (by simpa using hx')
  rw [h1]
  have hlt : i < args.size := by have := (List.getElem?_eq_some_iff.1 hx').1; simpa using this
  rw [Array.getElem?_append_left hlt]
  simpa using hx'
end

/-- The world holds these blocks; its streams are as w0's. -/
structure At (w0 : World) (H : Heap) (w : World) : Prop where
  heap : w.heap = H
  os : w.os = w0.os
  tape : w.tape = w0.tape
  output : w.output = w0.output
theorem At.self (w : World) : At w w.heap w := ⟨rfl, rfl, rfl, rfl⟩
theorem At.trans {w0 w w' : World} {H H' : Heap} (h : At w0 H w) (k : At w H' w') : At w0 H' w' := ⟨k.heap, k.os.trans h.os, k.tape.trans h.tape, k.output.trans h.output⟩
theorem At.of_mem {S : Nat → Prop} {w w' : World} (h : Mem.Chg S w w') : At w w'.heap w' := ⟨rfl, h.os, h.tape, h.output⟩

/-- A contract: called in this memory the function returns a value and leaves a memory of which R holds. -/
def HC (P : Program) (f : FuncId) (args : Array Value) (H : Heap) (R : Value → Heap → Prop) : Prop :=
  ∀ w : World, w.heap = H → Calls P f args w fun e w' => ∃ v, e = .returned v ∧ At w w'.heap w' ∧ R v w'.heap
theorem HC.mono {P : Program} {f : FuncId} {args : Array Value} {H : Heap} {R R' : Value → Heap → Prop} (h : HC P f args H R) (hR : ∀ v H', R v H' → R' v H') : HC P f args H R' :=
  fun w hw => (h w hw).mono fun _ _ ⟨v, e, hA, hr⟩ => ⟨v, e, hA, hR _ _ hr⟩

section
variable {P : Program} {w0 : World} {ops : Array Oper} {Q : Exit → Act → World → Prop} {n : Nat} {E : Env} {H : Heap}
/-- A list of operations. -/
def JL (P : Program) (w0 : World) (ops : Array Oper) (Q : Exit → Act → World → Prop) (n : Nat) (l : List Oper) (E : Env) (H : Heap) : Prop :=
  ∀ a w, Fits n a E → At w0 H w → wpList P ops Q l a w
/-- A piece of code. -/
def JC (P : Program) (w0 : World) (c : Code) (Q : Exit → Act → World → Prop) (n : Nat) (E : Env) (H : Heap) : Prop :=
  ∀ a w, Fits n a E → At w0 H w → c.wp P Q a w
/-- A way out. -/
def JX (w0 : World) (x : Exit) (Q : Exit → Act → World → Prop) (n : Nat) (E : Env) (H : Heap) : Prop :=
  ∀ a w, Fits n a E → At w0 H w → Q x a w

theorem JC.sub {c : Code} (E' : Env) (hs : subB E E') (h : JC P w0 c Q n E' H) : JC P w0 c Q n E H := fun a w hf ha => h a w (hf.of_sub hs) ha
theorem JX.sub {x : Exit} (E' : Env) (hs : subB E E') (h : JX w0 x Q n E' H) : JX w0 x Q n E H := fun a w hf ha => h a w (hf.of_sub hs) ha

/-! ### Control -/
theorem c_seq {x y : Code} (h : JC P w0 x (Exit.then (y.wp P Q) Q) n E H) : JC P w0 (.seq x y) Q n E H := fun a w hf ha => wp_seq (h a w hf ha)
theorem c_skip (h : JX w0 .normal Q n E H) : JC P w0 .skip Q n E H := fun a w hf ha => wp_skip (h a w hf ha)
theorem c_ret (h : JX w0 .ret Q n E H) : JC P w0 .ret Q n E H := fun a w hf ha => wp_ret (h a w hf ha)
theorem c_exit {id : Nat} (h : JX w0 (.exit id) Q n E H) : JC P w0 (.exit id) Q n E H := fun a w hf ha => wp_exit (h a w hf ha)
theorem c_block {id : Nat} {c : Code} (h : JC P w0 c (Exit.inBlock id Q) n E H) : JC P w0 (.block id c) Q n E H := fun a w hf ha => wp_block (h a w hf ha)
theorem c_true {t : Operand} {x y : Code} (hk : knows E t = true) (hv : ev E t = .bool true) (h : JC P w0 x Q n E H) : JC P w0 (.cond t x y) Q n E H :=
  fun a w hf ha => wp_cond_true ((hf.eval hk).trans hv) (h a w hf ha)
theorem c_false {t : Operand} {x y : Code} (hk : knows E t = true) (hv : ev E t = .bool false) (h : JC P w0 y Q n E H) : JC P w0 (.cond t x y) Q n E H :=
  fun a w hf ha => wp_cond_false ((hf.eval hk).trans hv) (h a w hf ha)
theorem c_cond {t : Operand} {x y : Code} {c : Bool} (hk : knows E t = true) (hv : ev E t = .bool c) (h1 : c = true → JC P w0 x Q n E H) (h2 : c = false → JC P w0 y Q n E H) : JC P w0 (.cond t x y) Q n E H := by
  cases c with
  | true => exact c_true hk hv (h1 rfl)
  | false => exact c_false hk hv (h2 rfl)
theorem c_reg {id : Nat} {l : List Oper} (h : JL P w0 l.toArray Q n l E H) : JC P w0 (.region id l.toArray false) Q n E H :=
  fun a w hf ha => wp_region_lit (h a w hf ha)
theorem c_draw {id : Nat} {l : List Oper} (hm : P.follows .mixedOrders = true) (hk : Ser.check P l = true) (h : JL P w0 l.toArray (Ser.DynQ P l Q) n l E H) : JC P w0 (.region id l.toArray true) Q n E H :=
  fun a w hf ha => Ser.wp_ser hm hk (h a w.drew hf ⟨ha.heap, ha.os, ha.tape, ha.output⟩)
theorem l_nil (h : JX w0 .normal Q n E H) : JL P w0 ops Q n [] E H := fun a w hf ha => wpList_nil (h a w hf ha)
/-- For each pure operation: its operands are known and plain. -/
def dynOne (ops : List Oper) (E : Env) (o : Oper) : Bool :=
  let plain := o.op.operands.toList.all (knows E) && (match o.op with
    | .binOp _ _ x y _ => Ser.plain2 (ev E x) (ev E y)
    | .convert _ _ x => Ser.isInt (ev E x)
    | .nilCheck x => (match ev E x with | .func _ _ _ => false | _ => true)
    | .call { callee := .builtin .len, args := xs, .. } | .call { callee := .builtin .cap, args := xs, .. } => (match xs[0]? with | some x => Ser.noBox (ev E x) | none => false)
    | .call { callee := .builtin .min, args := xs, .. } | .call { callee := .builtin .max, args := xs, .. } => xs.toList.all fun x => Ser.isInt (ev E x)
    | _ => true)
  match o.guard with
  | none => plain
  | some (g, b) => match ((ops[g]?).bind (·.dst)) with
    | some d => has E d && (match look E d with | .bool c => (c != b) || plain | .tuple _ => true | _ => false)
    | none => false

theorem x_dyn {l : List Oper} (hd : (l.all fun o => !(Ser.clsOf P o == 0) || !(Ser.isDyn o) || dynOne l E o) = true) (h : JX w0 .normal Q n E H) : JX w0 .normal (Ser.DynQ P l Q) n E H := by
  intro a w hf ha
  refine ⟨?_, h a w hf ha⟩
  unfold Ser.dynAll
  rw [List.all_eq_true] at hd ⊢
  intro o ho
  have h1 := hd o ho
  cases hc : (Ser.clsOf P o == 0) with
  | false => rfl
  | true =>
    cases hi : Ser.isDyn o with
    | false => rfl
    | true =>
      rw [hc, hi] at h1
      simp only [Bool.not_true, Bool.false_or] at h1 ⊢
      have plain : ∀ (hk : o.op.operands.toList.all (knows E) = true), (match o.op with
          | .binOp _ _ x y _ => Ser.plain2 (ev E x) (ev E y)
          | .convert _ _ x => Ser.isInt (ev E x)
          | .nilCheck x => (match ev E x with | .func _ _ _ => false | _ => true)
          | .call { callee := .builtin .len, args := xs, .. } | .call { callee := .builtin .cap, args := xs, .. } => (match xs[0]? with | some x => Ser.noBox (ev E x) | none => false)
          | .call { callee := .builtin .min, args := xs, .. } | .call { callee := .builtin .max, args := xs, .. } => xs.toList.all fun x => Ser.isInt (ev E x)
          | _ => true) = true → Ser.dynOp o a = true := by
        intro hk hp
        have hev : ∀ x ∈ o.op.operands, a.eval x = ev E x := fun x hx => hf.eval (List.all_eq_true.1 hk x (by simpa using hx))
        obtain ⟨dst, op, ty, pos, after, guard⟩ := o
        unfold Ser.dynOp
        cases op <;> simp only [Op.operands] at hev hp ⊢
        case binOp op t x y u => rw [hev x (by simp), hev y (by simp)]; exact hp
        case convert s d x => rw [hev x (by simp)]; exact hp
        case nilCheck x => rw [hev x (by simp)]; exact hp
        case call c =>
          obtain ⟨callee, xs, ts⟩ := c
          cases callee with
          | value f => rfl
          | invoke r m => rfl
          | builtin b =>
            simp only [Call.operands] at hev
            cases b <;> simp only at hp ⊢ <;> first
              | rfl
              | (cases hx : xs[0]? with
                 | none => rw [hx] at hp; simp at hp
                 | some x => rw [hx] at hp; simp only at hp ⊢; rw [hev x (by simp; exact Array.mem_of_getElem? hx)]; exact hp)
              | (rw [List.all_eq_true] at hp ⊢
                 intro x hx
                 rw [hev x (by simpa using hx)]; exact hp x hx)
      unfold dynOne at h1
      cases hg : o.guard with
      | none =>
        rw [hg] at h1
        simp only [Bool.and_eq_true] at h1
        rw [Bool.or_eq_true]
        exact .inr (plain h1.1 h1.2)
      | some gb =>
        obtain ⟨g, b⟩ := gb
        rw [hg] at h1
        simp only at h1
        cases hgd : (l[g]?).bind (·.dst) with
        | none => rw [hgd] at h1; simp at h1
        | some d =>
          rw [hgd] at h1
          simp only [Bool.and_eq_true] at h1
          obtain ⟨hh, h2⟩ := h1
          have hy : yielded l.toArray a.tmps g = match look E d with | .bool c => some c | _ => none := by
            unfold yielded
            simp only [List.getElem?_toArray, hgd, Option.bind_some, hf.get d hh]
            cases look E d <;> rfl
          cases hl : look E d <;> rw [hl] at h2 hy <;> simp only at h2 hy <;> first | (cases h2; done) | skip
          case bool c =>
            rw [Bool.or_eq_true] at h2 ⊢
            rcases h2 with h2 | h2
            · left
              unfold Region.wanted
              rw [hg]
              simp only [hy]
              simpa using h2
            · right
              rw [Bool.and_eq_true] at h2
              exact plain h2.1 h2.2
          case tuple xs =>
            rw [Bool.or_eq_true]
            left
            unfold Region.wanted
            rw [hg]
            simp only [hy]
            rfl

/-! ### Ways out -/
theorem x_then {y : Code} (h : JC P w0 y Q n E H) : JX w0 .normal (Exit.then (y.wp P Q) Q) n E H := h
theorem x_block {id : Nat} (h : JX w0 .normal Q n E H) : JX w0 .normal (Exit.inBlock id Q) n E H := h
theorem x_exit {id : Nat} {K : Act → World → Prop} (h : JX w0 (.exit id) Q n E H) : JX w0 (.exit id) (Exit.then K Q) n E H := h
theorem x_here {id : Nat} (h : JX w0 .normal Q n E H) : JX w0 (.exit id) (Exit.inBlock id Q) n E H := fun a w hf ha => by
  show (if id = id then Q .normal a w else _)
  rw [if_pos rfl]; exact h a w hf ha
theorem x_other {id id' : Nat} (hne : Nat.beq id id' = false) (h : JX w0 (.exit id) Q n E H) : JX w0 (.exit id) (Exit.inBlock id' Q) n E H := fun a w hf ha => by
  show (if id = id' then Q .normal a w else Q (.exit id) a w)
  rw [if_neg (fun e => by subst e; simp at hne)]; exact h a w hf ha
theorem x_ret {K : Act → World → Prop} (h : JX w0 .ret Q n E H) : JX w0 .ret (Exit.then K Q) n E H := h
theorem x_retBlock {id : Nat} (h : JX w0 .ret Q n E H) : JX w0 .ret (Exit.inBlock id Q) n E H := h

/-! ### The function -/
def Fin (P : Program) (fn : Func) (w0 : World) (R : Value → Heap → Prop) : Exit → Act → World → Prop :=
  bodyPost P fn fun e w' => ∃ v, e = .returned v ∧ At w0 w'.heap w' ∧ R v w'.heap
theorem enter {f : FuncId} {fn : Func} {c : Code} {args : Array Value} {R : Value → Heap → Prop} (hf : P.funcs[f]? = some fn) (hb : fn.body = some c) (m : Nat) (hm : fn.ntmps = m) (hle : Nat.ble args.size m = true) (E : Env) (hE : (args.toList.zipIdx.map fun p => (p.2, p.1)) = E)
    (h : ∀ w0, JC P w0 c (Fin P fn w0 R) m E H) : HC P f args H R := by
  intro w hw
  subst hm hE
  exact calls_of_wp hf hb (h w _ w (Fits.args (Nat.le_of_ble_eq_true hle)) ⟨hw, rfl, rfl, rfl⟩)
/-- What the results are. -/
def Res (P : Program) (w0 : World) (fn : Func) (n : Nat) (E : Env) (H : Heap) (v : Value) : Prop :=
  ∀ a w, Fits n a E → At w0 H w → (results fn a.tmps).run P w = .ok v w
theorem x_fin {fn : Func} {R : Value → Heap → Prop} (v : Value) (hr : Res P w0 fn n E H v) (h : R v H) : JX w0 .ret (Fin P fn w0 R) n E H := fun a w hf ha => by
  refine ⟨hf.defers, v, hr a w hf ha, v, rfl, ⟨rfl, ha.os, ha.tape, ha.output⟩, ?_⟩
  rw [ha.heap]; exact h
theorem x_finN {fn : Func} {R : Value → Heap → Prop} (v : Value) (hr : Res P w0 fn n E H v) (h : R v H) : JX w0 .normal (Fin P fn w0 R) n E H := fun a w hf ha => by
  refine ⟨hf.defers, v, hr a w hf ha, v, rfl, ⟨rfl, ha.os, ha.tape, ha.output⟩, ?_⟩
  rw [ha.heap]; exact h
/-- One result. -/
inductive Item (P : Program) (E : Env) (H : Heap) : ResultVar → Value → Prop
  | tmp (t : Tmp) (v : Value) (hk : has E t = true) (hv : look E t = v) : Item P E H (.tmp t) v
  | cell (t : Tmp) (ty : TypeId) (v : Value) (p : Addr) (hk : has E t = true) (hv : look E t = .pointer (some p)) (hl : ∀ w : World, w.heap = H → (loadVar ty p).run P w = .ok v w) : Item P E H (.cell t ty) v
inductive Items (P : Program) (E : Env) (H : Heap) : List ResultVar → List Value → Prop
  | nil : Items P E H [] []
  | cons {r : ResultVar} {v : Value} {rs : List ResultVar} {vs : List Value} (h : Item P E H r v) (hs : Items P E H rs vs) : Items P E H (r :: rs) (v :: vs)
def itemRun (tmps : Array Value) : ResultVar → Sem Value
  | .tmp t => pure (tmps.getD t undef)
  | .cell p t => do loadVar t (← asAddr (tmps.getD p undef))
theorem run_items {a : Act} {w : World} (hf : Fits n a E) (hw : w.heap = H) {rs : List ResultVar} {vs : List Value} (h : Items P E H rs vs) :
    (rs.mapM (itemRun a.tmps)).run P w = .ok vs w := by
  induction h with
  | nil => rfl
  | cons h hs ih =>
    rw [List.mapM_cons]
    cases h with
    | tmp t v hk hv =>
      have : a.tmps.getD t undef = look E t := by rw [Array.getD_eq_getD_getElem?, hf.get t hk, Option.getD_some]
      simp only [itemRun, Sem.run_bind, Sem.run_pure, Result.andThen_ok, this, ih, hv]
    | cell t ty v p hk hv hl =>
      have : a.tmps.getD t undef = .pointer (some p) := by rw [Array.getD_eq_getD_getElem?, hf.get t hk, Option.getD_some, hv]
      have h2 : (asAddr (a.tmps.getD t undef)).run P w = .ok p w := by rw [this]; rfl
      simp only [itemRun, Sem.run_bind, Sem.run_pure, Result.andThen_ok, h2, hl w hw, ih]
theorem run_map {α β : Type} (f : α → β) (x : Sem α) (w : World) : (f <$> x).run P w = (x.run P w).andThen fun a w' => .ok (f a) w' := Sem.run_bind' P x (fun a => pure (f a)) w
def pack : List Value → Value
  | [x] => x
  | vs => .tuple vs.toArray
theorem res_of {fn : Func} {rs : List ResultVar} {vs : List Value} (hr : fn.results.toList = rs) (h : Items P E H rs vs) : Res P w0 fn n E H (pack vs) := by
  intro a w hf ha
  have h1 := run_items hf ha.heap h
  have h0 : results fn a.tmps = (do let vs ← fn.results.mapM (itemRun a.tmps); pure (if h : vs.size = 1 then vs[0] else .tuple vs)) := rfl
  rw [h0, Array.mapM_eq_mapM_toList, hr]
  simp only [Sem.run_bind, Sem.run_pure, Result.andThen_ok, run_map, h1]
  congr 1
  match vs with
  | [] => rfl
  | [x] => rfl
  | x :: y :: r => simp [pack]

/-! ### Loops -/
theorem wp_loopI {c : Code} {ι : Type} (I : ι → Act → World → Prop) (μ : ι → Nat) {a : Act} {w : World} (i0 : ι) (h₀ : I i0 a w)
    (round : ∀ i a w, I i a w → c.wp P (Exit.then (fun a' w' => ∃ i', μ i' < μ i ∧ I i' a' w') Q) a w) : (Code.loop c).wp P Q a w := by
  intro b k cs
  have key : ∀ n i a w, μ i = n → I i a w →
      ∃ e a' w', Q e a' w' ∧ Arrives P (lone (b.at a (.code c :: .inLoop c :: k)) cs w) b k cs e a' w' := by
    intro n
    induction n using Nat.strongRecOn with
    | _ n ih =>
      intro i a w hn hI
      obtain ⟨e, a₁, w₁, hq, harr⟩ := round i a w hI b (.inLoop c :: k) cs
      cases e with
      | normal =>
        obtain ⟨i₁, hlt, hI₁⟩ := hq
        obtain ⟨e₂, a₂, w₂, hq₂, harr₂⟩ := ih (μ i₁) (hn ▸ hlt) i₁ a₁ w₁ rfl hI₁
        exact ⟨e₂, a₂, w₂, hq₂, .of_steps (Steps.trans harr (.one step_inLoop)) harr₂⟩
      | exit id => exact ⟨_, a₁, w₁, hq, .pass (x := .inLoop c) rfl (fun _ _ => .inl (by simp)) harr⟩
      | goto l => exact ⟨_, a₁, w₁, hq, .pass (x := .inLoop c) rfl (fun _ _ => .inl (by simp)) harr⟩
      | ret => exact ⟨_, a₁, w₁, hq, .pass (x := .inLoop c) rfl (fun _ _ => .inl (by simp)) harr⟩
      | panic ch => exact ⟨_, a₁, w₁, hq, .pass (x := .inLoop c) rfl (fun _ _ => .inl (by simp)) harr⟩
      | outgrown => exact ⟨_, a₁, w₁, hq, .pass (x := .inLoop c) rfl (fun _ _ => .inl (by simp)) harr⟩
  obtain ⟨e, a', w', hq, harr⟩ := key _ i0 a w rfl h₀
  exact ⟨e, a', w', hq, .of_steps (.one step_loop) harr⟩
/-- What holds at the head of each round. -/
def LoopK (w0 : World) (n : Nat) {ι : Type} (Ei : ι → Env) (Hi : ι → Heap → Prop) (μ : ι → Nat) (i : ι) : Act → World → Prop :=
  fun a w => ∃ i' H', μ i' < μ i ∧ Fits n a (Ei i') ∧ At w0 H' w ∧ Hi i' H'
theorem c_loop {c : Code} {ι : Type} (Ei : ι → Env) (Hi : ι → Heap → Prop) (μ : ι → Nat) (i0 : ι) (hE : subB E (Ei i0)) (h0 : Hi i0 H)
    (round : ∀ i H, Hi i H → JC P w0 c (Exit.then (LoopK w0 n Ei Hi μ i) Q) n (Ei i) H) : JC P w0 (.loop c) Q n E H := fun a w hf ha => by
  refine wp_loopI (fun i a w => ∃ H, Fits n a (Ei i) ∧ At w0 H w ∧ Hi i H) μ i0 ⟨H, hf.of_sub hE, ha, h0⟩ ?_
  rintro i a w ⟨H', hf', ha', hi⟩
  refine Code.wp_mono (fun e a w q => ?_) (round i H' hi a w hf' ha')
  cases e <;> first | exact q | skip
  obtain ⟨i', H'', h1, h2, h3, h4⟩ := q
  exact ⟨i', h1, H'', h2, h3, h4⟩
theorem x_round {ι : Type} {Ei : ι → Env} {Hi : ι → Heap → Prop} {μ : ι → Nat} {i : ι} (i' : ι) (hμ : μ i' < μ i) (hE : subB E (Ei i')) (h : Hi i' H) : JX w0 .normal (Exit.then (LoopK w0 n Ei Hi μ i) Q) n E H :=
  fun a w hf ha => ⟨i', H, hμ, hf.of_sub hE, ha, h⟩
end
end Go.J


set_option linter.unusedSimpArgs false
set_option linter.unusedVariables false
set_option linter.unusedSectionVars false
namespace Go.J
open Go.Hp
open Go.Mem (Ty KTy blk elemAt addr_add addr_add_add pre suf aget aset adel apos Stamps aggDesc spliceAt)

section
variable {P : Program} {w0 : World} {ops : Array Oper} {Q : Exit → Act → World → Prop} {n : Nat} {E : Env} {H : Heap} {o : Oper} {rest : List Oper}

/-- The operation is carried out. -/
def want (ops : Array Oper) (E : Env) (o : Oper) : Bool :=
  match o.guard with
  | none => true
  | some (g, b) => match (ops[g]?).bind (·.dst) with
    | some d => has E d && (match look E d with | .bool c => c == b | _ => false)
    | none => false
/-- Its guard says no. -/
def unwant (ops : Array Oper) (E : Env) (o : Oper) : Bool :=
  match o.guard with
  | none => false
  | some (g, b) => match (ops[g]?).bind (·.dst) with
    | some d => has E d && (match look E d with | .bool c => c != b | .tuple _ => true | _ => false)
    | none => false
theorem yields_of {a : Act} (hf : Fits n a E) {g : Nat} {d : Tmp} (hd : (ops[g]?).bind (·.dst) = some d) (hh : has E d = true) {c : Bool} (hc : look E d = .bool c) : yielded ops a.tmps g = some c := by
  unfold yielded
  simp only [hd, Option.bind_some, hf.get d hh, hc]
theorem want_spec {a : Act} (hf : Fits n a E) (h : want ops E o = true) : Region.wanted o (yielded ops a.tmps) = true := by
  unfold want at h
  unfold Region.wanted
  cases hg : o.guard with
  | none => rfl
  | some gb =>
    obtain ⟨g, b⟩ := gb
    rw [hg] at h
    simp only at h ⊢
    cases hd : (ops[g]?).bind (·.dst) with
    | none => rw [hd] at h; simp at h
    | some d =>
      rw [hd] at h
      simp only [Bool.and_eq_true] at h
      cases hl : look E d <;> rw [hl] at h <;> simp only at h <;> first | (simp at h; done) | skip
      rename_i c
      rw [yields_of hf hd h.1 hl]
      simpa using h.2
theorem unwant_spec {a : Act} (hf : Fits n a E) (h : unwant ops E o = true) : Region.wanted o (yielded ops a.tmps) = false := by
  unfold unwant at h
  unfold Region.wanted
  cases hg : o.guard with
  | none => rw [hg] at h; simp at h
  | some gb =>
    obtain ⟨g, b⟩ := gb
    rw [hg] at h
    simp only at h ⊢
    cases hd : (ops[g]?).bind (·.dst) with
    | none => rw [hd] at h; simp at h
    | some d =>
      rw [hd] at h
      simp only [Bool.and_eq_true] at h
      cases hl : look E d <;> rw [hl] at h <;> simp only at h <;> first | (simp at h; done) | skip
      case bool c =>
        rw [yields_of hf hd h.1 hl]
        simpa using h.2
      case tuple xs =>
        have hy : yielded ops a.tmps g = none := by
          unfold yielded
          simp only [hd, Option.bind_some, hf.get d h.1, hl]
        rw [hy]; rfl
theorem l_skip (hu : unwant ops E o = true) (hd : dstOk n o.dst = true) (h : JL P w0 ops Q n rest (put E o.dst undef) H) : JL P w0 ops Q n (o :: rest) E H := fun a w hf ha =>
  wpList_skip (unwant_spec hf hu) (h _ w (hf.put o.dst undef hd) ha)
def notSel (o : Oper) : Bool := match o.op with | .select .. => false | _ => true
def okOp (ops : Array Oper) (n : Nat) (E : Env) (o : Oper) : Bool := want ops E o && o.op.operands.toList.all (knows E) && dstOk n o.dst && notSel o
theorem exec_eq {a : Act} (hf : Fits n a E) (hk : o.op.operands.toList.all (knows E) = true) (hs : notSel o = true) : execOp a.eval o = execOp (ev E) o :=
  execOp_congr o (fun cs b e => by unfold notSel at hs; rw [e] at hs; simp at hs) fun x hx => hf.eval (List.all_eq_true.1 hk x (by simpa using hx))
/-- An operation whose run is known. -/
theorem l_run {R : Value → Heap → Prop} (hk : okOp ops n E o = true) (hr : ∀ w, At w0 H w → ∃ v w', (execOp (ev E) o).run P w = .ok (.value v) w' ∧ At w0 w'.heap w' ∧ R v w'.heap)
    (h : ∀ v H', R v H' → JL P w0 ops Q n rest (put E o.dst v) H') : JL P w0 ops Q n (o :: rest) E H := by
  intro a w hf ha
  unfold okOp at hk
  simp only [Bool.and_eq_true] at hk
  obtain ⟨⟨⟨h1, h2⟩, h3⟩, h4⟩ := hk
  obtain ⟨v, w', hrun, hat, hR⟩ := hr w ha
  exact Mem.wpList_run (want_spec hf h1) (by rw [exec_eq hf h2 h4]; exact hrun) (h v _ hR _ w' (hf.put o.dst v h3) hat)
theorem l_runs {R : Heap → Prop} (hk : okOp ops n E o = true) (hr : ∀ w, At w0 H w → ∃ w', (execOp (ev E) o).run P w = .ok .skip w' ∧ At w0 w'.heap w' ∧ R w'.heap)
    (h : ∀ H', R H' → JL P w0 ops Q n rest (put E o.dst undef) H') : JL P w0 ops Q n (o :: rest) E H := by
  intro a w hf ha
  unfold okOp at hk
  simp only [Bool.and_eq_true] at hk
  obtain ⟨⟨⟨h1, h2⟩, h3⟩, h4⟩ := hk
  obtain ⟨w', hrun, hat, hR⟩ := hr w ha
  exact Mem.wpList_runs (want_spec hf h1) (by rw [exec_eq hf h2 h4]; exact hrun) (h _ hR _ w' (hf.put o.dst undef h3) hat)
/-- An operation that looks at no memory. -/
theorem l_pure (v : Value) (hk : okOp ops n E o = true) (hr : ∀ w, (execOp (ev E) o).run P w = .ok (.value v) w) (h : JL P w0 ops Q n rest (put E o.dst v) H) : JL P w0 ops Q n (o :: rest) E H :=
  l_run (R := fun v' H' => v' = v ∧ H' = H) hk (fun w ha => ⟨v, w, hr w, ⟨rfl, ha.os, ha.tape, ha.output⟩, rfl, ha.heap⟩) (by rintro _ _ ⟨rfl, rfl⟩; exact h)
/-- An operation that reads memory. -/
theorem l_read (v : Value) (hk : okOp ops n E o = true) (hr : ∀ w : World, w.heap = H → (execOp (ev E) o).run P w = .ok (.value v) w) (h : JL P w0 ops Q n rest (put E o.dst v) H) : JL P w0 ops Q n (o :: rest) E H :=
  l_run (R := fun v' H' => v' = v ∧ H' = H) hk (fun w ha => ⟨v, w, hr w ha.heap, ⟨rfl, ha.os, ha.tape, ha.output⟩, rfl, ha.heap⟩) (by rintro _ _ ⟨rfl, rfl⟩; exact h)
/-- Some temporaries are spelt otherwise. -/
theorem l_env (E' : Env) (hs : subB E E') {l : List Oper} (h : JL P w0 ops Q n l E' H) : JL P w0 ops Q n l E H := fun a w hf ha => h a w (hf.of_sub hs) ha

/-! ### Arithmetic -/
theorem bin_run {op : BinOp} {t u : TypeId} {x y : Operand} {v : Value} (ho : o.op = .binOp op t x y u) (vx vy : Value) (hx : ev E x = vx) (hy : ev E y = vy) (hg : ∀ w, (eqGuard op t x y vx vy).run P w = .ok () w) (hr : ∀ w, (binOp op t vx vy).run P w = .ok v w) (w : World) :
    (execOp (ev E) o).run P w = .ok (.value v) w := by
  unfold execOp
  simp only [ho, hx, hy, Sem.run_bind, hg, hr, Result.andThen_ok, Sem.run_pure]
theorem wrap64 {z : Int} (h : -9223372036854775808 ≤ z ∧ z ≤ 9223372036854775807) : IntKind.i64.wrap z = z := by rw [IntKind.wrap_i64]; omega
theorem eqg_int {op : BinOp} {t : TypeId} {x y : Operand} {k k' : IntKind} {a b : Int} (w : World) : (eqGuard op t x y (.int k a) (.int k' b)).run P w = .ok () w := by
  unfold eqGuard; split <;> rfl
theorem l_add {t u : TypeId} {x y : Operand} (ho : o.op = .binOp .add t x y u) (a b : Int) (hk : okOp ops n E o = true) (hx : ev E x = .int .i64 a) (hy : ev E y = .int .i64 b) (hb : -9223372036854775808 ≤ a + b ∧ a + b ≤ 9223372036854775807)
    (h : JL P w0 ops Q n rest (put E o.dst (.int .i64 (a + b))) H) : JL P w0 ops Q n (o :: rest) E H :=
  l_pure _ hk (bin_run ho _ _ hx hy eqg_int fun w => by simp [binOp, Op.intArith, wrap64 hb, Sem.run_pure]) h
theorem l_sub {t u : TypeId} {x y : Operand} (ho : o.op = .binOp .sub t x y u) (a b : Int) (hk : okOp ops n E o = true) (hx : ev E x = .int .i64 a) (hy : ev E y = .int .i64 b) (hb : -9223372036854775808 ≤ a - b ∧ a - b ≤ 9223372036854775807)
    (h : JL P w0 ops Q n rest (put E o.dst (.int .i64 (a - b))) H) : JL P w0 ops Q n (o :: rest) E H :=
  l_pure _ hk (bin_run ho _ _ hx hy eqg_int fun w => by simp [binOp, Op.intArith, wrap64 hb, Sem.run_pure]) h
theorem l_addW {t u : TypeId} {x y : Operand} (ho : o.op = .binOp .add t x y u) (a b : Int) (hk : okOp ops n E o = true) (hx : ev E x = .int .i64 a) (hy : ev E y = .int .i64 b)
    (h : JL P w0 ops Q n rest (put E o.dst (.int .i64 (IntKind.i64.wrap (a + b)))) H) : JL P w0 ops Q n (o :: rest) E H :=
  l_pure _ hk (bin_run ho _ _ hx hy eqg_int fun w => by simp [binOp, Op.intArith, Sem.run_pure]) h
theorem l_subW {t u : TypeId} {x y : Operand} (ho : o.op = .binOp .sub t x y u) (a b : Int) (hk : okOp ops n E o = true) (hx : ev E x = .int .i64 a) (hy : ev E y = .int .i64 b)
    (h : JL P w0 ops Q n rest (put E o.dst (.int .i64 (IntKind.i64.wrap (a - b)))) H) : JL P w0 ops Q n (o :: rest) E H :=
  l_pure _ hk (bin_run ho _ _ hx hy eqg_int fun w => by simp [binOp, Op.intArith, Sem.run_pure]) h
theorem l_mul {t u : TypeId} {x y : Operand} (ho : o.op = .binOp .mul t x y u) (a b : Int) (hk : okOp ops n E o = true) (hx : ev E x = .int .i64 a) (hy : ev E y = .int .i64 b) (hb : -9223372036854775808 ≤ a * b ∧ a * b ≤ 9223372036854775807)
    (h : JL P w0 ops Q n rest (put E o.dst (.int .i64 (a * b))) H) : JL P w0 ops Q n (o :: rest) E H :=
  l_pure _ hk (bin_run ho _ _ hx hy eqg_int fun w => by simp [binOp, Op.intArith, wrap64 hb, Sem.run_pure]) h
/-- The comparisons of integers. -/
def cmpI : BinOp → Int → Int → Option Bool
  | .eql, a, b => some (decide (a = b))
  | .neq, a, b => some (decide (a ≠ b))
  | .lss, a, b => some (decide (a < b))
  | .leq, a, b => some (decide (a ≤ b))
  | .gtr, a, b => some (decide (b < a))
  | .geq, a, b => some (decide (b ≤ a))
  | _, _, _ => none
theorem l_cmp {op : BinOp} {t u : TypeId} {x y : Operand} (ho : o.op = .binOp op t x y u) (k : IntKind) (a b : Int) (c : Bool) (hk : okOp ops n E o = true) (hx : ev E x = .int k a) (hy : ev E y = .int k b) (hc : cmpI op a b = some c)
    (h : JL P w0 ops Q n rest (put E o.dst (.bool c)) H) : JL P w0 ops Q n (o :: rest) E H := by
  refine l_pure _ hk (bin_run ho _ _ hx hy eqg_int fun w => ?_) h
  cases op <;> simp only [cmpI, Option.some.injEq] at hc <;> first | (cases hc; done) | skip
  all_goals
    subst hc
    simp only [binOp, ne_eq, not_true_eq_false, if_false, Op.intCmp]
    first
    | rfl
    | (simp [Sem.run_pure, bne, BEq.beq])
/-- The comparisons of strings. -/
def cmpS : BinOp → ByteArray → ByteArray → Option Bool
  | .eql, a, b => some (decide (a = b))
  | .neq, a, b => some (decide (a ≠ b))
  | _, _, _ => none
theorem toList_eq {a b : ByteArray} : (a.toList == b.toList) = decide (a = b) := by
  rw [Bool.eq_iff_iff]
  simp only [beq_iff_eq, decide_eq_true_eq]
  constructor
  · intro h
    rw [ByteArray.toList_eq, ByteArray.toList_eq] at h
    obtain ⟨a⟩ := a
    obtain ⟨b⟩ := b
    simp at h
    rw [h]
  · rintro rfl; rfl
theorem l_cmpS {op : BinOp} {t u : TypeId} {x y : Operand} (ho : o.op = .binOp op t x y u) (a b : ByteArray) (c : Bool) (hk : okOp ops n E o = true) (hx : ev E x = .string a) (hy : ev E y = .string b) (hc : cmpS op a b = some c)
    (h : JL P w0 ops Q n rest (put E o.dst (.bool c)) H) : JL P w0 ops Q n (o :: rest) E H := by
  refine l_pure _ hk (bin_run ho _ _ hx hy (fun w => by unfold eqGuard; split <;> rfl) fun w => ?_) h
  cases op <;> simp only [cmpS, Option.some.injEq] at hc <;> first | (cases hc; done) | skip
  all_goals
    subst hc
    simp [binOp, Op.stringOp, toList_eq, Sem.run_pure]
theorem eqg_agg {op : BinOp} {t : TypeId} {x y : Operand} {xs ys : Array Value} (hg : P.eqGuardType P.depth t = false) (w : World) : (eqGuard op t x y (.agg xs) (.agg ys)).run P w = .ok () w := by
  have h1 : (do let p ← program; let q ← program; if (!p.eqGuardType q.depth t) = true then pure () else do
      let b ← Op.eqGuardIn Op.maxDepth t (Value.agg xs) (Value.agg ys)
      if b = true then unsupported (Unsupported.noEntry "binop/eql: two nil values of an interface type with methods, in a part of a struct or an array") else pure () : Sem Unit).run P w = .ok () w := by
    simp [program, Sem.run, hg]
  cases op <;> first | rfl | exact h1
/-- '==' and '!=' of structs of plain cells, by a run that is known. -/
theorem l_eqS {op : BinOp} {t u : TypeId} {x y : Operand} (ho : o.op = .binOp op t x y u) (xs ys : Array Value) (c : Bool) (hk : okOp ops n E o = true) (hx : ev E x = .agg xs) (hy : ev E y = .agg ys) (hg : P.eqGuardType P.depth t = false) (hr : ∀ w, (binOp op t (.agg xs) (.agg ys)).run P w = .ok (.bool c) w)
    (h : JL P w0 ops Q n rest (put E o.dst (.bool c)) H) : JL P w0 ops Q n (o :: rest) E H :=
  l_pure _ hk (bin_run ho _ _ hx hy (eqg_agg hg) hr) h
/-- Both ways of a guard. -/
theorem l_fork {l : List Oper} (t : Nat) (c : Bool) (hh : has E t = true) (hv : look E t = .bool c) (h1 : c = true → JL P w0 ops Q n l ((t, .bool true) :: E) H) (h2 : c = false → JL P w0 ops Q n l ((t, .bool false) :: E) H) : JL P w0 ops Q n l E H := by
  have key : ∀ b, c = b → ∀ a, Fits n a E → Fits n a ((t, .bool b) :: E) := fun b hb a hf => hf.sub fun t' ht' => by
    rw [look_cons]
    rw [has_cons] at ht'
    by_cases e : t = t'
    · subst e; rw [if_pos rfl, hv, hb]; exact ⟨hh, rfl⟩
    · rw [if_neg e]; exact ⟨by simpa [e] using ht', rfl⟩
  cases hc : c with
  | true => exact fun a w hf ha => h1 hc a w (key _ hc a hf) ha
  | false => exact fun a w hf ha => h2 hc a w (key _ hc a hf) ha
/-- Both ways of a test. -/
theorem l_split {l : List Oper} (c : Bool) (E1 E2 : Env) (h1 : c = true → subB E E1 ∧ JL P w0 ops Q n l E1 H) (h2 : c = false → subB E E2 ∧ JL P w0 ops Q n l E2 H) : JL P w0 ops Q n l E H := by
  cases c with
  | true => exact l_env E1 (h1 rfl).1 (h1 rfl).2
  | false => exact l_env E2 (h2 rfl).1 (h2 rfl).2
end
end Go.J


set_option linter.unusedSimpArgs false
set_option linter.unusedVariables false
set_option linter.unusedSectionVars false
namespace Go.J
open Go.Hp
open Go.Mem (Ty KTy blk elemAt addr_add addr_add_add pre suf aget aset adel apos Stamps aggDesc spliceAt)

section
variable {P : Program} {w0 : World} {ops : Array Oper} {Q : Exit → Act → World → Prop} {n : Nat} {E : Env} {H : Heap} {o : Oper} {rest : List Oper}

theorem at_push {w : World} (ha : At w0 H w) (ob : Obj) : At w0 (H.push ob) (w.alloc ob) := ⟨by show w.heap.push ob = _; rw [ha.heap], ha.os, ha.tape, ha.output⟩
/-- A new block. -/
structure New (H H' : Heap) (g : Nat) (ob : Obj) : Prop where
  at_ : g = H.size
  is : H'[g]? = some ob
  chg : ∀ S, Chg S H H'
  size : H'.size = H.size + 1
theorem new_push (H : Heap) (ob : Obj) : New H (H.push ob) H.size ob := ⟨rfl, get_push H ob, fun S => Chg.push H ob S, by simp⟩
theorem l_new {v : Nat → Value} {ob : Obj} (hk : okOp ops n E o = true) (hr : ∀ w : World, w.heap = H → (execOp (ev E) o).run P w = .ok (.value (v w.heap.size)) (w.alloc ob))
    (h : ∀ g H', New H H' g ob → JL P w0 ops Q n rest (put E o.dst (v g)) H') : JL P w0 ops Q n (o :: rest) E H := by
  refine l_run (R := fun v' H' => v' = v H.size ∧ New H H' H.size ob) hk (fun w ha => ⟨_, _, hr w ha.heap, ?_, ?_, ?_⟩) ?_
  · exact ⟨rfl, ha.os, ha.tape, ha.output⟩
  · rw [ha.heap]
  · have := at_push ha ob
    rw [this.heap]; exact new_push H ob
  · rintro _ H' ⟨rfl, hn⟩; exact h _ _ hn
theorem l_box {t : TypeId} {x : Operand} (ho : o.op = .box t x) (u : Value) (cs : Array Value) (hk : okOp ops n E o = true) (hx : ev E x = u) (hc : u.cells = cs)
    (h : ∀ g H', New H H' g (.cells cs t (0, 0)) → JL P w0 ops Q n rest (put E o.dst (.pointer (some ⟨g, 0, none⟩))) H') : JL P w0 ops Q n (o :: rest) E H := by
  refine l_new (v := fun g => .pointer (some ⟨g, 0, none⟩)) hk (fun w _ => ?_) h
  unfold execOp
  simp only [ho, hx]
  exact Mem.run_v (by simp [Instr.box, newVar, newRow, hc])
theorem l_alloc {t : TypeId} (ho : o.op = .alloc t) (z : Value) (cs : Array Value) (hk : okOp ops n E o = true) (hz : ∀ w, (zeroValue t).run P w = .ok z w) (hc : z.cells = cs)
    (h : ∀ g H', New H H' g (.cells cs t (0, 0)) → JL P w0 ops Q n rest (put E o.dst (.pointer (some ⟨g, 0, none⟩))) H') : JL P w0 ops Q n (o :: rest) E H := by
  refine l_new (v := fun g => .pointer (some ⟨g, 0, none⟩)) hk (fun w _ => ?_) h
  unfold execOp
  simp only [ho]
  exact Mem.run_v (by simp [Instr.alloc, newVar, newRow, hz, hc])
theorem l_makeMap {t : TypeId} (ho : o.op = .makeMap t none) (hk : okOp ops n E o = true)
    (h : ∀ g H', New H H' g (.map #[] 0) → JL P w0 ops Q n rest (put E o.dst (.map (some g))) H') : JL P w0 ops Q n (o :: rest) E H := by
  refine l_new (v := fun g => .map (some g)) hk (fun w _ => ?_) h
  unfold execOp
  simp only [ho]
  exact Mem.run_v (by simp [Instr.makeMap])
/-- The cells of a slice that is written out. -/
def builtCells (P : Program) (t : TypeId) (len : Nat) (parts : List (Nat × Value)) : Option (TypeId × Array Value) :=
  match P.underlying t with
  | some (.slice e) => match P.info? e with
    | some i => match i.zero with
      | some z => if len * i.size > 2 ^ 24 then none else
        (Instr.fill (fun j => some (j * i.size, i.size)) ((Array.range (len * i.size)).map ((if len * i.size = 0 then #[] else z.cells)[· % (if len * i.size = 0 then #[] else z.cells).size]!)) parts).map fun c => (e, c)
      | none => none
    | none => none
  | _ => none
theorem l_buildSlice {t : TypeId} {len : Nat} {ps : Array (Nat × Operand)} (ho : o.op = .buildSlice t len ps) (pl : List (Nat × Value)) (e : TypeId) (cs : Array Value) (hk : okOp ops n E o = true) (hpl : (ps.toList.map fun p => (p.1, ev E p.2)) = pl) (hb : builtCells P t len pl = some (e, cs))
    (h : ∀ g H', New H H' g (.cells cs e (0, 0)) → JL P w0 ops Q n rest (put E o.dst (.slice (some ⟨g, 0, none⟩) len len)) H') : JL P w0 ops Q n (o :: rest) E H := by
  refine l_new (v := fun g => .slice (some ⟨g, 0, none⟩) len len) hk (fun w _ => ?_) h
  have hp : (ps.map fun (i, x) => (i, ev E x)) = pl.toArray := by rw [← hpl]; apply Array.ext'; simp
  unfold execOp
  simp only [ho, hp]
  refine Mem.run_v ?_
  unfold builtCells at hb
  cases hu : P.underlying t with
  | none => rw [hu] at hb; simp at hb
  | some d =>
    rw [hu] at hb
    cases d <;> simp only at hb <;> first | (simp at hb; done) | skip
    rename_i e'
    cases hi : P.info? e' with
    | none => rw [hi] at hb; simp at hb
    | some i =>
      rw [hi] at hb
      simp only at hb
      cases hz : i.zero with
      | none => rw [hz] at hb; simp at hb
      | some z =>
        rw [hz] at hb
        simp only at hb
        by_cases h24 : len * i.size > 2 ^ 24
        · rw [if_pos h24] at hb; simp at hb
        · rw [if_neg h24] at hb
          simp only [Option.map_eq_some_iff, Prod.mk.injEq] at hb
          obtain ⟨c, hf, rfl, rfl⟩ := hb
          by_cases h0 : len * i.size = 0
          · have hf' : Instr.fill (fun j => some (j * i.size, i.size)) #[] pl = some c := by
              simp only [h0, if_true, Array.range_zero', List.map_toArray, List.map_nil] at hf; exact hf
            simp only [Instr.buildSlice, Sem.run_bind, run_underlying hu, Result.andThen_ok, sizeOf, typeInfo, program, Sem.run, hi, Sem.run_pure, h24, if_false, h0, if_true, Array.range_zero', List.map_toArray, List.map_nil, hf']
            simp [newRow]
          · simp only [h0, if_false] at hf
            simp only [Instr.buildSlice, Sem.run_bind, run_underlying hu, Result.andThen_ok, sizeOf, typeInfo, program, Sem.run, hi, Sem.run_pure, h24, if_false, h0, hf, zeroValue, hz]
            simp [newRow]

/-! ### Loads -/
def scalarT (P : Program) (t : TypeId) : Bool := match P.underlying t with | some d => !aggDesc d | none => false
def aggT (P : Program) (t : TypeId) (m : Nat) : Bool := (match P.underlying t with | some d => aggDesc d | none => false) && (match P.info? t with | some i => Nat.beq i.size m | none => false)
theorem run_isAgg {t : TypeId} {d : TypeDesc} (h : P.underlying t = some d) (w : World) : (isAgg t).run P w = .ok (aggDesc d) w := by
  unfold isAgg
  rw [Sem.run_bind, run_underlying h, Result.andThen_ok]
  cases d <;> rfl
theorem run_loadC {t : TypeId} (ht : scalarT P t = true) {w : World} {p : Addr} {u : Value} (hc : w.cell? p = some u) : (loadVar t p).run P w = .ok u w := by
  unfold scalarT at ht
  cases hu : P.underlying t with
  | none => rw [hu] at ht; simp at ht
  | some d =>
    rw [hu] at ht
    unfold loadVar
    rw [Sem.run_bind, run_isAgg hu, Result.andThen_ok]
    have : aggDesc d = false := by simpa using ht
    rw [this]
    simp [load, Sem.run, hc]
theorem run_loadA {t : TypeId} {m : Nat} (ht : aggT P t m = true) {w : World} {g k : Nat} {arr : Array Value} {e : TypeId} {fr : Nat × Nat} (hB : w.heap[g]? = some (.cells arr e fr)) (cs : Array Value) (hl : cs.size = m) (hc : ∀ j u, cs[j]? = some u → arr[k + j]? = some u) :
    (loadVar t ⟨g, k, none⟩).run P w = .ok (.agg cs) w := by
  unfold aggT at ht
  rw [Bool.and_eq_true] at ht
  cases hu : P.underlying t with
  | none => rw [hu] at ht; simp at ht
  | some d =>
    rw [hu] at ht
    cases hi : P.info? t with
    | none => rw [hi] at ht; simp at ht
    | some i =>
      rw [hi] at ht
      have hs : i.size = m := Nat.eq_of_beq_eq_true ht.2
      have hd : aggDesc d = true := ht.1
      have hs' : (sizeOf t).run P w = .ok m w := by simp [sizeOf, typeInfo, hi, hs]
      have hload := run_loadCells_list (P := P) w ⟨g, k, none⟩ cs.toList (fun j u hj => by rw [addr_add, cell_of_row w g (k + j) arr e fr hB]; exact hc j u (by simpa using hj))
      unfold loadVar
      rw [Sem.run_bind, run_isAgg hu, Result.andThen_ok, hd]
      simp only [if_true, Sem.run_bind, hs', Result.andThen_ok]
      have hl' : cs.toList.length = m := by simpa using hl
      rw [hl'] at hload
      rw [hload]
      simp
theorem run_loadX {t : TypeId} {m : Nat} (ht : aggT P t m = true) {H : Heap} {w : World} (hw : w.heap = H) {g k : Nat} {arr : Array Value} {e : TypeId} {fr : Nat × Nat} (hB : H[g]? = some (.cells arr e fr)) (cs : Array Value) (hl : cs.size = m) (hc : arr.toList.extract k (k + m) = cs.toList) :
    (loadVar t ⟨g, k, none⟩).run P w = .ok (.agg cs) w := by
  refine run_loadA ht (by rw [hw]; exact hB) cs hl (fun j u hj => ?_)
  have h1 : cs.toList[j]? = some u := by simpa using hj
  rw [← hc, List.extract_eq_take_drop, List.getElem?_take] at h1
  split at h1
  · rw [List.getElem?_drop] at h1
    simpa using h1
  · cases h1
theorem l_loadC {t : TypeId} {x : Operand} (ho : o.op = .load t x) (g k : Nat) (arr : Array Value) (e : TypeId) (fr : Nat × Nat) (u : Value) (hk : okOp ops n E o = true) (hx : ev E x = .pointer (some ⟨g, k, none⟩)) (ht : scalarT P t = true) (hB : H[g]? = some (.cells arr e fr)) (hu : arr[k]? = some u)
    (h : JL P w0 ops Q n rest (put E o.dst u) H) : JL P w0 ops Q n (o :: rest) E H := by
  refine l_read u hk (fun w hw => ?_) h
  unfold execOp
  simp only [ho, hx]
  refine Mem.run_v ?_
  unfold Instr.loadAt Instr.sureAddr
  rw [Sem.run_bind, Sem.run_pure, Result.andThen_ok]
  exact run_loadC ht (by rw [cell_of_row w g k arr e fr (by rw [hw]; exact hB)]; exact hu)
def cellsAt (arr : Array Value) (k : Nat) (cs : List Value) : Bool := match cs with | [] => true | _ :: r => Nat.blt k arr.size && cellsAt arr (k + 1) r
theorem l_loadA {t : TypeId} {x : Operand} (ho : o.op = .load t x) (g k m : Nat) (arr : Array Value) (e : TypeId) (fr : Nat × Nat) (cs : Array Value) (hk : okOp ops n E o = true) (hx : ev E x = .pointer (some ⟨g, k, none⟩)) (ht : aggT P t m = true) (hB : H[g]? = some (.cells arr e fr)) (hl : cs.size = m) (hc : arr.toList.extract k (k + m) = cs.toList)
    (h : JL P w0 ops Q n rest (put E o.dst (.agg cs)) H) : JL P w0 ops Q n (o :: rest) E H := by
  refine l_read _ hk (fun w hw => ?_) h
  unfold execOp
  simp only [ho, hx]
  refine Mem.run_v ?_
  unfold Instr.loadAt Instr.sureAddr
  rw [Sem.run_bind, Sem.run_pure, Result.andThen_ok]
  refine run_loadA ht (by rw [hw]; exact hB) cs hl (fun j u hj => ?_)
  have h1 : cs.toList[j]? = some u := by simpa using hj
  rw [← hc, List.extract_eq_take_drop, List.getElem?_take] at h1
  split at h1
  · rw [List.getElem?_drop] at h1
    simpa using h1
  · cases h1
theorem l_loadE {α : Type} {T : Ty α} {t : TypeId} {x : Operand} (ho : o.op = .load t x) (hT : T.Ok P) (hid : T.id = t) (v : Value) (k : Nat) (y : α) (u : Value) (L : List α) (hk : okOp ops n E o = true) (hx : ev E x = .pointer (some (elemAt T.size v k))) (hv : Sl H T v L) (hy : L[k]? = some y) (hu : T.val y = u)
    (h : JL P w0 ops Q n rest (put E o.dst u) H) : JL P w0 ops Q n (o :: rest) E H := by
  subst hid hu
  refine l_read _ hk (fun w hw => ?_) h
  subst hw
  unfold execOp
  simp only [ho, hx]
  exact Mem.run_v (Mem.run_loadElem hv.mem hT hy)
theorem l_loadF {α : Type} {T : Ty α} {t : TypeId} {x : Operand} (ho : o.op = .load t x) (hT : T.Ok P) (v : Value) (k j : Nat) (y : α) (u : Value) (L : List α) (hk : okOp ops n E o = true) (hx : ev E x = .pointer (some ((elemAt T.size v k).add j))) (ht : scalarT P t = true) (hv : Sl H T v L) (hy : L[k]? = some y) (hu : (T.enc y)[j]? = some u)
    (h : JL P w0 ops Q n rest (put E o.dst u) H) : JL P w0 ops Q n (o :: rest) E H := by
  refine l_read u hk (fun w hw => ?_) h
  subst hw
  unfold execOp
  simp only [ho, hx]
  refine Mem.run_v ?_
  unfold Instr.loadAt Instr.sureAddr
  rw [Sem.run_bind, Sem.run_pure, Result.andThen_ok]
  exact run_loadC ht (hv.cell hT hy hu)

/-! ### Stores -/
theorem setRow_heap' (w : World) (g : Nat) (cs cur : Array Value) (t : TypeId) (fr : Nat × Nat) (h : w.heap[g]? = some (.cells cur t fr)) : (w.setRow g cs).heap[g]? = some (.cells cs t fr) := setRow_heap w g cur cs t fr h
theorem run_storeR {t : TypeId} {i : TypeInfo} (hi : P.info? t = some i) {w : World} {g k : Nat} {arr : Array Value} {e : TypeId} (hB : w.heap[g]? = some (.cells arr e (0, 0))) (u : Value) (hs : u.cells.size = i.size) (hfit : k + u.cells.size ≤ arr.size) (h1 : ∀ c ∈ u.cells.toList, c.oneCell' = true) :
    (storeVar t ⟨g, k, none⟩ u).run P w = .ok () (w.setRow g (spliceAt arr.toList k u.cells.toList).toArray) := by
  have hst := run_storeCells_at P g k e u.cells.toList 0 arr w hB (by simpa using hfit) h1
  unfold storeVar
  have : (sizeOf t).run P w = .ok i.size w := by simp [sizeOf, typeInfo, hi]
  rw [Sem.run_bind, this, Result.andThen_ok]
  simp only [hs, ne_eq, not_true_eq_false, if_false]
  simpa [spliceAt] using hst
def sizeT (P : Program) (t : TypeId) (m : Nat) : Bool := match P.info? t with | some i => Nat.beq i.size m | none => false
/-- One block has turned. -/
structure Put (H H' : Heap) (g : Nat) (ob : Obj) : Prop where
  is : H'[g]? = some ob
  chg : Chg (fun k => k = g) H H'
  size : H'.size = H.size
theorem l_store {t : TypeId} {x y : Operand} (ho : o.op = .store t x y) (g k m : Nat) (arr arr' : Array Value) (e : TypeId) (u : Value) (hk : okOp ops n E o = true) (hx : ev E x = .pointer (some ⟨g, k, none⟩)) (hy : ev E y = u) (hs : sizeT P t m = true) (hB : H[g]? = some (.cells arr e (0, 0))) (hm : u.cells.size = m) (hfit : Nat.ble (k + m) arr.size = true) (h1 : (u.cells.toList.all fun c => c.oneCell') = true) (ha' : (spliceAt arr.toList k u.cells.toList) = arr'.toList)
    (h : ∀ H', Put H H' g (.cells arr' e (0, 0)) → JL P w0 ops Q n rest (put E o.dst undef) H') : JL P w0 ops Q n (o :: rest) E H := by
  refine l_runs (R := fun H' => Put H H' g (.cells arr' e (0, 0))) hk (fun w ha => ?_) h
  unfold sizeT at hs
  cases hi : P.info? t with
  | none => rw [hi] at hs; simp at hs
  | some i =>
    rw [hi] at hs
    have hsz : i.size = m := Nat.eq_of_beq_eq_true hs
    have hB' : w.heap[g]? = some (.cells arr e (0, 0)) := by rw [ha.heap]; exact hB
    have hrun := run_storeR (P := P) hi hB' u (by omega) (k := k) (by rw [hm]; exact Nat.le_of_ble_eq_true hfit) (fun c hc => List.all_eq_true.1 h1 c hc)
    refine ⟨w.setRow g (spliceAt arr.toList k u.cells.toList).toArray, ?_, ⟨rfl, ha.os, ha.tape, ha.output⟩, ?_, ?_, ?_⟩
    · unfold execOp
      simp only [ho, hx, hy]
      exact Mem.run_u (by unfold Instr.storeAt Instr.sureAddr; rw [Sem.run_bind, Sem.run_pure, Result.andThen_ok]; exact hrun)
    · rw [setRow_heap' w g _ arr e (0, 0) hB', ha']
    · refine ⟨by rw [← ha.heap]; simp, fun j hj hne => ?_⟩
      rw [← ha.heap]; exact setRow_other w g j _ hne
    · rw [← ha.heap]; simp
theorem l_storeE {α : Type} {T : Ty α} {t : TypeId} {x y : Operand} (ho : o.op = .store t x y) (hT : T.Ok P) (v : Value) (k j m : Nat) (z z' : α) (u : Value) (L : List α) (hk : okOp ops n E o = true) (hx : ev E x = .pointer (some ((elemAt T.size v k).add j))) (hy : ev E y = u) (hs : sizeT P t m = true) (hv : Ow H T v L) (hz : L[k]? = some z) (hm : u.cells.size = m) (hfit : Nat.ble (j + m) T.size = true) (h1 : (u.cells.toList.all fun c => c.oneCell') = true) (he : T.enc z' = spliceAt (T.enc z) j u.cells.toList)
    (h : ∀ H', Ow H' T v (L.set k z') → Chg (fun b => blk v = some b) H H' → JL P w0 ops Q n rest (put E o.dst undef) H') : JL P w0 ops Q n (o :: rest) E H := by
  refine l_runs (R := fun H' => Ow H' T v (L.set k z') ∧ Chg (fun b => blk v = some b) H H') hk (fun w ha => ?_) (fun H' ⟨a1, a2⟩ => h H' a1 a2)
  unfold sizeT at hs
  cases hi : P.info? t with
  | none => rw [hi] at hs; simp at hs
  | some i =>
    rw [hi] at hs
    have hsz : i.size = m := Nat.eq_of_beq_eq_true hs
    have hv' : Mem.Ow w T v L := by have := hv; rw [← ha.heap] at this; exact this
    obtain ⟨w', hr, h2, h3⟩ := Mem.run_storePart (P := P) hv' hT hz (j := j) (by have := Nat.le_of_ble_eq_true hfit; simp; omega) (fun c hc => List.all_eq_true.1 h1 c hc) he
    refine ⟨w', ?_, ⟨rfl, h3.os.trans ha.os, h3.tape.trans ha.tape, h3.output.trans ha.output⟩, h2, ?_⟩
    · unfold execOp
      simp only [ho, hx, hy]
      refine Mem.run_u ?_
      unfold Instr.storeAt Instr.sureAddr storeVar
      have : (sizeOf t).run P w = .ok i.size w := by simp [sizeOf, typeInfo, hi]
      rw [Sem.run_bind, Sem.run_pure, Result.andThen_ok, Sem.run_bind, this, Result.andThen_ok]
      simp only [show u.cells.size = i.size by omega, ne_eq, not_true_eq_false, if_false]
      exact hr
    · rw [← ha.heap]; exact Chg.of_mem h3

/-! ### Slices -/
section
variable {α : Type} {T : Ty α} {v : Value} {L M : List α}
theorem l_len {x : Operand} {t : TypeId} (ho : o.op = .call { callee := .builtin .len, args := #[x], argTypes := #[t] }) (hT : T.Ok P) (ht : P.underlying t = some (.slice T.id)) (hk : okOp ops n E o = true) (hx : ev E x = v) (hv : Sl H T v L)
    (h : JL P w0 ops Q n rest (put E o.dst (.int .i64 L.length)) H) : JL P w0 ops Q n (o :: rest) E H := by
  refine l_read _ hk (fun w hw => ?_) h
  subst hw
  unfold execOp
  simp only [ho, resolve, invoke, builtin, Sem.run_bind, Sem.run_pure, Result.andThen_ok, List.map_toArray, List.map_cons, List.map_nil, hx, Mem.run_len hv.mem ht]
theorem l_index {x i : Operand} {t : TypeId} (ho : o.op = .indexAddr t x i) (hT : T.Ok P) (ht : P.underlying t = some (.slice T.id)) (q : IntKind) (k : Int) (hk : okOp ops n E o = true) (hx : ev E x = v) (hi : ev E i = .int q k) (hv : Sl H T v L) (h0 : 0 ≤ k) (hl : k < L.length) (m : Nat) (hm : m = k.toNat)
    (h : JL P w0 ops Q n rest (put E o.dst (.pointer (some (elemAt T.size v m)))) H) : JL P w0 ops Q n (o :: rest) E H := by
  subst hm
  refine l_read _ hk (fun w hw => ?_) h
  subst hw
  have e : k = (k.toNat : Int) := by omega
  unfold execOp
  simp only [ho, hx, hi]
  rw [e]
  exact Mem.run_v (Mem.run_index hv.mem hT ht (by omega) q)
theorem l_pre {x i : Operand} {t : TypeId} (ho : o.op = .slice t x none (some i) none) (hT : T.Ok P) (ht : P.underlying t = some (.slice T.id)) (q : IntKind) (k : Int) (hk : okOp ops n E o = true) (hx : ev E x = v) (hi : ev E i = .int q k) (hv : Sl H T v L) (h0 : 0 ≤ k) (hl : k ≤ L.length) (m : Nat) (hm : m = k.toNat)
    (h : JL P w0 ops Q n rest (put E o.dst (pre v m)) H) : JL P w0 ops Q n (o :: rest) E H := by
  subst hm
  refine l_read _ hk (fun w hw => ?_) h
  subst hw
  unfold execOp
  simp only [ho, hx, hi, Option.map_none, Option.map_some]
  exact Mem.run_v (Mem.run_pre hv.mem ht hT q k h0 hl)
theorem l_suf {x i : Operand} {t : TypeId} (ho : o.op = .slice t x (some i) none none) (hT : T.Ok P) (ht : P.underlying t = some (.slice T.id)) (q : IntKind) (k : Int) (hk : okOp ops n E o = true) (hx : ev E x = v) (hi : ev E i = .int q k) (hv : Sl H T v L) (h0 : 0 ≤ k) (hl : k ≤ L.length) (m : Nat) (hm : m = k.toNat)
    (h : JL P w0 ops Q n rest (put E o.dst (suf T.size v m)) H) : JL P w0 ops Q n (o :: rest) E H := by
  subst hm
  refine l_read _ hk (fun w hw => ?_) h
  subst hw
  unfold execOp
  simp only [ho, hx, hi, Option.map_none, Option.map_some]
  exact Mem.run_v (Mem.run_suf hv.mem ht hT q k h0 hl)
/-- Behind an append. -/
structure Apd (H H' : Heap) (T : Ty α) (v v' : Value) (L : List α) : Prop where
  ow : Ow H' T v' L
  chg : Chg (fun k => blk v = some k) H H'
  moved : Moved H v v'
theorem l_append {s x : Operand} {t : TypeId} (ho : o.op = .call { callee := .builtin .append, args := #[s, x], argTypes := #[t, t] }) (hT : T.Ok P) (ht : P.underlying t = some (.slice T.id)) (v2 : Value) (hk : okOp ops n E o = true) (hs : ev E s = v) (hx : ev E x = v2) (hv : Ow H T v L) (h2 : Sl H T v2 M) (hb : (L.length + M.length) * T.bytes ≤ 140737488355328) (h63 : L.length + M.length ≤ 9223372036854775807)
    (h : ∀ v' H', Apd H H' T v v' (L ++ M) → JL P w0 ops Q n rest (put E o.dst v') H') : JL P w0 ops Q n (o :: rest) E H := by
  refine l_run (R := fun v' H' => Apd H H' T v v' (L ++ M)) hk (fun w ha => ?_) h
  have hv' : Mem.Ow w T v L := by have := hv; rw [← ha.heap] at this; exact this
  have h2' : Mem.Sl w T v2 M := by have := h2; rw [← ha.heap] at this; exact this
  obtain ⟨v', w', hr, q1, q2, q3, _⟩ := Mem.run_append (ty := o.type) hT ht hv' h2' hb h63
  refine ⟨v', w', ?_, ⟨rfl, q2.os.trans ha.os, q2.tape.trans ha.tape, q2.output.trans ha.output⟩, q1, ?_, ?_⟩
  · unfold execOp
    simp only [ho, resolve, invoke, builtin, Sem.run_bind, Sem.run_pure, Result.andThen_ok, List.map_toArray, List.map_cons, List.map_nil, hs, hx, hr]
  · rw [← ha.heap]; exact Chg.of_mem q2
  · intro g hg; rw [← ha.heap]; exact q3 g hg
theorem l_make {t : TypeId} {x y : Operand} (ho : o.op = .makeSlice t x y) (hT : T.Ok P) (ht : P.underlying t = some (.slice T.id)) (q q' : IntKind) (k : Int) (hk : okOp ops n E o = true) (hx : ev E x = .int q k) (hy : ev E y = .int q' k) (h0 : 0 ≤ k) (hb : T.bytes * k.toNat ≤ 281474976710656) (h63 : k ≤ 9223372036854775807)
    (h : ∀ g H' v', g = H.size → Ow H' T v' (List.replicate k.toNat T.zero) → (∀ S, Chg S H H') → blk v' = some g → H'.size = H.size + 1 → JL P w0 ops Q n rest (put E o.dst v') H') : JL P w0 ops Q n (o :: rest) E H := by
  refine l_run (R := fun v' H' => Ow H' T v' (List.replicate k.toNat T.zero) ∧ (∀ S, Chg S H H') ∧ blk v' = some H.size ∧ H'.size = H.size + 1) hk (fun w ha => ?_) (fun v' H' ⟨a1, a2, a3, a4⟩ => h _ H' v' rfl a1 a2 a3 a4)
  obtain ⟨i, hi, hsz, hby, hz⟩ := hT.info
  have e : k = (k.toNat : Int) := by omega
  have hb2 : ((T.bytes * k.toNat : Nat) : Int) ≤ 281474976710656 := by omega
  rw [Int.natCast_mul, ← hby] at hb2
  have hr := run_make (P := P) w t T.id i _ ht hi hz q q' k.toNat k.toNat (by omega) (Int.le_refl _) hb2 (by omega)
  rw [hsz] at hr
  simp only [Int.toNat_natCast] at hr
  refine ⟨.slice (some ⟨w.heap.size, 0, none⟩) k.toNat k.toNat, w.alloc (.cells (madeCells (T.val T.zero).cells (k.toNat * T.size)) T.id), ?_, ⟨rfl, ha.os, ha.tape, ha.output⟩, ?_, ?_, ?_, ?_⟩
  · unfold execOp
    simp only [ho, hx, hy]
    rw [e]
    exact Mem.run_v hr
  · refine .inr ⟨w.heap.size, k.toNat, _, by simp, heap_alloc_new w _, by simp, by unfold maxLen; omega, ?_, ?_⟩
    · simp [size_madeCells]
    · rw [Mem.madeCells_flat hT, List.length_replicate]
      have := hT.flat_len (List.replicate k.toNat T.zero)
      rw [List.length_replicate] at this
      rw [← this, List.take_length]
  · intro S; rw [← ha.heap]; exact Chg.push w.heap _ S
  · rw [← ha.heap]; rfl
  · rw [← ha.heap]; simp
end

/-! ### Maps -/
section
variable {κ β : Type} [DecidableEq κ] {K : KTy κ} {V : β → Value} {b : Nat} {m : List (κ × β)}
theorem l_lookup {x y : Operand} {t e : TypeId} (ho : o.op = .lookup t x y false) (hK : KTy.Ok (β := β) K P) (ht : P.underlying t = some (.map K.id e)) (z : Value) (hz : ∀ w, (zeroValue e).run P w = .ok z w) (k : κ) (hk : okOp ops n E o = true) (hx : ev E x = .map (some b)) (hy : ev E y = K.val k) (hm : Mp H K V b m)
    (h : JL P w0 ops Q n rest (put E o.dst (((aget m k).map V).getD z)) H) : JL P w0 ops Q n (o :: rest) E H := by
  refine l_read _ hk (fun w hw => ?_) h
  subst hw
  unfold execOp
  simp only [ho, hx, hy]
  exact Mem.run_v (Mem.run_lookup hm.mem hK ht k hz false)
theorem l_lookupOk {x y : Operand} {t e : TypeId} (ho : o.op = .lookup t x y true) (hK : KTy.Ok (β := β) K P) (ht : P.underlying t = some (.map K.id e)) (z : Value) (hz : ∀ w, (zeroValue e).run P w = .ok z w) (k : κ) (hk : okOp ops n E o = true) (hx : ev E x = .map (some b)) (hy : ev E y = K.val k) (hm : Mp H K V b m)
    (h : JL P w0 ops Q n rest (put E o.dst (.tuple #[((aget m k).map V).getD z, .bool (aget m k).isSome])) H) : JL P w0 ops Q n (o :: rest) E H := by
  refine l_read _ hk (fun w hw => ?_) h
  subst hw
  unfold execOp
  simp only [ho, hx, hy]
  exact Mem.run_v (Mem.run_lookup hm.mem hK ht k hz true)
/-- Behind a store into a map. -/
structure Upd (H H' : Heap) (K : KTy κ) (V : β → Value) (b : Nat) (m : List (κ × β)) : Prop where
  mp : Mp H' K V b m
  chg : Chg (fun j => j = b) H H'
theorem l_update {x y z : Operand} {t e : TypeId} (ho : o.op = .mapUpdate t x y z) (hK : KTy.Ok (β := β) K P) (ht : P.underlying t = some (.map K.id e)) (k : κ) (u : β) (hk : okOp ops n E o = true) (hx : ev E x = .map (some b)) (hy : ev E y = K.val k) (hu : ev E z = V u) (hm : Mp H K V b m)
    (h : ∀ H', Upd H H' K V b (aset m k u) → JL P w0 ops Q n rest (put E o.dst undef) H') : JL P w0 ops Q n (o :: rest) E H := by
  refine l_runs (R := fun H' => Upd H H' K V b (aset m k u)) hk (fun w ha => ?_) h
  have hm' : Mem.Mp w K V b m := by have := hm; rw [← ha.heap] at this; exact this
  obtain ⟨w', hr, h1, h2⟩ := Mem.run_update hm' hK ht k u
  refine ⟨w', ?_, ⟨rfl, h2.os.trans ha.os, h2.tape.trans ha.tape, h2.output.trans ha.output⟩, h1, ?_⟩
  · unfold execOp
    simp only [ho, hx, hy, hu]
    exact Mem.run_u hr
  · rw [← ha.heap]; exact Chg.of_mem h2
theorem l_insert {x y z : Operand} {t e : TypeId} (ho : o.op = .insert t x y z) (hK : KTy.Ok (β := β) K P) (ht : P.underlying t = some (.map K.id e)) (k : κ) (u : β) (hk : okOp ops n E o = true) (hx : ev E x = .map (some b)) (hy : ev E y = K.val k) (hu : ev E z = V u) (hm : Mp H K V b m)
    (h : ∀ H', Upd H H' K V b (aset m k u) → JL P w0 ops Q n rest (put E o.dst undef) H') : JL P w0 ops Q n (o :: rest) E H := by
  refine l_runs (R := fun H' => Upd H H' K V b (aset m k u)) hk (fun w ha => ?_) h
  have hm' : Mem.Mp w K V b m := by have := hm; rw [← ha.heap] at this; exact this
  obtain ⟨w', hr, h1, h2⟩ := Mem.run_update hm' hK ht k u
  refine ⟨w', ?_, ⟨rfl, h2.os.trans ha.os, h2.tape.trans ha.tape, h2.output.trans ha.output⟩, h1, ?_⟩
  · unfold execOp
    simp only [ho, hx, hy, hu]
    exact Mem.run_u hr
  · rw [← ha.heap]; exact Chg.of_mem h2
end

/-! ### Calls -/
def isFn (P : Program) (f : FuncId) : Bool := match P.funcs[f]? with | some fn => !(fn.name == "runtime.NumGoroutine") && fn.body.isSome | none => false
theorem run_callFunc {f : FuncId} (hf : isFn P f = true) (args : Array Value) (w : World) : (callFunc f args).run P w = .ok (.enter f args) w := by
  unfold isFn at hf
  cases h : P.funcs[f]? with
  | none => rw [h] at hf; simp at hf
  | some fn =>
    rw [h] at hf
    simp only [Bool.and_eq_true, Bool.not_eq_true'] at hf
    obtain ⟨h1, h2⟩ := hf
    cases hb : fn.body with
    | none => rw [hb] at h2; simp at h2
    | some c =>
      simp only [callFunc, program, Sem.run_bind, Sem.run, Result.andThen_ok, h, h1, hb]
      rfl
theorem l_enter {f : FuncId} {vals : Array Value} {R : Value → Heap → Prop} (hk : okOp ops n E o = true) (hrun : ∀ w, (execOp (ev E) o).run P w = .ok (.enter f vals) w) (hc : HC P f vals H R)
    (h : ∀ v H', R v H' → JL P w0 ops Q n rest (put E o.dst v) H') : JL P w0 ops Q n (o :: rest) E H := by
  intro a w hf ha
  unfold okOp at hk
  simp only [Bool.and_eq_true] at hk
  obtain ⟨⟨⟨h1, h2⟩, h3⟩, h4⟩ := hk
  unfold wpList
  rw [if_pos (want_spec hf h1)]
  refine .inl ?_
  unfold Oper.wp
  rw [exec_eq hf h2 h4, hrun w]
  simp only [Oper.upon]
  refine (hc w ha.heap).mono fun e w' ⟨v, he, hat, hR⟩ => ?_
  subst he
  exact h v _ hR _ w' (hf.put o.dst v h3) (ha.trans hat)
/-- A call of a function. -/
theorem l_call {f : FuncId} {xs : Array Operand} {ts : Array TypeId} (ho : o.op = .call { callee := .value (.func f), args := xs, argTypes := ts }) (vals : List Value) {R : Value → Heap → Prop} (hk : okOp ops n E o = true) (hx : (xs.toList.map (ev E)) = vals) (hfn : isFn P f = true) (hc : HC P f vals.toArray H R)
    (h : ∀ v H', R v H' → JL P w0 ops Q n rest (put E o.dst v) H') : JL P w0 ops Q n (o :: rest) E H := by
  have hx' : xs.map (ev E) = vals.toArray := by rw [← hx]; apply Array.ext'; simp
  refine l_enter hk (fun w => ?_) hc h
  unfold execOp
  simp only [ho, resolve, Deferred.ofValue, ev, Sem.run_bind, Sem.run_pure, Result.andThen_ok, invoke, hx', Array.empty_append, Array.append_empty]
  exact run_callFunc hfn _ w
end
end Go.J


set_option linter.unusedSimpArgs false
set_option linter.unusedVariables false
namespace Go.J
open Go.Mem (aggDesc)

/-- 0: int, 1: string, 2: bool. -/
def fitsK : Nat → Value → Bool
  | 0, .int .i64 _ => true
  | 1, .string _ => true
  | 2, .bool _ => true
  | _, _ => false
def fitsL : List Nat → List Value → Bool
  | [], [] => true
  | k :: ks, v :: vs => fitsK k v && fitsL ks vs
  | _, _ => false
def cellEq : Value → Value → Bool
  | .int _ a, .int _ b => decide (a = b)
  | .string a, .string b => decide (a = b)
  | .bool a, .bool b => decide (a = b)
  | _, _ => false
def cellsEq : List Value → List Value → Bool
  | [], [] => true
  | x :: xs, y :: ys => cellEq x y && cellsEq xs ys
  | _, _ => false
mutual
def kindsOf (P : Program) : Nat → TypeId → Option (List Nat)
  | 0, _ => none
  | d + 1, t =>
    match P.underlying t with
    | some (.int .i64) => some [0]
    | some .string => some [1]
    | some .bool => some [2]
    | some (.struct fs) => if P.stoodInHeld t then none else
      match kindsOfFields P d fs.toList 0 with
      | some ks => (match P.info? t with | some i => if Nat.beq i.size ks.length then some ks else none | none => none)
      | none => none
    | _ => none
def kindsOfFields (P : Program) : Nat → List Field → Nat → Option (List Nat)
  | _, [], _ => some []
  | 0, _ :: _, _ => none
  | d + 1, f :: fs, off =>
    if f.name ≠ "_" ∧ f.offset = off then
      match kindsOf P d f.type with
      | some ks => (match kindsOfFields P d fs (off + ks.length) with | some ks' => some (ks ++ ks') | none => none)
      | none => none
    else none
end
theorem fitsL_len : ∀ {ks : List Nat} {vs : List Value}, fitsL ks vs = true → vs.length = ks.length
  | [], [], _ => rfl
  | k :: ks, v :: vs, h => by simp only [fitsL, Bool.and_eq_true] at h; simp [fitsL_len h.2]
  | [], _ :: _, h => by simp [fitsL] at h
  | _ :: _, [], h => by simp [fitsL] at h
theorem fitsL_append : ∀ {ks ks' : List Nat} {vs : List Value}, fitsL (ks ++ ks') vs = true → fitsL ks (vs.take ks.length) = true ∧ fitsL ks' (vs.drop ks.length) = true
  | [], ks', vs, h => by simpa [fitsL] using h
  | k :: ks, ks', [], h => by simp [fitsL] at h
  | k :: ks, ks', v :: vs, h => by
    simp only [List.cons_append, fitsL, Bool.and_eq_true] at h
    have := fitsL_append h.2
    simp [fitsL, h.1, this.1, this.2]
theorem cellsEq_append : ∀ (n : Nat) (xs ys : List Value), xs.length = ys.length → cellsEq xs ys = (cellsEq (xs.take n) (ys.take n) && cellsEq (xs.drop n) (ys.drop n))
  | 0, xs, ys, _ => by simp [cellsEq]
  | n + 1, [], [], _ => by simp [cellsEq]
  | n + 1, x :: xs, y :: ys, h => by
    simp only [List.take_succ_cons, List.drop_succ_cons, cellsEq]
    rw [cellsEq_append n xs ys (by simpa using h), Bool.and_assoc]
  | n + 1, [], y :: ys, h => by simp at h
  | n + 1, x :: xs, [], h => by simp at h
section
variable {P : Program}
/-- The value of these cells at a type. -/
def ofCells (P : Program) (t : TypeId) (vs : List Value) : Value := match P.underlying t with | some (.struct _) => .agg vs.toArray | _ => vs.headD undef
theorem part_cells {t : TypeId} {d : Nat} {ks : List Nat} (hk : kindsOf P d t = some ks) (xs : Array Value) (off : Nat) (hfit : fitsL ks ((xs.toList.drop off).take ks.length) = true) (w : World) :
    (part t xs off).run P w = .ok (ofCells P t ((xs.toList.drop off).take ks.length)) w := by
  cases d with
  | zero => simp [kindsOf] at hk
  | succ d =>
    unfold kindsOf at hk
    cases hu : P.underlying t with
    | none => rw [hu] at hk; simp at hk
    | some u =>
      rw [hu] at hk
      have hlen := fitsL_len hfit
      have scalar : aggDesc u = false → ks.length = 1 → (part t xs off).run P w = .ok (ofCells P t ((xs.toList.drop off).take ks.length)) w := by
        intro ha h1
        unfold part
        rw [Sem.run_bind, run_isAgg hu, Result.andThen_ok, ha]
        rw [h1] at hlen ⊢
        obtain ⟨v, hv⟩ := List.length_eq_one_iff.1 hlen
        have hx : xs[off]? = some v := by
          have := congrArg (·[0]?) hv
          simpa [List.getElem?_take, List.getElem?_drop] using this
        rw [hv]
        simp only [Bool.false_eq_true, if_false, hx]
        unfold ofCells
        rw [hu]
        cases u <;> simp [aggDesc] at ha <;> rfl
      cases u <;> first | (simp at hk; done) | skip
      case int q => cases q <;> first | (simp at hk; done) | (simp only [Option.some.injEq] at hk; exact scalar rfl (by rw [← hk]; rfl))
      case bool => simp only [Option.some.injEq] at hk; exact scalar rfl (by rw [← hk]; rfl)
      case string => simp only [Option.some.injEq] at hk; exact scalar rfl (by rw [← hk]; rfl)
      case struct fs =>
        simp only at hk
        split at hk
        · simp at hk
        · cases hf : kindsOfFields P d fs.toList 0 with
          | none => rw [hf] at hk; simp at hk
          | some ks' =>
            rw [hf] at hk
            cases hi : P.info? t with
            | none => rw [hi] at hk; simp at hk
            | some i =>
              rw [hi] at hk
              simp only at hk
              split at hk
              · rename_i hs
                simp only [Option.some.injEq] at hk
                subst hk
                have hs := Nat.eq_of_beq_eq_true hs
                unfold part
                rw [Sem.run_bind, run_isAgg hu, Result.andThen_ok]
                simp only [aggDesc, if_true, Sem.run_bind, sizeOf, typeInfo, program, Sem.run, Result.andThen_ok, hi, Sem.run_pure, hs]
                unfold ofCells
                rw [hu]
                congr 2
                apply Array.ext'
                simp [List.take_drop, Array.toList_extract, List.extract_eq_take_drop]
              · simp at hk
mutual
theorem equalIn_plain : ∀ (d : Nat) (t : TypeId) (ks : List Nat), kindsOf P d t = some ks → ∀ (xs ys : List Value), fitsL ks xs = true → fitsL ks ys = true → ∀ (D : Nat) (w : World), d ≤ D →
    (Op.equalIn D t (ofCells P t xs) (ofCells P t ys)).run P w = .ok (cellsEq xs ys) w
  | 0, _, _, hk, _, _, _, _, _, _, _ => by simp [kindsOf] at hk
  | d + 1, t, ks, hk, xs, ys, hx, hy, D, w, hD => by
    obtain ⟨D, rfl⟩ : ∃ D', D = D' + 1 := ⟨D - 1, by omega⟩
    unfold kindsOf at hk
    cases hu : P.underlying t with
    | none => rw [hu] at hk; simp at hk
    | some u =>
      rw [hu] at hk
      cases u <;> first | (simp at hk; done) | skip
      case int q =>
        cases q <;> first | (simp at hk; done) | skip
        simp only [Option.some.injEq] at hk
        subst hk
        obtain ⟨x, rfl⟩ := List.length_eq_one_iff.1 (fitsL_len hx)
        obtain ⟨y, rfl⟩ := List.length_eq_one_iff.1 (fitsL_len hy)
        · cases x <;> simp [fitsL, fitsK] at hx
          cases y <;> simp [fitsL, fitsK] at hy
          rename_i k a k' b
          cases k <;> simp [fitsK] at hx
          cases k' <;> simp [fitsK] at hy
          simp only [ofCells, hu, List.headD_cons]
          rw [run_equalIn_int w D t _ _ a b hu]
          simp [cellsEq, cellEq, Bool.beq_eq_decide_eq]
      case bool =>
        simp only [Option.some.injEq] at hk
        subst hk
        obtain ⟨x, rfl⟩ := List.length_eq_one_iff.1 (fitsL_len hx)
        obtain ⟨y, rfl⟩ := List.length_eq_one_iff.1 (fitsL_len hy)
        · cases x <;> simp [fitsL, fitsK] at hx
          cases y <;> simp [fitsL, fitsK] at hy
          rename_i a b
          simp only [ofCells, hu, List.headD_cons]
          rw [run_equalIn_bool' w D t a b hu]
          simp [cellsEq, cellEq, Bool.beq_eq_decide_eq]
      case string =>
        simp only [Option.some.injEq] at hk
        subst hk
        obtain ⟨x, rfl⟩ := List.length_eq_one_iff.1 (fitsL_len hx)
        obtain ⟨y, rfl⟩ := List.length_eq_one_iff.1 (fitsL_len hy)
        · cases x <;> simp [fitsL, fitsK] at hx
          cases y <;> simp [fitsL, fitsK] at hy
          rename_i a b
          simp only [ofCells, hu, List.headD_cons]
          rw [run_equalIn_string w D t a b hu, toList_eq]
          simp [cellsEq, cellEq]
      case struct fs =>
        simp only at hk
        split at hk
        · simp at hk
        · rename_i hst
          cases hf : kindsOfFields P d fs.toList 0 with
          | none => rw [hf] at hk; simp at hk
          | some ks' =>
            rw [hf] at hk
            cases hi : P.info? t with
            | none => rw [hi] at hk; simp at hk
            | some i =>
              rw [hi] at hk
              simp only at hk
              split at hk
              · simp only [Option.some.injEq] at hk
                subst hk
                have hfo : P.fieldsOf t = fs := by simp [Program.fieldsOf, hu]
                simp only [ofCells, hu]
                rw [run_equalIn_struct w D t _ _ (by rw [hfo]; exact hu) (by simpa using hst), hfo]
                have := eqFields_plain d fs.toList 0 ks' hf xs.toArray ys.toArray (by simpa using hx) (by simpa using hy) D w (by omega)
                simpa using this
              · simp at hk
theorem eqFields_plain : ∀ (d : Nat) (fs : List Field) (off : Nat) (ks : List Nat), kindsOfFields P d fs off = some ks → ∀ (xs ys : Array Value), fitsL ks (xs.toList.drop off) = true → fitsL ks (ys.toList.drop off) = true → ∀ (D : Nat) (w : World), d ≤ D + 1 →
    (Op.eqFields D xs ys fs).run P w = .ok (cellsEq (xs.toList.drop off) (ys.toList.drop off)) w
  | _, [], off, ks, hk, xs, ys, hx, hy, D, w, _ => by
    unfold kindsOfFields at hk
    simp only [Option.some.injEq] at hk
    subst hk
    have h1 := fitsL_len hx
    have h2 := fitsL_len hy
    rw [List.eq_nil_of_length_eq_zero h1, List.eq_nil_of_length_eq_zero h2]
    rfl
  | 0, _ :: _, _, _, hk, _, _, _, _, _, _, _ => by simp [kindsOfFields] at hk
  | d + 1, f :: fs, off, ks, hk, xs, ys, hx, hy, D, w, hD => by
    unfold kindsOfFields at hk
    split at hk
    · rename_i hn
      cases h1 : kindsOf P d f.type with
      | none => rw [h1] at hk; simp at hk
      | some k1 =>
        rw [h1] at hk
        simp only at hk
        cases h2 : kindsOfFields P d fs (off + k1.length) with
        | none => rw [h2] at hk; simp at hk
        | some k2 =>
          rw [h2] at hk
          simp only [Option.some.injEq] at hk
          subst hk
          have fx := fitsL_append hx
          have fy := fitsL_append hy
          rw [List.drop_drop] at fx fy
          have px := part_cells h1 xs off fx.1 w
          have py := part_cells h1 ys off fy.1 w
          have he := equalIn_plain d f.type k1 h1 _ _ fx.1 fy.1 D w (by omega)
          have ih := eqFields_plain d fs (off + k1.length) k2 h2 xs ys fx.2 fy.2 D w (by omega)
          have hl : (xs.toList.drop off).length = (ys.toList.drop off).length := (fitsL_len hx).trans (fitsL_len hy).symm
          rw [cellsEq_append k1.length _ _ hl, List.drop_drop, List.drop_drop]
          unfold Op.eqFields
          rw [if_pos hn.1, hn.2]
          simp only [Sem.run_bind, px, py, he, Result.andThen_ok]
          cases cellsEq ((xs.toList.drop off).take k1.length) ((ys.toList.drop off).take k1.length) with
          | true => simp [ih]
          | false => simp
    · simp at hk
end
/-- '==' of two structs. -/
theorem run_eqS {t : TypeId} (ks : List Nat) (hk : kindsOf P 20 t = some ks) (hs : (match P.underlying t with | some (.struct _) => true | _ => false) = true) (xs ys : Array Value) (hx : fitsL ks xs.toList = true) (hy : fitsL ks ys.toList = true) (w : World) :
    (binOp .eql t (.agg xs) (.agg ys)).run P w = .ok (.bool (cellsEq xs.toList ys.toList)) w ∧ (binOp .neq t (.agg xs) (.agg ys)).run P w = .ok (.bool (!cellsEq xs.toList ys.toList)) w := by
  have h := equalIn_plain 20 t ks hk xs.toList ys.toList hx hy 10000 w (by omega)
  have ho : ∀ zs : Array Value, ofCells P t zs.toList = .agg zs := by
    intro zs
    unfold ofCells
    cases hu : P.underlying t with
    | none => rw [hu] at hs; simp at hs
    | some u => rw [hu] at hs; cases u <;> simp at hs ⊢
  rw [ho, ho] at h
  refine ⟨?_, ?_⟩
  · rw [run_eql_struct, h]; rfl
  · rw [run_neq_struct, h]; rfl
end
end Go.J


set_option linter.unusedSimpArgs false
set_option linter.unusedVariables false
set_option linter.unusedSectionVars false
namespace Go.J
open Go.Hp
open Go.Mem (Ty KTy blk elemAt addr_add addr_add_add pre suf aget aset adel apos Stamps aggDesc spliceAt)
section
variable {P : Program} {w0 : World} {Q : Exit → Act → World → Prop} {n : Nat} {E : Env} {H : Heap} {o : Oper} {rest l : List Oper} {S : Heap → Prop} {fuel : Nat} {listed : Array Bool}
/-- In this memory, the operation yields v and does nothing else. -/
structure Light (P : Program) (E : Env) (o : Oper) (H : Heap) (v : Value) : Prop where
  run : ∀ w : World, w.heap = H → (execOp (ev E) o).run P w = .ok (.value v) w
theorem r_pure (v : Value) (hr : ∀ w, (execOp (ev E) o).run P w = .ok (.value v) w) : Light P E o H v := ⟨fun w _ => hr w⟩
theorem r_add {t u : TypeId} {x y : Operand} (ho : o.op = .binOp .add t x y u) (a b : Int) (hx : ev E x = .int .i64 a) (hy : ev E y = .int .i64 b) (hb : -9223372036854775808 ≤ a + b ∧ a + b ≤ 9223372036854775807) : Light P E o H ((.int .i64 (a + b))) :=
  ⟨fun w _ => (bin_run ho _ _ hx hy eqg_int fun w => by simp [binOp, Op.intArith, wrap64 hb, Sem.run_pure]) w⟩
theorem r_sub {t u : TypeId} {x y : Operand} (ho : o.op = .binOp .sub t x y u) (a b : Int) (hx : ev E x = .int .i64 a) (hy : ev E y = .int .i64 b) (hb : -9223372036854775808 ≤ a - b ∧ a - b ≤ 9223372036854775807) : Light P E o H ((.int .i64 (a - b))) :=
  ⟨fun w _ => (bin_run ho _ _ hx hy eqg_int fun w => by simp [binOp, Op.intArith, wrap64 hb, Sem.run_pure]) w⟩
theorem r_addW {t u : TypeId} {x y : Operand} (ho : o.op = .binOp .add t x y u) (a b : Int) (hx : ev E x = .int .i64 a) (hy : ev E y = .int .i64 b) : Light P E o H ((.int .i64 (IntKind.i64.wrap (a + b)))) :=
  ⟨fun w _ => (bin_run ho _ _ hx hy eqg_int fun w => by simp [binOp, Op.intArith, Sem.run_pure]) w⟩
theorem r_subW {t u : TypeId} {x y : Operand} (ho : o.op = .binOp .sub t x y u) (a b : Int) (hx : ev E x = .int .i64 a) (hy : ev E y = .int .i64 b) : Light P E o H ((.int .i64 (IntKind.i64.wrap (a - b)))) :=
  ⟨fun w _ => (bin_run ho _ _ hx hy eqg_int fun w => by simp [binOp, Op.intArith, Sem.run_pure]) w⟩
theorem r_mul {t u : TypeId} {x y : Operand} (ho : o.op = .binOp .mul t x y u) (a b : Int) (hx : ev E x = .int .i64 a) (hy : ev E y = .int .i64 b) (hb : -9223372036854775808 ≤ a * b ∧ a * b ≤ 9223372036854775807) : Light P E o H ((.int .i64 (a * b))) :=
  ⟨fun w _ => (bin_run ho _ _ hx hy eqg_int fun w => by simp [binOp, Op.intArith, wrap64 hb, Sem.run_pure]) w⟩
theorem r_cmp {op : BinOp} {t u : TypeId} {x y : Operand} (ho : o.op = .binOp op t x y u) (k : IntKind) (a b : Int) (c : Bool) (hx : ev E x = .int k a) (hy : ev E y = .int k b) (hc : cmpI op a b = some c) : Light P E o H ((.bool c)) := by
  refine ⟨fun w _ => bin_run ho _ _ hx hy eqg_int (fun w => ?_) w⟩
  cases op <;> simp only [cmpI, Option.some.injEq] at hc <;> first | (cases hc; done) | skip
  all_goals
    subst hc
    simp only [binOp, ne_eq, not_true_eq_false, if_false, Op.intCmp]
    first
    | rfl
    | (simp [Sem.run_pure, bne, BEq.beq])
theorem r_cmpS {op : BinOp} {t u : TypeId} {x y : Operand} (ho : o.op = .binOp op t x y u) (a b : ByteArray) (c : Bool) (hx : ev E x = .string a) (hy : ev E y = .string b) (hc : cmpS op a b = some c) : Light P E o H ((.bool c)) := by
  refine ⟨fun w _ => bin_run ho _ _ hx hy (fun w => by unfold eqGuard; split <;> rfl) (fun w => ?_) w⟩
  cases op <;> simp only [cmpS, Option.some.injEq] at hc <;> first | (cases hc; done) | skip
  all_goals
    subst hc
    simp [binOp, Op.stringOp, toList_eq, Sem.run_pure]
theorem r_eqS {op : BinOp} {t u : TypeId} {x y : Operand} (ho : o.op = .binOp op t x y u) (xs ys : Array Value) (c : Bool) (hx : ev E x = .agg xs) (hy : ev E y = .agg ys) (hg : P.eqGuardType P.depth t = false) (hr : ∀ w, (binOp op t (.agg xs) (.agg ys)).run P w = .ok (.bool c) w) : Light P E o H ((.bool c)) :=
  ⟨fun w _ => (bin_run ho _ _ hx hy (eqg_agg hg) hr) w⟩
theorem r_loadC {t : TypeId} {x : Operand} (ho : o.op = .load t x) (g k : Nat) (arr : Array Value) (e : TypeId) (fr : Nat × Nat) (u : Value) (hx : ev E x = .pointer (some ⟨g, k, none⟩)) (ht : scalarT P t = true) (hB : H[g]? = some (.cells arr e fr)) (hu : arr[k]? = some u) : Light P E o H (u) := by
  refine ⟨fun w hw => ?_⟩
  unfold execOp
  simp only [ho, hx]
  refine Mem.run_v ?_
  unfold Instr.loadAt Instr.sureAddr
  rw [Sem.run_bind, Sem.run_pure, Result.andThen_ok]
  exact run_loadC ht (by rw [cell_of_row w g k arr e fr (by rw [hw]; exact hB)]; exact hu)
theorem r_loadA {t : TypeId} {x : Operand} (ho : o.op = .load t x) (g k m : Nat) (arr : Array Value) (e : TypeId) (fr : Nat × Nat) (cs : Array Value) (hx : ev E x = .pointer (some ⟨g, k, none⟩)) (ht : aggT P t m = true) (hB : H[g]? = some (.cells arr e fr)) (hl : cs.size = m) (hc : arr.toList.extract k (k + m) = cs.toList) : Light P E o H ((.agg cs)) := by
  refine ⟨fun w hw => ?_⟩
  unfold execOp
  simp only [ho, hx]
  refine Mem.run_v ?_
  unfold Instr.loadAt Instr.sureAddr
  rw [Sem.run_bind, Sem.run_pure, Result.andThen_ok]
  refine run_loadA ht (by rw [hw]; exact hB) cs hl (fun j u hj => ?_)
  have h1 : cs.toList[j]? = some u := by simpa using hj
  rw [← hc, List.extract_eq_take_drop, List.getElem?_take] at h1
  split at h1
  · rw [List.getElem?_drop] at h1
    simpa using h1
  · cases h1
theorem r_loadE {α : Type} {T : Ty α} {t : TypeId} {x : Operand} (ho : o.op = .load t x) (hT : T.Ok P) (hid : T.id = t) (v : Value) (k : Nat) (y : α) (u : Value) (L : List α) (hx : ev E x = .pointer (some (elemAt T.size v k))) (hv : Sl H T v L) (hy : L[k]? = some y) (hu : T.val y = u) : Light P E o H (u) := by
  subst hid hu
  refine ⟨fun w hw => ?_⟩
  subst hw
  unfold execOp
  simp only [ho, hx]
  exact Mem.run_v (Mem.run_loadElem hv.mem hT hy)
theorem r_loadF {α : Type} {T : Ty α} {t : TypeId} {x : Operand} (ho : o.op = .load t x) (hT : T.Ok P) (v : Value) (k j : Nat) (y : α) (u : Value) (L : List α) (hx : ev E x = .pointer (some ((elemAt T.size v k).add j))) (ht : scalarT P t = true) (hv : Sl H T v L) (hy : L[k]? = some y) (hu : (T.enc y)[j]? = some u) : Light P E o H (u) := by
  refine ⟨fun w hw => ?_⟩
  subst hw
  unfold execOp
  simp only [ho, hx]
  refine Mem.run_v ?_
  unfold Instr.loadAt Instr.sureAddr
  rw [Sem.run_bind, Sem.run_pure, Result.andThen_ok]
  exact run_loadC ht (hv.cell hT hy hu)
section
variable {α : Type} {T : Ty α} {v : Value} {L M : List α}
theorem r_len {x : Operand} {t : TypeId} (ho : o.op = .call { callee := .builtin .len, args := #[x], argTypes := #[t] }) (hT : T.Ok P) (ht : P.underlying t = some (.slice T.id)) (hx : ev E x = v) (hv : Sl H T v L) : Light P E o H ((.int .i64 L.length)) := by
  refine ⟨fun w hw => ?_⟩
  subst hw
  unfold execOp
  simp only [ho, resolve, invoke, builtin, Sem.run_bind, Sem.run_pure, Result.andThen_ok, List.map_toArray, List.map_cons, List.map_nil, hx, Mem.run_len hv.mem ht]
theorem r_index {x i : Operand} {t : TypeId} (ho : o.op = .indexAddr t x i) (hT : T.Ok P) (ht : P.underlying t = some (.slice T.id)) (q : IntKind) (k : Int) (hx : ev E x = v) (hi : ev E i = .int q k) (hv : Sl H T v L) (h0 : 0 ≤ k) (hl : k < L.length) (m : Nat) (hm : m = k.toNat) : Light P E o H ((.pointer (some (elemAt T.size v m)))) := by
  subst hm
  refine ⟨fun w hw => ?_⟩
  subst hw
  have e : k = (k.toNat : Int) := by omega
  unfold execOp
  simp only [ho, hx, hi]
  rw [e]
  exact Mem.run_v (Mem.run_index hv.mem hT ht (by omega) q)
theorem r_pre {x i : Operand} {t : TypeId} (ho : o.op = .slice t x none (some i) none) (hT : T.Ok P) (ht : P.underlying t = some (.slice T.id)) (q : IntKind) (k : Int) (hx : ev E x = v) (hi : ev E i = .int q k) (hv : Sl H T v L) (h0 : 0 ≤ k) (hl : k ≤ L.length) (m : Nat) (hm : m = k.toNat) : Light P E o H ((pre v m)) := by
  subst hm
  refine ⟨fun w hw => ?_⟩
  subst hw
  unfold execOp
  simp only [ho, hx, hi, Option.map_none, Option.map_some]
  exact Mem.run_v (Mem.run_pre hv.mem ht hT q k h0 hl)
theorem r_suf {x i : Operand} {t : TypeId} (ho : o.op = .slice t x (some i) none none) (hT : T.Ok P) (ht : P.underlying t = some (.slice T.id)) (q : IntKind) (k : Int) (hx : ev E x = v) (hi : ev E i = .int q k) (hv : Sl H T v L) (h0 : 0 ≤ k) (hl : k ≤ L.length) (m : Nat) (hm : m = k.toNat) : Light P E o H ((suf T.size v m)) := by
  subst hm
  refine ⟨fun w hw => ?_⟩
  subst hw
  unfold execOp
  simp only [ho, hx, hi, Option.map_none, Option.map_some]
  exact Mem.run_v (Mem.run_suf hv.mem ht hT q k h0 hl)
end
section
variable {κ β : Type} [DecidableEq κ] {K : KTy κ} {V : β → Value} {b : Nat} {m : List (κ × β)}
theorem r_lookup {x y : Operand} {t e : TypeId} (ho : o.op = .lookup t x y false) (hK : KTy.Ok (β := β) K P) (ht : P.underlying t = some (.map K.id e)) (z : Value) (hz : ∀ w, (zeroValue e).run P w = .ok z w) (k : κ) (hx : ev E x = .map (some b)) (hy : ev E y = K.val k) (hm : Mp H K V b m) : Light P E o H ((((aget m k).map V).getD z)) := by
  refine ⟨fun w hw => ?_⟩
  subst hw
  unfold execOp
  simp only [ho, hx, hy]
  exact Mem.run_v (Mem.run_lookup hm.mem hK ht k hz false)
theorem r_lookupOk {x y : Operand} {t e : TypeId} (ho : o.op = .lookup t x y true) (hK : KTy.Ok (β := β) K P) (ht : P.underlying t = some (.map K.id e)) (z : Value) (hz : ∀ w, (zeroValue e).run P w = .ok z w) (k : κ) (hx : ev E x = .map (some b)) (hy : ev E y = K.val k) (hm : Mp H K V b m) : Light P E o H ((.tuple #[((aget m k).map V).getD z, .bool (aget m k).isSome])) := by
  refine ⟨fun w hw => ?_⟩
  subst hw
  unfold execOp
  simp only [ho, hx, hy]
  exact Mem.run_v (Mem.run_lookup hm.mem hK ht k hz true)
end
theorem fin_panic {fn : Func} {R : Value → Heap → Prop} {c : List PanicEntry} {a : Act} {w : World} (h : Fin P fn w0 R (.panic c) a w) : False := by
  obtain ⟨_, v, hv, _⟩ := h
  cases hv
/-- No panic. -/
def NP (Q : Exit → Act → World → Prop) : Prop := ∀ c a w, Q (.panic c) a w → False
theorem np_then {K : Act → World → Prop} (h : NP Q) : NP (Exit.then K Q) := h
theorem np_block {id : Nat} (h : NP Q) : NP (Exit.inBlock id Q) := h
theorem np_fin {fn : Func} {R : Value → Heap → Prop} : NP (Fin P fn w0 R) := fun _ _ _ h => fin_panic h
/-- What is left of a region, in whatever order; S holds behind every operation. -/
def JH (P : Program) (w0 : World) (l : List Oper) (Q : Exit → Act → World → Prop) (n : Nat) (S : Heap → Prop) (fuel : Nat) (listed : Array Bool) (E : Env) (H : Heap) : Prop :=
  ∀ a w, Fits n a E → At w0 H w → wpAnyH P .any l.toArray Q (fun w => S w.heap) fuel listed a w
def heldQ (P : Program) (l : List Oper) (Q : Exit → Act → World → Prop) (S : Heap → Prop) (fuel : Nat) (listed : Array Bool) : Exit → Act → World → Prop
  | .normal, a, w => S w.heap ∧ wpAnyH P .any l.toArray Q (fun w => S w.heap) fuel listed a w
  | e, a, w => Q e a w
theorem c_held {id : Nat} (S : Heap → Prop) (hm : P.follows .mixedOrders = true) (h : JH P w0 l Q n S l.length (Array.replicate l.length false) E H) : JC P w0 (.region id l.toArray true) Q n E H :=
  fun a w hf ha => wp_region_held hm (by simpa using h a w.drew hf ⟨ha.heap, ha.os, ha.tape, ha.output⟩)
/-- The operation may be taken first. -/
def canTake (l : List Oper) (listed : Array Bool) (i : Nat) : Bool := Region.noSelect l.toArray && Region.free .any l.toArray listed i && (Region.ready .any l.toArray listed).contains i
theorem take_core (i : Nat) (hi : l[i]? = some o) (hc : canTake l listed i = true) (hQ : NP Q) (v : Value) (hd : dstOk n o.dst = true) (hy : ∀ a, Fits n a E → YieldsIf P l.toArray (fun w => S w.heap) o v a) (hS : S H)
    (h : JH P w0 l Q n S fuel (listed.setIfInBounds i true) (put E o.dst v) H) : JH P w0 l Q n S (fuel + 1) listed E H := by
  intro a w hf ha
  unfold canTake at hc
  simp only [Bool.and_eq_true] at hc
  exact wpAnyH_take (by simpa using hi) hc.1.1 hc.1.2 hc.2 (fun c a w hp => (hQ _ _ _ hp).elim) (hy a hf) (by show S w.heap; rw [ha.heap]; exact hS) (h _ w (hf.put o.dst v hd) ha)
/-- A light operation, first. -/
theorem h_light (i : Nat) (hi : l[i]? = some o) (hc : canTake l listed i = true) (hQ : NP Q) (hk : okOp l.toArray n E o = true) {v : Value} (hy : ∀ Hh, S Hh → Light P E o Hh v) (hS : S H)
    (h : JH P w0 l Q n S fuel (listed.setIfInBounds i true) (put E o.dst v) H) : JH P w0 l Q n S (fuel + 1) listed E H := by
  unfold okOp at hk
  simp only [Bool.and_eq_true] at hk
  obtain ⟨⟨⟨h1, h2⟩, h3⟩, h4⟩ := hk
  exact take_core i hi hc hQ v h3 (fun a hf => .inl ⟨want_spec hf h1, fun w hw => by rw [exec_eq hf h2 h4]; exact (hy _ hw).run w rfl⟩) hS h
theorem h_skip (i : Nat) (hi : l[i]? = some o) (hc : canTake l listed i = true) (hQ : NP Q) (hu : unwant l.toArray E o = true) (hd : dstOk n o.dst = true) (hS : S H)
    (h : JH P w0 l Q n S fuel (listed.setIfInBounds i true) (put E o.dst undef) H) : JH P w0 l Q n S (fuel + 1) listed E H :=
  take_core i hi hc hQ undef hd (fun a hf => .inr ⟨unwant_spec hf hu, rfl⟩) hS h
/-- The only operation that may come up. -/
theorem h_step (i : Nat) (hi : l[i]? = some o) (hr : Region.ready .any l.toArray listed = [i]) (h : JL P w0 l.toArray (heldQ P l Q S fuel (listed.setIfInBounds i true)) n [o] E H) : JH P w0 l Q n S (fuel + 1) listed E H := by
  intro a w hf ha
  refine wpAnyH_all hr (by simp) ?_
  intro j hj
  rw [List.mem_singleton] at hj
  subst hj
  have := h a w hf ha
  unfold wpOp
  rw [show l.toArray[j]? = some o by simpa using hi]
  exact this
theorem x_held (hS : S H) (h : JH P w0 l Q n S fuel listed E H) : JX w0 .normal (heldQ P l Q S fuel listed) n E H := fun a w hf ha => ⟨by rw [ha.heap]; exact hS, h a w hf ha⟩
theorem h_done (hr : Region.ready .any l.toArray listed = []) (h : JX w0 .normal Q n E H) : JH P w0 l Q n S fuel listed E H := fun a w hf ha => wpAnyH_done hr (h a w hf ha) _
/-- Both ways of a guard. -/
theorem h_fork (t : Nat) (c : Bool) (hh : has E t = true) (hv : look E t = .bool c) (h1 : c = true → JH P w0 l Q n S fuel listed ((t, .bool true) :: E) H) (h2 : c = false → JH P w0 l Q n S fuel listed ((t, .bool false) :: E) H) : JH P w0 l Q n S fuel listed E H := by
  have key : ∀ b, c = b → ∀ a, Fits n a E → Fits n a ((t, .bool b) :: E) := fun b hb a hf => hf.sub fun t' ht' => by
    rw [look_cons]
    rw [has_cons] at ht'
    by_cases e : t = t'
    · subst e; rw [if_pos rfl, hv, hb]; exact ⟨hh, rfl⟩
    · rw [if_neg e]; exact ⟨by simpa [e] using ht', rfl⟩
  cases hc : c with
  | true => exact fun a w hf ha => h1 hc a w (key _ hc a hf) ha
  | false => exact fun a w hf ha => h2 hc a w (key _ hc a hf) ha
end
end Go.J


set_option linter.unusedSimpArgs false
set_option linter.unusedVariables false
namespace Go.J
open Go.Hp
open Go.Mem (Ty blk)
section
variable {P : Program} {w0 : World} {ops : Array Oper} {Q : Exit → Act → World → Prop} {n : Nat} {E : Env} {H : Heap} {o : Oper} {rest : List Oper} {α : Type} {T : Ty α} {v : Value} {L M : List α} {w : World}
theorem run_copy (hT : T.Ok P) {dT sT ty : TypeId} (ht : P.underlying dT = some (.slice T.id)) {v2 : Value} (hv : Mem.Ow w T v L) (h2 : Mem.Sl w T v2 M) :
    ∃ w', (Builtin.copy_ #[dT, sT] ty #[v, v2]).run P w = .ok (.int .i64 (min M.length L.length : Nat)) w' ∧ Mem.Ow w' T v (M.take L.length ++ L.drop M.length) ∧ Mem.Chg (fun k => blk v = some k) w w' ∧ w'.heap.size = w.heap.size := by
  obtain ⟨i, hi, hsz, hby, hz⟩ := hT.info
  have hlenL := hT.flat_len L
  have hlenM := hT.flat_len M
  have hn : Nat.min M.length L.length = min M.length L.length := rfl
  rcases h2 with ⟨⟨p2, rfl⟩, rfl⟩ | ⟨g2, off2, cap2, arr2, e2, fr2, rfl, hg2, hc2, hm2, hf2, hr2⟩
  · refine ⟨w, ?_, by simpa using hv, Mem.Chg.refl _ _, rfl⟩
    rcases hv with ⟨rfl, rfl⟩ | ⟨g, cap, arr, rfl, hg, hc, hm, hf, hr⟩
    · cases p2 <;> simp [Builtin.copy_, run_underlying ht, Builtin.lenOf, Builtin.firstCells, loadCells, loadCellsFrom, sizeOf, typeInfo, hi, goInt]
    · cases p2 <;> simp [Builtin.copy_, run_underlying ht, Builtin.lenOf, Builtin.firstCells, loadCells, loadCellsFrom, sizeOf, typeInfo, hi, storeCells, goInt]
  · have hcs : ∀ j u, ((T.flat M).take (min M.length L.length * T.size))[j]? = some u → w.cell? ((⟨g2, off2, none⟩ : Addr).add j) = some u := by
      intro j u hj
      rw [List.getElem?_take] at hj
      split at hj
      · rw [← hr2, List.getElem?_take] at hj
        split at hj
        · rw [List.getElem?_drop] at hj
          rw [Mem.addr_add, cell_of_row w g2 _ arr2 e2 fr2 hg2, ← Array.getElem?_toList]; exact hj
        · cases hj
      · cases hj
    have hlm : min M.length L.length * T.size ≤ M.length * T.size := Nat.mul_le_mul_right _ (Nat.min_le_left _ _)
    have hll : min M.length L.length * T.size ≤ L.length * T.size := Nat.mul_le_mul_right _ (Nat.min_le_right _ _)
    have hcl : ((T.flat M).take (min M.length L.length * T.size)).length = min M.length L.length * T.size := by rw [List.length_take, hlenM]; omega
    have hload := run_loadCells_list (P := P) w ⟨g2, off2, none⟩ _ hcs
    rw [hcl] at hload
    rcases hv with ⟨rfl, rfl⟩ | ⟨g, cap, arr, rfl, hg, hc, hm, hf, hr⟩
    · refine ⟨w, ?_, by simp [Mem.Ow], Mem.Chg.refl _ _, rfl⟩
      simp only [List.length_nil, Nat.min_zero, Nat.zero_mul, List.take_zero] at hload
      simp [Builtin.copy_, run_underlying ht, Builtin.lenOf, Builtin.firstCells, sizeOf, typeInfo, hi, goInt, hload]
    · have hcap : L.length * T.size ≤ cap * T.size := Nat.mul_le_mul_right _ hc
      have hst := run_storeCells_at P g 0 T.id ((T.flat M).take (min M.length L.length * T.size)) 0 arr w hg (by rw [hcl]; omega) (fun u hu => hT.flat_one1 M u (List.mem_of_mem_take hu))
      have hlen2 : (M.take L.length ++ L.drop M.length).length = L.length := by simp; omega
      simp only [Nat.zero_add, List.take_zero, List.nil_append, hcl] at hst
      refine ⟨w.setRow g ((T.flat M).take (min M.length L.length * T.size) ++ arr.toList.drop (min M.length L.length * T.size)).toArray, ?_, .inr ⟨g, cap, ((T.flat M).take (min M.length L.length * T.size) ++ arr.toList.drop (min M.length L.length * T.size)).toArray, by rw [hlen2], setRow_heap w g arr _ T.id _ hg, by rw [hlen2]; exact hc, hm, ?_, ?_⟩, ⟨rfl, rfl, rfl, by simp, fun b _ hb => setRow_other w g b _ fun e => hb (by simp [blk, Value.ownBlock, e])⟩, by simp⟩
      · simp only [Builtin.copy_, Sem.run_bind, run_underlying ht, Result.andThen_ok, Builtin.lenOf, Sem.run_pure, sizeOf, typeInfo, program, Sem.run, hi, Builtin.firstCells, hsz, hn, hload, hst, goInt, List.getElem?_toArray, List.getElem?_cons_zero, List.getElem?_cons_succ]
      · simp only [List.size_toArray, List.length_append, List.length_drop, hcl, Array.length_toList]
        omega
      · rw [hlen2, hT.flat_take, List.take_append, Ty.flat_append]
        have e1 : (T.flat (M.take (min M.length L.length))).length = min M.length L.length * T.size := by rw [hT.flat_len, List.length_take]; congr 1; omega
        rw [e1, List.take_of_length_le (by rw [e1]; exact hll), show M.take (min M.length L.length) = M.take L.length by rw [List.take_eq_take_iff]; omega]
        congr 1
        have e2 : L.drop M.length = L.drop (min M.length L.length) := by
          by_cases h : M.length ≤ L.length
          · rw [Nat.min_eq_left h]
          · rw [Nat.min_eq_right (by omega), List.drop_length, List.drop_of_length_le (by omega)]
        rw [e2, ← hT.flat_drop, ← hr, List.drop_take]
theorem l_copy {s x : Operand} {t t' : TypeId} (ho : o.op = .call { callee := .builtin .copy, args := #[s, x], argTypes := #[t, t'] }) (hT : T.Ok P) (ht : P.underlying t = some (.slice T.id)) (v2 : Value) (hk : okOp ops n E o = true) (hs : ev E s = v) (hx : ev E x = v2) (hv : Ow H T v L) (h2 : Sl H T v2 M)
    (h : ∀ H', Ow H' T v (M.take L.length ++ L.drop M.length) → Chg (fun k => blk v = some k) H H' → H'.size = H.size → JL P w0 ops Q n rest (put E o.dst (.int .i64 (min M.length L.length : Nat))) H') : JL P w0 ops Q n (o :: rest) E H := by
  refine l_run (R := fun v' H' => v' = .int .i64 (min M.length L.length : Nat) ∧ Ow H' T v (M.take L.length ++ L.drop M.length) ∧ Chg (fun k => blk v = some k) H H' ∧ H'.size = H.size) hk (fun w ha => ?_) (fun v' H' ⟨a1, a2, a3, a4⟩ => by subst a1; exact h H' a2 a3 a4)
  have hv' : Mem.Ow w T v L := by have := hv; rw [← ha.heap] at this; exact this
  have h2' : Mem.Sl w T v2 M := by have := h2; rw [← ha.heap] at this; exact this
  obtain ⟨w', hr, q1, q2, q3⟩ := run_copy (ty := o.type) (sT := t') hT ht hv' h2'
  refine ⟨_, w', ?_, ⟨rfl, q2.os.trans ha.os, q2.tape.trans ha.tape, q2.output.trans ha.output⟩, rfl, q1, ?_, ?_⟩
  · unfold execOp
    simp only [ho, resolve, invoke, builtin, Sem.run_bind, Sem.run_pure, Result.andThen_ok, List.map_toArray, List.map_cons, List.map_nil, hs, hx, hr]
  · rw [← ha.heap]; exact Chg.of_mem q2
  · rw [← ha.heap]; exact q3
theorem r_min {x y : Operand} {ts : Array TypeId} (ho : o.op = .call { callee := .builtin .min, args := #[x, y], argTypes := ts }) (k : IntKind) (a b : Int) (hx : ev E x = .int k a) (hy : ev E y = .int k b) : Light P E o H (.int k (if b < a then b else a)) :=
  ⟨fun w _ => by
    unfold execOp
    simp only [ho, resolve, invoke, builtin, Sem.run_bind, Sem.run_pure, Result.andThen_ok, List.map_toArray, List.map_cons, List.map_nil, hx, hy, Builtin.min_, List.foldlM_cons, List.foldlM_nil, Builtin.min2]⟩
theorem r_max {x y : Operand} {ts : Array TypeId} (ho : o.op = .call { callee := .builtin .max, args := #[x, y], argTypes := ts }) (k : IntKind) (a b : Int) (hx : ev E x = .int k a) (hy : ev E y = .int k b) : Light P E o H (.int k (if a < b then b else a)) :=
  ⟨fun w _ => by
    unfold execOp
    simp only [ho, resolve, invoke, builtin, Sem.run_bind, Sem.run_pure, Result.andThen_ok, List.map_toArray, List.map_cons, List.map_nil, hx, hy, Builtin.max_, List.foldlM_cons, List.foldlM_nil, Builtin.max2]⟩
theorem l_min {x y : Operand} {ts : Array TypeId} (ho : o.op = .call { callee := .builtin .min, args := #[x, y], argTypes := ts }) (k : IntKind) (a b : Int) (hk : okOp ops n E o = true) (hx : ev E x = .int k a) (hy : ev E y = .int k b)
    (h : JL P w0 ops Q n rest (put E o.dst (.int k (if b < a then b else a))) H) : JL P w0 ops Q n (o :: rest) E H := l_read _ hk (r_min ho k a b hx hy).run h
theorem l_max {x y : Operand} {ts : Array TypeId} (ho : o.op = .call { callee := .builtin .max, args := #[x, y], argTypes := ts }) (k : IntKind) (a b : Int) (hk : okOp ops n E o = true) (hx : ev E x = .int k a) (hy : ev E y = .int k b)
    (h : JL P w0 ops Q n rest (put E o.dst (.int k (if a < b then b else a))) H) : JL P w0 ops Q n (o :: rest) E H := l_read _ hk (r_max ho k a b hx hy).run h
end
end Go.J
