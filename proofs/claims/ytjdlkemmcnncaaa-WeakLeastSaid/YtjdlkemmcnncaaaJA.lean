/-
  A logic of walks: temporaries as a list of pairs, memory as an array of blocks; the rules for control. No condition but those that each rule says.
-/
import Derived.Test.YtjdlkemmcnncaaaHpA
import Derived.Test.YtjdlkemmcnncaaaSerD
set_option linter.unusedSimpArgs false
set_option linter.unusedVariables false
namespace Go.J
open Go.Hp

abbrev Env := List (Nat × Value)
def look : Env → Nat → Value
  | [], _ => undef
  | (k, v) :: r, t => bif Nat.beq k t then v else look r t
def has : Env → Nat → Bool
  | [], _ => false
  | (k, _) :: r, t => Nat.beq k t || has r t
def ev (E : Env) : Operand → Value
  | .tmp t => look E t
  | .const v => v
  | .global g => .pointer (some ⟨g, 0, none⟩)
  | .func f => .func (.func f) #[] #[]
def knows (E : Env) : Operand → Bool
  | .tmp t => has E t
  | _ => true
def put (E : Env) : Option Tmp → Value → Env
  | some d, v => (d, v) :: E
  | none, _ => E
def dstOk (n : Nat) : Option Tmp → Bool
  | some d => Nat.blt d n
  | none => true

/-- The temporaries hold what the list says. -/
structure Fits (n : Nat) (a : Act) (E : Env) : Prop where
  size : a.tmps.size = n
  defers : a.defers = []
  get : ∀ t, has E t = true → a.tmps[t]? = some (look E t)

section
variable {n : Nat} {a : Act} {E : Env}
theorem beq_false {k t : Nat} (h : ¬ k = t) : Nat.beq k t = false := by
  cases hb : Nat.beq k t with
  | true => exact absurd (Nat.eq_of_beq_eq_true hb) h
  | false => rfl
theorem look_cons (k : Nat) (v : Value) (r : Env) (t : Nat) : look ((k, v) :: r) t = if k = t then v else look r t := by
  show (bif Nat.beq k t then v else look r t) = _
  by_cases h : k = t
  · subst h; simp
  · simp [beq_false h, h]
theorem has_cons (k : Nat) (v : Value) (r : Env) (t : Nat) : has ((k, v) :: r) t = (decide (k = t) || has r t) := by
  show (Nat.beq k t || has r t) = _
  by_cases h : k = t
  · subst h; simp
  · simp [beq_false h, h]
theorem Fits.put (h : Fits n a E) (d : Option Tmp) (v : Value) (hd : dstOk n d = true) : Fits n (a.put d v) (J.put E d v) := by
  cases d with
  | none => exact h
  | some d =>
    have hlt : d < n := by simpa [dstOk, Nat.blt_eq] using hd
    refine ⟨by simp [Act.put, h.size], by simp [Act.put, h.defers], fun t ht => ?_⟩
    simp only [J.put] at ht ⊢
    rw [look_cons]
    rw [has_cons] at ht
    simp only [Act.put]
    by_cases e : d = t
    · subst e
      rw [if_pos rfl, Array.getElem?_setIfInBounds_self_of_lt (by rw [h.size]; exact hlt)]
    · rw [if_neg e, Array.getElem?_setIfInBounds_ne e]
      exact h.get t (by simpa [e] using ht)
theorem Fits.eval (h : Fits n a E) {x : Operand} (hk : knows E x = true) : a.eval x = ev E x := by
  cases x with
  | tmp t => simp only [Act.eval, ev, Array.getD_eq_getD_getElem?, h.get t hk, Option.getD_some]
  | _ => rfl
/-- Fewer temporaries are known. -/
theorem Fits.sub (h : Fits n a E) {E' : Env} (hs : ∀ t, has E' t = true → has E t = true ∧ look E t = look E' t) : Fits n a E' :=
  ⟨h.size, h.defers, fun t ht => by rw [h.get t (hs t ht).1, (hs t ht).2]⟩
def subB (E E' : Env) : Prop := ∀ p ∈ E', has E p.1 = true ∧ look E p.1 = look E' p.1
theorem has_mem : ∀ {E : Env} {t : Nat}, has E t = true → ∃ v, (t, v) ∈ E
  | [], _, h => by simp [has] at h
  | (k, v) :: r, t, h => by
    rw [has_cons] at h
    by_cases e : k = t
    · subst e; exact ⟨v, by simp⟩
    · obtain ⟨u, hu⟩ := has_mem (E := r) (by simpa [e] using h)
      exact ⟨u, by simp [hu]⟩
theorem Fits.of_sub (h : Fits n a E) {E' : Env} (hs : subB E E') : Fits n a E' := h.sub fun t ht => by
  obtain ⟨v, hv⟩ := has_mem ht
  exact hs (t, v) hv
/-- The same, entry by entry. -/
def subL (E : Env) : Env → Prop
  | [] => True
  | (t, v) :: r => (has E t = true ∧ look E t = v) ∧ subL E r
def distinctB : Env → Bool
  | [] => true
  | (t, _) :: r => !has r t && distinctB r
theorem sub_of {E' : Env} (hd : distinctB E' = true) (h : subL E E') : subB E E' := by
  have key : ∀ (E' : Env), distinctB E' = true → subL E E' → ∀ t, has E' t = true → has E t = true ∧ look E t = look E' t := by
    intro E'
    induction E' with
    | nil => intro _ _ t ht; simp [has] at ht
    | cons p r ih =>
      obtain ⟨k, v⟩ := p
      intro hd hs t ht
      simp only [distinctB, Bool.and_eq_true, Bool.not_eq_true'] at hd
      obtain ⟨⟨h1, h2⟩, h3⟩ := hs
      rw [look_cons]
      rw [has_cons] at ht
      by_cases e : k = t
      · subst e; rw [if_pos rfl]; exact ⟨h1, h2⟩
      · rw [if_neg e]; exact ih hd.2 h3 t (by simpa [e] using ht)
  intro p hp
  refine key E' hd h p.1 ?_
  have : ∀ (E : Env) (p : Nat × Value), p ∈ E → has E p.1 = true := by
    intro E
    induction E with
    | nil => intro p hp; cases hp
    | cons q r ih =>
      intro p hp
      obtain ⟨k, v⟩ := q
      rw [has_cons]
      rcases List.mem_cons.1 hp with rfl | h
      · simp
      · simp [ih p h]
  exact this E' p hp
theorem Fits.args {args : Array Value} {m : Nat} (hm : args.size ≤ m) : Fits m { tmps := args ++ Array.replicate (m - args.size) undef, defers := [] } (args.toList.zipIdx.map fun p => (p.2, p.1)) := by
  refine ⟨by simp; omega, rfl, fun t ht => ?_⟩
  obtain ⟨v, hv⟩ := has_mem ht
  simp only [List.mem_map, Prod.mk.injEq, Prod.exists] at hv
  obtain ⟨x, i, hx, rfl, rfl⟩ := hv
  have hx' := List.mem_zipIdx_iff_getElem?.1 hx
  simp only at hx'
  have hlook : ∀ (l : List Value) (k t : Nat) (x : Value), k ≤ t → l[t - k]? = some x → look ((l.zipIdx k).map fun p => (p.2, p.1)) t = x := by
    intro l
    induction l with
    | nil => intro k t x _ h; simp at h
    | cons y r ih =>
      intro k t x hk h
      simp only [List.zipIdx_cons, List.map_cons, look_cons]
      by_cases e : k = t
      · subst e; simp at h; rw [if_pos rfl]; exact h
      · rw [if_neg e]
        refine ih (k + 1) t x (by omega) ?_
        have e2 : t - k = (t - (k + 1)) + 1 := by omega
        rw [e2] at h
        simpa using h
  have h1 := hlook args.toList 0 i x (Nat.zero_le _) (by simpa using hx')
  rw [h1]
  have hlt : i < args.size := by have := (List.getElem?_eq_some_iff.1 hx').1; simpa using this
  rw [Array.getElem?_append_left hlt]
  simpa using hx'
end

/-- The world holds these blocks; its streams are as w0's. -/
structure At (w0 : World) (H : Heap) (w : World) : Prop where
  heap : w.heap = H
  os : w.os = w0.os
  tape : w.tape = w0.tape
  output : w.output = w0.output
theorem At.self (w : World) : At w w.heap w := ⟨rfl, rfl, rfl, rfl⟩
theorem At.trans {w0 w w' : World} {H H' : Heap} (h : At w0 H w) (k : At w H' w') : At w0 H' w' := ⟨k.heap, k.os.trans h.os, k.tape.trans h.tape, k.output.trans h.output⟩
theorem At.of_mem {S : Nat → Prop} {w w' : World} (h : Mem.Chg S w w') : At w w'.heap w' := ⟨rfl, h.os, h.tape, h.output⟩

/-- A contract: called in this memory the function returns a value and leaves a memory of which R holds. -/
def HC (P : Program) (f : FuncId) (args : Array Value) (H : Heap) (R : Value → Heap → Prop) : Prop :=
  ∀ w : World, w.heap = H → Calls P f args w fun e w' => ∃ v, e = .returned v ∧ At w w'.heap w' ∧ R v w'.heap
theorem HC.mono {P : Program} {f : FuncId} {args : Array Value} {H : Heap} {R R' : Value → Heap → Prop} (h : HC P f args H R) (hR : ∀ v H', R v H' → R' v H') : HC P f args H R' :=
  fun w hw => (h w hw).mono fun _ _ ⟨v, e, hA, hr⟩ => ⟨v, e, hA, hR _ _ hr⟩

section
variable {P : Program} {w0 : World} {ops : Array Oper} {Q : Exit → Act → World → Prop} {n : Nat} {E : Env} {H : Heap}
/-- A list of operations. -/
def JL (P : Program) (w0 : World) (ops : Array Oper) (Q : Exit → Act → World → Prop) (n : Nat) (l : List Oper) (E : Env) (H : Heap) : Prop :=
  ∀ a w, Fits n a E → At w0 H w → wpList P ops Q l a w
/-- A piece of code. -/
def JC (P : Program) (w0 : World) (c : Code) (Q : Exit → Act → World → Prop) (n : Nat) (E : Env) (H : Heap) : Prop :=
  ∀ a w, Fits n a E → At w0 H w → c.wp P Q a w
/-- A way out. -/
def JX (w0 : World) (x : Exit) (Q : Exit → Act → World → Prop) (n : Nat) (E : Env) (H : Heap) : Prop :=
  ∀ a w, Fits n a E → At w0 H w → Q x a w

theorem JC.sub {c : Code} (E' : Env) (hs : subB E E') (h : JC P w0 c Q n E' H) : JC P w0 c Q n E H := fun a w hf ha => h a w (hf.of_sub hs) ha
theorem JX.sub {x : Exit} (E' : Env) (hs : subB E E') (h : JX w0 x Q n E' H) : JX w0 x Q n E H := fun a w hf ha => h a w (hf.of_sub hs) ha

/-! ### Control -/
theorem c_seq {x y : Code} (h : JC P w0 x (Exit.then (y.wp P Q) Q) n E H) : JC P w0 (.seq x y) Q n E H := fun a w hf ha => wp_seq (h a w hf ha)
theorem c_skip (h : JX w0 .normal Q n E H) : JC P w0 .skip Q n E H := fun a w hf ha => wp_skip (h a w hf ha)
theorem c_ret (h : JX w0 .ret Q n E H) : JC P w0 .ret Q n E H := fun a w hf ha => wp_ret (h a w hf ha)
theorem c_exit {id : Nat} (h : JX w0 (.exit id) Q n E H) : JC P w0 (.exit id) Q n E H := fun a w hf ha => wp_exit (h a w hf ha)
theorem c_block {id : Nat} {c : Code} (h : JC P w0 c (Exit.inBlock id Q) n E H) : JC P w0 (.block id c) Q n E H := fun a w hf ha => wp_block (h a w hf ha)
theorem c_true {t : Operand} {x y : Code} (hk : knows E t = true) (hv : ev E t = .bool true) (h : JC P w0 x Q n E H) : JC P w0 (.cond t x y) Q n E H :=
  fun a w hf ha => wp_cond_true ((hf.eval hk).trans hv) (h a w hf ha)
theorem c_false {t : Operand} {x y : Code} (hk : knows E t = true) (hv : ev E t = .bool false) (h : JC P w0 y Q n E H) : JC P w0 (.cond t x y) Q n E H :=
  fun a w hf ha => wp_cond_false ((hf.eval hk).trans hv) (h a w hf ha)
theorem c_cond {t : Operand} {x y : Code} {c : Bool} (hk : knows E t = true) (hv : ev E t = .bool c) (h1 : c = true → JC P w0 x Q n E H) (h2 : c = false → JC P w0 y Q n E H) : JC P w0 (.cond t x y) Q n E H := by
  cases c with
  | true => exact c_true hk hv (h1 rfl)
  | false => exact c_false hk hv (h2 rfl)
theorem c_reg {id : Nat} {l : List Oper} (h : JL P w0 l.toArray Q n l E H) : JC P w0 (.region id l.toArray false) Q n E H :=
  fun a w hf ha => wp_region_lit (h a w hf ha)
theorem c_draw {id : Nat} {l : List Oper} (hm : P.follows .mixedOrders = true) (hk : Ser.check P l = true) (h : JL P w0 l.toArray (Ser.DynQ P l Q) n l E H) : JC P w0 (.region id l.toArray true) Q n E H :=
  fun a w hf ha => Ser.wp_ser hm hk (h a w.drew hf ⟨ha.heap, ha.os, ha.tape, ha.output⟩)
theorem l_nil (h : JX w0 .normal Q n E H) : JL P w0 ops Q n [] E H := fun a w hf ha => wpList_nil (h a w hf ha)
/-- For each pure operation: its operands are known and plain. -/
def dynOne (ops : List Oper) (E : Env) (o : Oper) : Bool :=
  let plain := o.op.operands.toList.all (knows E) && (match o.op with
    | .binOp _ _ x y _ => Ser.plain2 (ev E x) (ev E y)
    | .convert _ _ x => Ser.isInt (ev E x)
    | .nilCheck x => (match ev E x with | .func _ _ _ => false | _ => true)
    | .call { callee := .builtin .len, args := xs, .. } | .call { callee := .builtin .cap, args := xs, .. } => (match xs[0]? with | some x => Ser.noBox (ev E x) | none => false)
    | .call { callee := .builtin .min, args := xs, .. } | .call { callee := .builtin .max, args := xs, .. } => xs.toList.all fun x => Ser.isInt (ev E x)
    | _ => true)
  match o.guard with
  | none => plain
  | some (g, b) => match ((ops[g]?).bind (·.dst)) with
    | some d => has E d && (match look E d with | .bool c => (c != b) || plain | .tuple _ => true | _ => false)
    | none => false

theorem x_dyn {l : List Oper} (hd : (l.all fun o => !(Ser.clsOf P o == 0) || !(Ser.isDyn o) || dynOne l E o) = true) (h : JX w0 .normal Q n E H) : JX w0 .normal (Ser.DynQ P l Q) n E H := by
  intro a w hf ha
  refine ⟨?_, h a w hf ha⟩
  unfold Ser.dynAll
  rw [List.all_eq_true] at hd ⊢
  intro o ho
  have h1 := hd o ho
  cases hc : (Ser.clsOf P o == 0) with
  | false => rfl
  | true =>
    cases hi : Ser.isDyn o with
    | false => rfl
    | true =>
      rw [hc, hi] at h1
      simp only [Bool.not_true, Bool.false_or] at h1 ⊢
      have plain : ∀ (hk : o.op.operands.toList.all (knows E) = true), (match o.op with
          | .binOp _ _ x y _ => Ser.plain2 (ev E x) (ev E y)
          | .convert _ _ x => Ser.isInt (ev E x)
          | .nilCheck x => (match ev E x with | .func _ _ _ => false | _ => true)
          | .call { callee := .builtin .len, args := xs, .. } | .call { callee := .builtin .cap, args := xs, .. } => (match xs[0]? with | some x => Ser.noBox (ev E x) | none => false)
          | .call { callee := .builtin .min, args := xs, .. } | .call { callee := .builtin .max, args := xs, .. } => xs.toList.all fun x => Ser.isInt (ev E x)
          | _ => true) = true → Ser.dynOp o a = true := by
        intro hk hp
        have hev : ∀ x ∈ o.op.operands, a.eval x = ev E x := fun x hx => hf.eval (List.all_eq_true.1 hk x (by simpa using hx))
        obtain ⟨dst, op, ty, pos, after, guard⟩ := o
        unfold Ser.dynOp
        cases op <;> simp only [Op.operands] at hev hp ⊢
        case binOp op t x y u => rw [hev x (by simp), hev y (by simp)]; exact hp
        case convert s d x => rw [hev x (by simp)]; exact hp
        case nilCheck x => rw [hev x (by simp)]; exact hp
        case call c =>
          obtain ⟨callee, xs, ts⟩ := c
          cases callee with
          | value f => rfl
          | invoke r m => rfl
          | builtin b =>
            simp only [Call.operands] at hev
            cases b <;> simp only at hp ⊢ <;> first
              | rfl
              | (cases hx : xs[0]? with
                 | none => rw [hx] at hp; simp at hp
                 | some x => rw [hx] at hp; simp only at hp ⊢; rw [hev x (by simp; exact Array.mem_of_getElem? hx)]; exact hp)
              | (rw [List.all_eq_true] at hp ⊢
                 intro x hx
                 rw [hev x (by simpa using hx)]; exact hp x hx)
      unfold dynOne at h1
      cases hg : o.guard with
      | none =>
        rw [hg] at h1
        simp only [Bool.and_eq_true] at h1
        rw [Bool.or_eq_true]
        exact .inr (plain h1.1 h1.2)
      | some gb =>
        obtain ⟨g, b⟩ := gb
        rw [hg] at h1
        simp only at h1
        cases hgd : (l[g]?).bind (·.dst) with
        | none => rw [hgd] at h1; simp at h1
        | some d =>
          rw [hgd] at h1
          simp only [Bool.and_eq_true] at h1
          obtain ⟨hh, h2⟩ := h1
          have hy : yielded l.toArray a.tmps g = match look E d with | .bool c => some c | _ => none := by
            unfold yielded
            simp only [List.getElem?_toArray, hgd, Option.bind_some, hf.get d hh]
            cases look E d <;> rfl
          cases hl : look E d <;> rw [hl] at h2 hy <;> simp only at h2 hy <;> first | (cases h2; done) | skip
          case bool c =>
            rw [Bool.or_eq_true] at h2 ⊢
            rcases h2 with h2 | h2
            · left
              unfold Region.wanted
              rw [hg]
              simp only [hy]
              simpa using h2
            · right
              rw [Bool.and_eq_true] at h2
              exact plain h2.1 h2.2
          case tuple xs =>
            rw [Bool.or_eq_true]
            left
            unfold Region.wanted
            rw [hg]
            simp only [hy]
            rfl

/-! ### Ways out -/
theorem x_then {y : Code} (h : JC P w0 y Q n E H) : JX w0 .normal (Exit.then (y.wp P Q) Q) n E H := h
theorem x_block {id : Nat} (h : JX w0 .normal Q n E H) : JX w0 .normal (Exit.inBlock id Q) n E H := h
theorem x_exit {id : Nat} {K : Act → World → Prop} (h : JX w0 (.exit id) Q n E H) : JX w0 (.exit id) (Exit.then K Q) n E H := h
theorem x_here {id : Nat} (h : JX w0 .normal Q n E H) : JX w0 (.exit id) (Exit.inBlock id Q) n E H := fun a w hf ha => by
  show (if id = id then Q .normal a w else _)
  rw [if_pos rfl]; exact h a w hf ha
theorem x_other {id id' : Nat} (hne : Nat.beq id id' = false) (h : JX w0 (.exit id) Q n E H) : JX w0 (.exit id) (Exit.inBlock id' Q) n E H := fun a w hf ha => by
  show (if id = id' then Q .normal a w else Q (.exit id) a w)
  rw [if_neg (fun e => by subst e; simp at hne)]; exact h a w hf ha
theorem x_ret {K : Act → World → Prop} (h : JX w0 .ret Q n E H) : JX w0 .ret (Exit.then K Q) n E H := h
theorem x_retBlock {id : Nat} (h : JX w0 .ret Q n E H) : JX w0 .ret (Exit.inBlock id Q) n E H := h

/-! ### The function -/
def Fin (P : Program) (fn : Func) (w0 : World) (R : Value → Heap → Prop) : Exit → Act → World → Prop :=
  bodyPost P fn fun e w' => ∃ v, e = .returned v ∧ At w0 w'.heap w' ∧ R v w'.heap
theorem enter {f : FuncId} {fn : Func} {c : Code} {args : Array Value} {R : Value → Heap → Prop} (hf : P.funcs[f]? = some fn) (hb : fn.body = some c) (m : Nat) (hm : fn.ntmps = m) (hle : Nat.ble args.size m = true) (E : Env) (hE : (args.toList.zipIdx.map fun p => (p.2, p.1)) = E)
    (h : ∀ w0, JC P w0 c (Fin P fn w0 R) m E H) : HC P f args H R := by
  intro w hw
  subst hm hE
  exact calls_of_wp hf hb (h w _ w (Fits.args (Nat.le_of_ble_eq_true hle)) ⟨hw, rfl, rfl, rfl⟩)
/-- What the results are. -/
def Res (P : Program) (w0 : World) (fn : Func) (n : Nat) (E : Env) (H : Heap) (v : Value) : Prop :=
  ∀ a w, Fits n a E → At w0 H w → (results fn a.tmps).run P w = .ok v w
theorem x_fin {fn : Func} {R : Value → Heap → Prop} (v : Value) (hr : Res P w0 fn n E H v) (h : R v H) : JX w0 .ret (Fin P fn w0 R) n E H := fun a w hf ha => by
  refine ⟨hf.defers, v, hr a w hf ha, v, rfl, ⟨rfl, ha.os, ha.tape, ha.output⟩, ?_⟩
  rw [ha.heap]; exact h
theorem x_finN {fn : Func} {R : Value → Heap → Prop} (v : Value) (hr : Res P w0 fn n E H v) (h : R v H) : JX w0 .normal (Fin P fn w0 R) n E H := fun a w hf ha => by
  refine ⟨hf.defers, v, hr a w hf ha, v, rfl, ⟨rfl, ha.os, ha.tape, ha.output⟩, ?_⟩
  rw [ha.heap]; exact h
/-- One result. -/
inductive Item (P : Program) (E : Env) (H : Heap) : ResultVar → Value → Prop
  | tmp (t : Tmp) (v : Value) (hk : has E t = true) (hv : look E t = v) : Item P E H (.tmp t) v
  | cell (t : Tmp) (ty : TypeId) (v : Value) (p : Addr) (hk : has E t = true) (hv : look E t = .pointer (some p)) (hl : ∀ w : World, w.heap = H → (loadVar ty p).run P w = .ok v w) : Item P E H (.cell t ty) v
inductive Items (P : Program) (E : Env) (H : Heap) : List ResultVar → List Value → Prop
  | nil : Items P E H [] []
  | cons {r : ResultVar} {v : Value} {rs : List ResultVar} {vs : List Value} (h : Item P E H r v) (hs : Items P E H rs vs) : Items P E H (r :: rs) (v :: vs)
def itemRun (tmps : Array Value) : ResultVar → Sem Value
  | .tmp t => pure (tmps.getD t undef)
  | .cell p t => do loadVar t (← asAddr (tmps.getD p undef))
theorem run_items {a : Act} {w : World} (hf : Fits n a E) (hw : w.heap = H) {rs : List ResultVar} {vs : List Value} (h : Items P E H rs vs) :
    (rs.mapM (itemRun a.tmps)).run P w = .ok vs w := by
  induction h with
  | nil => rfl
  | cons h hs ih =>
    rw [List.mapM_cons]
    cases h with
    | tmp t v hk hv =>
      have : a.tmps.getD t undef = look E t := by rw [Array.getD_eq_getD_getElem?, hf.get t hk, Option.getD_some]
      simp only [itemRun, Sem.run_bind, Sem.run_pure, Result.andThen_ok, this, ih, hv]
    | cell t ty v p hk hv hl =>
      have : a.tmps.getD t undef = .pointer (some p) := by rw [Array.getD_eq_getD_getElem?, hf.get t hk, Option.getD_some, hv]
      have h2 : (asAddr (a.tmps.getD t undef)).run P w = .ok p w := by rw [this]; rfl
      simp only [itemRun, Sem.run_bind, Sem.run_pure, Result.andThen_ok, h2, hl w hw, ih]
theorem run_map {α β : Type} (f : α → β) (x : Sem α) (w : World) : (f <$> x).run P w = (x.run P w).andThen fun a w' => .ok (f a) w' := Sem.run_bind' P x (fun a => pure (f a)) w
def pack : List Value → Value
  | [x] => x
  | vs => .tuple vs.toArray
theorem res_of {fn : Func} {rs : List ResultVar} {vs : List Value} (hr : fn.results.toList = rs) (h : Items P E H rs vs) : Res P w0 fn n E H (pack vs) := by
  intro a w hf ha
  have h1 := run_items hf ha.heap h
  have h0 : results fn a.tmps = (do let vs ← fn.results.mapM (itemRun a.tmps); pure (if h : vs.size = 1 then vs[0] else .tuple vs)) := rfl
  rw [h0, Array.mapM_eq_mapM_toList, hr]
  simp only [Sem.run_bind, Sem.run_pure, Result.andThen_ok, run_map, h1]
  congr 1
  match vs with
  | [] => rfl
  | [x] => rfl
  | x :: y :: r => simp [pack]

/-! ### Loops -/
theorem wp_loopI {c : Code} {ι : Type} (I : ι → Act → World → Prop) (μ : ι → Nat) {a : Act} {w : World} (i0 : ι) (h₀ : I i0 a w)
    (round : ∀ i a w, I i a w → c.wp P (Exit.then (fun a' w' => ∃ i', μ i' < μ i ∧ I i' a' w') Q) a w) : (Code.loop c).wp P Q a w := by
  intro b k cs
  have key : ∀ n i a w, μ i = n → I i a w →
      ∃ e a' w', Q e a' w' ∧ Arrives P (lone (b.at a (.code c :: .inLoop c :: k)) cs w) b k cs e a' w' := by
    intro n
    induction n using Nat.strongRecOn with
    | _ n ih =>
      intro i a w hn hI
      obtain ⟨e, a₁, w₁, hq, harr⟩ := round i a w hI b (.inLoop c :: k) cs
      cases e with
      | normal =>
        obtain ⟨i₁, hlt, hI₁⟩ := hq
        obtain ⟨e₂, a₂, w₂, hq₂, harr₂⟩ := ih (μ i₁) (hn ▸ hlt) i₁ a₁ w₁ rfl hI₁
        exact ⟨e₂, a₂, w₂, hq₂, .of_steps (Steps.trans harr (.one step_inLoop)) harr₂⟩
      | exit id => exact ⟨_, a₁, w₁, hq, .pass (x := .inLoop c) rfl (fun _ _ => .inl (by simp)) harr⟩
      | goto l => exact ⟨_, a₁, w₁, hq, .pass (x := .inLoop c) rfl (fun _ _ => .inl (by simp)) harr⟩
      | ret => exact ⟨_, a₁, w₁, hq, .pass (x := .inLoop c) rfl (fun _ _ => .inl (by simp)) harr⟩
      | panic ch => exact ⟨_, a₁, w₁, hq, .pass (x := .inLoop c) rfl (fun _ _ => .inl (by simp)) harr⟩
      | outgrown => exact ⟨_, a₁, w₁, hq, .pass (x := .inLoop c) rfl (fun _ _ => .inl (by simp)) harr⟩
  obtain ⟨e, a', w', hq, harr⟩ := key _ i0 a w rfl h₀
  exact ⟨e, a', w', hq, .of_steps (.one step_loop) harr⟩
/-- What holds at the head of each round. -/
def LoopK (w0 : World) (n : Nat) {ι : Type} (Ei : ι → Env) (Hi : ι → Heap → Prop) (μ : ι → Nat) (i : ι) : Act → World → Prop :=
  fun a w => ∃ i' H', μ i' < μ i ∧ Fits n a (Ei i') ∧ At w0 H' w ∧ Hi i' H'
theorem c_loop {c : Code} {ι : Type} (Ei : ι → Env) (Hi : ι → Heap → Prop) (μ : ι → Nat) (i0 : ι) (hE : subB E (Ei i0)) (h0 : Hi i0 H)
    (round : ∀ i H, Hi i H → JC P w0 c (Exit.then (LoopK w0 n Ei Hi μ i) Q) n (Ei i) H) : JC P w0 (.loop c) Q n E H := fun a w hf ha => by
  refine wp_loopI (fun i a w => ∃ H, Fits n a (Ei i) ∧ At w0 H w ∧ Hi i H) μ i0 ⟨H, hf.of_sub hE, ha, h0⟩ ?_
  rintro i a w ⟨H', hf', ha', hi⟩
  refine Code.wp_mono (fun e a w q => ?_) (round i H' hi a w hf' ha')
  cases e <;> first | exact q | skip
  obtain ⟨i', H'', h1, h2, h3, h4⟩ := q
  exact ⟨i', h1, H'', h2, h3, h4⟩
theorem x_round {ι : Type} {Ei : ι → Env} {Hi : ι → Heap → Prop} {μ : ι → Nat} {i : ι} (i' : ι) (hμ : μ i' < μ i) (hE : subB E (Ei i')) (h : Hi i' H) : JX w0 .normal (Exit.then (LoopK w0 n Ei Hi μ i) Q) n E H :=
  fun a w hf ha => ⟨i', H, hμ, hf.of_sub hE, ha, h⟩
end
end Go.J
