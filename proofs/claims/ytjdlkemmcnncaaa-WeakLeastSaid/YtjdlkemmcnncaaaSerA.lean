/-
  A region that draws its order of evaluation, walked once, in the order of the text: theorem 'wp_ser'. Conditions: a check on the region's operations, by evaluation; the operands of its arithmetic are integers, bools or strings.
-/
import Derived.Orders
import Derived.Tactics
import Derived.Laws.World
set_option linter.unusedSimpArgs false
set_option linter.unusedVariables false
namespace Go.Ser

/-! ### What an operation does to the world -/

/-- Where it gives something, it leaves the world, and gives the same in every world. -/
def St (P : Program) {α : Type} (s : Sem α) : Prop := ∀ w a w1, s.run P w = .ok a w1 → w1 = w ∧ ∀ w', s.run P w' = .ok a w'

section
variable {P : Program} {α β : Type}
theorem St.pure (a : α) : St P (Sem.pure a) := by
  intro w b w1 h; simp only [Sem.run, Result.ok.injEq] at h; obtain ⟨rfl, rfl⟩ := h; exact ⟨rfl, fun _ => rfl⟩
theorem St.pure' (a : α) : St P (Pure.pure a : Sem α) := St.pure a
theorem St.halt (h : Halt) : St P (Sem.halt h : Sem α) := by intro w b w1 h; simp [Sem.run] at h
theorem St.bind {s : Sem α} {f : α → Sem β} (hs : St P s) (hf : ∀ a, St P (f a)) : St P (s >>= f) := by
  intro w b w1 h
  rw [Sem.run_bind] at h
  cases hr : s.run P w with
  | halt x w2 => rw [hr] at h; simp at h
  | ok a w2 =>
    rw [hr] at h
    simp only [Result.andThen_ok] at h
    obtain ⟨rfl, h1⟩ := hs _ _ _ hr
    obtain ⟨rfl, h2⟩ := hf a _ _ _ h
    refine ⟨rfl, fun w' => ?_⟩
    rw [Sem.run_bind, h1 w', Result.andThen_ok]
    exact h2 w'
theorem St.program {k : Program → Sem α} (h : St P (k P)) : St P (Sem.program k) := by
  intro w b w1 e
  simp only [Sem.run] at e
  exact ⟨(h _ _ _ e).1, fun w' => by simp only [Sem.run]; exact (h _ _ _ e).2 w'⟩
theorem St.prog : St P Go.program := St.program (St.pure _)
theorem St.ite {c : Prop} [Decidable c] {s t : Sem α} (h1 : St P s) (h2 : St P t) : St P (if c then s else t) := by split <;> assumption
/-- It never gives anything. -/
def Nv (P : Program) {α : Type} (s : Sem α) : Prop := ∀ w a w1, s.run P w ≠ .ok a w1
theorem Nv.st {s : Sem α} (h : Nv P s) : St P s := fun w a w1 e => absurd e (h w a w1)
theorem Nv.halt (h : Halt) : Nv P (Sem.halt h : Sem α) := by intro w a w1 e; simp [Sem.run] at e
theorem Nv.bind {s : Sem α} {f : α → Sem β} (hf : ∀ a, Nv P (f a)) : Nv P (s >>= f) := by
  intro w b w1 h
  rw [Sem.run_bind] at h
  cases hr : s.run P w with
  | halt x w2 => rw [hr] at h; simp at h
  | ok a w2 => rw [hr] at h; exact hf a _ _ _ h
theorem Nv.runtimePanic (e : RuntimeError) : Nv P (Go.runtimePanic e : Sem α) := by
  unfold Go.runtimePanic
  refine Nv.bind fun p => ?_
  cases e <;> first
    | exact Nv.halt _
    | (refine Nv.bind fun _ => ?_; first | exact Nv.halt _ | exact Nv.bind fun _ => Nv.halt _)
theorem Nv.boundsPanic (k : IntKind) (x y : Int) (c : BoundsCode) : Nv P (Go.boundsPanic k x y c : Sem α) := by
  unfold Go.boundsPanic
  dsimp only
  split <;> exact Nv.bind fun _ => Nv.runtimePanic _
theorem st_underlying (t : TypeId) : St P (underlying t) := by
  unfold underlying
  refine St.bind St.prog fun p => ?_
  split <;> first | exact St.pure' _ | exact St.halt _
theorem st_typeInfo (t : TypeId) : St P (typeInfo t) := by
  unfold typeInfo
  refine St.bind St.prog fun p => ?_
  split <;> first | exact St.pure' _ | exact St.halt _
theorem st_sizeOf (t : TypeId) : St P (Go.sizeOf t) := St.bind (st_typeInfo t) fun _ => St.pure' _
theorem st_zeroValue (t : TypeId) : St P (zeroValue t) := by
  unfold zeroValue
  refine St.bind (st_typeInfo t) fun i => ?_
  split <;> first | exact St.pure' _ | exact St.halt _
theorem st_isAgg (t : TypeId) : St P (isAgg t) := by
  unfold isAgg
  refine St.bind (st_underlying t) fun i => ?_
  split <;> exact St.pure' _
theorem st_part (t : TypeId) (cs : Array Value) (off : Nat) : St P (part t cs off) := by
  unfold part
  refine St.bind (st_isAgg t) fun b => ?_
  split
  · exact St.bind (st_sizeOf t) fun _ => St.pure' _
  · split <;> first | exact St.pure' _ | exact St.halt _
theorem st_asIntOf (v : Value) : St P (asIntOf v) := by unfold asIntOf; split <;> first | exact St.pure' _ | exact St.halt _
theorem st_asInt (v : Value) : St P (asInt v) := St.bind (st_asIntOf v) fun _ => St.pure' _
theorem st_asBool (v : Value) : St P (asBool v) := by unfold asBool; split <;> first | exact St.pure' _ | exact St.halt _
theorem st_asAgg (v : Value) : St P (asAgg v) := by unfold asAgg; split <;> first | exact St.pure' _ | exact St.halt _
theorem st_sureAddr (v : Value) : St P (Instr.sureAddr v) := by unfold Instr.sureAddr; split <;> first | exact St.pure' _ | exact St.halt _
theorem st_asAddr (v : Value) : St P (asAddr v) := by unfold asAddr; split <;> first | exact St.pure' _ | exact St.halt _ | exact (Nv.runtimePanic _).st
theorem st_sliceBound (x : Value) (y : Nat) (c : BoundsCode) : St P (Instr.sliceBound x y c) := by
  unfold Instr.sliceBound
  refine St.bind (st_asIntOf x) fun p => ?_
  obtain ⟨k, i⟩ := p
  exact St.ite (St.pure' _) (Nv.boundsPanic _ _ _ _).st
theorem st_sliceBounds (b : Bool) (len cap : Nat) (lo hi mx : Option Value) : St P (Instr.sliceBounds b len cap lo hi mx) := by
  unfold Instr.sliceBounds
  (repeat' (first | exact St.pure' _ | exact St.halt _ | exact (Nv.runtimePanic _).st | exact (Nv.boundsPanic _ _ _ _).st | exact st_underlying _ | exact st_sizeOf _ | exact st_asIntOf _ | exact st_sureAddr _ | exact st_asAddr _ | exact st_part _ _ _ | exact st_asAgg _ | exact st_sliceBound _ _ _ | (refine St.bind ?_ fun _ => ?_) | split | dsimp only))
theorem st_slice (t : TypeId) (x : Value) (lo hi mx : Option Value) : St P (Instr.slice t x lo hi mx) := by
  unfold Instr.slice
  (repeat' (first | exact St.pure' _ | exact St.halt _ | exact (Nv.runtimePanic _).st | exact (Nv.boundsPanic _ _ _ _).st | exact st_underlying _ | exact st_sizeOf _ | exact st_asIntOf _ | exact st_sureAddr _ | exact st_asAddr _ | exact st_part _ _ _ | exact st_asAgg _ | exact st_sliceBound _ _ _ | exact st_sliceBounds _ _ _ _ _ _ | (refine St.bind ?_ fun _ => ?_) | split | dsimp only))
theorem st_sliceAt (t : TypeId) (x : Value) (lo hi mx : Option Value) : St P (Instr.sliceAt t x lo hi mx) := by
  unfold Instr.sliceAt
  refine St.bind (st_underlying t) fun d => ?_
  split
  · refine St.bind (st_sureAddr _) fun a => ?_
    exact St.bind (st_sliceBounds _ _ _ _ _ _) fun _ => St.bind (st_sizeOf _) fun _ => St.pure' _
  · exact st_slice _ _ _ _ _
theorem st_indexAt (t : TypeId) (x i : Value) : St P (Instr.indexAt t x i) := by
  unfold Instr.indexAt
  (repeat' (first | exact St.pure' _ | exact St.halt _ | exact (Nv.runtimePanic _).st | exact (Nv.boundsPanic _ _ _ _).st | exact st_underlying _ | exact st_sizeOf _ | exact st_asIntOf _ | exact st_sureAddr _ | exact st_asAddr _ | exact st_part _ _ _ | exact st_asAgg _ | exact st_sliceBound _ _ _ | exact st_sliceBounds _ _ _ _ _ _ | (refine St.bind ?_ fun _ => ?_) | split | dsimp only))
theorem st_index (t : TypeId) (x i : Value) : St P (Instr.index t x i) := by
  unfold Instr.index
  refine St.bind (st_asIntOf _) fun p => ?_
  obtain ⟨k, i⟩ := p
  refine St.bind (st_underlying t) fun d => ?_
  split
  · exact St.ite (St.bind (st_sizeOf _) fun _ => st_part _ _ _) (Nv.boundsPanic _ _ _ _).st
  · split
    · exact St.pure' _
    · exact (Nv.boundsPanic _ _ _ _).st
  · exact St.halt _
theorem st_field (t : TypeId) (x : Value) (f : Nat) : St P (Instr.field t x f) := by
  unfold Instr.field
  refine St.bind (st_underlying t) fun d => ?_
  split
  · split
    · exact St.bind (st_asAgg _) fun _ => st_part _ _ _
    · exact St.halt _
  · exact St.halt _
theorem st_extract (x : Value) (f : Nat) : St P (Instr.extract x f) := by
  unfold Instr.extract
  split
  · split <;> first | exact St.pure' _ | exact St.halt _
  · exact St.halt _
theorem st_mapM {γ δ : Type} (f : γ → Sem δ) (hf : ∀ x, St P (f x)) : ∀ (l : List γ), St P (l.mapM f)
  | [] => by simp only [List.mapM_nil]; exact St.pure' _
  | x :: r => by
    rw [List.mapM_cons]
    exact St.bind (hf x) fun _ => St.bind (st_mapM f hf r) fun _ => St.pure' _
theorem st_arrMapM {γ δ : Type} (f : γ → Sem δ) (hf : ∀ x, St P (f x)) (a : Array γ) : St P (a.mapM f) := by
  rw [Array.mapM_eq_mapM_toList]
  exact St.bind (st_mapM f hf _) fun _ => St.pure' _
theorem st_build (t : TypeId) (ps : Array (Nat × Value)) : St P (Instr.build t ps) := by
  unfold Instr.build
  refine St.bind (st_zeroValue t) fun z => ?_
  refine St.bind (st_underlying t) fun d => ?_
  split
  · refine St.bind (st_arrMapM _ (fun f => St.bind (st_sizeOf _) fun _ => St.pure' _) _) fun pl => ?_
    split <;> first | exact St.pure' _ | exact St.halt _
  · refine St.bind (st_sizeOf _) fun _ => ?_
    split <;> first | exact St.pure' _ | exact St.halt _
  · exact St.halt _
theorem st_makeInterface (t : TypeId) (x : Value) : St P (Instr.makeInterface t x) := by
  unfold Instr.makeInterface
  refine St.bind (st_underlying t) fun d => ?_
  split <;> first | exact St.pure' _ | exact St.halt _
end

/-! ### The operations' classes -/
section
variable {P : Program}

/-- It gives a value, leaves the world, and gives the same in every world. -/
def Pur (P : Program) (s : Sem Next) : Prop := ∀ w n w1, s.run P w = .ok n w1 → w1 = w ∧ (∃ v, n = .value v) ∧ ∀ w', s.run P w' = .ok n w'
/-- It gives a value, leaves the world, and gives the same where one more block lies behind. -/
def Rd (P : Program) (s : Sem Next) : Prop := ∀ w n w1, s.run P w = .ok n w1 → w1 = w ∧ (∃ v, n = .value v) ∧ ∀ o, s.run P (w.alloc o) = .ok n (w.alloc o)
/-- It gives a value, and lays one block. -/
def Alc (P : Program) (s : Sem Next) : Prop := ∀ w n w1, s.run P w = .ok n w1 → (∃ v, n = .value v) ∧ ∃ o, w1 = w.alloc o

theorem pur_v {s : Sem Value} (hs : St P s) : Pur P (do pure (Next.value (← s))) := by
  intro w n w1 h
  obtain ⟨h1, h2⟩ := (St.bind hs fun v => St.pure' (Next.value v)) w n w1 h
  refine ⟨h1, ?_, h2⟩
  rw [Sem.run_bind] at h
  cases hr : s.run P w with
  | halt x w2 => rw [hr] at h; simp at h
  | ok a w2 => rw [hr] at h; simp [Sem.run_pure] at h; exact ⟨a, h.1.symm⟩
theorem pur_f {α : Type} {s : Sem α} (f : α → Value) (hs : St P s) : Pur P (s >>= fun x => pure (Next.value (f x))) := by
  intro w n w1 h
  obtain ⟨h1, h2⟩ := (St.bind hs fun v => St.pure' (Next.value (f v))) w n w1 h
  refine ⟨h1, ?_, h2⟩
  rw [Sem.run_bind] at h
  cases hr : s.run P w with
  | halt x w2 => rw [hr] at h; simp at h
  | ok a w2 => rw [hr] at h; simp [Sem.run_pure] at h; exact ⟨f a, h.1.symm⟩
theorem pur_value (v : Value) : Pur P (pure (Next.value v)) := by
  intro w n w1 h
  obtain ⟨h1, h2⟩ := St.pure' (P := P) (Next.value v) w n w1 h
  simp [Sem.run_pure] at h
  exact ⟨h1, ⟨v, h.1.symm⟩, h2⟩
theorem pur_never {s : Sem Next} (hs : Nv P s) : Pur P s := fun w n w1 h => absurd h (hs w n w1)

/-- Neither a map nor a channel. -/
def noBox : Value → Bool
  | .map _ | .chan _ => false
  | _ => true
def isInt : Value → Bool
  | .int _ _ => true
  | _ => false
/-- Two values that are compared, or reckoned with, without a look at memory. -/
def plain2 : Value → Value → Bool
  | .int _ _, .int _ _ | .string _, .string _ | .bool _, .bool _ | .pointer none, .pointer _ | .pointer _, .pointer none
  | .slice none _ _, .slice _ _ _ | .slice _ _ _, .slice none _ _ | .map none, .map _ | .map _, .map none
  | .nilIface, .iface _ _ | .iface _ _, .nilIface => true
  | _, _ => false
/-- What an operation's operands must be, so that it looks at no memory. -/
def dynOp (o : Oper) (a : Act) : Bool :=
  match o.op with
  | .binOp _ _ x y _ => plain2 (a.eval x) (a.eval y)
  | .convert _ _ x => isInt (a.eval x)
  | .nilCheck x => match a.eval x with | .func _ _ _ => false | _ => true
  | .call { callee := .builtin .len, args := xs, .. } | .call { callee := .builtin .cap, args := xs, .. } => match xs[0]? with | some x => noBox (a.eval x) | none => false
  | .call { callee := .builtin .min, args := xs, .. } | .call { callee := .builtin .max, args := xs, .. } => xs.toList.all fun x => isInt (a.eval x)
  | _ => true
def isDyn (o : Oper) : Bool :=
  match o.op with
  | .binOp .. | .convert .. | .nilCheck _ | .call _ => true
  | _ => false
/-- The field has a size. -/
def fieldSized (P : Program) (s : TypeId) (f : Nat) : Bool :=
  match P.underlying s with
  | some (.struct fs) => match fs[f]? with | some fd => (match P.info? fd.type with | some i => i.size != 0 | none => false) | none => false
  | _ => false
/-- A conversion between integers, or of an integer to a string. -/
def convPlain (P : Program) (s d : TypeId) : Bool :=
  match P.underlying s, P.underlying d with
  | some (.int _), some (.int _) => true
  | some (.int _), some .string => true
  | _, _ => false
def pureOp (P : Program) (o : Oper) : Bool :=
  match o.op with
  | .move _ | .assign _ | .pick .. | .build .. | .field .. | .nilCheck _ | .slice .. | .indexAddr .. | .index .. | .binOp .. | .unOp .. | .makeInterface .. | .makeFunc .. | .extract .. => true
  | .fieldAddr s _ f => fieldSized P s f
  | .convert s d _ => convPlain P s d
  | .call { callee := .builtin .len, .. } | .call { callee := .builtin .cap, .. } | .call { callee := .builtin .min, .. } | .call { callee := .builtin .max, .. } => true
  | _ => false
def readOp (o : Oper) : Bool := match o.op with | .load .. => true | _ => false
def allocOp (o : Oper) : Bool := match o.op with | .alloc _ | .box .. | .buildSlice .. | .makeMap .. => true | _ => false

theorem st_unary (op : UnOp) (x : Value) : St P (Op.unary op x) := by
  unfold Op.unary Op.intArith Op.intBits
  (repeat' split) <;> first | exact St.pure' _ | exact St.halt _
theorem st_shift (op : BinOp) (k : IntKind) (x : Int) (k' : IntKind) (y : Int) : St P (Op.shift op k x k' y) := by
  unfold Op.shift
  (repeat' (first | split | dsimp only)) <;> first | exact St.pure' _ | exact St.halt _ | exact (Nv.runtimePanic _).st
theorem st_intArith (op : BinOp) (k : IntKind) (x y : Int) : St P (Op.intArith op k x y) := by
  unfold Op.intArith
  split <;> first | exact St.pure' _ | exact St.halt _
theorem st_intDiv (op : BinOp) (k : IntKind) (x y : Int) : St P (Op.intDiv op k x y) := by
  unfold Op.intDiv
  (repeat' split) <;> first | exact St.pure' _ | exact St.halt _ | exact (Nv.runtimePanic _).st
theorem st_intBits (op : BinOp) (k : IntKind) (x y : Int) : St P (Op.intBits op k x y) := by
  unfold Op.intBits
  (repeat' (first | split | dsimp only)) <;> first | exact St.pure' _ | exact St.halt _
theorem st_intCmp (op : BinOp) (x y : Int) : St P (Op.intCmp op x y) := by
  unfold Op.intCmp
  split <;> first | exact St.pure' _ | exact St.halt _
theorem st_stringOp (op : BinOp) (x y : ByteArray) : St P (Op.stringOp op x y) := by
  unfold Op.stringOp
  (repeat' (first | split | dsimp only)) <;> first | exact St.pure' _ | exact St.halt _
theorem st_binInt (op : BinOp) (t : TypeId) (k k' : IntKind) (a b : Int) : St P (binOp op t (.int k a) (.int k' b)) := by
  cases op <;> simp only [binOp] <;> first
    | exact st_shift _ _ _ _ _
    | (split <;> first | exact St.halt _ | exact st_intArith _ _ _ _ | exact st_intDiv _ _ _ _ | exact st_intBits _ _ _ _ | exact st_intCmp _ _ _)
theorem st_binString (op : BinOp) (t : TypeId) (a b : ByteArray) : St P (binOp op t (.string a) (.string b)) := by
  cases op <;> simp only [binOp] <;> exact st_stringOp _ _ _
theorem st_samePointer {a b : Option Addr} (h : a = none ∨ b = none) : St P (samePointer a b) := by
  rcases h with rfl | rfl
  · exact St.pure' _
  · cases a <;> exact St.pure' _
/-- '==' of two values of a plain kind. -/
theorem st_equalIn_plain (d : Nat) (t : TypeId) (x y : Value) (h : plain2 x y = true) : St P (Op.equalIn d t x y) := by
  cases d with
  | zero => exact St.halt _
  | succ d =>
    unfold Op.equalIn
    refine St.bind (st_underlying t) fun u => ?_
    unfold plain2 at h
    split at h <;> first
      | (cases h; done)
      | (split <;> first | exact St.pure' _ | exact St.halt _ | (split <;> first | exact St.pure' _ | exact St.halt _) | exact st_samePointer (by simp_all) | simp_all)
theorem st_equal (t : TypeId) (x y : Value) (h : plain2 x y = true) : St P (Op.equal t x y) := st_equalIn_plain _ t x y h
theorem st_binPlain (op : BinOp) (t : TypeId) (x y : Value) (h : plain2 x y = true) : St P (binOp op t x y) := by
  have he := st_equal (P := P) t x y h
  unfold plain2 at h
  split at h
  case h_1 => exact st_binInt _ _ _ _ _ _
  case h_2 => exact st_binString _ _ _ _
  all_goals first
    | (cases h; done)
    | (cases op <;> simp only [binOp] <;> first | exact St.bind he fun _ => St.pure' _ | exact St.halt _)
theorem st_eqGuard (op : BinOp) (t : TypeId) (x y : Operand) (a b : Value) (h : plain2 a b = true) : St P (eqGuard op t x y a b) := by
  unfold eqGuard
  refine St.ite (St.pure' _) ?_
  unfold plain2 at h
  split at h <;> first | (cases h; done) | exact St.pure' _
theorem st_len (ts : Array TypeId) (t : TypeId) (xs : Array Value) (h : (xs[0]?).all noBox = true) : St P (Builtin.len_ ts t xs) := by
  unfold Builtin.len_
  split
  · rename_i u x hu
    refine St.bind (st_underlying _) fun d => ?_
    split <;> first
      | exact St.pure' _
      | exact St.halt _
      | (simp_all [noBox]; done)
      | (refine St.bind (st_underlying _) fun d => ?_; split <;> first | exact St.pure' _ | exact St.halt _)
  · exact St.halt _
theorem st_cap (ts : Array TypeId) (t : TypeId) (xs : Array Value) (h : (xs[0]?).all noBox = true) : St P (Builtin.cap_ ts t xs) := by
  unfold Builtin.cap_
  split
  · rename_i u x hu
    refine St.bind (st_underlying _) fun d => ?_
    split <;> first
      | exact St.pure' _
      | exact St.halt _
      | (simp_all [noBox]; done)
      | (refine St.bind (st_underlying _) fun d => ?_; split <;> first | exact St.pure' _ | exact St.halt _)
  · exact St.halt _

theorem st_foldM (f : Value → Value → Sem Value) (hf : ∀ x y, isInt x = true → isInt y = true → St P (f x y) ∧ ∀ w v w1, (f x y).run P w = .ok v w1 → isInt v = true) :
    ∀ (l : List Value) (x : Value), isInt x = true → l.all isInt = true → St P (l.foldlM f x)
  | [], x, _, _ => by rw [List.foldlM_nil]; exact St.pure' _
  | y :: r, x, hx, hl => by
    rw [List.foldlM_cons]
    simp only [List.all_cons, Bool.and_eq_true] at hl
    intro w b w1 h
    obtain ⟨h1, h2⟩ := hf x y hx hl.1
    rw [Sem.run_bind] at h
    cases hr : (f x y).run P w with
    | halt z w2 => rw [hr] at h; simp at h
    | ok a w2 =>
      rw [hr, Result.andThen_ok] at h
      obtain ⟨rfl, h3⟩ := h1 _ _ _ hr
      obtain ⟨rfl, h4⟩ := st_foldM f hf r a (h2 _ _ _ hr) hl.2 _ _ _ h
      refine ⟨rfl, fun w' => ?_⟩
      rw [Sem.run_bind, h3 w', Result.andThen_ok]
      exact h4 w'
theorem st_min (ts : Array TypeId) (t : TypeId) (xs : Array Value) (h : xs.toList.all isInt = true) : St P (Builtin.min_ ts t xs) := by
  unfold Builtin.min_
  split
  · exact St.halt _
  · rename_i x r hx
    rw [hx] at h
    simp only [List.all_cons, Bool.and_eq_true] at h
    refine st_foldM _ (fun x y hx hy => ?_) r x h.1 h.2
    cases x <;> simp [isInt] at hx
    cases y <;> simp [isInt] at hy
    refine ⟨St.pure' _, fun w v w1 e => ?_⟩
    simp [Builtin.min2, Sem.run_pure] at e
    rw [← e.1]; rfl
theorem st_max (ts : Array TypeId) (t : TypeId) (xs : Array Value) (h : xs.toList.all isInt = true) : St P (Builtin.max_ ts t xs) := by
  unfold Builtin.max_
  split
  · exact St.halt _
  · rename_i x r hx
    rw [hx] at h
    simp only [List.all_cons, Bool.and_eq_true] at h
    refine st_foldM _ (fun x y hx hy => ?_) r x h.1 h.2
    cases x <;> simp [isInt] at hx
    cases y <;> simp [isInt] at hy
    refine ⟨St.pure' _, fun w v w1 e => ?_⟩
    simp [Builtin.max2, Sem.run_pure] at e
    rw [← e.1]; rfl
theorem St.congr {α : Type} {s t : Sem α} (h : ∀ w, s.run P w = t.run P w) (ht : St P t) : St P s := by
  intro w a w1 e
  rw [h] at e
  exact ⟨(ht _ _ _ e).1, fun w' => by rw [h]; exact (ht _ _ _ e).2 w'⟩
theorem run_underlying' {t : TypeId} {d : TypeDesc} (h : P.underlying t = some d) (w : World) : (underlying t).run P w = .ok d w := by
  simp [underlying, Go.program, Sem.run, Sem.run_bind, h]
theorem st_convert (s d : TypeId) (x : Value) (h : isInt x = true) (hc : convPlain P s d = true) : St P (convert s d x) := by
  cases x <;> simp [isInt] at h
  rename_i k n
  unfold convPlain at hc
  split at hc
  · rename_i k1 k2 h1 h2
    refine St.congr (t := Conv.intToInt k2 n) (fun w => ?_) (St.pure' _)
    unfold convert
    rw [Sem.run_bind, run_underlying' h1, Result.andThen_ok, Sem.run_bind, run_underlying' h2, Result.andThen_ok]
  · rename_i k1 h1 h2
    refine St.congr (t := Conv.intToString n) (fun w => ?_) (St.pure' _)
    unfold convert
    rw [Sem.run_bind, run_underlying' h1, Result.andThen_ok, Sem.run_bind, run_underlying' h2, Result.andThen_ok]
  · cases hc
theorem st_fieldAt (s : TypeId) (x : Value) (f : Nat) (h : fieldSized P s f = true) : St P (Instr.fieldAt s x f) := by
  unfold fieldSized at h
  cases hu : P.underlying s with
  | none => rw [hu] at h; simp at h
  | some d =>
    rw [hu] at h
    cases d <;> simp at h
    rename_i fs
    cases hf : fs[f]? with
    | none => rw [hf] at h; simp at h
    | some fd =>
      rw [hf] at h
      simp only at h
      cases hi : P.info? fd.type with
      | none => rw [hi] at h; simp at h
      | some i =>
        rw [hi] at h
        simp only [bne_iff_ne, ne_eq] at h
        have hs : ∀ w, (Go.sizeOf fd.type).run P w = .ok i.size w := fun w => by simp [Go.sizeOf, typeInfo, hi, Go.program, Sem.run, Sem.run_bind]
        refine St.congr (t := do let a ← Instr.sureAddr x; pure (Value.pointer (some (← fieldPlace a fd)))) (fun w => ?_) ?_
        · unfold Instr.fieldAt
          rw [Sem.run_bind, run_underlying' hu, Result.andThen_ok]
          simp only [hf]
        · refine St.bind (st_sureAddr x) fun a => St.bind ?_ fun _ => St.pure' _
          refine St.congr (t := pure (a.add fd.offset)) (fun w => ?_) (St.pure' _)
          unfold fieldPlace
          rw [Sem.run_bind, hs, Result.andThen_ok, if_neg h]

/-- A pure operation whose operands are plain. -/
theorem pur_of (o : Oper) (a : Act) (hp : pureOp P o = true) (hd : dynOp o a = true) : Pur P (execOp a.eval o) := by
  obtain ⟨dst, op, ty, pos, after, guard⟩ := o
  unfold pureOp at hp
  unfold dynOp at hd
  unfold execOp
  cases op <;> simp only at hp hd ⊢ <;> first
    | (cases hp; done)
    | exact pur_value _
    | exact pur_f _ (st_asBool _)
    | exact pur_v (st_build _ _)
    | exact pur_v (st_field _ _ _)
    | exact pur_v (st_fieldAt _ _ _ hp)
    | exact pur_v (st_sliceAt _ _ _ _ _)
    | exact pur_v (st_indexAt _ _ _)
    | exact pur_v (st_index _ _ _)
    | exact pur_v (st_unary _ _)
    | exact pur_v (st_convert _ _ _ hd hp)
    | exact pur_v (st_makeInterface _ _)
    | exact pur_v (St.pure' _)
    | exact pur_v (st_extract _ _)
    | exact pur_v (St.bind (st_eqGuard _ _ _ _ _ _ hd) fun _ => st_binPlain _ _ _ _ hd)
    | skip
  case nilCheck x =>
    generalize a.eval x = v at hd ⊢
    cases v with
    | pointer p => cases p <;> first | exact pur_never (Nv.runtimePanic _) | exact pur_value _
    | func f g h => simp at hd
    | _ => first | exact pur_never (Nv.runtimePanic _) | exact pur_value _
  case call c =>
    obtain ⟨callee, xs, ts⟩ := c
    cases callee with
    | value f => simp at hp
    | invoke r m => simp at hp
    | builtin b =>
      show Pur P (builtin b ts ty _ _)
      cases b <;> simp only at hp hd <;> first
        | (cases hp; done)
        | (refine pur_v (st_len _ _ _ ?_); simp only [Array.getElem?_map]; cases hx : xs[0]? <;> simp_all)
        | (refine pur_v (st_cap _ _ _ ?_); simp only [Array.getElem?_map]; cases hx : xs[0]? <;> simp_all)
        | (refine pur_v (st_min _ _ _ ?_); simpa [List.all_map, Function.comp_def] using hd)
        | (refine pur_v (st_max _ _ _ ?_); simpa [List.all_map, Function.comp_def] using hd)
end
end Go.Ser
