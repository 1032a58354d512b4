/-
  The logic of walks over memory in parts: rules for control, for operations that only read, for operations that write, and for calls. No condition but those that each rule says.
-/
import Derived.Test.YtjdlkemmcnncaaaSA
set_option linter.unusedSimpArgs false
set_option linter.unusedVariables false
namespace Go.S
open Go.Hp Go.J
open Go.Mem (Ty KTy blk elemAt addr_add addr_add_add pre suf aget aset adel apos Stamps aggDesc spliceAt)

section
variable {P : Program} {w0 : World} {ops : Array Oper} {Q : Exit → Act → World → Prop} {n : Nat} {E : Env} {Z : Zone} {As : List Asr} {o : Oper} {rest : List Oper}
def SL (P : Program) (w0 : World) (ops : Array Oper) (Q : Exit → Act → World → Prop) (n : Nat) (l : List Oper) (E : Env) (Z : Zone) (As : List Asr) : Prop := ∀ H, Holds Z As H → JL P w0 ops Q n l E H
def SK (P : Program) (w0 : World) (c : Code) (Q : Exit → Act → World → Prop) (n : Nat) (E : Env) (Z : Zone) (As : List Asr) : Prop := ∀ H, Holds Z As H → JC P w0 c Q n E H
def SX (w0 : World) (x : Exit) (Q : Exit → Act → World → Prop) (n : Nat) (E : Env) (Z : Zone) (As : List Asr) : Prop := ∀ H, Holds Z As H → JX w0 x Q n E H

/-! ### Control -/
theorem k_seq {x y : Code} (h : SK P w0 x (Exit.then (y.wp P Q) Q) n E Z As) : SK P w0 (.seq x y) Q n E Z As := fun H hH => c_seq (h H hH)
theorem k_skip (h : SX w0 .normal Q n E Z As) : SK P w0 .skip Q n E Z As := fun H hH => c_skip (h H hH)
theorem k_ret (h : SX w0 .ret Q n E Z As) : SK P w0 .ret Q n E Z As := fun H hH => c_ret (h H hH)
theorem k_exit {id : Nat} (h : SX w0 (.exit id) Q n E Z As) : SK P w0 (.exit id) Q n E Z As := fun H hH => c_exit (h H hH)
theorem k_block {id : Nat} {c : Code} (h : SK P w0 c (Exit.inBlock id Q) n E Z As) : SK P w0 (.block id c) Q n E Z As := fun H hH => c_block (h H hH)
theorem k_true {t : Operand} {x y : Code} (h : SK P w0 x Q n E Z As) (hv : ev E t = .bool true := by rfl) (hk : knows E t = true := by rfl) : SK P w0 (.cond t x y) Q n E Z As := fun H hH => c_true hk hv (h H hH)
theorem k_false {t : Operand} {x y : Code} (h : SK P w0 y Q n E Z As) (hv : ev E t = .bool false := by rfl) (hk : knows E t = true := by rfl) : SK P w0 (.cond t x y) Q n E Z As := fun H hH => c_false hk hv (h H hH)
theorem k_cond {t : Operand} {x y : Code} (c : Bool) (h1 : c = true → SK P w0 x Q n E Z As) (h2 : c = false → SK P w0 y Q n E Z As) (hv : ev E t = .bool c := by rfl) (hk : knows E t = true := by rfl) : SK P w0 (.cond t x y) Q n E Z As :=
  fun H hH => c_cond hk hv (fun e => h1 e H hH) (fun e => h2 e H hH)
theorem k_reg {id : Nat} {l : List Oper} (h : SL P w0 l.toArray Q n l E Z As) : SK P w0 (.region id l.toArray false) Q n E Z As := fun H hH => c_reg (h H hH)
theorem k_draw {id : Nat} {l : List Oper} (h : SL P w0 l.toArray (Ser.DynQ P l Q) n l E Z As) (hm : P.follows .mixedOrders = true := by kernel_rfl) (hk : Ser.check P l = true := by kernel_rfl) : SK P w0 (.region id l.toArray true) Q n E Z As := fun H hH => c_draw hm hk (h H hH)
theorem s_nil (h : SX w0 .normal Q n E Z As) : SL P w0 ops Q n [] E Z As := fun H hH => l_nil (h H hH)
theorem x_dynS {l : List Oper} (hd : ∀ H, Holds Z As H → (l.all fun o => !(Ser.clsOf P o == 0) || !(Ser.isDyn o) || dynOne l E o) = true) (h : SX w0 .normal Q n E Z As) : SX w0 .normal (Ser.DynQ P l Q) n E Z As := fun H hH => x_dyn (hd H hH) (h H hH)
theorem xs_then {y : Code} (h : SK P w0 y Q n E Z As) : SX w0 .normal (Exit.then (y.wp P Q) Q) n E Z As := h
theorem xs_block {id : Nat} (h : SX w0 .normal Q n E Z As) : SX w0 .normal (Exit.inBlock id Q) n E Z As := h
theorem xs_exit {id : Nat} {K : Act → World → Prop} (h : SX w0 (.exit id) Q n E Z As) : SX w0 (.exit id) (Exit.then K Q) n E Z As := h
theorem xs_here {id : Nat} (h : SX w0 .normal Q n E Z As) : SX w0 (.exit id) (Exit.inBlock id Q) n E Z As := fun H hH => x_here (h H hH)
theorem xs_other {id id' : Nat} (h : SX w0 (.exit id) Q n E Z As) (hne : Nat.beq id id' = false := by rfl) : SX w0 (.exit id) (Exit.inBlock id' Q) n E Z As := fun H hH => x_other hne (h H hH)
theorem xs_ret {K : Act → World → Prop} (h : SX w0 .ret Q n E Z As) : SX w0 .ret (Exit.then K Q) n E Z As := h
theorem xs_retBlock {id : Nat} (h : SX w0 .ret Q n E Z As) : SX w0 .ret (Exit.inBlock id Q) n E Z As := h

/-! ### The state spelt otherwise -/
theorem k_mem {c : Code} {Bs : List Asr} (hA : ∀ H, Holds Z As H → Holds Z Bs H) (h : SK P w0 c Q n E Z Bs) : SK P w0 c Q n E Z As := fun H hH => h H (hA H hH)
theorem s_mem {l : List Oper} {Bs : List Asr} (hA : ∀ H, Holds Z As H → Holds Z Bs H) (h : SL P w0 ops Q n l E Z Bs) : SL P w0 ops Q n l E Z As := fun H hH => h H (hA H hH)
theorem xs_mem {x : Exit} {Bs : List Asr} (hA : ∀ H, Holds Z As H → Holds Z Bs H) (h : SX w0 x Q n E Z Bs) : SX w0 x Q n E Z As := fun H hH => h H (hA H hH)
theorem k_memX {c : Code} {ι : Type} {Bs : ι → List Asr} {p : ι → Prop} (hA : ∀ H, Holds Z As H → ∃ x, p x ∧ Holds Z (Bs x) H) (h : ∀ x, p x → SK P w0 c Q n E Z (Bs x)) : SK P w0 c Q n E Z As := fun H hH => by
  obtain ⟨x, hx, hB⟩ := hA H hH; exact h x hx H hB
theorem s_memX {l : List Oper} {ι : Type} {Bs : ι → List Asr} {p : ι → Prop} (hA : ∀ H, Holds Z As H → ∃ x, p x ∧ Holds Z (Bs x) H) (h : ∀ x, p x → SL P w0 ops Q n l E Z (Bs x)) : SL P w0 ops Q n l E Z As := fun H hH => by
  obtain ⟨x, hx, hB⟩ := hA H hH; exact h x hx H hB
theorem xs_memX {c : Exit} {ι : Type} {Bs : ι → List Asr} {p : ι → Prop} (hA : ∀ H, Holds Z As H → ∃ x, p x ∧ Holds Z (Bs x) H) (h : ∀ x, p x → SX w0 c Q n E Z (Bs x)) : SX w0 c Q n E Z As := fun H hH => by
  obtain ⟨x, hx, hB⟩ := hA H hH; exact h x hx H hB
/-- A plain fact that memory holds. -/
theorem k_fact {c : Code} {p : Prop} (hA : ∀ H, Holds Z As H → p) (h : p → SK P w0 c Q n E Z As) : SK P w0 c Q n E Z As := fun H hH => h (hA H hH) H hH
theorem s_fact {l : List Oper} {p : Prop} (hA : ∀ H, Holds Z As H → p) (h : p → SL P w0 ops Q n l E Z As) : SL P w0 ops Q n l E Z As := fun H hH => h (hA H hH) H hH
theorem xs_fact {x : Exit} {p : Prop} (hA : ∀ H, Holds Z As H → p) (h : p → SX w0 x Q n E Z As) : SX w0 x Q n E Z As := fun H hH => h (hA H hH) H hH
theorem k_env {c : Code} (E' : Env) (hs : subB E E') (h : SK P w0 c Q n E' Z As) : SK P w0 c Q n E Z As := fun H hH => JC.sub E' hs (h H hH)
theorem s_env {l : List Oper} (E' : Env) (hs : subB E E') (h : SL P w0 ops Q n l E' Z As) : SL P w0 ops Q n l E Z As := fun H hH => l_env E' hs (h H hH)
/-- A piece of code up to a state that is named. -/
def Cut (w0 : World) (n : Nat) {ι : Type} (p : ι → Prop) (Ei : ι → Env) (Ai : ι → List Asr) (Z : Zone) : Act → World → Prop :=
  fun a w => ∃ i H, p i ∧ Fits n a (Ei i) ∧ At w0 H w ∧ Holds Z (Ai i) H
theorem k_cut {x y : Code} {ι : Type} (p : ι → Prop) (Ei : ι → Env) (Ai : ι → List Asr) (hx : SK P w0 x (Exit.then (Cut w0 n p Ei Ai Z) Q) n E Z As) (hy : ∀ i, p i → SK P w0 y Q n (Ei i) Z (Ai i)) : SK P w0 (.seq x y) Q n E Z As := fun H hH a w hf ha => by
  refine wp_seq (Code.wp_mono (fun e a w q => ?_) (hx H hH a w hf ha))
  cases e <;> first | exact q | skip
  obtain ⟨i, H', hp, h1, h2, h3⟩ := q
  exact hy i hp H' h3 a w h1 h2
theorem xs_cut {ι : Type} {p : ι → Prop} {Ei : ι → Env} {Ai : ι → List Asr} (i : ι) (hp : p i) (hE : subB E (Ei i)) (hA : ∀ H, Holds Z As H → Holds Z (Ai i) H) : SX w0 .normal (Exit.then (Cut w0 n p Ei Ai Z) Q) n E Z As :=
  fun H hH a w hf ha => ⟨i, H, hp, hf.of_sub hE, ha, hA H hH⟩

def rearr (As : List Asr) : List Nat → List Asr
  | [] => As
  | i :: is => match gt As i with | some A => A :: rearr (del As i) is | none => As
def dels (As : List Asr) : List Nat → List Asr
  | [] => As
  | i :: is => dels (del As i) is
theorem SepL.rearr {H : Heap} : ∀ {is : List Nat} {As : List Asr} {S : Nat → Prop}, SepL As H S → SepL (Go.S.rearr As is) H S := by
  intro is
  induction is with
  | nil => intro As S h; exact h
  | cons i is ih =>
    intro As S h
    show SepL (match gt As i with | some A => A :: Go.S.rearr (del As i) is | none => As) H S
    cases e : gt As i with
    | none => exact h
    | some A => exact (h.pull e).cons fun _ hr => ih hr
theorem Holds.rearr {H : Heap} (h : Holds Z As H) (is : List Nat) : Holds Z (Go.S.rearr As is) H := h.imp fun _ hS => hS.rearr
theorem del_none : ∀ {As : List Asr} {i : Nat}, gt As i = none → del As i = As
  | [], i, _ => by cases i <;> rfl
  | _ :: _, 0, h => by cases h
  | A :: r, i + 1, h => congrArg (A :: ·) (del_none (As := r) (i := i) h)
theorem Holds.dels {H : Heap} : ∀ {is : List Nat} {As : List Asr}, Holds Z As H → Holds Z (Go.S.dels As is) H
  | [], _, h => h
  | i :: is, As, h => Holds.dels (is := is) (As := del As i) (by
    cases e : gt As i with
    | none => rw [del_none e]; exact h
    | some A => exact h.drop e)
/-- Parts in another order, and without some. -/
theorem Holds.re {H : Heap} {Bs : List Asr} (is ds : List Nat) (h : Holds Z As H) (e : Go.S.dels (Go.S.rearr As is) ds = Bs := by rfl) : Holds Z Bs H := e ▸ (h.rearr is).dels

/-! ### Loops -/
theorem k_loop {c : Code} {ι : Type} (I : ι → Prop) (Ei : ι → Env) (Ai : ι → List Asr) (μ : ι → Nat) (i0 : ι) (h0 : I i0) (hE : subB E (Ei i0)) (hA : ∀ H, Holds Z As H → Holds Z (Ai i0) H)
    (round : ∀ i, I i → SK P w0 c (Exit.then (LoopK w0 n Ei (fun i H => I i ∧ Holds Z (Ai i) H) μ i) Q) n (Ei i) Z (Ai i)) : SK P w0 (.loop c) Q n E Z As :=
  fun H hH => c_loop Ei (fun i H => I i ∧ Holds Z (Ai i) H) μ i0 hE ⟨h0, hA H hH⟩ fun i H' ⟨hi, hh⟩ => round i hi H' hh
theorem xs_round {ι : Type} {I : ι → Prop} {Ei : ι → Env} {Ai : ι → List Asr} {μ : ι → Nat} {i : ι} (i' : ι) (hμ : μ i' < μ i) (hI : I i') (hE : subB E (Ei i')) (hA : ∀ H, Holds Z As H → Holds Z (Ai i') H) : SX w0 .normal (Exit.then (LoopK w0 n Ei (fun i H => I i ∧ Holds Z (Ai i) H) μ i) Q) n E Z As :=
  fun H hH => x_round i' hμ hE ⟨hI, hA H hH⟩

/-! ### Calls, entry, results -/
/-- A contract. -/
def SF (P : Program) (f : FuncId) (args : Array Value) (Z : Zone) (As : List Asr) (R : Value → List Asr → Prop) : Prop :=
  ∀ H, Holds Z As H → HC P f args H fun v H' => ∃ Bs, R v Bs ∧ Holds Z Bs H'
def FinS (P : Program) (fn : Func) (w0 : World) (Z : Zone) (R : Value → List Asr → Prop) : Exit → Act → World → Prop := Fin P fn w0 fun v H' => ∃ Bs, R v Bs ∧ Holds Z Bs H'
theorem sf_enter {f : FuncId} {fn : Func} {c : Code} {args : Array Value} {R : Value → List Asr → Prop} (hf : P.funcs[f]? = some fn) (m : Nat) (E : Env) (h : ∀ w0, SK P w0 c (FinS P fn w0 Z R) m E Z As)
    (hb : fn.body = some c := by rfl) (hm : fn.ntmps = m := by rfl) (hle : Nat.ble args.size m = true := by rfl) (hE : (args.toList.zipIdx.map fun p => (p.2, p.1)) = E := by rfl) : SF P f args Z As R :=
  fun H hH => enter hf hb m hm hle E hE fun w0 => h w0 H hH
theorem SF.mono {f : FuncId} {args : Array Value} {R R' : Value → List Asr → Prop} (h : SF P f args Z As R) (hR : ∀ v Bs, R v Bs → R' v Bs) : SF P f args Z As R' :=
  fun H hH => (h H hH).mono fun v H' ⟨Bs, hr, hB⟩ => ⟨Bs, hR _ _ hr, hB⟩
/-- A function that writes nothing old, in any memory. -/
theorem SF.frame {f : FuncId} {args : Array Value} {R : Value → List Asr → Prop} (h : ∀ H, Holds Z As H → SF P f args (zoneOf H) [] R) : SF P f args Z As fun v Bs => ∃ Cs, R v Cs ∧ Bs = Cs ++ As :=
  fun H hH => (h H hH H (Holds.start H)).mono fun v H' ⟨Cs, hr, hC⟩ => ⟨_, ⟨Cs, hr, rfl⟩, hH.join hC⟩
/-- .. as a contract over one heap. -/
theorem SF.hc {f : FuncId} {args : Array Value} {H : Heap} {R : Value → List Asr → Prop} (h : SF P f args (zoneOf H) [] R) : HC P f args H fun v H' => (∃ Bs, R v Bs) ∧ Chg (fun _ => False) H H' :=
  (h H (Holds.start H)).mono fun v H' ⟨Bs, hr, hB⟩ => ⟨⟨Bs, hr⟩, hB.chg⟩
theorem s_call {f : FuncId} {xs : Array Operand} {ts : Array TypeId} {vals : List Value} {R : Value → List Asr → Prop} {d : Nat} {As0 : List Asr} (is : List Nat) (hc : SF P f vals.toArray Z As0 R)
    (h : ∀ v Bs, R v Bs → SL P w0 ops Q n rest ((d, v) :: E) Z Bs) (hp : rearr As is = As0 := by rfl)
    (ho : o.op = .call { callee := .value (.func f), args := xs, argTypes := ts } := by rfl) (hx : (xs.toList.map (ev E)) = vals := by rfl) (hd : o.dst = some d := by rfl) (hfn : isFn P f = true := by kernel_rfl) (hk : okOp ops n E o = true := by kernel_rfl) : SL P w0 ops Q n (o :: rest) E Z As :=
  fun H hH => l_call ho vals hk hx hfn (hc H (hp ▸ hH.rearr is)) fun v H' ⟨Bs, hr, hB⟩ => by rw [hd]; exact h v Bs hr H' hB
theorem s_call0 {f : FuncId} {xs : Array Operand} {ts : Array TypeId} {vals : List Value} {R : Value → List Asr → Prop} {As0 : List Asr} (is : List Nat) (hc : SF P f vals.toArray Z As0 R)
    (h : ∀ v Bs, R v Bs → SL P w0 ops Q n rest E Z Bs) (hp : rearr As is = As0 := by rfl)
    (ho : o.op = .call { callee := .value (.func f), args := xs, argTypes := ts } := by rfl) (hx : (xs.toList.map (ev E)) = vals := by rfl) (hd : o.dst = none := by rfl) (hfn : isFn P f = true := by kernel_rfl) (hk : okOp ops n E o = true := by kernel_rfl) : SL P w0 ops Q n (o :: rest) E Z As :=
  fun H hH => l_call ho vals hk hx hfn (hc H (hp ▸ hH.rearr is)) fun v H' ⟨Bs, hr, hB⟩ => by rw [hd]; exact h v Bs hr H' hB
theorem s_pcall {f : FuncId} {xs : Array Operand} {ts : Array TypeId} {vals : List Value} {R : Value → List Asr → Prop} {d : Nat} (hc : ∀ H, Holds Z As H → SF P f vals.toArray (zoneOf H) [] R)
    (h : ∀ v Bs, R v Bs → SL P w0 ops Q n rest ((d, v) :: E) Z (Bs ++ As))
    (ho : o.op = .call { callee := .value (.func f), args := xs, argTypes := ts } := by rfl) (hx : (xs.toList.map (ev E)) = vals := by rfl) (hd : o.dst = some d := by rfl) (hfn : isFn P f = true := by kernel_rfl) (hk : okOp ops n E o = true := by kernel_rfl) : SL P w0 ops Q n (o :: rest) E Z As :=
  fun H hH => l_call ho vals hk hx hfn (hc H hH H (Holds.start H)) fun v H' ⟨Bs, hr, hB⟩ => by rw [hd]; exact h v Bs hr H' (hH.join hB)
/-- .. whose result is all. -/
theorem s_vcall {f : FuncId} {xs : Array Operand} {ts : Array TypeId} {vals : List Value} {R : Value → Prop} {d : Nat} (hc : ∀ H, Holds Z As H → SF P f vals.toArray (zoneOf H) [] fun v Bs => R v ∧ Bs = [])
    (h : ∀ v, R v → SL P w0 ops Q n rest ((d, v) :: E) Z As)
    (ho : o.op = .call { callee := .value (.func f), args := xs, argTypes := ts } := by rfl) (hx : (xs.toList.map (ev E)) = vals := by rfl) (hd : o.dst = some d := by rfl) (hfn : isFn P f = true := by kernel_rfl) (hk : okOp ops n E o = true := by kernel_rfl) : SL P w0 ops Q n (o :: rest) E Z As :=
  s_pcall hc (by rintro v _ ⟨hr, rfl⟩; exact h v hr) ho hx hd hfn hk
theorem and_t {a b : Bool} (h : (a && b) = true) : a = true ∧ b = true := by simpa using h
theorem or_f {a b : Bool} (h : (a || b) = false) : a = false ∧ b = false := by simpa using h
theorem not_t {a : Bool} (h : (!a) = true) : a = false := by simpa using h
theorem not_f {a : Bool} (h : (!a) = false) : a = true := by simpa using h
/-- Results. -/
def SI (P : Program) (E : Env) (Z : Zone) (As : List Asr) (rs : List ResultVar) (vs : List Value) : Prop := ∀ H, Holds Z As H → Items P E H rs vs
theorem SI.nil : SI P E Z As [] [] := fun _ _ => .nil
theorem SI.tmp (t : Tmp) {v : Value} {rs : List ResultVar} {vs : List Value} (h : SI P E Z As rs vs) (hv : J.look E t = v := by rfl) (hk : J.has E t = true := by rfl) : SI P E Z As (.tmp t :: rs) (v :: vs) := fun H hH => .cons (.tmp t v hk hv) (h H hH)
theorem SI.cell (t : Tmp) (ty : TypeId) {v : Value} {rs : List ResultVar} {vs : List Value} {g k : Nat} {arr : Array Value} {e : TypeId} (i : Nat) (h : SI P E Z As rs vs) (hv : J.look E t = .pointer (some ⟨g, k, none⟩) := by rfl) (hA : gt As i = some (blkA g arr e) := by rfl) (hu : arr[k]? = some v := by rfl) (ht : scalarT P ty = true := by kernel_rfl) (hk : J.has E t = true := by rfl) : SI P E Z As (.cell t ty :: rs) (v :: vs) :=
  fun H hH => .cons (.cell t ty v _ hk hv fun w hw => run_loadC ht (by show cellH w.heap _ = _; rw [hw]; exact (cellH_row (hH.blk hA)).trans hu)) (h H hH)
theorem SI.agg (t : Tmp) (ty : TypeId) {cs : Array Value} {rs : List ResultVar} {vs : List Value} {g k m : Nat} {arr : Array Value} {e : TypeId} (i : Nat) (h : SI P E Z As rs vs) (hv : J.look E t = .pointer (some ⟨g, k, none⟩) := by rfl) (hA : gt As i = some (blkA g arr e) := by rfl) (hl : cs.size = m := by rfl) (hc : arr.toList.extract k (k + m) = cs.toList := by rfl) (ht : aggT P ty m = true := by kernel_rfl) (hk : J.has E t = true := by rfl) : SI P E Z As (.cell t ty :: rs) (.agg cs :: vs) :=
  fun H hH => .cons (.cell t ty _ _ hk hv fun w hw => run_loadX ht hw (hH.blk hA) cs hl hc) (h H hH)
theorem xs_fin {fn : Func} {R : Value → List Asr → Prop} {rs : List ResultVar} (vs : List Value) (Bs : List Asr) (hi : SI P E Z As rs vs) (hA : ∀ H, Holds Z As H → Holds Z Bs H) (h : R (pack vs) Bs) (hr : fn.results.toList = rs := by rfl) : SX w0 .ret (FinS P fn w0 Z R) n E Z As :=
  fun H hH => x_fin _ (res_of hr (hi H hH)) ⟨Bs, h, hA H hH⟩
theorem xs_finN {fn : Func} {R : Value → List Asr → Prop} {rs : List ResultVar} (vs : List Value) (Bs : List Asr) (hi : SI P E Z As rs vs) (hA : ∀ H, Holds Z As H → Holds Z Bs H) (h : R (pack vs) Bs) (hr : fn.results.toList = rs := by rfl) : SX w0 .normal (FinS P fn w0 Z R) n E Z As :=
  fun H hH => x_finN _ (res_of hr (hi H hH)) ⟨Bs, h, hA H hH⟩
end
end Go.S
