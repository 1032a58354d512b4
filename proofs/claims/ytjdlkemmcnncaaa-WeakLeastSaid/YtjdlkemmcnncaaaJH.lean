/-
  Regions that draw their order, whose loads may stand ahead of their calls or behind them: the light operations are taken first, under a condition S on memory that holds behind every operation. The rules, and what each light operation yields.
-/
import Derived.Test.YtjdlkemmcnncaaaJE
import Derived.OrdersHeld
set_option linter.unusedSimpArgs false
set_option linter.unusedVariables false
set_option linter.unusedSectionVars false
namespace Go.J
open Go.Hp
open Go.Mem (Ty KTy blk elemAt addr_add addr_add_add pre suf aget aset adel apos Stamps aggDesc spliceAt)
section
variable {P : Program} {w0 : World} {Q : Exit → Act → World → Prop} {n : Nat} {E : Env} {H : Heap} {o : Oper} {rest l : List Oper} {S : Heap → Prop} {fuel : Nat} {listed : Array Bool}
/-- In this memory, the operation yields v and does nothing else. -/
structure Light (P : Program) (E : Env) (o : Oper) (H : Heap) (v : Value) : Prop where
  run : ∀ w : World, w.heap = H → (execOp (ev E) o).run P w = .ok (.value v) w
theorem r_pure (v : Value) (hr : ∀ w, (execOp (ev E) o).run P w = .ok (.value v) w) : Light P E o H v := ⟨fun w _ => hr w⟩
theorem r_add {t u : TypeId} {x y : Operand} (ho : o.op = .binOp .add t x y u) (a b : Int) (hx : ev E x = .int .i64 a) (hy : ev E y = .int .i64 b) (hb : -9223372036854775808 ≤ a + b ∧ a + b ≤ 9223372036854775807) : Light P E o H ((.int .i64 (a + b))) :=
  ⟨fun w _ => (bin_run ho _ _ hx hy eqg_int fun w => by simp [binOp, Op.intArith, wrap64 hb, Sem.run_pure]) w⟩
theorem r_sub {t u : TypeId} {x y : Operand} (ho : o.op = .binOp .sub t x y u) (a b : Int) (hx : ev E x = .int .i64 a) (hy : ev E y = .int .i64 b) (hb : -9223372036854775808 ≤ a - b ∧ a - b ≤ 9223372036854775807) : Light P E o H ((.int .i64 (a - b))) :=
  ⟨fun w _ => (bin_run ho _ _ hx hy eqg_int fun w => by simp [binOp, Op.intArith, wrap64 hb, Sem.run_pure]) w⟩
theorem r_addW {t u : TypeId} {x y : Operand} (ho : o.op = .binOp .add t x y u) (a b : Int) (hx : ev E x = .int .i64 a) (hy : ev E y = .int .i64 b) : Light P E o H ((.int .i64 (IntKind.i64.wrap (a + b)))) :=
  ⟨fun w _ => (bin_run ho _ _ hx hy eqg_int fun w => by simp [binOp, Op.intArith, Sem.run_pure]) w⟩
theorem r_subW {t u : TypeId} {x y : Operand} (ho : o.op = .binOp .sub t x y u) (a b : Int) (hx : ev E x = .int .i64 a) (hy : ev E y = .int .i64 b) : Light P E o H ((.int .i64 (IntKind.i64.wrap (a - b)))) :=
  ⟨fun w _ => (bin_run ho _ _ hx hy eqg_int fun w => by simp [binOp, Op.intArith, Sem.run_pure]) w⟩
theorem r_mul {t u : TypeId} {x y : Operand} (ho : o.op = .binOp .mul t x y u) (a b : Int) (hx : ev E x = .int .i64 a) (hy : ev E y = .int .i64 b) (hb : -9223372036854775808 ≤ a * b ∧ a * b ≤ 9223372036854775807) : Light P E o H ((.int .i64 (a * b))) :=
  ⟨fun w _ => (bin_run ho _ _ hx hy eqg_int fun w => by simp [binOp, Op.intArith, wrap64 hb, Sem.run_pure]) w⟩
theorem r_cmp {op : BinOp} {t u : TypeId} {x y : Operand} (ho : o.op = .binOp op t x y u) (k : IntKind) (a b : Int) (c : Bool) (hx : ev E x = .int k a) (hy : ev E y = .int k b) (hc : cmpI op a b = some c) : Light P E o H ((.bool c)) := by
  refine ⟨fun w _ => bin_run ho _ _ hx hy eqg_int (fun w => ?_) w⟩
  cases op <;> simp only [cmpI, Option.some.injEq] at hc <;> first | (cases hc; done) | skip
  all_goals
    subst hc
    simp only [binOp, ne_eq, not_true_eq_false, if_false, Op.intCmp]
    first
    | rfl
    | (simp [Sem.run_pure, bne, BEq.beq])
theorem r_cmpS {op : BinOp} {t u : TypeId} {x y : Operand} (ho : o.op = .binOp op t x y u) (a b : ByteArray) (c : Bool) (hx : ev E x = .string a) (hy : ev E y = .string b) (hc : cmpS op a b = some c) : Light P E o H ((.bool c)) := by
  refine ⟨fun w _ => bin_run ho _ _ hx hy (fun w => by unfold eqGuard; split <;> rfl) (fun w => ?_) w⟩
  cases op <;> simp only [cmpS, Option.some.injEq] at hc <;> first | (cases hc; done) | skip
  all_goals
    subst hc
    simp [binOp, Op.stringOp, toList_eq, Sem.run_pure]
theorem r_eqS {op : BinOp} {t u : TypeId} {x y : Operand} (ho : o.op = .binOp op t x y u) (xs ys : Array Value) (c : Bool) (hx : ev E x = .agg xs) (hy : ev E y = .agg ys) (hg : P.eqGuardType P.depth t = false) (hr : ∀ w, (binOp op t (.agg xs) (.agg ys)).run P w = .ok (.bool c) w) : Light P E o H ((.bool c)) :=
  ⟨fun w _ => (bin_run ho _ _ hx hy (eqg_agg hg) hr) w⟩
theorem r_loadC {t : TypeId} {x : Operand} (ho : o.op = .load t x) (g k : Nat) (arr : Array Value) (e : TypeId) (fr : Nat × Nat) (u : Value) (hx : ev E x = .pointer (some ⟨g, k, none⟩)) (ht : scalarT P t = true) (hB : H[g]? = some (.cells arr e fr)) (hu : arr[k]? = some u) : Light P E o H (u) := by
  refine ⟨fun w hw => ?_⟩
  unfold execOp
  simp only [ho, hx]
  refine Mem.run_v ?_
  unfold Instr.loadAt Instr.sureAddr
  rw [Sem.run_bind, Sem.run_pure, Result.andThen_ok]
  exact run_loadC ht (by rw [cell_of_row w g k arr e fr (by rw [hw]; exact hB)]; exact hu)
theorem r_loadA {t : TypeId} {x : Operand} (ho : o.op = .load t x) (g k m : Nat) (arr : Array Value) (e : TypeId) (fr : Nat × Nat) (cs : Array Value) (hx : ev E x = .pointer (some ⟨g, k, none⟩)) (ht : aggT P t m = true) (hB : H[g]? = some (.cells arr e fr)) (hl : cs.size = m) (hc : arr.toList.extract k (k + m) = cs.toList) : Light P E o H ((.agg cs)) := by
  refine ⟨fun w hw => ?_⟩
  unfold execOp
  simp only [ho, hx]
  refine Mem.run_v ?_
  unfold Instr.loadAt Instr.sureAddr
  rw [Sem.run_bind, Sem.run_pure, Result.andThen_ok]
  refine run_loadA ht (by rw [hw]; exact hB) cs hl (fun j u hj => ?_)
  have h1 : cs.toList[j]? = some u := by simpa using hj
  rw [← hc, List.extract_eq_take_drop, List.getElem?_take] at h1
  split at h1
  · rw [List.getElem?_drop] at h1
    simpa using h1
  · cases h1
theorem r_loadE {α : Type} {T : Ty α} {t : TypeId} {x : Operand} (ho : o.op = .load t x) (hT : T.Ok P) (hid : T.id = t) (v : Value) (k : Nat) (y : α) (u : Value) (L : List α) (hx : ev E x = .pointer (some (elemAt T.size v k))) (hv : Sl H T v L) (hy : L[k]? = some y) (hu : T.val y = u) : Light P E o H (u) := by
  subst hid hu
  refine ⟨fun w hw => ?_⟩
  subst hw
  unfold execOp
  simp only [ho, hx]
  exact Mem.run_v (Mem.run_loadElem hv.mem hT hy)
theorem r_loadF {α : Type} {T : Ty α} {t : TypeId} {x : Operand} (ho : o.op = .load t x) (hT : T.Ok P) (v : Value) (k j : Nat) (y : α) (u : Value) (L : List α) (hx : ev E x = .pointer (some ((elemAt T.size v k).add j))) (ht : scalarT P t = true) (hv : Sl H T v L) (hy : L[k]? = some y) (hu : (T.enc y)[j]? = some u) : Light P E o H (u) := by
  refine ⟨fun w hw => ?_⟩
  subst hw
  unfold execOp
  simp only [ho, hx]
  refine Mem.run_v ?_
  unfold Instr.loadAt Instr.sureAddr
  rw [Sem.run_bind, Sem.run_pure, Result.andThen_ok]
  exact run_loadC ht (hv.cell hT hy hu)
section
variable {α : Type} {T : Ty α} {v : Value} {L M : List α}
theorem r_len {x : Operand} {t : TypeId} (ho : o.op = .call { callee := .builtin .len, args := #[x], argTypes := #[t] }) (hT : T.Ok P) (ht : P.underlying t = some (.slice T.id)) (hx : ev E x = v) (hv : Sl H T v L) : Light P E o H ((.int .i64 L.length)) := by
  refine ⟨fun w hw => ?_⟩
  subst hw
  unfold execOp
  simp only [ho, resolve, invoke, builtin, Sem.run_bind, Sem.run_pure, Result.andThen_ok, List.map_toArray, List.map_cons, List.map_nil, hx, Mem.run_len hv.mem ht]
theorem r_index {x i : Operand} {t : TypeId} (ho : o.op = .indexAddr t x i) (hT : T.Ok P) (ht : P.underlying t = some (.slice T.id)) (q : IntKind) (k : Int) (hx : ev E x = v) (hi : ev E i = .int q k) (hv : Sl H T v L) (h0 : 0 ≤ k) (hl : k < L.length) (m : Nat) (hm : m = k.toNat) : Light P E o H ((.pointer (some (elemAt T.size v m)))) := by
  subst hm
  refine ⟨fun w hw => ?_⟩
  subst hw
  have e : k = (k.toNat : Int) := by omega
  unfold execOp
  simp only [ho, hx, hi]
  rw [e]
  exact Mem.run_v (Mem.run_index hv.mem hT ht (by omega) q)
theorem r_pre {x i : Operand} {t : TypeId} (ho : o.op = .slice t x none (some i) none) (hT : T.Ok P) (ht : P.underlying t = some (.slice T.id)) (q : IntKind) (k : Int) (hx : ev E x = v) (hi : ev E i = .int q k) (hv : Sl H T v L) (h0 : 0 ≤ k) (hl : k ≤ L.length) (m : Nat) (hm : m = k.toNat) : Light P E o H ((pre v m)) := by
  subst hm
  refine ⟨fun w hw => ?_⟩
  subst hw
  unfold execOp
  simp only [ho, hx, hi, Option.map_none, Option.map_some]
  exact Mem.run_v (Mem.run_pre hv.mem ht hT q k h0 hl)
theorem r_suf {x i : Operand} {t : TypeId} (ho : o.op = .slice t x (some i) none none) (hT : T.Ok P) (ht : P.underlying t = some (.slice T.id)) (q : IntKind) (k : Int) (hx : ev E x = v) (hi : ev E i = .int q k) (hv : Sl H T v L) (h0 : 0 ≤ k) (hl : k ≤ L.length) (m : Nat) (hm : m = k.toNat) : Light P E o H ((suf T.size v m)) := by
  subst hm
  refine ⟨fun w hw => ?_⟩
  subst hw
  unfold execOp
  simp only [ho, hx, hi, Option.map_none, Option.map_some]
  exact Mem.run_v (Mem.run_suf hv.mem ht hT q k h0 hl)
end
section
variable {κ β : Type} [DecidableEq κ] {K : KTy κ} {V : β → Value} {b : Nat} {m : List (κ × β)}
theorem r_lookup {x y : Operand} {t e : TypeId} (ho : o.op = .lookup t x y false) (hK : KTy.Ok (β := β) K P) (ht : P.underlying t = some (.map K.id e)) (z : Value) (hz : ∀ w, (zeroValue e).run P w = .ok z w) (k : κ) (hx : ev E x = .map (some b)) (hy : ev E y = K.val k) (hm : Mp H K V b m) : Light P E o H ((((aget m k).map V).getD z)) := by
  refine ⟨fun w hw => ?_⟩
  subst hw
  unfold execOp
  simp only [ho, hx, hy]
  exact Mem.run_v (Mem.run_lookup hm.mem hK ht k hz false)
theorem r_lookupOk {x y : Operand} {t e : TypeId} (ho : o.op = .lookup t x y true) (hK : KTy.Ok (β := β) K P) (ht : P.underlying t = some (.map K.id e)) (z : Value) (hz : ∀ w, (zeroValue e).run P w = .ok z w) (k : κ) (hx : ev E x = .map (some b)) (hy : ev E y = K.val k) (hm : Mp H K V b m) : Light P E o H ((.tuple #[((aget m k).map V).getD z, .bool (aget m k).isSome])) := by
  refine ⟨fun w hw => ?_⟩
  subst hw
  unfold execOp
  simp only [ho, hx, hy]
  exact Mem.run_v (Mem.run_lookup hm.mem hK ht k hz true)
end
theorem fin_panic {fn : Func} {R : Value → Heap → Prop} {c : List PanicEntry} {a : Act} {w : World} (h : Fin P fn w0 R (.panic c) a w) : False := by
  obtain ⟨_, v, hv, _⟩ := h
  cases hv
/-- No panic. -/
def NP (Q : Exit → Act → World → Prop) : Prop := ∀ c a w, Q (.panic c) a w → False
theorem np_then {K : Act → World → Prop} (h : NP Q) : NP (Exit.then K Q) := h
theorem np_block {id : Nat} (h : NP Q) : NP (Exit.inBlock id Q) := h
theorem np_fin {fn : Func} {R : Value → Heap → Prop} : NP (Fin P fn w0 R) := fun _ _ _ h => fin_panic h
/-- What is left of a region, in whatever order; S holds behind every operation. -/
def JH (P : Program) (w0 : World) (l : List Oper) (Q : Exit → Act → World → Prop) (n : Nat) (S : Heap → Prop) (fuel : Nat) (listed : Array Bool) (E : Env) (H : Heap) : Prop :=
  ∀ a w, Fits n a E → At w0 H w → wpAnyH P .any l.toArray Q (fun w => S w.heap) fuel listed a w
def heldQ (P : Program) (l : List Oper) (Q : Exit → Act → World → Prop) (S : Heap → Prop) (fuel : Nat) (listed : Array Bool) : Exit → Act → World → Prop
  | .normal, a, w => S w.heap ∧ wpAnyH P .any l.toArray Q (fun w => S w.heap) fuel listed a w
  | e, a, w => Q e a w
theorem c_held {id : Nat} (S : Heap → Prop) (hm : P.follows .mixedOrders = true) (h : JH P w0 l Q n S l.length (Array.replicate l.length false) E H) : JC P w0 (.region id l.toArray true) Q n E H :=
  fun a w hf ha => wp_region_held hm (by simpa using h a w.drew hf ⟨ha.heap, ha.os, ha.tape, ha.output⟩)
/-- The operation may be taken first. -/
def canTake (l : List Oper) (listed : Array Bool) (i : Nat) : Bool := Region.noSelect l.toArray && Region.free .any l.toArray listed i && (Region.ready .any l.toArray listed).contains i
theorem take_core (i : Nat) (hi : l[i]? = some o) (hc : canTake l listed i = true) (hQ : NP Q) (v : Value) (hd : dstOk n o.dst = true) (hy : ∀ a, Fits n a E → YieldsIf P l.toArray (fun w => S w.heap) o v a) (hS : S H)
    (h : JH P w0 l Q n S fuel (listed.setIfInBounds i true) (put E o.dst v) H) : JH P w0 l Q n S (fuel + 1) listed E H := by
  intro a w hf ha
  unfold canTake at hc
  simp only [Bool.and_eq_true] at hc
  exact wpAnyH_take (by simpa using hi) hc.1.1 hc.1.2 hc.2 (fun c a w hp => (hQ _ _ _ hp).elim) (hy a hf) (by show S w.heap; rw [ha.heap]; exact hS) (h _ w (hf.put o.dst v hd) ha)
/-- A light operation, first. -/
theorem h_light (i : Nat) (hi : l[i]? = some o) (hc : canTake l listed i = true) (hQ : NP Q) (hk : okOp l.toArray n E o = true) {v : Value} (hy : ∀ Hh, S Hh → Light P E o Hh v) (hS : S H)
    (h : JH P w0 l Q n S fuel (listed.setIfInBounds i true) (put E o.dst v) H) : JH P w0 l Q n S (fuel + 1) listed E H := by
  unfold okOp at hk
  simp only [Bool.and_eq_true] at hk
  obtain ⟨⟨⟨h1, h2⟩, h3⟩, h4⟩ := hk
  exact take_core i hi hc hQ v h3 (fun a hf => .inl ⟨want_spec hf h1, fun w hw => by rw [exec_eq hf h2 h4]; exact (hy _ hw).run w rfl⟩) hS h
theorem h_skip (i : Nat) (hi : l[i]? = some o) (hc : canTake l listed i = true) (hQ : NP Q) (hu : unwant l.toArray E o = true) (hd : dstOk n o.dst = true) (hS : S H)
    (h : JH P w0 l Q n S fuel (listed.setIfInBounds i true) (put E o.dst undef) H) : JH P w0 l Q n S (fuel + 1) listed E H :=
  take_core i hi hc hQ undef hd (fun a hf => .inr ⟨unwant_spec hf hu, rfl⟩) hS h
/-- The only operation that may come up. -/
theorem h_step (i : Nat) (hi : l[i]? = some o) (hr : Region.ready .any l.toArray listed = [i]) (h : JL P w0 l.toArray (heldQ P l Q S fuel (listed.setIfInBounds i true)) n [o] E H) : JH P w0 l Q n S (fuel + 1) listed E H := by
  intro a w hf ha
  refine wpAnyH_all hr (by simp) ?_
  intro j hj
  rw [List.mem_singleton] at hj
  subst hj
  have := h a w hf ha
  unfold wpOp
  rw [show l.toArray[j]? = some o by simpa using hi]
  exact this
theorem x_held (hS : S H) (h : JH P w0 l Q n S fuel listed E H) : JX w0 .normal (heldQ P l Q S fuel listed) n E H := fun a w hf ha => ⟨by rw [ha.heap]; exact hS, h a w hf ha⟩
theorem h_done (hr : Region.ready .any l.toArray listed = []) (h : JX w0 .normal Q n E H) : JH P w0 l Q n S fuel listed E H := fun a w hf ha => wpAnyH_done hr (h a w hf ha) _
/-- Both ways of a guard. -/
theorem h_fork (t : Nat) (c : Bool) (hh : has E t = true) (hv : look E t = .bool c) (h1 : c = true → JH P w0 l Q n S fuel listed ((t, .bool true) :: E) H) (h2 : c = false → JH P w0 l Q n S fuel listed ((t, .bool false) :: E) H) : JH P w0 l Q n S fuel listed E H := by
  have key : ∀ b, c = b → ∀ a, Fits n a E → Fits n a ((t, .bool b) :: E) := fun b hb a hf => hf.sub fun t' ht' => by
    rw [look_cons]
    rw [has_cons] at ht'
    by_cases e : t = t'
    · subst e; rw [if_pos rfl, hv, hb]; exact ⟨hh, rfl⟩
    · rw [if_neg e]; exact ⟨by simpa [e] using ht', rfl⟩
  cases hc : c with
  | true => exact fun a w hf ha => h1 hc a w (key _ hc a hf) ha
  | false => exact fun a w hf ha => h2 hc a w (key _ hc a hf) ha
end
end Go.J
