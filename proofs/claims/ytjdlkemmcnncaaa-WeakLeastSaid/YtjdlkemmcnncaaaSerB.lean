/-
  Loads and allocations: what a load gives is the same where one more block lies behind. No condition.
-/
import Derived.Test.YtjdlkemmcnncaaaSerA
set_option linter.unusedSimpArgs false
set_option linter.unusedVariables false
namespace Go.Ser
section
variable {P : Program}
/-! ### A load -/
theorem seen_alloc (w : World) (o : Obj) (at_ : Addr) (u : TypeId) (k : Addr) (at1 : Bool) {r : _} (h : w.seen P at_ u k at1 = .ok r) : (w.alloc o).seen P at_ u k at1 = .ok r := by
  unfold World.seen at h ⊢
  have hb : ∀ (b : Nat) (ob : Obj), w.heap[b]? = some ob → (w.alloc o).heap[b]? = some ob := fun b ob hb => by
    show (w.heap.push o)[b]? = _
    rw [Array.getElem?_push, if_neg (by have := (Array.getElem?_eq_some_iff.1 hb).1; omega)]; exact hb
  cases hx : w.heap[at_.block]? with
  | none => simp only [hx] at h; exfalso; revert h; simp only [bind, Except.bind, pure, Except.pure, throw, throwThe, MonadExceptOf.throw]; (repeat' split) <;> simp
  | some ob => rw [hb _ _ hx]; rw [hx] at h; exact h
/-- A program that only loads. -/
def RdS (P : Program) {α : Type} (s : Sem α) : Prop := ∀ w a w1, s.run P w = .ok a w1 → w1 = w ∧ ∀ o, s.run P (w.alloc o) = .ok a (w.alloc o)
theorem St.rd {α : Type} {s : Sem α} (h : St P s) : RdS P s := fun w a w1 e => ⟨(h _ _ _ e).1, fun o => (h _ _ _ e).2 _⟩
theorem RdS.bind {α β : Type} {s : Sem α} {f : α → Sem β} (hs : RdS P s) (hf : ∀ a, RdS P (f a)) : RdS P (s >>= f) := by
  intro w b w1 h
  rw [Sem.run_bind] at h
  cases hr : s.run P w with
  | halt x w2 => rw [hr] at h; simp at h
  | ok a w2 =>
    rw [hr] at h
    simp only [Result.andThen_ok] at h
    obtain ⟨rfl, h1⟩ := hs _ _ _ hr
    obtain ⟨rfl, h2⟩ := hf a _ _ _ h
    refine ⟨rfl, fun o => ?_⟩
    rw [Sem.run_bind, h1 o, Result.andThen_ok]
    exact h2 o
theorem rd_load (p : Addr) (m : Mode) : RdS P (load p m) := by
  intro w v w1 h
  simp only [load, Sem.run] at h ⊢
  have hb : ∀ (b : Nat) (ob : Obj), w.heap[b]? = some ob → ∀ o, (w.alloc o).heap[b]? = some ob := fun b ob hb o => by
    show (w.heap.push o)[b]? = _
    rw [Array.getElem?_push, if_neg (by have := (Array.getElem?_eq_some_iff.1 hb).1; omega)]; exact hb
  cases hx : w.heap[p.block]? with
  | none =>
    simp only [World.cell?, hx, World.farLoad, World.noCell] at h
    simp at h
  | some ob =>
    have hc : ∀ o, (w.alloc o).cell? p = w.cell? p := fun o => by simp only [World.cell?, hb _ _ hx o, hx]
    cases hcell : w.cell? p with
    | some v' =>
      rw [hcell] at h
      simp only [Sem.run, Result.ok.injEq] at h
      obtain ⟨rfl, rfl⟩ := h
      exact ⟨rfl, fun o => by rw [hc, hcell]⟩
    | none =>
      rw [hcell] at h
      simp only at h
      cases hf : w.farLoad P p (m == .atomic) with
      | error e => rw [hf] at h; simp at h
      | ok q =>
        rw [hf] at h
        obtain ⟨v', t⟩ := q
        simp only [Sem.run, Result.ok.injEq] at h
        obtain ⟨rfl, rfl⟩ := h
        refine ⟨rfl, fun o => ?_⟩
        rw [hc, hcell]
        have : (w.alloc o).farLoad P p (m == .atomic) = .ok (v', t) := by
          unfold World.farLoad at hf ⊢
          rw [hb _ _ hx o]
          rw [hx] at hf
          cases ob with
          | view at_ u =>
            simp only at hf ⊢
            unfold World.viewLoad at hf ⊢
            cases hs : w.seen P at_ u p (m == .atomic) with
            | error e => rw [hs] at hf; simp [bind, Except.bind] at hf
            | ok r => rw [seen_alloc w o _ _ _ _ hs]; rw [hs] at hf; exact hf
          | _ => simp at hf
        rw [this]
theorem rd_loadCellsFrom (p : Addr) : ∀ (n i : Nat) (acc : Array Value), RdS P (loadCellsFrom p i n acc)
  | 0, _, _ => (St.pure' _).rd
  | n + 1, i, acc => RdS.bind (rd_load _ _) fun _ => rd_loadCellsFrom p n _ _
theorem rd_loadVar (t : TypeId) (p : Addr) : RdS P (loadVar t p) := by
  unfold loadVar
  refine RdS.bind (st_isAgg t).rd fun b => ?_
  split
  · exact RdS.bind (st_sizeOf t).rd fun _ => RdS.bind (rd_loadCellsFrom _ _ _ _) fun _ => (St.pure' _).rd
  · exact rd_load _ _
theorem rd_of (o : Oper) (a : Act) (hp : readOp o = true) : Rd P (execOp a.eval o) := by
  obtain ⟨dst, op, ty, pos, after, guard⟩ := o
  unfold readOp at hp
  cases op <;> simp only at hp <;> first | (cases hp; done) | skip
  rename_i t x
  intro w n w1 h
  have key : RdS P (do pure (Next.value (← Instr.loadAt t (a.eval x)))) := RdS.bind (RdS.bind (st_sureAddr _).rd fun _ => rd_loadVar _ _) fun _ => (St.pure' _).rd
  obtain ⟨h1, h2⟩ := key w n w1 h
  refine ⟨h1, ?_, h2⟩
  change (do pure (Next.value (← Instr.loadAt t (a.eval x)))).run P w = .ok n w1 at h
  rw [Sem.run_bind] at h
  cases hr : (Instr.loadAt t (a.eval x)).run P w with
  | halt x w2 => rw [hr] at h; simp at h
  | ok v w2 => rw [hr] at h; simp [Sem.run_pure] at h; exact ⟨v, h.1.symm⟩

/-! ### An allocation -/
def AlS (P : Program) {α : Type} (s : Sem α) : Prop := ∀ w a w1, s.run P w = .ok a w1 → ∃ o, w1 = w.alloc o
theorem AlS.after {α β : Type} {s : Sem α} {f : α → Sem β} (hs : St P s) (hf : ∀ a, AlS P (f a)) : AlS P (s >>= f) := by
  intro w b w1 h
  rw [Sem.run_bind] at h
  cases hr : s.run P w with
  | halt x w2 => rw [hr] at h; simp at h
  | ok a w2 => rw [hr, Result.andThen_ok] at h; obtain ⟨rfl, _⟩ := hs _ _ _ hr; exact hf a _ _ _ h
theorem AlS.ahead {α β : Type} {s : Sem α} {f : α → Sem β} (hs : AlS P s) (hf : ∀ a, St P (f a)) : AlS P (s >>= f) := by
  intro w b w1 h
  rw [Sem.run_bind] at h
  cases hr : s.run P w with
  | halt x w2 => rw [hr] at h; simp at h
  | ok a w2 => rw [hr, Result.andThen_ok] at h; obtain ⟨o, rfl⟩ := hs _ _ _ hr; obtain ⟨rfl, _⟩ := hf a _ _ _ h; exact ⟨o, rfl⟩
theorem AlS.never {α : Type} {s : Sem α} (h : Nv P s) : AlS P s := fun w a w1 e => absurd e (h w a w1)
theorem al_newObj (o : Obj) : AlS P (newObj o) := by
  intro w a w1 h
  simp only [newObj, Sem.run, Result.ok.injEq] at h
  exact ⟨o, h.2.symm⟩
theorem al_newRow (t : TypeId) (c : Array Value) : AlS P (newRow t c) := AlS.ahead (al_newObj _) fun _ => St.pure' _
theorem st_askRoom (n : Nat) : St P (askRoom n) := by
  unfold askRoom
  split
  · intro w a w1 h
    simp only [mark, Sem.run, Result.ok.injEq] at h
    exact ⟨h.2.symm, fun w' => by simp only [mark, Sem.run, h.1]⟩
  · exact St.pure' _
theorem alc_v {s : Sem Value} (hs : AlS P s) : Alc P (do pure (Next.value (← s))) := by
  intro w n w1 h
  have h0 := (AlS.ahead hs fun v => St.pure' (Next.value v)) w n w1 h
  refine ⟨?_, h0⟩
  rw [Sem.run_bind] at h
  cases hr : s.run P w with
  | halt x w2 => rw [hr] at h; simp at h
  | ok a w2 => rw [hr] at h; simp [Sem.run_pure] at h; exact ⟨a, h.1.symm⟩
theorem al_row (t : TypeId) (c : Array Value) (f : Addr → Value) : AlS P (newRow t c >>= fun a => pure (f a)) := AlS.ahead (al_newRow _ _) fun _ => St.pure' _
theorem al_buildSlice (t : TypeId) (n : Nat) (ps : Array (Nat × Value)) : AlS P (Instr.buildSlice t n ps) := by
  unfold Instr.buildSlice
  refine AlS.after (st_underlying _) fun d => ?_
  split
  · refine AlS.after (st_sizeOf _) fun n => ?_
    dsimp only
    have tail : ∀ (zero : Array Value) (e : TypeId) (m : Nat), AlS P (match Instr.fill (fun i => some (i * n, n)) (Array.map (fun x => zero[x % zero.size]!) (Array.range (m * n))) ps.toList with
          | some cells => do
            let __do_lift ← newRow e cells
            pure (Value.slice (some __do_lift) m m)
          | x => stuck "buildSlice: a part of the wrong size") := fun zero e m => by
      split
      · exact al_row _ _ _
      · exact AlS.never (Nv.halt _)
    have rest : ∀ (e : TypeId) (m : Nat), AlS P (if m * n = 0 then do
        let zero ← pure #[]
        match Instr.fill (fun i => some (i * n, n)) (Array.map (fun x => zero[x % zero.size]!) (Array.range (m * n))) ps.toList with
          | some cells => do
            let __do_lift ← newRow e cells
            pure (Value.slice (some __do_lift) m m)
          | x => stuck "buildSlice: a part of the wrong size"
      else do
        let __do_lift ← zeroValue e
        let zero ← pure __do_lift.cells
        match Instr.fill (fun i => some (i * n, n)) (Array.map (fun x => zero[x % zero.size]!) (Array.range (m * n))) ps.toList with
          | some cells => do
            let __do_lift ← newRow e cells
            pure (Value.slice (some __do_lift) m m)
          | x => stuck "buildSlice: a part of the wrong size") := fun e m => by
      split
      · exact AlS.after (St.pure' _) fun z => tail z e m
      · exact AlS.after (st_zeroValue _) fun z => AlS.after (St.pure' _) fun z => tail z e m
    split
    · exact AlS.after (St.halt _) fun _ => rest _ _
    · exact rest _ _
  · exact AlS.never (Nv.halt _)
theorem al_makeMap (t : TypeId) (r : Option Value) : AlS P (Instr.makeMap t r) := by
  unfold Instr.makeMap
  have fin : AlS P (newObj (.map #[] 0) >>= fun a => pure (Value.map (some a))) := AlS.ahead (al_newObj _) fun _ => St.pure' _
  cases r with
  | none => exact fin
  | some h =>
    refine AlS.after (st_underlying _) fun d => ?_
    split
    · exact AlS.after (st_asInt _) fun _ => fin
    · exact AlS.never (Nv.halt _)
theorem alc_of (o : Oper) (a : Act) (hp : allocOp o = true) : Alc P (execOp a.eval o) := by
  obtain ⟨dst, op, ty, pos, after, guard⟩ := o
  unfold allocOp at hp
  cases op <;> simp only at hp <;> first | (cases hp; done) | skip
  · exact alc_v (AlS.after (st_zeroValue _) fun _ => AlS.ahead (al_newRow _ _) fun _ => St.pure' _)
  · exact alc_v (AlS.ahead (al_newRow _ _) fun _ => St.pure' _)
  · exact alc_v (al_buildSlice _ _ _)
  · exact alc_v (al_makeMap _ _)
end
end Go.Ser
