/-
  Maps whose keys are structs that are compared cell by cell. Each law says its conditions.
-/
import Derived.Test.YtplkkhpokodbmaaSR
set_option linter.unusedSimpArgs false
set_option linter.unusedVariables false
namespace Go.Mem
section
variable {κ β : Type} [DecidableEq κ] {P : Program}
theorem findAsking_spec {K : KTy κ} (hs : ∀ k k' w, (Op.equal K.id (K.val k) (K.val k')).run P w = .ok (decide (k = k')) w) (k : κ) (w : World) : ∀ (es : List MapEntry) (m : List (κ × β)) (n : Nat), es.map (·.key) = m.map (K.val ·.1) →
    (Instr.findAsking K.id (K.val k) es n).run P w = .ok ((apos m k).bind fun i => (es[i]?).map fun e => (i + n, e.val)) w
  | [], m, n, h => by
    cases m with
    | nil => rfl
    | cons p r => simp at h
  | e :: es, m, n, h => by
    cases m with
    | nil => simp at h
    | cons p r =>
      simp only [List.map_cons, List.cons.injEq] at h
      unfold Instr.findAsking
      rw [Sem.run_bind, h.1, hs, Result.andThen_ok]
      by_cases hp : k = p.1
      · simp [hp, apos, Sem.run_pure]
      · have ih := findAsking_spec hs k w es r (n + 1) h.2
        have hp' : ¬ p.1 = k := fun e => hp e.symm
        simp only [hp, decide_false, ih, apos, hp', if_false, Bool.false_eq_true]
        cases apos r k with
        | none => rfl
        | some i => simp [Nat.add_assoc, Nat.add_comm 1 n]
theorem structK_ok {K : KTy κ} {fs : Array Field} (h : P.underlying K.id = some (.struct fs)) (hagg : ∀ k, ∃ cs, K.val k = .agg cs) (hc : ∀ (b : Bool) (k : κ) (w : World), (Instr.checkKey b 10000 K.id (K.val k)).run P w = .ok () w) (hb : ∀ k, Instr.sameBits 10000 (K.val k) (K.val k) = true)
    (hs : ∀ k k' w, (Op.equal K.id (K.val k) (K.val k')).run P w = .ok (decide (k = k')) w) : KTy.Ok (β := β) K P := by
  refine ⟨hc, hb, fun k es m he w => ?_⟩
  unfold Instr.findKey
  rw [Sem.run_bind, run_underlying h w, Result.andThen_ok]
  cases es with
  | nil =>
    cases m with
    | nil => rfl
    | cons p r => simp at he
  | cons e es =>
    cases m with
    | nil => simp at he
    | cons p r =>
      have h1 : Instr.findNow (.struct fs) (K.val k) (e :: es) 0 = none := by
        unfold Instr.findNow
        obtain ⟨cs, e1⟩ := hagg k
        rw [e1]; rfl
      rw [h1]
      have := findAsking_spec hs k w (e :: es) (p :: r) 0 he
      simpa using this
theorem equal_of_bin {t : TypeId} {a b : Array Value} {c : Bool} {w : World} (h : (binOp .eql t (.agg a) (.agg b)).run P w = .ok (.bool c) w) : (Op.equal t (.agg a) (.agg b)).run P w = .ok c w := by
  have h1 : binOp .eql t (.agg a) (.agg b) = (do pure (.bool (← Op.equal t (.agg a) (.agg b)))) := rfl
  rw [h1, Sem.run_bind] at h
  cases hr : (Op.equal t (.agg a) (.agg b)).run P w with
  | ok x w' => rw [hr, Result.andThen_ok, Sem.run_pure] at h; injection h with e1 e2; injection e1 with e1; subst e1; subst e2; rfl
  | _ => rw [hr] at h; cases h
end
end Go.Mem
