/-
  Parts of a slice that has its own block: copy into such a part; a slice against nil. No condition but those that each rule says.
-/
import Derived.Test.YtplkkhpokodbmaaSP
set_option linter.unusedSimpArgs false
set_option linter.unusedVariables false
namespace Go.S
open Go.Hp Go.J
open Go.Mem (Ty KTy blk elemAt pre suf)
section
variable {P : Program} {w0 : World} {ops : Array Oper} {Q : Exit → Act → World → Prop} {n : Nat} {E : Env} {Z : Zone} {As : List Asr} {o : Oper} {rest : List Oper} {α : Type} {T : Ty α} {v u v2 : Value} {L M : List α} {w : World}
/-- u is v[k : k + m]. -/
def Sub (T : Ty α) (v u : Value) (k m : Nat) : Prop :=
  (∃ p c, u = .slice p m c) ∧ (0 < m → ∃ g l cap c', v = .slice (some ⟨g, 0, none⟩) l cap ∧ u = .slice (some ⟨g, k * T.size, none⟩) m c' ∧ m ≤ c')
theorem Sub.suf {k m j : Nat} (h : Sub T v u k m) (hj : j ≤ m) : Sub T v (suf T.size u j) (k + j) (m - j) := by
  obtain ⟨⟨p, c, rfl⟩, h⟩ := h
  refine ⟨⟨_, _, rfl⟩, fun hp => ?_⟩
  obtain ⟨g, l, cap, c', hv, hu, hc⟩ := h (by omega)
  injection hu with e1 e2 e3
  subst e1 e3
  refine ⟨g, l, cap, c - j, hv, ?_, by omega⟩
  simp only [Go.Mem.suf]
  rw [if_neg (by omega)]
  simp only [Option.map_some, Mem.addr_add, Nat.add_mul]
theorem Sub.pre {k m j : Nat} (h : Sub T v u k m) (hj : j ≤ m) : Sub T v (pre u j) k j := by
  obtain ⟨⟨p, c, rfl⟩, h⟩ := h
  refine ⟨⟨_, _, rfl⟩, fun hp => ?_⟩
  obtain ⟨g, l, cap, c', hv, hu, hc⟩ := h (by omega)
  injection hu with e1 e2 e3
  subst e1 e3
  exact ⟨g, l, cap, c, hv, rfl, by omega⟩
/-- A slice against nil. -/
def nilS : Value → Bool
  | .slice none _ _ => true
  | _ => false
/-- A struct within an element of a slice. -/
theorem t_loadG {t : TypeId} {x : Operand} {k m : Nat} {y : α} (j : Nat) (cs : Array Value) (hT : T.Ok P) (a : Acc Z As T v L) (hy : L[k]? = some y) (hl : cs.size = m := by rfl) (hc : (T.enc y).extract j (j + m) = cs.toList := by rfl) (ho : o.op = .load t x := by rfl) (hx : ev E x = .pointer (some ((elemAt T.size v k).add j)) := by rfl) (ht : aggT P t m = true := by kernel_rfl) : Lt P E o Z As (.agg cs) := fun H hH => by
  have hsl := a H hH
  refine ⟨fun w hw => ?_⟩
  rcases hsl with ⟨_, rfl⟩ | ⟨g, off, cap, arr, e, fr, rfl, h1, h2, h3, h4, h5⟩
  · simp at hy
  have hadr : ev E x = .pointer (some ⟨g, off + k * T.size + j, none⟩) := by rw [hx]; simp only [elemAt, Go.Mem.addr_add]
  unfold execOp
  simp only [ho, hadr]
  refine Mem.run_v ?_
  unfold Instr.loadAt Instr.sureAddr
  rw [Sem.run_bind, Sem.run_pure, Result.andThen_ok]
  refine run_loadA ht (by rw [hw]; exact h1) cs hl (fun i u hi => ?_)
  have h6 : cs.toList[i]? = some u := by simpa using hi
  rw [← hc, List.extract_eq_take_drop, List.getElem?_take] at h6
  split at h6
  · rw [List.getElem?_drop] at h6
    have hjs : j + i < T.size := by rw [← hT.len y]; exact (List.getElem?_eq_some_iff.1 h6).1
    have h7 := hT.flat_get hy hjs
    rw [h6, ← h5, List.getElem?_take] at h7
    split at h7
    · rw [List.getElem?_drop] at h7
      rw [← Array.getElem?_toList, ← h7]; congr 1; omega
    · cases h7
  · cases h6
end
end Go.S
