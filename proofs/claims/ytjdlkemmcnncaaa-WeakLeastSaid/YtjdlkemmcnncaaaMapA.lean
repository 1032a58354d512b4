/-
  Maps in memory as lists of pairs: a look-up, a store, 'make', 'delete', 'len', 'clear'. Each law says its conditions.
-/
import Derived.Test.YtjdlkemmcnncaaaMemC
set_option linter.unusedSimpArgs false
set_option linter.unusedVariables false
namespace Go.Mem
open Go.RowKit

/-! ### Lists of pairs -/
section
variable {κ β : Type} [DecidableEq κ]
def aget : List (κ × β) → κ → Option β
  | [], _ => none
  | p :: r, k => if p.1 = k then some p.2 else aget r k
def aset : List (κ × β) → κ → β → List (κ × β)
  | [], k, x => [(k, x)]
  | p :: r, k, x => if p.1 = k then (k, x) :: r else p :: aset r k x
def adel : List (κ × β) → κ → List (κ × β)
  | [], _ => []
  | p :: r, k => if p.1 = k then r else p :: adel r k
def apos : List (κ × β) → κ → Option Nat
  | [], _ => none
  | p :: r, k => if p.1 = k then some 0 else (apos r k).map (· + 1)
theorem aget_aset (m : List (κ × β)) (k : κ) (x : β) (k' : κ) : aget (aset m k x) k' = if k' = k then some x else aget m k' := by
  induction m with
  | nil => simp only [aset, aget]; by_cases h : k = k' <;> simp [h, eq_comm]
  | cons p r ih =>
    unfold aset
    split
    · rename_i h; subst h; simp only [aget]; by_cases e : p.1 = k'
      · simp [e]
      · simp only [e, if_false]; rw [if_neg fun h : k' = p.1 => e h.symm]
    · simp only [aget, ih]; split <;> split <;> simp_all
theorem mem_keys_aset (m : List (κ × β)) (k : κ) (x : β) (k' : κ) : k' ∈ (aset m k x).map Prod.fst ↔ k' = k ∨ k' ∈ m.map Prod.fst := by
  induction m with
  | nil => simp [aset]
  | cons p r ih =>
    unfold aset
    split
    · rename_i h; subst h; simp
    · simp only [List.map_cons, List.mem_cons, ih]; grind
theorem nodup_aset {m : List (κ × β)} (h : (m.map Prod.fst).Nodup) (k : κ) (x : β) : ((aset m k x).map Prod.fst).Nodup := by
  induction m with
  | nil => simp [aset]
  | cons p r ih =>
    simp only [List.map_cons, List.nodup_cons] at h
    unfold aset
    split
    · rename_i e; subst e; simpa using h
    · rename_i e
      simp only [List.map_cons, List.nodup_cons]
      refine ⟨fun hm => ?_, ih h.2⟩
      rcases (mem_keys_aset r k x p.1).1 hm with h1 | h1
      · exact e h1
      · exact h.1 h1
theorem length_aset_le (m : List (κ × β)) (k : κ) (x : β) : (aset m k x).length ≤ m.length + 1 := by
  induction m with
  | nil => simp [aset]
  | cons p r ih => unfold aset; split <;> simp <;> omega
theorem aget_none_iff (m : List (κ × β)) (k : κ) : aget m k = none ↔ k ∉ m.map Prod.fst := by
  induction m with
  | nil => simp [aget]
  | cons p r ih => simp only [aget, List.map_cons, List.mem_cons]; split <;> grind
theorem mem_adel_sub (m : List (κ × β)) (k : κ) : ∀ p, p ∈ adel m k → p ∈ m := by
  induction m with
  | nil => simp [adel]
  | cons p r ih =>
    intro q hq
    unfold adel at hq
    split at hq
    · exact List.mem_cons_of_mem _ hq
    · rcases List.mem_cons.1 hq with rfl | h
      · simp
      · exact List.mem_cons_of_mem _ (ih q h)
theorem nodup_adel {m : List (κ × β)} (h : (m.map Prod.fst).Nodup) (k : κ) : ((adel m k).map Prod.fst).Nodup := by
  induction m with
  | nil => simp [adel]
  | cons p r ih =>
    simp only [List.map_cons, List.nodup_cons] at h
    unfold adel
    split
    · exact h.2
    · simp only [List.map_cons, List.nodup_cons]
      refine ⟨fun hm => h.1 ?_, ih h.2⟩
      obtain ⟨q, hq, e⟩ := List.mem_map.1 hm
      exact List.mem_map.2 ⟨q, mem_adel_sub _ _ _ hq, e⟩
theorem aget_adel {m : List (κ × β)} (h : (m.map Prod.fst).Nodup) (k k' : κ) : aget (adel m k) k' = if k' = k then none else aget m k' := by
  induction m with
  | nil => simp [adel, aget]
  | cons p r ih =>
    simp only [List.map_cons, List.nodup_cons] at h
    unfold adel
    split
    · rename_i e
      subst e
      by_cases hk : k' = p.1
      · subst hk
        rw [if_pos rfl]
        exact (aget_none_iff _ _).2 h.1
      · rw [if_neg hk]; simp only [aget]; rw [if_neg (fun e => hk e.symm)]
    · rename_i e
      simp only [aget, ih h.2]
      split <;> split <;> simp_all
theorem apos_lt {m : List (κ × β)} {k : κ} {i : Nat} (h : apos m k = some i) : i < m.length ∧ ∃ x, m[i]? = some (k, x) ∧ aget m k = some x := by
  induction m generalizing i with
  | nil => simp [apos] at h
  | cons p r ih =>
    unfold apos at h
    split at h
    · rename_i e; subst e; simp only [Option.some.injEq] at h; subst h; exact ⟨by simp, p.2, by simp, by simp [aget]⟩
    · rename_i e
      cases hp : apos r k with
      | none => rw [hp] at h; simp at h
      | some j =>
        rw [hp] at h
        simp only [Option.map_some, Option.some.injEq] at h
        subst h
        obtain ⟨h1, x, h2, h3⟩ := ih hp
        exact ⟨by simp; omega, x, by simpa using h2, by simp [aget, e, h3]⟩
theorem apos_none {m : List (κ × β)} {k : κ} (h : apos m k = none) : aget m k = none := by
  induction m with
  | nil => rfl
  | cons p r ih =>
    unfold apos at h
    split at h
    · cases h
    · rename_i e
      simp only [aget, e, if_false]
      exact ih (by simpa using h)
theorem aset_pos {m : List (κ × β)} {k : κ} {i : Nat} (h : apos m k = some i) (x : β) : aset m k x = m.set i (k, x) := by
  induction m generalizing i with
  | nil => simp [apos] at h
  | cons p r ih =>
    unfold apos at h
    split at h
    · rename_i e; simp only [Option.some.injEq] at h; subst h; simp [aset, e]
    · rename_i e
      cases hp : apos r k with
      | none => rw [hp] at h; simp at h
      | some j => rw [hp] at h; simp only [Option.map_some, Option.some.injEq] at h; subst h; simp [aset, e, ih hp]
theorem aset_new {m : List (κ × β)} {k : κ} (h : apos m k = none) (x : β) : aset m k x = m ++ [(k, x)] := by
  induction m with
  | nil => rfl
  | cons p r ih =>
    unfold apos at h
    split at h
    · cases h
    · rename_i e; simp [aset, e, ih (by simpa using h)]
theorem adel_pos {m : List (κ × β)} {k : κ} {i : Nat} (h : apos m k = some i) : adel m k = m.eraseIdx i := by
  induction m generalizing i with
  | nil => simp [apos] at h
  | cons p r ih =>
    unfold apos at h
    split at h
    · rename_i e; simp only [Option.some.injEq] at h; subst h; simp [adel, e]
    · rename_i e
      cases hp : apos r k with
      | none => rw [hp] at h; simp at h
      | some j => rw [hp] at h; simp only [Option.map_some, Option.some.injEq] at h; subst h; simp [adel, e, ih hp]
theorem adel_none {m : List (κ × β)} {k : κ} (h : apos m k = none) : adel m k = m := by
  induction m with
  | nil => rfl
  | cons p r ih =>
    unfold apos at h
    split at h
    · cases h
    · rename_i e; simp [adel, e, ih (by simpa using h)]
end

/-! ### Keys -/
structure KTy (κ : Type) where
  id : TypeId
  val : κ → Value
section
variable {κ β : Type} [DecidableEq κ] {P : Program}
/-- What a map asks of its keys. -/
structure KTy.Ok (K : KTy κ) (P : Program) : Prop where
  check : ∀ (b : Bool) (k : κ) (w : World), (Instr.checkKey b 10000 K.id (K.val k)).run P w = .ok () w
  bits : ∀ k, Instr.sameBits 10000 (K.val k) (K.val k) = true
  find : ∀ (k : κ) (es : List MapEntry) (m : List (κ × β)), es.map (·.key) = m.map (K.val ·.1) → ∀ w : World,
    (Instr.findKey K.id (K.val k) es).run P w = .ok ((apos m k).bind fun i => (es[i]?).map fun e => (i, e.val)) w

theorem findNow_spec {K : KTy κ} {d : TypeDesc} (hs : ∀ k k', Instr.sameNow d (K.val k) (K.val k') = some (decide (k' = k))) (k : κ) : ∀ (es : List MapEntry) (m : List (κ × β)) (n : Nat), es.map (·.key) = m.map (K.val ·.1) →
    Instr.findNow d (K.val k) es n = some ((apos m k).bind fun i => (es[i]?).map fun e => (i + n, e.val))
  | [], m, n, h => by
    cases m with
    | nil => rfl
    | cons p r => simp at h
  | e :: es, m, n, h => by
    cases m with
    | nil => simp at h
    | cons p r =>
      simp only [List.map_cons, List.cons.injEq] at h
      unfold Instr.findNow
      rw [h.1, hs]
      by_cases hp : p.1 = k
      · simp [hp, apos]
      · have ih := findNow_spec hs k es r (n + 1) h.2
        simp only [hp, decide_false, ih, apos, if_false]
        cases apos r k with
        | none => rfl
        | some i => simp [Nat.add_assoc, Nat.add_comm 1 n]
/-- Keys of an integer kind. -/
def intK (id : TypeId) : KTy Int := ⟨id, fun n => .int .i64 n⟩
def strK (id : TypeId) : KTy ByteArray := ⟨id, fun s => .string s⟩
theorem bytes_beq (a b : ByteArray) : (a == b) = decide (a = b) := by
  obtain ⟨a⟩ := a
  obtain ⟨b⟩ := b
  rw [Bool.eq_iff_iff]
  show (a == b) = true ↔ _
  simp
theorem checkKey_plain {id : TypeId} {d : TypeDesc} (h : P.underlying id = some d) (v : Value) (hd : ∀ ms, d ≠ .interface ms) (ha : ∀ n e, d ≠ .array n e) (hs : ∀ fs, d ≠ .struct fs) (b : Bool) (n : Nat) (w : World) : (Instr.checkKey b (n + 1) id v).run P w = .ok () w := by
  unfold Instr.checkKey
  rw [Sem.run_bind, run_underlying h, Result.andThen_ok]
  cases d <;> first
    | rfl
    | exact absurd rfl (hd _)
    | exact absurd rfl (ha _ _)
    | exact absurd rfl (hs _)
theorem intK_ok {id : TypeId} (h : P.underlying id = some (.int .i64)) : KTy.Ok (β := β) (intK id) P := by
  refine ⟨fun b k w => checkKey_plain h _ (by simp) (by simp) (by simp) b 9999 w, fun k => by simp [intK, Instr.sameBits], fun k es m he w => ?_⟩
  have := findNow_spec (K := intK id) (d := .int .i64) (fun k k' => by simp [Instr.sameNow, intK, eq_comm, Bool.beq_eq_decide_eq]) k es m 0 he
  unfold Instr.findKey
  rw [Sem.run_bind]
  have hu : (underlying (intK id).id).run P w = .ok (.int .i64) w := run_underlying h w
  rw [hu, Result.andThen_ok, this]
  simp [Sem.run_pure]
theorem strK_ok {id : TypeId} (h : P.underlying id = some .string) : KTy.Ok (β := β) (strK id) P := by
  refine ⟨fun b k w => checkKey_plain h _ (by simp) (by simp) (by simp) b 9999 w, fun k => by simp [strK, Instr.sameBits, bytes_beq], fun k es m he w => ?_⟩
  have := findNow_spec (K := strK id) (d := .string) (fun k k' => by simp [Instr.sameNow, strK, eq_comm, bytes_beq]) k es m 0 he
  unfold Instr.findKey
  rw [Sem.run_bind]
  have hu : (underlying (strK id).id).run P w = .ok .string w := run_underlying h w
  rw [hu, Result.andThen_ok, this]
  simp [Sem.run_pure]
end
end Go.Mem
