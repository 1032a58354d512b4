/-
  Slices with their block, from any place of it on: a queue that loses its head and grows at its end. Each law says its conditions.
-/
import Derived.Test.YtplkkhpokodbmaaSQ
import Derived.ArgAppend
set_option linter.unusedSimpArgs false
set_option linter.unusedVariables false
namespace Go.S
open Go.Hp Go.J Go.RowKit
open Go.Mem (Ty KTy blk suf addr_add)
/-- The slice v reads as L and may be written; its block is S. -/
def OwO {α : Type} (H : Heap) (T : Ty α) (v : Value) (L : List α) (S : Nat → Prop) : Prop :=
  ((∃ p, v = .slice p 0 0) ∧ L = [] ∧ ∀ k, ¬ S k) ∨
  ∃ g off cap arr, v = .slice (some ⟨g, off, none⟩) L.length cap ∧ H[g]? = some (.cells arr T.id (0, 0)) ∧ L.length ≤ cap ∧ cap ≤ maxLen ∧ off + cap * T.size ≤ arr.size ∧
    (arr.toList.drop off).take (L.length * T.size) = T.flat L ∧ ∀ k, S k ↔ k = g
section
variable {α : Type} {T : Ty α} {v : Value} {L M : List α} {H H' : Heap} {S : Nat → Prop} {P : Program} {Z : Zone} {As : List Asr}
theorem OwO.sl (h : OwO H T v L S) : Sl H T v L := by
  rcases h with ⟨h1, h2, _⟩ | ⟨g, off, cap, arr, rfl, h1, h2, h3, h4, h5, _⟩
  · exact .inl ⟨h1, h2⟩
  · exact .inr ⟨g, off, cap, arr, _, _, rfl, h1, h2, h3, fun _ => h4, h5⟩
theorem OwO.of {v : Value} (h : Ow H T v L) (hS : ∀ k, S k ↔ blk v = some k) : OwO H T v L S := by
  rcases h with ⟨rfl, rfl⟩ | ⟨g, cap, arr, rfl, h1, h2, h3, h4, h5⟩
  · exact .inl ⟨⟨none, rfl⟩, rfl, fun k hk => by have := (hS k).1 hk; simp [blk, Value.ownBlock] at this⟩
  · refine .inr ⟨g, 0, cap, arr, rfl, h1, h2, h3, by omega, by simpa using h5, fun k => (hS k).trans ?_⟩
    simp only [blk, Value.ownBlock, Option.some.injEq]; exact eq_comm
theorem OwO.suf (h : OwO H T v L S) (hT : T.Ok P) (n : Nat) (hn : n ≤ L.length) : OwO H T (Go.Mem.suf T.size v n) (L.drop n) S := by
  rcases h with ⟨⟨p, rfl⟩, rfl, h⟩ | ⟨g, off, cap, arr, rfl, h1, h2, h3, h4, h5, hS⟩
  · simp at hn; subst hn; exact .inl ⟨⟨_, rfl⟩, rfl, h⟩
  · by_cases hcn : cap = n
    · have : L.length = n := by omega
      refine .inr ⟨g, off, 0, arr, by simp [Mem.suf, hcn, this], h1, by simp; omega, by simp, by omega, ?_, hS⟩
      rw [List.drop_of_length_le (by omega)]
      simp [Ty.flat]
    · refine .inr ⟨g, off + n * T.size, cap - n, arr, by simp [Mem.suf, hcn, addr_add], h1, by simp; omega, by omega, ?_, ?_, hS⟩
      · have : (cap - n) * T.size + n * T.size = cap * T.size := by rw [← Nat.add_mul]; congr 1; omega
        omega
      · rw [← hT.flat_drop, ← h5, List.drop_take, List.drop_drop, List.length_drop, Nat.sub_mul]
end
section
variable {P : Program} {w0 : World} {ops : Array Oper} {Q : Exit → Act → World → Prop} {n : Nat} {E : Env} {Z : Zone} {As : List Asr} {o : Oper} {rest : List Oper} {α : Type} {T : Ty α} {v : Value} {L M : List α}
end
end Go.S
