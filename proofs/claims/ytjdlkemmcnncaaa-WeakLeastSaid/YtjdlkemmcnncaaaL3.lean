/-
  The search with a number of steps, to compute with; the chapter's example. No condition but those that each law says.
-/
import Derived.Test.YtjdlkemmcnncaaaW6
set_option linter.unusedSimpArgs false
set_option linter.unusedVariables false
namespace Go.Proofs.Ytjdlkemmcnncaaa
open Go.S
def dfsN (l : List Ob) : Nat → List Int → List Int → List Int
  | 0, M, _ => M
  | n + 1, M, W => match W.getLast? with
    | none => M
    | some id => match fnd l id with
      | none => dfsN l n M W.dropLast
      | some o => if id ∈ M then dfsN l n M W.dropLast else dfsN l n (M ++ [id]) (W.dropLast ++ keptO o)
theorem dfsN_eq {l : List Ob} : ∀ (n : Nat) (M W : List Int), pot l M + W.length ≤ n → dfsN l n M W = dfs l M W
  | 0, M, W, h => by
    have : W = [] := List.eq_nil_of_length_eq_zero (by omega)
    subst this; rw [dfs_nil]; rfl
  | n + 1, M, W, h => by
    rcases List.eq_nil_or_concat W with rfl | ⟨W', id, rfl⟩
    · rw [dfs_nil]; rfl
    · rw [List.concat_eq_append] at h ⊢
      simp only [List.length_append, List.length_singleton] at h
      unfold dfsN
      simp only [List.getLast?_append, List.getLast?_singleton, Option.some_or, List.dropLast_append_cons, List.dropLast_singleton, List.append_nil]
      cases hf : fnd l id with
      | none => simp only; rw [dfs_none hf]; exact dfsN_eq n M W' (by omega)
      | some o =>
        simp only
        by_cases hm : id ∈ M
        · rw [if_pos hm, dfs_in hm]; exact dfsN_eq n M W' (by omega)
        · have := pot_add hm hf
          rw [if_neg hm, dfs_new hf hm]; exact dfsN_eq n _ _ (by simp only [List.length_append]; omega)
def stepEN (n : Nat) (l : List Ob) (s : List Int × Bool) (e : Ent) : List Int × Bool := if e.key ∈ s.1 then (dfsN l n s.1 [e.val], s.2 || decide (s.1.length < (dfsN l n s.1 [e.val]).length)) else s
def stepTN (n : Nat) (l : List Ob) (s : List Int × Bool) (o : Ob) : List Int × Bool := if o.id ∈ s.1 then o.ents.foldl (stepEN n l) s else s
def rndN (n : Nat) (l : List Ob) (M : List Int) : List Int × Bool := (tabs l).foldl (stepTN n l) (M, false)
def runsN (n : Nat) (l : List Ob) : Nat → List Int × Nat → List Int × Nat
  | 0, s => s
  | k + 1, s => if (rndN n l s.1).2 = true then runsN n l k ((rndN n l s.1).1, s.2 + 1) else ((rndN n l s.1).1, s.2)
theorem dfsN_one {n : Nat} {l : List Ob} (h : pot l [] + 1 ≤ n) (M : List Int) (v : Int) : dfsN l n M [v] = dfs l M [v] :=
  dfsN_eq n M [v] (by have := pot_mono (M := []) (N := M) (by simp) l; simp; omega)
theorem rndN_eq {n : Nat} {l : List Ob} (h : pot l [] + 1 ≤ n) (M : List Int) : rndN n l M = rnd l M := by
  have h1 : stepEN n l = stepE l := by funext s e; unfold stepEN stepE; rw [dfsN_one h]
  have h2 : stepTN n l = stepT l := by funext s o; unfold stepTN stepT; rw [h1]
  unfold rndN rnd; rw [h2]
theorem runsN_eq {n : Nat} {l : List Ob} (h : pot l [] + 1 ≤ n) : ∀ (k : Nat) (s : List Int × Nat), runsN n l k s = runs l k s
  | 0, s => rfl
  | k + 1, s => by unfold runsN runs; rw [rndN_eq h, runsN_eq h k]
def allN (n : Nat) (l : List Ob) (R : List Int) : List Int × Nat := runsN n l (l.length + 1) (dfsN l n [] R, 1)
theorem allN_eq {n : Nat} {l : List Ob} {R : List Int} (h : pot l [] + 1 ≤ n) (h2 : pot l [] + R.length ≤ n) : allN n l R = allR l R := by
  unfold allN allR; rw [runsN_eq h, dfsN_eq n [] R h2]
/-- The chapter's example. -/
def awG (s t : Sv) : List Ob := [⟨1, 0, 1, s, t, [2], [⟨2, 3⟩, ⟨4, 5⟩]⟩, ⟨2, 0, 0, ⟨none, 0, 0⟩, ⟨none, 0, 0⟩, [], []⟩, ⟨3, 0, 0, ⟨none, 0, 0⟩, ⟨none, 0, 0⟩, [], []⟩, ⟨4, 0, 0, ⟨none, 0, 0⟩, ⟨none, 0, 0⟩, [], []⟩, ⟨5, 0, 0, ⟨none, 0, 0⟩, ⟨none, 0, 0⟩, [], []⟩]
section
variable (s t : Sv)
theorem aw_chk : chk 0 (awG s t) = true := by rfl
theorem aw_pot0 : pot (awG s t) [] = 6 := by rfl
theorem aw_pot : pot (awG s t) [] ≤ 1000000 := by rw [aw_pot0]; decide
theorem aw_len : (awG s t).length ≤ 100000 := by show 5 ≤ 100000; decide
theorem aw_small : ∀ o ∈ awG s t, o.refs.length ≤ 400 ∧ o.ents.length ≤ 400 := by
  intro o ho
  simp only [awG, List.mem_cons, List.not_mem_nil, or_false] at ho
  rcases ho with rfl | rfl | rfl | rfl | rfl <;> exact ⟨by simp, by simp⟩
theorem aw_all : allR (awG s t) [1] = ([1, 2, 3], 2) := by
  rw [← allN_eq (n := 20) (by rw [aw_pot0]; decide) (by rw [aw_pot0]; decide)]; rfl
theorem aw_alive : aliveR (awG s t) [1] = [1, 2, 3] := by
  rw [aliveR_ok (aw_chk s t), aw_all]; rfl
theorem aw_coll : collL (awG s t) [1] = [(1, 0, 1, [2], [⟨2, 3⟩]), (2, 0, 0, [], []), (3, 0, 0, [], [])] := by
  rw [collL_ok (aw_chk s t), aw_alive]; rfl
theorem aw_free : collF (awG s t) [1] = [4, 5] := by
  rw [collF_ok (aw_chk s t), aw_alive]; rfl
theorem aw_rounds : roundsP (awG s t) [1] = 2 := by
  rw [roundsP_ok (aw_chk s t), (all_same (awG s t) [1]).2, aw_all]; rfl
end
theorem ent0 {l : List Ob} {a : Core} {r : List Core} (h : l.map Ob.c = a :: r) {y : Ob} (hy : l[0]? = some y) : y.ents = a.2.2.2.2 := by
  have h1 : (l.map Ob.c)[0]? = some y.c := by rw [List.getElem?_map, hy]; rfl
  rw [h] at h1
  have := Option.some.inj h1
  rw [this]
theorem each_nil {p : Ob → Prop} : ∀ x ∈ ([] : List Ob), p x := by simp
theorem each_cons {p : Ob → Prop} {a : Ob} {r : List Ob} (h : p a) (hr : ∀ x ∈ r, p x) : ∀ x ∈ a :: r, p x := by
  intro x hx
  rcases List.mem_cons.1 hx with rfl | hx
  · exact h
  · exact hr x hx
end Go.Proofs.Ytjdlkemmcnncaaa
