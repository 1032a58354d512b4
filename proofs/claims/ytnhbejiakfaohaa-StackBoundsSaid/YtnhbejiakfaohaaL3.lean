/-
  Plain facts of layer 17: calls, filled stacks, the chapter's example. No program in sight.
-/
import Derived.Test.YtnhbejiakfaohaaL2
import Derived.Test.YtnhbejiakfaohaaDefs
set_option linter.unusedSimpArgs false
set_option linter.unusedVariables false
namespace Go.Proofs.Ytnhbejiakfaohaa
def numV (n : Int) : Vl := ⟨2, n, 1, ByteArray.empty, 0⟩
abbrev Res3 := (Int × Vl × Int) × List Vl
def progR (L : List Vl) (lim : Int) (c : Cl) : Res3 :=
  if c.kind = 0 then ((0, zVl, (pushR L lim c.val).1), (pushR L lim c.val).2) else
  if c.kind = 1 then ((0, zVl, (popR L c.n).1), (popR L c.n).2) else
  if c.kind = 2 then ((0, zVl, (setTopR L lim c.n).1), (setTopR L lim c.n).2) else
  if c.kind = 3 then (((absR L c.n).1, zVl, (absR L c.n).2), L) else
  if c.kind = 4 then ((0, (atR L c.n).1, (atR L c.n).2), L) else
  if c.kind = 5 then ((0, zVl, (putR L c.n c.val).1), (putR L c.n c.val).2) else
  if c.kind = 6 then ((0, zVl, (rotR L c.n 1).1), (rotR L c.n 1).2) else
  if c.kind = 7 then ((0, zVl, (removeR L c.n).1), (removeR L c.n).2) else
  if c.kind = 8 then ((0, zVl, (rotR L c.n c.m).1), (rotR L c.n c.m).2) else
  if c.kind = 9 then ((0, zVl, (copyR L c.n c.m).1), (copyR L c.n c.m).2) else
  ((0, zVl, roomR L lim c.n), L)
def docR (L : List Vl) (lim : Int) (c : Cl) : Res3 :=
  if c.kind = 0 then ((0, zVl, (pushR L lim c.val).1), (pushR L lim c.val).2) else
  if c.kind = 1 then ((0, zVl, (popR L c.n).1), (popR L c.n).2) else
  if c.kind = 2 then ((0, zVl, (setTopR L lim c.n).1), (setTopR L lim c.n).2) else
  if c.kind = 3 then (((absR L c.n).1, zVl, (absR L c.n).2), L) else
  if c.kind = 4 then ((0, (atR L c.n).1, (atR L c.n).2), L) else
  if c.kind = 5 then ((0, zVl, (putR L c.n c.val).1), (putR L c.n c.val).2) else
  if c.kind = 6 then ((0, zVl, (rotR L c.n 1).1), (rotR L c.n 1).2) else
  if c.kind = 7 then ((0, zVl, (rremR L c.n).1), (rremR L c.n).2) else
  if c.kind = 8 then ((0, zVl, (rotR L c.n c.m).1), (rotR L c.n c.m).2) else
  if c.kind = 9 then ((0, zVl, (rcopyR L c.n c.m).1), (rcopyR L c.n c.m).2) else
  ((0, zVl, roomR L lim c.n), L)
def okL (L : List Vl) : Prop := ∀ v ∈ L, validB v = true
theorem doc_eq {L : List Vl} {lim : Int} {c : Cl} (h : okL L) : docR L lim c = progR L lim c := by
  unfold docR progR; rw [rrem_eq, rcopy_eq L _ _ h]
theorem zVl_valid : validB zVl = true := by decide
theorem ok_take {L : List Vl} (h : okL L) (n : Nat) : okL (L.take n) := fun v hv => h v (List.mem_of_mem_take hv)
theorem ok_drop {L : List Vl} (h : okL L) (n : Nat) : okL (L.drop n) := fun v hv => h v (List.mem_of_mem_drop hv)
theorem ok_app {L M : List Vl} (h : okL L) (k : okL M) : okL (L ++ M) := fun v hv => (List.mem_append.1 hv).elim (h v) (k v)
theorem ok_set {L : List Vl} (h : okL L) (n : Nat) {x : Vl} (hx : validB x = true) : okL (L.set n x) := fun v hv => (List.mem_or_eq_of_mem_set hv).elim (h v) (fun e => e ▸ hx)
theorem ok_getD {L : List Vl} (h : okL L) (n : Nat) : validB (L.getD n zVl) = true := by
  rw [List.getD_eq_getElem?_getD]
  cases e : L[n]? with
  | none => exact zVl_valid
  | some v => exact h v (List.mem_of_getElem? e)
theorem ok_rot {L : List Vl} (h : okL L) (i n : Int) : okL (rotR L i n).2 := by
  unfold rotR; split
  · exact ok_app (ok_take h _) (ok_app (ok_drop (ok_drop h _) _) (ok_take (ok_drop h _) _))
  · exact h
theorem ok_push {L : List Vl} (h : okL L) (lim : Int) (v : Vl) : okL (pushR L lim v).2 := by
  unfold pushR; split
  · exact h
  · split
    · exact h
    · rename_i hv _; exact ok_app h fun x hx => by rw [List.mem_singleton.1 hx]; simpa using hv
theorem ok_pop {L : List Vl} (h : okL L) (n : Int) : okL (popR L n).2 := by
  unfold popR; split
  · exact h
  · split
    · exact h
    · exact ok_take h _
theorem ok_setTop {L : List Vl} (h : okL L) (lim n : Int) : okL (setTopR L lim n).2 := by
  unfold setTopR; split
  · exact h
  · split
    · exact ok_take h _
    · exact ok_app h fun v hv => by rw [List.eq_of_mem_replicate hv]; exact zVl_valid
theorem ok_put {L : List Vl} (h : okL L) (i : Int) (v : Vl) : okL (putR L i v).2 := by
  unfold putR; split
  · split
    · exact h
    · rename_i hv; exact ok_set h _ (by simpa using hv)
  · exact h
theorem ok_rem {L : List Vl} (h : okL L) (i : Int) : okL (removeR L i).2 := by
  unfold removeR; split
  · exact ok_app (ok_take h _) (ok_drop h _)
  · exact h
theorem ok_copy {L : List Vl} (h : okL L) (i j : Int) : okL (copyR L i j).2 := by
  unfold copyR; split
  · split
    · exact ok_set h _ (ok_getD h _)
    · exact h
  · exact h
theorem ok_prog {L : List Vl} (h : okL L) (lim : Int) (c : Cl) : okL (progR L lim c).2 := by
  unfold progR
  split; exact ok_push h _ _
  split; exact ok_pop h _
  split; exact ok_setTop h _ _
  split; exact h
  split; exact h
  split; exact ok_put h _ _
  split; exact ok_rot h _ _
  split; exact ok_rem h _
  split; exact ok_rot h _ _
  split; exact ok_copy h _ _
  exact h
/-- The values that are accepted. -/
def fillL (l : List Vl) (i : Nat) : List Vl := (l.take i).filter validB
theorem fillL_yes {l : List Vl} {i : Nat} {y : Vl} (h : l[i]? = some y) (hv : validB y = true) : fillL l (i + 1) = fillL l i ++ [y] := by
  rw [fillL, List.take_add_one, h]; simp [fillL, hv]
theorem fillL_no {l : List Vl} {i : Nat} {y : Vl} (h : l[i]? = some y) (hv : validB y = false) : fillL l (i + 1) = fillL l i := by
  rw [fillL, List.take_add_one, h]; simp [fillL, hv]
theorem fillL_len (l : List Vl) (i : Nat) : (fillL l i).length ≤ i := by
  rw [fillL]; exact Nat.le_trans (List.length_filter_le _ _) (by simp; omega)
theorem fillL_ok (l : List Vl) (i : Nat) : okL (fillL l i) := fun v hv => (List.mem_filter.1 hv).2
theorem push_fill {L : List Vl} {lim : Int} {v : Vl} (h : validB v = true) (hl : (L.length : Int) < lim) : pushR L lim v = (0, L ++ [v]) := by
  rw [pushR, h]; simp; omega
theorem num_valid {n : Int} (h1 : -2147483647 ≤ n) (h2 : n ≤ 2147483647) : validB (numV n) = true := by
  simp [validB, numV, validN, h1, h2]
/-- The example's stack. -/
def LT (t : Nat) : List Vl := (List.range t).map fun (i : Nat) => numV ((i : Int) + 1)
theorem LT_succ (t : Nat) : LT (t + 1) = LT t ++ [numV ((t : Int) + 1)] := by simp [LT, List.range_succ]
theorem LT_len (t : Nat) : (LT t).length = t := by simp [LT]
end Go.Proofs.Ytnhbejiakfaohaa
