/-
  A nil slice that zeros are appended to: append(nil, make([]T, n)...). Each law says its conditions.
-/
import Derived.Test.YtjdlkemmcnncaaaSZ
import Derived.Lib.AppendZeros
set_option linter.unusedSimpArgs false
set_option linter.unusedVariables false
namespace Go.S
open Go.Hp Go.J Go.RowKit
open Go.Mem (Ty KTy blk suf addr_add)
section
variable {P : Program} {w0 : World} {ops : Array Oper} {Q : Exit → Act → World → Prop} {n : Nat} {E : Env} {Z : Zone} {As : List Asr} {o : Oper} {rest : List Oper} {α : Type} {T : Ty α}
theorem s_appendZ {s x : Operand} {t tn : TypeId} {d : Nat} {q kq : IntKind} {y : Int} (k : Nat) (hT : T.Ok P) (ht : P.underlying t = some (.slice T.id)) (htn : P.underlying tn = some (.int kq)) (hy : y = (k : Int)) (h0 : 0 < k) (hb : k * T.bytes ≤ 140737488355328) (h63 : k ≤ 9223372036854775807) (h : ∀ v', SL P w0 ops Q n rest ((d, v') :: E) Z (own T v' (List.replicate k T.zero) :: As)) (ho : o.op = .call { callee := .builtin .append, args := #[s, x], argTypes := #[t, tn] } := by rfl) (hs : ev E s = .slice none 0 0 := by rfl) (hx : ev E x = .int q y := by rfl) (hd : o.dst = some d := by rfl) (hk : okOp ops n E o = true := by kernel_rfl) : SL P w0 ops Q n (o :: rest) E Z As := fun H hH => by
  subst hy
  refine l_run (R := fun v' H' => Ow H' T v' (List.replicate k T.zero) ∧ Chg (fun _ => False) H H' ∧ blk v' = some H.size) hk (fun w ha => ?_) (fun v' H' ⟨a1, a2, a3⟩ => ?_)
  · obtain ⟨i, hi, hsz, hby, hz⟩ := hT.info
    rw [← hby] at hb
    have hr := Go.Lib.run_append_nil_zeros (P := P) w t tn o.type T.id i _ q kq ht htn hi hz k h0 (by rw [hsz]; exact hT.pos) (by omega) (by omega)
    have hge := grownCap_ge w k 0 T.id
    have hcm := grownCap_le_maxLen w k 0 T.id (by simpa [maxLen] using h63)
    have hzs : (T.val T.zero).cells.size = T.size := by have := hT.len T.zero; simpa [Ty.enc] using this
    have hchg := Chg.of_mem ((Mem.Chg.refl (fun _ => False) w).drew.alloc (.cells (Builtin.zeroCells (T.val T.zero).cells k ++ Builtin.zeroCells (T.val T.zero).cells (grownCap w k 0 T.id - k)) T.id))
    refine ⟨.slice (some ⟨w.heap.size, 0, none⟩) k (grownCap w k 0 T.id), w.drew.alloc (.cells (Builtin.zeroCells (T.val T.zero).cells k ++ Builtin.zeroCells (T.val T.zero).cells (grownCap w k 0 T.id - k)) T.id), ?_, ⟨rfl, ha.os, ha.tape, ha.output⟩, .inr ⟨w.heap.size, _, _, by rw [List.length_replicate], heap_alloc_new w.drew _, by simpa using hge, hcm, ?_, ?_⟩, by rw [← ha.heap]; exact hchg, by rw [← ha.heap]; rfl⟩
    · unfold execOp
      simp only [ho, resolve, invoke, builtin, Sem.run_bind, Sem.run_pure, Result.andThen_ok, List.map_toArray, List.map_cons, List.map_nil, hs, hx, hr]
    · simp only [Array.size_append, size_zeroCells, hzs, ← Nat.add_mul]
      exact Nat.le_of_eq (by congr 1; omega)
    · have e : (Builtin.zeroCells (T.val T.zero).cells k).toList = T.flat (List.replicate k T.zero) := by
        rw [← Go.Mem.madeCells_flat hT, ← hzs]; rfl
      have hl := hT.flat_len (List.replicate k T.zero)
      rw [Array.toList_append, e, ← hl]
      exact List.take_left
  · rw [hd]
    exact h v' H' (hH.new (a2.mono fun k _ hk => hk.elim) (S' := fun k => blk v' = some k) ⟨a1, fun k => Iff.rfl⟩ fun k hk => by rw [a3] at hk; cases hk; omega)
end
end Go.S
