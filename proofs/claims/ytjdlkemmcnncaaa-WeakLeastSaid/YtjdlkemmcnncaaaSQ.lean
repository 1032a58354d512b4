/-
  Parts of a slice that has its own block: copy into such a part; a slice against nil. No condition but those that each rule says.
-/
import Derived.Test.YtjdlkemmcnncaaaSP
set_option linter.unusedSimpArgs false
set_option linter.unusedVariables false
namespace Go.S
open Go.Hp Go.J
open Go.Mem (Ty KTy blk elemAt pre suf)
section
variable {P : Program} {w0 : World} {ops : Array Oper} {Q : Exit → Act → World → Prop} {n : Nat} {E : Env} {Z : Zone} {As : List Asr} {o : Oper} {rest : List Oper} {α : Type} {T : Ty α} {v u v2 : Value} {L M : List α} {w : World}
/-- u is v[k : k + m]. -/
def Sub (T : Ty α) (v u : Value) (k m : Nat) : Prop :=
  (∃ p c, u = .slice p m c) ∧ (0 < m → ∃ g l cap c', v = .slice (some ⟨g, 0, none⟩) l cap ∧ u = .slice (some ⟨g, k * T.size, none⟩) m c' ∧ m ≤ c')
theorem Sub.self {H : Heap} (h : Ow H T v L) : Sub T v v 0 L.length := by
  rcases h with ⟨rfl, rfl⟩ | ⟨g, cap, arr, rfl, _, hc, _⟩
  · exact ⟨⟨_, _, rfl⟩, fun h => absurd h (by simp)⟩
  · exact ⟨⟨_, _, rfl⟩, fun _ => ⟨g, L.length, cap, cap, rfl, by simp, hc⟩⟩
theorem Sub.suf {k m j : Nat} (h : Sub T v u k m) (hj : j ≤ m) : Sub T v (suf T.size u j) (k + j) (m - j) := by
  obtain ⟨⟨p, c, rfl⟩, h⟩ := h
  refine ⟨⟨_, _, rfl⟩, fun hp => ?_⟩
  obtain ⟨g, l, cap, c', hv, hu, hc⟩ := h (by omega)
  injection hu with e1 e2 e3
  subst e1 e3
  refine ⟨g, l, cap, c - j, hv, ?_, by omega⟩
  simp only [Go.Mem.suf]
  rw [if_neg (by omega)]
  simp only [Option.map_some, Mem.addr_add, Nat.add_mul]
theorem Sub.pre {k m j : Nat} (h : Sub T v u k m) (hj : j ≤ m) : Sub T v (pre u j) k j := by
  obtain ⟨⟨p, c, rfl⟩, h⟩ := h
  refine ⟨⟨_, _, rfl⟩, fun hp => ?_⟩
  obtain ⟨g, l, cap, c', hv, hu, hc⟩ := h (by omega)
  injection hu with e1 e2 e3
  subst e1 e3
  exact ⟨g, l, cap, c, hv, rfl, by omega⟩
theorem run_copySub (hT : T.Ok P) {dT sT ty : TypeId} (ht : P.underlying dT = some (.slice T.id)) {k m : Nat} (hv : Mem.Ow w T v L) (hs : Sub T v u k m) (hkm : k + m ≤ L.length) (h2 : Mem.Sl w T v2 M) :
    ∃ w', (Builtin.copy_ #[dT, sT] ty #[u, v2]).run P w = .ok (.int .i64 (min M.length m : Nat)) w' ∧ Mem.Ow w' T v (L.take k ++ (M.take m ++ L.drop (k + min M.length m))) ∧ Mem.Chg (fun j => blk v = some j) w w' := by
  obtain ⟨i, hi, hsz, hby, hz⟩ := hT.info
  have hlenL := hT.flat_len L
  have hlenM := hT.flat_len M
  have hn : Nat.min M.length m = min M.length m := rfl
  have hlm : min M.length m * T.size ≤ M.length * T.size := Nat.mul_le_mul_right _ (Nat.min_le_left _ _)
  have hcl : ((T.flat M).take (min M.length m * T.size)).length = min M.length m * T.size := by rw [List.length_take, hlenM]; omega
  have hlen : (Builtin.lenOf v2).run P w = .ok M.length w := by
    rcases h2 with ⟨⟨p2, rfl⟩, rfl⟩ | ⟨g2, off2, cap2, arr2, e2, fr2, rfl, _⟩ <;> simp [Builtin.lenOf, Sem.run_pure]
  have hfc : (Builtin.firstCells T.size (min M.length m) v2).run P w = .ok ((T.flat M).take (min M.length m * T.size)).toArray w := by
    rcases h2 with ⟨⟨p2, rfl⟩, rfl⟩ | ⟨g2, off2, cap2, arr2, e2, fr2, rfl, hg2, hc2, hm2, hf2, hr2⟩
    · cases p2 <;> simp [Builtin.firstCells, loadCells, loadCellsFrom, Ty.flat]
    · have hcs : ∀ j u, ((T.flat M).take (min M.length m * T.size))[j]? = some u → w.cell? ((⟨g2, off2, none⟩ : Addr).add j) = some u := by
        intro j u hj
        rw [List.getElem?_take] at hj
        split at hj
        · rw [← hr2, List.getElem?_take] at hj
          split at hj
          · rw [List.getElem?_drop] at hj
            rw [Mem.addr_add, cell_of_row w g2 _ arr2 e2 fr2 hg2, ← Array.getElem?_toList]; exact hj
          · cases hj
        · cases hj
      have hload := run_loadCells_list (P := P) w ⟨g2, off2, none⟩ _ hcs
      rw [hcl] at hload
      exact hload
  have hlen2 : (L.take k ++ (M.take m ++ L.drop (k + min M.length m))).length = L.length := by simp; omega
  obtain ⟨⟨p, c, rfl⟩, hp⟩ := hs
  by_cases hq : min M.length m = 0
  · refine ⟨w, ?_, ?_, Mem.Chg.refl _ _⟩
    · rw [hq] at hfc
      simp only [Nat.zero_mul, List.take_zero] at hfc
      simp only [Builtin.copy_, Sem.run_bind, run_underlying ht, Result.andThen_ok, hlen, Sem.run_pure, sizeOf, typeInfo, program, Sem.run, hi, hsz, hn, hq, hfc, goInt, List.getElem?_toArray, List.getElem?_cons_zero, List.getElem?_cons_succ]
      cases p <;> simp [storeCells, Sem.run_pure, Sem.run_bind]
    · have e : M.take m = [] := by
        rcases Nat.min_eq_zero_iff.1 hq with h | h
        · rw [List.eq_nil_of_length_eq_zero h]; simp
        · rw [h]; simp
      rw [hq, e]; simpa using hv
  · have hm0 : 0 < m := by have := Nat.min_le_right M.length m; omega
    obtain ⟨g, l, cap, c', hv', hu, hc'⟩ := hp hm0
    clear hp
    injection hu with e1 e2 e3
    subst e1
    rcases hv with ⟨rfl, rfl⟩ | ⟨g', cap', arr, rfl, hg, hc, hm, hf, hr⟩
    · cases hv'
    injection hv' with a1 a2 a3
    have a1' : g' = g := by injection a1 with b; injection b
    subst a1'
    have hcap : L.length * T.size ≤ cap' * T.size := Nat.mul_le_mul_right _ hc
    have hkm' : (k + m) * T.size ≤ L.length * T.size := Nat.mul_le_mul_right _ hkm
    have hqm : min M.length m * T.size ≤ m * T.size := Nat.mul_le_mul_right _ (Nat.min_le_right _ _)
    rw [Nat.add_mul] at hkm'
    have hst := run_storeCells_at P g' (k * T.size) T.id ((T.flat M).take (min M.length m * T.size)) 0 arr w hg (by rw [hcl]; omega) (fun u hu => hT.flat_one1 M u (List.mem_of_mem_take hu))
    simp only [Nat.add_zero, hcl] at hst
    refine ⟨_, ?_, .inr ⟨g', cap', (arr.toList.take (k * T.size) ++ (T.flat M).take (min M.length m * T.size) ++ arr.toList.drop (k * T.size + min M.length m * T.size)).toArray, by rw [hlen2], setRow_heap w g' arr _ T.id _ hg, by rw [hlen2]; exact hc, hm, ?_, ?_⟩, ⟨rfl, rfl, rfl, by simp, fun b _ hb => setRow_other w g' b _ fun e => hb (by simp [blk, Value.ownBlock, e])⟩⟩
    · simp only [Builtin.copy_, Sem.run_bind, run_underlying ht, Result.andThen_ok, hlen, Sem.run_pure, sizeOf, typeInfo, program, Sem.run, hi, hsz, hn, hfc, hst, goInt, List.getElem?_toArray, List.getElem?_cons_zero, List.getElem?_cons_succ]
    · simp only [List.size_toArray, List.length_append, List.length_take, List.length_drop, hcl, Array.length_toList]
      omega
    · rw [hlen2]
      have hA : arr.toList.length = arr.size := Array.length_toList
      have ek : arr.toList.take (k * T.size) = T.flat (L.take k) := by
        rw [← hT.flat_take, ← hr, List.take_take]; congr 1; omega
      have ed : (arr.toList.drop (k * T.size + min M.length m * T.size)).take (L.length * T.size - (k * T.size + min M.length m * T.size)) = T.flat (L.drop (k + min M.length m)) := by
        rw [← hT.flat_drop, ← hr, Nat.add_mul, List.drop_take]
      have l1 : (T.flat (L.take k)).length = k * T.size := by rw [hT.flat_len, List.length_take]; congr 1; omega
      have em : (T.flat M).take (min M.length m * T.size) = T.flat (M.take m) := by
        rw [hT.flat_take]; congr 1; rw [List.take_eq_take_iff]; omega
      have l2 : (T.flat (M.take m)).length = min M.length m * T.size := by rw [← em]; exact hcl
      have l3 : (T.flat (L.take k) ++ T.flat (M.take m)).length = k * T.size + min M.length m * T.size := by rw [List.length_append, l1, l2]
      show List.take (L.length * T.size) (arr.toList.take (k * T.size) ++ (T.flat M).take (min M.length m * T.size) ++ arr.toList.drop (k * T.size + min M.length m * T.size)) = _
      rw [ek, em, List.take_append, List.take_of_length_le (l := T.flat (L.take k) ++ T.flat (M.take m)) (by rw [l3]; omega), l3, ed, Ty.flat_append, Ty.flat_append, List.append_assoc]
theorem s_copyS {s x : Operand} {t t' : TypeId} {d : Nat} (i : Nat) (k m : Nat) (hT : T.Ok P) (ht : P.underlying t = some (.slice T.id)) (a : Acc Z As T v2 M) (hs : ∀ H, Ow H T v L → Sub T v u k m) (hkm : k + m ≤ L.length) (h : SL P w0 ops Q n rest ((d, .int .i64 (min M.length m : Nat)) :: E) Z (upd As i (own T v (L.take k ++ (M.take m ++ L.drop (k + min M.length m)))))) (ho : o.op = .call { callee := .builtin .copy, args := #[s, x], argTypes := #[t, t'] } := by rfl) (hA : gt As i = some (own T v L) := by rfl) (hu : ev E s = u := by rfl) (hx : ev E x = v2 := by rfl) (hd : o.dst = some d := by rfl) (hk : okOp ops n E o = true := by kernel_rfl) : SL P w0 ops Q n (o :: rest) E Z As := fun H hH => by
  refine l_run (R := fun v' H' => v' = .int .i64 (min M.length m : Nat) ∧ Ow H' T v (L.take k ++ (M.take m ++ L.drop (k + min M.length m))) ∧ Chg (fun k => blk v = some k) H H') hk (fun w ha => ?_) (fun v' H' ⟨a1, a2, a3⟩ => by
    subst a1; rw [hd]; exact h H' (own_step hH hA a2 a3 fun g hg => .inl hg))
  have hv' : Mem.Ow w T v L := by have := hH.ow hA; rw [← ha.heap] at this; exact this
  have h2' : Mem.Sl w T v2 M := by have := a H hH; rw [← ha.heap] at this; exact this
  obtain ⟨w', hr, q1, q2⟩ := run_copySub (ty := o.type) (sT := t') hT ht hv' (hs H (hH.ow hA)) hkm h2'
  refine ⟨_, w', ?_, ⟨rfl, q2.os.trans ha.os, q2.tape.trans ha.tape, q2.output.trans ha.output⟩, rfl, q1, ?_⟩
  · unfold execOp
    simp only [ho, resolve, invoke, builtin, Sem.run_bind, Sem.run_pure, Result.andThen_ok, List.map_toArray, List.map_cons, List.map_nil, hu, hx, hr]
  · rw [← ha.heap]; exact Chg.of_mem q2
/-- A slice against nil. -/
def nilS : Value → Bool
  | .slice none _ _ => true
  | _ => false
theorem nilS_spec {H : Heap} (h : Sl H T v L) (hn : nilS v = true) : v = .slice none 0 0 ∧ L = [] := by
  rcases h with ⟨⟨p, rfl⟩, rfl⟩ | ⟨g, off, cap, arr, e, fr, rfl, _⟩
  · cases p with
    | none => exact ⟨rfl, rfl⟩
    | some p => simp [nilS] at hn
  · simp [nilS] at hn
theorem equal_nilS {t e : TypeId} (ht : P.underlying t = some (.slice e)) (p : Option Addr) (l c : Nat) (w : World) : (Op.equal t (.slice p l c) (.slice none 0 0)).run P w = .ok p.isNone w := by
  obtain ⟨D, hD⟩ : ∃ D, Op.maxDepth = D + 1 := ⟨Op.maxDepth - 1, by decide⟩
  show (Op.equalIn Op.maxDepth t (.slice p l c) (.slice none 0 0)).run P w = _
  rw [hD]
  unfold Op.equalIn
  cases p <;> simp only [Sem.run_bind, run_underlying ht, Result.andThen_ok, Sem.run_pure] <;> rfl
theorem t_nilS {t u e : TypeId} {x y : Operand} (ht : P.underlying t = some (.slice e)) (a : Acc Z As T v L) (ho : o.op = .binOp .eql t x y u := by rfl) (hx : ev E x = v := by rfl) (hy : ev E y = .slice none 0 0 := by rfl) : Lt P E o Z As (.bool (nilS v)) := fun H hH => by
  obtain ⟨p, c, e⟩ := (a H hH).form
  subst e
  refine r_pure _ (bin_run ho _ _ hx hy (fun w => by simp [eqGuard, Sem.run_pure]) fun w => ?_)
  simp only [binOp, Sem.run_bind, equal_nilS ht, Result.andThen_ok, Sem.run_pure]
  cases p <;> rfl
/-- A struct within an element of a slice. -/
theorem t_loadG {t : TypeId} {x : Operand} {k m : Nat} {y : α} (j : Nat) (cs : Array Value) (hT : T.Ok P) (a : Acc Z As T v L) (hy : L[k]? = some y) (hl : cs.size = m := by rfl) (hc : (T.enc y).extract j (j + m) = cs.toList := by rfl) (ho : o.op = .load t x := by rfl) (hx : ev E x = .pointer (some ((elemAt T.size v k).add j)) := by rfl) (ht : aggT P t m = true := by kernel_rfl) : Lt P E o Z As (.agg cs) := fun H hH => by
  have hsl := a H hH
  refine ⟨fun w hw => ?_⟩
  rcases hsl with ⟨_, rfl⟩ | ⟨g, off, cap, arr, e, fr, rfl, h1, h2, h3, h4, h5⟩
  · simp at hy
  have hadr : ev E x = .pointer (some ⟨g, off + k * T.size + j, none⟩) := by rw [hx]; simp only [elemAt, Go.Mem.addr_add]
  unfold execOp
  simp only [ho, hadr]
  refine Mem.run_v ?_
  unfold Instr.loadAt Instr.sureAddr
  rw [Sem.run_bind, Sem.run_pure, Result.andThen_ok]
  refine run_loadA ht (by rw [hw]; exact h1) cs hl (fun i u hi => ?_)
  have h6 : cs.toList[i]? = some u := by simpa using hi
  rw [← hc, List.extract_eq_take_drop, List.getElem?_take] at h6
  split at h6
  · rw [List.getElem?_drop] at h6
    have hjs : j + i < T.size := by rw [← hT.len y]; exact (List.getElem?_eq_some_iff.1 h6).1
    have h7 := hT.flat_get hy hjs
    rw [h6, ← h5, List.getElem?_take] at h7
    split at h7
    · rw [List.getElem?_drop] at h7
      rw [← Array.getElem?_toList, ← h7]; congr 1; omega
    · cases h7
  · cases h6
end
end Go.S
