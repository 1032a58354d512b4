/-
  Parts side by side as one part (stars); delete, len and clear of maps; calls of closures; s[:n:n]. No condition but those that each rule says.
-/
import Derived.Test.YtjdlkemmcnncaaaSZ
import Derived.Test.YtjdlkemmcnncaaaSLd
set_option linter.unusedSimpArgs false
set_option linter.unusedVariables false
set_option linter.unusedSectionVars false
namespace Go.J
open Go.Hp
variable {P : Program} {w0 : World} {Q : Exit → Act → World → Prop} {n : Nat} {E : Env} {H : Heap} {o o' o2 : Oper} {l : List Oper} {S : Heap → Prop} {fuel : Nat} {listed : Array Bool}
theorem h_step3 (i j m : Nat) (hi : l[i]? = some o) (hj : l[j]? = some o') (hm : l[m]? = some o2) (hr : Region.ready .any l.toArray listed = [i, j, m])
    (h : JL P w0 l.toArray (heldQ P l Q S fuel (listed.setIfInBounds i true)) n [o] E H)
    (h' : JL P w0 l.toArray (heldQ P l Q S fuel (listed.setIfInBounds j true)) n [o'] E H)
    (h2 : JL P w0 l.toArray (heldQ P l Q S fuel (listed.setIfInBounds m true)) n [o2] E H) : JH P w0 l Q n S (fuel + 1) listed E H := by
  intro a w hf ha
  refine wpAnyH_all hr (by simp) ?_
  intro k hk
  rcases List.mem_cons.1 hk with rfl | hk
  · have := h a w hf ha
    unfold wpOp
    rw [show l.toArray[k]? = some o by simpa using hi]
    exact this
  · rcases List.mem_cons.1 hk with rfl | hk
    · have := h' a w hf ha
      unfold wpOp
      rw [show l.toArray[k]? = some o' by simpa using hj]
      exact this
    · rw [List.mem_singleton] at hk
      subst hk
      have := h2 a w hf ha
      unfold wpOp
      rw [show l.toArray[k]? = some o2 by simpa using hm]
      exact this
theorem h_stepN (L : List (Nat × Oper)) (hL : (L.all fun p => (l[p.1]?).isSome) = true) (hr : Region.ready .any l.toArray listed = L.map (·.1)) (hne : L ≠ [])
    (h : ∀ p ∈ L, l[p.1]? = some p.2 ∧ JL P w0 l.toArray (heldQ P l Q S fuel (listed.setIfInBounds p.1 true)) n [p.2] E H) : JH P w0 l Q n S (fuel + 1) listed E H := by
  intro a w hf ha
  refine wpAnyH_all hr (by simpa using hne) ?_
  intro k hk
  obtain ⟨p, hp, rfl⟩ := List.mem_map.1 hk
  obtain ⟨h1, h2⟩ := h p hp
  have := h2 a w hf ha
  unfold wpOp
  rw [show l.toArray[p.1]? = some p.2 by simpa using h1]
  exact this
end Go.J
namespace Go.S
open Go.Hp Go.J
theorem h_stepS4 {P : Program} {w0 : World} {Q : Exit → Act → World → Prop} {n : Nat} {E : Env} {Z : Zone} {As : List Asr} {o o' o2 o3 : Oper} {l : List Oper} {Ks : List Asr} {fuel : Nat} {listed : Array Bool} (i j m q : Nat) (h : SL P w0 l.toArray (heldQ P l Q (HS Z Ks) fuel (listed.setIfInBounds i true)) n [o] E Z As) (h' : SL P w0 l.toArray (heldQ P l Q (HS Z Ks) fuel (listed.setIfInBounds j true)) n [o'] E Z As) (h2 : SL P w0 l.toArray (heldQ P l Q (HS Z Ks) fuel (listed.setIfInBounds m true)) n [o2] E Z As) (h3 : SL P w0 l.toArray (heldQ P l Q (HS Z Ks) fuel (listed.setIfInBounds q true)) n [o3] E Z As) (hi : l[i]? = some o := by rfl) (hj : l[j]? = some o' := by rfl) (hm : l[m]? = some o2 := by rfl) (hq : l[q]? = some o3 := by rfl) (hr : Region.ready .any l.toArray listed = [i, j, m, q] := by kernel_rfl) : SH P w0 l Q n Z Ks (fuel + 1) listed E As :=
  fun H hH => h_stepN [(i, o), (j, o'), (m, o2), (q, o3)] (by simp [hi, hj, hm, hq]) hr (by simp) (by
    intro p hp
    simp only [List.mem_cons, List.not_mem_nil, or_false] at hp
    rcases hp with rfl | rfl | rfl | rfl
    · exact ⟨hi, h H hH⟩
    · exact ⟨hj, h' H hH⟩
    · exact ⟨hm, h2 H hH⟩
    · exact ⟨hq, h3 H hH⟩)
theorem h_stepS3 {P : Program} {w0 : World} {Q : Exit → Act → World → Prop} {n : Nat} {E : Env} {Z : Zone} {As : List Asr} {o o' o2 : Oper} {l : List Oper} {Ks : List Asr} {fuel : Nat} {listed : Array Bool} (i j m : Nat) (h : SL P w0 l.toArray (heldQ P l Q (HS Z Ks) fuel (listed.setIfInBounds i true)) n [o] E Z As) (h' : SL P w0 l.toArray (heldQ P l Q (HS Z Ks) fuel (listed.setIfInBounds j true)) n [o'] E Z As) (h2 : SL P w0 l.toArray (heldQ P l Q (HS Z Ks) fuel (listed.setIfInBounds m true)) n [o2] E Z As) (hi : l[i]? = some o := by rfl) (hj : l[j]? = some o' := by rfl) (hm : l[m]? = some o2 := by rfl) (hr : Region.ready .any l.toArray listed = [i, j, m] := by kernel_rfl) : SH P w0 l Q n Z Ks (fuel + 1) listed E As :=
  fun H hH => h_step3 i j m hi hj hm hr (h H hH) (h' H hH) (h2 H hH)
open Go.Mem (Ty KTy blk Stamps elemAt pre suf aget aset adel apos nodup_adel adel_pos adel_none)

/-! ### Stars -/
theorem erase_map {α β : Type} (f : α → β) : ∀ (l : List α) (i : Nat), (l.map f).eraseIdx i = (l.eraseIdx i).map f
  | [], _ => rfl
  | _ :: _, 0 => rfl
  | a :: r, i + 1 => congrArg (f a :: ·) (erase_map f r i)
theorem gt_eq : ∀ (L : List Asr) (i : Nat), gt L i = L[i]?
  | [], _ => rfl
  | _ :: _, 0 => rfl
  | _ :: r, i + 1 => by rw [List.getElem?_cons_succ]; exact gt_eq r i
theorem upd_eq : ∀ (L : List Asr) (i : Nat) (B : Asr), upd L i B = L.set i B
  | [], _, _ => rfl
  | _ :: _, 0, _ => rfl
  | A :: r, i + 1, B => congrArg (A :: ·) (upd_eq r i B)
theorem del_eq : ∀ (L : List Asr) (i : Nat), del L i = L.eraseIdx i
  | [], _ => rfl
  | _ :: _, 0 => rfl
  | A :: r, i + 1 => congrArg (A :: ·) (del_eq r i)
abbrev star (L : List Asr) : Asr := stA True L
section
variable {Z : Zone} {As Bs L : List Asr} {H : Heap} {A A' : Asr} {i : Nat}
theorem Holds.star_out (h : Holds Z (star L :: As) H) : Holds Z (L ++ As) H := h.open_st.2
theorem Holds.star_in (h : Holds Z (L ++ As) H) : Holds Z (star L :: As) H := Holds.shut_st trivial h
theorem gt_append {M : List Asr} (hi : gt L i = some A) : gt (L ++ M) i = some A ∧ del (L ++ M) i = del L i ++ M := by
  rw [gt_eq] at hi
  have hl := (List.getElem?_eq_some_iff.1 hi).1
  rw [gt_eq, del_eq, del_eq, List.getElem?_append_left hl, List.eraseIdx_append_of_lt_length hl]
  exact ⟨hi, rfl⟩
/-- One of them comes out. -/
theorem Holds.star_pull (h : Holds Z (star L :: As) H) (hi : gt L i = some A) : Holds Z (A :: star (del L i) :: As) H := by
  have h1 := h.star_out.pull (gt_append hi).1
  rw [(gt_append hi).2] at h1
  have h2 : Holds Z (del L i ++ (A :: As)) H := h1.perm List.perm_middle.symm
  exact h2.star_in.swap
theorem Holds.star_push (hi : gt L i = some A) (h : Holds Z (A' :: star (del L i) :: As) H) : Holds Z (star (upd L i A') :: As) H := by
  have h1 : Holds Z (del L i ++ (A' :: As)) H := h.swap.star_out
  have h2 : Holds Z (A' :: (del L i ++ As)) H := h1.perm List.perm_middle
  have h3 : Holds Z (upd (L ++ As) i A') H := by
    refine Holds.push (gt_append hi).1 ?_
    rw [(gt_append hi).2]; exact h2
  rw [upd_eq, List.set_append_left _ _ (by rw [gt_eq] at hi; exact (List.getElem?_eq_some_iff.1 hi).1), ← upd_eq] at h3
  exact h3.star_in
theorem Holds.star_add (h : Holds Z (A :: star L :: As) H) : Holds Z (star (L ++ [A]) :: As) H := by
  have h1 : Holds Z (L ++ (A :: As)) H := h.swap.star_out
  refine Holds.star_in ?_
  rw [List.append_assoc]; exact h1
theorem Holds.star_nil (h : Holds Z As H) : Holds Z (star [] :: As) H := Holds.star_in h
/-- Parts that are named by a list. -/
theorem Holds.star_get {ι : Type} {f : ι → Asr} {l : List ι} {x : ι} (h : Holds Z (star (l.map f) :: As) H) (hi : l[i]? = some x) : Holds Z (f x :: star ((l.eraseIdx i).map f) :: As) H := by
  have h1 := h.star_pull (i := i) (A := f x) (by rw [gt_eq, List.getElem?_map, hi]; rfl)
  rw [del_eq] at h1
  rwa [erase_map] at h1
theorem Holds.star_set {ι : Type} {f g : ι → Asr} {l : List ι} {x : ι} (hi : l[i]? = some x) (hg : ∀ j y, j ≠ i → l[j]? = some y → g y = f y) (h : Holds Z (g x :: star ((l.eraseIdx i).map f) :: As) H) : Holds Z (star (l.map g) :: As) H := by
  rw [← erase_map, ← del_eq] at h
  have h1 := Holds.star_push (i := i) (A := f x) (by rw [gt_eq, List.getElem?_map, hi]; rfl) h
  rw [upd_eq] at h1
  have e : (l.map f).set i (g x) = l.map g := by
    apply List.ext_getElem?
    intro j
    by_cases hj : i = j
    · subst hj
      rw [List.getElem?_set_self (by rw [List.length_map]; exact (List.getElem?_eq_some_iff.1 hi).1), List.getElem?_map, hi]; rfl
    · rw [List.getElem?_set_ne hj, List.getElem?_map, List.getElem?_map]
      cases hy : l[j]? with
      | none => rfl
      | some y => simp [hg j y (Ne.symm hj) hy]
  rw [← e]; exact h1
end

/-! ### Maps -/
section
variable {κ β : Type} [DecidableEq κ] {P : Program}
theorem run_delete {w : World} {K : KTy κ} {V : β → Value} {b : Nat} {m : List (κ × β)} (h : Mem.Mp w K V b m) (hK : KTy.Ok (β := β) K P) {t e k' : TypeId} (ht : P.underlying t = some (.map K.id e)) (k : κ) (ty : TypeId) :
    ∃ w', (Builtin.delete_ #[t, k'] ty #[.map (some b), K.val k]).run P w = .ok (.tuple #[]) w' ∧ Mem.Mp w' K V b (adel m k) ∧ Mem.Chg (fun j => j = b) w w' := by
  obtain ⟨es, clock, hb, he, hn, hs⟩ := h
  have hf := hK.find k es.toList m (Mem.keys_of he) w
  have hr : ∀ ob, (setObj b ob).run P w = .ok () { w with heap := w.heap.setIfInBounds b ob } := fun ob => Mem.run_setObj_map hb ob
  unfold Builtin.delete_
  simp only [List.getElem?_toArray, List.getElem?_cons_zero, List.getElem?_cons_succ, Sem.run_bind, run_underlying ht, Result.andThen_ok, Mem.run_getObj_map hb, hK.check, hf]
  cases hp : apos m k with
  | none =>
    refine ⟨_, by simp only [Option.bind_none, Sem.run_bind, hr, Result.andThen_ok, Sem.run_pure], ⟨_, _, Mem.heap_setObj hb _, ?_, nodup_adel hn k, hs⟩, Mem.chg_setObj _ _ _⟩
    rw [adel_none hp]; exact he
  | some i =>
    obtain ⟨hi, y, hy, _⟩ := Mem.apos_lt hp
    obtain ⟨e0, h1, h2, h3⟩ := Mem.entry_at he hy
    refine ⟨{ w with heap := w.heap.setIfInBounds b (.map (es.eraseIdxIfInBounds i) clock) }, by simp only [Option.bind_some, h1, Option.map_some, Sem.run_bind, hr, Result.andThen_ok, Sem.run_pure], ⟨es.eraseIdxIfInBounds i, clock, Mem.heap_setObj hb _, ?_, nodup_adel hn k, ?_⟩, Mem.chg_setObj _ _ _⟩
    · rw [adel_pos hp, Array.toList_eraseIdxIfInBounds, ← erase_map, ← erase_map, he]
    · refine ⟨?_, fun e' he' => ?_⟩
      · rw [Array.toList_eraseIdxIfInBounds, ← erase_map]
        exact hs.1.sublist (List.eraseIdx_sublist _ _)
      · rw [Array.toList_eraseIdxIfInBounds] at he'
        exact hs.2 e' ((List.eraseIdx_sublist _ _).subset he')
end
section
variable {κ β : Type} [DecidableEq κ] {P : Program} {w0 : World} {ops : Array Oper} {Q : Exit → Act → World → Prop} {n : Nat} {E : Env} {Z : Zone} {As : List Asr} {o : Oper} {rest : List Oper} {K : KTy κ} {V : β → Value} {b : Nat} {m : List (κ × β)}
theorem s_delete0 {x y : Operand} {t e k' : TypeId} (i : Nat) (hK : KTy.Ok (β := β) K P) (ht : P.underlying t = some (.map K.id e)) (k : κ) (h : SL P w0 ops Q n rest E Z (upd As i (mpA K V b (adel m k)))) (ho : o.op = .call { callee := .builtin .delete, args := #[x, y], argTypes := #[t, k'] } := by rfl) (hA : gt As i = some (mpA K V b m) := by rfl) (hx : ev E x = .map (some b) := by rfl) (hy : ev E y = K.val k := by rfl) (hd : o.dst = none := by rfl) (hk : okOp ops n E o = true := by kernel_rfl) : SL P w0 ops Q n (o :: rest) E Z As := fun H hH => by
  refine l_run (R := fun _ H' => Upd H H' K V b (adel m k)) hk (fun w ha => ?_) (fun v' H' u => by rw [hd]; exact h H' (mp_step hH hA u))
  have hm' : Mem.Mp w K V b m := by have := hH.mp hA; rw [← ha.heap] at this; exact this
  obtain ⟨w', hr, h1, h2⟩ := run_delete (k' := k') (ty := o.type) hm' hK ht k
  refine ⟨.tuple #[], w', ?_, ⟨rfl, h2.os.trans ha.os, h2.tape.trans ha.tape, h2.output.trans ha.output⟩, ⟨h1, ?_⟩⟩
  · unfold execOp
    simp only [ho, resolve, invoke, builtin, Sem.run_bind, Sem.run_pure, Result.andThen_ok, List.map_toArray, List.map_cons, List.map_nil, hx, hy, hr]
  · rw [← ha.heap]; exact Chg.of_mem h2
theorem s_delete {x y : Operand} {t e k' : TypeId} {d : Nat} (i : Nat) (hK : KTy.Ok (β := β) K P) (ht : P.underlying t = some (.map K.id e)) (k : κ) (h : SL P w0 ops Q n rest ((d, .tuple #[]) :: E) Z (upd As i (mpA K V b (adel m k)))) (ho : o.op = .call { callee := .builtin .delete, args := #[x, y], argTypes := #[t, k'] } := by rfl) (hA : gt As i = some (mpA K V b m) := by rfl) (hx : ev E x = .map (some b) := by rfl) (hy : ev E y = K.val k := by rfl) (hd : o.dst = some d := by rfl) (hk : okOp ops n E o = true := by kernel_rfl) : SL P w0 ops Q n (o :: rest) E Z As := fun H hH => by
  refine l_run (R := fun v' H' => v' = .tuple #[] ∧ Upd H H' K V b (adel m k)) hk (fun w ha => ?_) (fun v' H' ⟨e, u⟩ => by subst e; rw [hd]; exact h H' (mp_step hH hA u))
  have hm' : Mem.Mp w K V b m := by have := hH.mp hA; rw [← ha.heap] at this; exact this
  obtain ⟨w', hr, h1, h2⟩ := run_delete (k' := k') (ty := o.type) hm' hK ht k
  refine ⟨.tuple #[], w', ?_, ⟨rfl, h2.os.trans ha.os, h2.tape.trans ha.tape, h2.output.trans ha.output⟩, rfl, ⟨h1, ?_⟩⟩
  · unfold execOp
    simp only [ho, resolve, invoke, builtin, Sem.run_bind, Sem.run_pure, Result.andThen_ok, List.map_toArray, List.map_cons, List.map_nil, hx, hy, hr]
  · rw [← ha.heap]; exact Chg.of_mem h2
/-- clear(m) -/
theorem s_clear0 {x : Operand} {t e : TypeId} (i : Nat) (ht : P.underlying t = some (.map K.id e)) (h : SL P w0 ops Q n rest E Z (upd As i (mpA K V b []))) (ho : o.op = .call { callee := .builtin .clear, args := #[x], argTypes := #[t] } := by rfl) (hA : gt As i = some (mpA K V b m) := by rfl) (hx : ev E x = .map (some b) := by rfl) (hd : o.dst = none := by rfl) (hk : okOp ops n E o = true := by kernel_rfl) : SL P w0 ops Q n (o :: rest) E Z As := fun H hH => by
  refine l_run (R := fun _ H' => Upd H H' K V b []) hk (fun w ha => ?_) (fun v' H' u => by rw [hd]; exact h H' (mp_step hH hA u))
  have hm' : Mem.Mp w K V b m := by have := hH.mp hA; rw [← ha.heap] at this; exact this
  obtain ⟨es, clock, hb, he, hn, hs⟩ := hm'
  refine ⟨.tuple #[], { w with heap := w.heap.setIfInBounds b (.map #[] clock) }, ?_, ⟨rfl, ha.os, ha.tape, ha.output⟩, ⟨#[], clock, Mem.heap_setObj hb _, rfl, by simp, by simp [Stamps]⟩, ?_⟩
  · have hr : (Builtin.clear_ #[t] o.type #[.map (some b)]).run P w = .ok (.tuple #[]) { w with heap := w.heap.setIfInBounds b (.map #[] clock) } := by
      unfold Builtin.clear_
      simp only [List.getElem?_toArray, List.getElem?_cons_zero, Sem.run_bind, run_underlying ht, Result.andThen_ok, Mem.run_getObj_map hb, Mem.run_setObj_map hb, Sem.run_pure]
    unfold execOp
    simp only [ho, resolve, invoke, builtin, Sem.run_bind, Sem.run_pure, Result.andThen_ok, List.map_toArray, List.map_cons, List.map_nil, hx, hr]
  · rw [← ha.heap]; exact Chg.of_mem (Mem.chg_setObj _ _ _)
/-- len(m) -/
theorem t_lenM {x : Operand} {t e : TypeId} (i : Nat) (ht : P.underlying t = some (.map K.id e)) (ho : o.op = .call { callee := .builtin .len, args := #[x], argTypes := #[t] } := by rfl) (hA : gt As i = some (mpA K V b m) := by rfl) (hx : ev E x = .map (some b) := by rfl) : Lt P E o Z As (.int .i64 m.length) := fun H hH => by
  obtain ⟨es, clock, hb, he, hn, hs⟩ := hH.mp hA
  have hl : es.size = m.length := by have := congrArg List.length he; simpa using this
  refine ⟨fun w hw => ?_⟩
  have hb' : w.heap[b]? = some (.map es clock) := by rw [hw]; exact hb
  unfold execOp
  have : (Builtin.len_ #[t] o.type #[.map (some b)]).run P w = .ok (.int .i64 m.length) w := by
    simp [Builtin.len_, run_underlying ht, Mem.run_getObj_map hb', goInt, hl]
  simp only [ho, resolve, invoke, builtin, Sem.run_bind, Sem.run_pure, Result.andThen_ok, List.map_toArray, List.map_cons, List.map_nil, hx, this]
/-! ### Calls of closures -/
theorem l_callV {H : Heap} {f : FuncId} {x : Operand} {xs : Array Operand} {ts : Array TypeId} {first cap : Array Value} (ho : o.op = .call { callee := .value x, args := xs, argTypes := ts }) (hf : ev E x = .func (.func f) first cap) (vals : List Value) {R : Value → Heap → Prop} (hk : okOp ops n E o = true) (hx : (first ++ (xs.map (ev E))) ++ cap = vals.toArray) (hfn : isFn P f = true) (hc : HC P f vals.toArray H R)
    (h : ∀ v H', R v H' → JL P w0 ops Q n rest (put E o.dst v) H') : JL P w0 ops Q n (o :: rest) E H := by
  refine l_enter hk (fun w => ?_) hc h
  unfold execOp
  simp only [ho, resolve, Deferred.ofValue, hf, Sem.run_bind, Sem.run_pure, Result.andThen_ok, invoke, hx]
  exact run_callFunc hfn _ w
theorem s_callC {f : FuncId} {x : Operand} {xs : Array Operand} {ts : Array TypeId} {first cap : Array Value} {vals : List Value} {R : Value → List Asr → Prop} {d : Nat} {As0 : List Asr} (is : List Nat) (hc : SF P f vals.toArray Z As0 R)
    (h : ∀ v Bs, R v Bs → SL P w0 ops Q n rest ((d, v) :: E) Z Bs) (hp : rearr As is = As0 := by rfl)
    (ho : o.op = .call { callee := .value x, args := xs, argTypes := ts } := by rfl) (hf : ev E x = .func (.func f) first cap := by rfl) (hx : (first ++ (xs.map (ev E))) ++ cap = vals.toArray := by rfl) (hd : o.dst = some d := by rfl) (hfn : isFn P f = true := by kernel_rfl) (hk : okOp ops n E o = true := by kernel_rfl) : SL P w0 ops Q n (o :: rest) E Z As :=
  fun H hH => l_callV ho hf vals hk hx hfn (hc H (hp ▸ hH.rearr is)) fun v H' ⟨Bs, hr, hB⟩ => by rw [hd]; exact h v Bs hr H' hB
theorem s_callC0 {f : FuncId} {x : Operand} {xs : Array Operand} {ts : Array TypeId} {first cap : Array Value} {vals : List Value} {R : Value → List Asr → Prop} {As0 : List Asr} (is : List Nat) (hc : SF P f vals.toArray Z As0 R)
    (h : ∀ v Bs, R v Bs → SL P w0 ops Q n rest E Z Bs) (hp : rearr As is = As0 := by rfl)
    (ho : o.op = .call { callee := .value x, args := xs, argTypes := ts } := by rfl) (hf : ev E x = .func (.func f) first cap := by rfl) (hx : (first ++ (xs.map (ev E))) ++ cap = vals.toArray := by rfl) (hd : o.dst = none := by rfl) (hfn : isFn P f = true := by kernel_rfl) (hk : okOp ops n E o = true := by kernel_rfl) : SL P w0 ops Q n (o :: rest) E Z As :=
  fun H hH => l_callV ho hf vals hk hx hfn (hc H (hp ▸ hH.rearr is)) fun v H' ⟨Bs, hr, hB⟩ => by rw [hd]; exact h v Bs hr H' hB
end
/-! ### s[:n:n] -/
section
variable {P : Program} {w0 : World} {ops : Array Oper} {Q : Exit → Act → World → Prop} {n : Nat} {E : Env} {Z : Zone} {As : List Asr} {o : Oper} {rest : List Oper} {α : Type} {T : Ty α} {v : Value} {L : List α}
def pre3 (v : Value) (m : Nat) : Value := match v with | .slice p _ _ => .slice p m m | x => x
theorem blk_pre3 (v : Value) (m : Nat) : blk (pre3 v m) = blk v := by
  cases v with
  | slice p l c => cases p <;> rfl
  | _ => rfl
theorem Ow.pre3 {H : Heap} (hv : Ow H T v L) (hT : T.Ok P) (m : Nat) (hm : m ≤ L.length) : Ow H T (S.pre3 v m) (L.take m) := by
  rcases hv with ⟨rfl, rfl⟩ | ⟨g, cap, arr, rfl, hg, hc, hx, hf, hr⟩
  · simp at hm; subst hm; exact .inl ⟨rfl, rfl⟩
  · have hl : (L.take m).length = m := by rw [List.length_take]; omega
    have := Nat.mul_le_mul_right T.size (Nat.le_trans hm hc)
    refine .inr ⟨g, m, arr, by rw [hl]; rfl, hg, by rw [hl]; exact Nat.le_refl _, by have : m ≤ cap := by omega
                                                                                     exact Nat.le_trans this hx, by omega, ?_⟩
    rw [hl, ← hT.flat_take, ← hr, List.take_take, Nat.min_eq_left (Nat.mul_le_mul_right _ hm)]
theorem Holds.pre3 {i : Nat} {H : Heap} (h : Holds Z As H) (hT : T.Ok P) (m : Nat) (hi : gt As i = some (own T v L)) (hm : m ≤ L.length) : Holds Z (upd As i (own T (S.pre3 v m) (L.take m))) H := by
  refine h.step hi fun S ⟨h1, h2⟩ => ⟨S, ⟨Ow.pre3 h1 hT m hm, fun k => ?_⟩, Chg.refl _ _, fun k hk => .inl hk⟩
  rw [h2 k, blk_pre3]
theorem run_pre3 {w : World} (hv : Mem.Sl w T v L) {t : TypeId} (ht : P.underlying t = some (.slice T.id)) (hT : T.Ok P) (q q' : IntKind) (m : Int) (h0 : 0 ≤ m) (hm : m ≤ L.length) :
    (Instr.sliceAt t v none (some (.int q m)) (some (.int q' m))).run P w = .ok (pre3 v m.toNat) w := by
  obtain ⟨p, cap, rfl⟩ := hv.form
  have hc : (m : Int) ≤ (cap : Int) := by
    rcases hv with ⟨⟨_, h⟩, rfl⟩ | ⟨g, off, cap', arr, e, fr, h, hg, hc, _⟩
    · simp at h hm; omega
    · simp at h; obtain ⟨_, rfl⟩ := h; omega
  have hz : ∀ p : Option Addr, (p.map fun x => x.add 0) = p := fun p => by cases p <;> simp [Addr.add]
  simp [Instr.sliceAt, Instr.slice, run_underlying ht, Instr.sliceBounds, Instr.sliceBound, asIntOf, h0, hc, hT.run_sizeOf, pre3, hz]
  intro hcc; exfalso; omega
theorem t_pre3 {x i j : Operand} {t : TypeId} {q q' : IntKind} (hT : T.Ok P) (ht : P.underlying t = some (.slice T.id)) (a : Acc Z As T v L) (k : Int) (m : Nat) (h0 : 0 ≤ k) (hl : k ≤ L.length) (hm : m = k.toNat) (ho : o.op = .slice t x none (some i) (some j) := by rfl) (hx : ev E x = v := by rfl) (hi : ev E i = .int q k := by rfl) (hj : ev E j = .int q' k := by rfl) : Lt P E o Z As (pre3 v m) := fun H hH => by
  subst hm
  refine ⟨fun w hw => ?_⟩
  have hv : Mem.Sl w T v L := by have := a H hH; rw [← hw] at this; exact this
  unfold execOp
  simp only [ho, hx, hi, hj, Option.map_none, Option.map_some]
  exact Mem.run_v (run_pre3 hv ht hT q q' k h0 hl)
end
/-! ### Short spellings -/
abbrev pB (g k : Nat) : Value := .pointer (some ⟨g, k, none⟩)
theorem lnm {α : Type} : (([] : List α).length = 0) ∧ (∀ (a : α) (l : List α), (a :: l).length = l.length + 1) ∧ (∀ (l r : List α), (l ++ r).length = l.length + r.length) ∧ (∀ (n : Nat) (l : List α), (l.take n).length = min n l.length) ∧ (∀ (n : Nat) (l : List α), (l.drop n).length = l.length - n) ∧ (∀ (l : List α) (i : Nat) (a : α), (l.set i a).length = l.length) ∧ (∀ (n : Nat) (a : α), (List.replicate n a).length = n) ∧ (∀ (l : List α), l.reverse.length = l.length) :=
  ⟨rfl, fun _ _ => rfl, fun _ _ => List.length_append, fun _ _ => List.length_take, fun _ _ => List.length_drop, fun _ _ _ => List.length_set, fun _ _ => List.length_replicate, fun _ => List.length_reverse⟩
theorem bls : (∀ b, (true && b) = b) ∧ (∀ b, (false && b) = false) ∧ (∀ b, (b && true) = b) ∧ (∀ b, (b && false) = false) ∧ (∀ b, (true || b) = true) ∧ (∀ b, (b || true) = true) ∧ (∀ b, (false || b) = b) ∧ (∀ b, (b || false) = b) ∧ (!true) = false ∧ (!false) = true :=
  ⟨Bool.true_and, Bool.false_and, Bool.and_true, Bool.and_false, Bool.true_or, Bool.or_true, Bool.false_or, Bool.or_false, rfl, rfl⟩
section
variable {P : Program} {w0 : World} {ops : Array Oper} {Q : Exit → Act → World → Prop} {n : Nat} {E : Env} {Z : Zone} {As : List Asr} {o : Oper} {rest : List Oper} {l : List Oper} {Ks : List Asr} {fuel : Nat} {listed : Array Bool}
theorem sp (v : Value) {d : Nat} (h : SL P w0 ops Q n rest ((d, v) :: E) Z As) (hr : ∀ w, (execOp (ev E) o).run P w = .ok (.value v) w := by exact fun _ => rfl) (hd : o.dst = some d := by rfl) (hk : okOp ops n E o = true := by kernel_rfl) : SL P w0 ops Q n (o :: rest) E Z As :=
  s_lt (t_pure v hr) h hd hk
theorem h_l {d : Nat} {v : Value} (i : Nat) (hi : l[i]? = some o) (is : List Nat) {Fs : List Asr} (t : ∀ Fs, Lt P E o Z (Ks ++ Fs) v) (h : SH P w0 l Q n Z Ks fuel (listed.setIfInBounds i true) ((d, v) :: E) As) (hQ : NP Q := by repeat (first | with_reducible exact np_finS | with_reducible apply np_then | with_reducible apply np_block)) (hd : o.dst = some d := by rfl) (hS : rearr As is = Ks ++ Fs := by rfl) (hc : canTake l listed i = true := by kernel_rfl) (hk : okOp l.toArray n E o = true := by kernel_rfl) : SH P w0 l Q n Z Ks (fuel + 1) listed E As :=
  h_lt i hi hQ is t h hd hS hc hk
theorem hp_ {d : Nat} (i : Nat) (is : List Nat) (v : Value) {Fs : List Asr} (h : SH P w0 l Q n Z Ks fuel (listed.setIfInBounds i true) ((d, v) :: E) As) (hi : l[i]? = some o := by rfl) (hr : ∀ w, (execOp (ev E) o).run P w = .ok (.value v) w := by exact fun _ => rfl) (hQ : NP Q := by repeat (first | with_reducible exact np_finS | with_reducible apply np_then | with_reducible apply np_block)) (hd : o.dst = some d := by rfl) (hS : rearr As is = Ks ++ Fs := by rfl) (hc : canTake l listed i = true := by kernel_rfl) (hk : okOp l.toArray n E o = true := by kernel_rfl) : SH P w0 l Q n Z Ks (fuel + 1) listed E As :=
  h_lt i hi hQ is (fun _ => t_pure v hr) h hd hS hc hk
theorem h_sk {d : Nat} (i : Nat) (is : List Nat) {Fs : List Asr} (h : SH P w0 l Q n Z Ks fuel (listed.setIfInBounds i true) ((d, undef) :: E) As) (hQ : NP Q := by repeat (first | with_reducible exact np_finS | with_reducible apply np_then | with_reducible apply np_block)) (hi : l[i]? = some o := by rfl) (hd : o.dst = some d := by rfl) (hS : rearr As is = Ks ++ Fs := by rfl) (hc : canTake l listed i = true := by kernel_rfl) (hu : unwant l.toArray E o = true := by kernel_rfl) (hk : dstOk n o.dst = true := by rfl) : SH P w0 l Q n Z Ks (fuel + 1) listed E As :=
  h_skipS i hQ is h hi hd hS hc hu hk
end
end Go.S
