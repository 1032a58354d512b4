/-
  A region that draws its order of evaluation, walked once, in the order of the text: 'wp_ser'. Conditions: a check on the region's operations, by evaluation; where the walk ends, the operands of its arithmetic are integers, bools, strings or nil.
-/
import Derived.Test.YtjdlkemmcnncaaaSerB
set_option linter.unusedSimpArgs false
set_option linter.unusedVariables false
namespace Go.Ser
section
variable {P : Program} {ops : Array Oper} {Q : Exit → Act → World → Prop} {i : Nat} {o : Oper} {a : Act} {w : World} {K : Act → World → Prop}

/-- Only the normal way out is borne. -/
structure Calm (Q : Exit → Act → World → Prop) : Prop where
  panic : ∀ c a w, ¬ Q (.panic c) a w
  out : ∀ a w, ¬ Q .outgrown a w
theorem Calm.lets (h : Calm Q) : ¬ LetsOut Q := fun ⟨a, w, hq⟩ => h.out a w hq

/-- The operation gives v and leaves w'; or its guard says no. -/
def Does (P : Program) (ops : Array Oper) (o : Oper) (a : Act) (w : World) (v : Value) (w' : World) : Prop :=
  (Region.wanted o (yielded ops a.tmps) = true ∧ (execOp a.eval o).run P w = .ok (.value v) w') ∨ (Region.wanted o (yielded ops a.tmps) = false ∧ v = undef ∧ w' = w)

theorem of_does {v : Value} {w' : World} (hi : ops[i]? = some o) (h : Does P ops o a w v w') (hk : K (a.put o.dst v) w') : wpOp P ops Q i K a w := by
  unfold wpOp
  simp only [hi]
  rcases h with ⟨hw, hr⟩ | ⟨hw, rfl, rfl⟩
  · rw [if_pos hw]; exact .inl (by unfold Oper.wp; rw [hr]; exact hk)
  · rw [if_neg (by simp [hw])]; exact hk
theorem does_of (hc : Calm Q) (hi : ops[i]? = some o) (hv : Region.wanted o (yielded ops a.tmps) = true → ∀ w n w1, (execOp a.eval o).run P w = .ok n w1 → ∃ v, n = .value v)
    (h : wpOp P ops Q i K a w) : ∃ v w', Does P ops o a w v w' ∧ K (a.put o.dst v) w' := by
  unfold wpOp at h
  simp only [hi] at h
  split at h
  · rename_i hw
    rcases h with h | ⟨_, h⟩
    · unfold Oper.wp at h
      cases hr : (execOp a.eval o).run P w with
      | ok n w' =>
        obtain ⟨v, rfl⟩ := hv hw _ _ _ hr
        rw [hr] at h
        exact ⟨v, w', .inl ⟨hw, hr⟩, h⟩
      | halt x w' =>
        rw [hr] at h
        cases x <;> simp only [Oper.upon] at h
        exact absurd h (hc.panic _ _ _)
    · exact absurd h hc.lets
  · rename_i hw
    exact ⟨undef, w, .inr ⟨by simpa using hw, rfl, rfl⟩, h⟩
theorem Does.put_iff {d : Option Tmp} {u v : Value} {w' : World} (hs : ∀ cs b, o.op ≠ .select cs b) (h : ∀ t, d = some t → t ∉ o.looksAt ops) :
    Does P ops o (a.put d u) w v w' ↔ Does P ops o a w v w' := by
  unfold Does
  rw [wanted_put o a d u h, execOp_put o hs a d u h]

/-- What a class promises. 0: pure, 1: a load, 2: an allocation. -/
def Cl (P : Program) (ops : Array Oper) (c : Nat) (o : Oper) (a : Act) : Prop :=
  match c with
  | 0 => pureOp P o = true ∧ (Region.wanted o (yielded ops a.tmps) = true → dynOp o a = true)
  | 1 => readOp o = true
  | 2 => allocOp o = true
  | _ => True
theorem Cl.value {c : Nat} (hc : c ≤ 2) (h : Cl P ops c o a) : Region.wanted o (yielded ops a.tmps) = true → ∀ w n w1, (execOp a.eval o).run P w = .ok n w1 → ∃ v, n = .value v := by
  intro hw w n w1 hr
  match c, hc, h with
  | 0, _, h => exact (pur_of o a h.1 (h.2 hw) w n w1 hr).2.1
  | 1, _, h => exact (rd_of o a h w n w1 hr).2.1
  | 2, _, h => exact (alc_of o a h w n w1 hr).1

/-- The state behind an operation: its temporary alone may have turned. -/
def Out (o : Oper) (a a' : Act) : Prop := ∃ u df, a' = ({ a with defers := df } : Act).put o.dst u
theorem Act.eval_defers (a : Act) (df : List Deferred) : ({ a with defers := df } : Act).eval = a.eval := by funext x; cases x <;> rfl
theorem Out.same {x y : Oper} {a' : Act} (h : Out y a a') (hs : ∀ cs b, x.op ≠ .select cs b) (hl : ∀ t, y.dst = some t → t ∉ x.looksAt ops) :
    execOp a'.eval x = execOp a.eval x ∧ Region.wanted x (yielded ops a'.tmps) = Region.wanted x (yielded ops a.tmps) := by
  obtain ⟨u, df, rfl⟩ := h
  refine ⟨?_, ?_⟩
  · rw [execOp_put x hs _ y.dst u hl, Act.eval_defers]
  · rw [wanted_put x _ y.dst u hl]
theorem Out.eval {x y : Oper} {a' : Act} (h : Out y a a') (hl : ∀ t, y.dst = some t → t ∉ x.looksAt ops) : ∀ e ∈ x.op.operands, a'.eval e = a.eval e := by
  obtain ⟨u, df, rfl⟩ := h
  intro e he
  rw [Act.eval_put fun d hd hx => hl d hd (by subst hx; exact List.mem_append_left _ (List.mem_filterMap.2 ⟨.tmp d, by simpa using he, rfl⟩)), Act.eval_defers]
theorem dynOp_congr {a' : Act} (h : ∀ e ∈ o.op.operands, a'.eval e = a.eval e) : dynOp o a' = dynOp o a := by
  obtain ⟨dst, op, ty, pos, after, guard⟩ := o
  unfold dynOp
  cases op <;> simp only [Op.operands] at h ⊢
  case binOp op t x y u => rw [h x (by simp), h y (by simp)]
  case convert s d x => rw [h x (by simp)]
  case nilCheck x => rw [h x (by simp)]
  case call c =>
    obtain ⟨callee, xs, ts⟩ := c
    cases callee with
    | value f => rfl
    | invoke r m => rfl
    | builtin b =>
      simp only [Call.operands] at h
      cases b <;> simp only <;> first
        | rfl
        | (cases hx : xs[0]? with
           | none => rfl
           | some x => simp only; rw [h x (by simp; exact Array.mem_of_getElem? hx)])
        | (rw [Bool.eq_iff_iff, List.all_eq_true, List.all_eq_true]
           constructor <;> intro g x hx <;> have := g x hx <;> have e := h x (by simpa using hx) <;> simp_all)
theorem Cl.out {c : Nat} {x y : Oper} {a' : Act} (h : Out y a a') (hs : ∀ cs b, x.op ≠ .select cs b) (hl : ∀ t, y.dst = some t → t ∉ x.looksAt ops) : Cl P ops c x a' ↔ Cl P ops c x a := by
  unfold Cl
  split
  · rw [(h.same hs hl).2, dynOp_congr (h.eval hl)]
  all_goals exact Iff.rfl
theorem Does.out {x y : Oper} {a' : Act} {v : Value} {w' : World} (h : Out y a a') (hs : ∀ cs b, x.op ≠ .select cs b) (hl : ∀ t, y.dst = some t → t ∉ x.looksAt ops) : Does P ops x a' w v w' ↔ Does P ops x a w v w' := by
  unfold Does
  rw [(h.same hs hl).1, (h.same hs hl).2]
theorem Out.put (o : Oper) (a : Act) (u : Value) : Out o a (a.put o.dst u) := ⟨u, a.defers, rfl⟩

/-- The state behind an operation is told. -/
theorem wpOp_out (hc : Calm Q) (hi : ops[i]? = some o) (h : wpOp P ops Q i K a w) : wpOp P ops Q i (fun a' w' => Out o a a' ∧ K a' w') a w := by
  unfold wpOp at *
  simp only [hi] at *
  split
  · rename_i hw
    simp only [hw, if_true] at h
    rcases h with h | ⟨_, hl⟩
    case inr => exact absurd hl hc.lets
    refine .inl ?_
    unfold Oper.wp at *
    generalize (execOp a.eval o).run P w = r at *
    cases r with
    | ok n w' =>
      cases n <;> simp only [Oper.upon] at h ⊢
      case value u => exact ⟨Out.put _ _ _, h⟩
      case skip => exact ⟨Out.put _ _ _, h⟩
      case defer d => exact ⟨⟨undef, d :: a.defers, rfl⟩, h⟩
      case enter f args =>
        refine Calls.mono h fun e w'' he => ?_
        cases e with
        | returned u => exact ⟨Out.put _ _ _, he⟩
        | panicked c => exact he
        | outgrown => exact he
      case row row args => exact Rows.mono h fun u w'' he => ⟨Out.put _ _ _, he⟩
    | halt x w' => cases x <;> simp only [Oper.upon] at h ⊢; exact h
  · rename_i hw
    simp only [hw] at h
    exact ⟨Out.put _ _ _, h⟩
/-- It comes to an end. -/
theorem wpOp_ex (hc : Calm Q) (hi : ops[i]? = some o) (h : wpOp P ops Q i K a w) : ∃ a' w', K a' w' := by
  unfold wpOp at h
  simp only [hi] at h
  split at h
  · rcases h with h | ⟨_, hl⟩
    case inr => exact absurd hl hc.lets
    unfold Oper.wp at h
    generalize (execOp a.eval o).run P w = r at *
    cases r with
    | ok n w' =>
      cases n <;> simp only [Oper.upon] at h
      case value u => exact ⟨_, _, h⟩
      case skip => exact ⟨_, _, h⟩
      case defer d => exact ⟨_, _, h⟩
      case enter f args =>
        obtain ⟨e, w'', fr, hR, _⟩ := h []
        cases e with
        | returned u => exact ⟨_, _, hR⟩
        | panicked c => exact absurd hR (hc.panic _ _ _)
        | outgrown => exact absurd hR hc.lets
      case row row args =>
        obtain ⟨u, w'', hR, _⟩ := h default []
        exact ⟨_, _, hR⟩
    | halt x w' => cases x <;> simp only [Oper.upon] at h; exact absurd h (hc.panic _ _ _)
  · exact ⟨_, _, h⟩
/-- A temporary that the operation neither looks at nor writes may be written behind it. -/
theorem wpOp_put_iff (hc : Calm Q) (hi : ops[i]? = some o) (hs : ∀ cs b, o.op ≠ .select cs b) {d : Option Tmp} {v : Value} (hl : ∀ t, d = some t → t ∉ o.looksAt ops) (hd : ∀ t, d = some t → o.dst ≠ some t) :
    wpOp P ops Q i K (a.put d v) w ↔ wpOp P ops Q i (fun a' w' => K (a'.put d v) w') a w := by
  unfold wpOp
  simp only [hi]
  rw [wanted_put o a d v hl]
  have hcm : ∀ (b : Act) (u : Value), (b.put d v).put o.dst u = (b.put o.dst u).put d v := fun b u => Act.put_comm b v u hd
  split
  · unfold Oper.asks Oper.wp
    rw [execOp_put o hs a d v hl]
    have hno : ∀ (A B : Prop), (A ∨ (B ∧ LetsOut Q)) ↔ A := fun A B => ⟨fun h => h.resolve_right fun h => hc.lets h.2, .inl⟩
    rw [hno, hno]
    generalize (execOp a.eval o).run P w = r
    cases r with
    | ok n w' =>
      cases n <;> simp only [Oper.upon]
      case value u => rw [hcm]
      case skip => rw [hcm]
      case defer e => rw [Act.put_defers, hcm]
      case enter f args =>
        constructor <;> intro h <;> refine Calls.mono h fun e w'' he => ?_ <;> cases e with
        | returned u => simp only at he ⊢; first | (rw [hcm] at he; exact he) | (rw [hcm]; exact he)
        | panicked c => exact absurd he (hc.panic _ _ _)
        | outgrown => exact he
      case row row args =>
        constructor <;> intro h <;> refine Rows.mono h fun u w'' he => ?_
        · rw [← hcm]; exact he
        · rw [hcm]; exact he
    | halt x w' =>
      cases x <;> simp only [Oper.upon]
      exact ⟨fun h => absurd h (hc.panic _ _ _), fun h => absurd h (hc.panic _ _ _)⟩
  · rw [hcm]

/-- Two neighbours of these classes may change places. -/
def okPair (cx ci : Nat) : Bool := cx == 0 || ci == 0 || (cx == 1 && ci == 1) || (cx == 1 && ci == 2)

theorem does_swap {x y : Oper} {cx cy : Nat} (hcx : cx ≤ 2) (hcy : cy ≤ 2) (hok : okPair cx cy = true) (hX : Cl P ops cx x a) (hY : Cl P ops cy y a) {v u : Value} {w1 w2 : World}
    (h1 : Does P ops x a w v w1) (h2 : Does P ops y a w1 u w2) : ∃ w1', Does P ops y a w u w1' ∧ Does P ops x a w1' v w2 := by
  rcases h1 with ⟨hwx, hrx⟩ | ⟨hwx, rfl, rfl⟩
  case inr => exact ⟨w2, h2, .inr ⟨hwx, rfl, rfl⟩⟩
  rcases h2 with ⟨hwy, hry⟩ | ⟨hwy, rfl, rfl⟩
  case inr => exact ⟨w, .inr ⟨hwy, rfl, rfl⟩, .inl ⟨hwx, hrx⟩⟩
  by_cases e0 : cx = 0
  · subst e0
    obtain ⟨rfl, _, h3⟩ := pur_of x a hX.1 (hX.2 hwx) _ _ _ hrx
    exact ⟨w2, .inl ⟨hwy, hry⟩, .inl ⟨hwx, h3 _⟩⟩
  by_cases e1 : cy = 0
  · subst e1
    obtain ⟨rfl, _, h3⟩ := pur_of y a hY.1 (hY.2 hwy) _ _ _ hry
    exact ⟨w, .inl ⟨hwy, h3 _⟩, .inl ⟨hwx, hrx⟩⟩
  have e2 : cx = 1 ∧ (cy = 1 ∨ cy = 2) := by unfold okPair at hok; simp only [Bool.or_eq_true, Bool.and_eq_true, beq_iff_eq] at hok; omega
  obtain ⟨rfl, rfl | rfl⟩ := e2
  · obtain ⟨rfl, _, _⟩ := rd_of x a hX _ _ _ hrx
    obtain ⟨rfl, _, _⟩ := rd_of y a hY _ _ _ hry
    exact ⟨_, .inl ⟨hwy, hry⟩, .inl ⟨hwx, hrx⟩⟩
  · obtain ⟨rfl, _, h3⟩ := rd_of x a hX _ _ _ hrx
    obtain ⟨_, ob, rfl⟩ := alc_of y a hY _ _ _ hry
    exact ⟨_, .inl ⟨hwy, hry⟩, .inl ⟨hwx, h3 ob⟩⟩

/-- The operations of a list, one behind the other; each keeps its class's promise. -/
def W (P : Program) (ops : Array Oper) (Q : Exit → Act → World → Prop) (cl : Nat → Nat) : List Nat → Act → World → Prop
  | [], a, w => Q .normal a w
  | i :: r, a, w => (∀ o, ops[i]? = some o → Cl P ops (cl i) o a) ∧ wpOp P ops Q i (W P ops Q cl r) a w

theorem W.congr {cl : Nat → Nat} {r r' : List Nat} (h : ∀ a w, W P ops Q cl r a w → W P ops Q cl r' a w) (hw : W P ops Q cl (i :: r) a w) : W P ops Q cl (i :: r') a w :=
  ⟨hw.1, wpOp_mono h hw.2⟩

theorem W.swap (hc : Calm Q) {cl : Nat → Nat} {x y : Nat} {ox oy : Oper} {r : List Nat} (hx : ops[x]? = some ox) (hy : ops[y]? = some oy) (hsx : ∀ cs b, ox.op ≠ .select cs b) (hsy : ∀ cs b, oy.op ≠ .select cs b)
    (hap : ox.apart ops oy = true) (hok : okPair (cl x) (cl y) = true) (h : W P ops Q cl (x :: y :: r) a w) : W P ops Q cl (y :: x :: r) a w := by
  obtain ⟨l1, l2, l3⟩ := Oper.apart_spec hap
  have l2' : ∀ t, oy.dst = some t → ox.dst ≠ some t := fun t h1 h2 => l2 t h2 h1
  obtain ⟨hX, h⟩ := h
  have hX := hX ox hx
  by_cases hcx : cl x ≤ 2
  · obtain ⟨v, w1, d1, hY, h⟩ := does_of hc hx (hX.value hcx) h
    have hY := (Cl.out (Out.put ox a v) hsy l1).1 (hY oy hy)
    by_cases hcy : cl y ≤ 2
    · obtain ⟨u, w2, d2, h⟩ := does_of hc hy (Cl.value hcy ((Cl.out (Out.put ox a v) hsy l1).2 hY)) h
      have d2 := (Does.out (Out.put ox a v) hsy l1).1 d2
      obtain ⟨w1', e1, e2⟩ := does_swap hcx hcy hok hX hY d1 d2
      refine ⟨fun o ho => ?_, of_does hy e1 ⟨fun o ho => ?_, of_does hx ((Does.out (Out.put oy a u) hsx l3).2 e2) ?_⟩⟩
      · rw [hy] at ho; cases ho; exact hY
      · rw [hx] at ho; cases ho; exact (Cl.out (Out.put oy a u) hsx l3).2 hX
      · rw [← Act.put_comm a v u l2]; exact h
    · have h0 : cl x = 0 := by unfold okPair at hok; simp only [Bool.or_eq_true, Bool.and_eq_true, beq_iff_eq] at hok; omega
      rw [h0] at hX
      have e1 := (wpOp_put_iff hc hy hsy l1 l2).1 h
      have e2 := wpOp_out hc hy e1
      have hw1 : w1 = w ∧ ∀ w', Does P ops ox a w' v w' := by
        rcases d1 with ⟨hw, hr⟩ | ⟨hw, rfl, rfl⟩
        · obtain ⟨rfl, _, h3⟩ := pur_of ox a hX.1 (hX.2 hw) _ _ _ hr
          exact ⟨rfl, fun w' => .inl ⟨hw, h3 w'⟩⟩
        · exact ⟨rfl, fun w' => .inr ⟨hw, rfl, rfl⟩⟩
      obtain ⟨rfl, hall⟩ := hw1
      refine ⟨fun o ho => by rw [hy] at ho; cases ho; exact hY, wpOp_mono (fun a' w' hh => ⟨fun o ho => ?_, of_does hx ((Does.out hh.1 hsx l3).2 (hall w')) hh.2⟩) e2⟩
      rw [hx] at ho; cases ho
      rw [h0]
      exact (Cl.out hh.1 hsx l3).2 hX
  · have h0 : cl y = 0 := by unfold okPair at hok; simp only [Bool.or_eq_true, Bool.and_eq_true, beq_iff_eq] at hok; omega
    have e2 := wpOp_out hc hx h
    obtain ⟨a1, w1, o1, hY1, h1⟩ := wpOp_ex hc hx e2
    have hY := (Cl.out o1 hsy l1).1 (hY1 oy hy)
    obtain ⟨v, w1', d1, _⟩ := does_of hc hy (Cl.value (by omega) (hY1 oy hy)) h1
    have d1 := (Does.out o1 hsy l1).1 d1
    rw [h0] at hY
    have hall : ∀ w', Does P ops oy a w' v w' := by
      rcases d1 with ⟨hw, hr⟩ | ⟨hw, rfl, rfl⟩
      · obtain ⟨_, _, h3⟩ := pur_of oy a hY.1 (hY.2 hw) _ _ _ hr
        exact fun w' => .inl ⟨hw, h3 w'⟩
      · exact fun w' => .inr ⟨hw, rfl, rfl⟩
    refine ⟨fun o ho => by rw [hy] at ho; cases ho; rw [h0]; exact hY, of_does hy (hall w) ⟨fun o ho => ?_, ?_⟩⟩
    · unfold Cl
      split <;> first | omega | trivial
    · refine (wpOp_put_iff hc hx hsx l3 l2').2 (wpOp_mono (fun a' w' hh => ?_) e2)
      obtain ⟨o2, hY2, h2⟩ := hh
      obtain ⟨v', w3, d2, h3⟩ := does_of hc hy (Cl.value (by omega) (hY2 oy hy)) h2
      have d2 := (Does.out o2 hsy l1).1 d2
      have hv : v' = v ∧ w3 = w' := by
        rcases hall w' with ⟨hw, hr⟩ | ⟨hw, rfl, _⟩
        · rcases d2 with ⟨_, hr'⟩ | ⟨hw', _⟩
          · rw [hr] at hr'; simp only [Result.ok.injEq, Next.value.injEq] at hr'; exact ⟨hr'.1.symm, hr'.2.symm⟩
          · rw [hw] at hw'; cases hw'
        · rcases d2 with ⟨hw', _⟩ | ⟨_, rfl, rfl⟩
          · rw [hw] at hw'; cases hw'
          · exact ⟨rfl, rfl⟩
      obtain ⟨rfl, rfl⟩ := hv
      exact h3
end
end Go.Ser
