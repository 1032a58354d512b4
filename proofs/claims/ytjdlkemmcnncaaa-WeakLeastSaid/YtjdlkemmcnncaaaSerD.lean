/-
  A region that draws its order of evaluation, walked once, in the order of the text: 'wp_ser'. Conditions: a check on the region's operations, by evaluation; where the walk ends, the operands of its arithmetic are integers, bools, strings or nil.
-/
import Derived.Test.YtjdlkemmcnncaaaSerC
set_option linter.unusedSimpArgs false
set_option linter.unusedVariables false
namespace Go.Ser
section
variable {P : Program} {ops : Array Oper} {Q : Exit → Act → World → Prop} {i : Nat} {o : Oper} {a : Act} {w : World} {K : Act → World → Prop}

/-! ### From the order of the text to every order -/
/-- M: for each operation the operations ahead of it; ok: which pairs may change places. -/
structure Cert (ops : Array Oper) (M : Nat → Nat) (ok : Nat → Nat → Prop) : Prop where
  down : ∀ i o, ops[i]? = some o → ∀ e ∈ o.after, Region.binds .any e = true → e.on < i
  anc : ∀ i o, ops[i]? = some o → ∀ x, x < i → (M i).testBit x = true → ∃ e ∈ o.after, Region.binds .any e = true ∧ (e.on = x ∨ (x < e.on ∧ (M e.on).testBit x = true))
  pair : ∀ i, i < ops.size → ∀ x, x < i → (M i).testBit x = true ∨ ok x i

theorem W.front {cl : Nat → Nat} {ok : Nat → Nat → Prop} (hswap : ∀ x i r a w, ok x i → W P ops Q cl (x :: i :: r) a w → W P ops Q cl (i :: x :: r) a w) {i : Nat} {r : List Nat} :
    ∀ (p : List Nat) (a : Act) (w : World), (∀ x ∈ p, ok x i) → W P ops Q cl (p ++ i :: r) a w → W P ops Q cl (i :: (p ++ r)) a w
  | [], _, _, _, h => h
  | x :: p, a, w, hp, h => by
    refine hswap x i (p ++ r) a w (hp x (by simp)) ?_
    exact W.congr (fun a w h => W.front hswap p a w (fun y hy => hp y (by simp [hy])) h) h

theorem any_core {cl : Nat → Nat} {M : Nat → Nat} {ok : Nat → Nat → Prop} (C : Cert ops M ok)
    (hswap : ∀ x i r a w, ok x i → W P ops Q cl (x :: i :: r) a w → W P ops Q cl (i :: x :: r) a w) :
    ∀ (n : Nat) (l : List Nat) (listed : Array Bool) (a : Act) (w : World), l.length = n → listed.size = ops.size →
      (∀ j, j ∈ l ↔ listed[j]? = some false) → l.Pairwise (· < ·) →
      (∀ k x : Nat, listed[k]? = some true → x < k → (M k).testBit x = true → listed[x]? = some true) →
      W P ops Q cl l a w → wpAny P .any ops Q n listed a w := by
  intro n
  induction n with
  | zero =>
    intro l listed a w hl hsz hmem _ _ hW
    have : l = [] := List.eq_nil_of_length_eq_zero hl
    subst this
    refine ⟨?_, hW⟩
    rw [List.eq_nil_iff_forall_not_mem]
    intro j hj
    obtain ⟨h0, o, ho, _⟩ := mem_ready.1 hj
    have hlt : j < listed.size := by rw [hsz]; exact (Array.getElem?_eq_some_iff.1 ho).1
    have := (hmem j).2 (by rw [Array.getD_eq_getD_getElem?, Array.getElem?_eq_getElem hlt] at h0; rw [Array.getElem?_eq_getElem hlt]; simpa using h0)
    simp at this
  | succ n ih =>
    intro l listed a w hl hsz hmem hsort hclosed hW
    have lst : ∀ j, j < ops.size → (listed[j]? = some true ∨ listed[j]? = some false) := fun j hj => by
      have hj' : j < listed.size := by rw [hsz]; exact hj
      rw [Array.getElem?_eq_getElem hj']
      cases listed[j] <;> simp
    refine ⟨fun hr => ?_, fun i hi => ?_⟩
    · exfalso
      match l, hl, hmem, hsort with
      | h :: t, _, hmem, hsort =>
        have hh := (hmem h).1 (by simp)
        have hlt : h < ops.size := by rw [← hsz]; exact (Array.getElem?_eq_some_iff.1 hh).1
        have : h ∈ Region.ready .any ops listed := by
          rw [mem_ready]
          refine ⟨by rw [Array.getD_eq_getD_getElem?, hh]; rfl, ops[h], Array.getElem?_eq_getElem hlt, fun e he hb => ?_⟩
          have hd := C.down h _ (Array.getElem?_eq_getElem hlt) e he hb
          rcases lst e.on (by omega) with h1 | h1
          · rw [Array.getD_eq_getD_getElem?, h1]; rfl
          · have := (hmem e.on).2 h1
            rcases List.mem_cons.1 this with h2 | h2
            · omega
            · have := (List.pairwise_cons.1 hsort).1 _ h2; omega
        rw [hr] at this
        cases this
    · obtain ⟨h0, o, ho, hdeps⟩ := mem_ready.1 hi
      have hlt : i < ops.size := (Array.getElem?_eq_some_iff.1 ho).1
      have hun : listed[i]? = some false := by
        rcases lst i hlt with h1 | h1
        · rw [Array.getD_eq_getD_getElem?, h1] at h0; simp at h0
        · exact h1
      have hdep : ∀ e ∈ o.after, Region.binds .any e = true → listed[e.on]? = some true := fun e he hb => by
        have h1 := hdeps e he hb
        have hd := C.down i o ho e he hb
        rcases lst e.on (by omega) with h2 | h2
        · exact h2
        · rw [Array.getD_eq_getD_getElem?, h2] at h1; simp at h1
      have hanc : ∀ x, x < i → (M i).testBit x = true → listed[x]? = some true := fun x hx hb => by
        obtain ⟨e, he, hbe, h1 | ⟨h1, h2⟩⟩ := C.anc i o ho x hx hb
        · rw [← h1]; exact hdep e he hbe
        · exact hclosed e.on x (hdep e he hbe) h1 h2
      obtain ⟨p, r, hpr⟩ := List.append_of_mem ((hmem i).2 hun)
      subst hpr
      have hsplit := List.pairwise_append.1 hsort
      have hp : ∀ x ∈ p, ok x i := fun x hx => by
        have hxi := hsplit.2.2 x hx i (by simp)
        rcases C.pair i hlt x hxi with h1 | h1
        · have h2 := hanc x hxi h1
          have h3 := (hmem x).1 (by simp [hx])
          rw [h2] at h3; simp at h3
        · exact h1
      have hW' := (W.front hswap p a w hp hW).2
      refine wpOp_mono (fun a' w' h' => ih (p ++ r) _ a' w' (by simp at hl ⊢; omega) (by simp [hsz]) (fun j => ?_) ?_ ?_ h') hW'
      · have hnd : (p ++ i :: r).Nodup := hsort.imp (fun h => by omega)
        by_cases hji : j = i
        · subst hji
          have : j ∉ p ++ r := fun h => by
            rw [List.nodup_append] at hnd
            rcases List.mem_append.1 h with h | h
            · exact hnd.2.2 j h j (by simp) rfl
            · exact (List.nodup_cons.1 hnd.2.1).1 h
          simp only [this, false_iff]
          rw [Array.getElem?_setIfInBounds_self_of_lt (by omega)]
          simp
        · rw [Array.getElem?_setIfInBounds_ne (fun h => hji h.symm), ← hmem j]
          simp [hji]
      · rw [List.pairwise_append]
        refine ⟨hsplit.1, (List.pairwise_cons.1 hsplit.2.1).2, fun x hx y hy => hsplit.2.2 x hx y (by simp [hy])⟩
      · intro k x hk hx hb
        have key : listed[x]? = some true := by
          by_cases hki : k = i
          · subst hki; exact hanc x hx hb
          · rw [Array.getElem?_setIfInBounds_ne (fun h => hki h.symm)] at hk
            exact hclosed k x hk hx hb
        by_cases hxi : x = i
        · subst hxi; rw [hun] at key; simp at key
        · rw [Array.getElem?_setIfInBounds_ne (fun h => hxi h.symm)]; exact key

/-! ### The check, by evaluation -/
/-- The class of an operation. -/
def clsOf (P : Program) (o : Oper) : Nat :=
  let konst : Operand → Bool := fun | .const _ => true | _ => false
  match o.op with
  | .binOp op t x y _ =>
    match P.underlying t with
    | some (.int _) | some .string | some .bool => 0
    | some (.pointer _) | some (.slice _) | some (.map _ _) | some (.interface _) => if konst x || konst y then 0 else 3
    | _ => 3
  | _ => if pureOp P o then 0 else if readOp o then 1 else if allocOp o then 2 else 3
def notSelect (o : Oper) : Bool := match o.op with | .select .. => false | _ => true
def masks : List Oper → List Nat → List Nat
  | [], acc => acc
  | o :: r, acc => masks r (acc ++ [o.after.toList.foldl (fun s e => if Region.binds .any e then s ||| 2 ^ e.on ||| acc.getD e.on 0 else s) 0])
/-- The operands of a pure operation that is asked for plain values stay as they are behind it. -/
def stays (l : List Oper) (o : Oper) (i : Nat) : Bool :=
  !(isDyn o) || (o.looksAt l.toArray).all fun t => (l.drop i).all fun o' => o'.dst != some t
def checkAt (P : Program) (l : List Oper) (m cl : List Nat) (i : Nat) (o : Oper) : Bool :=
  notSelect o && o.after.toList.all (fun e => !Region.binds .any e || Nat.blt e.on i) && stays l o i &&
  (l.take i).zipIdx.all fun (ox, x) =>
    if (m.getD i 0).testBit x then o.after.toList.any fun e => Region.binds .any e && (e.on == x || (Nat.blt x e.on && (m.getD e.on 0).testBit x))
    else okPair (cl.getD x 3) (cl.getD i 3) && ox.apart l.toArray o
def check (P : Program) (l : List Oper) : Bool :=
  let m := masks l []
  let cl := l.map (clsOf P)
  l.zipIdx.all fun (o, i) => checkAt P l m cl i o

theorem check_spec {l : List Oper} (h : check P l = true) {i : Nat} {o : Oper} (hi : l[i]? = some o) : checkAt P l (masks l []) (l.map (clsOf P)) i o = true := by
  unfold check at h
  rw [List.all_eq_true] at h
  exact h (o, i) (by rw [List.mem_zipIdx_iff_getElem?]; exact hi)

/-- What is asked where the walk ends. -/
def dynAll (P : Program) (l : List Oper) (a : Act) : Bool :=
  l.all fun o => !(clsOf P o == 0) || !(isDyn o) || !(Region.wanted o (yielded l.toArray a.tmps)) || dynOp o a
def DynQ (P : Program) (l : List Oper) (Q : Exit → Act → World → Prop) : Exit → Act → World → Prop
  | .normal, a, w => dynAll P l a = true ∧ Q .normal a w
  | _, _, _ => False
theorem DynQ.calm (l : List Oper) : Calm (DynQ P l Q) := ⟨fun _ _ _ h => h, fun _ _ h => h⟩
theorem DynQ.imp {l : List Oper} : ∀ (e : Exit) (a : Act) (w : World), DynQ P l Q e a w → Q e a w := fun e a w h => by cases e <;> first | exact h.2 | exact h.elim
/-- The end of the region. -/
theorem fin {l : List Oper} (h1 : dynAll P l a = true) (h2 : Q .normal a w) : DynQ P l Q .normal a w := ⟨h1, h2⟩

theorem wpList_op {l : List Oper} (hi : ops[i]? = some o) (h : wpList P ops Q (o :: l) a w) : wpOp P ops Q i (wpList P ops Q l) a w := by
  unfold wpOp
  simp only [hi]
  exact h
theorem final_ex (hc : Calm Q) : ∀ (l : List Oper) (k : Nat), (∀ j, l[j]? = ops[k + j]? ∨ l[j]? = none) → ∀ (a : Act) (w : World), wpList P ops Q l a w →
    ∃ a' w', Q .normal a' w' ∧ ∀ t, (∀ o ∈ l, o.dst ≠ some t) → a'.tmps[t]? = a.tmps[t]?
  | [], _, _, a, w, h => ⟨a, w, h, fun _ _ => rfl⟩
  | o :: l, k, hk, a, w, h => by
    have hi : ops[k]? = some o := by
      rcases hk 0 with h0 | h0
      · simpa using h0.symm
      · simp at h0
    obtain ⟨a1, w1, o1, h1⟩ := wpOp_ex hc hi (wpOp_out hc hi (wpList_op hi h))
    obtain ⟨a2, w2, hq, hs⟩ := final_ex hc l (k + 1) (fun j => by have := hk (j + 1); simpa [Nat.add_assoc, Nat.add_comm 1 j] using this) a1 w1 h1
    refine ⟨a2, w2, hq, fun t ht => ?_⟩
    rw [hs t fun o ho => ht o (by simp [ho])]
    obtain ⟨u, df, rfl⟩ := o1
    have := ht o (by simp)
    cases hd : o.dst with
    | none => rfl
    | some d =>
      rw [hd] at this
      simp only [Act.put]
      exact Array.getElem?_setIfInBounds_ne (fun h => this (by rw [h]))

theorem eval_tmps {a a' : Act} {e : Operand} (h : ∀ t, e = .tmp t → a'.tmps[t]? = a.tmps[t]?) : a'.eval e = a.eval e := by
  cases e with
  | tmp t => simp only [Act.eval, Array.getD_eq_getD_getElem?, h t rfl]
  | _ => rfl

theorem init {l : List Oper} (hk : check P l = true) : ∀ (s : List Oper) (k : Nat), (s = l.drop k) → ∀ (a : Act) (w : World), wpList P l.toArray (DynQ P l Q) s a w →
    W P l.toArray (DynQ P l Q) (fun i => (l.map (clsOf P)).getD i 3) (List.range' k s.length) a w
  | [], _, _, a, w, h => h
  | o :: s, k, hs, a, w, h => by
    have hi : l[k]? = some o := by
      have : (l.drop k)[0]? = some o := by rw [← hs]; rfl
      simpa using this
    have hia : l.toArray[k]? = some o := by simpa using hi
    have hs' : s = l.drop (k + 1) := by
      have : (l.drop k).tail = s := by rw [← hs]; rfl
      rw [← this]; simp
    have hop := wpList_op hia h
    refine ⟨fun o' ho' => ?_, wpOp_mono (fun a' w' h' => init hk s (k + 1) hs' a' w' h') hop⟩
    rw [hia] at ho'
    cases ho'
    have hcl : (l.map (clsOf P)).getD k 3 = clsOf P o := by simp [List.getD_eq_getElem?_getD, List.getElem?_map, hi]
    show Cl P l.toArray ((l.map (clsOf P)).getD k 3) o a
    rw [hcl]
    have hcls : ∀ c, clsOf P o = c → c ≤ 2 → (c = 0 → pureOp P o = true) ∧ (c = 1 → readOp o = true) ∧ (c = 2 → allocOp o = true) := by
      intro c hc hle
      subst hc
      unfold clsOf at *
      simp only at *
      split
      · rename_i hop
        have : pureOp P o = true := by unfold pureOp; rw [hop]
        refine ⟨fun _ => this, ?_, ?_⟩ <;> (intro h1; revert h1; (repeat' split) <;> simp)
      · refine ⟨?_, ?_, ?_⟩ <;> (intro h1; revert h1; (repeat' split) <;> simp_all)
    unfold Cl
    split
    · rename_i hc
      refine ⟨(hcls 0 hc (by omega)).1 rfl, fun hw => ?_⟩
      by_cases hd : isDyn o = true
      · obtain ⟨a', w', ⟨hall, _⟩, hsame⟩ := final_ex (DynQ.calm l) (o :: s) k (fun j => by rw [hs]; left; simp) a w h
        have hst : stays l o k = true := by
          have := check_spec hk hi
          unfold checkAt at this
          simp only [Bool.and_eq_true] at this
          exact this.1.2
        have hkeep : ∀ t ∈ o.looksAt l.toArray, a'.tmps[t]? = a.tmps[t]? := fun t ht => hsame t fun o' ho' => by
          unfold stays at hst
          rw [hd] at hst
          simp only [Bool.not_true, Bool.false_or, List.all_eq_true] at hst
          have := hst t ht o' (by rw [← hs]; exact ho')
          simpa using this
        have hdyn : dynOp o a' = dynOp o a := dynOp_congr fun e he => eval_tmps fun t et => hkeep t (by
          subst et
          exact List.mem_append_left _ (List.mem_filterMap.2 ⟨.tmp t, by simpa using he, rfl⟩))
        have hwant : Region.wanted o (yielded l.toArray a'.tmps) = Region.wanted o (yielded l.toArray a.tmps) := by
          unfold Region.wanted
          cases hg : o.guard with
          | none => rfl
          | some gw =>
            obtain ⟨g, want⟩ := gw
            have hy : yielded l.toArray a'.tmps g = yielded l.toArray a.tmps g := by
              unfold yielded
              cases ht : (l.toArray[g]?).bind (·.dst) with
              | none => rfl
              | some t =>
                have := hkeep t (by simp only [Oper.looksAt, hg, ht]; simp)
                simp only [Option.bind_some, this]
            simp only [hy]
        unfold dynAll at hall
        rw [List.all_eq_true] at hall
        have := hall o (List.mem_of_getElem? hi)
        rw [hwant, hw, hdyn, hd, hc] at this
        simpa using this
      · unfold dynOp
        unfold isDyn at hd
        cases hop : o.op <;> rw [hop] at hd <;> simp at hd ⊢
    · rename_i hc; exact (hcls 1 hc (by omega)).2.1 rfl
    · rename_i hc; exact (hcls 2 hc (by omega)).2.2 rfl
    · trivial

theorem cert_of {l : List Oper} (hk : check P l = true) : Cert l.toArray (fun i => (masks l []).getD i 0)
    (fun x i => ∃ ox oi, l[x]? = some ox ∧ l[i]? = some oi ∧ notSelect ox = true ∧ notSelect oi = true ∧ okPair ((l.map (clsOf P)).getD x 3) ((l.map (clsOf P)).getD i 3) = true ∧ ox.apart l.toArray oi = true) := by
  have sp : ∀ i o, l[i]? = some o → checkAt P l (masks l []) (l.map (clsOf P)) i o = true := fun i o hi => check_spec hk hi
  refine ⟨fun i o hi e he hb => ?_, fun i o hi x hx hbit => ?_, fun i hi x hx => ?_⟩
  · have := sp i o (by simpa using hi)
    unfold checkAt at this
    simp only [Bool.and_eq_true, List.all_eq_true] at this
    have := this.1.1.2 e (by simpa using he)
    rw [hb] at this
    simpa [Nat.blt_eq] using this
  · have hi' : l[i]? = some o := by simpa using hi
    have := sp i o hi'
    unfold checkAt at this
    simp only [Bool.and_eq_true, List.all_eq_true] at this
    have hlt : i < l.length := (List.getElem?_eq_some_iff.1 hi').1
    have hx' : l[x]? = some l[x] := List.getElem?_eq_getElem (by omega)
    have h2 := this.2 (l[x], x) (by rw [List.mem_zipIdx_iff_getElem?]; simp only [List.getElem?_take]; rw [if_pos hx]; exact hx')
    simp only [hbit, if_true, List.any_eq_true, Bool.and_eq_true, Bool.or_eq_true, beq_iff_eq, Nat.blt_eq] at h2
    obtain ⟨e, he, hb, h3⟩ := h2
    exact ⟨e, by simpa using he, hb, h3⟩
  · have hlt : i < l.length := by simpa using hi
    have hi' : l[i]? = some l[i] := List.getElem?_eq_getElem hlt
    have hx' : l[x]? = some l[x] := List.getElem?_eq_getElem (by omega)
    have hc := sp i l[i] hi'
    have hcx := sp x l[x] hx'
    unfold checkAt at hc hcx
    simp only [Bool.and_eq_true, List.all_eq_true] at hc hcx
    have h2 := hc.2 (l[x], x) (by rw [List.mem_zipIdx_iff_getElem?]; simp only [List.getElem?_take]; rw [if_pos hx]; exact hx')
    by_cases hbit : ((masks l []).getD i 0).testBit x = true
    · exact .inl hbit
    · right
      simp only [hbit, Bool.false_eq_true, if_false, Bool.and_eq_true] at h2
      exact ⟨l[x], l[i], hx', hi', hcx.1.1.1, hc.1.1.1, h2.1, h2.2⟩

/-- **A region that draws its order, walked in the order of the text.** -/
theorem wp_ser {id : Nat} {l : List Oper} (hm : P.follows .mixedOrders = true) (hk : check P l = true) (h : wpList P l.toArray (DynQ P l Q) l a w.drew) : (Code.region id l.toArray true).wp P Q a w := by
  refine Code.wp_mono (DynQ.imp (P := P) (l := l)) (wp_region_any hm ?_)
  have hW := init hk l 0 (by simp) a _ h
  refine any_core (cert_of hk) (fun x i r a w hok hw => ?_) _ (List.range' 0 l.length) _ a _ (by simp) (by simp) (fun j => ?_) ?_ ?_ hW
  · obtain ⟨ox, oi, hx, hi, sx, si, hp, hap⟩ := hok
    refine W.swap (DynQ.calm l) (by simpa using hx) (by simpa using hi) (fun cs b e => ?_) (fun cs b e => ?_) hap hp hw
    · unfold notSelect at sx; rw [e] at sx; simp at sx
    · unfold notSelect at si; rw [e] at si; simp at si
  · simp only [List.mem_range'_1, Nat.zero_le, true_and, Nat.zero_add, Array.getElem?_replicate]
    split <;> simp_all
  · exact List.pairwise_lt_range' ..
  · intro k x hk1
    rw [Array.getElem?_replicate] at hk1
    split at hk1 <;> simp at hk1
end
end Go.Ser
