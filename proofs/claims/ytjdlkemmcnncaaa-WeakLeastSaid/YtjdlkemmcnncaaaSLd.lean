/-
  Parts that are lent to a call, which reads them; results that hold what the zone knows. No condition but those that each rule says.
-/
import Derived.Test.YtjdlkemmcnncaaaSR
set_option linter.unusedSimpArgs false
set_option linter.unusedVariables false
namespace Go.S
open Go.Hp Go.J
open Go.Mem (Ty KTy blk)
def ZOk (Z : Zone) (H : Heap) : Prop := ∀ k, Z.dom k → H[k]? = Z.heap[k]? ∧ k < H.size
/-- The zone Z' knows what Z knows, and the part K. -/
structure Lend (Z Z' : Zone) (K : Asr) : Prop where
  sub : ∀ H, ZOk Z' H → ZOk Z H
  has : ∀ H, ZOk Z' H → ∃ S, K.on H S
section
variable {P : Program} {Z Z' : Zone} {As As0 Bs : List Asr} {H H' : Heap} {K : Asr} {α : Type} {T : Ty α} {v : Value} {L : List α} {F : Heap → Prop}
theorem Lend.kn (h : Lend Z Z' K) (k : Kn Z T v L) : Kn Z' T v L := fun H hz => k H (h.sub H hz)
theorem Lend.own (h : Lend Z Z' (own T v L)) : Kn Z' T v L := fun H hz => by
  obtain ⟨S, hS⟩ := h.has H hz; exact hS.1.sl
theorem Lend.frz (h : Lend Z Z' (frz F)) : ∀ H, ZOk Z' H → F H := fun H hz => by
  obtain ⟨S, hS⟩ := h.has H hz; exact hS.2 H fun _ _ => rfl
theorem lend_in (h : Holds Z (K :: As) H) : ∃ Z', Lend Z Z' K ∧ Holds Z' As H ∧ ∀ Bs H', Holds Z' Bs H' → Holds Z (K :: Bs) H' := by
  obtain ⟨S, ⟨S1, S2, h1, h2, hd', hS⟩, hd⟩ := h.sep
  refine ⟨⟨H, fun k => Z.dom k ∨ S1 k⟩, ⟨fun H2 hz k hk => ?_, fun H2 hz => ⟨S1, K.keep h1 fun k hk => (hz k (.inr hk)).1⟩⟩, ⟨fun k hk => ?_, S2, h2, fun k hk => ?_⟩, fun Bs H2 h3 => ?_⟩
  · have := hz k (.inl hk); exact ⟨this.1.trans (h.zone k hk).1, this.2⟩
  · rcases hk with hk | hk
    · exact ⟨rfl, (h.zone k hk).2⟩
    · exact ⟨rfl, K.lt h1 k hk⟩
  · rintro (hz | hz)
    · exact hd k ((hS k).2 (.inr hk)) hz
    · exact hd' k hz hk
  · obtain ⟨S3, h4, h5⟩ := h3.sep
    refine ⟨fun k hk => ?_, fun k => S1 k ∨ S3 k, ⟨S1, S3, K.keep h1 fun k hk => (h3.zone k (.inr hk)).1, h4, fun k a b => h5 k b (.inr a), fun k => Iff.rfl⟩, ?_⟩
    · have := h3.zone k (.inl hk); exact ⟨this.1.trans (h.zone k hk).1, this.2⟩
    · rintro k (a | a) hz
      · exact hd k ((hS k).2 (.inl a)) hz
      · exact h5 k a (.inl hz)
variable {w0 : World} {ops : Array Oper} {Q : Exit → Act → World → Prop} {n : Nat} {E : Env} {o : Oper} {rest : List Oper} {f : FuncId} {xs : Array Operand} {ts : Array TypeId} {vals : List Value} {R : Value → List Asr → Prop}
theorem s_lend {d : Nat} (i : Nat) (is : List Nat) (hc : ∀ Z', Lend Z Z' K → SF P f vals.toArray Z' As0 R) (h : ∀ v Bs, R v Bs → SL P w0 ops Q n rest ((d, v) :: E) Z (K :: Bs)) (hi : gt As i = some K := by rfl) (hp : rearr (del As i) is = As0 := by rfl)
    (ho : o.op = .call { callee := .value (.func f), args := xs, argTypes := ts } := by rfl) (hx : (xs.toList.map (ev E)) = vals := by rfl) (hd : o.dst = some d := by rfl) (hfn : isFn P f = true := by kernel_rfl) (hk : okOp ops n E o = true := by kernel_rfl) : SL P w0 ops Q n (o :: rest) E Z As := fun H hH => by
  obtain ⟨Z', hl, h1, h2⟩ := lend_in (hH.pull hi)
  exact l_call ho vals hk hx hfn (hc Z' hl H (hp ▸ h1.rearr is)) fun v H' ⟨Bs, hr, hB⟩ => by rw [hd]; exact h v Bs hr H' (h2 Bs H' hB)
theorem s_lend0 (i : Nat) (is : List Nat) (hc : ∀ Z', Lend Z Z' K → SF P f vals.toArray Z' As0 R) (h : ∀ v Bs, R v Bs → SL P w0 ops Q n rest E Z (K :: Bs)) (hi : gt As i = some K := by rfl) (hp : rearr (del As i) is = As0 := by rfl)
    (ho : o.op = .call { callee := .value (.func f), args := xs, argTypes := ts } := by rfl) (hx : (xs.toList.map (ev E)) = vals := by rfl) (hd : o.dst = none := by rfl) (hfn : isFn P f = true := by kernel_rfl) (hk : okOp ops n E o = true := by kernel_rfl) : SL P w0 ops Q n (o :: rest) E Z As := fun H hH => by
  obtain ⟨Z', hl, h1, h2⟩ := lend_in (hH.pull hi)
  exact l_call ho vals hk hx hfn (hc Z' hl H (hp ▸ h1.rearr is)) fun v H' ⟨Bs, hr, hB⟩ => by rw [hd]; exact h v Bs hr H' (h2 Bs H' hB)
/-- Parts that nobody turns, that may lean on the zone. -/
def zfr (Z : Zone) (F : Heap → Prop) : Asr := frz fun H => ZOk Z H → F H
theorem Holds.zfrF (h : Holds Z As H) (i : Nat) (hi : gt As i = some (zfr Z F) := by rfl) : F H := h.frzF i hi h.zone
theorem Holds.zfr0 (h : Holds Z As H) (hF : ∀ H, ZOk Z H → F H) : Holds Z (zfr Z F :: As) H := h.frz0 hF
theorem Holds.zfrO (h : Holds Z (own T v L :: zfr Z F :: As) H) : Holds Z (zfr Z (fun H => Sl H T v L ∧ F H) :: As) H := (Holds.frzO h).frzM fun H h hz => ⟨h.1, h.2 hz⟩
theorem Holds.zfrM {G : Heap → Prop} (hF : ∀ H, ZOk Z H → F H → G H) (h : Holds Z (zfr Z F :: As) H) : Holds Z (zfr Z G :: As) H := Holds.frzM (fun H h hz => hF H hz (h hz)) h
theorem Holds.zfrJ {G : Heap → Prop} (h : Holds Z (zfr Z F :: zfr Z G :: As) H) : Holds Z (zfr Z (fun H => F H ∧ G H) :: As) H := (Holds.frzJ h).frzM fun H h hz => ⟨h.1 hz, h.2 hz⟩
theorem Holds.toZ (h : Holds Z (frz F :: As) H) : Holds Z (zfr Z F :: As) H := h.frzM fun _ h _ => h
end
end Go.S
