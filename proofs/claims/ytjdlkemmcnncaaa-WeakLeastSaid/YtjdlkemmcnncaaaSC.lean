/-
  Contracts over one heap turned into contracts over memory in parts; parts that the zone knows. No condition but those that each rule says.
-/
import Derived.Test.YtjdlkemmcnncaaaSO
set_option linter.unusedSimpArgs false
set_option linter.unusedVariables false
namespace Go.S
open Go.Hp Go.J
open Go.Mem (Ty KTy blk)

section
variable {P : Program} {Z : Zone} {As Bs F : List Asr} {H H' : Heap} {A A' : Asr} {f : FuncId} {args : Array Value}
theorem Holds.split (h : Holds Z (A :: As) H) : ∃ S, A.on H S ∧ ∀ (H' : Heap) (Cs : List Asr) (S' : Nat → Prop), SepL Cs H' S' → Chg S H H' → (∀ k, S' k → S k ∨ H.size ≤ k) → Holds Z (Cs ++ As) H' := by
  obtain ⟨S, ⟨S1, S2, h1, h2, hd', hS⟩, hd⟩ := h.sep
  refine ⟨S1, h1, fun H' Cs S1' h1' hc hsub => ?_⟩
  refine ⟨fun k hk => ?_, fun k => S1' k ∨ S2 k, SepL.append_iff.2 ⟨S1', S2, h1', h2.keep fun k hk => ?_, fun k a b => ?_, fun k => Iff.rfl⟩, ?_⟩
  · have hz := h.zone k hk
    refine ⟨(hc.block k hz.2 fun h1k => ?_).trans hz.1, Nat.lt_of_lt_of_le hz.2 hc.size⟩
    exact hd k ((hS k).2 (.inl h1k)) hk
  · exact hc.block k (h2.lt k hk) fun h1k => hd' k h1k hk
  · rcases hsub k a with h | h
    · exact hd' k h b
    · have := h2.lt k b; omega
  · rintro k (a | a) hz
    · rcases hsub k a with h' | h'
      · exact hd k ((hS k).2 (.inl h')) hz
      · have := (h.zone k hz).2; omega
    · exact hd k ((hS k).2 (.inr a)) hz
theorem sepL_one {S : Nat → Prop} (h : A.on H S) : SepL [A] H S := ⟨S, fun _ => False, h, fun _ h => h, fun _ _ h => h, fun k => by simp⟩
/-- A contract that turns one part. -/
theorem sf_of {val : Value} (h : ∀ H S, A.on H S → HC P f args H fun v H' => v = val ∧ ∃ S', A'.on H' S' ∧ Chg S H H' ∧ ∀ k, S' k → S k ∨ H.size ≤ k) : SF P f args Z (A :: F) fun v Bs => v = val ∧ Bs = A' :: F := fun H hH => by
  obtain ⟨S, hS, hk⟩ := hH.split
  exact (h H S hS).mono fun v H' ⟨hv, S', hA, hc, hs⟩ => ⟨_, ⟨hv, rfl⟩, hk H' [A'] S' (sepL_one hA) hc hs⟩
/-- A contract that turns nothing old. -/
theorem sf_val {val : Value} (h : ∀ H, Holds Z [] H → HC P f args H fun v H' => v = val ∧ Chg (fun _ => False) H H') : SF P f args Z [] fun v Bs => v = val ∧ Bs = [] := fun H hH =>
  (h H hH).mono fun v H' ⟨hv, hc⟩ => ⟨_, ⟨hv, rfl⟩, hH.ext hc⟩
theorem sf_own {α : Type} {T : Ty α} {L : List α} (h : ∀ H, Holds Z [] H → HC P f args H fun v H' => Ow H' T v L ∧ Chg (fun _ => False) H H' ∧ ∀ k, blk v = some k → H.size ≤ k) : SF P f args Z [] fun v Bs => Bs = [own T v L] := fun H hH =>
  (h H hH).mono fun v H' ⟨hv, hc, hlo⟩ => ⟨_, rfl, hH.new hc (S' := fun k => blk v = some k) ⟨hv, fun k => Iff.rfl⟩ hlo⟩
theorem Holds.nilS {α : Type} {T : Ty α} (h : Holds Z As H) : Holds Z (own T (.slice none 0 0) [] :: As) H :=
  h.new (Chg.refl _ _) (S' := fun _ => False) ⟨Ow.nil _ _, fun k => ⟨fun h => h.elim, fun h => by cases h⟩⟩ fun _ h => h.elim
/-- A part that lies in the zone. -/
def KnA (Z : Zone) (A : Asr) : Prop := ∃ S, A.on Z.heap S ∧ ∀ k, S k → Z.dom k
theorem KnA.get (k : KnA Z A) (h : Holds Z As H) : ∃ S, A.on H S := by
  obtain ⟨S, hS, hd⟩ := k
  exact ⟨S, A.keep hS fun k hk => (h.zone k (hd k hk)).1⟩
theorem Holds.kn (h : Holds Z As H) (i : Nat) (hi : gt As i = some A := by rfl) : KnA (zoneOf H) A := by
  obtain ⟨S, hS, _⟩ := h.part hi
  exact ⟨S, hS, fun k hk => A.lt hS k hk⟩
theorem Holds.knS {α : Type} {T : Ty α} {v : Value} {L : List α} (h : Holds Z As H) (i : Nat) (hi : gt As i = some (own T v L) := by rfl) : Kn (zoneOf H) T v L := .of (h.ow hi).sl
theorem Kn.up {α : Type} {T : Ty α} {v : Value} {L : List α} (k : Kn Z T v L) (h : Holds Z As H) : Kn (zoneOf H) T v L := .of (k.get h)
end
end Go.S
