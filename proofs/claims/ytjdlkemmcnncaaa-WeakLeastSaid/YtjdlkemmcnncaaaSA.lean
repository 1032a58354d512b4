/-
  Memory in parts: assertions with the blocks that they own, lists of such parts that share no block, and a zone that stays as it is. No condition.
-/
import Derived.Test.YtjdlkemmcnncaaaJN
set_option linter.unusedSimpArgs false
set_option linter.unusedVariables false
namespace Go.S
open Go.Hp Go.J
open Go.Mem (Ty KTy blk)

/-- A part of memory: what it says, and the blocks that it owns. -/
structure Asr where
  on : Heap → (Nat → Prop) → Prop
  lt : ∀ {H S}, on H S → ∀ k, S k → k < H.size
  keep : ∀ {H H' S}, on H S → (∀ k, S k → H'[k]? = H[k]?) → on H' S

def SepL : List Asr → Heap → (Nat → Prop) → Prop
  | [], _, S => ∀ k, ¬ S k
  | A :: r, H, S => ∃ S1 S2, A.on H S1 ∧ SepL r H S2 ∧ (∀ k, S1 k → ¬ S2 k) ∧ ∀ k, S k ↔ S1 k ∨ S2 k

theorem SepL.lt : ∀ {As : List Asr} {H : Heap} {S : Nat → Prop}, SepL As H S → ∀ k, S k → k < H.size
  | [], _, _, h, k, hk => absurd hk (h k)
  | A :: r, H, S, ⟨S1, S2, h1, h2, _, hS⟩, k, hk => by
    rcases (hS k).1 hk with h | h
    · exact A.lt h1 k h
    · exact SepL.lt h2 k h
theorem SepL.keep : ∀ {As : List Asr} {H H' : Heap} {S : Nat → Prop}, SepL As H S → (∀ k, S k → H'[k]? = H[k]?) → SepL As H' S
  | [], _, _, _, h, _ => h
  | A :: r, H, H', S, ⟨S1, S2, h1, h2, hd, hS⟩, hk => ⟨S1, S2, A.keep h1 fun k h => hk k ((hS k).2 (.inl h)), SepL.keep h2 fun k h => hk k ((hS k).2 (.inr h)), hd, hS⟩
theorem SepL.ext {As : List Asr} {H : Heap} {S S' : Nat → Prop} (h : SepL As H S) (e : ∀ k, S k ↔ S' k) : SepL As H S' := by
  have : S = S' := funext fun k => propext (e k)
  rwa [← this]
theorem SepL.swap {A B : Asr} {r : List Asr} {H : Heap} {S : Nat → Prop} (h : SepL (A :: B :: r) H S) : SepL (B :: A :: r) H S := by
  obtain ⟨S1, S2, h1, ⟨S3, S4, h3, h4, hd', hS'⟩, hd, hS⟩ := h
  refine ⟨S3, fun k => S1 k ∨ S4 k, h3, ⟨S1, S4, h1, h4, fun k a b => hd k a ((hS' k).2 (.inr b)), fun k => Iff.rfl⟩, ?_, ?_⟩
  · rintro k a (b | b)
    · exact hd k b ((hS' k).2 (.inl a))
    · exact hd' k a b
  · intro k; rw [hS k, hS' k]; constructor
    · rintro (a | a | a) <;> simp [a]
    · rintro (a | a | a) <;> simp [a]
theorem SepL.cons {A : Asr} {r r' : List Asr} {H : Heap} {S : Nat → Prop} (h : SepL (A :: r) H S) (hr : ∀ S, SepL r H S → SepL r' H S) : SepL (A :: r') H S := by
  obtain ⟨S1, S2, h1, h2, hd, hS⟩ := h
  exact ⟨S1, S2, h1, hr _ h2, hd, hS⟩
theorem SepL.append_iff : ∀ {As Bs : List Asr} {H : Heap} {S : Nat → Prop}, SepL (As ++ Bs) H S ↔ ∃ S1 S2, SepL As H S1 ∧ SepL Bs H S2 ∧ (∀ k, S1 k → ¬ S2 k) ∧ ∀ k, S k ↔ S1 k ∨ S2 k
  | [], Bs, H, S => by
    constructor
    · intro h; exact ⟨fun _ => False, S, fun k h => h, h, fun k h => h.elim, fun k => by simp⟩
    · rintro ⟨S1, S2, h1, h2, _, hS⟩; exact h2.ext fun k => by rw [hS k]; simp [h1 k]
  | A :: r, Bs, H, S => by
    constructor
    · rintro ⟨S1, S2, h1, h2, hd, hS⟩
      obtain ⟨S3, S4, h3, h4, hd', hS'⟩ := SepL.append_iff.1 h2
      refine ⟨fun k => S1 k ∨ S3 k, S4, ⟨S1, S3, h1, h3, fun k a b => hd k a ((hS' k).2 (.inl b)), fun k => Iff.rfl⟩, h4, ?_, ?_⟩
      · rintro k (a | a) b
        · exact hd k a ((hS' k).2 (.inr b))
        · exact hd' k a b
      · intro k; rw [hS k, hS' k]; simp [or_assoc]
    · rintro ⟨S1, S2, ⟨S3, S4, h3, h4, hd', hS'⟩, h2, hd, hS⟩
      refine ⟨S3, fun k => S4 k ∨ S2 k, h3, SepL.append_iff.2 ⟨S4, S2, h4, h2, fun k a b => hd k ((hS' k).2 (.inr a)) b, fun k => Iff.rfl⟩, ?_, ?_⟩
      · rintro k a (b | b)
        · exact hd' k a b
        · exact hd k ((hS' k).2 (.inl a)) b
      · intro k; rw [hS k, hS' k]; simp [or_assoc]

def gt : List Asr → Nat → Option Asr
  | [], _ => none
  | A :: _, 0 => some A
  | _ :: r, i + 1 => gt r i
def upd : List Asr → Nat → Asr → List Asr
  | [], _, _ => []
  | _ :: r, 0, B => B :: r
  | A :: r, i + 1, B => A :: upd r i B
def del : List Asr → Nat → List Asr
  | [], _ => []
  | _ :: r, 0 => r
  | A :: r, i + 1 => A :: del r i
theorem SepL.pull : ∀ {As : List Asr} {i : Nat} {A : Asr} {H : Heap} {S : Nat → Prop}, gt As i = some A → SepL As H S → SepL (A :: del As i) H S
  | [], i, A, _, _, e, _ => by cases i <;> cases e
  | B :: r, 0, A, _, _, e, h => by cases e; exact h
  | B :: r, i + 1, A, _, _, e, h => SepL.swap (h.cons fun _ hr => SepL.pull (i := i) e hr)
theorem SepL.push : ∀ {As : List Asr} {i : Nat} {A B : Asr} {H : Heap} {S : Nat → Prop}, gt As i = some A → SepL (B :: del As i) H S → SepL (upd As i B) H S
  | [], i, A, _, _, _, e, _ => by cases i <;> cases e
  | C :: r, 0, A, _, _, _, e, h => h
  | C :: r, i + 1, A, _, _, _, e, h => (SepL.swap h).cons fun _ hr => SepL.push (i := i) e hr

/-- A part of memory that nobody writes. -/
structure Zone where
  heap : Heap
  dom : Nat → Prop
/-- The memory: the zone as it was, and these parts beside it. -/
structure Holds (Z : Zone) (As : List Asr) (H : Heap) : Prop where
  zone : ∀ k, Z.dom k → H[k]? = Z.heap[k]? ∧ k < H.size
  sep : ∃ S, SepL As H S ∧ ∀ k, S k → ¬ Z.dom k
abbrev zoneOf (H : Heap) : Zone := ⟨H, fun k => k < H.size⟩

section
variable {Z : Zone} {As Bs : List Asr} {H H' : Heap} {A A' : Asr} {i : Nat}
theorem Holds.start (H : Heap) : Holds (zoneOf H) [] H := ⟨fun k hk => ⟨rfl, hk⟩, fun _ => False, fun k h => h, fun k h => h.elim⟩
theorem Holds.imp (h : Holds Z As H) (f : ∀ S, SepL As H S → SepL Bs H S) : Holds Z Bs H := by
  obtain ⟨S, hS, hd⟩ := h.sep
  exact ⟨h.zone, S, f S hS, hd⟩
theorem Holds.pull (h : Holds Z As H) (hi : gt As i = some A) : Holds Z (A :: del As i) H := h.imp fun _ => SepL.pull hi
theorem Holds.push (hi : gt As i = some A) (h : Holds Z (A' :: del As i) H) : Holds Z (upd As i A') H := h.imp fun _ => SepL.push hi
theorem Holds.tail (h : Holds Z (A :: As) H) : Holds Z As H := by
  obtain ⟨S, ⟨S1, S2, h1, h2, hd', hS⟩, hd⟩ := h.sep
  exact ⟨h.zone, S2, h2, fun k hk => hd k ((hS k).2 (.inr hk))⟩
theorem Holds.drop (h : Holds Z As H) (hi : gt As i = some A) : Holds Z (del As i) H := (h.pull hi).tail
theorem Holds.swap {B : Asr} (h : Holds Z (A :: B :: As) H) : Holds Z (B :: A :: As) H := h.imp fun _ => SepL.swap
theorem Holds.appendL (h : Holds Z (As ++ Bs) H) : Holds Z As H := by
  obtain ⟨S, hS, hd⟩ := h.sep
  obtain ⟨S1, S2, h1, h2, hd', hS'⟩ := SepL.append_iff.1 hS
  exact ⟨h.zone, S1, h1, fun k hk => hd k ((hS' k).2 (.inl hk))⟩
theorem Holds.appendR (h : Holds Z (As ++ Bs) H) : Holds Z Bs H := by
  obtain ⟨S, hS, hd⟩ := h.sep
  obtain ⟨S1, S2, h1, h2, hd', hS'⟩ := SepL.append_iff.1 hS
  exact ⟨h.zone, S2, h2, fun k hk => hd k ((hS' k).2 (.inr hk))⟩
/-- What a part says. -/
theorem Holds.part (h : Holds Z As H) (hi : gt As i = some A) : ∃ S, A.on H S ∧ ∀ k, S k → ¬ Z.dom k := by
  obtain ⟨S, ⟨S1, S2, h1, _, _, hS⟩, hd⟩ := (h.pull hi).sep
  exact ⟨S1, h1, fun k hk => hd k ((hS k).2 (.inl hk))⟩
/-- A part turns. -/
theorem Holds.step0 (h : Holds Z (A :: As) H) (hs : ∀ S, A.on H S → ∃ S', A'.on H' S' ∧ Chg S H H' ∧ ∀ k, S' k → S k ∨ H.size ≤ k) : Holds Z (A' :: As) H' := by
  obtain ⟨S, ⟨S1, S2, h1, h2, hd', hS⟩, hd⟩ := h.sep
  obtain ⟨S1', h1', hc, hsub⟩ := hs S1 h1
  refine ⟨fun k hk => ?_, fun k => S1' k ∨ S2 k, ⟨S1', S2, h1', h2.keep fun k hk => ?_, fun k a b => ?_, fun k => Iff.rfl⟩, ?_⟩
  · have hz := h.zone k hk
    refine ⟨(hc.block k hz.2 fun h1k => ?_).trans hz.1, Nat.lt_of_lt_of_le hz.2 hc.size⟩
    exact hd k ((hS k).2 (.inl h1k)) hk
  · exact hc.block k (h2.lt k hk) fun h1k => hd' k h1k hk
  · rcases hsub k a with h | h
    · exact hd' k h b
    · have := h2.lt k b; omega
  · rintro k (a | a) hz
    · rcases hsub k a with h' | h'
      · exact hd k ((hS k).2 (.inl h')) hz
      · have := (h.zone k hz).2; omega
    · exact hd k ((hS k).2 (.inr a)) hz
theorem Holds.step (h : Holds Z As H) (hi : gt As i = some A) (hs : ∀ S, A.on H S → ∃ S', A'.on H' S' ∧ Chg S H H' ∧ ∀ k, S' k → S k ∨ H.size ≤ k) : Holds Z (upd As i A') H' :=
  Holds.push hi ((h.pull hi).step0 hs)
/-- Nothing old turns. -/
theorem Holds.ext (h : Holds Z As H) (hc : Chg (fun _ => False) H H') : Holds Z As H' := by
  obtain ⟨S, hS, hd⟩ := h.sep
  exact ⟨fun k hk => ⟨(hc.block k (h.zone k hk).2 fun h => h).trans (h.zone k hk).1, Nat.lt_of_lt_of_le (h.zone k hk).2 hc.size⟩, S, hS.keep fun k hk => hc.block k (hS.lt k hk) fun h => h, hd⟩
theorem Holds.news {S' : Nat → Prop} (h : Holds Z As H) (hc : Chg (fun _ => False) H H') (hB : SepL Bs H' S') (hlo : ∀ k, S' k → H.size ≤ k) : Holds Z (Bs ++ As) H' := by
  obtain ⟨S, hS, hd⟩ := h.sep
  refine ⟨(h.ext hc).zone, fun k => S' k ∨ S k, SepL.append_iff.2 ⟨S', S, hB, hS.keep fun k hk => hc.block k (hS.lt k hk) fun h => h, fun k a b => ?_, fun k => Iff.rfl⟩, ?_⟩
  · have := hlo k a; have := hS.lt k b; omega
  · rintro k (a | a) hz
    · have := hlo k a; have := (h.zone k hz).2; omega
    · exact hd k a hz
theorem Holds.new {S' : Nat → Prop} (h : Holds Z As H) (hc : Chg (fun _ => False) H H') (hB : A.on H' S') (hlo : ∀ k, S' k → H.size ≤ k) : Holds Z (A :: As) H' :=
  h.news (Bs := [A]) hc ⟨S', fun _ => False, hB, fun k h => h, fun k _ h => h, fun k => by simp⟩ hlo
/-- Parts that were made beside a memory that stayed. -/
theorem Holds.join (h : Holds Z As H) (k : Holds (zoneOf H) Bs H') : Holds Z (Bs ++ As) H' := by
  obtain ⟨S, hS, hd⟩ := k.sep
  refine h.news ⟨?_, fun j hj _ => (k.zone j hj).1⟩ hS fun j hj => Nat.le_of_not_lt (hd j hj)
  cases hs : H.size with
  | zero => exact Nat.zero_le _
  | succ m => exact (k.zone m (show m < H.size by omega)).2
theorem Holds.chg (k : Holds (zoneOf H) Bs H') : Chg (fun _ => False) H H' := by
  refine ⟨?_, fun j hj _ => (k.zone j hj).1⟩
  cases hs : H.size with
  | zero => exact Nat.zero_le _
  | succ m => exact (k.zone m (show m < H.size by omega)).2
/-- Parts in another order. -/
theorem Holds.perm (h : Holds Z As H) (hp : As.Perm Bs) : Holds Z Bs H := by
  refine h.imp fun S hS => ?_
  clear h
  induction hp generalizing S with
  | nil => exact hS
  | cons _ _ ih => exact hS.cons ih
  | swap => exact hS.swap
  | trans _ _ ih1 ih2 => exact ih2 _ (ih1 _ hS)

/-! ### Parts -/
/-- A block of cells. -/
def blkA (g : Nat) (arr : Array Value) (e : TypeId) : Asr where
  on H S := H[g]? = some (.cells arr e (0, 0)) ∧ ∀ k, S k ↔ k = g
  lt h k hk := by obtain rfl := (h.2 k).1 hk; exact lt_of_some h.1
  keep h hk := ⟨(hk g ((h.2 g).2 rfl)).trans h.1, h.2⟩
/-- A slice with its block. -/
def own {α : Type} (T : Ty α) (v : Value) (L : List α) : Asr where
  on H S := Ow H T v L ∧ ∀ k, S k ↔ blk v = some k
  lt h k hk := h.1.lt ((h.2 k).1 hk)
  keep h hk := ⟨h.1.kept fun g hg => hk g ((h.2 g).2 hg), h.2⟩
/-- A map. -/
def mpA {κ β : Type} [DecidableEq κ] (K : KTy κ) (V : β → Value) (b : Nat) (m : List (κ × β)) : Asr where
  on H S := Mp H K V b m ∧ ∀ k, S k ↔ k = b
  lt h k hk := by obtain rfl := (h.2 k).1 hk; exact h.1.lt
  keep h hk := ⟨h.1.kept (hk b ((h.2 b).2 rfl)), h.2⟩
def exA {ι : Type} (A : ι → Asr) : Asr where
  on H S := ∃ x, (A x).on H S
  lt h k hk := by obtain ⟨x, h⟩ := h; exact (A x).lt h k hk
  keep h hk := by obtain ⟨x, h⟩ := h; exact ⟨x, (A x).keep h hk⟩
/-- Parts under a condition. -/
def stA (p : Prop) (As : List Asr) : Asr where
  on H S := p ∧ SepL As H S
  lt h k hk := h.2.lt k hk
  keep h hk := ⟨h.1, h.2.keep hk⟩
theorem Holds.open_st {p : Prop} (h : Holds Z (stA p As :: Bs) H) : p ∧ Holds Z (As ++ Bs) H := by
  obtain ⟨S, ⟨S1, S2, h1, h2, hd', hS⟩, hd⟩ := h.sep
  exact ⟨h1.1, h.zone, S, SepL.append_iff.2 ⟨S1, S2, h1.2, h2, hd', hS⟩, hd⟩
theorem Holds.shut_st {p : Prop} (hp : p) (h : Holds Z (As ++ Bs) H) : Holds Z (stA p As :: Bs) H := h.imp fun S hS => by
  obtain ⟨S1, S2, h1, h2, hd, hS'⟩ := SepL.append_iff.1 hS
  exact ⟨S1, S2, ⟨hp, h1⟩, h2, hd, hS'⟩
theorem Holds.open_ex {ι : Type} {A : ι → Asr} (h : Holds Z (exA A :: Bs) H) : ∃ x, Holds Z (A x :: Bs) H := by
  obtain ⟨S, ⟨S1, S2, ⟨x, h1⟩, h2, hd', hS⟩, hd⟩ := h.sep
  exact ⟨x, h.zone, S, ⟨S1, S2, h1, h2, hd', hS⟩, hd⟩
theorem Holds.shut_ex {ι : Type} {A : ι → Asr} (x : ι) (h : Holds Z (A x :: Bs) H) : Holds Z (exA A :: Bs) H := h.imp fun S ⟨S1, S2, h1, h2, hd, hS⟩ => ⟨S1, S2, ⟨x, h1⟩, h2, hd, hS⟩
theorem Holds.blk {g : Nat} {arr : Array Value} {e : TypeId} (h : Holds Z As H) (hi : gt As i = some (blkA g arr e)) : H[g]? = some (.cells arr e (0, 0)) := by
  obtain ⟨S, hS, _⟩ := h.part hi; exact hS.1
theorem Holds.ow {α : Type} {T : Ty α} {v : Value} {L : List α} (h : Holds Z As H) (hi : gt As i = some (own T v L)) : Ow H T v L := by
  obtain ⟨S, hS, _⟩ := h.part hi; exact hS.1
theorem Holds.mp {κ β : Type} [DecidableEq κ] {K : KTy κ} {V : β → Value} {b : Nat} {m : List (κ × β)} (h : Holds Z As H) (hi : gt As i = some (mpA K V b m)) : Mp H K V b m := by
  obtain ⟨S, hS, _⟩ := h.part hi; exact hS.1
/-- What the zone says. -/
def Kn {α : Type} (Z : Zone) (T : Ty α) (v : Value) (L : List α) : Prop := ∀ H : Heap, (∀ k, Z.dom k → H[k]? = Z.heap[k]? ∧ k < H.size) → Sl H T v L
theorem Kn.of {α : Type} {T : Ty α} {v : Value} {L : List α} (h : Sl H T v L) : Kn (zoneOf H) T v L := fun _ hz => h.kept' fun g _ hl => (hz g hl).1
theorem Kn.get {α : Type} {T : Ty α} {v : Value} {L : List α} (k : Kn Z T v L) (h : Holds Z As H) : Sl H T v L := k H h.zone
end
end Go.S
