/-
  Memory in parts: assertions with the blocks that they own, lists of such parts that share no block, and a zone that stays as it is. No condition.
  The logic of walks over memory in parts: rules for control, for operations that only read, for operations that write, and for calls. No condition but those that each rule says.
  The logic of walks over memory in parts: operations that read (Lt), and operations that write. No condition but those that each rule says.
  Contracts over one heap turned into contracts over memory in parts; parts that the zone knows. No condition but those that each rule says.
  More operations that only read: quotients, remainders, negation, conversions of integers. No condition but those that each rule says.
  Parts of a slice that has its own block: copy into such a part; a slice against nil. No condition but those that each rule says.
  Strings: concatenation, parts, bytes, length. No condition but those that each rule says.
  Slices of bytes, and strings out of them. No condition but those that each rule says.
  Drawn regions where two operations may come up next: both ways are walked.
  States that are opened under several names at once. No condition.
  A map that is ranged over while nobody writes it; parts that stay as they are (frozen). No condition but those that each rule says.
  Bits of integers. No condition but those that each rule says.
  Slices with their block, from any place of it on: a queue that loses its head and grows at its end. Each law says its conditions.
  Parts that are lent to a call, which reads them; results that hold what the zone knows. No condition but those that each rule says.
-/
import Derived.Test.YtipmkaabogocfaaGB
import Derived.Laws.BytesString
import Derived.Laws.IdiomRangeMap
import Derived.ArgAppend

set_option linter.unusedSimpArgs false
set_option linter.unusedVariables false
namespace Go.S
open Go.Hp Go.J
open Go.Mem (Ty KTy blk)

/-- A part of memory: what it says, and the blocks that it owns. -/
structure Asr where
  on : Heap → (Nat → Prop) → Prop
  lt : ∀ {H S}, on H S → ∀ k, S k → k < H.size
  keep : ∀ {H H' S}, on H S → (∀ k, S k → H'[k]? = H[k]?) → on H' S

def SepL : List Asr → Heap → (Nat → Prop) → Prop
  | [], _, S => ∀ k, ¬ S k
  | A :: r, H, S => ∃ S1 S2, A.on H S1 ∧ SepL r H S2 ∧ (∀ k, S1 k → ¬ S2 k) ∧ ∀ k, S k ↔ S1 k ∨ S2 k

theorem SepL.lt : ∀ {As : List Asr} {H : Heap} {S : Nat → Prop}, SepL As H S → ∀ k, S k → k < H.size
  | [], _, _, h, k, hk => absurd hk (h k)
  | A :: r, H, S, ⟨S1, S2, h1, h2, _, hS⟩, k, hk => by
    rcases (hS k).1 hk with h | h
    · exact A.lt h1 k h
    · exact SepL.lt h2 k h
theorem SepL.keep : ∀ {As : List Asr} {H H' : Heap} {S : Nat → Prop}, SepL As H S → (∀ k, S k → H'[k]? = H[k]?) → SepL As H' S
  | [], _, _, _, h, _ => h
  | A :: r, H, H', S, ⟨S1, S2, h1, h2, hd, hS⟩, hk => ⟨S1, S2, A.keep h1 fun k h => hk k ((hS k).2 (.inl h)), SepL.keep h2 fun k h => hk k ((hS k).2 (.inr h)), hd, hS⟩
theorem SepL.ext {As : List Asr} {H : Heap} {S S' : Nat → Prop} (h : SepL As H S) (e : ∀ k, S k ↔ S' k) : SepL As H S' := by
  have : S = S' := funext fun k => propext (e k)
  rwa [← this]
theorem SepL.swap {A B : Asr} {r : List Asr} {H : Heap} {S : Nat → Prop} (h : SepL (A :: B :: r) H S) : SepL (B :: A :: r) H S := by
  obtain ⟨S1, S2, h1, ⟨S3, S4, h3, h4, hd', hS'⟩, hd, hS⟩ := h
  refine ⟨S3, fun k => S1 k ∨ S4 k, h3, ⟨S1, S4, h1, h4, fun k a b => hd k a ((hS' k).2 (.inr b)), fun k => Iff.rfl⟩, ?_, ?_⟩
  · rintro k a (b | b)
    · exact hd k b ((hS' k).2 (.inl a))
    · exact hd' k a b
  · intro k; rw [hS k, hS' k]; constructor
    · rintro (a | a | a) <;> simp [a]
    · rintro (a | a | a) <;> simp [a]
theorem SepL.cons {A : Asr} {r r' : List Asr} {H : Heap} {S : Nat → Prop} (h : SepL (A :: r) H S) (hr : ∀ S, SepL r H S → SepL r' H S) : SepL (A :: r') H S := by
  obtain ⟨S1, S2, h1, h2, hd, hS⟩ := h
  exact ⟨S1, S2, h1, hr _ h2, hd, hS⟩
theorem SepL.append_iff : ∀ {As Bs : List Asr} {H : Heap} {S : Nat → Prop}, SepL (As ++ Bs) H S ↔ ∃ S1 S2, SepL As H S1 ∧ SepL Bs H S2 ∧ (∀ k, S1 k → ¬ S2 k) ∧ ∀ k, S k ↔ S1 k ∨ S2 k
  | [], Bs, H, S => by
    constructor
    · intro h; exact ⟨fun _ => False, S, fun k h => h, h, fun k h => h.elim, fun k => by simp⟩
    · rintro ⟨S1, S2, h1, h2, _, hS⟩; exact h2.ext fun k => by rw [hS k]; simp [h1 k]
  | A :: r, Bs, H, S => by
    constructor
    · rintro ⟨S1, S2, h1, h2, hd, hS⟩
      obtain ⟨S3, S4, h3, h4, hd', hS'⟩ := SepL.append_iff.1 h2
      refine ⟨fun k => S1 k ∨ S3 k, S4, ⟨S1, S3, h1, h3, fun k a b => hd k a ((hS' k).2 (.inl b)), fun k => Iff.rfl⟩, h4, ?_, ?_⟩
      · rintro k (a | a) b
        · exact hd k a ((hS' k).2 (.inr b))
        · exact hd' k a b
      · intro k; rw [hS k, hS' k]; simp [or_assoc]
    · rintro ⟨S1, S2, ⟨S3, S4, h3, h4, hd', hS'⟩, h2, hd, hS⟩
      refine ⟨S3, fun k => S4 k ∨ S2 k, h3, SepL.append_iff.2 ⟨S4, S2, h4, h2, fun k a b => hd k ((hS' k).2 (.inr a)) b, fun k => Iff.rfl⟩, ?_, ?_⟩
      · rintro k a (b | b)
        · exact hd' k a b
        · exact hd k ((hS' k).2 (.inl a)) b
      · intro k; rw [hS k, hS' k]; simp [or_assoc]

def gt : List Asr → Nat → Option Asr
  | [], _ => none
  | A :: _, 0 => some A
  | _ :: r, i + 1 => gt r i
def upd : List Asr → Nat → Asr → List Asr
  | [], _, _ => []
  | _ :: r, 0, B => B :: r
  | A :: r, i + 1, B => A :: upd r i B
def del : List Asr → Nat → List Asr
  | [], _ => []
  | _ :: r, 0 => r
  | A :: r, i + 1 => A :: del r i
theorem SepL.pull : ∀ {As : List Asr} {i : Nat} {A : Asr} {H : Heap} {S : Nat → Prop}, gt As i = some A → SepL As H S → SepL (A :: del As i) H S
  | [], i, A, _, _, e, _ => by cases i <;> cases e
  | B :: r, 0, A, _, _, e, h => by cases e; exact h
  | B :: r, i + 1, A, _, _, e, h => SepL.swap (h.cons fun _ hr => SepL.pull (i := i) e hr)
theorem SepL.push : ∀ {As : List Asr} {i : Nat} {A B : Asr} {H : Heap} {S : Nat → Prop}, gt As i = some A → SepL (B :: del As i) H S → SepL (upd As i B) H S
  | [], i, A, _, _, _, e, _ => by cases i <;> cases e
  | C :: r, 0, A, _, _, _, e, h => h
  | C :: r, i + 1, A, _, _, _, e, h => (SepL.swap h).cons fun _ hr => SepL.push (i := i) e hr

/-- A part of memory that nobody writes. -/
structure Zone where
  heap : Heap
  dom : Nat → Prop
/-- The memory: the zone as it was, and these parts beside it. -/
structure Holds (Z : Zone) (As : List Asr) (H : Heap) : Prop where
  zone : ∀ k, Z.dom k → H[k]? = Z.heap[k]? ∧ k < H.size
  sep : ∃ S, SepL As H S ∧ ∀ k, S k → ¬ Z.dom k
abbrev zoneOf (H : Heap) : Zone := ⟨H, fun k => k < H.size⟩

section
variable {Z : Zone} {As Bs : List Asr} {H H' : Heap} {A A' : Asr} {i : Nat}
theorem Holds.start (H : Heap) : Holds (zoneOf H) [] H := ⟨fun k hk => ⟨rfl, hk⟩, fun _ => False, fun k h => h, fun k h => h.elim⟩
theorem Holds.imp (h : Holds Z As H) (f : ∀ S, SepL As H S → SepL Bs H S) : Holds Z Bs H := by
  obtain ⟨S, hS, hd⟩ := h.sep
  exact ⟨h.zone, S, f S hS, hd⟩
theorem Holds.pull (h : Holds Z As H) (hi : gt As i = some A) : Holds Z (A :: del As i) H := h.imp fun _ => SepL.pull hi
theorem Holds.push (hi : gt As i = some A) (h : Holds Z (A' :: del As i) H) : Holds Z (upd As i A') H := h.imp fun _ => SepL.push hi
theorem Holds.tail (h : Holds Z (A :: As) H) : Holds Z As H := by
  obtain ⟨S, ⟨S1, S2, h1, h2, hd', hS⟩, hd⟩ := h.sep
  exact ⟨h.zone, S2, h2, fun k hk => hd k ((hS k).2 (.inr hk))⟩
theorem Holds.drop (h : Holds Z As H) (hi : gt As i = some A) : Holds Z (del As i) H := (h.pull hi).tail
theorem Holds.swap {B : Asr} (h : Holds Z (A :: B :: As) H) : Holds Z (B :: A :: As) H := h.imp fun _ => SepL.swap
theorem Holds.appendL (h : Holds Z (As ++ Bs) H) : Holds Z As H := by
  obtain ⟨S, hS, hd⟩ := h.sep
  obtain ⟨S1, S2, h1, h2, hd', hS'⟩ := SepL.append_iff.1 hS
  exact ⟨h.zone, S1, h1, fun k hk => hd k ((hS' k).2 (.inl hk))⟩
theorem Holds.appendR (h : Holds Z (As ++ Bs) H) : Holds Z Bs H := by
  obtain ⟨S, hS, hd⟩ := h.sep
  obtain ⟨S1, S2, h1, h2, hd', hS'⟩ := SepL.append_iff.1 hS
  exact ⟨h.zone, S2, h2, fun k hk => hd k ((hS' k).2 (.inr hk))⟩
/-- What a part says. -/
theorem Holds.part (h : Holds Z As H) (hi : gt As i = some A) : ∃ S, A.on H S ∧ ∀ k, S k → ¬ Z.dom k := by
  obtain ⟨S, ⟨S1, S2, h1, _, _, hS⟩, hd⟩ := (h.pull hi).sep
  exact ⟨S1, h1, fun k hk => hd k ((hS k).2 (.inl hk))⟩
/-- A part turns. -/
theorem Holds.step0 (h : Holds Z (A :: As) H) (hs : ∀ S, A.on H S → ∃ S', A'.on H' S' ∧ Chg S H H' ∧ ∀ k, S' k → S k ∨ H.size ≤ k) : Holds Z (A' :: As) H' := by
  obtain ⟨S, ⟨S1, S2, h1, h2, hd', hS⟩, hd⟩ := h.sep
  obtain ⟨S1', h1', hc, hsub⟩ := hs S1 h1
  refine ⟨fun k hk => ?_, fun k => S1' k ∨ S2 k, ⟨S1', S2, h1', h2.keep fun k hk => ?_, fun k a b => ?_, fun k => Iff.rfl⟩, ?_⟩
  · have hz := h.zone k hk
    refine ⟨(hc.block k hz.2 fun h1k => ?_).trans hz.1, Nat.lt_of_lt_of_le hz.2 hc.size⟩
    exact hd k ((hS k).2 (.inl h1k)) hk
  · exact hc.block k (h2.lt k hk) fun h1k => hd' k h1k hk
  · rcases hsub k a with h | h
    · exact hd' k h b
    · have := h2.lt k b; omega
  · rintro k (a | a) hz
    · rcases hsub k a with h' | h'
      · exact hd k ((hS k).2 (.inl h')) hz
      · have := (h.zone k hz).2; omega
    · exact hd k ((hS k).2 (.inr a)) hz
theorem Holds.step (h : Holds Z As H) (hi : gt As i = some A) (hs : ∀ S, A.on H S → ∃ S', A'.on H' S' ∧ Chg S H H' ∧ ∀ k, S' k → S k ∨ H.size ≤ k) : Holds Z (upd As i A') H' :=
  Holds.push hi ((h.pull hi).step0 hs)
/-- Nothing old turns. -/
theorem Holds.ext (h : Holds Z As H) (hc : Chg (fun _ => False) H H') : Holds Z As H' := by
  obtain ⟨S, hS, hd⟩ := h.sep
  exact ⟨fun k hk => ⟨(hc.block k (h.zone k hk).2 fun h => h).trans (h.zone k hk).1, Nat.lt_of_lt_of_le (h.zone k hk).2 hc.size⟩, S, hS.keep fun k hk => hc.block k (hS.lt k hk) fun h => h, hd⟩
theorem Holds.news {S' : Nat → Prop} (h : Holds Z As H) (hc : Chg (fun _ => False) H H') (hB : SepL Bs H' S') (hlo : ∀ k, S' k → H.size ≤ k) : Holds Z (Bs ++ As) H' := by
  obtain ⟨S, hS, hd⟩ := h.sep
  refine ⟨(h.ext hc).zone, fun k => S' k ∨ S k, SepL.append_iff.2 ⟨S', S, hB, hS.keep fun k hk => hc.block k (hS.lt k hk) fun h => h, fun k a b => ?_, fun k => Iff.rfl⟩, ?_⟩
  · have := hlo k a; have := hS.lt k b; omega
  · rintro k (a | a) hz
    · have := hlo k a; have := (h.zone k hz).2; omega
    · exact hd k a hz
theorem Holds.new {S' : Nat → Prop} (h : Holds Z As H) (hc : Chg (fun _ => False) H H') (hB : A.on H' S') (hlo : ∀ k, S' k → H.size ≤ k) : Holds Z (A :: As) H' :=
  h.news (Bs := [A]) hc ⟨S', fun _ => False, hB, fun k h => h, fun k _ h => h, fun k => by simp⟩ hlo
/-- Parts that were made beside a memory that stayed. -/
theorem Holds.join (h : Holds Z As H) (k : Holds (zoneOf H) Bs H') : Holds Z (Bs ++ As) H' := by
  obtain ⟨S, hS, hd⟩ := k.sep
  refine h.news ⟨?_, fun j hj _ => (k.zone j hj).1⟩ hS fun j hj => Nat.le_of_not_lt (hd j hj)
  cases hs : H.size with
  | zero => exact Nat.zero_le _
  | succ m => exact (k.zone m (show m < H.size by omega)).2
theorem Holds.chg (k : Holds (zoneOf H) Bs H') : Chg (fun _ => False) H H' := by
  refine ⟨?_, fun j hj _ => (k.zone j hj).1⟩
  cases hs : H.size with
  | zero => exact Nat.zero_le _
  | succ m => exact (k.zone m (show m < H.size by omega)).2
/-- Parts in another order. -/
theorem Holds.perm (h : Holds Z As H) (hp : As.Perm Bs) : Holds Z Bs H := by
  refine h.imp fun S hS => ?_
  clear h
  induction hp generalizing S with
  | nil => exact hS
  | cons _ _ ih => exact hS.cons ih
  | swap => exact hS.swap
  | trans _ _ ih1 ih2 => exact ih2 _ (ih1 _ hS)

/-! ### Parts -/
/-- A block of cells. -/
def blkA (g : Nat) (arr : Array Value) (e : TypeId) : Asr where
  on H S := H[g]? = some (.cells arr e (0, 0)) ∧ ∀ k, S k ↔ k = g
  lt h k hk := by obtain rfl := (h.2 k).1 hk; exact lt_of_some h.1
  keep h hk := ⟨(hk g ((h.2 g).2 rfl)).trans h.1, h.2⟩
/-- A slice with its block. -/
def own {α : Type} (T : Ty α) (v : Value) (L : List α) : Asr where
  on H S := Ow H T v L ∧ ∀ k, S k ↔ blk v = some k
  lt h k hk := h.1.lt ((h.2 k).1 hk)
  keep h hk := ⟨h.1.kept fun g hg => hk g ((h.2 g).2 hg), h.2⟩
/-- A map. -/
def mpA {κ β : Type} [DecidableEq κ] (K : KTy κ) (V : β → Value) (b : Nat) (m : List (κ × β)) : Asr where
  on H S := Mp H K V b m ∧ ∀ k, S k ↔ k = b
  lt h k hk := by obtain rfl := (h.2 k).1 hk; exact h.1.lt
  keep h hk := ⟨h.1.kept (hk b ((h.2 b).2 rfl)), h.2⟩
def exA {ι : Type} (A : ι → Asr) : Asr where
  on H S := ∃ x, (A x).on H S
  lt h k hk := by obtain ⟨x, h⟩ := h; exact (A x).lt h k hk
  keep h hk := by obtain ⟨x, h⟩ := h; exact ⟨x, (A x).keep h hk⟩
/-- Parts under a condition. -/
def stA (p : Prop) (As : List Asr) : Asr where
  on H S := p ∧ SepL As H S
  lt h k hk := h.2.lt k hk
  keep h hk := ⟨h.1, h.2.keep hk⟩
theorem Holds.open_st {p : Prop} (h : Holds Z (stA p As :: Bs) H) : p ∧ Holds Z (As ++ Bs) H := by
  obtain ⟨S, ⟨S1, S2, h1, h2, hd', hS⟩, hd⟩ := h.sep
  exact ⟨h1.1, h.zone, S, SepL.append_iff.2 ⟨S1, S2, h1.2, h2, hd', hS⟩, hd⟩
theorem Holds.shut_st {p : Prop} (hp : p) (h : Holds Z (As ++ Bs) H) : Holds Z (stA p As :: Bs) H := h.imp fun S hS => by
  obtain ⟨S1, S2, h1, h2, hd, hS'⟩ := SepL.append_iff.1 hS
  exact ⟨S1, S2, ⟨hp, h1⟩, h2, hd, hS'⟩
theorem Holds.open_ex {ι : Type} {A : ι → Asr} (h : Holds Z (exA A :: Bs) H) : ∃ x, Holds Z (A x :: Bs) H := by
  obtain ⟨S, ⟨S1, S2, ⟨x, h1⟩, h2, hd', hS⟩, hd⟩ := h.sep
  exact ⟨x, h.zone, S, ⟨S1, S2, h1, h2, hd', hS⟩, hd⟩
theorem Holds.shut_ex {ι : Type} {A : ι → Asr} (x : ι) (h : Holds Z (A x :: Bs) H) : Holds Z (exA A :: Bs) H := h.imp fun S ⟨S1, S2, h1, h2, hd, hS⟩ => ⟨S1, S2, ⟨x, h1⟩, h2, hd, hS⟩
theorem Holds.blk {g : Nat} {arr : Array Value} {e : TypeId} (h : Holds Z As H) (hi : gt As i = some (blkA g arr e)) : H[g]? = some (.cells arr e (0, 0)) := by
  obtain ⟨S, hS, _⟩ := h.part hi; exact hS.1
theorem Holds.ow {α : Type} {T : Ty α} {v : Value} {L : List α} (h : Holds Z As H) (hi : gt As i = some (own T v L)) : Ow H T v L := by
  obtain ⟨S, hS, _⟩ := h.part hi; exact hS.1
theorem Holds.mp {κ β : Type} [DecidableEq κ] {K : KTy κ} {V : β → Value} {b : Nat} {m : List (κ × β)} (h : Holds Z As H) (hi : gt As i = some (mpA K V b m)) : Mp H K V b m := by
  obtain ⟨S, hS, _⟩ := h.part hi; exact hS.1
/-- What the zone says. -/
def Kn {α : Type} (Z : Zone) (T : Ty α) (v : Value) (L : List α) : Prop := ∀ H : Heap, (∀ k, Z.dom k → H[k]? = Z.heap[k]? ∧ k < H.size) → Sl H T v L
theorem Kn.of {α : Type} {T : Ty α} {v : Value} {L : List α} (h : Sl H T v L) : Kn (zoneOf H) T v L := fun _ hz => h.kept' fun g _ hl => (hz g hl).1
theorem Kn.get {α : Type} {T : Ty α} {v : Value} {L : List α} (k : Kn Z T v L) (h : Holds Z As H) : Sl H T v L := k H h.zone
end
end Go.S


set_option linter.unusedSimpArgs false
set_option linter.unusedVariables false
namespace Go.S
open Go.Hp Go.J
open Go.Mem (Ty KTy blk elemAt addr_add addr_add_add pre suf aget aset adel apos Stamps aggDesc spliceAt)

section
variable {P : Program} {w0 : World} {ops : Array Oper} {Q : Exit → Act → World → Prop} {n : Nat} {E : Env} {Z : Zone} {As : List Asr} {o : Oper} {rest : List Oper}
def SL (P : Program) (w0 : World) (ops : Array Oper) (Q : Exit → Act → World → Prop) (n : Nat) (l : List Oper) (E : Env) (Z : Zone) (As : List Asr) : Prop := ∀ H, Holds Z As H → JL P w0 ops Q n l E H
def SK (P : Program) (w0 : World) (c : Code) (Q : Exit → Act → World → Prop) (n : Nat) (E : Env) (Z : Zone) (As : List Asr) : Prop := ∀ H, Holds Z As H → JC P w0 c Q n E H
def SX (w0 : World) (x : Exit) (Q : Exit → Act → World → Prop) (n : Nat) (E : Env) (Z : Zone) (As : List Asr) : Prop := ∀ H, Holds Z As H → JX w0 x Q n E H

/-! ### Control -/
theorem k_seq {x y : Code} (h : SK P w0 x (Exit.then (y.wp P Q) Q) n E Z As) : SK P w0 (.seq x y) Q n E Z As := fun H hH => c_seq (h H hH)
theorem k_skip (h : SX w0 .normal Q n E Z As) : SK P w0 .skip Q n E Z As := fun H hH => c_skip (h H hH)
theorem k_ret (h : SX w0 .ret Q n E Z As) : SK P w0 .ret Q n E Z As := fun H hH => c_ret (h H hH)
theorem k_exit {id : Nat} (h : SX w0 (.exit id) Q n E Z As) : SK P w0 (.exit id) Q n E Z As := fun H hH => c_exit (h H hH)
theorem k_block {id : Nat} {c : Code} (h : SK P w0 c (Exit.inBlock id Q) n E Z As) : SK P w0 (.block id c) Q n E Z As := fun H hH => c_block (h H hH)
theorem k_true {t : Operand} {x y : Code} (h : SK P w0 x Q n E Z As) (hv : ev E t = .bool true := by rfl) (hk : knows E t = true := by rfl) : SK P w0 (.cond t x y) Q n E Z As := fun H hH => c_true hk hv (h H hH)
theorem k_false {t : Operand} {x y : Code} (h : SK P w0 y Q n E Z As) (hv : ev E t = .bool false := by rfl) (hk : knows E t = true := by rfl) : SK P w0 (.cond t x y) Q n E Z As := fun H hH => c_false hk hv (h H hH)
theorem k_cond {t : Operand} {x y : Code} (c : Bool) (h1 : c = true → SK P w0 x Q n E Z As) (h2 : c = false → SK P w0 y Q n E Z As) (hv : ev E t = .bool c := by rfl) (hk : knows E t = true := by rfl) : SK P w0 (.cond t x y) Q n E Z As :=
  fun H hH => c_cond hk hv (fun e => h1 e H hH) (fun e => h2 e H hH)
theorem k_reg {id : Nat} {l : List Oper} (h : SL P w0 l.toArray Q n l E Z As) : SK P w0 (.region id l.toArray false) Q n E Z As := fun H hH => c_reg (h H hH)
theorem k_draw {id : Nat} {l : List Oper} (h : SL P w0 l.toArray (Ser.DynQ P l Q) n l E Z As) (hm : P.follows .mixedOrders = true := by kernel_rfl) (hk : Ser.check P l = true := by kernel_rfl) : SK P w0 (.region id l.toArray true) Q n E Z As := fun H hH => c_draw hm hk (h H hH)
theorem s_nil (h : SX w0 .normal Q n E Z As) : SL P w0 ops Q n [] E Z As := fun H hH => l_nil (h H hH)
theorem x_dynS {l : List Oper} (hd : ∀ H, Holds Z As H → (l.all fun o => !(Ser.clsOf P o == 0) || !(Ser.isDyn o) || dynOne l E o) = true) (h : SX w0 .normal Q n E Z As) : SX w0 .normal (Ser.DynQ P l Q) n E Z As := fun H hH => x_dyn (hd H hH) (h H hH)
theorem xs_then {y : Code} (h : SK P w0 y Q n E Z As) : SX w0 .normal (Exit.then (y.wp P Q) Q) n E Z As := h
theorem xs_block {id : Nat} (h : SX w0 .normal Q n E Z As) : SX w0 .normal (Exit.inBlock id Q) n E Z As := h
theorem xs_exit {id : Nat} {K : Act → World → Prop} (h : SX w0 (.exit id) Q n E Z As) : SX w0 (.exit id) (Exit.then K Q) n E Z As := h
theorem xs_here {id : Nat} (h : SX w0 .normal Q n E Z As) : SX w0 (.exit id) (Exit.inBlock id Q) n E Z As := fun H hH => x_here (h H hH)
theorem xs_other {id id' : Nat} (h : SX w0 (.exit id) Q n E Z As) (hne : Nat.beq id id' = false := by rfl) : SX w0 (.exit id) (Exit.inBlock id' Q) n E Z As := fun H hH => x_other hne (h H hH)
theorem xs_ret {K : Act → World → Prop} (h : SX w0 .ret Q n E Z As) : SX w0 .ret (Exit.then K Q) n E Z As := h
theorem xs_retBlock {id : Nat} (h : SX w0 .ret Q n E Z As) : SX w0 .ret (Exit.inBlock id Q) n E Z As := h

/-! ### The state spelt otherwise -/
theorem k_mem {c : Code} {Bs : List Asr} (hA : ∀ H, Holds Z As H → Holds Z Bs H) (h : SK P w0 c Q n E Z Bs) : SK P w0 c Q n E Z As := fun H hH => h H (hA H hH)
theorem s_mem {l : List Oper} {Bs : List Asr} (hA : ∀ H, Holds Z As H → Holds Z Bs H) (h : SL P w0 ops Q n l E Z Bs) : SL P w0 ops Q n l E Z As := fun H hH => h H (hA H hH)
theorem xs_mem {x : Exit} {Bs : List Asr} (hA : ∀ H, Holds Z As H → Holds Z Bs H) (h : SX w0 x Q n E Z Bs) : SX w0 x Q n E Z As := fun H hH => h H (hA H hH)
theorem k_memX {c : Code} {ι : Type} {Bs : ι → List Asr} {p : ι → Prop} (hA : ∀ H, Holds Z As H → ∃ x, p x ∧ Holds Z (Bs x) H) (h : ∀ x, p x → SK P w0 c Q n E Z (Bs x)) : SK P w0 c Q n E Z As := fun H hH => by
  obtain ⟨x, hx, hB⟩ := hA H hH; exact h x hx H hB
theorem s_memX {l : List Oper} {ι : Type} {Bs : ι → List Asr} {p : ι → Prop} (hA : ∀ H, Holds Z As H → ∃ x, p x ∧ Holds Z (Bs x) H) (h : ∀ x, p x → SL P w0 ops Q n l E Z (Bs x)) : SL P w0 ops Q n l E Z As := fun H hH => by
  obtain ⟨x, hx, hB⟩ := hA H hH; exact h x hx H hB
theorem xs_memX {c : Exit} {ι : Type} {Bs : ι → List Asr} {p : ι → Prop} (hA : ∀ H, Holds Z As H → ∃ x, p x ∧ Holds Z (Bs x) H) (h : ∀ x, p x → SX w0 c Q n E Z (Bs x)) : SX w0 c Q n E Z As := fun H hH => by
  obtain ⟨x, hx, hB⟩ := hA H hH; exact h x hx H hB
/-- A plain fact that memory holds. -/
theorem k_fact {c : Code} {p : Prop} (hA : ∀ H, Holds Z As H → p) (h : p → SK P w0 c Q n E Z As) : SK P w0 c Q n E Z As := fun H hH => h (hA H hH) H hH
theorem s_fact {l : List Oper} {p : Prop} (hA : ∀ H, Holds Z As H → p) (h : p → SL P w0 ops Q n l E Z As) : SL P w0 ops Q n l E Z As := fun H hH => h (hA H hH) H hH
theorem xs_fact {x : Exit} {p : Prop} (hA : ∀ H, Holds Z As H → p) (h : p → SX w0 x Q n E Z As) : SX w0 x Q n E Z As := fun H hH => h (hA H hH) H hH
theorem k_env {c : Code} (E' : Env) (hs : subB E E') (h : SK P w0 c Q n E' Z As) : SK P w0 c Q n E Z As := fun H hH => JC.sub E' hs (h H hH)
theorem s_env {l : List Oper} (E' : Env) (hs : subB E E') (h : SL P w0 ops Q n l E' Z As) : SL P w0 ops Q n l E Z As := fun H hH => l_env E' hs (h H hH)
/-- A piece of code up to a state that is named. -/
def Cut (w0 : World) (n : Nat) {ι : Type} (p : ι → Prop) (Ei : ι → Env) (Ai : ι → List Asr) (Z : Zone) : Act → World → Prop :=
  fun a w => ∃ i H, p i ∧ Fits n a (Ei i) ∧ At w0 H w ∧ Holds Z (Ai i) H
theorem k_cut {x y : Code} {ι : Type} (p : ι → Prop) (Ei : ι → Env) (Ai : ι → List Asr) (hx : SK P w0 x (Exit.then (Cut w0 n p Ei Ai Z) Q) n E Z As) (hy : ∀ i, p i → SK P w0 y Q n (Ei i) Z (Ai i)) : SK P w0 (.seq x y) Q n E Z As := fun H hH a w hf ha => by
  refine wp_seq (Code.wp_mono (fun e a w q => ?_) (hx H hH a w hf ha))
  cases e <;> first | exact q | skip
  obtain ⟨i, H', hp, h1, h2, h3⟩ := q
  exact hy i hp H' h3 a w h1 h2
theorem xs_cut {ι : Type} {p : ι → Prop} {Ei : ι → Env} {Ai : ι → List Asr} (i : ι) (hp : p i) (hE : subB E (Ei i)) (hA : ∀ H, Holds Z As H → Holds Z (Ai i) H) : SX w0 .normal (Exit.then (Cut w0 n p Ei Ai Z) Q) n E Z As :=
  fun H hH a w hf ha => ⟨i, H, hp, hf.of_sub hE, ha, hA H hH⟩

def rearr (As : List Asr) : List Nat → List Asr
  | [] => As
  | i :: is => match gt As i with | some A => A :: rearr (del As i) is | none => As
def dels (As : List Asr) : List Nat → List Asr
  | [] => As
  | i :: is => dels (del As i) is
theorem SepL.rearr {H : Heap} : ∀ {is : List Nat} {As : List Asr} {S : Nat → Prop}, SepL As H S → SepL (Go.S.rearr As is) H S := by
  intro is
  induction is with
  | nil => intro As S h; exact h
  | cons i is ih =>
    intro As S h
    show SepL (match gt As i with | some A => A :: Go.S.rearr (del As i) is | none => As) H S
    cases e : gt As i with
    | none => exact h
    | some A => exact (h.pull e).cons fun _ hr => ih hr
theorem Holds.rearr {H : Heap} (h : Holds Z As H) (is : List Nat) : Holds Z (Go.S.rearr As is) H := h.imp fun _ hS => hS.rearr
theorem del_none : ∀ {As : List Asr} {i : Nat}, gt As i = none → del As i = As
  | [], i, _ => by cases i <;> rfl
  | _ :: _, 0, h => by cases h
  | A :: r, i + 1, h => congrArg (A :: ·) (del_none (As := r) (i := i) h)
theorem Holds.dels {H : Heap} : ∀ {is : List Nat} {As : List Asr}, Holds Z As H → Holds Z (Go.S.dels As is) H
  | [], _, h => h
  | i :: is, As, h => Holds.dels (is := is) (As := del As i) (by
    cases e : gt As i with
    | none => rw [del_none e]; exact h
    | some A => exact h.drop e)
/-- Parts in another order, and without some. -/
theorem Holds.re {H : Heap} {Bs : List Asr} (is ds : List Nat) (h : Holds Z As H) (e : Go.S.dels (Go.S.rearr As is) ds = Bs := by rfl) : Holds Z Bs H := e ▸ (h.rearr is).dels

/-! ### Loops -/
theorem k_loop {c : Code} {ι : Type} (I : ι → Prop) (Ei : ι → Env) (Ai : ι → List Asr) (μ : ι → Nat) (i0 : ι) (h0 : I i0) (hE : subB E (Ei i0)) (hA : ∀ H, Holds Z As H → Holds Z (Ai i0) H)
    (round : ∀ i, I i → SK P w0 c (Exit.then (LoopK w0 n Ei (fun i H => I i ∧ Holds Z (Ai i) H) μ i) Q) n (Ei i) Z (Ai i)) : SK P w0 (.loop c) Q n E Z As :=
  fun H hH => c_loop Ei (fun i H => I i ∧ Holds Z (Ai i) H) μ i0 hE ⟨h0, hA H hH⟩ fun i H' ⟨hi, hh⟩ => round i hi H' hh
theorem xs_round {ι : Type} {I : ι → Prop} {Ei : ι → Env} {Ai : ι → List Asr} {μ : ι → Nat} {i : ι} (i' : ι) (hμ : μ i' < μ i) (hI : I i') (hE : subB E (Ei i')) (hA : ∀ H, Holds Z As H → Holds Z (Ai i') H) : SX w0 .normal (Exit.then (LoopK w0 n Ei (fun i H => I i ∧ Holds Z (Ai i) H) μ i) Q) n E Z As :=
  fun H hH => x_round i' hμ hE ⟨hI, hA H hH⟩

/-! ### Calls, entry, results -/
/-- A contract. -/
def SF (P : Program) (f : FuncId) (args : Array Value) (Z : Zone) (As : List Asr) (R : Value → List Asr → Prop) : Prop :=
  ∀ H, Holds Z As H → HC P f args H fun v H' => ∃ Bs, R v Bs ∧ Holds Z Bs H'
def FinS (P : Program) (fn : Func) (w0 : World) (Z : Zone) (R : Value → List Asr → Prop) : Exit → Act → World → Prop := Fin P fn w0 fun v H' => ∃ Bs, R v Bs ∧ Holds Z Bs H'
theorem sf_enter {f : FuncId} {fn : Func} {c : Code} {args : Array Value} {R : Value → List Asr → Prop} (hf : P.funcs[f]? = some fn) (m : Nat) (E : Env) (h : ∀ w0, SK P w0 c (FinS P fn w0 Z R) m E Z As)
    (hb : fn.body = some c := by rfl) (hm : fn.ntmps = m := by rfl) (hle : Nat.ble args.size m = true := by rfl) (hE : (args.toList.zipIdx.map fun p => (p.2, p.1)) = E := by rfl) : SF P f args Z As R :=
  fun H hH => enter hf hb m hm hle E hE fun w0 => h w0 H hH
theorem SF.mono {f : FuncId} {args : Array Value} {R R' : Value → List Asr → Prop} (h : SF P f args Z As R) (hR : ∀ v Bs, R v Bs → R' v Bs) : SF P f args Z As R' :=
  fun H hH => (h H hH).mono fun v H' ⟨Bs, hr, hB⟩ => ⟨Bs, hR _ _ hr, hB⟩
/-- A function that writes nothing old, in any memory. -/
theorem SF.frame {f : FuncId} {args : Array Value} {R : Value → List Asr → Prop} (h : ∀ H, Holds Z As H → SF P f args (zoneOf H) [] R) : SF P f args Z As fun v Bs => ∃ Cs, R v Cs ∧ Bs = Cs ++ As :=
  fun H hH => (h H hH H (Holds.start H)).mono fun v H' ⟨Cs, hr, hC⟩ => ⟨_, ⟨Cs, hr, rfl⟩, hH.join hC⟩
/-- .. as a contract over one heap. -/
theorem SF.hc {f : FuncId} {args : Array Value} {H : Heap} {R : Value → List Asr → Prop} (h : SF P f args (zoneOf H) [] R) : HC P f args H fun v H' => (∃ Bs, R v Bs) ∧ Chg (fun _ => False) H H' :=
  (h H (Holds.start H)).mono fun v H' ⟨Bs, hr, hB⟩ => ⟨⟨Bs, hr⟩, hB.chg⟩
theorem s_call {f : FuncId} {xs : Array Operand} {ts : Array TypeId} {vals : List Value} {R : Value → List Asr → Prop} {d : Nat} {As0 : List Asr} (is : List Nat) (hc : SF P f vals.toArray Z As0 R)
    (h : ∀ v Bs, R v Bs → SL P w0 ops Q n rest ((d, v) :: E) Z Bs) (hp : rearr As is = As0 := by rfl)
    (ho : o.op = .call { callee := .value (.func f), args := xs, argTypes := ts } := by rfl) (hx : (xs.toList.map (ev E)) = vals := by rfl) (hd : o.dst = some d := by rfl) (hfn : isFn P f = true := by kernel_rfl) (hk : okOp ops n E o = true := by kernel_rfl) : SL P w0 ops Q n (o :: rest) E Z As :=
  fun H hH => l_call ho vals hk hx hfn (hc H (hp ▸ hH.rearr is)) fun v H' ⟨Bs, hr, hB⟩ => by rw [hd]; exact h v Bs hr H' hB
theorem s_call0 {f : FuncId} {xs : Array Operand} {ts : Array TypeId} {vals : List Value} {R : Value → List Asr → Prop} {As0 : List Asr} (is : List Nat) (hc : SF P f vals.toArray Z As0 R)
    (h : ∀ v Bs, R v Bs → SL P w0 ops Q n rest E Z Bs) (hp : rearr As is = As0 := by rfl)
    (ho : o.op = .call { callee := .value (.func f), args := xs, argTypes := ts } := by rfl) (hx : (xs.toList.map (ev E)) = vals := by rfl) (hd : o.dst = none := by rfl) (hfn : isFn P f = true := by kernel_rfl) (hk : okOp ops n E o = true := by kernel_rfl) : SL P w0 ops Q n (o :: rest) E Z As :=
  fun H hH => l_call ho vals hk hx hfn (hc H (hp ▸ hH.rearr is)) fun v H' ⟨Bs, hr, hB⟩ => by rw [hd]; exact h v Bs hr H' hB
theorem s_pcall {f : FuncId} {xs : Array Operand} {ts : Array TypeId} {vals : List Value} {R : Value → List Asr → Prop} {d : Nat} (hc : ∀ H, Holds Z As H → SF P f vals.toArray (zoneOf H) [] R)
    (h : ∀ v Bs, R v Bs → SL P w0 ops Q n rest ((d, v) :: E) Z (Bs ++ As))
    (ho : o.op = .call { callee := .value (.func f), args := xs, argTypes := ts } := by rfl) (hx : (xs.toList.map (ev E)) = vals := by rfl) (hd : o.dst = some d := by rfl) (hfn : isFn P f = true := by kernel_rfl) (hk : okOp ops n E o = true := by kernel_rfl) : SL P w0 ops Q n (o :: rest) E Z As :=
  fun H hH => l_call ho vals hk hx hfn (hc H hH H (Holds.start H)) fun v H' ⟨Bs, hr, hB⟩ => by rw [hd]; exact h v Bs hr H' (hH.join hB)
/-- .. whose result is all. -/
theorem s_vcall {f : FuncId} {xs : Array Operand} {ts : Array TypeId} {vals : List Value} {R : Value → Prop} {d : Nat} (hc : ∀ H, Holds Z As H → SF P f vals.toArray (zoneOf H) [] fun v Bs => R v ∧ Bs = [])
    (h : ∀ v, R v → SL P w0 ops Q n rest ((d, v) :: E) Z As)
    (ho : o.op = .call { callee := .value (.func f), args := xs, argTypes := ts } := by rfl) (hx : (xs.toList.map (ev E)) = vals := by rfl) (hd : o.dst = some d := by rfl) (hfn : isFn P f = true := by kernel_rfl) (hk : okOp ops n E o = true := by kernel_rfl) : SL P w0 ops Q n (o :: rest) E Z As :=
  s_pcall hc (by rintro v _ ⟨hr, rfl⟩; exact h v hr) ho hx hd hfn hk
theorem and_t {a b : Bool} (h : (a && b) = true) : a = true ∧ b = true := by simpa using h
theorem or_f {a b : Bool} (h : (a || b) = false) : a = false ∧ b = false := by simpa using h
theorem not_t {a : Bool} (h : (!a) = true) : a = false := by simpa using h
theorem not_f {a : Bool} (h : (!a) = false) : a = true := by simpa using h
/-- Results. -/
def SI (P : Program) (E : Env) (Z : Zone) (As : List Asr) (rs : List ResultVar) (vs : List Value) : Prop := ∀ H, Holds Z As H → Items P E H rs vs
theorem SI.nil : SI P E Z As [] [] := fun _ _ => .nil
theorem SI.tmp (t : Tmp) {v : Value} {rs : List ResultVar} {vs : List Value} (h : SI P E Z As rs vs) (hv : J.look E t = v := by rfl) (hk : J.has E t = true := by rfl) : SI P E Z As (.tmp t :: rs) (v :: vs) := fun H hH => .cons (.tmp t v hk hv) (h H hH)
theorem SI.cell (t : Tmp) (ty : TypeId) {v : Value} {rs : List ResultVar} {vs : List Value} {g k : Nat} {arr : Array Value} {e : TypeId} (i : Nat) (h : SI P E Z As rs vs) (hv : J.look E t = .pointer (some ⟨g, k, none⟩) := by rfl) (hA : gt As i = some (blkA g arr e) := by rfl) (hu : arr[k]? = some v := by rfl) (ht : scalarT P ty = true := by kernel_rfl) (hk : J.has E t = true := by rfl) : SI P E Z As (.cell t ty :: rs) (v :: vs) :=
  fun H hH => .cons (.cell t ty v _ hk hv fun w hw => run_loadC ht (by show cellH w.heap _ = _; rw [hw]; exact (cellH_row (hH.blk hA)).trans hu)) (h H hH)
theorem SI.agg (t : Tmp) (ty : TypeId) {cs : Array Value} {rs : List ResultVar} {vs : List Value} {g k m : Nat} {arr : Array Value} {e : TypeId} (i : Nat) (h : SI P E Z As rs vs) (hv : J.look E t = .pointer (some ⟨g, k, none⟩) := by rfl) (hA : gt As i = some (blkA g arr e) := by rfl) (hl : cs.size = m := by rfl) (hc : arr.toList.extract k (k + m) = cs.toList := by rfl) (ht : aggT P ty m = true := by kernel_rfl) (hk : J.has E t = true := by rfl) : SI P E Z As (.cell t ty :: rs) (.agg cs :: vs) :=
  fun H hH => .cons (.cell t ty _ _ hk hv fun w hw => run_loadX ht hw (hH.blk hA) cs hl hc) (h H hH)
theorem xs_fin {fn : Func} {R : Value → List Asr → Prop} {rs : List ResultVar} (vs : List Value) (Bs : List Asr) (hi : SI P E Z As rs vs) (hA : ∀ H, Holds Z As H → Holds Z Bs H) (h : R (pack vs) Bs) (hr : fn.results.toList = rs := by rfl) : SX w0 .ret (FinS P fn w0 Z R) n E Z As :=
  fun H hH => x_fin _ (res_of hr (hi H hH)) ⟨Bs, h, hA H hH⟩
theorem xs_finN {fn : Func} {R : Value → List Asr → Prop} {rs : List ResultVar} (vs : List Value) (Bs : List Asr) (hi : SI P E Z As rs vs) (hA : ∀ H, Holds Z As H → Holds Z Bs H) (h : R (pack vs) Bs) (hr : fn.results.toList = rs := by rfl) : SX w0 .normal (FinS P fn w0 Z R) n E Z As :=
  fun H hH => x_finN _ (res_of hr (hi H hH)) ⟨Bs, h, hA H hH⟩
end
end Go.S


set_option linter.unusedSimpArgs false
set_option linter.unusedVariables false
namespace Go.S
open Go.Hp Go.J
open Go.Mem (Ty KTy blk elemAt addr_add addr_add_add pre suf aget aset adel apos Stamps aggDesc spliceAt)

section
variable {P : Program} {w0 : World} {ops : Array Oper} {Q : Exit → Act → World → Prop} {n : Nat} {E : Env} {Z : Zone} {As : List Asr} {o : Oper} {rest : List Oper}
/-- A slice can be read. -/
def Acc {α : Type} (Z : Zone) (As : List Asr) (T : Ty α) (v : Value) (L : List α) : Prop := ∀ H, Holds Z As H → Sl H T v L
section
variable {α : Type} {T : Ty α} {v : Value} {L M : List α}
theorem Acc.own (i : Nat) (hi : gt As i = some (own T v L) := by rfl) : Acc Z As T v L := fun H h => (h.ow hi).sl
theorem Acc.zn (k : Kn Z T v L) : Acc Z As T v L := fun H h => k.get h
theorem Acc.nil : Acc Z As T (.slice none 0 0) [] := fun H h => Sl.nil _ _
theorem Acc.pre (a : Acc Z As T v L) (hT : T.Ok P) (m : Nat) (hm : m ≤ L.length) : Acc Z As T (pre v m) (L.take m) := fun H h => (a H h).pre hT m hm
theorem Acc.suf (a : Acc Z As T v L) (hT : T.Ok P) (m : Nat) (hm : m ≤ L.length) : Acc Z As T (suf T.size v m) (L.drop m) := fun H h => (a H h).suf hT m hm
theorem Acc.lit (i : Nat) {g m : Nat} {arr : Array Value} {e : TypeId} (hT : T.Ok P) (L : List α) (hi : gt As i = some (blkA g arr e) := by rfl) (he : e = T.id := by rfl) (ha : arr.toList = T.flat L := by rfl) (hm : m = L.length := by rfl) (hl : L.length ≤ 9223372036854775807 := by simp) : Acc Z As T (.slice (some ⟨g, 0, none⟩) m m) L :=
  fun H h => (Ow.lit hT L (by have := h.blk hi; rw [he] at this; exact this) ha hm hl).sl
theorem Acc.kn {H : Heap} (a : Acc Z As T v L) (h : Holds Z As H) : Kn (zoneOf H) T v L := .of (a H h)
theorem Acc.len (a : Acc Z As T v L) : ∀ H, Holds Z As H → L.length ≤ 9223372036854775807 := fun H h => (a H h).len_le
/-- A block that was laid is a slice of its own. -/
theorem Holds.slice (i : Nat) {g m : Nat} {arr : Array Value} {e : TypeId} {H : Heap} (h : Holds Z As H) (hT : T.Ok P) (L : List α) (hi : gt As i = some (blkA g arr e) := by rfl) (he : e = T.id := by rfl) (ha : arr.toList = T.flat L := by rfl) (hm : m = L.length := by rfl) (hl : L.length ≤ 9223372036854775807 := by simp) : Holds Z (upd As i (S.own T (.slice (some ⟨g, 0, none⟩) m m) L)) H := by
  refine h.step hi fun S ⟨h1, h2⟩ => ⟨S, ⟨Ow.lit hT L (by rw [he] at h1; exact h1) ha hm hl, fun k => ?_⟩, Chg.refl _ _, fun k hk => .inl hk⟩
  rw [h2 k]; show k = g ↔ some g = some k; simp [eq_comm]
theorem Holds.pre {i : Nat} {H : Heap} (h : Holds Z As H) (hT : T.Ok P) (m : Nat) (hi : gt As i = some (S.own T v L)) (hm : m ≤ L.length) : Holds Z (upd As i (S.own T (Go.Mem.pre v m) (L.take m))) H := by
  refine h.step hi fun S ⟨h1, h2⟩ => ⟨S, ⟨h1.pre hT m hm, fun k => ?_⟩, Chg.refl _ _, fun k hk => .inl hk⟩
  rw [h2 k, Go.Mem.blk_pre]
end

/-- An operation that only reads. -/
def Lt (P : Program) (E : Env) (o : Oper) (Z : Zone) (As : List Asr) (v : Value) : Prop := ∀ H, Holds Z As H → Light P E o H v
theorem s_lt {v : Value} {d : Nat} (t : Lt P E o Z As v) (h : SL P w0 ops Q n rest ((d, v) :: E) Z As) (hd : o.dst = some d := by rfl) (hk : okOp ops n E o = true := by kernel_rfl) : SL P w0 ops Q n (o :: rest) E Z As :=
  fun H hH => l_read v hk (fun w hw => (t H hH).run w hw) (by rw [hd]; exact h H hH)
theorem s_lt0 {v : Value} (t : Lt P E o Z As v) (h : SL P w0 ops Q n rest E Z As) (hd : o.dst = none := by rfl) (hk : okOp ops n E o = true := by kernel_rfl) : SL P w0 ops Q n (o :: rest) E Z As :=
  fun H hH => l_read v hk (fun w hw => (t H hH).run w hw) (by rw [hd]; exact h H hH)
theorem s_skip {d : Nat} (h : SL P w0 ops Q n rest ((d, undef) :: E) Z As) (hd : o.dst = some d := by rfl) (hu : unwant ops E o = true := by kernel_rfl) (hk : dstOk n o.dst = true := by rfl) : SL P w0 ops Q n (o :: rest) E Z As :=
  fun H hH => l_skip hu hk (by rw [hd]; exact h H hH)
theorem s_skip0 (h : SL P w0 ops Q n rest E Z As) (hd : o.dst = none := by rfl) (hu : unwant ops E o = true := by kernel_rfl) (hk : dstOk n o.dst = true := by rfl) : SL P w0 ops Q n (o :: rest) E Z As :=
  fun H hH => l_skip hu hk (by rw [hd]; exact h H hH)
theorem s_fork {l : List Oper} (t : Nat) (c : Bool) (h1 : c = true → SL P w0 ops Q n l ((t, .bool true) :: E) Z As) (h2 : c = false → SL P w0 ops Q n l ((t, .bool false) :: E) Z As) (hv : J.look E t = .bool c := by rfl) (hh : J.has E t = true := by rfl) : SL P w0 ops Q n l E Z As :=
  fun H hH => l_fork t c hh hv (fun e => h1 e H hH) (fun e => h2 e H hH)

theorem t_pure (v : Value) (hr : ∀ w, (execOp (ev E) o).run P w = .ok (.value v) w := by exact fun _ => rfl) : Lt P E o Z As v := fun _ _ => r_pure v hr
theorem t_kern (v : Value) (hr : ∀ w, (execOp (ev E) o).run P w = .ok (.value v) w := by intro _; kernel_rfl) : Lt P E o Z As v := fun _ _ => r_pure v hr
theorem t_add {t u : TypeId} {x y : Operand} (a b : Int) (hb : -9223372036854775808 ≤ a + b ∧ a + b ≤ 9223372036854775807) (ho : o.op = .binOp .add t x y u := by rfl) (hx : ev E x = .int .i64 a := by rfl) (hy : ev E y = .int .i64 b := by rfl) : Lt P E o Z As (.int .i64 (a + b)) := fun _ _ => r_add ho a b hx hy hb
theorem t_sub {t u : TypeId} {x y : Operand} (a b : Int) (hb : -9223372036854775808 ≤ a - b ∧ a - b ≤ 9223372036854775807) (ho : o.op = .binOp .sub t x y u := by rfl) (hx : ev E x = .int .i64 a := by rfl) (hy : ev E y = .int .i64 b := by rfl) : Lt P E o Z As (.int .i64 (a - b)) := fun _ _ => r_sub ho a b hx hy hb
theorem t_mul {t u : TypeId} {x y : Operand} (a b : Int) (hb : -9223372036854775808 ≤ a * b ∧ a * b ≤ 9223372036854775807) (ho : o.op = .binOp .mul t x y u := by rfl) (hx : ev E x = .int .i64 a := by rfl) (hy : ev E y = .int .i64 b := by rfl) : Lt P E o Z As (.int .i64 (a * b)) := fun _ _ => r_mul ho a b hx hy hb
theorem t_addW {t u : TypeId} {x y : Operand} (a b : Int) (ho : o.op = .binOp .add t x y u := by rfl) (hx : ev E x = .int .i64 a := by rfl) (hy : ev E y = .int .i64 b := by rfl) : Lt P E o Z As (.int .i64 (IntKind.i64.wrap (a + b))) := fun _ _ => r_addW ho a b hx hy
theorem t_subW {t u : TypeId} {x y : Operand} (a b : Int) (ho : o.op = .binOp .sub t x y u := by rfl) (hx : ev E x = .int .i64 a := by rfl) (hy : ev E y = .int .i64 b := by rfl) : Lt P E o Z As (.int .i64 (IntKind.i64.wrap (a - b))) := fun _ _ => r_subW ho a b hx hy
theorem t_cmp {op : BinOp} {t u : TypeId} {x y : Operand} {k : IntKind} {a b : Int} {c : Bool} (ho : o.op = .binOp op t x y u := by rfl) (hx : ev E x = .int k a := by rfl) (hy : ev E y = .int k b := by rfl) (hc : cmpI op a b = some c := by rfl) : Lt P E o Z As (.bool c) := fun _ _ => r_cmp ho k a b c hx hy hc
theorem t_cmpS {op : BinOp} {t u : TypeId} {x y : Operand} {a b : ByteArray} {c : Bool} (ho : o.op = .binOp op t x y u := by rfl) (hx : ev E x = .string a := by rfl) (hy : ev E y = .string b := by rfl) (hc : cmpS op a b = some c := by rfl) : Lt P E o Z As (.bool c) := fun _ _ => r_cmpS ho a b c hx hy hc
theorem t_eqS {op : BinOp} {t u : TypeId} {x y : Operand} {xs ys : Array Value} {c : Bool} (hr : ∀ w, (binOp op t (.agg xs) (.agg ys)).run P w = .ok (.bool c) w) (ho : o.op = .binOp op t x y u := by rfl) (hx : ev E x = .agg xs := by rfl) (hy : ev E y = .agg ys := by rfl) (hg : P.eqGuardType P.depth t = false := by kernel_rfl) : Lt P E o Z As (.bool c) := fun _ _ => r_eqS ho xs ys c hx hy hg hr
theorem t_load {t : TypeId} {x : Operand} {g k : Nat} {arr : Array Value} {e : TypeId} (i : Nat) (u : Value) (ho : o.op = .load t x := by rfl) (hx : ev E x = .pointer (some ⟨g, k, none⟩) := by rfl) (hA : gt As i = some (blkA g arr e) := by rfl) (hu : arr[k]? = some u := by rfl) (ht : scalarT P t = true := by kernel_rfl) : Lt P E o Z As u := fun H hH => r_loadC ho g k arr e (0, 0) u hx ht (hH.blk hA) hu
theorem t_loadA {t : TypeId} {x : Operand} {g k m : Nat} {arr : Array Value} {e : TypeId} (i : Nat) (cs : Array Value) (ho : o.op = .load t x := by rfl) (hx : ev E x = .pointer (some ⟨g, k, none⟩) := by rfl) (hA : gt As i = some (blkA g arr e) := by rfl) (hl : cs.size = m := by rfl) (hc : arr.toList.extract k (k + m) = cs.toList := by rfl) (ht : aggT P t m = true := by kernel_rfl) : Lt P E o Z As (.agg cs) := fun H hH => r_loadA ho g k m arr e (0, 0) cs hx ht (hH.blk hA) hl hc
section
variable {α : Type} {T : Ty α} {v : Value} {L M : List α}
theorem t_loadE {t : TypeId} {x : Operand} {k : Nat} {y : α} {u : Value} (hT : T.Ok P) (a : Acc Z As T v L) (hy : L[k]? = some y) (hu : T.val y = u := by rfl) (ho : o.op = .load t x := by rfl) (hid : T.id = t := by rfl) (hx : ev E x = .pointer (some (elemAt T.size v k)) := by rfl) : Lt P E o Z As u := fun H hH => r_loadE ho hT hid v k y u L hx (a H hH) hy hu
theorem t_loadF {t : TypeId} {x : Operand} {k : Nat} {y : α} {u : Value} (j : Nat) (hT : T.Ok P) (a : Acc Z As T v L) (hy : L[k]? = some y) (hu : (T.enc y)[j]? = some u := by rfl) (ho : o.op = .load t x := by rfl) (hx : ev E x = .pointer (some ((elemAt T.size v k).add j)) := by rfl) (ht : scalarT P t = true := by kernel_rfl) : Lt P E o Z As u := fun H hH => r_loadF ho hT v k j y u L hx ht (a H hH) hy hu
theorem t_len {x : Operand} {t : TypeId} (hT : T.Ok P) (ht : P.underlying t = some (.slice T.id)) (a : Acc Z As T v L) (ho : o.op = .call { callee := .builtin .len, args := #[x], argTypes := #[t] } := by rfl) (hx : ev E x = v := by rfl) : Lt P E o Z As (.int .i64 L.length) := fun H hH => r_len ho hT ht hx (a H hH)
theorem t_index {x i : Operand} {t : TypeId} {q : IntKind} (hT : T.Ok P) (ht : P.underlying t = some (.slice T.id)) (a : Acc Z As T v L) (k : Int) (m : Nat) (h0 : 0 ≤ k) (hl : k < L.length) (hm : m = k.toNat) (ho : o.op = .indexAddr t x i := by rfl) (hx : ev E x = v := by rfl) (hi : ev E i = .int q k := by rfl) : Lt P E o Z As (.pointer (some (elemAt T.size v m))) := fun H hH => r_index ho hT ht q k hx hi (a H hH) h0 hl m hm
theorem t_pre {x i : Operand} {t : TypeId} {q : IntKind} (hT : T.Ok P) (ht : P.underlying t = some (.slice T.id)) (a : Acc Z As T v L) (k : Int) (m : Nat) (h0 : 0 ≤ k) (hl : k ≤ L.length) (hm : m = k.toNat) (ho : o.op = .slice t x none (some i) none := by rfl) (hx : ev E x = v := by rfl) (hi : ev E i = .int q k := by rfl) : Lt P E o Z As (pre v m) := fun H hH => r_pre ho hT ht q k hx hi (a H hH) h0 hl m hm
theorem t_suf {x i : Operand} {t : TypeId} {q : IntKind} (hT : T.Ok P) (ht : P.underlying t = some (.slice T.id)) (a : Acc Z As T v L) (k : Int) (m : Nat) (h0 : 0 ≤ k) (hl : k ≤ L.length) (hm : m = k.toNat) (ho : o.op = .slice t x (some i) none none := by rfl) (hx : ev E x = v := by rfl) (hi : ev E i = .int q k := by rfl) : Lt P E o Z As (suf T.size v m) := fun H hH => r_suf ho hT ht q k hx hi (a H hH) h0 hl m hm
end
theorem t_min {x y : Operand} {ts : Array TypeId} {k : IntKind} {a b : Int} (ho : o.op = .call { callee := .builtin .min, args := #[x, y], argTypes := ts } := by rfl) (hx : ev E x = .int k a := by rfl) (hy : ev E y = .int k b := by rfl) : Lt P E o Z As (.int k (if b < a then b else a)) := fun _ _ => r_min ho k a b hx hy
theorem t_max {x y : Operand} {ts : Array TypeId} {k : IntKind} {a b : Int} (ho : o.op = .call { callee := .builtin .max, args := #[x, y], argTypes := ts } := by rfl) (hx : ev E x = .int k a := by rfl) (hy : ev E y = .int k b := by rfl) : Lt P E o Z As (.int k (if a < b then b else a)) := fun _ _ => r_max ho k a b hx hy
section
variable {κ β : Type} [DecidableEq κ] {K : KTy κ} {V : β → Value} {b : Nat} {m : List (κ × β)}
theorem t_lookup {x y : Operand} {t e : TypeId} (i : Nat) (hK : KTy.Ok (β := β) K P) (ht : P.underlying t = some (.map K.id e)) (z : Value) (k : κ) (hA : gt As i = some (mpA K V b m) := by rfl) (hz : ∀ w, (zeroValue e).run P w = .ok z w := by intro _; kernel_rfl) (ho : o.op = .lookup t x y false := by rfl) (hx : ev E x = .map (some b) := by rfl) (hy : ev E y = K.val k := by rfl) : Lt P E o Z As (((aget m k).map V).getD z) := fun H hH => r_lookup ho hK ht z hz k hx hy (hH.mp hA)
theorem t_lookupOk {x y : Operand} {t e : TypeId} (i : Nat) (hK : KTy.Ok (β := β) K P) (ht : P.underlying t = some (.map K.id e)) (z : Value) (k : κ) (hA : gt As i = some (mpA K V b m) := by rfl) (hz : ∀ w, (zeroValue e).run P w = .ok z w := by intro _; kernel_rfl) (ho : o.op = .lookup t x y true := by rfl) (hx : ev E x = .map (some b) := by rfl) (hy : ev E y = K.val k := by rfl) : Lt P E o Z As (.tuple #[((aget m k).map V).getD z, .bool (aget m k).isSome]) := fun H hH => r_lookupOk ho hK ht z hz k hx hy (hH.mp hA)
end
/-- What is read is spelt otherwise. -/
theorem Lt.to {v v' : Value} (t : Lt P E o Z As v) (e : v = v') : Lt P E o Z As v' := e ▸ t

/-! ### New blocks -/
theorem Holds.newB {H H' : Heap} {g : Nat} {arr : Array Value} {e : TypeId} (h : Holds Z As H) (hn : New H H' g (.cells arr e (0, 0))) : Holds Z (blkA g arr e :: As) H' :=
  h.new (hn.chg _) (S' := fun k => k = g) ⟨hn.is, fun k => Iff.rfl⟩ fun k hk => by rw [hk, hn.at_]; exact Nat.le_refl _
theorem s_box {t : TypeId} {x : Operand} {d : Nat} {u : Value} (cs : Array Value) (h : ∀ g, SL P w0 ops Q n rest ((d, .pointer (some ⟨g, 0, none⟩)) :: E) Z (blkA g cs t :: As)) (ho : o.op = .box t x := by rfl) (hx : ev E x = u := by rfl) (hc : u.cells = cs := by rfl) (hd : o.dst = some d := by rfl) (hk : okOp ops n E o = true := by kernel_rfl) : SL P w0 ops Q n (o :: rest) E Z As :=
  fun H hH => l_box ho u cs hk hx hc fun g H' hn => by rw [hd]; exact h g H' (hH.newB hn)
theorem s_alloc {t : TypeId} {d : Nat} (z : Value) (cs : Array Value) (h : ∀ g, SL P w0 ops Q n rest ((d, .pointer (some ⟨g, 0, none⟩)) :: E) Z (blkA g cs t :: As)) (ho : o.op = .alloc t := by rfl) (hc : z.cells = cs := by rfl) (hz : ∀ w, (zeroValue t).run P w = .ok z w := by intro _; kernel_rfl) (hd : o.dst = some d := by rfl) (hk : okOp ops n E o = true := by kernel_rfl) : SL P w0 ops Q n (o :: rest) E Z As :=
  fun H hH => l_alloc ho z cs hk hz hc fun g H' hn => by rw [hd]; exact h g H' (hH.newB hn)
theorem s_buildSlice {t e : TypeId} {len d : Nat} {ps : Array (Nat × Operand)} (pl : List (Nat × Value)) (cs : Array Value) (h : ∀ g, SL P w0 ops Q n rest ((d, .slice (some ⟨g, 0, none⟩) len len) :: E) Z (blkA g cs e :: As)) (ho : o.op = .buildSlice t len ps := by rfl) (hpl : (ps.toList.map fun p => (p.1, ev E p.2)) = pl := by rfl) (hb : builtCells P t len pl = some (e, cs)) (hd : o.dst = some d := by rfl) (hk : okOp ops n E o = true := by kernel_rfl) : SL P w0 ops Q n (o :: rest) E Z As :=
  fun H hH => l_buildSlice ho pl e cs hk hpl hb fun g H' hn => by rw [hd]; exact h g H' (hH.newB hn)
theorem s_makeMap {t : TypeId} {d : Nat} {κ β : Type} [DecidableEq κ] (K : KTy κ) (V : β → Value) (h : ∀ b, SL P w0 ops Q n rest ((d, .map (some b)) :: E) Z (mpA K V b [] :: As)) (ho : o.op = .makeMap t none := by rfl) (hd : o.dst = some d := by rfl) (hk : okOp ops n E o = true := by kernel_rfl) : SL P w0 ops Q n (o :: rest) E Z As :=
  fun H hH => l_makeMap ho hk fun g H' hn => by
    rw [hd]
    exact h g H' (hH.new (hn.chg _) (S' := fun k => k = g) ⟨Mp.made hn.is K V, fun k => Iff.rfl⟩ fun k hk => by rw [hk, hn.at_]; exact Nat.le_refl _)

/-! ### Writing -/
theorem s_store {t : TypeId} {x y : Operand} {g k m : Nat} {arr : Array Value} {e : TypeId} {u : Value} (i : Nat) (arr' : Array Value) (h : SL P w0 ops Q n rest E Z (upd As i (blkA g arr' e))) (ho : o.op = .store t x y := by rfl) (hx : ev E x = .pointer (some ⟨g, k, none⟩) := by rfl) (hy : ev E y = u := by rfl) (hA : gt As i = some (blkA g arr e) := by rfl) (hm : u.cells.size = m := by rfl) (hs : sizeT P t m = true := by kernel_rfl) (hfit : Nat.ble (k + m) arr.size = true := by rfl) (h1 : (u.cells.toList.all fun c => c.oneCell') = true := by rfl) (ha' : (spliceAt arr.toList k u.cells.toList) = arr'.toList := by rfl) (hd : o.dst = none := by rfl) (hk : okOp ops n E o = true := by kernel_rfl) : SL P w0 ops Q n (o :: rest) E Z As :=
  fun H hH => l_store ho g k m arr arr' e u hk hx hy hs (hH.blk hA) hm hfit h1 ha' fun H' hp => by
    rw [hd]
    exact h H' (hH.step hA fun S ⟨_, h2⟩ => ⟨S, ⟨hp.is, h2⟩, hp.chg.mono (fun j _ hj => (h2 j).2 hj), fun k hk => .inl hk⟩)
section
variable {α : Type} {T : Ty α} {v : Value} {L M : List α}
theorem own_step {H H' : Heap} {i : Nat} {v' : Value} {L' : List α} (hH : Holds Z As H) (hA : gt As i = some (own T v L)) (ow : Ow H' T v' L') (chg : Chg (fun k => blk v = some k) H H') (mv : ∀ g, blk v' = some g → blk v = some g ∨ H.size ≤ g) : Holds Z (upd As i (own T v' L')) H' :=
  hH.step hA fun S ⟨_, h2⟩ => ⟨fun k => blk v' = some k, ⟨ow, fun k => Iff.rfl⟩, chg.mono (fun j _ hj => (h2 j).2 hj), fun k hk => (mv k hk).imp (h2 k).2 id⟩
theorem s_storeE {t : TypeId} {x y : Operand} {k m : Nat} {z : α} {u : Value} (i j : Nat) (z' : α) (hT : T.Ok P) (hz : L[k]? = some z) (h : SL P w0 ops Q n rest E Z (upd As i (own T v (L.set k z')))) (ho : o.op = .store t x y := by rfl) (hA : gt As i = some (own T v L) := by rfl) (hx : ev E x = .pointer (some ((elemAt T.size v k).add j)) := by rfl) (hy : ev E y = u := by rfl) (hm : u.cells.size = m := by rfl) (hs : sizeT P t m = true := by kernel_rfl) (hfit : Nat.ble (j + m) T.size = true := by rfl) (h1 : (u.cells.toList.all fun c => c.oneCell') = true := by rfl) (he : T.enc z' = spliceAt (T.enc z) j u.cells.toList := by rfl) (hd : o.dst = none := by rfl) (hk : okOp ops n E o = true := by kernel_rfl) : SL P w0 ops Q n (o :: rest) E Z As :=
  fun H hH => l_storeE ho hT v k j m z z' u L hk hx hy hs (hH.ow hA) hz hm hfit h1 he fun H' ow chg => by
    rw [hd]; exact h H' (own_step hH hA ow chg fun g hg => .inl hg)
theorem s_append {s x : Operand} {t : TypeId} {d : Nat} {v2 : Value} (i : Nat) (hT : T.Ok P) (ht : P.underlying t = some (.slice T.id)) (a : Acc Z As T v2 M) (hb : (L.length + M.length) * T.bytes ≤ 140737488355328) (h63 : L.length + M.length ≤ 9223372036854775807) (h : ∀ v', SL P w0 ops Q n rest ((d, v') :: E) Z (upd As i (own T v' (L ++ M)))) (ho : o.op = .call { callee := .builtin .append, args := #[s, x], argTypes := #[t, t] } := by rfl) (hA : gt As i = some (own T v L) := by rfl) (hs : ev E s = v := by rfl) (hx : ev E x = v2 := by rfl) (hd : o.dst = some d := by rfl) (hk : okOp ops n E o = true := by kernel_rfl) : SL P w0 ops Q n (o :: rest) E Z As :=
  fun H hH => l_append ho hT ht v2 hk hs hx (hH.ow hA) (a H hH) hb h63 fun v' H' ap => by
    rw [hd]; exact h v' H' (own_step hH hA ap.ow ap.chg ap.moved)
theorem s_appendN {s x : Operand} {t : TypeId} {d : Nat} {v2 : Value} (hT : T.Ok P) (ht : P.underlying t = some (.slice T.id)) (a : Acc Z As T v2 M) (hb : M.length * T.bytes ≤ 140737488355328) (h : ∀ v', SL P w0 ops Q n rest ((d, v') :: E) Z (own T v' M :: As)) (ho : o.op = .call { callee := .builtin .append, args := #[s, x], argTypes := #[t, t] } := by rfl) (hs : ev E s = .slice none 0 0 := by rfl) (hx : ev E x = v2 := by rfl) (hd : o.dst = some d := by rfl) (hk : okOp ops n E o = true := by kernel_rfl) : SL P w0 ops Q n (o :: rest) E Z As :=
  fun H hH => l_append ho hT ht v2 hk hs hx (Ow.nil H T) (a H hH) (by simpa using hb) (by simpa using (a H hH).len_le) fun v' H' ap => by
    rw [hd]
    exact h v' H' (hH.new (ap.chg.mono fun k _ hk => by simp [blk, Value.ownBlock] at hk) (S' := fun k => blk v' = some k) ⟨by have := ap.ow; simpa using this, fun k => Iff.rfl⟩ fun k hk => (ap.moved k hk).elim (fun h => by simp [blk, Value.ownBlock] at h) id)
theorem s_make {t : TypeId} {x y : Operand} {q q' : IntKind} {d : Nat} (hT : T.Ok P) (ht : P.underlying t = some (.slice T.id)) (k : Int) (h0 : 0 ≤ k) (hb : T.bytes * k.toNat ≤ 281474976710656) (h63 : k ≤ 9223372036854775807) (h : ∀ v', SL P w0 ops Q n rest ((d, v') :: E) Z (own T v' (List.replicate k.toNat T.zero) :: As)) (ho : o.op = .makeSlice t x y := by rfl) (hx : ev E x = .int q k := by rfl) (hy : ev E y = .int q' k := by rfl) (hd : o.dst = some d := by rfl) (hk : okOp ops n E o = true := by kernel_rfl) : SL P w0 ops Q n (o :: rest) E Z As :=
  fun H hH => l_make ho hT ht q q' k hk hx hy h0 hb h63 fun g H' v' hg ow chg hbk _ => by
    rw [hd]
    exact h v' H' (hH.new (chg _) (S' := fun k => blk v' = some k) ⟨ow, fun k => Iff.rfl⟩ fun k hk => by rw [hbk] at hk; cases hk; omega)
theorem s_copy {s x : Operand} {t t' : TypeId} {d : Nat} {v2 : Value} (i : Nat) (hT : T.Ok P) (ht : P.underlying t = some (.slice T.id)) (a : Acc Z As T v2 M) (h : SL P w0 ops Q n rest ((d, .int .i64 (min M.length L.length : Nat)) :: E) Z (upd As i (own T v (M.take L.length ++ L.drop M.length)))) (ho : o.op = .call { callee := .builtin .copy, args := #[s, x], argTypes := #[t, t'] } := by rfl) (hA : gt As i = some (own T v L) := by rfl) (hs : ev E s = v := by rfl) (hx : ev E x = v2 := by rfl) (hd : o.dst = some d := by rfl) (hk : okOp ops n E o = true := by kernel_rfl) : SL P w0 ops Q n (o :: rest) E Z As :=
  fun H hH => l_copy ho hT ht v2 hk hs hx (hH.ow hA) (a H hH) fun H' ow chg _ => by
    rw [hd]; exact h H' (own_step hH hA ow chg fun g hg => .inl hg)
theorem s_copy0 {s x : Operand} {t t' : TypeId} {v2 : Value} (i : Nat) (hT : T.Ok P) (ht : P.underlying t = some (.slice T.id)) (a : Acc Z As T v2 M) (h : SL P w0 ops Q n rest E Z (upd As i (own T v (M.take L.length ++ L.drop M.length)))) (ho : o.op = .call { callee := .builtin .copy, args := #[s, x], argTypes := #[t, t'] } := by rfl) (hA : gt As i = some (own T v L) := by rfl) (hs : ev E s = v := by rfl) (hx : ev E x = v2 := by rfl) (hd : o.dst = none := by rfl) (hk : okOp ops n E o = true := by kernel_rfl) : SL P w0 ops Q n (o :: rest) E Z As :=
  fun H hH => l_copy ho hT ht v2 hk hs hx (hH.ow hA) (a H hH) fun H' ow chg _ => by
    rw [hd]; exact h H' (own_step hH hA ow chg fun g hg => .inl hg)
end
section
variable {κ β : Type} [DecidableEq κ] {K : KTy κ} {V : β → Value} {b : Nat} {m : List (κ × β)}
theorem mp_step {H H' : Heap} {i : Nat} {m' : List (κ × β)} (hH : Holds Z As H) (hA : gt As i = some (mpA K V b m)) (u : Upd H H' K V b m') : Holds Z (upd As i (mpA K V b m')) H' :=
  hH.step hA fun S ⟨_, h2⟩ => ⟨S, ⟨u.mp, h2⟩, u.chg.mono (fun j _ hj => (h2 j).2 hj), fun k hk => .inl hk⟩
theorem s_update {x y z : Operand} {t e : TypeId} (i : Nat) (hK : KTy.Ok (β := β) K P) (ht : P.underlying t = some (.map K.id e)) (k : κ) (u : β) (h : SL P w0 ops Q n rest E Z (upd As i (mpA K V b (aset m k u)))) (ho : o.op = .mapUpdate t x y z := by rfl) (hA : gt As i = some (mpA K V b m) := by rfl) (hx : ev E x = .map (some b) := by rfl) (hy : ev E y = K.val k := by rfl) (hu : ev E z = V u := by rfl) (hd : o.dst = none := by rfl) (hk : okOp ops n E o = true := by kernel_rfl) : SL P w0 ops Q n (o :: rest) E Z As :=
  fun H hH => l_update ho hK ht k u hk hx hy hu (hH.mp hA) fun H' up => by rw [hd]; exact h H' (mp_step hH hA up)
theorem s_insert {x y z : Operand} {t e : TypeId} (i : Nat) (hK : KTy.Ok (β := β) K P) (ht : P.underlying t = some (.map K.id e)) (k : κ) (u : β) (h : SL P w0 ops Q n rest E Z (upd As i (mpA K V b (aset m k u)))) (ho : o.op = .insert t x y z := by rfl) (hA : gt As i = some (mpA K V b m) := by rfl) (hx : ev E x = .map (some b) := by rfl) (hy : ev E y = K.val k := by rfl) (hu : ev E z = V u := by rfl) (hd : o.dst = none := by rfl) (hk : okOp ops n E o = true := by kernel_rfl) : SL P w0 ops Q n (o :: rest) E Z As :=
  fun H hH => l_insert ho hK ht k u hk hx hy hu (hH.mp hA) fun H' up => by rw [hd]; exact h H' (mp_step hH hA up)
end

/-! ### Regions that draw, with loads beside calls -/
def HS (Z : Zone) (Ks : List Asr) (H : Heap) : Prop := ∃ Fs, Holds Z (Ks ++ Fs) H
def SH (P : Program) (w0 : World) (l : List Oper) (Q : Exit → Act → World → Prop) (n : Nat) (Z : Zone) (Ks : List Asr) (fuel : Nat) (listed : Array Bool) (E : Env) (As : List Asr) : Prop := ∀ H, Holds Z As H → JH P w0 l Q n (HS Z Ks) fuel listed E H
section
variable {l : List Oper} {Ks : List Asr} {fuel : Nat} {listed : Array Bool}
theorem k_held {id : Nat} (Ks : List Asr) (h : SH P w0 l Q n Z Ks l.length (Array.replicate l.length false) E As) (hm : P.follows .mixedOrders = true := by kernel_rfl) : SK P w0 (.region id l.toArray true) Q n E Z As := fun H hH => c_held (HS Z Ks) hm (h H hH)
theorem np_finS {fn : Func} {R : Value → List Asr → Prop} : NP (FinS P fn w0 Z R) := np_fin
theorem h_lt {d : Nat} {v : Value} (i : Nat) (hi : l[i]? = some o) (hQ : NP Q) (is : List Nat) {Fs : List Asr} (t : ∀ Fs, Lt P E o Z (Ks ++ Fs) v) (h : SH P w0 l Q n Z Ks fuel (listed.setIfInBounds i true) ((d, v) :: E) As) (hd : o.dst = some d := by rfl) (hS : rearr As is = Ks ++ Fs := by rfl) (hc : canTake l listed i = true := by kernel_rfl) (hk : okOp l.toArray n E o = true := by kernel_rfl) : SH P w0 l Q n Z Ks (fuel + 1) listed E As :=
  fun H hH => h_light i hi hc hQ hk (fun Hh ⟨Fs, hF⟩ => t Fs Hh hF) ⟨Fs, hS ▸ hH.rearr is⟩ (by rw [hd]; exact h H hH)
theorem h_skipS {d : Nat} (i : Nat) (hQ : NP Q) (is : List Nat) {Fs : List Asr} (h : SH P w0 l Q n Z Ks fuel (listed.setIfInBounds i true) ((d, undef) :: E) As) (hi : l[i]? = some o := by rfl) (hd : o.dst = some d := by rfl) (hS : rearr As is = Ks ++ Fs := by rfl) (hc : canTake l listed i = true := by kernel_rfl) (hu : unwant l.toArray E o = true := by kernel_rfl) (hk : dstOk n o.dst = true := by rfl) : SH P w0 l Q n Z Ks (fuel + 1) listed E As :=
  fun H hH => h_skip i hi hc hQ hu hk ⟨Fs, hS ▸ hH.rearr is⟩ (by rw [hd]; exact h H hH)
theorem h_stepS (i : Nat) (h : SL P w0 l.toArray (heldQ P l Q (HS Z Ks) fuel (listed.setIfInBounds i true)) n [o] E Z As) (hi : l[i]? = some o := by rfl) (hr : Region.ready .any l.toArray listed = [i] := by kernel_rfl) : SH P w0 l Q n Z Ks (fuel + 1) listed E As := fun H hH => h_step i hi hr (h H hH)
theorem xs_held (is : List Nat) {Fs : List Asr} (h : SH P w0 l Q n Z Ks fuel listed E As) (hS : rearr As is = Ks ++ Fs := by rfl) : SX w0 .normal (heldQ P l Q (HS Z Ks) fuel listed) n E Z As := fun H hH => x_held ⟨Fs, hS ▸ hH.rearr is⟩ (h H hH)
theorem h_doneS (h : SX w0 .normal Q n E Z As) (hr : Region.ready .any l.toArray listed = [] := by kernel_rfl) : SH P w0 l Q n Z Ks fuel listed E As := fun H hH => h_done hr (h H hH)
theorem h_forkS (t : Nat) (c : Bool) (h1 : c = true → SH P w0 l Q n Z Ks fuel listed ((t, .bool true) :: E) As) (h2 : c = false → SH P w0 l Q n Z Ks fuel listed ((t, .bool false) :: E) As) (hv : J.look E t = .bool c := by rfl) (hh : J.has E t = true := by rfl) : SH P w0 l Q n Z Ks fuel listed E As :=
  fun H hH => h_fork t c hh hv (fun e => h1 e H hH) (fun e => h2 e H hH)
end
end
end Go.S


set_option linter.unusedSimpArgs false
set_option linter.unusedVariables false
namespace Go.S
open Go.Hp Go.J
open Go.Mem (Ty KTy blk)

section
variable {P : Program} {Z : Zone} {As Bs F : List Asr} {H H' : Heap} {A A' : Asr} {f : FuncId} {args : Array Value}
theorem Holds.split (h : Holds Z (A :: As) H) : ∃ S, A.on H S ∧ ∀ (H' : Heap) (Cs : List Asr) (S' : Nat → Prop), SepL Cs H' S' → Chg S H H' → (∀ k, S' k → S k ∨ H.size ≤ k) → Holds Z (Cs ++ As) H' := by
  obtain ⟨S, ⟨S1, S2, h1, h2, hd', hS⟩, hd⟩ := h.sep
  refine ⟨S1, h1, fun H' Cs S1' h1' hc hsub => ?_⟩
  refine ⟨fun k hk => ?_, fun k => S1' k ∨ S2 k, SepL.append_iff.2 ⟨S1', S2, h1', h2.keep fun k hk => ?_, fun k a b => ?_, fun k => Iff.rfl⟩, ?_⟩
  · have hz := h.zone k hk
    refine ⟨(hc.block k hz.2 fun h1k => ?_).trans hz.1, Nat.lt_of_lt_of_le hz.2 hc.size⟩
    exact hd k ((hS k).2 (.inl h1k)) hk
  · exact hc.block k (h2.lt k hk) fun h1k => hd' k h1k hk
  · rcases hsub k a with h | h
    · exact hd' k h b
    · have := h2.lt k b; omega
  · rintro k (a | a) hz
    · rcases hsub k a with h' | h'
      · exact hd k ((hS k).2 (.inl h')) hz
      · have := (h.zone k hz).2; omega
    · exact hd k ((hS k).2 (.inr a)) hz
theorem sepL_one {S : Nat → Prop} (h : A.on H S) : SepL [A] H S := ⟨S, fun _ => False, h, fun _ h => h, fun _ _ h => h, fun k => by simp⟩
/-- A contract that turns one part. -/
theorem sf_of {val : Value} (h : ∀ H S, A.on H S → HC P f args H fun v H' => v = val ∧ ∃ S', A'.on H' S' ∧ Chg S H H' ∧ ∀ k, S' k → S k ∨ H.size ≤ k) : SF P f args Z (A :: F) fun v Bs => v = val ∧ Bs = A' :: F := fun H hH => by
  obtain ⟨S, hS, hk⟩ := hH.split
  exact (h H S hS).mono fun v H' ⟨hv, S', hA, hc, hs⟩ => ⟨_, ⟨hv, rfl⟩, hk H' [A'] S' (sepL_one hA) hc hs⟩
/-- A contract that turns nothing old. -/
theorem sf_val {val : Value} (h : ∀ H, Holds Z [] H → HC P f args H fun v H' => v = val ∧ Chg (fun _ => False) H H') : SF P f args Z [] fun v Bs => v = val ∧ Bs = [] := fun H hH =>
  (h H hH).mono fun v H' ⟨hv, hc⟩ => ⟨_, ⟨hv, rfl⟩, hH.ext hc⟩
theorem sf_own {α : Type} {T : Ty α} {L : List α} (h : ∀ H, Holds Z [] H → HC P f args H fun v H' => Ow H' T v L ∧ Chg (fun _ => False) H H' ∧ ∀ k, blk v = some k → H.size ≤ k) : SF P f args Z [] fun v Bs => Bs = [own T v L] := fun H hH =>
  (h H hH).mono fun v H' ⟨hv, hc, hlo⟩ => ⟨_, rfl, hH.new hc (S' := fun k => blk v = some k) ⟨hv, fun k => Iff.rfl⟩ hlo⟩
theorem Holds.nilS {α : Type} {T : Ty α} (h : Holds Z As H) : Holds Z (own T (.slice none 0 0) [] :: As) H :=
  h.new (Chg.refl _ _) (S' := fun _ => False) ⟨Ow.nil _ _, fun k => ⟨fun h => h.elim, fun h => by cases h⟩⟩ fun _ h => h.elim
/-- A part that lies in the zone. -/
def KnA (Z : Zone) (A : Asr) : Prop := ∃ S, A.on Z.heap S ∧ ∀ k, S k → Z.dom k
theorem KnA.get (k : KnA Z A) (h : Holds Z As H) : ∃ S, A.on H S := by
  obtain ⟨S, hS, hd⟩ := k
  exact ⟨S, A.keep hS fun k hk => (h.zone k (hd k hk)).1⟩
theorem Holds.kn (h : Holds Z As H) (i : Nat) (hi : gt As i = some A := by rfl) : KnA (zoneOf H) A := by
  obtain ⟨S, hS, _⟩ := h.part hi
  exact ⟨S, hS, fun k hk => A.lt hS k hk⟩
theorem Holds.knS {α : Type} {T : Ty α} {v : Value} {L : List α} (h : Holds Z As H) (i : Nat) (hi : gt As i = some (own T v L) := by rfl) : Kn (zoneOf H) T v L := .of (h.ow hi).sl
theorem Kn.up {α : Type} {T : Ty α} {v : Value} {L : List α} (k : Kn Z T v L) (h : Holds Z As H) : Kn (zoneOf H) T v L := .of (k.get h)
end
end Go.S


set_option linter.unusedSimpArgs false
set_option linter.unusedVariables false
namespace Go.S
open Go.Hp Go.J
section
variable {P : Program} {E : Env} {Z : Zone} {As : List Asr} {o : Oper}
theorem t_rem {t u : TypeId} {x y : Operand} {k : IntKind} (a b : Int) (hb : b ≠ 0) (ho : o.op = .binOp .rem t x y u := by rfl) (hx : ev E x = .int k a := by rfl) (hy : ev E y = .int k b := by rfl) : Lt P E o Z As (.int k (a.tmod b)) :=
  fun _ _ => r_pure _ (bin_run ho _ _ hx hy eqg_int fun w => by simp [binOp, Op.intDiv, hb, Sem.run_pure])
theorem t_quo {t u : TypeId} {x y : Operand} (a b : Int) (hb : b ≠ 0) (hr : -9223372036854775808 ≤ a.tdiv b ∧ a.tdiv b ≤ 9223372036854775807) (ho : o.op = .binOp .quo t x y u := by rfl) (hx : ev E x = .int .i64 a := by rfl) (hy : ev E y = .int .i64 b := by rfl) : Lt P E o Z As (.int .i64 (a.tdiv b)) :=
  fun _ _ => r_pure _ (bin_run ho _ _ hx hy eqg_int fun w => by simp [binOp, Op.intDiv, hb, wrap64 hr, Sem.run_pure])
theorem t_neg {t : TypeId} {x : Operand} (a : Int) (hr : -9223372036854775808 ≤ -a ∧ -a ≤ 9223372036854775807) (ho : o.op = .unOp .neg t x := by rfl) (hx : ev E x = .int .i64 a := by rfl) : Lt P E o Z As (.int .i64 (-a)) :=
  fun _ _ => r_pure _ fun w => by
    unfold execOp
    simp [ho, hx, Op.unary, Op.intArith, Int.zero_sub, wrap64 hr, Sem.run_pure, Sem.run_bind]
theorem t_conv {s d : TypeId} {x : Operand} {k k' : IntKind} {ds : TypeDesc} (a : Int) (hw : k'.wrap a = a) (hs : P.underlying s = some ds) (hd : P.underlying d = some (.int k')) (ho : o.op = .convert s d x := by rfl) (hx : ev E x = .int k a := by rfl) : Lt P E o Z As (.int k' a) :=
  fun _ _ => r_pure _ fun w => by
    unfold execOp
    simp [ho, hx, convert, run_underlying hs, run_underlying hd, Conv.intToInt, hw, Sem.run_pure, Sem.run_bind]
end
end Go.S


set_option linter.unusedSimpArgs false
set_option linter.unusedVariables false
namespace Go.S
open Go.Hp Go.J
open Go.Mem (Ty KTy blk elemAt pre suf)
section
variable {P : Program} {w0 : World} {ops : Array Oper} {Q : Exit → Act → World → Prop} {n : Nat} {E : Env} {Z : Zone} {As : List Asr} {o : Oper} {rest : List Oper} {α : Type} {T : Ty α} {v u v2 : Value} {L M : List α} {w : World}
/-- u is v[k : k + m]. -/
def Sub (T : Ty α) (v u : Value) (k m : Nat) : Prop :=
  (∃ p c, u = .slice p m c) ∧ (0 < m → ∃ g l cap c', v = .slice (some ⟨g, 0, none⟩) l cap ∧ u = .slice (some ⟨g, k * T.size, none⟩) m c' ∧ m ≤ c')
theorem Sub.self {H : Heap} (h : Ow H T v L) : Sub T v v 0 L.length := by
  rcases h with ⟨rfl, rfl⟩ | ⟨g, cap, arr, rfl, _, hc, _⟩
  · exact ⟨⟨_, _, rfl⟩, fun h => absurd h (by simp)⟩
  · exact ⟨⟨_, _, rfl⟩, fun _ => ⟨g, L.length, cap, cap, rfl, by simp, hc⟩⟩
theorem Sub.suf {k m j : Nat} (h : Sub T v u k m) (hj : j ≤ m) : Sub T v (suf T.size u j) (k + j) (m - j) := by
  obtain ⟨⟨p, c, rfl⟩, h⟩ := h
  refine ⟨⟨_, _, rfl⟩, fun hp => ?_⟩
  obtain ⟨g, l, cap, c', hv, hu, hc⟩ := h (by omega)
  injection hu with e1 e2 e3
  subst e1 e3
  refine ⟨g, l, cap, c - j, hv, ?_, by omega⟩
  simp only [Go.Mem.suf]
  rw [if_neg (by omega)]
  simp only [Option.map_some, Mem.addr_add, Nat.add_mul]
theorem Sub.pre {k m j : Nat} (h : Sub T v u k m) (hj : j ≤ m) : Sub T v (pre u j) k j := by
  obtain ⟨⟨p, c, rfl⟩, h⟩ := h
  refine ⟨⟨_, _, rfl⟩, fun hp => ?_⟩
  obtain ⟨g, l, cap, c', hv, hu, hc⟩ := h (by omega)
  injection hu with e1 e2 e3
  subst e1 e3
  exact ⟨g, l, cap, c, hv, rfl, by omega⟩
theorem run_copySub (hT : T.Ok P) {dT sT ty : TypeId} (ht : P.underlying dT = some (.slice T.id)) {k m : Nat} (hv : Mem.Ow w T v L) (hs : Sub T v u k m) (hkm : k + m ≤ L.length) (h2 : Mem.Sl w T v2 M) :
    ∃ w', (Builtin.copy_ #[dT, sT] ty #[u, v2]).run P w = .ok (.int .i64 (min M.length m : Nat)) w' ∧ Mem.Ow w' T v (L.take k ++ (M.take m ++ L.drop (k + min M.length m))) ∧ Mem.Chg (fun j => blk v = some j) w w' := by
  obtain ⟨i, hi, hsz, hby, hz⟩ := hT.info
  have hlenL := hT.flat_len L
  have hlenM := hT.flat_len M
  have hn : Nat.min M.length m = min M.length m := rfl
  have hlm : min M.length m * T.size ≤ M.length * T.size := Nat.mul_le_mul_right _ (Nat.min_le_left _ _)
  have hcl : ((T.flat M).take (min M.length m * T.size)).length = min M.length m * T.size := by rw [List.length_take, hlenM]; omega
  have hlen : (Builtin.lenOf v2).run P w = .ok M.length w := by
    rcases h2 with ⟨⟨p2, rfl⟩, rfl⟩ | ⟨g2, off2, cap2, arr2, e2, fr2, rfl, _⟩ <;> simp [Builtin.lenOf, Sem.run_pure]
  have hfc : (Builtin.firstCells T.size (min M.length m) v2).run P w = .ok ((T.flat M).take (min M.length m * T.size)).toArray w := by
    rcases h2 with ⟨⟨p2, rfl⟩, rfl⟩ | ⟨g2, off2, cap2, arr2, e2, fr2, rfl, hg2, hc2, hm2, hf2, hr2⟩
    · cases p2 <;> simp [Builtin.firstCells, loadCells, loadCellsFrom, Ty.flat]
    · have hcs : ∀ j u, ((T.flat M).take (min M.length m * T.size))[j]? = some u → w.cell? ((⟨g2, off2, none⟩ : Addr).add j) = some u := by
        intro j u hj
        rw [List.getElem?_take] at hj
        split at hj
        · rw [← hr2, List.getElem?_take] at hj
          split at hj
          · rw [List.getElem?_drop] at hj
            rw [Mem.addr_add, cell_of_row w g2 _ arr2 e2 fr2 hg2, ← Array.getElem?_toList]; exact hj
          · cases hj
        · cases hj
      have hload := run_loadCells_list (P := P) w ⟨g2, off2, none⟩ _ hcs
      rw [hcl] at hload
      exact hload
  have hlen2 : (L.take k ++ (M.take m ++ L.drop (k + min M.length m))).length = L.length := by simp; omega
  obtain ⟨⟨p, c, rfl⟩, hp⟩ := hs
  by_cases hq : min M.length m = 0
  · refine ⟨w, ?_, ?_, Mem.Chg.refl _ _⟩
    · rw [hq] at hfc
      simp only [Nat.zero_mul, List.take_zero] at hfc
      simp only [Builtin.copy_, Sem.run_bind, run_underlying ht, Result.andThen_ok, hlen, Sem.run_pure, sizeOf, typeInfo, program, Sem.run, hi, hsz, hn, hq, hfc, goInt, List.getElem?_toArray, List.getElem?_cons_zero, List.getElem?_cons_succ]
      cases p <;> simp [storeCells, Sem.run_pure, Sem.run_bind]
    · have e : M.take m = [] := by
        rcases Nat.min_eq_zero_iff.1 hq with h | h
        · rw [List.eq_nil_of_length_eq_zero h]; simp
        · rw [h]; simp
      rw [hq, e]; simpa using hv
  · have hm0 : 0 < m := by have := Nat.min_le_right M.length m; omega
    obtain ⟨g, l, cap, c', hv', hu, hc'⟩ := hp hm0
    clear hp
    injection hu with e1 e2 e3
    subst e1
    rcases hv with ⟨rfl, rfl⟩ | ⟨g', cap', arr, rfl, hg, hc, hm, hf, hr⟩
    · cases hv'
    injection hv' with a1 a2 a3
    have a1' : g' = g := by injection a1 with b; injection b
    subst a1'
    have hcap : L.length * T.size ≤ cap' * T.size := Nat.mul_le_mul_right _ hc
    have hkm' : (k + m) * T.size ≤ L.length * T.size := Nat.mul_le_mul_right _ hkm
    have hqm : min M.length m * T.size ≤ m * T.size := Nat.mul_le_mul_right _ (Nat.min_le_right _ _)
    rw [Nat.add_mul] at hkm'
    have hst := run_storeCells_at P g' (k * T.size) T.id ((T.flat M).take (min M.length m * T.size)) 0 arr w hg (by rw [hcl]; omega) (fun u hu => hT.flat_one1 M u (List.mem_of_mem_take hu))
    simp only [Nat.add_zero, hcl] at hst
    refine ⟨_, ?_, .inr ⟨g', cap', (arr.toList.take (k * T.size) ++ (T.flat M).take (min M.length m * T.size) ++ arr.toList.drop (k * T.size + min M.length m * T.size)).toArray, by rw [hlen2], setRow_heap w g' arr _ T.id _ hg, by rw [hlen2]; exact hc, hm, ?_, ?_⟩, ⟨rfl, rfl, rfl, by simp, fun b _ hb => setRow_other w g' b _ fun e => hb (by simp [blk, Value.ownBlock, e])⟩⟩
    · simp only [Builtin.copy_, Sem.run_bind, run_underlying ht, Result.andThen_ok, hlen, Sem.run_pure, sizeOf, typeInfo, program, Sem.run, hi, hsz, hn, hfc, hst, goInt, List.getElem?_toArray, List.getElem?_cons_zero, List.getElem?_cons_succ]
    · simp only [List.size_toArray, List.length_append, List.length_take, List.length_drop, hcl, Array.length_toList]
      omega
    · rw [hlen2]
      have hA : arr.toList.length = arr.size := Array.length_toList
      have ek : arr.toList.take (k * T.size) = T.flat (L.take k) := by
        rw [← hT.flat_take, ← hr, List.take_take]; congr 1; omega
      have ed : (arr.toList.drop (k * T.size + min M.length m * T.size)).take (L.length * T.size - (k * T.size + min M.length m * T.size)) = T.flat (L.drop (k + min M.length m)) := by
        rw [← hT.flat_drop, ← hr, Nat.add_mul, List.drop_take]
      have l1 : (T.flat (L.take k)).length = k * T.size := by rw [hT.flat_len, List.length_take]; congr 1; omega
      have em : (T.flat M).take (min M.length m * T.size) = T.flat (M.take m) := by
        rw [hT.flat_take]; congr 1; rw [List.take_eq_take_iff]; omega
      have l2 : (T.flat (M.take m)).length = min M.length m * T.size := by rw [← em]; exact hcl
      have l3 : (T.flat (L.take k) ++ T.flat (M.take m)).length = k * T.size + min M.length m * T.size := by rw [List.length_append, l1, l2]
      show List.take (L.length * T.size) (arr.toList.take (k * T.size) ++ (T.flat M).take (min M.length m * T.size) ++ arr.toList.drop (k * T.size + min M.length m * T.size)) = _
      rw [ek, em, List.take_append, List.take_of_length_le (l := T.flat (L.take k) ++ T.flat (M.take m)) (by rw [l3]; omega), l3, ed, Ty.flat_append, Ty.flat_append, List.append_assoc]
theorem s_copyS {s x : Operand} {t t' : TypeId} {d : Nat} (i : Nat) (k m : Nat) (hT : T.Ok P) (ht : P.underlying t = some (.slice T.id)) (a : Acc Z As T v2 M) (hs : ∀ H, Ow H T v L → Sub T v u k m) (hkm : k + m ≤ L.length) (h : SL P w0 ops Q n rest ((d, .int .i64 (min M.length m : Nat)) :: E) Z (upd As i (own T v (L.take k ++ (M.take m ++ L.drop (k + min M.length m)))))) (ho : o.op = .call { callee := .builtin .copy, args := #[s, x], argTypes := #[t, t'] } := by rfl) (hA : gt As i = some (own T v L) := by rfl) (hu : ev E s = u := by rfl) (hx : ev E x = v2 := by rfl) (hd : o.dst = some d := by rfl) (hk : okOp ops n E o = true := by kernel_rfl) : SL P w0 ops Q n (o :: rest) E Z As := fun H hH => by
  refine l_run (R := fun v' H' => v' = .int .i64 (min M.length m : Nat) ∧ Ow H' T v (L.take k ++ (M.take m ++ L.drop (k + min M.length m))) ∧ Chg (fun k => blk v = some k) H H') hk (fun w ha => ?_) (fun v' H' ⟨a1, a2, a3⟩ => by
    subst a1; rw [hd]; exact h H' (own_step hH hA a2 a3 fun g hg => .inl hg))
  have hv' : Mem.Ow w T v L := by have := hH.ow hA; rw [← ha.heap] at this; exact this
  have h2' : Mem.Sl w T v2 M := by have := a H hH; rw [← ha.heap] at this; exact this
  obtain ⟨w', hr, q1, q2⟩ := run_copySub (ty := o.type) (sT := t') hT ht hv' (hs H (hH.ow hA)) hkm h2'
  refine ⟨_, w', ?_, ⟨rfl, q2.os.trans ha.os, q2.tape.trans ha.tape, q2.output.trans ha.output⟩, rfl, q1, ?_⟩
  · unfold execOp
    simp only [ho, resolve, invoke, builtin, Sem.run_bind, Sem.run_pure, Result.andThen_ok, List.map_toArray, List.map_cons, List.map_nil, hu, hx, hr]
  · rw [← ha.heap]; exact Chg.of_mem q2
/-- A slice against nil. -/
def nilS : Value → Bool
  | .slice none _ _ => true
  | _ => false
theorem nilS_spec {H : Heap} (h : Sl H T v L) (hn : nilS v = true) : v = .slice none 0 0 ∧ L = [] := by
  rcases h with ⟨⟨p, rfl⟩, rfl⟩ | ⟨g, off, cap, arr, e, fr, rfl, _⟩
  · cases p with
    | none => exact ⟨rfl, rfl⟩
    | some p => simp [nilS] at hn
  · simp [nilS] at hn
theorem equal_nilS {t e : TypeId} (ht : P.underlying t = some (.slice e)) (p : Option Addr) (l c : Nat) (w : World) : (Op.equal t (.slice p l c) (.slice none 0 0)).run P w = .ok p.isNone w := by
  obtain ⟨D, hD⟩ : ∃ D, Op.maxDepth = D + 1 := ⟨Op.maxDepth - 1, by decide⟩
  show (Op.equalIn Op.maxDepth t (.slice p l c) (.slice none 0 0)).run P w = _
  rw [hD]
  unfold Op.equalIn
  cases p <;> simp only [Sem.run_bind, run_underlying ht, Result.andThen_ok, Sem.run_pure] <;> rfl
theorem t_nilS {t u e : TypeId} {x y : Operand} (ht : P.underlying t = some (.slice e)) (a : Acc Z As T v L) (ho : o.op = .binOp .eql t x y u := by rfl) (hx : ev E x = v := by rfl) (hy : ev E y = .slice none 0 0 := by rfl) : Lt P E o Z As (.bool (nilS v)) := fun H hH => by
  obtain ⟨p, c, e⟩ := (a H hH).form
  subst e
  refine r_pure _ (bin_run ho _ _ hx hy (fun w => by simp [eqGuard, Sem.run_pure]) fun w => ?_)
  simp only [binOp, Sem.run_bind, equal_nilS ht, Result.andThen_ok, Sem.run_pure]
  cases p <;> rfl
/-- A struct within an element of a slice. -/
theorem t_loadG {t : TypeId} {x : Operand} {k m : Nat} {y : α} (j : Nat) (cs : Array Value) (hT : T.Ok P) (a : Acc Z As T v L) (hy : L[k]? = some y) (hl : cs.size = m := by rfl) (hc : (T.enc y).extract j (j + m) = cs.toList := by rfl) (ho : o.op = .load t x := by rfl) (hx : ev E x = .pointer (some ((elemAt T.size v k).add j)) := by rfl) (ht : aggT P t m = true := by kernel_rfl) : Lt P E o Z As (.agg cs) := fun H hH => by
  have hsl := a H hH
  refine ⟨fun w hw => ?_⟩
  rcases hsl with ⟨_, rfl⟩ | ⟨g, off, cap, arr, e, fr, rfl, h1, h2, h3, h4, h5⟩
  · simp at hy
  have hadr : ev E x = .pointer (some ⟨g, off + k * T.size + j, none⟩) := by rw [hx]; simp only [elemAt, Go.Mem.addr_add]
  unfold execOp
  simp only [ho, hadr]
  refine Mem.run_v ?_
  unfold Instr.loadAt Instr.sureAddr
  rw [Sem.run_bind, Sem.run_pure, Result.andThen_ok]
  refine run_loadA ht (by rw [hw]; exact h1) cs hl (fun i u hi => ?_)
  have h6 : cs.toList[i]? = some u := by simpa using hi
  rw [← hc, List.extract_eq_take_drop, List.getElem?_take] at h6
  split at h6
  · rw [List.getElem?_drop] at h6
    have hjs : j + i < T.size := by rw [← hT.len y]; exact (List.getElem?_eq_some_iff.1 h6).1
    have h7 := hT.flat_get hy hjs
    rw [h6, ← h5, List.getElem?_take] at h7
    split at h7
    · rw [List.getElem?_drop] at h7
      rw [← Array.getElem?_toList, ← h7]; congr 1; omega
    · cases h7
  · cases h6
end
end Go.S


set_option linter.unusedSimpArgs false
set_option linter.unusedVariables false
namespace Go.S
open Go.Hp Go.J
section
variable {P : Program} {E : Env} {Z : Zone} {As : List Asr} {o : Oper}
theorem eqg_str {op : BinOp} {t : TypeId} {x y : Operand} {a b : ByteArray} (w : World) : (eqGuard op t x y (.string a) (.string b)).run P w = .ok () w := by
  unfold eqGuard; split <;> rfl
theorem t_cat {t u : TypeId} {x y : Operand} (a b : ByteArray) (hb : ((a.size : Int) + b.size) ≤ 9223372036854775807) (ho : o.op = .binOp .add t x y u := by rfl) (hx : ev E x = .string a := by rfl) (hy : ev E y = .string b := by rfl) : Lt P E o Z As (.string (a ++ b)) :=
  fun _ _ => r_pure _ (bin_run ho _ _ hx hy eqg_str fun w => by
    have h : ¬ (((a.size + b.size : Nat) : Int) > IntKind.i64.max) := by
      have : IntKind.i64.max = 9223372036854775807 := by decide
      rw [this]; omega
    simp only [binOp, Op.stringOp, if_neg h, Sem.run_pure])
theorem t_lenS {x : Operand} {t : TypeId} (ht : P.underlying t = some .string) (a : ByteArray) (ho : o.op = .call { callee := .builtin .len, args := #[x], argTypes := #[t] } := by rfl) (hx : ev E x = .string a := by rfl) : Lt P E o Z As (.int .i64 a.size) :=
  fun _ _ => r_pure _ fun w => by
    unfold execOp
    simp only [ho, resolve, invoke, builtin, Sem.run_bind, Sem.run_pure, Result.andThen_ok, List.map_toArray, List.map_cons, List.map_nil, hx]
    simp [Builtin.len_, run_underlying ht, Builtin.lenOf, goInt, Sem.run_pure, Sem.run_bind]
/-- s[l:h] -/
theorem run_sub {t : TypeId} (ht : P.underlying t = some .string) (a : ByteArray) (ql qh : IntKind) (l h : Int) (h0 : 0 ≤ l) (h1 : l ≤ h) (h2 : h ≤ a.size) (w : World) : (Instr.sliceAt t (.string a) (some (.int ql l)) (some (.int qh h)) none).run P w = .ok (.string (a.extract l.toNat h.toNat)) w := by
  have e1 : 0 ≤ h := by omega
  simp [Instr.sliceAt, Instr.slice, run_underlying ht, Instr.sliceBounds, Instr.sliceBound, asIntOf, h0, h1, h2, e1, Int.toNat_of_nonneg, Sem.run_pure, Sem.run_bind]
  intro hc; exfalso; omega
theorem run_subL {t : TypeId} (ht : P.underlying t = some .string) (a : ByteArray) (ql : IntKind) (l : Int) (h0 : 0 ≤ l) (h1 : l ≤ a.size) (w : World) : (Instr.sliceAt t (.string a) (some (.int ql l)) none none).run P w = .ok (.string (a.extract l.toNat a.size)) w := by
  simp [Instr.sliceAt, Instr.slice, run_underlying ht, Instr.sliceBounds, Instr.sliceBound, asIntOf, h0, h1, Sem.run_pure, Sem.run_bind]
theorem run_subH {t : TypeId} (ht : P.underlying t = some .string) (a : ByteArray) (qh : IntKind) (h : Int) (h0 : 0 ≤ h) (h1 : h ≤ a.size) (w : World) : (Instr.sliceAt t (.string a) none (some (.int qh h)) none).run P w = .ok (.string (a.extract 0 h.toNat)) w := by
  simp [Instr.sliceAt, Instr.slice, run_underlying ht, Instr.sliceBounds, Instr.sliceBound, asIntOf, h0, h1, Sem.run_pure, Sem.run_bind]
theorem t_subLH {t : TypeId} {x i j : Operand} {ql qh : IntKind} (ht : P.underlying t = some .string) (a : ByteArray) (l h : Int) (h0 : 0 ≤ l) (h1 : l ≤ h) (h2 : h ≤ a.size) (ho : o.op = .slice t x (some i) (some j) none := by rfl) (hx : ev E x = .string a := by rfl) (hi : ev E i = .int ql l := by rfl) (hj : ev E j = .int qh h := by rfl) : Lt P E o Z As (.string (a.extract l.toNat h.toNat)) :=
  fun _ _ => r_pure _ fun w => by
    unfold execOp
    simp only [ho, hx, hi, hj, Option.map_none, Option.map_some]
    exact Mem.run_v (run_sub ht a ql qh l h h0 h1 h2 w)
theorem t_subL {t : TypeId} {x i : Operand} {ql : IntKind} (ht : P.underlying t = some .string) (a : ByteArray) (l : Int) (h0 : 0 ≤ l) (h1 : l ≤ a.size) (ho : o.op = .slice t x (some i) none none := by rfl) (hx : ev E x = .string a := by rfl) (hi : ev E i = .int ql l := by rfl) : Lt P E o Z As (.string (a.extract l.toNat a.size)) :=
  fun _ _ => r_pure _ fun w => by
    unfold execOp
    simp only [ho, hx, hi, Option.map_none, Option.map_some]
    exact Mem.run_v (run_subL ht a ql l h0 h1 w)
theorem t_subH {t : TypeId} {x j : Operand} {qh : IntKind} (ht : P.underlying t = some .string) (a : ByteArray) (h : Int) (h0 : 0 ≤ h) (h1 : h ≤ a.size) (ho : o.op = .slice t x none (some j) none := by rfl) (hx : ev E x = .string a := by rfl) (hj : ev E j = .int qh h := by rfl) : Lt P E o Z As (.string (a.extract 0 h.toNat)) :=
  fun _ _ => r_pure _ fun w => by
    unfold execOp
    simp only [ho, hx, hj, Option.map_none, Option.map_some]
    exact Mem.run_v (run_subH ht a qh h h0 h1 w)
/-- s[i] -/
theorem t_idxS {t : TypeId} {x i : Operand} {q : IntKind} (ht : P.underlying t = some .string) (a : ByteArray) (k : Int) (b : UInt8) (h0 : 0 ≤ k) (hb : a[k.toNat]? = some b) (ho : o.op = .index t x i := by rfl) (hx : ev E x = .string a := by rfl) (hi : ev E i = .int q k := by rfl) : Lt P E o Z As (.int .u8 b.toNat) :=
  fun _ _ => r_pure _ fun w => by
    unfold execOp
    simp only [ho, hx, hi]
    exact Mem.run_v (by simp [Instr.index, asIntOf, run_underlying ht, h0, hb, Sem.run_pure, Sem.run_bind])
/-! ### Integers of any kind, as they wrap -/
theorem t_addK {t u : TypeId} {x y : Operand} {k : IntKind} (a b : Int) (ho : o.op = .binOp .add t x y u := by rfl) (hx : ev E x = .int k a := by rfl) (hy : ev E y = .int k b := by rfl) : Lt P E o Z As (.int k (k.wrap (a + b))) :=
  fun _ _ => r_pure _ (bin_run ho _ _ hx hy eqg_int fun w => by simp [binOp, Op.intArith, Sem.run_pure])
theorem t_subK {t u : TypeId} {x y : Operand} {k : IntKind} (a b : Int) (ho : o.op = .binOp .sub t x y u := by rfl) (hx : ev E x = .int k a := by rfl) (hy : ev E y = .int k b := by rfl) : Lt P E o Z As (.int k (k.wrap (a - b))) :=
  fun _ _ => r_pure _ (bin_run ho _ _ hx hy eqg_int fun w => by simp [binOp, Op.intArith, Sem.run_pure])
theorem t_mulK {t u : TypeId} {x y : Operand} {k : IntKind} (a b : Int) (ho : o.op = .binOp .mul t x y u := by rfl) (hx : ev E x = .int k a := by rfl) (hy : ev E y = .int k b := by rfl) : Lt P E o Z As (.int k (k.wrap (a * b))) :=
  fun _ _ => r_pure _ (bin_run ho _ _ hx hy eqg_int fun w => by simp [binOp, Op.intArith, Sem.run_pure])
theorem t_quoK {t u : TypeId} {x y : Operand} {k : IntKind} (a b : Int) (hb : b ≠ 0) (ho : o.op = .binOp .quo t x y u := by rfl) (hx : ev E x = .int k a := by rfl) (hy : ev E y = .int k b := by rfl) : Lt P E o Z As (.int k (k.wrap (a.tdiv b))) :=
  fun _ _ => r_pure _ (bin_run ho _ _ hx hy eqg_int fun w => by simp [binOp, Op.intDiv, hb, Sem.run_pure])
theorem t_negK {t : TypeId} {x : Operand} {k : IntKind} (a : Int) (ho : o.op = .unOp .neg t x := by rfl) (hx : ev E x = .int k a := by rfl) : Lt P E o Z As (.int k (k.wrap (-a))) :=
  fun _ _ => r_pure _ fun w => by
    unfold execOp
    simp [ho, hx, Op.unary, Op.intArith, Int.zero_sub, Sem.run_pure, Sem.run_bind]
theorem t_convK {s d : TypeId} {x : Operand} {k k' : IntKind} {ds : TypeDesc} (a : Int) (hs : P.underlying s = some ds) (hd : P.underlying d = some (.int k')) (ho : o.op = .convert s d x := by rfl) (hx : ev E x = .int k a := by rfl) : Lt P E o Z As (.int k' (k'.wrap a)) :=
  fun _ _ => r_pure _ fun w => by
    unfold execOp
    simp [ho, hx, convert, run_underlying hs, run_underlying hd, Conv.intToInt, Sem.run_pure, Sem.run_bind]
end
end Go.S


set_option linter.unusedSimpArgs false
set_option linter.unusedVariables false
namespace Go.S
open Go.Hp Go.J
open Go.Mem (Ty elemAt)
/-- Bytes as the elements of a slice (e: uint8's number). -/
def byteT (e : TypeId) : Ty UInt8 := ⟨e, 1, 1, false, fun b => .int .u8 b.toNat, 0⟩
section
variable {P : Program} {E : Env} {Z : Zone} {As : List Asr} {o : Oper}
theorem byteT_ok {e : TypeId} {i : TypeInfo} (hd : P.underlying e = some (.int .u8)) (hi : P.info? e = some i) (hs : i.size = 1) (hb : i.bytes = 1) (hz : i.zero = some (.int .u8 0)) : (byteT e).Ok P :=
  ⟨Nat.one_pos, fun _ => rfl, fun x u hu => by
    have : u = .int .u8 x.toNat := by simpa [Ty.enc, byteT, Value.cells] using hu
    rw [this]; rfl, fun _ => rfl, ⟨_, hd, rfl⟩, fun _ => rfl, ⟨i, hi, hs, hb, hz⟩⟩
theorem flat_byte {e : TypeId} (L : List UInt8) : (byteT e).flat L = L.map fun b => Value.int .u8 b.toNat := by
  induction L with
  | nil => rfl
  | cons b r ih => show (byteT e).enc b ++ (byteT e).flat r = _; rw [ih]; rfl
theorem fold_push : ∀ (L : List UInt8) (s : ByteArray), (L.map fun b => (b.toNat : Int)).foldl (fun r n => r.push (UInt8.ofNat n.toNat)) s = ⟨s.data ++ L.toArray⟩
  | [], s => by cases s; simp
  | b :: r, s => by
    simp only [List.map_cons, List.foldl_cons]
    rw [fold_push r]
    have : UInt8.ofNat ((b.toNat : Int)).toNat = b := by simp
    rw [this]
    show (⟨(s.data.push b) ++ r.toArray⟩ : ByteArray) = _
    congr 1
    apply Array.ext'; simp
theorem t_bytes {s d e : TypeId} {x : Operand} {v : Value} {L : List UInt8} (hT : (byteT e).Ok P) (hs : P.underlying s = some (.slice e)) (he : P.underlying e = some (.int .u8)) (hd : P.underlying d = some .string) (a : Acc Z As (byteT e) v L) (ho : o.op = .convert s d x := by rfl) (hx : ev E x = v := by rfl) : Lt P E o Z As (.string ⟨L.toArray⟩) := fun H hH => by
  have hsl := a H hH
  refine ⟨fun w hw => ?_⟩
  unfold execOp
  simp only [ho, hx]
  refine Mem.run_v ?_
  have hbs : (Conv.bytesToString v).run P w = .ok (.string ⟨L.toArray⟩) w := by
    rcases hsl with ⟨⟨p, rfl⟩, rfl⟩ | ⟨g, off, cap, arr, e', fr, rfl, h1, h2, h3, h4, h5⟩
    · cases p with
      | none => rfl
      | some p => exact run_bytesToString w p 0 0 [] (by simp [loadCells, loadCellsFrom, Sem.run_pure])
    · have hc : ∀ j u, (L.map fun b => Value.int .u8 b.toNat)[j]? = some u → w.cell? ((⟨g, off, none⟩ : Addr).add j) = some u := by
        intro j u hj
        rw [← flat_byte (e := e), ← h5, List.getElem?_take] at hj
        split at hj
        · rw [List.getElem?_drop] at hj
          rw [Mem.addr_add, cell_of_row w g _ arr e' fr (by rw [hw]; exact h1), ← Array.getElem?_toList]; exact hj
        · cases hj
      have hl := run_loadCells_list (P := P) w ⟨g, off, none⟩ _ hc
      rw [List.length_map] at hl
      have h6 := run_bytesToString w ⟨g, off, none⟩ L.length cap (L.map fun b => (b.toNat : Int)) (by rw [hl]; simp)
      rw [h6, fold_push]
      simp
  rcases hsl.form with ⟨p, c, rfl⟩
  simp only [convert, Sem.run_bind, run_underlying hs, run_underlying hd, run_underlying he, Result.andThen_ok]
  exact hbs
end
end Go.S


set_option linter.unusedSimpArgs false
set_option linter.unusedVariables false
namespace Go.J
open Go.Hp
variable {P : Program} {w0 : World} {Q : Exit → Act → World → Prop} {n : Nat} {E : Env} {H : Heap} {o o' : Oper} {l : List Oper} {S : Heap → Prop} {fuel : Nat} {listed : Array Bool}
theorem h_step2 (i j : Nat) (hi : l[i]? = some o) (hj : l[j]? = some o') (hr : Region.ready .any l.toArray listed = [i, j])
    (h : JL P w0 l.toArray (heldQ P l Q S fuel (listed.setIfInBounds i true)) n [o] E H)
    (h' : JL P w0 l.toArray (heldQ P l Q S fuel (listed.setIfInBounds j true)) n [o'] E H) : JH P w0 l Q n S (fuel + 1) listed E H := by
  intro a w hf ha
  refine wpAnyH_all hr (by simp) ?_
  intro k hk
  rcases List.mem_cons.1 hk with rfl | hk
  · have := h a w hf ha
    unfold wpOp
    rw [show l.toArray[k]? = some o by simpa using hi]
    exact this
  · rw [List.mem_singleton] at hk
    subst hk
    have := h' a w hf ha
    unfold wpOp
    rw [show l.toArray[k]? = some o' by simpa using hj]
    exact this
end Go.J
namespace Go.S
open Go.Hp Go.J
variable {P : Program} {w0 : World} {Q : Exit → Act → World → Prop} {n : Nat} {E : Env} {Z : Zone} {As : List Asr} {o o' : Oper} {l : List Oper} {Ks : List Asr} {fuel : Nat} {listed : Array Bool}
theorem h_stepS2 (i j : Nat) (h : SL P w0 l.toArray (heldQ P l Q (HS Z Ks) fuel (listed.setIfInBounds i true)) n [o] E Z As) (h' : SL P w0 l.toArray (heldQ P l Q (HS Z Ks) fuel (listed.setIfInBounds j true)) n [o'] E Z As) (hi : l[i]? = some o := by rfl) (hj : l[j]? = some o' := by rfl) (hr : Region.ready .any l.toArray listed = [i, j] := by kernel_rfl) : SH P w0 l Q n Z Ks (fuel + 1) listed E As :=
  fun H hH => h_step2 i j hi hj hr (h H hH) (h' H hH)
end Go.S


set_option linter.unusedSimpArgs false
set_option linter.unusedVariables false
namespace Go.S
open Go.Hp Go.J
section
variable {P : Program} {w0 : World} {ops : Array Oper} {Q : Exit → Act → World → Prop} {n : Nat} {E : Env} {Z : Zone} {As : List Asr} {α β γ δ : Type}
theorem k_mem2 {c : Code} {p : α → β → Prop} {Bs : α → β → List Asr} (hA : ∀ H, Holds Z As H → ∃ x y, p x y ∧ Holds Z (Bs x y) H) (h : ∀ x y, p x y → SK P w0 c Q n E Z (Bs x y)) : SK P w0 c Q n E Z As := fun H hH => by
  obtain ⟨x, y, hp, hB⟩ := hA H hH; exact h x y hp H hB
theorem s_mem2 {l : List Oper} {p : α → β → Prop} {Bs : α → β → List Asr} (hA : ∀ H, Holds Z As H → ∃ x y, p x y ∧ Holds Z (Bs x y) H) (h : ∀ x y, p x y → SL P w0 ops Q n l E Z (Bs x y)) : SL P w0 ops Q n l E Z As := fun H hH => by
  obtain ⟨x, y, hp, hB⟩ := hA H hH; exact h x y hp H hB
theorem xs_mem2 {c : Exit} {p : α → β → Prop} {Bs : α → β → List Asr} (hA : ∀ H, Holds Z As H → ∃ x y, p x y ∧ Holds Z (Bs x y) H) (h : ∀ x y, p x y → SX w0 c Q n E Z (Bs x y)) : SX w0 c Q n E Z As := fun H hH => by
  obtain ⟨x, y, hp, hB⟩ := hA H hH; exact h x y hp H hB
theorem k_mem3 {c : Code} {p : α → β → γ → Prop} {Bs : α → β → γ → List Asr} (hA : ∀ H, Holds Z As H → ∃ x y z, p x y z ∧ Holds Z (Bs x y z) H) (h : ∀ x y z, p x y z → SK P w0 c Q n E Z (Bs x y z)) : SK P w0 c Q n E Z As := fun H hH => by
  obtain ⟨x, y, z, hp, hB⟩ := hA H hH; exact h x y z hp H hB
theorem s_mem3 {l : List Oper} {p : α → β → γ → Prop} {Bs : α → β → γ → List Asr} (hA : ∀ H, Holds Z As H → ∃ x y z, p x y z ∧ Holds Z (Bs x y z) H) (h : ∀ x y z, p x y z → SL P w0 ops Q n l E Z (Bs x y z)) : SL P w0 ops Q n l E Z As := fun H hH => by
  obtain ⟨x, y, z, hp, hB⟩ := hA H hH; exact h x y z hp H hB
theorem xs_mem3 {c : Exit} {p : α → β → γ → Prop} {Bs : α → β → γ → List Asr} (hA : ∀ H, Holds Z As H → ∃ x y z, p x y z ∧ Holds Z (Bs x y z) H) (h : ∀ x y z, p x y z → SX w0 c Q n E Z (Bs x y z)) : SX w0 c Q n E Z As := fun H hH => by
  obtain ⟨x, y, z, hp, hB⟩ := hA H hH; exact h x y z hp H hB
theorem k_mem4 {c : Code} {p : α → β → γ → δ → Prop} {Bs : α → β → γ → δ → List Asr} (hA : ∀ H, Holds Z As H → ∃ x y z u, p x y z u ∧ Holds Z (Bs x y z u) H) (h : ∀ x y z u, p x y z u → SK P w0 c Q n E Z (Bs x y z u)) : SK P w0 c Q n E Z As := fun H hH => by
  obtain ⟨x, y, z, u, hp, hB⟩ := hA H hH; exact h x y z u hp H hB
theorem s_mem4 {l : List Oper} {p : α → β → γ → δ → Prop} {Bs : α → β → γ → δ → List Asr} (hA : ∀ H, Holds Z As H → ∃ x y z u, p x y z u ∧ Holds Z (Bs x y z u) H) (h : ∀ x y z u, p x y z u → SL P w0 ops Q n l E Z (Bs x y z u)) : SL P w0 ops Q n l E Z As := fun H hH => by
  obtain ⟨x, y, z, u, hp, hB⟩ := hA H hH; exact h x y z u hp H hB
theorem xs_mem4 {c : Exit} {p : α → β → γ → δ → Prop} {Bs : α → β → γ → δ → List Asr} (hA : ∀ H, Holds Z As H → ∃ x y z u, p x y z u ∧ Holds Z (Bs x y z u) H) (h : ∀ x y z u, p x y z u → SX w0 c Q n E Z (Bs x y z u)) : SX w0 c Q n E Z As := fun H hH => by
  obtain ⟨x, y, z, u, hp, hB⟩ := hA H hH; exact h x y z u hp H hB
end
end Go.S


set_option linter.unusedSimpArgs false
set_option linter.unusedVariables false
set_option linter.unusedSectionVars false
namespace Go.S
open Go.Hp Go.J
open Go.Mem (Ty KTy blk Stamps)

section
variable {κ β : Type} [DecidableEq κ]
def bornAt (es : Array MapEntry) (i : Nat) : Nat := ((es.toList.map (·.born))[i]?).getD 0
/-- Block b is a map, block r an iterator over it that has handed out 'done'. -/
def Rg (H : Heap) (K : KTy κ) (V : β → Value) (b r : Nat) (m done : List (κ × β)) : Prop :=
  ∃ (es : Array MapEntry) (clock : Nat) (ix : List Nat), H[b]? = some (.map es clock) ∧ es.toList.map (fun e => (e.key, e.val)) = m.map (fun p => (K.val p.1, V p.2)) ∧ (m.map Prod.fst).Nodup ∧ Stamps es.toList clock
    ∧ H[r]? = some (.mapIter (some b) clock (ix.map (bornAt es)).toArray clock) ∧ ix.Nodup ∧ (∀ i ∈ ix, i < m.length) ∧ done.map some = ix.map (fun i => m[i]?)
theorem Rg.kept {H H' : Heap} {K : KTy κ} {V : β → Value} {b r : Nat} {m done : List (κ × β)} (h : Rg H K V b r m done) (h1 : H'[b]? = H[b]?) (h2 : H'[r]? = H[r]?) : Rg H' K V b r m done := by
  obtain ⟨es, clock, ix, a, e, n, s, c, d⟩ := h
  exact ⟨es, clock, ix, h1.trans a, e, n, s, h2.trans c, d⟩
theorem Rg.lt1 {H : Heap} {K : KTy κ} {V : β → Value} {b r : Nat} {m done : List (κ × β)} (h : Rg H K V b r m done) : b < H.size := by
  obtain ⟨es, clock, ix, a, _⟩ := h; exact lt_of_some a
theorem Rg.lt2 {H : Heap} {K : KTy κ} {V : β → Value} {b r : Nat} {m done : List (κ × β)} (h : Rg H K V b r m done) : r < H.size := by
  obtain ⟨es, clock, ix, _, _, _, _, a, _⟩ := h; exact lt_of_some a
def rgA (K : KTy κ) (V : β → Value) (b r : Nat) (m done : List (κ × β)) : Asr where
  on H S := Rg H K V b r m done ∧ ∀ k, S k ↔ k = b ∨ k = r
  lt h k hk := by
    rcases (h.2 k).1 hk with rfl | rfl
    · exact h.1.lt1
    · exact h.1.lt2
  keep h hk := ⟨h.1.kept (hk _ ((h.2 _).2 (.inl rfl))) (hk _ ((h.2 _).2 (.inr rfl))), h.2⟩
theorem perm_of_ix {m done : List (κ × β)} {ix : List Nat} (hn : ix.Nodup) (hl : ∀ i ∈ ix, i < m.length) (hd : done.map some = ix.map (fun i => m[i]?)) (ha : ∀ i, i < m.length → i ∈ ix) : done.Perm m := by
  have hp : ix.Perm (List.range m.length) := (List.perm_ext_iff_of_nodup hn List.nodup_range).2 fun i => ⟨fun h => List.mem_range.2 (hl i h), fun h => ha i (List.mem_range.1 h)⟩
  have h1 : (done.map some).Perm ((List.range m.length).map (fun i => m[i]?)) := by rw [hd]; exact hp.map _
  have h2 : (List.range m.length).map (fun i => m[i]?) = m.map some := by
    apply List.ext_getElem?
    intro i
    by_cases h : i < m.length
    · simp [h]
    · simp [h]
  rw [h2] at h1
  have h3 := h1.filterMap id
  simpa [List.filterMap_map] using h3
theorem nodup_len : ∀ (n : Nat) (l : List Nat), l.Nodup → (∀ i ∈ l, i < n) → l.length ≤ n
  | 0, l, _, h => by
    cases l with
    | nil => simp
    | cons a r => exact absurd (h a (by simp)) (Nat.not_lt_zero _)
  | n + 1, l, hn, h => by
    by_cases hm : n ∈ l
    · have h1 := nodup_len n (l.erase n) (hn.erase n) fun i hi => by
        rw [hn.mem_erase_iff] at hi
        have := h i hi.2
        omega
      rw [List.length_erase_of_mem hm] at h1
      have := List.length_pos_of_mem hm
      omega
    · have := nodup_len n l hn fun i hi => by
        have := h i hi
        have : i ≠ n := fun e => hm (e ▸ hi)
        omega
      omega
theorem born_inj {es : Array MapEntry} {clock : Nat} (h : Stamps es.toList clock) {i j : Nat} (hi : i < es.size) (hj : j < es.size) (e : bornAt es i = bornAt es j) : i = j := by
  unfold bornAt at e
  have h1 : i < (es.toList.map (·.born)).length := by simpa using hi
  have h2 : j < (es.toList.map (·.born)).length := by simpa using hj
  rw [List.getElem?_eq_getElem h1, List.getElem?_eq_getElem h2, Option.getD_some, Option.getD_some] at e
  exact (List.getElem_inj (h := h.1)).1 e
theorem Rg.start {H' : Heap} {K : KTy κ} {V : β → Value} {b r : Nat} {m : List (κ × β)} {es : Array MapEntry} {clock : Nat} (h1 : H'[b]? = some (.map es clock)) (h2 : es.toList.map (fun e => (e.key, e.val)) = m.map (fun p => (K.val p.1, V p.2))) (h3 : (m.map Prod.fst).Nodup) (h4 : Stamps es.toList clock) (h5 : H'[r]? = some (.mapIter (some b) clock #[] clock)) : Rg H' K V b r m [] :=
  ⟨es, clock, [], h1, h2, h3, h4, h5, List.nodup_nil, by simp, by simp⟩
theorem Rg.mp {H : Heap} {K : KTy κ} {V : β → Value} {b r : Nat} {m done : List (κ × β)} (h : Rg H K V b r m done) : Mp H K V b m := by
  obtain ⟨es, clock, ix, a, e, n, s, _⟩ := h
  exact ⟨es, clock, a, e, n, s⟩
end
section
variable {κ β : Type} [DecidableEq κ] {P : Program} {w0 : World} {ops : Array Oper} {Q : Exit → Act → World → Prop} {n : Nat} {E : Env} {Z : Zone} {As : List Asr} {o : Oper} {rest : List Oper} {K : KTy κ} {V : β → Value} {b r : Nat} {m done : List (κ × β)}
/-- The range is over: the map is a map. -/
theorem Holds.unrange {H : Heap} (i : Nat) (h : Holds Z As H) (hi : gt As i = some (rgA K V b r m done) := by rfl) : Holds Z (upd As i (mpA K V b m)) H :=
  h.step hi fun S ⟨h1, h2⟩ => ⟨fun k => k = b, ⟨h1.mp, fun k => Iff.rfl⟩, Chg.refl _ _, fun k hk => .inl ((h2 k).2 (.inl hk))⟩
theorem s_range {x : Operand} {t e : TypeId} {d : Nat} (i : Nat) (ht : P.underlying t = some (.map K.id e)) (h : ∀ r, SL P w0 ops Q n rest ((d, .pointer (some ⟨r, 0, none⟩)) :: E) Z (upd As i (rgA K V b r m [])))
    (ho : o.op = .range t x := by rfl) (hA : gt As i = some (mpA K V b m) := by rfl) (hx : ev E x = .map (some b) := by rfl) (hd : o.dst = some d := by rfl) (hk : okOp ops n E o = true := by kernel_rfl) : SL P w0 ops Q n (o :: rest) E Z As := fun H hH => by
  obtain ⟨es, clock, hb, h2, h3, h4⟩ := hH.mp hA
  refine l_new (v := fun g => .pointer (some ⟨g, 0, none⟩)) (ob := .mapIter (some b) clock #[] clock) hk (fun w hw => ?_) fun g H' hn => ?_
  · unfold execOp
    simp only [ho, hx]
    exact Mem.run_v (run_range_map w t K.id e b es clock ht (by rw [hw]; exact hb))
  · rw [hd]
    refine h g H' (hH.step hA fun S ⟨_, hS⟩ => ⟨fun k => k = b ∨ k = g, ⟨Rg.start (es := es) ?_ h2 h3 h4 hn.is, fun k => Iff.rfl⟩, hn.chg S, ?_⟩)
    · rw [(hn.chg (fun _ => False)).block b (lt_of_some hb) (fun h => h)]; exact hb
    · rintro k (rfl | rfl)
      · exact .inl ((hS _).2 rfl)
      · exact .inr (Nat.le_of_eq hn.at_.symm)
/-- 'next', wherever the iterator lies. -/
theorem run_nextAt (w : World) (ty : TypeId) (r bm clock : Nat) (seen : Array Nat) (es : Array MapEntry) (hb : w.heap[bm]? = some (.map es clock)) (hr : w.heap[r]? = some (.mapIter (some bm) clock seen clock)) (hold : ∀ x ∈ es.toList, x.born < clock) :
    ((leftOf es seen).size = 0 ∧ (Instr.next (.pointer (some ⟨r, 0, none⟩)) false ty).run P w = .ok (.tuple #[.bool false]) w) ∨
    ∃ e ∈ (leftOf es seen).toList, ∃ w1 : World, (w1.os = w.os ∧ w1.tape = w.tape ∧ w1.output = w.output) ∧ (Instr.next (.pointer (some ⟨r, 0, none⟩)) false ty).run P w = .ok (.tuple #[.bool true, e.key, e.val]) { w1 with heap := w.heap.setIfInBounds r (.mapIter (some bm) clock (seen.push e.born) clock) } := by
  simp only [Instr.next, getObj, Sem.run_bind, Sem.run, hr, hb, Result.andThen, next_test_false seen es clock clock hold (Nat.le_refl _), Bool.false_eq_true, if_false]
  unfold leftOf
  have hmem : ∀ x ∈ (Array.filter (fun e => !seen.contains e.born) es).toList, x.born < clock := fun x hx => hold x (by simp at hx ⊢; exact hx.1)
  generalize Array.filter (fun e => !seen.contains e.born) es = L at hmem ⊢
  have e1 : L.filter (fun x => decide (x.born < clock)) = L := Array.filter_eq_self.2 (fun x hx => by simpa using hmem x (by simpa using hx))
  have e2 : L.filter (fun x => decide (x.born ≥ clock)) = #[] := by
    rw [Array.filter_eq_empty_iff]
    intro x hx
    have := hmem x (by simpa using hx)
    simp
    omega
  simp only [e1, e2, Array.append_empty]
  by_cases h0 : L.size = 0
  · left
    have : L = #[] := Array.eq_empty_of_size_eq_zero h0
    subst this
    refine ⟨rfl, ?_⟩
    simp [choose, Sem.run, Question.forced]
  · right
    have hne : L.isEmpty = false := by simp [Array.isEmpty, h0]
    simp only [hne, Bool.false_eq_true, if_false, Array.empty_append, Array.size_map]
    have hch : ∃ (j : Nat) (w1 : World), j < L.size ∧ (w1.os = w.os ∧ w1.tape = w.tape ∧ w1.output = w.output) ∧ w1.heap = w.heap ∧ (choose (Question.mapNext L.size)).run P w = .ok j w1 := by
      by_cases hf : L.size ≤ 1
      · exact ⟨0, w, by omega, ⟨rfl, rfl, rfl⟩, rfl, by simp [choose, Sem.run, Question.forced, hf]⟩
      · exact ⟨_, w.drew, Nat.mod_lt _ (by omega), ⟨rfl, rfl, rfl⟩, rfl, by
          simp only [choose, Sem.run, Question.forced, decide_eq_true_eq, hf, if_false, Question.cut]
          rfl⟩
    obtain ⟨j, w1, hj, hal, hheap, hrun⟩ := hch
    refine ⟨L[j], by simp, w1, hal, ?_⟩
    have hset : ∀ o' : Obj, (setObj r o').run P w1 = .ok () { w1 with heap := w.heap.setIfInBounds r o' } := fun o' => by
      simp only [setObj, Sem.run, hheap, hr]
    simp only [hrun, Array.getElem?_map, Array.getElem?_eq_getElem hj, Option.map_some, Sem.run_bind, hset, Result.andThen]
    rfl
theorem len_es {es : Array MapEntry} (h : es.toList.map (fun e => (e.key, e.val)) = m.map (fun p => (K.val p.1, V p.2))) : es.size = m.length := by
  have := congrArg List.length h; simpa using this
theorem at_es {es : Array MapEntry} (h : es.toList.map (fun e => (e.key, e.val)) = m.map (fun p => (K.val p.1, V p.2))) {i : Nat} {e : MapEntry} (he : es.toList[i]? = some e) : ∃ p, m[i]? = some p ∧ e.key = K.val p.1 ∧ e.val = V p.2 := by
  have := congrArg (·[i]?) h
  simp only [List.getElem?_map, he, Option.map_some] at this
  cases hm : m[i]? with
  | none => rw [hm] at this; simp at this
  | some p => rw [hm] at this; simp at this; exact ⟨p, rfl, this.1, this.2⟩
theorem s_next {x : Operand} {d : Nat} (i : Nat) (h1 : done.Perm m → SL P w0 ops Q n rest ((d, .tuple #[.bool false]) :: E) Z As)
    (h2 : ∀ k u, (k, u) ∈ m → k ∉ done.map Prod.fst → done.length < m.length → SL P w0 ops Q n rest ((d, .tuple #[.bool true, K.val k, V u]) :: E) Z (upd As i (rgA K V b r m (done ++ [(k, u)]))))
    (ho : o.op = .next x false := by rfl) (hA : gt As i = some (rgA K V b r m done) := by rfl) (hx : ev E x = .pointer (some ⟨r, 0, none⟩) := by rfl) (hd : o.dst = some d := by rfl) (hk : okOp ops n E o = true := by kernel_rfl) : SL P w0 ops Q n (o :: rest) E Z As := fun H hH => by
  obtain ⟨S, ⟨⟨es, clock, ix, hb, hes, hm, hst, hr, hn, hl, hdn⟩, hS⟩, _⟩ := hH.part hA
  have hlen := len_es hes
  have hdl : done.length = ix.length := by have := congrArg List.length hdn; simpa using this
  refine l_run (R := fun v' H' => (v' = .tuple #[.bool false] ∧ H' = H ∧ (leftOf es (ix.map (bornAt es)).toArray).size = 0) ∨ ∃ e ∈ (leftOf es (ix.map (bornAt es)).toArray).toList, v' = .tuple #[.bool true, e.key, e.val] ∧ H' = H.setIfInBounds r (.mapIter (some b) clock ((ix.map (bornAt es)).toArray.push e.born) clock)) hk (fun w ha => ?_) fun v' H' hR => ?_
  · have hw := ha.heap
    rcases run_nextAt (P := P) w o.type r b clock (ix.map (bornAt es)).toArray es (by rw [hw]; exact hb) (by rw [hw]; exact hr) hst.2 with ⟨h0, hrun⟩ | ⟨e, he, w1, hal, hrun⟩
    · exact ⟨_, w, by unfold execOp; simp only [ho, hx]; exact Mem.run_v hrun, ⟨rfl, ha.os, ha.tape, ha.output⟩, .inl ⟨rfl, hw, h0⟩⟩
    · refine ⟨_, _, by unfold execOp; simp only [ho, hx]; exact Mem.run_v hrun, ?_, .inr ⟨e, he, rfl, by rw [hw]⟩⟩
      exact ⟨rfl, hal.1.trans ha.os, hal.2.1.trans ha.tape, hal.2.2.trans ha.output⟩
  · rw [hd]
    rcases hR with ⟨rfl, rfl, h0⟩ | ⟨e, he, rfl, rfl⟩
    · refine h1 (perm_of_ix hn hl hdn fun i hi => ?_) _ hH
      have hi' : i < es.size := by omega
      have hin : es[i] ∈ es := Array.getElem_mem hi'
      have hnot : ¬ es[i] ∈ leftOf es (ix.map (bornAt es)).toArray := by
        have : leftOf es (ix.map (bornAt es)).toArray = #[] := Array.eq_empty_of_size_eq_zero h0
        rw [this]; simp
      unfold leftOf at hnot
      rw [Array.mem_filter] at hnot
      simp only [hin, true_and, Bool.not_eq_true', Bool.not_eq_false, List.contains_toArray, List.contains_iff_mem, List.mem_map] at hnot
      obtain ⟨j, hj, e⟩ := hnot
      have hb' : bornAt es i = es[i].born := by unfold bornAt; simp [hi']
      have : j = i := born_inj hst (by have := hl j hj; omega) hi' (by rw [hb']; exact e)
      exact this ▸ hj
    · have he' : e ∈ es ∧ e.born ∉ ix.map (bornAt es) := by
        have := he
        unfold leftOf at this
        simp at this
        refine ⟨this.1, fun hm' => ?_⟩
        obtain ⟨j, hj, ej⟩ := List.mem_map.1 hm'
        exact this.2 j hj ej
      obtain ⟨i', hi', hei⟩ := Array.getElem_of_mem he'.1
      have heL : es.toList[i']? = some e := by rw [Array.getElem?_toList, Array.getElem?_eq_getElem hi', hei]
      obtain ⟨⟨k, u⟩, hp, ek, eu⟩ := at_es hes heL
      have hbi : bornAt es i' = e.born := by unfold bornAt; rw [List.getElem?_map, heL]; rfl
      have hni : i' ∉ ix := fun h => he'.2 (List.mem_map.2 ⟨i', h, hbi⟩)
      have hdone : ∀ q ∈ done, ∃ j ∈ ix, m[j]? = some q := fun q hq => by
        have : some q ∈ done.map some := List.mem_map.2 ⟨q, hq, rfl⟩
        rw [hdn] at this
        obtain ⟨j, hj, ej⟩ := List.mem_map.1 this
        exact ⟨j, hj, ej⟩
      have hkd : k ∉ done.map Prod.fst := fun h => by
        obtain ⟨q, hq, eq⟩ := List.mem_map.1 h
        obtain ⟨j, hj, ej⟩ := hdone q hq
        have hlj := hl j hj
        have hli : i' < m.length := by omega
        have : j = i' := by
          have hj1 : j < (m.map Prod.fst).length := by simpa using hlj
          have hi1 : i' < (m.map Prod.fst).length := by simpa using hli
          refine (List.getElem_inj (h := hm) (h₀ := hj1) (h₁ := hi1)).1 ?_
          rw [List.getElem?_eq_getElem hlj] at ej
          rw [List.getElem?_eq_getElem hli] at hp
          simp only [List.getElem_map]
          rw [Option.some.inj ej, Option.some.inj hp]; exact eq
        exact hni (this ▸ hj)
      have hlt : done.length < m.length := by
        rw [hdl]
        have hnd : (i' :: ix).Nodup := List.nodup_cons.2 ⟨hni, hn⟩
        have := nodup_len m.length (i' :: ix) hnd fun j hj => by
          rcases List.mem_cons.1 hj with rfl | h
          · omega
          · exact hl j h
        simp at this
        omega
      have hv : (Value.tuple #[.bool true, e.key, e.val]) = .tuple #[.bool true, K.val k, V u] := by rw [ek, eu]
      rw [hv]
      refine h2 k u (List.mem_of_getElem? hp) hkd hlt _ (hH.step hA fun S' hS' => ⟨S', ⟨⟨es, clock, ix ++ [i'], ?_, hes, hm, hst, ?_, ?_, ?_, ?_⟩, hS'.2⟩, ?_, fun k hk => .inl hk⟩)
      · have hbr : b ≠ r := fun h => by rw [h] at hb; rw [hb] at hr; cases hr
        rw [Array.getElem?_setIfInBounds_ne (fun h => hbr h.symm)]; exact hb
      · rw [Array.getElem?_setIfInBounds_self_of_lt (lt_of_some hr)]
        simp [hbi]
      · rw [List.nodup_append]
        exact ⟨hn, by simp, fun a ha b hb => by simp at hb; subst hb; exact fun h => hni (h ▸ ha)⟩
      · intro j hj
        rcases List.mem_append.1 hj with h | h
        · exact hl j h
        · simp at h; omega
      · simp [hdn, hp]
      · exact ⟨by simp, fun j _ hj => by rw [Array.getElem?_setIfInBounds_ne (fun h => hj ((hS'.2 j).2 (.inr h.symm)))]⟩
theorem t_entry {x : Operand} {k : κ} {u : β} (i : Nat) (hA : gt As i = some (rgA K V b r m (done ++ [(k, u)])) := by rfl) (ho : o.op = .entry x := by rfl) (hx : ev E x = .pointer (some ⟨r, 0, none⟩) := by rfl) : Lt P E o Z As (.tuple #[K.val k, V u]) := fun H hH => by
  obtain ⟨S, ⟨⟨es, clock, ix, hb, hes, hm, hst, hr, hn, hl, hdn⟩, hS⟩, _⟩ := hH.part hA
  refine ⟨fun w hw => ?_⟩
  subst hw
  unfold execOp
  simp only [ho, hx]
  refine Mem.run_v ?_
  rw [List.map_append, List.map_cons, List.map_nil] at hdn
  rcases List.eq_nil_or_concat ix with rfl | ⟨ix0, j, rfl⟩
  · simp at hdn
  · rw [List.concat_eq_append, List.map_append, List.map_cons, List.map_nil] at hdn
    have hj := (List.append_inj' hdn rfl).2
    simp only [List.cons.injEq, and_true] at hj
    have hjl : j < es.size := by rw [len_es hes]; exact hl j (by simp)
    have heL : es.toList[j]? = some es[j] := by rw [Array.getElem?_toList, Array.getElem?_eq_getElem hjl]
    obtain ⟨p, hp, ek, eu⟩ := at_es hes heL
    rw [← hj] at hp
    cases hp
    have hbj : bornAt es j = es[j].born := by unfold bornAt; rw [List.getElem?_map, heL]; rfl
    have hf : es.find? (·.born == bornAt es j) = some es[j] := by rw [hbj, ← Array.find?_toList]; exact find_born es[j] es.toList hst.1 (by simp)
    have hback : ((List.concat ix0 j).map (bornAt es)).toArray.back? = some (bornAt es j) := by simp
    simp only [Instr.entry, getObj, Sem.run_bind, Sem.run, hr, hb, Result.andThen, hback, bne_self_eq_false, Bool.false_eq_true, if_false, hf]
    show Result.ok (Value.tuple #[es[j].key, es[j].val]) w = _
    rw [ek, eu]
end
section
theorem frz_keep {F : Heap → Prop} {H H' : Heap} {S : Nat → Prop} (h : (∀ k, S k → k < H.size) ∧ ∀ H' : Heap, (∀ k, S k → H'[k]? = H[k]?) → F H') (hk : ∀ k, S k → H'[k]? = H[k]?) : (∀ k, S k → k < H'.size) ∧ ∀ H2 : Heap, (∀ k, S k → H2[k]? = H'[k]?) → F H2 := by
  refine ⟨fun k hS => ?_, fun H2 h2 => h.2 H2 fun k hS => (h2 k hS).trans (hk k hS)⟩
  have h1 := h.1 k hS
  have h2 := hk k hS
  rcases Nat.lt_or_ge k H'.size with h' | h'
  · exact h'
  · rw [Array.getElem?_eq_none h', Array.getElem?_eq_getElem h1] at h2; cases h2
/-- What a memory says that nobody turns: F holds wherever these blocks are as they are. -/
def frz (F : Heap → Prop) : Asr where
  on H S := (∀ k, S k → k < H.size) ∧ ∀ H' : Heap, (∀ k, S k → H'[k]? = H[k]?) → F H'
  lt h := h.1
  keep h hk := frz_keep h hk
variable {Z : Zone} {As : List Asr} {H : Heap} {α : Type} {T : Ty α} {v : Value} {L : List α} {F G : Heap → Prop}
theorem Holds.frzF (h : Holds Z As H) (i : Nat) (hi : gt As i = some (frz F) := by rfl) : F H := by
  obtain ⟨S, hS, _⟩ := h.part hi; exact hS.2 H fun _ _ => rfl
theorem Holds.frz0 (h : Holds Z As H) (hF : ∀ H, F H) : Holds Z (frz F :: As) H :=
  h.new (Chg.refl _ _) (S' := fun _ => False) ⟨fun _ h => h.elim, fun H' _ => hF H'⟩ fun _ h => h.elim
/-- A slice joins. -/
theorem Holds.frzO (h : Holds Z (own T v L :: frz F :: As) H) : Holds Z (frz (fun H => Sl H T v L ∧ F H) :: As) H := h.imp fun S hS => by
  obtain ⟨S1, S2, h1, ⟨S3, S4, h3, h4, hd', hS'⟩, hd, hS⟩ := hS
  refine ⟨fun k => S1 k ∨ S3 k, S4, ⟨?_, fun H' hk => ⟨?_, h3.2 H' fun k hS => hk k (.inr hS)⟩⟩, h4, ?_, ?_⟩
  · rintro k (a | a)
    · exact (own T v L).lt h1 k a
    · exact h3.1 k a
  · have := (own T v L).keep h1 fun k a => hk k (.inl a)
    exact this.1.sl
  · rintro k (a | a) b
    · exact hd k a ((hS' k).2 (.inr b))
    · exact hd' k a b
  · intro k; rw [hS k, hS' k]; simp [or_assoc]
theorem Holds.frzM (hF : ∀ H, F H → G H) (h : Holds Z (frz F :: As) H) : Holds Z (frz G :: As) H := h.imp fun S ⟨S1, S2, h1, h2, hd, hS⟩ => ⟨S1, S2, ⟨h1.1, fun H' hk => hF H' (h1.2 H' hk)⟩, h2, hd, hS⟩
/-- Two join. -/
theorem Holds.frzJ (h : Holds Z (frz F :: frz G :: As) H) : Holds Z (frz (fun H => F H ∧ G H) :: As) H := h.imp fun S hS => by
  obtain ⟨S1, S2, h1, ⟨S3, S4, h3, h4, hd', hS'⟩, hd, hS⟩ := hS
  refine ⟨fun k => S1 k ∨ S3 k, S4, ⟨?_, fun H' hk => ⟨h1.2 H' fun k hS => hk k (.inl hS), h3.2 H' fun k hS => hk k (.inr hS)⟩⟩, h4, ?_, ?_⟩
  · rintro k (a | a)
    · exact h1.1 k a
    · exact h3.1 k a
  · rintro k (a | a) b
    · exact hd k a ((hS' k).2 (.inr b))
    · exact hd' k a b
  · intro k; rw [hS k, hS' k]; simp [or_assoc]
end
end Go.S


set_option linter.unusedSimpArgs false
set_option linter.unusedVariables false
namespace Go.S
open Go.Hp Go.J
def andI (k : IntKind) (a b : Int) : Int := k.wrap ((BitVec.ofInt k.bits a &&& BitVec.ofInt k.bits b).toNat : Int)
def orI (k : IntKind) (a b : Int) : Int := k.wrap ((BitVec.ofInt k.bits a ||| BitVec.ofInt k.bits b).toNat : Int)
section
variable {P : Program} {E : Env} {Z : Zone} {As : List Asr} {o : Oper}
theorem t_and {t u : TypeId} {x y : Operand} {k : IntKind} (a b : Int) (ho : o.op = .binOp .and t x y u := by rfl) (hx : ev E x = .int k a := by rfl) (hy : ev E y = .int k b := by rfl) : Lt P E o Z As (.int k (andI k a b)) :=
  fun _ _ => r_pure _ (bin_run ho _ _ hx hy eqg_int fun w => by simp [binOp, Op.intBits, andI, Sem.run_pure])
theorem t_or {t u : TypeId} {x y : Operand} {k : IntKind} (a b : Int) (ho : o.op = .binOp .or t x y u := by rfl) (hx : ev E x = .int k a := by rfl) (hy : ev E y = .int k b := by rfl) : Lt P E o Z As (.int k (orI k a b)) :=
  fun _ _ => r_pure _ (bin_run ho _ _ hx hy eqg_int fun w => by simp [binOp, Op.intBits, orI, Sem.run_pure])
end
theorem and_one {w : Int} (h : 0 ≤ w ∧ w ≤ 3) : andI .i64 w 1 = if w = 1 ∨ w = 3 then 1 else 0 := by
  have : w = 0 ∨ w = 1 ∨ w = 2 ∨ w = 3 := by omega
  rcases this with rfl | rfl | rfl | rfl <;> rfl
theorem and_two {w : Int} (h : 0 ≤ w ∧ w ≤ 3) : andI .i64 w 2 = if w = 2 ∨ w = 3 then 2 else 0 := by
  have : w = 0 ∨ w = 1 ∨ w = 2 ∨ w = 3 := by omega
  rcases this with rfl | rfl | rfl | rfl <;> rfl
end Go.S


set_option linter.unusedSimpArgs false
set_option linter.unusedVariables false
namespace Go.S
open Go.Hp Go.J Go.RowKit
open Go.Mem (Ty KTy blk suf addr_add)
/-- The slice v reads as L and may be written; its block is S. -/
def OwO {α : Type} (H : Heap) (T : Ty α) (v : Value) (L : List α) (S : Nat → Prop) : Prop :=
  ((∃ p, v = .slice p 0 0) ∧ L = [] ∧ ∀ k, ¬ S k) ∨
  ∃ g off cap arr, v = .slice (some ⟨g, off, none⟩) L.length cap ∧ H[g]? = some (.cells arr T.id (0, 0)) ∧ L.length ≤ cap ∧ cap ≤ maxLen ∧ off + cap * T.size ≤ arr.size ∧
    (arr.toList.drop off).take (L.length * T.size) = T.flat L ∧ ∀ k, S k ↔ k = g
section
variable {α : Type} {T : Ty α} {v : Value} {L M : List α} {H H' : Heap} {S : Nat → Prop} {P : Program} {Z : Zone} {As : List Asr}
theorem OwO.sl (h : OwO H T v L S) : Sl H T v L := by
  rcases h with ⟨h1, h2, _⟩ | ⟨g, off, cap, arr, rfl, h1, h2, h3, h4, h5, _⟩
  · exact .inl ⟨h1, h2⟩
  · exact .inr ⟨g, off, cap, arr, _, _, rfl, h1, h2, h3, fun _ => h4, h5⟩
/-- A slice with its block, from any place on. -/
def ownO {α : Type} (T : Ty α) (v : Value) (L : List α) : Asr where
  on H S := OwO H T v L S
  lt h k hk := by
    rcases h with ⟨_, _, h⟩ | ⟨g, off, cap, arr, _, h1, _, _, _, _, hS⟩
    · exact absurd hk (h k)
    · rw [(hS k).1 hk]; exact lt_of_some h1
  keep h hk := by
    rcases h with h | ⟨g, off, cap, arr, h0, h1, h2, h3, h4, h5, hS⟩
    · exact .inl h
    · exact .inr ⟨g, off, cap, arr, h0, (hk g ((hS g).2 rfl)).trans h1, h2, h3, h4, h5, hS⟩
theorem OwO.of {v : Value} (h : Ow H T v L) (hS : ∀ k, S k ↔ blk v = some k) : OwO H T v L S := by
  rcases h with ⟨rfl, rfl⟩ | ⟨g, cap, arr, rfl, h1, h2, h3, h4, h5⟩
  · exact .inl ⟨⟨none, rfl⟩, rfl, fun k hk => by have := (hS k).1 hk; simp [blk, Value.ownBlock] at this⟩
  · refine .inr ⟨g, 0, cap, arr, rfl, h1, h2, h3, by omega, by simpa using h5, fun k => (hS k).trans ?_⟩
    simp only [blk, Value.ownBlock, Option.some.injEq]; exact eq_comm
theorem Holds.toO (h : Holds Z (own T v L :: As) H) : Holds Z (ownO T v L :: As) H := h.imp fun S ⟨S1, S2, h1, h2, hd, hS⟩ => ⟨S1, S2, OwO.of h1.1 h1.2, h2, hd, hS⟩
theorem Holds.nilO (h : Holds Z As H) : Holds Z (ownO T (.slice none 0 0) [] :: As) H := (Holds.nilS (T := T) h).toO
theorem OwO.suf (h : OwO H T v L S) (hT : T.Ok P) (n : Nat) (hn : n ≤ L.length) : OwO H T (Go.Mem.suf T.size v n) (L.drop n) S := by
  rcases h with ⟨⟨p, rfl⟩, rfl, h⟩ | ⟨g, off, cap, arr, rfl, h1, h2, h3, h4, h5, hS⟩
  · simp at hn; subst hn; exact .inl ⟨⟨_, rfl⟩, rfl, h⟩
  · by_cases hcn : cap = n
    · have : L.length = n := by omega
      refine .inr ⟨g, off, 0, arr, by simp [Mem.suf, hcn, this], h1, by simp; omega, by simp, by omega, ?_, hS⟩
      rw [List.drop_of_length_le (by omega)]
      simp [Ty.flat]
    · refine .inr ⟨g, off + n * T.size, cap - n, arr, by simp [Mem.suf, hcn, addr_add], h1, by simp; omega, by omega, ?_, ?_, hS⟩
      · have : (cap - n) * T.size + n * T.size = cap * T.size := by rw [← Nat.add_mul]; congr 1; omega
        omega
      · rw [← hT.flat_drop, ← h5, List.drop_take, List.drop_drop, List.length_drop, Nat.sub_mul]
theorem Holds.sufO {i : Nat} (h : Holds Z As H) (hT : T.Ok P) (n : Nat) (hi : gt As i = some (ownO T v L)) (hn : n ≤ L.length) : Holds Z (upd As i (ownO T (Go.Mem.suf T.size v n) (L.drop n))) H :=
  h.step hi fun S hS => ⟨S, OwO.suf hS hT n hn, Chg.refl _ _, fun k hk => .inl hk⟩
theorem setCells_heap (g : Nat) : ∀ (vs : List Value) (o : Nat) (w : World) (arr : Array Value) (t : TypeId) (fr : Nat × Nat), w.heap[g]? = some (.cells arr t fr) → o + vs.length ≤ arr.size →
    (w.setCells g o vs).heap[g]? = some (.cells (arr.toList.take o ++ vs ++ arr.toList.drop (o + vs.length)).toArray t fr) ∧ (w.setCells g o vs).heap.size = w.heap.size ∧ (∀ k, k ≠ g → (w.setCells g o vs).heap[k]? = w.heap[k]?) ∧ (w.setCells g o vs).os = w.os ∧ (w.setCells g o vs).tape = w.tape ∧ (w.setCells g o vs).output = w.output
  | [], o, w, arr, t, fr, h, _ => by
    refine ⟨?_, rfl, fun _ _ => rfl, rfl, rfl, rfl⟩
    simp [World.setCells, h]
  | v :: r, o, w, arr, t, fr, h, hl => by
    simp only [List.length_cons] at hl
    have h1 : (w.setCell ⟨g, o, none⟩ v).heap[g]? = some (.cells (arr.setIfInBounds o v) t fr) := by
      simp [World.setCell, Array.getElem?_modify, h]
    obtain ⟨i1, i2, i3, i4, i5, i6⟩ := setCells_heap g r (o + 1) (w.setCell ⟨g, o, none⟩ v) _ t fr h1 (by simp; omega)
    refine ⟨?_, ?_, fun k hk => ?_, i4, i5, i6⟩
    · show ((w.setCell ⟨g, o, none⟩ v).setCells g (o + 1) r).heap[g]? = _
      rw [i1]
      congr 2
      apply Array.toList_inj.1
      simp only [Array.toList_setIfInBounds, List.length_cons]
      have e1 : (arr.toList.set o v).take (o + 1) = arr.toList.take o ++ [v] := by
        rw [List.take_add_one, List.getElem?_set_self (by simp; omega), List.take_set_of_le (Nat.le_refl _)]; rfl
      rw [e1, List.drop_set_of_lt (by omega), show o + 1 + r.length = o + (r.length + 1) by omega]
      simp
    · rw [show w.setCells g o (v :: r) = (w.setCell ⟨g, o, none⟩ v).setCells g (o + 1) r from rfl, i2]; simp [World.setCell]
    · rw [show w.setCells g o (v :: r) = (w.setCell ⟨g, o, none⟩ v).setCells g (o + 1) r from rfl, i3 k hk]
      simp [World.setCell, Array.getElem?_modify, Ne.symm hk]
theorem run_appendO {w : World} (hT : T.Ok P) {t ty : TypeId} (ht : P.underlying t = some (.slice T.id)) {v2 : Value} (hv : OwO w.heap T v L S) (h2 : Sl w.heap T v2 M) (hbytes : (L.length + M.length) * T.bytes ≤ 140737488355328) (h63 : L.length + M.length ≤ 9223372036854775807) :
    ∃ v' w' S', (Builtin.append_ #[t, t] ty #[v, v2]).run P w = .ok v' w' ∧ OwO w'.heap T v' (L ++ M) S' ∧ Chg S w.heap w'.heap ∧ (∀ k, S' k → S k ∨ w.heap.size ≤ k) ∧ w'.os = w.os ∧ w'.tape = w.tape ∧ w'.output = w.output := by
  obtain ⟨i, hi, hsz, hby, hz⟩ := hT.info
  have h63' : L.length + M.length ≤ maxLen := by simpa [maxLen] using h63
  rw [← hby] at hbytes
  have hlenL := hT.flat_len L
  have hlenM := hT.flat_len M
  have hlen : (T.flat (L ++ M)).length = (L ++ M).length * T.size := hT.flat_len _
  have hzs : (T.val T.zero).cells.size = T.size := by have := hT.len T.zero; simpa [Ty.enc] using this
  have grown : ∀ old, old < L.length + M.length → ∃ v' w' S', v' = Value.slice (some ⟨w.heap.size, 0, none⟩) (L.length + M.length) (grownCap w (L.length + M.length) old T.id) ∧
      w' = w.drew.alloc (.cells ((T.flat L).toArray ++ (T.flat M).toArray ++ Builtin.zeroCells (T.val T.zero).cells (grownCap w (L.length + M.length) old T.id - (L.length + M.length))) T.id) ∧
      OwO w'.heap T v' (L ++ M) S' ∧ Chg S w.heap w'.heap ∧ (∀ k, S' k → S k ∨ w.heap.size ≤ k) ∧ w'.os = w.os ∧ w'.tape = w.tape ∧ w'.output = w.output := by
    intro old ho
    have hge := grownCap_ge w (L.length + M.length) old T.id
    have hcm := grownCap_le_maxLen w (L.length + M.length) old T.id h63'
    have hchg := Chg.of_mem ((Mem.Chg.refl (fun k => S k) w).drew.alloc (.cells ((T.flat L).toArray ++ (T.flat M).toArray ++ Builtin.zeroCells (T.val T.zero).cells (grownCap w (L.length + M.length) old T.id - (L.length + M.length))) T.id))
    refine ⟨_, _, fun k => k = w.heap.size, rfl, rfl, .inr ⟨w.heap.size, 0, _, _, by simp, heap_alloc_new w.drew _, by simpa using hge, hcm, ?_, ?_, fun k => Iff.rfl⟩, hchg, fun k hk => .inr (by omega), rfl, rfl, rfl⟩
    · simp only [Array.size_append, List.size_toArray, size_zeroCells, hzs, hlenL, hlenM, ← Nat.add_mul, Nat.zero_add]
      exact Nat.le_of_eq (by congr 1; omega)
    · simp only [Array.toList_append, List.append_assoc, List.drop_zero]
      rw [← hlen, Ty.flat_append, ← List.append_assoc]
      exact List.take_left
  rcases h2 with ⟨⟨p2, rfl⟩, rfl⟩ | ⟨g2, off2, cap2, arr2, e2, fr2, rfl, hg2, hc2, hm2, hf2, hr2⟩
  · refine ⟨v, w, S, ?_, by simpa using hv, Chg.refl _ _, fun k hk => .inl hk, rfl, rfl, rfl⟩
    rcases hv with ⟨⟨p, rfl⟩, rfl, _⟩ | ⟨g, off, cap, arr, rfl, hg, hc, _⟩
    · cases p <;> cases p2 <;> simp [Builtin.append_, run_underlying ht, sizeOf, typeInfo, hi, Builtin.lenOf, Builtin.firstCells, loadCells, loadCellsFrom, storeCells]
    · cases p2 <;> simp [Builtin.append_, run_underlying ht, sizeOf, typeInfo, hi, Builtin.lenOf, Builtin.firstCells, loadCells, loadCellsFrom, hc, storeCells]
  · have hnews : ∀ j u, (T.flat M)[j]? = some u → w.cell? ((⟨g2, off2, none⟩ : Addr).add j) = some u := by
      intro j u hj
      rw [← hr2, List.getElem?_take] at hj
      split at hj
      · rw [List.getElem?_drop] at hj
        rw [addr_add, cell_of_row w g2 _ arr2 e2 fr2 hg2, ← Array.getElem?_toList]; exact hj
      · cases hj
    have hl2 : (T.flat M).length = M.length * i.size := by rw [hlenM, hsz]
    by_cases hm0 : M = []
    · subst hm0
      refine ⟨v, w, S, ?_, by simpa using hv, Chg.refl _ _, fun k hk => .inl hk, rfl, rfl, rfl⟩
      rcases hv with ⟨⟨p, rfl⟩, rfl, _⟩ | ⟨g, off, cap, arr, rfl, hg, hc, _⟩
      · cases p <;> simp [Builtin.append_, run_underlying ht, sizeOf, typeInfo, hi, Builtin.lenOf, Builtin.firstCells, loadCells, loadCellsFrom, storeCells]
      · simp [Builtin.append_, run_underlying ht, sizeOf, typeInfo, hi, Builtin.lenOf, Builtin.firstCells, loadCells, loadCellsFrom, hc, storeCells]
    have hpos : 0 < M.length := List.length_pos_iff.2 hm0
    rcases hv with ⟨⟨p, rfl⟩, rfl, _⟩ | ⟨g, off, cap, arr, rfl, hg, hc, hm, hf, hr, hS⟩
    · obtain ⟨v', w', S', rfl, rfl, q⟩ := grown 0 (by simpa using hpos)
      cases p with
      | none =>
        have hrun := run_append_nil (P := P) w t ty T.id i _ ht hi hz ⟨g2, off2, none⟩ M.length cap2 (T.flat M) hl2 hnews hpos (by simp at h63; omega) (by simp at hbytes; omega)
        simp only [List.length_nil, Nat.zero_add, Ty.flat, List.flatMap_nil, Array.empty_append] at hrun q ⊢
        exact ⟨_, _, _, hrun, q⟩
      | some a =>
        have hrun := run_append_grow (P := P) w t ty T.id i _ ht hi hz a 0 0 [] (by simp) (by simp) ⟨g2, off2, none⟩ M.length cap2 (T.flat M) hl2 hnews (by omega) (by simp at h63; omega) (growslice_fits (by omega) (by simpa using hbytes))
        simp only [List.length_nil, Nat.zero_add, Ty.flat, List.flatMap_nil, Array.empty_append] at hrun q ⊢
        exact ⟨_, _, _, hrun, q⟩
    · by_cases hroom : L.length + M.length ≤ cap
      · have hfit : off + L.length * T.size + (T.flat M).length ≤ arr.size := by
          have h1 := Nat.mul_le_mul_right T.size hroom
          rw [Nat.add_mul] at h1
          rw [hlenM]; omega
        have hrun := run_append_room_cells (P := P) w t ty T.id i ht hi g off L.length cap ⟨g2, off2, none⟩ M.length cap2 (T.flat M) hl2 hnews (hT.flat_one1 M) hroom
          (fun j hj => by rw [hsz, cell_of_row w g _ arr T.id (0, 0) hg, Array.getElem?_eq_getElem (by omega)]; rfl) (fun j hj => by simp [World.frozen?, hg])
        rw [hsz] at hrun
        obtain ⟨c1, c2, c3, c4, c5, c6⟩ := setCells_heap g (T.flat M) (off + L.length * T.size) w arr T.id (0, 0) hg hfit
        refine ⟨_, _, S, hrun, .inr ⟨g, off, cap, _, by simp, c1, by simpa using hroom, hm, ?_, ?_, hS⟩, ⟨Nat.le_of_eq c2.symm, fun k hk hn => c3 k fun e => hn ((hS k).2 e)⟩, fun k hk => .inl hk, c4, c5, c6⟩
        · simp only [List.size_toArray, List.length_append, List.length_take, List.length_drop, Array.length_toList]; omega
        · have e1 : arr.toList.take (off + L.length * T.size) = arr.toList.take off ++ T.flat L := by rw [List.take_add, hr]
          have hoff : (arr.toList.take off).length = off := by rw [List.length_take, Array.length_toList]; omega
          rw [e1, List.append_assoc, List.append_assoc]
          conv => lhs; rw [show ∀ X : List Value, (arr.toList.take off ++ X).drop off = X from fun X => by rw [List.drop_append_of_le_length (by omega), List.drop_of_length_le (by omega)]; rfl]
          rw [← hlen, Ty.flat_append, ← List.append_assoc]
          exact List.take_left
      · have holds : ∀ j u, (T.flat L)[j]? = some u → w.cell? ((⟨g, off, none⟩ : Addr).add j) = some u := by
          intro j u hj
          rw [← hr, List.getElem?_take] at hj
          split at hj
          · rw [List.getElem?_drop] at hj
            rw [addr_add, cell_of_row w g _ arr T.id _ hg, ← Array.getElem?_toList]; exact hj
          · cases hj
        have hrun := run_append_grow (P := P) w t ty T.id i _ ht hi hz ⟨g, off, none⟩ L.length cap (T.flat L) (by rw [hlenL, hsz]) holds ⟨g2, off2, none⟩ M.length cap2 (T.flat M) hl2 hnews (by omega) (by omega) (growslice_fits (by omega) hbytes)
        obtain ⟨v', w', S', rfl, rfl, q⟩ := grown cap (by omega)
        exact ⟨_, _, _, hrun, q⟩
end
section
variable {P : Program} {w0 : World} {ops : Array Oper} {Q : Exit → Act → World → Prop} {n : Nat} {E : Env} {Z : Zone} {As : List Asr} {o : Oper} {rest : List Oper} {α : Type} {T : Ty α} {v : Value} {L M : List α}
theorem Acc.ownO (i : Nat) (hi : gt As i = some (Go.S.ownO T v L) := by rfl) : Acc Z As T v L := fun H h => by
  obtain ⟨S, hS, _⟩ := h.part hi; exact OwO.sl hS
theorem s_appendO {s x : Operand} {t : TypeId} {d : Nat} {v2 : Value} (i : Nat) (hT : T.Ok P) (ht : P.underlying t = some (.slice T.id)) (a : Acc Z As T v2 M) (hb : (L.length + M.length) * T.bytes ≤ 140737488355328) (h63 : L.length + M.length ≤ 9223372036854775807) (h : ∀ v', SL P w0 ops Q n rest ((d, v') :: E) Z (upd As i (ownO T v' (L ++ M)))) (ho : o.op = .call { callee := .builtin .append, args := #[s, x], argTypes := #[t, t] } := by rfl) (hA : gt As i = some (ownO T v L) := by rfl) (hs : ev E s = v := by rfl) (hx : ev E x = v2 := by rfl) (hd : o.dst = some d := by rfl) (hk : okOp ops n E o = true := by kernel_rfl) : SL P w0 ops Q n (o :: rest) E Z As := fun H hH => by
  refine l_run (R := fun v' H' => Holds Z (upd As i (ownO T v' (L ++ M))) H') hk (fun w ha => ?_) (fun v' H' h' => by rw [hd]; exact h v' H' h')
  obtain ⟨hw, hos, htape, hout⟩ := ha
  subst hw
  obtain ⟨S, hS, _⟩ := (hH.part hA)
  obtain ⟨v', w', S', hr, q1, q2, q3, q4, q5, q6⟩ := run_appendO (ty := o.type) hT ht hS (a _ hH) hb h63
  refine ⟨v', w', ?_, ⟨rfl, q4.trans hos, q5.trans htape, q6.trans hout⟩, ?_⟩
  · unfold execOp
    simp only [ho, resolve, invoke, builtin, Sem.run_bind, Sem.run_pure, Result.andThen_ok, List.map_toArray, List.map_cons, List.map_nil, hs, hx, hr]
  · refine hH.step hA fun S2 hS2 => ?_
    obtain ⟨v2', w2', S2', hr2, r1, r2, r3, _⟩ := run_appendO (ty := o.type) hT ht hS2 (a _ hH) hb h63
    rw [hr] at hr2
    injection hr2 with e1 e2
    subst e1; subst e2
    exact ⟨S2', r1, r2, r3⟩
end
end Go.S


set_option linter.unusedSimpArgs false
set_option linter.unusedVariables false
namespace Go.S
open Go.Hp Go.J
open Go.Mem (Ty KTy blk)
def ZOk (Z : Zone) (H : Heap) : Prop := ∀ k, Z.dom k → H[k]? = Z.heap[k]? ∧ k < H.size
/-- The zone Z' knows what Z knows, and the part K. -/
structure Lend (Z Z' : Zone) (K : Asr) : Prop where
  sub : ∀ H, ZOk Z' H → ZOk Z H
  has : ∀ H, ZOk Z' H → ∃ S, K.on H S
section
variable {P : Program} {Z Z' : Zone} {As As0 Bs : List Asr} {H H' : Heap} {K : Asr} {α : Type} {T : Ty α} {v : Value} {L : List α} {F : Heap → Prop}
theorem Lend.kn (h : Lend Z Z' K) (k : Kn Z T v L) : Kn Z' T v L := fun H hz => k H (h.sub H hz)
theorem Lend.own (h : Lend Z Z' (own T v L)) : Kn Z' T v L := fun H hz => by
  obtain ⟨S, hS⟩ := h.has H hz; exact hS.1.sl
theorem Lend.frz (h : Lend Z Z' (frz F)) : ∀ H, ZOk Z' H → F H := fun H hz => by
  obtain ⟨S, hS⟩ := h.has H hz; exact hS.2 H fun _ _ => rfl
theorem lend_in (h : Holds Z (K :: As) H) : ∃ Z', Lend Z Z' K ∧ Holds Z' As H ∧ ∀ Bs H', Holds Z' Bs H' → Holds Z (K :: Bs) H' := by
  obtain ⟨S, ⟨S1, S2, h1, h2, hd', hS⟩, hd⟩ := h.sep
  refine ⟨⟨H, fun k => Z.dom k ∨ S1 k⟩, ⟨fun H2 hz k hk => ?_, fun H2 hz => ⟨S1, K.keep h1 fun k hk => (hz k (.inr hk)).1⟩⟩, ⟨fun k hk => ?_, S2, h2, fun k hk => ?_⟩, fun Bs H2 h3 => ?_⟩
  · have := hz k (.inl hk); exact ⟨this.1.trans (h.zone k hk).1, this.2⟩
  · rcases hk with hk | hk
    · exact ⟨rfl, (h.zone k hk).2⟩
    · exact ⟨rfl, K.lt h1 k hk⟩
  · rintro (hz | hz)
    · exact hd k ((hS k).2 (.inr hk)) hz
    · exact hd' k hz hk
  · obtain ⟨S3, h4, h5⟩ := h3.sep
    refine ⟨fun k hk => ?_, fun k => S1 k ∨ S3 k, ⟨S1, S3, K.keep h1 fun k hk => (h3.zone k (.inr hk)).1, h4, fun k a b => h5 k b (.inr a), fun k => Iff.rfl⟩, ?_⟩
    · have := h3.zone k (.inl hk); exact ⟨this.1.trans (h.zone k hk).1, this.2⟩
    · rintro k (a | a) hz
      · exact hd k ((hS k).2 (.inl a)) hz
      · exact h5 k a (.inl hz)
variable {w0 : World} {ops : Array Oper} {Q : Exit → Act → World → Prop} {n : Nat} {E : Env} {o : Oper} {rest : List Oper} {f : FuncId} {xs : Array Operand} {ts : Array TypeId} {vals : List Value} {R : Value → List Asr → Prop}
theorem s_lend {d : Nat} (i : Nat) (is : List Nat) (hc : ∀ Z', Lend Z Z' K → SF P f vals.toArray Z' As0 R) (h : ∀ v Bs, R v Bs → SL P w0 ops Q n rest ((d, v) :: E) Z (K :: Bs)) (hi : gt As i = some K := by rfl) (hp : rearr (del As i) is = As0 := by rfl)
    (ho : o.op = .call { callee := .value (.func f), args := xs, argTypes := ts } := by rfl) (hx : (xs.toList.map (ev E)) = vals := by rfl) (hd : o.dst = some d := by rfl) (hfn : isFn P f = true := by kernel_rfl) (hk : okOp ops n E o = true := by kernel_rfl) : SL P w0 ops Q n (o :: rest) E Z As := fun H hH => by
  obtain ⟨Z', hl, h1, h2⟩ := lend_in (hH.pull hi)
  exact l_call ho vals hk hx hfn (hc Z' hl H (hp ▸ h1.rearr is)) fun v H' ⟨Bs, hr, hB⟩ => by rw [hd]; exact h v Bs hr H' (h2 Bs H' hB)
theorem s_lend0 (i : Nat) (is : List Nat) (hc : ∀ Z', Lend Z Z' K → SF P f vals.toArray Z' As0 R) (h : ∀ v Bs, R v Bs → SL P w0 ops Q n rest E Z (K :: Bs)) (hi : gt As i = some K := by rfl) (hp : rearr (del As i) is = As0 := by rfl)
    (ho : o.op = .call { callee := .value (.func f), args := xs, argTypes := ts } := by rfl) (hx : (xs.toList.map (ev E)) = vals := by rfl) (hd : o.dst = none := by rfl) (hfn : isFn P f = true := by kernel_rfl) (hk : okOp ops n E o = true := by kernel_rfl) : SL P w0 ops Q n (o :: rest) E Z As := fun H hH => by
  obtain ⟨Z', hl, h1, h2⟩ := lend_in (hH.pull hi)
  exact l_call ho vals hk hx hfn (hc Z' hl H (hp ▸ h1.rearr is)) fun v H' ⟨Bs, hr, hB⟩ => by rw [hd]; exact h v Bs hr H' (h2 Bs H' hB)
/-- Parts that nobody turns, that may lean on the zone. -/
def zfr (Z : Zone) (F : Heap → Prop) : Asr := frz fun H => ZOk Z H → F H
theorem Holds.zfrF (h : Holds Z As H) (i : Nat) (hi : gt As i = some (zfr Z F) := by rfl) : F H := h.frzF i hi h.zone
theorem Holds.zfr0 (h : Holds Z As H) (hF : ∀ H, ZOk Z H → F H) : Holds Z (zfr Z F :: As) H := h.frz0 hF
theorem Holds.zfrO (h : Holds Z (own T v L :: zfr Z F :: As) H) : Holds Z (zfr Z (fun H => Sl H T v L ∧ F H) :: As) H := (Holds.frzO h).frzM fun H h hz => ⟨h.1, h.2 hz⟩
theorem Holds.zfrM {G : Heap → Prop} (hF : ∀ H, ZOk Z H → F H → G H) (h : Holds Z (zfr Z F :: As) H) : Holds Z (zfr Z G :: As) H := Holds.frzM (fun H h hz => hF H hz (h hz)) h
theorem Holds.zfrJ {G : Heap → Prop} (h : Holds Z (zfr Z F :: zfr Z G :: As) H) : Holds Z (zfr Z (fun H => F H ∧ G H) :: As) H := (Holds.frzJ h).frzM fun H h hz => ⟨h.1 hz, h.2 hz⟩
theorem Holds.toZ (h : Holds Z (frz F :: As) H) : Holds Z (zfr Z F :: As) H := h.frzM fun _ h _ => h
end
end Go.S
