/-
  The data of layer 43: frames, places, values, and how they lie in memory.
-/
import Derived.Test.YtikbimlfbcffhaaRows
import Derived.Test.YtikbimlfbcffhaaSerD
import Derived.Test.YtikbimlfbcffhaaJN
set_option linter.unusedSimpArgs false
set_option linter.unusedVariables false
namespace Go.Proofs.Ytikbimlfbcffhaa
open Go.RowKit Go.Hp
open Go.Mem (Ty KTy blk elemAt pre suf aget aset strK strK_ok aggDesc)

theorem Try.mixed : Try.prog.follows .mixedOrders = true := by kernel_rfl

structure Fr where
  name : ByteArray
  line : Int
  base : Int
  extra : Int
  want : Int
  tail : Bool
  deriving DecidableEq
structure Pl where
  name : ByteArray
  line : Int
  tail : Bool
  deriving DecidableEq
structure Vl where
  kind : Int
  p : Int
  q : Int
  str : ByteArray
  ref : Int
  deriving DecidableEq
abbrev Fr.v (f : Fr) : Value := .agg #[.string f.name, .int .i64 f.line, .int .i64 f.base, .int .i64 f.extra, .int .i64 f.want, .bool f.tail]
abbrev Pl.v (f : Pl) : Value := .agg #[.string f.name, .int .i64 f.line, .bool f.tail]
abbrev Vl.v (f : Vl) : Value := .agg #[.int .i64 f.kind, .int .i64 f.p, .int .i64 f.q, .string f.str, .int .i64 f.ref]
def FrT : Ty Fr := ⟨46, 6, 56, true, Fr.v, ⟨ByteArray.empty, 0, 0, 0, 0, false⟩⟩
def RfT : Ty Fr := ⟨68, 6, 56, true, Fr.v, ⟨ByteArray.empty, 0, 0, 0, 0, false⟩⟩
def PlT : Ty Pl := ⟨58, 3, 32, true, Pl.v, ⟨ByteArray.empty, 0, false⟩⟩
def VlT : Ty Vl := ⟨54, 5, 48, true, Vl.v, ⟨0, 0, 0, ByteArray.empty, 0⟩⟩

theorem ok_of {α : Type} (T : Ty α) (d : TypeDesc) (i : TypeInfo) (hpos : 0 < T.size) (hlen : ∀ x, (T.enc x).length = T.size) (hone : ∀ x, ∀ u ∈ T.enc x, u.oneCell' = true) (hval : ∀ x, T.val x = if T.agg then .agg (T.enc x).toArray else (T.enc x).headD undef)
    (hd : Try.prog.underlying T.id = some d) (ha : aggDesc d = T.agg) (h1 : T.agg = false → T.size = 1) (hi : Try.prog.info? T.id = some i) (hs : i.size = T.size) (hb : i.bytes = T.bytes) (hz : i.zero = some (T.val T.zero)) : T.Ok Try.prog :=
  ⟨hpos, hlen, hone, hval, ⟨d, hd, ha⟩, h1, ⟨i, hi, hs, hb, hz⟩⟩
theorem FrT_ok : FrT.Ok Try.prog := ok_of FrT _ Try.t46 (by decide) (fun _ => rfl) (fun x u hu => by simp [Ty.enc, FrT, Value.cells] at hu; rcases hu with rfl | rfl | rfl | rfl | rfl | rfl <;> rfl) (fun _ => rfl) Try.underlying46 rfl (fun h => by cases h) (by kernel_rfl) (by kernel_rfl) (by kernel_rfl) (by kernel_rfl)
theorem RfT_ok : RfT.Ok Try.prog := ok_of RfT _ Try.t68 (by decide) (fun _ => rfl) (fun x u hu => by simp [Ty.enc, RfT, Value.cells] at hu; rcases hu with rfl | rfl | rfl | rfl | rfl | rfl <;> rfl) (fun _ => rfl) Try.underlying68 rfl (fun h => by cases h) (by kernel_rfl) (by kernel_rfl) (by kernel_rfl) (by kernel_rfl)
theorem PlT_ok : PlT.Ok Try.prog := ok_of PlT _ Try.t58 (by decide) (fun _ => rfl) (fun x u hu => by simp [Ty.enc, PlT, Value.cells] at hu; rcases hu with rfl | rfl | rfl <;> rfl) (fun _ => rfl) Try.underlying58 rfl (fun h => by cases h) (by kernel_rfl) (by kernel_rfl) (by kernel_rfl) (by kernel_rfl)
theorem VlT_ok : VlT.Ok Try.prog := ok_of VlT _ Try.t54 (by decide) (fun _ => rfl) (fun x u hu => by simp [Ty.enc, VlT, Value.cells] at hu; rcases hu with rfl | rfl | rfl | rfl | rfl <;> rfl) (fun _ => rfl) Try.underlying54 rfl (fun h => by cases h) (by kernel_rfl) (by kernel_rfl) (by kernel_rfl) (by kernel_rfl)
abbrev iV (n : Int) : Value := .int .i64 n
theorem strOk : KTy.Ok (β := Int) (strK 9) Try.prog := strK_ok Try.underlying9
theorem zero3 (w : World) : (zeroValue 3).run Try.prog w = .ok (.int .i64 0) w := by kernel_rfl

def rightB (f : Fr) : Bool := decide (0 ≤ f.line) && decide (0 ≤ f.base) && decide (0 ≤ f.extra) && decide (-1 ≤ f.want)
/-- A stack of calls of the program. -/
def FS (H : Heap) (b : Nat) (L : List Fr) (fp : Nat → Prop) : Prop :=
  ∃ sv mb m, H[b]? = some (.cells #[sv, .map (some mb)] 63 (0, 0)) ∧ Ow H FrT sv L ∧ Mp H (strK 9) iV mb m ∧ b ≠ mb ∧ (∀ g, blk sv = some g → g ≠ b ∧ g ≠ mb) ∧ ∀ k, fp k ↔ (k = b ∨ k = mb ∨ blk sv = some k)
/-- .. of the reference. -/
def RS (H : Heap) (b : Nat) (L : List Fr) (fp : Nat → Prop) : Prop :=
  ∃ sv, H[b]? = some (.cells #[sv] 66 (0, 0)) ∧ Ow H RfT sv L ∧ (∀ g, blk sv = some g → g ≠ b) ∧ ∀ k, fp k ↔ (k = b ∨ blk sv = some k)
theorem FS.chg {S : Nat → Prop} {H H' : Heap} {b : Nat} {L : List Fr} {fp : Nat → Prop} (h : FS H b L fp) (c : Chg S H H') (hS : ∀ k, fp k → ¬ S k) : FS H' b L fp := by
  obtain ⟨sv, mb, m, hB, hV, hM, hbm, hne, hfp⟩ := h
  exact ⟨sv, mb, m, c.get hB (hS _ ((hfp _).2 (.inl rfl))), hV.chg c (fun g hg => hS _ ((hfp _).2 (.inr (.inr hg)))), hM.chg c (hS _ ((hfp _).2 (.inr (.inl rfl)))), hbm, hne, hfp⟩
theorem FS.lt {H : Heap} {b : Nat} {L : List Fr} {fp : Nat → Prop} (h : FS H b L fp) {k : Nat} (hk : fp k) : k < H.size := by
  obtain ⟨sv, mb, m, hB, hV, hM, hbm, hne, hfp⟩ := h
  rcases (hfp k).1 hk with rfl | rfl | h
  · exact lt_of_some hB
  · exact hM.lt
  · exact hV.lt h
theorem RS.chg {S : Nat → Prop} {H H' : Heap} {b : Nat} {L : List Fr} {fp : Nat → Prop} (h : RS H b L fp) (c : Chg S H H') (hS : ∀ k, fp k → ¬ S k) : RS H' b L fp := by
  obtain ⟨sv, hB, hV, hne, hfp⟩ := h
  exact ⟨sv, c.get hB (hS _ ((hfp _).2 (.inl rfl))), hV.chg c (fun g hg => hS _ ((hfp _).2 (.inr hg))), hne, hfp⟩
theorem RS.lt {H : Heap} {b : Nat} {L : List Fr} {fp : Nat → Prop} (h : RS H b L fp) {k : Nat} (hk : fp k) : k < H.size := by
  obtain ⟨sv, hB, hV, hne, hfp⟩ := h
  rcases (hfp k).1 hk with rfl | h
  · exact lt_of_some hB
  · exact hV.lt h
def zFr : Fr := ⟨ByteArray.empty, 0, 0, 0, 0, false⟩
def zVl : Vl := ⟨0, 0, 0, ByteArray.empty, 0⟩
def pushR (L : List Fr) (f : Fr) : Int × List Fr := if (!rightB f) = true then (2, L) else if (150 : Int) ≤ (L.length : Int) then (17, L) else (0, L ++ [f])
def popR (L : List Fr) : (Fr × Bool) × List Fr := match L[L.length - 1]? with | some y => ((y, true), L.take (L.length - 1)) | none => ((zFr, false), L)
theorem popR_nil {L : List Fr} (h : (L.length : Int) = 0) : popR L = ((zFr, false), L) := by
  have : L = [] := List.eq_nil_of_length_eq_zero (by omega)
  subst this; rfl
theorem popR_some {L : List Fr} {y : Fr} (h : L[L.length - 1]? = some y) : popR L = ((y, true), L.take (L.length - 1)) := by simp only [popR, h]
def tl (f : Fr) : Fr := ⟨f.name, f.line, f.base, f.extra, f.want, true⟩
def replR (L : List Fr) (f : Fr) : Int × List Fr := if (!rightB f) = true then (2, L) else if (L.length : Int) = 0 then (18, L) else (0, L.set (L.length - 1) (tl f))
theorem replR_ok {L : List Fr} {f : Fr} (h1 : (!rightB f) = false) (h2 : ¬ (L.length : Int) = 0) : replR L f = (0, L.set (L.length - 1) (tl f)) := by
  simp only [replR, h1, h2, if_false, Bool.false_eq_true]
theorem replR_same {L : List Fr} {f : Fr} (h1 : (!rightB f) = false) (h2 : ¬ (L.length : Int) = 0) (h : L[L.length - 1]? = some (tl f)) : replR L f = (0, L) := by
  simp only [replR, h1, h2, if_false, Bool.false_eq_true]
  congr 1
  rw [List.getElem?_eq_some_iff] at h
  obtain ⟨hl, h⟩ := h
  rw [← h, List.set_getElem_self]
def atR (L : List Fr) (n : Int) : Int × List Fr := if n < 0 then (2, L) else match L[L.length - 1]? with | some y => (0, L.set (L.length - 1) ⟨y.name, n, y.base, y.extra, y.want, y.tail⟩) | none => (18, L)
theorem atR_nil {L : List Fr} {n : Int} (h0 : ¬ n < 0) (h : (L.length : Int) = 0) : atR L n = (18, L) := by
  have : L = [] := List.eq_nil_of_length_eq_zero (by omega)
  subst this; simp [atR, h0]
theorem atR_some {L : List Fr} {n : Int} {y : Fr} (h0 : ¬ n < 0) (h : L[L.length - 1]? = some y) : atR L n = (0, L.set (L.length - 1) ⟨y.name, n, y.base, y.extra, y.want, y.tail⟩) := by simp only [atR, h0, if_false, h]
def toPl (f : Fr) : Pl := ⟨f.name, f.line, f.tail⟩
def trL (L : List Fr) : List Pl := L.reverse.map toPl
theorem trL_step {L : List Fr} {i : Nat} {y : Fr} (h : L[i]? = some y) : trL (L.drop (i + 1)) ++ [toPl y] = trL (L.drop i) := by
  rw [List.getElem?_eq_some_iff] at h
  obtain ⟨hl, rfl⟩ := h
  rw [List.drop_eq_getElem_cons hl]
  simp only [trL, List.reverse_cons, List.map_append, List.map_cons, List.map_nil]
def fitN (l : List Vl) (n : Nat) : List Vl := l.take n ++ List.replicate (n - l.length) zVl
def clip (n : Int) : Int := if 200 < n then 200 else n
def fitL (l : List Vl) (n : Int) : List Vl := if n < 0 then l else fitN l (clip n).toNat
theorem fit_copy (l : List Vl) (k : Nat) : l.take (List.replicate k VlT.zero).length ++ (List.replicate k VlT.zero).drop l.length = fitN l k := by
  simp [fitN, VlT, zVl]
theorem fitN_in {l : List Vl} {i : Nat} {y : Vl} (h : l[i]? = some y) : fitN l i ++ [y] = fitN l (i + 1) := by
  rw [List.getElem?_eq_some_iff] at h
  obtain ⟨hl, rfl⟩ := h
  have h1 : i - l.length = 0 := by omega
  have h2 : i + 1 - l.length = 0 := by omega
  simp only [fitN, h1, h2, List.replicate_zero, List.append_nil]
  rw [List.take_succ_eq_append_getElem hl]
theorem fitN_out {l : List Vl} {i : Nat} (h : l.length ≤ i) : fitN l i ++ [zVl] = fitN l (i + 1) := by
  simp only [fitN, List.append_assoc]
  rw [List.take_of_length_le h, List.take_of_length_le (by omega), show i + 1 - l.length = (i - l.length) + 1 by omega, List.replicate_succ']
theorem fitN_len (l : List Vl) (i : Nat) : (fitN l i).length = i := by simp [fitN]; omega
def par (n : Int) : Int := clip (if n < 0 then 0 else n)
def extraL (l : List Vl) (n : Int) (v : Bool) : List Vl := if v = true ∧ par n < l.length then l.drop (par n).toNat else []
/-- A call of a script. -/
structure Opn where
  kind : Int
  n : Int
  name : ByteArray
  line : Int
  base : Int
  extra : Int
  want : Int
  tail : Bool
  deriving DecidableEq
abbrev Opn.v (x : Opn) : Value := .agg #[.int .i64 x.kind, .int .i64 x.n, .string x.name, .int .i64 x.line, .int .i64 x.base, .int .i64 x.extra, .int .i64 x.want, .bool x.tail]
def OpT : Ty Opn := ⟨30, 8, 72, true, Opn.v, ⟨0, 0, ByteArray.empty, 0, 0, 0, 0, false⟩⟩
theorem OpT_ok : OpT.Ok Try.prog := ok_of OpT _ Try.t30 (by decide) (fun _ => rfl) (fun x u hu => by simp [Ty.enc, OpT, Value.cells] at hu; rcases hu with rfl | rfl | rfl | rfl | rfl | rfl | rfl | rfl <;> rfl) (fun _ => rfl) Try.underlying30 rfl (fun h => by cases h) (by kernel_rfl) (by kernel_rfl) (by kernel_rfl) (by kernel_rfl)
def Opn.fr (x : Opn) : Fr := ⟨x.name, x.line, x.base, x.extra, x.want, x.tail⟩
def numV (n : Int) : Vl := ⟨2, n, 1, ByteArray.empty, 0⟩
def stepL (L : List Fr) (x : Opn) : List Fr := if x.kind = 1 then (pushR L x.fr).2 else if x.kind = 2 then (popR L).2 else if x.kind = 3 then (replR L x.fr).2 else (atR L x.n).2
theorem stepL_len {L : List Fr} (x : Opn) (h : L.length ≤ 150) : (stepL L x).length ≤ 150 := by
  unfold stepL pushR popR replR atR
  repeat' split
  all_goals simp at *
  all_goals omega
/-- '==' of frames, places and values. -/
theorem eqFr (t : TypeId) (hk : J.kindsOf Try.prog 20 t = some [1, 0, 0, 0, 0, 2]) (hs : (match Try.prog.underlying t with | some (.struct _) => true | _ => false) = true) (x y : Fr) (w : World) : (binOp .eql t x.v y.v).run Try.prog w = .ok (.bool (decide (x = y))) w ∧ (binOp .neq t x.v y.v).run Try.prog w = .ok (.bool (!decide (x = y))) w := by
  have h := J.run_eqS [1, 0, 0, 0, 0, 2] hk hs #[.string x.name, .int .i64 x.line, .int .i64 x.base, .int .i64 x.extra, .int .i64 x.want, .bool x.tail] #[.string y.name, .int .i64 y.line, .int .i64 y.base, .int .i64 y.extra, .int .i64 y.want, .bool y.tail] rfl rfl w
  have e : J.cellsEq [.string x.name, .int .i64 x.line, .int .i64 x.base, .int .i64 x.extra, .int .i64 x.want, .bool x.tail] [.string y.name, .int .i64 y.line, .int .i64 y.base, .int .i64 y.extra, .int .i64 y.want, .bool y.tail] = decide (x = y) := by
    cases x; cases y; rw [Bool.eq_iff_iff]; simp [J.cellsEq, J.cellEq]
  rw [e] at h
  exact h
theorem eqPl (x y : Pl) (w : World) : (binOp .eql 58 x.v y.v).run Try.prog w = .ok (.bool (decide (x = y))) w ∧ (binOp .neq 58 x.v y.v).run Try.prog w = .ok (.bool (!decide (x = y))) w := by
  have h := J.run_eqS (P := Try.prog) (t := 58) [1, 0, 2] (by kernel_rfl) (by kernel_rfl) #[.string x.name, .int .i64 x.line, .bool x.tail] #[.string y.name, .int .i64 y.line, .bool y.tail] rfl rfl w
  have e : J.cellsEq [.string x.name, .int .i64 x.line, .bool x.tail] [.string y.name, .int .i64 y.line, .bool y.tail] = decide (x = y) := by
    cases x; cases y; rw [Bool.eq_iff_iff]; simp [J.cellsEq, J.cellEq]
  rw [e] at h
  exact h
theorem eqVl (x y : Vl) (w : World) : (binOp .eql 54 x.v y.v).run Try.prog w = .ok (.bool (decide (x = y))) w ∧ (binOp .neq 54 x.v y.v).run Try.prog w = .ok (.bool (!decide (x = y))) w := by
  have h := J.run_eqS (P := Try.prog) (t := 54) [0, 0, 0, 1, 0] (by kernel_rfl) (by kernel_rfl) #[.int .i64 x.kind, .int .i64 x.p, .int .i64 x.q, .string x.str, .int .i64 x.ref] #[.int .i64 y.kind, .int .i64 y.p, .int .i64 y.q, .string y.str, .int .i64 y.ref] rfl rfl w
  have e : J.cellsEq [.int .i64 x.kind, .int .i64 x.p, .int .i64 x.q, .string x.str, .int .i64 x.ref] [.int .i64 y.kind, .int .i64 y.p, .int .i64 y.q, .string y.str, .int .i64 y.ref] = decide (x = y) := by
    cases x; cases y; rw [Bool.eq_iff_iff]; simp [J.cellsEq, J.cellEq]
  rw [e] at h
  exact h
theorem eq46 (x y : Fr) (w : World) : (binOp .eql 46 x.v y.v).run Try.prog w = .ok (.bool (decide (x = y))) w ∧ (binOp .neq 46 x.v y.v).run Try.prog w = .ok (.bool (!decide (x = y))) w := eqFr 46 (by kernel_rfl) (by kernel_rfl) x y w
end Go.Proofs.Ytikbimlfbcffhaa
