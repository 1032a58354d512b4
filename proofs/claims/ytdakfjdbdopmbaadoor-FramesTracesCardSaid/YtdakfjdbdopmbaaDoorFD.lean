/-
  The data of layer 43: frames and calls; plain facts.
-/
import Derived.Test.YtdakfjdbdopmbaaDoorW12
import Derived.Test.YtdakfjdbdopmbaaDoorSW
set_option linter.unusedSimpArgs false
set_option linter.unusedVariables false
set_option maxRecDepth 100000
namespace Go.Proofs.YtdakfjdbdopmbaaDoor.Fs
open Go.Hp Go.J Go.S
open Go.Mem (Ty KTy blk elemAt pre suf blk_pre blk_suf aget aset strK aggDesc)
open Go.RowKit
open Go.Mem (strK_ok)
structure Fr where
  name : ByteArray
  line : Int
  base : Int
  extra : Int
  want : Int
  tail : Bool
  deriving DecidableEq
abbrev Fr.v (x : Fr) : Value := .agg #[.string x.name, .int .i64 x.line, .int .i64 x.base, .int .i64 x.extra, .int .i64 x.want, .bool x.tail]
def FrT : Ty Fr := ⟨30, 6, 56, true, Fr.v, ⟨ByteArray.empty, 0, 0, 0, 0, false⟩⟩
theorem FrT_ok : FrT.Ok Tryd.prog := ok_of FrT _ Tryd.t30 (by decide) (fun _ => rfl) (fun x u hu => by simp [Ty.enc, FrT, Value.cells] at hu; rcases hu with rfl | rfl | rfl | rfl | rfl | rfl <;> rfl) (fun _ => rfl) Tryd.underlying30 rfl (fun h => by cases h) (by kernel_rfl) (by kernel_rfl) (by kernel_rfl) (by kernel_rfl)
theorem eqFrT (x y : Fr) (w : World) : (binOp .eql 30 x.v y.v).run Tryd.prog w = .ok (.bool (decide (x = y))) w ∧ (binOp .neq 30 x.v y.v).run Tryd.prog w = .ok (.bool (!decide (x = y))) w := by
  have h := J.run_eqS (P := Tryd.prog) (t := 30) [1, 0, 0, 0, 0, 2] (by kernel_rfl) (by kernel_rfl) #[.string x.name, .int .i64 x.line, .int .i64 x.base, .int .i64 x.extra, .int .i64 x.want, .bool x.tail] #[.string y.name, .int .i64 y.line, .int .i64 y.base, .int .i64 y.extra, .int .i64 y.want, .bool y.tail] rfl rfl w
  have e : J.cellsEq [.string x.name, .int .i64 x.line, .int .i64 x.base, .int .i64 x.extra, .int .i64 x.want, .bool x.tail] [.string y.name, .int .i64 y.line, .int .i64 y.base, .int .i64 y.extra, .int .i64 y.want, .bool y.tail] = decide (x = y) := by
    cases x; cases y; rw [Bool.eq_iff_iff]; simp [J.cellsEq, J.cellEq]
  rw [e] at h
  exact h
structure Opn where
  kind : Int
  n : Int
  name : ByteArray
  line : Int
  base : Int
  extra : Int
  want : Int
  tail : Bool
  deriving DecidableEq
abbrev Opn.v (x : Opn) : Value := .agg #[.int .i64 x.kind, .int .i64 x.n, .string x.name, .int .i64 x.line, .int .i64 x.base, .int .i64 x.extra, .int .i64 x.want, .bool x.tail]
def OpnT : Ty Opn := ⟨33, 8, 72, true, Opn.v, ⟨0, 0, ByteArray.empty, 0, 0, 0, 0, false⟩⟩
theorem OpnT_ok : OpnT.Ok Tryd.prog := ok_of OpnT _ Tryd.t33 (by decide) (fun _ => rfl) (fun x u hu => by simp [Ty.enc, OpnT, Value.cells] at hu; rcases hu with rfl | rfl | rfl | rfl | rfl | rfl | rfl | rfl <;> rfl) (fun _ => rfl) Tryd.underlying33 rfl (fun h => by cases h) (by kernel_rfl) (by kernel_rfl) (by kernel_rfl) (by kernel_rfl)
abbrev iV (n : Int) : Value := .int .i64 n
theorem strOk : KTy.Ok (β := Int) (strK 9) Tryd.prog := strK_ok Tryd.underlying9
def rightB (f : Fr) : Bool := decide (0 ≤ f.line) && decide (0 ≤ f.base) && decide (0 ≤ f.extra) && decide (-1 ≤ f.want)
def zFr : Fr := ⟨ByteArray.empty, 0, 0, 0, 0, false⟩
def pushR (L : List Fr) (f : Fr) : Int × List Fr := if (!rightB f) = true then (2, L) else if (150 : Int) ≤ (L.length : Int) then (17, L) else (0, L ++ [f])
def popR (L : List Fr) : (Fr × Bool) × List Fr := match L[L.length - 1]? with | some y => ((y, true), L.take (L.length - 1)) | none => ((zFr, false), L)
theorem popR_nil {L : List Fr} (h : (L.length : Int) = 0) : popR L = ((zFr, false), L) := by
  have : L = [] := List.eq_nil_of_length_eq_zero (by omega)
  subst this; rfl
theorem popR_some {L : List Fr} {y : Fr} (h : L[L.length - 1]? = some y) : popR L = ((y, true), L.take (L.length - 1)) := by simp only [popR, h]
def tl (f : Fr) : Fr := ⟨f.name, f.line, f.base, f.extra, f.want, true⟩
def replR (L : List Fr) (f : Fr) : Int × List Fr := if (!rightB f) = true then (2, L) else if (L.length : Int) = 0 then (18, L) else (0, L.set (L.length - 1) (tl f))
theorem replR_ok {L : List Fr} {f : Fr} (h1 : (!rightB f) = false) (h2 : ¬ (L.length : Int) = 0) : replR L f = (0, L.set (L.length - 1) (tl f)) := by
  simp only [replR, h1, h2, if_false, Bool.false_eq_true]
theorem replR_same {L : List Fr} {f : Fr} (h1 : (!rightB f) = false) (h2 : ¬ (L.length : Int) = 0) (h : L[L.length - 1]? = some (tl f)) : replR L f = (0, L) := by
  simp only [replR, h1, h2, if_false, Bool.false_eq_true]
  congr 1
  rw [List.getElem?_eq_some_iff] at h
  obtain ⟨hl, h⟩ := h
  rw [← h, List.set_getElem_self]
def atR (L : List Fr) (n : Int) : Int × List Fr := if n < 0 then (2, L) else match L[L.length - 1]? with | some y => (0, L.set (L.length - 1) ⟨y.name, n, y.base, y.extra, y.want, y.tail⟩) | none => (18, L)
theorem atR_nil {L : List Fr} {n : Int} (h0 : ¬ n < 0) (h : (L.length : Int) = 0) : atR L n = (18, L) := by
  have : L = [] := List.eq_nil_of_length_eq_zero (by omega)
  subst this; simp [atR, h0]
theorem atR_some {L : List Fr} {n : Int} {y : Fr} (h0 : ¬ n < 0) (h : L[L.length - 1]? = some y) : atR L n = (0, L.set (L.length - 1) ⟨y.name, n, y.base, y.extra, y.want, y.tail⟩) := by simp only [atR, h0, if_false, h]
def toPl (f : Fr) : Pl := ⟨f.name, f.line, f.tail⟩
def trL (L : List Fr) : List Pl := L.reverse.map toPl
theorem trL_step {L : List Fr} {i : Nat} {y : Fr} (h : L[i]? = some y) : trL (L.drop (i + 1)) ++ [toPl y] = trL (L.drop i) := by
  rw [List.getElem?_eq_some_iff] at h
  obtain ⟨hl, rfl⟩ := h
  rw [List.drop_eq_getElem_cons hl]
  simp only [trL, List.reverse_cons, List.map_append, List.map_cons, List.map_nil]
def zVl : Vl := ⟨0, 0, 0, ByteArray.empty, 0⟩
def fitN (l : List Vl) (n : Nat) : List Vl := l.take n ++ List.replicate (n - l.length) zVl
def clip (n : Int) : Int := if 200 < n then 200 else n
def fitL (l : List Vl) (n : Int) : List Vl := if n < 0 then l else fitN l (clip n).toNat
theorem fit_copy (l : List Vl) (k : Nat) : l.take (List.replicate k VlT.zero).length ++ (List.replicate k VlT.zero).drop l.length = fitN l k := by
  simp [fitN, VlT, zVl]
theorem fitN_in {l : List Vl} {i : Nat} {y : Vl} (h : l[i]? = some y) : fitN l i ++ [y] = fitN l (i + 1) := by
  rw [List.getElem?_eq_some_iff] at h
  obtain ⟨hl, rfl⟩ := h
  have h1 : i - l.length = 0 := by omega
  have h2 : i + 1 - l.length = 0 := by omega
  simp only [fitN, h1, h2, List.replicate_zero, List.append_nil]
  rw [List.take_succ_eq_append_getElem hl]
theorem fitN_out {l : List Vl} {i : Nat} (h : l.length ≤ i) : fitN l i ++ [zVl] = fitN l (i + 1) := by
  simp only [fitN, List.append_assoc]
  rw [List.take_of_length_le h, List.take_of_length_le (by omega), show i + 1 - l.length = (i - l.length) + 1 by omega, List.replicate_succ']
theorem fitN_len (l : List Vl) (i : Nat) : (fitN l i).length = i := by simp [fitN]; omega
def par (n : Int) : Int := clip (if n < 0 then 0 else n)
def extraL (l : List Vl) (n : Int) (v : Bool) : List Vl := if v = true ∧ par n < l.length then l.drop (par n).toNat else []
def Opn.fr (x : Opn) : Fr := ⟨x.name, x.line, x.base, x.extra, x.want, x.tail⟩
def numV (n : Int) : Vl := ⟨2, n, 1, ByteArray.empty, 0⟩
theorem got_int (o : Option Int) : (o.map iV).getD (.int .i64 0) = .int .i64 (o.getD 0) := by cases o <;> rfl
/-- A stack of calls in memory. -/
def fsA (t : TypeId) (b : Nat) (L : List Fr) : Asr := exA fun sv => exA fun mb => exA fun m => stA (L.length ≤ 150) [blkA b #[sv, .map (some mb)] t, own FrT sv L, mpA (strK 9) iV mb m]
theorem fs_open {t : TypeId} {b : Nat} {L : List Fr} {Z : Zone} {F : List Asr} {H : Heap} (h : Holds Z (fsA t b L :: F) H) : ∃ sv mb m, L.length ≤ 150 ∧ Holds Z (blkA b #[sv, .map (some mb)] t :: own FrT sv L :: mpA (strK 9) iV mb m :: F) H := by
  obtain ⟨sv, h⟩ := h.open_ex
  obtain ⟨mb, h⟩ := h.open_ex
  obtain ⟨m, h⟩ := h.open_ex
  exact ⟨sv, mb, m, h.open_st⟩
theorem fs_shut {t : TypeId} {b : Nat} {L : List Fr} {Z : Zone} {F : List Asr} {H : Heap} {sv : Value} {mb : Nat} {m : List (ByteArray × Int)} (hl : L.length ≤ 150) (h : Holds Z (blkA b #[sv, .map (some mb)] t :: own FrT sv L :: mpA (strK 9) iV mb m :: F) H) : Holds Z (fsA t b L :: F) H :=
  Holds.shut_ex sv (Holds.shut_ex mb (Holds.shut_ex m (Holds.shut_st hl h)))
end Go.Proofs.YtdakfjdbdopmbaaDoor.Fs
