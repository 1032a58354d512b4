/-
  Heaps of the reference. Each law says its conditions.
-/
import Derived.Test.YtplkkhpokodbmaaW5
set_option linter.unusedSimpArgs false
set_option linter.unusedVariables false
set_option maxRecDepth 100000
set_option maxHeartbeats 2000000
namespace Go.Proofs.Ytplkkhpokodbmaa
open Go.Hp Go.J Go.S
open Go.Mem (Ty KTy blk elemAt pre suf blk_pre blk_suf aget aset strK aggDesc)
open Go.Mem (adel apos aget_aset aget_adel)
structure Sv where
  p : Option Addr
  len : Nat
  cap : Nat
abbrev Sv.v (s : Sv) : Value := .slice s.p s.len s.cap
/-- An element of the reference's list: an object (none: a removed one), and where its parts lie. -/
structure Rx where
  o : Option Hob
  tp : Nat
  uv : Sv
  rv : Sv
def Rx.v : Rx → Value
  | ⟨some o, tp, uv, rv⟩ => .agg #[.int .i64 o.kind, .int .i64 o.tag, .string o.name, tabV (0, tp) o, .int .i64 o.mt.kind, .int .i64 o.mt.p, .int .i64 o.mt.q, .string o.mt.str, .int .i64 o.mt.ref, uv.v, rv.v]
  | ⟨none, _, _, _⟩ => .agg #[.int .i64 0, .int .i64 0, .string ByteArray.empty, .pointer none, .int .i64 0, .int .i64 0, .int .i64 0, .string ByteArray.empty, .int .i64 0, .slice none 0 0, .slice none 0 0]
section
variable {Z : Zone} {F : List Asr} {H : Heap} {b : Nat} {st : Hst} {L : List Rx} {id : Int} {o o' : Hob} {i tp : Nat} {uv rv : Sv}
theorem flat_set {α : Type} {T : Ty α} {A : List α} {x y : α} (hx : A[i]? = some x) (he : T.enc y = T.enc x) : T.flat (A.set i y) = T.flat A := by
  obtain ⟨hi, e⟩ := List.getElem?_eq_some_iff.1 hx
  have h1 : A.set i y = A.take i ++ ([y] ++ A.drop (i + 1)) := by rw [List.set_eq_take_append_cons_drop, if_pos hi]; rfl
  have h2 : A = A.take i ++ ([x] ++ A.drop (i + 1)) := by
    have : A.drop i = A[i] :: A.drop (i + 1) := List.drop_eq_getElem_cons hi
    rw [← e]; show A = A.take i ++ (A[i] :: A.drop (i + 1)); rw [← this, List.take_append_drop]
  have hs : T.flat [y] = T.flat [x] := by show T.enc y ++ T.flat [] = T.enc x ++ T.flat []; rw [he]
  rw [h1]
  conv => rhs; rw [h2]
  simp only [Ty.flat_append, hs]
end
end Go.Proofs.Ytplkkhpokodbmaa
