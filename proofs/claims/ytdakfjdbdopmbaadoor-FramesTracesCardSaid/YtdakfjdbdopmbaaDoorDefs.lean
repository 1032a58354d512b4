/-
  The data of layer 19: values and places.
-/
import Derived.Test.YtdakfjdbdopmbaaDoorVL
import Derived.Test.YtdakfjdbdopmbaaDoorJQ
import Derived.Test.YtdakfjdbdopmbaaDoorRows
set_option linter.unusedSimpArgs false
set_option linter.unusedVariables false
set_option maxRecDepth 100000
namespace Go.Proofs.YtdakfjdbdopmbaaDoor
open Go.Hp Go.J Go.S
open Go.Mem (Ty KTy blk elemAt pre suf blk_pre blk_suf aget aset strK aggDesc)
open Go.RowKit
theorem Tryd.mixed : Tryd.prog.follows .mixedOrders = true := by kernel_rfl
theorem ok_of {α : Type} (T : Ty α) (d : TypeDesc) (i : TypeInfo) (hpos : 0 < T.size) (hlen : ∀ x, (T.enc x).length = T.size) (hone : ∀ x, ∀ u ∈ T.enc x, u.oneCell' = true) (hval : ∀ x, T.val x = if T.agg then .agg (T.enc x).toArray else (T.enc x).headD undef)
    (hd : Tryd.prog.underlying T.id = some d) (ha : aggDesc d = T.agg) (h1 : T.agg = false → T.size = 1) (hi : Tryd.prog.info? T.id = some i) (hs : i.size = T.size) (hb : i.bytes = T.bytes) (hz : i.zero = some (T.val T.zero)) : T.Ok Tryd.prog :=
  ⟨hpos, hlen, hone, hval, ⟨d, hd, ha⟩, h1, ⟨i, hi, hs, hb, hz⟩⟩
theorem fit_int {v : Value} (h : fitsK 0 v = true) : ∃ n, v = .int .i64 n := by
  cases v <;> simp [fitsK] at h
  rename_i k n
  cases k <;> simp [fitsK] at h
  exact ⟨n, rfl⟩
theorem fit_str {v : Value} (h : fitsK 1 v = true) : ∃ n, v = .string n := by
  cases v <;> simp [fitsK] at h
  exact ⟨_, rfl⟩
theorem fit_bool {v : Value} (h : fitsK 2 v = true) : ∃ n, v = .bool n := by
  cases v <;> simp [fitsK] at h
  exact ⟨_, rfl⟩
abbrev Vl.v (x : Vl) : Value := .agg #[.int .i64 x.kind, .int .i64 x.p, .int .i64 x.q, .string x.str, .int .i64 x.ref]
def VlT : Ty Vl := ⟨39, 5, 48, true, Vl.v, ⟨0, 0, 0, ByteArray.empty, 0⟩⟩
theorem VlT_ok : VlT.Ok Tryd.prog := ok_of VlT _ Tryd.t39 (by decide) (fun _ => rfl) (fun x u hu => by simp [Ty.enc, VlT, Value.cells] at hu; rcases hu with rfl | rfl | rfl | rfl | rfl <;> rfl) (fun _ => rfl) Tryd.underlying39 rfl (fun h => by cases h) (by kernel_rfl) (by kernel_rfl) (by kernel_rfl) (by kernel_rfl)
theorem eqVlT (x y : Vl) (w : World) : (binOp .eql 39 x.v y.v).run Tryd.prog w = .ok (.bool (decide (x = y))) w ∧ (binOp .neq 39 x.v y.v).run Tryd.prog w = .ok (.bool (!decide (x = y))) w := by
  have h := J.run_eqS (P := Tryd.prog) (t := 39) [0, 0, 0, 1, 0] (by kernel_rfl) (by kernel_rfl) #[.int .i64 x.kind, .int .i64 x.p, .int .i64 x.q, .string x.str, .int .i64 x.ref] #[.int .i64 y.kind, .int .i64 y.p, .int .i64 y.q, .string y.str, .int .i64 y.ref] rfl rfl w
  have e : J.cellsEq [.int .i64 x.kind, .int .i64 x.p, .int .i64 x.q, .string x.str, .int .i64 x.ref] [.int .i64 y.kind, .int .i64 y.p, .int .i64 y.q, .string y.str, .int .i64 y.ref] = decide (x = y) := by
    cases x; cases y; rw [Bool.eq_iff_iff]; simp [J.cellsEq, J.cellEq]
  rw [e] at h
  exact h
theorem decVlT (cs : List Value) (h : fitsL [0, 0, 0, 1, 0] cs = true) : ∃ x, VlT.enc x = cs := by
  have hl := fitsL_len h
  match cs, hl, h with
  | [c0, c1, c2, c3, c4], _, h =>
    simp only [fitsL, Bool.and_eq_true] at h
    obtain ⟨c0, rfl⟩ := fit_int h.1
    obtain ⟨c1, rfl⟩ := fit_int h.2.1
    obtain ⟨c2, rfl⟩ := fit_int h.2.2.1
    obtain ⟨c3, rfl⟩ := fit_str h.2.2.2.1
    obtain ⟨c4, rfl⟩ := fit_int h.2.2.2.2.1
    exact ⟨⟨c0, c1, c2, c3, c4⟩, rfl⟩
structure Pl where
  name : ByteArray
  line : Int
  tail : Bool
  deriving DecidableEq
abbrev Pl.v (x : Pl) : Value := .agg #[.string x.name, .int .i64 x.line, .bool x.tail]
def PlT : Ty Pl := ⟨35, 3, 32, true, Pl.v, ⟨ByteArray.empty, 0, false⟩⟩
theorem PlT_ok : PlT.Ok Tryd.prog := ok_of PlT _ Tryd.t35 (by decide) (fun _ => rfl) (fun x u hu => by simp [Ty.enc, PlT, Value.cells] at hu; rcases hu with rfl | rfl | rfl <;> rfl) (fun _ => rfl) Tryd.underlying35 rfl (fun h => by cases h) (by kernel_rfl) (by kernel_rfl) (by kernel_rfl) (by kernel_rfl)
theorem eqPlT (x y : Pl) (w : World) : (binOp .eql 35 x.v y.v).run Tryd.prog w = .ok (.bool (decide (x = y))) w ∧ (binOp .neq 35 x.v y.v).run Tryd.prog w = .ok (.bool (!decide (x = y))) w := by
  have h := J.run_eqS (P := Tryd.prog) (t := 35) [1, 0, 2] (by kernel_rfl) (by kernel_rfl) #[.string x.name, .int .i64 x.line, .bool x.tail] #[.string y.name, .int .i64 y.line, .bool y.tail] rfl rfl w
  have e : J.cellsEq [.string x.name, .int .i64 x.line, .bool x.tail] [.string y.name, .int .i64 y.line, .bool y.tail] = decide (x = y) := by
    cases x; cases y; rw [Bool.eq_iff_iff]; simp [J.cellsEq, J.cellEq]
  rw [e] at h
  exact h
theorem decPlT (cs : List Value) (h : fitsL [1, 0, 2] cs = true) : ∃ x, PlT.enc x = cs := by
  have hl := fitsL_len h
  match cs, hl, h with
  | [c0, c1, c2], _, h =>
    simp only [fitsL, Bool.and_eq_true] at h
    obtain ⟨c0, rfl⟩ := fit_str h.1
    obtain ⟨c1, rfl⟩ := fit_int h.2.1
    obtain ⟨c2, rfl⟩ := fit_bool h.2.2.1
    exact ⟨⟨c0, c1, c2⟩, rfl⟩
end Go.Proofs.YtdakfjdbdopmbaaDoor
