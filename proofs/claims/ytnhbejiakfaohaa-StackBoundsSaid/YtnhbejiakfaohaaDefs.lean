/-
  The data of layer 17: values and calls.
-/
import Derived.Test.YtnhbejiakfaohaaL
import Derived.Test.YtnhbejiakfaohaaJR
import Derived.Test.YtnhbejiakfaohaaRows
set_option linter.unusedSimpArgs false
set_option linter.unusedVariables false
set_option maxRecDepth 100000
namespace Go.Proofs.Ytnhbejiakfaohaa
open Go.Hp Go.J Go.S
open Go.Mem (Ty KTy blk elemAt pre suf blk_pre blk_suf aget aset strK aggDesc)
open Go.RowKit
theorem Try.mixed : Try.prog.follows .mixedOrders = true := by kernel_rfl
theorem ok_of {α : Type} (T : Ty α) (d : TypeDesc) (i : TypeInfo) (hpos : 0 < T.size) (hlen : ∀ x, (T.enc x).length = T.size) (hone : ∀ x, ∀ u ∈ T.enc x, u.oneCell' = true) (hval : ∀ x, T.val x = if T.agg then .agg (T.enc x).toArray else (T.enc x).headD undef)
    (hd : Try.prog.underlying T.id = some d) (ha : aggDesc d = T.agg) (h1 : T.agg = false → T.size = 1) (hi : Try.prog.info? T.id = some i) (hs : i.size = T.size) (hb : i.bytes = T.bytes) (hz : i.zero = some (T.val T.zero)) : T.Ok Try.prog :=
  ⟨hpos, hlen, hone, hval, ⟨d, hd, ha⟩, h1, ⟨i, hi, hs, hb, hz⟩⟩
theorem fit_int {v : Value} (h : fitsK 0 v = true) : ∃ n, v = .int .i64 n := by
  cases v <;> simp [fitsK] at h
  rename_i k n
  cases k <;> simp [fitsK] at h
  exact ⟨n, rfl⟩
theorem fit_str {v : Value} (h : fitsK 1 v = true) : ∃ n, v = .string n := by
  cases v <;> simp [fitsK] at h
  exact ⟨_, rfl⟩
theorem fit_bool {v : Value} (h : fitsK 2 v = true) : ∃ n, v = .bool n := by
  cases v <;> simp [fitsK] at h
  exact ⟨_, rfl⟩
abbrev Vl.v (x : Vl) : Value := .agg #[.int .i64 x.kind, .int .i64 x.p, .int .i64 x.q, .string x.str, .int .i64 x.ref]
def VlT : Ty Vl := ⟨32, 5, 48, true, Vl.v, ⟨0, 0, 0, ByteArray.empty, 0⟩⟩
theorem VlT_ok : VlT.Ok Try.prog := ok_of VlT _ Try.t32 (by decide) (fun _ => rfl) (fun x u hu => by simp [Ty.enc, VlT, Value.cells] at hu; rcases hu with rfl | rfl | rfl | rfl | rfl <;> rfl) (fun _ => rfl) Try.underlying32 rfl (fun h => by cases h) (by kernel_rfl) (by kernel_rfl) (by kernel_rfl) (by kernel_rfl)
theorem eqVlT (x y : Vl) (w : World) : (binOp .eql 32 x.v y.v).run Try.prog w = .ok (.bool (decide (x = y))) w ∧ (binOp .neq 32 x.v y.v).run Try.prog w = .ok (.bool (!decide (x = y))) w := by
  have h := J.run_eqS (P := Try.prog) (t := 32) [0, 0, 0, 1, 0] (by kernel_rfl) (by kernel_rfl) #[.int .i64 x.kind, .int .i64 x.p, .int .i64 x.q, .string x.str, .int .i64 x.ref] #[.int .i64 y.kind, .int .i64 y.p, .int .i64 y.q, .string y.str, .int .i64 y.ref] rfl rfl w
  have e : J.cellsEq [.int .i64 x.kind, .int .i64 x.p, .int .i64 x.q, .string x.str, .int .i64 x.ref] [.int .i64 y.kind, .int .i64 y.p, .int .i64 y.q, .string y.str, .int .i64 y.ref] = decide (x = y) := by
    cases x; cases y; rw [Bool.eq_iff_iff]; simp [J.cellsEq, J.cellEq]
  rw [e] at h
  exact h
theorem decVlT (cs : List Value) (h : fitsL [0, 0, 0, 1, 0] cs = true) : ∃ x, VlT.enc x = cs := by
  have hl := fitsL_len h
  match cs, hl, h with
  | [c0, c1, c2, c3, c4], _, h =>
    simp only [fitsL, Bool.and_eq_true] at h
    obtain ⟨c0, rfl⟩ := fit_int h.1
    obtain ⟨c1, rfl⟩ := fit_int h.2.1
    obtain ⟨c2, rfl⟩ := fit_int h.2.2.1
    obtain ⟨c3, rfl⟩ := fit_str h.2.2.2.1
    obtain ⟨c4, rfl⟩ := fit_int h.2.2.2.2.1
    exact ⟨⟨c0, c1, c2, c3, c4⟩, rfl⟩
structure Cl where
  kind : Int
  n : Int
  m : Int
  vk : Int
  vp : Int
  vq : Int
  vs : ByteArray
  vr : Int
  deriving DecidableEq
abbrev Cl.v (x : Cl) : Value := .agg #[.int .i64 x.kind, .int .i64 x.n, .int .i64 x.m, .int .i64 x.vk, .int .i64 x.vp, .int .i64 x.vq, .string x.vs, .int .i64 x.vr]
def ClT : Ty Cl := ⟨55, 8, 72, true, Cl.v, ⟨0, 0, 0, 0, 0, 0, ByteArray.empty, 0⟩⟩
theorem ClT_ok : ClT.Ok Try.prog := ok_of ClT _ Try.t55 (by decide) (fun _ => rfl) (fun x u hu => by simp [Ty.enc, ClT, Value.cells] at hu; rcases hu with rfl | rfl | rfl | rfl | rfl | rfl | rfl | rfl <;> rfl) (fun _ => rfl) Try.underlying55 rfl (fun h => by cases h) (by kernel_rfl) (by kernel_rfl) (by kernel_rfl) (by kernel_rfl)
theorem eqClT (x y : Cl) (w : World) : (binOp .eql 55 x.v y.v).run Try.prog w = .ok (.bool (decide (x = y))) w ∧ (binOp .neq 55 x.v y.v).run Try.prog w = .ok (.bool (!decide (x = y))) w := by
  have h := J.run_eqS (P := Try.prog) (t := 55) [0, 0, 0, 0, 0, 0, 1, 0] (by kernel_rfl) (by kernel_rfl) #[.int .i64 x.kind, .int .i64 x.n, .int .i64 x.m, .int .i64 x.vk, .int .i64 x.vp, .int .i64 x.vq, .string x.vs, .int .i64 x.vr] #[.int .i64 y.kind, .int .i64 y.n, .int .i64 y.m, .int .i64 y.vk, .int .i64 y.vp, .int .i64 y.vq, .string y.vs, .int .i64 y.vr] rfl rfl w
  have e : J.cellsEq [.int .i64 x.kind, .int .i64 x.n, .int .i64 x.m, .int .i64 x.vk, .int .i64 x.vp, .int .i64 x.vq, .string x.vs, .int .i64 x.vr] [.int .i64 y.kind, .int .i64 y.n, .int .i64 y.m, .int .i64 y.vk, .int .i64 y.vp, .int .i64 y.vq, .string y.vs, .int .i64 y.vr] = decide (x = y) := by
    cases x; cases y; rw [Bool.eq_iff_iff]; simp [J.cellsEq, J.cellEq]
  rw [e] at h
  exact h
theorem decClT (cs : List Value) (h : fitsL [0, 0, 0, 0, 0, 0, 1, 0] cs = true) : ∃ x, ClT.enc x = cs := by
  have hl := fitsL_len h
  match cs, hl, h with
  | [c0, c1, c2, c3, c4, c5, c6, c7], _, h =>
    simp only [fitsL, Bool.and_eq_true] at h
    obtain ⟨c0, rfl⟩ := fit_int h.1
    obtain ⟨c1, rfl⟩ := fit_int h.2.1
    obtain ⟨c2, rfl⟩ := fit_int h.2.2.1
    obtain ⟨c3, rfl⟩ := fit_int h.2.2.2.1
    obtain ⟨c4, rfl⟩ := fit_int h.2.2.2.2.1
    obtain ⟨c5, rfl⟩ := fit_int h.2.2.2.2.2.1
    obtain ⟨c6, rfl⟩ := fit_str h.2.2.2.2.2.2.1
    obtain ⟨c7, rfl⟩ := fit_int h.2.2.2.2.2.2.2.1
    exact ⟨⟨c0, c1, c2, c3, c4, c5, c6, c7⟩, rfl⟩
def Cl.val (c : Cl) : Vl := ⟨c.vk, c.vp, c.vq, c.vs, c.vr⟩
end Go.Proofs.Ytnhbejiakfaohaa
