/-
  The data of layers 11 to 13: values, slots. No condition.
-/
import Derived.Test.YtplkkhpokodbmaaOM2
import Derived.Test.YtplkkhpokodbmaaJR
import Derived.Test.YtplkkhpokodbmaaSR
import Derived.Test.YtplkkhpokodbmaaMapS
import Derived.Test.YtplkkhpokodbmaaSE
import Derived.Test.YtplkkhpokodbmaaProg
set_option linter.unusedSimpArgs false
set_option linter.unusedVariables false
set_option maxRecDepth 100000
namespace Go.Proofs.Ytplkkhpokodbmaa
open Go.Hp Go.J Go.S
open Go.Mem (Ty KTy blk elemAt pre suf blk_pre blk_suf aget aset strK aggDesc)
theorem ok_of {α : Type} (T : Ty α) (d : TypeDesc) (i : TypeInfo) (hpos : 0 < T.size) (hlen : ∀ x, (T.enc x).length = T.size) (hone : ∀ x, ∀ u ∈ T.enc x, u.oneCell' = true) (hval : ∀ x, T.val x = if T.agg then .agg (T.enc x).toArray else (T.enc x).headD undef)
    (hd : Try.prog.underlying T.id = some d) (ha : aggDesc d = T.agg) (h1 : T.agg = false → T.size = 1) (hi : Try.prog.info? T.id = some i) (hs : i.size = T.size) (hb : i.bytes = T.bytes) (hz : i.zero = some (T.val T.zero)) : T.Ok Try.prog :=
  ⟨hpos, hlen, hone, hval, ⟨d, hd, ha⟩, h1, ⟨i, hi, hs, hb, hz⟩⟩
theorem fit_int {v : Value} (h : fitsK 0 v = true) : ∃ n, v = .int .i64 n := by
  cases v <;> simp [fitsK] at h
  rename_i k n
  cases k <;> simp [fitsK] at h
  exact ⟨n, rfl⟩
theorem fit_str {v : Value} (h : fitsK 1 v = true) : ∃ n, v = .string n := by
  cases v <;> simp [fitsK] at h
  exact ⟨_, rfl⟩
abbrev Vl.v (x : Vl) : Value := .agg #[.int .i64 x.kind, .int .i64 x.p, .int .i64 x.q, .string x.str, .int .i64 x.ref]
def VlT : Ty Vl := ⟨26, 5, 48, true, Vl.v, ⟨0, 0, 0, ByteArray.empty, 0⟩⟩
theorem VlT_ok : VlT.Ok Try.prog := ok_of VlT _ Try.t26 (by decide) (fun _ => rfl) (fun x u hu => by simp [Ty.enc, VlT, Value.cells] at hu; rcases hu with rfl | rfl | rfl | rfl | rfl <;> rfl) (fun _ => rfl) Try.underlying26 rfl (fun h => by cases h) (by kernel_rfl) (by kernel_rfl) (by kernel_rfl) (by kernel_rfl)
theorem eqVlT (x y : Vl) (w : World) : (binOp .eql 26 x.v y.v).run Try.prog w = .ok (.bool (decide (x = y))) w ∧ (binOp .neq 26 x.v y.v).run Try.prog w = .ok (.bool (!decide (x = y))) w := by
  have h := J.run_eqS (P := Try.prog) (t := 26) [0, 0, 0, 1, 0] (by kernel_rfl) (by kernel_rfl) #[.int .i64 x.kind, .int .i64 x.p, .int .i64 x.q, .string x.str, .int .i64 x.ref] #[.int .i64 y.kind, .int .i64 y.p, .int .i64 y.q, .string y.str, .int .i64 y.ref] rfl rfl w
  have e : J.cellsEq [.int .i64 x.kind, .int .i64 x.p, .int .i64 x.q, .string x.str, .int .i64 x.ref] [.int .i64 y.kind, .int .i64 y.p, .int .i64 y.q, .string y.str, .int .i64 y.ref] = decide (x = y) := by
    cases x; cases y; rw [Bool.eq_iff_iff]; simp [J.cellsEq, J.cellEq]
  rw [e] at h
  exact h
abbrev Slt.v (x : Slt) : Value := .agg #[.int .i64 x.key.kind, .int .i64 x.key.p, .int .i64 x.key.q, .string x.key.str, .int .i64 x.key.ref, .int .i64 x.val.kind, .int .i64 x.val.p, .int .i64 x.val.q, .string x.val.str, .int .i64 x.val.ref, .bool x.gone]
def SltT : Ty Slt := ⟨142, 11, 104, true, Slt.v, ⟨zVl, zVl, false⟩⟩
theorem SltT_ok : SltT.Ok Try.prog := ok_of SltT _ Try.t142 (by decide) (fun _ => rfl) (fun x u hu => by simp [Ty.enc, SltT, Value.cells] at hu; rcases hu with rfl | rfl | rfl | rfl | rfl | rfl | rfl | rfl | rfl | rfl | rfl <;> rfl) (fun _ => rfl) Try.underlying142 rfl (fun h => by cases h) (by kernel_rfl) (by kernel_rfl) (by kernel_rfl) (by kernel_rfl)
def vK : KTy Vl := ⟨26, Vl.v⟩
theorem vK_ok {β : Type} : KTy.Ok (β := β) vK Try.prog := by
  refine Go.Mem.structK_ok (K := vK) Try.underlying26 (fun k => ⟨_, rfl⟩) (fun b k w => by kernel_rfl) (fun k => ?_) (fun k k' w => Go.Mem.equal_of_bin (eqVlT k k' w).1)
  show Instr.sameBits 10000 (Vl.v k) (Vl.v k) = true
  unfold Instr.sameBits
  simp [Instr.sameBits, Go.Mem.bytes_beq]
abbrev nV (n : Nat) : Value := .int .i64 n
theorem intOk {β : Type} : KTy.Ok (β := β) (Go.Mem.intK 3) Try.prog := Go.Mem.intK_ok Try.underlying3
end Go.Proofs.Ytplkkhpokodbmaa
