/-
  Slices of bytes, and strings out of them. No condition but those that each rule says.
-/
import Derived.Test.YtjdlkemmcnncaaaST
import Derived.Laws.BytesString
set_option linter.unusedSimpArgs false
set_option linter.unusedVariables false
namespace Go.S
open Go.Hp Go.J
open Go.Mem (Ty elemAt)
/-- Bytes as the elements of a slice (e: uint8's number). -/
def byteT (e : TypeId) : Ty UInt8 := ⟨e, 1, 1, false, fun b => .int .u8 b.toNat, 0⟩
section
variable {P : Program} {E : Env} {Z : Zone} {As : List Asr} {o : Oper}
theorem byteT_ok {e : TypeId} {i : TypeInfo} (hd : P.underlying e = some (.int .u8)) (hi : P.info? e = some i) (hs : i.size = 1) (hb : i.bytes = 1) (hz : i.zero = some (.int .u8 0)) : (byteT e).Ok P :=
  ⟨Nat.one_pos, fun _ => rfl, fun x u hu => by
    have : u = .int .u8 x.toNat := by simpa [Ty.enc, byteT, Value.cells] using hu
    rw [this]; rfl, fun _ => rfl, ⟨_, hd, rfl⟩, fun _ => rfl, ⟨i, hi, hs, hb, hz⟩⟩
theorem flat_byte {e : TypeId} (L : List UInt8) : (byteT e).flat L = L.map fun b => Value.int .u8 b.toNat := by
  induction L with
  | nil => rfl
  | cons b r ih => show (byteT e).enc b ++ (byteT e).flat r = _; rw [ih]; rfl
theorem fold_push : ∀ (L : List UInt8) (s : ByteArray), (L.map fun b => (b.toNat : Int)).foldl (fun r n => r.push (UInt8.ofNat n.toNat)) s = ⟨s.data ++ L.toArray⟩
  | [], s => by cases s; simp
  | b :: r, s => by
    simp only [List.map_cons, List.foldl_cons]
    rw [fold_push r]
    have : UInt8.ofNat ((b.toNat : Int)).toNat = b := by simp
    rw [this]
    show (⟨(s.data.push b) ++ r.toArray⟩ : ByteArray) = _
    congr 1
    apply Array.ext'; simp
theorem t_bytes {s d e : TypeId} {x : Operand} {v : Value} {L : List UInt8} (hT : (byteT e).Ok P) (hs : P.underlying s = some (.slice e)) (he : P.underlying e = some (.int .u8)) (hd : P.underlying d = some .string) (a : Acc Z As (byteT e) v L) (ho : o.op = .convert s d x := by rfl) (hx : ev E x = v := by rfl) : Lt P E o Z As (.string ⟨L.toArray⟩) := fun H hH => by
  have hsl := a H hH
  refine ⟨fun w hw => ?_⟩
  unfold execOp
  simp only [ho, hx]
  refine Mem.run_v ?_
  have hbs : (Conv.bytesToString v).run P w = .ok (.string ⟨L.toArray⟩) w := by
    rcases hsl with ⟨⟨p, rfl⟩, rfl⟩ | ⟨g, off, cap, arr, e', fr, rfl, h1, h2, h3, h4, h5⟩
    · cases p with
      | none => rfl
      | some p => exact run_bytesToString w p 0 0 [] (by simp [loadCells, loadCellsFrom, Sem.run_pure])
    · have hc : ∀ j u, (L.map fun b => Value.int .u8 b.toNat)[j]? = some u → w.cell? ((⟨g, off, none⟩ : Addr).add j) = some u := by
        intro j u hj
        rw [← flat_byte (e := e), ← h5, List.getElem?_take] at hj
        split at hj
        · rw [List.getElem?_drop] at hj
          rw [Mem.addr_add, cell_of_row w g _ arr e' fr (by rw [hw]; exact h1), ← Array.getElem?_toList]; exact hj
        · cases hj
      have hl := run_loadCells_list (P := P) w ⟨g, off, none⟩ _ hc
      rw [List.length_map] at hl
      have h6 := run_bytesToString w ⟨g, off, none⟩ L.length cap (L.map fun b => (b.toNat : Int)) (by rw [hl]; simp)
      rw [h6, fold_push]
      simp
  rcases hsl.form with ⟨p, c, rfl⟩
  simp only [convert, Sem.run_bind, run_underlying hs, run_underlying hd, run_underlying he, Result.andThen_ok]
  exact hbs
end
end Go.S
