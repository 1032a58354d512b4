/-
  The logic of walks over memory in parts: operations that read (Lt), and operations that write. No condition but those that each rule says.
-/
import Derived.Test.YtmhpcebiamkciaaGreatG1
import Derived.ArgAppend
import Derived.Laws.BytesString
import Derived.Laws.IdiomRangeMap
import Derived.ProofKit
import Derived.Deep.Slices
import Derived.Test.YtmhpcebiamkciaaGreatProg
section
set_option linter.unusedSimpArgs false
set_option linter.unusedVariables false
namespace Go.S
open Go.Hp Go.J
open Go.Mem (Ty KTy blk elemAt addr_add addr_add_add pre suf aget aset adel apos Stamps aggDesc spliceAt)

section
variable {P : Program} {w0 : World} {ops : Array Oper} {Q : Exit → Act → World → Prop} {n : Nat} {E : Env} {Z : Zone} {As : List Asr} {o : Oper} {rest : List Oper}
/-- A slice can be read. -/
def Acc {α : Type} (Z : Zone) (As : List Asr) (T : Ty α) (v : Value) (L : List α) : Prop := ∀ H, Holds Z As H → Sl H T v L
section
variable {α : Type} {T : Ty α} {v : Value} {L M : List α}
theorem Acc.own (i : Nat) (hi : gt As i = some (own T v L) := by rfl) : Acc Z As T v L := fun H h => (h.ow hi).sl
theorem Acc.zn (k : Kn Z T v L) : Acc Z As T v L := fun H h => k.get h
theorem Acc.nil : Acc Z As T (.slice none 0 0) [] := fun H h => Sl.nil _ _
theorem Acc.pre (a : Acc Z As T v L) (hT : T.Ok P) (m : Nat) (hm : m ≤ L.length) : Acc Z As T (pre v m) (L.take m) := fun H h => (a H h).pre hT m hm
theorem Acc.suf (a : Acc Z As T v L) (hT : T.Ok P) (m : Nat) (hm : m ≤ L.length) : Acc Z As T (suf T.size v m) (L.drop m) := fun H h => (a H h).suf hT m hm
theorem Acc.lit (i : Nat) {g m : Nat} {arr : Array Value} {e : TypeId} (hT : T.Ok P) (L : List α) (hi : gt As i = some (blkA g arr e) := by rfl) (he : e = T.id := by rfl) (ha : arr.toList = T.flat L := by rfl) (hm : m = L.length := by rfl) (hl : L.length ≤ 9223372036854775807 := by simp) : Acc Z As T (.slice (some ⟨g, 0, none⟩) m m) L :=
  fun H h => (Ow.lit hT L (by have := h.blk hi; rw [he] at this; exact this) ha hm hl).sl
theorem Acc.kn {H : Heap} (a : Acc Z As T v L) (h : Holds Z As H) : Kn (zoneOf H) T v L := .of (a H h)
theorem Acc.len (a : Acc Z As T v L) : ∀ H, Holds Z As H → L.length ≤ 9223372036854775807 := fun H h => (a H h).len_le
/-- A block that was laid is a slice of its own. -/
theorem Holds.slice (i : Nat) {g m : Nat} {arr : Array Value} {e : TypeId} {H : Heap} (h : Holds Z As H) (hT : T.Ok P) (L : List α) (hi : gt As i = some (blkA g arr e) := by rfl) (he : e = T.id := by rfl) (ha : arr.toList = T.flat L := by rfl) (hm : m = L.length := by rfl) (hl : L.length ≤ 9223372036854775807 := by simp) : Holds Z (upd As i (S.own T (.slice (some ⟨g, 0, none⟩) m m) L)) H := by
  refine h.step hi fun S ⟨h1, h2⟩ => ⟨S, ⟨Ow.lit hT L (by rw [he] at h1; exact h1) ha hm hl, fun k => ?_⟩, Chg.refl _ _, fun k hk => .inl hk⟩
  rw [h2 k]; show k = g ↔ some g = some k; simp [eq_comm]
theorem Holds.pre {i : Nat} {H : Heap} (h : Holds Z As H) (hT : T.Ok P) (m : Nat) (hi : gt As i = some (S.own T v L)) (hm : m ≤ L.length) : Holds Z (upd As i (S.own T (Go.Mem.pre v m) (L.take m))) H := by
  refine h.step hi fun S ⟨h1, h2⟩ => ⟨S, ⟨h1.pre hT m hm, fun k => ?_⟩, Chg.refl _ _, fun k hk => .inl hk⟩
  rw [h2 k, Go.Mem.blk_pre]
end

/-- An operation that only reads. -/
def Lt (P : Program) (E : Env) (o : Oper) (Z : Zone) (As : List Asr) (v : Value) : Prop := ∀ H, Holds Z As H → Light P E o H v
theorem s_lt {v : Value} {d : Nat} (t : Lt P E o Z As v) (h : SL P w0 ops Q n rest ((d, v) :: E) Z As) (hd : o.dst = some d := by rfl) (hk : okOp ops n E o = true := by kernel_rfl) : SL P w0 ops Q n (o :: rest) E Z As :=
  fun H hH => l_read v hk (fun w hw => (t H hH).run w hw) (by rw [hd]; exact h H hH)
theorem s_lt0 {v : Value} (t : Lt P E o Z As v) (h : SL P w0 ops Q n rest E Z As) (hd : o.dst = none := by rfl) (hk : okOp ops n E o = true := by kernel_rfl) : SL P w0 ops Q n (o :: rest) E Z As :=
  fun H hH => l_read v hk (fun w hw => (t H hH).run w hw) (by rw [hd]; exact h H hH)
theorem s_skip {d : Nat} (h : SL P w0 ops Q n rest ((d, undef) :: E) Z As) (hd : o.dst = some d := by rfl) (hu : unwant ops E o = true := by kernel_rfl) (hk : dstOk n o.dst = true := by rfl) : SL P w0 ops Q n (o :: rest) E Z As :=
  fun H hH => l_skip hu hk (by rw [hd]; exact h H hH)
theorem s_skip0 (h : SL P w0 ops Q n rest E Z As) (hd : o.dst = none := by rfl) (hu : unwant ops E o = true := by kernel_rfl) (hk : dstOk n o.dst = true := by rfl) : SL P w0 ops Q n (o :: rest) E Z As :=
  fun H hH => l_skip hu hk (by rw [hd]; exact h H hH)
theorem s_fork {l : List Oper} (t : Nat) (c : Bool) (h1 : c = true → SL P w0 ops Q n l ((t, .bool true) :: E) Z As) (h2 : c = false → SL P w0 ops Q n l ((t, .bool false) :: E) Z As) (hv : J.look E t = .bool c := by rfl) (hh : J.has E t = true := by rfl) : SL P w0 ops Q n l E Z As :=
  fun H hH => l_fork t c hh hv (fun e => h1 e H hH) (fun e => h2 e H hH)

theorem t_pure (v : Value) (hr : ∀ w, (execOp (ev E) o).run P w = .ok (.value v) w := by exact fun _ => rfl) : Lt P E o Z As v := fun _ _ => r_pure v hr
theorem t_kern (v : Value) (hr : ∀ w, (execOp (ev E) o).run P w = .ok (.value v) w := by intro _; kernel_rfl) : Lt P E o Z As v := fun _ _ => r_pure v hr
theorem t_add {t u : TypeId} {x y : Operand} (a b : Int) (hb : -9223372036854775808 ≤ a + b ∧ a + b ≤ 9223372036854775807) (ho : o.op = .binOp .add t x y u := by rfl) (hx : ev E x = .int .i64 a := by rfl) (hy : ev E y = .int .i64 b := by rfl) : Lt P E o Z As (.int .i64 (a + b)) := fun _ _ => r_add ho a b hx hy hb
theorem t_sub {t u : TypeId} {x y : Operand} (a b : Int) (hb : -9223372036854775808 ≤ a - b ∧ a - b ≤ 9223372036854775807) (ho : o.op = .binOp .sub t x y u := by rfl) (hx : ev E x = .int .i64 a := by rfl) (hy : ev E y = .int .i64 b := by rfl) : Lt P E o Z As (.int .i64 (a - b)) := fun _ _ => r_sub ho a b hx hy hb
theorem t_mul {t u : TypeId} {x y : Operand} (a b : Int) (hb : -9223372036854775808 ≤ a * b ∧ a * b ≤ 9223372036854775807) (ho : o.op = .binOp .mul t x y u := by rfl) (hx : ev E x = .int .i64 a := by rfl) (hy : ev E y = .int .i64 b := by rfl) : Lt P E o Z As (.int .i64 (a * b)) := fun _ _ => r_mul ho a b hx hy hb
theorem t_addW {t u : TypeId} {x y : Operand} (a b : Int) (ho : o.op = .binOp .add t x y u := by rfl) (hx : ev E x = .int .i64 a := by rfl) (hy : ev E y = .int .i64 b := by rfl) : Lt P E o Z As (.int .i64 (IntKind.i64.wrap (a + b))) := fun _ _ => r_addW ho a b hx hy
theorem t_subW {t u : TypeId} {x y : Operand} (a b : Int) (ho : o.op = .binOp .sub t x y u := by rfl) (hx : ev E x = .int .i64 a := by rfl) (hy : ev E y = .int .i64 b := by rfl) : Lt P E o Z As (.int .i64 (IntKind.i64.wrap (a - b))) := fun _ _ => r_subW ho a b hx hy
theorem t_cmp {op : BinOp} {t u : TypeId} {x y : Operand} {k : IntKind} {a b : Int} {c : Bool} (ho : o.op = .binOp op t x y u := by rfl) (hx : ev E x = .int k a := by rfl) (hy : ev E y = .int k b := by rfl) (hc : cmpI op a b = some c := by rfl) : Lt P E o Z As (.bool c) := fun _ _ => r_cmp ho k a b c hx hy hc
theorem t_cmpS {op : BinOp} {t u : TypeId} {x y : Operand} {a b : ByteArray} {c : Bool} (ho : o.op = .binOp op t x y u := by rfl) (hx : ev E x = .string a := by rfl) (hy : ev E y = .string b := by rfl) (hc : cmpS op a b = some c := by rfl) : Lt P E o Z As (.bool c) := fun _ _ => r_cmpS ho a b c hx hy hc
theorem t_eqS {op : BinOp} {t u : TypeId} {x y : Operand} {xs ys : Array Value} {c : Bool} (hr : ∀ w, (binOp op t (.agg xs) (.agg ys)).run P w = .ok (.bool c) w) (ho : o.op = .binOp op t x y u := by rfl) (hx : ev E x = .agg xs := by rfl) (hy : ev E y = .agg ys := by rfl) (hg : P.eqGuardType P.depth t = false := by kernel_rfl) : Lt P E o Z As (.bool c) := fun _ _ => r_eqS ho xs ys c hx hy hg hr
theorem t_load {t : TypeId} {x : Operand} {g k : Nat} {arr : Array Value} {e : TypeId} (i : Nat) (u : Value) (ho : o.op = .load t x := by rfl) (hx : ev E x = .pointer (some ⟨g, k, none⟩) := by rfl) (hA : gt As i = some (blkA g arr e) := by rfl) (hu : arr[k]? = some u := by rfl) (ht : scalarT P t = true := by kernel_rfl) : Lt P E o Z As u := fun H hH => r_loadC ho g k arr e (0, 0) u hx ht (hH.blk hA) hu
theorem t_loadA {t : TypeId} {x : Operand} {g k m : Nat} {arr : Array Value} {e : TypeId} (i : Nat) (cs : Array Value) (ho : o.op = .load t x := by rfl) (hx : ev E x = .pointer (some ⟨g, k, none⟩) := by rfl) (hA : gt As i = some (blkA g arr e) := by rfl) (hl : cs.size = m := by rfl) (hc : arr.toList.extract k (k + m) = cs.toList := by rfl) (ht : aggT P t m = true := by kernel_rfl) : Lt P E o Z As (.agg cs) := fun H hH => r_loadA ho g k m arr e (0, 0) cs hx ht (hH.blk hA) hl hc
section
variable {α : Type} {T : Ty α} {v : Value} {L M : List α}
theorem t_loadE {t : TypeId} {x : Operand} {k : Nat} {y : α} {u : Value} (hT : T.Ok P) (a : Acc Z As T v L) (hy : L[k]? = some y) (hu : T.val y = u := by rfl) (ho : o.op = .load t x := by rfl) (hid : T.id = t := by rfl) (hx : ev E x = .pointer (some (elemAt T.size v k)) := by rfl) : Lt P E o Z As u := fun H hH => r_loadE ho hT hid v k y u L hx (a H hH) hy hu
theorem t_loadF {t : TypeId} {x : Operand} {k : Nat} {y : α} {u : Value} (j : Nat) (hT : T.Ok P) (a : Acc Z As T v L) (hy : L[k]? = some y) (hu : (T.enc y)[j]? = some u := by rfl) (ho : o.op = .load t x := by rfl) (hx : ev E x = .pointer (some ((elemAt T.size v k).add j)) := by rfl) (ht : scalarT P t = true := by kernel_rfl) : Lt P E o Z As u := fun H hH => r_loadF ho hT v k j y u L hx ht (a H hH) hy hu
theorem t_len {x : Operand} {t : TypeId} (hT : T.Ok P) (ht : P.underlying t = some (.slice T.id)) (a : Acc Z As T v L) (ho : o.op = .call { callee := .builtin .len, args := #[x], argTypes := #[t] } := by rfl) (hx : ev E x = v := by rfl) : Lt P E o Z As (.int .i64 L.length) := fun H hH => r_len ho hT ht hx (a H hH)
theorem t_index {x i : Operand} {t : TypeId} {q : IntKind} (hT : T.Ok P) (ht : P.underlying t = some (.slice T.id)) (a : Acc Z As T v L) (k : Int) (m : Nat) (h0 : 0 ≤ k) (hl : k < L.length) (hm : m = k.toNat) (ho : o.op = .indexAddr t x i := by rfl) (hx : ev E x = v := by rfl) (hi : ev E i = .int q k := by rfl) : Lt P E o Z As (.pointer (some (elemAt T.size v m))) := fun H hH => r_index ho hT ht q k hx hi (a H hH) h0 hl m hm
theorem t_pre {x i : Operand} {t : TypeId} {q : IntKind} (hT : T.Ok P) (ht : P.underlying t = some (.slice T.id)) (a : Acc Z As T v L) (k : Int) (m : Nat) (h0 : 0 ≤ k) (hl : k ≤ L.length) (hm : m = k.toNat) (ho : o.op = .slice t x none (some i) none := by rfl) (hx : ev E x = v := by rfl) (hi : ev E i = .int q k := by rfl) : Lt P E o Z As (pre v m) := fun H hH => r_pre ho hT ht q k hx hi (a H hH) h0 hl m hm
theorem t_suf {x i : Operand} {t : TypeId} {q : IntKind} (hT : T.Ok P) (ht : P.underlying t = some (.slice T.id)) (a : Acc Z As T v L) (k : Int) (m : Nat) (h0 : 0 ≤ k) (hl : k ≤ L.length) (hm : m = k.toNat) (ho : o.op = .slice t x (some i) none none := by rfl) (hx : ev E x = v := by rfl) (hi : ev E i = .int q k := by rfl) : Lt P E o Z As (suf T.size v m) := fun H hH => r_suf ho hT ht q k hx hi (a H hH) h0 hl m hm
end
theorem t_min {x y : Operand} {ts : Array TypeId} {k : IntKind} {a b : Int} (ho : o.op = .call { callee := .builtin .min, args := #[x, y], argTypes := ts } := by rfl) (hx : ev E x = .int k a := by rfl) (hy : ev E y = .int k b := by rfl) : Lt P E o Z As (.int k (if b < a then b else a)) := fun _ _ => r_min ho k a b hx hy
theorem t_max {x y : Operand} {ts : Array TypeId} {k : IntKind} {a b : Int} (ho : o.op = .call { callee := .builtin .max, args := #[x, y], argTypes := ts } := by rfl) (hx : ev E x = .int k a := by rfl) (hy : ev E y = .int k b := by rfl) : Lt P E o Z As (.int k (if a < b then b else a)) := fun _ _ => r_max ho k a b hx hy
section
variable {κ β : Type} [DecidableEq κ] {K : KTy κ} {V : β → Value} {b : Nat} {m : List (κ × β)}
theorem t_lookup {x y : Operand} {t e : TypeId} (i : Nat) (hK : KTy.Ok (β := β) K P) (ht : P.underlying t = some (.map K.id e)) (z : Value) (k : κ) (hA : gt As i = some (mpA K V b m) := by rfl) (hz : ∀ w, (zeroValue e).run P w = .ok z w := by intro _; kernel_rfl) (ho : o.op = .lookup t x y false := by rfl) (hx : ev E x = .map (some b) := by rfl) (hy : ev E y = K.val k := by rfl) : Lt P E o Z As (((aget m k).map V).getD z) := fun H hH => r_lookup ho hK ht z hz k hx hy (hH.mp hA)
theorem t_lookupOk {x y : Operand} {t e : TypeId} (i : Nat) (hK : KTy.Ok (β := β) K P) (ht : P.underlying t = some (.map K.id e)) (z : Value) (k : κ) (hA : gt As i = some (mpA K V b m) := by rfl) (hz : ∀ w, (zeroValue e).run P w = .ok z w := by intro _; kernel_rfl) (ho : o.op = .lookup t x y true := by rfl) (hx : ev E x = .map (some b) := by rfl) (hy : ev E y = K.val k := by rfl) : Lt P E o Z As (.tuple #[((aget m k).map V).getD z, .bool (aget m k).isSome]) := fun H hH => r_lookupOk ho hK ht z hz k hx hy (hH.mp hA)
end
/-- What is read is spelt otherwise. -/
theorem Lt.to {v v' : Value} (t : Lt P E o Z As v) (e : v = v') : Lt P E o Z As v' := e ▸ t

/-! ### New blocks -/
theorem Holds.newB {H H' : Heap} {g : Nat} {arr : Array Value} {e : TypeId} (h : Holds Z As H) (hn : New H H' g (.cells arr e (0, 0))) : Holds Z (blkA g arr e :: As) H' :=
  h.new (hn.chg _) (S' := fun k => k = g) ⟨hn.is, fun k => Iff.rfl⟩ fun k hk => by rw [hk, hn.at_]; exact Nat.le_refl _
theorem s_box {t : TypeId} {x : Operand} {d : Nat} {u : Value} (cs : Array Value) (h : ∀ g, SL P w0 ops Q n rest ((d, .pointer (some ⟨g, 0, none⟩)) :: E) Z (blkA g cs t :: As)) (ho : o.op = .box t x := by rfl) (hx : ev E x = u := by rfl) (hc : u.cells = cs := by rfl) (hd : o.dst = some d := by rfl) (hk : okOp ops n E o = true := by kernel_rfl) : SL P w0 ops Q n (o :: rest) E Z As :=
  fun H hH => l_box ho u cs hk hx hc fun g H' hn => by rw [hd]; exact h g H' (hH.newB hn)
theorem s_alloc {t : TypeId} {d : Nat} (z : Value) (cs : Array Value) (h : ∀ g, SL P w0 ops Q n rest ((d, .pointer (some ⟨g, 0, none⟩)) :: E) Z (blkA g cs t :: As)) (ho : o.op = .alloc t := by rfl) (hc : z.cells = cs := by rfl) (hz : ∀ w, (zeroValue t).run P w = .ok z w := by intro _; kernel_rfl) (hd : o.dst = some d := by rfl) (hk : okOp ops n E o = true := by kernel_rfl) : SL P w0 ops Q n (o :: rest) E Z As :=
  fun H hH => l_alloc ho z cs hk hz hc fun g H' hn => by rw [hd]; exact h g H' (hH.newB hn)
theorem s_buildSlice {t e : TypeId} {len d : Nat} {ps : Array (Nat × Operand)} (pl : List (Nat × Value)) (cs : Array Value) (h : ∀ g, SL P w0 ops Q n rest ((d, .slice (some ⟨g, 0, none⟩) len len) :: E) Z (blkA g cs e :: As)) (ho : o.op = .buildSlice t len ps := by rfl) (hpl : (ps.toList.map fun p => (p.1, ev E p.2)) = pl := by rfl) (hb : builtCells P t len pl = some (e, cs)) (hd : o.dst = some d := by rfl) (hk : okOp ops n E o = true := by kernel_rfl) : SL P w0 ops Q n (o :: rest) E Z As :=
  fun H hH => l_buildSlice ho pl e cs hk hpl hb fun g H' hn => by rw [hd]; exact h g H' (hH.newB hn)
theorem s_makeMap {t : TypeId} {d : Nat} {κ β : Type} [DecidableEq κ] (K : KTy κ) (V : β → Value) (h : ∀ b, SL P w0 ops Q n rest ((d, .map (some b)) :: E) Z (mpA K V b [] :: As)) (ho : o.op = .makeMap t none := by rfl) (hd : o.dst = some d := by rfl) (hk : okOp ops n E o = true := by kernel_rfl) : SL P w0 ops Q n (o :: rest) E Z As :=
  fun H hH => l_makeMap ho hk fun g H' hn => by
    rw [hd]
    exact h g H' (hH.new (hn.chg _) (S' := fun k => k = g) ⟨Mp.made hn.is K V, fun k => Iff.rfl⟩ fun k hk => by rw [hk, hn.at_]; exact Nat.le_refl _)

/-! ### Writing -/
theorem s_store {t : TypeId} {x y : Operand} {g k m : Nat} {arr : Array Value} {e : TypeId} {u : Value} (i : Nat) (arr' : Array Value) (h : SL P w0 ops Q n rest E Z (upd As i (blkA g arr' e))) (ho : o.op = .store t x y := by rfl) (hx : ev E x = .pointer (some ⟨g, k, none⟩) := by rfl) (hy : ev E y = u := by rfl) (hA : gt As i = some (blkA g arr e) := by rfl) (hm : u.cells.size = m := by rfl) (hs : sizeT P t m = true := by kernel_rfl) (hfit : Nat.ble (k + m) arr.size = true := by rfl) (h1 : (u.cells.toList.all fun c => c.oneCell') = true := by rfl) (ha' : (spliceAt arr.toList k u.cells.toList) = arr'.toList := by rfl) (hd : o.dst = none := by rfl) (hk : okOp ops n E o = true := by kernel_rfl) : SL P w0 ops Q n (o :: rest) E Z As :=
  fun H hH => l_store ho g k m arr arr' e u hk hx hy hs (hH.blk hA) hm hfit h1 ha' fun H' hp => by
    rw [hd]
    exact h H' (hH.step hA fun S ⟨_, h2⟩ => ⟨S, ⟨hp.is, h2⟩, hp.chg.mono (fun j _ hj => (h2 j).2 hj), fun k hk => .inl hk⟩)
section
variable {α : Type} {T : Ty α} {v : Value} {L M : List α}
theorem own_step {H H' : Heap} {i : Nat} {v' : Value} {L' : List α} (hH : Holds Z As H) (hA : gt As i = some (own T v L)) (ow : Ow H' T v' L') (chg : Chg (fun k => blk v = some k) H H') (mv : ∀ g, blk v' = some g → blk v = some g ∨ H.size ≤ g) : Holds Z (upd As i (own T v' L')) H' :=
  hH.step hA fun S ⟨_, h2⟩ => ⟨fun k => blk v' = some k, ⟨ow, fun k => Iff.rfl⟩, chg.mono (fun j _ hj => (h2 j).2 hj), fun k hk => (mv k hk).imp (h2 k).2 id⟩
theorem s_storeE {t : TypeId} {x y : Operand} {k m : Nat} {z : α} {u : Value} (i j : Nat) (z' : α) (hT : T.Ok P) (hz : L[k]? = some z) (h : SL P w0 ops Q n rest E Z (upd As i (own T v (L.set k z')))) (ho : o.op = .store t x y := by rfl) (hA : gt As i = some (own T v L) := by rfl) (hx : ev E x = .pointer (some ((elemAt T.size v k).add j)) := by rfl) (hy : ev E y = u := by rfl) (hm : u.cells.size = m := by rfl) (hs : sizeT P t m = true := by kernel_rfl) (hfit : Nat.ble (j + m) T.size = true := by rfl) (h1 : (u.cells.toList.all fun c => c.oneCell') = true := by rfl) (he : T.enc z' = spliceAt (T.enc z) j u.cells.toList := by rfl) (hd : o.dst = none := by rfl) (hk : okOp ops n E o = true := by kernel_rfl) : SL P w0 ops Q n (o :: rest) E Z As :=
  fun H hH => l_storeE ho hT v k j m z z' u L hk hx hy hs (hH.ow hA) hz hm hfit h1 he fun H' ow chg => by
    rw [hd]; exact h H' (own_step hH hA ow chg fun g hg => .inl hg)
theorem s_append {s x : Operand} {t : TypeId} {d : Nat} {v2 : Value} (i : Nat) (hT : T.Ok P) (ht : P.underlying t = some (.slice T.id)) (a : Acc Z As T v2 M) (hb : (L.length + M.length) * T.bytes ≤ 140737488355328) (h63 : L.length + M.length ≤ 9223372036854775807) (h : ∀ v', SL P w0 ops Q n rest ((d, v') :: E) Z (upd As i (own T v' (L ++ M)))) (ho : o.op = .call { callee := .builtin .append, args := #[s, x], argTypes := #[t, t] } := by rfl) (hA : gt As i = some (own T v L) := by rfl) (hs : ev E s = v := by rfl) (hx : ev E x = v2 := by rfl) (hd : o.dst = some d := by rfl) (hk : okOp ops n E o = true := by kernel_rfl) : SL P w0 ops Q n (o :: rest) E Z As :=
  fun H hH => l_append ho hT ht v2 hk hs hx (hH.ow hA) (a H hH) hb h63 fun v' H' ap => by
    rw [hd]; exact h v' H' (own_step hH hA ap.ow ap.chg ap.moved)
theorem s_appendN {s x : Operand} {t : TypeId} {d : Nat} {v2 : Value} (hT : T.Ok P) (ht : P.underlying t = some (.slice T.id)) (a : Acc Z As T v2 M) (hb : M.length * T.bytes ≤ 140737488355328) (h : ∀ v', SL P w0 ops Q n rest ((d, v') :: E) Z (own T v' M :: As)) (ho : o.op = .call { callee := .builtin .append, args := #[s, x], argTypes := #[t, t] } := by rfl) (hs : ev E s = .slice none 0 0 := by rfl) (hx : ev E x = v2 := by rfl) (hd : o.dst = some d := by rfl) (hk : okOp ops n E o = true := by kernel_rfl) : SL P w0 ops Q n (o :: rest) E Z As :=
  fun H hH => l_append ho hT ht v2 hk hs hx (Ow.nil H T) (a H hH) (by simpa using hb) (by simpa using (a H hH).len_le) fun v' H' ap => by
    rw [hd]
    exact h v' H' (hH.new (ap.chg.mono fun k _ hk => by simp [blk, Value.ownBlock] at hk) (S' := fun k => blk v' = some k) ⟨by have := ap.ow; simpa using this, fun k => Iff.rfl⟩ fun k hk => (ap.moved k hk).elim (fun h => by simp [blk, Value.ownBlock] at h) id)
theorem s_make {t : TypeId} {x y : Operand} {q q' : IntKind} {d : Nat} (hT : T.Ok P) (ht : P.underlying t = some (.slice T.id)) (k : Int) (h0 : 0 ≤ k) (hb : T.bytes * k.toNat ≤ 281474976710656) (h63 : k ≤ 9223372036854775807) (h : ∀ v', SL P w0 ops Q n rest ((d, v') :: E) Z (own T v' (List.replicate k.toNat T.zero) :: As)) (ho : o.op = .makeSlice t x y := by rfl) (hx : ev E x = .int q k := by rfl) (hy : ev E y = .int q' k := by rfl) (hd : o.dst = some d := by rfl) (hk : okOp ops n E o = true := by kernel_rfl) : SL P w0 ops Q n (o :: rest) E Z As :=
  fun H hH => l_make ho hT ht q q' k hk hx hy h0 hb h63 fun g H' v' hg ow chg hbk _ => by
    rw [hd]
    exact h v' H' (hH.new (chg _) (S' := fun k => blk v' = some k) ⟨ow, fun k => Iff.rfl⟩ fun k hk => by rw [hbk] at hk; cases hk; omega)
theorem s_copy {s x : Operand} {t t' : TypeId} {d : Nat} {v2 : Value} (i : Nat) (hT : T.Ok P) (ht : P.underlying t = some (.slice T.id)) (a : Acc Z As T v2 M) (h : SL P w0 ops Q n rest ((d, .int .i64 (min M.length L.length : Nat)) :: E) Z (upd As i (own T v (M.take L.length ++ L.drop M.length)))) (ho : o.op = .call { callee := .builtin .copy, args := #[s, x], argTypes := #[t, t'] } := by rfl) (hA : gt As i = some (own T v L) := by rfl) (hs : ev E s = v := by rfl) (hx : ev E x = v2 := by rfl) (hd : o.dst = some d := by rfl) (hk : okOp ops n E o = true := by kernel_rfl) : SL P w0 ops Q n (o :: rest) E Z As :=
  fun H hH => l_copy ho hT ht v2 hk hs hx (hH.ow hA) (a H hH) fun H' ow chg _ => by
    rw [hd]; exact h H' (own_step hH hA ow chg fun g hg => .inl hg)
theorem s_copy0 {s x : Operand} {t t' : TypeId} {v2 : Value} (i : Nat) (hT : T.Ok P) (ht : P.underlying t = some (.slice T.id)) (a : Acc Z As T v2 M) (h : SL P w0 ops Q n rest E Z (upd As i (own T v (M.take L.length ++ L.drop M.length)))) (ho : o.op = .call { callee := .builtin .copy, args := #[s, x], argTypes := #[t, t'] } := by rfl) (hA : gt As i = some (own T v L) := by rfl) (hs : ev E s = v := by rfl) (hx : ev E x = v2 := by rfl) (hd : o.dst = none := by rfl) (hk : okOp ops n E o = true := by kernel_rfl) : SL P w0 ops Q n (o :: rest) E Z As :=
  fun H hH => l_copy ho hT ht v2 hk hs hx (hH.ow hA) (a H hH) fun H' ow chg _ => by
    rw [hd]; exact h H' (own_step hH hA ow chg fun g hg => .inl hg)
end
section
variable {κ β : Type} [DecidableEq κ] {K : KTy κ} {V : β → Value} {b : Nat} {m : List (κ × β)}
theorem mp_step {H H' : Heap} {i : Nat} {m' : List (κ × β)} (hH : Holds Z As H) (hA : gt As i = some (mpA K V b m)) (u : Upd H H' K V b m') : Holds Z (upd As i (mpA K V b m')) H' :=
  hH.step hA fun S ⟨_, h2⟩ => ⟨S, ⟨u.mp, h2⟩, u.chg.mono (fun j _ hj => (h2 j).2 hj), fun k hk => .inl hk⟩
theorem s_update {x y z : Operand} {t e : TypeId} (i : Nat) (hK : KTy.Ok (β := β) K P) (ht : P.underlying t = some (.map K.id e)) (k : κ) (u : β) (h : SL P w0 ops Q n rest E Z (upd As i (mpA K V b (aset m k u)))) (ho : o.op = .mapUpdate t x y z := by rfl) (hA : gt As i = some (mpA K V b m) := by rfl) (hx : ev E x = .map (some b) := by rfl) (hy : ev E y = K.val k := by rfl) (hu : ev E z = V u := by rfl) (hd : o.dst = none := by rfl) (hk : okOp ops n E o = true := by kernel_rfl) : SL P w0 ops Q n (o :: rest) E Z As :=
  fun H hH => l_update ho hK ht k u hk hx hy hu (hH.mp hA) fun H' up => by rw [hd]; exact h H' (mp_step hH hA up)
theorem s_insert {x y z : Operand} {t e : TypeId} (i : Nat) (hK : KTy.Ok (β := β) K P) (ht : P.underlying t = some (.map K.id e)) (k : κ) (u : β) (h : SL P w0 ops Q n rest E Z (upd As i (mpA K V b (aset m k u)))) (ho : o.op = .insert t x y z := by rfl) (hA : gt As i = some (mpA K V b m) := by rfl) (hx : ev E x = .map (some b) := by rfl) (hy : ev E y = K.val k := by rfl) (hu : ev E z = V u := by rfl) (hd : o.dst = none := by rfl) (hk : okOp ops n E o = true := by kernel_rfl) : SL P w0 ops Q n (o :: rest) E Z As :=
  fun H hH => l_insert ho hK ht k u hk hx hy hu (hH.mp hA) fun H' up => by rw [hd]; exact h H' (mp_step hH hA up)
end

/-! ### Regions that draw, with loads beside calls -/
def HS (Z : Zone) (Ks : List Asr) (H : Heap) : Prop := ∃ Fs, Holds Z (Ks ++ Fs) H
def SH (P : Program) (w0 : World) (l : List Oper) (Q : Exit → Act → World → Prop) (n : Nat) (Z : Zone) (Ks : List Asr) (fuel : Nat) (listed : Array Bool) (E : Env) (As : List Asr) : Prop := ∀ H, Holds Z As H → JH P w0 l Q n (HS Z Ks) fuel listed E H
section
variable {l : List Oper} {Ks : List Asr} {fuel : Nat} {listed : Array Bool}
theorem k_held {id : Nat} (Ks : List Asr) (h : SH P w0 l Q n Z Ks l.length (Array.replicate l.length false) E As) (hm : P.follows .mixedOrders = true := by kernel_rfl) : SK P w0 (.region id l.toArray true) Q n E Z As := fun H hH => c_held (HS Z Ks) hm (h H hH)
theorem np_finS {fn : Func} {R : Value → List Asr → Prop} : NP (FinS P fn w0 Z R) := np_fin
theorem h_lt {d : Nat} {v : Value} (i : Nat) (hi : l[i]? = some o) (hQ : NP Q) (is : List Nat) {Fs : List Asr} (t : ∀ Fs, Lt P E o Z (Ks ++ Fs) v) (h : SH P w0 l Q n Z Ks fuel (listed.setIfInBounds i true) ((d, v) :: E) As) (hd : o.dst = some d := by rfl) (hS : rearr As is = Ks ++ Fs := by rfl) (hc : canTake l listed i = true := by kernel_rfl) (hk : okOp l.toArray n E o = true := by kernel_rfl) : SH P w0 l Q n Z Ks (fuel + 1) listed E As :=
  fun H hH => h_light i hi hc hQ hk (fun Hh ⟨Fs, hF⟩ => t Fs Hh hF) ⟨Fs, hS ▸ hH.rearr is⟩ (by rw [hd]; exact h H hH)
theorem h_skipS {d : Nat} (i : Nat) (hQ : NP Q) (is : List Nat) {Fs : List Asr} (h : SH P w0 l Q n Z Ks fuel (listed.setIfInBounds i true) ((d, undef) :: E) As) (hi : l[i]? = some o := by rfl) (hd : o.dst = some d := by rfl) (hS : rearr As is = Ks ++ Fs := by rfl) (hc : canTake l listed i = true := by kernel_rfl) (hu : unwant l.toArray E o = true := by kernel_rfl) (hk : dstOk n o.dst = true := by rfl) : SH P w0 l Q n Z Ks (fuel + 1) listed E As :=
  fun H hH => h_skip i hi hc hQ hu hk ⟨Fs, hS ▸ hH.rearr is⟩ (by rw [hd]; exact h H hH)
theorem h_stepS (i : Nat) (h : SL P w0 l.toArray (heldQ P l Q (HS Z Ks) fuel (listed.setIfInBounds i true)) n [o] E Z As) (hi : l[i]? = some o := by rfl) (hr : Region.ready .any l.toArray listed = [i] := by kernel_rfl) : SH P w0 l Q n Z Ks (fuel + 1) listed E As := fun H hH => h_step i hi hr (h H hH)
theorem xs_held (is : List Nat) {Fs : List Asr} (h : SH P w0 l Q n Z Ks fuel listed E As) (hS : rearr As is = Ks ++ Fs := by rfl) : SX w0 .normal (heldQ P l Q (HS Z Ks) fuel listed) n E Z As := fun H hH => x_held ⟨Fs, hS ▸ hH.rearr is⟩ (h H hH)
theorem h_doneS (h : SX w0 .normal Q n E Z As) (hr : Region.ready .any l.toArray listed = [] := by kernel_rfl) : SH P w0 l Q n Z Ks fuel listed E As := fun H hH => h_done hr (h H hH)
theorem h_forkS (t : Nat) (c : Bool) (h1 : c = true → SH P w0 l Q n Z Ks fuel listed ((t, .bool true) :: E) As) (h2 : c = false → SH P w0 l Q n Z Ks fuel listed ((t, .bool false) :: E) As) (hv : J.look E t = .bool c := by rfl) (hh : J.has E t = true := by rfl) : SH P w0 l Q n Z Ks fuel listed E As :=
  fun H hH => h_fork t c hh hv (fun e => h1 e H hH) (fun e => h2 e H hH)
end
end
end Go.S
end
section
set_option linter.unusedSimpArgs false
set_option linter.unusedVariables false
namespace Go.S
open Go.Hp Go.J
open Go.Mem (Ty KTy blk)

section
variable {P : Program} {Z : Zone} {As Bs F : List Asr} {H H' : Heap} {A A' : Asr} {f : FuncId} {args : Array Value}
theorem Holds.split (h : Holds Z (A :: As) H) : ∃ S, A.on H S ∧ ∀ (H' : Heap) (Cs : List Asr) (S' : Nat → Prop), SepL Cs H' S' → Chg S H H' → (∀ k, S' k → S k ∨ H.size ≤ k) → Holds Z (Cs ++ As) H' := by
  obtain ⟨S, ⟨S1, S2, h1, h2, hd', hS⟩, hd⟩ := h.sep
  refine ⟨S1, h1, fun H' Cs S1' h1' hc hsub => ?_⟩
  refine ⟨fun k hk => ?_, fun k => S1' k ∨ S2 k, SepL.append_iff.2 ⟨S1', S2, h1', h2.keep fun k hk => ?_, fun k a b => ?_, fun k => Iff.rfl⟩, ?_⟩
  · have hz := h.zone k hk
    refine ⟨(hc.block k hz.2 fun h1k => ?_).trans hz.1, Nat.lt_of_lt_of_le hz.2 hc.size⟩
    exact hd k ((hS k).2 (.inl h1k)) hk
  · exact hc.block k (h2.lt k hk) fun h1k => hd' k h1k hk
  · rcases hsub k a with h | h
    · exact hd' k h b
    · have := h2.lt k b; omega
  · rintro k (a | a) hz
    · rcases hsub k a with h' | h'
      · exact hd k ((hS k).2 (.inl h')) hz
      · have := (h.zone k hz).2; omega
    · exact hd k ((hS k).2 (.inr a)) hz
theorem sepL_one {S : Nat → Prop} (h : A.on H S) : SepL [A] H S := ⟨S, fun _ => False, h, fun _ h => h, fun _ _ h => h, fun k => by simp⟩
/-- A contract that turns one part. -/
theorem sf_of {val : Value} (h : ∀ H S, A.on H S → HC P f args H fun v H' => v = val ∧ ∃ S', A'.on H' S' ∧ Chg S H H' ∧ ∀ k, S' k → S k ∨ H.size ≤ k) : SF P f args Z (A :: F) fun v Bs => v = val ∧ Bs = A' :: F := fun H hH => by
  obtain ⟨S, hS, hk⟩ := hH.split
  exact (h H S hS).mono fun v H' ⟨hv, S', hA, hc, hs⟩ => ⟨_, ⟨hv, rfl⟩, hk H' [A'] S' (sepL_one hA) hc hs⟩
/-- A contract that turns nothing old. -/
theorem sf_val {val : Value} (h : ∀ H, Holds Z [] H → HC P f args H fun v H' => v = val ∧ Chg (fun _ => False) H H') : SF P f args Z [] fun v Bs => v = val ∧ Bs = [] := fun H hH =>
  (h H hH).mono fun v H' ⟨hv, hc⟩ => ⟨_, ⟨hv, rfl⟩, hH.ext hc⟩
theorem sf_own {α : Type} {T : Ty α} {L : List α} (h : ∀ H, Holds Z [] H → HC P f args H fun v H' => Ow H' T v L ∧ Chg (fun _ => False) H H' ∧ ∀ k, blk v = some k → H.size ≤ k) : SF P f args Z [] fun v Bs => Bs = [own T v L] := fun H hH =>
  (h H hH).mono fun v H' ⟨hv, hc, hlo⟩ => ⟨_, rfl, hH.new hc (S' := fun k => blk v = some k) ⟨hv, fun k => Iff.rfl⟩ hlo⟩
theorem Holds.nilS {α : Type} {T : Ty α} (h : Holds Z As H) : Holds Z (own T (.slice none 0 0) [] :: As) H :=
  h.new (Chg.refl _ _) (S' := fun _ => False) ⟨Ow.nil _ _, fun k => ⟨fun h => h.elim, fun h => by cases h⟩⟩ fun _ h => h.elim
/-- A part that lies in the zone. -/
def KnA (Z : Zone) (A : Asr) : Prop := ∃ S, A.on Z.heap S ∧ ∀ k, S k → Z.dom k
theorem KnA.get (k : KnA Z A) (h : Holds Z As H) : ∃ S, A.on H S := by
  obtain ⟨S, hS, hd⟩ := k
  exact ⟨S, A.keep hS fun k hk => (h.zone k (hd k hk)).1⟩
theorem Holds.kn (h : Holds Z As H) (i : Nat) (hi : gt As i = some A := by rfl) : KnA (zoneOf H) A := by
  obtain ⟨S, hS, _⟩ := h.part hi
  exact ⟨S, hS, fun k hk => A.lt hS k hk⟩
theorem Holds.knS {α : Type} {T : Ty α} {v : Value} {L : List α} (h : Holds Z As H) (i : Nat) (hi : gt As i = some (own T v L) := by rfl) : Kn (zoneOf H) T v L := .of (h.ow hi).sl
theorem Kn.up {α : Type} {T : Ty α} {v : Value} {L : List α} (k : Kn Z T v L) (h : Holds Z As H) : Kn (zoneOf H) T v L := .of (k.get h)
end
end Go.S
end
section
set_option linter.unusedSimpArgs false
set_option linter.unusedVariables false
namespace Go.S
open Go.Hp Go.J
section
variable {P : Program} {E : Env} {Z : Zone} {As : List Asr} {o : Oper}
theorem t_rem {t u : TypeId} {x y : Operand} {k : IntKind} (a b : Int) (hb : b ≠ 0) (ho : o.op = .binOp .rem t x y u := by rfl) (hx : ev E x = .int k a := by rfl) (hy : ev E y = .int k b := by rfl) : Lt P E o Z As (.int k (a.tmod b)) :=
  fun _ _ => r_pure _ (bin_run ho _ _ hx hy eqg_int fun w => by simp [binOp, Op.intDiv, hb, Sem.run_pure])
theorem t_quo {t u : TypeId} {x y : Operand} (a b : Int) (hb : b ≠ 0) (hr : -9223372036854775808 ≤ a.tdiv b ∧ a.tdiv b ≤ 9223372036854775807) (ho : o.op = .binOp .quo t x y u := by rfl) (hx : ev E x = .int .i64 a := by rfl) (hy : ev E y = .int .i64 b := by rfl) : Lt P E o Z As (.int .i64 (a.tdiv b)) :=
  fun _ _ => r_pure _ (bin_run ho _ _ hx hy eqg_int fun w => by simp [binOp, Op.intDiv, hb, wrap64 hr, Sem.run_pure])
theorem t_neg {t : TypeId} {x : Operand} (a : Int) (hr : -9223372036854775808 ≤ -a ∧ -a ≤ 9223372036854775807) (ho : o.op = .unOp .neg t x := by rfl) (hx : ev E x = .int .i64 a := by rfl) : Lt P E o Z As (.int .i64 (-a)) :=
  fun _ _ => r_pure _ fun w => by
    unfold execOp
    simp [ho, hx, Op.unary, Op.intArith, Int.zero_sub, wrap64 hr, Sem.run_pure, Sem.run_bind]
theorem t_conv {s d : TypeId} {x : Operand} {k k' : IntKind} {ds : TypeDesc} (a : Int) (hw : k'.wrap a = a) (hs : P.underlying s = some ds) (hd : P.underlying d = some (.int k')) (ho : o.op = .convert s d x := by rfl) (hx : ev E x = .int k a := by rfl) : Lt P E o Z As (.int k' a) :=
  fun _ _ => r_pure _ fun w => by
    unfold execOp
    simp [ho, hx, convert, run_underlying hs, run_underlying hd, Conv.intToInt, hw, Sem.run_pure, Sem.run_bind]
end
end Go.S
end
section
set_option linter.unusedSimpArgs false
set_option linter.unusedVariables false
namespace Go.S
open Go.Hp Go.J
open Go.Mem (Ty KTy blk elemAt pre suf)
section
variable {P : Program} {w0 : World} {ops : Array Oper} {Q : Exit → Act → World → Prop} {n : Nat} {E : Env} {Z : Zone} {As : List Asr} {o : Oper} {rest : List Oper} {α : Type} {T : Ty α} {v u v2 : Value} {L M : List α} {w : World}
/-- u is v[k : k + m]. -/
def Sub (T : Ty α) (v u : Value) (k m : Nat) : Prop :=
  (∃ p c, u = .slice p m c) ∧ (0 < m → ∃ g l cap c', v = .slice (some ⟨g, 0, none⟩) l cap ∧ u = .slice (some ⟨g, k * T.size, none⟩) m c' ∧ m ≤ c')
theorem Sub.self {H : Heap} (h : Ow H T v L) : Sub T v v 0 L.length := by
  rcases h with ⟨rfl, rfl⟩ | ⟨g, cap, arr, rfl, _, hc, _⟩
  · exact ⟨⟨_, _, rfl⟩, fun h => absurd h (by simp)⟩
  · exact ⟨⟨_, _, rfl⟩, fun _ => ⟨g, L.length, cap, cap, rfl, by simp, hc⟩⟩
theorem Sub.suf {k m j : Nat} (h : Sub T v u k m) (hj : j ≤ m) : Sub T v (suf T.size u j) (k + j) (m - j) := by
  obtain ⟨⟨p, c, rfl⟩, h⟩ := h
  refine ⟨⟨_, _, rfl⟩, fun hp => ?_⟩
  obtain ⟨g, l, cap, c', hv, hu, hc⟩ := h (by omega)
  injection hu with e1 e2 e3
  subst e1 e3
  refine ⟨g, l, cap, c - j, hv, ?_, by omega⟩
  simp only [Go.Mem.suf]
  rw [if_neg (by omega)]
  simp only [Option.map_some, Mem.addr_add, Nat.add_mul]
theorem Sub.pre {k m j : Nat} (h : Sub T v u k m) (hj : j ≤ m) : Sub T v (pre u j) k j := by
  obtain ⟨⟨p, c, rfl⟩, h⟩ := h
  refine ⟨⟨_, _, rfl⟩, fun hp => ?_⟩
  obtain ⟨g, l, cap, c', hv, hu, hc⟩ := h (by omega)
  injection hu with e1 e2 e3
  subst e1 e3
  exact ⟨g, l, cap, c, hv, rfl, by omega⟩
theorem run_copySub (hT : T.Ok P) {dT sT ty : TypeId} (ht : P.underlying dT = some (.slice T.id)) {k m : Nat} (hv : Mem.Ow w T v L) (hs : Sub T v u k m) (hkm : k + m ≤ L.length) (h2 : Mem.Sl w T v2 M) :
    ∃ w', (Builtin.copy_ #[dT, sT] ty #[u, v2]).run P w = .ok (.int .i64 (min M.length m : Nat)) w' ∧ Mem.Ow w' T v (L.take k ++ (M.take m ++ L.drop (k + min M.length m))) ∧ Mem.Chg (fun j => blk v = some j) w w' := by
  obtain ⟨i, hi, hsz, hby, hz⟩ := hT.info
  have hlenL := hT.flat_len L
  have hlenM := hT.flat_len M
  have hn : Nat.min M.length m = min M.length m := rfl
  have hlm : min M.length m * T.size ≤ M.length * T.size := Nat.mul_le_mul_right _ (Nat.min_le_left _ _)
  have hcl : ((T.flat M).take (min M.length m * T.size)).length = min M.length m * T.size := by rw [List.length_take, hlenM]; omega
  have hlen : (Builtin.lenOf v2).run P w = .ok M.length w := by
    rcases h2 with ⟨⟨p2, rfl⟩, rfl⟩ | ⟨g2, off2, cap2, arr2, e2, fr2, rfl, _⟩ <;> simp [Builtin.lenOf, Sem.run_pure]
  have hfc : (Builtin.firstCells T.size (min M.length m) v2).run P w = .ok ((T.flat M).take (min M.length m * T.size)).toArray w := by
    rcases h2 with ⟨⟨p2, rfl⟩, rfl⟩ | ⟨g2, off2, cap2, arr2, e2, fr2, rfl, hg2, hc2, hm2, hf2, hr2⟩
    · cases p2 <;> simp [Builtin.firstCells, loadCells, loadCellsFrom, Ty.flat]
    · have hcs : ∀ j u, ((T.flat M).take (min M.length m * T.size))[j]? = some u → w.cell? ((⟨g2, off2, none⟩ : Addr).add j) = some u := by
        intro j u hj
        rw [List.getElem?_take] at hj
        split at hj
        · rw [← hr2, List.getElem?_take] at hj
          split at hj
          · rw [List.getElem?_drop] at hj
            rw [Mem.addr_add, cell_of_row w g2 _ arr2 e2 fr2 hg2, ← Array.getElem?_toList]; exact hj
          · cases hj
        · cases hj
      have hload := run_loadCells_list (P := P) w ⟨g2, off2, none⟩ _ hcs
      rw [hcl] at hload
      exact hload
  have hlen2 : (L.take k ++ (M.take m ++ L.drop (k + min M.length m))).length = L.length := by simp; omega
  obtain ⟨⟨p, c, rfl⟩, hp⟩ := hs
  by_cases hq : min M.length m = 0
  · refine ⟨w, ?_, ?_, Mem.Chg.refl _ _⟩
    · rw [hq] at hfc
      simp only [Nat.zero_mul, List.take_zero] at hfc
      simp only [Builtin.copy_, Sem.run_bind, run_underlying ht, Result.andThen_ok, hlen, Sem.run_pure, sizeOf, typeInfo, program, Sem.run, hi, hsz, hn, hq, hfc, goInt, List.getElem?_toArray, List.getElem?_cons_zero, List.getElem?_cons_succ]
      cases p <;> simp [storeCells, Sem.run_pure, Sem.run_bind]
    · have e : M.take m = [] := by
        rcases Nat.min_eq_zero_iff.1 hq with h | h
        · rw [List.eq_nil_of_length_eq_zero h]; simp
        · rw [h]; simp
      rw [hq, e]; simpa using hv
  · have hm0 : 0 < m := by have := Nat.min_le_right M.length m; omega
    obtain ⟨g, l, cap, c', hv', hu, hc'⟩ := hp hm0
    clear hp
    injection hu with e1 e2 e3
    subst e1
    rcases hv with ⟨rfl, rfl⟩ | ⟨g', cap', arr, rfl, hg, hc, hm, hf, hr⟩
    · cases hv'
    injection hv' with a1 a2 a3
    have a1' : g' = g := by injection a1 with b; injection b
    subst a1'
    have hcap : L.length * T.size ≤ cap' * T.size := Nat.mul_le_mul_right _ hc
    have hkm' : (k + m) * T.size ≤ L.length * T.size := Nat.mul_le_mul_right _ hkm
    have hqm : min M.length m * T.size ≤ m * T.size := Nat.mul_le_mul_right _ (Nat.min_le_right _ _)
    rw [Nat.add_mul] at hkm'
    have hst := run_storeCells_at P g' (k * T.size) T.id ((T.flat M).take (min M.length m * T.size)) 0 arr w hg (by rw [hcl]; omega) (fun u hu => hT.flat_one1 M u (List.mem_of_mem_take hu))
    simp only [Nat.add_zero, hcl] at hst
    refine ⟨_, ?_, .inr ⟨g', cap', (arr.toList.take (k * T.size) ++ (T.flat M).take (min M.length m * T.size) ++ arr.toList.drop (k * T.size + min M.length m * T.size)).toArray, by rw [hlen2], setRow_heap w g' arr _ T.id _ hg, by rw [hlen2]; exact hc, hm, ?_, ?_⟩, ⟨rfl, rfl, rfl, by simp, fun b _ hb => setRow_other w g' b _ fun e => hb (by simp [blk, Value.ownBlock, e])⟩⟩
    · simp only [Builtin.copy_, Sem.run_bind, run_underlying ht, Result.andThen_ok, hlen, Sem.run_pure, sizeOf, typeInfo, program, Sem.run, hi, hsz, hn, hfc, hst, goInt, List.getElem?_toArray, List.getElem?_cons_zero, List.getElem?_cons_succ]
    · simp only [List.size_toArray, List.length_append, List.length_take, List.length_drop, hcl, Array.length_toList]
      omega
    · rw [hlen2]
      have hA : arr.toList.length = arr.size := Array.length_toList
      have ek : arr.toList.take (k * T.size) = T.flat (L.take k) := by
        rw [← hT.flat_take, ← hr, List.take_take]; congr 1; omega
      have ed : (arr.toList.drop (k * T.size + min M.length m * T.size)).take (L.length * T.size - (k * T.size + min M.length m * T.size)) = T.flat (L.drop (k + min M.length m)) := by
        rw [← hT.flat_drop, ← hr, Nat.add_mul, List.drop_take]
      have l1 : (T.flat (L.take k)).length = k * T.size := by rw [hT.flat_len, List.length_take]; congr 1; omega
      have em : (T.flat M).take (min M.length m * T.size) = T.flat (M.take m) := by
        rw [hT.flat_take]; congr 1; rw [List.take_eq_take_iff]; omega
      have l2 : (T.flat (M.take m)).length = min M.length m * T.size := by rw [← em]; exact hcl
      have l3 : (T.flat (L.take k) ++ T.flat (M.take m)).length = k * T.size + min M.length m * T.size := by rw [List.length_append, l1, l2]
      show List.take (L.length * T.size) (arr.toList.take (k * T.size) ++ (T.flat M).take (min M.length m * T.size) ++ arr.toList.drop (k * T.size + min M.length m * T.size)) = _
      rw [ek, em, List.take_append, List.take_of_length_le (l := T.flat (L.take k) ++ T.flat (M.take m)) (by rw [l3]; omega), l3, ed, Ty.flat_append, Ty.flat_append, List.append_assoc]
theorem s_copyS {s x : Operand} {t t' : TypeId} {d : Nat} (i : Nat) (k m : Nat) (hT : T.Ok P) (ht : P.underlying t = some (.slice T.id)) (a : Acc Z As T v2 M) (hs : ∀ H, Ow H T v L → Sub T v u k m) (hkm : k + m ≤ L.length) (h : SL P w0 ops Q n rest ((d, .int .i64 (min M.length m : Nat)) :: E) Z (upd As i (own T v (L.take k ++ (M.take m ++ L.drop (k + min M.length m)))))) (ho : o.op = .call { callee := .builtin .copy, args := #[s, x], argTypes := #[t, t'] } := by rfl) (hA : gt As i = some (own T v L) := by rfl) (hu : ev E s = u := by rfl) (hx : ev E x = v2 := by rfl) (hd : o.dst = some d := by rfl) (hk : okOp ops n E o = true := by kernel_rfl) : SL P w0 ops Q n (o :: rest) E Z As := fun H hH => by
  refine l_run (R := fun v' H' => v' = .int .i64 (min M.length m : Nat) ∧ Ow H' T v (L.take k ++ (M.take m ++ L.drop (k + min M.length m))) ∧ Chg (fun k => blk v = some k) H H') hk (fun w ha => ?_) (fun v' H' ⟨a1, a2, a3⟩ => by
    subst a1; rw [hd]; exact h H' (own_step hH hA a2 a3 fun g hg => .inl hg))
  have hv' : Mem.Ow w T v L := by have := hH.ow hA; rw [← ha.heap] at this; exact this
  have h2' : Mem.Sl w T v2 M := by have := a H hH; rw [← ha.heap] at this; exact this
  obtain ⟨w', hr, q1, q2⟩ := run_copySub (ty := o.type) (sT := t') hT ht hv' (hs H (hH.ow hA)) hkm h2'
  refine ⟨_, w', ?_, ⟨rfl, q2.os.trans ha.os, q2.tape.trans ha.tape, q2.output.trans ha.output⟩, rfl, q1, ?_⟩
  · unfold execOp
    simp only [ho, resolve, invoke, builtin, Sem.run_bind, Sem.run_pure, Result.andThen_ok, List.map_toArray, List.map_cons, List.map_nil, hu, hx, hr]
  · rw [← ha.heap]; exact Chg.of_mem q2
/-- A slice against nil. -/
def nilS : Value → Bool
  | .slice none _ _ => true
  | _ => false
theorem nilS_spec {H : Heap} (h : Sl H T v L) (hn : nilS v = true) : v = .slice none 0 0 ∧ L = [] := by
  rcases h with ⟨⟨p, rfl⟩, rfl⟩ | ⟨g, off, cap, arr, e, fr, rfl, _⟩
  · cases p with
    | none => exact ⟨rfl, rfl⟩
    | some p => simp [nilS] at hn
  · simp [nilS] at hn
theorem equal_nilS {t e : TypeId} (ht : P.underlying t = some (.slice e)) (p : Option Addr) (l c : Nat) (w : World) : (Op.equal t (.slice p l c) (.slice none 0 0)).run P w = .ok p.isNone w := by
  obtain ⟨D, hD⟩ : ∃ D, Op.maxDepth = D + 1 := ⟨Op.maxDepth - 1, by decide⟩
  show (Op.equalIn Op.maxDepth t (.slice p l c) (.slice none 0 0)).run P w = _
  rw [hD]
  unfold Op.equalIn
  cases p <;> simp only [Sem.run_bind, run_underlying ht, Result.andThen_ok, Sem.run_pure] <;> rfl
theorem t_nilS {t u e : TypeId} {x y : Operand} (ht : P.underlying t = some (.slice e)) (a : Acc Z As T v L) (ho : o.op = .binOp .eql t x y u := by rfl) (hx : ev E x = v := by rfl) (hy : ev E y = .slice none 0 0 := by rfl) : Lt P E o Z As (.bool (nilS v)) := fun H hH => by
  obtain ⟨p, c, e⟩ := (a H hH).form
  subst e
  refine r_pure _ (bin_run ho _ _ hx hy (fun w => by simp [eqGuard, Sem.run_pure]) fun w => ?_)
  simp only [binOp, Sem.run_bind, equal_nilS ht, Result.andThen_ok, Sem.run_pure]
  cases p <;> rfl
/-- A struct within an element of a slice. -/
theorem t_loadG {t : TypeId} {x : Operand} {k m : Nat} {y : α} (j : Nat) (cs : Array Value) (hT : T.Ok P) (a : Acc Z As T v L) (hy : L[k]? = some y) (hl : cs.size = m := by rfl) (hc : (T.enc y).extract j (j + m) = cs.toList := by rfl) (ho : o.op = .load t x := by rfl) (hx : ev E x = .pointer (some ((elemAt T.size v k).add j)) := by rfl) (ht : aggT P t m = true := by kernel_rfl) : Lt P E o Z As (.agg cs) := fun H hH => by
  have hsl := a H hH
  refine ⟨fun w hw => ?_⟩
  rcases hsl with ⟨_, rfl⟩ | ⟨g, off, cap, arr, e, fr, rfl, h1, h2, h3, h4, h5⟩
  · simp at hy
  have hadr : ev E x = .pointer (some ⟨g, off + k * T.size + j, none⟩) := by rw [hx]; simp only [elemAt, Go.Mem.addr_add]
  unfold execOp
  simp only [ho, hadr]
  refine Mem.run_v ?_
  unfold Instr.loadAt Instr.sureAddr
  rw [Sem.run_bind, Sem.run_pure, Result.andThen_ok]
  refine run_loadA ht (by rw [hw]; exact h1) cs hl (fun i u hi => ?_)
  have h6 : cs.toList[i]? = some u := by simpa using hi
  rw [← hc, List.extract_eq_take_drop, List.getElem?_take] at h6
  split at h6
  · rw [List.getElem?_drop] at h6
    have hjs : j + i < T.size := by rw [← hT.len y]; exact (List.getElem?_eq_some_iff.1 h6).1
    have h7 := hT.flat_get hy hjs
    rw [h6, ← h5, List.getElem?_take] at h7
    split at h7
    · rw [List.getElem?_drop] at h7
      rw [← Array.getElem?_toList, ← h7]; congr 1; omega
    · cases h7
  · cases h6
end
end Go.S
end
section
set_option linter.unusedSimpArgs false
set_option linter.unusedVariables false
namespace Go.S
open Go.Hp Go.J
section
variable {P : Program} {E : Env} {Z : Zone} {As : List Asr} {o : Oper}
theorem eqg_str {op : BinOp} {t : TypeId} {x y : Operand} {a b : ByteArray} (w : World) : (eqGuard op t x y (.string a) (.string b)).run P w = .ok () w := by
  unfold eqGuard; split <;> rfl
theorem t_cat {t u : TypeId} {x y : Operand} (a b : ByteArray) (hb : ((a.size : Int) + b.size) ≤ 9223372036854775807) (ho : o.op = .binOp .add t x y u := by rfl) (hx : ev E x = .string a := by rfl) (hy : ev E y = .string b := by rfl) : Lt P E o Z As (.string (a ++ b)) :=
  fun _ _ => r_pure _ (bin_run ho _ _ hx hy eqg_str fun w => by
    have h : ¬ (((a.size + b.size : Nat) : Int) > IntKind.i64.max) := by
      have : IntKind.i64.max = 9223372036854775807 := by decide
      rw [this]; omega
    simp only [binOp, Op.stringOp, if_neg h, Sem.run_pure])
theorem t_lenS {x : Operand} {t : TypeId} (ht : P.underlying t = some .string) (a : ByteArray) (ho : o.op = .call { callee := .builtin .len, args := #[x], argTypes := #[t] } := by rfl) (hx : ev E x = .string a := by rfl) : Lt P E o Z As (.int .i64 a.size) :=
  fun _ _ => r_pure _ fun w => by
    unfold execOp
    simp only [ho, resolve, invoke, builtin, Sem.run_bind, Sem.run_pure, Result.andThen_ok, List.map_toArray, List.map_cons, List.map_nil, hx]
    simp [Builtin.len_, run_underlying ht, Builtin.lenOf, goInt, Sem.run_pure, Sem.run_bind]
/-- s[l:h] -/
theorem run_sub {t : TypeId} (ht : P.underlying t = some .string) (a : ByteArray) (ql qh : IntKind) (l h : Int) (h0 : 0 ≤ l) (h1 : l ≤ h) (h2 : h ≤ a.size) (w : World) : (Instr.sliceAt t (.string a) (some (.int ql l)) (some (.int qh h)) none).run P w = .ok (.string (a.extract l.toNat h.toNat)) w := by
  have e1 : 0 ≤ h := by omega
  simp [Instr.sliceAt, Instr.slice, run_underlying ht, Instr.sliceBounds, Instr.sliceBound, asIntOf, h0, h1, h2, e1, Int.toNat_of_nonneg, Sem.run_pure, Sem.run_bind]
  intro hc; exfalso; omega
theorem run_subL {t : TypeId} (ht : P.underlying t = some .string) (a : ByteArray) (ql : IntKind) (l : Int) (h0 : 0 ≤ l) (h1 : l ≤ a.size) (w : World) : (Instr.sliceAt t (.string a) (some (.int ql l)) none none).run P w = .ok (.string (a.extract l.toNat a.size)) w := by
  simp [Instr.sliceAt, Instr.slice, run_underlying ht, Instr.sliceBounds, Instr.sliceBound, asIntOf, h0, h1, Sem.run_pure, Sem.run_bind]
theorem run_subH {t : TypeId} (ht : P.underlying t = some .string) (a : ByteArray) (qh : IntKind) (h : Int) (h0 : 0 ≤ h) (h1 : h ≤ a.size) (w : World) : (Instr.sliceAt t (.string a) none (some (.int qh h)) none).run P w = .ok (.string (a.extract 0 h.toNat)) w := by
  simp [Instr.sliceAt, Instr.slice, run_underlying ht, Instr.sliceBounds, Instr.sliceBound, asIntOf, h0, h1, Sem.run_pure, Sem.run_bind]
theorem t_subLH {t : TypeId} {x i j : Operand} {ql qh : IntKind} (ht : P.underlying t = some .string) (a : ByteArray) (l h : Int) (h0 : 0 ≤ l) (h1 : l ≤ h) (h2 : h ≤ a.size) (ho : o.op = .slice t x (some i) (some j) none := by rfl) (hx : ev E x = .string a := by rfl) (hi : ev E i = .int ql l := by rfl) (hj : ev E j = .int qh h := by rfl) : Lt P E o Z As (.string (a.extract l.toNat h.toNat)) :=
  fun _ _ => r_pure _ fun w => by
    unfold execOp
    simp only [ho, hx, hi, hj, Option.map_none, Option.map_some]
    exact Mem.run_v (run_sub ht a ql qh l h h0 h1 h2 w)
theorem t_subL {t : TypeId} {x i : Operand} {ql : IntKind} (ht : P.underlying t = some .string) (a : ByteArray) (l : Int) (h0 : 0 ≤ l) (h1 : l ≤ a.size) (ho : o.op = .slice t x (some i) none none := by rfl) (hx : ev E x = .string a := by rfl) (hi : ev E i = .int ql l := by rfl) : Lt P E o Z As (.string (a.extract l.toNat a.size)) :=
  fun _ _ => r_pure _ fun w => by
    unfold execOp
    simp only [ho, hx, hi, Option.map_none, Option.map_some]
    exact Mem.run_v (run_subL ht a ql l h0 h1 w)
theorem t_subH {t : TypeId} {x j : Operand} {qh : IntKind} (ht : P.underlying t = some .string) (a : ByteArray) (h : Int) (h0 : 0 ≤ h) (h1 : h ≤ a.size) (ho : o.op = .slice t x none (some j) none := by rfl) (hx : ev E x = .string a := by rfl) (hj : ev E j = .int qh h := by rfl) : Lt P E o Z As (.string (a.extract 0 h.toNat)) :=
  fun _ _ => r_pure _ fun w => by
    unfold execOp
    simp only [ho, hx, hj, Option.map_none, Option.map_some]
    exact Mem.run_v (run_subH ht a qh h h0 h1 w)
/-- s[i] -/
theorem t_idxS {t : TypeId} {x i : Operand} {q : IntKind} (ht : P.underlying t = some .string) (a : ByteArray) (k : Int) (b : UInt8) (h0 : 0 ≤ k) (hb : a[k.toNat]? = some b) (ho : o.op = .index t x i := by rfl) (hx : ev E x = .string a := by rfl) (hi : ev E i = .int q k := by rfl) : Lt P E o Z As (.int .u8 b.toNat) :=
  fun _ _ => r_pure _ fun w => by
    unfold execOp
    simp only [ho, hx, hi]
    exact Mem.run_v (by simp [Instr.index, asIntOf, run_underlying ht, h0, hb, Sem.run_pure, Sem.run_bind])
/-! ### Integers of any kind, as they wrap -/
theorem t_addK {t u : TypeId} {x y : Operand} {k : IntKind} (a b : Int) (ho : o.op = .binOp .add t x y u := by rfl) (hx : ev E x = .int k a := by rfl) (hy : ev E y = .int k b := by rfl) : Lt P E o Z As (.int k (k.wrap (a + b))) :=
  fun _ _ => r_pure _ (bin_run ho _ _ hx hy eqg_int fun w => by simp [binOp, Op.intArith, Sem.run_pure])
theorem t_subK {t u : TypeId} {x y : Operand} {k : IntKind} (a b : Int) (ho : o.op = .binOp .sub t x y u := by rfl) (hx : ev E x = .int k a := by rfl) (hy : ev E y = .int k b := by rfl) : Lt P E o Z As (.int k (k.wrap (a - b))) :=
  fun _ _ => r_pure _ (bin_run ho _ _ hx hy eqg_int fun w => by simp [binOp, Op.intArith, Sem.run_pure])
theorem t_mulK {t u : TypeId} {x y : Operand} {k : IntKind} (a b : Int) (ho : o.op = .binOp .mul t x y u := by rfl) (hx : ev E x = .int k a := by rfl) (hy : ev E y = .int k b := by rfl) : Lt P E o Z As (.int k (k.wrap (a * b))) :=
  fun _ _ => r_pure _ (bin_run ho _ _ hx hy eqg_int fun w => by simp [binOp, Op.intArith, Sem.run_pure])
theorem t_quoK {t u : TypeId} {x y : Operand} {k : IntKind} (a b : Int) (hb : b ≠ 0) (ho : o.op = .binOp .quo t x y u := by rfl) (hx : ev E x = .int k a := by rfl) (hy : ev E y = .int k b := by rfl) : Lt P E o Z As (.int k (k.wrap (a.tdiv b))) :=
  fun _ _ => r_pure _ (bin_run ho _ _ hx hy eqg_int fun w => by simp [binOp, Op.intDiv, hb, Sem.run_pure])
theorem t_negK {t : TypeId} {x : Operand} {k : IntKind} (a : Int) (ho : o.op = .unOp .neg t x := by rfl) (hx : ev E x = .int k a := by rfl) : Lt P E o Z As (.int k (k.wrap (-a))) :=
  fun _ _ => r_pure _ fun w => by
    unfold execOp
    simp [ho, hx, Op.unary, Op.intArith, Int.zero_sub, Sem.run_pure, Sem.run_bind]
theorem t_convK {s d : TypeId} {x : Operand} {k k' : IntKind} {ds : TypeDesc} (a : Int) (hs : P.underlying s = some ds) (hd : P.underlying d = some (.int k')) (ho : o.op = .convert s d x := by rfl) (hx : ev E x = .int k a := by rfl) : Lt P E o Z As (.int k' (k'.wrap a)) :=
  fun _ _ => r_pure _ fun w => by
    unfold execOp
    simp [ho, hx, convert, run_underlying hs, run_underlying hd, Conv.intToInt, Sem.run_pure, Sem.run_bind]
end
end Go.S
end
section
set_option linter.unusedSimpArgs false
set_option linter.unusedVariables false
namespace Go.Proofs.YtmhpcebiamkciaaGreat
structure Vl where
  kind : Int
  p : Int
  q : Int
  str : ByteArray
  ref : Int
  deriving DecidableEq
def zVl : Vl := ⟨0, 0, 0, ByteArray.empty, 0⟩
def validN (p q : Int) : Bool := decide (1 ≤ q) && (decide (q ≤ 2147483647) && (decide (-2147483647 ≤ p) && (decide (p ≤ 2147483647) && decide (Int.gcd p q = 1))))
def validB (v : Vl) : Bool :=
  if v.kind = 0 then decide (v = ⟨0, 0, 0, ByteArray.empty, 0⟩) else
  if v.kind = 1 then decide (v = ⟨1, 0, 0, ByteArray.empty, v.ref⟩) && (decide (v.ref = 0) || decide (v.ref = 1)) else
  if v.kind = 2 then decide (v = ⟨2, v.p, v.q, ByteArray.empty, 0⟩) && validN v.p v.q else
  if v.kind = 3 then decide (v = ⟨3, 0, 0, v.str, 0⟩) && decide ((v.str.size : Int) ≤ 4096) else
  if v.kind = 6 then decide (v = ⟨6, 0, 0, v.str, 0⟩) && (decide (1 ≤ (v.str.size : Int)) && decide ((v.str.size : Int) ≤ 4096)) else
  if v.kind = 4 ∨ v.kind = 5 ∨ v.kind = 7 ∨ v.kind = 8 then decide (v = ⟨v.kind, 0, 0, ByteArray.empty, v.ref⟩) && decide (1 ≤ v.ref) else false
/-- The greatest common divisor, by remainders. -/
theorem gcd_step (a b : Nat) : Nat.gcd b (a % b) = Nat.gcd a b := by rw [Nat.gcd_comm b, ← Nat.gcd_rec, Nat.gcd_comm]
theorem gcd_bool (p q : Int) (h : 1 ≤ q) : decide (((Nat.gcd (if p < (-p) then (-p) else p).toNat q.toNat : Nat) : Int) = 1) = decide (Int.gcd p q = 1) := by
  rw [show (if p < (-p) then (-p) else p).toNat = p.natAbs by omega, show q.toNat = q.natAbs by omega, Bool.eq_iff_iff]
  rw [decide_eq_true_eq, decide_eq_true_eq]
  exact ⟨fun h => Int.ofNat_inj.1 h, fun h => Int.ofNat_inj.2 h⟩
theorem validN_eq (p q : Int) : ((decide ((1 : Int) ≤ q)) && ((decide (q ≤ 2147483647)) && ((decide ((-2147483647) ≤ p)) && ((decide (p ≤ 2147483647)) && (decide (((Nat.gcd (if p < (-p) then (-p) else p).toNat q.toNat : Nat) : Int) = 1)))))) = validN p q := by
  by_cases h : 1 ≤ q
  · rw [gcd_bool p q h]; rfl
  · simp [validN, h]
theorem rvalidN_eq (p q : Int) : ((decide ((1 : Int) ≤ q)) && ((decide (q ≤ 2147483647)) && ((decide (p ≤ 2147483647)) && ((decide ((-2147483647) ≤ p)) && (decide (((Nat.gcd (if p < (-p) then (-p) else p).toNat q.toNat : Nat) : Int) = 1)))))) = validN p q := by
  rw [← validN_eq, Bool.and_left_comm (decide (p ≤ 2147483647))]
end Go.Proofs.YtmhpcebiamkciaaGreat
end
section
set_option linter.unusedSimpArgs false
set_option linter.unusedVariables false
namespace Go.Proofs.YtmhpcebiamkciaaGreat
/-- A slot of an ordered map. -/
structure Slt where
  key : Vl
  val : Vl
  gone : Bool
  deriving DecidableEq
def lastAt : List Slt → Vl → Option Nat
  | [], _ => none
  | s :: r, k => match lastAt r k with
    | some i => some (i + 1)
    | none => if s.key = k then some 0 else none
theorem lastAt_snoc (S : List Slt) (s : Slt) (k : Vl) : lastAt (S ++ [s]) k = if s.key = k then some S.length else lastAt S k := by
  induction S with
  | nil => simp [lastAt]
  | cons t r ih =>
    rw [List.cons_append, lastAt, ih]
    by_cases h : s.key = k
    · simp [h]
    · simp [h, lastAt]
theorem lastAt_none {S : List Slt} {k : Vl} (h : lastAt S k = none) : ∀ s ∈ S, s.key ≠ k := by
  induction S with
  | nil => intro s hs; cases hs
  | cons t r ih =>
    rw [lastAt] at h
    cases hr : lastAt r k with
    | some i => rw [hr] at h; cases h
    | none =>
      rw [hr] at h
      by_cases hk : t.key = k
      · simp [hk] at h
      · intro s hs
        rcases List.mem_cons.1 hs with rfl | hs
        · exact hk
        · exact ih hr s hs
theorem lastAt_some {S : List Slt} {k : Vl} {i : Nat} (h : lastAt S k = some i) : ∃ s, S[i]? = some s ∧ s.key = k ∧ ∀ j t, i < j → S[j]? = some t → t.key ≠ k := by
  induction S generalizing i with
  | nil => cases h
  | cons t r ih =>
    rw [lastAt] at h
    cases hr : lastAt r k with
    | some j =>
      rw [hr] at h
      obtain rfl : j + 1 = i := by injection h
      obtain ⟨s, h1, h2, h3⟩ := ih hr
      refine ⟨s, by simpa using h1, h2, fun j' t' hj ht => ?_⟩
      cases j' with
      | zero => omega
      | succ j' => exact h3 j' t' (by omega) (by simpa using ht)
    | none =>
      rw [hr] at h
      by_cases hk : t.key = k
      · simp [hk] at h
        subst h
        refine ⟨t, rfl, hk, fun j' t' hj ht => ?_⟩
        cases j' with
        | zero => omega
        | succ j' => exact lastAt_none hr t' (List.mem_of_getElem? (by simpa using ht))
      · simp [hk] at h
theorem lastAt_lt {S : List Slt} {k : Vl} {i : Nat} (h : lastAt S k = some i) : i < S.length := by
  obtain ⟨s, h1, _⟩ := lastAt_some h
  exact (List.getElem?_eq_some_iff.1 h1).1
theorem lastAt_is {S : List Slt} {k : Vl} {i : Nat} {s : Slt} (h1 : S[i]? = some s) (h2 : s.key = k) (h3 : ∀ j t, i < j → S[j]? = some t → t.key ≠ k) : lastAt S k = some i := by
  cases h : lastAt S k with
  | none => exact absurd h2 (lastAt_none h s (List.mem_of_getElem? h1))
  | some j =>
    obtain ⟨t, e1, e2, e3⟩ := lastAt_some h
    rcases Nat.lt_trichotomy i j with hij | rfl | hij
    · exact absurd e2 (h3 j t hij e1)
    · rfl
    · exact absurd h2 (e3 i s hij h1)
theorem lastAt_nokey {S : List Slt} {k : Vl} (h : ∀ s ∈ S, s.key ≠ k) : lastAt S k = none := by
  cases hl : lastAt S k with
  | none => rfl
  | some i =>
    obtain ⟨s, e1, e2, _⟩ := lastAt_some hl
    exact absurd e2 (h s (List.mem_of_getElem? e1))
/-- The key of the slot that is set stays: the places of the keys stay. -/
theorem lastAt_set (S : List Slt) (k k' : Vl) {i : Nat} {s : Slt} (h : lastAt S k = some i) (hs : s.key = k) : lastAt (S.set i s) k' = lastAt S k' := by
  obtain ⟨t, h1, h2, h3⟩ := lastAt_some h
  have hi := lastAt_lt h
  have hget : ∀ j, ((S.set i s)[j]?).map Slt.key = (S[j]?).map Slt.key := fun j => by
    by_cases e : i = j
    · subst e; rw [List.getElem?_set_self hi, h1]; simp [hs, h2]
    · rw [List.getElem?_set_ne e]
  cases hl : lastAt S k' with
  | none =>
    refine lastAt_nokey fun u hu => ?_
    obtain ⟨j, hj⟩ := List.mem_iff_getElem?.1 hu
    have := hget j
    rw [hj] at this
    cases hS : S[j]? with
    | none => rw [hS] at this; simp at this
    | some v =>
      rw [hS] at this
      simp at this
      rw [this]; exact lastAt_none hl v (List.mem_of_getElem? hS)
  | some j =>
    obtain ⟨u, e1, e2, e3⟩ := lastAt_some hl
    have := hget j
    rw [e1] at this
    cases hS : (S.set i s)[j]? with
    | none => rw [hS] at this; simp at this
    | some v =>
      rw [hS] at this
      simp at this
      refine lastAt_is hS (by rw [this, e2]) fun j' t' hj' ht' => ?_
      have h4 := hget j'
      rw [ht'] at h4
      cases hS' : S[j']? with
      | none => rw [hS'] at h4; simp at h4
      | some v' =>
        rw [hS'] at h4
        simp at h4
        rw [h4]; exact e3 j' v' hj' hS'
/-- Slots as the calls leave them. -/
structure OInv (S : List Slt) : Prop where
  uniq : S.Pairwise fun s t => s.key = t.key → s.gone = true
  zero : ∀ s ∈ S, s.gone = true → s.val = zVl
  keys : ∀ s ∈ S, validB s.key = true ∧ s.key.kind ≠ 0
  vals : ∀ s ∈ S, s.gone = false → validB s.val = true ∧ s.val.kind ≠ 0
theorem OInv.nil : OInv [] := ⟨.nil, fun _ h => (by cases h), fun _ h => (by cases h), fun _ h => (by cases h)⟩
def live (S : List Slt) : List Slt := S.filter fun s => !s.gone
def cnt (S : List Slt) : Nat := (live S).length
/-- The place of the slot of a key that has a value. -/
def thereAt (S : List Slt) (k : Vl) : Option Nat := (lastAt S k).bind fun i => (S[i]?).bind fun s => if s.gone then none else some i
def oget (S : List Slt) (k : Vl) : Vl := match (lastAt S k).bind (S[·]?) with
  | some s => s.val
  | none => zVl
def okKey (k : Vl) : Bool := !(decide (k.kind = 0)) && validB k
def osetE (k v : Vl) : Int := if okKey k = false then 13 else if validB v = false then 2 else 0
def osetL (S : List Slt) (k v : Vl) : List Slt :=
  if okKey k = false then S else if validB v = false then S else
  if v.kind = 0 then (match thereAt S k with | some i => S.set i ⟨k, zVl, true⟩ | none => S) else
  match thereAt S k with
  | some i => S.set i ⟨k, v, false⟩
  | none => (if cnt S + 8 < S.length - cnt S then live S else S) ++ [⟨k, v, false⟩]
def slotV (s : Option Slt) : Vl × Vl × Bool := match s with
  | some s => (s.key, s.val, true)
  | none => (zVl, zVl, false)
/-- What follows a key: key, value, whether there is one, error. -/
def onext (S : List Slt) (k : Vl) : Vl × Vl × Bool × Int :=
  if k = zVl then (let r := slotV (live S).head?; (r.1, r.2.1, r.2.2, 0)) else
  match lastAt S k with
  | none => (zVl, zVl, false, 13)
  | some i => (let r := slotV (live (S.drop (i + 1))).head?; (r.1, r.2.1, r.2.2, 0))
def okeys (S : List Slt) : List Vl := (live S).map Slt.key
theorem thereAt_some {S : List Slt} {k : Vl} {i : Nat} (h : thereAt S k = some i) : lastAt S k = some i ∧ ∃ s, S[i]? = some s ∧ s.key = k ∧ s.gone = false := by
  unfold thereAt at h
  cases hl : lastAt S k with
  | none => rw [hl] at h; cases h
  | some j =>
    rw [hl] at h
    obtain ⟨s, h1, h2, h3⟩ := lastAt_some hl
    simp only [Option.bind_some, h1] at h
    by_cases hg : s.gone = true
    · simp [hg] at h
    · simp [hg] at h
      subst h
      exact ⟨rfl, s, h1, h2, by simpa using hg⟩
theorem thereAt_is {S : List Slt} {k : Vl} {i : Nat} {s : Slt} (hl : lastAt S k = some i) (h1 : S[i]? = some s) : thereAt S k = if s.gone then none else some i := by
  unfold thereAt; rw [hl]; simp [h1]
theorem thereAt_none {S : List Slt} {k : Vl} (hl : lastAt S k = none) : thereAt S k = none := by unfold thereAt; rw [hl]; rfl
theorem OInv.last {S : List Slt} (h : OInv S) {i : Nat} {s : Slt} (h1 : S[i]? = some s) (hg : s.gone = false) : lastAt S s.key = some i :=
  lastAt_is h1 rfl fun j t hj ht e => by
    obtain ⟨hi, e1⟩ := List.getElem?_eq_some_iff.1 h1
    obtain ⟨hj', e2⟩ := List.getElem?_eq_some_iff.1 ht
    have := List.pairwise_iff_getElem.1 h.uniq i j hi hj' hj (by rw [e1, e2, e])
    rw [e1, hg] at this; cases this
theorem OInv.there {S : List Slt} (h : OInv S) {i : Nat} {s : Slt} (h1 : S[i]? = some s) (hg : s.gone = false) : thereAt S s.key = some i := by
  rw [thereAt_is (h.last h1 hg) h1, hg]; rfl
theorem oget_some {S : List Slt} {k : Vl} {i : Nat} {s : Slt} (h : lastAt S k = some i) (h1 : S[i]? = some s) : oget S k = s.val := by unfold oget; rw [h]; simp [h1]
theorem oget_none {S : List Slt} {k : Vl} (h : lastAt S k = none) : oget S k = zVl := by unfold oget; rw [h]; rfl
theorem oget_bad {S : List Slt} (h : OInv S) {k : Vl} (hk : okKey k = false) : oget S k = zVl := by
  refine oget_none (lastAt_nokey fun s hs e => ?_)
  obtain ⟨h1, h2⟩ := h.keys s hs
  subst e
  simp [okKey, h1, h2] at hk
theorem live_snoc (S : List Slt) (s : Slt) : live (S ++ [s]) = if s.gone then live S else live S ++ [s] := by
  unfold live; rw [List.filter_append]; cases hg : s.gone <;> simp [hg]
theorem live_take {S : List Slt} {i : Nat} {s : Slt} (h : S[i]? = some s) : live (S.take (i + 1)) = if s.gone then live (S.take i) else live (S.take i) ++ [s] := by
  rw [List.take_add_one, h]; exact live_snoc _ _
theorem live_set {S : List Slt} {i : Nat} {s t : Slt} (h : S[i]? = some t) : live (S.set i s) = live (S.take i) ++ live [s] ++ live (S.drop (i + 1)) ∧ live S = live (S.take i) ++ live [t] ++ live (S.drop (i + 1)) := by
  obtain ⟨hi, e⟩ := List.getElem?_eq_some_iff.1 h
  constructor
  · rw [List.set_eq_take_append_cons_drop, if_pos hi]
    show List.filter _ _ = List.filter _ _ ++ List.filter _ _ ++ List.filter _ _
    rw [List.append_assoc, ← List.filter_append, ← List.filter_append]; rfl
  · show List.filter _ _ = List.filter _ _ ++ List.filter _ _ ++ List.filter _ _
    rw [List.append_assoc, ← List.filter_append, ← List.filter_append]
    congr 1
    rw [← e]; simp
theorem cnt_le (S : List Slt) : cnt S ≤ S.length := List.length_filter_le _ _
theorem live_inv {S : List Slt} (h : OInv S) : OInv (live S) := by
  refine ⟨h.uniq.filter _, fun s hs => h.zero s (List.mem_filter.1 hs).1, fun s hs => h.keys s (List.mem_filter.1 hs).1, fun s hs => h.vals s (List.mem_filter.1 hs).1⟩
theorem live_gone {S : List Slt} {s : Slt} (h : s ∈ live S) : s.gone = false := by have := (List.mem_filter.1 h).2; simpa using this
theorem live_live (S : List Slt) : live (live S) = live S := by unfold live; rw [List.filter_filter]; simp
theorem okKey_iff {k : Vl} : okKey k = true ↔ validB k = true ∧ k.kind ≠ 0 := by simp [okKey, and_comm]
theorem there_none {S : List Slt} (h : OInv S) {k : Vl} (ht : thereAt S k = none) : ∀ s ∈ S, s.key = k → s.gone = true := fun s hs e => by
  cases hg : s.gone with
  | true => rfl
  | false =>
    obtain ⟨i, hi⟩ := List.mem_iff_getElem?.1 hs
    have := h.there hi hg
    rw [e, ht] at this; cases this
theorem OInv.set {S : List Slt} (h : OInv S) {k : Vl} {i : Nat} {s : Slt} (hl : lastAt S k = some i) (hk : s.key = k) (hz : s.gone = true → s.val = zVl) (hv : s.gone = false → validB s.val = true ∧ s.val.kind ≠ 0) : OInv (S.set i s) := by
  obtain ⟨t, h1, h2, h3⟩ := lastAt_some hl
  obtain ⟨hi, e⟩ := List.getElem?_eq_some_iff.1 h1
  refine ⟨?_, fun u hu => ?_, fun u hu => ?_, fun u hu => ?_⟩
  · rw [List.pairwise_iff_getElem]
    intro a b ha hb hab
    rw [List.length_set] at ha hb
    rw [List.getElem_set, List.getElem_set]
    have hp := List.pairwise_iff_getElem.1 h.uniq a b ha hb hab
    by_cases ea : i = a
    · subst ea
      rw [if_pos rfl, if_neg (by omega)]
      intro e'
      exact absurd (e'.symm.trans hk) (h3 b _ hab (List.getElem?_eq_getElem hb))
    · rw [if_neg ea]
      by_cases eb : i = b
      · subst eb
        rw [if_pos rfl]
        intro e'
        exact hp (by rw [e', hk, e, h2])
      · rw [if_neg eb]; exact hp
  · rcases List.mem_or_eq_of_mem_set hu with hu | rfl
    · exact h.zero u hu
    · exact hz
  · rcases List.mem_or_eq_of_mem_set hu with hu | rfl
    · exact h.keys u hu
    · rw [hk, ← h2]; exact h.keys t (List.mem_of_getElem? h1)
  · rcases List.mem_or_eq_of_mem_set hu with hu | rfl
    · exact h.vals u hu
    · exact hv
theorem OInv.snoc {S : List Slt} (h : OInv S) {k v : Vl} (hk : okKey k = true) (hv : validB v = true) (h0 : v.kind ≠ 0) (hn : ∀ s ∈ S, s.key = k → s.gone = true) : OInv (S ++ [⟨k, v, false⟩]) := by
  refine ⟨?_, fun u hu => ?_, fun u hu => ?_, fun u hu => ?_⟩
  · rw [List.pairwise_append]
    refine ⟨h.uniq, by simp, fun s hs t ht => ?_⟩
    rw [List.mem_singleton] at ht
    subst ht
    exact hn s hs
  all_goals
    rcases List.mem_append.1 hu with hu | hu
    · first | exact h.zero u hu | exact h.keys u hu | exact h.vals u hu
    · rw [List.mem_singleton] at hu
      subst hu
      first | (intro h; cases h; done) | exact okKey_iff.1 hk | exact fun _ => ⟨hv, h0⟩
theorem osetL_inv {S : List Slt} (h : OInv S) (k v : Vl) : OInv (osetL S k v) := by
  unfold osetL
  split
  · exact h
  · rename_i hk
    split
    · exact h
    · rename_i hv
      have hk' : okKey k = true := by simpa using hk
      have hv' : validB v = true := by simpa using hv
      split
      · cases ht : thereAt S k with
        | none => exact h
        | some i => exact h.set (thereAt_some ht).1 rfl (fun _ => rfl) (fun h => by cases h)
      · rename_i h0
        cases ht : thereAt S k with
        | some i => exact h.set (thereAt_some ht).1 rfl (fun h => by cases h) (fun _ => ⟨hv', h0⟩)
        | none =>
          show OInv ((if _ then _ else _) ++ _)
          split
          · exact (live_inv h).snoc hk' hv' h0 fun s hs e => there_none h ht s (List.mem_filter.1 hs).1 e
          · exact h.snoc hk' hv' h0 (there_none h ht)
theorem osetL_len (S : List Slt) (k v : Vl) : (osetL S k v).length ≤ S.length + 1 := by
  unfold osetL
  split
  · omega
  · split
    · omega
    · split
      · split <;> simp
      · split
        · simp
        · rw [List.length_append]
          split
          · have := cnt_le S; simp [cnt] at *; omega
          · simp
end Go.Proofs.YtmhpcebiamkciaaGreat
end
section
set_option linter.unusedSimpArgs false
set_option linter.unusedVariables false
namespace Go.Proofs.YtmhpcebiamkciaaGreat
structure Tb where
  list : List Vl
  rest : List Slt
  deriving DecidableEq
/-- The integer of an integer key, 0 for other values. -/
def whole (k : Vl) : Int := if k.kind = 2 ∧ k.q = 1 ∧ validB k = true then k.p else 0
def ofI (n : Int) : Vl := if n < -2147483647 ∨ 2147483647 < n then zVl else ⟨2, n, 1, ByteArray.empty, 0⟩
def inB (n : Int) (len : Nat) : Bool := decide (1 ≤ n) && decide (n ≤ (len : Int))
def tget (T : Tb) (k : Vl) : Vl := if validB k = false then zVl else if inB (whole k) T.list.length = true then (T.list[(whole k - 1).toNat]?).getD zVl else oget T.rest k
def shr (L : List Vl) : List Vl := (L.reverse.dropWhile fun v => decide (v.kind = 0)).reverse
def grow (S : List Slt) : Nat → List Vl → Vl → List Vl
  | 0, L, _ => L
  | f + 1, L, v => if v.kind = 0 then L else grow S f (L ++ [v]) (oget S (ofI ((L.length : Int) + 2)))
/-- There is a slot of this key. -/
def hasK (S : List Slt) (k : Vl) : Bool := decide (k = zVl) || (lastAt S k).isSome
def staleB (S : List Slt) (n m : Nat) : Bool := (List.range' (n + 1) (m - n)).any fun i => hasK S (ofI (i : Int))
def purge (S : List Slt) (m : Nat) : List Slt := (live S).filter fun s => !inB (whole s.key) m
def tadd (T : Tb) (v : Vl) : Tb :=
  let L := grow T.rest (T.rest.length + 2) T.list v
  ⟨L, if staleB T.rest T.list.length L.length then purge T.rest L.length else T.rest⟩
def tsetE (k v : Vl) : Int := if okKey k = false then 13 else if validB v = false then 2 else 0
def tset (T : Tb) (k v : Vl) : Tb :=
  if okKey k = false then T else if validB v = false then T else
  if inB (whole k) T.list.length = true then { T with list := shr (T.list.set ((whole k - 1).toNat) v) } else
  if whole k = (T.list.length : Int) + 1 ∧ v.kind ≠ 0 then tadd T v else { T with rest := osetL T.rest k v }
structure TInv (T : Tb) : Prop where
  rest : OInv T.rest
  list : ∀ v ∈ T.list, validB v = true
  last : ∀ v, T.list.getLast? = some v → v.kind ≠ 0
theorem TInv.nil : TInv ⟨[], []⟩ := ⟨.nil, fun _ h => (by cases h), fun _ h => (by cases h)⟩
theorem shr_snoc (L : List Vl) (v : Vl) : shr (L ++ [v]) = if v.kind = 0 then shr L else L ++ [v] := by
  unfold shr; rw [List.reverse_append, List.reverse_singleton, List.singleton_append, List.dropWhile_cons]
  by_cases h : v.kind = 0 <;> simp [h]
theorem shr_id {L : List Vl} (h : ∀ v, L.getLast? = some v → v.kind ≠ 0) : shr L = L := by
  rcases List.eq_nil_or_concat L with rfl | ⟨r, v, rfl⟩
  · rfl
  · rw [List.concat_eq_append] at *
    rw [shr_snoc, if_neg (h v (by simp))]
theorem shr_last (L : List Vl) : ∀ v, (shr L).getLast? = some v → v.kind ≠ 0 := by
  intro v hv
  unfold shr at hv
  rw [List.getLast?_reverse] at hv
  have := List.head?_dropWhile_not (fun v : Vl => decide (v.kind = 0)) L.reverse
  rw [hv] at this
  simpa using this
/-- The list without the values nil at its end: n of them are left. -/
theorem shr_step {L : List Vl} {n : Nat} {v : Vl} (hn : n < L.length) (hv : L[n]? = some v) (h0 : v.kind = 0) : shr (L.take (n + 1)) = shr (L.take n) := by
  rw [List.take_add_one, hv]; show shr (L.take n ++ [v]) = _; rw [shr_snoc, if_pos h0]
theorem shr_stop {L : List Vl} {n : Nat} {v : Vl} (hv : L[n]? = some v) (h0 : v.kind ≠ 0) : shr (L.take (n + 1)) = L.take (n + 1) := by
  rw [List.take_add_one, hv]; show shr (L.take n ++ [v]) = L.take n ++ [v]; rw [shr_snoc, if_neg h0]
theorem shr_len (L : List Vl) : (shr L).length ≤ L.length := by
  unfold shr; have e : L.reverse.length = L.length := List.length_reverse; rw [List.length_reverse, ← e]
  exact (List.dropWhile_suffix _).length_le
theorem shr_mem {L : List Vl} {v : Vl} (h : v ∈ shr L) : v ∈ L := by
  unfold shr at h
  rw [List.mem_reverse] at h
  have := (List.dropWhile_suffix _).subset h
  simpa using this
theorem whole_ofI {n : Int} (h1 : 1 ≤ n) (h2 : n ≤ 2147483647) : whole (ofI n) = n ∧ okKey (ofI n) = true ∧ ofI n ≠ zVl := by
  have e : ofI n = ⟨2, n, 1, ByteArray.empty, 0⟩ := by unfold ofI; rw [if_neg (by omega)]
  have hv : validB ⟨2, n, 1, ByteArray.empty, 0⟩ = true := by
    have : Int.gcd n 1 = 1 := by simp
    simp [validB, validN, this]; omega
  rw [e]
  refine ⟨?_, ?_, ?_⟩
  · unfold whole; rw [if_pos ⟨rfl, rfl, hv⟩]
  · rw [okKey_iff]; exact ⟨hv, by show (2 : Int) ≠ 0; decide⟩
  · intro h; injection h with h; cases h
theorem ofI_valid (n : Int) : validB (ofI n) = true := by
  by_cases h : n < -2147483647 ∨ 2147483647 < n
  · unfold ofI; rw [if_pos h]; decide
  · have e : ofI n = ⟨2, n, 1, ByteArray.empty, 0⟩ := by unfold ofI; rw [if_neg h]
    have : Int.gcd n 1 = 1 := by simp
    rw [e]; simp [validB, validN, this]; omega
theorem ofI_far {n : Int} (h : 2147483647 < n) : ofI n = zVl := by unfold ofI; rw [if_pos (.inr h)]
theorem whole_key {k : Vl} {n : Int} (h : whole k = n) (hn : 1 ≤ n) : k = ofI n ∧ n ≤ 2147483647 := by
  unfold whole at h
  split at h
  · rename_i hc
    obtain ⟨h1, h2, h3⟩ := hc
    have h4 : k = ⟨2, k.p, k.q, ByteArray.empty, 0⟩ ∧ validN k.p k.q = true := by
      unfold validB at h3
      rw [h1, if_neg (by decide), if_neg (by decide), if_pos rfl, Bool.and_eq_true, decide_eq_true_eq] at h3
      exact h3
    have h5 : n ≤ 2147483647 := by
      have := h4.2; simp [validN] at this; omega
    refine ⟨?_, h5⟩
    rw [h4.1, h2]; unfold ofI; rw [if_neg (by omega), h]
  · omega
theorem inB_iff {n : Int} {m : Nat} : inB n m = true ↔ 1 ≤ n ∧ n ≤ (m : Int) := by simp [inB]
/-! ### The run of values that follow -/
/-- Live slots of integer keys behind n. -/
def more (S : List Slt) (n : Nat) : Nat := (live S).countP fun s => decide ((n : Int) < whole s.key)
theorem more_le (S : List Slt) (n : Nat) : more S n ≤ S.length := Nat.le_trans List.countP_le_length (cnt_le S)
theorem oget_live {S : List Slt} (h : OInv S) {k : Vl} (h0 : (oget S k).kind ≠ 0) : ∃ s ∈ live S, s.key = k ∧ s.val = oget S k := by
  cases hl : lastAt S k with
  | none => rw [oget_none hl] at h0; exact absurd rfl h0
  | some i =>
    obtain ⟨s, h1, h2, _⟩ := lastAt_some hl
    rw [oget_some hl h1] at h0 ⊢
    refine ⟨s, List.mem_filter.2 ⟨List.mem_of_getElem? h1, ?_⟩, h2, rfl⟩
    cases hg : s.gone with
    | false => rfl
    | true => rw [h.zero s (List.mem_of_getElem? h1) hg] at h0; exact absurd rfl h0
theorem countP_lt {α : Type} {p q : α → Bool} {L : List α} (hpq : ∀ x ∈ L, p x = true → q x = true) {y : α} (hy : y ∈ L) (h1 : p y = false) (h2 : q y = true) : L.countP p < L.countP q := by
  induction L with
  | nil => cases hy
  | cons a r ih =>
    rw [List.countP_cons, List.countP_cons]
    have hm := List.countP_mono_left (l := r) (p := p) (q := q) fun x hx h => hpq x (List.mem_cons_of_mem _ hx) h
    rcases List.mem_cons.1 hy with rfl | hy
    · rw [h1, h2]; simp; omega
    · have := ih (fun x hx => hpq x (List.mem_cons_of_mem _ hx)) hy
      have := hpq a List.mem_cons_self
      cases hp : p a <;> simp_all <;> (try split) <;> omega
def mu (S : List Slt) (n : Nat) (v : Vl) : Nat := if v.kind = 0 then 0 else more S (n + 1) + 1
theorem mu_lt {S : List Slt} (h : OInv S) {n : Nat} {v : Vl} (h0 : v.kind ≠ 0) : mu S (n + 1) (oget S (ofI ((n : Int) + 2))) < mu S n v := by
  unfold mu
  rw [if_neg h0]
  split
  · omega
  · rename_i h1
    obtain ⟨s, h2, h3, _⟩ := oget_live h h1
    have hle : (n : Int) + 2 ≤ 2147483647 := Int.not_lt.1 fun hf => by rw [ofI_far hf] at h1; exact h1 (by rw [oget_bad h (by decide)]; rfl)
    have hw : whole s.key = (n : Int) + 2 := by rw [h3]; exact (whole_ofI (by omega) hle).1
    have : more S (n + 1 + 1) < more S (n + 1) := countP_lt (fun x _ hx => by simp at hx ⊢; omega) h2 (by simp [hw]; omega) (by simp [hw])
    omega
theorem grow_len {S : List Slt} (h : OInv S) : ∀ (f : Nat) (L : List Vl) (v : Vl), (grow S f L v).length ≤ L.length + mu S L.length v
  | 0, L, v => by simp [grow]
  | f + 1, L, v => by
    unfold grow
    split
    · omega
    · rename_i h0
      have := grow_len h f (L ++ [v]) (oget S (ofI ((L.length : Int) + 2)))
      have h2 := mu_lt h (n := L.length) h0
      rw [List.length_append] at this
      simp only [List.length_singleton] at this
      omega
theorem grow_le (S : List Slt) : ∀ (f : Nat) (L : List Vl) (v : Vl), L.length ≤ (grow S f L v).length
  | 0, L, v => by simp [grow]
  | f + 1, L, v => by
    unfold grow
    split
    · omega
    · have := grow_le S f (L ++ [v]) (oget S (ofI ((L.length : Int) + 2)))
      rw [List.length_append] at this; omega
theorem oget_valid {S : List Slt} (h : OInv S) (k : Vl) : validB (oget S k) = true := by
  by_cases h0 : (oget S k).kind = 0
  · cases hl : lastAt S k with
    | none => rw [oget_none hl]; decide
    | some i =>
      obtain ⟨s, h1, h2, _⟩ := lastAt_some hl
      rw [oget_some hl h1]
      cases hg : s.gone with
      | true => rw [h.zero s (List.mem_of_getElem? h1) hg]; decide
      | false => exact (h.vals s (List.mem_of_getElem? h1) hg).1
  · obtain ⟨s, h1, h2, h3⟩ := oget_live h h0
    rw [← h3]; exact (h.vals s (List.mem_filter.1 h1).1 (live_gone h1)).1
theorem grow_inv {S : List Slt} (h : OInv S) : ∀ (f : Nat) (L : List Vl) (v : Vl), (∀ x ∈ L, validB x = true) → (∀ x, L.getLast? = some x → x.kind ≠ 0) → validB v = true → (∀ x ∈ grow S f L v, validB x = true) ∧ ∀ x, (grow S f L v).getLast? = some x → x.kind ≠ 0
  | 0, L, v, h1, h2, hv => ⟨h1, h2⟩
  | f + 1, L, v, h1, h2, hv => by
    unfold grow
    split
    · exact ⟨h1, h2⟩
    · rename_i h0
      refine grow_inv h f _ _ (fun x hx => ?_) (fun x hx => ?_) (oget_valid h _)
      · rcases List.mem_append.1 hx with hx | hx
        · exact h1 x hx
        · rw [List.mem_singleton] at hx; rw [hx]; exact hv
      · simp at hx; rw [← hx]; exact h0
theorem purge_inv {S : List Slt} (h : OInv S) (m : Nat) : OInv (purge S m) := by
  have hl := live_inv h
  refine ⟨hl.uniq.filter _, fun s hs => hl.zero s (List.mem_filter.1 hs).1, fun s hs => hl.keys s (List.mem_filter.1 hs).1, fun s hs => hl.vals s (List.mem_filter.1 hs).1⟩
theorem purge_len (S : List Slt) (m : Nat) : (purge S m).length ≤ S.length := Nat.le_trans (List.length_filter_le _ _) (cnt_le S)
theorem tadd_inv {T : Tb} (h : TInv T) {v : Vl} (hv : validB v = true) : TInv (tadd T v) := by
  obtain ⟨a, b⟩ := grow_inv h.rest (T.rest.length + 2) T.list v h.list h.last hv
  refine ⟨?_, a, b⟩
  show OInv (if _ then _ else _)
  split
  · exact purge_inv h.rest _
  · exact h.rest
theorem tset_inv {T : Tb} (h : TInv T) (k v : Vl) : TInv (tset T k v) := by
  unfold tset
  split
  · exact h
  split
  · exact h
  rename_i hv
  have hv' : validB v = true := by simpa using hv
  split
  · refine ⟨h.rest, fun x hx => ?_, shr_last _⟩
    rcases List.mem_or_eq_of_mem_set (shr_mem hx) with hx | rfl
    · exact h.list x hx
    · exact hv'
  split
  · exact tadd_inv h hv'
  · exact ⟨osetL_inv h.rest k v, h.list, h.last⟩
/-- How long a table gets. -/
theorem tset_len {T : Tb} (h : TInv T) (k v : Vl) : (tset T k v).rest.length ≤ T.rest.length + 1 ∧ (tset T k v).list.length ≤ T.list.length + T.rest.length + 1 := by
  unfold tset
  split
  · exact ⟨by omega, by omega⟩
  split
  · exact ⟨by omega, by omega⟩
  split
  · refine ⟨by show T.rest.length ≤ _; omega, ?_⟩
    have := shr_len (T.list.set (whole k - 1).toNat v)
    rw [List.length_set] at this
    show (shr _).length ≤ _; omega
  split
  · constructor
    · show (if _ then _ else _ : List Slt).length ≤ _
      split
      · have := purge_len T.rest (grow T.rest (T.rest.length + 2) T.list v).length; omega
      · omega
    · have := grow_len h.rest (T.rest.length + 2) T.list v
      have h2 := more_le T.rest (T.list.length + 1)
      show (grow _ _ _ _).length ≤ _
      unfold mu at this
      split at this <;> omega
  · exact ⟨osetL_len _ _ _, by show T.list.length ≤ _; omega⟩
/-! ### What the calls give -/
theorem okeys_get {S : List Slt} {n : Nat} {y : Vl} (h : (okeys S)[n]? = some y) : ∃ s, (live S)[n]? = some s ∧ y = s.key := by
  unfold okeys at h
  rw [List.getElem?_map] at h
  cases hs : (live S)[n]? with
  | none => rw [hs] at h; cases h
  | some s => rw [hs] at h; injection h with h; exact ⟨s, rfl, h.symm⟩
def isIntB (k : Vl) : Bool := decide (k.kind = 2) && (decide (k.q = 1) && validB k)
theorem int_cases (k : Vl) : (isIntB k = true ∧ k.p = whole k ∧ validB k = true) ∨ (isIntB k = false ∧ whole k = 0) := by
  unfold isIntB whole
  by_cases h1 : k.kind = 2 <;> by_cases h2 : k.q = 1 <;> cases h3 : validB k <;> simp [h1, h2]
theorem tget_bad {T : Tb} {k : Vl} (h : validB k = false) : tget T k = zVl := by unfold tget; rw [if_pos h]
theorem tget_in {T : Tb} {k y : Vl} (hv : validB k = true) (h1 : 1 ≤ whole k) (h2 : whole k ≤ (T.list.length : Int)) (hy : T.list[(whole k - 1).toNat]? = some y) : tget T k = y := by
  unfold tget; rw [if_neg (by rw [hv]; decide), if_pos (inB_iff.2 ⟨h1, h2⟩), hy]; rfl
theorem inB_false {n : Int} {m : Nat} (h : ¬ (1 ≤ n ∧ n ≤ (m : Int))) : inB n m = false := by
  cases hb : inB n m with
  | false => rfl
  | true => exact absurd (inB_iff.1 hb) h
theorem tget_out {T : Tb} {k : Vl} (hv : validB k = true) (h : ¬ (1 ≤ whole k ∧ whole k ≤ (T.list.length : Int))) : tget T k = oget T.rest k := by
  unfold tget; rw [if_neg (by rw [hv]; decide), if_neg (by rw [inB_false h]; decide)]
theorem tset_bad {T : Tb} {k v : Vl} (h : okKey k = false ∨ validB v = false) : tset T k v = T := by
  unfold tset
  rcases h with h | h
  · rw [if_pos h]
  · rw [if_pos h]; split <;> rfl
theorem tset_in {T : Tb} {k v : Vl} (hk : okKey k = true) (hv : validB v = true) (h1 : 1 ≤ whole k) (h2 : whole k ≤ (T.list.length : Int)) : tset T k v = ⟨shr (T.list.set (whole k - 1).toNat v), T.rest⟩ := by
  unfold tset; rw [if_neg (by rw [hk]; decide), if_neg (by rw [hv]; decide), if_pos (inB_iff.2 ⟨h1, h2⟩)]
theorem tset_add {T : Tb} {k v : Vl} (hk : okKey k = true) (hv : validB v = true) (h1 : whole k = (T.list.length : Int) + 1) (h2 : v.kind ≠ 0) : tset T k v = tadd T v := by
  unfold tset; rw [if_neg (by rw [hk]; decide), if_neg (by rw [hv]; decide), if_neg (by rw [inB_false (by omega)]; decide), if_pos ⟨h1, h2⟩]
theorem tset_out {T : Tb} {k v : Vl} (hk : okKey k = true) (hv : validB v = true) (h : ¬ (1 ≤ whole k ∧ whole k ≤ (T.list.length : Int))) (h2 : ¬ (whole k = (T.list.length : Int) + 1 ∧ v.kind ≠ 0)) : tset T k v = ⟨T.list, osetL T.rest k v⟩ := by
  unfold tset; rw [if_neg (by rw [hk]; decide), if_neg (by rw [hv]; decide), if_neg (by rw [inB_false h]; decide), if_neg h2]
theorem tset_eta {T : Tb} {k v : Vl} {L : List Vl} {S : List Slt} (h : tset T k v = ⟨L, S⟩) : (tset T k v).list = L ∧ (tset T k v).rest = S := by rw [h]; exact ⟨rfl, rfl⟩
/-- No value nil at the end: nothing is cut. -/
theorem shr_set {L : List Vl} (h : ∀ v, L.getLast? = some v → v.kind ≠ 0) {i : Nat} {v : Vl} (hi : i + 1 ≠ L.length) : shr (L.set i v) = L.set i v := by
  refine shr_id fun x hx => h x ?_
  rw [List.getLast?_eq_getElem?, List.length_set] at hx
  rw [List.getLast?_eq_getElem?]
  by_cases h0 : i = L.length - 1
  · rw [List.set_eq_of_length_le (by omega)] at hx; exact hx
  · rw [List.getElem?_set_ne h0] at hx; exact hx
/-! ### The loop that adds -/
theorem hasK_iff (S : List Slt) (k : Vl) : (onext S k).2.2.2 = (if hasK S k = true then 0 else 13) := by
  unfold onext hasK
  by_cases h : k = zVl
  · simp [h]
  · rw [if_neg h]
    cases lastAt S k <;> simp [h]
theorem staleB_snoc (S : List Slt) {n m : Nat} (h : n ≤ m) : staleB S n (m + 1) = (staleB S n m || hasK S (ofI ((m : Int) + 1))) := by
  unfold staleB
  rw [show m + 1 - n = (m - n) + 1 by omega, List.range'_concat, List.any_append]
  simp only [List.any_cons, List.any_nil, Bool.or_false, Nat.one_mul]
  rw [show n + 1 + (m - n) = m + 1 by omega]; rfl
theorem staleB_self (S : List Slt) (n : Nat) : staleB S n n = false := by unfold staleB; simp
/-- A round of the loop. -/
theorem grow_step (S : List Slt) {f : Nat} (L : List Vl) {v : Vl} (h0 : v.kind ≠ 0) (hf : mu S L.length v ≤ f) : ∃ f', f = f' + 1 ∧ grow S f L v = grow S f' (L ++ [v]) (oget S (ofI ((L.length : Int) + 2))) := by
  cases f with
  | zero => unfold mu at hf; rw [if_neg h0] at hf; omega
  | succ f' => refine ⟨f', rfl, ?_⟩; rw [grow, if_neg h0]
theorem grow_stop (S : List Slt) {f : Nat} (L : List Vl) {v : Vl} (h0 : v.kind = 0) : grow S f L v = L := by
  cases f with
  | zero => rfl
  | succ f' => rw [grow, if_pos h0]
/-- The new map part: the keys that are left are set in order. -/
def purgeS (S : List Slt) (m i : Nat) : List Slt := ((live S).take i).filter fun s => !inB (whole s.key) m
theorem purge_step {S : List Slt} (h : OInv S) {m i : Nat} {s : Slt} (hs : (live S)[i]? = some s) : (inB (whole s.key) m = false → osetL (purgeS S m i) s.key (oget S s.key) = purgeS S m (i + 1)) ∧ (inB (whole s.key) m = true → purgeS S m i = purgeS S m (i + 1)) := by
  have hm := List.mem_of_getElem? hs
  have hg := live_gone hm
  have hl := live_inv h
  have hmS : s ∈ S := (List.mem_filter.1 hm).1
  have hval : oget S s.key = s.val := by
    obtain ⟨j, hj⟩ := List.mem_iff_getElem?.1 hmS
    exact oget_some (h.last hj hg) hj
  have e1 : purgeS S m (i + 1) = purgeS S m i ++ (if inB (whole s.key) m = true then [] else [s]) := by
    unfold purgeS
    rw [List.take_add_one, hs, List.filter_append]
    congr 1
    by_cases hb : inB (whole s.key) m = true <;> simp [hb]
  constructor
  · intro hb
    rw [e1, hb, hval]
    have hno : ∀ t ∈ purgeS S m i, t.key ≠ s.key := fun t ht e => by
      unfold purgeS at ht
      have ht' := (List.mem_filter.1 ht).1
      obtain ⟨j, hj⟩ := List.mem_iff_getElem?.1 ht'
      rw [List.getElem?_take] at hj
      split at hj
      · rename_i hji
        obtain ⟨hj1, e2⟩ := List.getElem?_eq_some_iff.1 hj
        obtain ⟨hi1, e3⟩ := List.getElem?_eq_some_iff.1 hs
        have := List.pairwise_iff_getElem.1 hl.uniq j i hj1 hi1 hji (by rw [e2, e3, e])
        rw [e2, live_gone (List.mem_of_getElem? hj)] at this; cases this
      · cases hj
    have hallive : live (purgeS S m i) = purgeS S m i := by
      unfold live
      rw [List.filter_eq_self]
      intro t ht
      have := live_gone (List.mem_of_mem_take (List.mem_filter.1 ht).1)
      simp [this]
    obtain ⟨hk1, hk2⟩ := h.keys s hmS
    obtain ⟨hv1, hv2⟩ := h.vals s hmS hg
    unfold osetL
    rw [if_neg (by rw [okKey_iff.2 ⟨hk1, hk2⟩]; decide), if_neg (by rw [hv1]; decide), if_neg hv2, thereAt_none (lastAt_nokey hno)]
    show (if _ then _ else _) ++ _ = _
    unfold cnt
    rw [hallive, if_neg (by omega)]
    simp
    cases s
    simp at hg
    subst hg
    rfl
  · intro hb
    rw [e1, hb]; simp
theorem purge_end (S : List Slt) (m i : Nat) (h : (live S).length ≤ i) : purgeS S m i = purge S m := by
  unfold purgeS purge; rw [List.take_of_length_le h]
end Go.Proofs.YtmhpcebiamkciaaGreat
end
section
set_option linter.unusedSimpArgs false
set_option linter.unusedVariables false
namespace Go.S
open Go.Hp Go.J Go.RowKit
open Go.Mem (Ty KTy blk suf addr_add)
/-- The slice v reads as L and may be written; its block is S. -/
def OwO {α : Type} (H : Heap) (T : Ty α) (v : Value) (L : List α) (S : Nat → Prop) : Prop :=
  ((∃ p, v = .slice p 0 0) ∧ L = [] ∧ ∀ k, ¬ S k) ∨
  ∃ g off cap arr, v = .slice (some ⟨g, off, none⟩) L.length cap ∧ H[g]? = some (.cells arr T.id (0, 0)) ∧ L.length ≤ cap ∧ cap ≤ maxLen ∧ off + cap * T.size ≤ arr.size ∧
    (arr.toList.drop off).take (L.length * T.size) = T.flat L ∧ ∀ k, S k ↔ k = g
section
variable {α : Type} {T : Ty α} {v : Value} {L M : List α} {H H' : Heap} {S : Nat → Prop} {P : Program} {Z : Zone} {As : List Asr}
theorem OwO.sl (h : OwO H T v L S) : Sl H T v L := by
  rcases h with ⟨h1, h2, _⟩ | ⟨g, off, cap, arr, rfl, h1, h2, h3, h4, h5, _⟩
  · exact .inl ⟨h1, h2⟩
  · exact .inr ⟨g, off, cap, arr, _, _, rfl, h1, h2, h3, fun _ => h4, h5⟩
/-- A slice with its block, from any place on. -/
def ownO {α : Type} (T : Ty α) (v : Value) (L : List α) : Asr where
  on H S := OwO H T v L S
  lt h k hk := by
    rcases h with ⟨_, _, h⟩ | ⟨g, off, cap, arr, _, h1, _, _, _, _, hS⟩
    · exact absurd hk (h k)
    · rw [(hS k).1 hk]; exact lt_of_some h1
  keep h hk := by
    rcases h with h | ⟨g, off, cap, arr, h0, h1, h2, h3, h4, h5, hS⟩
    · exact .inl h
    · exact .inr ⟨g, off, cap, arr, h0, (hk g ((hS g).2 rfl)).trans h1, h2, h3, h4, h5, hS⟩
theorem OwO.of {v : Value} (h : Ow H T v L) (hS : ∀ k, S k ↔ blk v = some k) : OwO H T v L S := by
  rcases h with ⟨rfl, rfl⟩ | ⟨g, cap, arr, rfl, h1, h2, h3, h4, h5⟩
  · exact .inl ⟨⟨none, rfl⟩, rfl, fun k hk => by have := (hS k).1 hk; simp [blk, Value.ownBlock] at this⟩
  · refine .inr ⟨g, 0, cap, arr, rfl, h1, h2, h3, by omega, by simpa using h5, fun k => (hS k).trans ?_⟩
    simp only [blk, Value.ownBlock, Option.some.injEq]; exact eq_comm
theorem Holds.toO (h : Holds Z (own T v L :: As) H) : Holds Z (ownO T v L :: As) H := h.imp fun S ⟨S1, S2, h1, h2, hd, hS⟩ => ⟨S1, S2, OwO.of h1.1 h1.2, h2, hd, hS⟩
theorem Holds.nilO (h : Holds Z As H) : Holds Z (ownO T (.slice none 0 0) [] :: As) H := (Holds.nilS (T := T) h).toO
theorem OwO.suf (h : OwO H T v L S) (hT : T.Ok P) (n : Nat) (hn : n ≤ L.length) : OwO H T (Go.Mem.suf T.size v n) (L.drop n) S := by
  rcases h with ⟨⟨p, rfl⟩, rfl, h⟩ | ⟨g, off, cap, arr, rfl, h1, h2, h3, h4, h5, hS⟩
  · simp at hn; subst hn; exact .inl ⟨⟨_, rfl⟩, rfl, h⟩
  · by_cases hcn : cap = n
    · have : L.length = n := by omega
      refine .inr ⟨g, off, 0, arr, by simp [Mem.suf, hcn, this], h1, by simp; omega, by simp, by omega, ?_, hS⟩
      rw [List.drop_of_length_le (by omega)]
      simp [Ty.flat]
    · refine .inr ⟨g, off + n * T.size, cap - n, arr, by simp [Mem.suf, hcn, addr_add], h1, by simp; omega, by omega, ?_, ?_, hS⟩
      · have : (cap - n) * T.size + n * T.size = cap * T.size := by rw [← Nat.add_mul]; congr 1; omega
        omega
      · rw [← hT.flat_drop, ← h5, List.drop_take, List.drop_drop, List.length_drop, Nat.sub_mul]
theorem Holds.sufO {i : Nat} (h : Holds Z As H) (hT : T.Ok P) (n : Nat) (hi : gt As i = some (ownO T v L)) (hn : n ≤ L.length) : Holds Z (upd As i (ownO T (Go.Mem.suf T.size v n) (L.drop n))) H :=
  h.step hi fun S hS => ⟨S, OwO.suf hS hT n hn, Chg.refl _ _, fun k hk => .inl hk⟩
theorem setCells_heap (g : Nat) : ∀ (vs : List Value) (o : Nat) (w : World) (arr : Array Value) (t : TypeId) (fr : Nat × Nat), w.heap[g]? = some (.cells arr t fr) → o + vs.length ≤ arr.size →
    (w.setCells g o vs).heap[g]? = some (.cells (arr.toList.take o ++ vs ++ arr.toList.drop (o + vs.length)).toArray t fr) ∧ (w.setCells g o vs).heap.size = w.heap.size ∧ (∀ k, k ≠ g → (w.setCells g o vs).heap[k]? = w.heap[k]?) ∧ (w.setCells g o vs).os = w.os ∧ (w.setCells g o vs).tape = w.tape ∧ (w.setCells g o vs).output = w.output
  | [], o, w, arr, t, fr, h, _ => by
    refine ⟨?_, rfl, fun _ _ => rfl, rfl, rfl, rfl⟩
    simp [World.setCells, h]
  | v :: r, o, w, arr, t, fr, h, hl => by
    simp only [List.length_cons] at hl
    have h1 : (w.setCell ⟨g, o, none⟩ v).heap[g]? = some (.cells (arr.setIfInBounds o v) t fr) := by
      simp [World.setCell, Array.getElem?_modify, h]
    obtain ⟨i1, i2, i3, i4, i5, i6⟩ := setCells_heap g r (o + 1) (w.setCell ⟨g, o, none⟩ v) _ t fr h1 (by simp; omega)
    refine ⟨?_, ?_, fun k hk => ?_, i4, i5, i6⟩
    · show ((w.setCell ⟨g, o, none⟩ v).setCells g (o + 1) r).heap[g]? = _
      rw [i1]
      congr 2
      apply Array.toList_inj.1
      simp only [Array.toList_setIfInBounds, List.length_cons]
      have e1 : (arr.toList.set o v).take (o + 1) = arr.toList.take o ++ [v] := by
        rw [List.take_add_one, List.getElem?_set_self (by simp; omega), List.take_set_of_le (Nat.le_refl _)]; rfl
      rw [e1, List.drop_set_of_lt (by omega), show o + 1 + r.length = o + (r.length + 1) by omega]
      simp
    · rw [show w.setCells g o (v :: r) = (w.setCell ⟨g, o, none⟩ v).setCells g (o + 1) r from rfl, i2]; simp [World.setCell]
    · rw [show w.setCells g o (v :: r) = (w.setCell ⟨g, o, none⟩ v).setCells g (o + 1) r from rfl, i3 k hk]
      simp [World.setCell, Array.getElem?_modify, Ne.symm hk]
theorem run_appendO {w : World} (hT : T.Ok P) {t ty : TypeId} (ht : P.underlying t = some (.slice T.id)) {v2 : Value} (hv : OwO w.heap T v L S) (h2 : Sl w.heap T v2 M) (hbytes : (L.length + M.length) * T.bytes ≤ 140737488355328) (h63 : L.length + M.length ≤ 9223372036854775807) :
    ∃ v' w' S', (Builtin.append_ #[t, t] ty #[v, v2]).run P w = .ok v' w' ∧ OwO w'.heap T v' (L ++ M) S' ∧ Chg S w.heap w'.heap ∧ (∀ k, S' k → S k ∨ w.heap.size ≤ k) ∧ w'.os = w.os ∧ w'.tape = w.tape ∧ w'.output = w.output := by
  obtain ⟨i, hi, hsz, hby, hz⟩ := hT.info
  have h63' : L.length + M.length ≤ maxLen := by simpa [maxLen] using h63
  rw [← hby] at hbytes
  have hlenL := hT.flat_len L
  have hlenM := hT.flat_len M
  have hlen : (T.flat (L ++ M)).length = (L ++ M).length * T.size := hT.flat_len _
  have hzs : (T.val T.zero).cells.size = T.size := by have := hT.len T.zero; simpa [Ty.enc] using this
  have grown : ∀ old, old < L.length + M.length → ∃ v' w' S', v' = Value.slice (some ⟨w.heap.size, 0, none⟩) (L.length + M.length) (grownCap w (L.length + M.length) old T.id) ∧
      w' = w.drew.alloc (.cells ((T.flat L).toArray ++ (T.flat M).toArray ++ Builtin.zeroCells (T.val T.zero).cells (grownCap w (L.length + M.length) old T.id - (L.length + M.length))) T.id) ∧
      OwO w'.heap T v' (L ++ M) S' ∧ Chg S w.heap w'.heap ∧ (∀ k, S' k → S k ∨ w.heap.size ≤ k) ∧ w'.os = w.os ∧ w'.tape = w.tape ∧ w'.output = w.output := by
    intro old ho
    have hge := grownCap_ge w (L.length + M.length) old T.id
    have hcm := grownCap_le_maxLen w (L.length + M.length) old T.id h63'
    have hchg := Chg.of_mem ((Mem.Chg.refl (fun k => S k) w).drew.alloc (.cells ((T.flat L).toArray ++ (T.flat M).toArray ++ Builtin.zeroCells (T.val T.zero).cells (grownCap w (L.length + M.length) old T.id - (L.length + M.length))) T.id))
    refine ⟨_, _, fun k => k = w.heap.size, rfl, rfl, .inr ⟨w.heap.size, 0, _, _, by simp, heap_alloc_new w.drew _, by simpa using hge, hcm, ?_, ?_, fun k => Iff.rfl⟩, hchg, fun k hk => .inr (by omega), rfl, rfl, rfl⟩
    · simp only [Array.size_append, List.size_toArray, size_zeroCells, hzs, hlenL, hlenM, ← Nat.add_mul, Nat.zero_add]
      exact Nat.le_of_eq (by congr 1; omega)
    · simp only [Array.toList_append, List.append_assoc, List.drop_zero]
      rw [← hlen, Ty.flat_append, ← List.append_assoc]
      exact List.take_left
  rcases h2 with ⟨⟨p2, rfl⟩, rfl⟩ | ⟨g2, off2, cap2, arr2, e2, fr2, rfl, hg2, hc2, hm2, hf2, hr2⟩
  · refine ⟨v, w, S, ?_, by simpa using hv, Chg.refl _ _, fun k hk => .inl hk, rfl, rfl, rfl⟩
    rcases hv with ⟨⟨p, rfl⟩, rfl, _⟩ | ⟨g, off, cap, arr, rfl, hg, hc, _⟩
    · cases p <;> cases p2 <;> simp [Builtin.append_, run_underlying ht, sizeOf, typeInfo, hi, Builtin.lenOf, Builtin.firstCells, loadCells, loadCellsFrom, storeCells]
    · cases p2 <;> simp [Builtin.append_, run_underlying ht, sizeOf, typeInfo, hi, Builtin.lenOf, Builtin.firstCells, loadCells, loadCellsFrom, hc, storeCells]
  · have hnews : ∀ j u, (T.flat M)[j]? = some u → w.cell? ((⟨g2, off2, none⟩ : Addr).add j) = some u := by
      intro j u hj
      rw [← hr2, List.getElem?_take] at hj
      split at hj
      · rw [List.getElem?_drop] at hj
        rw [addr_add, cell_of_row w g2 _ arr2 e2 fr2 hg2, ← Array.getElem?_toList]; exact hj
      · cases hj
    have hl2 : (T.flat M).length = M.length * i.size := by rw [hlenM, hsz]
    by_cases hm0 : M = []
    · subst hm0
      refine ⟨v, w, S, ?_, by simpa using hv, Chg.refl _ _, fun k hk => .inl hk, rfl, rfl, rfl⟩
      rcases hv with ⟨⟨p, rfl⟩, rfl, _⟩ | ⟨g, off, cap, arr, rfl, hg, hc, _⟩
      · cases p <;> simp [Builtin.append_, run_underlying ht, sizeOf, typeInfo, hi, Builtin.lenOf, Builtin.firstCells, loadCells, loadCellsFrom, storeCells]
      · simp [Builtin.append_, run_underlying ht, sizeOf, typeInfo, hi, Builtin.lenOf, Builtin.firstCells, loadCells, loadCellsFrom, hc, storeCells]
    have hpos : 0 < M.length := List.length_pos_iff.2 hm0
    rcases hv with ⟨⟨p, rfl⟩, rfl, _⟩ | ⟨g, off, cap, arr, rfl, hg, hc, hm, hf, hr, hS⟩
    · obtain ⟨v', w', S', rfl, rfl, q⟩ := grown 0 (by simpa using hpos)
      cases p with
      | none =>
        have hrun := run_append_nil (P := P) w t ty T.id i _ ht hi hz ⟨g2, off2, none⟩ M.length cap2 (T.flat M) hl2 hnews hpos (by simp at h63; omega) (by simp at hbytes; omega)
        simp only [List.length_nil, Nat.zero_add, Ty.flat, List.flatMap_nil, Array.empty_append] at hrun q ⊢
        exact ⟨_, _, _, hrun, q⟩
      | some a =>
        have hrun := run_append_grow (P := P) w t ty T.id i _ ht hi hz a 0 0 [] (by simp) (by simp) ⟨g2, off2, none⟩ M.length cap2 (T.flat M) hl2 hnews (by omega) (by simp at h63; omega) (growslice_fits (by omega) (by simpa using hbytes))
        simp only [List.length_nil, Nat.zero_add, Ty.flat, List.flatMap_nil, Array.empty_append] at hrun q ⊢
        exact ⟨_, _, _, hrun, q⟩
    · by_cases hroom : L.length + M.length ≤ cap
      · have hfit : off + L.length * T.size + (T.flat M).length ≤ arr.size := by
          have h1 := Nat.mul_le_mul_right T.size hroom
          rw [Nat.add_mul] at h1
          rw [hlenM]; omega
        have hrun := run_append_room_cells (P := P) w t ty T.id i ht hi g off L.length cap ⟨g2, off2, none⟩ M.length cap2 (T.flat M) hl2 hnews (hT.flat_one1 M) hroom
          (fun j hj => by rw [hsz, cell_of_row w g _ arr T.id (0, 0) hg, Array.getElem?_eq_getElem (by omega)]; rfl) (fun j hj => by simp [World.frozen?, hg])
        rw [hsz] at hrun
        obtain ⟨c1, c2, c3, c4, c5, c6⟩ := setCells_heap g (T.flat M) (off + L.length * T.size) w arr T.id (0, 0) hg hfit
        refine ⟨_, _, S, hrun, .inr ⟨g, off, cap, _, by simp, c1, by simpa using hroom, hm, ?_, ?_, hS⟩, ⟨Nat.le_of_eq c2.symm, fun k hk hn => c3 k fun e => hn ((hS k).2 e)⟩, fun k hk => .inl hk, c4, c5, c6⟩
        · simp only [List.size_toArray, List.length_append, List.length_take, List.length_drop, Array.length_toList]; omega
        · have e1 : arr.toList.take (off + L.length * T.size) = arr.toList.take off ++ T.flat L := by rw [List.take_add, hr]
          have hoff : (arr.toList.take off).length = off := by rw [List.length_take, Array.length_toList]; omega
          rw [e1, List.append_assoc, List.append_assoc]
          conv => lhs; rw [show ∀ X : List Value, (arr.toList.take off ++ X).drop off = X from fun X => by rw [List.drop_append_of_le_length (by omega), List.drop_of_length_le (by omega)]; rfl]
          rw [← hlen, Ty.flat_append, ← List.append_assoc]
          exact List.take_left
      · have holds : ∀ j u, (T.flat L)[j]? = some u → w.cell? ((⟨g, off, none⟩ : Addr).add j) = some u := by
          intro j u hj
          rw [← hr, List.getElem?_take] at hj
          split at hj
          · rw [List.getElem?_drop] at hj
            rw [addr_add, cell_of_row w g _ arr T.id _ hg, ← Array.getElem?_toList]; exact hj
          · cases hj
        have hrun := run_append_grow (P := P) w t ty T.id i _ ht hi hz ⟨g, off, none⟩ L.length cap (T.flat L) (by rw [hlenL, hsz]) holds ⟨g2, off2, none⟩ M.length cap2 (T.flat M) hl2 hnews (by omega) (by omega) (growslice_fits (by omega) hbytes)
        obtain ⟨v', w', S', rfl, rfl, q⟩ := grown cap (by omega)
        exact ⟨_, _, _, hrun, q⟩
end
section
variable {P : Program} {w0 : World} {ops : Array Oper} {Q : Exit → Act → World → Prop} {n : Nat} {E : Env} {Z : Zone} {As : List Asr} {o : Oper} {rest : List Oper} {α : Type} {T : Ty α} {v : Value} {L M : List α}
theorem Acc.ownO (i : Nat) (hi : gt As i = some (Go.S.ownO T v L) := by rfl) : Acc Z As T v L := fun H h => by
  obtain ⟨S, hS, _⟩ := h.part hi; exact OwO.sl hS
theorem s_appendO {s x : Operand} {t : TypeId} {d : Nat} {v2 : Value} (i : Nat) (hT : T.Ok P) (ht : P.underlying t = some (.slice T.id)) (a : Acc Z As T v2 M) (hb : (L.length + M.length) * T.bytes ≤ 140737488355328) (h63 : L.length + M.length ≤ 9223372036854775807) (h : ∀ v', SL P w0 ops Q n rest ((d, v') :: E) Z (upd As i (ownO T v' (L ++ M)))) (ho : o.op = .call { callee := .builtin .append, args := #[s, x], argTypes := #[t, t] } := by rfl) (hA : gt As i = some (ownO T v L) := by rfl) (hs : ev E s = v := by rfl) (hx : ev E x = v2 := by rfl) (hd : o.dst = some d := by rfl) (hk : okOp ops n E o = true := by kernel_rfl) : SL P w0 ops Q n (o :: rest) E Z As := fun H hH => by
  refine l_run (R := fun v' H' => Holds Z (upd As i (ownO T v' (L ++ M))) H') hk (fun w ha => ?_) (fun v' H' h' => by rw [hd]; exact h v' H' h')
  obtain ⟨hw, hos, htape, hout⟩ := ha
  subst hw
  obtain ⟨S, hS, _⟩ := (hH.part hA)
  obtain ⟨v', w', S', hr, q1, q2, q3, q4, q5, q6⟩ := run_appendO (ty := o.type) hT ht hS (a _ hH) hb h63
  refine ⟨v', w', ?_, ⟨rfl, q4.trans hos, q5.trans htape, q6.trans hout⟩, ?_⟩
  · unfold execOp
    simp only [ho, resolve, invoke, builtin, Sem.run_bind, Sem.run_pure, Result.andThen_ok, List.map_toArray, List.map_cons, List.map_nil, hs, hx, hr]
  · refine hH.step hA fun S2 hS2 => ?_
    obtain ⟨v2', w2', S2', hr2, r1, r2, r3, _⟩ := run_appendO (ty := o.type) hT ht hS2 (a _ hH) hb h63
    rw [hr] at hr2
    injection hr2 with e1 e2
    subst e1; subst e2
    exact ⟨S2', r1, r2, r3⟩
end
end Go.S
end
section
set_option linter.unusedSimpArgs false
set_option linter.unusedVariables false
namespace Go.S
open Go.Hp Go.J
open Go.Mem (Ty elemAt)
/-- Bytes as the elements of a slice (e: uint8's number). -/
def byteT (e : TypeId) : Ty UInt8 := ⟨e, 1, 1, false, fun b => .int .u8 b.toNat, 0⟩
section
variable {P : Program} {E : Env} {Z : Zone} {As : List Asr} {o : Oper}
theorem byteT_ok {e : TypeId} {i : TypeInfo} (hd : P.underlying e = some (.int .u8)) (hi : P.info? e = some i) (hs : i.size = 1) (hb : i.bytes = 1) (hz : i.zero = some (.int .u8 0)) : (byteT e).Ok P :=
  ⟨Nat.one_pos, fun _ => rfl, fun x u hu => by
    have : u = .int .u8 x.toNat := by simpa [Ty.enc, byteT, Value.cells] using hu
    rw [this]; rfl, fun _ => rfl, ⟨_, hd, rfl⟩, fun _ => rfl, ⟨i, hi, hs, hb, hz⟩⟩
theorem flat_byte {e : TypeId} (L : List UInt8) : (byteT e).flat L = L.map fun b => Value.int .u8 b.toNat := by
  induction L with
  | nil => rfl
  | cons b r ih => show (byteT e).enc b ++ (byteT e).flat r = _; rw [ih]; rfl
theorem fold_push : ∀ (L : List UInt8) (s : ByteArray), (L.map fun b => (b.toNat : Int)).foldl (fun r n => r.push (UInt8.ofNat n.toNat)) s = ⟨s.data ++ L.toArray⟩
  | [], s => by cases s; simp
  | b :: r, s => by
    simp only [List.map_cons, List.foldl_cons]
    rw [fold_push r]
    have : UInt8.ofNat ((b.toNat : Int)).toNat = b := by simp
    rw [this]
    show (⟨(s.data.push b) ++ r.toArray⟩ : ByteArray) = _
    congr 1
    apply Array.ext'; simp
theorem t_bytes {s d e : TypeId} {x : Operand} {v : Value} {L : List UInt8} (hT : (byteT e).Ok P) (hs : P.underlying s = some (.slice e)) (he : P.underlying e = some (.int .u8)) (hd : P.underlying d = some .string) (a : Acc Z As (byteT e) v L) (ho : o.op = .convert s d x := by rfl) (hx : ev E x = v := by rfl) : Lt P E o Z As (.string ⟨L.toArray⟩) := fun H hH => by
  have hsl := a H hH
  refine ⟨fun w hw => ?_⟩
  unfold execOp
  simp only [ho, hx]
  refine Mem.run_v ?_
  have hbs : (Conv.bytesToString v).run P w = .ok (.string ⟨L.toArray⟩) w := by
    rcases hsl with ⟨⟨p, rfl⟩, rfl⟩ | ⟨g, off, cap, arr, e', fr, rfl, h1, h2, h3, h4, h5⟩
    · cases p with
      | none => rfl
      | some p => exact run_bytesToString w p 0 0 [] (by simp [loadCells, loadCellsFrom, Sem.run_pure])
    · have hc : ∀ j u, (L.map fun b => Value.int .u8 b.toNat)[j]? = some u → w.cell? ((⟨g, off, none⟩ : Addr).add j) = some u := by
        intro j u hj
        rw [← flat_byte (e := e), ← h5, List.getElem?_take] at hj
        split at hj
        · rw [List.getElem?_drop] at hj
          rw [Mem.addr_add, cell_of_row w g _ arr e' fr (by rw [hw]; exact h1), ← Array.getElem?_toList]; exact hj
        · cases hj
      have hl := run_loadCells_list (P := P) w ⟨g, off, none⟩ _ hc
      rw [List.length_map] at hl
      have h6 := run_bytesToString w ⟨g, off, none⟩ L.length cap (L.map fun b => (b.toNat : Int)) (by rw [hl]; simp)
      rw [h6, fold_push]
      simp
  rcases hsl.form with ⟨p, c, rfl⟩
  simp only [convert, Sem.run_bind, run_underlying hs, run_underlying hd, run_underlying he, Result.andThen_ok]
  exact hbs
end
end Go.S
end
section
set_option linter.unusedSimpArgs false
set_option linter.unusedVariables false
namespace Go.J
open Go.Hp
variable {P : Program} {w0 : World} {Q : Exit → Act → World → Prop} {n : Nat} {E : Env} {H : Heap} {o o' : Oper} {l : List Oper} {S : Heap → Prop} {fuel : Nat} {listed : Array Bool}
theorem h_step2 (i j : Nat) (hi : l[i]? = some o) (hj : l[j]? = some o') (hr : Region.ready .any l.toArray listed = [i, j])
    (h : JL P w0 l.toArray (heldQ P l Q S fuel (listed.setIfInBounds i true)) n [o] E H)
    (h' : JL P w0 l.toArray (heldQ P l Q S fuel (listed.setIfInBounds j true)) n [o'] E H) : JH P w0 l Q n S (fuel + 1) listed E H := by
  intro a w hf ha
  refine wpAnyH_all hr (by simp) ?_
  intro k hk
  rcases List.mem_cons.1 hk with rfl | hk
  · have := h a w hf ha
    unfold wpOp
    rw [show l.toArray[k]? = some o by simpa using hi]
    exact this
  · rw [List.mem_singleton] at hk
    subst hk
    have := h' a w hf ha
    unfold wpOp
    rw [show l.toArray[k]? = some o' by simpa using hj]
    exact this
end Go.J
namespace Go.S
open Go.Hp Go.J
variable {P : Program} {w0 : World} {Q : Exit → Act → World → Prop} {n : Nat} {E : Env} {Z : Zone} {As : List Asr} {o o' : Oper} {l : List Oper} {Ks : List Asr} {fuel : Nat} {listed : Array Bool}
theorem h_stepS2 (i j : Nat) (h : SL P w0 l.toArray (heldQ P l Q (HS Z Ks) fuel (listed.setIfInBounds i true)) n [o] E Z As) (h' : SL P w0 l.toArray (heldQ P l Q (HS Z Ks) fuel (listed.setIfInBounds j true)) n [o'] E Z As) (hi : l[i]? = some o := by rfl) (hj : l[j]? = some o' := by rfl) (hr : Region.ready .any l.toArray listed = [i, j] := by kernel_rfl) : SH P w0 l Q n Z Ks (fuel + 1) listed E As :=
  fun H hH => h_step2 i j hi hj hr (h H hH) (h' H hH)
end Go.S
end
section
set_option linter.unusedSimpArgs false
set_option linter.unusedVariables false
namespace Go.S
open Go.Hp Go.J
section
variable {P : Program} {w0 : World} {ops : Array Oper} {Q : Exit → Act → World → Prop} {n : Nat} {E : Env} {Z : Zone} {As : List Asr} {α β γ δ : Type}
theorem k_mem2 {c : Code} {p : α → β → Prop} {Bs : α → β → List Asr} (hA : ∀ H, Holds Z As H → ∃ x y, p x y ∧ Holds Z (Bs x y) H) (h : ∀ x y, p x y → SK P w0 c Q n E Z (Bs x y)) : SK P w0 c Q n E Z As := fun H hH => by
  obtain ⟨x, y, hp, hB⟩ := hA H hH; exact h x y hp H hB
theorem s_mem2 {l : List Oper} {p : α → β → Prop} {Bs : α → β → List Asr} (hA : ∀ H, Holds Z As H → ∃ x y, p x y ∧ Holds Z (Bs x y) H) (h : ∀ x y, p x y → SL P w0 ops Q n l E Z (Bs x y)) : SL P w0 ops Q n l E Z As := fun H hH => by
  obtain ⟨x, y, hp, hB⟩ := hA H hH; exact h x y hp H hB
theorem xs_mem2 {c : Exit} {p : α → β → Prop} {Bs : α → β → List Asr} (hA : ∀ H, Holds Z As H → ∃ x y, p x y ∧ Holds Z (Bs x y) H) (h : ∀ x y, p x y → SX w0 c Q n E Z (Bs x y)) : SX w0 c Q n E Z As := fun H hH => by
  obtain ⟨x, y, hp, hB⟩ := hA H hH; exact h x y hp H hB
theorem k_mem3 {c : Code} {p : α → β → γ → Prop} {Bs : α → β → γ → List Asr} (hA : ∀ H, Holds Z As H → ∃ x y z, p x y z ∧ Holds Z (Bs x y z) H) (h : ∀ x y z, p x y z → SK P w0 c Q n E Z (Bs x y z)) : SK P w0 c Q n E Z As := fun H hH => by
  obtain ⟨x, y, z, hp, hB⟩ := hA H hH; exact h x y z hp H hB
theorem s_mem3 {l : List Oper} {p : α → β → γ → Prop} {Bs : α → β → γ → List Asr} (hA : ∀ H, Holds Z As H → ∃ x y z, p x y z ∧ Holds Z (Bs x y z) H) (h : ∀ x y z, p x y z → SL P w0 ops Q n l E Z (Bs x y z)) : SL P w0 ops Q n l E Z As := fun H hH => by
  obtain ⟨x, y, z, hp, hB⟩ := hA H hH; exact h x y z hp H hB
theorem xs_mem3 {c : Exit} {p : α → β → γ → Prop} {Bs : α → β → γ → List Asr} (hA : ∀ H, Holds Z As H → ∃ x y z, p x y z ∧ Holds Z (Bs x y z) H) (h : ∀ x y z, p x y z → SX w0 c Q n E Z (Bs x y z)) : SX w0 c Q n E Z As := fun H hH => by
  obtain ⟨x, y, z, hp, hB⟩ := hA H hH; exact h x y z hp H hB
theorem k_mem4 {c : Code} {p : α → β → γ → δ → Prop} {Bs : α → β → γ → δ → List Asr} (hA : ∀ H, Holds Z As H → ∃ x y z u, p x y z u ∧ Holds Z (Bs x y z u) H) (h : ∀ x y z u, p x y z u → SK P w0 c Q n E Z (Bs x y z u)) : SK P w0 c Q n E Z As := fun H hH => by
  obtain ⟨x, y, z, u, hp, hB⟩ := hA H hH; exact h x y z u hp H hB
theorem s_mem4 {l : List Oper} {p : α → β → γ → δ → Prop} {Bs : α → β → γ → δ → List Asr} (hA : ∀ H, Holds Z As H → ∃ x y z u, p x y z u ∧ Holds Z (Bs x y z u) H) (h : ∀ x y z u, p x y z u → SL P w0 ops Q n l E Z (Bs x y z u)) : SL P w0 ops Q n l E Z As := fun H hH => by
  obtain ⟨x, y, z, u, hp, hB⟩ := hA H hH; exact h x y z u hp H hB
theorem xs_mem4 {c : Exit} {p : α → β → γ → δ → Prop} {Bs : α → β → γ → δ → List Asr} (hA : ∀ H, Holds Z As H → ∃ x y z u, p x y z u ∧ Holds Z (Bs x y z u) H) (h : ∀ x y z u, p x y z u → SX w0 c Q n E Z (Bs x y z u)) : SX w0 c Q n E Z As := fun H hH => by
  obtain ⟨x, y, z, u, hp, hB⟩ := hA H hH; exact h x y z u hp H hB
end
end Go.S
end
section
set_option linter.unusedSimpArgs false
set_option linter.unusedVariables false
set_option linter.unusedSectionVars false
namespace Go.S
open Go.Hp Go.J
open Go.Mem (Ty KTy blk Stamps)

section
variable {κ β : Type} [DecidableEq κ]
def bornAt (es : Array MapEntry) (i : Nat) : Nat := ((es.toList.map (·.born))[i]?).getD 0
/-- Block b is a map, block r an iterator over it that has handed out 'done'. -/
def Rg (H : Heap) (K : KTy κ) (V : β → Value) (b r : Nat) (m done : List (κ × β)) : Prop :=
  ∃ (es : Array MapEntry) (clock : Nat) (ix : List Nat), H[b]? = some (.map es clock) ∧ es.toList.map (fun e => (e.key, e.val)) = m.map (fun p => (K.val p.1, V p.2)) ∧ (m.map Prod.fst).Nodup ∧ Stamps es.toList clock
    ∧ H[r]? = some (.mapIter (some b) clock (ix.map (bornAt es)).toArray clock) ∧ ix.Nodup ∧ (∀ i ∈ ix, i < m.length) ∧ done.map some = ix.map (fun i => m[i]?)
theorem Rg.kept {H H' : Heap} {K : KTy κ} {V : β → Value} {b r : Nat} {m done : List (κ × β)} (h : Rg H K V b r m done) (h1 : H'[b]? = H[b]?) (h2 : H'[r]? = H[r]?) : Rg H' K V b r m done := by
  obtain ⟨es, clock, ix, a, e, n, s, c, d⟩ := h
  exact ⟨es, clock, ix, h1.trans a, e, n, s, h2.trans c, d⟩
theorem Rg.lt1 {H : Heap} {K : KTy κ} {V : β → Value} {b r : Nat} {m done : List (κ × β)} (h : Rg H K V b r m done) : b < H.size := by
  obtain ⟨es, clock, ix, a, _⟩ := h; exact lt_of_some a
theorem Rg.lt2 {H : Heap} {K : KTy κ} {V : β → Value} {b r : Nat} {m done : List (κ × β)} (h : Rg H K V b r m done) : r < H.size := by
  obtain ⟨es, clock, ix, _, _, _, _, a, _⟩ := h; exact lt_of_some a
def rgA (K : KTy κ) (V : β → Value) (b r : Nat) (m done : List (κ × β)) : Asr where
  on H S := Rg H K V b r m done ∧ ∀ k, S k ↔ k = b ∨ k = r
  lt h k hk := by
    rcases (h.2 k).1 hk with rfl | rfl
    · exact h.1.lt1
    · exact h.1.lt2
  keep h hk := ⟨h.1.kept (hk _ ((h.2 _).2 (.inl rfl))) (hk _ ((h.2 _).2 (.inr rfl))), h.2⟩
theorem perm_of_ix {m done : List (κ × β)} {ix : List Nat} (hn : ix.Nodup) (hl : ∀ i ∈ ix, i < m.length) (hd : done.map some = ix.map (fun i => m[i]?)) (ha : ∀ i, i < m.length → i ∈ ix) : done.Perm m := by
  have hp : ix.Perm (List.range m.length) := (List.perm_ext_iff_of_nodup hn List.nodup_range).2 fun i => ⟨fun h => List.mem_range.2 (hl i h), fun h => ha i (List.mem_range.1 h)⟩
  have h1 : (done.map some).Perm ((List.range m.length).map (fun i => m[i]?)) := by rw [hd]; exact hp.map _
  have h2 : (List.range m.length).map (fun i => m[i]?) = m.map some := by
    apply List.ext_getElem?
    intro i
    by_cases h : i < m.length
    · simp [h]
    · simp [h]
  rw [h2] at h1
  have h3 := h1.filterMap id
  simpa [List.filterMap_map] using h3
theorem nodup_len : ∀ (n : Nat) (l : List Nat), l.Nodup → (∀ i ∈ l, i < n) → l.length ≤ n
  | 0, l, _, h => by
    cases l with
    | nil => simp
    | cons a r => exact absurd (h a (by simp)) (Nat.not_lt_zero _)
  | n + 1, l, hn, h => by
    by_cases hm : n ∈ l
    · have h1 := nodup_len n (l.erase n) (hn.erase n) fun i hi => by
        rw [hn.mem_erase_iff] at hi
        have := h i hi.2
        omega
      rw [List.length_erase_of_mem hm] at h1
      have := List.length_pos_of_mem hm
      omega
    · have := nodup_len n l hn fun i hi => by
        have := h i hi
        have : i ≠ n := fun e => hm (e ▸ hi)
        omega
      omega
theorem born_inj {es : Array MapEntry} {clock : Nat} (h : Stamps es.toList clock) {i j : Nat} (hi : i < es.size) (hj : j < es.size) (e : bornAt es i = bornAt es j) : i = j := by
  unfold bornAt at e
  have h1 : i < (es.toList.map (·.born)).length := by simpa using hi
  have h2 : j < (es.toList.map (·.born)).length := by simpa using hj
  rw [List.getElem?_eq_getElem h1, List.getElem?_eq_getElem h2, Option.getD_some, Option.getD_some] at e
  exact (List.getElem_inj (h := h.1)).1 e
theorem Rg.start {H' : Heap} {K : KTy κ} {V : β → Value} {b r : Nat} {m : List (κ × β)} {es : Array MapEntry} {clock : Nat} (h1 : H'[b]? = some (.map es clock)) (h2 : es.toList.map (fun e => (e.key, e.val)) = m.map (fun p => (K.val p.1, V p.2))) (h3 : (m.map Prod.fst).Nodup) (h4 : Stamps es.toList clock) (h5 : H'[r]? = some (.mapIter (some b) clock #[] clock)) : Rg H' K V b r m [] :=
  ⟨es, clock, [], h1, h2, h3, h4, h5, List.nodup_nil, by simp, by simp⟩
theorem Rg.mp {H : Heap} {K : KTy κ} {V : β → Value} {b r : Nat} {m done : List (κ × β)} (h : Rg H K V b r m done) : Mp H K V b m := by
  obtain ⟨es, clock, ix, a, e, n, s, _⟩ := h
  exact ⟨es, clock, a, e, n, s⟩
end
section
variable {κ β : Type} [DecidableEq κ] {P : Program} {w0 : World} {ops : Array Oper} {Q : Exit → Act → World → Prop} {n : Nat} {E : Env} {Z : Zone} {As : List Asr} {o : Oper} {rest : List Oper} {K : KTy κ} {V : β → Value} {b r : Nat} {m done : List (κ × β)}
/-- The range is over: the map is a map. -/
theorem Holds.unrange {H : Heap} (i : Nat) (h : Holds Z As H) (hi : gt As i = some (rgA K V b r m done) := by rfl) : Holds Z (upd As i (mpA K V b m)) H :=
  h.step hi fun S ⟨h1, h2⟩ => ⟨fun k => k = b, ⟨h1.mp, fun k => Iff.rfl⟩, Chg.refl _ _, fun k hk => .inl ((h2 k).2 (.inl hk))⟩
theorem s_range {x : Operand} {t e : TypeId} {d : Nat} (i : Nat) (ht : P.underlying t = some (.map K.id e)) (h : ∀ r, SL P w0 ops Q n rest ((d, .pointer (some ⟨r, 0, none⟩)) :: E) Z (upd As i (rgA K V b r m [])))
    (ho : o.op = .range t x := by rfl) (hA : gt As i = some (mpA K V b m) := by rfl) (hx : ev E x = .map (some b) := by rfl) (hd : o.dst = some d := by rfl) (hk : okOp ops n E o = true := by kernel_rfl) : SL P w0 ops Q n (o :: rest) E Z As := fun H hH => by
  obtain ⟨es, clock, hb, h2, h3, h4⟩ := hH.mp hA
  refine l_new (v := fun g => .pointer (some ⟨g, 0, none⟩)) (ob := .mapIter (some b) clock #[] clock) hk (fun w hw => ?_) fun g H' hn => ?_
  · unfold execOp
    simp only [ho, hx]
    exact Mem.run_v (run_range_map w t K.id e b es clock ht (by rw [hw]; exact hb))
  · rw [hd]
    refine h g H' (hH.step hA fun S ⟨_, hS⟩ => ⟨fun k => k = b ∨ k = g, ⟨Rg.start (es := es) ?_ h2 h3 h4 hn.is, fun k => Iff.rfl⟩, hn.chg S, ?_⟩)
    · rw [(hn.chg (fun _ => False)).block b (lt_of_some hb) (fun h => h)]; exact hb
    · rintro k (rfl | rfl)
      · exact .inl ((hS _).2 rfl)
      · exact .inr (Nat.le_of_eq hn.at_.symm)
/-- 'next', wherever the iterator lies. -/
theorem run_nextAt (w : World) (ty : TypeId) (r bm clock : Nat) (seen : Array Nat) (es : Array MapEntry) (hb : w.heap[bm]? = some (.map es clock)) (hr : w.heap[r]? = some (.mapIter (some bm) clock seen clock)) (hold : ∀ x ∈ es.toList, x.born < clock) :
    ((leftOf es seen).size = 0 ∧ (Instr.next (.pointer (some ⟨r, 0, none⟩)) false ty).run P w = .ok (.tuple #[.bool false]) w) ∨
    ∃ e ∈ (leftOf es seen).toList, ∃ w1 : World, (w1.os = w.os ∧ w1.tape = w.tape ∧ w1.output = w.output) ∧ (Instr.next (.pointer (some ⟨r, 0, none⟩)) false ty).run P w = .ok (.tuple #[.bool true, e.key, e.val]) { w1 with heap := w.heap.setIfInBounds r (.mapIter (some bm) clock (seen.push e.born) clock) } := by
  simp only [Instr.next, getObj, Sem.run_bind, Sem.run, hr, hb, Result.andThen, next_test_false seen es clock clock hold (Nat.le_refl _), Bool.false_eq_true, if_false]
  unfold leftOf
  have hmem : ∀ x ∈ (Array.filter (fun e => !seen.contains e.born) es).toList, x.born < clock := fun x hx => hold x (by simp at hx ⊢; exact hx.1)
  generalize Array.filter (fun e => !seen.contains e.born) es = L at hmem ⊢
  have e1 : L.filter (fun x => decide (x.born < clock)) = L := Array.filter_eq_self.2 (fun x hx => by simpa using hmem x (by simpa using hx))
  have e2 : L.filter (fun x => decide (x.born ≥ clock)) = #[] := by
    rw [Array.filter_eq_empty_iff]
    intro x hx
    have := hmem x (by simpa using hx)
    simp
    omega
  simp only [e1, e2, Array.append_empty]
  by_cases h0 : L.size = 0
  · left
    have : L = #[] := Array.eq_empty_of_size_eq_zero h0
    subst this
    refine ⟨rfl, ?_⟩
    simp [choose, Sem.run, Question.forced]
  · right
    have hne : L.isEmpty = false := by simp [Array.isEmpty, h0]
    simp only [hne, Bool.false_eq_true, if_false, Array.empty_append, Array.size_map]
    have hch : ∃ (j : Nat) (w1 : World), j < L.size ∧ (w1.os = w.os ∧ w1.tape = w.tape ∧ w1.output = w.output) ∧ w1.heap = w.heap ∧ (choose (Question.mapNext L.size)).run P w = .ok j w1 := by
      by_cases hf : L.size ≤ 1
      · exact ⟨0, w, by omega, ⟨rfl, rfl, rfl⟩, rfl, by simp [choose, Sem.run, Question.forced, hf]⟩
      · exact ⟨_, w.drew, Nat.mod_lt _ (by omega), ⟨rfl, rfl, rfl⟩, rfl, by
          simp only [choose, Sem.run, Question.forced, decide_eq_true_eq, hf, if_false, Question.cut]
          rfl⟩
    obtain ⟨j, w1, hj, hal, hheap, hrun⟩ := hch
    refine ⟨L[j], by simp, w1, hal, ?_⟩
    have hset : ∀ o' : Obj, (setObj r o').run P w1 = .ok () { w1 with heap := w.heap.setIfInBounds r o' } := fun o' => by
      simp only [setObj, Sem.run, hheap, hr]
    simp only [hrun, Array.getElem?_map, Array.getElem?_eq_getElem hj, Option.map_some, Sem.run_bind, hset, Result.andThen]
    rfl
theorem len_es {es : Array MapEntry} (h : es.toList.map (fun e => (e.key, e.val)) = m.map (fun p => (K.val p.1, V p.2))) : es.size = m.length := by
  have := congrArg List.length h; simpa using this
theorem at_es {es : Array MapEntry} (h : es.toList.map (fun e => (e.key, e.val)) = m.map (fun p => (K.val p.1, V p.2))) {i : Nat} {e : MapEntry} (he : es.toList[i]? = some e) : ∃ p, m[i]? = some p ∧ e.key = K.val p.1 ∧ e.val = V p.2 := by
  have := congrArg (·[i]?) h
  simp only [List.getElem?_map, he, Option.map_some] at this
  cases hm : m[i]? with
  | none => rw [hm] at this; simp at this
  | some p => rw [hm] at this; simp at this; exact ⟨p, rfl, this.1, this.2⟩
theorem s_next {x : Operand} {d : Nat} (i : Nat) (h1 : done.Perm m → SL P w0 ops Q n rest ((d, .tuple #[.bool false]) :: E) Z As)
    (h2 : ∀ k u, (k, u) ∈ m → k ∉ done.map Prod.fst → done.length < m.length → SL P w0 ops Q n rest ((d, .tuple #[.bool true, K.val k, V u]) :: E) Z (upd As i (rgA K V b r m (done ++ [(k, u)]))))
    (ho : o.op = .next x false := by rfl) (hA : gt As i = some (rgA K V b r m done) := by rfl) (hx : ev E x = .pointer (some ⟨r, 0, none⟩) := by rfl) (hd : o.dst = some d := by rfl) (hk : okOp ops n E o = true := by kernel_rfl) : SL P w0 ops Q n (o :: rest) E Z As := fun H hH => by
  obtain ⟨S, ⟨⟨es, clock, ix, hb, hes, hm, hst, hr, hn, hl, hdn⟩, hS⟩, _⟩ := hH.part hA
  have hlen := len_es hes
  have hdl : done.length = ix.length := by have := congrArg List.length hdn; simpa using this
  refine l_run (R := fun v' H' => (v' = .tuple #[.bool false] ∧ H' = H ∧ (leftOf es (ix.map (bornAt es)).toArray).size = 0) ∨ ∃ e ∈ (leftOf es (ix.map (bornAt es)).toArray).toList, v' = .tuple #[.bool true, e.key, e.val] ∧ H' = H.setIfInBounds r (.mapIter (some b) clock ((ix.map (bornAt es)).toArray.push e.born) clock)) hk (fun w ha => ?_) fun v' H' hR => ?_
  · have hw := ha.heap
    rcases run_nextAt (P := P) w o.type r b clock (ix.map (bornAt es)).toArray es (by rw [hw]; exact hb) (by rw [hw]; exact hr) hst.2 with ⟨h0, hrun⟩ | ⟨e, he, w1, hal, hrun⟩
    · exact ⟨_, w, by unfold execOp; simp only [ho, hx]; exact Mem.run_v hrun, ⟨rfl, ha.os, ha.tape, ha.output⟩, .inl ⟨rfl, hw, h0⟩⟩
    · refine ⟨_, _, by unfold execOp; simp only [ho, hx]; exact Mem.run_v hrun, ?_, .inr ⟨e, he, rfl, by rw [hw]⟩⟩
      exact ⟨rfl, hal.1.trans ha.os, hal.2.1.trans ha.tape, hal.2.2.trans ha.output⟩
  · rw [hd]
    rcases hR with ⟨rfl, rfl, h0⟩ | ⟨e, he, rfl, rfl⟩
    · refine h1 (perm_of_ix hn hl hdn fun i hi => ?_) _ hH
      have hi' : i < es.size := by omega
      have hin : es[i] ∈ es := Array.getElem_mem hi'
      have hnot : ¬ es[i] ∈ leftOf es (ix.map (bornAt es)).toArray := by
        have : leftOf es (ix.map (bornAt es)).toArray = #[] := Array.eq_empty_of_size_eq_zero h0
        rw [this]; simp
      unfold leftOf at hnot
      rw [Array.mem_filter] at hnot
      simp only [hin, true_and, Bool.not_eq_true', Bool.not_eq_false, List.contains_toArray, List.contains_iff_mem, List.mem_map] at hnot
      obtain ⟨j, hj, e⟩ := hnot
      have hb' : bornAt es i = es[i].born := by unfold bornAt; simp [hi']
      have : j = i := born_inj hst (by have := hl j hj; omega) hi' (by rw [hb']; exact e)
      exact this ▸ hj
    · have he' : e ∈ es ∧ e.born ∉ ix.map (bornAt es) := by
        have := he
        unfold leftOf at this
        simp at this
        refine ⟨this.1, fun hm' => ?_⟩
        obtain ⟨j, hj, ej⟩ := List.mem_map.1 hm'
        exact this.2 j hj ej
      obtain ⟨i', hi', hei⟩ := Array.getElem_of_mem he'.1
      have heL : es.toList[i']? = some e := by rw [Array.getElem?_toList, Array.getElem?_eq_getElem hi', hei]
      obtain ⟨⟨k, u⟩, hp, ek, eu⟩ := at_es hes heL
      have hbi : bornAt es i' = e.born := by unfold bornAt; rw [List.getElem?_map, heL]; rfl
      have hni : i' ∉ ix := fun h => he'.2 (List.mem_map.2 ⟨i', h, hbi⟩)
      have hdone : ∀ q ∈ done, ∃ j ∈ ix, m[j]? = some q := fun q hq => by
        have : some q ∈ done.map some := List.mem_map.2 ⟨q, hq, rfl⟩
        rw [hdn] at this
        obtain ⟨j, hj, ej⟩ := List.mem_map.1 this
        exact ⟨j, hj, ej⟩
      have hkd : k ∉ done.map Prod.fst := fun h => by
        obtain ⟨q, hq, eq⟩ := List.mem_map.1 h
        obtain ⟨j, hj, ej⟩ := hdone q hq
        have hlj := hl j hj
        have hli : i' < m.length := by omega
        have : j = i' := by
          have hj1 : j < (m.map Prod.fst).length := by simpa using hlj
          have hi1 : i' < (m.map Prod.fst).length := by simpa using hli
          refine (List.getElem_inj (h := hm) (h₀ := hj1) (h₁ := hi1)).1 ?_
          rw [List.getElem?_eq_getElem hlj] at ej
          rw [List.getElem?_eq_getElem hli] at hp
          simp only [List.getElem_map]
          rw [Option.some.inj ej, Option.some.inj hp]; exact eq
        exact hni (this ▸ hj)
      have hlt : done.length < m.length := by
        rw [hdl]
        have hnd : (i' :: ix).Nodup := List.nodup_cons.2 ⟨hni, hn⟩
        have := nodup_len m.length (i' :: ix) hnd fun j hj => by
          rcases List.mem_cons.1 hj with rfl | h
          · omega
          · exact hl j h
        simp at this
        omega
      have hv : (Value.tuple #[.bool true, e.key, e.val]) = .tuple #[.bool true, K.val k, V u] := by rw [ek, eu]
      rw [hv]
      refine h2 k u (List.mem_of_getElem? hp) hkd hlt _ (hH.step hA fun S' hS' => ⟨S', ⟨⟨es, clock, ix ++ [i'], ?_, hes, hm, hst, ?_, ?_, ?_, ?_⟩, hS'.2⟩, ?_, fun k hk => .inl hk⟩)
      · have hbr : b ≠ r := fun h => by rw [h] at hb; rw [hb] at hr; cases hr
        rw [Array.getElem?_setIfInBounds_ne (fun h => hbr h.symm)]; exact hb
      · rw [Array.getElem?_setIfInBounds_self_of_lt (lt_of_some hr)]
        simp [hbi]
      · rw [List.nodup_append]
        exact ⟨hn, by simp, fun a ha b hb => by simp at hb; subst hb; exact fun h => hni (h ▸ ha)⟩
      · intro j hj
        rcases List.mem_append.1 hj with h | h
        · exact hl j h
        · simp at h; omega
      · simp [hdn, hp]
      · exact ⟨by simp, fun j _ hj => by rw [Array.getElem?_setIfInBounds_ne (fun h => hj ((hS'.2 j).2 (.inr h.symm)))]⟩
theorem t_entry {x : Operand} {k : κ} {u : β} (i : Nat) (hA : gt As i = some (rgA K V b r m (done ++ [(k, u)])) := by rfl) (ho : o.op = .entry x := by rfl) (hx : ev E x = .pointer (some ⟨r, 0, none⟩) := by rfl) : Lt P E o Z As (.tuple #[K.val k, V u]) := fun H hH => by
  obtain ⟨S, ⟨⟨es, clock, ix, hb, hes, hm, hst, hr, hn, hl, hdn⟩, hS⟩, _⟩ := hH.part hA
  refine ⟨fun w hw => ?_⟩
  subst hw
  unfold execOp
  simp only [ho, hx]
  refine Mem.run_v ?_
  rw [List.map_append, List.map_cons, List.map_nil] at hdn
  rcases List.eq_nil_or_concat ix with rfl | ⟨ix0, j, rfl⟩
  · simp at hdn
  · rw [List.concat_eq_append, List.map_append, List.map_cons, List.map_nil] at hdn
    have hj := (List.append_inj' hdn rfl).2
    simp only [List.cons.injEq, and_true] at hj
    have hjl : j < es.size := by rw [len_es hes]; exact hl j (by simp)
    have heL : es.toList[j]? = some es[j] := by rw [Array.getElem?_toList, Array.getElem?_eq_getElem hjl]
    obtain ⟨p, hp, ek, eu⟩ := at_es hes heL
    rw [← hj] at hp
    cases hp
    have hbj : bornAt es j = es[j].born := by unfold bornAt; rw [List.getElem?_map, heL]; rfl
    have hf : es.find? (·.born == bornAt es j) = some es[j] := by rw [hbj, ← Array.find?_toList]; exact find_born es[j] es.toList hst.1 (by simp)
    have hback : ((List.concat ix0 j).map (bornAt es)).toArray.back? = some (bornAt es j) := by simp
    simp only [Instr.entry, getObj, Sem.run_bind, Sem.run, hr, hb, Result.andThen, hback, bne_self_eq_false, Bool.false_eq_true, if_false, hf]
    show Result.ok (Value.tuple #[es[j].key, es[j].val]) w = _
    rw [ek, eu]
end
section
theorem frz_keep {F : Heap → Prop} {H H' : Heap} {S : Nat → Prop} (h : (∀ k, S k → k < H.size) ∧ ∀ H' : Heap, (∀ k, S k → H'[k]? = H[k]?) → F H') (hk : ∀ k, S k → H'[k]? = H[k]?) : (∀ k, S k → k < H'.size) ∧ ∀ H2 : Heap, (∀ k, S k → H2[k]? = H'[k]?) → F H2 := by
  refine ⟨fun k hS => ?_, fun H2 h2 => h.2 H2 fun k hS => (h2 k hS).trans (hk k hS)⟩
  have h1 := h.1 k hS
  have h2 := hk k hS
  rcases Nat.lt_or_ge k H'.size with h' | h'
  · exact h'
  · rw [Array.getElem?_eq_none h', Array.getElem?_eq_getElem h1] at h2; cases h2
/-- What a memory says that nobody turns: F holds wherever these blocks are as they are. -/
def frz (F : Heap → Prop) : Asr where
  on H S := (∀ k, S k → k < H.size) ∧ ∀ H' : Heap, (∀ k, S k → H'[k]? = H[k]?) → F H'
  lt h := h.1
  keep h hk := frz_keep h hk
variable {Z : Zone} {As : List Asr} {H : Heap} {α : Type} {T : Ty α} {v : Value} {L : List α} {F G : Heap → Prop}
theorem Holds.frzF (h : Holds Z As H) (i : Nat) (hi : gt As i = some (frz F) := by rfl) : F H := by
  obtain ⟨S, hS, _⟩ := h.part hi; exact hS.2 H fun _ _ => rfl
theorem Holds.frz0 (h : Holds Z As H) (hF : ∀ H, F H) : Holds Z (frz F :: As) H :=
  h.new (Chg.refl _ _) (S' := fun _ => False) ⟨fun _ h => h.elim, fun H' _ => hF H'⟩ fun _ h => h.elim
/-- A slice joins. -/
theorem Holds.frzO (h : Holds Z (own T v L :: frz F :: As) H) : Holds Z (frz (fun H => Sl H T v L ∧ F H) :: As) H := h.imp fun S hS => by
  obtain ⟨S1, S2, h1, ⟨S3, S4, h3, h4, hd', hS'⟩, hd, hS⟩ := hS
  refine ⟨fun k => S1 k ∨ S3 k, S4, ⟨?_, fun H' hk => ⟨?_, h3.2 H' fun k hS => hk k (.inr hS)⟩⟩, h4, ?_, ?_⟩
  · rintro k (a | a)
    · exact (own T v L).lt h1 k a
    · exact h3.1 k a
  · have := (own T v L).keep h1 fun k a => hk k (.inl a)
    exact this.1.sl
  · rintro k (a | a) b
    · exact hd k a ((hS' k).2 (.inr b))
    · exact hd' k a b
  · intro k; rw [hS k, hS' k]; simp [or_assoc]
theorem Holds.frzM (hF : ∀ H, F H → G H) (h : Holds Z (frz F :: As) H) : Holds Z (frz G :: As) H := h.imp fun S ⟨S1, S2, h1, h2, hd, hS⟩ => ⟨S1, S2, ⟨h1.1, fun H' hk => hF H' (h1.2 H' hk)⟩, h2, hd, hS⟩
/-- Two join. -/
theorem Holds.frzJ (h : Holds Z (frz F :: frz G :: As) H) : Holds Z (frz (fun H => F H ∧ G H) :: As) H := h.imp fun S hS => by
  obtain ⟨S1, S2, h1, ⟨S3, S4, h3, h4, hd', hS'⟩, hd, hS⟩ := hS
  refine ⟨fun k => S1 k ∨ S3 k, S4, ⟨?_, fun H' hk => ⟨h1.2 H' fun k hS => hk k (.inl hS), h3.2 H' fun k hS => hk k (.inr hS)⟩⟩, h4, ?_, ?_⟩
  · rintro k (a | a)
    · exact h1.1 k a
    · exact h3.1 k a
  · rintro k (a | a) b
    · exact hd k a ((hS' k).2 (.inr b))
    · exact hd' k a b
  · intro k; rw [hS k, hS' k]; simp [or_assoc]
end
end Go.S
end
section
set_option linter.unusedSimpArgs false
set_option linter.unusedVariables false
namespace Go.S
open Go.Hp Go.J
open Go.Mem (Ty KTy blk)
def ZOk (Z : Zone) (H : Heap) : Prop := ∀ k, Z.dom k → H[k]? = Z.heap[k]? ∧ k < H.size
/-- The zone Z' knows what Z knows, and the part K. -/
structure Lend (Z Z' : Zone) (K : Asr) : Prop where
  sub : ∀ H, ZOk Z' H → ZOk Z H
  has : ∀ H, ZOk Z' H → ∃ S, K.on H S
section
variable {P : Program} {Z Z' : Zone} {As As0 Bs : List Asr} {H H' : Heap} {K : Asr} {α : Type} {T : Ty α} {v : Value} {L : List α} {F : Heap → Prop}
theorem Lend.kn (h : Lend Z Z' K) (k : Kn Z T v L) : Kn Z' T v L := fun H hz => k H (h.sub H hz)
theorem Lend.own (h : Lend Z Z' (own T v L)) : Kn Z' T v L := fun H hz => by
  obtain ⟨S, hS⟩ := h.has H hz; exact hS.1.sl
theorem Lend.frz (h : Lend Z Z' (frz F)) : ∀ H, ZOk Z' H → F H := fun H hz => by
  obtain ⟨S, hS⟩ := h.has H hz; exact hS.2 H fun _ _ => rfl
theorem lend_in (h : Holds Z (K :: As) H) : ∃ Z', Lend Z Z' K ∧ Holds Z' As H ∧ ∀ Bs H', Holds Z' Bs H' → Holds Z (K :: Bs) H' := by
  obtain ⟨S, ⟨S1, S2, h1, h2, hd', hS⟩, hd⟩ := h.sep
  refine ⟨⟨H, fun k => Z.dom k ∨ S1 k⟩, ⟨fun H2 hz k hk => ?_, fun H2 hz => ⟨S1, K.keep h1 fun k hk => (hz k (.inr hk)).1⟩⟩, ⟨fun k hk => ?_, S2, h2, fun k hk => ?_⟩, fun Bs H2 h3 => ?_⟩
  · have := hz k (.inl hk); exact ⟨this.1.trans (h.zone k hk).1, this.2⟩
  · rcases hk with hk | hk
    · exact ⟨rfl, (h.zone k hk).2⟩
    · exact ⟨rfl, K.lt h1 k hk⟩
  · rintro (hz | hz)
    · exact hd k ((hS k).2 (.inr hk)) hz
    · exact hd' k hz hk
  · obtain ⟨S3, h4, h5⟩ := h3.sep
    refine ⟨fun k hk => ?_, fun k => S1 k ∨ S3 k, ⟨S1, S3, K.keep h1 fun k hk => (h3.zone k (.inr hk)).1, h4, fun k a b => h5 k b (.inr a), fun k => Iff.rfl⟩, ?_⟩
    · have := h3.zone k (.inl hk); exact ⟨this.1.trans (h.zone k hk).1, this.2⟩
    · rintro k (a | a) hz
      · exact hd k ((hS k).2 (.inl a)) hz
      · exact h5 k a (.inl hz)
variable {w0 : World} {ops : Array Oper} {Q : Exit → Act → World → Prop} {n : Nat} {E : Env} {o : Oper} {rest : List Oper} {f : FuncId} {xs : Array Operand} {ts : Array TypeId} {vals : List Value} {R : Value → List Asr → Prop}
theorem s_lend {d : Nat} (i : Nat) (is : List Nat) (hc : ∀ Z', Lend Z Z' K → SF P f vals.toArray Z' As0 R) (h : ∀ v Bs, R v Bs → SL P w0 ops Q n rest ((d, v) :: E) Z (K :: Bs)) (hi : gt As i = some K := by rfl) (hp : rearr (del As i) is = As0 := by rfl)
    (ho : o.op = .call { callee := .value (.func f), args := xs, argTypes := ts } := by rfl) (hx : (xs.toList.map (ev E)) = vals := by rfl) (hd : o.dst = some d := by rfl) (hfn : isFn P f = true := by kernel_rfl) (hk : okOp ops n E o = true := by kernel_rfl) : SL P w0 ops Q n (o :: rest) E Z As := fun H hH => by
  obtain ⟨Z', hl, h1, h2⟩ := lend_in (hH.pull hi)
  exact l_call ho vals hk hx hfn (hc Z' hl H (hp ▸ h1.rearr is)) fun v H' ⟨Bs, hr, hB⟩ => by rw [hd]; exact h v Bs hr H' (h2 Bs H' hB)
theorem s_lend0 (i : Nat) (is : List Nat) (hc : ∀ Z', Lend Z Z' K → SF P f vals.toArray Z' As0 R) (h : ∀ v Bs, R v Bs → SL P w0 ops Q n rest E Z (K :: Bs)) (hi : gt As i = some K := by rfl) (hp : rearr (del As i) is = As0 := by rfl)
    (ho : o.op = .call { callee := .value (.func f), args := xs, argTypes := ts } := by rfl) (hx : (xs.toList.map (ev E)) = vals := by rfl) (hd : o.dst = none := by rfl) (hfn : isFn P f = true := by kernel_rfl) (hk : okOp ops n E o = true := by kernel_rfl) : SL P w0 ops Q n (o :: rest) E Z As := fun H hH => by
  obtain ⟨Z', hl, h1, h2⟩ := lend_in (hH.pull hi)
  exact l_call ho vals hk hx hfn (hc Z' hl H (hp ▸ h1.rearr is)) fun v H' ⟨Bs, hr, hB⟩ => by rw [hd]; exact h v Bs hr H' (h2 Bs H' hB)
/-- Parts that nobody turns, that may lean on the zone. -/
def zfr (Z : Zone) (F : Heap → Prop) : Asr := frz fun H => ZOk Z H → F H
theorem Holds.zfrF (h : Holds Z As H) (i : Nat) (hi : gt As i = some (zfr Z F) := by rfl) : F H := h.frzF i hi h.zone
theorem Holds.zfr0 (h : Holds Z As H) (hF : ∀ H, ZOk Z H → F H) : Holds Z (zfr Z F :: As) H := h.frz0 hF
theorem Holds.zfrO (h : Holds Z (own T v L :: zfr Z F :: As) H) : Holds Z (zfr Z (fun H => Sl H T v L ∧ F H) :: As) H := (Holds.frzO h).frzM fun H h hz => ⟨h.1, h.2 hz⟩
theorem Holds.zfrM {G : Heap → Prop} (hF : ∀ H, ZOk Z H → F H → G H) (h : Holds Z (zfr Z F :: As) H) : Holds Z (zfr Z G :: As) H := Holds.frzM (fun H h hz => hF H hz (h hz)) h
theorem Holds.zfrJ {G : Heap → Prop} (h : Holds Z (zfr Z F :: zfr Z G :: As) H) : Holds Z (zfr Z (fun H => F H ∧ G H) :: As) H := (Holds.frzJ h).frzM fun H h hz => ⟨h.1 hz, h.2 hz⟩
theorem Holds.toZ (h : Holds Z (frz F :: As) H) : Holds Z (zfr Z F :: As) H := h.frzM fun _ h _ => h
end
end Go.S
end
section
set_option linter.unusedSimpArgs false
set_option linter.unusedVariables false
set_option linter.unusedSectionVars false
namespace Go.J
open Go.Hp
variable {P : Program} {w0 : World} {Q : Exit → Act → World → Prop} {n : Nat} {E : Env} {H : Heap} {o o' o2 : Oper} {l : List Oper} {S : Heap → Prop} {fuel : Nat} {listed : Array Bool}
theorem h_step3 (i j m : Nat) (hi : l[i]? = some o) (hj : l[j]? = some o') (hm : l[m]? = some o2) (hr : Region.ready .any l.toArray listed = [i, j, m])
    (h : JL P w0 l.toArray (heldQ P l Q S fuel (listed.setIfInBounds i true)) n [o] E H)
    (h' : JL P w0 l.toArray (heldQ P l Q S fuel (listed.setIfInBounds j true)) n [o'] E H)
    (h2 : JL P w0 l.toArray (heldQ P l Q S fuel (listed.setIfInBounds m true)) n [o2] E H) : JH P w0 l Q n S (fuel + 1) listed E H := by
  intro a w hf ha
  refine wpAnyH_all hr (by simp) ?_
  intro k hk
  rcases List.mem_cons.1 hk with rfl | hk
  · have := h a w hf ha
    unfold wpOp
    rw [show l.toArray[k]? = some o by simpa using hi]
    exact this
  · rcases List.mem_cons.1 hk with rfl | hk
    · have := h' a w hf ha
      unfold wpOp
      rw [show l.toArray[k]? = some o' by simpa using hj]
      exact this
    · rw [List.mem_singleton] at hk
      subst hk
      have := h2 a w hf ha
      unfold wpOp
      rw [show l.toArray[k]? = some o2 by simpa using hm]
      exact this
theorem h_stepN (L : List (Nat × Oper)) (hL : (L.all fun p => (l[p.1]?).isSome) = true) (hr : Region.ready .any l.toArray listed = L.map (·.1)) (hne : L ≠ [])
    (h : ∀ p ∈ L, l[p.1]? = some p.2 ∧ JL P w0 l.toArray (heldQ P l Q S fuel (listed.setIfInBounds p.1 true)) n [p.2] E H) : JH P w0 l Q n S (fuel + 1) listed E H := by
  intro a w hf ha
  refine wpAnyH_all hr (by simpa using hne) ?_
  intro k hk
  obtain ⟨p, hp, rfl⟩ := List.mem_map.1 hk
  obtain ⟨h1, h2⟩ := h p hp
  have := h2 a w hf ha
  unfold wpOp
  rw [show l.toArray[p.1]? = some p.2 by simpa using h1]
  exact this
end Go.J
namespace Go.S
open Go.Hp Go.J
theorem h_stepS4 {P : Program} {w0 : World} {Q : Exit → Act → World → Prop} {n : Nat} {E : Env} {Z : Zone} {As : List Asr} {o o' o2 o3 : Oper} {l : List Oper} {Ks : List Asr} {fuel : Nat} {listed : Array Bool} (i j m q : Nat) (h : SL P w0 l.toArray (heldQ P l Q (HS Z Ks) fuel (listed.setIfInBounds i true)) n [o] E Z As) (h' : SL P w0 l.toArray (heldQ P l Q (HS Z Ks) fuel (listed.setIfInBounds j true)) n [o'] E Z As) (h2 : SL P w0 l.toArray (heldQ P l Q (HS Z Ks) fuel (listed.setIfInBounds m true)) n [o2] E Z As) (h3 : SL P w0 l.toArray (heldQ P l Q (HS Z Ks) fuel (listed.setIfInBounds q true)) n [o3] E Z As) (hi : l[i]? = some o := by rfl) (hj : l[j]? = some o' := by rfl) (hm : l[m]? = some o2 := by rfl) (hq : l[q]? = some o3 := by rfl) (hr : Region.ready .any l.toArray listed = [i, j, m, q] := by kernel_rfl) : SH P w0 l Q n Z Ks (fuel + 1) listed E As :=
  fun H hH => h_stepN [(i, o), (j, o'), (m, o2), (q, o3)] (by simp [hi, hj, hm, hq]) hr (by simp) (by
    intro p hp
    simp only [List.mem_cons, List.not_mem_nil, or_false] at hp
    rcases hp with rfl | rfl | rfl | rfl
    · exact ⟨hi, h H hH⟩
    · exact ⟨hj, h' H hH⟩
    · exact ⟨hm, h2 H hH⟩
    · exact ⟨hq, h3 H hH⟩)
theorem h_stepS3 {P : Program} {w0 : World} {Q : Exit → Act → World → Prop} {n : Nat} {E : Env} {Z : Zone} {As : List Asr} {o o' o2 : Oper} {l : List Oper} {Ks : List Asr} {fuel : Nat} {listed : Array Bool} (i j m : Nat) (h : SL P w0 l.toArray (heldQ P l Q (HS Z Ks) fuel (listed.setIfInBounds i true)) n [o] E Z As) (h' : SL P w0 l.toArray (heldQ P l Q (HS Z Ks) fuel (listed.setIfInBounds j true)) n [o'] E Z As) (h2 : SL P w0 l.toArray (heldQ P l Q (HS Z Ks) fuel (listed.setIfInBounds m true)) n [o2] E Z As) (hi : l[i]? = some o := by rfl) (hj : l[j]? = some o' := by rfl) (hm : l[m]? = some o2 := by rfl) (hr : Region.ready .any l.toArray listed = [i, j, m] := by kernel_rfl) : SH P w0 l Q n Z Ks (fuel + 1) listed E As :=
  fun H hH => h_step3 i j m hi hj hm hr (h H hH) (h' H hH) (h2 H hH)
open Go.Mem (Ty KTy blk Stamps elemAt pre suf aget aset adel apos nodup_adel adel_pos adel_none)

/-! ### Stars -/
theorem erase_map {α β : Type} (f : α → β) : ∀ (l : List α) (i : Nat), (l.map f).eraseIdx i = (l.eraseIdx i).map f
  | [], _ => rfl
  | _ :: _, 0 => rfl
  | a :: r, i + 1 => congrArg (f a :: ·) (erase_map f r i)
theorem gt_eq : ∀ (L : List Asr) (i : Nat), gt L i = L[i]?
  | [], _ => rfl
  | _ :: _, 0 => rfl
  | _ :: r, i + 1 => by rw [List.getElem?_cons_succ]; exact gt_eq r i
theorem upd_eq : ∀ (L : List Asr) (i : Nat) (B : Asr), upd L i B = L.set i B
  | [], _, _ => rfl
  | _ :: _, 0, _ => rfl
  | A :: r, i + 1, B => congrArg (A :: ·) (upd_eq r i B)
theorem del_eq : ∀ (L : List Asr) (i : Nat), del L i = L.eraseIdx i
  | [], _ => rfl
  | _ :: _, 0 => rfl
  | A :: r, i + 1 => congrArg (A :: ·) (del_eq r i)
abbrev star (L : List Asr) : Asr := stA True L
section
variable {Z : Zone} {As Bs L : List Asr} {H : Heap} {A A' : Asr} {i : Nat}
theorem Holds.star_out (h : Holds Z (star L :: As) H) : Holds Z (L ++ As) H := h.open_st.2
theorem Holds.star_in (h : Holds Z (L ++ As) H) : Holds Z (star L :: As) H := Holds.shut_st trivial h
theorem gt_append {M : List Asr} (hi : gt L i = some A) : gt (L ++ M) i = some A ∧ del (L ++ M) i = del L i ++ M := by
  rw [gt_eq] at hi
  have hl := (List.getElem?_eq_some_iff.1 hi).1
  rw [gt_eq, del_eq, del_eq, List.getElem?_append_left hl, List.eraseIdx_append_of_lt_length hl]
  exact ⟨hi, rfl⟩
/-- One of them comes out. -/
theorem Holds.star_pull (h : Holds Z (star L :: As) H) (hi : gt L i = some A) : Holds Z (A :: star (del L i) :: As) H := by
  have h1 := h.star_out.pull (gt_append hi).1
  rw [(gt_append hi).2] at h1
  have h2 : Holds Z (del L i ++ (A :: As)) H := h1.perm List.perm_middle.symm
  exact h2.star_in.swap
theorem Holds.star_push (hi : gt L i = some A) (h : Holds Z (A' :: star (del L i) :: As) H) : Holds Z (star (upd L i A') :: As) H := by
  have h1 : Holds Z (del L i ++ (A' :: As)) H := h.swap.star_out
  have h2 : Holds Z (A' :: (del L i ++ As)) H := h1.perm List.perm_middle
  have h3 : Holds Z (upd (L ++ As) i A') H := by
    refine Holds.push (gt_append hi).1 ?_
    rw [(gt_append hi).2]; exact h2
  rw [upd_eq, List.set_append_left _ _ (by rw [gt_eq] at hi; exact (List.getElem?_eq_some_iff.1 hi).1), ← upd_eq] at h3
  exact h3.star_in
theorem Holds.star_add (h : Holds Z (A :: star L :: As) H) : Holds Z (star (L ++ [A]) :: As) H := by
  have h1 : Holds Z (L ++ (A :: As)) H := h.swap.star_out
  refine Holds.star_in ?_
  rw [List.append_assoc]; exact h1
theorem Holds.star_nil (h : Holds Z As H) : Holds Z (star [] :: As) H := Holds.star_in h
/-- Parts that are named by a list. -/
theorem Holds.star_get {ι : Type} {f : ι → Asr} {l : List ι} {x : ι} (h : Holds Z (star (l.map f) :: As) H) (hi : l[i]? = some x) : Holds Z (f x :: star ((l.eraseIdx i).map f) :: As) H := by
  have h1 := h.star_pull (i := i) (A := f x) (by rw [gt_eq, List.getElem?_map, hi]; rfl)
  rw [del_eq] at h1
  rwa [erase_map] at h1
theorem Holds.star_set {ι : Type} {f g : ι → Asr} {l : List ι} {x : ι} (hi : l[i]? = some x) (hg : ∀ j y, j ≠ i → l[j]? = some y → g y = f y) (h : Holds Z (g x :: star ((l.eraseIdx i).map f) :: As) H) : Holds Z (star (l.map g) :: As) H := by
  rw [← erase_map, ← del_eq] at h
  have h1 := Holds.star_push (i := i) (A := f x) (by rw [gt_eq, List.getElem?_map, hi]; rfl) h
  rw [upd_eq] at h1
  have e : (l.map f).set i (g x) = l.map g := by
    apply List.ext_getElem?
    intro j
    by_cases hj : i = j
    · subst hj
      rw [List.getElem?_set_self (by rw [List.length_map]; exact (List.getElem?_eq_some_iff.1 hi).1), List.getElem?_map, hi]; rfl
    · rw [List.getElem?_set_ne hj, List.getElem?_map, List.getElem?_map]
      cases hy : l[j]? with
      | none => rfl
      | some y => simp [hg j y (Ne.symm hj) hy]
  rw [← e]; exact h1
end

/-! ### Maps -/
section
variable {κ β : Type} [DecidableEq κ] {P : Program}
theorem run_delete {w : World} {K : KTy κ} {V : β → Value} {b : Nat} {m : List (κ × β)} (h : Mem.Mp w K V b m) (hK : KTy.Ok (β := β) K P) {t e k' : TypeId} (ht : P.underlying t = some (.map K.id e)) (k : κ) (ty : TypeId) :
    ∃ w', (Builtin.delete_ #[t, k'] ty #[.map (some b), K.val k]).run P w = .ok (.tuple #[]) w' ∧ Mem.Mp w' K V b (adel m k) ∧ Mem.Chg (fun j => j = b) w w' := by
  obtain ⟨es, clock, hb, he, hn, hs⟩ := h
  have hf := hK.find k es.toList m (Mem.keys_of he) w
  have hr : ∀ ob, (setObj b ob).run P w = .ok () { w with heap := w.heap.setIfInBounds b ob } := fun ob => Mem.run_setObj_map hb ob
  unfold Builtin.delete_
  simp only [List.getElem?_toArray, List.getElem?_cons_zero, List.getElem?_cons_succ, Sem.run_bind, run_underlying ht, Result.andThen_ok, Mem.run_getObj_map hb, hK.check, hf]
  cases hp : apos m k with
  | none =>
    refine ⟨_, by simp only [Option.bind_none, Sem.run_bind, hr, Result.andThen_ok, Sem.run_pure], ⟨_, _, Mem.heap_setObj hb _, ?_, nodup_adel hn k, hs⟩, Mem.chg_setObj _ _ _⟩
    rw [adel_none hp]; exact he
  | some i =>
    obtain ⟨hi, y, hy, _⟩ := Mem.apos_lt hp
    obtain ⟨e0, h1, h2, h3⟩ := Mem.entry_at he hy
    refine ⟨{ w with heap := w.heap.setIfInBounds b (.map (es.eraseIdxIfInBounds i) clock) }, by simp only [Option.bind_some, h1, Option.map_some, Sem.run_bind, hr, Result.andThen_ok, Sem.run_pure], ⟨es.eraseIdxIfInBounds i, clock, Mem.heap_setObj hb _, ?_, nodup_adel hn k, ?_⟩, Mem.chg_setObj _ _ _⟩
    · rw [adel_pos hp, Array.toList_eraseIdxIfInBounds, ← erase_map, ← erase_map, he]
    · refine ⟨?_, fun e' he' => ?_⟩
      · rw [Array.toList_eraseIdxIfInBounds, ← erase_map]
        exact hs.1.sublist (List.eraseIdx_sublist _ _)
      · rw [Array.toList_eraseIdxIfInBounds] at he'
        exact hs.2 e' ((List.eraseIdx_sublist _ _).subset he')
end
section
variable {κ β : Type} [DecidableEq κ] {P : Program} {w0 : World} {ops : Array Oper} {Q : Exit → Act → World → Prop} {n : Nat} {E : Env} {Z : Zone} {As : List Asr} {o : Oper} {rest : List Oper} {K : KTy κ} {V : β → Value} {b : Nat} {m : List (κ × β)}
theorem s_delete0 {x y : Operand} {t e k' : TypeId} (i : Nat) (hK : KTy.Ok (β := β) K P) (ht : P.underlying t = some (.map K.id e)) (k : κ) (h : SL P w0 ops Q n rest E Z (upd As i (mpA K V b (adel m k)))) (ho : o.op = .call { callee := .builtin .delete, args := #[x, y], argTypes := #[t, k'] } := by rfl) (hA : gt As i = some (mpA K V b m) := by rfl) (hx : ev E x = .map (some b) := by rfl) (hy : ev E y = K.val k := by rfl) (hd : o.dst = none := by rfl) (hk : okOp ops n E o = true := by kernel_rfl) : SL P w0 ops Q n (o :: rest) E Z As := fun H hH => by
  refine l_run (R := fun _ H' => Upd H H' K V b (adel m k)) hk (fun w ha => ?_) (fun v' H' u => by rw [hd]; exact h H' (mp_step hH hA u))
  have hm' : Mem.Mp w K V b m := by have := hH.mp hA; rw [← ha.heap] at this; exact this
  obtain ⟨w', hr, h1, h2⟩ := run_delete (k' := k') (ty := o.type) hm' hK ht k
  refine ⟨.tuple #[], w', ?_, ⟨rfl, h2.os.trans ha.os, h2.tape.trans ha.tape, h2.output.trans ha.output⟩, ⟨h1, ?_⟩⟩
  · unfold execOp
    simp only [ho, resolve, invoke, builtin, Sem.run_bind, Sem.run_pure, Result.andThen_ok, List.map_toArray, List.map_cons, List.map_nil, hx, hy, hr]
  · rw [← ha.heap]; exact Chg.of_mem h2
theorem s_delete {x y : Operand} {t e k' : TypeId} {d : Nat} (i : Nat) (hK : KTy.Ok (β := β) K P) (ht : P.underlying t = some (.map K.id e)) (k : κ) (h : SL P w0 ops Q n rest ((d, .tuple #[]) :: E) Z (upd As i (mpA K V b (adel m k)))) (ho : o.op = .call { callee := .builtin .delete, args := #[x, y], argTypes := #[t, k'] } := by rfl) (hA : gt As i = some (mpA K V b m) := by rfl) (hx : ev E x = .map (some b) := by rfl) (hy : ev E y = K.val k := by rfl) (hd : o.dst = some d := by rfl) (hk : okOp ops n E o = true := by kernel_rfl) : SL P w0 ops Q n (o :: rest) E Z As := fun H hH => by
  refine l_run (R := fun v' H' => v' = .tuple #[] ∧ Upd H H' K V b (adel m k)) hk (fun w ha => ?_) (fun v' H' ⟨e, u⟩ => by subst e; rw [hd]; exact h H' (mp_step hH hA u))
  have hm' : Mem.Mp w K V b m := by have := hH.mp hA; rw [← ha.heap] at this; exact this
  obtain ⟨w', hr, h1, h2⟩ := run_delete (k' := k') (ty := o.type) hm' hK ht k
  refine ⟨.tuple #[], w', ?_, ⟨rfl, h2.os.trans ha.os, h2.tape.trans ha.tape, h2.output.trans ha.output⟩, rfl, ⟨h1, ?_⟩⟩
  · unfold execOp
    simp only [ho, resolve, invoke, builtin, Sem.run_bind, Sem.run_pure, Result.andThen_ok, List.map_toArray, List.map_cons, List.map_nil, hx, hy, hr]
  · rw [← ha.heap]; exact Chg.of_mem h2
/-- clear(m) -/
theorem s_clear0 {x : Operand} {t e : TypeId} (i : Nat) (ht : P.underlying t = some (.map K.id e)) (h : SL P w0 ops Q n rest E Z (upd As i (mpA K V b []))) (ho : o.op = .call { callee := .builtin .clear, args := #[x], argTypes := #[t] } := by rfl) (hA : gt As i = some (mpA K V b m) := by rfl) (hx : ev E x = .map (some b) := by rfl) (hd : o.dst = none := by rfl) (hk : okOp ops n E o = true := by kernel_rfl) : SL P w0 ops Q n (o :: rest) E Z As := fun H hH => by
  refine l_run (R := fun _ H' => Upd H H' K V b []) hk (fun w ha => ?_) (fun v' H' u => by rw [hd]; exact h H' (mp_step hH hA u))
  have hm' : Mem.Mp w K V b m := by have := hH.mp hA; rw [← ha.heap] at this; exact this
  obtain ⟨es, clock, hb, he, hn, hs⟩ := hm'
  refine ⟨.tuple #[], { w with heap := w.heap.setIfInBounds b (.map #[] clock) }, ?_, ⟨rfl, ha.os, ha.tape, ha.output⟩, ⟨#[], clock, Mem.heap_setObj hb _, rfl, by simp, by simp [Stamps]⟩, ?_⟩
  · have hr : (Builtin.clear_ #[t] o.type #[.map (some b)]).run P w = .ok (.tuple #[]) { w with heap := w.heap.setIfInBounds b (.map #[] clock) } := by
      unfold Builtin.clear_
      simp only [List.getElem?_toArray, List.getElem?_cons_zero, Sem.run_bind, run_underlying ht, Result.andThen_ok, Mem.run_getObj_map hb, Mem.run_setObj_map hb, Sem.run_pure]
    unfold execOp
    simp only [ho, resolve, invoke, builtin, Sem.run_bind, Sem.run_pure, Result.andThen_ok, List.map_toArray, List.map_cons, List.map_nil, hx, hr]
  · rw [← ha.heap]; exact Chg.of_mem (Mem.chg_setObj _ _ _)
/-- len(m) -/
theorem t_lenM {x : Operand} {t e : TypeId} (i : Nat) (ht : P.underlying t = some (.map K.id e)) (ho : o.op = .call { callee := .builtin .len, args := #[x], argTypes := #[t] } := by rfl) (hA : gt As i = some (mpA K V b m) := by rfl) (hx : ev E x = .map (some b) := by rfl) : Lt P E o Z As (.int .i64 m.length) := fun H hH => by
  obtain ⟨es, clock, hb, he, hn, hs⟩ := hH.mp hA
  have hl : es.size = m.length := by have := congrArg List.length he; simpa using this
  refine ⟨fun w hw => ?_⟩
  have hb' : w.heap[b]? = some (.map es clock) := by rw [hw]; exact hb
  unfold execOp
  have : (Builtin.len_ #[t] o.type #[.map (some b)]).run P w = .ok (.int .i64 m.length) w := by
    simp [Builtin.len_, run_underlying ht, Mem.run_getObj_map hb', goInt, hl]
  simp only [ho, resolve, invoke, builtin, Sem.run_bind, Sem.run_pure, Result.andThen_ok, List.map_toArray, List.map_cons, List.map_nil, hx, this]
/-! ### Calls of closures -/
theorem l_callV {H : Heap} {f : FuncId} {x : Operand} {xs : Array Operand} {ts : Array TypeId} {first cap : Array Value} (ho : o.op = .call { callee := .value x, args := xs, argTypes := ts }) (hf : ev E x = .func (.func f) first cap) (vals : List Value) {R : Value → Heap → Prop} (hk : okOp ops n E o = true) (hx : (first ++ (xs.map (ev E))) ++ cap = vals.toArray) (hfn : isFn P f = true) (hc : HC P f vals.toArray H R)
    (h : ∀ v H', R v H' → JL P w0 ops Q n rest (put E o.dst v) H') : JL P w0 ops Q n (o :: rest) E H := by
  refine l_enter hk (fun w => ?_) hc h
  unfold execOp
  simp only [ho, resolve, Deferred.ofValue, hf, Sem.run_bind, Sem.run_pure, Result.andThen_ok, invoke, hx]
  exact run_callFunc hfn _ w
theorem s_callC {f : FuncId} {x : Operand} {xs : Array Operand} {ts : Array TypeId} {first cap : Array Value} {vals : List Value} {R : Value → List Asr → Prop} {d : Nat} {As0 : List Asr} (is : List Nat) (hc : SF P f vals.toArray Z As0 R)
    (h : ∀ v Bs, R v Bs → SL P w0 ops Q n rest ((d, v) :: E) Z Bs) (hp : rearr As is = As0 := by rfl)
    (ho : o.op = .call { callee := .value x, args := xs, argTypes := ts } := by rfl) (hf : ev E x = .func (.func f) first cap := by rfl) (hx : (first ++ (xs.map (ev E))) ++ cap = vals.toArray := by rfl) (hd : o.dst = some d := by rfl) (hfn : isFn P f = true := by kernel_rfl) (hk : okOp ops n E o = true := by kernel_rfl) : SL P w0 ops Q n (o :: rest) E Z As :=
  fun H hH => l_callV ho hf vals hk hx hfn (hc H (hp ▸ hH.rearr is)) fun v H' ⟨Bs, hr, hB⟩ => by rw [hd]; exact h v Bs hr H' hB
theorem s_callC0 {f : FuncId} {x : Operand} {xs : Array Operand} {ts : Array TypeId} {first cap : Array Value} {vals : List Value} {R : Value → List Asr → Prop} {As0 : List Asr} (is : List Nat) (hc : SF P f vals.toArray Z As0 R)
    (h : ∀ v Bs, R v Bs → SL P w0 ops Q n rest E Z Bs) (hp : rearr As is = As0 := by rfl)
    (ho : o.op = .call { callee := .value x, args := xs, argTypes := ts } := by rfl) (hf : ev E x = .func (.func f) first cap := by rfl) (hx : (first ++ (xs.map (ev E))) ++ cap = vals.toArray := by rfl) (hd : o.dst = none := by rfl) (hfn : isFn P f = true := by kernel_rfl) (hk : okOp ops n E o = true := by kernel_rfl) : SL P w0 ops Q n (o :: rest) E Z As :=
  fun H hH => l_callV ho hf vals hk hx hfn (hc H (hp ▸ hH.rearr is)) fun v H' ⟨Bs, hr, hB⟩ => by rw [hd]; exact h v Bs hr H' hB
end
/-! ### s[:n:n] -/
section
variable {P : Program} {w0 : World} {ops : Array Oper} {Q : Exit → Act → World → Prop} {n : Nat} {E : Env} {Z : Zone} {As : List Asr} {o : Oper} {rest : List Oper} {α : Type} {T : Ty α} {v : Value} {L : List α}
def pre3 (v : Value) (m : Nat) : Value := match v with | .slice p _ _ => .slice p m m | x => x
theorem blk_pre3 (v : Value) (m : Nat) : blk (pre3 v m) = blk v := by
  cases v with
  | slice p l c => cases p <;> rfl
  | _ => rfl
theorem Ow.pre3 {H : Heap} (hv : Ow H T v L) (hT : T.Ok P) (m : Nat) (hm : m ≤ L.length) : Ow H T (S.pre3 v m) (L.take m) := by
  rcases hv with ⟨rfl, rfl⟩ | ⟨g, cap, arr, rfl, hg, hc, hx, hf, hr⟩
  · simp at hm; subst hm; exact .inl ⟨rfl, rfl⟩
  · have hl : (L.take m).length = m := by rw [List.length_take]; omega
    have := Nat.mul_le_mul_right T.size (Nat.le_trans hm hc)
    refine .inr ⟨g, m, arr, by rw [hl]; rfl, hg, by rw [hl]; exact Nat.le_refl _, by have : m ≤ cap := by omega
                                                                                     exact Nat.le_trans this hx, by omega, ?_⟩
    rw [hl, ← hT.flat_take, ← hr, List.take_take, Nat.min_eq_left (Nat.mul_le_mul_right _ hm)]
theorem Holds.pre3 {i : Nat} {H : Heap} (h : Holds Z As H) (hT : T.Ok P) (m : Nat) (hi : gt As i = some (own T v L)) (hm : m ≤ L.length) : Holds Z (upd As i (own T (S.pre3 v m) (L.take m))) H := by
  refine h.step hi fun S ⟨h1, h2⟩ => ⟨S, ⟨Ow.pre3 h1 hT m hm, fun k => ?_⟩, Chg.refl _ _, fun k hk => .inl hk⟩
  rw [h2 k, blk_pre3]
theorem run_pre3 {w : World} (hv : Mem.Sl w T v L) {t : TypeId} (ht : P.underlying t = some (.slice T.id)) (hT : T.Ok P) (q q' : IntKind) (m : Int) (h0 : 0 ≤ m) (hm : m ≤ L.length) :
    (Instr.sliceAt t v none (some (.int q m)) (some (.int q' m))).run P w = .ok (pre3 v m.toNat) w := by
  obtain ⟨p, cap, rfl⟩ := hv.form
  have hc : (m : Int) ≤ (cap : Int) := by
    rcases hv with ⟨⟨_, h⟩, rfl⟩ | ⟨g, off, cap', arr, e, fr, h, hg, hc, _⟩
    · simp at h hm; omega
    · simp at h; obtain ⟨_, rfl⟩ := h; omega
  have hz : ∀ p : Option Addr, (p.map fun x => x.add 0) = p := fun p => by cases p <;> simp [Addr.add]
  simp [Instr.sliceAt, Instr.slice, run_underlying ht, Instr.sliceBounds, Instr.sliceBound, asIntOf, h0, hc, hT.run_sizeOf, pre3, hz]
  intro hcc; exfalso; omega
theorem t_pre3 {x i j : Operand} {t : TypeId} {q q' : IntKind} (hT : T.Ok P) (ht : P.underlying t = some (.slice T.id)) (a : Acc Z As T v L) (k : Int) (m : Nat) (h0 : 0 ≤ k) (hl : k ≤ L.length) (hm : m = k.toNat) (ho : o.op = .slice t x none (some i) (some j) := by rfl) (hx : ev E x = v := by rfl) (hi : ev E i = .int q k := by rfl) (hj : ev E j = .int q' k := by rfl) : Lt P E o Z As (pre3 v m) := fun H hH => by
  subst hm
  refine ⟨fun w hw => ?_⟩
  have hv : Mem.Sl w T v L := by have := a H hH; rw [← hw] at this; exact this
  unfold execOp
  simp only [ho, hx, hi, hj, Option.map_none, Option.map_some]
  exact Mem.run_v (run_pre3 hv ht hT q q' k h0 hl)
end
/-! ### Short spellings -/
abbrev pB (g k : Nat) : Value := .pointer (some ⟨g, k, none⟩)
theorem lnm {α : Type} : (([] : List α).length = 0) ∧ (∀ (a : α) (l : List α), (a :: l).length = l.length + 1) ∧ (∀ (l r : List α), (l ++ r).length = l.length + r.length) ∧ (∀ (n : Nat) (l : List α), (l.take n).length = min n l.length) ∧ (∀ (n : Nat) (l : List α), (l.drop n).length = l.length - n) ∧ (∀ (l : List α) (i : Nat) (a : α), (l.set i a).length = l.length) ∧ (∀ (n : Nat) (a : α), (List.replicate n a).length = n) ∧ (∀ (l : List α), l.reverse.length = l.length) :=
  ⟨rfl, fun _ _ => rfl, fun _ _ => List.length_append, fun _ _ => List.length_take, fun _ _ => List.length_drop, fun _ _ _ => List.length_set, fun _ _ => List.length_replicate, fun _ => List.length_reverse⟩
theorem bls : (∀ b, (true && b) = b) ∧ (∀ b, (false && b) = false) ∧ (∀ b, (b && true) = b) ∧ (∀ b, (b && false) = false) ∧ (∀ b, (true || b) = true) ∧ (∀ b, (b || true) = true) ∧ (∀ b, (false || b) = b) ∧ (∀ b, (b || false) = b) ∧ (!true) = false ∧ (!false) = true :=
  ⟨Bool.true_and, Bool.false_and, Bool.and_true, Bool.and_false, Bool.true_or, Bool.or_true, Bool.false_or, Bool.or_false, rfl, rfl⟩
section
variable {P : Program} {w0 : World} {ops : Array Oper} {Q : Exit → Act → World → Prop} {n : Nat} {E : Env} {Z : Zone} {As : List Asr} {o : Oper} {rest : List Oper} {l : List Oper} {Ks : List Asr} {fuel : Nat} {listed : Array Bool}
theorem sp (v : Value) {d : Nat} (h : SL P w0 ops Q n rest ((d, v) :: E) Z As) (hr : ∀ w, (execOp (ev E) o).run P w = .ok (.value v) w := by exact fun _ => rfl) (hd : o.dst = some d := by rfl) (hk : okOp ops n E o = true := by kernel_rfl) : SL P w0 ops Q n (o :: rest) E Z As :=
  s_lt (t_pure v hr) h hd hk
theorem h_l {d : Nat} {v : Value} (i : Nat) (hi : l[i]? = some o) (is : List Nat) {Fs : List Asr} (t : ∀ Fs, Lt P E o Z (Ks ++ Fs) v) (h : SH P w0 l Q n Z Ks fuel (listed.setIfInBounds i true) ((d, v) :: E) As) (hQ : NP Q := by repeat (first | with_reducible exact np_finS | with_reducible apply np_then | with_reducible apply np_block)) (hd : o.dst = some d := by rfl) (hS : rearr As is = Ks ++ Fs := by rfl) (hc : canTake l listed i = true := by kernel_rfl) (hk : okOp l.toArray n E o = true := by kernel_rfl) : SH P w0 l Q n Z Ks (fuel + 1) listed E As :=
  h_lt i hi hQ is t h hd hS hc hk
theorem hp_ {d : Nat} (i : Nat) (is : List Nat) (v : Value) {Fs : List Asr} (h : SH P w0 l Q n Z Ks fuel (listed.setIfInBounds i true) ((d, v) :: E) As) (hi : l[i]? = some o := by rfl) (hr : ∀ w, (execOp (ev E) o).run P w = .ok (.value v) w := by exact fun _ => rfl) (hQ : NP Q := by repeat (first | with_reducible exact np_finS | with_reducible apply np_then | with_reducible apply np_block)) (hd : o.dst = some d := by rfl) (hS : rearr As is = Ks ++ Fs := by rfl) (hc : canTake l listed i = true := by kernel_rfl) (hk : okOp l.toArray n E o = true := by kernel_rfl) : SH P w0 l Q n Z Ks (fuel + 1) listed E As :=
  h_lt i hi hQ is (fun _ => t_pure v hr) h hd hS hc hk
theorem h_sk {d : Nat} (i : Nat) (is : List Nat) {Fs : List Asr} (h : SH P w0 l Q n Z Ks fuel (listed.setIfInBounds i true) ((d, undef) :: E) As) (hQ : NP Q := by repeat (first | with_reducible exact np_finS | with_reducible apply np_then | with_reducible apply np_block)) (hi : l[i]? = some o := by rfl) (hd : o.dst = some d := by rfl) (hS : rearr As is = Ks ++ Fs := by rfl) (hc : canTake l listed i = true := by kernel_rfl) (hu : unwant l.toArray E o = true := by kernel_rfl) (hk : dstOk n o.dst = true := by rfl) : SH P w0 l Q n Z Ks (fuel + 1) listed E As :=
  h_skipS i hQ is h hi hd hS hc hu hk
end
end Go.S
end
section
set_option linter.unusedSimpArgs false
set_option linter.unusedVariables false
namespace Go.Proofs.YtmhpcebiamkciaaGreat
open Go.Mem (aget aset adel aget_aset aget_adel)
/-- The map holds the place of the last slot of each key. -/
def Agr (m : List (Vl × Nat)) (S : List Slt) : Prop := ∀ k, aget m k = lastAt S k
theorem agr_nil : Agr [] [] := fun _ => rfl
theorem agr_set {m : List (Vl × Nat)} {S : List Slt} (h : Agr m S) {k : Vl} {i : Nat} {s : Slt} (hl : lastAt S k = some i) (hs : s.key = k) : Agr m (S.set i s) := fun k' => by rw [h, lastAt_set S k k' hl hs]
theorem agr_snoc {m : List (Vl × Nat)} {S : List Slt} (h : Agr m S) (k v : Vl) : Agr (aset m k S.length) (S ++ [⟨k, v, false⟩]) := fun k' => by
  rw [aget_aset, lastAt_snoc, h]
  by_cases e : k' = k
  · simp [e]
  · rw [if_neg e, if_neg (fun h => e h.symm)]
/-- What a key's look-up gives. -/
theorem last_cases {m : List (Vl × Nat)} {S : List Slt} (h : Agr m S) (hi : OInv S) (k : Vl) : (lastAt S k = none ∧ aget m k = none ∧ thereAt S k = none ∧ oget S k = zVl) ∨
    ∃ i s, lastAt S k = some i ∧ aget m k = some i ∧ S[i]? = some s ∧ s.key = k ∧ oget S k = s.val ∧ thereAt S k = if s.gone then none else some i := by
  cases hl : lastAt S k with
  | none => exact .inl ⟨rfl, by rw [h, hl], thereAt_none hl, oget_none hl⟩
  | some i =>
    obtain ⟨s, h1, h2, _⟩ := lastAt_some hl
    exact .inr ⟨i, s, rfl, by rw [h, hl], h1, h2, oget_some hl h1, thereAt_is hl h1⟩
theorem cnt_set {S : List Slt} {i : Nat} {s t : Slt} (h : S[i]? = some t) : cnt (S.set i s) + (live [t]).length = cnt S + (live [s]).length := by
  obtain ⟨h1, h2⟩ := live_set (s := s) h
  unfold cnt; rw [h1, h2]; simp only [List.length_append]; omega
theorem cnt_gone {S : List Slt} {i : Nat} {t : Slt} (h : S[i]? = some t) (hg : t.gone = false) (k : Vl) : ((cnt (S.set i ⟨k, zVl, true⟩) : Nat) : Int) = (cnt S : Int) - 1 := by
  have := cnt_set (s := ⟨k, zVl, true⟩) h
  simp [live, hg] at this; omega
theorem cnt_val {S : List Slt} {i : Nat} {t : Slt} (h : S[i]? = some t) (hg : t.gone = false) (k v : Vl) : cnt (S.set i ⟨k, v, false⟩) = cnt S := by
  have := cnt_set (s := ⟨k, v, false⟩) h
  simp [live, hg] at this; omega
theorem cnt_snoc (S : List Slt) (k v : Vl) : cnt (S ++ [⟨k, v, false⟩]) = cnt S + 1 := by unfold cnt; rw [live_snoc]; simp
theorem cnt_live (S : List Slt) : cnt (live S) = cnt S := by unfold cnt; rw [live_live]
theorem osetL_bad {S : List Slt} {k v : Vl} (h : okKey k = false ∨ validB v = false) : osetL S k v = S := by
  unfold osetL
  rcases h with h | h
  · rw [if_pos h]
  · rw [if_pos h]; split <;> rfl
theorem osetL_rem {S : List Slt} {k v : Vl} (h1 : okKey k = true) (h2 : validB v = true) (h0 : v.kind = 0) : osetL S k v = match thereAt S k with | some i => S.set i ⟨k, zVl, true⟩ | none => S := by
  unfold osetL; rw [if_neg (by rw [h1]; decide), if_neg (by rw [h2]; decide), if_pos h0] <;> (cases thereAt S k <;> rfl)
theorem osetL_put {S : List Slt} {k v : Vl} (h1 : okKey k = true) (h2 : validB v = true) (h0 : v.kind ≠ 0) : osetL S k v = match thereAt S k with | some i => S.set i ⟨k, v, false⟩ | none => (if cnt S + 8 < S.length - cnt S then live S else S) ++ [⟨k, v, false⟩] := by
  unfold osetL; rw [if_neg (by rw [h1]; decide), if_neg (by rw [h2]; decide), if_neg h0] <;> (cases thereAt S k <;> rfl)
/-! ### Dropping the removed slots -/
def dropAt (S : List Slt) (i : Nat) (k : Vl) : Option Nat := match lastAt (live (S.take i)) k with
  | some j => some j
  | none => (lastAt S k).bind fun j => if i ≤ j then some j else none
theorem drop_old {S : List Slt} (h : OInv S) {i : Nat} {s : Slt} (hs : S[i]? = some s) : lastAt (live (S.take i)) s.key = none := by
  refine lastAt_nokey fun t ht e => ?_
  have hg := live_gone ht
  obtain ⟨j, hj⟩ := List.mem_iff_getElem?.1 (List.mem_filter.1 ht).1
  rw [List.getElem?_take] at hj
  split at hj
  · rename_i hji
    obtain ⟨hj1, e2⟩ := List.getElem?_eq_some_iff.1 hj
    obtain ⟨hi1, e3⟩ := List.getElem?_eq_some_iff.1 hs
    have := List.pairwise_iff_getElem.1 h.uniq j i hj1 hi1 hji (by rw [e2, e3, e])
    rw [e2, hg] at this; cases this
  · cases hj
theorem drop_last {S : List Slt} {i : Nat} {s : Slt} (hs : S[i]? = some s) : ∃ j, lastAt S s.key = some j ∧ i ≤ j := by
  cases hl : lastAt S s.key with
  | none => exact absurd rfl (lastAt_none hl s (List.mem_of_getElem? hs))
  | some j =>
    refine ⟨j, rfl, Nat.le_of_not_lt fun hlt => ?_⟩
    obtain ⟨t, _, _, e3⟩ := lastAt_some hl
    exact e3 i s hlt hs rfl
theorem drop_other {S : List Slt} {i : Nat} {s : Slt} (hs : S[i]? = some s) {k : Vl} (hk : s.key ≠ k) : ((lastAt S k).bind fun j => if i ≤ j then some j else none) = (lastAt S k).bind fun j => if i + 1 ≤ j then some j else none := by
  cases hl : lastAt S k with
  | none => rfl
  | some j =>
    obtain ⟨t, e1, e2, _⟩ := lastAt_some hl
    have : j ≠ i := fun e => by subst e; rw [hs] at e1; cases e1; exact hk e2
    simp only [Option.bind_some]
    by_cases h : i ≤ j
    · rw [if_pos h, if_pos (by omega)]
    · rw [if_neg h, if_neg (by omega)]
def DropI (S : List Slt) (i : Nat) (m : List (Vl × Nat)) : Prop := ∀ k, aget m k = dropAt S i k
theorem drop0 {S : List Slt} {m : List (Vl × Nat)} (h : Agr m S) : DropI S 0 m := fun k => by
  rw [h]; unfold dropAt; simp [live, lastAt]
theorem drop_end {S : List Slt} {m : List (Vl × Nat)} {i : Nat} (h : DropI S i m) (hi : S.length ≤ i) : Agr m (live S) := fun k => by
  rw [h]; unfold dropAt
  rw [List.take_of_length_le hi]
  cases hl : lastAt (live S) k with
  | some j => rfl
  | none =>
    cases h2 : lastAt S k with
    | none => rfl
    | some j => have := lastAt_lt h2; simp; omega
/-- A removed slot: the map's entry of its key is j. -/
theorem drop_gone {S : List Slt} (ho : OInv S) {m : List (Vl × Nat)} {i : Nat} {s : Slt} (h : DropI S i m) (hs : S[i]? = some s) (hg : s.gone = true) : ∃ j, aget m s.key = some j ∧ (j ≠ i → DropI S (i + 1) m) ∧ (j = i → (m.map Prod.fst).Nodup → DropI S (i + 1) (adel m s.key)) := by
  have h1 := drop_old ho hs
  obtain ⟨j, h2, h3⟩ := drop_last hs
  have hv : live (S.take (i + 1)) = live (S.take i) := by rw [live_take hs, if_pos hg]
  have hj : aget m s.key = some j := by rw [h]; unfold dropAt; rw [h1, h2]; simp [h3]
  have hoth : ∀ k, s.key ≠ k → dropAt S i k = dropAt S (i + 1) k := fun k hk => by
    unfold dropAt; rw [hv, drop_other hs hk]
  refine ⟨j, hj, fun hne k => ?_, fun he hn k => ?_⟩
  · by_cases hk : s.key = k
    · subst hk
      rw [hj]; unfold dropAt; rw [hv, h1, h2]; simp; omega
    · rw [h, hoth k hk]
  · rw [aget_adel hn]
    by_cases hk : s.key = k
    · subst hk
      rw [if_pos rfl]; unfold dropAt; rw [hv, h1, h2]; simp; omega
    · rw [if_neg (fun e => hk e.symm), h, hoth k hk]
theorem drop_live {S : List Slt} (ho : OInv S) {m : List (Vl × Nat)} {i : Nat} {s : Slt} (h : DropI S i m) (hs : S[i]? = some s) (hg : s.gone = false) : DropI S (i + 1) (aset m s.key (live (S.take i)).length) := fun k => by
  have hv : live (S.take (i + 1)) = live (S.take i) ++ [s] := by rw [live_take hs, if_neg (by rw [hg]; decide)]
  rw [aget_aset]
  unfold dropAt
  rw [hv, lastAt_snoc]
  by_cases hk : s.key = k
  · subst hk; simp
  · rw [if_neg (fun e => hk e.symm), if_neg hk, h]
    unfold dropAt
    rw [drop_other hs hk]
/-! ### What follows -/
theorem head_live {S : List Slt} {a i : Nat} {s : Slt} (h : live ((S.drop a).take i) = []) (hs : (S.drop a)[i]? = some s) (hg : s.gone = false) : (live (S.drop a)).head? = some s := by
  have : S.drop a = (S.drop a).take i ++ s :: (S.drop a).drop (i + 1) := by
    obtain ⟨hi, e⟩ := List.getElem?_eq_some_iff.1 hs
    rw [← e, ← List.drop_eq_getElem_cons hi, List.take_append_drop]
  rw [this]
  unfold live at *
  rw [List.filter_append, h]; simp [hg]
theorem live_gone_step {S : List Slt} {i : Nat} {s : Slt} (h : live (S.take i) = []) (hs : S[i]? = some s) (hg : s.gone = true) : live (S.take (i + 1)) = [] := by rw [live_take hs, if_pos hg, h]
theorem head_none {S : List Slt} {i : Nat} (h : live (S.take i) = []) (hi : S.length ≤ i) : (live S).head? = none := by rw [List.take_of_length_le hi] at h; rw [h]; rfl
theorem onext_nil (S : List Slt) : onext S zVl = ((slotV (live S).head?).1, (slotV (live S).head?).2.1, (slotV (live S).head?).2.2, 0) := by unfold onext; rw [if_pos rfl]
theorem onext_none {S : List Slt} {k : Vl} (h : k ≠ zVl) (hl : lastAt S k = none) : onext S k = (zVl, zVl, false, 13) := by unfold onext; rw [if_neg h, hl]
theorem onext_some {S : List Slt} {k : Vl} {i : Nat} (h : k ≠ zVl) (hl : lastAt S k = some i) : onext S k = ((slotV (live (S.drop (i + 1))).head?).1, (slotV (live (S.drop (i + 1))).head?).2.1, (slotV (live (S.drop (i + 1))).head?).2.2, 0) := by unfold onext; rw [if_neg h, hl]
/-! ### The search for a slot -/
def findI (S : List Slt) (k : Vl) : Int := match lastAt S k with
  | some i => (i : Int)
  | none => -1
theorem find_step {S : List Slt} {i : Nat} {s : Slt} (k : Vl) (hs : S[i]? = some s) : findI (S.take (i + 1)) k = if s.key = k then (i : Int) else findI (S.take i) k := by
  have hl : (S.take i).length = i := by rw [List.length_take]; have := (List.getElem?_eq_some_iff.1 hs).1; omega
  have : S.take (i + 1) = S.take i ++ [s] := by rw [List.take_add_one, hs]; rfl
  unfold findI
  rw [this, lastAt_snoc, hl]
  by_cases h : s.key = k
  · simp [h]
  · simp [h]
theorem find_here {S : List Slt} (h : OInv S) {i : Nat} {s : Slt} (hs : S[i]? = some s) (hg : s.gone = false) : findI S s.key = (i : Int) := by unfold findI; rw [h.last hs hg]
theorem find_end {S : List Slt} {i : Nat} (k : Vl) (hi : S.length ≤ i) : findI (S.take i) k = findI S k := by rw [List.take_of_length_le hi]
theorem find_cases {S : List Slt} (k : Vl) : (findI S k = -1 ∧ lastAt S k = none ∧ thereAt S k = none ∧ oget S k = zVl) ∨ ∃ (i : Nat) (s : Slt), findI S k = (i : Int) ∧ lastAt S k = some i ∧ S[i]? = some s ∧ s.key = k ∧ oget S k = s.val ∧ thereAt S k = if s.gone then none else some i := by
  unfold findI
  cases hl : lastAt S k with
  | none => exact .inl ⟨rfl, rfl, thereAt_none hl, oget_none hl⟩
  | some i =>
    obtain ⟨s, h1, h2, _⟩ := lastAt_some hl
    exact .inr ⟨i, s, rfl, rfl, h1, h2, oget_some hl h1, thereAt_is hl h1⟩
end Go.Proofs.YtmhpcebiamkciaaGreat
end
section
set_option linter.unusedSimpArgs false
set_option linter.unusedVariables false
namespace Go.J
open Go.Hp Go.RowKit Go.ChangeShapes Go.WideShapes Go.ChangeAt
open Go.Mem (Ty blk)
section
variable {H : Type} {enc : TypeId × Value → H} {P : Program}
/-- The arguments read as they did. -/
theorem trodAll_below (hl : laidOutB P = true) {W W' : World} (hb : Below W.heap.size W W') : ∀ {ts : List TypeId} {vs : List Value} {ds : List (DataW H)} {ps : List MemPlace},
    (ts.all fun t => P.readableRec t && Nat.blt t P.types.size) = true → DataW.TrodAll enc P W 0 (fun _ => true) true ts vs ds ps → (∀ x ∈ ps, x.block < W.heap.size) →
    DataW.TrodAll enc P W' 0 (fun b => decide (b < W.heap.size)) true ts vs ds ps
  | [], [], [], ps, _, h, _ => h
  | t :: ts, v :: vs, d :: ds, ps, ht, h, hlt => by
    obtain ⟨p, q, h1, h2, rfl⟩ := h
    simp only [List.all_cons, Bool.and_eq_true] at ht
    refine ⟨p, q, Below.trod hl ht.1.1 (by simpa [Nat.blt_eq] using ht.1.2) h1 hb (fun x hx => hlt x (by simp [hx])), trodAll_below hl hb ht.2 h2 (fun x hx => hlt x (by simp [hx])), rfl⟩
  | [], [], _ :: _, _, _, h, _ => h.elim
  | [], _ :: _, _, _, _, h, _ => h.elim
  | _ :: _, [], _, _, _, h, _ => h.elim
  | _ :: _, _ :: _, [], _, _, h, _ => h.elim
theorem keptBut_below {W W' : World} {may : MemPlace → Prop} (hb : Below W.heap.size W W') : W.keptBut W' may := by
  refine ⟨hb.os, hb.output, fun i hi => ?_⟩
  rw [hb.block i hi]
  have := World.keptBut_refl W may
  exact this.2.2 i hi
/-- A law: one bool result, no variables. -/
theorem law_post {f : Func} {s : ChangeSpec} {W W' : World} {args : Array Value} {ds : List (DataW H)} {before : List MemPlace} {tb : TypeId} (hl : laidOutB P = true) (hts : (f.params.toList.all fun t => P.readableRec t && Nat.blt t P.types.size) = true)
    (hv : s.vars = []) (hr : f.resultTypes = #[tb]) (htb : P.underlying tb = some .bool) (hb : Below W.heap.size W W') (hW : DataW.Whole enc P f.params.toList s.vars false W args.toList ds [] before)
    (hfn : s.fn H ds = { results := [.lit (.bool true)], args := ds }) : s.post enc P f false true false false W args (.bool true) W' := by
  have hlt : ∀ x ∈ before, x.block < W.heap.size := fun x hx => hW.lt x hx
  obtain ⟨p, q, hA, hV, rfl, hz, hn⟩ := hW
  rw [hv] at hV
  have hq : q = [] := hV
  subst hq
  refine ⟨ds, [], p ++ [], [], p, [], ⟨p, [], hA, by rw [hv]; rfl, rfl, hz, hn⟩, ?_, ?_, ?_, ?_, by simp⟩
  · rw [List.append_nil, hfn, hr]
    refine ⟨[], [], ⟨1, ?_⟩, rfl, rfl⟩
    simp [DataW.trod, htb, Value.cells]
  · rw [List.append_nil, hfn]
    exact trodAll_below hl hb hts hA (fun x hx => hlt x (by simp [hx]))
  · rw [hv, List.append_nil, hfn]; rfl
  · exact keptBut_below hb
/-- From a contract to a call. -/
theorem calls_of_hc {f : FuncId} {args : Array Value} {W : World} (h : HC P f args W.heap fun v H' => v = .bool true ∧ Chg (fun _ => False) W.heap H') :
    Calls P f args W fun e W' => e = .returned (.bool true) ∧ Below W.heap.size W W' :=
  (h W rfl).mono fun e W' ⟨v, he, hat, hv, hc⟩ => by
    subst he hv
    exact ⟨rfl, ⟨hat.os, hat.tape, hat.output, hc.size, fun k hk => hc.block k hk (fun h => h)⟩⟩
variable {w : World} {base : Nat} {spare : Nat → Bool} {held : Bool}
theorem take_one_of {l : List Value} {n : Nat} {v : Value} (h : l.take n = [v]) : l.take 1 = [v] := by
  cases l with
  | nil => simp at h
  | cons x l =>
    cases n with
    | zero => simp at h
    | succ n => simp only [List.take_succ_cons, List.cons.injEq] at h; simp [h.1]
theorem fitsL_join : ∀ {ks ks' : List Nat} {vs : List Value}, fitsL ks (vs.take ks.length) = true → fitsL ks' ((vs.drop ks.length).take ks'.length) = true → fitsL (ks ++ ks') (vs.take (ks ++ ks').length) = true
  | [], ks', vs, _, h => by simpa using h
  | k :: ks, ks', [], h, _ => by simp [fitsL] at h
  | k :: ks, ks', v :: vs, h, h' => by
    simp only [List.length_cons, List.take_succ_cons, List.drop_succ_cons, fitsL, Bool.and_eq_true] at h h'
    simp only [List.cons_append, List.length_cons, List.take_succ_cons, fitsL, Bool.and_eq_true]
    exact ⟨h.1, fitsL_join h.2 h'⟩
mutual
/-- A struct of plain cells that is read: its cells are of their kinds. -/
theorem fits_trod : ∀ (d : Nat) (t : TypeId) (ks : List Nat), kindsOf P d t = some ks → ∀ (fuel : Nat) (l : List Value) (m : Nat) (x : DataW H × List MemPlace), DataW.trod enc P w base spare held fuel t (l.take m) = some x → fitsL ks (l.take ks.length) = true ∧ ((match P.underlying t with | some (.struct _) => true | _ => false) = true → (l.take m).length = ks.length)
  | 0, _, _, hk, _, _, _, _, _ => by simp [kindsOf] at hk
  | d + 1, t, ks, hk, fuel, l, m, x, hx => by
    unfold kindsOf at hk
    cases hu : P.underlying t with
    | none => rw [hu] at hk; simp at hk
    | some u =>
      rw [hu] at hk
      cases u <;> first | (simp at hk; done) | skip
      case int q =>
        cases q <;> first | (simp at hk; done) | skip
        simp only [Option.some.injEq] at hk
        subst hk
        obtain ⟨n, h1, _, _⟩ := DataW.trod_int hu hx
        exact ⟨by rw [show [0].length = 1 from rfl, take_one_of h1]; rfl, by simp⟩
      case bool =>
        simp only [Option.some.injEq] at hk
        subst hk
        obtain ⟨n, h1, _⟩ := DataW.trod_bool hu hx
        exact ⟨by rw [show [2].length = 1 from rfl, take_one_of h1]; rfl, by simp⟩
      case string =>
        simp only [Option.some.injEq] at hk
        subst hk
        obtain ⟨n, h1, _⟩ := DataW.trod_string hu hx
        exact ⟨by rw [show [1].length = 1 from rfl, take_one_of h1]; rfl, by simp⟩
      case struct fs =>
        simp only at hk
        split at hk
        · simp at hk
        · cases hf : kindsOfFields P d fs.toList 0 with
          | none => rw [hf] at hk; simp at hk
          | some ks' =>
            rw [hf] at hk
            cases hi : P.info? t with
            | none => rw [hi] at hk; simp at hk
            | some i =>
              rw [hi] at hk
              simp only at hk
              split at hk
              · rename_i hs
                simp only [Option.some.injEq] at hk
                subst hk
                have hs := Nat.eq_of_beq_eq_true hs
                obtain ⟨xs, n, _, _, hlen, hxl, hall⟩ := DataW.trod_struct hu hx
                have hc : P.cellsOf t = ks'.length := by simp [Program.cellsOf, hi, hs]
                have := fits_fields d fs.toList 0 ks' hf n (l.take m) (fun f hf' => by
                  obtain ⟨j, hj, rfl⟩ := List.getElem_of_mem hf'
                  have hj' : j < fs.size := by simpa using hj
                  have h2 := hall j fs[j] (Array.getElem?_eq_getElem hj')
                  rw [List.getElem?_eq_getElem (by omega)] at h2
                  exact ⟨_, _, by simpa using h2⟩)
                rw [hc] at hlen
                refine ⟨?_, fun _ => hlen⟩
                rw [List.drop_zero, ← hlen, List.take_length] at this
                have e : l.take ks'.length = l.take m := by
                  rw [List.length_take] at hlen
                  rw [List.take_eq_take_iff]; omega
                rw [e]; exact this
              · simp at hk
theorem fits_fields : ∀ (d : Nat) (fs : List Field) (off : Nat) (ks : List Nat), kindsOfFields P d fs off = some ks → ∀ (n : Nat) (cs : List Value), (∀ f ∈ fs, ∃ m x, DataW.trod enc P w base spare held n f.type ((cs.drop f.offset).take m) = some x) → fitsL ks ((cs.drop off).take ks.length) = true
  | _, [], off, ks, hk, n, cs, _ => by
    unfold kindsOfFields at hk
    simp only [Option.some.injEq] at hk
    subst hk; rfl
  | 0, _ :: _, _, _, hk, _, _, _ => by simp [kindsOfFields] at hk
  | d + 1, f :: fs, off, ks, hk, n, cs, hall => by
    unfold kindsOfFields at hk
    split at hk
    · rename_i hn
      cases h1 : kindsOf P d f.type with
      | none => rw [h1] at hk; simp at hk
      | some k1 =>
        rw [h1] at hk
        simp only at hk
        cases h2 : kindsOfFields P d fs (off + k1.length) with
        | none => rw [h2] at hk; simp at hk
        | some k2 =>
          rw [h2] at hk
          simp only [Option.some.injEq] at hk
          subst hk
          obtain ⟨m, x, hx⟩ := hall f (by simp)
          rw [hn.2] at hx
          have a1 := (fits_trod d f.type k1 h1 n _ m x hx).1
          have a2 := fits_fields d fs (off + k1.length) k2 h2 n cs (fun g hg => hall g (by simp [hg]))
          rw [← List.drop_drop] at a2
          exact fitsL_join a1 a2
    · simp at hk
end
/-- A slice of plain structs that came in. -/
theorem open_sl {α : Type} [Inhabited α] {T : Ty α} (hT : T.Ok P) {t : TypeId} {b0 : Nat} {W : World} {v : Value} {dd : DataW H} {pp : List MemPlace} (ht : P.underlying t = some (.slice T.id)) (ks : List Nat) (hk : kindsOf P 20 T.id = some ks) (hc : P.cellsOf T.id = T.size) (hks : ks.length = T.size)
    (hdec : ∀ cs, fitsL ks cs = true → ∃ x, T.enc x = cs) (hv : Value.okWide P W .any b0 t v) (h : DataW.Trod enc P W 0 (fun _ => true) true t v dd pp) : ∃ L, Sl W.heap T v L := by
  obtain ⟨a0, len0, cap0, rfl⟩ := okWide_slice ht hv
  obtain ⟨fuel, hf⟩ := h
  have hcs : (Value.slice a0 len0 cap0).cells.toList = [.slice a0 len0 cap0] := rfl
  rw [hcs] at hf
  rcases Deep.open_slice ht hf with ⟨h0, _⟩ | ⟨a, len, cap, m, n, D, Pl, h0, _, hl, hm, hmm, _, hx⟩
  · rw [List.cons.injEq] at h0
    exact ⟨[], .inl ⟨⟨none, h0.1⟩, rfl⟩⟩
  · rw [List.cons.injEq] at h0
    obtain ⟨h0, _⟩ := h0
    injection h0 with e1 e2 e3
    subst e1 e2 e3
    simp only [Value.okWide, ht, Cell.okWide, Cell.ok] at hv
    obtain ⟨_, _, _, hsp, row, cells, hsh, _⟩ := hv
    obtain ⟨g, off, spot⟩ := a
    simp only at hsp
    subst hsp
    simp only [if_true] at hmm
    subst hmm
    unfold World.shape? at hsh
    cases hg : W.heap[g]? with
    | none => rw [hg] at hsh; simp at hsh
    | some ob =>
      rw [hg] at hsh
      cases ob <;> simp at hsh
      rename_i arr e fr
      rw [hc] at hx
      obtain ⟨X, hX⟩ := Deep.choose_lt (α := α) (p := fun i x => ∀ j u, (T.enc x)[j]? = some u → arr[off + i * T.size + j]? = some u) (fun i hi => by
        obtain ⟨cs', h1, h2⟩ := hx i hi
        obtain ⟨_, hlen, hcell⟩ := World.cells?_some h1
        rw [← List.take_length (l := cs')] at h2
        have hfit := (fits_trod 20 T.id ks hk n cs' cs'.length _ h2).1
        rw [hks, ← hlen, List.take_length] at hfit
        obtain ⟨x, hx'⟩ := hdec cs' hfit
        refine ⟨x, fun j u hj => ?_⟩
        rw [hx'] at hj
        have hjl : j < T.size := by rw [← hlen]; exact (List.getElem?_eq_some_iff.1 hj).1
        have := hcell j hjl
        rw [Mem.addr_add, Mem.addr_add, cell_of_row W g _ arr e fr hg, hj] at this
        exact this)
      have hpos := hT.pos
      have hget : ∀ i j, i < m → j < T.size → ∃ u, (T.enc (X i))[j]? = some u ∧ arr[off + i * T.size + j]? = some u := fun i j hi hj => by
        have : j < (T.enc (X i)).length := by rw [hT.len]; exact hj
        exact ⟨_, List.getElem?_eq_getElem this, hX i hi j _ (List.getElem?_eq_getElem this)⟩
      refine ⟨(List.range len0).map X, .inr ⟨g, off, m, arr, e, fr, by simp, hg, by simpa using hl, hm, ?_, ?_⟩⟩
      · intro hcp
        obtain ⟨u, _, hu⟩ := hget (m - 1) (T.size - 1) (by omega) (by omega)
        have hlt := (Array.getElem?_eq_some_iff.1 hu).1
        have : m * T.size = (m - 1) * T.size + T.size := by rw [Nat.sub_mul]; have : T.size ≤ m * T.size := Nat.le_mul_of_pos_left _ hcp; omega
        omega
      · apply List.ext_getElem?
        intro q
        have hfl := hT.flat_len ((List.range len0).map X)
        simp only [List.length_map, List.length_range] at hfl ⊢
        by_cases hq : q < len0 * T.size
        · have hi : q / T.size < len0 := Nat.div_lt_of_lt_mul (by rw [Nat.mul_comm]; exact hq)
          have hj : q % T.size < T.size := Nat.mod_lt _ hpos
          have e1 : q = q / T.size * T.size + q % T.size := by rw [Nat.mul_comm]; exact (Nat.div_add_mod _ _).symm
          obtain ⟨u, h1, h2⟩ := hget (q / T.size) (q % T.size) (by omega) hj
          have hL : ((List.range len0).map X)[q / T.size]? = some (X (q / T.size)) := by simp [hi]
          have h3 := hT.flat_get hL hj
          rw [← e1, h1] at h3
          rw [h3, List.getElem?_take, if_pos hq, List.getElem?_drop, Array.getElem?_toList]
          rw [← h2]
          congr 1
          omega
        · rw [List.getElem?_eq_none (by simp; omega), List.getElem?_eq_none (by rw [hfl]; omega)]
/-- A plain struct that came in. -/
theorem open_struct {α : Type} {T : Ty α} (hT : T.Ok P) {b0 : Nat} {W : World} {v : Value} {dd : DataW H} {pp : List MemPlace} {fs : Array Field} (ht : P.underlying T.id = some (.struct fs)) (ks : List Nat) (hk : kindsOf P 20 T.id = some ks)
    (hdec : ∀ cs, fitsL ks cs = true → ∃ x, T.enc x = cs) (hv : Value.okWide P W .any b0 T.id v) (h : DataW.Trod enc P W 0 (fun _ => true) true T.id v dd pp) : ∃ x, v = T.val x := by
  obtain ⟨cs, rfl, _⟩ := okWide_struct ht hv
  obtain ⟨fuel, hf⟩ := h
  have hcs : (Value.agg cs).cells.toList = cs.toList := rfl
  rw [hcs, ← List.take_length (l := cs.toList)] at hf
  obtain ⟨h1, h2⟩ := fits_trod 20 T.id ks hk fuel cs.toList _ _ hf
  have h3 := h2 (by rw [ht])
  rw [List.take_length] at h3
  rw [← h3, List.take_length] at h1
  obtain ⟨x, hx⟩ := hdec _ h1
  obtain ⟨d, hd, ha⟩ := hT.desc
  rw [ht] at hd
  cases hd
  refine ⟨x, ?_⟩
  rw [hT.val x, ← ha, hx]
  rfl
end
end Go.J
end
section
set_option linter.unusedSimpArgs false
set_option linter.unusedVariables false
namespace Go.S
open Go.Hp Go.J
open Go.Mem (Ty KTy blk aggDesc)
def iT (e : TypeId) : Ty Int := ⟨e, 1, 8, false, fun n => .int .i64 n, 0⟩
section
variable {P : Program}
theorem iT_ok {e : TypeId} {i : TypeInfo} (hd : P.underlying e = some (.int .i64)) (hi : P.info? e = some i) (hs : i.size = 1) (hb : i.bytes = 8) (hz : i.zero = some (.int .i64 0)) : (iT e).Ok P :=
  ⟨Nat.one_pos, fun _ => rfl, fun x u hu => by simp [Ty.enc, iT, Value.cells] at hu; subst hu; rfl, fun _ => rfl, ⟨_, hd, rfl⟩, fun _ => rfl, ⟨i, hi, hs, hb, hz⟩⟩
theorem flat_int {e : TypeId} (L : List Int) : (iT e).flat L = L.map fun n => Value.int .i64 n := by
  induction L with
  | nil => rfl
  | cons a r ih => rw [show a :: r = [a] ++ r from rfl, Ty.flat_append, ih]; rfl
def bT (e : TypeId) : Ty Bool := ⟨e, 1, 1, false, fun b => .bool b, false⟩
theorem bT_ok {e : TypeId} {i : TypeInfo} (hd : P.underlying e = some .bool) (hi : P.info? e = some i) (hs : i.size = 1) (hb : i.bytes = 1) (hz : i.zero = some (.bool false)) : (bT e).Ok P :=
  ⟨Nat.one_pos, fun _ => rfl, fun x u hu => by simp [Ty.enc, bT, Value.cells] at hu; subst hu; rfl, fun _ => rfl, ⟨_, hd, rfl⟩, fun _ => rfl, ⟨i, hi, hs, hb, hz⟩⟩
end
end Go.S
end
section
set_option linter.unusedSimpArgs false
set_option linter.unusedVariables false
namespace Go.Mem
section
variable {κ β : Type} [DecidableEq κ] {P : Program}
theorem findAsking_spec {K : KTy κ} (hs : ∀ k k' w, (Op.equal K.id (K.val k) (K.val k')).run P w = .ok (decide (k = k')) w) (k : κ) (w : World) : ∀ (es : List MapEntry) (m : List (κ × β)) (n : Nat), es.map (·.key) = m.map (K.val ·.1) →
    (Instr.findAsking K.id (K.val k) es n).run P w = .ok ((apos m k).bind fun i => (es[i]?).map fun e => (i + n, e.val)) w
  | [], m, n, h => by
    cases m with
    | nil => rfl
    | cons p r => simp at h
  | e :: es, m, n, h => by
    cases m with
    | nil => simp at h
    | cons p r =>
      simp only [List.map_cons, List.cons.injEq] at h
      unfold Instr.findAsking
      rw [Sem.run_bind, h.1, hs, Result.andThen_ok]
      by_cases hp : k = p.1
      · simp [hp, apos, Sem.run_pure]
      · have ih := findAsking_spec hs k w es r (n + 1) h.2
        have hp' : ¬ p.1 = k := fun e => hp e.symm
        simp only [hp, decide_false, ih, apos, hp', if_false, Bool.false_eq_true]
        cases apos r k with
        | none => rfl
        | some i => simp [Nat.add_assoc, Nat.add_comm 1 n]
theorem structK_ok {K : KTy κ} {fs : Array Field} (h : P.underlying K.id = some (.struct fs)) (hagg : ∀ k, ∃ cs, K.val k = .agg cs) (hc : ∀ (b : Bool) (k : κ) (w : World), (Instr.checkKey b 10000 K.id (K.val k)).run P w = .ok () w) (hb : ∀ k, Instr.sameBits 10000 (K.val k) (K.val k) = true)
    (hs : ∀ k k' w, (Op.equal K.id (K.val k) (K.val k')).run P w = .ok (decide (k = k')) w) : KTy.Ok (β := β) K P := by
  refine ⟨hc, hb, fun k es m he w => ?_⟩
  unfold Instr.findKey
  rw [Sem.run_bind, run_underlying h w, Result.andThen_ok]
  cases es with
  | nil =>
    cases m with
    | nil => rfl
    | cons p r => simp at he
  | cons e es =>
    cases m with
    | nil => simp at he
    | cons p r =>
      have h1 : Instr.findNow (.struct fs) (K.val k) (e :: es) 0 = none := by
        unfold Instr.findNow
        obtain ⟨cs, e1⟩ := hagg k
        rw [e1]; rfl
      rw [h1]
      have := findAsking_spec hs k w (e :: es) (p :: r) 0 he
      simpa using this
theorem equal_of_bin {t : TypeId} {a b : Array Value} {c : Bool} {w : World} (h : (binOp .eql t (.agg a) (.agg b)).run P w = .ok (.bool c) w) : (Op.equal t (.agg a) (.agg b)).run P w = .ok c w := by
  have h1 : binOp .eql t (.agg a) (.agg b) = (do pure (.bool (← Op.equal t (.agg a) (.agg b)))) := rfl
  rw [h1, Sem.run_bind] at h
  cases hr : (Op.equal t (.agg a) (.agg b)).run P w with
  | ok x w' => rw [hr, Result.andThen_ok, Sem.run_pure] at h; injection h with e1 e2; injection e1 with e1; subst e1; subst e2; rfl
  | _ => rw [hr] at h; cases h
end
end Go.Mem
end
section
set_option linter.unusedSimpArgs false
set_option linter.unusedVariables false
namespace Go.S
open Go.Hp Go.J
section
variable {P : Program} {w0 : World} {Q : Exit → Act → World → Prop} {n : Nat} {E : Env} {Z : Zone} {As : List Asr} {l : List Oper} {Ks : List Asr} {fuel : Nat} {listed : Array Bool}
theorem h_join {ι : Type} (fuel2 : Nat) (listed2 : Array Bool) (Ei : ι → Env) (Ai : ι → List Asr) (hj : ∀ i, SH P w0 l Q n Z Ks fuel2 listed2 (Ei i) (Ai i)) (h : (∀ i, SH P w0 l Q n Z Ks fuel2 listed2 (Ei i) (Ai i)) → SH P w0 l Q n Z Ks fuel listed E As) : SH P w0 l Q n Z Ks fuel listed E As := h hj
theorem h_use {ι : Type} {fuel2 : Nat} {listed2 : Array Bool} {Ei : ι → Env} {Ai : ι → List Asr} (hj : ∀ i, SH P w0 l Q n Z Ks fuel2 listed2 (Ei i) (Ai i)) (i : ι) (hA : ∀ H, Holds Z As H → Holds Z (Ai i) H) (hE : subB E (Ei i) := by exact sub_of rfl (by repeat first | exact trivial | refine ⟨⟨rfl, rfl⟩, ?_⟩)) (hf : fuel = fuel2 := by kernel_rfl) (hl : listed = listed2 := by kernel_rfl) : SH P w0 l Q n Z Ks fuel listed E As := fun H hH => by
  subst hf; subst hl
  exact fun a w hfit ha => hj i H (hA H hH) a w (hfit.of_sub hE) ha
theorem s_nt {ops : Array Oper} {y : Code} (h : SK P w0 y Q n E Z As) : SL P w0 ops (Exit.then (y.wp P Q) Q) n [] E Z As := s_nil (xs_then h)
theorem k_sr {id : Nat} {y : Code} (h : SL P w0 l.toArray (Exit.then (y.wp P Q) Q) n l E Z As) : SK P w0 (.seq (.region id l.toArray false) y) Q n E Z As := k_seq (k_reg h)
theorem k_st {y : Code} (h : SK P w0 y Q n E Z As) : SK P w0 .skip (Exit.then (y.wp P Q) Q) n E Z As := k_skip (xs_then h)
theorem s_nr {ops : Array Oper} {id : Nat} {y : Code} (h : SL P w0 l.toArray (Exit.then (y.wp P Q) Q) n l E Z As) : SL P w0 ops (Exit.then ((Code.seq (.region id l.toArray false) y).wp P Q) Q) n [] E Z As := s_nt (k_sr h)
theorem xcut {ι : Type} {p : ι → Prop} {Ei : ι → Env} {Ai : ι → List Asr} (i : ι) (hA : ∀ H, Holds Z As H → Holds Z (Ai i) H) (hp : p i := by exact trivial) (hE : subB E (Ei i) := by exact sub_of rfl (by repeat first | exact trivial | refine ⟨⟨rfl, rfl⟩, ?_⟩)) : SX w0 .normal (Exit.then (Cut w0 n p Ei Ai Z) Q) n E Z As := xs_cut i hp hE hA
end
end Go.S
end
section
set_option linter.unusedSimpArgs false
set_option linter.unusedVariables false
set_option maxRecDepth 100000
namespace Go.Proofs.YtmhpcebiamkciaaGreat
open Go.Hp Go.J Go.S
open Go.Mem (Ty KTy blk elemAt pre suf blk_pre blk_suf aget aset strK aggDesc)
theorem Tryz.mixed : Tryz.prog.follows .mixedOrders = true := by kernel_rfl
theorem ok_of {α : Type} (T : Ty α) (d : TypeDesc) (i : TypeInfo) (hpos : 0 < T.size) (hlen : ∀ x, (T.enc x).length = T.size) (hone : ∀ x, ∀ u ∈ T.enc x, u.oneCell' = true) (hval : ∀ x, T.val x = if T.agg then .agg (T.enc x).toArray else (T.enc x).headD undef)
    (hd : Tryz.prog.underlying T.id = some d) (ha : aggDesc d = T.agg) (h1 : T.agg = false → T.size = 1) (hi : Tryz.prog.info? T.id = some i) (hs : i.size = T.size) (hb : i.bytes = T.bytes) (hz : i.zero = some (T.val T.zero)) : T.Ok Tryz.prog :=
  ⟨hpos, hlen, hone, hval, ⟨d, hd, ha⟩, h1, ⟨i, hi, hs, hb, hz⟩⟩
theorem fit_int {v : Value} (h : fitsK 0 v = true) : ∃ n, v = .int .i64 n := by
  cases v <;> simp [fitsK] at h
  rename_i k n
  cases k <;> simp [fitsK] at h
  exact ⟨n, rfl⟩
theorem fit_str {v : Value} (h : fitsK 1 v = true) : ∃ n, v = .string n := by
  cases v <;> simp [fitsK] at h
  exact ⟨_, rfl⟩
theorem fit_bool {v : Value} (h : fitsK 2 v = true) : ∃ n, v = .bool n := by
  cases v <;> simp [fitsK] at h
  exact ⟨_, rfl⟩
abbrev Vl.v (x : Vl) : Value := .agg #[.int .i64 x.kind, .int .i64 x.p, .int .i64 x.q, .string x.str, .int .i64 x.ref]
def VlT : Ty Vl := ⟨71, 5, 48, true, Vl.v, ⟨0, 0, 0, ByteArray.empty, 0⟩⟩
theorem VlT_ok : VlT.Ok Tryz.prog := ok_of VlT _ Tryz.t71 (by decide) (fun _ => rfl) (fun x u hu => by simp [Ty.enc, VlT, Value.cells] at hu; rcases hu with rfl | rfl | rfl | rfl | rfl <;> rfl) (fun _ => rfl) Tryz.underlying71 rfl (fun h => by cases h) (by kernel_rfl) (by kernel_rfl) (by kernel_rfl) (by kernel_rfl)
theorem eqVlT (x y : Vl) (w : World) : (binOp .eql 71 x.v y.v).run Tryz.prog w = .ok (.bool (decide (x = y))) w ∧ (binOp .neq 71 x.v y.v).run Tryz.prog w = .ok (.bool (!decide (x = y))) w := by
  have h := J.run_eqS (P := Tryz.prog) (t := 71) [0, 0, 0, 1, 0] (by kernel_rfl) (by kernel_rfl) #[.int .i64 x.kind, .int .i64 x.p, .int .i64 x.q, .string x.str, .int .i64 x.ref] #[.int .i64 y.kind, .int .i64 y.p, .int .i64 y.q, .string y.str, .int .i64 y.ref] rfl rfl w
  have e : J.cellsEq [.int .i64 x.kind, .int .i64 x.p, .int .i64 x.q, .string x.str, .int .i64 x.ref] [.int .i64 y.kind, .int .i64 y.p, .int .i64 y.q, .string y.str, .int .i64 y.ref] = decide (x = y) := by
    cases x; cases y; rw [Bool.eq_iff_iff]; simp [J.cellsEq, J.cellEq]
  rw [e] at h
  exact h
theorem decVlT (cs : List Value) (h : fitsL [0, 0, 0, 1, 0] cs = true) : ∃ x, VlT.enc x = cs := by
  have hl := fitsL_len h
  match cs, hl, h with
  | [c0, c1, c2, c3, c4], _, h =>
    simp only [fitsL, Bool.and_eq_true] at h
    obtain ⟨c0, rfl⟩ := fit_int h.1
    obtain ⟨c1, rfl⟩ := fit_int h.2.1
    obtain ⟨c2, rfl⟩ := fit_int h.2.2.1
    obtain ⟨c3, rfl⟩ := fit_str h.2.2.2.1
    obtain ⟨c4, rfl⟩ := fit_int h.2.2.2.2.1
    exact ⟨⟨c0, c1, c2, c3, c4⟩, rfl⟩
abbrev iTy : Ty Int := iT 3
theorem iTy_ok : iTy.Ok Tryz.prog := iT_ok (i := Tryz.t3) Tryz.underlying3 (by kernel_rfl) (by kernel_rfl) (by kernel_rfl) (by kernel_rfl)
abbrev bTy : Ty Bool := bT 4
theorem bTy_ok : bTy.Ok Tryz.prog := bT_ok (i := Tryz.t4) Tryz.underlying4 (by kernel_rfl) (by kernel_rfl) (by kernel_rfl) (by kernel_rfl)
abbrev Slt.v (x : Slt) : Value := .agg #[.int .i64 x.key.kind, .int .i64 x.key.p, .int .i64 x.key.q, .string x.key.str, .int .i64 x.key.ref, .int .i64 x.val.kind, .int .i64 x.val.p, .int .i64 x.val.q, .string x.val.str, .int .i64 x.val.ref, .bool x.gone]
def SltT : Ty Slt := ⟨261, 11, 104, true, Slt.v, ⟨zVl, zVl, false⟩⟩
theorem SltT_ok : SltT.Ok Tryz.prog := ok_of SltT _ Tryz.t261 (by decide) (fun _ => rfl) (fun x u hu => by simp [Ty.enc, SltT, Value.cells] at hu; rcases hu with rfl | rfl | rfl | rfl | rfl | rfl | rfl | rfl | rfl | rfl | rfl <;> rfl) (fun _ => rfl) Tryz.underlying261 rfl (fun h => by cases h) (by kernel_rfl) (by kernel_rfl) (by kernel_rfl) (by kernel_rfl)
def vK : KTy Vl := ⟨71, Vl.v⟩
theorem vK_ok {β : Type} : KTy.Ok (β := β) vK Tryz.prog := by
  refine Go.Mem.structK_ok (K := vK) Tryz.underlying71 (fun k => ⟨_, rfl⟩) (fun b k w => by kernel_rfl) (fun k => ?_) (fun k k' w => Go.Mem.equal_of_bin (eqVlT k k' w).1)
  show Instr.sameBits 10000 (Vl.v k) (Vl.v k) = true
  unfold Instr.sameBits
  simp [Instr.sameBits, Go.Mem.bytes_beq]
abbrev nV (n : Nat) : Value := .int .i64 n
theorem intOk {β : Type} : KTy.Ok (β := β) (Go.Mem.intK 3) Tryz.prog := Go.Mem.intK_ok Tryz.underlying3
end Go.Proofs.YtmhpcebiamkciaaGreat
end
