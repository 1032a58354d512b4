/-
  The logic of walks over memory in parts: operations that read (Lt), and operations that write. No condition but those that each rule says.
-/
import Derived.Test.YtjdlkemmcnncaaaSB
set_option linter.unusedSimpArgs false
set_option linter.unusedVariables false
namespace Go.S
open Go.Hp Go.J
open Go.Mem (Ty KTy blk elemAt addr_add addr_add_add pre suf aget aset adel apos Stamps aggDesc spliceAt)

section
variable {P : Program} {w0 : World} {ops : Array Oper} {Q : Exit → Act → World → Prop} {n : Nat} {E : Env} {Z : Zone} {As : List Asr} {o : Oper} {rest : List Oper}
/-- A slice can be read. -/
def Acc {α : Type} (Z : Zone) (As : List Asr) (T : Ty α) (v : Value) (L : List α) : Prop := ∀ H, Holds Z As H → Sl H T v L
section
variable {α : Type} {T : Ty α} {v : Value} {L M : List α}
theorem Acc.own (i : Nat) (hi : gt As i = some (own T v L) := by rfl) : Acc Z As T v L := fun H h => (h.ow hi).sl
theorem Acc.zn (k : Kn Z T v L) : Acc Z As T v L := fun H h => k.get h
theorem Acc.nil : Acc Z As T (.slice none 0 0) [] := fun H h => Sl.nil _ _
theorem Acc.pre (a : Acc Z As T v L) (hT : T.Ok P) (m : Nat) (hm : m ≤ L.length) : Acc Z As T (pre v m) (L.take m) := fun H h => (a H h).pre hT m hm
theorem Acc.suf (a : Acc Z As T v L) (hT : T.Ok P) (m : Nat) (hm : m ≤ L.length) : Acc Z As T (suf T.size v m) (L.drop m) := fun H h => (a H h).suf hT m hm
theorem Acc.lit (i : Nat) {g m : Nat} {arr : Array Value} {e : TypeId} (hT : T.Ok P) (L : List α) (hi : gt As i = some (blkA g arr e) := by rfl) (he : e = T.id := by rfl) (ha : arr.toList = T.flat L := by rfl) (hm : m = L.length := by rfl) (hl : L.length ≤ 9223372036854775807 := by simp) : Acc Z As T (.slice (some ⟨g, 0, none⟩) m m) L :=
  fun H h => (Ow.lit hT L (by have := h.blk hi; rw [he] at this; exact this) ha hm hl).sl
theorem Acc.kn {H : Heap} (a : Acc Z As T v L) (h : Holds Z As H) : Kn (zoneOf H) T v L := .of (a H h)
theorem Acc.len (a : Acc Z As T v L) : ∀ H, Holds Z As H → L.length ≤ 9223372036854775807 := fun H h => (a H h).len_le
/-- A block that was laid is a slice of its own. -/
theorem Holds.slice (i : Nat) {g m : Nat} {arr : Array Value} {e : TypeId} {H : Heap} (h : Holds Z As H) (hT : T.Ok P) (L : List α) (hi : gt As i = some (blkA g arr e) := by rfl) (he : e = T.id := by rfl) (ha : arr.toList = T.flat L := by rfl) (hm : m = L.length := by rfl) (hl : L.length ≤ 9223372036854775807 := by simp) : Holds Z (upd As i (S.own T (.slice (some ⟨g, 0, none⟩) m m) L)) H := by
  refine h.step hi fun S ⟨h1, h2⟩ => ⟨S, ⟨Ow.lit hT L (by rw [he] at h1; exact h1) ha hm hl, fun k => ?_⟩, Chg.refl _ _, fun k hk => .inl hk⟩
  rw [h2 k]; show k = g ↔ some g = some k; simp [eq_comm]
theorem Holds.pre {i : Nat} {H : Heap} (h : Holds Z As H) (hT : T.Ok P) (m : Nat) (hi : gt As i = some (S.own T v L)) (hm : m ≤ L.length) : Holds Z (upd As i (S.own T (Go.Mem.pre v m) (L.take m))) H := by
  refine h.step hi fun S ⟨h1, h2⟩ => ⟨S, ⟨h1.pre hT m hm, fun k => ?_⟩, Chg.refl _ _, fun k hk => .inl hk⟩
  rw [h2 k, Go.Mem.blk_pre]
end

/-- An operation that only reads. -/
def Lt (P : Program) (E : Env) (o : Oper) (Z : Zone) (As : List Asr) (v : Value) : Prop := ∀ H, Holds Z As H → Light P E o H v
theorem s_lt {v : Value} {d : Nat} (t : Lt P E o Z As v) (h : SL P w0 ops Q n rest ((d, v) :: E) Z As) (hd : o.dst = some d := by rfl) (hk : okOp ops n E o = true := by kernel_rfl) : SL P w0 ops Q n (o :: rest) E Z As :=
  fun H hH => l_read v hk (fun w hw => (t H hH).run w hw) (by rw [hd]; exact h H hH)
theorem s_lt0 {v : Value} (t : Lt P E o Z As v) (h : SL P w0 ops Q n rest E Z As) (hd : o.dst = none := by rfl) (hk : okOp ops n E o = true := by kernel_rfl) : SL P w0 ops Q n (o :: rest) E Z As :=
  fun H hH => l_read v hk (fun w hw => (t H hH).run w hw) (by rw [hd]; exact h H hH)
theorem s_skip {d : Nat} (h : SL P w0 ops Q n rest ((d, undef) :: E) Z As) (hd : o.dst = some d := by rfl) (hu : unwant ops E o = true := by kernel_rfl) (hk : dstOk n o.dst = true := by rfl) : SL P w0 ops Q n (o :: rest) E Z As :=
  fun H hH => l_skip hu hk (by rw [hd]; exact h H hH)
theorem s_skip0 (h : SL P w0 ops Q n rest E Z As) (hd : o.dst = none := by rfl) (hu : unwant ops E o = true := by kernel_rfl) (hk : dstOk n o.dst = true := by rfl) : SL P w0 ops Q n (o :: rest) E Z As :=
  fun H hH => l_skip hu hk (by rw [hd]; exact h H hH)
theorem s_fork {l : List Oper} (t : Nat) (c : Bool) (h1 : c = true → SL P w0 ops Q n l ((t, .bool true) :: E) Z As) (h2 : c = false → SL P w0 ops Q n l ((t, .bool false) :: E) Z As) (hv : J.look E t = .bool c := by rfl) (hh : J.has E t = true := by rfl) : SL P w0 ops Q n l E Z As :=
  fun H hH => l_fork t c hh hv (fun e => h1 e H hH) (fun e => h2 e H hH)

theorem t_pure (v : Value) (hr : ∀ w, (execOp (ev E) o).run P w = .ok (.value v) w := by exact fun _ => rfl) : Lt P E o Z As v := fun _ _ => r_pure v hr
theorem t_kern (v : Value) (hr : ∀ w, (execOp (ev E) o).run P w = .ok (.value v) w := by intro _; kernel_rfl) : Lt P E o Z As v := fun _ _ => r_pure v hr
theorem t_add {t u : TypeId} {x y : Operand} (a b : Int) (hb : -9223372036854775808 ≤ a + b ∧ a + b ≤ 9223372036854775807) (ho : o.op = .binOp .add t x y u := by rfl) (hx : ev E x = .int .i64 a := by rfl) (hy : ev E y = .int .i64 b := by rfl) : Lt P E o Z As (.int .i64 (a + b)) := fun _ _ => r_add ho a b hx hy hb
theorem t_sub {t u : TypeId} {x y : Operand} (a b : Int) (hb : -9223372036854775808 ≤ a - b ∧ a - b ≤ 9223372036854775807) (ho : o.op = .binOp .sub t x y u := by rfl) (hx : ev E x = .int .i64 a := by rfl) (hy : ev E y = .int .i64 b := by rfl) : Lt P E o Z As (.int .i64 (a - b)) := fun _ _ => r_sub ho a b hx hy hb
theorem t_mul {t u : TypeId} {x y : Operand} (a b : Int) (hb : -9223372036854775808 ≤ a * b ∧ a * b ≤ 9223372036854775807) (ho : o.op = .binOp .mul t x y u := by rfl) (hx : ev E x = .int .i64 a := by rfl) (hy : ev E y = .int .i64 b := by rfl) : Lt P E o Z As (.int .i64 (a * b)) := fun _ _ => r_mul ho a b hx hy hb
theorem t_addW {t u : TypeId} {x y : Operand} (a b : Int) (ho : o.op = .binOp .add t x y u := by rfl) (hx : ev E x = .int .i64 a := by rfl) (hy : ev E y = .int .i64 b := by rfl) : Lt P E o Z As (.int .i64 (IntKind.i64.wrap (a + b))) := fun _ _ => r_addW ho a b hx hy
theorem t_subW {t u : TypeId} {x y : Operand} (a b : Int) (ho : o.op = .binOp .sub t x y u := by rfl) (hx : ev E x = .int .i64 a := by rfl) (hy : ev E y = .int .i64 b := by rfl) : Lt P E o Z As (.int .i64 (IntKind.i64.wrap (a - b))) := fun _ _ => r_subW ho a b hx hy
theorem t_cmp {op : BinOp} {t u : TypeId} {x y : Operand} {k : IntKind} {a b : Int} {c : Bool} (ho : o.op = .binOp op t x y u := by rfl) (hx : ev E x = .int k a := by rfl) (hy : ev E y = .int k b := by rfl) (hc : cmpI op a b = some c := by rfl) : Lt P E o Z As (.bool c) := fun _ _ => r_cmp ho k a b c hx hy hc
theorem t_cmpS {op : BinOp} {t u : TypeId} {x y : Operand} {a b : ByteArray} {c : Bool} (ho : o.op = .binOp op t x y u := by rfl) (hx : ev E x = .string a := by rfl) (hy : ev E y = .string b := by rfl) (hc : cmpS op a b = some c := by rfl) : Lt P E o Z As (.bool c) := fun _ _ => r_cmpS ho a b c hx hy hc
theorem t_eqS {op : BinOp} {t u : TypeId} {x y : Operand} {xs ys : Array Value} {c : Bool} (hr : ∀ w, (binOp op t (.agg xs) (.agg ys)).run P w = .ok (.bool c) w) (ho : o.op = .binOp op t x y u := by rfl) (hx : ev E x = .agg xs := by rfl) (hy : ev E y = .agg ys := by rfl) (hg : P.eqGuardType P.depth t = false := by kernel_rfl) : Lt P E o Z As (.bool c) := fun _ _ => r_eqS ho xs ys c hx hy hg hr
theorem t_load {t : TypeId} {x : Operand} {g k : Nat} {arr : Array Value} {e : TypeId} (i : Nat) (u : Value) (ho : o.op = .load t x := by rfl) (hx : ev E x = .pointer (some ⟨g, k, none⟩) := by rfl) (hA : gt As i = some (blkA g arr e) := by rfl) (hu : arr[k]? = some u := by rfl) (ht : scalarT P t = true := by kernel_rfl) : Lt P E o Z As u := fun H hH => r_loadC ho g k arr e (0, 0) u hx ht (hH.blk hA) hu
theorem t_loadA {t : TypeId} {x : Operand} {g k m : Nat} {arr : Array Value} {e : TypeId} (i : Nat) (cs : Array Value) (ho : o.op = .load t x := by rfl) (hx : ev E x = .pointer (some ⟨g, k, none⟩) := by rfl) (hA : gt As i = some (blkA g arr e) := by rfl) (hl : cs.size = m := by rfl) (hc : arr.toList.extract k (k + m) = cs.toList := by rfl) (ht : aggT P t m = true := by kernel_rfl) : Lt P E o Z As (.agg cs) := fun H hH => r_loadA ho g k m arr e (0, 0) cs hx ht (hH.blk hA) hl hc
section
variable {α : Type} {T : Ty α} {v : Value} {L M : List α}
theorem t_loadE {t : TypeId} {x : Operand} {k : Nat} {y : α} {u : Value} (hT : T.Ok P) (a : Acc Z As T v L) (hy : L[k]? = some y) (hu : T.val y = u := by rfl) (ho : o.op = .load t x := by rfl) (hid : T.id = t := by rfl) (hx : ev E x = .pointer (some (elemAt T.size v k)) := by rfl) : Lt P E o Z As u := fun H hH => r_loadE ho hT hid v k y u L hx (a H hH) hy hu
theorem t_loadF {t : TypeId} {x : Operand} {k : Nat} {y : α} {u : Value} (j : Nat) (hT : T.Ok P) (a : Acc Z As T v L) (hy : L[k]? = some y) (hu : (T.enc y)[j]? = some u := by rfl) (ho : o.op = .load t x := by rfl) (hx : ev E x = .pointer (some ((elemAt T.size v k).add j)) := by rfl) (ht : scalarT P t = true := by kernel_rfl) : Lt P E o Z As u := fun H hH => r_loadF ho hT v k j y u L hx ht (a H hH) hy hu
theorem t_len {x : Operand} {t : TypeId} (hT : T.Ok P) (ht : P.underlying t = some (.slice T.id)) (a : Acc Z As T v L) (ho : o.op = .call { callee := .builtin .len, args := #[x], argTypes := #[t] } := by rfl) (hx : ev E x = v := by rfl) : Lt P E o Z As (.int .i64 L.length) := fun H hH => r_len ho hT ht hx (a H hH)
theorem t_index {x i : Operand} {t : TypeId} {q : IntKind} (hT : T.Ok P) (ht : P.underlying t = some (.slice T.id)) (a : Acc Z As T v L) (k : Int) (m : Nat) (h0 : 0 ≤ k) (hl : k < L.length) (hm : m = k.toNat) (ho : o.op = .indexAddr t x i := by rfl) (hx : ev E x = v := by rfl) (hi : ev E i = .int q k := by rfl) : Lt P E o Z As (.pointer (some (elemAt T.size v m))) := fun H hH => r_index ho hT ht q k hx hi (a H hH) h0 hl m hm
theorem t_pre {x i : Operand} {t : TypeId} {q : IntKind} (hT : T.Ok P) (ht : P.underlying t = some (.slice T.id)) (a : Acc Z As T v L) (k : Int) (m : Nat) (h0 : 0 ≤ k) (hl : k ≤ L.length) (hm : m = k.toNat) (ho : o.op = .slice t x none (some i) none := by rfl) (hx : ev E x = v := by rfl) (hi : ev E i = .int q k := by rfl) : Lt P E o Z As (pre v m) := fun H hH => r_pre ho hT ht q k hx hi (a H hH) h0 hl m hm
theorem t_suf {x i : Operand} {t : TypeId} {q : IntKind} (hT : T.Ok P) (ht : P.underlying t = some (.slice T.id)) (a : Acc Z As T v L) (k : Int) (m : Nat) (h0 : 0 ≤ k) (hl : k ≤ L.length) (hm : m = k.toNat) (ho : o.op = .slice t x (some i) none none := by rfl) (hx : ev E x = v := by rfl) (hi : ev E i = .int q k := by rfl) : Lt P E o Z As (suf T.size v m) := fun H hH => r_suf ho hT ht q k hx hi (a H hH) h0 hl m hm
end
theorem t_min {x y : Operand} {ts : Array TypeId} {k : IntKind} {a b : Int} (ho : o.op = .call { callee := .builtin .min, args := #[x, y], argTypes := ts } := by rfl) (hx : ev E x = .int k a := by rfl) (hy : ev E y = .int k b := by rfl) : Lt P E o Z As (.int k (if b < a then b else a)) := fun _ _ => r_min ho k a b hx hy
theorem t_max {x y : Operand} {ts : Array TypeId} {k : IntKind} {a b : Int} (ho : o.op = .call { callee := .builtin .max, args := #[x, y], argTypes := ts } := by rfl) (hx : ev E x = .int k a := by rfl) (hy : ev E y = .int k b := by rfl) : Lt P E o Z As (.int k (if a < b then b else a)) := fun _ _ => r_max ho k a b hx hy
section
variable {κ β : Type} [DecidableEq κ] {K : KTy κ} {V : β → Value} {b : Nat} {m : List (κ × β)}
theorem t_lookup {x y : Operand} {t e : TypeId} (i : Nat) (hK : KTy.Ok (β := β) K P) (ht : P.underlying t = some (.map K.id e)) (z : Value) (k : κ) (hA : gt As i = some (mpA K V b m) := by rfl) (hz : ∀ w, (zeroValue e).run P w = .ok z w := by intro _; kernel_rfl) (ho : o.op = .lookup t x y false := by rfl) (hx : ev E x = .map (some b) := by rfl) (hy : ev E y = K.val k := by rfl) : Lt P E o Z As (((aget m k).map V).getD z) := fun H hH => r_lookup ho hK ht z hz k hx hy (hH.mp hA)
theorem t_lookupOk {x y : Operand} {t e : TypeId} (i : Nat) (hK : KTy.Ok (β := β) K P) (ht : P.underlying t = some (.map K.id e)) (z : Value) (k : κ) (hA : gt As i = some (mpA K V b m) := by rfl) (hz : ∀ w, (zeroValue e).run P w = .ok z w := by intro _; kernel_rfl) (ho : o.op = .lookup t x y true := by rfl) (hx : ev E x = .map (some b) := by rfl) (hy : ev E y = K.val k := by rfl) : Lt P E o Z As (.tuple #[((aget m k).map V).getD z, .bool (aget m k).isSome]) := fun H hH => r_lookupOk ho hK ht z hz k hx hy (hH.mp hA)
end
/-- What is read is spelt otherwise. -/
theorem Lt.to {v v' : Value} (t : Lt P E o Z As v) (e : v = v') : Lt P E o Z As v' := e ▸ t

/-! ### New blocks -/
theorem Holds.newB {H H' : Heap} {g : Nat} {arr : Array Value} {e : TypeId} (h : Holds Z As H) (hn : New H H' g (.cells arr e (0, 0))) : Holds Z (blkA g arr e :: As) H' :=
  h.new (hn.chg _) (S' := fun k => k = g) ⟨hn.is, fun k => Iff.rfl⟩ fun k hk => by rw [hk, hn.at_]; exact Nat.le_refl _
theorem s_box {t : TypeId} {x : Operand} {d : Nat} {u : Value} (cs : Array Value) (h : ∀ g, SL P w0 ops Q n rest ((d, .pointer (some ⟨g, 0, none⟩)) :: E) Z (blkA g cs t :: As)) (ho : o.op = .box t x := by rfl) (hx : ev E x = u := by rfl) (hc : u.cells = cs := by rfl) (hd : o.dst = some d := by rfl) (hk : okOp ops n E o = true := by kernel_rfl) : SL P w0 ops Q n (o :: rest) E Z As :=
  fun H hH => l_box ho u cs hk hx hc fun g H' hn => by rw [hd]; exact h g H' (hH.newB hn)
theorem s_alloc {t : TypeId} {d : Nat} (z : Value) (cs : Array Value) (h : ∀ g, SL P w0 ops Q n rest ((d, .pointer (some ⟨g, 0, none⟩)) :: E) Z (blkA g cs t :: As)) (ho : o.op = .alloc t := by rfl) (hc : z.cells = cs := by rfl) (hz : ∀ w, (zeroValue t).run P w = .ok z w := by intro _; kernel_rfl) (hd : o.dst = some d := by rfl) (hk : okOp ops n E o = true := by kernel_rfl) : SL P w0 ops Q n (o :: rest) E Z As :=
  fun H hH => l_alloc ho z cs hk hz hc fun g H' hn => by rw [hd]; exact h g H' (hH.newB hn)
theorem s_buildSlice {t e : TypeId} {len d : Nat} {ps : Array (Nat × Operand)} (pl : List (Nat × Value)) (cs : Array Value) (h : ∀ g, SL P w0 ops Q n rest ((d, .slice (some ⟨g, 0, none⟩) len len) :: E) Z (blkA g cs e :: As)) (ho : o.op = .buildSlice t len ps := by rfl) (hpl : (ps.toList.map fun p => (p.1, ev E p.2)) = pl := by rfl) (hb : builtCells P t len pl = some (e, cs)) (hd : o.dst = some d := by rfl) (hk : okOp ops n E o = true := by kernel_rfl) : SL P w0 ops Q n (o :: rest) E Z As :=
  fun H hH => l_buildSlice ho pl e cs hk hpl hb fun g H' hn => by rw [hd]; exact h g H' (hH.newB hn)
theorem s_makeMap {t : TypeId} {d : Nat} {κ β : Type} [DecidableEq κ] (K : KTy κ) (V : β → Value) (h : ∀ b, SL P w0 ops Q n rest ((d, .map (some b)) :: E) Z (mpA K V b [] :: As)) (ho : o.op = .makeMap t none := by rfl) (hd : o.dst = some d := by rfl) (hk : okOp ops n E o = true := by kernel_rfl) : SL P w0 ops Q n (o :: rest) E Z As :=
  fun H hH => l_makeMap ho hk fun g H' hn => by
    rw [hd]
    exact h g H' (hH.new (hn.chg _) (S' := fun k => k = g) ⟨Mp.made hn.is K V, fun k => Iff.rfl⟩ fun k hk => by rw [hk, hn.at_]; exact Nat.le_refl _)

/-! ### Writing -/
theorem s_store {t : TypeId} {x y : Operand} {g k m : Nat} {arr : Array Value} {e : TypeId} {u : Value} (i : Nat) (arr' : Array Value) (h : SL P w0 ops Q n rest E Z (upd As i (blkA g arr' e))) (ho : o.op = .store t x y := by rfl) (hx : ev E x = .pointer (some ⟨g, k, none⟩) := by rfl) (hy : ev E y = u := by rfl) (hA : gt As i = some (blkA g arr e) := by rfl) (hm : u.cells.size = m := by rfl) (hs : sizeT P t m = true := by kernel_rfl) (hfit : Nat.ble (k + m) arr.size = true := by rfl) (h1 : (u.cells.toList.all fun c => c.oneCell') = true := by rfl) (ha' : (spliceAt arr.toList k u.cells.toList) = arr'.toList := by rfl) (hd : o.dst = none := by rfl) (hk : okOp ops n E o = true := by kernel_rfl) : SL P w0 ops Q n (o :: rest) E Z As :=
  fun H hH => l_store ho g k m arr arr' e u hk hx hy hs (hH.blk hA) hm hfit h1 ha' fun H' hp => by
    rw [hd]
    exact h H' (hH.step hA fun S ⟨_, h2⟩ => ⟨S, ⟨hp.is, h2⟩, hp.chg.mono (fun j _ hj => (h2 j).2 hj), fun k hk => .inl hk⟩)
section
variable {α : Type} {T : Ty α} {v : Value} {L M : List α}
theorem own_step {H H' : Heap} {i : Nat} {v' : Value} {L' : List α} (hH : Holds Z As H) (hA : gt As i = some (own T v L)) (ow : Ow H' T v' L') (chg : Chg (fun k => blk v = some k) H H') (mv : ∀ g, blk v' = some g → blk v = some g ∨ H.size ≤ g) : Holds Z (upd As i (own T v' L')) H' :=
  hH.step hA fun S ⟨_, h2⟩ => ⟨fun k => blk v' = some k, ⟨ow, fun k => Iff.rfl⟩, chg.mono (fun j _ hj => (h2 j).2 hj), fun k hk => (mv k hk).imp (h2 k).2 id⟩
theorem s_storeE {t : TypeId} {x y : Operand} {k m : Nat} {z : α} {u : Value} (i j : Nat) (z' : α) (hT : T.Ok P) (hz : L[k]? = some z) (h : SL P w0 ops Q n rest E Z (upd As i (own T v (L.set k z')))) (ho : o.op = .store t x y := by rfl) (hA : gt As i = some (own T v L) := by rfl) (hx : ev E x = .pointer (some ((elemAt T.size v k).add j)) := by rfl) (hy : ev E y = u := by rfl) (hm : u.cells.size = m := by rfl) (hs : sizeT P t m = true := by kernel_rfl) (hfit : Nat.ble (j + m) T.size = true := by rfl) (h1 : (u.cells.toList.all fun c => c.oneCell') = true := by rfl) (he : T.enc z' = spliceAt (T.enc z) j u.cells.toList := by rfl) (hd : o.dst = none := by rfl) (hk : okOp ops n E o = true := by kernel_rfl) : SL P w0 ops Q n (o :: rest) E Z As :=
  fun H hH => l_storeE ho hT v k j m z z' u L hk hx hy hs (hH.ow hA) hz hm hfit h1 he fun H' ow chg => by
    rw [hd]; exact h H' (own_step hH hA ow chg fun g hg => .inl hg)
theorem s_append {s x : Operand} {t : TypeId} {d : Nat} {v2 : Value} (i : Nat) (hT : T.Ok P) (ht : P.underlying t = some (.slice T.id)) (a : Acc Z As T v2 M) (hb : (L.length + M.length) * T.bytes ≤ 140737488355328) (h63 : L.length + M.length ≤ 9223372036854775807) (h : ∀ v', SL P w0 ops Q n rest ((d, v') :: E) Z (upd As i (own T v' (L ++ M)))) (ho : o.op = .call { callee := .builtin .append, args := #[s, x], argTypes := #[t, t] } := by rfl) (hA : gt As i = some (own T v L) := by rfl) (hs : ev E s = v := by rfl) (hx : ev E x = v2 := by rfl) (hd : o.dst = some d := by rfl) (hk : okOp ops n E o = true := by kernel_rfl) : SL P w0 ops Q n (o :: rest) E Z As :=
  fun H hH => l_append ho hT ht v2 hk hs hx (hH.ow hA) (a H hH) hb h63 fun v' H' ap => by
    rw [hd]; exact h v' H' (own_step hH hA ap.ow ap.chg ap.moved)
theorem s_appendN {s x : Operand} {t : TypeId} {d : Nat} {v2 : Value} (hT : T.Ok P) (ht : P.underlying t = some (.slice T.id)) (a : Acc Z As T v2 M) (hb : M.length * T.bytes ≤ 140737488355328) (h : ∀ v', SL P w0 ops Q n rest ((d, v') :: E) Z (own T v' M :: As)) (ho : o.op = .call { callee := .builtin .append, args := #[s, x], argTypes := #[t, t] } := by rfl) (hs : ev E s = .slice none 0 0 := by rfl) (hx : ev E x = v2 := by rfl) (hd : o.dst = some d := by rfl) (hk : okOp ops n E o = true := by kernel_rfl) : SL P w0 ops Q n (o :: rest) E Z As :=
  fun H hH => l_append ho hT ht v2 hk hs hx (Ow.nil H T) (a H hH) (by simpa using hb) (by simpa using (a H hH).len_le) fun v' H' ap => by
    rw [hd]
    exact h v' H' (hH.new (ap.chg.mono fun k _ hk => by simp [blk, Value.ownBlock] at hk) (S' := fun k => blk v' = some k) ⟨by have := ap.ow; simpa using this, fun k => Iff.rfl⟩ fun k hk => (ap.moved k hk).elim (fun h => by simp [blk, Value.ownBlock] at h) id)
theorem s_make {t : TypeId} {x y : Operand} {q q' : IntKind} {d : Nat} (hT : T.Ok P) (ht : P.underlying t = some (.slice T.id)) (k : Int) (h0 : 0 ≤ k) (hb : T.bytes * k.toNat ≤ 281474976710656) (h63 : k ≤ 9223372036854775807) (h : ∀ v', SL P w0 ops Q n rest ((d, v') :: E) Z (own T v' (List.replicate k.toNat T.zero) :: As)) (ho : o.op = .makeSlice t x y := by rfl) (hx : ev E x = .int q k := by rfl) (hy : ev E y = .int q' k := by rfl) (hd : o.dst = some d := by rfl) (hk : okOp ops n E o = true := by kernel_rfl) : SL P w0 ops Q n (o :: rest) E Z As :=
  fun H hH => l_make ho hT ht q q' k hk hx hy h0 hb h63 fun g H' v' hg ow chg hbk _ => by
    rw [hd]
    exact h v' H' (hH.new (chg _) (S' := fun k => blk v' = some k) ⟨ow, fun k => Iff.rfl⟩ fun k hk => by rw [hbk] at hk; cases hk; omega)
theorem s_copy {s x : Operand} {t t' : TypeId} {d : Nat} {v2 : Value} (i : Nat) (hT : T.Ok P) (ht : P.underlying t = some (.slice T.id)) (a : Acc Z As T v2 M) (h : SL P w0 ops Q n rest ((d, .int .i64 (min M.length L.length : Nat)) :: E) Z (upd As i (own T v (M.take L.length ++ L.drop M.length)))) (ho : o.op = .call { callee := .builtin .copy, args := #[s, x], argTypes := #[t, t'] } := by rfl) (hA : gt As i = some (own T v L) := by rfl) (hs : ev E s = v := by rfl) (hx : ev E x = v2 := by rfl) (hd : o.dst = some d := by rfl) (hk : okOp ops n E o = true := by kernel_rfl) : SL P w0 ops Q n (o :: rest) E Z As :=
  fun H hH => l_copy ho hT ht v2 hk hs hx (hH.ow hA) (a H hH) fun H' ow chg _ => by
    rw [hd]; exact h H' (own_step hH hA ow chg fun g hg => .inl hg)
theorem s_copy0 {s x : Operand} {t t' : TypeId} {v2 : Value} (i : Nat) (hT : T.Ok P) (ht : P.underlying t = some (.slice T.id)) (a : Acc Z As T v2 M) (h : SL P w0 ops Q n rest E Z (upd As i (own T v (M.take L.length ++ L.drop M.length)))) (ho : o.op = .call { callee := .builtin .copy, args := #[s, x], argTypes := #[t, t'] } := by rfl) (hA : gt As i = some (own T v L) := by rfl) (hs : ev E s = v := by rfl) (hx : ev E x = v2 := by rfl) (hd : o.dst = none := by rfl) (hk : okOp ops n E o = true := by kernel_rfl) : SL P w0 ops Q n (o :: rest) E Z As :=
  fun H hH => l_copy ho hT ht v2 hk hs hx (hH.ow hA) (a H hH) fun H' ow chg _ => by
    rw [hd]; exact h H' (own_step hH hA ow chg fun g hg => .inl hg)
end
section
variable {κ β : Type} [DecidableEq κ] {K : KTy κ} {V : β → Value} {b : Nat} {m : List (κ × β)}
theorem mp_step {H H' : Heap} {i : Nat} {m' : List (κ × β)} (hH : Holds Z As H) (hA : gt As i = some (mpA K V b m)) (u : Upd H H' K V b m') : Holds Z (upd As i (mpA K V b m')) H' :=
  hH.step hA fun S ⟨_, h2⟩ => ⟨S, ⟨u.mp, h2⟩, u.chg.mono (fun j _ hj => (h2 j).2 hj), fun k hk => .inl hk⟩
theorem s_update {x y z : Operand} {t e : TypeId} (i : Nat) (hK : KTy.Ok (β := β) K P) (ht : P.underlying t = some (.map K.id e)) (k : κ) (u : β) (h : SL P w0 ops Q n rest E Z (upd As i (mpA K V b (aset m k u)))) (ho : o.op = .mapUpdate t x y z := by rfl) (hA : gt As i = some (mpA K V b m) := by rfl) (hx : ev E x = .map (some b) := by rfl) (hy : ev E y = K.val k := by rfl) (hu : ev E z = V u := by rfl) (hd : o.dst = none := by rfl) (hk : okOp ops n E o = true := by kernel_rfl) : SL P w0 ops Q n (o :: rest) E Z As :=
  fun H hH => l_update ho hK ht k u hk hx hy hu (hH.mp hA) fun H' up => by rw [hd]; exact h H' (mp_step hH hA up)
theorem s_insert {x y z : Operand} {t e : TypeId} (i : Nat) (hK : KTy.Ok (β := β) K P) (ht : P.underlying t = some (.map K.id e)) (k : κ) (u : β) (h : SL P w0 ops Q n rest E Z (upd As i (mpA K V b (aset m k u)))) (ho : o.op = .insert t x y z := by rfl) (hA : gt As i = some (mpA K V b m) := by rfl) (hx : ev E x = .map (some b) := by rfl) (hy : ev E y = K.val k := by rfl) (hu : ev E z = V u := by rfl) (hd : o.dst = none := by rfl) (hk : okOp ops n E o = true := by kernel_rfl) : SL P w0 ops Q n (o :: rest) E Z As :=
  fun H hH => l_insert ho hK ht k u hk hx hy hu (hH.mp hA) fun H' up => by rw [hd]; exact h H' (mp_step hH hA up)
end

/-! ### Regions that draw, with loads beside calls -/
def HS (Z : Zone) (Ks : List Asr) (H : Heap) : Prop := ∃ Fs, Holds Z (Ks ++ Fs) H
def SH (P : Program) (w0 : World) (l : List Oper) (Q : Exit → Act → World → Prop) (n : Nat) (Z : Zone) (Ks : List Asr) (fuel : Nat) (listed : Array Bool) (E : Env) (As : List Asr) : Prop := ∀ H, Holds Z As H → JH P w0 l Q n (HS Z Ks) fuel listed E H
section
variable {l : List Oper} {Ks : List Asr} {fuel : Nat} {listed : Array Bool}
theorem k_held {id : Nat} (Ks : List Asr) (h : SH P w0 l Q n Z Ks l.length (Array.replicate l.length false) E As) (hm : P.follows .mixedOrders = true := by kernel_rfl) : SK P w0 (.region id l.toArray true) Q n E Z As := fun H hH => c_held (HS Z Ks) hm (h H hH)
theorem np_finS {fn : Func} {R : Value → List Asr → Prop} : NP (FinS P fn w0 Z R) := np_fin
theorem h_lt {d : Nat} {v : Value} (i : Nat) (hi : l[i]? = some o) (hQ : NP Q) (is : List Nat) {Fs : List Asr} (t : ∀ Fs, Lt P E o Z (Ks ++ Fs) v) (h : SH P w0 l Q n Z Ks fuel (listed.setIfInBounds i true) ((d, v) :: E) As) (hd : o.dst = some d := by rfl) (hS : rearr As is = Ks ++ Fs := by rfl) (hc : canTake l listed i = true := by kernel_rfl) (hk : okOp l.toArray n E o = true := by kernel_rfl) : SH P w0 l Q n Z Ks (fuel + 1) listed E As :=
  fun H hH => h_light i hi hc hQ hk (fun Hh ⟨Fs, hF⟩ => t Fs Hh hF) ⟨Fs, hS ▸ hH.rearr is⟩ (by rw [hd]; exact h H hH)
theorem h_skipS {d : Nat} (i : Nat) (hQ : NP Q) (is : List Nat) {Fs : List Asr} (h : SH P w0 l Q n Z Ks fuel (listed.setIfInBounds i true) ((d, undef) :: E) As) (hi : l[i]? = some o := by rfl) (hd : o.dst = some d := by rfl) (hS : rearr As is = Ks ++ Fs := by rfl) (hc : canTake l listed i = true := by kernel_rfl) (hu : unwant l.toArray E o = true := by kernel_rfl) (hk : dstOk n o.dst = true := by rfl) : SH P w0 l Q n Z Ks (fuel + 1) listed E As :=
  fun H hH => h_skip i hi hc hQ hu hk ⟨Fs, hS ▸ hH.rearr is⟩ (by rw [hd]; exact h H hH)
theorem h_stepS (i : Nat) (h : SL P w0 l.toArray (heldQ P l Q (HS Z Ks) fuel (listed.setIfInBounds i true)) n [o] E Z As) (hi : l[i]? = some o := by rfl) (hr : Region.ready .any l.toArray listed = [i] := by kernel_rfl) : SH P w0 l Q n Z Ks (fuel + 1) listed E As := fun H hH => h_step i hi hr (h H hH)
theorem xs_held (is : List Nat) {Fs : List Asr} (h : SH P w0 l Q n Z Ks fuel listed E As) (hS : rearr As is = Ks ++ Fs := by rfl) : SX w0 .normal (heldQ P l Q (HS Z Ks) fuel listed) n E Z As := fun H hH => x_held ⟨Fs, hS ▸ hH.rearr is⟩ (h H hH)
theorem h_doneS (h : SX w0 .normal Q n E Z As) (hr : Region.ready .any l.toArray listed = [] := by kernel_rfl) : SH P w0 l Q n Z Ks fuel listed E As := fun H hH => h_done hr (h H hH)
theorem h_forkS (t : Nat) (c : Bool) (h1 : c = true → SH P w0 l Q n Z Ks fuel listed ((t, .bool true) :: E) As) (h2 : c = false → SH P w0 l Q n Z Ks fuel listed ((t, .bool false) :: E) As) (hv : J.look E t = .bool c := by rfl) (hh : J.has E t = true := by rfl) : SH P w0 l Q n Z Ks fuel listed E As :=
  fun H hH => h_fork t c hh hv (fun e => h1 e H hH) (fun e => h2 e H hH)
end
end
end Go.S
