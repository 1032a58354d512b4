/-
  The data of layers 25 to 27: entries, objects, graphs. No condition.
-/
import Derived.Test.YtjdlkemmcnncaaaSI
import Derived.Test.YtjdlkemmcnncaaaJR
import Derived.Test.YtjdlkemmcnncaaaProg
set_option linter.unusedSimpArgs false
set_option linter.unusedVariables false
set_option maxRecDepth 100000
namespace Go.Proofs.Ytjdlkemmcnncaaa
open Go.Hp Go.J Go.S
open Go.Mem (Ty KTy blk elemAt pre suf blk_pre blk_suf aget aset strK aggDesc)
theorem Try.mixed : Try.prog.follows .mixedOrders = true := by kernel_rfl
theorem ok_of {α : Type} (T : Ty α) (d : TypeDesc) (i : TypeInfo) (hpos : 0 < T.size) (hlen : ∀ x, (T.enc x).length = T.size) (hone : ∀ x, ∀ u ∈ T.enc x, u.oneCell' = true) (hval : ∀ x, T.val x = if T.agg then .agg (T.enc x).toArray else (T.enc x).headD undef)
    (hd : Try.prog.underlying T.id = some d) (ha : aggDesc d = T.agg) (h1 : T.agg = false → T.size = 1) (hi : Try.prog.info? T.id = some i) (hs : i.size = T.size) (hb : i.bytes = T.bytes) (hz : i.zero = some (T.val T.zero)) : T.Ok Try.prog :=
  ⟨hpos, hlen, hone, hval, ⟨d, hd, ha⟩, h1, ⟨i, hi, hs, hb, hz⟩⟩
theorem fit_int {v : Value} (h : fitsK 0 v = true) : ∃ n, v = .int .i64 n := by
  cases v <;> simp [fitsK] at h
  rename_i k n
  cases k <;> simp [fitsK] at h
  exact ⟨n, rfl⟩
theorem fit_str {v : Value} (h : fitsK 1 v = true) : ∃ n, v = .string n := by
  cases v <;> simp [fitsK] at h
  exact ⟨_, rfl⟩
theorem fit_bool {v : Value} (h : fitsK 2 v = true) : ∃ n, v = .bool n := by
  cases v <;> simp [fitsK] at h
  exact ⟨_, rfl⟩
abbrev iTy : Ty Int := iT 3
theorem iTy_ok : iTy.Ok Try.prog := iT_ok (i := Try.t3) Try.underlying3 (by kernel_rfl) (by kernel_rfl) (by kernel_rfl) (by kernel_rfl)
abbrev bTy : Ty Bool := bT 4
theorem bTy_ok : bTy.Ok Try.prog := bT_ok (i := Try.t4) Try.underlying4 (by kernel_rfl) (by kernel_rfl) (by kernel_rfl) (by kernel_rfl)
structure Ent where
  key : Int
  val : Int
  deriving DecidableEq
abbrev Ent.v (x : Ent) : Value := .agg #[.int .i64 x.key, .int .i64 x.val]
def EntT : Ty Ent := ⟨45, 2, 16, true, Ent.v, ⟨0, 0⟩⟩
theorem EntT_ok : EntT.Ok Try.prog := ok_of EntT _ Try.t45 (by decide) (fun _ => rfl) (fun x u hu => by simp [Ty.enc, EntT, Value.cells] at hu; rcases hu with rfl | rfl <;> rfl) (fun _ => rfl) Try.underlying45 rfl (fun h => by cases h) (by kernel_rfl) (by kernel_rfl) (by kernel_rfl) (by kernel_rfl)
theorem eqEntT (x y : Ent) (w : World) : (binOp .eql 45 x.v y.v).run Try.prog w = .ok (.bool (decide (x = y))) w ∧ (binOp .neq 45 x.v y.v).run Try.prog w = .ok (.bool (!decide (x = y))) w := by
  have h := J.run_eqS (P := Try.prog) (t := 45) [0, 0] (by kernel_rfl) (by kernel_rfl) #[.int .i64 x.key, .int .i64 x.val] #[.int .i64 y.key, .int .i64 y.val] rfl rfl w
  have e : J.cellsEq [.int .i64 x.key, .int .i64 x.val] [.int .i64 y.key, .int .i64 y.val] = decide (x = y) := by
    cases x; cases y; rw [Bool.eq_iff_iff]; simp [J.cellsEq, J.cellEq]
  rw [e] at h
  exact h
theorem decEntT (cs : List Value) (h : fitsL [0, 0] cs = true) : ∃ x, EntT.enc x = cs := by
  have hl := fitsL_len h
  match cs, hl, h with
  | [c0, c1], _, h =>
    simp only [fitsL, Bool.and_eq_true] at h
    obtain ⟨c0, rfl⟩ := fit_int h.1
    obtain ⟨c1, rfl⟩ := fit_int h.2.1
    exact ⟨⟨c0, c1⟩, rfl⟩
structure Sv where
  p : Option Addr
  len : Nat
  cap : Nat
abbrev Sv.v (s : Sv) : Value := .slice s.p s.len s.cap
/-- An object: its cells, and what the slices hold. -/
structure Ob where
  id : Int
  size : Int
  weak : Int
  rv : Sv
  ev : Sv
  refs : List Int
  ents : List Ent
abbrev Ob.v (x : Ob) : Value := .agg #[.int .i64 x.id, .int .i64 x.size, .int .i64 x.weak, x.rv.v, x.ev.v]
def ObT : Ty Ob := ⟨42, 5, 72, true, Ob.v, ⟨0, 0, 0, ⟨none, 0, 0⟩, ⟨none, 0, 0⟩, [], []⟩⟩
theorem ObT_ok : ObT.Ok Try.prog := ok_of ObT _ Try.t42 (by decide) (fun _ => rfl) (fun x u hu => by simp [Ty.enc, ObT, Value.cells] at hu; rcases hu with rfl | rfl | rfl | rfl | rfl <;> rfl) (fun _ => rfl) Try.underlying42 rfl (fun h => by cases h) (by kernel_rfl) (by kernel_rfl) (by kernel_rfl) (by kernel_rfl)
def KnO (Z : Zone) (x : Ob) : Prop := Kn Z iTy x.rv.v x.refs ∧ Kn Z EntT x.ev.v x.ents
/-- A graph that the zone knows. -/
structure KnG (Z : Zone) (ov rv : Value) (l : List Ob) (R : List Int) : Prop where
  obs : Kn Z ObT ov l
  roots : Kn Z iTy rv R
  each : ∀ x ∈ l, KnO Z x
theorem KnG.up {Z : Zone} {As : List Asr} {H : Heap} {ov rv : Value} {l : List Ob} {R : List Int} (k : KnG Z ov rv l R) (h : Holds Z As H) : KnG (zoneOf H) ov rv l R :=
  ⟨k.obs.up h, k.roots.up h, fun x hx => ⟨(k.each x hx).1.up h, (k.each x hx).2.up h⟩⟩
/-- A graph in a memory. -/
def GrA (ov rv : Value) (l : List Ob) (R : List Int) (H : Heap) : Prop := Sl H ObT ov l ∧ Sl H iTy rv R ∧ ∀ x ∈ l, Sl H iTy x.rv.v x.refs ∧ Sl H EntT x.ev.v x.ents
theorem GrA.kn {ov rv : Value} {l : List Ob} {R : List Int} {H : Heap} (h : GrA ov rv l R H) : KnG (zoneOf H) ov rv l R := ⟨.of h.1, .of h.2.1, fun x hx => ⟨.of (h.2.2 x hx).1, .of (h.2.2 x hx).2⟩⟩
/-- What objects are, apart from where they lie. -/
abbrev Ob.c (x : Ob) : Int × Int × Int × List Int × List Ent := (x.id, x.size, x.weak, x.refs, x.ents)
abbrev iV (n : Int) : Value := .int .i64 n
theorem intOk {β : Type} : KTy.Ok (β := β) (Go.Mem.intK 3) Try.prog := Go.Mem.intK_ok Try.underlying3
end Go.Proofs.Ytjdlkemmcnncaaa
