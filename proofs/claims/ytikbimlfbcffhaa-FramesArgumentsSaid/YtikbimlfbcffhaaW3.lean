/-
  Fit; frame, mirror, num; equality of lists.
-/
import Derived.Test.YtikbimlfbcffhaaW2
set_option linter.unusedSimpArgs false
set_option linter.unusedVariables false
set_option maxRecDepth 100000
namespace Go.Proofs.Ytikbimlfbcffhaa
open Go.Hp Go.J
open Go.Mem (Ty KTy blk elemAt pre suf blk_pre blk_suf aget aset strK)

theorem frame_ok (x : Opn) (H : Heap) : HC Try.prog 24 #[x.v] H fun v H' => v = x.fr.v ∧ Chg (fun _ => False) H H' := by
  refine enter Try.func24 rfl 16 rfl rfl [(0, .agg #[.int .i64 x.kind, .int .i64 x.n, .string x.name, .int .i64 x.line, .int .i64 x.base, .int .i64 x.extra, .int .i64 x.want, .bool x.tail])] rfl (fun w0 => ?_)
  have hT : Chg (fun _ => False) H H := Chg.refl _ _
  refine c_seq ?_
  refine c_reg ?_
  refine l_box rfl (.agg #[.int .i64 x.kind, .int .i64 x.n, .string x.name, .int .i64 x.line, .int .i64 x.base, .int .i64 x.extra, .int .i64 x.want, .bool x.tail]) #[.int .i64 x.kind, .int .i64 x.n, .string x.name, .int .i64 x.line, .int .i64 x.base, .int .i64 x.extra, .int .i64 x.want, .bool x.tail] rfl rfl rfl (fun g2 H3 n4 => ?_)
  have e5 := n4.at_; have e6 := n4.size
  replace hT := hT.trans' (n4.chg fun _ => False) (fun _ h _ => h.elim)
  have B1 := n4.is
  refine l_alloc rfl (.agg #[.string ByteArray.empty, .int .i64 0, .int .i64 0, .int .i64 0, .int .i64 0, .bool false]) #[.string ByteArray.empty, .int .i64 0, .int .i64 0, .int .i64 0, .int .i64 0, .bool false] rfl (fun _ => by kernel_rfl) rfl (fun g8 H9 n10 => ?_)
  have e11 := n10.at_; have e12 := n10.size
  replace B1 := (n10.chg fun _ => False).get B1 (fun h => h)
  replace hT := hT.trans' (n10.chg fun _ => False) (fun _ h _ => h.elim)
  have B7 := n10.is
  refine l_nil ?_
  refine x_then ?_
  refine c_seq ?_
  refine c_reg ?_
  refine l_pure (.pointer (some ⟨g2, 2, none⟩)) rfl (fun _ => rfl) ?_
  refine l_loadC rfl g2 2 #[.int .i64 x.kind, .int .i64 x.n, .string x.name, .int .i64 x.line, .int .i64 x.base, .int .i64 x.extra, .int .i64 x.want, .bool x.tail] _ _ (.string x.name) rfl rfl (by kernel_rfl) B1 rfl ?_
  refine l_pure (.pointer (some ⟨g2, 3, none⟩)) rfl (fun _ => rfl) ?_
  refine l_loadC rfl g2 3 #[.int .i64 x.kind, .int .i64 x.n, .string x.name, .int .i64 x.line, .int .i64 x.base, .int .i64 x.extra, .int .i64 x.want, .bool x.tail] _ _ (.int .i64 x.line) rfl rfl (by kernel_rfl) B1 rfl ?_
  refine l_pure (.pointer (some ⟨g2, 4, none⟩)) rfl (fun _ => rfl) ?_
  refine l_loadC rfl g2 4 #[.int .i64 x.kind, .int .i64 x.n, .string x.name, .int .i64 x.line, .int .i64 x.base, .int .i64 x.extra, .int .i64 x.want, .bool x.tail] _ _ (.int .i64 x.base) rfl rfl (by kernel_rfl) B1 rfl ?_
  refine l_pure (.pointer (some ⟨g2, 5, none⟩)) rfl (fun _ => rfl) ?_
  refine l_loadC rfl g2 5 #[.int .i64 x.kind, .int .i64 x.n, .string x.name, .int .i64 x.line, .int .i64 x.base, .int .i64 x.extra, .int .i64 x.want, .bool x.tail] _ _ (.int .i64 x.extra) rfl rfl (by kernel_rfl) B1 rfl ?_
  refine l_pure (.pointer (some ⟨g2, 6, none⟩)) rfl (fun _ => rfl) ?_
  refine l_loadC rfl g2 6 #[.int .i64 x.kind, .int .i64 x.n, .string x.name, .int .i64 x.line, .int .i64 x.base, .int .i64 x.extra, .int .i64 x.want, .bool x.tail] _ _ (.int .i64 x.want) rfl rfl (by kernel_rfl) B1 rfl ?_
  refine l_pure (.pointer (some ⟨g2, 7, none⟩)) rfl (fun _ => rfl) ?_
  refine l_loadC rfl g2 7 #[.int .i64 x.kind, .int .i64 x.n, .string x.name, .int .i64 x.line, .int .i64 x.base, .int .i64 x.extra, .int .i64 x.want, .bool x.tail] _ _ (.bool x.tail) rfl rfl (by kernel_rfl) B1 rfl ?_
  refine l_pure (.agg #[.string x.name, .int .i64 x.line, .int .i64 x.base, .int .i64 x.extra, .int .i64 x.want, .bool x.tail]) rfl (fun _ => by kernel_rfl) ?_
  refine l_store rfl g8 0 6 #[.string ByteArray.empty, .int .i64 0, .int .i64 0, .int .i64 0, .int .i64 0, .bool false] #[.string x.name, .int .i64 x.line, .int .i64 x.base, .int .i64 x.extra, .int .i64 x.want, .bool x.tail] _ (.agg #[.string x.name, .int .i64 x.line, .int .i64 x.base, .int .i64 x.extra, .int .i64 x.want, .bool x.tail]) rfl rfl rfl (by kernel_rfl) B7 rfl rfl rfl rfl (fun H13 q14 => ?_)
  have e15 := q14.size
  replace B1 := q14.chg.get B1 (fun e => by omega)
  replace hT := hT.trans' q14.chg (fun i (e : i = g8) hl => by exfalso; omega)
  have B16 := q14.is
  refine l_nil ?_
  refine x_then ?_
  refine c_ret ?_
  refine x_fin (.agg #[.string x.name, .int .i64 x.line, .int .i64 x.base, .int .i64 x.extra, .int .i64 x.want, .bool x.tail]) (res_of (vs := [.agg #[.string x.name, .int .i64 x.line, .int .i64 x.base, .int .i64 x.extra, .int .i64 x.want, .bool x.tail]]) rfl (.cons (.cell _ _ (.agg #[.string x.name, .int .i64 x.line, .int .i64 x.base, .int .i64 x.extra, .int .i64 x.want, .bool x.tail]) _ rfl rfl (fun w hw => run_loadX (by kernel_rfl) hw B16 _ rfl rfl)) .nil)) ?_
  exact ⟨rfl, hT⟩
theorem mirror_ok (x : Opn) (H : Heap) : HC Try.prog 30 #[x.v] H fun v H' => v = x.fr.v ∧ Chg (fun _ => False) H H' := by
  refine enter Try.func30 rfl 16 rfl rfl [(0, .agg #[.int .i64 x.kind, .int .i64 x.n, .string x.name, .int .i64 x.line, .int .i64 x.base, .int .i64 x.extra, .int .i64 x.want, .bool x.tail])] rfl (fun w0 => ?_)
  have hT : Chg (fun _ => False) H H := Chg.refl _ _
  refine c_seq ?_
  refine c_reg ?_
  refine l_box rfl (.agg #[.int .i64 x.kind, .int .i64 x.n, .string x.name, .int .i64 x.line, .int .i64 x.base, .int .i64 x.extra, .int .i64 x.want, .bool x.tail]) #[.int .i64 x.kind, .int .i64 x.n, .string x.name, .int .i64 x.line, .int .i64 x.base, .int .i64 x.extra, .int .i64 x.want, .bool x.tail] rfl rfl rfl (fun g2 H3 n4 => ?_)
  have e5 := n4.at_; have e6 := n4.size
  replace hT := hT.trans' (n4.chg fun _ => False) (fun _ h _ => h.elim)
  have B1 := n4.is
  refine l_alloc rfl (.agg #[.string ByteArray.empty, .int .i64 0, .int .i64 0, .int .i64 0, .int .i64 0, .bool false]) #[.string ByteArray.empty, .int .i64 0, .int .i64 0, .int .i64 0, .int .i64 0, .bool false] rfl (fun _ => by kernel_rfl) rfl (fun g8 H9 n10 => ?_)
  have e11 := n10.at_; have e12 := n10.size
  replace B1 := (n10.chg fun _ => False).get B1 (fun h => h)
  replace hT := hT.trans' (n10.chg fun _ => False) (fun _ h _ => h.elim)
  have B7 := n10.is
  refine l_nil ?_
  refine x_then ?_
  refine c_seq ?_
  refine c_reg ?_
  refine l_pure (.pointer (some ⟨g2, 2, none⟩)) rfl (fun _ => rfl) ?_
  refine l_loadC rfl g2 2 #[.int .i64 x.kind, .int .i64 x.n, .string x.name, .int .i64 x.line, .int .i64 x.base, .int .i64 x.extra, .int .i64 x.want, .bool x.tail] _ _ (.string x.name) rfl rfl (by kernel_rfl) B1 rfl ?_
  refine l_pure (.pointer (some ⟨g2, 3, none⟩)) rfl (fun _ => rfl) ?_
  refine l_loadC rfl g2 3 #[.int .i64 x.kind, .int .i64 x.n, .string x.name, .int .i64 x.line, .int .i64 x.base, .int .i64 x.extra, .int .i64 x.want, .bool x.tail] _ _ (.int .i64 x.line) rfl rfl (by kernel_rfl) B1 rfl ?_
  refine l_pure (.pointer (some ⟨g2, 4, none⟩)) rfl (fun _ => rfl) ?_
  refine l_loadC rfl g2 4 #[.int .i64 x.kind, .int .i64 x.n, .string x.name, .int .i64 x.line, .int .i64 x.base, .int .i64 x.extra, .int .i64 x.want, .bool x.tail] _ _ (.int .i64 x.base) rfl rfl (by kernel_rfl) B1 rfl ?_
  refine l_pure (.pointer (some ⟨g2, 5, none⟩)) rfl (fun _ => rfl) ?_
  refine l_loadC rfl g2 5 #[.int .i64 x.kind, .int .i64 x.n, .string x.name, .int .i64 x.line, .int .i64 x.base, .int .i64 x.extra, .int .i64 x.want, .bool x.tail] _ _ (.int .i64 x.extra) rfl rfl (by kernel_rfl) B1 rfl ?_
  refine l_pure (.pointer (some ⟨g2, 6, none⟩)) rfl (fun _ => rfl) ?_
  refine l_loadC rfl g2 6 #[.int .i64 x.kind, .int .i64 x.n, .string x.name, .int .i64 x.line, .int .i64 x.base, .int .i64 x.extra, .int .i64 x.want, .bool x.tail] _ _ (.int .i64 x.want) rfl rfl (by kernel_rfl) B1 rfl ?_
  refine l_pure (.pointer (some ⟨g2, 7, none⟩)) rfl (fun _ => rfl) ?_
  refine l_loadC rfl g2 7 #[.int .i64 x.kind, .int .i64 x.n, .string x.name, .int .i64 x.line, .int .i64 x.base, .int .i64 x.extra, .int .i64 x.want, .bool x.tail] _ _ (.bool x.tail) rfl rfl (by kernel_rfl) B1 rfl ?_
  refine l_pure (.agg #[.string x.name, .int .i64 x.line, .int .i64 x.base, .int .i64 x.extra, .int .i64 x.want, .bool x.tail]) rfl (fun _ => by kernel_rfl) ?_
  refine l_store rfl g8 0 6 #[.string ByteArray.empty, .int .i64 0, .int .i64 0, .int .i64 0, .int .i64 0, .bool false] #[.string x.name, .int .i64 x.line, .int .i64 x.base, .int .i64 x.extra, .int .i64 x.want, .bool x.tail] _ (.agg #[.string x.name, .int .i64 x.line, .int .i64 x.base, .int .i64 x.extra, .int .i64 x.want, .bool x.tail]) rfl rfl rfl (by kernel_rfl) B7 rfl rfl rfl rfl (fun H13 q14 => ?_)
  have e15 := q14.size
  replace B1 := q14.chg.get B1 (fun e => by omega)
  replace hT := hT.trans' q14.chg (fun i (e : i = g8) hl => by exfalso; omega)
  have B16 := q14.is
  refine l_nil ?_
  refine x_then ?_
  refine c_ret ?_
  refine x_fin (.agg #[.string x.name, .int .i64 x.line, .int .i64 x.base, .int .i64 x.extra, .int .i64 x.want, .bool x.tail]) (res_of (vs := [.agg #[.string x.name, .int .i64 x.line, .int .i64 x.base, .int .i64 x.extra, .int .i64 x.want, .bool x.tail]]) rfl (.cons (.cell _ _ (.agg #[.string x.name, .int .i64 x.line, .int .i64 x.base, .int .i64 x.extra, .int .i64 x.want, .bool x.tail]) _ rfl rfl (fun w hw => run_loadX (by kernel_rfl) hw B16 _ rfl rfl)) .nil)) ?_
  exact ⟨rfl, hT⟩
theorem num_ok (n : Int) (H : Heap) : HC Try.prog 28 #[.int .i64 n] H fun v H' => v = (numV n).v ∧ Chg (fun _ => False) H H' := by
  refine enter Try.func28 rfl 6 rfl rfl [(0, .int .i64 n)] rfl (fun w0 => ?_)
  have hT : Chg (fun _ => False) H H := Chg.refl _ _
  refine c_seq ?_
  refine c_reg ?_
  refine l_alloc rfl (.agg #[.int .i64 0, .int .i64 0, .int .i64 0, .string ByteArray.empty, .int .i64 0]) #[.int .i64 0, .int .i64 0, .int .i64 0, .string ByteArray.empty, .int .i64 0] rfl (fun _ => by kernel_rfl) rfl (fun g2 H3 n4 => ?_)
  have e5 := n4.at_; have e6 := n4.size
  replace hT := hT.trans' (n4.chg fun _ => False) (fun _ h _ => h.elim)
  have B1 := n4.is
  refine l_nil ?_
  refine x_then ?_
  refine c_seq ?_
  refine c_reg ?_
  refine l_pure (.int .i64 n) rfl (fun _ => rfl) ?_
  refine l_pure (.agg #[.int .i64 n, .int .i64 1]) rfl (fun _ => by kernel_rfl) ?_
  refine l_pure (.agg #[.int .i64 2, .int .i64 n, .int .i64 1, .string ByteArray.empty, .int .i64 0]) rfl (fun _ => by kernel_rfl) ?_
  refine l_store rfl g2 0 5 #[.int .i64 0, .int .i64 0, .int .i64 0, .string ByteArray.empty, .int .i64 0] #[.int .i64 2, .int .i64 n, .int .i64 1, .string ByteArray.empty, .int .i64 0] _ (.agg #[.int .i64 2, .int .i64 n, .int .i64 1, .string ByteArray.empty, .int .i64 0]) rfl rfl rfl (by kernel_rfl) B1 rfl rfl rfl rfl (fun H7 q8 => ?_)
  have e9 := q8.size
  replace hT := hT.trans' q8.chg (fun i (e : i = g2) hl => by exfalso; omega)
  have B10 := q8.is
  refine l_nil ?_
  refine x_then ?_
  refine c_ret ?_
  refine x_fin (.agg #[.int .i64 2, .int .i64 n, .int .i64 1, .string ByteArray.empty, .int .i64 0]) (res_of (vs := [.agg #[.int .i64 2, .int .i64 n, .int .i64 1, .string ByteArray.empty, .int .i64 0]]) rfl (.cons (.cell _ _ (.agg #[.int .i64 2, .int .i64 n, .int .i64 1, .string ByteArray.empty, .int .i64 0]) _ rfl rfl (fun w hw => run_loadX (by kernel_rfl) hw B10 _ rfl rfl)) .nil)) ?_
  exact ⟨rfl, hT⟩
theorem values_ok (H : Heap) (va vb : Value) (A B : List Vl) (hA : Sl H VlT va A) (hB : Sl H VlT vb B) : HC Try.prog 18 #[va, vb] H fun v H' => v = .bool (decide (A = B)) ∧ Chg (fun _ => False) H H' := by
  have lA := hA.len_le; have lB := hB.len_le
  have sA : ∀ k, blk va = some k → k < H.size := fun k hk => hA.lt hk
  have sB : ∀ k, blk vb = some k → k < H.size := fun k hk => hB.lt hk
  refine enter Try.func18 rfl 26 rfl rfl [(0, va), (1, vb)] rfl (fun w0 => ?_)
  have hT : Chg (fun _ => False) H H := Chg.refl _ _
  refine c_seq ?_
  refine c_reg ?_
  refine l_pure (.bool false) rfl (fun _ => rfl) ?_
  refine l_nil ?_
  refine x_then ?_
  refine c_seq ?_
  refine c_seq ?_
  refine c_reg ?_
  refine l_pure va rfl (fun _ => rfl) ?_
  refine l_len rfl VlT_ok Try.underlying36 rfl rfl hA ?_
  refine l_pure vb rfl (fun _ => rfl) ?_
  refine l_len rfl VlT_ok Try.underlying36 rfl rfl hB ?_
  refine l_cmp rfl .i64 (A.length : Int) (B.length : Int) (decide ((A.length : Int) ≠ (B.length : Int))) rfl rfl rfl rfl ?_
  refine l_nil ?_
  refine x_then ?_
  refine c_cond (c := (decide ((A.length : Int) ≠ (B.length : Int)))) rfl rfl (fun c1 => ?_) (fun c1 => ?_)
  · have p2 := of_decide_eq_true c1
    first
    | (exfalso; omega)
    | (refine c_seq ?_
       refine c_reg ?_
       refine l_pure (.bool false) rfl (fun _ => rfl) ?_
       refine l_nil ?_
       refine x_then ?_
       refine c_ret ?_
       refine x_ret ?_
       refine x_fin (.bool false) (res_of (vs := [.bool false]) rfl (.cons (.tmp _ (.bool false) rfl rfl) .nil)) ?_
       exact ⟨congrArg Value.bool (decide_eq_false (fun e => by subst e; omega)).symm, hT⟩)
  · have p3 := of_decide_eq_false c1
    first
    | (exfalso; omega)
    | (refine c_skip ?_
       refine x_then ?_
       refine c_seq ?_
       refine c_seq ?_
       refine c_reg ?_
       refine l_pure (.int .i64 0) rfl (fun _ => rfl) ?_
       refine l_nil ?_
       refine x_then ?_
       refine c_block ?_
       refine c_loop (ι := Nat) (fun i => [(0, va), (1, vb), (4, .bool false), (5, .int .i64 (i : Int))]) (fun i Hh => i ≤ A.length ∧ A.take i = B.take i ∧ Chg (fun _ => False) H Hh) (fun i => A.length - i) 0 (sub_of rfl ⟨⟨rfl, rfl⟩, ⟨⟨rfl, rfl⟩, ⟨⟨rfl, rfl⟩, ⟨⟨rfl, rfl⟩, trivial⟩⟩⟩⟩) ⟨by omega, rfl, hT⟩ ?_
       rintro i H4 ⟨h1, h2, hC⟩
       replace hA := hA.chg hC (fun _ _ h => h)
       replace hB := hB.chg hC (fun _ _ h => h)
       replace hT := hC
       show JC _ _ _ _ _ [(0, va), (1, vb), (4, .bool false), (5, .int .i64 (i : Int))] _
       refine c_seq ?_
       refine c_seq ?_
       refine c_reg ?_
       refine l_pure (.int .i64 (i : Int)) rfl (fun _ => rfl) ?_
       refine l_pure va rfl (fun _ => rfl) ?_
       refine l_len rfl VlT_ok Try.underlying36 rfl rfl hA ?_
       refine l_cmp rfl .i64 (i : Int) (A.length : Int) (decide ((i : Int) < (A.length : Int))) rfl rfl rfl rfl ?_
       refine l_nil ?_
       refine x_then ?_
       refine c_cond (c := (decide ((i : Int) < (A.length : Int)))) rfl rfl (fun c5 => ?_) (fun c5 => ?_)
       · have p6 := of_decide_eq_true c5
         first
         | (exfalso; omega)
         | (refine c_skip ?_
            refine x_then ?_
            refine c_seq ?_
            refine c_block ?_
            refine c_seq ?_
            refine c_draw Try.mixed (by kernel_rfl) ?_
            refine l_pure va rfl (fun _ => rfl) ?_
            refine l_pure (.int .i64 (i : Int)) rfl (fun _ => rfl) ?_
            refine l_index rfl VlT_ok Try.underlying36 .i64 (i : Int) rfl rfl rfl hA (by omega) (by omega) i (by omega) ?_
            obtain ⟨y7, hy8⟩ : ∃ y, A[i]? = some y := ⟨_, List.getElem?_eq_getElem (by omega)⟩
            refine l_loadE rfl VlT_ok rfl va i y7 (.agg #[.int .i64 y7.kind, .int .i64 y7.p, .int .i64 y7.q, .string y7.str, .int .i64 y7.ref]) A rfl rfl hA hy8 rfl ?_
            refine l_pure vb rfl (fun _ => rfl) ?_
            refine l_pure (.int .i64 (i : Int)) rfl (fun _ => rfl) ?_
            refine l_index rfl VlT_ok Try.underlying36 .i64 (i : Int) rfl rfl rfl hB (by omega) (by omega) i (by omega) ?_
            obtain ⟨y9, hy10⟩ : ∃ y, B[i]? = some y := ⟨_, List.getElem?_eq_getElem (by omega)⟩
            refine l_loadE rfl VlT_ok rfl vb i y9 (.agg #[.int .i64 y9.kind, .int .i64 y9.p, .int .i64 y9.q, .string y9.str, .int .i64 y9.ref]) B rfl rfl hB hy10 rfl ?_
            refine l_eqS rfl #[.int .i64 y7.kind, .int .i64 y7.p, .int .i64 y7.q, .string y7.str, .int .i64 y7.ref] #[.int .i64 y9.kind, .int .i64 y9.p, .int .i64 y9.q, .string y9.str, .int .i64 y9.ref] (!decide (y7 = y9)) rfl rfl rfl (by kernel_rfl) (fun w => (eqVl y7 y9 w).2) ?_
            refine l_nil ?_
            refine x_dyn (by kernel_rfl) ?_
            refine x_then ?_
            refine c_cond (c := (!decide (y7 = y9))) rfl rfl (fun c11 => ?_) (fun c11 => ?_)
            · have p12 := c11
              refine c_seq ?_
              refine c_reg ?_
              refine l_pure (.bool false) rfl (fun _ => rfl) ?_
              refine l_nil ?_
              refine x_then ?_
              refine c_ret ?_
              refine x_retBlock ?_
              refine x_ret ?_
              refine x_ret ?_
              refine x_retBlock ?_
              refine x_ret ?_
              refine x_fin (.bool false) (res_of (vs := [.bool false]) rfl (.cons (.tmp _ (.bool false) rfl rfl) .nil)) ?_
              refine ⟨congrArg Value.bool (decide_eq_false (fun e => ?_)).symm, hT⟩
              subst e; rw [hy8] at hy10; have := Option.some.inj hy10; simp [this] at p12
            · have p13 := c11
              refine c_skip ?_
              refine x_block ?_
              refine x_then ?_
              refine c_reg ?_
              refine l_pure (.int .i64 (i : Int)) rfl (fun _ => rfl) ?_
              refine l_add rfl (i : Int) 1 rfl rfl rfl (by omega) ?_
              refine l_pure (.int .i64 ((i : Int) + 1)) rfl (fun _ => rfl) ?_
              refine l_nil ?_
              have hyz : y7 = y9 := by simpa using p13
              have e1 : A.take (i + 1) = B.take (i + 1) := by rw [List.take_add_one, List.take_add_one, hy8, hy10, h2, hyz]
              exact x_round (i + 1) (by show A.length - (i + 1) < A.length - i; omega) (sub_of rfl ⟨⟨rfl, rfl⟩, ⟨⟨rfl, rfl⟩, ⟨⟨rfl, rfl⟩, ⟨⟨rfl, rfl⟩, trivial⟩⟩⟩⟩) ⟨by omega, e1, hT⟩)
       · have p14 := of_decide_eq_false c5
         first
         | (exfalso; omega)
         | (refine c_exit ?_
            refine x_exit ?_
            refine x_exit ?_
            refine x_here ?_
            refine x_then ?_
            refine c_seq ?_
            refine c_reg ?_
            refine l_pure (.bool true) rfl (fun _ => rfl) ?_
            refine l_nil ?_
            refine x_then ?_
            refine c_ret ?_
            refine x_fin (.bool true) (res_of (vs := [.bool true]) rfl (.cons (.tmp _ (.bool true) rfl rfl) .nil)) ?_
            have hE : A = B := by rw [← List.take_length (l := A), ← List.take_length (l := B), show A.length = i by omega, h2]; congr 1; omega
            exact ⟨congrArg Value.bool (decide_eq_true hE).symm, hT⟩))
theorem places_ok (H : Heap) (va vb : Value) (A B : List Pl) (hA : Sl H PlT va A) (hB : Sl H PlT vb B) : HC Try.prog 15 #[va, vb] H fun v H' => v = .bool (decide (A = B)) ∧ Chg (fun _ => False) H H' := by
  have lA := hA.len_le; have lB := hB.len_le
  have sA : ∀ k, blk va = some k → k < H.size := fun k hk => hA.lt hk
  have sB : ∀ k, blk vb = some k → k < H.size := fun k hk => hB.lt hk
  refine enter Try.func15 rfl 26 rfl rfl [(0, va), (1, vb)] rfl (fun w0 => ?_)
  have hT : Chg (fun _ => False) H H := Chg.refl _ _
  refine c_seq ?_
  refine c_reg ?_
  refine l_pure (.bool false) rfl (fun _ => rfl) ?_
  refine l_nil ?_
  refine x_then ?_
  refine c_seq ?_
  refine c_seq ?_
  refine c_reg ?_
  refine l_pure va rfl (fun _ => rfl) ?_
  refine l_len rfl PlT_ok Try.underlying33 rfl rfl hA ?_
  refine l_pure vb rfl (fun _ => rfl) ?_
  refine l_len rfl PlT_ok Try.underlying33 rfl rfl hB ?_
  refine l_cmp rfl .i64 (A.length : Int) (B.length : Int) (decide ((A.length : Int) ≠ (B.length : Int))) rfl rfl rfl rfl ?_
  refine l_nil ?_
  refine x_then ?_
  refine c_cond (c := (decide ((A.length : Int) ≠ (B.length : Int)))) rfl rfl (fun c1 => ?_) (fun c1 => ?_)
  · have p2 := of_decide_eq_true c1
    first
    | (exfalso; omega)
    | (refine c_seq ?_
       refine c_reg ?_
       refine l_pure (.bool false) rfl (fun _ => rfl) ?_
       refine l_nil ?_
       refine x_then ?_
       refine c_ret ?_
       refine x_ret ?_
       refine x_fin (.bool false) (res_of (vs := [.bool false]) rfl (.cons (.tmp _ (.bool false) rfl rfl) .nil)) ?_
       exact ⟨congrArg Value.bool (decide_eq_false (fun e => by subst e; omega)).symm, hT⟩)
  · have p3 := of_decide_eq_false c1
    first
    | (exfalso; omega)
    | (refine c_skip ?_
       refine x_then ?_
       refine c_seq ?_
       refine c_seq ?_
       refine c_reg ?_
       refine l_pure (.int .i64 0) rfl (fun _ => rfl) ?_
       refine l_nil ?_
       refine x_then ?_
       refine c_block ?_
       refine c_loop (ι := Nat) (fun i => [(0, va), (1, vb), (4, .bool false), (5, .int .i64 (i : Int))]) (fun i Hh => i ≤ A.length ∧ A.take i = B.take i ∧ Chg (fun _ => False) H Hh) (fun i => A.length - i) 0 (sub_of rfl ⟨⟨rfl, rfl⟩, ⟨⟨rfl, rfl⟩, ⟨⟨rfl, rfl⟩, ⟨⟨rfl, rfl⟩, trivial⟩⟩⟩⟩) ⟨by omega, rfl, hT⟩ ?_
       rintro i H4 ⟨h1, h2, hC⟩
       replace hA := hA.chg hC (fun _ _ h => h)
       replace hB := hB.chg hC (fun _ _ h => h)
       replace hT := hC
       show JC _ _ _ _ _ [(0, va), (1, vb), (4, .bool false), (5, .int .i64 (i : Int))] _
       refine c_seq ?_
       refine c_seq ?_
       refine c_reg ?_
       refine l_pure (.int .i64 (i : Int)) rfl (fun _ => rfl) ?_
       refine l_pure va rfl (fun _ => rfl) ?_
       refine l_len rfl PlT_ok Try.underlying33 rfl rfl hA ?_
       refine l_cmp rfl .i64 (i : Int) (A.length : Int) (decide ((i : Int) < (A.length : Int))) rfl rfl rfl rfl ?_
       refine l_nil ?_
       refine x_then ?_
       refine c_cond (c := (decide ((i : Int) < (A.length : Int)))) rfl rfl (fun c5 => ?_) (fun c5 => ?_)
       · have p6 := of_decide_eq_true c5
         first
         | (exfalso; omega)
         | (refine c_skip ?_
            refine x_then ?_
            refine c_seq ?_
            refine c_block ?_
            refine c_seq ?_
            refine c_draw Try.mixed (by kernel_rfl) ?_
            refine l_pure va rfl (fun _ => rfl) ?_
            refine l_pure (.int .i64 (i : Int)) rfl (fun _ => rfl) ?_
            refine l_index rfl PlT_ok Try.underlying33 .i64 (i : Int) rfl rfl rfl hA (by omega) (by omega) i (by omega) ?_
            obtain ⟨y7, hy8⟩ : ∃ y, A[i]? = some y := ⟨_, List.getElem?_eq_getElem (by omega)⟩
            refine l_loadE rfl PlT_ok rfl va i y7 (.agg #[.string y7.name, .int .i64 y7.line, .bool y7.tail]) A rfl rfl hA hy8 rfl ?_
            refine l_pure vb rfl (fun _ => rfl) ?_
            refine l_pure (.int .i64 (i : Int)) rfl (fun _ => rfl) ?_
            refine l_index rfl PlT_ok Try.underlying33 .i64 (i : Int) rfl rfl rfl hB (by omega) (by omega) i (by omega) ?_
            obtain ⟨y9, hy10⟩ : ∃ y, B[i]? = some y := ⟨_, List.getElem?_eq_getElem (by omega)⟩
            refine l_loadE rfl PlT_ok rfl vb i y9 (.agg #[.string y9.name, .int .i64 y9.line, .bool y9.tail]) B rfl rfl hB hy10 rfl ?_
            refine l_eqS rfl #[.string y7.name, .int .i64 y7.line, .bool y7.tail] #[.string y9.name, .int .i64 y9.line, .bool y9.tail] (!decide (y7 = y9)) rfl rfl rfl (by kernel_rfl) (fun w => (eqPl y7 y9 w).2) ?_
            refine l_nil ?_
            refine x_dyn (by kernel_rfl) ?_
            refine x_then ?_
            refine c_cond (c := (!decide (y7 = y9))) rfl rfl (fun c11 => ?_) (fun c11 => ?_)
            · have p12 := c11
              refine c_seq ?_
              refine c_reg ?_
              refine l_pure (.bool false) rfl (fun _ => rfl) ?_
              refine l_nil ?_
              refine x_then ?_
              refine c_ret ?_
              refine x_retBlock ?_
              refine x_ret ?_
              refine x_ret ?_
              refine x_retBlock ?_
              refine x_ret ?_
              refine x_fin (.bool false) (res_of (vs := [.bool false]) rfl (.cons (.tmp _ (.bool false) rfl rfl) .nil)) ?_
              refine ⟨congrArg Value.bool (decide_eq_false (fun e => ?_)).symm, hT⟩
              subst e; rw [hy8] at hy10; have := Option.some.inj hy10; simp [this] at p12
            · have p13 := c11
              refine c_skip ?_
              refine x_block ?_
              refine x_then ?_
              refine c_reg ?_
              refine l_pure (.int .i64 (i : Int)) rfl (fun _ => rfl) ?_
              refine l_add rfl (i : Int) 1 rfl rfl rfl (by omega) ?_
              refine l_pure (.int .i64 ((i : Int) + 1)) rfl (fun _ => rfl) ?_
              refine l_nil ?_
              have hyz : y7 = y9 := by simpa using p13
              have e1 : A.take (i + 1) = B.take (i + 1) := by rw [List.take_add_one, List.take_add_one, hy8, hy10, h2, hyz]
              exact x_round (i + 1) (by show A.length - (i + 1) < A.length - i; omega) (sub_of rfl ⟨⟨rfl, rfl⟩, ⟨⟨rfl, rfl⟩, ⟨⟨rfl, rfl⟩, ⟨⟨rfl, rfl⟩, trivial⟩⟩⟩⟩) ⟨by omega, e1, hT⟩)
       · have p14 := of_decide_eq_false c5
         first
         | (exfalso; omega)
         | (refine c_exit ?_
            refine x_exit ?_
            refine x_exit ?_
            refine x_here ?_
            refine x_then ?_
            refine c_seq ?_
            refine c_reg ?_
            refine l_pure (.bool true) rfl (fun _ => rfl) ?_
            refine l_nil ?_
            refine x_then ?_
            refine c_ret ?_
            refine x_fin (.bool true) (res_of (vs := [.bool true]) rfl (.cons (.tmp _ (.bool true) rfl rfl) .nil)) ?_
            have hE : A = B := by rw [← List.take_length (l := A), ← List.take_length (l := B), show A.length = i by omega, h2]; congr 1; omega
            exact ⟨congrArg Value.bool (decide_eq_true hE).symm, hT⟩))
theorem fit_ok (H : Heap) (lv : Value) (l : List Vl) (n : Int) (hL : Sl H VlT lv l) (hl : l.length ≤ 1000) : HC Try.prog 19 #[lv, .int .i64 n] H fun v H' => Ow H' VlT v (fitL l n) ∧ Chg (fun _ => False) H H' ∧ ∀ k, blk v = some k → H.size ≤ k := by
  have hL0 := hL
  have sL : ∀ k, blk lv = some k → k < H.size := fun k hk => hL.lt hk
  refine enter Try.func19 rfl 17 rfl rfl [(0, lv), (1, .int .i64 n)] rfl (fun w0 => ?_)
  have hT : Chg (fun _ => False) H H := Chg.refl _ _
  refine c_seq ?_
  refine c_reg ?_
  refine l_pure (.slice none 0 0) rfl (fun _ => rfl) ?_
  refine l_nil ?_
  refine x_then ?_
  refine c_seq ?_
  refine c_seq ?_
  refine c_reg ?_
  refine l_pure (.int .i64 n) rfl (fun _ => rfl) ?_
  refine l_cmp rfl .i64 n 0 (decide (n < 0)) rfl rfl rfl rfl ?_
  refine l_nil ?_
  refine x_then ?_
  refine c_cond (c := (decide (n < 0))) rfl rfl (fun c1 => ?_) (fun c1 => ?_)
  · have p2 := of_decide_eq_true c1
    first
    | (exfalso; omega)
    | (refine c_seq ?_
       refine c_reg ?_
       refine l_pure lv rfl (fun _ => rfl) ?_
       refine l_append (v := (.slice none 0 0)) (L := []) rfl VlT_ok Try.underlying36 lv rfl rfl rfl (Ow.nil _ _) hL (by simp only [List.length_nil, List.length_cons, List.length_append, List.length_drop, List.length_take]; show _ * 48 ≤ _; omega) (by simp only [List.length_nil, List.length_cons, List.length_append, List.length_drop, List.length_take]; omega) (fun v3 H4 a5 => ?_)
       have e6 := a5.chg.size
       have a5c := a5.chg.mono (T := fun _ => False) (fun _ _ h => by simp [blk, Value.ownBlock] at h)
       replace hL := hL.chg a5c (fun _ _ h => h)
       replace hT := hT.trans' a5c (fun _ h _ => h.elim)
       have S7 := a5.ow
       have s8m := a5.moved
       have s8 : ∀ k, blk v3 = some k → k < H4.size := fun k hk => by
         have := S7.lt hk; rcases s8m k hk with h | h
         · simp [blk, Value.ownBlock] at h
         · omega
       refine l_pure v3 rfl (fun _ => rfl) ?_
       refine l_nil ?_
       refine x_then ?_
       refine c_ret ?_
       refine x_ret ?_
       refine x_fin v3 (res_of (vs := [v3]) rfl (.cons (.tmp _ v3 rfl rfl) .nil)) ?_
       have hE : ([] ++ l) = fitL l n := by rw [fitL, if_pos (show n < 0 by omega)]; rfl
       exact ⟨hE ▸ S7, hT, (fun k hk => (s8m k hk).elim (fun h => by first | (simp [blk, Value.ownBlock] at h; done) | (simp [blk, Value.ownBlock] at h; omega)) (fun h => by omega))⟩)
  · have p9 := of_decide_eq_false c1
    first
    | (exfalso; omega)
    | (refine c_skip ?_
       refine x_then ?_
       refine c_seq ?_
       refine c_reg ?_
       refine l_pure (.int .i64 n) rfl (fun _ => rfl) ?_
       refine l_min rfl .i64 n 200 rfl rfl rfl ?_
       refine l_make rfl VlT_ok Try.underlying36 .i64 .i64 (if 200 < n then 200 else n) rfl rfl rfl (by omega) (by show 48 * _ ≤ _; omega) (by omega) (fun g10 H11 v12 e17 S13 h14 h15 h16 => ?_)
       replace hL := hL.chg (h14 fun _ => False) (fun _ _ h => h)
       replace hT := hT.trans' (h14 fun _ => False) (fun _ h _ => h.elim)
       have s18 : ∀ k, blk v12 = some k → k = g10 := fun k hk => by rw [h15] at hk; exact (Option.some.inj hk).symm
       refine l_pure v12 rfl (fun _ => rfl) ?_
       refine l_nil ?_
       refine x_then ?_
       refine c_seq ?_
       refine c_reg ?_
       refine l_pure v12 rfl (fun _ => rfl) ?_
       refine l_pure lv rfl (fun _ => rfl) ?_
       refine l_copy (v := v12) (L := (List.replicate (((if 200 < n then 200 else n)).toNat) VlT.zero)) (M := l) rfl VlT_ok Try.underlying36 lv rfl rfl rfl S13 hL (fun H19 S20 k21 e22 => ?_)
       replace hL := hL.chg k21 (fun k hk e => by have := sL k hk; have := s18 k e; omega)
       replace hT := hT.trans' k21 (fun i e hl => by exfalso; have := s18 i e; omega)
       refine l_nil ?_
       refine x_then ?_
       refine c_seq ?_
       refine c_reg ?_
       refine l_pure v12 rfl (fun _ => rfl) ?_
       refine l_pure v12 rfl (fun _ => rfl) ?_
       refine l_nil ?_
       refine x_then ?_
       refine c_ret ?_
       refine x_fin v12 (res_of (vs := [v12]) rfl (.cons (.tmp _ v12 rfl rfl) .nil)) ?_
       have hE : (l.take (List.replicate (((if 200 < n then 200 else n)).toNat) VlT.zero).length ++ (List.replicate (((if 200 < n then 200 else n)).toNat) VlT.zero).drop l.length) = fitL l n := by rw [fit_copy, fitL, if_neg (show ¬ n < 0 by omega)]; rfl
       exact ⟨hE ▸ S20, hT, (fun k hk => by have := s18 k hk; omega)⟩)
theorem rfit_ok (H : Heap) (lv : Value) (l : List Vl) (n : Int) (hL : Sl H VlT lv l) (hl : l.length ≤ 1000) : HC Try.prog 20 #[lv, .int .i64 n] H fun v H' => Ow H' VlT v (fitL l n) ∧ Chg (fun _ => False) H H' ∧ ∀ k, blk v = some k → H.size ≤ k := by
  have hL0 := hL
  have sL : ∀ k, blk lv = some k → k < H.size := fun k hk => hL.lt hk
  refine enter Try.func20 rfl 36 rfl rfl [(0, lv), (1, .int .i64 n)] rfl (fun w0 => ?_)
  have hT : Chg (fun _ => False) H H := Chg.refl _ _
  refine c_seq ?_
  refine c_reg ?_
  refine l_pure (.slice none 0 0) rfl (fun _ => rfl) ?_
  refine l_nil ?_
  refine x_then ?_
  refine c_seq ?_
  refine c_reg ?_
  refine l_buildSlice rfl [] 54 #[] rfl rfl (by kernel_rfl) (fun g2 H3 n4 => ?_)
  have e5 := n4.at_; have e6 := n4.size
  replace hL := hL.chg (n4.chg fun _ => False) (fun _ _ h => h)
  replace hT := hT.trans' (n4.chg fun _ => False) (fun _ h _ => h.elim)
  have B1 := n4.is
  refine l_pure (.slice (some ⟨g2, 0, none⟩) 0 0) rfl (fun _ => rfl) ?_
  refine l_nil ?_
  refine x_then ?_
  refine c_seq ?_
  refine c_seq ?_
  refine c_reg ?_
  refine l_pure (.int .i64 n) rfl (fun _ => rfl) ?_
  refine l_cmp rfl .i64 n 0 (decide (n < 0)) rfl rfl rfl rfl ?_
  refine l_nil ?_
  refine x_then ?_
  refine c_cond (c := (decide (n < 0))) rfl rfl (fun c7 => ?_) (fun c7 => ?_)
  · have p8 := of_decide_eq_true c7
    first
    | (exfalso; omega)
    | (refine c_seq ?_
       refine c_reg ?_
       refine l_pure (.slice (some ⟨g2, 0, none⟩) 0 0) rfl (fun _ => rfl) ?_
       refine l_pure lv rfl (fun _ => rfl) ?_
       have s9 : ∀ k, blk (.slice (some ⟨g2, 0, none⟩) 0 0) = some k → k = g2 := fun k hk => (Option.some.inj hk).symm
       refine l_append (v := (.slice (some ⟨g2, 0, none⟩) 0 0)) (L := []) rfl VlT_ok Try.underlying36 lv rfl rfl rfl (Ow.lit VlT_ok [] B1 rfl rfl (by simp)) hL (by simp only [List.length_nil, List.length_cons, List.length_append, List.length_drop, List.length_take]; show _ * 48 ≤ _; omega) (by simp only [List.length_nil, List.length_cons, List.length_append, List.length_drop, List.length_take]; omega) (fun v10 H11 a12 => ?_)
       have e13 := a12.chg.size
       replace hL := hL.chg a12.chg (fun k hk e => by have := sL k hk; have := s9 k e; omega)
       replace hT := hT.trans' a12.chg (fun i e hl => by exfalso; have := s9 i e; omega)
       have S14 := a12.ow
       have s15m := a12.moved
       have s15 : ∀ k, blk v10 = some k → k < H11.size := fun k hk => by
         rcases s15m k hk with h | h
         · have := s9 k h; have := S14.lt hk; omega
         · have := S14.lt hk; omega
       refine l_pure v10 rfl (fun _ => rfl) ?_
       refine l_nil ?_
       refine x_then ?_
       refine c_ret ?_
       refine x_ret ?_
       refine x_fin v10 (res_of (vs := [v10]) rfl (.cons (.tmp _ v10 rfl rfl) .nil)) ?_
       have hE : ([] ++ l) = fitL l n := by rw [fitL, if_pos (show n < 0 by omega)]; rfl
       exact ⟨hE ▸ S14, hT, (fun k hk => (s15m k hk).elim (fun h => by first | (simp [blk, Value.ownBlock] at h; done) | (simp [blk, Value.ownBlock] at h; omega)) (fun h => by omega))⟩)
  · have p16 := of_decide_eq_false c7
    first
    | (exfalso; omega)
    | (refine c_skip ?_
       refine x_then ?_
       refine c_seq ?_
       refine c_reg ?_
       refine l_pure (.int .i64 n) rfl (fun _ => rfl) ?_
       refine l_min rfl .i64 n 200 rfl rfl rfl ?_
       refine l_pure (.int .i64 (if 200 < n then 200 else n)) rfl (fun _ => rfl) ?_
       refine l_nil ?_
       refine x_then ?_
       refine c_seq ?_
       refine c_seq ?_
       refine c_reg ?_
       refine l_pure (.int .i64 0) rfl (fun _ => rfl) ?_
       refine l_nil ?_
       refine x_then ?_
       refine c_block ?_
       have hc0 : (0 : Int) ≤ (if 200 < n then 200 else n) ∧ (if 200 < n then 200 else n) ≤ 200 := by split <;> omega
       refine c_loop (ι := Nat × Value) (fun (i, ov) => [(0, lv), (1, .int .i64 (if 200 < n then 200 else n)), (4, (.slice none 0 0)), (5, ov), (6, .int .i64 (i : Int))]) (fun (i, ov) Hh => (i : Int) ≤ (if 200 < n then 200 else n) ∧ Chg (fun _ => False) H Hh ∧ Ow Hh VlT ov (fitN l i) ∧ ∀ k, blk ov = some k → H.size ≤ k) (fun (i, ov) => ((if 200 < n then 200 else n)).toNat - i) (0, (.slice (some ⟨g2, 0, none⟩) 0 0)) (sub_of rfl ⟨⟨rfl, rfl⟩, ⟨⟨rfl, rfl⟩, ⟨⟨rfl, rfl⟩, ⟨⟨rfl, rfl⟩, ⟨⟨rfl, rfl⟩, trivial⟩⟩⟩⟩⟩) ⟨by show ((0 : Nat) : Int) ≤ _; omega, hT, (show Ow _ VlT _ (fitN l 0) from (by simp [fitN] : fitN l 0 = []) ▸ (Ow.lit VlT_ok [] B1 rfl rfl (by simp))), fun k hk => by simp [blk, Value.ownBlock] at hk; omega⟩ ?_
       rintro ⟨i, ov⟩ H17 ⟨h1, hC, hO, hlo⟩
       replace hL := hL0.chg hC (fun _ _ h => h)
       replace hT := hC
       have eC := hC.size
       have lO := fitN_len l i
       have sO : ∀ k, blk ov = some k → H.size ≤ k ∧ k < H17.size := fun k hk => ⟨hlo k hk, hO.lt hk⟩
       show JC _ _ _ _ _ [(0, lv), (1, .int .i64 (if 200 < n then 200 else n)), (4, (.slice none 0 0)), (5, ov), (6, .int .i64 (i : Int))] _
       refine c_seq ?_
       refine c_seq ?_
       refine c_reg ?_
       refine l_pure (.int .i64 (i : Int)) rfl (fun _ => rfl) ?_
       refine l_pure (.int .i64 (if 200 < n then 200 else n)) rfl (fun _ => rfl) ?_
       refine l_cmp rfl .i64 (i : Int) (if 200 < n then 200 else n) (decide ((i : Int) < (if 200 < n then 200 else n))) rfl rfl rfl rfl ?_
       refine l_nil ?_
       refine x_then ?_
       refine c_cond (c := (decide ((i : Int) < (if 200 < n then 200 else n)))) rfl rfl (fun c18 => ?_) (fun c18 => ?_)
       · have p19 := of_decide_eq_true c18
         first
         | (exfalso; omega)
         | (refine c_skip ?_
            refine x_then ?_
            refine c_seq ?_
            refine c_block ?_
            refine c_seq ?_
            refine c_reg ?_
            refine l_pure (.int .i64 (i : Int)) rfl (fun _ => rfl) ?_
            refine l_pure lv rfl (fun _ => rfl) ?_
            refine l_len rfl VlT_ok Try.underlying36 rfl rfl hL ?_
            refine l_cmp rfl .i64 (i : Int) (l.length : Int) (decide ((i : Int) < (l.length : Int))) rfl rfl rfl rfl ?_
            refine l_nil ?_
            refine x_then ?_
            refine c_cond (c := (decide ((i : Int) < (l.length : Int)))) rfl rfl (fun c20 => ?_) (fun c20 => ?_)
            · have p21 := of_decide_eq_true c20
              first
              | (exfalso; omega)
              | (refine c_reg ?_
                 refine l_pure ov rfl (fun _ => rfl) ?_
                 refine l_pure lv rfl (fun _ => rfl) ?_
                 refine l_pure (.int .i64 (i : Int)) rfl (fun _ => rfl) ?_
                 refine l_index rfl VlT_ok Try.underlying36 .i64 (i : Int) rfl rfl rfl hL (by omega) (by omega) i (by omega) ?_
                 obtain ⟨y22, hy23⟩ : ∃ y, l[i]? = some y := ⟨_, List.getElem?_eq_getElem (by omega)⟩
                 refine l_loadE rfl VlT_ok rfl lv i y22 (.agg #[.int .i64 y22.kind, .int .i64 y22.p, .int .i64 y22.q, .string y22.str, .int .i64 y22.ref]) l rfl rfl hL hy23 rfl ?_
                 refine l_buildSlice rfl [(0, .agg #[.int .i64 y22.kind, .int .i64 y22.p, .int .i64 y22.q, .string y22.str, .int .i64 y22.ref])] 54 #[.int .i64 y22.kind, .int .i64 y22.p, .int .i64 y22.q, .string y22.str, .int .i64 y22.ref] rfl rfl (by kernel_rfl) (fun g25 H26 n27 => ?_)
                 have e28 := n27.at_; have e29 := n27.size
                 replace hL := hL.chg (n27.chg fun _ => False) (fun _ _ h => h)
                 replace hO := hO.chg (n27.chg fun _ => False) (fun _ _ h => h)
                 replace hT := hT.trans' (n27.chg fun _ => False) (fun _ h _ => h.elim)
                 have B24 := n27.is
                 refine l_append (v := ov) (L := (fitN l i)) rfl VlT_ok Try.underlying36 (.slice (some ⟨g25, 0, none⟩) 1 1) rfl rfl rfl hO (Ow.lit VlT_ok [y22] B24 rfl rfl (by simp)).sl (by simp only [List.length_nil, List.length_cons, List.length_append, List.length_drop, List.length_take]; show _ * 48 ≤ _; omega) (by simp only [List.length_nil, List.length_cons, List.length_append, List.length_drop, List.length_take]; omega) (fun v30 H31 a32 => ?_)
                 have e33 := a32.chg.size
                 replace hL := hL.chg a32.chg (fun k hk e => by have := sL k hk; have := sO k e; omega)
                 replace B24 := a32.chg.get B24 (fun e => by have := sO _ e; omega)
                 replace hT := hT.trans' a32.chg (fun i e hl => by exfalso; have := sO i e; omega)
                 have S34 := a32.ow
                 have s35m := a32.moved
                 have s35 : ∀ k, blk v30 = some k → k ≠ g25 ∧ k < H31.size := fun k hk => by
                   rcases s35m k hk with h | h
                   · have := sO k h; have := S34.lt hk; omega
                   · have := S34.lt hk; omega
                 refine l_pure v30 rfl (fun _ => rfl) ?_
                 refine l_nil ?_
                 refine x_block ?_
                 refine x_then ?_
                 refine c_reg ?_
                 refine l_pure (.int .i64 (i : Int)) rfl (fun _ => rfl) ?_
                 refine l_add rfl (i : Int) 1 rfl rfl rfl (by omega) ?_
                 refine l_pure (.int .i64 ((i : Int) + 1)) rfl (fun _ => rfl) ?_
                 refine l_nil ?_
                 have hfin : ((fitN l i) ++ [y22]) = fitN l (i + 1) := fitN_in hy23
                 exact x_round (i + 1, v30) (by show ((if 200 < n then 200 else n)).toNat - (i + 1) < ((if 200 < n then 200 else n)).toNat - i; omega) (sub_of rfl ⟨⟨rfl, rfl⟩, ⟨⟨rfl, rfl⟩, ⟨⟨rfl, rfl⟩, ⟨⟨rfl, rfl⟩, ⟨⟨rfl, rfl⟩, trivial⟩⟩⟩⟩⟩) ⟨by show ((i + 1 : Nat) : Int) ≤ _; omega, hT, hfin ▸ S34, fun k hk => (s35m k hk).elim (fun h => hlo k h) (fun h => by omega)⟩)
            · have p36 := of_decide_eq_false c20
              first
              | (exfalso; omega)
              | (refine c_reg ?_
                 refine l_pure ov rfl (fun _ => rfl) ?_
                 refine l_pure (.agg #[.int .i64 0, .int .i64 0, .int .i64 0, .string ByteArray.empty, .int .i64 0]) rfl (fun _ => by kernel_rfl) ?_
                 refine l_buildSlice rfl [(0, .agg #[.int .i64 0, .int .i64 0, .int .i64 0, .string ByteArray.empty, .int .i64 0])] 54 #[.int .i64 0, .int .i64 0, .int .i64 0, .string ByteArray.empty, .int .i64 0] rfl rfl (by kernel_rfl) (fun g38 H39 n40 => ?_)
                 have e41 := n40.at_; have e42 := n40.size
                 replace hL := hL.chg (n40.chg fun _ => False) (fun _ _ h => h)
                 replace hO := hO.chg (n40.chg fun _ => False) (fun _ _ h => h)
                 replace hT := hT.trans' (n40.chg fun _ => False) (fun _ h _ => h.elim)
                 have B37 := n40.is
                 refine l_append (v := ov) (L := (fitN l i)) rfl VlT_ok Try.underlying36 (.slice (some ⟨g38, 0, none⟩) 1 1) rfl rfl rfl hO (Ow.lit VlT_ok [(⟨0, 0, 0, ByteArray.empty, 0⟩ : Vl)] B37 rfl rfl (by simp)).sl (by simp only [List.length_nil, List.length_cons, List.length_append, List.length_drop, List.length_take]; show _ * 48 ≤ _; omega) (by simp only [List.length_nil, List.length_cons, List.length_append, List.length_drop, List.length_take]; omega) (fun v43 H44 a45 => ?_)
                 have e46 := a45.chg.size
                 replace hL := hL.chg a45.chg (fun k hk e => by have := sL k hk; have := sO k e; omega)
                 replace B37 := a45.chg.get B37 (fun e => by have := sO _ e; omega)
                 replace hT := hT.trans' a45.chg (fun i e hl => by exfalso; have := sO i e; omega)
                 have S47 := a45.ow
                 have s48m := a45.moved
                 have s48 : ∀ k, blk v43 = some k → k ≠ g38 ∧ k < H44.size := fun k hk => by
                   rcases s48m k hk with h | h
                   · have := sO k h; have := S47.lt hk; omega
                   · have := S47.lt hk; omega
                 refine l_pure v43 rfl (fun _ => rfl) ?_
                 refine l_nil ?_
                 refine x_block ?_
                 refine x_then ?_
                 refine c_reg ?_
                 refine l_pure (.int .i64 (i : Int)) rfl (fun _ => rfl) ?_
                 refine l_add rfl (i : Int) 1 rfl rfl rfl (by omega) ?_
                 refine l_pure (.int .i64 ((i : Int) + 1)) rfl (fun _ => rfl) ?_
                 refine l_nil ?_
                 have hfin : ((fitN l i) ++ [(⟨0, 0, 0, ByteArray.empty, 0⟩ : Vl)]) = fitN l (i + 1) := fitN_out (by omega)
                 exact x_round (i + 1, v43) (by show ((if 200 < n then 200 else n)).toNat - (i + 1) < ((if 200 < n then 200 else n)).toNat - i; omega) (sub_of rfl ⟨⟨rfl, rfl⟩, ⟨⟨rfl, rfl⟩, ⟨⟨rfl, rfl⟩, ⟨⟨rfl, rfl⟩, ⟨⟨rfl, rfl⟩, trivial⟩⟩⟩⟩⟩) ⟨by show ((i + 1 : Nat) : Int) ≤ _; omega, hT, hfin ▸ S47, fun k hk => (s48m k hk).elim (fun h => hlo k h) (fun h => by omega)⟩))
       · have p49 := of_decide_eq_false c18
         first
         | (exfalso; omega)
         | (refine c_exit ?_
            refine x_exit ?_
            refine x_exit ?_
            refine x_here ?_
            refine x_then ?_
            refine c_seq ?_
            refine c_reg ?_
            refine l_pure ov rfl (fun _ => rfl) ?_
            refine l_pure ov rfl (fun _ => rfl) ?_
            refine l_nil ?_
            refine x_then ?_
            refine c_ret ?_
            refine x_fin ov (res_of (vs := [ov]) rfl (.cons (.tmp _ ov rfl rfl) .nil)) ?_
            have hE : fitN l i = fitL l n := by rw [fitL, if_neg (show ¬ n < 0 by omega)]; congr 1; show i = ((if 200 < n then 200 else n)).toNat; omega
            exact ⟨hE ▸ hO, hT, hlo⟩))
end Go.Proofs.Ytikbimlfbcffhaa
