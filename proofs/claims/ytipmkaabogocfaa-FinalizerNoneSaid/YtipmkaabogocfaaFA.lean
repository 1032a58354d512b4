/-
  Entries of the queue of layer 27; sets as maps. No condition.
  A cycle of layer 27: objects cleared, graphs cloned, the four steps. Each law says its conditions.
  The four steps of a cycle of layer 27. Each law says its conditions.
-/
import Derived.Test.YtipmkaabogocfaaW6
import Derived.Test.YtipmkaabogocfaaMapS
import Derived.Test.YtipmkaabogocfaaGC

set_option linter.unusedSimpArgs false
set_option linter.unusedVariables false
set_option maxRecDepth 100000
namespace Go.Proofs.Ytipmkaabogocfaa
open Go.Hp Go.J Go.S
open Go.Mem (Ty KTy blk elemAt pre suf blk_pre blk_suf aget aset strK aggDesc)
open Go.Mem (aget_aset)
abbrev eV (n : Int) : Value := .agg #[.int .i64 n]
def eTy : Ty Int := ⟨66, 1, 8, true, eV, 0⟩
theorem eTy_ok : eTy.Ok Try.prog := ok_of eTy _ Try.t66 (by decide) (fun _ => rfl) (fun x u hu => by simp [Ty.enc, eTy, Value.cells] at hu; subst hu; rfl) (fun _ => rfl) Try.underlying66 rfl (fun h => by cases h) (by kernel_rfl) (by kernel_rfl) (by kernel_rfl) (by kernel_rfl)
theorem eqE (x y : Int) (w : World) : (binOp .eql 66 (eV x) (eV y)).run Try.prog w = .ok (.bool (decide (x = y))) w ∧ (binOp .neq 66 (eV x) (eV y)).run Try.prog w = .ok (.bool (!decide (x = y))) w := by
  have h := J.run_eqS (P := Try.prog) (t := 66) [0] (by kernel_rfl) (by kernel_rfl) #[.int .i64 x] #[.int .i64 y] rfl rfl w
  have e : J.cellsEq [.int .i64 x] [.int .i64 y] = decide (x = y) := by rw [Bool.eq_iff_iff]; simp [J.cellsEq, J.cellEq]
  rw [e] at h
  exact h
def eK : KTy Int := ⟨66, eV⟩
theorem eK_ok {β : Type} : KTy.Ok (β := β) eK Try.prog := by
  refine Go.Mem.structK_ok (K := eK) Try.underlying66 (fun k => ⟨_, rfl⟩) (fun b k w => by kernel_rfl) (fun k => ?_) (fun k k' w => Go.Mem.equal_of_bin (eqE k k' w).1)
  show Instr.sameBits 10000 (eV k) (eV k) = true
  unfold Instr.sameBits
  simp [Instr.sameBits]
abbrev bV (b : Bool) : Value := .bool b
def setL (A : List Int) : List (Int × Bool) := A.foldl (fun m x => aset m x true) []
theorem aget_fold (A : List Int) (k : Int) : ∀ m : List (Int × Bool), aget (A.foldl (fun m x => aset m x true) m) k = if k ∈ A then some true else aget m k := by
  induction A with
  | nil => intro m; simp
  | cons a r ih =>
    intro m
    rw [List.foldl_cons, ih, aget_aset]
    by_cases h1 : k ∈ r <;> by_cases h2 : k = a <;> simp [h1, h2]
theorem got_set (A : List Int) (k : Int) : ((aget (setL A) k).map bV).getD (.bool false) = .bool (decide (k ∈ A)) := by
  unfold setL
  rw [aget_fold]
  by_cases h : k ∈ A <;> simp [h, aget]
theorem set_take {A : List Int} {i : Nat} {y : Int} (h : A[i]? = some y) : aset (setL (A.take i)) y true = setL (A.take (i + 1)) := (fold_take (f := fun m x => aset m x true) h).symm
theorem t_lookupN {P : Program} {E : Env} {Z : Zone} {As : List Asr} {o : Oper} {x y : Operand} {t e : TypeId} {κ : Type} [DecidableEq κ] {K : KTy κ} (hK : KTy.Ok (β := Bool) K P) (ht : P.underlying t = some (.map K.id e)) (z : Value) (k : κ) (hz : ∀ w, (zeroValue e).run P w = .ok z w := by intro _; kernel_rfl) (ho : o.op = .lookup t x y false := by rfl) (hx : ev E x = .map none := by rfl) (hy : ev E y = K.val k := by rfl) : Lt P E o Z As z :=
  fun _ _ => r_pure _ fun w => by
    have := Go.Mem.run_lookup_nil (β := Bool) (w := w) hK ht k hz false
    unfold execOp
    simp [ho, hx, hy, this, Sem.run_pure, Sem.run_bind]
theorem take_snoc {α : Type} {L : List α} {i : Nat} {y : α} (h : L[i]? = some y) : L.take i ++ [y] = L.take (i + 1) := by rw [List.take_add_one, h]; rfl
/-- A queue in memory. -/
def qA (b : Nat) (reg pend : List Int) : Asr := exA fun rv => exA fun pv => stA True [blkA b #[rv, pv] 63, own eTy rv reg, ownO eTy pv pend]
theorem q_open {b : Nat} {reg pend : List Int} {Z : Zone} {F : List Asr} {H : Heap} (h : Holds Z (qA b reg pend :: F) H) : ∃ rv pv, True ∧ Holds Z (blkA b #[rv, pv] 63 :: own eTy rv reg :: ownO eTy pv pend :: F) H := by
  obtain ⟨a, h⟩ := h.open_ex
  obtain ⟨m, h⟩ := h.open_ex
  exact ⟨a, m, h.open_st⟩
theorem q_shut {b : Nat} {reg pend : List Int} {Z : Zone} {F : List Asr} {H : Heap} {rv pv : Value} (h : Holds Z (blkA b #[rv, pv] 63 :: own eTy rv reg :: ownO eTy pv pend :: F) H) : Holds Z (qA b reg pend :: F) H :=
  Holds.shut_ex rv (Holds.shut_ex pv (Holds.shut_st trivial h))
def addI (reg : List Int) (id : Int) : Int := if id < 1 then 2 else if id ∈ reg then 10 else 0
def addL (reg : List Int) (id : Int) : List Int := if id < 1 then reg else if id ∈ reg then reg else reg ++ [id]
def stayL (A reg : List Int) : List Int := reg.filter fun x => decide (x ∈ A)
def lostL (A reg : List Int) : List Int := reg.filter fun x => !decide (x ∈ A)
def sepL (A reg : List Int) : List Int := (lostL A reg).reverse
theorem stay_yes {A L : List Int} {i : Nat} {y : Int} (h : L[i]? = some y) (hp : y ∈ A) : stayL A (L.take i) ++ [y] = stayL A (L.take (i + 1)) ∧ lostL A (L.take i) = lostL A (L.take (i + 1)) := by
  rw [← take_snoc h]; simp [stayL, lostL, List.filter_append, hp]
theorem stay_no {A L : List Int} {i : Nat} {y : Int} (h : L[i]? = some y) (hp : y ∉ A) : stayL A (L.take i) = stayL A (L.take (i + 1)) ∧ lostL A (L.take i) ++ [y] = lostL A (L.take (i + 1)) := by
  rw [← take_snoc h]; simp [stayL, lostL, List.filter_append, hp]
theorem stay_len (A L : List Int) : (stayL A L).length ≤ L.length := List.length_filter_le _ _
theorem lost_len (A L : List Int) : (lostL A L).length ≤ L.length := List.length_filter_le _ _
theorem sep_len (A L : List Int) : (sepL A L).length ≤ L.length := by unfold sepL; rw [List.length_reverse]; exact lost_len A L
/-- A list that is turned round from both ends. -/
def Rv {α : Type} (L X : List α) (i : Nat) : Prop := X.length = L.length ∧ 2 * i ≤ L.length + 1 ∧ ∀ k, k < L.length → X[k]? = if k < i ∨ L.length < k + i + 1 then L[L.length - 1 - k]? else L[k]?
theorem rv0 {α : Type} (L : List α) : Rv L L 0 := ⟨rfl, by omega, fun k hk => by rw [if_neg (by omega)]⟩
theorem rv_step {α : Type} {L X : List α} {i : Nat} {x y : α} (h : Rv L X i) (hi : 2 * i + 1 < L.length) (hx : X[i]? = some x) (hy : X[L.length - 1 - i]? = some y) : Rv L ((X.set i y).set (L.length - 1 - i) x) (i + 1) := by
  obtain ⟨h1, h2, h3⟩ := h
  refine ⟨by simp [h1], by omega, fun k hk => ?_⟩
  have hxi := h3 i (by omega); have hyi := h3 (L.length - 1 - i) (by omega)
  rw [if_neg (by omega)] at hxi hyi
  rw [hx] at hxi; rw [hy] at hyi
  by_cases e1 : k = L.length - 1 - i
  · subst e1
    rw [List.getElem?_set_self (by simp [h1]; omega), if_pos (by omega), hxi]; congr 1; omega
  · rw [List.getElem?_set_ne (Ne.symm e1)]
    by_cases e2 : k = i
    · subst e2
      rw [List.getElem?_set_self (by omega), if_pos (by omega), hyi]
    · rw [List.getElem?_set_ne (Ne.symm e2), h3 k hk]
      by_cases c : k < i ∨ L.length < k + i + 1
      · rw [if_pos c, if_pos (by omega)]
      · rw [if_neg c, if_neg (by omega)]
theorem rv_end {α : Type} {L X : List α} {i : Nat} (h : Rv L X i) (hi : ¬ 2 * i + 1 < L.length) : X = L.reverse := by
  obtain ⟨h1, h2, h3⟩ := h
  apply List.ext_getElem?
  intro k
  by_cases hk : k < L.length
  · rw [h3 k hk, List.getElem?_reverse hk]
    by_cases c : k < i ∨ L.length < k + i + 1
    · rw [if_pos c]
    · rw [if_neg c]; congr 1; omega
  · rw [List.getElem?_eq_none (by omega), List.getElem?_eq_none (by simp; omega)]
theorem qnew_s {Z : Zone} : SF Try.prog 10 #[] Z [] fun r Bs => ∃ b, r = .pointer (some ⟨b, 0, none⟩) ∧ Bs = [qA b [] []] := by
  refine sf_enter Try.func10 3 [] (fun w0 => ?_)
  refine k_seq ?_
  refine k_reg ?_
  refine s_lt (t_pure (.pointer none)) ?_
  refine s_nil ?_
  refine xs_then ?_
  refine k_seq ?_
  refine k_reg ?_
  refine s_lt (t_kern (.agg #[(.slice none 0 0), (.slice none 0 0)])) ?_
  refine s_box #[(.slice none 0 0), (.slice none 0 0)] (fun g1 => ?_)
  refine s_lt (t_pure (.pointer (some ⟨g1, 0, none⟩))) ?_
  refine s_nil ?_
  refine xs_then ?_
  refine k_ret ?_
  refine xs_fin [.pointer (some ⟨g1, 0, none⟩)] [qA g1 [] []] (SI.tmp 0 SI.nil) (fun _ h => q_shut (b := g1) (rv := .slice none 0 0) (pv := .slice none 0 0) ((Holds.nilS (T := eTy) (Holds.nilO (T := eTy) h)).re [2, 0] [])) ⟨g1, rfl, rfl⟩
theorem ids_s {Z : Zone} {lv : Value} {L : List Int} (hL : Kn Z eTy lv L) (hl : L.length ≤ 1000000) : SF Try.prog 39 #[lv] Z [] fun r Bs => Bs = [own iTy r L] := by
  refine sf_enter Try.func39 19 [(0, lv)] (fun w0 => ?_)
  refine k_seq ?_
  refine k_reg ?_
  refine s_lt (t_pure (.slice none 0 0)) ?_
  refine s_nil ?_
  refine xs_then ?_
  refine k_seq ?_
  refine k_reg ?_
  refine s_lt (t_pure (.slice none 0 0)) ?_
  refine s_nil ?_
  refine xs_then ?_
  refine k_seq ?_
  refine k_seq ?_
  refine k_reg ?_
  refine s_lt (t_pure lv) ?_
  refine s_lt (t_len eTy_ok Try.underlying61 (.zn hL)) ?_
  refine s_lt (t_pure (.int .i64 0)) ?_
  refine s_nil ?_
  refine xs_then ?_
  refine k_block ?_
  refine k_mem (fun _ h => Holds.nilS (T := iTy) h) ?_
  refine k_mem (Bs := [own iTy (.slice none 0 0) (L.take 0)]) (fun _ h => h) ?_
  refine k_loop (ι := Value × Nat) (fun (sx, i) => i ≤ L.length) (fun (sx, i) => [(2, (.slice none 0 0)), (3, sx), (6, lv), (7, .int .i64 (L.length : Int)), (8, .int .i64 (i : Int))]) (fun (sx, i) => [own iTy sx (L.take i)]) (fun (sx, i) => L.length - i) (.slice none 0 0, 0) (Nat.zero_le _) (sub_of rfl ⟨⟨rfl, rfl⟩, ⟨⟨rfl, rfl⟩, ⟨⟨rfl, rfl⟩, ⟨⟨rfl, rfl⟩, ⟨⟨rfl, rfl⟩, trivial⟩⟩⟩⟩⟩) (fun _ h => h.re [0] []) ?_
  rintro ⟨sx, i⟩ hi1
  replace hi1 : i ≤ L.length := hi1
  show SK _ _ _ _ _ [(2, (.slice none 0 0)), (3, sx), (6, lv), (7, .int .i64 (L.length : Int)), (8, .int .i64 (i : Int))] _ [own iTy sx (L.take i)]
  refine k_seq ?_
  refine k_reg ?_
  refine s_lt t_cmp ?_
  refine s_nil ?_
  refine xs_then ?_
  refine k_seq ?_
  refine k_cond (decide ((i : Int) < (L.length : Int))) (fun c2 => ?_) (fun c2 => ?_)
  ·
    have p3 := of_decide_eq_true c2
    refine k_skip ?_
    refine xs_then ?_
    refine k_seq ?_
    refine k_block ?_
    refine k_seq ?_
    refine k_reg ?_
    refine s_lt (t_index eTy_ok Try.underlying61 (.zn hL) (i : Int) i (by omega) (by (try simp only [List.length_nil, List.length_cons, List.length_append, List.length_take, List.length_drop, List.length_set, List.length_replicate, List.length_reverse, bits_len]); omega) (by omega)) ?_
    obtain ⟨y4, hy5⟩ : ∃ y, L[i]? = some y := ⟨_, List.getElem?_eq_getElem (by (try simp only [List.length_nil, List.length_cons, List.length_append, List.length_take, List.length_drop, List.length_set, List.length_replicate, List.length_reverse, bits_len]); omega)⟩
    refine s_lt (t_loadE eTy_ok (.zn hL) hy5) ?_
    refine s_alloc (.agg #[.int .i64 0]) #[.int .i64 0] (fun g6 => ?_)
    refine s_store 0 #[.int .i64 y4] ?_
    refine s_nil ?_
    refine xs_then ?_
    refine k_reg ?_
    refine s_lt (t_pure sx) ?_
    refine s_lt (t_pure (.pointer (some ⟨g6, 0, none⟩))) ?_
    refine s_lt (t_load 0 (.int .i64 y4)) ?_
    refine s_buildSlice (e := 3) [(0, .int .i64 y4)] #[.int .i64 y4] (fun g7 => ?_) (hb := by kernel_rfl)
    refine s_append (L := (L.take i)) 2 iTy_ok Try.underlying22 (.lit 0 iTy_ok [y4]) (by show _ * 8 ≤ _; (try simp only [List.length_nil, List.length_cons, List.length_append, List.length_take, List.length_drop, List.length_set, List.length_replicate, List.length_reverse, bits_len]); omega) (by (try simp only [List.length_nil, List.length_cons, List.length_append, List.length_take, List.length_drop, List.length_set, List.length_replicate, List.length_reverse, bits_len]); omega) (fun v8 => ?_)
    refine s_fact (fun H h => ((Acc.own (T := iTy) (L := ((L.take i) ++ [y4])) 2 rfl) H h).form) (fun hf9 => ?_)
    refine s_lt (t_pure v8) ?_
    refine s_nil ?_
    refine xs_block ?_
    refine xs_then ?_
    refine k_reg ?_
    refine s_lt (t_add (i : Int) 1 (by (try simp only [List.length_nil, List.length_cons, List.length_append, List.length_take, List.length_drop, List.length_set, List.length_replicate, List.length_reverse, bits_len]); omega)) ?_
    refine s_lt (t_pure (.int .i64 ((i : Int) + 1))) ?_
    refine s_nil ?_
    rw [take_snoc hy5]
    exact xs_round (v8, i + 1) (by show L.length - (i + 1) < L.length - i; omega) (by show i + 1 ≤ L.length; omega) (sub_of rfl ⟨⟨rfl, rfl⟩, ⟨⟨rfl, rfl⟩, ⟨⟨rfl, rfl⟩, ⟨⟨rfl, rfl⟩, ⟨⟨rfl, rfl⟩, trivial⟩⟩⟩⟩⟩) (fun _ h => h.re [2] [1, 1])
  ·
    have p10 := of_decide_eq_false c2
    refine k_exit ?_
    refine xs_exit ?_
    refine xs_exit ?_
    refine xs_here ?_
    refine xs_then ?_
    refine k_seq ?_
    refine k_reg ?_
    refine s_lt (t_pure sx) ?_
    refine s_lt (t_pure sx) ?_
    refine s_nil ?_
    refine xs_then ?_
    refine k_ret ?_
    exact xs_fin [sx] [own iTy sx L] (SI.tmp 2 SI.nil) (fun _ h => by rw [List.take_of_length_le (by omega)] at h; exact h.re [0] []) rfl
theorem has_s {Z : Zone} {F : List Asr} {b : Nat} {reg pend : List Int} (id : Int) (hr : reg.length ≤ 100000) : SF Try.prog 34 #[.pointer (some ⟨b, 0, none⟩), .int .i64 id] Z (qA b reg pend :: F) fun r Bs => r = .bool (decide (id ∈ reg)) ∧ Bs = qA b reg pend :: F := by
  refine sf_enter Try.func34 23 [(0, .pointer (some ⟨b, 0, none⟩)), (1, .int .i64 id)] (fun w0 => ?_)
  refine k_mem2 (fun H h => q_open (h.re [0] [])) (fun rq1 pq2 hw => ?_)
  refine k_seq ?_
  refine k_reg ?_
  refine s_lt (t_pure (.bool false)) ?_
  refine s_nil ?_
  refine xs_then ?_
  refine k_seq ?_
  refine k_seq ?_
  refine k_reg ?_
  refine s_lt (t_pure (.pointer (some ⟨b, 0, none⟩))) ?_
  refine s_lt (t_pure (.bool false)) ?_
  refine s_nil ?_
  refine xs_then ?_
  refine k_false ?_
  refine k_skip ?_
  refine xs_then ?_
  refine k_seq ?_
  refine k_seq ?_
  refine k_reg ?_
  refine s_lt (t_pure (.pointer (some ⟨b, 0, none⟩))) ?_
  refine s_lt (t_pure (.pointer (some ⟨b, 0, none⟩))) ?_
  refine s_lt (t_pure (.pointer (some ⟨b, 0, none⟩))) ?_
  refine s_lt (t_load 0 rq1) ?_
  refine s_lt (t_len eTy_ok Try.underlying61 (.own 1)) ?_
  refine s_lt (t_pure (.int .i64 0)) ?_
  refine s_nil ?_
  refine xs_then ?_
  refine k_block ?_
  refine k_loop (ι := Nat) (fun i => i ≤ reg.length ∧ id ∉ reg.take i) (fun i => [(1, .int .i64 id), (4, .bool false), (12, rq1), (13, .int .i64 (reg.length : Int)), (14, .int .i64 (i : Int))]) (fun i => blkA b #[rq1, pq2] 63 :: own eTy rq1 reg :: ownO eTy pq2 pend :: F) (fun i => reg.length - i) 0 ⟨Nat.zero_le _, by simp⟩ (sub_of rfl ⟨⟨rfl, rfl⟩, ⟨⟨rfl, rfl⟩, ⟨⟨rfl, rfl⟩, ⟨⟨rfl, rfl⟩, ⟨⟨rfl, rfl⟩, trivial⟩⟩⟩⟩⟩) (fun _ h => h.re [0, 0, 0] []) ?_
  rintro i hi3
  show SK _ _ _ _ _ [(1, .int .i64 id), (4, .bool false), (12, rq1), (13, .int .i64 (reg.length : Int)), (14, .int .i64 (i : Int))] _ (blkA b #[rq1, pq2] 63 :: own eTy rq1 reg :: ownO eTy pq2 pend :: F)
  refine k_seq ?_
  refine k_reg ?_
  refine s_lt t_cmp ?_
  refine s_nil ?_
  refine xs_then ?_
  refine k_seq ?_
  refine k_cond (decide ((i : Int) < (reg.length : Int))) (fun c4 => ?_) (fun c4 => ?_)
  ·
    have p5 := of_decide_eq_true c4
    refine k_skip ?_
    refine xs_then ?_
    refine k_seq ?_
    refine k_block ?_
    refine k_seq ?_
    refine k_reg ?_
    refine s_lt (t_index eTy_ok Try.underlying61 (.own 1) (i : Int) i (by omega) (by (try simp only [List.length_nil, List.length_cons, List.length_append, List.length_take, List.length_drop, List.length_set, List.length_replicate, List.length_reverse, bits_len]); omega) (by omega)) ?_
    obtain ⟨y6, hy7⟩ : ∃ y, reg[i]? = some y := ⟨_, List.getElem?_eq_getElem (by (try simp only [List.length_nil, List.length_cons, List.length_append, List.length_take, List.length_drop, List.length_set, List.length_replicate, List.length_reverse, bits_len]); omega)⟩
    refine s_lt (t_loadE eTy_ok (.own 1) hy7) ?_
    refine s_alloc (.agg #[.int .i64 0]) #[.int .i64 0] (fun g8 => ?_)
    refine s_store 0 #[.int .i64 y6] ?_
    refine s_nil ?_
    refine xs_then ?_
    refine k_seq ?_
    refine k_reg ?_
    refine s_lt (t_loadA 0 #[.int .i64 y6]) ?_
    refine s_lt (t_pure (.int .i64 id)) ?_
    refine s_lt (t_kern (.agg #[.int .i64 id])) ?_
    refine s_lt (t_eqS (fun w => (eqE y6 id w).1)) ?_
    refine s_nil ?_
    refine xs_then ?_
    refine k_cond (decide (y6 = id)) (fun c9 => ?_) (fun c9 => ?_)
    ·
      have p10 := of_decide_eq_true c9
      refine k_seq ?_
      refine k_reg ?_
      refine s_lt (t_pure (.bool true)) ?_
      refine s_nil ?_
      refine xs_then ?_
      refine k_ret ?_
      refine xs_retBlock ?_
      refine xs_ret ?_
      refine xs_ret ?_
      refine xs_retBlock ?_
      refine xs_ret ?_
      refine xs_mem (fun _ h => q_shut (h.re [1, 1, 1] [])) ?_
      refine xs_fin [.bool true] (qA b reg pend :: F) (SI.tmp 4 SI.nil) (fun _ h => h.re [0] [1]) ⟨congrArg Value.bool ?_, rfl⟩
      exact (decide_eq_true (by rw [← p10]; exact List.mem_of_getElem? hy7)).symm
    ·
      have p11 := of_decide_eq_false c9
      refine k_skip ?_
      refine xs_block ?_
      refine xs_then ?_
      refine k_reg ?_
      refine s_lt (t_add (i : Int) 1 (by (try simp only [List.length_nil, List.length_cons, List.length_append, List.length_take, List.length_drop, List.length_set, List.length_replicate, List.length_reverse, bits_len]); omega)) ?_
      refine s_lt (t_pure (.int .i64 ((i : Int) + 1))) ?_
      refine s_nil ?_
      exact xs_round (i + 1) (by omega) (by obtain ⟨hi1, hi2⟩ := hi3; refine ⟨by omega, ?_⟩; rw [← take_snoc hy7, List.mem_append, List.mem_singleton]; rintro (h | h); exact hi2 h; exact p11 h.symm) (sub_of rfl ⟨⟨rfl, rfl⟩, ⟨⟨rfl, rfl⟩, ⟨⟨rfl, rfl⟩, ⟨⟨rfl, rfl⟩, ⟨⟨rfl, rfl⟩, trivial⟩⟩⟩⟩⟩) (fun _ h => h.re [1, 1, 1] [3])
  ·
    have p12 := of_decide_eq_false c4
    refine k_exit ?_
    refine xs_exit ?_
    refine xs_exit ?_
    refine xs_here ?_
    refine xs_then ?_
    refine k_seq ?_
    refine k_reg ?_
    refine s_lt (t_pure (.bool false)) ?_
    refine s_nil ?_
    refine xs_then ?_
    refine k_ret ?_
    refine xs_mem (fun _ h => q_shut (h.re [0, 0, 0] [])) ?_
    refine xs_fin [.bool false] (qA b reg pend :: F) (SI.tmp 4 SI.nil) (fun _ h => h.re [0] []) ⟨congrArg Value.bool ?_, rfl⟩
    exact (decide_eq_false (by have h := hi3.2; rwa [List.take_of_length_le (by omega)] at h)).symm
theorem add_s {Z : Zone} {F : List Asr} {b : Nat} {reg pend : List Int} (id : Int) (hr : reg.length ≤ 90000) : SF Try.prog 12 #[.pointer (some ⟨b, 0, none⟩), .int .i64 id] Z (qA b reg pend :: F) fun r Bs => r = .int .i64 (addI reg id) ∧ Bs = qA b (addL reg id) pend :: F := by
  refine sf_enter Try.func12 26 [(0, .pointer (some ⟨b, 0, none⟩)), (1, .int .i64 id)] (fun w0 => ?_)
  refine k_seq ?_
  refine k_reg ?_
  refine s_lt (t_pure (.int .i64 0)) ?_
  refine s_nil ?_
  refine xs_then ?_
  refine k_seq ?_
  refine k_block ?_
  refine k_seq ?_
  refine k_reg ?_
  refine s_lt (t_pure (.pointer (some ⟨b, 0, none⟩))) ?_
  refine s_lt (t_pure (.bool false)) ?_
  refine s_lt (t_pure (.bool false)) ?_
  refine s_nil ?_
  refine xs_then ?_
  refine k_false ?_
  refine k_seq ?_
  refine k_reg ?_
  refine s_lt (t_pure (.int .i64 id)) ?_
  refine s_lt t_cmp ?_
  refine s_lt (t_pure (.bool (decide (id < 1)))) ?_
  refine s_nil ?_
  refine xs_then ?_
  refine k_cond (decide (id < 1)) (fun c1 => ?_) (fun c1 => ?_)
  ·
    have p2 := of_decide_eq_true c1
    refine k_seq ?_
    refine k_reg ?_
    refine s_lt (t_pure (.int .i64 2)) ?_
    refine s_nil ?_
    refine xs_then ?_
    refine k_ret ?_
    refine xs_retBlock ?_
    refine xs_ret ?_
    have h1 : addI reg id = 2 := by simp [addI, p2]
    have h2 : addL reg id = reg := by simp [addL, p2]
    refine xs_fin [.int .i64 2] (qA b reg pend :: F) (SI.tmp 4 SI.nil) (fun _ h => h.re [0] []) ?_
    rw [h1, h2]; exact ⟨rfl, rfl⟩
  ·
    have p3 := of_decide_eq_false c1
    refine k_seq ?_
    refine k_reg ?_
    refine s_lt (t_pure (.pointer (some ⟨b, 0, none⟩))) ?_
    refine s_lt (t_pure (.int .i64 id)) ?_
    refine s_call [0] (has_s (reg := reg) id (by (try simp only [List.length_nil, List.length_cons, List.length_append, List.length_take, List.length_drop, List.length_set, List.length_replicate, List.length_reverse, bits_len]); omega)) ?_
    rintro _ _ ⟨rfl, rfl⟩
    refine s_lt (t_pure (.bool (decide (id ∈ reg)))) ?_
    refine s_nil ?_
    refine xs_then ?_
    refine k_cond (decide (id ∈ reg)) (fun c4 => ?_) (fun c4 => ?_)
    ·
      have p5 := of_decide_eq_true c4
      refine k_seq ?_
      refine k_reg ?_
      refine s_lt (t_pure (.int .i64 10)) ?_
      refine s_nil ?_
      refine xs_then ?_
      refine k_ret ?_
      refine xs_retBlock ?_
      refine xs_ret ?_
      have h1 : addI reg id = 10 := by simp [addI, p3, p5]
      have h2 : addL reg id = reg := by simp [addL, p3, p5]
      refine xs_fin [.int .i64 10] (qA b reg pend :: F) (SI.tmp 4 SI.nil) (fun _ h => h.re [0] []) ?_
      rw [h1, h2]; exact ⟨rfl, rfl⟩
    ·
      have p6 := of_decide_eq_false c4
      refine k_skip ?_
      refine xs_block ?_
      refine xs_then ?_
      refine k_seq ?_
      refine k_reg ?_
      refine s_lt (t_pure (.pointer (some ⟨b, 0, none⟩))) ?_
      refine s_lt (t_pure (.pointer (some ⟨b, 0, none⟩))) ?_
      refine s_lt (t_pure (.pointer (some ⟨b, 0, none⟩))) ?_
      refine s_lt (t_pure (.pointer (some ⟨b, 0, none⟩))) ?_
      refine s_mem2 (fun H h => q_open (h.re [0] [])) (fun rq7 pq8 hw => ?_)
      refine s_lt (t_load 0 rq7) ?_
      refine s_lt (t_pure (.int .i64 id)) ?_
      refine s_lt (t_kern (.agg #[.int .i64 id])) ?_
      refine s_buildSlice (e := 66) [(0, .agg #[.int .i64 id])] #[.int .i64 id] (fun g9 => ?_) (hb := by kernel_rfl)
      refine s_append (L := reg) 2 eTy_ok Try.underlying61 (.lit 0 eTy_ok [id]) (by show _ * 8 ≤ _; (try simp only [List.length_nil, List.length_cons, List.length_append, List.length_take, List.length_drop, List.length_set, List.length_replicate, List.length_reverse, bits_len]); omega) (by (try simp only [List.length_nil, List.length_cons, List.length_append, List.length_take, List.length_drop, List.length_set, List.length_replicate, List.length_reverse, bits_len]); omega) (fun v10 => ?_)
      refine s_fact (fun H h => ((Acc.own (T := eTy) (L := (reg ++ [id])) 2 rfl) H h).form) (fun hf11 => ?_)
      refine s_lt (t_pure (.pointer (some ⟨b, 0, none⟩))) ?_
      refine s_lt (t_pure (.pointer (some ⟨b, 0, none⟩))) ?_
      refine s_store (u := v10) (m := 1) 1 #[v10, pq8] ?_ (hm := by (obtain ⟨_, _, e0⟩ := hf11; rw [e0]; rfl)) (h1 := by (obtain ⟨_, _, e0⟩ := hf11; rw [e0]; rfl)) (ha' := by (obtain ⟨_, _, e0⟩ := hf11; rw [e0]; rfl))
      refine s_nil ?_
      refine xs_then ?_
      refine k_seq ?_
      refine k_reg ?_
      refine s_lt (t_pure (.int .i64 0)) ?_
      refine s_nil ?_
      refine xs_then ?_
      refine k_ret ?_
      refine xs_mem (fun _ h => q_shut (h.re [1, 1, 1] [])) ?_
      have h1 : addI reg id = 0 := by simp [addI, p3, p6]
      have h2 : addL reg id = (reg ++ [id]) := by simp [addL, p3, p6]
      refine xs_fin [.int .i64 0] (qA b (reg ++ [id]) pend :: F) (SI.tmp 4 SI.nil) (fun _ h => h.re [0] [1]) ?_
      rw [h1, h2]; exact ⟨rfl, rfl⟩
theorem rev_s {Z : Zone} {F : List Asr} {v : Value} {L : List Int} (hl : L.length ≤ 1000000) : SF Try.prog 59 #[v] Z (own eTy v L :: F) fun r Bs => r = .tuple #[] ∧ Bs = own eTy v L.reverse :: F := by
  refine sf_enter Try.func59 28 [(0, v)] (fun w0 => ?_)
  refine k_seq ?_
  refine k_reg ?_
  refine s_lt (t_pure v) ?_
  refine s_lt (t_len eTy_ok Try.underlying61 (.own 0)) ?_
  refine s_lt (Lt.to (v' := .int .i64 ((L.length : Int) - 1 - ((0 : Nat) : Int))) (t_sub (L.length : Int) 1 (by omega)) (congrArg (Value.int .i64) (by omega))) ?_
  refine s_lt (t_pure (.int .i64 0)) ?_
  refine s_lt (t_pure (.int .i64 ((L.length : Int) - 1 - ((0 : Nat) : Int)))) ?_
  refine s_nil ?_
  refine xs_then ?_
  refine k_block ?_
  refine k_loop (ι := List Int × Nat) (fun (X, i) => Rv L X i) (fun (X, i) => [(0, v), (2, .int .i64 (i : Int)), (3, .int .i64 ((L.length : Int) - 1 - (i : Int)))]) (fun (X, i) => own eTy v X :: F) (fun (X, i) => L.length - i) (L, 0) (rv0 L) (sub_of rfl ⟨⟨rfl, rfl⟩, ⟨⟨rfl, rfl⟩, ⟨⟨rfl, rfl⟩, trivial⟩⟩⟩) (fun _ h => h.re [0] []) ?_
  rintro ⟨X, i⟩ hi1
  replace hi1 : Rv L X i := hi1
  show SK _ _ _ _ _ [(0, v), (2, .int .i64 (i : Int)), (3, .int .i64 ((L.length : Int) - 1 - (i : Int)))] _ (own eTy v X :: F)
  have hXl := hi1.1; have hX2 := hi1.2.1
  refine k_seq ?_
  refine k_seq ?_
  refine k_reg ?_
  refine s_lt (t_pure (.int .i64 (i : Int))) ?_
  refine s_lt (t_pure (.int .i64 ((L.length : Int) - 1 - (i : Int)))) ?_
  refine s_lt t_cmp ?_
  refine s_nil ?_
  refine xs_then ?_
  refine k_cond (decide ((i : Int) < ((L.length : Int) - 1 - (i : Int)))) (fun c2 => ?_) (fun c2 => ?_)
  ·
    have p3 := of_decide_eq_true c2
    refine k_skip ?_
    refine xs_then ?_
    refine k_seq ?_
    refine k_block ?_
    refine k_draw ?_
    refine s_lt (t_pure v) ?_
    refine s_lt (t_pure (.int .i64 (i : Int))) ?_
    refine s_lt (t_pure v) ?_
    refine s_lt (t_pure (.int .i64 ((L.length : Int) - 1 - (i : Int)))) ?_
    refine s_lt (t_pure v) ?_
    refine s_lt (t_pure (.int .i64 ((L.length : Int) - 1 - (i : Int)))) ?_
    refine s_lt (t_index eTy_ok Try.underlying61 (.own 0) ((L.length : Int) - 1 - (i : Int)) (L.length - 1 - i) (by omega) (by (try simp only [List.length_nil, List.length_cons, List.length_append, List.length_take, List.length_drop, List.length_set, List.length_replicate, List.length_reverse, bits_len]); omega) (by omega)) ?_
    obtain ⟨y4, hy5⟩ : ∃ y, X[(L.length - 1 - i)]? = some y := ⟨_, List.getElem?_eq_getElem (by (try simp only [List.length_nil, List.length_cons, List.length_append, List.length_take, List.length_drop, List.length_set, List.length_replicate, List.length_reverse, bits_len]); omega)⟩
    refine s_lt (t_loadE eTy_ok (.own 0) hy5) ?_
    refine s_lt (t_pure v) ?_
    refine s_lt (t_pure (.int .i64 (i : Int))) ?_
    refine s_lt (t_index eTy_ok Try.underlying61 (.own 0) (i : Int) i (by omega) (by (try simp only [List.length_nil, List.length_cons, List.length_append, List.length_take, List.length_drop, List.length_set, List.length_replicate, List.length_reverse, bits_len]); omega) (by omega)) ?_
    obtain ⟨y6, hy7⟩ : ∃ y, X[i]? = some y := ⟨_, List.getElem?_eq_getElem (by (try simp only [List.length_nil, List.length_cons, List.length_append, List.length_take, List.length_drop, List.length_set, List.length_replicate, List.length_reverse, bits_len]); omega)⟩
    refine s_lt (t_loadE eTy_ok (.own 0) hy7) ?_
    refine s_lt (t_index eTy_ok Try.underlying61 (.own 0) (i : Int) i (by omega) (by (try simp only [List.length_nil, List.length_cons, List.length_append, List.length_take, List.length_drop, List.length_set, List.length_replicate, List.length_reverse, bits_len]); omega) (by omega)) ?_
    refine s_storeE 0 0 y4 eTy_ok hy7 ?_
    refine s_lt (t_index eTy_ok Try.underlying61 (.own 0) ((L.length : Int) - 1 - (i : Int)) (L.length - 1 - i) (by omega) (by (try simp only [List.length_nil, List.length_cons, List.length_append, List.length_take, List.length_drop, List.length_set, List.length_replicate, List.length_reverse, bits_len]); omega) (by omega)) ?_
    obtain ⟨y8, hy9⟩ : ∃ y, ((X.set i y4))[(L.length - 1 - i)]? = some y := ⟨_, List.getElem?_eq_getElem (by (try simp only [List.length_nil, List.length_cons, List.length_append, List.length_take, List.length_drop, List.length_set, List.length_replicate, List.length_reverse, bits_len]); omega)⟩
    refine s_storeE 0 0 y6 eTy_ok hy9 ?_
    refine s_nil ?_
    refine x_dynS (fun _ h => by kernel_rfl) ?_
    refine xs_block ?_
    refine xs_then ?_
    refine k_reg ?_
    refine s_lt (t_pure (.int .i64 (i : Int))) ?_
    refine s_lt (t_add (i : Int) 1 (by (try simp only [List.length_nil, List.length_cons, List.length_append, List.length_take, List.length_drop, List.length_set, List.length_replicate, List.length_reverse, bits_len]); omega)) ?_
    refine s_lt (t_pure (.int .i64 ((L.length : Int) - 1 - (i : Int)))) ?_
    refine s_lt (Lt.to (v' := .int .i64 ((L.length : Int) - 1 - ((i + 1 : Nat) : Int))) (t_sub ((L.length : Int) - 1 - (i : Int)) 1 (by omega)) (congrArg (Value.int .i64) (by omega))) ?_
    refine s_lt (t_pure (.int .i64 ((i : Int) + 1))) ?_
    refine s_lt (t_pure (.int .i64 ((L.length : Int) - 1 - ((i + 1 : Nat) : Int)))) ?_
    refine s_nil ?_
    exact xs_round (((X.set i y4).set (L.length - 1 - i) y6), i + 1) (by show L.length - (i + 1) < L.length - i; omega) (rv_step hi1 (by omega) hy7 hy5) (sub_of rfl ⟨⟨rfl, rfl⟩, ⟨⟨rfl, rfl⟩, ⟨⟨rfl, rfl⟩, trivial⟩⟩⟩) (fun _ h => h.re [0] [])
  ·
    have p10 := of_decide_eq_false c2
    refine k_exit ?_
    refine xs_exit ?_
    refine xs_exit ?_
    refine xs_here ?_
    have hX : X = L.reverse := rv_end hi1 (by omega)
    subst hX
    exact xs_finN [] (own eTy v L.reverse :: F) SI.nil (fun _ h => h.re [0] []) ⟨rfl, rfl⟩
theorem separate_s {Z : Zone} {F : List Asr} {b : Nat} {reg pend : List Int} {mb : Nat} {A : List Int} (hr : reg.length ≤ 100000) (hp : pend.length ≤ 100000) : SF Try.prog 38 #[.pointer (some ⟨b, 0, none⟩), .map (some mb)] Z (qA b reg pend :: mpA eK bV mb (setL A) :: F) fun r Bs => Bs = qA b (stayL A reg) (pend ++ sepL A reg) :: own iTy r (sepL A reg) :: mpA eK bV mb (setL A) :: F := by
  refine sf_enter Try.func38 47 [(0, .pointer (some ⟨b, 0, none⟩)), (1, .map (some mb))] (fun w0 => ?_)
  refine k_mem2 (fun H h => q_open (h.re [0] [])) (fun rq1 pq2 hw => ?_)
  refine k_seq ?_
  refine k_reg ?_
  refine s_lt (t_pure (.slice none 0 0)) ?_
  refine s_nil ?_
  refine xs_then ?_
  refine k_seq ?_
  refine k_reg ?_
  refine s_lt (t_pure (.slice none 0 0)) ?_
  refine s_lt (t_pure (.slice none 0 0)) ?_
  refine s_nil ?_
  refine xs_then ?_
  refine k_seq ?_
  refine k_seq ?_
  refine k_reg ?_
  refine s_lt (t_pure (.pointer (some ⟨b, 0, none⟩))) ?_
  refine s_lt (t_pure (.pointer (some ⟨b, 0, none⟩))) ?_
  refine s_lt (t_pure (.pointer (some ⟨b, 0, none⟩))) ?_
  refine s_lt (t_load 0 rq1) ?_
  refine s_lt (t_len eTy_ok Try.underlying61 (.own 1)) ?_
  refine s_lt (t_pure (.int .i64 0)) ?_
  refine s_nil ?_
  refine xs_then ?_
  refine k_block ?_
  refine k_mem (fun _ h => Holds.nilS (T := eTy) h) ?_
  refine k_mem (Bs := own eTy (.slice none 0 0) (stayL A (reg.take 0)) :: blkA b #[rq1, pq2] 63 :: own eTy rq1 reg :: ownO eTy pq2 pend :: mpA eK bV mb (setL A) :: F) (fun _ h => h) ?_
  refine k_mem (fun _ h => Holds.nilS (T := eTy) h) ?_
  refine k_mem (Bs := own eTy (.slice none 0 0) (lostL A (reg.take 0)) :: own eTy (.slice none 0 0) (stayL A (reg.take 0)) :: blkA b #[rq1, pq2] 63 :: own eTy rq1 reg :: ownO eTy pq2 pend :: mpA eK bV mb (setL A) :: F) (fun _ h => h) ?_
  refine k_loop (ι := Value × Value × Nat) (fun (sx, gx, i) => i ≤ reg.length) (fun (sx, gx, i) => [(0, .pointer (some ⟨b, 0, none⟩)), (1, .map (some mb)), (4, (.slice none 0 0)), (5, sx), (6, gx), (12, rq1), (13, .int .i64 (reg.length : Int)), (14, .int .i64 (i : Int))]) (fun (sx, gx, i) => own eTy gx (lostL A (reg.take i)) :: own eTy sx (stayL A (reg.take i)) :: blkA b #[rq1, pq2] 63 :: own eTy rq1 reg :: ownO eTy pq2 pend :: mpA eK bV mb (setL A) :: F) (fun (sx, gx, i) => reg.length - i) (.slice none 0 0, .slice none 0 0, 0) (Nat.zero_le _) (sub_of rfl ⟨⟨rfl, rfl⟩, ⟨⟨rfl, rfl⟩, ⟨⟨rfl, rfl⟩, ⟨⟨rfl, rfl⟩, ⟨⟨rfl, rfl⟩, ⟨⟨rfl, rfl⟩, ⟨⟨rfl, rfl⟩, ⟨⟨rfl, rfl⟩, trivial⟩⟩⟩⟩⟩⟩⟩⟩) (fun _ h => h.re [0, 0, 0, 0, 0, 0] []) ?_
  rintro ⟨sx, gx, i⟩ hi3
  replace hi3 : i ≤ reg.length := hi3
  show SK _ _ _ _ _ [(0, .pointer (some ⟨b, 0, none⟩)), (1, .map (some mb)), (4, (.slice none 0 0)), (5, sx), (6, gx), (12, rq1), (13, .int .i64 (reg.length : Int)), (14, .int .i64 (i : Int))] _ (own eTy gx (lostL A (reg.take i)) :: own eTy sx (stayL A (reg.take i)) :: blkA b #[rq1, pq2] 63 :: own eTy rq1 reg :: ownO eTy pq2 pend :: mpA eK bV mb (setL A) :: F)
  have hs1 := stay_len A (reg.take i); have hs2 := lost_len A (reg.take i); rw [List.length_take] at hs1 hs2
  refine k_seq ?_
  refine k_reg ?_
  refine s_lt t_cmp ?_
  refine s_nil ?_
  refine xs_then ?_
  refine k_seq ?_
  refine k_cond (decide ((i : Int) < (reg.length : Int))) (fun c4 => ?_) (fun c4 => ?_)
  ·
    have p5 := of_decide_eq_true c4
    refine k_skip ?_
    refine xs_then ?_
    refine k_seq ?_
    refine k_block ?_
    refine k_seq ?_
    refine k_reg ?_
    refine s_lt (t_index eTy_ok Try.underlying61 (.own 3) (i : Int) i (by omega) (by (try simp only [List.length_nil, List.length_cons, List.length_append, List.length_take, List.length_drop, List.length_set, List.length_replicate, List.length_reverse, bits_len]); omega) (by omega)) ?_
    obtain ⟨y6, hy7⟩ : ∃ y, reg[i]? = some y := ⟨_, List.getElem?_eq_getElem (by (try simp only [List.length_nil, List.length_cons, List.length_append, List.length_take, List.length_drop, List.length_set, List.length_replicate, List.length_reverse, bits_len]); omega)⟩
    refine s_lt (t_loadE eTy_ok (.own 3) hy7) ?_
    refine s_alloc (.agg #[.int .i64 0]) #[.int .i64 0] (fun g8 => ?_)
    refine s_store 0 #[.int .i64 y6] ?_
    refine s_nil ?_
    refine xs_then ?_
    refine k_seq ?_
    refine k_reg ?_
    refine s_lt (t_pure (.map (some mb))) ?_
    refine s_lt (t_loadA 0 #[.int .i64 y6]) ?_
    refine s_lt (Lt.to (v' := .bool (decide (y6 ∈ A))) (t_lookup 6 eK_ok Try.underlying67 (.bool false) y6) (got_set _ _)) ?_
    refine s_nil ?_
    refine xs_then ?_
    refine k_cond (decide (y6 ∈ A)) (fun c9 => ?_) (fun c9 => ?_)
    ·
      have p10 := of_decide_eq_true c9
      refine k_reg ?_
      refine s_lt (t_pure sx) ?_
      refine s_lt (t_loadA 0 #[.int .i64 y6]) ?_
      refine s_buildSlice (e := 66) [(0, .agg #[.int .i64 y6])] #[.int .i64 y6] (fun g11 => ?_) (hb := by kernel_rfl)
      refine s_append (L := (stayL A (reg.take i))) 3 eTy_ok Try.underlying61 (.lit 0 eTy_ok [y6]) (by show _ * 8 ≤ _; (try simp only [List.length_nil, List.length_cons, List.length_append, List.length_take, List.length_drop, List.length_set, List.length_replicate, List.length_reverse, bits_len]); omega) (by (try simp only [List.length_nil, List.length_cons, List.length_append, List.length_take, List.length_drop, List.length_set, List.length_replicate, List.length_reverse, bits_len]); omega) (fun v12 => ?_)
      refine s_fact (fun H h => ((Acc.own (T := eTy) (L := ((stayL A (reg.take i)) ++ [y6])) 3 rfl) H h).form) (fun hf13 => ?_)
      refine s_lt (t_pure v12) ?_
      refine s_nil ?_
      refine xs_block ?_
      refine xs_then ?_
      refine k_reg ?_
      refine s_lt (t_add (i : Int) 1 (by (try simp only [List.length_nil, List.length_cons, List.length_append, List.length_take, List.length_drop, List.length_set, List.length_replicate, List.length_reverse, bits_len]); omega)) ?_
      refine s_lt (t_pure (.int .i64 ((i : Int) + 1))) ?_
      refine s_nil ?_
      have hq := stay_yes (A := A) hy7 p10
      rw [hq.1, hq.2]
      exact xs_round (v12, gx, i + 1) (by show reg.length - (i + 1) < reg.length - i; omega) (by show i + 1 ≤ reg.length; omega) (sub_of rfl ⟨⟨rfl, rfl⟩, ⟨⟨rfl, rfl⟩, ⟨⟨rfl, rfl⟩, ⟨⟨rfl, rfl⟩, ⟨⟨rfl, rfl⟩, ⟨⟨rfl, rfl⟩, ⟨⟨rfl, rfl⟩, ⟨⟨rfl, rfl⟩, trivial⟩⟩⟩⟩⟩⟩⟩⟩) (fun _ h => h.re [2, 2, 2, 2, 2, 2] [6, 6])
    ·
      have p14 := of_decide_eq_false c9
      refine k_reg ?_
      refine s_lt (t_pure gx) ?_
      refine s_lt (t_loadA 0 #[.int .i64 y6]) ?_
      refine s_buildSlice (e := 66) [(0, .agg #[.int .i64 y6])] #[.int .i64 y6] (fun g15 => ?_) (hb := by kernel_rfl)
      refine s_append (L := (lostL A (reg.take i))) 2 eTy_ok Try.underlying61 (.lit 0 eTy_ok [y6]) (by show _ * 8 ≤ _; (try simp only [List.length_nil, List.length_cons, List.length_append, List.length_take, List.length_drop, List.length_set, List.length_replicate, List.length_reverse, bits_len]); omega) (by (try simp only [List.length_nil, List.length_cons, List.length_append, List.length_take, List.length_drop, List.length_set, List.length_replicate, List.length_reverse, bits_len]); omega) (fun v16 => ?_)
      refine s_fact (fun H h => ((Acc.own (T := eTy) (L := ((lostL A (reg.take i)) ++ [y6])) 2 rfl) H h).form) (fun hf17 => ?_)
      refine s_lt (t_pure v16) ?_
      refine s_nil ?_
      refine xs_block ?_
      refine xs_then ?_
      refine k_reg ?_
      refine s_lt (t_add (i : Int) 1 (by (try simp only [List.length_nil, List.length_cons, List.length_append, List.length_take, List.length_drop, List.length_set, List.length_replicate, List.length_reverse, bits_len]); omega)) ?_
      refine s_lt (t_pure (.int .i64 ((i : Int) + 1))) ?_
      refine s_nil ?_
      have hq := stay_no (A := A) hy7 p14
      rw [hq.1, hq.2]
      exact xs_round (sx, v16, i + 1) (by show reg.length - (i + 1) < reg.length - i; omega) (by show i + 1 ≤ reg.length; omega) (sub_of rfl ⟨⟨rfl, rfl⟩, ⟨⟨rfl, rfl⟩, ⟨⟨rfl, rfl⟩, ⟨⟨rfl, rfl⟩, ⟨⟨rfl, rfl⟩, ⟨⟨rfl, rfl⟩, ⟨⟨rfl, rfl⟩, ⟨⟨rfl, rfl⟩, trivial⟩⟩⟩⟩⟩⟩⟩⟩) (fun _ h => h.re [2, 2, 2, 2, 2, 2] [6, 6])
  ·
    have p18 := of_decide_eq_false c4
    refine k_exit ?_
    obtain rfl : i = reg.length := by omega
    rw [List.take_length]
    have hs3 := stay_len A reg; have hs4 := lost_len A reg; have hs5 := sep_len A reg
    refine xs_exit ?_
    refine xs_exit ?_
    refine xs_here ?_
    refine xs_then ?_
    refine k_seq ?_
    refine k_reg ?_
    refine s_lt (t_pure gx) ?_
    refine s_call [0] (rev_s (L := (lostL A reg)) (by (try simp only [List.length_nil, List.length_cons, List.length_append, List.length_take, List.length_drop, List.length_set, List.length_replicate, List.length_reverse, bits_len]); omega)) ?_
    rintro _ _ ⟨rfl, rfl⟩
    refine s_nil ?_
    refine xs_then ?_
    refine k_seq ?_
    refine k_reg ?_
    refine s_lt (t_pure (.pointer (some ⟨b, 0, none⟩))) ?_
    refine s_lt (t_pure sx) ?_
    refine s_lt (t_pure (.pointer (some ⟨b, 0, none⟩))) ?_
    refine s_lt (t_pure (.pointer (some ⟨b, 0, none⟩))) ?_
    refine s_fact (fun H h => ((Acc.own (T := eTy) (L := (stayL A reg)) 1 rfl) H h).form) (fun hf19 => ?_)
    refine s_store (u := sx) (m := 1) 2 #[sx, pq2] ?_ (hm := by (obtain ⟨_, _, e0⟩ := hf19; rw [e0]; rfl)) (h1 := by (obtain ⟨_, _, e0⟩ := hf19; rw [e0]; rfl)) (ha' := by (obtain ⟨_, _, e0⟩ := hf19; rw [e0]; rfl))
    refine s_nil ?_
    refine xs_then ?_
    refine k_seq ?_
    refine k_reg ?_
    refine s_lt (t_pure (.pointer (some ⟨b, 0, none⟩))) ?_
    refine s_lt (t_pure (.pointer (some ⟨b, 0, none⟩))) ?_
    refine s_lt (t_pure (.pointer (some ⟨b, 0, none⟩))) ?_
    refine s_lt (t_pure (.pointer (some ⟨b, 1, none⟩))) ?_
    refine s_lt (t_load 2 pq2) ?_
    refine s_lt (t_pure gx) ?_
    refine s_appendO (L := pend) 4 eTy_ok Try.underlying61 (.own 0) (by show _ * 8 ≤ _; (try simp only [List.length_nil, List.length_cons, List.length_append, List.length_take, List.length_drop, List.length_set, List.length_replicate, List.length_reverse, bits_len]); omega) (by (try simp only [List.length_nil, List.length_cons, List.length_append, List.length_take, List.length_drop, List.length_set, List.length_replicate, List.length_reverse, bits_len]); omega) (fun v20 => ?_)
    refine s_fact (fun H h => ((Acc.ownO (T := eTy) (L := (pend ++ (lostL A reg).reverse)) 4 rfl) H h).form) (fun hf21 => ?_)
    refine s_lt (t_pure (.pointer (some ⟨b, 0, none⟩))) ?_
    refine s_lt (t_pure (.pointer (some ⟨b, 1, none⟩))) ?_
    refine s_store (u := v20) (m := 1) 2 #[sx, v20] ?_ (hm := by (obtain ⟨_, _, e0⟩ := hf21; rw [e0]; rfl)) (h1 := by (obtain ⟨_, _, e0⟩ := hf21; rw [e0]; rfl)) (ha' := by (obtain ⟨_, _, e0⟩ := hf21; rw [e0]; rfl))
    refine s_nil ?_
    refine xs_then ?_
    refine k_seq ?_
    refine k_reg ?_
    refine s_lt (t_pure gx) ?_
    refine s_pcall (fun _ h => ids_s (L := (lostL A reg).reverse) (Acc.kn (.own 0) h) (by (try simp only [List.length_nil, List.length_cons, List.length_append, List.length_take, List.length_drop, List.length_set, List.length_replicate, List.length_reverse, bits_len]); omega)) ?_
    rintro v22 _ rfl
    refine s_fact (fun H h => ((Acc.own (T := iTy) (L := (lostL A reg).reverse) 0 rfl) H h).form) (fun hf23 => ?_)
    refine s_lt (t_pure v22) ?_
    refine s_nil ?_
    refine xs_then ?_
    refine k_ret ?_
    refine xs_mem (fun _ h => q_shut (h.re [3, 2, 3] [])) ?_
    exact xs_fin [v22] (qA b (stayL A reg) (pend ++ sepL A reg) :: own iTy v22 (sepL A reg) :: mpA eK bV mb (setL A) :: F) (SI.tmp 4 SI.nil) (fun _ h => h.re [0, 0, 2] [3, 3]) rfl
theorem separate0_s {Z : Zone} {F : List Asr} {b : Nat} {reg pend : List Int} (hr : reg.length ≤ 100000) (hp : pend.length ≤ 100000) : SF Try.prog 38 #[.pointer (some ⟨b, 0, none⟩), .map none] Z (qA b reg pend :: F) fun r Bs => Bs = qA b (stayL [] reg) (pend ++ sepL [] reg) :: own iTy r (sepL [] reg) :: F := by
  refine sf_enter Try.func38 47 [(0, .pointer (some ⟨b, 0, none⟩)), (1, .map none)] (fun w0 => ?_)
  refine k_mem2 (fun H h => q_open (h.re [0] [])) (fun rq1 pq2 hw => ?_)
  refine k_seq ?_
  refine k_reg ?_
  refine s_lt (t_pure (.slice none 0 0)) ?_
  refine s_nil ?_
  refine xs_then ?_
  refine k_seq ?_
  refine k_reg ?_
  refine s_lt (t_pure (.slice none 0 0)) ?_
  refine s_lt (t_pure (.slice none 0 0)) ?_
  refine s_nil ?_
  refine xs_then ?_
  refine k_seq ?_
  refine k_seq ?_
  refine k_reg ?_
  refine s_lt (t_pure (.pointer (some ⟨b, 0, none⟩))) ?_
  refine s_lt (t_pure (.pointer (some ⟨b, 0, none⟩))) ?_
  refine s_lt (t_pure (.pointer (some ⟨b, 0, none⟩))) ?_
  refine s_lt (t_load 0 rq1) ?_
  refine s_lt (t_len eTy_ok Try.underlying61 (.own 1)) ?_
  refine s_lt (t_pure (.int .i64 0)) ?_
  refine s_nil ?_
  refine xs_then ?_
  refine k_block ?_
  refine k_mem (fun _ h => Holds.nilS (T := eTy) h) ?_
  refine k_mem (Bs := own eTy (.slice none 0 0) (stayL [] (reg.take 0)) :: blkA b #[rq1, pq2] 63 :: own eTy rq1 reg :: ownO eTy pq2 pend :: F) (fun _ h => h) ?_
  refine k_mem (fun _ h => Holds.nilS (T := eTy) h) ?_
  refine k_mem (Bs := own eTy (.slice none 0 0) (lostL [] (reg.take 0)) :: own eTy (.slice none 0 0) (stayL [] (reg.take 0)) :: blkA b #[rq1, pq2] 63 :: own eTy rq1 reg :: ownO eTy pq2 pend :: F) (fun _ h => h) ?_
  refine k_loop (ι := Value × Value × Nat) (fun (sx, gx, i) => i ≤ reg.length) (fun (sx, gx, i) => [(0, .pointer (some ⟨b, 0, none⟩)), (1, .map none), (4, (.slice none 0 0)), (5, sx), (6, gx), (12, rq1), (13, .int .i64 (reg.length : Int)), (14, .int .i64 (i : Int))]) (fun (sx, gx, i) => own eTy gx (lostL [] (reg.take i)) :: own eTy sx (stayL [] (reg.take i)) :: blkA b #[rq1, pq2] 63 :: own eTy rq1 reg :: ownO eTy pq2 pend :: F) (fun (sx, gx, i) => reg.length - i) (.slice none 0 0, .slice none 0 0, 0) (Nat.zero_le _) (sub_of rfl ⟨⟨rfl, rfl⟩, ⟨⟨rfl, rfl⟩, ⟨⟨rfl, rfl⟩, ⟨⟨rfl, rfl⟩, ⟨⟨rfl, rfl⟩, ⟨⟨rfl, rfl⟩, ⟨⟨rfl, rfl⟩, ⟨⟨rfl, rfl⟩, trivial⟩⟩⟩⟩⟩⟩⟩⟩) (fun _ h => h.re [0, 0, 0, 0, 0] []) ?_
  rintro ⟨sx, gx, i⟩ hi3
  replace hi3 : i ≤ reg.length := hi3
  show SK _ _ _ _ _ [(0, .pointer (some ⟨b, 0, none⟩)), (1, .map none), (4, (.slice none 0 0)), (5, sx), (6, gx), (12, rq1), (13, .int .i64 (reg.length : Int)), (14, .int .i64 (i : Int))] _ (own eTy gx (lostL [] (reg.take i)) :: own eTy sx (stayL [] (reg.take i)) :: blkA b #[rq1, pq2] 63 :: own eTy rq1 reg :: ownO eTy pq2 pend :: F)
  have hs1 := stay_len [] (reg.take i); have hs2 := lost_len [] (reg.take i); rw [List.length_take] at hs1 hs2
  refine k_seq ?_
  refine k_reg ?_
  refine s_lt t_cmp ?_
  refine s_nil ?_
  refine xs_then ?_
  refine k_seq ?_
  refine k_cond (decide ((i : Int) < (reg.length : Int))) (fun c4 => ?_) (fun c4 => ?_)
  ·
    have p5 := of_decide_eq_true c4
    refine k_skip ?_
    refine xs_then ?_
    refine k_seq ?_
    refine k_block ?_
    refine k_seq ?_
    refine k_reg ?_
    refine s_lt (t_index eTy_ok Try.underlying61 (.own 3) (i : Int) i (by omega) (by (try simp only [List.length_nil, List.length_cons, List.length_append, List.length_take, List.length_drop, List.length_set, List.length_replicate, List.length_reverse, bits_len]); omega) (by omega)) ?_
    obtain ⟨y6, hy7⟩ : ∃ y, reg[i]? = some y := ⟨_, List.getElem?_eq_getElem (by (try simp only [List.length_nil, List.length_cons, List.length_append, List.length_take, List.length_drop, List.length_set, List.length_replicate, List.length_reverse, bits_len]); omega)⟩
    refine s_lt (t_loadE eTy_ok (.own 3) hy7) ?_
    refine s_alloc (.agg #[.int .i64 0]) #[.int .i64 0] (fun g8 => ?_)
    refine s_store 0 #[.int .i64 y6] ?_
    refine s_nil ?_
    refine xs_then ?_
    refine k_seq ?_
    refine k_reg ?_
    refine s_lt (t_pure (.map none)) ?_
    refine s_lt (t_loadA 0 #[.int .i64 y6]) ?_
    refine s_lt (t_lookupN eK_ok Try.underlying67 (.bool false) y6) ?_
    refine s_nil ?_
    refine xs_then ?_
    refine k_false ?_
    refine k_reg ?_
    refine s_lt (t_pure gx) ?_
    refine s_lt (t_loadA 0 #[.int .i64 y6]) ?_
    refine s_buildSlice (e := 66) [(0, .agg #[.int .i64 y6])] #[.int .i64 y6] (fun g9 => ?_) (hb := by kernel_rfl)
    refine s_append (L := (lostL [] (reg.take i))) 2 eTy_ok Try.underlying61 (.lit 0 eTy_ok [y6]) (by show _ * 8 ≤ _; (try simp only [List.length_nil, List.length_cons, List.length_append, List.length_take, List.length_drop, List.length_set, List.length_replicate, List.length_reverse, bits_len]); omega) (by (try simp only [List.length_nil, List.length_cons, List.length_append, List.length_take, List.length_drop, List.length_set, List.length_replicate, List.length_reverse, bits_len]); omega) (fun v10 => ?_)
    refine s_fact (fun H h => ((Acc.own (T := eTy) (L := ((lostL [] (reg.take i)) ++ [y6])) 2 rfl) H h).form) (fun hf11 => ?_)
    refine s_lt (t_pure v10) ?_
    refine s_nil ?_
    refine xs_block ?_
    refine xs_then ?_
    refine k_reg ?_
    refine s_lt (t_add (i : Int) 1 (by (try simp only [List.length_nil, List.length_cons, List.length_append, List.length_take, List.length_drop, List.length_set, List.length_replicate, List.length_reverse, bits_len]); omega)) ?_
    refine s_lt (t_pure (.int .i64 ((i : Int) + 1))) ?_
    refine s_nil ?_
    have hq := stay_no (A := []) hy7 (by simp)
    rw [hq.1, hq.2]
    exact xs_round (sx, v10, i + 1) (by show reg.length - (i + 1) < reg.length - i; omega) (by show i + 1 ≤ reg.length; omega) (sub_of rfl ⟨⟨rfl, rfl⟩, ⟨⟨rfl, rfl⟩, ⟨⟨rfl, rfl⟩, ⟨⟨rfl, rfl⟩, ⟨⟨rfl, rfl⟩, ⟨⟨rfl, rfl⟩, ⟨⟨rfl, rfl⟩, ⟨⟨rfl, rfl⟩, trivial⟩⟩⟩⟩⟩⟩⟩⟩) (fun _ h => h.re [2, 2, 2, 2, 2] [5, 5])
  ·
    have p12 := of_decide_eq_false c4
    refine k_exit ?_
    obtain rfl : i = reg.length := by omega
    rw [List.take_length]
    have hs3 := stay_len [] reg; have hs4 := lost_len [] reg; have hs5 := sep_len [] reg
    refine xs_exit ?_
    refine xs_exit ?_
    refine xs_here ?_
    refine xs_then ?_
    refine k_seq ?_
    refine k_reg ?_
    refine s_lt (t_pure gx) ?_
    refine s_call [0] (rev_s (L := (lostL [] reg)) (by (try simp only [List.length_nil, List.length_cons, List.length_append, List.length_take, List.length_drop, List.length_set, List.length_replicate, List.length_reverse, bits_len]); omega)) ?_
    rintro _ _ ⟨rfl, rfl⟩
    refine s_nil ?_
    refine xs_then ?_
    refine k_seq ?_
    refine k_reg ?_
    refine s_lt (t_pure (.pointer (some ⟨b, 0, none⟩))) ?_
    refine s_lt (t_pure sx) ?_
    refine s_lt (t_pure (.pointer (some ⟨b, 0, none⟩))) ?_
    refine s_lt (t_pure (.pointer (some ⟨b, 0, none⟩))) ?_
    refine s_fact (fun H h => ((Acc.own (T := eTy) (L := (stayL [] reg)) 1 rfl) H h).form) (fun hf13 => ?_)
    refine s_store (u := sx) (m := 1) 2 #[sx, pq2] ?_ (hm := by (obtain ⟨_, _, e0⟩ := hf13; rw [e0]; rfl)) (h1 := by (obtain ⟨_, _, e0⟩ := hf13; rw [e0]; rfl)) (ha' := by (obtain ⟨_, _, e0⟩ := hf13; rw [e0]; rfl))
    refine s_nil ?_
    refine xs_then ?_
    refine k_seq ?_
    refine k_reg ?_
    refine s_lt (t_pure (.pointer (some ⟨b, 0, none⟩))) ?_
    refine s_lt (t_pure (.pointer (some ⟨b, 0, none⟩))) ?_
    refine s_lt (t_pure (.pointer (some ⟨b, 0, none⟩))) ?_
    refine s_lt (t_pure (.pointer (some ⟨b, 1, none⟩))) ?_
    refine s_lt (t_load 2 pq2) ?_
    refine s_lt (t_pure gx) ?_
    refine s_appendO (L := pend) 4 eTy_ok Try.underlying61 (.own 0) (by show _ * 8 ≤ _; (try simp only [List.length_nil, List.length_cons, List.length_append, List.length_take, List.length_drop, List.length_set, List.length_replicate, List.length_reverse, bits_len]); omega) (by (try simp only [List.length_nil, List.length_cons, List.length_append, List.length_take, List.length_drop, List.length_set, List.length_replicate, List.length_reverse, bits_len]); omega) (fun v14 => ?_)
    refine s_fact (fun H h => ((Acc.ownO (T := eTy) (L := (pend ++ (lostL [] reg).reverse)) 4 rfl) H h).form) (fun hf15 => ?_)
    refine s_lt (t_pure (.pointer (some ⟨b, 0, none⟩))) ?_
    refine s_lt (t_pure (.pointer (some ⟨b, 1, none⟩))) ?_
    refine s_store (u := v14) (m := 1) 2 #[sx, v14] ?_ (hm := by (obtain ⟨_, _, e0⟩ := hf15; rw [e0]; rfl)) (h1 := by (obtain ⟨_, _, e0⟩ := hf15; rw [e0]; rfl)) (ha' := by (obtain ⟨_, _, e0⟩ := hf15; rw [e0]; rfl))
    refine s_nil ?_
    refine xs_then ?_
    refine k_seq ?_
    refine k_reg ?_
    refine s_lt (t_pure gx) ?_
    refine s_pcall (fun _ h => ids_s (L := (lostL [] reg).reverse) (Acc.kn (.own 0) h) (by (try simp only [List.length_nil, List.length_cons, List.length_append, List.length_take, List.length_drop, List.length_set, List.length_replicate, List.length_reverse, bits_len]); omega)) ?_
    rintro v16 _ rfl
    refine s_fact (fun H h => ((Acc.own (T := iTy) (L := (lostL [] reg).reverse) 0 rfl) H h).form) (fun hf17 => ?_)
    refine s_lt (t_pure v16) ?_
    refine s_nil ?_
    refine xs_then ?_
    refine k_ret ?_
    refine xs_mem (fun _ h => q_shut (h.re [3, 2, 3] [])) ?_
    exact xs_fin [v16] (qA b (stayL [] reg) (pend ++ sepL [] reg) :: own iTy v16 (sepL [] reg) :: F) (SI.tmp 4 SI.nil) (fun _ h => h.re [0, 0] [2, 2]) rfl
theorem sepa_s {av : Value} {A : List Int} {Z : Zone} {F : List Asr} {b : Nat} {reg pend : List Int} (hA : Kn Z iTy av A) (hr : reg.length ≤ 100000) (hp : pend.length ≤ 100000) : SF Try.prog 15 #[.pointer (some ⟨b, 0, none⟩), av] Z (qA b reg pend :: F) fun r Bs => Bs = qA b (stayL A reg) (pend ++ sepL A reg) :: own iTy r (sepL A reg) :: F := by
  refine sf_enter Try.func15 24 [(0, .pointer (some ⟨b, 0, none⟩)), (1, av)] (fun w0 => ?_)
  refine k_fact (fun H h => (hA.get h).len_le) (fun lA => ?_)
  refine k_seq ?_
  refine k_reg ?_
  refine s_lt (t_pure (.slice none 0 0)) ?_
  refine s_nil ?_
  refine xs_then ?_
  refine k_seq ?_
  refine k_seq ?_
  refine k_reg ?_
  refine s_lt (t_pure (.pointer (some ⟨b, 0, none⟩))) ?_
  refine s_lt (t_pure (.bool false)) ?_
  refine s_nil ?_
  refine xs_then ?_
  refine k_false ?_
  refine k_skip ?_
  refine xs_then ?_
  refine k_seq ?_
  refine k_reg ?_
  refine s_makeMap eK bV (fun b1 => ?_)
  refine s_lt (t_pure (.map (some b1))) ?_
  refine s_nil ?_
  refine xs_then ?_
  refine k_seq ?_
  refine k_seq ?_
  refine k_reg ?_
  refine s_lt (t_pure av) ?_
  refine s_lt (t_len iTy_ok Try.underlying22 (.zn hA)) ?_
  refine s_lt (t_pure (.int .i64 0)) ?_
  refine s_nil ?_
  refine xs_then ?_
  refine k_block ?_
  refine k_mem (Bs := mpA eK bV b1 (setL (A.take 0)) :: qA b reg pend :: F) (fun _ h => h) ?_
  refine k_loop (ι := Nat) (fun i => i ≤ A.length) (fun i => [(0, .pointer (some ⟨b, 0, none⟩)), (4, (.slice none 0 0)), (5, .map (some b1)), (11, av), (12, .int .i64 (A.length : Int)), (13, .int .i64 (i : Int))]) (fun i => mpA eK bV b1 (setL (A.take i)) :: qA b reg pend :: F) (fun i => A.length - i) 0 (Nat.zero_le _) (sub_of rfl ⟨⟨rfl, rfl⟩, ⟨⟨rfl, rfl⟩, ⟨⟨rfl, rfl⟩, ⟨⟨rfl, rfl⟩, ⟨⟨rfl, rfl⟩, ⟨⟨rfl, rfl⟩, trivial⟩⟩⟩⟩⟩⟩) (fun _ h => h.re [0, 0] []) ?_
  rintro i hi2
  show SK _ _ _ _ _ [(0, .pointer (some ⟨b, 0, none⟩)), (4, (.slice none 0 0)), (5, .map (some b1)), (11, av), (12, .int .i64 (A.length : Int)), (13, .int .i64 (i : Int))] _ (mpA eK bV b1 (setL (A.take i)) :: qA b reg pend :: F)
  refine k_seq ?_
  refine k_reg ?_
  refine s_lt t_cmp ?_
  refine s_nil ?_
  refine xs_then ?_
  refine k_seq ?_
  refine k_cond (decide ((i : Int) < (A.length : Int))) (fun c3 => ?_) (fun c3 => ?_)
  ·
    have p4 := of_decide_eq_true c3
    refine k_skip ?_
    refine xs_then ?_
    refine k_seq ?_
    refine k_block ?_
    refine k_seq ?_
    refine k_reg ?_
    refine s_lt (t_index iTy_ok Try.underlying22 (.zn hA) (i : Int) i (by omega) (by (try simp only [List.length_nil, List.length_cons, List.length_append, List.length_take, List.length_drop, List.length_set, List.length_replicate, List.length_reverse, bits_len]); omega) (by omega)) ?_
    obtain ⟨y5, hy6⟩ : ∃ y, A[i]? = some y := ⟨_, List.getElem?_eq_getElem (by (try simp only [List.length_nil, List.length_cons, List.length_append, List.length_take, List.length_drop, List.length_set, List.length_replicate, List.length_reverse, bits_len]); omega)⟩
    refine s_lt (t_loadE iTy_ok (.zn hA) hy6) ?_
    refine s_lt (t_pure (.int .i64 y5)) ?_
    refine s_nil ?_
    refine xs_then ?_
    refine k_reg ?_
    refine s_lt (t_pure (.map (some b1))) ?_
    refine s_lt (t_pure (.int .i64 y5)) ?_
    refine s_lt (t_kern (.agg #[.int .i64 y5])) ?_
    refine s_update 0 eK_ok Try.underlying67 y5 true ?_
    refine s_nil ?_
    refine xs_block ?_
    refine xs_then ?_
    refine k_reg ?_
    refine s_lt (t_add (i : Int) 1 (by (try simp only [List.length_nil, List.length_cons, List.length_append, List.length_take, List.length_drop, List.length_set, List.length_replicate, List.length_reverse, bits_len]); omega)) ?_
    refine s_lt (t_pure (.int .i64 ((i : Int) + 1))) ?_
    refine s_nil ?_
    rw [set_take hy6]
    exact xs_round (i + 1) (by omega) (by show i + 1 ≤ A.length; omega) (sub_of rfl ⟨⟨rfl, rfl⟩, ⟨⟨rfl, rfl⟩, ⟨⟨rfl, rfl⟩, ⟨⟨rfl, rfl⟩, ⟨⟨rfl, rfl⟩, ⟨⟨rfl, rfl⟩, trivial⟩⟩⟩⟩⟩⟩) (fun _ h => h.re [0, 0] [])
  ·
    have p7 := of_decide_eq_false c3
    refine k_exit ?_
    rw [List.take_of_length_le (show A.length ≤ i by omega)]
    refine xs_exit ?_
    refine xs_exit ?_
    refine xs_here ?_
    refine xs_then ?_
    refine k_seq ?_
    refine k_reg ?_
    refine s_lt (t_pure (.pointer (some ⟨b, 0, none⟩))) ?_
    refine s_lt (t_pure (.map (some b1))) ?_
    refine s_call [1, 0] (separate_s (A := A) (reg := reg) (pend := pend) (by (try simp only [List.length_nil, List.length_cons, List.length_append, List.length_take, List.length_drop, List.length_set, List.length_replicate, List.length_reverse, bits_len]); omega) (by (try simp only [List.length_nil, List.length_cons, List.length_append, List.length_take, List.length_drop, List.length_set, List.length_replicate, List.length_reverse, bits_len]); omega)) ?_
    rintro v8 _ rfl
    refine s_fact (fun H h => ((Acc.own (T := iTy) (L := (sepL A reg)) 1 rfl) H h).form) (fun hf9 => ?_)
    refine s_lt (t_pure v8) ?_
    refine s_nil ?_
    refine xs_then ?_
    refine k_ret ?_
    exact xs_fin [v8] (qA b (stayL A reg) (pend ++ sepL A reg) :: own iTy v8 (sepL A reg) :: F) (SI.tmp 4 SI.nil) (fun _ h => h.re [0, 0] [2]) rfl
theorem end_s {Z : Zone} {F : List Asr} {b : Nat} {reg pend : List Int} (hr : reg.length ≤ 100000) (hp : pend.length ≤ 100000) : SF Try.prog 29 #[.pointer (some ⟨b, 0, none⟩)] Z (qA b reg pend :: F) fun r Bs => Bs = qA b (stayL [] reg) (pend ++ sepL [] reg) :: own iTy r (sepL [] reg) :: F := by
  refine sf_enter Try.func29 7 [(0, .pointer (some ⟨b, 0, none⟩))] (fun w0 => ?_)
  refine k_seq ?_
  refine k_reg ?_
  refine s_lt (t_pure (.slice none 0 0)) ?_
  refine s_nil ?_
  refine xs_then ?_
  refine k_seq ?_
  refine k_seq ?_
  refine k_reg ?_
  refine s_lt (t_pure (.pointer (some ⟨b, 0, none⟩))) ?_
  refine s_lt (t_pure (.bool false)) ?_
  refine s_nil ?_
  refine xs_then ?_
  refine k_false ?_
  refine k_skip ?_
  refine xs_then ?_
  refine k_seq ?_
  refine k_reg ?_
  refine s_lt (t_pure (.pointer (some ⟨b, 0, none⟩))) ?_
  refine s_call [0] (separate0_s (reg := reg) (pend := pend) (by (try simp only [List.length_nil, List.length_cons, List.length_append, List.length_take, List.length_drop, List.length_set, List.length_replicate, List.length_reverse, bits_len]); omega) (by (try simp only [List.length_nil, List.length_cons, List.length_append, List.length_take, List.length_drop, List.length_set, List.length_replicate, List.length_reverse, bits_len]); omega)) ?_
  rintro v1 _ rfl
  refine s_fact (fun H h => ((Acc.own (T := iTy) (L := (sepL [] reg)) 1 rfl) H h).form) (fun hf2 => ?_)
  refine s_lt (t_pure v1) ?_
  refine s_nil ?_
  refine xs_then ?_
  refine k_ret ?_
  exact xs_fin [v1] (qA b (stayL [] reg) (pend ++ sepL [] reg) :: own iTy v1 (sepL [] reg) :: F) (SI.tmp 2 SI.nil) (fun _ h => h.re [0, 0] []) rfl
def nextI (l : List Int) : Int := l.headD 0
def nextB (l : List Int) : Bool := !l.isEmpty
theorem next_some {l : List Int} {y : Int} (h : l[0]? = some y) : nextI l = y ∧ nextB l = true ∧ l.drop 1 = l.tail := by
  cases l with
  | nil => cases h
  | cons a r => simp at h; subst h; exact ⟨rfl, rfl, rfl⟩
theorem next_s {Z : Zone} {F : List Asr} {b : Nat} {reg pend : List Int} (hp : pend.length ≤ 1000000) : SF Try.prog 30 #[.pointer (some ⟨b, 0, none⟩)] Z (qA b reg pend :: F) fun r Bs => r = .tuple #[.int .i64 (nextI pend), .bool (nextB pend)] ∧ Bs = qA b reg pend.tail :: F := by
  refine sf_enter Try.func30 31 [(0, .pointer (some ⟨b, 0, none⟩))] (fun w0 => ?_)
  refine k_seq ?_
  refine k_reg ?_
  refine s_lt (t_pure (.int .i64 0)) ?_
  refine s_lt (t_pure (.bool false)) ?_
  refine s_nil ?_
  refine xs_then ?_
  refine k_seq ?_
  refine k_seq ?_
  refine k_reg ?_
  refine s_lt (t_pure (.pointer (some ⟨b, 0, none⟩))) ?_
  refine s_lt (t_pure (.bool false)) ?_
  refine s_lt (t_pure (.bool false)) ?_
  refine s_lt (t_pure (.pointer (some ⟨b, 0, none⟩))) ?_
  refine s_lt (t_pure (.pointer (some ⟨b, 0, none⟩))) ?_
  refine s_lt (t_pure (.pointer (some ⟨b, 1, none⟩))) ?_
  refine s_mem2 (fun H h => q_open (h.re [0] [])) (fun rq1 pq2 hw => ?_)
  refine s_lt (t_load 0 pq2) ?_
  refine s_lt (t_len eTy_ok Try.underlying61 (.ownO 2)) ?_
  refine s_lt t_cmp ?_
  refine s_lt (t_pure (.bool (decide ((pend.length : Int) = 0)))) ?_
  refine s_nil ?_
  refine xs_then ?_
  refine k_cond (decide ((pend.length : Int) = 0)) (fun c3 => ?_) (fun c3 => ?_)
  ·
    have p4 := of_decide_eq_true c3
    refine k_seq ?_
    refine k_reg ?_
    refine s_lt (t_pure (.int .i64 0)) ?_
    refine s_lt (t_pure (.bool false)) ?_
    refine s_nil ?_
    refine xs_then ?_
    refine k_ret ?_
    refine xs_ret ?_
    refine xs_mem (fun _ h => q_shut (h.re [0, 0, 0] [])) ?_
    obtain rfl : pend = [] := List.eq_nil_of_length_eq_zero (by omega)
    exact xs_fin [.int .i64 0, .bool false] (qA b reg [] :: F) (SI.tmp 2 (SI.tmp 3 SI.nil)) (fun _ h => h.re [0] []) ⟨rfl, rfl⟩
  ·
    have p5 := of_decide_eq_false c3
    refine k_skip ?_
    refine xs_then ?_
    refine k_seq ?_
    refine k_reg ?_
    refine s_lt (t_pure (.pointer (some ⟨b, 0, none⟩))) ?_
    refine s_lt (t_pure (.pointer (some ⟨b, 0, none⟩))) ?_
    refine s_lt (t_pure (.pointer (some ⟨b, 1, none⟩))) ?_
    refine s_lt (t_load 0 pq2) ?_
    refine s_lt (t_index eTy_ok Try.underlying61 (.ownO 2) 0 0 (by omega) (by (try simp only [List.length_nil, List.length_cons, List.length_append, List.length_take, List.length_drop, List.length_set, List.length_replicate, List.length_reverse, bits_len]); omega) (by omega)) ?_
    obtain ⟨y6, hy7⟩ : ∃ y, pend[0]? = some y := ⟨_, List.getElem?_eq_getElem (by (try simp only [List.length_nil, List.length_cons, List.length_append, List.length_take, List.length_drop, List.length_set, List.length_replicate, List.length_reverse, bits_len]); omega)⟩
    refine s_lt (t_loadE eTy_ok (.ownO 2) hy7) ?_
    refine s_alloc (.agg #[.int .i64 0]) #[.int .i64 0] (fun g8 => ?_)
    refine s_store 0 #[.int .i64 y6] ?_
    refine s_nil ?_
    refine xs_then ?_
    refine k_seq ?_
    refine k_reg ?_
    refine s_lt (t_pure (.pointer (some ⟨b, 0, none⟩))) ?_
    refine s_lt (t_pure (.pointer (some ⟨b, 0, none⟩))) ?_
    refine s_lt (t_pure (.pointer (some ⟨b, 0, none⟩))) ?_
    refine s_lt (t_pure (.pointer (some ⟨b, 1, none⟩))) ?_
    refine s_lt (t_load 1 pq2) ?_
    refine s_lt (t_suf eTy_ok Try.underlying61 (.ownO 3) 1 1 (by omega) (by (try simp only [List.length_nil, List.length_cons, List.length_append, List.length_take, List.length_drop, List.length_set, List.length_replicate, List.length_reverse, bits_len]); omega) (by omega)) ?_
    refine s_lt (t_pure (.pointer (some ⟨b, 0, none⟩))) ?_
    refine s_lt (t_pure (.pointer (some ⟨b, 1, none⟩))) ?_
    refine s_mem (fun _ h => Holds.sufO (i := 3) h eTy_ok 1 rfl (by (try simp only [List.length_nil, List.length_cons, List.length_append, List.length_take, List.length_drop, List.length_set, List.length_replicate, List.length_reverse, bits_len]); omega)) ?_
    refine s_fact (fun H h => ((Acc.ownO (T := eTy) (L := (pend.drop 1)) 3 rfl) H h).form) (fun hf9 => ?_)
    refine s_store (u := (suf eTy.size pq2 1)) (m := 1) 1 #[rq1, (suf eTy.size pq2 1)] ?_ (hm := by (obtain ⟨_, _, e0⟩ := hf9; rw [e0]; rfl)) (h1 := by (obtain ⟨_, _, e0⟩ := hf9; rw [e0]; rfl)) (ha' := by (obtain ⟨_, _, e0⟩ := hf9; rw [e0]; rfl))
    refine s_nil ?_
    refine xs_then ?_
    refine k_seq ?_
    refine k_reg ?_
    refine s_lt (t_pure (.pointer (some ⟨g8, 0, none⟩))) ?_
    refine s_lt (t_load 0 (.int .i64 y6)) ?_
    refine s_lt (t_pure (.int .i64 y6)) ?_
    refine s_lt (t_pure (.bool true)) ?_
    refine s_nil ?_
    refine xs_then ?_
    refine k_ret ?_
    refine xs_mem (fun _ h => q_shut (h.re [1, 1, 1] [])) ?_
    have hn : nextI pend = y6 ∧ nextB pend = true ∧ pend.drop 1 = pend.tail := next_some hy7
    rw [hn.1, hn.2.1, ← hn.2.2]
    exact xs_fin [.int .i64 y6, .bool true] (qA b reg (pend.drop 1) :: F) (SI.tmp 2 (SI.tmp 3 SI.nil)) (fun _ h => h.re [0] [1]) ⟨rfl, rfl⟩
theorem pending_s {Z : Zone} {F : List Asr} {b : Nat} {reg pend : List Int} (hl : pend.length ≤ 1000000) : SF Try.prog 17 #[.pointer (some ⟨b, 0, none⟩)] Z (qA b reg pend :: F) fun r Bs => Bs = own iTy r pend :: qA b reg pend :: F := by
  refine sf_enter Try.func17 10 [(0, .pointer (some ⟨b, 0, none⟩))] (fun w0 => ?_)
  refine k_seq ?_
  refine k_reg ?_
  refine s_lt (t_pure (.slice none 0 0)) ?_
  refine s_nil ?_
  refine xs_then ?_
  refine k_seq ?_
  refine k_seq ?_
  refine k_reg ?_
  refine s_lt (t_pure (.pointer (some ⟨b, 0, none⟩))) ?_
  refine s_lt (t_pure (.bool false)) ?_
  refine s_nil ?_
  refine xs_then ?_
  refine k_false ?_
  refine k_skip ?_
  refine xs_then ?_
  refine k_seq ?_
  refine k_reg ?_
  refine s_lt (t_pure (.pointer (some ⟨b, 0, none⟩))) ?_
  refine s_lt (t_pure (.pointer (some ⟨b, 0, none⟩))) ?_
  refine s_lt (t_pure (.pointer (some ⟨b, 1, none⟩))) ?_
  refine s_mem2 (fun H h => q_open (h.re [0] [])) (fun rq1 pq2 hw => ?_)
  refine s_lt (t_load 0 pq2) ?_
  refine s_pcall (fun _ h => ids_s (L := pend) (Acc.kn (.ownO 2) h) (by (try simp only [List.length_nil, List.length_cons, List.length_append, List.length_take, List.length_drop, List.length_set, List.length_replicate, List.length_reverse, bits_len]); omega)) ?_
  rintro v3 _ rfl
  refine s_fact (fun H h => ((Acc.own (T := iTy) (L := pend) 0 rfl) H h).form) (fun hf4 => ?_)
  refine s_lt (t_pure v3) ?_
  refine s_nil ?_
  refine xs_then ?_
  refine k_ret ?_
  refine xs_mem (fun _ h => q_shut (h.re [1, 1, 1] [])) ?_
  exact xs_fin [v3] (own iTy v3 pend :: qA b reg pend :: F) (SI.tmp 2 SI.nil) (fun _ h => h.re [1, 0] []) rfl
theorem registered_s {Z : Zone} {F : List Asr} {b : Nat} {reg pend : List Int} (hl : reg.length ≤ 1000000) : SF Try.prog 16 #[.pointer (some ⟨b, 0, none⟩)] Z (qA b reg pend :: F) fun r Bs => Bs = own iTy r reg :: qA b reg pend :: F := by
  refine sf_enter Try.func16 10 [(0, .pointer (some ⟨b, 0, none⟩))] (fun w0 => ?_)
  refine k_seq ?_
  refine k_reg ?_
  refine s_lt (t_pure (.slice none 0 0)) ?_
  refine s_nil ?_
  refine xs_then ?_
  refine k_seq ?_
  refine k_seq ?_
  refine k_reg ?_
  refine s_lt (t_pure (.pointer (some ⟨b, 0, none⟩))) ?_
  refine s_lt (t_pure (.bool false)) ?_
  refine s_nil ?_
  refine xs_then ?_
  refine k_false ?_
  refine k_skip ?_
  refine xs_then ?_
  refine k_seq ?_
  refine k_reg ?_
  refine s_lt (t_pure (.pointer (some ⟨b, 0, none⟩))) ?_
  refine s_lt (t_pure (.pointer (some ⟨b, 0, none⟩))) ?_
  refine s_lt (t_pure (.pointer (some ⟨b, 0, none⟩))) ?_
  refine s_mem2 (fun H h => q_open (h.re [0] [])) (fun rq1 pq2 hw => ?_)
  refine s_lt (t_load 0 rq1) ?_
  refine s_pcall (fun _ h => ids_s (L := reg) (Acc.kn (.own 1) h) (by (try simp only [List.length_nil, List.length_cons, List.length_append, List.length_take, List.length_drop, List.length_set, List.length_replicate, List.length_reverse, bits_len]); omega)) ?_
  rintro v3 _ rfl
  refine s_fact (fun H h => ((Acc.own (T := iTy) (L := reg) 0 rfl) H h).form) (fun hf4 => ?_)
  refine s_lt (t_pure v3) ?_
  refine s_nil ?_
  refine xs_then ?_
  refine k_ret ?_
  refine xs_mem (fun _ h => q_shut (h.re [1, 1, 1] [])) ?_
  exact xs_fin [v3] (own iTy v3 reg :: qA b reg pend :: F) (SI.tmp 2 SI.nil) (fun _ h => h.re [1, 0] []) rfl
theorem set_s {Z : Zone} {lv : Value} {L : List Int} (hL : Kn Z iTy lv L) : SF Try.prog 47 #[lv] Z [] fun r Bs => ∃ b, r = .map (some b) ∧ Bs = [mpA (Go.Mem.intK 3) bV b (setL L)] := by
  refine sf_enter Try.func47 17 [(0, lv)] (fun w0 => ?_)
  refine k_fact (fun H h => (hL.get h).len_le) (fun lA => ?_)
  refine k_seq ?_
  refine k_reg ?_
  refine s_lt (t_pure (.map none)) ?_
  refine s_nil ?_
  refine xs_then ?_
  refine k_seq ?_
  refine k_reg ?_
  refine s_makeMap (Go.Mem.intK 3) bV (fun b1 => ?_)
  refine s_lt (t_pure (.map (some b1))) ?_
  refine s_nil ?_
  refine xs_then ?_
  refine k_seq ?_
  refine k_seq ?_
  refine k_reg ?_
  refine s_lt (t_pure lv) ?_
  refine s_lt (t_len iTy_ok Try.underlying22 (.zn hL)) ?_
  refine s_lt (t_pure (.int .i64 0)) ?_
  refine s_nil ?_
  refine xs_then ?_
  refine k_block ?_
  refine k_mem (Bs := [mpA (Go.Mem.intK 3) bV b1 (setL (L.take 0))]) (fun _ h => h) ?_
  refine k_loop (ι := Nat) (fun i => i ≤ L.length) (fun i => [(2, .map none), (3, .map (some b1)), (7, lv), (8, .int .i64 (L.length : Int)), (9, .int .i64 (i : Int))]) (fun i => [mpA (Go.Mem.intK 3) bV b1 (setL (L.take i))]) (fun i => L.length - i) 0 (Nat.zero_le _) (sub_of rfl ⟨⟨rfl, rfl⟩, ⟨⟨rfl, rfl⟩, ⟨⟨rfl, rfl⟩, ⟨⟨rfl, rfl⟩, ⟨⟨rfl, rfl⟩, trivial⟩⟩⟩⟩⟩) (fun _ h => h.re [0] []) ?_
  rintro i hi2
  show SK _ _ _ _ _ [(2, .map none), (3, .map (some b1)), (7, lv), (8, .int .i64 (L.length : Int)), (9, .int .i64 (i : Int))] _ [mpA (Go.Mem.intK 3) bV b1 (setL (L.take i))]
  refine k_seq ?_
  refine k_reg ?_
  refine s_lt t_cmp ?_
  refine s_nil ?_
  refine xs_then ?_
  refine k_seq ?_
  refine k_cond (decide ((i : Int) < (L.length : Int))) (fun c3 => ?_) (fun c3 => ?_)
  ·
    have p4 := of_decide_eq_true c3
    refine k_skip ?_
    refine xs_then ?_
    refine k_seq ?_
    refine k_block ?_
    refine k_seq ?_
    refine k_reg ?_
    refine s_lt (t_index iTy_ok Try.underlying22 (.zn hL) (i : Int) i (by omega) (by (try simp only [List.length_nil, List.length_cons, List.length_append, List.length_take, List.length_drop, List.length_set, List.length_replicate, List.length_reverse, bits_len]); omega) (by omega)) ?_
    obtain ⟨y5, hy6⟩ : ∃ y, L[i]? = some y := ⟨_, List.getElem?_eq_getElem (by (try simp only [List.length_nil, List.length_cons, List.length_append, List.length_take, List.length_drop, List.length_set, List.length_replicate, List.length_reverse, bits_len]); omega)⟩
    refine s_lt (t_loadE iTy_ok (.zn hL) hy6) ?_
    refine s_lt (t_pure (.int .i64 y5)) ?_
    refine s_nil ?_
    refine xs_then ?_
    refine k_reg ?_
    refine s_lt (t_pure (.map (some b1))) ?_
    refine s_lt (t_pure (.int .i64 y5)) ?_
    refine s_update 0 intOk Try.underlying79 y5 true ?_
    refine s_nil ?_
    refine xs_block ?_
    refine xs_then ?_
    refine k_reg ?_
    refine s_lt (t_add (i : Int) 1 (by (try simp only [List.length_nil, List.length_cons, List.length_append, List.length_take, List.length_drop, List.length_set, List.length_replicate, List.length_reverse, bits_len]); omega)) ?_
    refine s_lt (t_pure (.int .i64 ((i : Int) + 1))) ?_
    refine s_nil ?_
    rw [set_take hy6]
    exact xs_round (i + 1) (by omega) (by show i + 1 ≤ L.length; omega) (sub_of rfl ⟨⟨rfl, rfl⟩, ⟨⟨rfl, rfl⟩, ⟨⟨rfl, rfl⟩, ⟨⟨rfl, rfl⟩, ⟨⟨rfl, rfl⟩, trivial⟩⟩⟩⟩⟩) (fun _ h => h.re [0] [])
  ·
    have p7 := of_decide_eq_false c3
    refine k_exit ?_
    refine xs_exit ?_
    refine xs_exit ?_
    refine xs_here ?_
    refine xs_then ?_
    refine k_seq ?_
    refine k_reg ?_
    refine s_lt (t_pure (.map (some b1))) ?_
    refine s_lt (t_pure (.map (some b1))) ?_
    refine s_nil ?_
    refine xs_then ?_
    refine k_ret ?_
    exact xs_fin [.map (some b1)] [mpA (Go.Mem.intK 3) bV b1 (setL L)] (SI.tmp 2 SI.nil) (fun _ h => by rw [List.take_of_length_le (show L.length ≤ i by omega)] at h; exact h.re [0] []) ⟨b1, rfl, rfl⟩
end Go.Proofs.Ytipmkaabogocfaa


set_option linter.unusedSimpArgs false
set_option linter.unusedVariables false
set_option maxRecDepth 100000
set_option maxHeartbeats 2000000
namespace Go.Proofs.Ytipmkaabogocfaa
open Go.Hp Go.J Go.S
open Go.Mem (Ty KTy blk elemAt pre suf blk_pre blk_suf aget aset strK aggDesc)
def valB (A : List Int) (e : Ent) : Bool := decide (e.val = 0) || decide (e.val ∈ A)
def unvB (A : List Int) (x : Ob) : Bool := decide (x.id ∈ A) && (decide (x.weak = 2) || decide (x.weak = 3))
def unv (A : List Int) (x : Ob) : Core := (x.id, x.size, x.weak, x.refs, if unvB A x = true then x.ents.filter (valB A) else x.ents)
def SlO (x : Ob) (H : Heap) : Prop := Sl H iTy x.rv.v x.refs ∧ Sl H EntT x.ev.v x.ents
section
variable {Z : Zone} {As : List Asr} {H : Heap} {ov rv : Value} {l : List Ob} {R : List Int}
theorem zob_old {x : Ob} (hx : KnO Z x) (h : Holds Z As H) : Holds Z (zfr Z (SlO x) :: As) H := h.zfr0 fun H hz => ⟨hx.1 H hz, hx.2 H hz⟩
theorem zob_new {x : Ob} (hx : KnO Z x) (nb : Ob) (h : Holds Z (own EntT nb.ev.v nb.ents :: As) H) (e1 : nb.rv = x.rv := by rfl) (e2 : nb.refs = x.refs := by rfl) : Holds Z (zfr Z (SlO nb) :: As) H := by
  have h1 := h.zfr0 (F := fun H => Sl H iTy x.rv.v x.refs) fun H hz => hx.1 H hz
  have h2 : Holds Z (own EntT nb.ev.v nb.ents :: zfr Z (fun H => Sl H iTy x.rv.v x.refs) :: As) H := h1.swap
  exact h2.zfrO.zfrM fun H hz ⟨a, b⟩ => ⟨by rw [e1, e2]; exact b, a⟩
theorem zall_push {L : List Ob} (nb : Ob) (h : Holds Z (zfr Z (SlO nb) :: zfr Z (AllO L) :: As) H) : Holds Z (zfr Z (AllO (L ++ [nb])) :: As) H :=
  h.zfrJ.zfrM fun H _ ⟨a, b⟩ x hx => by
    rcases List.mem_append.1 hx with hx | hx
    · exact b x hx
    · simp at hx; subst hx; exact a
theorem zall_nil (h : Holds Z As H) : Holds Z (zfr Z (AllO []) :: As) H := h.zfr0 fun H _ x hx => by cases hx
theorem zgr_shut {L : List Ob} (hR : Kn Z iTy rv R) (h : Holds Z (own ObT ov L :: zfr Z (AllO L) :: As) H) : Holds Z (zfr Z (GrA ov rv L R) :: As) H :=
  h.zfrO.zfrM fun H hz ⟨a, b⟩ => ⟨a, hR H hz, b⟩
theorem zgr_cut {N l1 l2 : List Ob} {o1 o2 r2 : Value} {R2 : List Int} (hN : ∀ x ∈ N, x ∈ l2) (h : Holds Z (own ObT ov N :: frz (GrA o2 r2 l2 R2) :: zfr Z (GrA o1 rv l1 R) :: As) H) : Holds Z (zfr Z (GrA ov rv N R) :: As) H := by
  have h1 : Holds Z (frz (GrA o2 r2 l2 R2) :: zfr Z (GrA o1 rv l1 R) :: own ObT ov N :: As) H := h.re [1, 1] []
  have h2 : Holds Z (own ObT ov N :: zfr Z (fun H => GrA o2 r2 l2 R2 H ∧ GrA o1 rv l1 R H) :: As) H := (h1.toZ.zfrJ).swap
  exact h2.zfrO.zfrM fun H _ ⟨a, b, c⟩ => ⟨a, c.2.1, fun x hx => b.2.2 x (hN x hx)⟩
theorem accZF (i : Nat) (hi : gt As i = some (zfr Z (GrA ov rv l R)) := by rfl) : Acc Z As ObT ov l := fun H h => (h.zfrF i hi).1
theorem accZR (i : Nat) (hi : gt As i = some (zfr Z (GrA ov rv l R)) := by rfl) : Acc Z As iTy rv R := fun H h => (h.zfrF i hi).2.1
theorem accZ1 {x : Ob} (i : Nat) (hx : x ∈ l) (hi : gt As i = some (zfr Z (GrA ov rv l R)) := by rfl) : Acc Z As iTy x.rv.v x.refs := fun H h => ((h.zfrF i hi).2.2 x hx).1
theorem accZ2 {x : Ob} (i : Nat) (hx : x ∈ l) (hi : gt As i = some (zfr Z (GrA ov rv l R)) := by rfl) : Acc Z As EntT x.ev.v x.ents := fun H h => ((h.zfrF i hi).2.2 x hx).2
theorem gr_more {v : Value} {M : List Int} (hG : GrA ov rv l R H) (hv : Kn (zoneOf H) iTy v M) : KnG (zoneOf H) ov v l M := ⟨hG.kn.obs, hv, hG.kn.each⟩
end
theorem unv_yes {A : List Int} {x : Ob} (h : unvB A x = true) : (if unvB A x = true then x.ents.filter (valB A) else x.ents) = x.ents.filter (valB A) := if_pos h
theorem filt_yes' {p : Ent → Bool} {L : List Ent} {k : Nat} {e : Ent} (h : L[k]? = some e) (hp : p e = true) : (L.take k).filter p ++ [e] = (L.take (k + 1)).filter p := filt_yes h hp
theorem cleared_s {Z : Zone} {F : List Asr} {x : Ob} {mb : Nat} {A : List Int} (hx : KnO Z x) (hsm : x.refs.length ≤ 400 ∧ x.ents.length ≤ 400) : SF Try.prog 60 #[x.v, .map (some mb)] Z (mpA (Go.Mem.intK 3) bV mb (setL A) :: F) fun r Bs => ∃ x', r = x'.v ∧ x'.c = unv A x ∧ Bs = zfr Z (SlO x') :: mpA (Go.Mem.intK 3) bV mb (setL A) :: F := by
  refine sf_enter Try.func60 48 [(0, .agg #[.int .i64 x.id, .int .i64 x.size, .int .i64 x.weak, x.rv.v, x.ev.v]), (1, .map (some mb))] (fun w0 => ?_)
  refine k_seq ?_
  refine k_reg ?_
  refine s_box #[.int .i64 x.id, .int .i64 x.size, .int .i64 x.weak, x.rv.v, x.ev.v] (fun g1 => ?_)
  refine s_alloc (.agg #[.int .i64 0, .int .i64 0, .int .i64 0, (.slice none 0 0), (.slice none 0 0)]) #[.int .i64 0, .int .i64 0, .int .i64 0, (.slice none 0 0), (.slice none 0 0)] (fun g2 => ?_)
  refine s_nil ?_
  refine xs_then ?_
  refine k_seq ?_
  refine k_cut (ι := Unit) (fun _ => True) (fun _ => [(1, .map (some mb)), (2, .pointer (some ⟨g1, 0, none⟩)), (4, .pointer (some ⟨g2, 0, none⟩)), (22, .bool ((!(decide (x.id ∈ A))) || ((decide (x.weak ≠ 2)) && (decide (x.weak ≠ 3)))))]) (fun _ => blkA g2 #[.int .i64 0, .int .i64 0, .int .i64 0, (.slice none 0 0), (.slice none 0 0)] 74 :: blkA g1 #[.int .i64 x.id, .int .i64 x.size, .int .i64 x.weak, x.rv.v, x.ev.v] 74 :: mpA (Go.Mem.intK 3) bV mb (setL A) :: F) ?_ (fun _ _ => ?_)
  ·
    refine k_reg ?_
    refine s_lt (t_pure (.map (some mb))) ?_
    refine s_lt (t_pure (.pointer (some ⟨g1, 0, none⟩))) ?_
    refine s_lt (t_load 1 (.int .i64 x.id)) ?_
    refine s_lt (Lt.to (v' := .bool (decide (x.id ∈ A))) (t_lookup 2 intOk Try.underlying79 (.bool false) x.id) (got_set _ _)) ?_
    refine s_lt (t_pure (.bool (!(decide (x.id ∈ A))))) ?_
    refine s_lt (t_pure (.bool (!(decide (x.id ∈ A))))) ?_
    refine s_fork 13 (!(decide (x.id ∈ A))) (fun c3 => ?_) (fun c3 => ?_)
    ·
      have c4 := not_t c3
      have p5 := of_decide_eq_false c4
      refine s_skip ?_
      refine s_skip ?_
      refine s_skip ?_
      refine s_skip ?_
      refine s_skip ?_
      refine s_skip ?_
      refine s_skip ?_
      refine s_skip ?_
      refine s_lt (t_pure (.bool true)) ?_
      refine s_nil ?_
      exact xs_cut () trivial (sub_of rfl ⟨⟨rfl, rfl⟩, ⟨⟨rfl, rfl⟩, ⟨⟨rfl, rfl⟩, ⟨⟨rfl, show Value.bool true = Value.bool ((!(decide (x.id ∈ A))) || ((decide (x.weak ≠ 2)) && (decide (x.weak ≠ 3)))) by first | (simp only [c3, Bool.true_and, Bool.false_and, Bool.and_true, Bool.and_false, Bool.true_or, Bool.or_true, Bool.false_or, Bool.or_false, Bool.not_true, Bool.not_false]; done) | simp [c3]⟩, trivial⟩⟩⟩⟩) (fun _ h => h.re [0, 0, 0] [])
    ·
      have c6 := not_f c3
      have p7 := of_decide_eq_true c6
      refine s_lt (t_pure (.pointer (some ⟨g1, 2, none⟩))) ?_
      refine s_lt (t_load 1 (.int .i64 x.weak)) ?_
      refine s_lt t_cmp ?_
      refine s_lt (t_pure (.bool (decide (x.weak ≠ 2)))) ?_
      refine s_fork 17 (decide (x.weak ≠ 2)) (fun c8 => ?_) (fun c8 => ?_)
      ·
        have p9 := of_decide_eq_true c8
        refine s_lt (t_pure (.pointer (some ⟨g1, 2, none⟩))) ?_
        refine s_lt (t_load 1 (.int .i64 x.weak)) ?_
        refine s_lt t_cmp ?_
        refine s_lt (t_pure (.bool (decide (x.weak ≠ 3)))) ?_
        refine s_lt (t_pure (.bool (decide (x.weak ≠ 3)))) ?_
        refine s_nil ?_
        exact xs_cut () trivial (sub_of rfl ⟨⟨rfl, rfl⟩, ⟨⟨rfl, rfl⟩, ⟨⟨rfl, rfl⟩, ⟨⟨rfl, show Value.bool (decide (x.weak ≠ 3)) = Value.bool ((!(decide (x.id ∈ A))) || ((decide (x.weak ≠ 2)) && (decide (x.weak ≠ 3)))) by first | (simp only [c3, c8, Bool.true_and, Bool.false_and, Bool.and_true, Bool.and_false, Bool.true_or, Bool.or_true, Bool.false_or, Bool.or_false, Bool.not_true, Bool.not_false]; done) | simp [c3, c8]⟩, trivial⟩⟩⟩⟩) (fun _ h => h.re [0, 0, 0] [])
      ·
        have p10 := Decidable.not_not.1 (of_decide_eq_false c8)
        refine s_skip ?_
        refine s_skip ?_
        refine s_skip ?_
        refine s_lt (t_pure (.bool false)) ?_
        refine s_lt (t_pure (.bool false)) ?_
        refine s_nil ?_
        exact xs_cut () trivial (sub_of rfl ⟨⟨rfl, rfl⟩, ⟨⟨rfl, rfl⟩, ⟨⟨rfl, rfl⟩, ⟨⟨rfl, show Value.bool false = Value.bool ((!(decide (x.id ∈ A))) || ((decide (x.weak ≠ 2)) && (decide (x.weak ≠ 3)))) by first | (simp only [c3, c8, Bool.true_and, Bool.false_and, Bool.and_true, Bool.and_false, Bool.true_or, Bool.or_true, Bool.false_or, Bool.or_false, Bool.not_true, Bool.not_false]; done) | simp [c3, c8]⟩, trivial⟩⟩⟩⟩) (fun _ h => h.re [0, 0, 0] [])
  ·
    refine k_cond ((!(decide (x.id ∈ A))) || ((decide (x.weak ≠ 2)) && (decide (x.weak ≠ 3)))) (fun c11 => ?_) (fun c11 => ?_)
    ·
      have p12 := c11
      simp only [Bool.and_eq_true, Bool.or_eq_true, Bool.and_eq_false_iff, Bool.or_eq_false_iff, Bool.not_eq_true', Bool.not_eq_false', decide_eq_true_eq, decide_eq_false_iff_not] at p12
      refine k_seq ?_
      refine k_reg ?_
      refine s_lt (t_loadA 1 #[.int .i64 x.id, .int .i64 x.size, .int .i64 x.weak, x.rv.v, x.ev.v]) ?_
      refine s_store 0 #[.int .i64 x.id, .int .i64 x.size, .int .i64 x.weak, x.rv.v, x.ev.v] ?_
      refine s_nil ?_
      refine xs_then ?_
      refine k_ret ?_
      refine xs_ret ?_
      have hu : unvB A x = false := (by have h := c11; revert h; unfold unvB; generalize decide (x.id ∈ A) = b1; rw [show decide (x.weak ≠ 2) = !decide (x.weak = 2) by simp, show decide (x.weak ≠ 3) = !decide (x.weak = 3) by simp]; generalize decide (x.weak = 2) = b2; generalize decide (x.weak = 3) = b3; revert b1 b2 b3; decide)
      exact xs_fin [x.v] (zfr Z (SlO x) :: mpA (Go.Mem.intK 3) bV mb (setL A) :: F) (SI.agg 4 74 0 SI.nil) (fun _ h => (zob_old hx h).re [0, 2] [2, 2]) ⟨x, rfl, by unfold unv; rw [hu]; rfl, rfl⟩
    ·
      obtain ⟨c13, c14⟩ := or_f c11
      have c15 := not_f c13
      have p16 := of_decide_eq_true c15
      have p17 := c14
      simp only [Bool.and_eq_true, Bool.or_eq_true, Bool.and_eq_false_iff, Bool.or_eq_false_iff, Bool.not_eq_true', Bool.not_eq_false', decide_eq_true_eq, decide_eq_false_iff_not] at p17
      refine k_skip ?_
      refine xs_then ?_
      refine k_seq ?_
      refine k_reg ?_
      refine s_lt (t_pure (.slice none 0 0)) ?_
      refine s_nil ?_
      refine xs_then ?_
      refine k_seq ?_
      refine k_seq ?_
      refine k_reg ?_
      refine s_lt (t_pure (.pointer (some ⟨g1, 4, none⟩))) ?_
      refine s_lt (t_load 1 x.ev.v) ?_
      refine s_lt (t_len EntT_ok Try.underlying72 (.zn hx.2)) ?_
      refine s_lt (t_pure (.int .i64 0)) ?_
      refine s_nil ?_
      refine xs_then ?_
      refine k_block ?_
      refine k_mem (fun _ h => Holds.nilS (T := EntT) h) ?_
      refine k_mem (Bs := own EntT (.slice none 0 0) ((x.ents.take 0).filter (valB A)) :: blkA g2 #[.int .i64 0, .int .i64 0, .int .i64 0, (.slice none 0 0), (.slice none 0 0)] 74 :: blkA g1 #[.int .i64 x.id, .int .i64 x.size, .int .i64 x.weak, x.rv.v, x.ev.v] 74 :: mpA (Go.Mem.intK 3) bV mb (setL A) :: F) (fun _ h => h) ?_
      refine k_loop (ι := Value × Nat) (fun (sy, k) => k ≤ x.ents.length) (fun (sy, k) => [(1, .map (some mb)), (2, .pointer (some ⟨g1, 0, none⟩)), (4, .pointer (some ⟨g2, 0, none⟩)), (5, sy), (25, x.ev.v), (26, .int .i64 (x.ents.length : Int)), (27, .int .i64 (k : Int))]) (fun (sy, k) => own EntT sy ((x.ents.take k).filter (valB A)) :: blkA g2 #[.int .i64 0, .int .i64 0, .int .i64 0, (.slice none 0 0), (.slice none 0 0)] 74 :: blkA g1 #[.int .i64 x.id, .int .i64 x.size, .int .i64 x.weak, x.rv.v, x.ev.v] 74 :: mpA (Go.Mem.intK 3) bV mb (setL A) :: F) (fun (sy, k) => x.ents.length - k) (.slice none 0 0, 0) (Nat.zero_le _) (sub_of rfl ⟨⟨rfl, rfl⟩, ⟨⟨rfl, rfl⟩, ⟨⟨rfl, rfl⟩, ⟨⟨rfl, rfl⟩, ⟨⟨rfl, rfl⟩, ⟨⟨rfl, rfl⟩, ⟨⟨rfl, rfl⟩, trivial⟩⟩⟩⟩⟩⟩⟩) (fun _ h => h.re [0, 0, 0, 0] []) ?_
      rintro ⟨sy, k⟩ hi18
      replace hi18 : k ≤ x.ents.length := hi18
      show SK _ _ _ _ _ [(1, .map (some mb)), (2, .pointer (some ⟨g1, 0, none⟩)), (4, .pointer (some ⟨g2, 0, none⟩)), (5, sy), (25, x.ev.v), (26, .int .i64 (x.ents.length : Int)), (27, .int .i64 (k : Int))] _ (own EntT sy ((x.ents.take k).filter (valB A)) :: blkA g2 #[.int .i64 0, .int .i64 0, .int .i64 0, (.slice none 0 0), (.slice none 0 0)] 74 :: blkA g1 #[.int .i64 x.id, .int .i64 x.size, .int .i64 x.weak, x.rv.v, x.ev.v] 74 :: mpA (Go.Mem.intK 3) bV mb (setL A) :: F)
      have hfl := List.length_filter_le (valB A) (x.ents.take k); rw [List.length_take] at hfl
      refine k_seq ?_
      refine k_reg ?_
      refine s_lt t_cmp ?_
      refine s_nil ?_
      refine xs_then ?_
      refine k_seq ?_
      refine k_cond (decide ((k : Int) < (x.ents.length : Int))) (fun c19 => ?_) (fun c19 => ?_)
      ·
        have p20 := of_decide_eq_true c19
        refine k_skip ?_
        refine xs_then ?_
        refine k_seq ?_
        refine k_block ?_
        refine k_seq ?_
        refine k_reg ?_
        refine s_lt (t_index EntT_ok Try.underlying72 (.zn hx.2) (k : Int) k (by omega) (by (try simp only [List.length_nil, List.length_cons, List.length_append, List.length_take, List.length_drop, List.length_set, List.length_replicate, List.length_reverse, bits_len]); omega) (by omega)) ?_
        obtain ⟨y21, hy22⟩ : ∃ y, x.ents[k]? = some y := ⟨_, List.getElem?_eq_getElem (by (try simp only [List.length_nil, List.length_cons, List.length_append, List.length_take, List.length_drop, List.length_set, List.length_replicate, List.length_reverse, bits_len]); omega)⟩
        refine s_lt (t_loadE EntT_ok (.zn hx.2) hy22) ?_
        refine s_alloc (.agg #[.int .i64 0, .int .i64 0]) #[.int .i64 0, .int .i64 0] (fun g23 => ?_)
        refine s_store 0 #[.int .i64 y21.key, .int .i64 y21.val] ?_
        refine s_nil ?_
        refine xs_then ?_
        refine k_cut (ι := Unit) (fun _ => True) (fun _ => [(1, .map (some mb)), (2, .pointer (some ⟨g1, 0, none⟩)), (4, .pointer (some ⟨g2, 0, none⟩)), (5, sy), (7, .pointer (some ⟨g23, 0, none⟩)), (25, x.ev.v), (26, .int .i64 (x.ents.length : Int)), (27, .int .i64 (k : Int)), (28, .bool (decide ((k : Int) < (x.ents.length : Int)))), (29, .pointer (some (elemAt EntT.size x.ev.v k))), (30, .agg #[.int .i64 y21.key, .int .i64 y21.val]), (31, .pointer (some ⟨g23, 1, none⟩)), (32, .int .i64 y21.val), (33, .bool (decide (y21.val = 0))), (34, .bool (decide (y21.val = 0))), (39, .bool ((decide (y21.val = 0)) || (decide (y21.val ∈ A))))]) (fun _ => blkA g23 #[.int .i64 y21.key, .int .i64 y21.val] 95 :: own EntT sy ((x.ents.take k).filter (valB A)) :: blkA g2 #[.int .i64 0, .int .i64 0, .int .i64 0, (.slice none 0 0), (.slice none 0 0)] 74 :: blkA g1 #[.int .i64 x.id, .int .i64 x.size, .int .i64 x.weak, x.rv.v, x.ev.v] 74 :: mpA (Go.Mem.intK 3) bV mb (setL A) :: F) ?_ (fun _ _ => ?_)
        ·
          refine k_reg ?_
          refine s_lt (t_pure (.pointer (some ⟨g23, 1, none⟩))) ?_
          refine s_lt (t_load 0 (.int .i64 y21.val)) ?_
          refine s_lt t_cmp ?_
          refine s_lt (t_pure (.bool (decide (y21.val = 0)))) ?_
          refine s_fork 34 (decide (y21.val = 0)) (fun c24 => ?_) (fun c24 => ?_)
          ·
            have p25 := of_decide_eq_true c24
            refine s_skip ?_
            refine s_skip ?_
            refine s_skip ?_
            refine s_skip ?_
            refine s_lt (t_pure (.bool true)) ?_
            refine s_nil ?_
            exact xs_cut () trivial (sub_of rfl ⟨⟨rfl, rfl⟩, ⟨⟨rfl, rfl⟩, ⟨⟨rfl, rfl⟩, ⟨⟨rfl, rfl⟩, ⟨⟨rfl, rfl⟩, ⟨⟨rfl, rfl⟩, ⟨⟨rfl, rfl⟩, ⟨⟨rfl, rfl⟩, ⟨⟨rfl, rfl⟩, ⟨⟨rfl, rfl⟩, ⟨⟨rfl, rfl⟩, ⟨⟨rfl, rfl⟩, ⟨⟨rfl, rfl⟩, ⟨⟨rfl, rfl⟩, ⟨⟨rfl, show Value.bool true = Value.bool (decide (y21.val = 0)) by first | (simp only [c24, Bool.true_and, Bool.false_and, Bool.and_true, Bool.and_false, Bool.true_or, Bool.or_true, Bool.false_or, Bool.or_false, Bool.not_true, Bool.not_false]; done) | simp [c24]⟩, ⟨⟨rfl, show Value.bool true = Value.bool ((decide (y21.val = 0)) || (decide (y21.val ∈ A))) by first | (simp only [c24, Bool.true_and, Bool.false_and, Bool.and_true, Bool.and_false, Bool.true_or, Bool.or_true, Bool.false_or, Bool.or_false, Bool.not_true, Bool.not_false]; done) | simp [c24]⟩, trivial⟩⟩⟩⟩⟩⟩⟩⟩⟩⟩⟩⟩⟩⟩⟩⟩) (fun _ h => h.re [0, 0, 0, 0, 0] [])
          ·
            have p26 := of_decide_eq_false c24
            refine s_lt (t_pure (.map (some mb))) ?_
            refine s_lt (t_pure (.pointer (some ⟨g23, 1, none⟩))) ?_
            refine s_lt (t_load 0 (.int .i64 y21.val)) ?_
            refine s_lt (Lt.to (v' := .bool (decide (y21.val ∈ A))) (t_lookup 4 intOk Try.underlying79 (.bool false) y21.val) (got_set _ _)) ?_
            refine s_lt (t_pure (.bool (decide (y21.val ∈ A)))) ?_
            refine s_nil ?_
            exact xs_cut () trivial (sub_of rfl ⟨⟨rfl, rfl⟩, ⟨⟨rfl, rfl⟩, ⟨⟨rfl, rfl⟩, ⟨⟨rfl, rfl⟩, ⟨⟨rfl, rfl⟩, ⟨⟨rfl, rfl⟩, ⟨⟨rfl, rfl⟩, ⟨⟨rfl, rfl⟩, ⟨⟨rfl, rfl⟩, ⟨⟨rfl, rfl⟩, ⟨⟨rfl, rfl⟩, ⟨⟨rfl, rfl⟩, ⟨⟨rfl, rfl⟩, ⟨⟨rfl, rfl⟩, ⟨⟨rfl, show Value.bool false = Value.bool (decide (y21.val = 0)) by first | (simp only [c24, Bool.true_and, Bool.false_and, Bool.and_true, Bool.and_false, Bool.true_or, Bool.or_true, Bool.false_or, Bool.or_false, Bool.not_true, Bool.not_false]; done) | simp [c24]⟩, ⟨⟨rfl, show Value.bool (decide (y21.val ∈ A)) = Value.bool ((decide (y21.val = 0)) || (decide (y21.val ∈ A))) by first | (simp only [c24, Bool.true_and, Bool.false_and, Bool.and_true, Bool.and_false, Bool.true_or, Bool.or_true, Bool.false_or, Bool.or_false, Bool.not_true, Bool.not_false]; done) | simp [c24]⟩, trivial⟩⟩⟩⟩⟩⟩⟩⟩⟩⟩⟩⟩⟩⟩⟩⟩) (fun _ h => h.re [0, 0, 0, 0, 0] [])
        ·
          refine k_cond ((decide (y21.val = 0)) || (decide (y21.val ∈ A))) (fun c27 => ?_) (fun c27 => ?_)
          ·
            have p28 := c27
            simp only [Bool.and_eq_true, Bool.or_eq_true, Bool.and_eq_false_iff, Bool.or_eq_false_iff, Bool.not_eq_true', Bool.not_eq_false', decide_eq_true_eq, decide_eq_false_iff_not] at p28
            refine k_reg ?_
            refine s_lt (t_pure sy) ?_
            refine s_lt (t_loadA 0 #[.int .i64 y21.key, .int .i64 y21.val]) ?_
            refine s_buildSlice (e := 95) [(0, .agg #[.int .i64 y21.key, .int .i64 y21.val])] #[.int .i64 y21.key, .int .i64 y21.val] (fun g29 => ?_) (hb := by kernel_rfl)
            refine s_append (L := ((x.ents.take k).filter (valB A))) 2 EntT_ok Try.underlying72 (.lit 0 EntT_ok [y21]) (by show _ * 16 ≤ _; (try simp only [List.length_nil, List.length_cons, List.length_append, List.length_take, List.length_drop, List.length_set, List.length_replicate, List.length_reverse, bits_len]); omega) (by (try simp only [List.length_nil, List.length_cons, List.length_append, List.length_take, List.length_drop, List.length_set, List.length_replicate, List.length_reverse, bits_len]); omega) (fun v30 => ?_)
            refine s_fact (fun H h => ((Acc.own (T := EntT) (L := (((x.ents.take k).filter (valB A)) ++ [y21])) 2 rfl) H h).form) (fun hf31 => ?_)
            refine s_lt (t_pure v30) ?_
            refine s_nil ?_
            refine xs_block ?_
            refine xs_then ?_
            refine k_reg ?_
            refine s_lt (t_add (k : Int) 1 (by (try simp only [List.length_nil, List.length_cons, List.length_append, List.length_take, List.length_drop, List.length_set, List.length_replicate, List.length_reverse, bits_len]); omega)) ?_
            refine s_lt (t_pure (.int .i64 ((k : Int) + 1))) ?_
            refine s_nil ?_
            rw [filt_yes (p := valB A) hy22 (by have h := c27; revert h; unfold valB; generalize decide (y21.val = 0) = b1; generalize decide (y21.val ∈ A) = b2; revert b1 b2; decide)]
            exact xs_round (v30, k + 1) (by show x.ents.length - (k + 1) < x.ents.length - k; omega) (by show k + 1 ≤ x.ents.length; omega) (sub_of rfl ⟨⟨rfl, rfl⟩, ⟨⟨rfl, rfl⟩, ⟨⟨rfl, rfl⟩, ⟨⟨rfl, rfl⟩, ⟨⟨rfl, rfl⟩, ⟨⟨rfl, rfl⟩, ⟨⟨rfl, rfl⟩, trivial⟩⟩⟩⟩⟩⟩⟩) (fun _ h => h.re [2, 2, 2, 2] [4, 4])
          ·
            obtain ⟨c32, c33⟩ := or_f c27
            have p34 := of_decide_eq_false c32
            have p35 := of_decide_eq_false c33
            refine k_skip ?_
            refine xs_block ?_
            refine xs_then ?_
            refine k_reg ?_
            refine s_lt (t_add (k : Int) 1 (by (try simp only [List.length_nil, List.length_cons, List.length_append, List.length_take, List.length_drop, List.length_set, List.length_replicate, List.length_reverse, bits_len]); omega)) ?_
            refine s_lt (t_pure (.int .i64 ((k : Int) + 1))) ?_
            refine s_nil ?_
            rw [filt_no (p := valB A) hy22 (by have h := c27; revert h; unfold valB; generalize decide (y21.val = 0) = b1; generalize decide (y21.val ∈ A) = b2; revert b1 b2; decide)]
            exact xs_round (sy, k + 1) (by show x.ents.length - (k + 1) < x.ents.length - k; omega) (by show k + 1 ≤ x.ents.length; omega) (sub_of rfl ⟨⟨rfl, rfl⟩, ⟨⟨rfl, rfl⟩, ⟨⟨rfl, rfl⟩, ⟨⟨rfl, rfl⟩, ⟨⟨rfl, rfl⟩, ⟨⟨rfl, rfl⟩, ⟨⟨rfl, rfl⟩, trivial⟩⟩⟩⟩⟩⟩⟩) (fun _ h => h.re [1, 1, 1, 1] [4])
      ·
        have p36 := of_decide_eq_false c19
        refine k_exit ?_
        obtain rfl : k = x.ents.length := by omega
        rw [List.take_length]
        have hfl := List.length_filter_le (valB A) x.ents
        refine xs_exit ?_
        refine xs_exit ?_
        refine xs_here ?_
        refine xs_then ?_
        refine k_seq ?_
        refine k_reg ?_
        refine s_lt (t_pure sy) ?_
        refine s_lt (t_pure (.pointer (some ⟨g1, 4, none⟩))) ?_
        refine s_fact (fun H h => ((Acc.own (T := EntT) (L := (x.ents.filter (valB A))) 0 rfl) H h).form) (fun hf37 => ?_)
        refine s_store (u := sy) (m := 1) 2 #[.int .i64 x.id, .int .i64 x.size, .int .i64 x.weak, x.rv.v, sy] ?_ (hm := by (obtain ⟨_, _, e0⟩ := hf37; rw [e0]; rfl)) (h1 := by (obtain ⟨_, _, e0⟩ := hf37; rw [e0]; rfl)) (ha' := by (obtain ⟨_, _, e0⟩ := hf37; rw [e0]; rfl))
        refine s_nil ?_
        refine xs_then ?_
        refine k_seq ?_
        refine k_reg ?_
        obtain ⟨pp38, cc39, e⟩ := hf37; subst e
        refine s_lt (t_loadA 2 #[.int .i64 x.id, .int .i64 x.size, .int .i64 x.weak, x.rv.v, (.slice pp38 (x.ents.filter (valB A)).length cc39)]) ?_
        refine s_store 1 #[.int .i64 x.id, .int .i64 x.size, .int .i64 x.weak, x.rv.v, (.slice pp38 (x.ents.filter (valB A)).length cc39)] ?_
        refine s_nil ?_
        refine xs_then ?_
        refine k_ret ?_
        have hu : unvB A x = true := (by have h := c11; revert h; unfold unvB; generalize decide (x.id ∈ A) = b1; rw [show decide (x.weak ≠ 2) = !decide (x.weak = 2) by simp, show decide (x.weak ≠ 3) = !decide (x.weak = 3) by simp]; generalize decide (x.weak = 2) = b2; generalize decide (x.weak = 3) = b3; revert b1 b2 b3; decide)
        exact xs_fin [.agg #[.int .i64 x.id, .int .i64 x.size, .int .i64 x.weak, x.rv.v, (.slice pp38 (x.ents.filter (valB A)).length cc39)]] (zfr Z (SlO (⟨x.id, x.size, x.weak, x.rv, ⟨pp38, (x.ents.filter (valB A)).length, cc39⟩, x.refs, (x.ents.filter (valB A))⟩ : Ob)) :: mpA (Go.Mem.intK 3) bV mb (setL A) :: F) (SI.agg 4 74 1 SI.nil) (fun _ h => zob_new hx (⟨x.id, x.size, x.weak, x.rv, ⟨pp38, (x.ents.filter (valB A)).length, cc39⟩, x.refs, (x.ents.filter (valB A))⟩ : Ob) (h.re [0, 2] [2, 2])) ⟨(⟨x.id, x.size, x.weak, x.rv, ⟨pp38, (x.ents.filter (valB A)).length, cc39⟩, x.refs, (x.ents.filter (valB A))⟩ : Ob), rfl, by unfold unv; rw [hu]; rfl, rfl⟩
theorem cloneE_s {Z : Zone} {lv : Value} {L : List Ent} (hL : Kn Z EntT lv L) (hl : L.length ≤ 1000000) : SF Try.prog 62 #[lv] Z [] fun r Bs => Bs = [own EntT r L] := by
  refine sf_enter Try.func62 8 [(0, lv)] (fun w0 => ?_)
  refine k_factH (fun H h => hL.get h) (fun H0 hsl => ?_)
  refine k_seq ?_
  refine k_reg ?_
  refine s_lt (t_pure (.slice none 0 0)) ?_
  refine s_nil ?_
  refine xs_then ?_
  refine k_seq ?_
  refine k_seq ?_
  refine k_reg ?_
  refine s_lt (t_pure lv) ?_
  refine s_lt (t_nilS Try.underlying72 (.zn hL)) ?_
  refine s_nil ?_
  refine xs_then ?_
  refine k_cond (nilS lv) (fun c1 => ?_) (fun c1 => ?_)
  ·
    refine k_seq ?_
    refine k_reg ?_
    refine s_lt (t_pure (.slice none 0 0)) ?_
    refine s_nil ?_
    refine xs_then ?_
    refine k_ret ?_
    refine xs_ret ?_
    have hn : L = [] := (nilS_spec hsl c1).2
    exact xs_fin [(.slice none 0 0)] [own EntT (.slice none 0 0) L] (SI.tmp 2 SI.nil) (fun _ h => by rw [hn]; exact h.nilS.re [0] []) rfl
  ·
    refine k_skip ?_
    refine xs_then ?_
    refine k_seq ?_
    refine k_reg ?_
    refine s_buildSlice (e := 95) [] #[] (fun g2 => ?_) (hb := by kernel_rfl)
    refine s_lt (t_pure lv) ?_
    refine s_mem (fun _ h => Holds.slice 0 h EntT_ok []) ?_
    refine s_append (L := []) 0 EntT_ok Try.underlying72 (.zn hL) (by show _ * 16 ≤ _; (try simp only [List.length_nil, List.length_cons, List.length_append, List.length_take, List.length_drop, List.length_set, List.length_replicate, List.length_reverse, bits_len]); omega) (by (try simp only [List.length_nil, List.length_cons, List.length_append, List.length_take, List.length_drop, List.length_set, List.length_replicate, List.length_reverse, bits_len]); omega) (fun v3 => ?_)
    rw [List.nil_append]
    refine s_fact (fun H h => ((Acc.own (T := EntT) (L := L) 0 rfl) H h).form) (fun hf4 => ?_)
    refine s_lt (t_pure v3) ?_
    refine s_nil ?_
    refine xs_then ?_
    refine k_ret ?_
    exact xs_fin [v3] [own EntT v3 L] (SI.tmp 2 SI.nil) (fun _ h => h.re [0] []) rfl
theorem clone_g {Z : Zone} {ov rv : Value} {l : List Ob} {R : List Int} (hg : KnG Z ov rv l R) (hl : l.length ≤ 100000) (hr : R.length ≤ 100000) (hsm : ∀ o ∈ l, o.refs.length ≤ 400 ∧ o.ents.length ≤ 400) : SF Try.prog 48 #[.agg #[ov, rv]] Z [] fun r Bs => ∃ ov' rv' l', r = .agg #[ov', rv'] ∧ l'.map Ob.c = l.map Ob.c ∧ Bs = [frz (GrA ov' rv' l' R)] := by
  refine sf_enter Try.func48 33 [(0, .agg #[ov, rv])] (fun w0 => ?_)
  refine k_seq ?_
  refine k_reg ?_
  refine s_box #[ov, rv] (fun g1 => ?_)
  refine s_alloc (.agg #[(.slice none 0 0), (.slice none 0 0)]) #[(.slice none 0 0), (.slice none 0 0)] (fun g2 => ?_)
  refine s_nil ?_
  refine xs_then ?_
  refine k_seq ?_
  refine k_reg ?_
  refine s_lt (t_pure (.pointer (some ⟨g1, 1, none⟩))) ?_
  refine s_lt (t_load 1 rv) ?_
  refine s_pcall (fun _ h => clone_s (Acc.kn (.zn hg.roots) h) (by (try simp only [List.length_nil, List.length_cons, List.length_append, List.length_take, List.length_drop, List.length_set, List.length_replicate, List.length_reverse, bits_len]); omega)) ?_
  rintro v3 _ rfl
  refine s_fact (fun H h => ((Acc.own (T := iTy) (L := R) 0 rfl) H h).form) (fun hf4 => ?_)
  refine s_lt (show Lt _ _ _ _ _ (.agg #[(.slice none 0 0), v3]) from by obtain ⟨_, _, e⟩ := hf4; rw [e]; clear e; exact t_kern _) ?_
  refine s_alloc (.agg #[(.slice none 0 0), (.slice none 0 0)]) #[(.slice none 0 0), (.slice none 0 0)] (fun g5 => ?_)
  refine s_store (u := .agg #[(.slice none 0 0), v3]) (m := 2) 0 #[(.slice none 0 0), v3] ?_ (hm := by (obtain ⟨_, _, e0⟩ := hf4; rw [e0]; rfl)) (h1 := by (obtain ⟨_, _, e0⟩ := hf4; rw [e0]; rfl)) (ha' := by (obtain ⟨_, _, e0⟩ := hf4; rw [e0]; rfl))
  refine s_nil ?_
  refine xs_then ?_
  refine k_seq ?_
  refine k_seq ?_
  refine k_reg ?_
  refine s_lt (t_pure (.pointer (some ⟨g1, 0, none⟩))) ?_
  refine s_lt (t_load 3 ov) ?_
  refine s_lt (t_len ObT_ok Try.underlying42 (.zn hg.obs)) ?_
  refine s_lt (t_pure (.int .i64 0)) ?_
  refine s_nil ?_
  refine xs_then ?_
  refine k_block ?_
  refine k_mem (fun _ h => Holds.nilS (T := ObT) (h.frz0 (F := AllO []) (by intro _ x hx; cases hx))) ?_
  refine k_loop (ι := Value × List Ob × Nat) (fun (ox, N, j) => j ≤ l.length ∧ N.map Ob.c = (l.take j).map Ob.c) (fun (ox, N, j) => [(2, .pointer (some ⟨g2, 0, none⟩)), (3, .pointer (some ⟨g5, 0, none⟩)), (11, ov), (12, .int .i64 (l.length : Int)), (13, .int .i64 (j : Int))]) (fun (ox, N, j) => [own ObT ox N, frz (AllO N), blkA g5 #[ox, v3] 44, own iTy v3 R, blkA g2 #[(.slice none 0 0), (.slice none 0 0)] 44, blkA g1 #[ov, rv] 44]) (fun (ox, N, j) => l.length - j) (.slice none 0 0, [], 0) ⟨Nat.zero_le _, rfl⟩ (sub_of rfl ⟨⟨rfl, rfl⟩, ⟨⟨rfl, rfl⟩, ⟨⟨rfl, rfl⟩, ⟨⟨rfl, rfl⟩, ⟨⟨rfl, rfl⟩, trivial⟩⟩⟩⟩⟩) (fun _ h => h.re [0, 0, 0, 0, 0, 0] []) ?_
  rintro ⟨ox, N, j⟩ hi6
  replace hi6 : j ≤ l.length ∧ N.map Ob.c = (l.take j).map Ob.c := hi6
  show SK _ _ _ _ _ [(2, .pointer (some ⟨g2, 0, none⟩)), (3, .pointer (some ⟨g5, 0, none⟩)), (11, ov), (12, .int .i64 (l.length : Int)), (13, .int .i64 (j : Int))] _ [own ObT ox N, frz (AllO N), blkA g5 #[ox, v3] 44, own iTy v3 R, blkA g2 #[(.slice none 0 0), (.slice none 0 0)] 44, blkA g1 #[ov, rv] 44]
  have hNl : N.length = j := by have := congrArg List.length hi6.2; simp only [List.length_map, List.length_take] at this; omega
  refine k_seq ?_
  refine k_reg ?_
  refine s_lt t_cmp ?_
  refine s_nil ?_
  refine xs_then ?_
  refine k_seq ?_
  refine k_cond (decide ((j : Int) < (l.length : Int))) (fun c7 => ?_) (fun c7 => ?_)
  ·
    have p8 := of_decide_eq_true c7
    refine k_skip ?_
    refine xs_then ?_
    refine k_seq ?_
    refine k_block ?_
    refine k_seq ?_
    refine k_reg ?_
    refine s_lt (t_index ObT_ok Try.underlying42 (.zn hg.obs) (j : Int) j (by omega) (by (try simp only [List.length_nil, List.length_cons, List.length_append, List.length_take, List.length_drop, List.length_set, List.length_replicate, List.length_reverse, bits_len]); omega) (by omega)) ?_
    obtain ⟨y9, hy10⟩ : ∃ y, l[j]? = some y := ⟨_, List.getElem?_eq_getElem (by (try simp only [List.length_nil, List.length_cons, List.length_append, List.length_take, List.length_drop, List.length_set, List.length_replicate, List.length_reverse, bits_len]); omega)⟩
    have hk11 := hg.each y9 (List.mem_of_getElem? hy10)
    have hsy := hsm y9 (List.mem_of_getElem? hy10)
    refine s_lt (t_loadE ObT_ok (.zn hg.obs) hy10) ?_
    refine s_alloc (.agg #[.int .i64 0, .int .i64 0, .int .i64 0, (.slice none 0 0), (.slice none 0 0)]) #[.int .i64 0, .int .i64 0, .int .i64 0, (.slice none 0 0), (.slice none 0 0)] (fun g12 => ?_)
    refine s_store 0 #[.int .i64 y9.id, .int .i64 y9.size, .int .i64 y9.weak, y9.rv.v, y9.ev.v] ?_
    refine s_nil ?_
    refine xs_then ?_
    refine k_seq ?_
    refine k_reg ?_
    refine s_lt (t_pure (.pointer (some ⟨g12, 3, none⟩))) ?_
    refine s_lt (t_load 0 y9.rv.v) ?_
    refine s_pcall (fun _ h => clone_s (Acc.kn (.zn hk11.1) h) (by (try simp only [List.length_nil, List.length_cons, List.length_append, List.length_take, List.length_drop, List.length_set, List.length_replicate, List.length_reverse, bits_len]); omega)) ?_
    rintro v13 _ rfl
    refine s_fact (fun H h => ((Acc.own (T := iTy) (L := y9.refs) 0 rfl) H h).form) (fun hf14 => ?_)
    refine s_lt (t_pure (.pointer (some ⟨g12, 3, none⟩))) ?_
    refine s_store (u := v13) (m := 1) 1 #[.int .i64 y9.id, .int .i64 y9.size, .int .i64 y9.weak, v13, y9.ev.v] ?_ (hm := by (obtain ⟨_, _, e0⟩ := hf14; rw [e0]; rfl)) (h1 := by (obtain ⟨_, _, e0⟩ := hf14; rw [e0]; rfl)) (ha' := by (obtain ⟨_, _, e0⟩ := hf14; rw [e0]; rfl))
    refine s_nil ?_
    refine xs_then ?_
    refine k_seq ?_
    refine k_reg ?_
    refine s_lt (t_pure (.pointer (some ⟨g12, 4, none⟩))) ?_
    refine s_lt (t_load 1 y9.ev.v) ?_
    refine s_pcall (fun _ h => cloneE_s (L := y9.ents) (Acc.kn (.zn hk11.2) h) (by (try simp only [List.length_nil, List.length_cons, List.length_append, List.length_take, List.length_drop, List.length_set, List.length_replicate, List.length_reverse, bits_len]); omega)) ?_
    rintro v15 _ rfl
    refine s_fact (fun H h => ((Acc.own (T := EntT) (L := y9.ents) 0 rfl) H h).form) (fun hf16 => ?_)
    refine s_lt (t_pure (.pointer (some ⟨g12, 4, none⟩))) ?_
    refine s_store (u := v15) (m := 1) 2 #[.int .i64 y9.id, .int .i64 y9.size, .int .i64 y9.weak, v13, v15] ?_ (hm := by (obtain ⟨_, _, e0⟩ := hf16; rw [e0]; rfl)) (h1 := by (obtain ⟨_, _, e0⟩ := hf16; rw [e0]; rfl)) (ha' := by (obtain ⟨_, _, e0⟩ := hf16; rw [e0]; rfl))
    refine s_nil ?_
    refine xs_then ?_
    refine k_reg ?_
    refine s_lt (t_pure (.pointer (some ⟨g5, 0, none⟩))) ?_
    refine s_lt (t_load 5 ox) ?_
    obtain ⟨pp17, cc18, e⟩ := hf14; subst e
    obtain ⟨pp19, cc20, e⟩ := hf16; subst e
    refine s_lt (t_loadA 2 #[.int .i64 y9.id, .int .i64 y9.size, .int .i64 y9.weak, (.slice pp17 y9.refs.length cc18), (.slice pp19 y9.ents.length cc20)]) ?_
    refine s_buildSlice (e := 74) [(0, .agg #[.int .i64 y9.id, .int .i64 y9.size, .int .i64 y9.weak, (.slice pp17 y9.refs.length cc18), (.slice pp19 y9.ents.length cc20)])] #[.int .i64 y9.id, .int .i64 y9.size, .int .i64 y9.weak, (.slice pp17 y9.refs.length cc18), (.slice pp19 y9.ents.length cc20)] (fun g21 => ?_) (hb := by kernel_rfl)
    refine s_append (L := N) 4 ObT_ok Try.underlying42 (.lit 0 ObT_ok [(⟨y9.id, y9.size, y9.weak, ⟨pp17, y9.refs.length, cc18⟩, ⟨pp19, y9.ents.length, cc20⟩, y9.refs, y9.ents⟩ : Ob)]) (by show _ * 72 ≤ _; (try simp only [List.length_nil, List.length_cons, List.length_append, List.length_take, List.length_drop, List.length_set, List.length_replicate, List.length_reverse, bits_len]); omega) (by (try simp only [List.length_nil, List.length_cons, List.length_append, List.length_take, List.length_drop, List.length_set, List.length_replicate, List.length_reverse, bits_len]); omega) (fun v22 => ?_)
    refine s_fact (fun H h => ((Acc.own (T := ObT) (L := (N ++ [(⟨y9.id, y9.size, y9.weak, ⟨pp17, y9.refs.length, cc18⟩, ⟨pp19, y9.ents.length, cc20⟩, y9.refs, y9.ents⟩ : Ob)])) 4 rfl) H h).form) (fun hf23 => ?_)
    refine s_lt (t_pure (.pointer (some ⟨g5, 0, none⟩))) ?_
    refine s_store (u := v22) (m := 1) 6 #[v22, v3] ?_ (hm := by (obtain ⟨_, _, e0⟩ := hf23; rw [e0]; rfl)) (h1 := by (obtain ⟨_, _, e0⟩ := hf23; rw [e0]; rfl)) (ha' := by (obtain ⟨_, _, e0⟩ := hf23; rw [e0]; rfl))
    refine s_nil ?_
    refine xs_block ?_
    refine xs_then ?_
    refine k_reg ?_
    refine s_lt (t_add (j : Int) 1 (by (try simp only [List.length_nil, List.length_cons, List.length_append, List.length_take, List.length_drop, List.length_set, List.length_replicate, List.length_reverse, bits_len]); omega)) ?_
    refine s_lt (t_pure (.int .i64 ((j : Int) + 1))) ?_
    refine s_nil ?_
    refine xs_mem (fun _ h => frz_push (⟨y9.id, y9.size, y9.weak, ⟨pp17, y9.refs.length, cc18⟩, ⟨pp19, y9.ents.length, cc20⟩, y9.refs, y9.ents⟩ : Ob) (h.re [2, 1, 3] [])) ?_
    exact xs_round (v22, N ++ [(⟨y9.id, y9.size, y9.weak, ⟨pp17, y9.refs.length, cc18⟩, ⟨pp19, y9.ents.length, cc20⟩, y9.refs, y9.ents⟩ : Ob)], j + 1) (by show l.length - (j + 1) < l.length - j; omega) (by obtain ⟨hk1, hk2⟩ := hi6; exact ⟨by omega, map_snoc hy10 hk2 rfl⟩) (sub_of rfl ⟨⟨rfl, rfl⟩, ⟨⟨rfl, rfl⟩, ⟨⟨rfl, rfl⟩, ⟨⟨rfl, rfl⟩, ⟨⟨rfl, rfl⟩, trivial⟩⟩⟩⟩⟩) (fun _ h => h.re [3, 0, 2, 2, 2, 2] [6, 6])
  ·
    have p24 := of_decide_eq_false c7
    refine k_exit ?_
    refine xs_exit ?_
    refine xs_exit ?_
    refine xs_here ?_
    refine xs_then ?_
    refine k_seq ?_
    refine k_reg ?_
    refine s_lt (t_loadA 2 #[ox, v3]) ?_
    refine s_fact (fun H h => ((Acc.own (T := ObT) (L := N) 0 rfl) H h).form) (fun hf25 => ?_)
    refine s_store (u := .agg #[ox, v3]) (m := 2) 4 #[ox, v3] ?_ (hm := by (obtain ⟨_, _, e0⟩ := hf25; obtain ⟨_, _, e1⟩ := hf4; rw [e0, e1]; rfl)) (h1 := by (obtain ⟨_, _, e0⟩ := hf25; obtain ⟨_, _, e1⟩ := hf4; rw [e0, e1]; rfl)) (ha' := by (obtain ⟨_, _, e0⟩ := hf25; obtain ⟨_, _, e1⟩ := hf4; rw [e0, e1]; rfl))
    refine s_nil ?_
    refine xs_then ?_
    refine k_ret ?_
    obtain ⟨hk1, hk2⟩ := hi6
    obtain rfl : j = l.length := by omega
    rw [List.take_length] at hk2
    exact xs_fin [.agg #[ox, v3]] [frz (GrA ox v3 N R)] (SI.agg 2 44 4 SI.nil) (fun _ h => gr_shut (h.re [0, 2, 0] [3, 3, 3])) ⟨_, _, N, rfl, hk2, rfl⟩
end Go.Proofs.Ytipmkaabogocfaa


set_option linter.unusedSimpArgs false
set_option linter.unusedVariables false
set_option maxRecDepth 100000
set_option maxHeartbeats 2000000
namespace Go.Proofs.Ytipmkaabogocfaa
open Go.Hp Go.J Go.S
open Go.Mem (Ty KTy blk elemAt pre suf blk_pre blk_suf aget aset strK aggDesc)
theorem step0_s {Z : Zone} {ov rv : Value} {l : List Ob} {R : List Int} (hg : KnG Z ov rv l R) {F : List Asr} {cb qb : Nat} {reg pend : List Int} (hl : l.length ≤ 100000) (hp : pot l [] ≤ 1000000) (hq1 : reg.length ≤ 90000) (hq2 : pend.length ≤ 90000) : SF Try.prog 46 #[.pointer (some ⟨cb, 0, none⟩), .int .i64 0] Z (blkA cb #[ov, rv, .pointer (some ⟨qb, 0, none⟩), .slice none 0 0] 77 :: qA qb reg pend :: F) fun r Bs => r = .tuple #[] ∧ ∃ av, Bs = blkA cb #[ov, rv, .pointer (some ⟨qb, 0, none⟩), av] 77 :: qA qb (stayL (aliveR l R) reg) (pend ++ sepL (aliveR l R) reg) :: own iTy av (aliveR l R) :: F := by
  refine sf_enter Try.func46 136 [(0, .pointer (some ⟨cb, 0, none⟩)), (1, .int .i64 0)] (fun w0 => ?_)
  refine k_seq ?_
  refine k_reg ?_
  refine s_lt (t_pure (.int .i64 0)) ?_
  refine s_nil ?_
  refine xs_then ?_
  refine k_block ?_
  refine k_seq ?_
  refine k_reg ?_
  refine s_lt (t_cmp (c := true)) ?_
  refine s_lt (t_pure (.bool true)) ?_
  refine s_nil ?_
  refine xs_then ?_
  refine k_true ?_
  refine k_seq ?_
  refine k_reg ?_
  refine s_lt (t_pure (.pointer (some ⟨cb, 0, none⟩))) ?_
  refine s_lt (t_pure (.pointer (some ⟨cb, 0, none⟩))) ?_
  refine s_lt (t_pure (.pointer (some ⟨cb, 0, none⟩))) ?_
  refine s_lt (t_pure (.pointer (some ⟨cb, 0, none⟩))) ?_
  refine s_lt (t_loadA 0 #[ov, rv]) ?_
  refine s_pcall (fun _ h => Alive_s (hg.up h) hl hp) ?_
  rintro _ _ ⟨v1, rfl, rfl⟩
  rw [alive_eq]
  refine s_fact (fun H h => ((Acc.own (T := iTy) (L := (aliveR l R)) 0 rfl) H h).form) (fun hf2 => ?_)
  refine s_lt (t_pure (.tuple #[v1, .int .i64 (errI (chk 0 l))])) ?_
  refine s_lt (t_pure v1) ?_
  refine s_lt (t_pure (.int .i64 (errI (chk 0 l)))) ?_
  refine s_lt (t_pure (.pointer (some ⟨cb, 0, none⟩))) ?_
  refine s_lt (t_pure (.pointer (some ⟨cb, 3, none⟩))) ?_
  refine s_store (u := v1) (m := 1) 1 #[ov, rv, .pointer (some ⟨qb, 0, none⟩), v1] ?_ (hm := by (obtain ⟨_, _, e0⟩ := hf2; rw [e0]; rfl)) (h1 := by (obtain ⟨_, _, e0⟩ := hf2; rw [e0]; rfl)) (ha' := by (obtain ⟨_, _, e0⟩ := hf2; rw [e0]; rfl))
  refine s_nil ?_
  refine xs_then ?_
  refine k_draw ?_
  refine s_lt (t_pure (.pointer (some ⟨cb, 0, none⟩))) ?_
  refine s_lt (t_pure (.pointer (some ⟨cb, 0, none⟩))) ?_
  refine s_lt (t_pure (.pointer (some ⟨cb, 2, none⟩))) ?_
  refine s_lt (t_load 1 (.pointer (some ⟨qb, 0, none⟩))) ?_
  refine s_lt (t_pure (.pointer (some ⟨cb, 0, none⟩))) ?_
  refine s_lt (t_pure (.pointer (some ⟨cb, 0, none⟩))) ?_
  refine s_lt (t_pure (.pointer (some ⟨cb, 3, none⟩))) ?_
  refine s_lt (t_load 1 v1) ?_
  refine s_lend 0 [1] (fun _ hz => sepa_s (A := (aliveR l R)) (reg := reg) (pend := pend) hz.own (by (try simp only [List.length_nil, List.length_cons, List.length_append, List.length_take, List.length_drop, List.length_set, List.length_replicate, List.length_reverse, bits_len]); omega) (by (try simp only [List.length_nil, List.length_cons, List.length_append, List.length_take, List.length_drop, List.length_set, List.length_replicate, List.length_reverse, bits_len]); omega)) ?_
  rintro v3 _ rfl
  refine s_fact (fun H h => ((Acc.own (T := iTy) (L := (sepL (aliveR l R) reg)) 2 rfl) H h).form) (fun hf4 => ?_)
  refine s_nil ?_
  refine x_dynS (fun _ h => by kernel_rfl) ?_
  refine xs_block ?_
  exact xs_finN [] (blkA cb #[ov, rv, .pointer (some ⟨qb, 0, none⟩), v1] 77 :: qA qb (stayL (aliveR l R) reg) (pend ++ sepL (aliveR l R) reg) :: own iTy v1 (aliveR l R) :: F) SI.nil (fun _ h => h.re [3, 1, 0] [3]) ⟨rfl, v1, rfl⟩
theorem step1_s {Z : Zone} {ov rv : Value} {l : List Ob} {R : List Int} (hg : KnG Z ov rv l R) {F : List Asr} {cb qb : Nat} {av : Value} {A : List Int} (hl : l.length ≤ 100000) (hsm : ∀ o ∈ l, o.refs.length ≤ 400 ∧ o.ents.length ≤ 400) : SF Try.prog 46 #[.pointer (some ⟨cb, 0, none⟩), .int .i64 1] Z (blkA cb #[ov, rv, .pointer (some ⟨qb, 0, none⟩), av] 77 :: own iTy av A :: F) fun r Bs => r = .tuple #[] ∧ ∃ ov' l', l'.map Ob.c = l.map (unv A) ∧ Bs = blkA cb #[ov', rv, .pointer (some ⟨qb, 0, none⟩), av] 77 :: own iTy av A :: zfr Z (GrA ov' rv l' R) :: F := by
  refine sf_enter Try.func46 136 [(0, .pointer (some ⟨cb, 0, none⟩)), (1, .int .i64 1)] (fun w0 => ?_)
  refine k_seq ?_
  refine k_reg ?_
  refine s_lt (t_pure (.int .i64 1)) ?_
  refine s_nil ?_
  refine xs_then ?_
  refine k_block ?_
  refine k_seq ?_
  refine k_reg ?_
  refine s_lt (t_cmp (c := false)) ?_
  refine s_lt (t_pure (.bool false)) ?_
  refine s_nil ?_
  refine xs_then ?_
  refine k_false ?_
  refine k_seq ?_
  refine k_reg ?_
  refine s_lt (t_cmp (c := true)) ?_
  refine s_lt (t_pure (.bool true)) ?_
  refine s_nil ?_
  refine xs_then ?_
  refine k_true ?_
  refine k_seq ?_
  refine k_reg ?_
  refine s_lt (t_pure (.pointer (some ⟨cb, 0, none⟩))) ?_
  refine s_lt (t_pure (.pointer (some ⟨cb, 0, none⟩))) ?_
  refine s_lt (t_pure (.pointer (some ⟨cb, 3, none⟩))) ?_
  refine s_lt (t_load 0 av) ?_
  refine s_pcall (fun _ h => set_s (L := A) (Acc.kn (.own 1) h)) ?_
  rintro _ _ ⟨mp1, rfl, rfl⟩
  refine s_lt (t_pure (.map (some mp1))) ?_
  refine s_nil ?_
  refine xs_then ?_
  refine k_seq ?_
  refine k_reg ?_
  refine s_lt (t_pure (.slice none 0 0)) ?_
  refine s_nil ?_
  refine xs_then ?_
  refine k_seq ?_
  refine k_seq ?_
  refine k_reg ?_
  refine s_lt (t_pure (.pointer (some ⟨cb, 0, none⟩))) ?_
  refine s_lt (t_pure (.pointer (some ⟨cb, 0, none⟩))) ?_
  refine s_lt (t_pure (.pointer (some ⟨cb, 0, none⟩))) ?_
  refine s_lt (t_pure (.pointer (some ⟨cb, 0, none⟩))) ?_
  refine s_lt (t_load 1 ov) ?_
  refine s_lt (t_len ObT_ok Try.underlying42 (.zn hg.obs)) ?_
  refine s_lt (t_pure (.int .i64 0)) ?_
  refine s_nil ?_
  refine xs_then ?_
  refine k_block ?_
  refine k_mem (fun _ h => Holds.nilS (T := ObT) (zall_nil h)) ?_
  refine k_loop (ι := Value × List Ob × Nat) (fun (ox, N, j) => j ≤ l.length ∧ N.map Ob.c = (l.take j).map (unv A)) (fun (ox, N, j) => [(0, .pointer (some ⟨cb, 0, none⟩)), (4, .map (some mp1)), (5, ox), (49, ov), (50, .int .i64 (l.length : Int)), (51, .int .i64 (j : Int))]) (fun (ox, N, j) => own ObT ox N :: zfr Z (AllO N) :: mpA (Go.Mem.intK 3) bV mp1 (setL A) :: blkA cb #[ov, rv, .pointer (some ⟨qb, 0, none⟩), av] 77 :: own iTy av A :: F) (fun (ox, N, j) => l.length - j) (.slice none 0 0, [], 0) ⟨Nat.zero_le _, rfl⟩ (sub_of rfl ⟨⟨rfl, rfl⟩, ⟨⟨rfl, rfl⟩, ⟨⟨rfl, rfl⟩, ⟨⟨rfl, rfl⟩, ⟨⟨rfl, rfl⟩, ⟨⟨rfl, rfl⟩, trivial⟩⟩⟩⟩⟩⟩) (fun _ h => h.re [0, 0, 0, 0, 0] []) ?_
  rintro ⟨ox, N, j⟩ hi2
  replace hi2 : j ≤ l.length ∧ N.map Ob.c = (l.take j).map (unv A) := hi2
  show SK _ _ _ _ _ [(0, .pointer (some ⟨cb, 0, none⟩)), (4, .map (some mp1)), (5, ox), (49, ov), (50, .int .i64 (l.length : Int)), (51, .int .i64 (j : Int))] _ (own ObT ox N :: zfr Z (AllO N) :: mpA (Go.Mem.intK 3) bV mp1 (setL A) :: blkA cb #[ov, rv, .pointer (some ⟨qb, 0, none⟩), av] 77 :: own iTy av A :: F)
  have hNl : N.length = j := by have := congrArg List.length hi2.2; simp only [List.length_map, List.length_take] at this; omega
  refine k_seq ?_
  refine k_reg ?_
  refine s_lt t_cmp ?_
  refine s_nil ?_
  refine xs_then ?_
  refine k_seq ?_
  refine k_cond (decide ((j : Int) < (l.length : Int))) (fun c3 => ?_) (fun c3 => ?_)
  ·
    have p4 := of_decide_eq_true c3
    refine k_skip ?_
    refine xs_then ?_
    refine k_seq ?_
    refine k_block ?_
    refine k_seq ?_
    refine k_reg ?_
    refine s_lt (t_index ObT_ok Try.underlying42 (.zn hg.obs) (j : Int) j (by omega) (by (try simp only [List.length_nil, List.length_cons, List.length_append, List.length_take, List.length_drop, List.length_set, List.length_replicate, List.length_reverse, bits_len]); omega) (by omega)) ?_
    obtain ⟨y5, hy6⟩ : ∃ y, l[j]? = some y := ⟨_, List.getElem?_eq_getElem (by (try simp only [List.length_nil, List.length_cons, List.length_append, List.length_take, List.length_drop, List.length_set, List.length_replicate, List.length_reverse, bits_len]); omega)⟩
    have hk7 := hg.each y5 (List.mem_of_getElem? hy6)
    refine s_lt (t_loadE ObT_ok (.zn hg.obs) hy6) ?_
    refine s_alloc (.agg #[.int .i64 0, .int .i64 0, .int .i64 0, (.slice none 0 0), (.slice none 0 0)]) #[.int .i64 0, .int .i64 0, .int .i64 0, (.slice none 0 0), (.slice none 0 0)] (fun g8 => ?_)
    refine s_store 0 #[.int .i64 y5.id, .int .i64 y5.size, .int .i64 y5.weak, y5.rv.v, y5.ev.v] ?_
    refine s_nil ?_
    refine xs_then ?_
    refine k_reg ?_
    refine s_lt (t_pure ox) ?_
    refine s_lt (t_loadA 0 #[.int .i64 y5.id, .int .i64 y5.size, .int .i64 y5.weak, y5.rv.v, y5.ev.v]) ?_
    refine s_lt (t_pure (.map (some mp1))) ?_
    refine s_call [3] (cleared_s (A := A) hk7 (hsm y5 (List.mem_of_getElem? hy6))) ?_
    rintro _ _ ⟨x9, rfl, hx10, rfl⟩
    refine s_buildSlice (e := 74) [(0, .agg #[.int .i64 x9.id, .int .i64 x9.size, .int .i64 x9.weak, x9.rv.v, x9.ev.v])] #[.int .i64 x9.id, .int .i64 x9.size, .int .i64 x9.weak, x9.rv.v, x9.ev.v] (fun g11 => ?_) (hb := by kernel_rfl)
    refine s_append (L := N) 4 ObT_ok Try.underlying42 (.lit 0 ObT_ok [x9]) (by show _ * 72 ≤ _; (try simp only [List.length_nil, List.length_cons, List.length_append, List.length_take, List.length_drop, List.length_set, List.length_replicate, List.length_reverse, bits_len]); omega) (by (try simp only [List.length_nil, List.length_cons, List.length_append, List.length_take, List.length_drop, List.length_set, List.length_replicate, List.length_reverse, bits_len]); omega) (fun v12 => ?_)
    refine s_fact (fun H h => ((Acc.own (T := ObT) (L := (N ++ [x9])) 4 rfl) H h).form) (fun hf13 => ?_)
    refine s_lt (t_pure v12) ?_
    refine s_nil ?_
    refine xs_block ?_
    refine xs_then ?_
    refine k_reg ?_
    refine s_lt (t_add (j : Int) 1 (by (try simp only [List.length_nil, List.length_cons, List.length_append, List.length_take, List.length_drop, List.length_set, List.length_replicate, List.length_reverse, bits_len]); omega)) ?_
    refine s_lt (t_pure (.int .i64 ((j : Int) + 1))) ?_
    refine s_nil ?_
    refine xs_mem (fun _ h => zall_push x9 (h.re [1, 4] [])) ?_
    exact xs_round (v12, N ++ [x9], j + 1) (by show l.length - (j + 1) < l.length - j; omega) (by obtain ⟨hk1, hk2⟩ := hi2; exact ⟨by omega, map_snoc hy6 hk2 hx10⟩) (sub_of rfl ⟨⟨rfl, rfl⟩, ⟨⟨rfl, rfl⟩, ⟨⟨rfl, rfl⟩, ⟨⟨rfl, rfl⟩, ⟨⟨rfl, rfl⟩, ⟨⟨rfl, rfl⟩, trivial⟩⟩⟩⟩⟩⟩) (fun _ h => h.re [4, 0, 1, 2, 2] [5, 5])
  ·
    have p14 := of_decide_eq_false c3
    refine k_exit ?_
    refine xs_exit ?_
    refine xs_exit ?_
    refine xs_here ?_
    refine xs_then ?_
    refine k_reg ?_
    refine s_lt (t_pure (.pointer (some ⟨cb, 0, none⟩))) ?_
    refine s_lt (t_pure ox) ?_
    refine s_lt (t_pure (.pointer (some ⟨cb, 0, none⟩))) ?_
    refine s_lt (t_pure (.pointer (some ⟨cb, 0, none⟩))) ?_
    refine s_lt (t_pure (.pointer (some ⟨cb, 0, none⟩))) ?_
    refine s_fact (fun H h => ((Acc.own (T := ObT) (L := N) 0 rfl) H h).form) (fun hf15 => ?_)
    refine s_store (u := ox) (m := 1) 3 #[ox, rv, .pointer (some ⟨qb, 0, none⟩), av] ?_ (hm := by (obtain ⟨_, _, e0⟩ := hf15; rw [e0]; rfl)) (h1 := by (obtain ⟨_, _, e0⟩ := hf15; rw [e0]; rfl)) (ha' := by (obtain ⟨_, _, e0⟩ := hf15; rw [e0]; rfl))
    refine s_nil ?_
    refine xs_block ?_
    obtain ⟨hk1, hk2⟩ := hi2
    obtain rfl : j = l.length := by omega
    rw [List.take_length] at hk2
    exact xs_finN [] (blkA cb #[ox, rv, .pointer (some ⟨qb, 0, none⟩), av] 77 :: own iTy av A :: zfr Z (GrA ox rv N R) :: F) SI.nil (fun _ h => (zgr_shut hg.roots (h.re [0, 0, 1, 1] [4])).re [1, 1] []) ⟨rfl, _, N, hk2, rfl⟩
theorem step2_s {Z : Zone} {ov rv : Value} {l : List Ob} {R : List Int} {F : List Asr} {cb qb : Nat} {reg pend : List Int} {av : Value} {A : List Int} (hl : l.length ≤ 100000) (hp : pot l [] ≤ 1000000) (hr : R.length ≤ 100000) (hq2 : pend.length ≤ 200000) : SF Try.prog 46 #[.pointer (some ⟨cb, 0, none⟩), .int .i64 2] Z (blkA cb #[ov, rv, .pointer (some ⟨qb, 0, none⟩), av] 77 :: own iTy av A :: zfr Z (GrA ov rv l R) :: qA qb reg pend :: F) fun r Bs => r = .tuple #[] ∧ ∃ av, Bs = blkA cb #[ov, rv, .pointer (some ⟨qb, 0, none⟩), av] 77 :: own iTy av (aliveR l (R ++ pend)) :: zfr Z (GrA ov rv l R) :: qA qb reg pend :: F := by
  refine sf_enter Try.func46 136 [(0, .pointer (some ⟨cb, 0, none⟩)), (1, .int .i64 2)] (fun w0 => ?_)
  refine k_seq ?_
  refine k_reg ?_
  refine s_lt (t_pure (.int .i64 2)) ?_
  refine s_nil ?_
  refine xs_then ?_
  refine k_block ?_
  refine k_seq ?_
  refine k_reg ?_
  refine s_lt (t_cmp (c := false)) ?_
  refine s_lt (t_pure (.bool false)) ?_
  refine s_nil ?_
  refine xs_then ?_
  refine k_false ?_
  refine k_seq ?_
  refine k_reg ?_
  refine s_lt (t_cmp (c := false)) ?_
  refine s_lt (t_pure (.bool false)) ?_
  refine s_nil ?_
  refine xs_then ?_
  refine k_false ?_
  refine k_seq ?_
  refine k_reg ?_
  refine s_lt (t_cmp (c := true)) ?_
  refine s_lt (t_pure (.bool true)) ?_
  refine s_nil ?_
  refine xs_then ?_
  refine k_true ?_
  refine k_seq ?_
  refine k_reg ?_
  refine s_lt (t_pure (.pointer (some ⟨cb, 0, none⟩))) ?_
  refine s_lt (t_pure (.pointer (some ⟨cb, 0, none⟩))) ?_
  refine s_lt (t_pure (.pointer (some ⟨cb, 0, none⟩))) ?_
  refine s_lt (t_loadA 0 #[ov, rv]) ?_
  refine s_alloc (.agg #[(.slice none 0 0), (.slice none 0 0)]) #[(.slice none 0 0), (.slice none 0 0)] (fun g1 => ?_)
  refine s_fact (fun H h => ((show Acc _ _ ObT _ _ from (accZF 3)) H h).form) (fun hf2 => ?_)
  refine s_fact (fun H h => ((show Acc _ _ iTy _ _ from (accZR 3)) H h).form) (fun hf3 => ?_)
  refine s_store (u := .agg #[ov, rv]) (m := 2) 0 #[ov, rv] ?_ (hm := by (obtain ⟨_, _, e0⟩ := hf2; obtain ⟨_, _, e1⟩ := hf3; rw [e0, e1]; rfl)) (h1 := by (obtain ⟨_, _, e0⟩ := hf2; obtain ⟨_, _, e1⟩ := hf3; rw [e0, e1]; rfl)) (ha' := by (obtain ⟨_, _, e0⟩ := hf2; obtain ⟨_, _, e1⟩ := hf3; rw [e0, e1]; rfl))
  refine s_nil ?_
  refine xs_then ?_
  refine k_seq ?_
  refine k_held [blkA cb #[ov, rv, .pointer (some ⟨qb, 0, none⟩), av] 77, own iTy av A] ?_
  refine h_lt 0 rfl (np_then (np_block np_finS)) [1, 1] (fun _ => (t_pure (.pointer (some ⟨g1, 1, none⟩)))) ?_
  refine h_lt 3 rfl (np_then (np_block np_finS)) [1, 1] (fun _ => (t_pure (.pointer (some ⟨cb, 0, none⟩)))) ?_
  refine h_lt 4 rfl (np_then (np_block np_finS)) [1, 1] (fun _ => (t_pure (.pointer (some ⟨cb, 0, none⟩)))) ?_
  refine h_lt 5 rfl (np_then (np_block np_finS)) [1, 1] (fun _ => (t_pure (.pointer (some ⟨cb, 2, none⟩)))) ?_
  refine h_lt 6 rfl (np_then (np_block np_finS)) [1, 1] (fun _ => (t_load 0 (.pointer (some ⟨qb, 0, none⟩)))) ?_
  refine h_stepS 1 ?_
  refine s_lt (t_load 0 rv) ?_
  refine s_nil (xs_held [1, 1] ?_)
  refine h_stepS 2 ?_
  refine s_pcall (fun _ h => clone_s (Acc.kn (accZR 3) h) (by (try simp only [List.length_nil, List.length_cons, List.length_append, List.length_take, List.length_drop, List.length_set, List.length_replicate, List.length_reverse, bits_len]); omega)) ?_
  rintro v4 _ rfl
  refine s_fact (fun H h => ((Acc.own (T := iTy) (L := R) 0 rfl) H h).form) (fun hf5 => ?_)
  refine s_nil (xs_held [2, 2] ?_)
  refine h_stepS 7 ?_
  refine s_call [5] (pending_s (pend := pend) (by (try simp only [List.length_nil, List.length_cons, List.length_append, List.length_take, List.length_drop, List.length_set, List.length_replicate, List.length_reverse, bits_len]); omega)) ?_
  rintro v6 _ rfl
  refine s_fact (fun H h => ((Acc.own (T := iTy) (L := pend) 0 rfl) H h).form) (fun hf7 => ?_)
  refine s_nil (xs_held [4, 4] ?_)
  refine h_stepS 8 ?_
  refine s_append (L := R) 2 iTy_ok Try.underlying22 (.own 0) (by show _ * 8 ≤ _; (try simp only [List.length_nil, List.length_cons, List.length_append, List.length_take, List.length_drop, List.length_set, List.length_replicate, List.length_reverse, bits_len]); omega) (by (try simp only [List.length_nil, List.length_cons, List.length_append, List.length_take, List.length_drop, List.length_set, List.length_replicate, List.length_reverse, bits_len]); omega) (fun v8 => ?_)
  refine s_fact (fun H h => ((Acc.own (T := iTy) (L := (R ++ pend)) 2 rfl) H h).form) (fun hf9 => ?_)
  refine s_nil (xs_held [4, 4] ?_)
  refine h_lt 9 rfl (np_then (np_block np_finS)) [4, 4] (fun _ => (t_pure (.pointer (some ⟨g1, 1, none⟩)))) ?_
  refine h_stepS 10 ?_
  refine s_store (u := v8) (m := 1) 3 #[ov, v8] ?_ (hm := by (obtain ⟨_, _, e0⟩ := hf9; rw [e0]; rfl)) (h1 := by (obtain ⟨_, _, e0⟩ := hf9; rw [e0]; rfl)) (ha' := by (obtain ⟨_, _, e0⟩ := hf9; rw [e0]; rfl))
  refine s_nil (xs_held [4, 4] ?_)
  refine h_doneS ?_
  refine xs_then ?_
  refine k_reg ?_
  refine s_lt (t_pure (.pointer (some ⟨cb, 0, none⟩))) ?_
  refine s_lt (t_loadA 3 #[ov, v8]) ?_
  refine s_pcall (fun _ h => Alive_s (gr_more (h.zfrF 6) (h.knS 2)) hl hp) ?_
  rintro _ _ ⟨v10, rfl, rfl⟩
  rw [alive_eq]
  refine s_fact (fun H h => ((Acc.own (T := iTy) (L := (aliveR l (R ++ pend))) 0 rfl) H h).form) (fun hf11 => ?_)
  refine s_lt (t_pure (.tuple #[v10, .int .i64 (errI (chk 0 l))])) ?_
  refine s_lt (t_pure v10) ?_
  refine s_lt (t_pure (.int .i64 (errI (chk 0 l)))) ?_
  refine s_lt (t_pure (.pointer (some ⟨cb, 0, none⟩))) ?_
  refine s_lt (t_pure (.pointer (some ⟨cb, 3, none⟩))) ?_
  refine s_store (u := v10) (m := 1) 5 #[ov, rv, .pointer (some ⟨qb, 0, none⟩), v10] ?_ (hm := by (obtain ⟨_, _, e0⟩ := hf11; rw [e0]; rfl)) (h1 := by (obtain ⟨_, _, e0⟩ := hf11; rw [e0]; rfl)) (ha' := by (obtain ⟨_, _, e0⟩ := hf11; rw [e0]; rfl))
  refine s_nil ?_
  refine xs_block ?_
  exact xs_finN [] (blkA cb #[ov, rv, .pointer (some ⟨qb, 0, none⟩), v10] 77 :: own iTy v10 (aliveR l (R ++ pend)) :: zfr Z (GrA ov rv l R) :: qA qb reg pend :: F) SI.nil (fun _ h => h.re [5, 0, 5, 1] [4, 4, 4, 4]) ⟨rfl, v10, rfl⟩
theorem step3_s {Z : Zone} {ov rv : Value} {l : List Ob} {R : List Int} {F : List Asr} {cb qb : Nat} {av : Value} {B : List Int} (hl : l.length ≤ 100000) (hr : R.length ≤ 100000) (hsm : ∀ o ∈ l, o.refs.length ≤ 400 ∧ o.ents.length ≤ 400) (hlB : B.length ≤ 100000) (hok : (chk 0 l && ascA 0 B) = true) : SF Try.prog 46 #[.pointer (some ⟨cb, 0, none⟩), .int .i64 3] Z (blkA cb #[ov, rv, .pointer (some ⟨qb, 0, none⟩), av] 77 :: own iTy av B :: zfr Z (GrA ov rv l R) :: F) fun r Bs => r = .tuple #[] ∧ ∃ ov' l', l'.map Ob.c = lastL B (l.map (clr B)) ∧ Bs = blkA cb #[ov', rv, .pointer (some ⟨qb, 0, none⟩), av] 77 :: own iTy av B :: zfr Z (GrA ov' rv l' R) :: F := by
  refine sf_enter Try.func46 136 [(0, .pointer (some ⟨cb, 0, none⟩)), (1, .int .i64 3)] (fun w0 => ?_)
  refine k_seq ?_
  refine k_reg ?_
  refine s_lt (t_pure (.int .i64 3)) ?_
  refine s_nil ?_
  refine xs_then ?_
  refine k_block ?_
  refine k_seq ?_
  refine k_reg ?_
  refine s_lt (t_cmp (c := false)) ?_
  refine s_lt (t_pure (.bool false)) ?_
  refine s_nil ?_
  refine xs_then ?_
  refine k_false ?_
  refine k_seq ?_
  refine k_reg ?_
  refine s_lt (t_cmp (c := false)) ?_
  refine s_lt (t_pure (.bool false)) ?_
  refine s_nil ?_
  refine xs_then ?_
  refine k_false ?_
  refine k_seq ?_
  refine k_reg ?_
  refine s_lt (t_cmp (c := false)) ?_
  refine s_lt (t_pure (.bool false)) ?_
  refine s_nil ?_
  refine xs_then ?_
  refine k_false ?_
  refine k_seq ?_
  refine k_reg ?_
  refine s_lt (t_cmp (c := true)) ?_
  refine s_lt (t_pure (.bool true)) ?_
  refine s_nil ?_
  refine xs_then ?_
  refine k_true ?_
  refine k_seq ?_
  refine k_held [blkA cb #[ov, rv, .pointer (some ⟨qb, 0, none⟩), av] 77, own iTy av B] ?_
  refine h_lt 0 rfl (np_then (np_block np_finS)) [0, 0] (fun _ => (t_pure (.pointer (some ⟨cb, 0, none⟩)))) ?_
  refine h_lt 1 rfl (np_then (np_block np_finS)) [0, 0] (fun _ => (t_pure (.pointer (some ⟨cb, 0, none⟩)))) ?_
  refine h_lt 2 rfl (np_then (np_block np_finS)) [0, 0] (fun _ => (t_pure (.pointer (some ⟨cb, 0, none⟩)))) ?_
  refine h_lt 3 rfl (np_then (np_block np_finS)) [0, 0] (fun _ => (t_loadA 0 #[ov, rv])) ?_
  refine h_lt 4 rfl (np_then (np_block np_finS)) [0, 0] (fun _ => (t_pure (.pointer (some ⟨cb, 0, none⟩)))) ?_
  refine h_lt 5 rfl (np_then (np_block np_finS)) [0, 0] (fun _ => (t_pure (.pointer (some ⟨cb, 0, none⟩)))) ?_
  refine h_lt 6 rfl (np_then (np_block np_finS)) [0, 0] (fun _ => (t_pure (.pointer (some ⟨cb, 3, none⟩)))) ?_
  refine h_lt 7 rfl (np_then (np_block np_finS)) [0, 0] (fun _ => (t_load 0 av)) ?_
  refine h_stepS2 8 12 ?_ ?_
  ·
    refine s_pcall (fun _ h => Clear_s (GrA.kn (h.zfrF 2)) (Acc.kn (.own 1) h) hlB hl hr hsm) ?_
    rintro _ _ ⟨ov1, rv2, l3, R4, rfl, hl5, hR6, rfl⟩
    refine s_nil (xs_held [1, 1] ?_)
    refine h_lt 9 rfl (np_then (np_block np_finS)) [1, 1] (fun _ => (t_pure (.tuple #[.agg #[ov1, rv2], .int .i64 (errI (chk 0 l && ascA 0 B))]))) ?_
    refine h_lt 10 rfl (np_then (np_block np_finS)) [1, 1] (fun _ => (t_pure (.agg #[ov1, rv2]))) ?_
    refine h_lt 11 rfl (np_then (np_block np_finS)) [1, 1] (fun _ => (t_pure (.int .i64 (errI (chk 0 l && ascA 0 B))))) ?_
    refine h_stepS 12 ?_
    refine s_alloc (.agg #[(.slice none 0 0), (.slice none 0 0)]) #[(.slice none 0 0), (.slice none 0 0)] (fun g7 => ?_)
    refine s_nil (xs_held [2, 2] ?_)
    refine h_stepS 13 ?_
    refine s_fact (fun H h => ((show Acc _ _ ObT _ _ from (accF 1)) H h).form) (fun hf8 => ?_)
    refine s_fact (fun H h => ((show Acc _ _ iTy _ _ from (accR 1)) H h).form) (fun hf9 => ?_)
    refine s_store (u := .agg #[ov1, rv2]) (m := 2) 0 #[ov1, rv2] ?_ (hm := by (obtain ⟨_, _, e0⟩ := hf8; obtain ⟨_, _, e1⟩ := hf9; rw [e0, e1]; rfl)) (h1 := by (obtain ⟨_, _, e0⟩ := hf8; obtain ⟨_, _, e1⟩ := hf9; rw [e0, e1]; rfl)) (ha' := by (obtain ⟨_, _, e0⟩ := hf8; obtain ⟨_, _, e1⟩ := hf9; rw [e0, e1]; rfl))
    refine s_nil (xs_held [2, 2] ?_)
    refine h_lt 14 rfl (np_then (np_block np_finS)) [2, 2] (fun _ => (t_pure (.int .i64 (errI (chk 0 l && ascA 0 B))))) ?_
    refine h_doneS ?_
    refine xs_then ?_
    refine k_seq ?_
    refine k_reg ?_
    refine s_lt (t_pure (.pointer (some ⟨cb, 0, none⟩))) ?_
    refine s_lt (t_pure (.pointer (some ⟨cb, 0, none⟩))) ?_
    refine s_lt (t_pure (.pointer (some ⟨cb, 3, none⟩))) ?_
    refine s_lt (t_load 2 av) ?_
    refine s_pcall (fun _ h => set_s (L := B) (Acc.kn (.own 3) h)) ?_
    rintro _ _ ⟨mp10, rfl, rfl⟩
    refine s_lt (t_pure (.map (some mp10))) ?_
    refine s_nil ?_
    refine xs_then ?_
    refine k_seq ?_
    refine k_reg ?_
    refine s_lt (t_pure (.slice none 0 0)) ?_
    refine s_nil ?_
    refine xs_then ?_
    refine k_seq ?_
    refine k_seq ?_
    refine k_reg ?_
    refine s_lt (t_pure (.pointer (some ⟨g7, 0, none⟩))) ?_
    refine s_lt (t_load 1 ov1) ?_
    refine s_lt (t_len ObT_ok Try.underlying42 (accF 2)) ?_
    refine s_lt (t_pure (.int .i64 0)) ?_
    refine s_nil ?_
    refine xs_then ?_
    refine k_block ?_
    rw [hok, if_pos rfl] at hl5 hR6
    have hlen := len_of_map hl5
    refine k_mem (fun _ h => Holds.nilS (T := ObT) h) ?_
    refine k_loop (ι := Value × List Ob × Nat) (fun (ox, N, i) => i ≤ l3.length ∧ N.map Ob.c = lastL B ((l3.take i).map Ob.c) ∧ (∀ x ∈ N, x ∈ l3) ∧ N.length ≤ i) (fun (ox, N, i) => [(0, .pointer (some ⟨cb, 0, none⟩)), (11, .map (some mp10)), (12, ox), (111, ov1), (112, .int .i64 (l3.length : Int)), (113, .int .i64 (i : Int))]) (fun (ox, N, i) => own ObT ox N :: mpA (Go.Mem.intK 3) bV mp10 (setL B) :: blkA g7 #[ov1, rv2] 44 :: frz (GrA ov1 rv2 l3 R4) :: blkA cb #[ov, rv, .pointer (some ⟨qb, 0, none⟩), av] 77 :: own iTy av B :: zfr Z (GrA ov rv l R) :: F) (fun (ox, N, i) => l3.length - i) (.slice none 0 0, [], 0) ⟨Nat.zero_le _, rfl, by simp, Nat.le_refl _⟩ (sub_of rfl ⟨⟨rfl, rfl⟩, ⟨⟨rfl, rfl⟩, ⟨⟨rfl, rfl⟩, ⟨⟨rfl, rfl⟩, ⟨⟨rfl, rfl⟩, ⟨⟨rfl, rfl⟩, trivial⟩⟩⟩⟩⟩⟩) (fun _ h => h.re [0, 0, 0, 0, 0, 0, 0] []) ?_
    rintro ⟨ox, N, i⟩ hi11
    replace hi11 : i ≤ l3.length ∧ N.map Ob.c = lastL B ((l3.take i).map Ob.c) ∧ (∀ x ∈ N, x ∈ l3) ∧ N.length ≤ i := hi11
    show SK _ _ _ _ _ [(0, .pointer (some ⟨cb, 0, none⟩)), (11, .map (some mp10)), (12, ox), (111, ov1), (112, .int .i64 (l3.length : Int)), (113, .int .i64 (i : Int))] _ (own ObT ox N :: mpA (Go.Mem.intK 3) bV mp10 (setL B) :: blkA g7 #[ov1, rv2] 44 :: frz (GrA ov1 rv2 l3 R4) :: blkA cb #[ov, rv, .pointer (some ⟨qb, 0, none⟩), av] 77 :: own iTy av B :: zfr Z (GrA ov rv l R) :: F)
    have hNl := hi11.2.2.2
    refine k_seq ?_
    refine k_reg ?_
    refine s_lt t_cmp ?_
    refine s_nil ?_
    refine xs_then ?_
    refine k_seq ?_
    refine k_cond (decide ((i : Int) < (l3.length : Int))) (fun c12 => ?_) (fun c12 => ?_)
    ·
      have p13 := of_decide_eq_true c12
      refine k_skip ?_
      refine xs_then ?_
      refine k_seq ?_
      refine k_block ?_
      refine k_seq ?_
      refine k_reg ?_
      refine s_lt (t_index ObT_ok Try.underlying42 (accF 3) (i : Int) i (by omega) (by (try simp only [List.length_nil, List.length_cons, List.length_append, List.length_take, List.length_drop, List.length_set, List.length_replicate, List.length_reverse, bits_len]); omega) (by omega)) ?_
      obtain ⟨y14, hy15⟩ : ∃ y, l3[i]? = some y := ⟨_, List.getElem?_eq_getElem (by (try simp only [List.length_nil, List.length_cons, List.length_append, List.length_take, List.length_drop, List.length_set, List.length_replicate, List.length_reverse, bits_len]); omega)⟩
      refine s_lt (t_loadE ObT_ok (accF 3) hy15) ?_
      refine s_alloc (.agg #[.int .i64 0, .int .i64 0, .int .i64 0, (.slice none 0 0), (.slice none 0 0)]) #[.int .i64 0, .int .i64 0, .int .i64 0, (.slice none 0 0), (.slice none 0 0)] (fun g16 => ?_)
      refine s_store 0 #[.int .i64 y14.id, .int .i64 y14.size, .int .i64 y14.weak, y14.rv.v, y14.ev.v] ?_
      refine s_nil ?_
      refine xs_then ?_
      refine k_seq ?_
      refine k_reg ?_
      refine s_lt (t_pure (.map (some mp10))) ?_
      refine s_lt (t_pure (.pointer (some ⟨g16, 0, none⟩))) ?_
      refine s_lt (t_load 0 (.int .i64 y14.id)) ?_
      refine s_lt (Lt.to (v' := .bool (decide (y14.id ∈ B))) (t_lookup 2 intOk Try.underlying79 (.bool false) y14.id) (got_set _ _)) ?_
      refine s_nil ?_
      refine xs_then ?_
      refine k_cond (decide (y14.id ∈ B)) (fun c17 => ?_) (fun c17 => ?_)
      ·
        have p18 := of_decide_eq_true c17
        refine k_reg ?_
        refine s_lt (t_pure ox) ?_
        refine s_lt (t_loadA 0 #[.int .i64 y14.id, .int .i64 y14.size, .int .i64 y14.weak, y14.rv.v, y14.ev.v]) ?_
        refine s_buildSlice (e := 74) [(0, .agg #[.int .i64 y14.id, .int .i64 y14.size, .int .i64 y14.weak, y14.rv.v, y14.ev.v])] #[.int .i64 y14.id, .int .i64 y14.size, .int .i64 y14.weak, y14.rv.v, y14.ev.v] (fun g19 => ?_) (hb := by kernel_rfl)
        refine s_append (L := N) 2 ObT_ok Try.underlying42 (.lit 0 ObT_ok [y14]) (by show _ * 72 ≤ _; (try simp only [List.length_nil, List.length_cons, List.length_append, List.length_take, List.length_drop, List.length_set, List.length_replicate, List.length_reverse, bits_len]); omega) (by (try simp only [List.length_nil, List.length_cons, List.length_append, List.length_take, List.length_drop, List.length_set, List.length_replicate, List.length_reverse, bits_len]); omega) (fun v20 => ?_)
        refine s_fact (fun H h => ((Acc.own (T := ObT) (L := (N ++ [y14])) 2 rfl) H h).form) (fun hf21 => ?_)
        refine s_lt (t_pure v20) ?_
        refine s_nil ?_
        refine xs_block ?_
        refine xs_then ?_
        refine k_reg ?_
        refine s_lt (t_add (i : Int) 1 (by (try simp only [List.length_nil, List.length_cons, List.length_append, List.length_take, List.length_drop, List.length_set, List.length_replicate, List.length_reverse, bits_len]); omega)) ?_
        refine s_lt (t_pure (.int .i64 ((i : Int) + 1))) ?_
        refine s_nil ?_
        exact xs_round (v20, N ++ [y14], i + 1) (by show l3.length - (i + 1) < l3.length - i; omega) (by obtain ⟨hk1, hk2, hk3, hk4⟩ := hi11; exact ⟨by omega, last_yes hy15 p18 hk2, fun x hx => by rcases List.mem_append.1 hx with hx | hx; exact hk3 x hx; simp at hx; subst hx; exact List.mem_of_getElem? hy15, by rw [List.length_append]; simp only [List.length_singleton]; omega⟩) (sub_of rfl ⟨⟨rfl, rfl⟩, ⟨⟨rfl, rfl⟩, ⟨⟨rfl, rfl⟩, ⟨⟨rfl, rfl⟩, ⟨⟨rfl, rfl⟩, ⟨⟨rfl, rfl⟩, trivial⟩⟩⟩⟩⟩⟩) (fun _ h => h.re [2, 2, 2, 2, 2, 2, 2] [7, 7])
      ·
        have p22 := of_decide_eq_false c17
        refine k_skip ?_
        refine xs_block ?_
        refine xs_then ?_
        refine k_reg ?_
        refine s_lt (t_add (i : Int) 1 (by (try simp only [List.length_nil, List.length_cons, List.length_append, List.length_take, List.length_drop, List.length_set, List.length_replicate, List.length_reverse, bits_len]); omega)) ?_
        refine s_lt (t_pure (.int .i64 ((i : Int) + 1))) ?_
        refine s_nil ?_
        exact xs_round (ox, N, i + 1) (by show l3.length - (i + 1) < l3.length - i; omega) (by obtain ⟨hk1, hk2, hk3, hk4⟩ := hi11; exact ⟨by omega, last_no hy15 p22 hk2, hk3, by omega⟩) (sub_of rfl ⟨⟨rfl, rfl⟩, ⟨⟨rfl, rfl⟩, ⟨⟨rfl, rfl⟩, ⟨⟨rfl, rfl⟩, ⟨⟨rfl, rfl⟩, ⟨⟨rfl, rfl⟩, trivial⟩⟩⟩⟩⟩⟩) (fun _ h => h.re [1, 1, 1, 1, 1, 1, 1] [7])
    ·
      have p23 := of_decide_eq_false c12
      refine k_exit ?_
      refine xs_exit ?_
      refine xs_exit ?_
      refine xs_here ?_
      refine xs_then ?_
      refine k_reg ?_
      refine s_lt (t_pure (.pointer (some ⟨cb, 0, none⟩))) ?_
      refine s_lt (t_pure ox) ?_
      refine s_lt (t_pure (.pointer (some ⟨cb, 0, none⟩))) ?_
      refine s_lt (t_pure (.pointer (some ⟨cb, 0, none⟩))) ?_
      refine s_lt (t_pure (.pointer (some ⟨cb, 0, none⟩))) ?_
      refine s_lt (t_pure (.pointer (some ⟨cb, 1, none⟩))) ?_
      refine s_lt (t_load 4 rv) ?_
      refine s_fact (fun H h => ((Acc.own (T := ObT) (L := N) 0 rfl) H h).form) (fun hf24 => ?_)
      refine s_fact (fun H h => ((show Acc _ _ iTy _ _ from (accZR 6)) H h).form) (fun hf25 => ?_)
      refine s_lt (show Lt _ _ _ _ _ (.agg #[ox, rv]) from by obtain ⟨_, _, e⟩ := hf24; rw [e]; clear e; obtain ⟨_, _, e⟩ := hf25; rw [e]; clear e; exact t_kern _) ?_
      refine s_lt (t_pure (.pointer (some ⟨cb, 0, none⟩))) ?_
      refine s_lt (t_pure (.pointer (some ⟨cb, 0, none⟩))) ?_
      refine s_store (u := .agg #[ox, rv]) (m := 2) 4 #[ox, rv, .pointer (some ⟨qb, 0, none⟩), av] ?_ (hm := by (obtain ⟨_, _, e0⟩ := hf24; obtain ⟨_, _, e1⟩ := hf25; rw [e0, e1]; rfl)) (h1 := by (obtain ⟨_, _, e0⟩ := hf24; obtain ⟨_, _, e1⟩ := hf25; rw [e0, e1]; rfl)) (ha' := by (obtain ⟨_, _, e0⟩ := hf24; obtain ⟨_, _, e1⟩ := hf25; rw [e0, e1]; rfl))
      refine s_nil ?_
      refine xs_block ?_
      obtain ⟨hk1, hk2, hk3, hk4⟩ := hi11
      obtain rfl : i = l3.length := by omega
      rw [List.take_length, hl5] at hk2
      exact xs_finN [] (blkA cb #[ox, rv, .pointer (some ⟨qb, 0, none⟩), av] 77 :: own iTy av B :: zfr Z (GrA ox rv N R) :: F) SI.nil (fun _ h => (zgr_cut hk3 (h.re [0, 2, 4, 2, 2] [5, 5])).re [1, 1] []) ⟨rfl, _, N, hk2, rfl⟩
  ·
    refine s_alloc (.agg #[(.slice none 0 0), (.slice none 0 0)]) #[(.slice none 0 0), (.slice none 0 0)] (fun g26 => ?_)
    refine s_nil (xs_held [1, 1] ?_)
    refine h_stepS 8 ?_
    refine s_pcall (fun _ h => Clear_s (GrA.kn (h.zfrF 3)) (Acc.kn (.own 2) h) hlB hl hr hsm) ?_
    rintro _ _ ⟨ov27, rv28, l29, R30, rfl, hl31, hR32, rfl⟩
    refine s_nil (xs_held [2, 2] ?_)
    refine h_lt 9 rfl (np_then (np_block np_finS)) [2, 2] (fun _ => (t_pure (.tuple #[.agg #[ov27, rv28], .int .i64 (errI (chk 0 l && ascA 0 B))]))) ?_
    refine h_lt 10 rfl (np_then (np_block np_finS)) [2, 2] (fun _ => (t_pure (.agg #[ov27, rv28]))) ?_
    refine h_lt 11 rfl (np_then (np_block np_finS)) [2, 2] (fun _ => (t_pure (.int .i64 (errI (chk 0 l && ascA 0 B))))) ?_
    refine h_stepS 13 ?_
    refine s_fact (fun H h => ((show Acc _ _ ObT _ _ from (accF 0)) H h).form) (fun hf33 => ?_)
    refine s_fact (fun H h => ((show Acc _ _ iTy _ _ from (accR 0)) H h).form) (fun hf34 => ?_)
    refine s_store (u := .agg #[ov27, rv28]) (m := 2) 1 #[ov27, rv28] ?_ (hm := by (obtain ⟨_, _, e0⟩ := hf33; obtain ⟨_, _, e1⟩ := hf34; rw [e0, e1]; rfl)) (h1 := by (obtain ⟨_, _, e0⟩ := hf33; obtain ⟨_, _, e1⟩ := hf34; rw [e0, e1]; rfl)) (ha' := by (obtain ⟨_, _, e0⟩ := hf33; obtain ⟨_, _, e1⟩ := hf34; rw [e0, e1]; rfl))
    refine s_nil (xs_held [2, 2] ?_)
    refine h_lt 14 rfl (np_then (np_block np_finS)) [2, 2] (fun _ => (t_pure (.int .i64 (errI (chk 0 l && ascA 0 B))))) ?_
    refine h_doneS ?_
    refine xs_then ?_
    refine k_seq ?_
    refine k_reg ?_
    refine s_lt (t_pure (.pointer (some ⟨cb, 0, none⟩))) ?_
    refine s_lt (t_pure (.pointer (some ⟨cb, 0, none⟩))) ?_
    refine s_lt (t_pure (.pointer (some ⟨cb, 3, none⟩))) ?_
    refine s_lt (t_load 2 av) ?_
    refine s_pcall (fun _ h => set_s (L := B) (Acc.kn (.own 3) h)) ?_
    rintro _ _ ⟨mp35, rfl, rfl⟩
    refine s_lt (t_pure (.map (some mp35))) ?_
    refine s_nil ?_
    refine xs_then ?_
    refine k_seq ?_
    refine k_reg ?_
    refine s_lt (t_pure (.slice none 0 0)) ?_
    refine s_nil ?_
    refine xs_then ?_
    refine k_seq ?_
    refine k_seq ?_
    refine k_reg ?_
    refine s_lt (t_pure (.pointer (some ⟨g26, 0, none⟩))) ?_
    refine s_lt (t_load 2 ov27) ?_
    refine s_lt (t_len ObT_ok Try.underlying42 (accF 1)) ?_
    refine s_lt (t_pure (.int .i64 0)) ?_
    refine s_nil ?_
    refine xs_then ?_
    refine k_block ?_
    rw [hok, if_pos rfl] at hl31 hR32
    have hlen := len_of_map hl31
    refine k_mem (fun _ h => Holds.nilS (T := ObT) h) ?_
    refine k_loop (ι := Value × List Ob × Nat) (fun (ox, N, i) => i ≤ l29.length ∧ N.map Ob.c = lastL B ((l29.take i).map Ob.c) ∧ (∀ x ∈ N, x ∈ l29) ∧ N.length ≤ i) (fun (ox, N, i) => [(0, .pointer (some ⟨cb, 0, none⟩)), (11, .map (some mp35)), (12, ox), (111, ov27), (112, .int .i64 (l29.length : Int)), (113, .int .i64 (i : Int))]) (fun (ox, N, i) => own ObT ox N :: mpA (Go.Mem.intK 3) bV mp35 (setL B) :: frz (GrA ov27 rv28 l29 R30) :: blkA g26 #[ov27, rv28] 44 :: blkA cb #[ov, rv, .pointer (some ⟨qb, 0, none⟩), av] 77 :: own iTy av B :: zfr Z (GrA ov rv l R) :: F) (fun (ox, N, i) => l29.length - i) (.slice none 0 0, [], 0) ⟨Nat.zero_le _, rfl, by simp, Nat.le_refl _⟩ (sub_of rfl ⟨⟨rfl, rfl⟩, ⟨⟨rfl, rfl⟩, ⟨⟨rfl, rfl⟩, ⟨⟨rfl, rfl⟩, ⟨⟨rfl, rfl⟩, ⟨⟨rfl, rfl⟩, trivial⟩⟩⟩⟩⟩⟩) (fun _ h => h.re [0, 0, 0, 0, 0, 0, 0] []) ?_
    rintro ⟨ox, N, i⟩ hi36
    replace hi36 : i ≤ l29.length ∧ N.map Ob.c = lastL B ((l29.take i).map Ob.c) ∧ (∀ x ∈ N, x ∈ l29) ∧ N.length ≤ i := hi36
    show SK _ _ _ _ _ [(0, .pointer (some ⟨cb, 0, none⟩)), (11, .map (some mp35)), (12, ox), (111, ov27), (112, .int .i64 (l29.length : Int)), (113, .int .i64 (i : Int))] _ (own ObT ox N :: mpA (Go.Mem.intK 3) bV mp35 (setL B) :: frz (GrA ov27 rv28 l29 R30) :: blkA g26 #[ov27, rv28] 44 :: blkA cb #[ov, rv, .pointer (some ⟨qb, 0, none⟩), av] 77 :: own iTy av B :: zfr Z (GrA ov rv l R) :: F)
    have hNl := hi36.2.2.2
    refine k_seq ?_
    refine k_reg ?_
    refine s_lt t_cmp ?_
    refine s_nil ?_
    refine xs_then ?_
    refine k_seq ?_
    refine k_cond (decide ((i : Int) < (l29.length : Int))) (fun c37 => ?_) (fun c37 => ?_)
    ·
      have p38 := of_decide_eq_true c37
      refine k_skip ?_
      refine xs_then ?_
      refine k_seq ?_
      refine k_block ?_
      refine k_seq ?_
      refine k_reg ?_
      refine s_lt (t_index ObT_ok Try.underlying42 (accF 2) (i : Int) i (by omega) (by (try simp only [List.length_nil, List.length_cons, List.length_append, List.length_take, List.length_drop, List.length_set, List.length_replicate, List.length_reverse, bits_len]); omega) (by omega)) ?_
      obtain ⟨y39, hy40⟩ : ∃ y, l29[i]? = some y := ⟨_, List.getElem?_eq_getElem (by (try simp only [List.length_nil, List.length_cons, List.length_append, List.length_take, List.length_drop, List.length_set, List.length_replicate, List.length_reverse, bits_len]); omega)⟩
      refine s_lt (t_loadE ObT_ok (accF 2) hy40) ?_
      refine s_alloc (.agg #[.int .i64 0, .int .i64 0, .int .i64 0, (.slice none 0 0), (.slice none 0 0)]) #[.int .i64 0, .int .i64 0, .int .i64 0, (.slice none 0 0), (.slice none 0 0)] (fun g41 => ?_)
      refine s_store 0 #[.int .i64 y39.id, .int .i64 y39.size, .int .i64 y39.weak, y39.rv.v, y39.ev.v] ?_
      refine s_nil ?_
      refine xs_then ?_
      refine k_seq ?_
      refine k_reg ?_
      refine s_lt (t_pure (.map (some mp35))) ?_
      refine s_lt (t_pure (.pointer (some ⟨g41, 0, none⟩))) ?_
      refine s_lt (t_load 0 (.int .i64 y39.id)) ?_
      refine s_lt (Lt.to (v' := .bool (decide (y39.id ∈ B))) (t_lookup 2 intOk Try.underlying79 (.bool false) y39.id) (got_set _ _)) ?_
      refine s_nil ?_
      refine xs_then ?_
      refine k_cond (decide (y39.id ∈ B)) (fun c42 => ?_) (fun c42 => ?_)
      ·
        have p43 := of_decide_eq_true c42
        refine k_reg ?_
        refine s_lt (t_pure ox) ?_
        refine s_lt (t_loadA 0 #[.int .i64 y39.id, .int .i64 y39.size, .int .i64 y39.weak, y39.rv.v, y39.ev.v]) ?_
        refine s_buildSlice (e := 74) [(0, .agg #[.int .i64 y39.id, .int .i64 y39.size, .int .i64 y39.weak, y39.rv.v, y39.ev.v])] #[.int .i64 y39.id, .int .i64 y39.size, .int .i64 y39.weak, y39.rv.v, y39.ev.v] (fun g44 => ?_) (hb := by kernel_rfl)
        refine s_append (L := N) 2 ObT_ok Try.underlying42 (.lit 0 ObT_ok [y39]) (by show _ * 72 ≤ _; (try simp only [List.length_nil, List.length_cons, List.length_append, List.length_take, List.length_drop, List.length_set, List.length_replicate, List.length_reverse, bits_len]); omega) (by (try simp only [List.length_nil, List.length_cons, List.length_append, List.length_take, List.length_drop, List.length_set, List.length_replicate, List.length_reverse, bits_len]); omega) (fun v45 => ?_)
        refine s_fact (fun H h => ((Acc.own (T := ObT) (L := (N ++ [y39])) 2 rfl) H h).form) (fun hf46 => ?_)
        refine s_lt (t_pure v45) ?_
        refine s_nil ?_
        refine xs_block ?_
        refine xs_then ?_
        refine k_reg ?_
        refine s_lt (t_add (i : Int) 1 (by (try simp only [List.length_nil, List.length_cons, List.length_append, List.length_take, List.length_drop, List.length_set, List.length_replicate, List.length_reverse, bits_len]); omega)) ?_
        refine s_lt (t_pure (.int .i64 ((i : Int) + 1))) ?_
        refine s_nil ?_
        exact xs_round (v45, N ++ [y39], i + 1) (by show l29.length - (i + 1) < l29.length - i; omega) (by obtain ⟨hk1, hk2, hk3, hk4⟩ := hi36; exact ⟨by omega, last_yes hy40 p43 hk2, fun x hx => by rcases List.mem_append.1 hx with hx | hx; exact hk3 x hx; simp at hx; subst hx; exact List.mem_of_getElem? hy40, by rw [List.length_append]; simp only [List.length_singleton]; omega⟩) (sub_of rfl ⟨⟨rfl, rfl⟩, ⟨⟨rfl, rfl⟩, ⟨⟨rfl, rfl⟩, ⟨⟨rfl, rfl⟩, ⟨⟨rfl, rfl⟩, ⟨⟨rfl, rfl⟩, trivial⟩⟩⟩⟩⟩⟩) (fun _ h => h.re [2, 2, 2, 2, 2, 2, 2] [7, 7])
      ·
        have p47 := of_decide_eq_false c42
        refine k_skip ?_
        refine xs_block ?_
        refine xs_then ?_
        refine k_reg ?_
        refine s_lt (t_add (i : Int) 1 (by (try simp only [List.length_nil, List.length_cons, List.length_append, List.length_take, List.length_drop, List.length_set, List.length_replicate, List.length_reverse, bits_len]); omega)) ?_
        refine s_lt (t_pure (.int .i64 ((i : Int) + 1))) ?_
        refine s_nil ?_
        exact xs_round (ox, N, i + 1) (by show l29.length - (i + 1) < l29.length - i; omega) (by obtain ⟨hk1, hk2, hk3, hk4⟩ := hi36; exact ⟨by omega, last_no hy40 p47 hk2, hk3, by omega⟩) (sub_of rfl ⟨⟨rfl, rfl⟩, ⟨⟨rfl, rfl⟩, ⟨⟨rfl, rfl⟩, ⟨⟨rfl, rfl⟩, ⟨⟨rfl, rfl⟩, ⟨⟨rfl, rfl⟩, trivial⟩⟩⟩⟩⟩⟩) (fun _ h => h.re [1, 1, 1, 1, 1, 1, 1] [7])
    ·
      have p48 := of_decide_eq_false c37
      refine k_exit ?_
      refine xs_exit ?_
      refine xs_exit ?_
      refine xs_here ?_
      refine xs_then ?_
      refine k_reg ?_
      refine s_lt (t_pure (.pointer (some ⟨cb, 0, none⟩))) ?_
      refine s_lt (t_pure ox) ?_
      refine s_lt (t_pure (.pointer (some ⟨cb, 0, none⟩))) ?_
      refine s_lt (t_pure (.pointer (some ⟨cb, 0, none⟩))) ?_
      refine s_lt (t_pure (.pointer (some ⟨cb, 0, none⟩))) ?_
      refine s_lt (t_pure (.pointer (some ⟨cb, 1, none⟩))) ?_
      refine s_lt (t_load 4 rv) ?_
      refine s_fact (fun H h => ((Acc.own (T := ObT) (L := N) 0 rfl) H h).form) (fun hf49 => ?_)
      refine s_fact (fun H h => ((show Acc _ _ iTy _ _ from (accZR 6)) H h).form) (fun hf50 => ?_)
      refine s_lt (show Lt _ _ _ _ _ (.agg #[ox, rv]) from by obtain ⟨_, _, e⟩ := hf49; rw [e]; clear e; obtain ⟨_, _, e⟩ := hf50; rw [e]; clear e; exact t_kern _) ?_
      refine s_lt (t_pure (.pointer (some ⟨cb, 0, none⟩))) ?_
      refine s_lt (t_pure (.pointer (some ⟨cb, 0, none⟩))) ?_
      refine s_store (u := .agg #[ox, rv]) (m := 2) 4 #[ox, rv, .pointer (some ⟨qb, 0, none⟩), av] ?_ (hm := by (obtain ⟨_, _, e0⟩ := hf49; obtain ⟨_, _, e1⟩ := hf50; rw [e0, e1]; rfl)) (h1 := by (obtain ⟨_, _, e0⟩ := hf49; obtain ⟨_, _, e1⟩ := hf50; rw [e0, e1]; rfl)) (ha' := by (obtain ⟨_, _, e0⟩ := hf49; obtain ⟨_, _, e1⟩ := hf50; rw [e0, e1]; rfl))
      refine s_nil ?_
      refine xs_block ?_
      obtain ⟨hk1, hk2, hk3, hk4⟩ := hi36
      obtain rfl : i = l29.length := by omega
      rw [List.take_length, hl31] at hk2
      exact xs_finN [] (blkA cb #[ox, rv, .pointer (some ⟨qb, 0, none⟩), av] 77 :: own iTy av B :: zfr Z (GrA ox rv N R) :: F) SI.nil (fun _ h => (zgr_cut hk3 (h.re [0, 1, 4, 2, 2] [5, 5])).re [1, 1] []) ⟨rfl, _, N, hk2, rfl⟩
end Go.Proofs.Ytipmkaabogocfaa
