/-
  Entries of the queue of layer 27; sets as maps. No condition.
-/
import Derived.Test.YtipmkaabogocfaaW6
import Derived.Test.YtipmkaabogocfaaMapS
import Derived.Test.YtipmkaabogocfaaGC
set_option linter.unusedSimpArgs false
set_option linter.unusedVariables false
set_option maxRecDepth 100000
namespace Go.Proofs.Ytipmkaabogocfaa
open Go.Hp Go.J Go.S
open Go.Mem (Ty KTy blk elemAt pre suf blk_pre blk_suf aget aset strK aggDesc)
open Go.Mem (aget_aset)
abbrev eV (n : Int) : Value := .agg #[.int .i64 n]
def eTy : Ty Int := ⟨66, 1, 8, true, eV, 0⟩
theorem eTy_ok : eTy.Ok Try.prog := ok_of eTy _ Try.t66 (by decide) (fun _ => rfl) (fun x u hu => by simp [Ty.enc, eTy, Value.cells] at hu; subst hu; rfl) (fun _ => rfl) Try.underlying66 rfl (fun h => by cases h) (by kernel_rfl) (by kernel_rfl) (by kernel_rfl) (by kernel_rfl)
theorem eqE (x y : Int) (w : World) : (binOp .eql 66 (eV x) (eV y)).run Try.prog w = .ok (.bool (decide (x = y))) w ∧ (binOp .neq 66 (eV x) (eV y)).run Try.prog w = .ok (.bool (!decide (x = y))) w := by
  have h := J.run_eqS (P := Try.prog) (t := 66) [0] (by kernel_rfl) (by kernel_rfl) #[.int .i64 x] #[.int .i64 y] rfl rfl w
  have e : J.cellsEq [.int .i64 x] [.int .i64 y] = decide (x = y) := by rw [Bool.eq_iff_iff]; simp [J.cellsEq, J.cellEq]
  rw [e] at h
  exact h
def eK : KTy Int := ⟨66, eV⟩
theorem eK_ok {β : Type} : KTy.Ok (β := β) eK Try.prog := by
  refine Go.Mem.structK_ok (K := eK) Try.underlying66 (fun k => ⟨_, rfl⟩) (fun b k w => by kernel_rfl) (fun k => ?_) (fun k k' w => Go.Mem.equal_of_bin (eqE k k' w).1)
  show Instr.sameBits 10000 (eV k) (eV k) = true
  unfold Instr.sameBits
  simp [Instr.sameBits]
abbrev bV (b : Bool) : Value := .bool b
def setL (A : List Int) : List (Int × Bool) := A.foldl (fun m x => aset m x true) []
theorem aget_fold (A : List Int) (k : Int) : ∀ m : List (Int × Bool), aget (A.foldl (fun m x => aset m x true) m) k = if k ∈ A then some true else aget m k := by
  induction A with
  | nil => intro m; simp
  | cons a r ih =>
    intro m
    rw [List.foldl_cons, ih, aget_aset]
    by_cases h1 : k ∈ r <;> by_cases h2 : k = a <;> simp [h1, h2]
theorem got_set (A : List Int) (k : Int) : ((aget (setL A) k).map bV).getD (.bool false) = .bool (decide (k ∈ A)) := by
  unfold setL
  rw [aget_fold]
  by_cases h : k ∈ A <;> simp [h, aget]
theorem set_take {A : List Int} {i : Nat} {y : Int} (h : A[i]? = some y) : aset (setL (A.take i)) y true = setL (A.take (i + 1)) := (fold_take (f := fun m x => aset m x true) h).symm
theorem t_lookupN {P : Program} {E : Env} {Z : Zone} {As : List Asr} {o : Oper} {x y : Operand} {t e : TypeId} {κ : Type} [DecidableEq κ] {K : KTy κ} (hK : KTy.Ok (β := Bool) K P) (ht : P.underlying t = some (.map K.id e)) (z : Value) (k : κ) (hz : ∀ w, (zeroValue e).run P w = .ok z w := by intro _; kernel_rfl) (ho : o.op = .lookup t x y false := by rfl) (hx : ev E x = .map none := by rfl) (hy : ev E y = K.val k := by rfl) : Lt P E o Z As z :=
  fun _ _ => r_pure _ fun w => by
    have := Go.Mem.run_lookup_nil (β := Bool) (w := w) hK ht k hz false
    unfold execOp
    simp [ho, hx, hy, this, Sem.run_pure, Sem.run_bind]
theorem take_snoc {α : Type} {L : List α} {i : Nat} {y : α} (h : L[i]? = some y) : L.take i ++ [y] = L.take (i + 1) := by rw [List.take_add_one, h]; rfl
/-- A queue in memory. -/
def qA (b : Nat) (reg pend : List Int) : Asr := exA fun rv => exA fun pv => stA True [blkA b #[rv, pv] 63, own eTy rv reg, ownO eTy pv pend]
theorem q_open {b : Nat} {reg pend : List Int} {Z : Zone} {F : List Asr} {H : Heap} (h : Holds Z (qA b reg pend :: F) H) : ∃ rv pv, True ∧ Holds Z (blkA b #[rv, pv] 63 :: own eTy rv reg :: ownO eTy pv pend :: F) H := by
  obtain ⟨a, h⟩ := h.open_ex
  obtain ⟨m, h⟩ := h.open_ex
  exact ⟨a, m, h.open_st⟩
theorem q_shut {b : Nat} {reg pend : List Int} {Z : Zone} {F : List Asr} {H : Heap} {rv pv : Value} (h : Holds Z (blkA b #[rv, pv] 63 :: own eTy rv reg :: ownO eTy pv pend :: F) H) : Holds Z (qA b reg pend :: F) H :=
  Holds.shut_ex rv (Holds.shut_ex pv (Holds.shut_st trivial h))
def addI (reg : List Int) (id : Int) : Int := if id < 1 then 2 else if id ∈ reg then 10 else 0
def addL (reg : List Int) (id : Int) : List Int := if id < 1 then reg else if id ∈ reg then reg else reg ++ [id]
def stayL (A reg : List Int) : List Int := reg.filter fun x => decide (x ∈ A)
def lostL (A reg : List Int) : List Int := reg.filter fun x => !decide (x ∈ A)
def sepL (A reg : List Int) : List Int := (lostL A reg).reverse
theorem stay_yes {A L : List Int} {i : Nat} {y : Int} (h : L[i]? = some y) (hp : y ∈ A) : stayL A (L.take i) ++ [y] = stayL A (L.take (i + 1)) ∧ lostL A (L.take i) = lostL A (L.take (i + 1)) := by
  rw [← take_snoc h]; simp [stayL, lostL, List.filter_append, hp]
theorem stay_no {A L : List Int} {i : Nat} {y : Int} (h : L[i]? = some y) (hp : y ∉ A) : stayL A (L.take i) = stayL A (L.take (i + 1)) ∧ lostL A (L.take i) ++ [y] = lostL A (L.take (i + 1)) := by
  rw [← take_snoc h]; simp [stayL, lostL, List.filter_append, hp]
theorem stay_len (A L : List Int) : (stayL A L).length ≤ L.length := List.length_filter_le _ _
theorem lost_len (A L : List Int) : (lostL A L).length ≤ L.length := List.length_filter_le _ _
theorem sep_len (A L : List Int) : (sepL A L).length ≤ L.length := by unfold sepL; rw [List.length_reverse]; exact lost_len A L
/-- A list that is turned round from both ends. -/
def Rv {α : Type} (L X : List α) (i : Nat) : Prop := X.length = L.length ∧ 2 * i ≤ L.length + 1 ∧ ∀ k, k < L.length → X[k]? = if k < i ∨ L.length < k + i + 1 then L[L.length - 1 - k]? else L[k]?
theorem rv0 {α : Type} (L : List α) : Rv L L 0 := ⟨rfl, by omega, fun k hk => by rw [if_neg (by omega)]⟩
theorem rv_step {α : Type} {L X : List α} {i : Nat} {x y : α} (h : Rv L X i) (hi : 2 * i + 1 < L.length) (hx : X[i]? = some x) (hy : X[L.length - 1 - i]? = some y) : Rv L ((X.set i y).set (L.length - 1 - i) x) (i + 1) := by
  obtain ⟨h1, h2, h3⟩ := h
  refine ⟨by simp [h1], by omega, fun k hk => ?_⟩
  have hxi := h3 i (by omega); have hyi := h3 (L.length - 1 - i) (by omega)
  rw [if_neg (by omega)] at hxi hyi
  rw [hx] at hxi; rw [hy] at hyi
  by_cases e1 : k = L.length - 1 - i
  · subst e1
    rw [List.getElem?_set_self (by simp [h1]; omega), if_pos (by omega), hxi]; congr 1; omega
  · rw [List.getElem?_set_ne (Ne.symm e1)]
    by_cases e2 : k = i
    · subst e2
      rw [List.getElem?_set_self (by omega), if_pos (by omega), hyi]
    · rw [List.getElem?_set_ne (Ne.symm e2), h3 k hk]
      by_cases c : k < i ∨ L.length < k + i + 1
      · rw [if_pos c, if_pos (by omega)]
      · rw [if_neg c, if_neg (by omega)]
theorem rv_end {α : Type} {L X : List α} {i : Nat} (h : Rv L X i) (hi : ¬ 2 * i + 1 < L.length) : X = L.reverse := by
  obtain ⟨h1, h2, h3⟩ := h
  apply List.ext_getElem?
  intro k
  by_cases hk : k < L.length
  · rw [h3 k hk, List.getElem?_reverse hk]
    by_cases c : k < i ∨ L.length < k + i + 1
    · rw [if_pos c]
    · rw [if_neg c]; congr 1; omega
  · rw [List.getElem?_eq_none (by omega), List.getElem?_eq_none (by simp; omega)]
theorem qnew_s {Z : Zone} : SF Try.prog 10 #[] Z [] fun r Bs => ∃ b, r = .pointer (some ⟨b, 0, none⟩) ∧ Bs = [qA b [] []] := by
  refine sf_enter Try.func10 3 [] (fun w0 => ?_)
  refine k_seq ?_
  refine k_reg ?_
  refine s_lt (t_pure (.pointer none)) ?_
  refine s_nil ?_
  refine xs_then ?_
  refine k_seq ?_
  refine k_reg ?_
  refine s_lt (t_kern (.agg #[(.slice none 0 0), (.slice none 0 0)])) ?_
  refine s_box #[(.slice none 0 0), (.slice none 0 0)] (fun g1 => ?_)
  refine s_lt (t_pure (.pointer (some ⟨g1, 0, none⟩))) ?_
  refine s_nil ?_
  refine xs_then ?_
  refine k_ret ?_
  refine xs_fin [.pointer (some ⟨g1, 0, none⟩)] [qA g1 [] []] (SI.tmp 0 SI.nil) (fun _ h => q_shut (b := g1) (rv := .slice none 0 0) (pv := .slice none 0 0) ((Holds.nilS (T := eTy) (Holds.nilO (T := eTy) h)).re [2, 0] [])) ⟨g1, rfl, rfl⟩
theorem ids_s {Z : Zone} {lv : Value} {L : List Int} (hL : Kn Z eTy lv L) (hl : L.length ≤ 1000000) : SF Try.prog 39 #[lv] Z [] fun r Bs => Bs = [own iTy r L] := by
  refine sf_enter Try.func39 19 [(0, lv)] (fun w0 => ?_)
  refine k_seq ?_
  refine k_reg ?_
  refine s_lt (t_pure (.slice none 0 0)) ?_
  refine s_nil ?_
  refine xs_then ?_
  refine k_seq ?_
  refine k_reg ?_
  refine s_lt (t_pure (.slice none 0 0)) ?_
  refine s_nil ?_
  refine xs_then ?_
  refine k_seq ?_
  refine k_seq ?_
  refine k_reg ?_
  refine s_lt (t_pure lv) ?_
  refine s_lt (t_len eTy_ok Try.underlying61 (.zn hL)) ?_
  refine s_lt (t_pure (.int .i64 0)) ?_
  refine s_nil ?_
  refine xs_then ?_
  refine k_block ?_
  refine k_mem (fun _ h => Holds.nilS (T := iTy) h) ?_
  refine k_mem (Bs := [own iTy (.slice none 0 0) (L.take 0)]) (fun _ h => h) ?_
  refine k_loop (ι := Value × Nat) (fun (sx, i) => i ≤ L.length) (fun (sx, i) => [(2, (.slice none 0 0)), (3, sx), (6, lv), (7, .int .i64 (L.length : Int)), (8, .int .i64 (i : Int))]) (fun (sx, i) => [own iTy sx (L.take i)]) (fun (sx, i) => L.length - i) (.slice none 0 0, 0) (Nat.zero_le _) (sub_of rfl ⟨⟨rfl, rfl⟩, ⟨⟨rfl, rfl⟩, ⟨⟨rfl, rfl⟩, ⟨⟨rfl, rfl⟩, ⟨⟨rfl, rfl⟩, trivial⟩⟩⟩⟩⟩) (fun _ h => h.re [0] []) ?_
  rintro ⟨sx, i⟩ hi1
  replace hi1 : i ≤ L.length := hi1
  show SK _ _ _ _ _ [(2, (.slice none 0 0)), (3, sx), (6, lv), (7, .int .i64 (L.length : Int)), (8, .int .i64 (i : Int))] _ [own iTy sx (L.take i)]
  refine k_seq ?_
  refine k_reg ?_
  refine s_lt t_cmp ?_
  refine s_nil ?_
  refine xs_then ?_
  refine k_seq ?_
  refine k_cond (decide ((i : Int) < (L.length : Int))) (fun c2 => ?_) (fun c2 => ?_)
  ·
    have p3 := of_decide_eq_true c2
    refine k_skip ?_
    refine xs_then ?_
    refine k_seq ?_
    refine k_block ?_
    refine k_seq ?_
    refine k_reg ?_
    refine s_lt (t_index eTy_ok Try.underlying61 (.zn hL) (i : Int) i (by omega) (by (try simp only [List.length_nil, List.length_cons, List.length_append, List.length_take, List.length_drop, List.length_set, List.length_replicate, List.length_reverse, bits_len]); omega) (by omega)) ?_
    obtain ⟨y4, hy5⟩ : ∃ y, L[i]? = some y := ⟨_, List.getElem?_eq_getElem (by (try simp only [List.length_nil, List.length_cons, List.length_append, List.length_take, List.length_drop, List.length_set, List.length_replicate, List.length_reverse, bits_len]); omega)⟩
    refine s_lt (t_loadE eTy_ok (.zn hL) hy5) ?_
    refine s_alloc (.agg #[.int .i64 0]) #[.int .i64 0] (fun g6 => ?_)
    refine s_store 0 #[.int .i64 y4] ?_
    refine s_nil ?_
    refine xs_then ?_
    refine k_reg ?_
    refine s_lt (t_pure sx) ?_
    refine s_lt (t_pure (.pointer (some ⟨g6, 0, none⟩))) ?_
    refine s_lt (t_load 0 (.int .i64 y4)) ?_
    refine s_buildSlice (e := 3) [(0, .int .i64 y4)] #[.int .i64 y4] (fun g7 => ?_) (hb := by kernel_rfl)
    refine s_append (L := (L.take i)) 2 iTy_ok Try.underlying22 (.lit 0 iTy_ok [y4]) (by show _ * 8 ≤ _; (try simp only [List.length_nil, List.length_cons, List.length_append, List.length_take, List.length_drop, List.length_set, List.length_replicate, List.length_reverse, bits_len]); omega) (by (try simp only [List.length_nil, List.length_cons, List.length_append, List.length_take, List.length_drop, List.length_set, List.length_replicate, List.length_reverse, bits_len]); omega) (fun v8 => ?_)
    refine s_fact (fun H h => ((Acc.own (T := iTy) (L := ((L.take i) ++ [y4])) 2 rfl) H h).form) (fun hf9 => ?_)
    refine s_lt (t_pure v8) ?_
    refine s_nil ?_
    refine xs_block ?_
    refine xs_then ?_
    refine k_reg ?_
    refine s_lt (t_add (i : Int) 1 (by (try simp only [List.length_nil, List.length_cons, List.length_append, List.length_take, List.length_drop, List.length_set, List.length_replicate, List.length_reverse, bits_len]); omega)) ?_
    refine s_lt (t_pure (.int .i64 ((i : Int) + 1))) ?_
    refine s_nil ?_
    rw [take_snoc hy5]
    exact xs_round (v8, i + 1) (by show L.length - (i + 1) < L.length - i; omega) (by show i + 1 ≤ L.length; omega) (sub_of rfl ⟨⟨rfl, rfl⟩, ⟨⟨rfl, rfl⟩, ⟨⟨rfl, rfl⟩, ⟨⟨rfl, rfl⟩, ⟨⟨rfl, rfl⟩, trivial⟩⟩⟩⟩⟩) (fun _ h => h.re [2] [1, 1])
  ·
    have p10 := of_decide_eq_false c2
    refine k_exit ?_
    refine xs_exit ?_
    refine xs_exit ?_
    refine xs_here ?_
    refine xs_then ?_
    refine k_seq ?_
    refine k_reg ?_
    refine s_lt (t_pure sx) ?_
    refine s_lt (t_pure sx) ?_
    refine s_nil ?_
    refine xs_then ?_
    refine k_ret ?_
    exact xs_fin [sx] [own iTy sx L] (SI.tmp 2 SI.nil) (fun _ h => by rw [List.take_of_length_le (by omega)] at h; exact h.re [0] []) rfl
theorem has_s {Z : Zone} {F : List Asr} {b : Nat} {reg pend : List Int} (id : Int) (hr : reg.length ≤ 100000) : SF Try.prog 34 #[.pointer (some ⟨b, 0, none⟩), .int .i64 id] Z (qA b reg pend :: F) fun r Bs => r = .bool (decide (id ∈ reg)) ∧ Bs = qA b reg pend :: F := by
  refine sf_enter Try.func34 23 [(0, .pointer (some ⟨b, 0, none⟩)), (1, .int .i64 id)] (fun w0 => ?_)
  refine k_mem2 (fun H h => q_open (h.re [0] [])) (fun rq1 pq2 hw => ?_)
  refine k_seq ?_
  refine k_reg ?_
  refine s_lt (t_pure (.bool false)) ?_
  refine s_nil ?_
  refine xs_then ?_
  refine k_seq ?_
  refine k_seq ?_
  refine k_reg ?_
  refine s_lt (t_pure (.pointer (some ⟨b, 0, none⟩))) ?_
  refine s_lt (t_pure (.bool false)) ?_
  refine s_nil ?_
  refine xs_then ?_
  refine k_false ?_
  refine k_skip ?_
  refine xs_then ?_
  refine k_seq ?_
  refine k_seq ?_
  refine k_reg ?_
  refine s_lt (t_pure (.pointer (some ⟨b, 0, none⟩))) ?_
  refine s_lt (t_pure (.pointer (some ⟨b, 0, none⟩))) ?_
  refine s_lt (t_pure (.pointer (some ⟨b, 0, none⟩))) ?_
  refine s_lt (t_load 0 rq1) ?_
  refine s_lt (t_len eTy_ok Try.underlying61 (.own 1)) ?_
  refine s_lt (t_pure (.int .i64 0)) ?_
  refine s_nil ?_
  refine xs_then ?_
  refine k_block ?_
  refine k_loop (ι := Nat) (fun i => i ≤ reg.length ∧ id ∉ reg.take i) (fun i => [(1, .int .i64 id), (4, .bool false), (12, rq1), (13, .int .i64 (reg.length : Int)), (14, .int .i64 (i : Int))]) (fun i => blkA b #[rq1, pq2] 63 :: own eTy rq1 reg :: ownO eTy pq2 pend :: F) (fun i => reg.length - i) 0 ⟨Nat.zero_le _, by simp⟩ (sub_of rfl ⟨⟨rfl, rfl⟩, ⟨⟨rfl, rfl⟩, ⟨⟨rfl, rfl⟩, ⟨⟨rfl, rfl⟩, ⟨⟨rfl, rfl⟩, trivial⟩⟩⟩⟩⟩) (fun _ h => h.re [0, 0, 0] []) ?_
  rintro i hi3
  show SK _ _ _ _ _ [(1, .int .i64 id), (4, .bool false), (12, rq1), (13, .int .i64 (reg.length : Int)), (14, .int .i64 (i : Int))] _ (blkA b #[rq1, pq2] 63 :: own eTy rq1 reg :: ownO eTy pq2 pend :: F)
  refine k_seq ?_
  refine k_reg ?_
  refine s_lt t_cmp ?_
  refine s_nil ?_
  refine xs_then ?_
  refine k_seq ?_
  refine k_cond (decide ((i : Int) < (reg.length : Int))) (fun c4 => ?_) (fun c4 => ?_)
  ·
    have p5 := of_decide_eq_true c4
    refine k_skip ?_
    refine xs_then ?_
    refine k_seq ?_
    refine k_block ?_
    refine k_seq ?_
    refine k_reg ?_
    refine s_lt (t_index eTy_ok Try.underlying61 (.own 1) (i : Int) i (by omega) (by (try simp only [List.length_nil, List.length_cons, List.length_append, List.length_take, List.length_drop, List.length_set, List.length_replicate, List.length_reverse, bits_len]); omega) (by omega)) ?_
    obtain ⟨y6, hy7⟩ : ∃ y, reg[i]? = some y := ⟨_, List.getElem?_eq_getElem (by (try simp only [List.length_nil, List.length_cons, List.length_append, List.length_take, List.length_drop, List.length_set, List.length_replicate, List.length_reverse, bits_len]); omega)⟩
    refine s_lt (t_loadE eTy_ok (.own 1) hy7) ?_
    refine s_alloc (.agg #[.int .i64 0]) #[.int .i64 0] (fun g8 => ?_)
    refine s_store 0 #[.int .i64 y6] ?_
    refine s_nil ?_
    refine xs_then ?_
    refine k_seq ?_
    refine k_reg ?_
    refine s_lt (t_loadA 0 #[.int .i64 y6]) ?_
    refine s_lt (t_pure (.int .i64 id)) ?_
    refine s_lt (t_kern (.agg #[.int .i64 id])) ?_
    refine s_lt (t_eqS (fun w => (eqE y6 id w).1)) ?_
    refine s_nil ?_
    refine xs_then ?_
    refine k_cond (decide (y6 = id)) (fun c9 => ?_) (fun c9 => ?_)
    ·
      have p10 := of_decide_eq_true c9
      refine k_seq ?_
      refine k_reg ?_
      refine s_lt (t_pure (.bool true)) ?_
      refine s_nil ?_
      refine xs_then ?_
      refine k_ret ?_
      refine xs_retBlock ?_
      refine xs_ret ?_
      refine xs_ret ?_
      refine xs_retBlock ?_
      refine xs_ret ?_
      refine xs_mem (fun _ h => q_shut (h.re [1, 1, 1] [])) ?_
      refine xs_fin [.bool true] (qA b reg pend :: F) (SI.tmp 4 SI.nil) (fun _ h => h.re [0] [1]) ⟨congrArg Value.bool ?_, rfl⟩
      exact (decide_eq_true (by rw [← p10]; exact List.mem_of_getElem? hy7)).symm
    ·
      have p11 := of_decide_eq_false c9
      refine k_skip ?_
      refine xs_block ?_
      refine xs_then ?_
      refine k_reg ?_
      refine s_lt (t_add (i : Int) 1 (by (try simp only [List.length_nil, List.length_cons, List.length_append, List.length_take, List.length_drop, List.length_set, List.length_replicate, List.length_reverse, bits_len]); omega)) ?_
      refine s_lt (t_pure (.int .i64 ((i : Int) + 1))) ?_
      refine s_nil ?_
      exact xs_round (i + 1) (by omega) (by obtain ⟨hi1, hi2⟩ := hi3; refine ⟨by omega, ?_⟩; rw [← take_snoc hy7, List.mem_append, List.mem_singleton]; rintro (h | h); exact hi2 h; exact p11 h.symm) (sub_of rfl ⟨⟨rfl, rfl⟩, ⟨⟨rfl, rfl⟩, ⟨⟨rfl, rfl⟩, ⟨⟨rfl, rfl⟩, ⟨⟨rfl, rfl⟩, trivial⟩⟩⟩⟩⟩) (fun _ h => h.re [1, 1, 1] [3])
  ·
    have p12 := of_decide_eq_false c4
    refine k_exit ?_
    refine xs_exit ?_
    refine xs_exit ?_
    refine xs_here ?_
    refine xs_then ?_
    refine k_seq ?_
    refine k_reg ?_
    refine s_lt (t_pure (.bool false)) ?_
    refine s_nil ?_
    refine xs_then ?_
    refine k_ret ?_
    refine xs_mem (fun _ h => q_shut (h.re [0, 0, 0] [])) ?_
    refine xs_fin [.bool false] (qA b reg pend :: F) (SI.tmp 4 SI.nil) (fun _ h => h.re [0] []) ⟨congrArg Value.bool ?_, rfl⟩
    exact (decide_eq_false (by have h := hi3.2; rwa [List.take_of_length_le (by omega)] at h)).symm
theorem add_s {Z : Zone} {F : List Asr} {b : Nat} {reg pend : List Int} (id : Int) (hr : reg.length ≤ 90000) : SF Try.prog 12 #[.pointer (some ⟨b, 0, none⟩), .int .i64 id] Z (qA b reg pend :: F) fun r Bs => r = .int .i64 (addI reg id) ∧ Bs = qA b (addL reg id) pend :: F := by
  refine sf_enter Try.func12 26 [(0, .pointer (some ⟨b, 0, none⟩)), (1, .int .i64 id)] (fun w0 => ?_)
  refine k_seq ?_
  refine k_reg ?_
  refine s_lt (t_pure (.int .i64 0)) ?_
  refine s_nil ?_
  refine xs_then ?_
  refine k_seq ?_
  refine k_block ?_
  refine k_seq ?_
  refine k_reg ?_
  refine s_lt (t_pure (.pointer (some ⟨b, 0, none⟩))) ?_
  refine s_lt (t_pure (.bool false)) ?_
  refine s_lt (t_pure (.bool false)) ?_
  refine s_nil ?_
  refine xs_then ?_
  refine k_false ?_
  refine k_seq ?_
  refine k_reg ?_
  refine s_lt (t_pure (.int .i64 id)) ?_
  refine s_lt t_cmp ?_
  refine s_lt (t_pure (.bool (decide (id < 1)))) ?_
  refine s_nil ?_
  refine xs_then ?_
  refine k_cond (decide (id < 1)) (fun c1 => ?_) (fun c1 => ?_)
  ·
    have p2 := of_decide_eq_true c1
    refine k_seq ?_
    refine k_reg ?_
    refine s_lt (t_pure (.int .i64 2)) ?_
    refine s_nil ?_
    refine xs_then ?_
    refine k_ret ?_
    refine xs_retBlock ?_
    refine xs_ret ?_
    have h1 : addI reg id = 2 := by simp [addI, p2]
    have h2 : addL reg id = reg := by simp [addL, p2]
    refine xs_fin [.int .i64 2] (qA b reg pend :: F) (SI.tmp 4 SI.nil) (fun _ h => h.re [0] []) ?_
    rw [h1, h2]; exact ⟨rfl, rfl⟩
  ·
    have p3 := of_decide_eq_false c1
    refine k_seq ?_
    refine k_reg ?_
    refine s_lt (t_pure (.pointer (some ⟨b, 0, none⟩))) ?_
    refine s_lt (t_pure (.int .i64 id)) ?_
    refine s_call [0] (has_s (reg := reg) id (by (try simp only [List.length_nil, List.length_cons, List.length_append, List.length_take, List.length_drop, List.length_set, List.length_replicate, List.length_reverse, bits_len]); omega)) ?_
    rintro _ _ ⟨rfl, rfl⟩
    refine s_lt (t_pure (.bool (decide (id ∈ reg)))) ?_
    refine s_nil ?_
    refine xs_then ?_
    refine k_cond (decide (id ∈ reg)) (fun c4 => ?_) (fun c4 => ?_)
    ·
      have p5 := of_decide_eq_true c4
      refine k_seq ?_
      refine k_reg ?_
      refine s_lt (t_pure (.int .i64 10)) ?_
      refine s_nil ?_
      refine xs_then ?_
      refine k_ret ?_
      refine xs_retBlock ?_
      refine xs_ret ?_
      have h1 : addI reg id = 10 := by simp [addI, p3, p5]
      have h2 : addL reg id = reg := by simp [addL, p3, p5]
      refine xs_fin [.int .i64 10] (qA b reg pend :: F) (SI.tmp 4 SI.nil) (fun _ h => h.re [0] []) ?_
      rw [h1, h2]; exact ⟨rfl, rfl⟩
    ·
      have p6 := of_decide_eq_false c4
      refine k_skip ?_
      refine xs_block ?_
      refine xs_then ?_
      refine k_seq ?_
      refine k_reg ?_
      refine s_lt (t_pure (.pointer (some ⟨b, 0, none⟩))) ?_
      refine s_lt (t_pure (.pointer (some ⟨b, 0, none⟩))) ?_
      refine s_lt (t_pure (.pointer (some ⟨b, 0, none⟩))) ?_
      refine s_lt (t_pure (.pointer (some ⟨b, 0, none⟩))) ?_
      refine s_mem2 (fun H h => q_open (h.re [0] [])) (fun rq7 pq8 hw => ?_)
      refine s_lt (t_load 0 rq7) ?_
      refine s_lt (t_pure (.int .i64 id)) ?_
      refine s_lt (t_kern (.agg #[.int .i64 id])) ?_
      refine s_buildSlice (e := 66) [(0, .agg #[.int .i64 id])] #[.int .i64 id] (fun g9 => ?_) (hb := by kernel_rfl)
      refine s_append (L := reg) 2 eTy_ok Try.underlying61 (.lit 0 eTy_ok [id]) (by show _ * 8 ≤ _; (try simp only [List.length_nil, List.length_cons, List.length_append, List.length_take, List.length_drop, List.length_set, List.length_replicate, List.length_reverse, bits_len]); omega) (by (try simp only [List.length_nil, List.length_cons, List.length_append, List.length_take, List.length_drop, List.length_set, List.length_replicate, List.length_reverse, bits_len]); omega) (fun v10 => ?_)
      refine s_fact (fun H h => ((Acc.own (T := eTy) (L := (reg ++ [id])) 2 rfl) H h).form) (fun hf11 => ?_)
      refine s_lt (t_pure (.pointer (some ⟨b, 0, none⟩))) ?_
      refine s_lt (t_pure (.pointer (some ⟨b, 0, none⟩))) ?_
      refine s_store (u := v10) (m := 1) 1 #[v10, pq8] ?_ (hm := by (obtain ⟨_, _, e0⟩ := hf11; rw [e0]; rfl)) (h1 := by (obtain ⟨_, _, e0⟩ := hf11; rw [e0]; rfl)) (ha' := by (obtain ⟨_, _, e0⟩ := hf11; rw [e0]; rfl))
      refine s_nil ?_
      refine xs_then ?_
      refine k_seq ?_
      refine k_reg ?_
      refine s_lt (t_pure (.int .i64 0)) ?_
      refine s_nil ?_
      refine xs_then ?_
      refine k_ret ?_
      refine xs_mem (fun _ h => q_shut (h.re [1, 1, 1] [])) ?_
      have h1 : addI reg id = 0 := by simp [addI, p3, p6]
      have h2 : addL reg id = (reg ++ [id]) := by simp [addL, p3, p6]
      refine xs_fin [.int .i64 0] (qA b (reg ++ [id]) pend :: F) (SI.tmp 4 SI.nil) (fun _ h => h.re [0] [1]) ?_
      rw [h1, h2]; exact ⟨rfl, rfl⟩
theorem rev_s {Z : Zone} {F : List Asr} {v : Value} {L : List Int} (hl : L.length ≤ 1000000) : SF Try.prog 59 #[v] Z (own eTy v L :: F) fun r Bs => r = .tuple #[] ∧ Bs = own eTy v L.reverse :: F := by
  refine sf_enter Try.func59 28 [(0, v)] (fun w0 => ?_)
  refine k_seq ?_
  refine k_reg ?_
  refine s_lt (t_pure v) ?_
  refine s_lt (t_len eTy_ok Try.underlying61 (.own 0)) ?_
  refine s_lt (Lt.to (v' := .int .i64 ((L.length : Int) - 1 - ((0 : Nat) : Int))) (t_sub (L.length : Int) 1 (by omega)) (congrArg (Value.int .i64) (by omega))) ?_
  refine s_lt (t_pure (.int .i64 0)) ?_
  refine s_lt (t_pure (.int .i64 ((L.length : Int) - 1 - ((0 : Nat) : Int)))) ?_
  refine s_nil ?_
  refine xs_then ?_
  refine k_block ?_
  refine k_loop (ι := List Int × Nat) (fun (X, i) => Rv L X i) (fun (X, i) => [(0, v), (2, .int .i64 (i : Int)), (3, .int .i64 ((L.length : Int) - 1 - (i : Int)))]) (fun (X, i) => own eTy v X :: F) (fun (X, i) => L.length - i) (L, 0) (rv0 L) (sub_of rfl ⟨⟨rfl, rfl⟩, ⟨⟨rfl, rfl⟩, ⟨⟨rfl, rfl⟩, trivial⟩⟩⟩) (fun _ h => h.re [0] []) ?_
  rintro ⟨X, i⟩ hi1
  replace hi1 : Rv L X i := hi1
  show SK _ _ _ _ _ [(0, v), (2, .int .i64 (i : Int)), (3, .int .i64 ((L.length : Int) - 1 - (i : Int)))] _ (own eTy v X :: F)
  have hXl := hi1.1; have hX2 := hi1.2.1
  refine k_seq ?_
  refine k_seq ?_
  refine k_reg ?_
  refine s_lt (t_pure (.int .i64 (i : Int))) ?_
  refine s_lt (t_pure (.int .i64 ((L.length : Int) - 1 - (i : Int)))) ?_
  refine s_lt t_cmp ?_
  refine s_nil ?_
  refine xs_then ?_
  refine k_cond (decide ((i : Int) < ((L.length : Int) - 1 - (i : Int)))) (fun c2 => ?_) (fun c2 => ?_)
  ·
    have p3 := of_decide_eq_true c2
    refine k_skip ?_
    refine xs_then ?_
    refine k_seq ?_
    refine k_block ?_
    refine k_draw ?_
    refine s_lt (t_pure v) ?_
    refine s_lt (t_pure (.int .i64 (i : Int))) ?_
    refine s_lt (t_pure v) ?_
    refine s_lt (t_pure (.int .i64 ((L.length : Int) - 1 - (i : Int)))) ?_
    refine s_lt (t_pure v) ?_
    refine s_lt (t_pure (.int .i64 ((L.length : Int) - 1 - (i : Int)))) ?_
    refine s_lt (t_index eTy_ok Try.underlying61 (.own 0) ((L.length : Int) - 1 - (i : Int)) (L.length - 1 - i) (by omega) (by (try simp only [List.length_nil, List.length_cons, List.length_append, List.length_take, List.length_drop, List.length_set, List.length_replicate, List.length_reverse, bits_len]); omega) (by omega)) ?_
    obtain ⟨y4, hy5⟩ : ∃ y, X[(L.length - 1 - i)]? = some y := ⟨_, List.getElem?_eq_getElem (by (try simp only [List.length_nil, List.length_cons, List.length_append, List.length_take, List.length_drop, List.length_set, List.length_replicate, List.length_reverse, bits_len]); omega)⟩
    refine s_lt (t_loadE eTy_ok (.own 0) hy5) ?_
    refine s_lt (t_pure v) ?_
    refine s_lt (t_pure (.int .i64 (i : Int))) ?_
    refine s_lt (t_index eTy_ok Try.underlying61 (.own 0) (i : Int) i (by omega) (by (try simp only [List.length_nil, List.length_cons, List.length_append, List.length_take, List.length_drop, List.length_set, List.length_replicate, List.length_reverse, bits_len]); omega) (by omega)) ?_
    obtain ⟨y6, hy7⟩ : ∃ y, X[i]? = some y := ⟨_, List.getElem?_eq_getElem (by (try simp only [List.length_nil, List.length_cons, List.length_append, List.length_take, List.length_drop, List.length_set, List.length_replicate, List.length_reverse, bits_len]); omega)⟩
    refine s_lt (t_loadE eTy_ok (.own 0) hy7) ?_
    refine s_lt (t_index eTy_ok Try.underlying61 (.own 0) (i : Int) i (by omega) (by (try simp only [List.length_nil, List.length_cons, List.length_append, List.length_take, List.length_drop, List.length_set, List.length_replicate, List.length_reverse, bits_len]); omega) (by omega)) ?_
    refine s_storeE 0 0 y4 eTy_ok hy7 ?_
    refine s_lt (t_index eTy_ok Try.underlying61 (.own 0) ((L.length : Int) - 1 - (i : Int)) (L.length - 1 - i) (by omega) (by (try simp only [List.length_nil, List.length_cons, List.length_append, List.length_take, List.length_drop, List.length_set, List.length_replicate, List.length_reverse, bits_len]); omega) (by omega)) ?_
    obtain ⟨y8, hy9⟩ : ∃ y, ((X.set i y4))[(L.length - 1 - i)]? = some y := ⟨_, List.getElem?_eq_getElem (by (try simp only [List.length_nil, List.length_cons, List.length_append, List.length_take, List.length_drop, List.length_set, List.length_replicate, List.length_reverse, bits_len]); omega)⟩
    refine s_storeE 0 0 y6 eTy_ok hy9 ?_
    refine s_nil ?_
    refine x_dynS (fun _ h => by kernel_rfl) ?_
    refine xs_block ?_
    refine xs_then ?_
    refine k_reg ?_
    refine s_lt (t_pure (.int .i64 (i : Int))) ?_
    refine s_lt (t_add (i : Int) 1 (by (try simp only [List.length_nil, List.length_cons, List.length_append, List.length_take, List.length_drop, List.length_set, List.length_replicate, List.length_reverse, bits_len]); omega)) ?_
    refine s_lt (t_pure (.int .i64 ((L.length : Int) - 1 - (i : Int)))) ?_
    refine s_lt (Lt.to (v' := .int .i64 ((L.length : Int) - 1 - ((i + 1 : Nat) : Int))) (t_sub ((L.length : Int) - 1 - (i : Int)) 1 (by omega)) (congrArg (Value.int .i64) (by omega))) ?_
    refine s_lt (t_pure (.int .i64 ((i : Int) + 1))) ?_
    refine s_lt (t_pure (.int .i64 ((L.length : Int) - 1 - ((i + 1 : Nat) : Int)))) ?_
    refine s_nil ?_
    exact xs_round (((X.set i y4).set (L.length - 1 - i) y6), i + 1) (by show L.length - (i + 1) < L.length - i; omega) (rv_step hi1 (by omega) hy7 hy5) (sub_of rfl ⟨⟨rfl, rfl⟩, ⟨⟨rfl, rfl⟩, ⟨⟨rfl, rfl⟩, trivial⟩⟩⟩) (fun _ h => h.re [0] [])
  ·
    have p10 := of_decide_eq_false c2
    refine k_exit ?_
    refine xs_exit ?_
    refine xs_exit ?_
    refine xs_here ?_
    have hX : X = L.reverse := rv_end hi1 (by omega)
    subst hX
    exact xs_finN [] (own eTy v L.reverse :: F) SI.nil (fun _ h => h.re [0] []) ⟨rfl, rfl⟩
theorem separate_s {Z : Zone} {F : List Asr} {b : Nat} {reg pend : List Int} {mb : Nat} {A : List Int} (hr : reg.length ≤ 100000) (hp : pend.length ≤ 100000) : SF Try.prog 38 #[.pointer (some ⟨b, 0, none⟩), .map (some mb)] Z (qA b reg pend :: mpA eK bV mb (setL A) :: F) fun r Bs => Bs = qA b (stayL A reg) (pend ++ sepL A reg) :: own iTy r (sepL A reg) :: mpA eK bV mb (setL A) :: F := by
  refine sf_enter Try.func38 47 [(0, .pointer (some ⟨b, 0, none⟩)), (1, .map (some mb))] (fun w0 => ?_)
  refine k_mem2 (fun H h => q_open (h.re [0] [])) (fun rq1 pq2 hw => ?_)
  refine k_seq ?_
  refine k_reg ?_
  refine s_lt (t_pure (.slice none 0 0)) ?_
  refine s_nil ?_
  refine xs_then ?_
  refine k_seq ?_
  refine k_reg ?_
  refine s_lt (t_pure (.slice none 0 0)) ?_
  refine s_lt (t_pure (.slice none 0 0)) ?_
  refine s_nil ?_
  refine xs_then ?_
  refine k_seq ?_
  refine k_seq ?_
  refine k_reg ?_
  refine s_lt (t_pure (.pointer (some ⟨b, 0, none⟩))) ?_
  refine s_lt (t_pure (.pointer (some ⟨b, 0, none⟩))) ?_
  refine s_lt (t_pure (.pointer (some ⟨b, 0, none⟩))) ?_
  refine s_lt (t_load 0 rq1) ?_
  refine s_lt (t_len eTy_ok Try.underlying61 (.own 1)) ?_
  refine s_lt (t_pure (.int .i64 0)) ?_
  refine s_nil ?_
  refine xs_then ?_
  refine k_block ?_
  refine k_mem (fun _ h => Holds.nilS (T := eTy) h) ?_
  refine k_mem (Bs := own eTy (.slice none 0 0) (stayL A (reg.take 0)) :: blkA b #[rq1, pq2] 63 :: own eTy rq1 reg :: ownO eTy pq2 pend :: mpA eK bV mb (setL A) :: F) (fun _ h => h) ?_
  refine k_mem (fun _ h => Holds.nilS (T := eTy) h) ?_
  refine k_mem (Bs := own eTy (.slice none 0 0) (lostL A (reg.take 0)) :: own eTy (.slice none 0 0) (stayL A (reg.take 0)) :: blkA b #[rq1, pq2] 63 :: own eTy rq1 reg :: ownO eTy pq2 pend :: mpA eK bV mb (setL A) :: F) (fun _ h => h) ?_
  refine k_loop (ι := Value × Value × Nat) (fun (sx, gx, i) => i ≤ reg.length) (fun (sx, gx, i) => [(0, .pointer (some ⟨b, 0, none⟩)), (1, .map (some mb)), (4, (.slice none 0 0)), (5, sx), (6, gx), (12, rq1), (13, .int .i64 (reg.length : Int)), (14, .int .i64 (i : Int))]) (fun (sx, gx, i) => own eTy gx (lostL A (reg.take i)) :: own eTy sx (stayL A (reg.take i)) :: blkA b #[rq1, pq2] 63 :: own eTy rq1 reg :: ownO eTy pq2 pend :: mpA eK bV mb (setL A) :: F) (fun (sx, gx, i) => reg.length - i) (.slice none 0 0, .slice none 0 0, 0) (Nat.zero_le _) (sub_of rfl ⟨⟨rfl, rfl⟩, ⟨⟨rfl, rfl⟩, ⟨⟨rfl, rfl⟩, ⟨⟨rfl, rfl⟩, ⟨⟨rfl, rfl⟩, ⟨⟨rfl, rfl⟩, ⟨⟨rfl, rfl⟩, ⟨⟨rfl, rfl⟩, trivial⟩⟩⟩⟩⟩⟩⟩⟩) (fun _ h => h.re [0, 0, 0, 0, 0, 0] []) ?_
  rintro ⟨sx, gx, i⟩ hi3
  replace hi3 : i ≤ reg.length := hi3
  show SK _ _ _ _ _ [(0, .pointer (some ⟨b, 0, none⟩)), (1, .map (some mb)), (4, (.slice none 0 0)), (5, sx), (6, gx), (12, rq1), (13, .int .i64 (reg.length : Int)), (14, .int .i64 (i : Int))] _ (own eTy gx (lostL A (reg.take i)) :: own eTy sx (stayL A (reg.take i)) :: blkA b #[rq1, pq2] 63 :: own eTy rq1 reg :: ownO eTy pq2 pend :: mpA eK bV mb (setL A) :: F)
  have hs1 := stay_len A (reg.take i); have hs2 := lost_len A (reg.take i); rw [List.length_take] at hs1 hs2
  refine k_seq ?_
  refine k_reg ?_
  refine s_lt t_cmp ?_
  refine s_nil ?_
  refine xs_then ?_
  refine k_seq ?_
  refine k_cond (decide ((i : Int) < (reg.length : Int))) (fun c4 => ?_) (fun c4 => ?_)
  ·
    have p5 := of_decide_eq_true c4
    refine k_skip ?_
    refine xs_then ?_
    refine k_seq ?_
    refine k_block ?_
    refine k_seq ?_
    refine k_reg ?_
    refine s_lt (t_index eTy_ok Try.underlying61 (.own 3) (i : Int) i (by omega) (by (try simp only [List.length_nil, List.length_cons, List.length_append, List.length_take, List.length_drop, List.length_set, List.length_replicate, List.length_reverse, bits_len]); omega) (by omega)) ?_
    obtain ⟨y6, hy7⟩ : ∃ y, reg[i]? = some y := ⟨_, List.getElem?_eq_getElem (by (try simp only [List.length_nil, List.length_cons, List.length_append, List.length_take, List.length_drop, List.length_set, List.length_replicate, List.length_reverse, bits_len]); omega)⟩
    refine s_lt (t_loadE eTy_ok (.own 3) hy7) ?_
    refine s_alloc (.agg #[.int .i64 0]) #[.int .i64 0] (fun g8 => ?_)
    refine s_store 0 #[.int .i64 y6] ?_
    refine s_nil ?_
    refine xs_then ?_
    refine k_seq ?_
    refine k_reg ?_
    refine s_lt (t_pure (.map (some mb))) ?_
    refine s_lt (t_loadA 0 #[.int .i64 y6]) ?_
    refine s_lt (Lt.to (v' := .bool (decide (y6 ∈ A))) (t_lookup 6 eK_ok Try.underlying67 (.bool false) y6) (got_set _ _)) ?_
    refine s_nil ?_
    refine xs_then ?_
    refine k_cond (decide (y6 ∈ A)) (fun c9 => ?_) (fun c9 => ?_)
    ·
      have p10 := of_decide_eq_true c9
      refine k_reg ?_
      refine s_lt (t_pure sx) ?_
      refine s_lt (t_loadA 0 #[.int .i64 y6]) ?_
      refine s_buildSlice (e := 66) [(0, .agg #[.int .i64 y6])] #[.int .i64 y6] (fun g11 => ?_) (hb := by kernel_rfl)
      refine s_append (L := (stayL A (reg.take i))) 3 eTy_ok Try.underlying61 (.lit 0 eTy_ok [y6]) (by show _ * 8 ≤ _; (try simp only [List.length_nil, List.length_cons, List.length_append, List.length_take, List.length_drop, List.length_set, List.length_replicate, List.length_reverse, bits_len]); omega) (by (try simp only [List.length_nil, List.length_cons, List.length_append, List.length_take, List.length_drop, List.length_set, List.length_replicate, List.length_reverse, bits_len]); omega) (fun v12 => ?_)
      refine s_fact (fun H h => ((Acc.own (T := eTy) (L := ((stayL A (reg.take i)) ++ [y6])) 3 rfl) H h).form) (fun hf13 => ?_)
      refine s_lt (t_pure v12) ?_
      refine s_nil ?_
      refine xs_block ?_
      refine xs_then ?_
      refine k_reg ?_
      refine s_lt (t_add (i : Int) 1 (by (try simp only [List.length_nil, List.length_cons, List.length_append, List.length_take, List.length_drop, List.length_set, List.length_replicate, List.length_reverse, bits_len]); omega)) ?_
      refine s_lt (t_pure (.int .i64 ((i : Int) + 1))) ?_
      refine s_nil ?_
      have hq := stay_yes (A := A) hy7 p10
      rw [hq.1, hq.2]
      exact xs_round (v12, gx, i + 1) (by show reg.length - (i + 1) < reg.length - i; omega) (by show i + 1 ≤ reg.length; omega) (sub_of rfl ⟨⟨rfl, rfl⟩, ⟨⟨rfl, rfl⟩, ⟨⟨rfl, rfl⟩, ⟨⟨rfl, rfl⟩, ⟨⟨rfl, rfl⟩, ⟨⟨rfl, rfl⟩, ⟨⟨rfl, rfl⟩, ⟨⟨rfl, rfl⟩, trivial⟩⟩⟩⟩⟩⟩⟩⟩) (fun _ h => h.re [2, 2, 2, 2, 2, 2] [6, 6])
    ·
      have p14 := of_decide_eq_false c9
      refine k_reg ?_
      refine s_lt (t_pure gx) ?_
      refine s_lt (t_loadA 0 #[.int .i64 y6]) ?_
      refine s_buildSlice (e := 66) [(0, .agg #[.int .i64 y6])] #[.int .i64 y6] (fun g15 => ?_) (hb := by kernel_rfl)
      refine s_append (L := (lostL A (reg.take i))) 2 eTy_ok Try.underlying61 (.lit 0 eTy_ok [y6]) (by show _ * 8 ≤ _; (try simp only [List.length_nil, List.length_cons, List.length_append, List.length_take, List.length_drop, List.length_set, List.length_replicate, List.length_reverse, bits_len]); omega) (by (try simp only [List.length_nil, List.length_cons, List.length_append, List.length_take, List.length_drop, List.length_set, List.length_replicate, List.length_reverse, bits_len]); omega) (fun v16 => ?_)
      refine s_fact (fun H h => ((Acc.own (T := eTy) (L := ((lostL A (reg.take i)) ++ [y6])) 2 rfl) H h).form) (fun hf17 => ?_)
      refine s_lt (t_pure v16) ?_
      refine s_nil ?_
      refine xs_block ?_
      refine xs_then ?_
      refine k_reg ?_
      refine s_lt (t_add (i : Int) 1 (by (try simp only [List.length_nil, List.length_cons, List.length_append, List.length_take, List.length_drop, List.length_set, List.length_replicate, List.length_reverse, bits_len]); omega)) ?_
      refine s_lt (t_pure (.int .i64 ((i : Int) + 1))) ?_
      refine s_nil ?_
      have hq := stay_no (A := A) hy7 p14
      rw [hq.1, hq.2]
      exact xs_round (sx, v16, i + 1) (by show reg.length - (i + 1) < reg.length - i; omega) (by show i + 1 ≤ reg.length; omega) (sub_of rfl ⟨⟨rfl, rfl⟩, ⟨⟨rfl, rfl⟩, ⟨⟨rfl, rfl⟩, ⟨⟨rfl, rfl⟩, ⟨⟨rfl, rfl⟩, ⟨⟨rfl, rfl⟩, ⟨⟨rfl, rfl⟩, ⟨⟨rfl, rfl⟩, trivial⟩⟩⟩⟩⟩⟩⟩⟩) (fun _ h => h.re [2, 2, 2, 2, 2, 2] [6, 6])
  ·
    have p18 := of_decide_eq_false c4
    refine k_exit ?_
    obtain rfl : i = reg.length := by omega
    rw [List.take_length]
    have hs3 := stay_len A reg; have hs4 := lost_len A reg; have hs5 := sep_len A reg
    refine xs_exit ?_
    refine xs_exit ?_
    refine xs_here ?_
    refine xs_then ?_
    refine k_seq ?_
    refine k_reg ?_
    refine s_lt (t_pure gx) ?_
    refine s_call [0] (rev_s (L := (lostL A reg)) (by (try simp only [List.length_nil, List.length_cons, List.length_append, List.length_take, List.length_drop, List.length_set, List.length_replicate, List.length_reverse, bits_len]); omega)) ?_
    rintro _ _ ⟨rfl, rfl⟩
    refine s_nil ?_
    refine xs_then ?_
    refine k_seq ?_
    refine k_reg ?_
    refine s_lt (t_pure (.pointer (some ⟨b, 0, none⟩))) ?_
    refine s_lt (t_pure sx) ?_
    refine s_lt (t_pure (.pointer (some ⟨b, 0, none⟩))) ?_
    refine s_lt (t_pure (.pointer (some ⟨b, 0, none⟩))) ?_
    refine s_fact (fun H h => ((Acc.own (T := eTy) (L := (stayL A reg)) 1 rfl) H h).form) (fun hf19 => ?_)
    refine s_store (u := sx) (m := 1) 2 #[sx, pq2] ?_ (hm := by (obtain ⟨_, _, e0⟩ := hf19; rw [e0]; rfl)) (h1 := by (obtain ⟨_, _, e0⟩ := hf19; rw [e0]; rfl)) (ha' := by (obtain ⟨_, _, e0⟩ := hf19; rw [e0]; rfl))
    refine s_nil ?_
    refine xs_then ?_
    refine k_seq ?_
    refine k_reg ?_
    refine s_lt (t_pure (.pointer (some ⟨b, 0, none⟩))) ?_
    refine s_lt (t_pure (.pointer (some ⟨b, 0, none⟩))) ?_
    refine s_lt (t_pure (.pointer (some ⟨b, 0, none⟩))) ?_
    refine s_lt (t_pure (.pointer (some ⟨b, 1, none⟩))) ?_
    refine s_lt (t_load 2 pq2) ?_
    refine s_lt (t_pure gx) ?_
    refine s_appendO (L := pend) 4 eTy_ok Try.underlying61 (.own 0) (by show _ * 8 ≤ _; (try simp only [List.length_nil, List.length_cons, List.length_append, List.length_take, List.length_drop, List.length_set, List.length_replicate, List.length_reverse, bits_len]); omega) (by (try simp only [List.length_nil, List.length_cons, List.length_append, List.length_take, List.length_drop, List.length_set, List.length_replicate, List.length_reverse, bits_len]); omega) (fun v20 => ?_)
    refine s_fact (fun H h => ((Acc.ownO (T := eTy) (L := (pend ++ (lostL A reg).reverse)) 4 rfl) H h).form) (fun hf21 => ?_)
    refine s_lt (t_pure (.pointer (some ⟨b, 0, none⟩))) ?_
    refine s_lt (t_pure (.pointer (some ⟨b, 1, none⟩))) ?_
    refine s_store (u := v20) (m := 1) 2 #[sx, v20] ?_ (hm := by (obtain ⟨_, _, e0⟩ := hf21; rw [e0]; rfl)) (h1 := by (obtain ⟨_, _, e0⟩ := hf21; rw [e0]; rfl)) (ha' := by (obtain ⟨_, _, e0⟩ := hf21; rw [e0]; rfl))
    refine s_nil ?_
    refine xs_then ?_
    refine k_seq ?_
    refine k_reg ?_
    refine s_lt (t_pure gx) ?_
    refine s_pcall (fun _ h => ids_s (L := (lostL A reg).reverse) (Acc.kn (.own 0) h) (by (try simp only [List.length_nil, List.length_cons, List.length_append, List.length_take, List.length_drop, List.length_set, List.length_replicate, List.length_reverse, bits_len]); omega)) ?_
    rintro v22 _ rfl
    refine s_fact (fun H h => ((Acc.own (T := iTy) (L := (lostL A reg).reverse) 0 rfl) H h).form) (fun hf23 => ?_)
    refine s_lt (t_pure v22) ?_
    refine s_nil ?_
    refine xs_then ?_
    refine k_ret ?_
    refine xs_mem (fun _ h => q_shut (h.re [3, 2, 3] [])) ?_
    exact xs_fin [v22] (qA b (stayL A reg) (pend ++ sepL A reg) :: own iTy v22 (sepL A reg) :: mpA eK bV mb (setL A) :: F) (SI.tmp 4 SI.nil) (fun _ h => h.re [0, 0, 2] [3, 3]) rfl
theorem separate0_s {Z : Zone} {F : List Asr} {b : Nat} {reg pend : List Int} (hr : reg.length ≤ 100000) (hp : pend.length ≤ 100000) : SF Try.prog 38 #[.pointer (some ⟨b, 0, none⟩), .map none] Z (qA b reg pend :: F) fun r Bs => Bs = qA b (stayL [] reg) (pend ++ sepL [] reg) :: own iTy r (sepL [] reg) :: F := by
  refine sf_enter Try.func38 47 [(0, .pointer (some ⟨b, 0, none⟩)), (1, .map none)] (fun w0 => ?_)
  refine k_mem2 (fun H h => q_open (h.re [0] [])) (fun rq1 pq2 hw => ?_)
  refine k_seq ?_
  refine k_reg ?_
  refine s_lt (t_pure (.slice none 0 0)) ?_
  refine s_nil ?_
  refine xs_then ?_
  refine k_seq ?_
  refine k_reg ?_
  refine s_lt (t_pure (.slice none 0 0)) ?_
  refine s_lt (t_pure (.slice none 0 0)) ?_
  refine s_nil ?_
  refine xs_then ?_
  refine k_seq ?_
  refine k_seq ?_
  refine k_reg ?_
  refine s_lt (t_pure (.pointer (some ⟨b, 0, none⟩))) ?_
  refine s_lt (t_pure (.pointer (some ⟨b, 0, none⟩))) ?_
  refine s_lt (t_pure (.pointer (some ⟨b, 0, none⟩))) ?_
  refine s_lt (t_load 0 rq1) ?_
  refine s_lt (t_len eTy_ok Try.underlying61 (.own 1)) ?_
  refine s_lt (t_pure (.int .i64 0)) ?_
  refine s_nil ?_
  refine xs_then ?_
  refine k_block ?_
  refine k_mem (fun _ h => Holds.nilS (T := eTy) h) ?_
  refine k_mem (Bs := own eTy (.slice none 0 0) (stayL [] (reg.take 0)) :: blkA b #[rq1, pq2] 63 :: own eTy rq1 reg :: ownO eTy pq2 pend :: F) (fun _ h => h) ?_
  refine k_mem (fun _ h => Holds.nilS (T := eTy) h) ?_
  refine k_mem (Bs := own eTy (.slice none 0 0) (lostL [] (reg.take 0)) :: own eTy (.slice none 0 0) (stayL [] (reg.take 0)) :: blkA b #[rq1, pq2] 63 :: own eTy rq1 reg :: ownO eTy pq2 pend :: F) (fun _ h => h) ?_
  refine k_loop (ι := Value × Value × Nat) (fun (sx, gx, i) => i ≤ reg.length) (fun (sx, gx, i) => [(0, .pointer (some ⟨b, 0, none⟩)), (1, .map none), (4, (.slice none 0 0)), (5, sx), (6, gx), (12, rq1), (13, .int .i64 (reg.length : Int)), (14, .int .i64 (i : Int))]) (fun (sx, gx, i) => own eTy gx (lostL [] (reg.take i)) :: own eTy sx (stayL [] (reg.take i)) :: blkA b #[rq1, pq2] 63 :: own eTy rq1 reg :: ownO eTy pq2 pend :: F) (fun (sx, gx, i) => reg.length - i) (.slice none 0 0, .slice none 0 0, 0) (Nat.zero_le _) (sub_of rfl ⟨⟨rfl, rfl⟩, ⟨⟨rfl, rfl⟩, ⟨⟨rfl, rfl⟩, ⟨⟨rfl, rfl⟩, ⟨⟨rfl, rfl⟩, ⟨⟨rfl, rfl⟩, ⟨⟨rfl, rfl⟩, ⟨⟨rfl, rfl⟩, trivial⟩⟩⟩⟩⟩⟩⟩⟩) (fun _ h => h.re [0, 0, 0, 0, 0] []) ?_
  rintro ⟨sx, gx, i⟩ hi3
  replace hi3 : i ≤ reg.length := hi3
  show SK _ _ _ _ _ [(0, .pointer (some ⟨b, 0, none⟩)), (1, .map none), (4, (.slice none 0 0)), (5, sx), (6, gx), (12, rq1), (13, .int .i64 (reg.length : Int)), (14, .int .i64 (i : Int))] _ (own eTy gx (lostL [] (reg.take i)) :: own eTy sx (stayL [] (reg.take i)) :: blkA b #[rq1, pq2] 63 :: own eTy rq1 reg :: ownO eTy pq2 pend :: F)
  have hs1 := stay_len [] (reg.take i); have hs2 := lost_len [] (reg.take i); rw [List.length_take] at hs1 hs2
  refine k_seq ?_
  refine k_reg ?_
  refine s_lt t_cmp ?_
  refine s_nil ?_
  refine xs_then ?_
  refine k_seq ?_
  refine k_cond (decide ((i : Int) < (reg.length : Int))) (fun c4 => ?_) (fun c4 => ?_)
  ·
    have p5 := of_decide_eq_true c4
    refine k_skip ?_
    refine xs_then ?_
    refine k_seq ?_
    refine k_block ?_
    refine k_seq ?_
    refine k_reg ?_
    refine s_lt (t_index eTy_ok Try.underlying61 (.own 3) (i : Int) i (by omega) (by (try simp only [List.length_nil, List.length_cons, List.length_append, List.length_take, List.length_drop, List.length_set, List.length_replicate, List.length_reverse, bits_len]); omega) (by omega)) ?_
    obtain ⟨y6, hy7⟩ : ∃ y, reg[i]? = some y := ⟨_, List.getElem?_eq_getElem (by (try simp only [List.length_nil, List.length_cons, List.length_append, List.length_take, List.length_drop, List.length_set, List.length_replicate, List.length_reverse, bits_len]); omega)⟩
    refine s_lt (t_loadE eTy_ok (.own 3) hy7) ?_
    refine s_alloc (.agg #[.int .i64 0]) #[.int .i64 0] (fun g8 => ?_)
    refine s_store 0 #[.int .i64 y6] ?_
    refine s_nil ?_
    refine xs_then ?_
    refine k_seq ?_
    refine k_reg ?_
    refine s_lt (t_pure (.map none)) ?_
    refine s_lt (t_loadA 0 #[.int .i64 y6]) ?_
    refine s_lt (t_lookupN eK_ok Try.underlying67 (.bool false) y6) ?_
    refine s_nil ?_
    refine xs_then ?_
    refine k_false ?_
    refine k_reg ?_
    refine s_lt (t_pure gx) ?_
    refine s_lt (t_loadA 0 #[.int .i64 y6]) ?_
    refine s_buildSlice (e := 66) [(0, .agg #[.int .i64 y6])] #[.int .i64 y6] (fun g9 => ?_) (hb := by kernel_rfl)
    refine s_append (L := (lostL [] (reg.take i))) 2 eTy_ok Try.underlying61 (.lit 0 eTy_ok [y6]) (by show _ * 8 ≤ _; (try simp only [List.length_nil, List.length_cons, List.length_append, List.length_take, List.length_drop, List.length_set, List.length_replicate, List.length_reverse, bits_len]); omega) (by (try simp only [List.length_nil, List.length_cons, List.length_append, List.length_take, List.length_drop, List.length_set, List.length_replicate, List.length_reverse, bits_len]); omega) (fun v10 => ?_)
    refine s_fact (fun H h => ((Acc.own (T := eTy) (L := ((lostL [] (reg.take i)) ++ [y6])) 2 rfl) H h).form) (fun hf11 => ?_)
    refine s_lt (t_pure v10) ?_
    refine s_nil ?_
    refine xs_block ?_
    refine xs_then ?_
    refine k_reg ?_
    refine s_lt (t_add (i : Int) 1 (by (try simp only [List.length_nil, List.length_cons, List.length_append, List.length_take, List.length_drop, List.length_set, List.length_replicate, List.length_reverse, bits_len]); omega)) ?_
    refine s_lt (t_pure (.int .i64 ((i : Int) + 1))) ?_
    refine s_nil ?_
    have hq := stay_no (A := []) hy7 (by simp)
    rw [hq.1, hq.2]
    exact xs_round (sx, v10, i + 1) (by show reg.length - (i + 1) < reg.length - i; omega) (by show i + 1 ≤ reg.length; omega) (sub_of rfl ⟨⟨rfl, rfl⟩, ⟨⟨rfl, rfl⟩, ⟨⟨rfl, rfl⟩, ⟨⟨rfl, rfl⟩, ⟨⟨rfl, rfl⟩, ⟨⟨rfl, rfl⟩, ⟨⟨rfl, rfl⟩, ⟨⟨rfl, rfl⟩, trivial⟩⟩⟩⟩⟩⟩⟩⟩) (fun _ h => h.re [2, 2, 2, 2, 2] [5, 5])
  ·
    have p12 := of_decide_eq_false c4
    refine k_exit ?_
    obtain rfl : i = reg.length := by omega
    rw [List.take_length]
    have hs3 := stay_len [] reg; have hs4 := lost_len [] reg; have hs5 := sep_len [] reg
    refine xs_exit ?_
    refine xs_exit ?_
    refine xs_here ?_
    refine xs_then ?_
    refine k_seq ?_
    refine k_reg ?_
    refine s_lt (t_pure gx) ?_
    refine s_call [0] (rev_s (L := (lostL [] reg)) (by (try simp only [List.length_nil, List.length_cons, List.length_append, List.length_take, List.length_drop, List.length_set, List.length_replicate, List.length_reverse, bits_len]); omega)) ?_
    rintro _ _ ⟨rfl, rfl⟩
    refine s_nil ?_
    refine xs_then ?_
    refine k_seq ?_
    refine k_reg ?_
    refine s_lt (t_pure (.pointer (some ⟨b, 0, none⟩))) ?_
    refine s_lt (t_pure sx) ?_
    refine s_lt (t_pure (.pointer (some ⟨b, 0, none⟩))) ?_
    refine s_lt (t_pure (.pointer (some ⟨b, 0, none⟩))) ?_
    refine s_fact (fun H h => ((Acc.own (T := eTy) (L := (stayL [] reg)) 1 rfl) H h).form) (fun hf13 => ?_)
    refine s_store (u := sx) (m := 1) 2 #[sx, pq2] ?_ (hm := by (obtain ⟨_, _, e0⟩ := hf13; rw [e0]; rfl)) (h1 := by (obtain ⟨_, _, e0⟩ := hf13; rw [e0]; rfl)) (ha' := by (obtain ⟨_, _, e0⟩ := hf13; rw [e0]; rfl))
    refine s_nil ?_
    refine xs_then ?_
    refine k_seq ?_
    refine k_reg ?_
    refine s_lt (t_pure (.pointer (some ⟨b, 0, none⟩))) ?_
    refine s_lt (t_pure (.pointer (some ⟨b, 0, none⟩))) ?_
    refine s_lt (t_pure (.pointer (some ⟨b, 0, none⟩))) ?_
    refine s_lt (t_pure (.pointer (some ⟨b, 1, none⟩))) ?_
    refine s_lt (t_load 2 pq2) ?_
    refine s_lt (t_pure gx) ?_
    refine s_appendO (L := pend) 4 eTy_ok Try.underlying61 (.own 0) (by show _ * 8 ≤ _; (try simp only [List.length_nil, List.length_cons, List.length_append, List.length_take, List.length_drop, List.length_set, List.length_replicate, List.length_reverse, bits_len]); omega) (by (try simp only [List.length_nil, List.length_cons, List.length_append, List.length_take, List.length_drop, List.length_set, List.length_replicate, List.length_reverse, bits_len]); omega) (fun v14 => ?_)
    refine s_fact (fun H h => ((Acc.ownO (T := eTy) (L := (pend ++ (lostL [] reg).reverse)) 4 rfl) H h).form) (fun hf15 => ?_)
    refine s_lt (t_pure (.pointer (some ⟨b, 0, none⟩))) ?_
    refine s_lt (t_pure (.pointer (some ⟨b, 1, none⟩))) ?_
    refine s_store (u := v14) (m := 1) 2 #[sx, v14] ?_ (hm := by (obtain ⟨_, _, e0⟩ := hf15; rw [e0]; rfl)) (h1 := by (obtain ⟨_, _, e0⟩ := hf15; rw [e0]; rfl)) (ha' := by (obtain ⟨_, _, e0⟩ := hf15; rw [e0]; rfl))
    refine s_nil ?_
    refine xs_then ?_
    refine k_seq ?_
    refine k_reg ?_
    refine s_lt (t_pure gx) ?_
    refine s_pcall (fun _ h => ids_s (L := (lostL [] reg).reverse) (Acc.kn (.own 0) h) (by (try simp only [List.length_nil, List.length_cons, List.length_append, List.length_take, List.length_drop, List.length_set, List.length_replicate, List.length_reverse, bits_len]); omega)) ?_
    rintro v16 _ rfl
    refine s_fact (fun H h => ((Acc.own (T := iTy) (L := (lostL [] reg).reverse) 0 rfl) H h).form) (fun hf17 => ?_)
    refine s_lt (t_pure v16) ?_
    refine s_nil ?_
    refine xs_then ?_
    refine k_ret ?_
    refine xs_mem (fun _ h => q_shut (h.re [3, 2, 3] [])) ?_
    exact xs_fin [v16] (qA b (stayL [] reg) (pend ++ sepL [] reg) :: own iTy v16 (sepL [] reg) :: F) (SI.tmp 4 SI.nil) (fun _ h => h.re [0, 0] [2, 2]) rfl
theorem sepa_s {av : Value} {A : List Int} {Z : Zone} {F : List Asr} {b : Nat} {reg pend : List Int} (hA : Kn Z iTy av A) (hr : reg.length ≤ 100000) (hp : pend.length ≤ 100000) : SF Try.prog 15 #[.pointer (some ⟨b, 0, none⟩), av] Z (qA b reg pend :: F) fun r Bs => Bs = qA b (stayL A reg) (pend ++ sepL A reg) :: own iTy r (sepL A reg) :: F := by
  refine sf_enter Try.func15 24 [(0, .pointer (some ⟨b, 0, none⟩)), (1, av)] (fun w0 => ?_)
  refine k_fact (fun H h => (hA.get h).len_le) (fun lA => ?_)
  refine k_seq ?_
  refine k_reg ?_
  refine s_lt (t_pure (.slice none 0 0)) ?_
  refine s_nil ?_
  refine xs_then ?_
  refine k_seq ?_
  refine k_seq ?_
  refine k_reg ?_
  refine s_lt (t_pure (.pointer (some ⟨b, 0, none⟩))) ?_
  refine s_lt (t_pure (.bool false)) ?_
  refine s_nil ?_
  refine xs_then ?_
  refine k_false ?_
  refine k_skip ?_
  refine xs_then ?_
  refine k_seq ?_
  refine k_reg ?_
  refine s_makeMap eK bV (fun b1 => ?_)
  refine s_lt (t_pure (.map (some b1))) ?_
  refine s_nil ?_
  refine xs_then ?_
  refine k_seq ?_
  refine k_seq ?_
  refine k_reg ?_
  refine s_lt (t_pure av) ?_
  refine s_lt (t_len iTy_ok Try.underlying22 (.zn hA)) ?_
  refine s_lt (t_pure (.int .i64 0)) ?_
  refine s_nil ?_
  refine xs_then ?_
  refine k_block ?_
  refine k_mem (Bs := mpA eK bV b1 (setL (A.take 0)) :: qA b reg pend :: F) (fun _ h => h) ?_
  refine k_loop (ι := Nat) (fun i => i ≤ A.length) (fun i => [(0, .pointer (some ⟨b, 0, none⟩)), (4, (.slice none 0 0)), (5, .map (some b1)), (11, av), (12, .int .i64 (A.length : Int)), (13, .int .i64 (i : Int))]) (fun i => mpA eK bV b1 (setL (A.take i)) :: qA b reg pend :: F) (fun i => A.length - i) 0 (Nat.zero_le _) (sub_of rfl ⟨⟨rfl, rfl⟩, ⟨⟨rfl, rfl⟩, ⟨⟨rfl, rfl⟩, ⟨⟨rfl, rfl⟩, ⟨⟨rfl, rfl⟩, ⟨⟨rfl, rfl⟩, trivial⟩⟩⟩⟩⟩⟩) (fun _ h => h.re [0, 0] []) ?_
  rintro i hi2
  show SK _ _ _ _ _ [(0, .pointer (some ⟨b, 0, none⟩)), (4, (.slice none 0 0)), (5, .map (some b1)), (11, av), (12, .int .i64 (A.length : Int)), (13, .int .i64 (i : Int))] _ (mpA eK bV b1 (setL (A.take i)) :: qA b reg pend :: F)
  refine k_seq ?_
  refine k_reg ?_
  refine s_lt t_cmp ?_
  refine s_nil ?_
  refine xs_then ?_
  refine k_seq ?_
  refine k_cond (decide ((i : Int) < (A.length : Int))) (fun c3 => ?_) (fun c3 => ?_)
  ·
    have p4 := of_decide_eq_true c3
    refine k_skip ?_
    refine xs_then ?_
    refine k_seq ?_
    refine k_block ?_
    refine k_seq ?_
    refine k_reg ?_
    refine s_lt (t_index iTy_ok Try.underlying22 (.zn hA) (i : Int) i (by omega) (by (try simp only [List.length_nil, List.length_cons, List.length_append, List.length_take, List.length_drop, List.length_set, List.length_replicate, List.length_reverse, bits_len]); omega) (by omega)) ?_
    obtain ⟨y5, hy6⟩ : ∃ y, A[i]? = some y := ⟨_, List.getElem?_eq_getElem (by (try simp only [List.length_nil, List.length_cons, List.length_append, List.length_take, List.length_drop, List.length_set, List.length_replicate, List.length_reverse, bits_len]); omega)⟩
    refine s_lt (t_loadE iTy_ok (.zn hA) hy6) ?_
    refine s_lt (t_pure (.int .i64 y5)) ?_
    refine s_nil ?_
    refine xs_then ?_
    refine k_reg ?_
    refine s_lt (t_pure (.map (some b1))) ?_
    refine s_lt (t_pure (.int .i64 y5)) ?_
    refine s_lt (t_kern (.agg #[.int .i64 y5])) ?_
    refine s_update 0 eK_ok Try.underlying67 y5 true ?_
    refine s_nil ?_
    refine xs_block ?_
    refine xs_then ?_
    refine k_reg ?_
    refine s_lt (t_add (i : Int) 1 (by (try simp only [List.length_nil, List.length_cons, List.length_append, List.length_take, List.length_drop, List.length_set, List.length_replicate, List.length_reverse, bits_len]); omega)) ?_
    refine s_lt (t_pure (.int .i64 ((i : Int) + 1))) ?_
    refine s_nil ?_
    rw [set_take hy6]
    exact xs_round (i + 1) (by omega) (by show i + 1 ≤ A.length; omega) (sub_of rfl ⟨⟨rfl, rfl⟩, ⟨⟨rfl, rfl⟩, ⟨⟨rfl, rfl⟩, ⟨⟨rfl, rfl⟩, ⟨⟨rfl, rfl⟩, ⟨⟨rfl, rfl⟩, trivial⟩⟩⟩⟩⟩⟩) (fun _ h => h.re [0, 0] [])
  ·
    have p7 := of_decide_eq_false c3
    refine k_exit ?_
    rw [List.take_of_length_le (show A.length ≤ i by omega)]
    refine xs_exit ?_
    refine xs_exit ?_
    refine xs_here ?_
    refine xs_then ?_
    refine k_seq ?_
    refine k_reg ?_
    refine s_lt (t_pure (.pointer (some ⟨b, 0, none⟩))) ?_
    refine s_lt (t_pure (.map (some b1))) ?_
    refine s_call [1, 0] (separate_s (A := A) (reg := reg) (pend := pend) (by (try simp only [List.length_nil, List.length_cons, List.length_append, List.length_take, List.length_drop, List.length_set, List.length_replicate, List.length_reverse, bits_len]); omega) (by (try simp only [List.length_nil, List.length_cons, List.length_append, List.length_take, List.length_drop, List.length_set, List.length_replicate, List.length_reverse, bits_len]); omega)) ?_
    rintro v8 _ rfl
    refine s_fact (fun H h => ((Acc.own (T := iTy) (L := (sepL A reg)) 1 rfl) H h).form) (fun hf9 => ?_)
    refine s_lt (t_pure v8) ?_
    refine s_nil ?_
    refine xs_then ?_
    refine k_ret ?_
    exact xs_fin [v8] (qA b (stayL A reg) (pend ++ sepL A reg) :: own iTy v8 (sepL A reg) :: F) (SI.tmp 4 SI.nil) (fun _ h => h.re [0, 0] [2]) rfl
theorem end_s {Z : Zone} {F : List Asr} {b : Nat} {reg pend : List Int} (hr : reg.length ≤ 100000) (hp : pend.length ≤ 100000) : SF Try.prog 29 #[.pointer (some ⟨b, 0, none⟩)] Z (qA b reg pend :: F) fun r Bs => Bs = qA b (stayL [] reg) (pend ++ sepL [] reg) :: own iTy r (sepL [] reg) :: F := by
  refine sf_enter Try.func29 7 [(0, .pointer (some ⟨b, 0, none⟩))] (fun w0 => ?_)
  refine k_seq ?_
  refine k_reg ?_
  refine s_lt (t_pure (.slice none 0 0)) ?_
  refine s_nil ?_
  refine xs_then ?_
  refine k_seq ?_
  refine k_seq ?_
  refine k_reg ?_
  refine s_lt (t_pure (.pointer (some ⟨b, 0, none⟩))) ?_
  refine s_lt (t_pure (.bool false)) ?_
  refine s_nil ?_
  refine xs_then ?_
  refine k_false ?_
  refine k_skip ?_
  refine xs_then ?_
  refine k_seq ?_
  refine k_reg ?_
  refine s_lt (t_pure (.pointer (some ⟨b, 0, none⟩))) ?_
  refine s_call [0] (separate0_s (reg := reg) (pend := pend) (by (try simp only [List.length_nil, List.length_cons, List.length_append, List.length_take, List.length_drop, List.length_set, List.length_replicate, List.length_reverse, bits_len]); omega) (by (try simp only [List.length_nil, List.length_cons, List.length_append, List.length_take, List.length_drop, List.length_set, List.length_replicate, List.length_reverse, bits_len]); omega)) ?_
  rintro v1 _ rfl
  refine s_fact (fun H h => ((Acc.own (T := iTy) (L := (sepL [] reg)) 1 rfl) H h).form) (fun hf2 => ?_)
  refine s_lt (t_pure v1) ?_
  refine s_nil ?_
  refine xs_then ?_
  refine k_ret ?_
  exact xs_fin [v1] (qA b (stayL [] reg) (pend ++ sepL [] reg) :: own iTy v1 (sepL [] reg) :: F) (SI.tmp 2 SI.nil) (fun _ h => h.re [0, 0] []) rfl
def nextI (l : List Int) : Int := l.headD 0
def nextB (l : List Int) : Bool := !l.isEmpty
theorem next_some {l : List Int} {y : Int} (h : l[0]? = some y) : nextI l = y ∧ nextB l = true ∧ l.drop 1 = l.tail := by
  cases l with
  | nil => cases h
  | cons a r => simp at h; subst h; exact ⟨rfl, rfl, rfl⟩
theorem next_s {Z : Zone} {F : List Asr} {b : Nat} {reg pend : List Int} (hp : pend.length ≤ 1000000) : SF Try.prog 30 #[.pointer (some ⟨b, 0, none⟩)] Z (qA b reg pend :: F) fun r Bs => r = .tuple #[.int .i64 (nextI pend), .bool (nextB pend)] ∧ Bs = qA b reg pend.tail :: F := by
  refine sf_enter Try.func30 31 [(0, .pointer (some ⟨b, 0, none⟩))] (fun w0 => ?_)
  refine k_seq ?_
  refine k_reg ?_
  refine s_lt (t_pure (.int .i64 0)) ?_
  refine s_lt (t_pure (.bool false)) ?_
  refine s_nil ?_
  refine xs_then ?_
  refine k_seq ?_
  refine k_seq ?_
  refine k_reg ?_
  refine s_lt (t_pure (.pointer (some ⟨b, 0, none⟩))) ?_
  refine s_lt (t_pure (.bool false)) ?_
  refine s_lt (t_pure (.bool false)) ?_
  refine s_lt (t_pure (.pointer (some ⟨b, 0, none⟩))) ?_
  refine s_lt (t_pure (.pointer (some ⟨b, 0, none⟩))) ?_
  refine s_lt (t_pure (.pointer (some ⟨b, 1, none⟩))) ?_
  refine s_mem2 (fun H h => q_open (h.re [0] [])) (fun rq1 pq2 hw => ?_)
  refine s_lt (t_load 0 pq2) ?_
  refine s_lt (t_len eTy_ok Try.underlying61 (.ownO 2)) ?_
  refine s_lt t_cmp ?_
  refine s_lt (t_pure (.bool (decide ((pend.length : Int) = 0)))) ?_
  refine s_nil ?_
  refine xs_then ?_
  refine k_cond (decide ((pend.length : Int) = 0)) (fun c3 => ?_) (fun c3 => ?_)
  ·
    have p4 := of_decide_eq_true c3
    refine k_seq ?_
    refine k_reg ?_
    refine s_lt (t_pure (.int .i64 0)) ?_
    refine s_lt (t_pure (.bool false)) ?_
    refine s_nil ?_
    refine xs_then ?_
    refine k_ret ?_
    refine xs_ret ?_
    refine xs_mem (fun _ h => q_shut (h.re [0, 0, 0] [])) ?_
    obtain rfl : pend = [] := List.eq_nil_of_length_eq_zero (by omega)
    exact xs_fin [.int .i64 0, .bool false] (qA b reg [] :: F) (SI.tmp 2 (SI.tmp 3 SI.nil)) (fun _ h => h.re [0] []) ⟨rfl, rfl⟩
  ·
    have p5 := of_decide_eq_false c3
    refine k_skip ?_
    refine xs_then ?_
    refine k_seq ?_
    refine k_reg ?_
    refine s_lt (t_pure (.pointer (some ⟨b, 0, none⟩))) ?_
    refine s_lt (t_pure (.pointer (some ⟨b, 0, none⟩))) ?_
    refine s_lt (t_pure (.pointer (some ⟨b, 1, none⟩))) ?_
    refine s_lt (t_load 0 pq2) ?_
    refine s_lt (t_index eTy_ok Try.underlying61 (.ownO 2) 0 0 (by omega) (by (try simp only [List.length_nil, List.length_cons, List.length_append, List.length_take, List.length_drop, List.length_set, List.length_replicate, List.length_reverse, bits_len]); omega) (by omega)) ?_
    obtain ⟨y6, hy7⟩ : ∃ y, pend[0]? = some y := ⟨_, List.getElem?_eq_getElem (by (try simp only [List.length_nil, List.length_cons, List.length_append, List.length_take, List.length_drop, List.length_set, List.length_replicate, List.length_reverse, bits_len]); omega)⟩
    refine s_lt (t_loadE eTy_ok (.ownO 2) hy7) ?_
    refine s_alloc (.agg #[.int .i64 0]) #[.int .i64 0] (fun g8 => ?_)
    refine s_store 0 #[.int .i64 y6] ?_
    refine s_nil ?_
    refine xs_then ?_
    refine k_seq ?_
    refine k_reg ?_
    refine s_lt (t_pure (.pointer (some ⟨b, 0, none⟩))) ?_
    refine s_lt (t_pure (.pointer (some ⟨b, 0, none⟩))) ?_
    refine s_lt (t_pure (.pointer (some ⟨b, 0, none⟩))) ?_
    refine s_lt (t_pure (.pointer (some ⟨b, 1, none⟩))) ?_
    refine s_lt (t_load 1 pq2) ?_
    refine s_lt (t_suf eTy_ok Try.underlying61 (.ownO 3) 1 1 (by omega) (by (try simp only [List.length_nil, List.length_cons, List.length_append, List.length_take, List.length_drop, List.length_set, List.length_replicate, List.length_reverse, bits_len]); omega) (by omega)) ?_
    refine s_lt (t_pure (.pointer (some ⟨b, 0, none⟩))) ?_
    refine s_lt (t_pure (.pointer (some ⟨b, 1, none⟩))) ?_
    refine s_mem (fun _ h => Holds.sufO (i := 3) h eTy_ok 1 rfl (by (try simp only [List.length_nil, List.length_cons, List.length_append, List.length_take, List.length_drop, List.length_set, List.length_replicate, List.length_reverse, bits_len]); omega)) ?_
    refine s_fact (fun H h => ((Acc.ownO (T := eTy) (L := (pend.drop 1)) 3 rfl) H h).form) (fun hf9 => ?_)
    refine s_store (u := (suf eTy.size pq2 1)) (m := 1) 1 #[rq1, (suf eTy.size pq2 1)] ?_ (hm := by (obtain ⟨_, _, e0⟩ := hf9; rw [e0]; rfl)) (h1 := by (obtain ⟨_, _, e0⟩ := hf9; rw [e0]; rfl)) (ha' := by (obtain ⟨_, _, e0⟩ := hf9; rw [e0]; rfl))
    refine s_nil ?_
    refine xs_then ?_
    refine k_seq ?_
    refine k_reg ?_
    refine s_lt (t_pure (.pointer (some ⟨g8, 0, none⟩))) ?_
    refine s_lt (t_load 0 (.int .i64 y6)) ?_
    refine s_lt (t_pure (.int .i64 y6)) ?_
    refine s_lt (t_pure (.bool true)) ?_
    refine s_nil ?_
    refine xs_then ?_
    refine k_ret ?_
    refine xs_mem (fun _ h => q_shut (h.re [1, 1, 1] [])) ?_
    have hn : nextI pend = y6 ∧ nextB pend = true ∧ pend.drop 1 = pend.tail := next_some hy7
    rw [hn.1, hn.2.1, ← hn.2.2]
    exact xs_fin [.int .i64 y6, .bool true] (qA b reg (pend.drop 1) :: F) (SI.tmp 2 (SI.tmp 3 SI.nil)) (fun _ h => h.re [0] [1]) ⟨rfl, rfl⟩
theorem pending_s {Z : Zone} {F : List Asr} {b : Nat} {reg pend : List Int} (hl : pend.length ≤ 1000000) : SF Try.prog 17 #[.pointer (some ⟨b, 0, none⟩)] Z (qA b reg pend :: F) fun r Bs => Bs = own iTy r pend :: qA b reg pend :: F := by
  refine sf_enter Try.func17 10 [(0, .pointer (some ⟨b, 0, none⟩))] (fun w0 => ?_)
  refine k_seq ?_
  refine k_reg ?_
  refine s_lt (t_pure (.slice none 0 0)) ?_
  refine s_nil ?_
  refine xs_then ?_
  refine k_seq ?_
  refine k_seq ?_
  refine k_reg ?_
  refine s_lt (t_pure (.pointer (some ⟨b, 0, none⟩))) ?_
  refine s_lt (t_pure (.bool false)) ?_
  refine s_nil ?_
  refine xs_then ?_
  refine k_false ?_
  refine k_skip ?_
  refine xs_then ?_
  refine k_seq ?_
  refine k_reg ?_
  refine s_lt (t_pure (.pointer (some ⟨b, 0, none⟩))) ?_
  refine s_lt (t_pure (.pointer (some ⟨b, 0, none⟩))) ?_
  refine s_lt (t_pure (.pointer (some ⟨b, 1, none⟩))) ?_
  refine s_mem2 (fun H h => q_open (h.re [0] [])) (fun rq1 pq2 hw => ?_)
  refine s_lt (t_load 0 pq2) ?_
  refine s_pcall (fun _ h => ids_s (L := pend) (Acc.kn (.ownO 2) h) (by (try simp only [List.length_nil, List.length_cons, List.length_append, List.length_take, List.length_drop, List.length_set, List.length_replicate, List.length_reverse, bits_len]); omega)) ?_
  rintro v3 _ rfl
  refine s_fact (fun H h => ((Acc.own (T := iTy) (L := pend) 0 rfl) H h).form) (fun hf4 => ?_)
  refine s_lt (t_pure v3) ?_
  refine s_nil ?_
  refine xs_then ?_
  refine k_ret ?_
  refine xs_mem (fun _ h => q_shut (h.re [1, 1, 1] [])) ?_
  exact xs_fin [v3] (own iTy v3 pend :: qA b reg pend :: F) (SI.tmp 2 SI.nil) (fun _ h => h.re [1, 0] []) rfl
theorem registered_s {Z : Zone} {F : List Asr} {b : Nat} {reg pend : List Int} (hl : reg.length ≤ 1000000) : SF Try.prog 16 #[.pointer (some ⟨b, 0, none⟩)] Z (qA b reg pend :: F) fun r Bs => Bs = own iTy r reg :: qA b reg pend :: F := by
  refine sf_enter Try.func16 10 [(0, .pointer (some ⟨b, 0, none⟩))] (fun w0 => ?_)
  refine k_seq ?_
  refine k_reg ?_
  refine s_lt (t_pure (.slice none 0 0)) ?_
  refine s_nil ?_
  refine xs_then ?_
  refine k_seq ?_
  refine k_seq ?_
  refine k_reg ?_
  refine s_lt (t_pure (.pointer (some ⟨b, 0, none⟩))) ?_
  refine s_lt (t_pure (.bool false)) ?_
  refine s_nil ?_
  refine xs_then ?_
  refine k_false ?_
  refine k_skip ?_
  refine xs_then ?_
  refine k_seq ?_
  refine k_reg ?_
  refine s_lt (t_pure (.pointer (some ⟨b, 0, none⟩))) ?_
  refine s_lt (t_pure (.pointer (some ⟨b, 0, none⟩))) ?_
  refine s_lt (t_pure (.pointer (some ⟨b, 0, none⟩))) ?_
  refine s_mem2 (fun H h => q_open (h.re [0] [])) (fun rq1 pq2 hw => ?_)
  refine s_lt (t_load 0 rq1) ?_
  refine s_pcall (fun _ h => ids_s (L := reg) (Acc.kn (.own 1) h) (by (try simp only [List.length_nil, List.length_cons, List.length_append, List.length_take, List.length_drop, List.length_set, List.length_replicate, List.length_reverse, bits_len]); omega)) ?_
  rintro v3 _ rfl
  refine s_fact (fun H h => ((Acc.own (T := iTy) (L := reg) 0 rfl) H h).form) (fun hf4 => ?_)
  refine s_lt (t_pure v3) ?_
  refine s_nil ?_
  refine xs_then ?_
  refine k_ret ?_
  refine xs_mem (fun _ h => q_shut (h.re [1, 1, 1] [])) ?_
  exact xs_fin [v3] (own iTy v3 reg :: qA b reg pend :: F) (SI.tmp 2 SI.nil) (fun _ h => h.re [1, 0] []) rfl
theorem set_s {Z : Zone} {lv : Value} {L : List Int} (hL : Kn Z iTy lv L) : SF Try.prog 47 #[lv] Z [] fun r Bs => ∃ b, r = .map (some b) ∧ Bs = [mpA (Go.Mem.intK 3) bV b (setL L)] := by
  refine sf_enter Try.func47 17 [(0, lv)] (fun w0 => ?_)
  refine k_fact (fun H h => (hL.get h).len_le) (fun lA => ?_)
  refine k_seq ?_
  refine k_reg ?_
  refine s_lt (t_pure (.map none)) ?_
  refine s_nil ?_
  refine xs_then ?_
  refine k_seq ?_
  refine k_reg ?_
  refine s_makeMap (Go.Mem.intK 3) bV (fun b1 => ?_)
  refine s_lt (t_pure (.map (some b1))) ?_
  refine s_nil ?_
  refine xs_then ?_
  refine k_seq ?_
  refine k_seq ?_
  refine k_reg ?_
  refine s_lt (t_pure lv) ?_
  refine s_lt (t_len iTy_ok Try.underlying22 (.zn hL)) ?_
  refine s_lt (t_pure (.int .i64 0)) ?_
  refine s_nil ?_
  refine xs_then ?_
  refine k_block ?_
  refine k_mem (Bs := [mpA (Go.Mem.intK 3) bV b1 (setL (L.take 0))]) (fun _ h => h) ?_
  refine k_loop (ι := Nat) (fun i => i ≤ L.length) (fun i => [(2, .map none), (3, .map (some b1)), (7, lv), (8, .int .i64 (L.length : Int)), (9, .int .i64 (i : Int))]) (fun i => [mpA (Go.Mem.intK 3) bV b1 (setL (L.take i))]) (fun i => L.length - i) 0 (Nat.zero_le _) (sub_of rfl ⟨⟨rfl, rfl⟩, ⟨⟨rfl, rfl⟩, ⟨⟨rfl, rfl⟩, ⟨⟨rfl, rfl⟩, ⟨⟨rfl, rfl⟩, trivial⟩⟩⟩⟩⟩) (fun _ h => h.re [0] []) ?_
  rintro i hi2
  show SK _ _ _ _ _ [(2, .map none), (3, .map (some b1)), (7, lv), (8, .int .i64 (L.length : Int)), (9, .int .i64 (i : Int))] _ [mpA (Go.Mem.intK 3) bV b1 (setL (L.take i))]
  refine k_seq ?_
  refine k_reg ?_
  refine s_lt t_cmp ?_
  refine s_nil ?_
  refine xs_then ?_
  refine k_seq ?_
  refine k_cond (decide ((i : Int) < (L.length : Int))) (fun c3 => ?_) (fun c3 => ?_)
  ·
    have p4 := of_decide_eq_true c3
    refine k_skip ?_
    refine xs_then ?_
    refine k_seq ?_
    refine k_block ?_
    refine k_seq ?_
    refine k_reg ?_
    refine s_lt (t_index iTy_ok Try.underlying22 (.zn hL) (i : Int) i (by omega) (by (try simp only [List.length_nil, List.length_cons, List.length_append, List.length_take, List.length_drop, List.length_set, List.length_replicate, List.length_reverse, bits_len]); omega) (by omega)) ?_
    obtain ⟨y5, hy6⟩ : ∃ y, L[i]? = some y := ⟨_, List.getElem?_eq_getElem (by (try simp only [List.length_nil, List.length_cons, List.length_append, List.length_take, List.length_drop, List.length_set, List.length_replicate, List.length_reverse, bits_len]); omega)⟩
    refine s_lt (t_loadE iTy_ok (.zn hL) hy6) ?_
    refine s_lt (t_pure (.int .i64 y5)) ?_
    refine s_nil ?_
    refine xs_then ?_
    refine k_reg ?_
    refine s_lt (t_pure (.map (some b1))) ?_
    refine s_lt (t_pure (.int .i64 y5)) ?_
    refine s_update 0 intOk Try.underlying79 y5 true ?_
    refine s_nil ?_
    refine xs_block ?_
    refine xs_then ?_
    refine k_reg ?_
    refine s_lt (t_add (i : Int) 1 (by (try simp only [List.length_nil, List.length_cons, List.length_append, List.length_take, List.length_drop, List.length_set, List.length_replicate, List.length_reverse, bits_len]); omega)) ?_
    refine s_lt (t_pure (.int .i64 ((i : Int) + 1))) ?_
    refine s_nil ?_
    rw [set_take hy6]
    exact xs_round (i + 1) (by omega) (by show i + 1 ≤ L.length; omega) (sub_of rfl ⟨⟨rfl, rfl⟩, ⟨⟨rfl, rfl⟩, ⟨⟨rfl, rfl⟩, ⟨⟨rfl, rfl⟩, ⟨⟨rfl, rfl⟩, trivial⟩⟩⟩⟩⟩) (fun _ h => h.re [0] [])
  ·
    have p7 := of_decide_eq_false c3
    refine k_exit ?_
    refine xs_exit ?_
    refine xs_exit ?_
    refine xs_here ?_
    refine xs_then ?_
    refine k_seq ?_
    refine k_reg ?_
    refine s_lt (t_pure (.map (some b1))) ?_
    refine s_lt (t_pure (.map (some b1))) ?_
    refine s_nil ?_
    refine xs_then ?_
    refine k_ret ?_
    exact xs_fin [.map (some b1)] [mpA (Go.Mem.intK 3) bV b1 (setL L)] (SI.tmp 2 SI.nil) (fun _ h => by rw [List.take_of_length_le (show L.length ≤ i by omega)] at h; exact h.re [0] []) ⟨b1, rfl, rfl⟩
end Go.Proofs.Ytipmkaabogocfaa
