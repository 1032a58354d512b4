/-
  Layer 15: worlds that are made, the small case, MetaHandler. Each law says its conditions.
-/
import Derived.Test.YtplkkhpokodbmaaW7
set_option linter.unusedSimpArgs false
set_option linter.unusedVariables false
set_option maxRecDepth 100000
set_option maxHeartbeats 2000000
namespace Go.Proofs.Ytplkkhpokodbmaa
open Go.Hp Go.J Go.S
open Go.Mem (Ty KTy blk elemAt pre suf blk_pre blk_suf aget aset strK aggDesc)
open Go.Mem (adel apos aget_aset aget_adel)
def boxB : ByteArray := ⟨#[98, 111, 120]⟩
/-- A world after an operation: the heap's state, the objects. -/
def mstep (i : Nat) (o : Opc) (s : Hst × List Vl) : Hst × List Vl :=
  if o.kind = 0 then (hmake s.1 (newO 4 0 ByteArray.empty []), if hmakeE s.1 = 0 then s.2 ++ [hmakeV s.1 4] else s.2) else
  if o.kind = 1 then (hdata s.1 boxB, if hdataE s.1 boxB = 0 then s.2 ++ [hdataV s.1 boxB] else s.2) else
  if o.kind = 2 then (hmake s.1 (newO 5 (i : Int) ByteArray.empty []), if hmakeE s.1 = 0 then s.2 ++ [hmakeV s.1 5] else s.2) else
  if o.kind = 3 then (hset s.1 (ofS s.2 o.a) (ofS s.2 o.b) (ofS s.2 o.c), s.2) else
  (hsetMeta s.1 (ofS s.2 o.a) (ofS s.2 o.b), if o.kind ≤ 2 ∧ hsetMetaE s.1 (ofS s.2 o.a) (ofS s.2 o.b) = 0 then s.2 ++ [zVl] else s.2)
def mst (l : List Opc) : Nat → Hst × List Vl
  | 0 => (hp0, [])
  | i + 1 => match l[i]? with
    | some o => mstep i o (mst l i)
    | none => mst l i
theorem mst_succ {l : List Opc} {i : Nat} {y : Opc} (h : l[i]? = some y) : mst l (i + 1) = mstep i y (mst l i) := by rw [mst, h]
theorem mstep_good {i : Nat} {o : Opc} {s : Hst × List Vl} (h1 : HInv s.1) (h2 : HSm i s.1) (h3 : s.2.length ≤ i) : HInv (mstep i o s).1 ∧ HSm (i + 1) (mstep i o s).1 ∧ (mstep i o s).2.length ≤ i + 1 := by
  have hl : ∀ (p : Prop) [Decidable p] (v : Vl), (if p then s.2 ++ [v] else s.2).length ≤ i + 1 := fun p _ v => by
    by_cases hp : p
    · rw [if_pos hp, List.length_append]; exact Nat.add_le_add_right h3 1
    · rw [if_neg hp]; exact Nat.le_succ_of_le h3
  unfold mstep
  split
  · exact ⟨hmake_inv h1 (newO_inv _ _ _ (by decide)), hmake_sm h2 rfl (by simp [newO]), hl _ _⟩
  split
  · unfold hdata
    split
    · exact ⟨h1, h2.mono (by omega), hl _ _⟩
    · exact ⟨hmake_inv h1 (newO_inv _ _ _ (by decide)), hmake_sm h2 rfl (by simp [newO]), hl _ _⟩
  split
  · exact ⟨hmake_inv h1 (newO_inv _ _ _ (by decide)), hmake_sm h2 rfl (by simp [newO]), hl _ _⟩
  split
  · exact ⟨hset_inv h1 _ _ _, hset_sm h1 h2 _ _ _, by show s.2.length ≤ _; omega⟩
  · exact ⟨hsetMeta_inv h1 _ _, hsetMeta_sm h2 _ _, hl _ _⟩
theorem mst_good (l : List Opc) : ∀ i, HInv (mst l i).1 ∧ HSm i (mst l i).1 ∧ (mst l i).2.length ≤ i
  | 0 => ⟨HInv.nil, HSm.nil, Nat.le_refl _⟩
  | i + 1 => by
    obtain ⟨h1, h2, h3⟩ := mst_good l i
    rw [mst]
    split
    · exact mstep_good h1 h2 h3
    · exact ⟨h1, h2.mono (by omega), by omega⟩
def made (l : List Opc) : Hst × List Vl := mst l (min 100 l.length)
theorem made_good (l : List Opc) : HInv (made l).1 ∧ HSm 100 (made l).1 ∧ (made l).2.length ≤ 100 := by
  obtain ⟨h1, h2, h3⟩ := mst_good l (min 100 l.length)
  exact ⟨h1, h2.mono (by omega), by unfold made; omega⟩
theorem hdata_sm {n : Nat} {st : Hst} (h : HSm n st) (name : ByteArray) : HSm (n + 1) (hdata st name) := by
  unfold hdata
  split
  · exact h.mono (by omega)
  · exact hmake_sm h rfl (by simp [newO])
theorem hdata_inv {st : Hst} (h : HInv st) (name : ByteArray) : HInv (hdata st name) := by
  unfold hdata
  split
  · exact h
  · exact hmake_inv h (newO_inv _ _ _ (by decide))
theorem lives_s {Z : Zone} : SF Try.prog 11 #[] Z [] fun r Bs => r = .bool true ∧ Bs = [] := by
 refine sf_enter Try.func11 49 [] (fun w0 => ?_)
 refine k_sr ?_
 refine sp (.bool false) ?_
 refine s_nr ?_
 refine s_pcall (fun _ h => hnew_s) ?_
 rintro _ _ ⟨hb1, rfl, rfl⟩
 refine sp (pB hb1 0) ?_
 refine s_nt ?_
 refine k_seq ?_
 refine k_sr ?_
 refine sp (pB hb1 0) ?_
 refine sp (.bool false) ?_
 refine s_nt ?_
 refine k_false ?_
 refine k_st ?_
 refine k_sr ?_
 refine sp (pB hb1 0) ?_
 refine s_call [0] (hnewtable_s (st := hp0) (by have := HSm.nil.len; omega)) ?_
 rintro _ _ ⟨rfl, rfl⟩
 have hi2 := hmake_inv (o := (newO 4 0 ByteArray.empty [])) HInv.nil (newO_inv _ _ _ (by decide))
 have hs3 := hmake_sm (o := (newO 4 0 ByteArray.empty [])) HSm.nil rfl (by decide)
 refine sp (.tuple #[.agg #[.int .i64 ((hmakeV hp0 4).kind), .int .i64 ((hmakeV hp0 4).p), .int .i64 ((hmakeV hp0 4).q), .string ((hmakeV hp0 4).str), .int .i64 ((hmakeV hp0 4).ref)], .int .i64 (hmakeE hp0)]) ?_
 refine sp (.agg #[.int .i64 ((hmakeV hp0 4).kind), .int .i64 ((hmakeV hp0 4).p), .int .i64 ((hmakeV hp0 4).q), .string ((hmakeV hp0 4).str), .int .i64 ((hmakeV hp0 4).ref)]) ?_
 refine sp (.int .i64 (hmakeE hp0)) ?_
 refine s_alloc (.agg #[.int .i64 0, .int .i64 0, .int .i64 0, .string ByteArray.empty, .int .i64 0]) #[.int .i64 0, .int .i64 0, .int .i64 0, .string ByteArray.empty, .int .i64 0] (fun g4 => ?_)
 refine s_store 0 #[.int .i64 ((hmakeV hp0 4).kind), .int .i64 ((hmakeV hp0 4).p), .int .i64 ((hmakeV hp0 4).q), .string ((hmakeV hp0 4).str), .int .i64 ((hmakeV hp0 4).ref)] ?_
 refine sp (.int .i64 (hmakeE hp0)) ?_
 refine s_nr ?_
 refine sp (pB hb1 0) ?_
 refine s_call [1] (hnewtable_s (st := (hmake hp0 (newO 4 0 ByteArray.empty []))) (by have := hs3.len; omega)) ?_
 rintro _ _ ⟨rfl, rfl⟩
 have hi5 := hmake_inv (o := (newO 4 0 ByteArray.empty [])) hi2 (newO_inv _ _ _ (by decide))
 have hs6 := hmake_sm (o := (newO 4 0 ByteArray.empty [])) hs3 rfl (by decide)
 refine sp (.tuple #[.agg #[.int .i64 ((hmakeV (hmake hp0 (newO 4 0 ByteArray.empty [])) 4).kind), .int .i64 ((hmakeV (hmake hp0 (newO 4 0 ByteArray.empty [])) 4).p), .int .i64 ((hmakeV (hmake hp0 (newO 4 0 ByteArray.empty [])) 4).q), .string ((hmakeV (hmake hp0 (newO 4 0 ByteArray.empty [])) 4).str), .int .i64 ((hmakeV (hmake hp0 (newO 4 0 ByteArray.empty [])) 4).ref)], .int .i64 (hmakeE (hmake hp0 (newO 4 0 ByteArray.empty [])))]) ?_
 refine sp (.agg #[.int .i64 ((hmakeV (hmake hp0 (newO 4 0 ByteArray.empty [])) 4).kind), .int .i64 ((hmakeV (hmake hp0 (newO 4 0 ByteArray.empty [])) 4).p), .int .i64 ((hmakeV (hmake hp0 (newO 4 0 ByteArray.empty [])) 4).q), .string ((hmakeV (hmake hp0 (newO 4 0 ByteArray.empty [])) 4).str), .int .i64 ((hmakeV (hmake hp0 (newO 4 0 ByteArray.empty [])) 4).ref)]) ?_
 refine sp (.int .i64 (hmakeE (hmake hp0 (newO 4 0 ByteArray.empty [])))) ?_
 refine s_alloc (.agg #[.int .i64 0, .int .i64 0, .int .i64 0, .string ByteArray.empty, .int .i64 0]) #[.int .i64 0, .int .i64 0, .int .i64 0, .string ByteArray.empty, .int .i64 0] (fun g7 => ?_)
 refine s_store 0 #[.int .i64 ((hmakeV (hmake hp0 (newO 4 0 ByteArray.empty [])) 4).kind), .int .i64 ((hmakeV (hmake hp0 (newO 4 0 ByteArray.empty [])) 4).p), .int .i64 ((hmakeV (hmake hp0 (newO 4 0 ByteArray.empty [])) 4).q), .string ((hmakeV (hmake hp0 (newO 4 0 ByteArray.empty [])) 4).str), .int .i64 ((hmakeV (hmake hp0 (newO 4 0 ByteArray.empty [])) 4).ref)] ?_
 refine sp (.int .i64 (hmakeE (hmake hp0 (newO 4 0 ByteArray.empty [])))) ?_
 refine s_nt ?_
 refine k_seq ?_
 refine k_seq ?_
 refine k_held [blkA g7 #[.int .i64 ((hmakeV (hmake hp0 (newO 4 0 ByteArray.empty [])) 4).kind), .int .i64 ((hmakeV (hmake hp0 (newO 4 0 ByteArray.empty [])) 4).p), .int .i64 ((hmakeV (hmake hp0 (newO 4 0 ByteArray.empty [])) 4).q), .string ((hmakeV (hmake hp0 (newO 4 0 ByteArray.empty [])) 4).str), .int .i64 ((hmakeV (hmake hp0 (newO 4 0 ByteArray.empty [])) 4).ref)] 26, blkA g4 #[.int .i64 ((hmakeV hp0 4).kind), .int .i64 ((hmakeV hp0 4).p), .int .i64 ((hmakeV hp0 4).q), .string ((hmakeV hp0 4).str), .int .i64 ((hmakeV hp0 4).ref)] 26] ?_
 refine hp_ 0 [0, 1] (pB g4 0) ?_
 refine h_l 1 rfl [0, 1] (fun _ => (t_load 1 (.int .i64 ((hmakeV hp0 4).kind)))) ?_
 refine h_l 2 rfl [0, 1] (fun _ => (Lt.to t_cmp (congrArg Value.bool ((by kernel_rfl) : (decide ((hmakeV hp0 4).kind ≠ 4)) = false)))) ?_
 refine hp_ 3 [0, 1] (.bool false) ?_
 refine hp_ 4 [0, 1] (pB hb1 0) ?_
 refine h_l 5 rfl [0, 1] (fun _ => (t_loadA 0 #[.int .i64 ((hmakeV (hmake hp0 (newO 4 0 ByteArray.empty [])) 4).kind), .int .i64 ((hmakeV (hmake hp0 (newO 4 0 ByteArray.empty [])) 4).p), .int .i64 ((hmakeV (hmake hp0 (newO 4 0 ByteArray.empty [])) 4).q), .string ((hmakeV (hmake hp0 (newO 4 0 ByteArray.empty [])) 4).str), .int .i64 ((hmakeV (hmake hp0 (newO 4 0 ByteArray.empty [])) 4).ref)])) ?_
 refine h_stepS 6 ?_
 refine s_vcall (fun _ h => lstr_s ⟨#[95, 95, 108, 101, 110]⟩) ?_
 rintro _ rfl
 refine s_nil (xs_held [0, 1] ?_)
 refine h_stepS 7 ?_
 refine s_vcall (fun _ h => lstr_s ⟨#[120]⟩) ?_
 rintro _ rfl
 refine s_nil (xs_held [0, 1] ?_)
 refine h_stepS 8 ?_
 refine s_call [1] (hset_s (st := (hmake (hmake hp0 (newO 4 0 ByteArray.empty [])) (newO 4 0 ByteArray.empty []))) hs6 (by omega) (hmakeV (hmake hp0 (newO 4 0 ByteArray.empty [])) 4) (strV ⟨#[95, 95, 108, 101, 110]⟩) (strV ⟨#[120]⟩)) ?_
 rintro _ _ ⟨rfl, rfl⟩
 have hi8 := hset_inv hi5 (hmakeV (hmake hp0 (newO 4 0 ByteArray.empty [])) 4) (strV ⟨#[95, 95, 108, 101, 110]⟩) (strV ⟨#[120]⟩)
 have hs9 := hset_sm hi5 hs6 (hmakeV (hmake hp0 (newO 4 0 ByteArray.empty [])) 4) (strV ⟨#[95, 95, 108, 101, 110]⟩) (strV ⟨#[120]⟩)
 refine s_nil (xs_held [1, 1] ?_)
 refine h_l 9 rfl [1, 1] (fun _ => (Lt.to t_cmp (congrArg Value.bool ((by kernel_rfl) : (decide ((hsetE (hmake (hmake hp0 (newO 4 0 ByteArray.empty [])) (newO 4 0 ByteArray.empty [])) (hmakeV (hmake hp0 (newO 4 0 ByteArray.empty [])) 4) (strV ⟨#[95, 95, 108, 101, 110]⟩) (strV ⟨#[120]⟩)) ≠ 0)) = false)))) ?_
 refine hp_ 10 [1, 1] (.bool false) ?_
 refine hp_ 11 [1, 1] (.bool false) ?_
 refine hp_ 12 [1, 1] (pB hb1 0) ?_
 refine h_l 13 rfl [1, 1] (fun _ => (t_loadA 1 #[.int .i64 ((hmakeV hp0 4).kind), .int .i64 ((hmakeV hp0 4).p), .int .i64 ((hmakeV hp0 4).q), .string ((hmakeV hp0 4).str), .int .i64 ((hmakeV hp0 4).ref)])) ?_
 refine h_l 14 rfl [1, 1] (fun _ => (t_loadA 0 #[.int .i64 ((hmakeV (hmake hp0 (newO 4 0 ByteArray.empty [])) 4).kind), .int .i64 ((hmakeV (hmake hp0 (newO 4 0 ByteArray.empty [])) 4).p), .int .i64 ((hmakeV (hmake hp0 (newO 4 0 ByteArray.empty [])) 4).q), .string ((hmakeV (hmake hp0 (newO 4 0 ByteArray.empty [])) 4).str), .int .i64 ((hmakeV (hmake hp0 (newO 4 0 ByteArray.empty [])) 4).ref)])) ?_
 refine h_stepS 15 ?_
 refine s_call [0] (hsetmeta_s (st := (hset (hmake (hmake hp0 (newO 4 0 ByteArray.empty [])) (newO 4 0 ByteArray.empty [])) (hmakeV (hmake hp0 (newO 4 0 ByteArray.empty [])) 4) (strV ⟨#[95, 95, 108, 101, 110]⟩) (strV ⟨#[120]⟩))) (hmakeV hp0 4) (hmakeV (hmake hp0 (newO 4 0 ByteArray.empty [])) 4)) ?_
 rintro _ _ ⟨rfl, rfl⟩
 have hi10 := hsetMeta_inv hi8 (hmakeV hp0 4) (hmakeV (hmake hp0 (newO 4 0 ByteArray.empty [])) 4)
 have hs11 := hsetMeta_sm hs9 (hmakeV hp0 4) (hmakeV (hmake hp0 (newO 4 0 ByteArray.empty [])) 4)
 refine s_nil (xs_held [1, 1] ?_)
 refine h_l 16 rfl [1, 1] (fun _ => (Lt.to t_cmp (congrArg Value.bool ((by kernel_rfl) : (decide ((hsetMetaE (hset (hmake (hmake hp0 (newO 4 0 ByteArray.empty [])) (newO 4 0 ByteArray.empty [])) (hmakeV (hmake hp0 (newO 4 0 ByteArray.empty [])) 4) (strV ⟨#[95, 95, 108, 101, 110]⟩) (strV ⟨#[120]⟩)) (hmakeV hp0 4) (hmakeV (hmake hp0 (newO 4 0 ByteArray.empty [])) 4)) ≠ 0)) = false)))) ?_
 refine hp_ 17 [1, 1] (.bool false) ?_
 refine h_doneS ?_
 refine xs_then ?_
 refine k_false ?_
 refine k_st ?_
 refine k_sr ?_
 refine sp (pB hb1 0) ?_
 refine s_lt (t_loadA 2 #[.int .i64 ((hmakeV hp0 4).kind), .int .i64 ((hmakeV hp0 4).p), .int .i64 ((hmakeV hp0 4).q), .string ((hmakeV hp0 4).str), .int .i64 ((hmakeV hp0 4).ref)]) ?_
 refine s_call [0] (hdl_s (st := (hsetMeta (hset (hmake (hmake hp0 (newO 4 0 ByteArray.empty [])) (newO 4 0 ByteArray.empty [])) (hmakeV (hmake hp0 (newO 4 0 ByteArray.empty [])) 4) (strV ⟨#[95, 95, 108, 101, 110]⟩) (strV ⟨#[120]⟩)) (hmakeV hp0 4) (hmakeV (hmake hp0 (newO 4 0 ByteArray.empty [])) 4))) hs11 (by omega) (hmakeV hp0 4) ⟨#[95, 95, 108, 101, 110]⟩) ?_
 rintro _ _ ⟨rfl, rfl⟩
 refine s_vcall (fun _ h => lstr_s ⟨#[120]⟩) ?_
 rintro _ rfl
 refine s_lt (Lt.to (t_eqS (fun w => (eqVlT (hdl (hsetMeta (hset (hmake (hmake hp0 (newO 4 0 ByteArray.empty [])) (newO 4 0 ByteArray.empty [])) (hmakeV (hmake hp0 (newO 4 0 ByteArray.empty [])) 4) (strV ⟨#[95, 95, 108, 101, 110]⟩) (strV ⟨#[120]⟩)) (hmakeV hp0 4) (hmakeV (hmake hp0 (newO 4 0 ByteArray.empty [])) 4)) (hmakeV hp0 4) ⟨#[95, 95, 108, 101, 110]⟩) (strV ⟨#[120]⟩) w).1)) (congrArg Value.bool ((by kernel_rfl) : (decide ((hdl (hsetMeta (hset (hmake (hmake hp0 (newO 4 0 ByteArray.empty [])) (newO 4 0 ByteArray.empty [])) (hmakeV (hmake hp0 (newO 4 0 ByteArray.empty [])) 4) (strV ⟨#[95, 95, 108, 101, 110]⟩) (strV ⟨#[120]⟩)) (hmakeV hp0 4) (hmakeV (hmake hp0 (newO 4 0 ByteArray.empty [])) 4)) (hmakeV hp0 4) ⟨#[95, 95, 108, 101, 110]⟩) = (strV ⟨#[120]⟩))) = true))) ?_
 refine sp (.bool true) ?_
 refine sp (pB hb1 0) ?_
 refine s_lt (t_loadA 1 #[.int .i64 ((hmakeV (hmake hp0 (newO 4 0 ByteArray.empty [])) 4).kind), .int .i64 ((hmakeV (hmake hp0 (newO 4 0 ByteArray.empty [])) 4).p), .int .i64 ((hmakeV (hmake hp0 (newO 4 0 ByteArray.empty [])) 4).q), .string ((hmakeV (hmake hp0 (newO 4 0 ByteArray.empty [])) 4).str), .int .i64 ((hmakeV (hmake hp0 (newO 4 0 ByteArray.empty [])) 4).ref)]) ?_
 refine s_call [0] (hdl_s (st := (hsetMeta (hset (hmake (hmake hp0 (newO 4 0 ByteArray.empty [])) (newO 4 0 ByteArray.empty [])) (hmakeV (hmake hp0 (newO 4 0 ByteArray.empty [])) 4) (strV ⟨#[95, 95, 108, 101, 110]⟩) (strV ⟨#[120]⟩)) (hmakeV hp0 4) (hmakeV (hmake hp0 (newO 4 0 ByteArray.empty [])) 4))) hs11 (by omega) (hmakeV (hmake hp0 (newO 4 0 ByteArray.empty [])) 4) ⟨#[95, 95, 108, 101, 110]⟩) ?_
 rintro _ _ ⟨rfl, rfl⟩
 refine s_lt (t_kern (.agg #[.int .i64 0, .int .i64 0, .int .i64 0, .string ByteArray.empty, .int .i64 0])) ?_
 refine s_lt (Lt.to (t_eqS (fun w => (eqVlT (hdl (hsetMeta (hset (hmake (hmake hp0 (newO 4 0 ByteArray.empty [])) (newO 4 0 ByteArray.empty [])) (hmakeV (hmake hp0 (newO 4 0 ByteArray.empty [])) 4) (strV ⟨#[95, 95, 108, 101, 110]⟩) (strV ⟨#[120]⟩)) (hmakeV hp0 4) (hmakeV (hmake hp0 (newO 4 0 ByteArray.empty [])) 4)) (hmakeV (hmake hp0 (newO 4 0 ByteArray.empty [])) 4) ⟨#[95, 95, 108, 101, 110]⟩) zVl w).1)) (congrArg Value.bool ((by kernel_rfl) : (decide ((hdl (hsetMeta (hset (hmake (hmake hp0 (newO 4 0 ByteArray.empty [])) (newO 4 0 ByteArray.empty [])) (hmakeV (hmake hp0 (newO 4 0 ByteArray.empty [])) 4) (strV ⟨#[95, 95, 108, 101, 110]⟩) (strV ⟨#[120]⟩)) (hmakeV hp0 4) (hmakeV (hmake hp0 (newO 4 0 ByteArray.empty [])) 4)) (hmakeV (hmake hp0 (newO 4 0 ByteArray.empty [])) 4) ⟨#[95, 95, 108, 101, 110]⟩) = zVl)) = true))) ?_
 refine sp (.bool true) ?_
 refine sp (.bool true) ?_
 refine s_nt ?_
 refine k_ret ?_
 exact xs_fin [.bool true] [] (SI.tmp 0 SI.nil) (fun _ h => h.re [] [0, 0, 0]) ⟨rfl, rfl⟩
theorem made_s {Z : Zone} {F : List Asr} {lv : Value} {l : List Opc} (hl0 : Kn Z OpT lv l) : SF Try.prog 12 #[lv] Z F fun r Bs => ∃ hb gb lx, r = .tuple #[.agg #[ptrV hb, ptrV gb, lx], .bool true] ∧ Bs = hpA hb (made l).1 :: rhA gb (made l).1 :: own VlT lx (made l).2 :: F := by
 refine sf_enter Try.func12 152 [(0, lv)] (fun w0 => ?_)
 refine k_fact (fun H h => (hl0.get h).len_le) (fun lA => ?_)
 refine k_sr ?_
 refine s_alloc (.agg #[.pointer none, .pointer none, (.slice none 0 0)]) #[.pointer none, .pointer none, (.slice none 0 0)] (fun g1 => ?_)
 refine sp (.bool false) ?_
 refine s_nr ?_
 refine s_pcall (fun _ h => hnew_s) ?_
 rintro _ _ ⟨hb2, rfl, rfl⟩
 refine s_pcall (fun _ h => rhnew_s) ?_
 rintro _ _ ⟨hb3, rfl, rfl⟩
 refine s_lt (t_kern (.agg #[pB hb2 0, pB hb3 0, (.slice none 0 0)])) ?_
 refine s_alloc (.agg #[.pointer none, .pointer none, (.slice none 0 0)]) #[.pointer none, .pointer none, (.slice none 0 0)] (fun g4 => ?_)
 refine s_store 0 #[pB hb2 0, pB hb3 0, (.slice none 0 0)] ?_
 refine s_nt ?_
 refine k_seq ?_
 refine k_sr ?_
 refine sp (pB g4 0) ?_
 refine s_lt (t_load 0 (pB hb2 0)) ?_
 refine sp (.bool false) ?_
 refine s_nt ?_
 refine k_false ?_
 refine k_st ?_
 refine k_seq ?_
 refine k_sr ?_
 refine sp (.int .i64 0) ?_
 refine s_nt ?_
 refine k_block ?_
 refine k_mem (fun _ h => Holds.nilS (T := VlT) h) ?_
 refine k_mem (Bs := own VlT (.slice none 0 0) ((mst l 0).2) :: blkA g4 #[pB hb2 0, pB hb3 0, (.slice none 0 0)] 35 :: rhA hb3 ((mst l 0).1) :: hpA hb2 ((mst l 0).1) :: blkA g1 #[.pointer none, .pointer none, (.slice none 0 0)] 35 :: F) (fun _ h => h) ?_
 refine k_loop (ι := Value × Nat) (fun (lx, i) => i ≤ 100 ∧ i ≤ l.length) (fun (lx, i) => [(0, lv), (2, pB g1 0), (4, pB g4 0), (5, .int .i64 (i : Int))]) (fun (lx, i) => own VlT lx ((mst l i).2) :: blkA g4 #[pB hb2 0, pB hb3 0, lx] 35 :: rhA hb3 ((mst l i).1) :: hpA hb2 ((mst l i).1) :: blkA g1 #[.pointer none, .pointer none, (.slice none 0 0)] 35 :: F) (fun (lx, i) => 100 - i) ((.slice none 0 0), 0) ⟨by omega, by omega⟩ (sub_of rfl ⟨⟨rfl, rfl⟩, ⟨⟨rfl, rfl⟩, ⟨⟨rfl, rfl⟩, ⟨⟨rfl, rfl⟩, trivial⟩⟩⟩⟩) (fun _ h => h.re [0, 0, 0, 0, 0] []) ?_
 rintro ⟨lx, i⟩ hi5
 replace hi5 : i ≤ 100 ∧ i ≤ l.length := hi5
 show SK _ _ _ _ _ [(0, lv), (2, .pointer (some ⟨g1, 0, none⟩)), (4, .pointer (some ⟨g4, 0, none⟩)), (5, .int .i64 (i : Int))] _ (own VlT lx ((mst l i).2) :: blkA g4 #[.pointer (some ⟨hb2, 0, none⟩), .pointer (some ⟨hb3, 0, none⟩), lx] 35 :: rhA hb3 ((mst l i).1) :: hpA hb2 ((mst l i).1) :: blkA g1 #[.pointer none, .pointer none, (.slice none 0 0)] 35 :: F)
 obtain ⟨hinv, hsm, hll⟩ := mst_good l i
 refine k_seq ?_
 refine k_cut (ι := Unit) (fun _ => True) (fun _ => [(0, lv), (2, pB g1 0), (4, pB g4 0), (5, .int .i64 (i : Int)), (27, .bool ((decide ((i : Int) < (l.length : Int))) && (decide ((i : Int) < 100))))]) (fun _ => own VlT lx ((mst l i).2) :: blkA g4 #[pB hb2 0, pB hb3 0, lx] 35 :: rhA hb3 ((mst l i).1) :: hpA hb2 ((mst l i).1) :: blkA g1 #[.pointer none, .pointer none, (.slice none 0 0)] 35 :: F) ?_ (fun _ _ => ?_)
 ·
  refine k_reg ?_
  refine sp (.int .i64 (i : Int)) ?_
  refine sp lv ?_
  refine s_lt (t_len OpT_ok Try.underlying22 (.zn hl0)) ?_
  refine s_lt t_cmp ?_
  refine sp (.bool (decide ((i : Int) < (l.length : Int)))) ?_
  refine s_fork 24 (decide ((i : Int) < (l.length : Int))) (fun c6 => ?_) (fun c6 => ?_)
  ·
   have p7 := of_decide_eq_true c6
   refine sp (.int .i64 (i : Int)) ?_
   refine s_lt t_cmp ?_
   refine sp (.bool (decide ((i : Int) < 100))) ?_
   refine s_nil ?_
   exact xs_cut () trivial (sub_of rfl ⟨⟨rfl, rfl⟩, ⟨⟨rfl, rfl⟩, ⟨⟨rfl, rfl⟩, ⟨⟨rfl, rfl⟩, ⟨⟨rfl, show Value.bool (decide ((i : Int) < 100)) = Value.bool ((decide ((i : Int) < (l.length : Int))) && (decide ((i : Int) < 100))) by first | (simp only [c6, bls]; done) | simp [c6]⟩, trivial⟩⟩⟩⟩⟩) (fun _ h => h.re [0, 0, 0, 0, 0] [])
  ·
   have p8 := of_decide_eq_false c6
   refine s_skip ?_
   refine s_skip ?_
   refine sp (.bool false) ?_
   refine s_nil ?_
   exact xs_cut () trivial (sub_of rfl ⟨⟨rfl, rfl⟩, ⟨⟨rfl, rfl⟩, ⟨⟨rfl, rfl⟩, ⟨⟨rfl, rfl⟩, ⟨⟨rfl, show Value.bool false = Value.bool ((decide ((i : Int) < (l.length : Int))) && (decide ((i : Int) < 100))) by first | (simp only [c6, bls]; done) | simp [c6]⟩, trivial⟩⟩⟩⟩⟩) (fun _ h => h.re [0, 0, 0, 0, 0] [])
 ·
  refine k_cond ((decide ((i : Int) < (l.length : Int))) && (decide ((i : Int) < 100))) (fun c9 => ?_) (fun c9 => ?_)
  ·
   obtain ⟨c10, c11⟩ := and_t c9
   have p12 := of_decide_eq_true c10
   have p13 := of_decide_eq_true c11
   refine k_st ?_
   refine k_seq ?_
   refine k_block ?_
   obtain ⟨y14, hy15⟩ : ∃ y, l[i]? = some y := ⟨_, List.getElem?_eq_getElem (by (try simp only [lnm]); omega)⟩
   refine k_seq ?_
   refine k_held [own VlT lx ((mst l i).2), blkA g4 #[pB hb2 0, pB hb3 0, lx] 35, blkA g1 #[.pointer none, .pointer none, (.slice none 0 0)] 35] ?_
   refine h_l 0 rfl [0, 0, 2] (fun _ => (t_loadA 1 #[pB hb2 0, pB hb3 0, lx])) ?_
   refine hp_ 1 [0, 0, 2] lv ?_
   refine hp_ 2 [0, 0, 2] (.int .i64 (i : Int)) ?_
   refine h_l 3 rfl [0, 0, 2] (fun _ => (t_index OpT_ok Try.underlying22 (.zn hl0) (i : Int) i (by omega) (by (try simp only [lnm]); omega) (by omega))) ?_
   refine hp_ 4 [0, 0, 2] (.pointer (some ((elemAt OpT.size lv i).add 1))) ?_
   refine h_l 5 rfl [0, 0, 2] (fun _ => (t_loadG 1 #[.int .i64 y14.a.v.kind, .int .i64 y14.a.v.p, .int .i64 y14.a.v.q, .string y14.a.v.str, .int .i64 y14.a.v.ref, .int .i64 y14.a.obj] OpT_ok (.zn hl0) hy15)) ?_
   refine h_l 7 rfl [0, 0, 2] (fun _ => (t_loadA 1 #[pB hb2 0, pB hb3 0, lx])) ?_
   refine hp_ 8 [0, 0, 2] lv ?_
   refine hp_ 9 [0, 0, 2] (.int .i64 (i : Int)) ?_
   refine h_l 10 rfl [0, 0, 2] (fun _ => (t_index OpT_ok Try.underlying22 (.zn hl0) (i : Int) i (by omega) (by (try simp only [lnm]); omega) (by omega))) ?_
   refine hp_ 11 [0, 0, 2] (.pointer (some ((elemAt OpT.size lv i).add 7))) ?_
   refine h_l 12 rfl [0, 0, 2] (fun _ => (t_loadG 7 #[.int .i64 y14.b.v.kind, .int .i64 y14.b.v.p, .int .i64 y14.b.v.q, .string y14.b.v.str, .int .i64 y14.b.v.ref, .int .i64 y14.b.obj] OpT_ok (.zn hl0) hy15)) ?_
   refine h_l 14 rfl [0, 0, 2] (fun _ => (t_loadA 1 #[pB hb2 0, pB hb3 0, lx])) ?_
   refine hp_ 15 [0, 0, 2] lv ?_
   refine hp_ 16 [0, 0, 2] (.int .i64 (i : Int)) ?_
   refine h_l 17 rfl [0, 0, 2] (fun _ => (t_index OpT_ok Try.underlying22 (.zn hl0) (i : Int) i (by omega) (by (try simp only [lnm]); omega) (by omega))) ?_
   refine hp_ 18 [0, 0, 2] (.pointer (some ((elemAt OpT.size lv i).add 13))) ?_
   refine h_l 19 rfl [0, 0, 2] (fun _ => (t_loadG 13 #[.int .i64 y14.c.v.kind, .int .i64 y14.c.v.p, .int .i64 y14.c.v.q, .string y14.c.v.str, .int .i64 y14.c.v.ref, .int .i64 y14.c.obj] OpT_ok (.zn hl0) hy15)) ?_
   refine h_join (ι := Nat × Nat × Nat) 3 #[true, true, true, true, true, true, true, true, true, true, true, true, true, true, true, true, true, true, true, true, true, true, true, true, false, false, false] (fun (g16, g17, g18) => [(0, lv), (2, pB g1 0), (4, pB g4 0), (5, .int .i64 (i : Int)), (6, pB g16 0), (7, pB g17 0), (8, pB g18 0), (36, .agg #[.int .i64 ((ofS ((mst l i).2) y14.a).kind), .int .i64 ((ofS ((mst l i).2) y14.a).p), .int .i64 ((ofS ((mst l i).2) y14.a).q), .string ((ofS ((mst l i).2) y14.a).str), .int .i64 ((ofS ((mst l i).2) y14.a).ref)]), (43, .agg #[.int .i64 ((ofS ((mst l i).2) y14.b).kind), .int .i64 ((ofS ((mst l i).2) y14.b).p), .int .i64 ((ofS ((mst l i).2) y14.b).q), .string ((ofS ((mst l i).2) y14.b).str), .int .i64 ((ofS ((mst l i).2) y14.b).ref)]), (50, .agg #[.int .i64 ((ofS ((mst l i).2) y14.c).kind), .int .i64 ((ofS ((mst l i).2) y14.c).p), .int .i64 ((ofS ((mst l i).2) y14.c).q), .string ((ofS ((mst l i).2) y14.c).str), .int .i64 ((ofS ((mst l i).2) y14.c).ref)])]) (fun (g16, g17, g18) => blkA g18 #[.int .i64 0, .int .i64 0, .int .i64 0, .string ByteArray.empty, .int .i64 0] 26 :: blkA g17 #[.int .i64 0, .int .i64 0, .int .i64 0, .string ByteArray.empty, .int .i64 0] 26 :: blkA g16 #[.int .i64 0, .int .i64 0, .int .i64 0, .string ByteArray.empty, .int .i64 0] 26 :: own VlT lx ((mst l i).2) :: blkA g4 #[pB hb2 0, pB hb3 0, lx] 35 :: rhA hb3 ((mst l i).1) :: hpA hb2 ((mst l i).1) :: blkA g1 #[.pointer none, .pointer none, (.slice none 0 0)] 35 :: F) ?_ (fun hj64 => ?_)
   ·
    rintro ⟨g16, g17, g18⟩
    try dsimp only
    refine h_stepS 24 ?_
    refine s_store 2 #[.int .i64 ((ofS ((mst l i).2) y14.a).kind), .int .i64 ((ofS ((mst l i).2) y14.a).p), .int .i64 ((ofS ((mst l i).2) y14.a).q), .string ((ofS ((mst l i).2) y14.a).str), .int .i64 ((ofS ((mst l i).2) y14.a).ref)] ?_
    refine s_nil (xs_held [3, 3, 5] ?_)
    refine h_stepS 25 ?_
    refine s_store 1 #[.int .i64 ((ofS ((mst l i).2) y14.b).kind), .int .i64 ((ofS ((mst l i).2) y14.b).p), .int .i64 ((ofS ((mst l i).2) y14.b).q), .string ((ofS ((mst l i).2) y14.b).str), .int .i64 ((ofS ((mst l i).2) y14.b).ref)] ?_
    refine s_nil (xs_held [3, 3, 5] ?_)
    refine h_stepS 26 ?_
    refine s_store 0 #[.int .i64 ((ofS ((mst l i).2) y14.c).kind), .int .i64 ((ofS ((mst l i).2) y14.c).p), .int .i64 ((ofS ((mst l i).2) y14.c).q), .string ((ofS ((mst l i).2) y14.c).str), .int .i64 ((ofS ((mst l i).2) y14.c).ref)] ?_
    refine s_nil (xs_held [3, 3, 5] ?_)
    refine h_doneS ?_
    refine xs_then ?_
    refine k_sr ?_
    refine s_lt (t_kern (.agg #[.int .i64 0, .int .i64 0, .int .i64 0, .string ByteArray.empty, .int .i64 0])) ?_
    refine s_lt (t_kern (.agg #[.int .i64 0, .int .i64 0, .int .i64 0, .string ByteArray.empty, .int .i64 0])) ?_
    refine s_alloc (.agg #[.int .i64 0, .int .i64 0, .int .i64 0, .string ByteArray.empty, .int .i64 0]) #[.int .i64 0, .int .i64 0, .int .i64 0, .string ByteArray.empty, .int .i64 0] (fun g65 => ?_)
    refine s_alloc (.agg #[.int .i64 0, .int .i64 0, .int .i64 0, .string ByteArray.empty, .int .i64 0]) #[.int .i64 0, .int .i64 0, .int .i64 0, .string ByteArray.empty, .int .i64 0] (fun g66 => ?_)
    refine s_store 1 #[.int .i64 0, .int .i64 0, .int .i64 0, .string ByteArray.empty, .int .i64 0] ?_
    refine s_store 0 #[.int .i64 0, .int .i64 0, .int .i64 0, .string ByteArray.empty, .int .i64 0] ?_
    refine s_nr ?_
    refine sp (.int .i64 0) ?_
    refine sp (.int .i64 0) ?_
    refine s_nt ?_
    refine k_seq ?_
    refine k_sr ?_
    refine sp lv ?_
    refine sp (.int .i64 (i : Int)) ?_
    refine s_lt (t_index OpT_ok Try.underlying22 (.zn hl0) (i : Int) i (by omega) (by (try simp only [lnm]); omega) (by omega)) ?_
    refine sp (.pointer (some (elemAt OpT.size lv i))) ?_
    refine s_lt (t_loadF 0 OpT_ok (.zn hl0) hy15) ?_
    refine s_nt ?_
    refine k_block ?_
    refine k_sr ?_
    refine s_lt t_cmp ?_
    refine sp (.bool (decide (y14.kind = 0))) ?_
    refine s_nt ?_
    refine k_cond (decide (y14.kind = 0)) (fun c67 => ?_) (fun c67 => ?_)
    ·
     have p68 := of_decide_eq_true c67
     refine k_sr ?_
     refine sp (pB g4 0) ?_
     refine s_lt (t_load 6 (pB hb2 0)) ?_
     refine s_call [8] (hnewtable_s (st := (mst l i).1) (by have := hsm.len; omega)) ?_
     rintro _ _ ⟨rfl, rfl⟩
     refine sp (.tuple #[.agg #[.int .i64 ((hmakeV ((mst l i).1) 4).kind), .int .i64 ((hmakeV ((mst l i).1) 4).p), .int .i64 ((hmakeV ((mst l i).1) 4).q), .string ((hmakeV ((mst l i).1) 4).str), .int .i64 ((hmakeV ((mst l i).1) 4).ref)], .int .i64 (hmakeE ((mst l i).1))]) ?_
     refine sp (.agg #[.int .i64 ((hmakeV ((mst l i).1) 4).kind), .int .i64 ((hmakeV ((mst l i).1) 4).p), .int .i64 ((hmakeV ((mst l i).1) 4).q), .string ((hmakeV ((mst l i).1) 4).str), .int .i64 ((hmakeV ((mst l i).1) 4).ref)]) ?_
     refine sp (.int .i64 (hmakeE ((mst l i).1))) ?_
     refine s_store 2 #[.int .i64 ((hmakeV ((mst l i).1) 4).kind), .int .i64 ((hmakeV ((mst l i).1) 4).p), .int .i64 ((hmakeV ((mst l i).1) 4).q), .string ((hmakeV ((mst l i).1) 4).str), .int .i64 ((hmakeV ((mst l i).1) 4).ref)] ?_
     refine sp (.int .i64 (hmakeE ((mst l i).1))) ?_
     refine s_nt ?_
     refine k_reg ?_
     refine sp (pB g4 1) ?_
     refine s_lt (t_load 7 (pB hb3 0)) ?_
     refine s_call [8] (rhnewtable_s (st := (mst l i).1) (by have := hsm.len; omega)) ?_
     rintro _ _ ⟨rfl, rfl⟩
     refine sp (.tuple #[.agg #[.int .i64 ((hmakeV ((mst l i).1) 4).kind), .int .i64 ((hmakeV ((mst l i).1) 4).p), .int .i64 ((hmakeV ((mst l i).1) 4).q), .string ((hmakeV ((mst l i).1) 4).str), .int .i64 ((hmakeV ((mst l i).1) 4).ref)], .int .i64 (hmakeE ((mst l i).1))]) ?_
     refine sp (.agg #[.int .i64 ((hmakeV ((mst l i).1) 4).kind), .int .i64 ((hmakeV ((mst l i).1) 4).p), .int .i64 ((hmakeV ((mst l i).1) 4).q), .string ((hmakeV ((mst l i).1) 4).str), .int .i64 ((hmakeV ((mst l i).1) 4).ref)]) ?_
     refine sp (.int .i64 (hmakeE ((mst l i).1))) ?_
     refine s_store 2 #[.int .i64 ((hmakeV ((mst l i).1) 4).kind), .int .i64 ((hmakeV ((mst l i).1) 4).p), .int .i64 ((hmakeV ((mst l i).1) 4).q), .string ((hmakeV ((mst l i).1) 4).str), .int .i64 ((hmakeV ((mst l i).1) 4).ref)] ?_
     refine sp (.int .i64 (hmakeE ((mst l i).1))) ?_
     refine s_nil ?_
     refine xs_block ?_
     refine xs_then ?_
     refine k_seq ?_
     refine k_sr ?_
     refine s_lt (t_loadA 3 #[.int .i64 ((hmakeV ((mst l i).1) 4).kind), .int .i64 ((hmakeV ((mst l i).1) 4).p), .int .i64 ((hmakeV ((mst l i).1) 4).q), .string ((hmakeV ((mst l i).1) 4).str), .int .i64 ((hmakeV ((mst l i).1) 4).ref)]) ?_
     refine s_lt (t_loadA 2 #[.int .i64 ((hmakeV ((mst l i).1) 4).kind), .int .i64 ((hmakeV ((mst l i).1) 4).p), .int .i64 ((hmakeV ((mst l i).1) 4).q), .string ((hmakeV ((mst l i).1) 4).str), .int .i64 ((hmakeV ((mst l i).1) 4).ref)]) ?_
     refine s_lt (Lt.to (t_eqS (fun w => (eqVlT (hmakeV ((mst l i).1) 4) (hmakeV ((mst l i).1) 4) w).2)) (congrArg Value.bool ((congrArg Bool.not (decide_eq_true rfl : (decide ((hmakeV ((mst l i).1) 4) = (hmakeV ((mst l i).1) 4))) = true)).trans rfl : (!(decide ((hmakeV ((mst l i).1) 4) = (hmakeV ((mst l i).1) 4)))) = false))) ?_
     refine sp (.bool false) ?_
     refine sp (.int .i64 (hmakeE ((mst l i).1))) ?_
     refine sp (.int .i64 (hmakeE ((mst l i).1))) ?_
     refine s_lt (Lt.to t_cmp (congrArg Value.bool (decide_eq_false (fun h => h rfl) : (decide ((hmakeE ((mst l i).1)) ≠ (hmakeE ((mst l i).1)))) = false))) ?_
     refine sp (.bool false) ?_
     refine s_nt ?_
     refine k_false ?_
     refine k_st ?_
     refine k_sr ?_
     refine sp lv ?_
     refine sp (.int .i64 (i : Int)) ?_
     refine s_lt (t_index OpT_ok Try.underlying22 (.zn hl0) (i : Int) i (by omega) (by (try simp only [lnm]); omega) (by omega)) ?_
     refine sp (.pointer (some (elemAt OpT.size lv i))) ?_
     refine s_lt (t_loadF 0 OpT_ok (.zn hl0) hy15) ?_
     refine s_lt (Lt.to t_cmp (congrArg Value.bool (decide_eq_true (by have := of_decide_eq_true c67; omega) : (decide (y14.kind ≤ 2)) = true))) ?_
     refine sp (.bool true) ?_
     refine sp (.int .i64 (hmakeE ((mst l i).1))) ?_
     refine s_lt t_cmp ?_
     refine sp (.bool (decide ((hmakeE ((mst l i).1)) = 0))) ?_
     refine s_nt ?_
     refine k_cond (decide ((hmakeE ((mst l i).1)) = 0)) (fun c69 => ?_) (fun c69 => ?_)
     ·
      have p70 := of_decide_eq_true c69
      refine k_reg ?_
      refine sp (pB g4 2) ?_
      refine s_lt (t_load 8 lx) ?_
      refine s_lt (t_loadA 3 #[.int .i64 ((hmakeV ((mst l i).1) 4).kind), .int .i64 ((hmakeV ((mst l i).1) 4).p), .int .i64 ((hmakeV ((mst l i).1) 4).q), .string ((hmakeV ((mst l i).1) 4).str), .int .i64 ((hmakeV ((mst l i).1) 4).ref)]) ?_
      refine s_buildSlice (e := 26) [(0, .agg #[.int .i64 ((hmakeV ((mst l i).1) 4).kind), .int .i64 ((hmakeV ((mst l i).1) 4).p), .int .i64 ((hmakeV ((mst l i).1) 4).q), .string ((hmakeV ((mst l i).1) 4).str), .int .i64 ((hmakeV ((mst l i).1) 4).ref)])] #[.int .i64 ((hmakeV ((mst l i).1) 4).kind), .int .i64 ((hmakeV ((mst l i).1) 4).p), .int .i64 ((hmakeV ((mst l i).1) 4).q), .string ((hmakeV ((mst l i).1) 4).str), .int .i64 ((hmakeV ((mst l i).1) 4).ref)] (fun g71 => ?_) (hb := by kernel_rfl)
      refine s_append (L := (mst l i).2) 8 VlT_ok Try.underlying33 (.lit 0 VlT_ok [(hmakeV ((mst l i).1) 4)]) (by show _ * 48 ≤ _; (try simp only [lnm]); omega) (by (try simp only [lnm]); omega) (fun v72 => ?_)
      refine sp (pB g4 2) ?_
      refine s_fact (fun H h => ((Acc.own (T := VlT) (L := ((mst l i).2 ++ [(hmakeV ((mst l i).1) 4)])) 8 rfl) H h).form) (fun hf73 => ?_)
      refine s_store (u := v72) (m := 1) 9 #[pB hb2 0, pB hb3 0, v72] ?_ (hm := by (obtain ⟨_, _, e⟩ := hf73; rw [e]; rfl)) (h1 := by (obtain ⟨_, _, e⟩ := hf73; rw [e]; rfl)) (ha' := by (obtain ⟨_, _, e⟩ := hf73; rw [e]; rfl))
      refine s_nil ?_
      refine xs_block ?_
      refine xs_then ?_
      refine k_reg ?_
      refine sp (.int .i64 (i : Int)) ?_
      refine s_lt (t_add (i : Int) 1 (by (try simp only [lnm]); omega)) ?_
      refine sp (.int .i64 ((i : Int) + 1)) ?_
      refine s_nil ?_
      have hms := mst_succ hy15
      have h1 : (hmake ((mst l i).1) (newO 4 0 ByteArray.empty [])) = (mst l (i + 1)).1 := by rw [hms]; unfold mstep; simp [of_decide_eq_true c67, boxB]
      have h2 : ((mst l i).2 ++ [(hmakeV ((mst l i).1) 4)]) = (mst l (i + 1)).2 := by rw [hms]; unfold mstep; simp_all [boxB]
      refine xs_mem (Bs := blkA g71 #[.int .i64 ((hmakeV ((mst l i).1) 4).kind), .int .i64 ((hmakeV ((mst l i).1) 4).p), .int .i64 ((hmakeV ((mst l i).1) 4).q), .string ((hmakeV ((mst l i).1) 4).str), .int .i64 ((hmakeV ((mst l i).1) 4).ref)] 26 :: rhA hb3 ((mst l (i + 1)).1) :: hpA hb2 ((mst l (i + 1)).1) :: blkA g66 #[.int .i64 ((hmakeV ((mst l i).1) 4).kind), .int .i64 ((hmakeV ((mst l i).1) 4).p), .int .i64 ((hmakeV ((mst l i).1) 4).q), .string ((hmakeV ((mst l i).1) 4).str), .int .i64 ((hmakeV ((mst l i).1) 4).ref)] 26 :: blkA g65 #[.int .i64 ((hmakeV ((mst l i).1) 4).kind), .int .i64 ((hmakeV ((mst l i).1) 4).p), .int .i64 ((hmakeV ((mst l i).1) 4).q), .string ((hmakeV ((mst l i).1) 4).str), .int .i64 ((hmakeV ((mst l i).1) 4).ref)] 26 :: blkA g18 #[.int .i64 ((ofS ((mst l i).2) y14.c).kind), .int .i64 ((ofS ((mst l i).2) y14.c).p), .int .i64 ((ofS ((mst l i).2) y14.c).q), .string ((ofS ((mst l i).2) y14.c).str), .int .i64 ((ofS ((mst l i).2) y14.c).ref)] 26 :: blkA g17 #[.int .i64 ((ofS ((mst l i).2) y14.b).kind), .int .i64 ((ofS ((mst l i).2) y14.b).p), .int .i64 ((ofS ((mst l i).2) y14.b).q), .string ((ofS ((mst l i).2) y14.b).str), .int .i64 ((ofS ((mst l i).2) y14.b).ref)] 26 :: blkA g16 #[.int .i64 ((ofS ((mst l i).2) y14.a).kind), .int .i64 ((ofS ((mst l i).2) y14.a).p), .int .i64 ((ofS ((mst l i).2) y14.a).q), .string ((ofS ((mst l i).2) y14.a).str), .int .i64 ((ofS ((mst l i).2) y14.a).ref)] 26 :: own VlT v72 ((mst l (i + 1)).2) :: blkA g4 #[pB hb2 0, pB hb3 0, v72] 35 :: blkA g1 #[.pointer none, .pointer none, (.slice none 0 0)] 35 :: F) (fun _ h => by rw [← h1, ← h2]; exact h) ?_
      exact xs_round (v72, i + 1) (by show 100 - (i + 1) < 100 - i; omega) (by show i + 1 ≤ 100 ∧ i + 1 ≤ l.length; omega) (sub_of rfl ⟨⟨rfl, rfl⟩, ⟨⟨rfl, rfl⟩, ⟨⟨rfl, rfl⟩, ⟨⟨rfl, rfl⟩, trivial⟩⟩⟩⟩) (fun _ h => h.re [8, 8, 1, 1, 6] [5, 5, 5, 5, 5, 5])
     ·
      have p74 := of_decide_eq_false c69
      refine k_skip ?_
      refine xs_block ?_
      refine xs_then ?_
      refine k_reg ?_
      refine sp (.int .i64 (i : Int)) ?_
      refine s_lt (t_add (i : Int) 1 (by (try simp only [lnm]); omega)) ?_
      refine sp (.int .i64 ((i : Int) + 1)) ?_
      refine s_nil ?_
      have hms := mst_succ hy15
      have h1 : (hmake ((mst l i).1) (newO 4 0 ByteArray.empty [])) = (mst l (i + 1)).1 := by rw [hms]; unfold mstep; simp [of_decide_eq_true c67, boxB]
      have h2 : (mst l i).2 = (mst l (i + 1)).2 := by rw [hms]; unfold mstep; simp_all [boxB]
      refine xs_mem (Bs := rhA hb3 ((mst l (i + 1)).1) :: hpA hb2 ((mst l (i + 1)).1) :: blkA g66 #[.int .i64 ((hmakeV ((mst l i).1) 4).kind), .int .i64 ((hmakeV ((mst l i).1) 4).p), .int .i64 ((hmakeV ((mst l i).1) 4).q), .string ((hmakeV ((mst l i).1) 4).str), .int .i64 ((hmakeV ((mst l i).1) 4).ref)] 26 :: blkA g65 #[.int .i64 ((hmakeV ((mst l i).1) 4).kind), .int .i64 ((hmakeV ((mst l i).1) 4).p), .int .i64 ((hmakeV ((mst l i).1) 4).q), .string ((hmakeV ((mst l i).1) 4).str), .int .i64 ((hmakeV ((mst l i).1) 4).ref)] 26 :: blkA g18 #[.int .i64 ((ofS ((mst l i).2) y14.c).kind), .int .i64 ((ofS ((mst l i).2) y14.c).p), .int .i64 ((ofS ((mst l i).2) y14.c).q), .string ((ofS ((mst l i).2) y14.c).str), .int .i64 ((ofS ((mst l i).2) y14.c).ref)] 26 :: blkA g17 #[.int .i64 ((ofS ((mst l i).2) y14.b).kind), .int .i64 ((ofS ((mst l i).2) y14.b).p), .int .i64 ((ofS ((mst l i).2) y14.b).q), .string ((ofS ((mst l i).2) y14.b).str), .int .i64 ((ofS ((mst l i).2) y14.b).ref)] 26 :: blkA g16 #[.int .i64 ((ofS ((mst l i).2) y14.a).kind), .int .i64 ((ofS ((mst l i).2) y14.a).p), .int .i64 ((ofS ((mst l i).2) y14.a).q), .string ((ofS ((mst l i).2) y14.a).str), .int .i64 ((ofS ((mst l i).2) y14.a).ref)] 26 :: own VlT lx ((mst l (i + 1)).2) :: blkA g4 #[pB hb2 0, pB hb3 0, lx] 35 :: blkA g1 #[.pointer none, .pointer none, (.slice none 0 0)] 35 :: F) (fun _ h => by rw [← h1, ← h2]; exact h) ?_
      exact xs_round (lx, i + 1) (by show 100 - (i + 1) < 100 - i; omega) (by show i + 1 ≤ 100 ∧ i + 1 ≤ l.length; omega) (sub_of rfl ⟨⟨rfl, rfl⟩, ⟨⟨rfl, rfl⟩, ⟨⟨rfl, rfl⟩, ⟨⟨rfl, rfl⟩, trivial⟩⟩⟩⟩) (fun _ h => h.re [7, 7, 0, 0, 5] [5, 5, 5, 5, 5])
    ·
     have p75 := of_decide_eq_false c67
     refine k_sr ?_
     refine s_lt t_cmp ?_
     refine sp (.bool (decide (y14.kind = 1))) ?_
     refine s_nt ?_
     refine k_cond (decide (y14.kind = 1)) (fun c76 => ?_) (fun c76 => ?_)
     ·
      have p77 := of_decide_eq_true c76
      refine k_sr ?_
      refine sp (pB g4 0) ?_
      refine s_lt (t_load 6 (pB hb2 0)) ?_
      refine s_call [8] (hnewdata_s (st := (mst l i).1) (by have := hsm.len; omega) ⟨#[98, 111, 120]⟩) ?_
      rintro _ _ ⟨rfl, rfl⟩
      refine sp (.tuple #[.agg #[.int .i64 ((hdataV ((mst l i).1) ⟨#[98, 111, 120]⟩).kind), .int .i64 ((hdataV ((mst l i).1) ⟨#[98, 111, 120]⟩).p), .int .i64 ((hdataV ((mst l i).1) ⟨#[98, 111, 120]⟩).q), .string ((hdataV ((mst l i).1) ⟨#[98, 111, 120]⟩).str), .int .i64 ((hdataV ((mst l i).1) ⟨#[98, 111, 120]⟩).ref)], .int .i64 (hdataE ((mst l i).1) ⟨#[98, 111, 120]⟩)]) ?_
      refine sp (.agg #[.int .i64 ((hdataV ((mst l i).1) ⟨#[98, 111, 120]⟩).kind), .int .i64 ((hdataV ((mst l i).1) ⟨#[98, 111, 120]⟩).p), .int .i64 ((hdataV ((mst l i).1) ⟨#[98, 111, 120]⟩).q), .string ((hdataV ((mst l i).1) ⟨#[98, 111, 120]⟩).str), .int .i64 ((hdataV ((mst l i).1) ⟨#[98, 111, 120]⟩).ref)]) ?_
      refine sp (.int .i64 (hdataE ((mst l i).1) ⟨#[98, 111, 120]⟩)) ?_
      refine s_store 2 #[.int .i64 ((hdataV ((mst l i).1) ⟨#[98, 111, 120]⟩).kind), .int .i64 ((hdataV ((mst l i).1) ⟨#[98, 111, 120]⟩).p), .int .i64 ((hdataV ((mst l i).1) ⟨#[98, 111, 120]⟩).q), .string ((hdataV ((mst l i).1) ⟨#[98, 111, 120]⟩).str), .int .i64 ((hdataV ((mst l i).1) ⟨#[98, 111, 120]⟩).ref)] ?_
      refine sp (.int .i64 (hdataE ((mst l i).1) ⟨#[98, 111, 120]⟩)) ?_
      refine s_nt ?_
      refine k_reg ?_
      refine sp (pB g4 1) ?_
      refine s_lt (t_load 7 (pB hb3 0)) ?_
      refine s_call [8] (rhnewdata_s (st := (mst l i).1) (by have := hsm.len; omega) ⟨#[98, 111, 120]⟩) ?_
      rintro _ _ ⟨rfl, rfl⟩
      refine sp (.tuple #[.agg #[.int .i64 ((hdataV ((mst l i).1) ⟨#[98, 111, 120]⟩).kind), .int .i64 ((hdataV ((mst l i).1) ⟨#[98, 111, 120]⟩).p), .int .i64 ((hdataV ((mst l i).1) ⟨#[98, 111, 120]⟩).q), .string ((hdataV ((mst l i).1) ⟨#[98, 111, 120]⟩).str), .int .i64 ((hdataV ((mst l i).1) ⟨#[98, 111, 120]⟩).ref)], .int .i64 (hdataE ((mst l i).1) ⟨#[98, 111, 120]⟩)]) ?_
      refine sp (.agg #[.int .i64 ((hdataV ((mst l i).1) ⟨#[98, 111, 120]⟩).kind), .int .i64 ((hdataV ((mst l i).1) ⟨#[98, 111, 120]⟩).p), .int .i64 ((hdataV ((mst l i).1) ⟨#[98, 111, 120]⟩).q), .string ((hdataV ((mst l i).1) ⟨#[98, 111, 120]⟩).str), .int .i64 ((hdataV ((mst l i).1) ⟨#[98, 111, 120]⟩).ref)]) ?_
      refine sp (.int .i64 (hdataE ((mst l i).1) ⟨#[98, 111, 120]⟩)) ?_
      refine s_store 2 #[.int .i64 ((hdataV ((mst l i).1) ⟨#[98, 111, 120]⟩).kind), .int .i64 ((hdataV ((mst l i).1) ⟨#[98, 111, 120]⟩).p), .int .i64 ((hdataV ((mst l i).1) ⟨#[98, 111, 120]⟩).q), .string ((hdataV ((mst l i).1) ⟨#[98, 111, 120]⟩).str), .int .i64 ((hdataV ((mst l i).1) ⟨#[98, 111, 120]⟩).ref)] ?_
      refine sp (.int .i64 (hdataE ((mst l i).1) ⟨#[98, 111, 120]⟩)) ?_
      refine s_nil ?_
      refine xs_block ?_
      refine xs_then ?_
      refine k_seq ?_
      refine k_sr ?_
      refine s_lt (t_loadA 3 #[.int .i64 ((hdataV ((mst l i).1) ⟨#[98, 111, 120]⟩).kind), .int .i64 ((hdataV ((mst l i).1) ⟨#[98, 111, 120]⟩).p), .int .i64 ((hdataV ((mst l i).1) ⟨#[98, 111, 120]⟩).q), .string ((hdataV ((mst l i).1) ⟨#[98, 111, 120]⟩).str), .int .i64 ((hdataV ((mst l i).1) ⟨#[98, 111, 120]⟩).ref)]) ?_
      refine s_lt (t_loadA 2 #[.int .i64 ((hdataV ((mst l i).1) ⟨#[98, 111, 120]⟩).kind), .int .i64 ((hdataV ((mst l i).1) ⟨#[98, 111, 120]⟩).p), .int .i64 ((hdataV ((mst l i).1) ⟨#[98, 111, 120]⟩).q), .string ((hdataV ((mst l i).1) ⟨#[98, 111, 120]⟩).str), .int .i64 ((hdataV ((mst l i).1) ⟨#[98, 111, 120]⟩).ref)]) ?_
      refine s_lt (Lt.to (t_eqS (fun w => (eqVlT (hdataV ((mst l i).1) ⟨#[98, 111, 120]⟩) (hdataV ((mst l i).1) ⟨#[98, 111, 120]⟩) w).2)) (congrArg Value.bool ((congrArg Bool.not (decide_eq_true rfl : (decide ((hdataV ((mst l i).1) ⟨#[98, 111, 120]⟩) = (hdataV ((mst l i).1) ⟨#[98, 111, 120]⟩))) = true)).trans rfl : (!(decide ((hdataV ((mst l i).1) ⟨#[98, 111, 120]⟩) = (hdataV ((mst l i).1) ⟨#[98, 111, 120]⟩)))) = false))) ?_
      refine sp (.bool false) ?_
      refine sp (.int .i64 (hdataE ((mst l i).1) ⟨#[98, 111, 120]⟩)) ?_
      refine sp (.int .i64 (hdataE ((mst l i).1) ⟨#[98, 111, 120]⟩)) ?_
      refine s_lt (Lt.to t_cmp (congrArg Value.bool (decide_eq_false (fun h => h rfl) : (decide ((hdataE ((mst l i).1) ⟨#[98, 111, 120]⟩) ≠ (hdataE ((mst l i).1) ⟨#[98, 111, 120]⟩))) = false))) ?_
      refine sp (.bool false) ?_
      refine s_nt ?_
      refine k_false ?_
      refine k_st ?_
      refine k_sr ?_
      refine sp lv ?_
      refine sp (.int .i64 (i : Int)) ?_
      refine s_lt (t_index OpT_ok Try.underlying22 (.zn hl0) (i : Int) i (by omega) (by (try simp only [lnm]); omega) (by omega)) ?_
      refine sp (.pointer (some (elemAt OpT.size lv i))) ?_
      refine s_lt (t_loadF 0 OpT_ok (.zn hl0) hy15) ?_
      refine s_lt (Lt.to t_cmp (congrArg Value.bool (decide_eq_true (by have := of_decide_eq_true c76; omega) : (decide (y14.kind ≤ 2)) = true))) ?_
      refine sp (.bool true) ?_
      refine sp (.int .i64 (hdataE ((mst l i).1) ⟨#[98, 111, 120]⟩)) ?_
      refine s_lt t_cmp ?_
      refine sp (.bool (decide ((hdataE ((mst l i).1) ⟨#[98, 111, 120]⟩) = 0))) ?_
      refine s_nt ?_
      refine k_cond (decide ((hdataE ((mst l i).1) ⟨#[98, 111, 120]⟩) = 0)) (fun c78 => ?_) (fun c78 => ?_)
      ·
       have p79 := of_decide_eq_true c78
       refine k_reg ?_
       refine sp (pB g4 2) ?_
       refine s_lt (t_load 8 lx) ?_
       refine s_lt (t_loadA 3 #[.int .i64 ((hdataV ((mst l i).1) ⟨#[98, 111, 120]⟩).kind), .int .i64 ((hdataV ((mst l i).1) ⟨#[98, 111, 120]⟩).p), .int .i64 ((hdataV ((mst l i).1) ⟨#[98, 111, 120]⟩).q), .string ((hdataV ((mst l i).1) ⟨#[98, 111, 120]⟩).str), .int .i64 ((hdataV ((mst l i).1) ⟨#[98, 111, 120]⟩).ref)]) ?_
       refine s_buildSlice (e := 26) [(0, .agg #[.int .i64 ((hdataV ((mst l i).1) ⟨#[98, 111, 120]⟩).kind), .int .i64 ((hdataV ((mst l i).1) ⟨#[98, 111, 120]⟩).p), .int .i64 ((hdataV ((mst l i).1) ⟨#[98, 111, 120]⟩).q), .string ((hdataV ((mst l i).1) ⟨#[98, 111, 120]⟩).str), .int .i64 ((hdataV ((mst l i).1) ⟨#[98, 111, 120]⟩).ref)])] #[.int .i64 ((hdataV ((mst l i).1) ⟨#[98, 111, 120]⟩).kind), .int .i64 ((hdataV ((mst l i).1) ⟨#[98, 111, 120]⟩).p), .int .i64 ((hdataV ((mst l i).1) ⟨#[98, 111, 120]⟩).q), .string ((hdataV ((mst l i).1) ⟨#[98, 111, 120]⟩).str), .int .i64 ((hdataV ((mst l i).1) ⟨#[98, 111, 120]⟩).ref)] (fun g80 => ?_) (hb := by kernel_rfl)
       refine s_append (L := (mst l i).2) 8 VlT_ok Try.underlying33 (.lit 0 VlT_ok [(hdataV ((mst l i).1) ⟨#[98, 111, 120]⟩)]) (by show _ * 48 ≤ _; (try simp only [lnm]); omega) (by (try simp only [lnm]); omega) (fun v81 => ?_)
       refine sp (pB g4 2) ?_
       refine s_fact (fun H h => ((Acc.own (T := VlT) (L := ((mst l i).2 ++ [(hdataV ((mst l i).1) ⟨#[98, 111, 120]⟩)])) 8 rfl) H h).form) (fun hf82 => ?_)
       refine s_store (u := v81) (m := 1) 9 #[pB hb2 0, pB hb3 0, v81] ?_ (hm := by (obtain ⟨_, _, e⟩ := hf82; rw [e]; rfl)) (h1 := by (obtain ⟨_, _, e⟩ := hf82; rw [e]; rfl)) (ha' := by (obtain ⟨_, _, e⟩ := hf82; rw [e]; rfl))
       refine s_nil ?_
       refine xs_block ?_
       refine xs_then ?_
       refine k_reg ?_
       refine sp (.int .i64 (i : Int)) ?_
       refine s_lt (t_add (i : Int) 1 (by (try simp only [lnm]); omega)) ?_
       refine sp (.int .i64 ((i : Int) + 1)) ?_
       refine s_nil ?_
       have hms := mst_succ hy15
       have h1 : (hdata ((mst l i).1) ⟨#[98, 111, 120]⟩) = (mst l (i + 1)).1 := by rw [hms]; unfold mstep; simp [of_decide_eq_false c67, of_decide_eq_true c76, boxB]
       have h2 : ((mst l i).2 ++ [(hdataV ((mst l i).1) ⟨#[98, 111, 120]⟩)]) = (mst l (i + 1)).2 := by rw [hms]; unfold mstep; simp_all [boxB]
       refine xs_mem (Bs := blkA g80 #[.int .i64 ((hdataV ((mst l i).1) ⟨#[98, 111, 120]⟩).kind), .int .i64 ((hdataV ((mst l i).1) ⟨#[98, 111, 120]⟩).p), .int .i64 ((hdataV ((mst l i).1) ⟨#[98, 111, 120]⟩).q), .string ((hdataV ((mst l i).1) ⟨#[98, 111, 120]⟩).str), .int .i64 ((hdataV ((mst l i).1) ⟨#[98, 111, 120]⟩).ref)] 26 :: rhA hb3 ((mst l (i + 1)).1) :: hpA hb2 ((mst l (i + 1)).1) :: blkA g66 #[.int .i64 ((hdataV ((mst l i).1) ⟨#[98, 111, 120]⟩).kind), .int .i64 ((hdataV ((mst l i).1) ⟨#[98, 111, 120]⟩).p), .int .i64 ((hdataV ((mst l i).1) ⟨#[98, 111, 120]⟩).q), .string ((hdataV ((mst l i).1) ⟨#[98, 111, 120]⟩).str), .int .i64 ((hdataV ((mst l i).1) ⟨#[98, 111, 120]⟩).ref)] 26 :: blkA g65 #[.int .i64 ((hdataV ((mst l i).1) ⟨#[98, 111, 120]⟩).kind), .int .i64 ((hdataV ((mst l i).1) ⟨#[98, 111, 120]⟩).p), .int .i64 ((hdataV ((mst l i).1) ⟨#[98, 111, 120]⟩).q), .string ((hdataV ((mst l i).1) ⟨#[98, 111, 120]⟩).str), .int .i64 ((hdataV ((mst l i).1) ⟨#[98, 111, 120]⟩).ref)] 26 :: blkA g18 #[.int .i64 ((ofS ((mst l i).2) y14.c).kind), .int .i64 ((ofS ((mst l i).2) y14.c).p), .int .i64 ((ofS ((mst l i).2) y14.c).q), .string ((ofS ((mst l i).2) y14.c).str), .int .i64 ((ofS ((mst l i).2) y14.c).ref)] 26 :: blkA g17 #[.int .i64 ((ofS ((mst l i).2) y14.b).kind), .int .i64 ((ofS ((mst l i).2) y14.b).p), .int .i64 ((ofS ((mst l i).2) y14.b).q), .string ((ofS ((mst l i).2) y14.b).str), .int .i64 ((ofS ((mst l i).2) y14.b).ref)] 26 :: blkA g16 #[.int .i64 ((ofS ((mst l i).2) y14.a).kind), .int .i64 ((ofS ((mst l i).2) y14.a).p), .int .i64 ((ofS ((mst l i).2) y14.a).q), .string ((ofS ((mst l i).2) y14.a).str), .int .i64 ((ofS ((mst l i).2) y14.a).ref)] 26 :: own VlT v81 ((mst l (i + 1)).2) :: blkA g4 #[pB hb2 0, pB hb3 0, v81] 35 :: blkA g1 #[.pointer none, .pointer none, (.slice none 0 0)] 35 :: F) (fun _ h => by rw [← h1, ← h2]; exact h) ?_
       exact xs_round (v81, i + 1) (by show 100 - (i + 1) < 100 - i; omega) (by show i + 1 ≤ 100 ∧ i + 1 ≤ l.length; omega) (sub_of rfl ⟨⟨rfl, rfl⟩, ⟨⟨rfl, rfl⟩, ⟨⟨rfl, rfl⟩, ⟨⟨rfl, rfl⟩, trivial⟩⟩⟩⟩) (fun _ h => h.re [8, 8, 1, 1, 6] [5, 5, 5, 5, 5, 5])
      ·
       have p83 := of_decide_eq_false c78
       refine k_skip ?_
       refine xs_block ?_
       refine xs_then ?_
       refine k_reg ?_
       refine sp (.int .i64 (i : Int)) ?_
       refine s_lt (t_add (i : Int) 1 (by (try simp only [lnm]); omega)) ?_
       refine sp (.int .i64 ((i : Int) + 1)) ?_
       refine s_nil ?_
       have hms := mst_succ hy15
       have h1 : (hdata ((mst l i).1) ⟨#[98, 111, 120]⟩) = (mst l (i + 1)).1 := by rw [hms]; unfold mstep; simp [of_decide_eq_false c67, of_decide_eq_true c76, boxB]
       have h2 : (mst l i).2 = (mst l (i + 1)).2 := by rw [hms]; unfold mstep; simp_all [boxB]
       refine xs_mem (Bs := rhA hb3 ((mst l (i + 1)).1) :: hpA hb2 ((mst l (i + 1)).1) :: blkA g66 #[.int .i64 ((hdataV ((mst l i).1) ⟨#[98, 111, 120]⟩).kind), .int .i64 ((hdataV ((mst l i).1) ⟨#[98, 111, 120]⟩).p), .int .i64 ((hdataV ((mst l i).1) ⟨#[98, 111, 120]⟩).q), .string ((hdataV ((mst l i).1) ⟨#[98, 111, 120]⟩).str), .int .i64 ((hdataV ((mst l i).1) ⟨#[98, 111, 120]⟩).ref)] 26 :: blkA g65 #[.int .i64 ((hdataV ((mst l i).1) ⟨#[98, 111, 120]⟩).kind), .int .i64 ((hdataV ((mst l i).1) ⟨#[98, 111, 120]⟩).p), .int .i64 ((hdataV ((mst l i).1) ⟨#[98, 111, 120]⟩).q), .string ((hdataV ((mst l i).1) ⟨#[98, 111, 120]⟩).str), .int .i64 ((hdataV ((mst l i).1) ⟨#[98, 111, 120]⟩).ref)] 26 :: blkA g18 #[.int .i64 ((ofS ((mst l i).2) y14.c).kind), .int .i64 ((ofS ((mst l i).2) y14.c).p), .int .i64 ((ofS ((mst l i).2) y14.c).q), .string ((ofS ((mst l i).2) y14.c).str), .int .i64 ((ofS ((mst l i).2) y14.c).ref)] 26 :: blkA g17 #[.int .i64 ((ofS ((mst l i).2) y14.b).kind), .int .i64 ((ofS ((mst l i).2) y14.b).p), .int .i64 ((ofS ((mst l i).2) y14.b).q), .string ((ofS ((mst l i).2) y14.b).str), .int .i64 ((ofS ((mst l i).2) y14.b).ref)] 26 :: blkA g16 #[.int .i64 ((ofS ((mst l i).2) y14.a).kind), .int .i64 ((ofS ((mst l i).2) y14.a).p), .int .i64 ((ofS ((mst l i).2) y14.a).q), .string ((ofS ((mst l i).2) y14.a).str), .int .i64 ((ofS ((mst l i).2) y14.a).ref)] 26 :: own VlT lx ((mst l (i + 1)).2) :: blkA g4 #[pB hb2 0, pB hb3 0, lx] 35 :: blkA g1 #[.pointer none, .pointer none, (.slice none 0 0)] 35 :: F) (fun _ h => by rw [← h1, ← h2]; exact h) ?_
       exact xs_round (lx, i + 1) (by show 100 - (i + 1) < 100 - i; omega) (by show i + 1 ≤ 100 ∧ i + 1 ≤ l.length; omega) (sub_of rfl ⟨⟨rfl, rfl⟩, ⟨⟨rfl, rfl⟩, ⟨⟨rfl, rfl⟩, ⟨⟨rfl, rfl⟩, trivial⟩⟩⟩⟩) (fun _ h => h.re [7, 7, 0, 0, 5] [5, 5, 5, 5, 5])
     ·
      have p84 := of_decide_eq_false c76
      refine k_sr ?_
      refine s_lt t_cmp ?_
      refine sp (.bool (decide (y14.kind = 2))) ?_
      refine s_nt ?_
      refine k_cond (decide (y14.kind = 2)) (fun c85 => ?_) (fun c85 => ?_)
      ·
       have p86 := of_decide_eq_true c85
       refine k_sr ?_
       refine sp (pB g4 0) ?_
       refine s_lt (t_load 6 (pB hb2 0)) ?_
       refine sp (.int .i64 (i : Int)) ?_
       refine s_call [8] (hnewfunc_s (st := (mst l i).1) (by have := hsm.len; omega) (i : Int)) ?_
       rintro _ _ ⟨rfl, rfl⟩
       refine sp (.tuple #[.agg #[.int .i64 ((hmakeV ((mst l i).1) 5).kind), .int .i64 ((hmakeV ((mst l i).1) 5).p), .int .i64 ((hmakeV ((mst l i).1) 5).q), .string ((hmakeV ((mst l i).1) 5).str), .int .i64 ((hmakeV ((mst l i).1) 5).ref)], .int .i64 (hmakeE ((mst l i).1))]) ?_
       refine sp (.agg #[.int .i64 ((hmakeV ((mst l i).1) 5).kind), .int .i64 ((hmakeV ((mst l i).1) 5).p), .int .i64 ((hmakeV ((mst l i).1) 5).q), .string ((hmakeV ((mst l i).1) 5).str), .int .i64 ((hmakeV ((mst l i).1) 5).ref)]) ?_
       refine sp (.int .i64 (hmakeE ((mst l i).1))) ?_
       refine s_store 2 #[.int .i64 ((hmakeV ((mst l i).1) 5).kind), .int .i64 ((hmakeV ((mst l i).1) 5).p), .int .i64 ((hmakeV ((mst l i).1) 5).q), .string ((hmakeV ((mst l i).1) 5).str), .int .i64 ((hmakeV ((mst l i).1) 5).ref)] ?_
       refine sp (.int .i64 (hmakeE ((mst l i).1))) ?_
       refine s_nt ?_
       refine k_reg ?_
       refine sp (pB g4 1) ?_
       refine s_lt (t_load 7 (pB hb3 0)) ?_
       refine sp (.int .i64 (i : Int)) ?_
       refine s_call [8] (rhnewfunc_s (st := (mst l i).1) (by have := hsm.len; omega) (i : Int)) ?_
       rintro _ _ ⟨rfl, rfl⟩
       refine sp (.tuple #[.agg #[.int .i64 ((hmakeV ((mst l i).1) 5).kind), .int .i64 ((hmakeV ((mst l i).1) 5).p), .int .i64 ((hmakeV ((mst l i).1) 5).q), .string ((hmakeV ((mst l i).1) 5).str), .int .i64 ((hmakeV ((mst l i).1) 5).ref)], .int .i64 (hmakeE ((mst l i).1))]) ?_
       refine sp (.agg #[.int .i64 ((hmakeV ((mst l i).1) 5).kind), .int .i64 ((hmakeV ((mst l i).1) 5).p), .int .i64 ((hmakeV ((mst l i).1) 5).q), .string ((hmakeV ((mst l i).1) 5).str), .int .i64 ((hmakeV ((mst l i).1) 5).ref)]) ?_
       refine sp (.int .i64 (hmakeE ((mst l i).1))) ?_
       refine s_store 2 #[.int .i64 ((hmakeV ((mst l i).1) 5).kind), .int .i64 ((hmakeV ((mst l i).1) 5).p), .int .i64 ((hmakeV ((mst l i).1) 5).q), .string ((hmakeV ((mst l i).1) 5).str), .int .i64 ((hmakeV ((mst l i).1) 5).ref)] ?_
       refine sp (.int .i64 (hmakeE ((mst l i).1))) ?_
       refine s_nil ?_
       refine xs_block ?_
       refine xs_then ?_
       refine k_seq ?_
       refine k_sr ?_
       refine s_lt (t_loadA 3 #[.int .i64 ((hmakeV ((mst l i).1) 5).kind), .int .i64 ((hmakeV ((mst l i).1) 5).p), .int .i64 ((hmakeV ((mst l i).1) 5).q), .string ((hmakeV ((mst l i).1) 5).str), .int .i64 ((hmakeV ((mst l i).1) 5).ref)]) ?_
       refine s_lt (t_loadA 2 #[.int .i64 ((hmakeV ((mst l i).1) 5).kind), .int .i64 ((hmakeV ((mst l i).1) 5).p), .int .i64 ((hmakeV ((mst l i).1) 5).q), .string ((hmakeV ((mst l i).1) 5).str), .int .i64 ((hmakeV ((mst l i).1) 5).ref)]) ?_
       refine s_lt (Lt.to (t_eqS (fun w => (eqVlT (hmakeV ((mst l i).1) 5) (hmakeV ((mst l i).1) 5) w).2)) (congrArg Value.bool ((congrArg Bool.not (decide_eq_true rfl : (decide ((hmakeV ((mst l i).1) 5) = (hmakeV ((mst l i).1) 5))) = true)).trans rfl : (!(decide ((hmakeV ((mst l i).1) 5) = (hmakeV ((mst l i).1) 5)))) = false))) ?_
       refine sp (.bool false) ?_
       refine sp (.int .i64 (hmakeE ((mst l i).1))) ?_
       refine sp (.int .i64 (hmakeE ((mst l i).1))) ?_
       refine s_lt (Lt.to t_cmp (congrArg Value.bool (decide_eq_false (fun h => h rfl) : (decide ((hmakeE ((mst l i).1)) ≠ (hmakeE ((mst l i).1)))) = false))) ?_
       refine sp (.bool false) ?_
       refine s_nt ?_
       refine k_false ?_
       refine k_st ?_
       refine k_sr ?_
       refine sp lv ?_
       refine sp (.int .i64 (i : Int)) ?_
       refine s_lt (t_index OpT_ok Try.underlying22 (.zn hl0) (i : Int) i (by omega) (by (try simp only [lnm]); omega) (by omega)) ?_
       refine sp (.pointer (some (elemAt OpT.size lv i))) ?_
       refine s_lt (t_loadF 0 OpT_ok (.zn hl0) hy15) ?_
       refine s_lt (Lt.to t_cmp (congrArg Value.bool (decide_eq_true (by have := of_decide_eq_true c85; omega) : (decide (y14.kind ≤ 2)) = true))) ?_
       refine sp (.bool true) ?_
       refine sp (.int .i64 (hmakeE ((mst l i).1))) ?_
       refine s_lt t_cmp ?_
       refine sp (.bool (decide ((hmakeE ((mst l i).1)) = 0))) ?_
       refine s_nt ?_
       refine k_cond (decide ((hmakeE ((mst l i).1)) = 0)) (fun c87 => ?_) (fun c87 => ?_)
       ·
        have p88 := of_decide_eq_true c87
        refine k_reg ?_
        refine sp (pB g4 2) ?_
        refine s_lt (t_load 8 lx) ?_
        refine s_lt (t_loadA 3 #[.int .i64 ((hmakeV ((mst l i).1) 5).kind), .int .i64 ((hmakeV ((mst l i).1) 5).p), .int .i64 ((hmakeV ((mst l i).1) 5).q), .string ((hmakeV ((mst l i).1) 5).str), .int .i64 ((hmakeV ((mst l i).1) 5).ref)]) ?_
        refine s_buildSlice (e := 26) [(0, .agg #[.int .i64 ((hmakeV ((mst l i).1) 5).kind), .int .i64 ((hmakeV ((mst l i).1) 5).p), .int .i64 ((hmakeV ((mst l i).1) 5).q), .string ((hmakeV ((mst l i).1) 5).str), .int .i64 ((hmakeV ((mst l i).1) 5).ref)])] #[.int .i64 ((hmakeV ((mst l i).1) 5).kind), .int .i64 ((hmakeV ((mst l i).1) 5).p), .int .i64 ((hmakeV ((mst l i).1) 5).q), .string ((hmakeV ((mst l i).1) 5).str), .int .i64 ((hmakeV ((mst l i).1) 5).ref)] (fun g89 => ?_) (hb := by kernel_rfl)
        refine s_append (L := (mst l i).2) 8 VlT_ok Try.underlying33 (.lit 0 VlT_ok [(hmakeV ((mst l i).1) 5)]) (by show _ * 48 ≤ _; (try simp only [lnm]); omega) (by (try simp only [lnm]); omega) (fun v90 => ?_)
        refine sp (pB g4 2) ?_
        refine s_fact (fun H h => ((Acc.own (T := VlT) (L := ((mst l i).2 ++ [(hmakeV ((mst l i).1) 5)])) 8 rfl) H h).form) (fun hf91 => ?_)
        refine s_store (u := v90) (m := 1) 9 #[pB hb2 0, pB hb3 0, v90] ?_ (hm := by (obtain ⟨_, _, e⟩ := hf91; rw [e]; rfl)) (h1 := by (obtain ⟨_, _, e⟩ := hf91; rw [e]; rfl)) (ha' := by (obtain ⟨_, _, e⟩ := hf91; rw [e]; rfl))
        refine s_nil ?_
        refine xs_block ?_
        refine xs_then ?_
        refine k_reg ?_
        refine sp (.int .i64 (i : Int)) ?_
        refine s_lt (t_add (i : Int) 1 (by (try simp only [lnm]); omega)) ?_
        refine sp (.int .i64 ((i : Int) + 1)) ?_
        refine s_nil ?_
        have hms := mst_succ hy15
        have h1 : (hmake ((mst l i).1) (newO 5 (i : Int) ByteArray.empty [])) = (mst l (i + 1)).1 := by rw [hms]; unfold mstep; simp [of_decide_eq_false c67, of_decide_eq_false c76, of_decide_eq_true c85, boxB]
        have h2 : ((mst l i).2 ++ [(hmakeV ((mst l i).1) 5)]) = (mst l (i + 1)).2 := by rw [hms]; unfold mstep; simp_all [boxB]
        refine xs_mem (Bs := blkA g89 #[.int .i64 ((hmakeV ((mst l i).1) 5).kind), .int .i64 ((hmakeV ((mst l i).1) 5).p), .int .i64 ((hmakeV ((mst l i).1) 5).q), .string ((hmakeV ((mst l i).1) 5).str), .int .i64 ((hmakeV ((mst l i).1) 5).ref)] 26 :: rhA hb3 ((mst l (i + 1)).1) :: hpA hb2 ((mst l (i + 1)).1) :: blkA g66 #[.int .i64 ((hmakeV ((mst l i).1) 5).kind), .int .i64 ((hmakeV ((mst l i).1) 5).p), .int .i64 ((hmakeV ((mst l i).1) 5).q), .string ((hmakeV ((mst l i).1) 5).str), .int .i64 ((hmakeV ((mst l i).1) 5).ref)] 26 :: blkA g65 #[.int .i64 ((hmakeV ((mst l i).1) 5).kind), .int .i64 ((hmakeV ((mst l i).1) 5).p), .int .i64 ((hmakeV ((mst l i).1) 5).q), .string ((hmakeV ((mst l i).1) 5).str), .int .i64 ((hmakeV ((mst l i).1) 5).ref)] 26 :: blkA g18 #[.int .i64 ((ofS ((mst l i).2) y14.c).kind), .int .i64 ((ofS ((mst l i).2) y14.c).p), .int .i64 ((ofS ((mst l i).2) y14.c).q), .string ((ofS ((mst l i).2) y14.c).str), .int .i64 ((ofS ((mst l i).2) y14.c).ref)] 26 :: blkA g17 #[.int .i64 ((ofS ((mst l i).2) y14.b).kind), .int .i64 ((ofS ((mst l i).2) y14.b).p), .int .i64 ((ofS ((mst l i).2) y14.b).q), .string ((ofS ((mst l i).2) y14.b).str), .int .i64 ((ofS ((mst l i).2) y14.b).ref)] 26 :: blkA g16 #[.int .i64 ((ofS ((mst l i).2) y14.a).kind), .int .i64 ((ofS ((mst l i).2) y14.a).p), .int .i64 ((ofS ((mst l i).2) y14.a).q), .string ((ofS ((mst l i).2) y14.a).str), .int .i64 ((ofS ((mst l i).2) y14.a).ref)] 26 :: own VlT v90 ((mst l (i + 1)).2) :: blkA g4 #[pB hb2 0, pB hb3 0, v90] 35 :: blkA g1 #[.pointer none, .pointer none, (.slice none 0 0)] 35 :: F) (fun _ h => by rw [← h1, ← h2]; exact h) ?_
        exact xs_round (v90, i + 1) (by show 100 - (i + 1) < 100 - i; omega) (by show i + 1 ≤ 100 ∧ i + 1 ≤ l.length; omega) (sub_of rfl ⟨⟨rfl, rfl⟩, ⟨⟨rfl, rfl⟩, ⟨⟨rfl, rfl⟩, ⟨⟨rfl, rfl⟩, trivial⟩⟩⟩⟩) (fun _ h => h.re [8, 8, 1, 1, 6] [5, 5, 5, 5, 5, 5])
       ·
        have p92 := of_decide_eq_false c87
        refine k_skip ?_
        refine xs_block ?_
        refine xs_then ?_
        refine k_reg ?_
        refine sp (.int .i64 (i : Int)) ?_
        refine s_lt (t_add (i : Int) 1 (by (try simp only [lnm]); omega)) ?_
        refine sp (.int .i64 ((i : Int) + 1)) ?_
        refine s_nil ?_
        have hms := mst_succ hy15
        have h1 : (hmake ((mst l i).1) (newO 5 (i : Int) ByteArray.empty [])) = (mst l (i + 1)).1 := by rw [hms]; unfold mstep; simp [of_decide_eq_false c67, of_decide_eq_false c76, of_decide_eq_true c85, boxB]
        have h2 : (mst l i).2 = (mst l (i + 1)).2 := by rw [hms]; unfold mstep; simp_all [boxB]
        refine xs_mem (Bs := rhA hb3 ((mst l (i + 1)).1) :: hpA hb2 ((mst l (i + 1)).1) :: blkA g66 #[.int .i64 ((hmakeV ((mst l i).1) 5).kind), .int .i64 ((hmakeV ((mst l i).1) 5).p), .int .i64 ((hmakeV ((mst l i).1) 5).q), .string ((hmakeV ((mst l i).1) 5).str), .int .i64 ((hmakeV ((mst l i).1) 5).ref)] 26 :: blkA g65 #[.int .i64 ((hmakeV ((mst l i).1) 5).kind), .int .i64 ((hmakeV ((mst l i).1) 5).p), .int .i64 ((hmakeV ((mst l i).1) 5).q), .string ((hmakeV ((mst l i).1) 5).str), .int .i64 ((hmakeV ((mst l i).1) 5).ref)] 26 :: blkA g18 #[.int .i64 ((ofS ((mst l i).2) y14.c).kind), .int .i64 ((ofS ((mst l i).2) y14.c).p), .int .i64 ((ofS ((mst l i).2) y14.c).q), .string ((ofS ((mst l i).2) y14.c).str), .int .i64 ((ofS ((mst l i).2) y14.c).ref)] 26 :: blkA g17 #[.int .i64 ((ofS ((mst l i).2) y14.b).kind), .int .i64 ((ofS ((mst l i).2) y14.b).p), .int .i64 ((ofS ((mst l i).2) y14.b).q), .string ((ofS ((mst l i).2) y14.b).str), .int .i64 ((ofS ((mst l i).2) y14.b).ref)] 26 :: blkA g16 #[.int .i64 ((ofS ((mst l i).2) y14.a).kind), .int .i64 ((ofS ((mst l i).2) y14.a).p), .int .i64 ((ofS ((mst l i).2) y14.a).q), .string ((ofS ((mst l i).2) y14.a).str), .int .i64 ((ofS ((mst l i).2) y14.a).ref)] 26 :: own VlT lx ((mst l (i + 1)).2) :: blkA g4 #[pB hb2 0, pB hb3 0, lx] 35 :: blkA g1 #[.pointer none, .pointer none, (.slice none 0 0)] 35 :: F) (fun _ h => by rw [← h1, ← h2]; exact h) ?_
        exact xs_round (lx, i + 1) (by show 100 - (i + 1) < 100 - i; omega) (by show i + 1 ≤ 100 ∧ i + 1 ≤ l.length; omega) (sub_of rfl ⟨⟨rfl, rfl⟩, ⟨⟨rfl, rfl⟩, ⟨⟨rfl, rfl⟩, ⟨⟨rfl, rfl⟩, trivial⟩⟩⟩⟩) (fun _ h => h.re [7, 7, 0, 0, 5] [5, 5, 5, 5, 5])
      ·
       have p93 := of_decide_eq_false c85
       refine k_sr ?_
       refine s_lt t_cmp ?_
       refine sp (.bool (decide (y14.kind = 3))) ?_
       refine s_nt ?_
       refine k_cond (decide (y14.kind = 3)) (fun c94 => ?_) (fun c94 => ?_)
       ·
        have p95 := of_decide_eq_true c94
        refine k_held [blkA g66 #[.int .i64 0, .int .i64 0, .int .i64 0, .string ByteArray.empty, .int .i64 0] 26, blkA g65 #[.int .i64 0, .int .i64 0, .int .i64 0, .string ByteArray.empty, .int .i64 0] 26, blkA g18 #[.int .i64 ((ofS ((mst l i).2) y14.c).kind), .int .i64 ((ofS ((mst l i).2) y14.c).p), .int .i64 ((ofS ((mst l i).2) y14.c).q), .string ((ofS ((mst l i).2) y14.c).str), .int .i64 ((ofS ((mst l i).2) y14.c).ref)] 26, blkA g17 #[.int .i64 ((ofS ((mst l i).2) y14.b).kind), .int .i64 ((ofS ((mst l i).2) y14.b).p), .int .i64 ((ofS ((mst l i).2) y14.b).q), .string ((ofS ((mst l i).2) y14.b).str), .int .i64 ((ofS ((mst l i).2) y14.b).ref)] 26, blkA g16 #[.int .i64 ((ofS ((mst l i).2) y14.a).kind), .int .i64 ((ofS ((mst l i).2) y14.a).p), .int .i64 ((ofS ((mst l i).2) y14.a).q), .string ((ofS ((mst l i).2) y14.a).str), .int .i64 ((ofS ((mst l i).2) y14.a).ref)] 26, own VlT lx ((mst l i).2), blkA g4 #[pB hb2 0, pB hb3 0, lx] 35, blkA g1 #[.pointer none, .pointer none, (.slice none 0 0)] 35] ?_
        refine hp_ 0 [0, 0, 0, 0, 0, 0, 0, 2] (pB g4 0) ?_
        refine h_l 1 rfl [0, 0, 0, 0, 0, 0, 0, 2] (fun _ => (t_load 6 (pB hb2 0))) ?_
        refine h_l 2 rfl [0, 0, 0, 0, 0, 0, 0, 2] (fun _ => (t_loadA 4 #[.int .i64 ((ofS ((mst l i).2) y14.a).kind), .int .i64 ((ofS ((mst l i).2) y14.a).p), .int .i64 ((ofS ((mst l i).2) y14.a).q), .string ((ofS ((mst l i).2) y14.a).str), .int .i64 ((ofS ((mst l i).2) y14.a).ref)])) ?_
        refine h_l 3 rfl [0, 0, 0, 0, 0, 0, 0, 2] (fun _ => (t_loadA 3 #[.int .i64 ((ofS ((mst l i).2) y14.b).kind), .int .i64 ((ofS ((mst l i).2) y14.b).p), .int .i64 ((ofS ((mst l i).2) y14.b).q), .string ((ofS ((mst l i).2) y14.b).str), .int .i64 ((ofS ((mst l i).2) y14.b).ref)])) ?_
        refine h_l 4 rfl [0, 0, 0, 0, 0, 0, 0, 2] (fun _ => (t_loadA 2 #[.int .i64 ((ofS ((mst l i).2) y14.c).kind), .int .i64 ((ofS ((mst l i).2) y14.c).p), .int .i64 ((ofS ((mst l i).2) y14.c).q), .string ((ofS ((mst l i).2) y14.c).str), .int .i64 ((ofS ((mst l i).2) y14.c).ref)])) ?_
        refine hp_ 6 [0, 0, 0, 0, 0, 0, 0, 2] (pB g4 1) ?_
        refine h_l 7 rfl [0, 0, 0, 0, 0, 0, 0, 2] (fun _ => (t_load 6 (pB hb3 0))) ?_
        refine h_l 8 rfl [0, 0, 0, 0, 0, 0, 0, 2] (fun _ => (t_loadA 4 #[.int .i64 ((ofS ((mst l i).2) y14.a).kind), .int .i64 ((ofS ((mst l i).2) y14.a).p), .int .i64 ((ofS ((mst l i).2) y14.a).q), .string ((ofS ((mst l i).2) y14.a).str), .int .i64 ((ofS ((mst l i).2) y14.a).ref)])) ?_
        refine h_l 9 rfl [0, 0, 0, 0, 0, 0, 0, 2] (fun _ => (t_loadA 3 #[.int .i64 ((ofS ((mst l i).2) y14.b).kind), .int .i64 ((ofS ((mst l i).2) y14.b).p), .int .i64 ((ofS ((mst l i).2) y14.b).q), .string ((ofS ((mst l i).2) y14.b).str), .int .i64 ((ofS ((mst l i).2) y14.b).ref)])) ?_
        refine h_l 10 rfl [0, 0, 0, 0, 0, 0, 0, 2] (fun _ => (t_loadA 2 #[.int .i64 ((ofS ((mst l i).2) y14.c).kind), .int .i64 ((ofS ((mst l i).2) y14.c).p), .int .i64 ((ofS ((mst l i).2) y14.c).q), .string ((ofS ((mst l i).2) y14.c).str), .int .i64 ((ofS ((mst l i).2) y14.c).ref)])) ?_
        refine h_stepS 5 ?_
        refine s_call [8] (hset_s (st := (mst l i).1) hsm (by omega) (ofS ((mst l i).2) y14.a) (ofS ((mst l i).2) y14.b) (ofS ((mst l i).2) y14.c)) ?_
        rintro _ _ ⟨rfl, rfl⟩
        refine s_nil (xs_held [1, 1, 1, 1, 1, 1, 1, 2] ?_)
        refine h_stepS 11 ?_
        refine s_call [8] (rhset_s (st := (mst l i).1) hsm (by omega) (ofS ((mst l i).2) y14.a) (ofS ((mst l i).2) y14.b) (ofS ((mst l i).2) y14.c)) ?_
        rintro _ _ ⟨rfl, rfl⟩
        refine s_nil (xs_held [2, 2, 2, 2, 2, 2, 2, 2] ?_)
        refine hp_ 12 [2, 2, 2, 2, 2, 2, 2, 2] (.int .i64 (hsetE ((mst l i).1) (ofS ((mst l i).2) y14.a) (ofS ((mst l i).2) y14.b) (ofS ((mst l i).2) y14.c))) ?_
        refine hp_ 13 [2, 2, 2, 2, 2, 2, 2, 2] (.int .i64 (hsetE ((mst l i).1) (ofS ((mst l i).2) y14.a) (ofS ((mst l i).2) y14.b) (ofS ((mst l i).2) y14.c))) ?_
        refine h_doneS ?_
        refine xs_block ?_
        refine xs_then ?_
        refine k_seq ?_
        refine k_sr ?_
        refine s_lt (t_loadA 3 #[.int .i64 0, .int .i64 0, .int .i64 0, .string ByteArray.empty, .int .i64 0]) ?_
        refine s_lt (t_loadA 2 #[.int .i64 0, .int .i64 0, .int .i64 0, .string ByteArray.empty, .int .i64 0]) ?_
        refine s_lt (Lt.to (t_eqS (fun w => (eqVlT zVl zVl w).2)) (congrArg Value.bool ((congrArg Bool.not (decide_eq_true rfl : (decide (zVl = zVl)) = true)).trans rfl : (!(decide (zVl = zVl))) = false))) ?_
        refine sp (.bool false) ?_
        refine sp (.int .i64 (hsetE ((mst l i).1) (ofS ((mst l i).2) y14.a) (ofS ((mst l i).2) y14.b) (ofS ((mst l i).2) y14.c))) ?_
        refine sp (.int .i64 (hsetE ((mst l i).1) (ofS ((mst l i).2) y14.a) (ofS ((mst l i).2) y14.b) (ofS ((mst l i).2) y14.c))) ?_
        refine s_lt (Lt.to t_cmp (congrArg Value.bool (decide_eq_false (fun h => h rfl) : (decide ((hsetE ((mst l i).1) (ofS ((mst l i).2) y14.a) (ofS ((mst l i).2) y14.b) (ofS ((mst l i).2) y14.c)) ≠ (hsetE ((mst l i).1) (ofS ((mst l i).2) y14.a) (ofS ((mst l i).2) y14.b) (ofS ((mst l i).2) y14.c)))) = false))) ?_
        refine sp (.bool false) ?_
        refine s_nt ?_
        refine k_false ?_
        refine k_st ?_
        refine k_sr ?_
        refine sp lv ?_
        refine sp (.int .i64 (i : Int)) ?_
        refine s_lt (t_index OpT_ok Try.underlying22 (.zn hl0) (i : Int) i (by omega) (by (try simp only [lnm]); omega) (by omega)) ?_
        refine sp (.pointer (some (elemAt OpT.size lv i))) ?_
        refine s_lt (t_loadF 0 OpT_ok (.zn hl0) hy15) ?_
        refine s_lt (Lt.to t_cmp (congrArg Value.bool (decide_eq_false (by have := of_decide_eq_true c94; omega) : (decide (y14.kind ≤ 2)) = false))) ?_
        refine sp (.bool false) ?_
        refine s_skip ?_
        refine s_skip ?_
        refine sp (.bool false) ?_
        refine s_nt ?_
        refine k_false ?_
        refine k_skip ?_
        refine xs_block ?_
        refine xs_then ?_
        refine k_reg ?_
        refine sp (.int .i64 (i : Int)) ?_
        refine s_lt (t_add (i : Int) 1 (by (try simp only [lnm]); omega)) ?_
        refine sp (.int .i64 ((i : Int) + 1)) ?_
        refine s_nil ?_
        have hms := mst_succ hy15
        have h1 : (hset ((mst l i).1) (ofS ((mst l i).2) y14.a) (ofS ((mst l i).2) y14.b) (ofS ((mst l i).2) y14.c)) = (mst l (i + 1)).1 := by rw [hms]; unfold mstep; simp [of_decide_eq_false c67, of_decide_eq_false c76, of_decide_eq_false c85, of_decide_eq_true c94, boxB]
        have h2 : (mst l i).2 = (mst l (i + 1)).2 := by rw [hms]; unfold mstep; simp_all [boxB]
        refine xs_mem (Bs := rhA hb3 ((mst l (i + 1)).1) :: hpA hb2 ((mst l (i + 1)).1) :: blkA g66 #[.int .i64 0, .int .i64 0, .int .i64 0, .string ByteArray.empty, .int .i64 0] 26 :: blkA g65 #[.int .i64 0, .int .i64 0, .int .i64 0, .string ByteArray.empty, .int .i64 0] 26 :: blkA g18 #[.int .i64 ((ofS ((mst l i).2) y14.c).kind), .int .i64 ((ofS ((mst l i).2) y14.c).p), .int .i64 ((ofS ((mst l i).2) y14.c).q), .string ((ofS ((mst l i).2) y14.c).str), .int .i64 ((ofS ((mst l i).2) y14.c).ref)] 26 :: blkA g17 #[.int .i64 ((ofS ((mst l i).2) y14.b).kind), .int .i64 ((ofS ((mst l i).2) y14.b).p), .int .i64 ((ofS ((mst l i).2) y14.b).q), .string ((ofS ((mst l i).2) y14.b).str), .int .i64 ((ofS ((mst l i).2) y14.b).ref)] 26 :: blkA g16 #[.int .i64 ((ofS ((mst l i).2) y14.a).kind), .int .i64 ((ofS ((mst l i).2) y14.a).p), .int .i64 ((ofS ((mst l i).2) y14.a).q), .string ((ofS ((mst l i).2) y14.a).str), .int .i64 ((ofS ((mst l i).2) y14.a).ref)] 26 :: own VlT lx ((mst l (i + 1)).2) :: blkA g4 #[pB hb2 0, pB hb3 0, lx] 35 :: blkA g1 #[.pointer none, .pointer none, (.slice none 0 0)] 35 :: F) (fun _ h => by rw [← h1, ← h2]; exact h) ?_
        exact xs_round (lx, i + 1) (by show 100 - (i + 1) < 100 - i; omega) (by show i + 1 ≤ 100 ∧ i + 1 ≤ l.length; omega) (sub_of rfl ⟨⟨rfl, rfl⟩, ⟨⟨rfl, rfl⟩, ⟨⟨rfl, rfl⟩, ⟨⟨rfl, rfl⟩, trivial⟩⟩⟩⟩) (fun _ h => h.re [7, 7, 0, 0, 5] [5, 5, 5, 5, 5])
       ·
        have p96 := of_decide_eq_false c94
        refine k_held [blkA g66 #[.int .i64 0, .int .i64 0, .int .i64 0, .string ByteArray.empty, .int .i64 0] 26, blkA g65 #[.int .i64 0, .int .i64 0, .int .i64 0, .string ByteArray.empty, .int .i64 0] 26, blkA g18 #[.int .i64 ((ofS ((mst l i).2) y14.c).kind), .int .i64 ((ofS ((mst l i).2) y14.c).p), .int .i64 ((ofS ((mst l i).2) y14.c).q), .string ((ofS ((mst l i).2) y14.c).str), .int .i64 ((ofS ((mst l i).2) y14.c).ref)] 26, blkA g17 #[.int .i64 ((ofS ((mst l i).2) y14.b).kind), .int .i64 ((ofS ((mst l i).2) y14.b).p), .int .i64 ((ofS ((mst l i).2) y14.b).q), .string ((ofS ((mst l i).2) y14.b).str), .int .i64 ((ofS ((mst l i).2) y14.b).ref)] 26, blkA g16 #[.int .i64 ((ofS ((mst l i).2) y14.a).kind), .int .i64 ((ofS ((mst l i).2) y14.a).p), .int .i64 ((ofS ((mst l i).2) y14.a).q), .string ((ofS ((mst l i).2) y14.a).str), .int .i64 ((ofS ((mst l i).2) y14.a).ref)] 26, own VlT lx ((mst l i).2), blkA g4 #[pB hb2 0, pB hb3 0, lx] 35, blkA g1 #[.pointer none, .pointer none, (.slice none 0 0)] 35] ?_
        refine hp_ 0 [0, 0, 0, 0, 0, 0, 0, 2] (pB g4 0) ?_
        refine h_l 1 rfl [0, 0, 0, 0, 0, 0, 0, 2] (fun _ => (t_load 6 (pB hb2 0))) ?_
        refine h_l 2 rfl [0, 0, 0, 0, 0, 0, 0, 2] (fun _ => (t_loadA 4 #[.int .i64 ((ofS ((mst l i).2) y14.a).kind), .int .i64 ((ofS ((mst l i).2) y14.a).p), .int .i64 ((ofS ((mst l i).2) y14.a).q), .string ((ofS ((mst l i).2) y14.a).str), .int .i64 ((ofS ((mst l i).2) y14.a).ref)])) ?_
        refine h_l 3 rfl [0, 0, 0, 0, 0, 0, 0, 2] (fun _ => (t_loadA 3 #[.int .i64 ((ofS ((mst l i).2) y14.b).kind), .int .i64 ((ofS ((mst l i).2) y14.b).p), .int .i64 ((ofS ((mst l i).2) y14.b).q), .string ((ofS ((mst l i).2) y14.b).str), .int .i64 ((ofS ((mst l i).2) y14.b).ref)])) ?_
        refine hp_ 5 [0, 0, 0, 0, 0, 0, 0, 2] (pB g4 1) ?_
        refine h_l 6 rfl [0, 0, 0, 0, 0, 0, 0, 2] (fun _ => (t_load 6 (pB hb3 0))) ?_
        refine h_l 7 rfl [0, 0, 0, 0, 0, 0, 0, 2] (fun _ => (t_loadA 4 #[.int .i64 ((ofS ((mst l i).2) y14.a).kind), .int .i64 ((ofS ((mst l i).2) y14.a).p), .int .i64 ((ofS ((mst l i).2) y14.a).q), .string ((ofS ((mst l i).2) y14.a).str), .int .i64 ((ofS ((mst l i).2) y14.a).ref)])) ?_
        refine h_l 8 rfl [0, 0, 0, 0, 0, 0, 0, 2] (fun _ => (t_loadA 3 #[.int .i64 ((ofS ((mst l i).2) y14.b).kind), .int .i64 ((ofS ((mst l i).2) y14.b).p), .int .i64 ((ofS ((mst l i).2) y14.b).q), .string ((ofS ((mst l i).2) y14.b).str), .int .i64 ((ofS ((mst l i).2) y14.b).ref)])) ?_
        refine h_stepS 4 ?_
        refine s_call [8] (hsetmeta_s (st := (mst l i).1) (ofS ((mst l i).2) y14.a) (ofS ((mst l i).2) y14.b)) ?_
        rintro _ _ ⟨rfl, rfl⟩
        refine s_nil (xs_held [1, 1, 1, 1, 1, 1, 1, 2] ?_)
        refine h_stepS 9 ?_
        refine s_call [8] (rhsetmeta_s (st := (mst l i).1) (by have := hsm.len; omega) (ofS ((mst l i).2) y14.a) (ofS ((mst l i).2) y14.b)) ?_
        rintro _ _ ⟨rfl, rfl⟩
        refine s_nil (xs_held [2, 2, 2, 2, 2, 2, 2, 2] ?_)
        refine hp_ 10 [2, 2, 2, 2, 2, 2, 2, 2] (.int .i64 (hsetMetaE ((mst l i).1) (ofS ((mst l i).2) y14.a) (ofS ((mst l i).2) y14.b))) ?_
        refine hp_ 11 [2, 2, 2, 2, 2, 2, 2, 2] (.int .i64 (hsetMetaE ((mst l i).1) (ofS ((mst l i).2) y14.a) (ofS ((mst l i).2) y14.b))) ?_
        refine h_doneS ?_
        refine xs_block ?_
        refine xs_then ?_
        refine k_seq ?_
        refine k_sr ?_
        refine s_lt (t_loadA 3 #[.int .i64 0, .int .i64 0, .int .i64 0, .string ByteArray.empty, .int .i64 0]) ?_
        refine s_lt (t_loadA 2 #[.int .i64 0, .int .i64 0, .int .i64 0, .string ByteArray.empty, .int .i64 0]) ?_
        refine s_lt (Lt.to (t_eqS (fun w => (eqVlT zVl zVl w).2)) (congrArg Value.bool ((congrArg Bool.not (decide_eq_true rfl : (decide (zVl = zVl)) = true)).trans rfl : (!(decide (zVl = zVl))) = false))) ?_
        refine sp (.bool false) ?_
        refine sp (.int .i64 (hsetMetaE ((mst l i).1) (ofS ((mst l i).2) y14.a) (ofS ((mst l i).2) y14.b))) ?_
        refine sp (.int .i64 (hsetMetaE ((mst l i).1) (ofS ((mst l i).2) y14.a) (ofS ((mst l i).2) y14.b))) ?_
        refine s_lt (Lt.to t_cmp (congrArg Value.bool (decide_eq_false (fun h => h rfl) : (decide ((hsetMetaE ((mst l i).1) (ofS ((mst l i).2) y14.a) (ofS ((mst l i).2) y14.b)) ≠ (hsetMetaE ((mst l i).1) (ofS ((mst l i).2) y14.a) (ofS ((mst l i).2) y14.b)))) = false))) ?_
        refine sp (.bool false) ?_
        refine s_nt ?_
        refine k_false ?_
        refine k_st ?_
        refine k_cut (ι := Unit) (fun _ => True) (fun _ => [(0, lv), (2, pB g1 0), (4, pB g4 0), (5, .int .i64 (i : Int)), (9, pB g65 0), (144, .bool ((decide (y14.kind ≤ 2)) && (decide ((hsetMetaE ((mst l i).1) (ofS ((mst l i).2) y14.a) (ofS ((mst l i).2) y14.b)) = 0))))]) (fun _ => rhA hb3 (hsetMeta ((mst l i).1) (ofS ((mst l i).2) y14.a) (ofS ((mst l i).2) y14.b)) :: hpA hb2 (hsetMeta ((mst l i).1) (ofS ((mst l i).2) y14.a) (ofS ((mst l i).2) y14.b)) :: blkA g66 #[.int .i64 0, .int .i64 0, .int .i64 0, .string ByteArray.empty, .int .i64 0] 26 :: blkA g65 #[.int .i64 0, .int .i64 0, .int .i64 0, .string ByteArray.empty, .int .i64 0] 26 :: blkA g18 #[.int .i64 ((ofS ((mst l i).2) y14.c).kind), .int .i64 ((ofS ((mst l i).2) y14.c).p), .int .i64 ((ofS ((mst l i).2) y14.c).q), .string ((ofS ((mst l i).2) y14.c).str), .int .i64 ((ofS ((mst l i).2) y14.c).ref)] 26 :: blkA g17 #[.int .i64 ((ofS ((mst l i).2) y14.b).kind), .int .i64 ((ofS ((mst l i).2) y14.b).p), .int .i64 ((ofS ((mst l i).2) y14.b).q), .string ((ofS ((mst l i).2) y14.b).str), .int .i64 ((ofS ((mst l i).2) y14.b).ref)] 26 :: blkA g16 #[.int .i64 ((ofS ((mst l i).2) y14.a).kind), .int .i64 ((ofS ((mst l i).2) y14.a).p), .int .i64 ((ofS ((mst l i).2) y14.a).q), .string ((ofS ((mst l i).2) y14.a).str), .int .i64 ((ofS ((mst l i).2) y14.a).ref)] 26 :: own VlT lx ((mst l i).2) :: blkA g4 #[pB hb2 0, pB hb3 0, lx] 35 :: blkA g1 #[.pointer none, .pointer none, (.slice none 0 0)] 35 :: F) ?_ (fun _ _ => ?_)
        ·
         refine k_reg ?_
         refine sp lv ?_
         refine sp (.int .i64 (i : Int)) ?_
         refine s_lt (t_index OpT_ok Try.underlying22 (.zn hl0) (i : Int) i (by omega) (by (try simp only [lnm]); omega) (by omega)) ?_
         refine sp (.pointer (some (elemAt OpT.size lv i))) ?_
         refine s_lt (t_loadF 0 OpT_ok (.zn hl0) hy15) ?_
         refine s_lt t_cmp ?_
         refine sp (.bool (decide (y14.kind ≤ 2))) ?_
         refine s_fork 141 (decide (y14.kind ≤ 2)) (fun c97 => ?_) (fun c97 => ?_)
         ·
          have p98 := of_decide_eq_true c97
          refine sp (.int .i64 (hsetMetaE ((mst l i).1) (ofS ((mst l i).2) y14.a) (ofS ((mst l i).2) y14.b))) ?_
          refine s_lt t_cmp ?_
          refine sp (.bool (decide ((hsetMetaE ((mst l i).1) (ofS ((mst l i).2) y14.a) (ofS ((mst l i).2) y14.b)) = 0))) ?_
          refine s_nil ?_
          exact xs_cut () trivial (sub_of rfl ⟨⟨rfl, rfl⟩, ⟨⟨rfl, rfl⟩, ⟨⟨rfl, rfl⟩, ⟨⟨rfl, rfl⟩, ⟨⟨rfl, rfl⟩, ⟨⟨rfl, show Value.bool (decide ((hsetMetaE ((mst l i).1) (ofS ((mst l i).2) y14.a) (ofS ((mst l i).2) y14.b)) = 0)) = Value.bool ((decide (y14.kind ≤ 2)) && (decide ((hsetMetaE ((mst l i).1) (ofS ((mst l i).2) y14.a) (ofS ((mst l i).2) y14.b)) = 0))) by first | (simp only [c97, bls]; done) | simp [c97]⟩, trivial⟩⟩⟩⟩⟩⟩) (fun _ h => h.re [0, 0, 0, 0, 0, 0, 0, 0, 0, 0] [])
         ·
          have p99 := of_decide_eq_false c97
          refine s_skip ?_
          refine s_skip ?_
          refine sp (.bool false) ?_
          refine s_nil ?_
          exact xs_cut () trivial (sub_of rfl ⟨⟨rfl, rfl⟩, ⟨⟨rfl, rfl⟩, ⟨⟨rfl, rfl⟩, ⟨⟨rfl, rfl⟩, ⟨⟨rfl, rfl⟩, ⟨⟨rfl, show Value.bool false = Value.bool ((decide (y14.kind ≤ 2)) && (decide ((hsetMetaE ((mst l i).1) (ofS ((mst l i).2) y14.a) (ofS ((mst l i).2) y14.b)) = 0))) by first | (simp only [c97, bls]; done) | simp [c97]⟩, trivial⟩⟩⟩⟩⟩⟩) (fun _ h => h.re [0, 0, 0, 0, 0, 0, 0, 0, 0, 0] [])
        ·
         refine k_cond ((decide (y14.kind ≤ 2)) && (decide ((hsetMetaE ((mst l i).1) (ofS ((mst l i).2) y14.a) (ofS ((mst l i).2) y14.b)) = 0))) (fun c100 => ?_) (fun c100 => ?_)
         ·
          obtain ⟨c101, c102⟩ := and_t c100
          have p103 := of_decide_eq_true c101
          have p104 := of_decide_eq_true c102
          refine k_reg ?_
          refine sp (pB g4 2) ?_
          refine s_lt (t_load 8 lx) ?_
          refine s_lt (t_loadA 3 #[.int .i64 0, .int .i64 0, .int .i64 0, .string ByteArray.empty, .int .i64 0]) ?_
          refine s_buildSlice (e := 26) [(0, .agg #[.int .i64 0, .int .i64 0, .int .i64 0, .string ByteArray.empty, .int .i64 0])] #[.int .i64 0, .int .i64 0, .int .i64 0, .string ByteArray.empty, .int .i64 0] (fun g105 => ?_) (hb := by kernel_rfl)
          refine s_append (L := (mst l i).2) 8 VlT_ok Try.underlying33 (.lit 0 VlT_ok [zVl]) (by show _ * 48 ≤ _; (try simp only [lnm]); omega) (by (try simp only [lnm]); omega) (fun v106 => ?_)
          refine sp (pB g4 2) ?_
          refine s_fact (fun H h => ((Acc.own (T := VlT) (L := ((mst l i).2 ++ [zVl])) 8 rfl) H h).form) (fun hf107 => ?_)
          refine s_store (u := v106) (m := 1) 9 #[pB hb2 0, pB hb3 0, v106] ?_ (hm := by (obtain ⟨_, _, e⟩ := hf107; rw [e]; rfl)) (h1 := by (obtain ⟨_, _, e⟩ := hf107; rw [e]; rfl)) (ha' := by (obtain ⟨_, _, e⟩ := hf107; rw [e]; rfl))
          refine s_nil ?_
          refine xs_block ?_
          refine xs_then ?_
          refine k_reg ?_
          refine sp (.int .i64 (i : Int)) ?_
          refine s_lt (t_add (i : Int) 1 (by (try simp only [lnm]); omega)) ?_
          refine sp (.int .i64 ((i : Int) + 1)) ?_
          refine s_nil ?_
          have hms := mst_succ hy15
          have h1 : (hsetMeta ((mst l i).1) (ofS ((mst l i).2) y14.a) (ofS ((mst l i).2) y14.b)) = (mst l (i + 1)).1 := by rw [hms]; unfold mstep; simp [of_decide_eq_false c67, of_decide_eq_false c76, of_decide_eq_false c85, of_decide_eq_false c94, boxB]
          have h2 : ((mst l i).2 ++ [zVl]) = (mst l (i + 1)).2 := by rw [hms]; unfold mstep; simp_all [boxB]
          refine xs_mem (Bs := blkA g105 #[.int .i64 0, .int .i64 0, .int .i64 0, .string ByteArray.empty, .int .i64 0] 26 :: rhA hb3 ((mst l (i + 1)).1) :: hpA hb2 ((mst l (i + 1)).1) :: blkA g66 #[.int .i64 0, .int .i64 0, .int .i64 0, .string ByteArray.empty, .int .i64 0] 26 :: blkA g65 #[.int .i64 0, .int .i64 0, .int .i64 0, .string ByteArray.empty, .int .i64 0] 26 :: blkA g18 #[.int .i64 ((ofS ((mst l i).2) y14.c).kind), .int .i64 ((ofS ((mst l i).2) y14.c).p), .int .i64 ((ofS ((mst l i).2) y14.c).q), .string ((ofS ((mst l i).2) y14.c).str), .int .i64 ((ofS ((mst l i).2) y14.c).ref)] 26 :: blkA g17 #[.int .i64 ((ofS ((mst l i).2) y14.b).kind), .int .i64 ((ofS ((mst l i).2) y14.b).p), .int .i64 ((ofS ((mst l i).2) y14.b).q), .string ((ofS ((mst l i).2) y14.b).str), .int .i64 ((ofS ((mst l i).2) y14.b).ref)] 26 :: blkA g16 #[.int .i64 ((ofS ((mst l i).2) y14.a).kind), .int .i64 ((ofS ((mst l i).2) y14.a).p), .int .i64 ((ofS ((mst l i).2) y14.a).q), .string ((ofS ((mst l i).2) y14.a).str), .int .i64 ((ofS ((mst l i).2) y14.a).ref)] 26 :: own VlT v106 ((mst l (i + 1)).2) :: blkA g4 #[pB hb2 0, pB hb3 0, v106] 35 :: blkA g1 #[.pointer none, .pointer none, (.slice none 0 0)] 35 :: F) (fun _ h => by rw [← h1, ← h2]; exact h) ?_
          exact xs_round (v106, i + 1) (by show 100 - (i + 1) < 100 - i; omega) (by show i + 1 ≤ 100 ∧ i + 1 ≤ l.length; omega) (sub_of rfl ⟨⟨rfl, rfl⟩, ⟨⟨rfl, rfl⟩, ⟨⟨rfl, rfl⟩, ⟨⟨rfl, rfl⟩, trivial⟩⟩⟩⟩) (fun _ h => h.re [8, 8, 1, 1, 6] [5, 5, 5, 5, 5, 5])
         ·
          have p108 := c100
          simp only [Bool.and_eq_true, Bool.or_eq_true, Bool.and_eq_false_iff, Bool.or_eq_false_iff, Bool.not_eq_true', Bool.not_eq_false', decide_eq_true_eq, decide_eq_false_iff_not] at p108
          refine k_skip ?_
          refine xs_block ?_
          refine xs_then ?_
          refine k_reg ?_
          refine sp (.int .i64 (i : Int)) ?_
          refine s_lt (t_add (i : Int) 1 (by (try simp only [lnm]); omega)) ?_
          refine sp (.int .i64 ((i : Int) + 1)) ?_
          refine s_nil ?_
          have hms := mst_succ hy15
          have h1 : (hsetMeta ((mst l i).1) (ofS ((mst l i).2) y14.a) (ofS ((mst l i).2) y14.b)) = (mst l (i + 1)).1 := by rw [hms]; unfold mstep; simp [of_decide_eq_false c67, of_decide_eq_false c76, of_decide_eq_false c85, of_decide_eq_false c94, boxB]
          have h2 : (mst l i).2 = (mst l (i + 1)).2 := by rw [hms]; unfold mstep; simp_all [boxB]
          refine xs_mem (Bs := rhA hb3 ((mst l (i + 1)).1) :: hpA hb2 ((mst l (i + 1)).1) :: blkA g66 #[.int .i64 0, .int .i64 0, .int .i64 0, .string ByteArray.empty, .int .i64 0] 26 :: blkA g65 #[.int .i64 0, .int .i64 0, .int .i64 0, .string ByteArray.empty, .int .i64 0] 26 :: blkA g18 #[.int .i64 ((ofS ((mst l i).2) y14.c).kind), .int .i64 ((ofS ((mst l i).2) y14.c).p), .int .i64 ((ofS ((mst l i).2) y14.c).q), .string ((ofS ((mst l i).2) y14.c).str), .int .i64 ((ofS ((mst l i).2) y14.c).ref)] 26 :: blkA g17 #[.int .i64 ((ofS ((mst l i).2) y14.b).kind), .int .i64 ((ofS ((mst l i).2) y14.b).p), .int .i64 ((ofS ((mst l i).2) y14.b).q), .string ((ofS ((mst l i).2) y14.b).str), .int .i64 ((ofS ((mst l i).2) y14.b).ref)] 26 :: blkA g16 #[.int .i64 ((ofS ((mst l i).2) y14.a).kind), .int .i64 ((ofS ((mst l i).2) y14.a).p), .int .i64 ((ofS ((mst l i).2) y14.a).q), .string ((ofS ((mst l i).2) y14.a).str), .int .i64 ((ofS ((mst l i).2) y14.a).ref)] 26 :: own VlT lx ((mst l (i + 1)).2) :: blkA g4 #[pB hb2 0, pB hb3 0, lx] 35 :: blkA g1 #[.pointer none, .pointer none, (.slice none 0 0)] 35 :: F) (fun _ h => by rw [← h1, ← h2]; exact h) ?_
          exact xs_round (lx, i + 1) (by show 100 - (i + 1) < 100 - i; omega) (by show i + 1 ≤ 100 ∧ i + 1 ≤ l.length; omega) (sub_of rfl ⟨⟨rfl, rfl⟩, ⟨⟨rfl, rfl⟩, ⟨⟨rfl, rfl⟩, ⟨⟨rfl, rfl⟩, trivial⟩⟩⟩⟩) (fun _ h => h.re [7, 7, 0, 0, 5] [5, 5, 5, 5, 5])
   refine h_join (ι := Nat × Nat) 4 #[true, true, true, true, true, true, true, true, true, true, true, true, true, true, true, true, true, true, true, true, true, true, true, false, false, false, false] (fun (g16, g17) => [(0, lv), (2, pB g1 0), (4, pB g4 0), (5, .int .i64 (i : Int)), (6, pB g16 0), (7, pB g17 0), (36, .agg #[.int .i64 ((ofS ((mst l i).2) y14.a).kind), .int .i64 ((ofS ((mst l i).2) y14.a).p), .int .i64 ((ofS ((mst l i).2) y14.a).q), .string ((ofS ((mst l i).2) y14.a).str), .int .i64 ((ofS ((mst l i).2) y14.a).ref)]), (43, .agg #[.int .i64 ((ofS ((mst l i).2) y14.b).kind), .int .i64 ((ofS ((mst l i).2) y14.b).p), .int .i64 ((ofS ((mst l i).2) y14.b).q), .string ((ofS ((mst l i).2) y14.b).str), .int .i64 ((ofS ((mst l i).2) y14.b).ref)]), (50, .agg #[.int .i64 ((ofS ((mst l i).2) y14.c).kind), .int .i64 ((ofS ((mst l i).2) y14.c).p), .int .i64 ((ofS ((mst l i).2) y14.c).q), .string ((ofS ((mst l i).2) y14.c).str), .int .i64 ((ofS ((mst l i).2) y14.c).ref)])]) (fun (g16, g17) => blkA g17 #[.int .i64 0, .int .i64 0, .int .i64 0, .string ByteArray.empty, .int .i64 0] 26 :: blkA g16 #[.int .i64 0, .int .i64 0, .int .i64 0, .string ByteArray.empty, .int .i64 0] 26 :: own VlT lx ((mst l i).2) :: blkA g4 #[pB hb2 0, pB hb3 0, lx] 35 :: rhA hb3 ((mst l i).1) :: hpA hb2 ((mst l i).1) :: blkA g1 #[.pointer none, .pointer none, (.slice none 0 0)] 35 :: F) ?_ (fun hj109 => ?_)
   ·
    rintro ⟨g16, g17⟩
    try dsimp only
    refine h_stepS 23 ?_
    refine s_alloc (.agg #[.int .i64 0, .int .i64 0, .int .i64 0, .string ByteArray.empty, .int .i64 0]) #[.int .i64 0, .int .i64 0, .int .i64 0, .string ByteArray.empty, .int .i64 0] (fun g110 => ?_)
    refine s_nil (xs_held [3, 3, 5] ?_)
    exact h_use hj64 (g16, g17, g110) (fun _ h => h.re [0, 0, 0, 0, 0, 0, 0, 0] [])
   refine h_join (ι := Nat × Nat) 4 #[true, true, true, true, true, true, true, true, true, true, true, true, true, true, true, true, true, true, true, true, true, true, false, true, false, false, false] (fun (g16, g19) => [(0, lv), (2, pB g1 0), (4, pB g4 0), (5, .int .i64 (i : Int)), (6, pB g16 0), (8, pB g19 0), (36, .agg #[.int .i64 ((ofS ((mst l i).2) y14.a).kind), .int .i64 ((ofS ((mst l i).2) y14.a).p), .int .i64 ((ofS ((mst l i).2) y14.a).q), .string ((ofS ((mst l i).2) y14.a).str), .int .i64 ((ofS ((mst l i).2) y14.a).ref)]), (43, .agg #[.int .i64 ((ofS ((mst l i).2) y14.b).kind), .int .i64 ((ofS ((mst l i).2) y14.b).p), .int .i64 ((ofS ((mst l i).2) y14.b).q), .string ((ofS ((mst l i).2) y14.b).str), .int .i64 ((ofS ((mst l i).2) y14.b).ref)]), (50, .agg #[.int .i64 ((ofS ((mst l i).2) y14.c).kind), .int .i64 ((ofS ((mst l i).2) y14.c).p), .int .i64 ((ofS ((mst l i).2) y14.c).q), .string ((ofS ((mst l i).2) y14.c).str), .int .i64 ((ofS ((mst l i).2) y14.c).ref)])]) (fun (g16, g19) => blkA g19 #[.int .i64 0, .int .i64 0, .int .i64 0, .string ByteArray.empty, .int .i64 0] 26 :: blkA g16 #[.int .i64 0, .int .i64 0, .int .i64 0, .string ByteArray.empty, .int .i64 0] 26 :: own VlT lx ((mst l i).2) :: blkA g4 #[pB hb2 0, pB hb3 0, lx] 35 :: rhA hb3 ((mst l i).1) :: hpA hb2 ((mst l i).1) :: blkA g1 #[.pointer none, .pointer none, (.slice none 0 0)] 35 :: F) ?_ (fun hj111 => ?_)
   ·
    rintro ⟨g16, g19⟩
    try dsimp only
    refine h_stepS 22 ?_
    refine s_alloc (.agg #[.int .i64 0, .int .i64 0, .int .i64 0, .string ByteArray.empty, .int .i64 0]) #[.int .i64 0, .int .i64 0, .int .i64 0, .string ByteArray.empty, .int .i64 0] (fun g112 => ?_)
    refine s_nil (xs_held [3, 3, 5] ?_)
    exact h_use hj64 (g16, g112, g19) (fun _ h => h.re [1, 0, 0, 0, 0, 0, 0, 0] [])
   refine h_join (ι := Nat × Nat) 4 #[true, true, true, true, true, true, true, true, true, true, true, true, true, true, true, true, true, true, true, true, true, false, true, true, false, false, false] (fun (g21, g23) => [(0, lv), (2, pB g1 0), (4, pB g4 0), (5, .int .i64 (i : Int)), (7, pB g21 0), (8, pB g23 0), (36, .agg #[.int .i64 ((ofS ((mst l i).2) y14.a).kind), .int .i64 ((ofS ((mst l i).2) y14.a).p), .int .i64 ((ofS ((mst l i).2) y14.a).q), .string ((ofS ((mst l i).2) y14.a).str), .int .i64 ((ofS ((mst l i).2) y14.a).ref)]), (43, .agg #[.int .i64 ((ofS ((mst l i).2) y14.b).kind), .int .i64 ((ofS ((mst l i).2) y14.b).p), .int .i64 ((ofS ((mst l i).2) y14.b).q), .string ((ofS ((mst l i).2) y14.b).str), .int .i64 ((ofS ((mst l i).2) y14.b).ref)]), (50, .agg #[.int .i64 ((ofS ((mst l i).2) y14.c).kind), .int .i64 ((ofS ((mst l i).2) y14.c).p), .int .i64 ((ofS ((mst l i).2) y14.c).q), .string ((ofS ((mst l i).2) y14.c).str), .int .i64 ((ofS ((mst l i).2) y14.c).ref)])]) (fun (g21, g23) => blkA g23 #[.int .i64 0, .int .i64 0, .int .i64 0, .string ByteArray.empty, .int .i64 0] 26 :: blkA g21 #[.int .i64 0, .int .i64 0, .int .i64 0, .string ByteArray.empty, .int .i64 0] 26 :: own VlT lx ((mst l i).2) :: blkA g4 #[pB hb2 0, pB hb3 0, lx] 35 :: rhA hb3 ((mst l i).1) :: hpA hb2 ((mst l i).1) :: blkA g1 #[.pointer none, .pointer none, (.slice none 0 0)] 35 :: F) ?_ (fun hj113 => ?_)
   ·
    rintro ⟨g21, g23⟩
    try dsimp only
    refine h_stepS 21 ?_
    refine s_alloc (.agg #[.int .i64 0, .int .i64 0, .int .i64 0, .string ByteArray.empty, .int .i64 0]) #[.int .i64 0, .int .i64 0, .int .i64 0, .string ByteArray.empty, .int .i64 0] (fun g114 => ?_)
    refine s_nil (xs_held [3, 3, 5] ?_)
    exact h_use hj64 (g114, g21, g23) (fun _ h => h.re [1, 1, 0, 0, 0, 0, 0, 0] [])
   refine h_join (ι := Nat × Nat × Nat) 4 #[true, true, true, true, true, true, true, true, true, true, true, true, true, true, true, true, true, true, true, true, false, true, true, true, false, false, false] (fun (g28, g29, g30) => [(0, lv), (2, pB g1 0), (4, pB g4 0), (5, .int .i64 (i : Int)), (6, pB g28 0), (7, pB g29 0), (8, pB g30 0), (36, .agg #[.int .i64 ((ofS ((mst l i).2) y14.a).kind), .int .i64 ((ofS ((mst l i).2) y14.a).p), .int .i64 ((ofS ((mst l i).2) y14.a).q), .string ((ofS ((mst l i).2) y14.a).str), .int .i64 ((ofS ((mst l i).2) y14.a).ref)]), (43, .agg #[.int .i64 ((ofS ((mst l i).2) y14.b).kind), .int .i64 ((ofS ((mst l i).2) y14.b).p), .int .i64 ((ofS ((mst l i).2) y14.b).q), .string ((ofS ((mst l i).2) y14.b).str), .int .i64 ((ofS ((mst l i).2) y14.b).ref)]), (44, .agg #[pB hb2 0, pB hb3 0, lx]), (49, .agg #[.int .i64 y14.c.v.kind, .int .i64 y14.c.v.p, .int .i64 y14.c.v.q, .string y14.c.v.str, .int .i64 y14.c.v.ref, .int .i64 y14.c.obj])]) (fun (g28, g29, g30) => blkA g30 #[.int .i64 0, .int .i64 0, .int .i64 0, .string ByteArray.empty, .int .i64 0] 26 :: blkA g29 #[.int .i64 0, .int .i64 0, .int .i64 0, .string ByteArray.empty, .int .i64 0] 26 :: blkA g28 #[.int .i64 0, .int .i64 0, .int .i64 0, .string ByteArray.empty, .int .i64 0] 26 :: own VlT lx ((mst l i).2) :: blkA g4 #[pB hb2 0, pB hb3 0, lx] 35 :: rhA hb3 ((mst l i).1) :: hpA hb2 ((mst l i).1) :: blkA g1 #[.pointer none, .pointer none, (.slice none 0 0)] 35 :: F) ?_ (fun hj115 => ?_)
   ·
    rintro ⟨g28, g29, g30⟩
    try dsimp only
    refine h_stepS 20 ?_
    refine s_call [3] (of_s (L := (mst l i).2) (by (try simp only [lnm]); omega) y14.c) ?_
    rintro _ _ ⟨rfl, rfl⟩
    refine s_nil (xs_held [0, 3, 5] ?_)
    exact h_use hj64 (g28, g29, g30) (fun _ h => h.re [1, 1, 1, 0, 0, 0, 0, 0] [])
   refine h_join (ι := Nat) 5 #[true, true, true, true, true, true, true, true, true, true, true, true, true, true, true, true, true, true, true, true, true, true, false, false, false, false, false] (fun g16 => [(0, lv), (2, pB g1 0), (4, pB g4 0), (5, .int .i64 (i : Int)), (6, pB g16 0), (36, .agg #[.int .i64 ((ofS ((mst l i).2) y14.a).kind), .int .i64 ((ofS ((mst l i).2) y14.a).p), .int .i64 ((ofS ((mst l i).2) y14.a).q), .string ((ofS ((mst l i).2) y14.a).str), .int .i64 ((ofS ((mst l i).2) y14.a).ref)]), (43, .agg #[.int .i64 ((ofS ((mst l i).2) y14.b).kind), .int .i64 ((ofS ((mst l i).2) y14.b).p), .int .i64 ((ofS ((mst l i).2) y14.b).q), .string ((ofS ((mst l i).2) y14.b).str), .int .i64 ((ofS ((mst l i).2) y14.b).ref)]), (50, .agg #[.int .i64 ((ofS ((mst l i).2) y14.c).kind), .int .i64 ((ofS ((mst l i).2) y14.c).p), .int .i64 ((ofS ((mst l i).2) y14.c).q), .string ((ofS ((mst l i).2) y14.c).str), .int .i64 ((ofS ((mst l i).2) y14.c).ref)])]) (fun g16 => blkA g16 #[.int .i64 0, .int .i64 0, .int .i64 0, .string ByteArray.empty, .int .i64 0] 26 :: own VlT lx ((mst l i).2) :: blkA g4 #[pB hb2 0, pB hb3 0, lx] 35 :: rhA hb3 ((mst l i).1) :: hpA hb2 ((mst l i).1) :: blkA g1 #[.pointer none, .pointer none, (.slice none 0 0)] 35 :: F) ?_ (fun hj116 => ?_)
   ·
    rintro g16
    try dsimp only
    refine h_stepS2 22 23 ?_ ?_
    ·
     refine s_alloc (.agg #[.int .i64 0, .int .i64 0, .int .i64 0, .string ByteArray.empty, .int .i64 0]) #[.int .i64 0, .int .i64 0, .int .i64 0, .string ByteArray.empty, .int .i64 0] (fun g117 => ?_)
     refine s_nil (xs_held [2, 2, 4] ?_)
     exact h_use hj109 (g16, g117) (fun _ h => h.re [0, 0, 0, 0, 0, 0, 0] [])
    ·
     refine s_alloc (.agg #[.int .i64 0, .int .i64 0, .int .i64 0, .string ByteArray.empty, .int .i64 0]) #[.int .i64 0, .int .i64 0, .int .i64 0, .string ByteArray.empty, .int .i64 0] (fun g118 => ?_)
     refine s_nil (xs_held [2, 2, 4] ?_)
     exact h_use hj111 (g16, g118) (fun _ h => h.re [0, 0, 0, 0, 0, 0, 0] [])
   refine h_join (ι := Nat) 5 #[true, true, true, true, true, true, true, true, true, true, true, true, true, true, true, true, true, true, true, true, true, false, true, false, false, false, false] (fun g21 => [(0, lv), (2, pB g1 0), (4, pB g4 0), (5, .int .i64 (i : Int)), (7, pB g21 0), (36, .agg #[.int .i64 ((ofS ((mst l i).2) y14.a).kind), .int .i64 ((ofS ((mst l i).2) y14.a).p), .int .i64 ((ofS ((mst l i).2) y14.a).q), .string ((ofS ((mst l i).2) y14.a).str), .int .i64 ((ofS ((mst l i).2) y14.a).ref)]), (43, .agg #[.int .i64 ((ofS ((mst l i).2) y14.b).kind), .int .i64 ((ofS ((mst l i).2) y14.b).p), .int .i64 ((ofS ((mst l i).2) y14.b).q), .string ((ofS ((mst l i).2) y14.b).str), .int .i64 ((ofS ((mst l i).2) y14.b).ref)]), (50, .agg #[.int .i64 ((ofS ((mst l i).2) y14.c).kind), .int .i64 ((ofS ((mst l i).2) y14.c).p), .int .i64 ((ofS ((mst l i).2) y14.c).q), .string ((ofS ((mst l i).2) y14.c).str), .int .i64 ((ofS ((mst l i).2) y14.c).ref)])]) (fun g21 => blkA g21 #[.int .i64 0, .int .i64 0, .int .i64 0, .string ByteArray.empty, .int .i64 0] 26 :: own VlT lx ((mst l i).2) :: blkA g4 #[pB hb2 0, pB hb3 0, lx] 35 :: rhA hb3 ((mst l i).1) :: hpA hb2 ((mst l i).1) :: blkA g1 #[.pointer none, .pointer none, (.slice none 0 0)] 35 :: F) ?_ (fun hj119 => ?_)
   ·
    rintro g21
    try dsimp only
    refine h_stepS2 21 23 ?_ ?_
    ·
     refine s_alloc (.agg #[.int .i64 0, .int .i64 0, .int .i64 0, .string ByteArray.empty, .int .i64 0]) #[.int .i64 0, .int .i64 0, .int .i64 0, .string ByteArray.empty, .int .i64 0] (fun g120 => ?_)
     refine s_nil (xs_held [2, 2, 4] ?_)
     exact h_use hj109 (g120, g21) (fun _ h => h.re [1, 0, 0, 0, 0, 0, 0] [])
    ·
     refine s_alloc (.agg #[.int .i64 0, .int .i64 0, .int .i64 0, .string ByteArray.empty, .int .i64 0]) #[.int .i64 0, .int .i64 0, .int .i64 0, .string ByteArray.empty, .int .i64 0] (fun g121 => ?_)
     refine s_nil (xs_held [2, 2, 4] ?_)
     exact h_use hj113 (g21, g121) (fun _ h => h.re [0, 0, 0, 0, 0, 0, 0] [])
   refine h_join (ι := Nat) 5 #[true, true, true, true, true, true, true, true, true, true, true, true, true, true, true, true, true, true, true, true, true, false, false, true, false, false, false] (fun g25 => [(0, lv), (2, pB g1 0), (4, pB g4 0), (5, .int .i64 (i : Int)), (8, pB g25 0), (36, .agg #[.int .i64 ((ofS ((mst l i).2) y14.a).kind), .int .i64 ((ofS ((mst l i).2) y14.a).p), .int .i64 ((ofS ((mst l i).2) y14.a).q), .string ((ofS ((mst l i).2) y14.a).str), .int .i64 ((ofS ((mst l i).2) y14.a).ref)]), (43, .agg #[.int .i64 ((ofS ((mst l i).2) y14.b).kind), .int .i64 ((ofS ((mst l i).2) y14.b).p), .int .i64 ((ofS ((mst l i).2) y14.b).q), .string ((ofS ((mst l i).2) y14.b).str), .int .i64 ((ofS ((mst l i).2) y14.b).ref)]), (50, .agg #[.int .i64 ((ofS ((mst l i).2) y14.c).kind), .int .i64 ((ofS ((mst l i).2) y14.c).p), .int .i64 ((ofS ((mst l i).2) y14.c).q), .string ((ofS ((mst l i).2) y14.c).str), .int .i64 ((ofS ((mst l i).2) y14.c).ref)])]) (fun g25 => blkA g25 #[.int .i64 0, .int .i64 0, .int .i64 0, .string ByteArray.empty, .int .i64 0] 26 :: own VlT lx ((mst l i).2) :: blkA g4 #[pB hb2 0, pB hb3 0, lx] 35 :: rhA hb3 ((mst l i).1) :: hpA hb2 ((mst l i).1) :: blkA g1 #[.pointer none, .pointer none, (.slice none 0 0)] 35 :: F) ?_ (fun hj122 => ?_)
   ·
    rintro g25
    try dsimp only
    refine h_stepS2 21 22 ?_ ?_
    ·
     refine s_alloc (.agg #[.int .i64 0, .int .i64 0, .int .i64 0, .string ByteArray.empty, .int .i64 0]) #[.int .i64 0, .int .i64 0, .int .i64 0, .string ByteArray.empty, .int .i64 0] (fun g123 => ?_)
     refine s_nil (xs_held [2, 2, 4] ?_)
     exact h_use hj111 (g123, g25) (fun _ h => h.re [1, 0, 0, 0, 0, 0, 0] [])
    ·
     refine s_alloc (.agg #[.int .i64 0, .int .i64 0, .int .i64 0, .string ByteArray.empty, .int .i64 0]) #[.int .i64 0, .int .i64 0, .int .i64 0, .string ByteArray.empty, .int .i64 0] (fun g124 => ?_)
     refine s_nil (xs_held [2, 2, 4] ?_)
     exact h_use hj113 (g124, g25) (fun _ h => h.re [1, 0, 0, 0, 0, 0, 0] [])
   refine h_join (ι := Nat × Nat) 5 #[true, true, true, true, true, true, true, true, true, true, true, true, true, true, true, true, true, true, true, true, false, true, true, false, false, false, false] (fun (g28, g29) => [(0, lv), (2, pB g1 0), (4, pB g4 0), (5, .int .i64 (i : Int)), (6, pB g28 0), (7, pB g29 0), (36, .agg #[.int .i64 ((ofS ((mst l i).2) y14.a).kind), .int .i64 ((ofS ((mst l i).2) y14.a).p), .int .i64 ((ofS ((mst l i).2) y14.a).q), .string ((ofS ((mst l i).2) y14.a).str), .int .i64 ((ofS ((mst l i).2) y14.a).ref)]), (43, .agg #[.int .i64 ((ofS ((mst l i).2) y14.b).kind), .int .i64 ((ofS ((mst l i).2) y14.b).p), .int .i64 ((ofS ((mst l i).2) y14.b).q), .string ((ofS ((mst l i).2) y14.b).str), .int .i64 ((ofS ((mst l i).2) y14.b).ref)]), (44, .agg #[pB hb2 0, pB hb3 0, lx]), (49, .agg #[.int .i64 y14.c.v.kind, .int .i64 y14.c.v.p, .int .i64 y14.c.v.q, .string y14.c.v.str, .int .i64 y14.c.v.ref, .int .i64 y14.c.obj])]) (fun (g28, g29) => blkA g29 #[.int .i64 0, .int .i64 0, .int .i64 0, .string ByteArray.empty, .int .i64 0] 26 :: blkA g28 #[.int .i64 0, .int .i64 0, .int .i64 0, .string ByteArray.empty, .int .i64 0] 26 :: own VlT lx ((mst l i).2) :: blkA g4 #[pB hb2 0, pB hb3 0, lx] 35 :: rhA hb3 ((mst l i).1) :: hpA hb2 ((mst l i).1) :: blkA g1 #[.pointer none, .pointer none, (.slice none 0 0)] 35 :: F) ?_ (fun hj125 => ?_)
   ·
    rintro ⟨g28, g29⟩
    try dsimp only
    refine h_stepS2 20 23 ?_ ?_
    ·
     refine s_call [2] (of_s (L := (mst l i).2) (by (try simp only [lnm]); omega) y14.c) ?_
     rintro _ _ ⟨rfl, rfl⟩
     refine s_nil (xs_held [0, 2, 4] ?_)
     exact h_use hj109 (g28, g29) (fun _ h => h.re [1, 1, 0, 0, 0, 0, 0] [])
    ·
     refine s_alloc (.agg #[.int .i64 0, .int .i64 0, .int .i64 0, .string ByteArray.empty, .int .i64 0]) #[.int .i64 0, .int .i64 0, .int .i64 0, .string ByteArray.empty, .int .i64 0] (fun g126 => ?_)
     refine s_nil (xs_held [3, 3, 5] ?_)
     exact h_use hj115 (g28, g29, g126) (fun _ h => h.re [0, 0, 0, 0, 0, 0, 0, 0] [])
   refine h_join (ι := Nat × Nat) 5 #[true, true, true, true, true, true, true, true, true, true, true, true, true, true, true, true, true, true, true, true, false, true, false, true, false, false, false] (fun (g28, g31) => [(0, lv), (2, pB g1 0), (4, pB g4 0), (5, .int .i64 (i : Int)), (6, pB g28 0), (8, pB g31 0), (36, .agg #[.int .i64 ((ofS ((mst l i).2) y14.a).kind), .int .i64 ((ofS ((mst l i).2) y14.a).p), .int .i64 ((ofS ((mst l i).2) y14.a).q), .string ((ofS ((mst l i).2) y14.a).str), .int .i64 ((ofS ((mst l i).2) y14.a).ref)]), (43, .agg #[.int .i64 ((ofS ((mst l i).2) y14.b).kind), .int .i64 ((ofS ((mst l i).2) y14.b).p), .int .i64 ((ofS ((mst l i).2) y14.b).q), .string ((ofS ((mst l i).2) y14.b).str), .int .i64 ((ofS ((mst l i).2) y14.b).ref)]), (44, .agg #[pB hb2 0, pB hb3 0, lx]), (49, .agg #[.int .i64 y14.c.v.kind, .int .i64 y14.c.v.p, .int .i64 y14.c.v.q, .string y14.c.v.str, .int .i64 y14.c.v.ref, .int .i64 y14.c.obj])]) (fun (g28, g31) => blkA g31 #[.int .i64 0, .int .i64 0, .int .i64 0, .string ByteArray.empty, .int .i64 0] 26 :: blkA g28 #[.int .i64 0, .int .i64 0, .int .i64 0, .string ByteArray.empty, .int .i64 0] 26 :: own VlT lx ((mst l i).2) :: blkA g4 #[pB hb2 0, pB hb3 0, lx] 35 :: rhA hb3 ((mst l i).1) :: hpA hb2 ((mst l i).1) :: blkA g1 #[.pointer none, .pointer none, (.slice none 0 0)] 35 :: F) ?_ (fun hj127 => ?_)
   ·
    rintro ⟨g28, g31⟩
    try dsimp only
    refine h_stepS2 20 22 ?_ ?_
    ·
     refine s_call [2] (of_s (L := (mst l i).2) (by (try simp only [lnm]); omega) y14.c) ?_
     rintro _ _ ⟨rfl, rfl⟩
     refine s_nil (xs_held [0, 2, 4] ?_)
     exact h_use hj111 (g28, g31) (fun _ h => h.re [1, 1, 0, 0, 0, 0, 0] [])
    ·
     refine s_alloc (.agg #[.int .i64 0, .int .i64 0, .int .i64 0, .string ByteArray.empty, .int .i64 0]) #[.int .i64 0, .int .i64 0, .int .i64 0, .string ByteArray.empty, .int .i64 0] (fun g128 => ?_)
     refine s_nil (xs_held [3, 3, 5] ?_)
     exact h_use hj115 (g28, g128, g31) (fun _ h => h.re [1, 0, 0, 0, 0, 0, 0, 0] [])
   refine h_join (ι := Nat × Nat) 5 #[true, true, true, true, true, true, true, true, true, true, true, true, true, true, true, true, true, true, true, true, false, false, true, true, false, false, false] (fun (g33, g35) => [(0, lv), (2, pB g1 0), (4, pB g4 0), (5, .int .i64 (i : Int)), (7, pB g33 0), (8, pB g35 0), (36, .agg #[.int .i64 ((ofS ((mst l i).2) y14.a).kind), .int .i64 ((ofS ((mst l i).2) y14.a).p), .int .i64 ((ofS ((mst l i).2) y14.a).q), .string ((ofS ((mst l i).2) y14.a).str), .int .i64 ((ofS ((mst l i).2) y14.a).ref)]), (43, .agg #[.int .i64 ((ofS ((mst l i).2) y14.b).kind), .int .i64 ((ofS ((mst l i).2) y14.b).p), .int .i64 ((ofS ((mst l i).2) y14.b).q), .string ((ofS ((mst l i).2) y14.b).str), .int .i64 ((ofS ((mst l i).2) y14.b).ref)]), (44, .agg #[pB hb2 0, pB hb3 0, lx]), (49, .agg #[.int .i64 y14.c.v.kind, .int .i64 y14.c.v.p, .int .i64 y14.c.v.q, .string y14.c.v.str, .int .i64 y14.c.v.ref, .int .i64 y14.c.obj])]) (fun (g33, g35) => blkA g35 #[.int .i64 0, .int .i64 0, .int .i64 0, .string ByteArray.empty, .int .i64 0] 26 :: blkA g33 #[.int .i64 0, .int .i64 0, .int .i64 0, .string ByteArray.empty, .int .i64 0] 26 :: own VlT lx ((mst l i).2) :: blkA g4 #[pB hb2 0, pB hb3 0, lx] 35 :: rhA hb3 ((mst l i).1) :: hpA hb2 ((mst l i).1) :: blkA g1 #[.pointer none, .pointer none, (.slice none 0 0)] 35 :: F) ?_ (fun hj129 => ?_)
   ·
    rintro ⟨g33, g35⟩
    try dsimp only
    refine h_stepS2 20 21 ?_ ?_
    ·
     refine s_call [2] (of_s (L := (mst l i).2) (by (try simp only [lnm]); omega) y14.c) ?_
     rintro _ _ ⟨rfl, rfl⟩
     refine s_nil (xs_held [0, 2, 4] ?_)
     exact h_use hj113 (g33, g35) (fun _ h => h.re [1, 1, 0, 0, 0, 0, 0] [])
    ·
     refine s_alloc (.agg #[.int .i64 0, .int .i64 0, .int .i64 0, .string ByteArray.empty, .int .i64 0]) #[.int .i64 0, .int .i64 0, .int .i64 0, .string ByteArray.empty, .int .i64 0] (fun g130 => ?_)
     refine s_nil (xs_held [3, 3, 5] ?_)
     exact h_use hj115 (g130, g33, g35) (fun _ h => h.re [1, 1, 0, 0, 0, 0, 0, 0] [])
   refine h_join (ι := Nat × Nat × Nat) 5 #[true, true, true, true, true, true, true, true, true, true, true, true, true, false, true, true, true, true, true, true, false, true, true, true, false, false, false] (fun (g40, g41, g42) => [(0, lv), (2, pB g1 0), (4, pB g4 0), (5, .int .i64 (i : Int)), (6, pB g40 0), (7, pB g41 0), (8, pB g42 0), (36, .agg #[.int .i64 ((ofS ((mst l i).2) y14.a).kind), .int .i64 ((ofS ((mst l i).2) y14.a).p), .int .i64 ((ofS ((mst l i).2) y14.a).q), .string ((ofS ((mst l i).2) y14.a).str), .int .i64 ((ofS ((mst l i).2) y14.a).ref)]), (37, .agg #[pB hb2 0, pB hb3 0, lx]), (42, .agg #[.int .i64 y14.b.v.kind, .int .i64 y14.b.v.p, .int .i64 y14.b.v.q, .string y14.b.v.str, .int .i64 y14.b.v.ref, .int .i64 y14.b.obj]), (44, .agg #[pB hb2 0, pB hb3 0, lx]), (49, .agg #[.int .i64 y14.c.v.kind, .int .i64 y14.c.v.p, .int .i64 y14.c.v.q, .string y14.c.v.str, .int .i64 y14.c.v.ref, .int .i64 y14.c.obj])]) (fun (g40, g41, g42) => blkA g42 #[.int .i64 0, .int .i64 0, .int .i64 0, .string ByteArray.empty, .int .i64 0] 26 :: blkA g41 #[.int .i64 0, .int .i64 0, .int .i64 0, .string ByteArray.empty, .int .i64 0] 26 :: blkA g40 #[.int .i64 0, .int .i64 0, .int .i64 0, .string ByteArray.empty, .int .i64 0] 26 :: own VlT lx ((mst l i).2) :: blkA g4 #[pB hb2 0, pB hb3 0, lx] 35 :: rhA hb3 ((mst l i).1) :: hpA hb2 ((mst l i).1) :: blkA g1 #[.pointer none, .pointer none, (.slice none 0 0)] 35 :: F) ?_ (fun hj131 => ?_)
   ·
    rintro ⟨g40, g41, g42⟩
    try dsimp only
    refine h_stepS 13 ?_
    refine s_call [3] (of_s (L := (mst l i).2) (by (try simp only [lnm]); omega) y14.b) ?_
    rintro _ _ ⟨rfl, rfl⟩
    refine s_nil (xs_held [0, 3, 5] ?_)
    exact h_use hj115 (g40, g41, g42) (fun _ h => h.re [1, 1, 1, 0, 0, 0, 0, 0] [])
   refine h_join (ι := Nat) 6 #[true, true, true, true, true, true, true, true, true, true, true, true, true, true, true, true, true, true, true, true, false, true, false, false, false, false, false] (fun g28 => [(0, lv), (2, pB g1 0), (4, pB g4 0), (5, .int .i64 (i : Int)), (6, pB g28 0), (36, .agg #[.int .i64 ((ofS ((mst l i).2) y14.a).kind), .int .i64 ((ofS ((mst l i).2) y14.a).p), .int .i64 ((ofS ((mst l i).2) y14.a).q), .string ((ofS ((mst l i).2) y14.a).str), .int .i64 ((ofS ((mst l i).2) y14.a).ref)]), (43, .agg #[.int .i64 ((ofS ((mst l i).2) y14.b).kind), .int .i64 ((ofS ((mst l i).2) y14.b).p), .int .i64 ((ofS ((mst l i).2) y14.b).q), .string ((ofS ((mst l i).2) y14.b).str), .int .i64 ((ofS ((mst l i).2) y14.b).ref)]), (44, .agg #[pB hb2 0, pB hb3 0, lx]), (49, .agg #[.int .i64 y14.c.v.kind, .int .i64 y14.c.v.p, .int .i64 y14.c.v.q, .string y14.c.v.str, .int .i64 y14.c.v.ref, .int .i64 y14.c.obj])]) (fun g28 => blkA g28 #[.int .i64 0, .int .i64 0, .int .i64 0, .string ByteArray.empty, .int .i64 0] 26 :: own VlT lx ((mst l i).2) :: blkA g4 #[pB hb2 0, pB hb3 0, lx] 35 :: rhA hb3 ((mst l i).1) :: hpA hb2 ((mst l i).1) :: blkA g1 #[.pointer none, .pointer none, (.slice none 0 0)] 35 :: F) ?_ (fun hj132 => ?_)
   ·
    rintro g28
    try dsimp only
    refine h_stepS3 20 22 23 ?_ ?_ ?_
    ·
     refine s_call [1] (of_s (L := (mst l i).2) (by (try simp only [lnm]); omega) y14.c) ?_
     rintro _ _ ⟨rfl, rfl⟩
     refine s_nil (xs_held [0, 1, 3] ?_)
     exact h_use hj116 g28 (fun _ h => h.re [1, 0, 0, 0, 0, 0] [])
    ·
     refine s_alloc (.agg #[.int .i64 0, .int .i64 0, .int .i64 0, .string ByteArray.empty, .int .i64 0]) #[.int .i64 0, .int .i64 0, .int .i64 0, .string ByteArray.empty, .int .i64 0] (fun g133 => ?_)
     refine s_nil (xs_held [2, 2, 4] ?_)
     exact h_use hj125 (g28, g133) (fun _ h => h.re [0, 0, 0, 0, 0, 0, 0] [])
    ·
     refine s_alloc (.agg #[.int .i64 0, .int .i64 0, .int .i64 0, .string ByteArray.empty, .int .i64 0]) #[.int .i64 0, .int .i64 0, .int .i64 0, .string ByteArray.empty, .int .i64 0] (fun g134 => ?_)
     refine s_nil (xs_held [2, 2, 4] ?_)
     exact h_use hj127 (g28, g134) (fun _ h => h.re [0, 0, 0, 0, 0, 0, 0] [])
   refine h_join (ι := Nat) 6 #[true, true, true, true, true, true, true, true, true, true, true, true, true, true, true, true, true, true, true, true, false, false, true, false, false, false, false] (fun g33 => [(0, lv), (2, pB g1 0), (4, pB g4 0), (5, .int .i64 (i : Int)), (7, pB g33 0), (36, .agg #[.int .i64 ((ofS ((mst l i).2) y14.a).kind), .int .i64 ((ofS ((mst l i).2) y14.a).p), .int .i64 ((ofS ((mst l i).2) y14.a).q), .string ((ofS ((mst l i).2) y14.a).str), .int .i64 ((ofS ((mst l i).2) y14.a).ref)]), (43, .agg #[.int .i64 ((ofS ((mst l i).2) y14.b).kind), .int .i64 ((ofS ((mst l i).2) y14.b).p), .int .i64 ((ofS ((mst l i).2) y14.b).q), .string ((ofS ((mst l i).2) y14.b).str), .int .i64 ((ofS ((mst l i).2) y14.b).ref)]), (44, .agg #[pB hb2 0, pB hb3 0, lx]), (49, .agg #[.int .i64 y14.c.v.kind, .int .i64 y14.c.v.p, .int .i64 y14.c.v.q, .string y14.c.v.str, .int .i64 y14.c.v.ref, .int .i64 y14.c.obj])]) (fun g33 => blkA g33 #[.int .i64 0, .int .i64 0, .int .i64 0, .string ByteArray.empty, .int .i64 0] 26 :: own VlT lx ((mst l i).2) :: blkA g4 #[pB hb2 0, pB hb3 0, lx] 35 :: rhA hb3 ((mst l i).1) :: hpA hb2 ((mst l i).1) :: blkA g1 #[.pointer none, .pointer none, (.slice none 0 0)] 35 :: F) ?_ (fun hj135 => ?_)
   ·
    rintro g33
    try dsimp only
    refine h_stepS3 20 21 23 ?_ ?_ ?_
    ·
     refine s_call [1] (of_s (L := (mst l i).2) (by (try simp only [lnm]); omega) y14.c) ?_
     rintro _ _ ⟨rfl, rfl⟩
     refine s_nil (xs_held [0, 1, 3] ?_)
     exact h_use hj119 g33 (fun _ h => h.re [1, 0, 0, 0, 0, 0] [])
    ·
     refine s_alloc (.agg #[.int .i64 0, .int .i64 0, .int .i64 0, .string ByteArray.empty, .int .i64 0]) #[.int .i64 0, .int .i64 0, .int .i64 0, .string ByteArray.empty, .int .i64 0] (fun g136 => ?_)
     refine s_nil (xs_held [2, 2, 4] ?_)
     exact h_use hj125 (g136, g33) (fun _ h => h.re [1, 0, 0, 0, 0, 0, 0] [])
    ·
     refine s_alloc (.agg #[.int .i64 0, .int .i64 0, .int .i64 0, .string ByteArray.empty, .int .i64 0]) #[.int .i64 0, .int .i64 0, .int .i64 0, .string ByteArray.empty, .int .i64 0] (fun g137 => ?_)
     refine s_nil (xs_held [2, 2, 4] ?_)
     exact h_use hj129 (g33, g137) (fun _ h => h.re [0, 0, 0, 0, 0, 0, 0] [])
   refine h_join (ι := Nat) 6 #[true, true, true, true, true, true, true, true, true, true, true, true, true, true, true, true, true, true, true, true, false, false, false, true, false, false, false] (fun g37 => [(0, lv), (2, pB g1 0), (4, pB g4 0), (5, .int .i64 (i : Int)), (8, pB g37 0), (36, .agg #[.int .i64 ((ofS ((mst l i).2) y14.a).kind), .int .i64 ((ofS ((mst l i).2) y14.a).p), .int .i64 ((ofS ((mst l i).2) y14.a).q), .string ((ofS ((mst l i).2) y14.a).str), .int .i64 ((ofS ((mst l i).2) y14.a).ref)]), (43, .agg #[.int .i64 ((ofS ((mst l i).2) y14.b).kind), .int .i64 ((ofS ((mst l i).2) y14.b).p), .int .i64 ((ofS ((mst l i).2) y14.b).q), .string ((ofS ((mst l i).2) y14.b).str), .int .i64 ((ofS ((mst l i).2) y14.b).ref)]), (44, .agg #[pB hb2 0, pB hb3 0, lx]), (49, .agg #[.int .i64 y14.c.v.kind, .int .i64 y14.c.v.p, .int .i64 y14.c.v.q, .string y14.c.v.str, .int .i64 y14.c.v.ref, .int .i64 y14.c.obj])]) (fun g37 => blkA g37 #[.int .i64 0, .int .i64 0, .int .i64 0, .string ByteArray.empty, .int .i64 0] 26 :: own VlT lx ((mst l i).2) :: blkA g4 #[pB hb2 0, pB hb3 0, lx] 35 :: rhA hb3 ((mst l i).1) :: hpA hb2 ((mst l i).1) :: blkA g1 #[.pointer none, .pointer none, (.slice none 0 0)] 35 :: F) ?_ (fun hj138 => ?_)
   ·
    rintro g37
    try dsimp only
    refine h_stepS3 20 21 22 ?_ ?_ ?_
    ·
     refine s_call [1] (of_s (L := (mst l i).2) (by (try simp only [lnm]); omega) y14.c) ?_
     rintro _ _ ⟨rfl, rfl⟩
     refine s_nil (xs_held [0, 1, 3] ?_)
     exact h_use hj122 g37 (fun _ h => h.re [1, 0, 0, 0, 0, 0] [])
    ·
     refine s_alloc (.agg #[.int .i64 0, .int .i64 0, .int .i64 0, .string ByteArray.empty, .int .i64 0]) #[.int .i64 0, .int .i64 0, .int .i64 0, .string ByteArray.empty, .int .i64 0] (fun g139 => ?_)
     refine s_nil (xs_held [2, 2, 4] ?_)
     exact h_use hj127 (g139, g37) (fun _ h => h.re [1, 0, 0, 0, 0, 0, 0] [])
    ·
     refine s_alloc (.agg #[.int .i64 0, .int .i64 0, .int .i64 0, .string ByteArray.empty, .int .i64 0]) #[.int .i64 0, .int .i64 0, .int .i64 0, .string ByteArray.empty, .int .i64 0] (fun g140 => ?_)
     refine s_nil (xs_held [2, 2, 4] ?_)
     exact h_use hj129 (g140, g37) (fun _ h => h.re [1, 0, 0, 0, 0, 0, 0] [])
   refine h_join (ι := Nat × Nat) 6 #[true, true, true, true, true, true, true, true, true, true, true, true, true, false, true, true, true, true, true, true, false, true, true, false, false, false, false] (fun (g40, g41) => [(0, lv), (2, pB g1 0), (4, pB g4 0), (5, .int .i64 (i : Int)), (6, pB g40 0), (7, pB g41 0), (36, .agg #[.int .i64 ((ofS ((mst l i).2) y14.a).kind), .int .i64 ((ofS ((mst l i).2) y14.a).p), .int .i64 ((ofS ((mst l i).2) y14.a).q), .string ((ofS ((mst l i).2) y14.a).str), .int .i64 ((ofS ((mst l i).2) y14.a).ref)]), (37, .agg #[pB hb2 0, pB hb3 0, lx]), (42, .agg #[.int .i64 y14.b.v.kind, .int .i64 y14.b.v.p, .int .i64 y14.b.v.q, .string y14.b.v.str, .int .i64 y14.b.v.ref, .int .i64 y14.b.obj]), (44, .agg #[pB hb2 0, pB hb3 0, lx]), (49, .agg #[.int .i64 y14.c.v.kind, .int .i64 y14.c.v.p, .int .i64 y14.c.v.q, .string y14.c.v.str, .int .i64 y14.c.v.ref, .int .i64 y14.c.obj])]) (fun (g40, g41) => blkA g41 #[.int .i64 0, .int .i64 0, .int .i64 0, .string ByteArray.empty, .int .i64 0] 26 :: blkA g40 #[.int .i64 0, .int .i64 0, .int .i64 0, .string ByteArray.empty, .int .i64 0] 26 :: own VlT lx ((mst l i).2) :: blkA g4 #[pB hb2 0, pB hb3 0, lx] 35 :: rhA hb3 ((mst l i).1) :: hpA hb2 ((mst l i).1) :: blkA g1 #[.pointer none, .pointer none, (.slice none 0 0)] 35 :: F) ?_ (fun hj141 => ?_)
   ·
    rintro ⟨g40, g41⟩
    try dsimp only
    refine h_stepS2 13 23 ?_ ?_
    ·
     refine s_call [2] (of_s (L := (mst l i).2) (by (try simp only [lnm]); omega) y14.b) ?_
     rintro _ _ ⟨rfl, rfl⟩
     refine s_nil (xs_held [0, 2, 4] ?_)
     exact h_use hj125 (g40, g41) (fun _ h => h.re [1, 1, 0, 0, 0, 0, 0] [])
    ·
     refine s_alloc (.agg #[.int .i64 0, .int .i64 0, .int .i64 0, .string ByteArray.empty, .int .i64 0]) #[.int .i64 0, .int .i64 0, .int .i64 0, .string ByteArray.empty, .int .i64 0] (fun g142 => ?_)
     refine s_nil (xs_held [3, 3, 5] ?_)
     exact h_use hj131 (g40, g41, g142) (fun _ h => h.re [0, 0, 0, 0, 0, 0, 0, 0] [])
   refine h_join (ι := Nat × Nat) 6 #[true, true, true, true, true, true, true, true, true, true, true, true, true, false, true, true, true, true, true, true, false, true, false, true, false, false, false] (fun (g40, g43) => [(0, lv), (2, pB g1 0), (4, pB g4 0), (5, .int .i64 (i : Int)), (6, pB g40 0), (8, pB g43 0), (36, .agg #[.int .i64 ((ofS ((mst l i).2) y14.a).kind), .int .i64 ((ofS ((mst l i).2) y14.a).p), .int .i64 ((ofS ((mst l i).2) y14.a).q), .string ((ofS ((mst l i).2) y14.a).str), .int .i64 ((ofS ((mst l i).2) y14.a).ref)]), (37, .agg #[pB hb2 0, pB hb3 0, lx]), (42, .agg #[.int .i64 y14.b.v.kind, .int .i64 y14.b.v.p, .int .i64 y14.b.v.q, .string y14.b.v.str, .int .i64 y14.b.v.ref, .int .i64 y14.b.obj]), (44, .agg #[pB hb2 0, pB hb3 0, lx]), (49, .agg #[.int .i64 y14.c.v.kind, .int .i64 y14.c.v.p, .int .i64 y14.c.v.q, .string y14.c.v.str, .int .i64 y14.c.v.ref, .int .i64 y14.c.obj])]) (fun (g40, g43) => blkA g43 #[.int .i64 0, .int .i64 0, .int .i64 0, .string ByteArray.empty, .int .i64 0] 26 :: blkA g40 #[.int .i64 0, .int .i64 0, .int .i64 0, .string ByteArray.empty, .int .i64 0] 26 :: own VlT lx ((mst l i).2) :: blkA g4 #[pB hb2 0, pB hb3 0, lx] 35 :: rhA hb3 ((mst l i).1) :: hpA hb2 ((mst l i).1) :: blkA g1 #[.pointer none, .pointer none, (.slice none 0 0)] 35 :: F) ?_ (fun hj143 => ?_)
   ·
    rintro ⟨g40, g43⟩
    try dsimp only
    refine h_stepS2 13 22 ?_ ?_
    ·
     refine s_call [2] (of_s (L := (mst l i).2) (by (try simp only [lnm]); omega) y14.b) ?_
     rintro _ _ ⟨rfl, rfl⟩
     refine s_nil (xs_held [0, 2, 4] ?_)
     exact h_use hj127 (g40, g43) (fun _ h => h.re [1, 1, 0, 0, 0, 0, 0] [])
    ·
     refine s_alloc (.agg #[.int .i64 0, .int .i64 0, .int .i64 0, .string ByteArray.empty, .int .i64 0]) #[.int .i64 0, .int .i64 0, .int .i64 0, .string ByteArray.empty, .int .i64 0] (fun g144 => ?_)
     refine s_nil (xs_held [3, 3, 5] ?_)
     exact h_use hj131 (g40, g144, g43) (fun _ h => h.re [1, 0, 0, 0, 0, 0, 0, 0] [])
   refine h_join (ι := Nat × Nat) 6 #[true, true, true, true, true, true, true, true, true, true, true, true, true, false, true, true, true, true, true, true, false, false, true, true, false, false, false] (fun (g45, g47) => [(0, lv), (2, pB g1 0), (4, pB g4 0), (5, .int .i64 (i : Int)), (7, pB g45 0), (8, pB g47 0), (36, .agg #[.int .i64 ((ofS ((mst l i).2) y14.a).kind), .int .i64 ((ofS ((mst l i).2) y14.a).p), .int .i64 ((ofS ((mst l i).2) y14.a).q), .string ((ofS ((mst l i).2) y14.a).str), .int .i64 ((ofS ((mst l i).2) y14.a).ref)]), (37, .agg #[pB hb2 0, pB hb3 0, lx]), (42, .agg #[.int .i64 y14.b.v.kind, .int .i64 y14.b.v.p, .int .i64 y14.b.v.q, .string y14.b.v.str, .int .i64 y14.b.v.ref, .int .i64 y14.b.obj]), (44, .agg #[pB hb2 0, pB hb3 0, lx]), (49, .agg #[.int .i64 y14.c.v.kind, .int .i64 y14.c.v.p, .int .i64 y14.c.v.q, .string y14.c.v.str, .int .i64 y14.c.v.ref, .int .i64 y14.c.obj])]) (fun (g45, g47) => blkA g47 #[.int .i64 0, .int .i64 0, .int .i64 0, .string ByteArray.empty, .int .i64 0] 26 :: blkA g45 #[.int .i64 0, .int .i64 0, .int .i64 0, .string ByteArray.empty, .int .i64 0] 26 :: own VlT lx ((mst l i).2) :: blkA g4 #[pB hb2 0, pB hb3 0, lx] 35 :: rhA hb3 ((mst l i).1) :: hpA hb2 ((mst l i).1) :: blkA g1 #[.pointer none, .pointer none, (.slice none 0 0)] 35 :: F) ?_ (fun hj145 => ?_)
   ·
    rintro ⟨g45, g47⟩
    try dsimp only
    refine h_stepS2 13 21 ?_ ?_
    ·
     refine s_call [2] (of_s (L := (mst l i).2) (by (try simp only [lnm]); omega) y14.b) ?_
     rintro _ _ ⟨rfl, rfl⟩
     refine s_nil (xs_held [0, 2, 4] ?_)
     exact h_use hj129 (g45, g47) (fun _ h => h.re [1, 1, 0, 0, 0, 0, 0] [])
    ·
     refine s_alloc (.agg #[.int .i64 0, .int .i64 0, .int .i64 0, .string ByteArray.empty, .int .i64 0]) #[.int .i64 0, .int .i64 0, .int .i64 0, .string ByteArray.empty, .int .i64 0] (fun g146 => ?_)
     refine s_nil (xs_held [3, 3, 5] ?_)
     exact h_use hj131 (g146, g45, g47) (fun _ h => h.re [1, 1, 0, 0, 0, 0, 0, 0] [])
   refine h_join (ι := Nat × Nat × Nat) 6 #[true, true, true, true, true, true, false, true, true, true, true, true, true, false, true, true, true, true, true, true, false, true, true, true, false, false, false] (fun (g52, g53, g54) => [(0, lv), (2, pB g1 0), (4, pB g4 0), (5, .int .i64 (i : Int)), (6, pB g52 0), (7, pB g53 0), (8, pB g54 0), (30, .agg #[pB hb2 0, pB hb3 0, lx]), (35, .agg #[.int .i64 y14.a.v.kind, .int .i64 y14.a.v.p, .int .i64 y14.a.v.q, .string y14.a.v.str, .int .i64 y14.a.v.ref, .int .i64 y14.a.obj]), (37, .agg #[pB hb2 0, pB hb3 0, lx]), (42, .agg #[.int .i64 y14.b.v.kind, .int .i64 y14.b.v.p, .int .i64 y14.b.v.q, .string y14.b.v.str, .int .i64 y14.b.v.ref, .int .i64 y14.b.obj]), (44, .agg #[pB hb2 0, pB hb3 0, lx]), (49, .agg #[.int .i64 y14.c.v.kind, .int .i64 y14.c.v.p, .int .i64 y14.c.v.q, .string y14.c.v.str, .int .i64 y14.c.v.ref, .int .i64 y14.c.obj])]) (fun (g52, g53, g54) => blkA g54 #[.int .i64 0, .int .i64 0, .int .i64 0, .string ByteArray.empty, .int .i64 0] 26 :: blkA g53 #[.int .i64 0, .int .i64 0, .int .i64 0, .string ByteArray.empty, .int .i64 0] 26 :: blkA g52 #[.int .i64 0, .int .i64 0, .int .i64 0, .string ByteArray.empty, .int .i64 0] 26 :: own VlT lx ((mst l i).2) :: blkA g4 #[pB hb2 0, pB hb3 0, lx] 35 :: rhA hb3 ((mst l i).1) :: hpA hb2 ((mst l i).1) :: blkA g1 #[.pointer none, .pointer none, (.slice none 0 0)] 35 :: F) ?_ (fun hj147 => ?_)
   ·
    rintro ⟨g52, g53, g54⟩
    try dsimp only
    refine h_stepS 6 ?_
    refine s_call [3] (of_s (L := (mst l i).2) (by (try simp only [lnm]); omega) y14.a) ?_
    rintro _ _ ⟨rfl, rfl⟩
    refine s_nil (xs_held [0, 3, 5] ?_)
    exact h_use hj131 (g52, g53, g54) (fun _ h => h.re [1, 1, 1, 0, 0, 0, 0, 0] [])
   refine h_join (ι := Nat) 7 #[true, true, true, true, true, true, true, true, true, true, true, true, true, false, true, true, true, true, true, true, false, true, false, false, false, false, false] (fun g40 => [(0, lv), (2, pB g1 0), (4, pB g4 0), (5, .int .i64 (i : Int)), (6, pB g40 0), (36, .agg #[.int .i64 ((ofS ((mst l i).2) y14.a).kind), .int .i64 ((ofS ((mst l i).2) y14.a).p), .int .i64 ((ofS ((mst l i).2) y14.a).q), .string ((ofS ((mst l i).2) y14.a).str), .int .i64 ((ofS ((mst l i).2) y14.a).ref)]), (37, .agg #[pB hb2 0, pB hb3 0, lx]), (42, .agg #[.int .i64 y14.b.v.kind, .int .i64 y14.b.v.p, .int .i64 y14.b.v.q, .string y14.b.v.str, .int .i64 y14.b.v.ref, .int .i64 y14.b.obj]), (44, .agg #[pB hb2 0, pB hb3 0, lx]), (49, .agg #[.int .i64 y14.c.v.kind, .int .i64 y14.c.v.p, .int .i64 y14.c.v.q, .string y14.c.v.str, .int .i64 y14.c.v.ref, .int .i64 y14.c.obj])]) (fun g40 => blkA g40 #[.int .i64 0, .int .i64 0, .int .i64 0, .string ByteArray.empty, .int .i64 0] 26 :: own VlT lx ((mst l i).2) :: blkA g4 #[pB hb2 0, pB hb3 0, lx] 35 :: rhA hb3 ((mst l i).1) :: hpA hb2 ((mst l i).1) :: blkA g1 #[.pointer none, .pointer none, (.slice none 0 0)] 35 :: F) ?_ (fun hj148 => ?_)
   ·
    rintro g40
    try dsimp only
    refine h_stepS3 13 22 23 ?_ ?_ ?_
    ·
     refine s_call [1] (of_s (L := (mst l i).2) (by (try simp only [lnm]); omega) y14.b) ?_
     rintro _ _ ⟨rfl, rfl⟩
     refine s_nil (xs_held [0, 1, 3] ?_)
     exact h_use hj132 g40 (fun _ h => h.re [1, 0, 0, 0, 0, 0] [])
    ·
     refine s_alloc (.agg #[.int .i64 0, .int .i64 0, .int .i64 0, .string ByteArray.empty, .int .i64 0]) #[.int .i64 0, .int .i64 0, .int .i64 0, .string ByteArray.empty, .int .i64 0] (fun g149 => ?_)
     refine s_nil (xs_held [2, 2, 4] ?_)
     exact h_use hj141 (g40, g149) (fun _ h => h.re [0, 0, 0, 0, 0, 0, 0] [])
    ·
     refine s_alloc (.agg #[.int .i64 0, .int .i64 0, .int .i64 0, .string ByteArray.empty, .int .i64 0]) #[.int .i64 0, .int .i64 0, .int .i64 0, .string ByteArray.empty, .int .i64 0] (fun g150 => ?_)
     refine s_nil (xs_held [2, 2, 4] ?_)
     exact h_use hj143 (g40, g150) (fun _ h => h.re [0, 0, 0, 0, 0, 0, 0] [])
   refine h_join (ι := Nat) 7 #[true, true, true, true, true, true, true, true, true, true, true, true, true, false, true, true, true, true, true, true, false, false, true, false, false, false, false] (fun g45 => [(0, lv), (2, pB g1 0), (4, pB g4 0), (5, .int .i64 (i : Int)), (7, pB g45 0), (36, .agg #[.int .i64 ((ofS ((mst l i).2) y14.a).kind), .int .i64 ((ofS ((mst l i).2) y14.a).p), .int .i64 ((ofS ((mst l i).2) y14.a).q), .string ((ofS ((mst l i).2) y14.a).str), .int .i64 ((ofS ((mst l i).2) y14.a).ref)]), (37, .agg #[pB hb2 0, pB hb3 0, lx]), (42, .agg #[.int .i64 y14.b.v.kind, .int .i64 y14.b.v.p, .int .i64 y14.b.v.q, .string y14.b.v.str, .int .i64 y14.b.v.ref, .int .i64 y14.b.obj]), (44, .agg #[pB hb2 0, pB hb3 0, lx]), (49, .agg #[.int .i64 y14.c.v.kind, .int .i64 y14.c.v.p, .int .i64 y14.c.v.q, .string y14.c.v.str, .int .i64 y14.c.v.ref, .int .i64 y14.c.obj])]) (fun g45 => blkA g45 #[.int .i64 0, .int .i64 0, .int .i64 0, .string ByteArray.empty, .int .i64 0] 26 :: own VlT lx ((mst l i).2) :: blkA g4 #[pB hb2 0, pB hb3 0, lx] 35 :: rhA hb3 ((mst l i).1) :: hpA hb2 ((mst l i).1) :: blkA g1 #[.pointer none, .pointer none, (.slice none 0 0)] 35 :: F) ?_ (fun hj151 => ?_)
   ·
    rintro g45
    try dsimp only
    refine h_stepS3 13 21 23 ?_ ?_ ?_
    ·
     refine s_call [1] (of_s (L := (mst l i).2) (by (try simp only [lnm]); omega) y14.b) ?_
     rintro _ _ ⟨rfl, rfl⟩
     refine s_nil (xs_held [0, 1, 3] ?_)
     exact h_use hj135 g45 (fun _ h => h.re [1, 0, 0, 0, 0, 0] [])
    ·
     refine s_alloc (.agg #[.int .i64 0, .int .i64 0, .int .i64 0, .string ByteArray.empty, .int .i64 0]) #[.int .i64 0, .int .i64 0, .int .i64 0, .string ByteArray.empty, .int .i64 0] (fun g152 => ?_)
     refine s_nil (xs_held [2, 2, 4] ?_)
     exact h_use hj141 (g152, g45) (fun _ h => h.re [1, 0, 0, 0, 0, 0, 0] [])
    ·
     refine s_alloc (.agg #[.int .i64 0, .int .i64 0, .int .i64 0, .string ByteArray.empty, .int .i64 0]) #[.int .i64 0, .int .i64 0, .int .i64 0, .string ByteArray.empty, .int .i64 0] (fun g153 => ?_)
     refine s_nil (xs_held [2, 2, 4] ?_)
     exact h_use hj145 (g45, g153) (fun _ h => h.re [0, 0, 0, 0, 0, 0, 0] [])
   refine h_join (ι := Nat) 7 #[true, true, true, true, true, true, true, true, true, true, true, true, true, false, true, true, true, true, true, true, false, false, false, true, false, false, false] (fun g49 => [(0, lv), (2, pB g1 0), (4, pB g4 0), (5, .int .i64 (i : Int)), (8, pB g49 0), (36, .agg #[.int .i64 ((ofS ((mst l i).2) y14.a).kind), .int .i64 ((ofS ((mst l i).2) y14.a).p), .int .i64 ((ofS ((mst l i).2) y14.a).q), .string ((ofS ((mst l i).2) y14.a).str), .int .i64 ((ofS ((mst l i).2) y14.a).ref)]), (37, .agg #[pB hb2 0, pB hb3 0, lx]), (42, .agg #[.int .i64 y14.b.v.kind, .int .i64 y14.b.v.p, .int .i64 y14.b.v.q, .string y14.b.v.str, .int .i64 y14.b.v.ref, .int .i64 y14.b.obj]), (44, .agg #[pB hb2 0, pB hb3 0, lx]), (49, .agg #[.int .i64 y14.c.v.kind, .int .i64 y14.c.v.p, .int .i64 y14.c.v.q, .string y14.c.v.str, .int .i64 y14.c.v.ref, .int .i64 y14.c.obj])]) (fun g49 => blkA g49 #[.int .i64 0, .int .i64 0, .int .i64 0, .string ByteArray.empty, .int .i64 0] 26 :: own VlT lx ((mst l i).2) :: blkA g4 #[pB hb2 0, pB hb3 0, lx] 35 :: rhA hb3 ((mst l i).1) :: hpA hb2 ((mst l i).1) :: blkA g1 #[.pointer none, .pointer none, (.slice none 0 0)] 35 :: F) ?_ (fun hj154 => ?_)
   ·
    rintro g49
    try dsimp only
    refine h_stepS3 13 21 22 ?_ ?_ ?_
    ·
     refine s_call [1] (of_s (L := (mst l i).2) (by (try simp only [lnm]); omega) y14.b) ?_
     rintro _ _ ⟨rfl, rfl⟩
     refine s_nil (xs_held [0, 1, 3] ?_)
     exact h_use hj138 g49 (fun _ h => h.re [1, 0, 0, 0, 0, 0] [])
    ·
     refine s_alloc (.agg #[.int .i64 0, .int .i64 0, .int .i64 0, .string ByteArray.empty, .int .i64 0]) #[.int .i64 0, .int .i64 0, .int .i64 0, .string ByteArray.empty, .int .i64 0] (fun g155 => ?_)
     refine s_nil (xs_held [2, 2, 4] ?_)
     exact h_use hj143 (g155, g49) (fun _ h => h.re [1, 0, 0, 0, 0, 0, 0] [])
    ·
     refine s_alloc (.agg #[.int .i64 0, .int .i64 0, .int .i64 0, .string ByteArray.empty, .int .i64 0]) #[.int .i64 0, .int .i64 0, .int .i64 0, .string ByteArray.empty, .int .i64 0] (fun g156 => ?_)
     refine s_nil (xs_held [2, 2, 4] ?_)
     exact h_use hj145 (g156, g49) (fun _ h => h.re [1, 0, 0, 0, 0, 0, 0] [])
   refine h_join (ι := Nat × Nat) 7 #[true, true, true, true, true, true, false, true, true, true, true, true, true, false, true, true, true, true, true, true, false, true, true, false, false, false, false] (fun (g52, g53) => [(0, lv), (2, pB g1 0), (4, pB g4 0), (5, .int .i64 (i : Int)), (6, pB g52 0), (7, pB g53 0), (30, .agg #[pB hb2 0, pB hb3 0, lx]), (35, .agg #[.int .i64 y14.a.v.kind, .int .i64 y14.a.v.p, .int .i64 y14.a.v.q, .string y14.a.v.str, .int .i64 y14.a.v.ref, .int .i64 y14.a.obj]), (37, .agg #[pB hb2 0, pB hb3 0, lx]), (42, .agg #[.int .i64 y14.b.v.kind, .int .i64 y14.b.v.p, .int .i64 y14.b.v.q, .string y14.b.v.str, .int .i64 y14.b.v.ref, .int .i64 y14.b.obj]), (44, .agg #[pB hb2 0, pB hb3 0, lx]), (49, .agg #[.int .i64 y14.c.v.kind, .int .i64 y14.c.v.p, .int .i64 y14.c.v.q, .string y14.c.v.str, .int .i64 y14.c.v.ref, .int .i64 y14.c.obj])]) (fun (g52, g53) => blkA g53 #[.int .i64 0, .int .i64 0, .int .i64 0, .string ByteArray.empty, .int .i64 0] 26 :: blkA g52 #[.int .i64 0, .int .i64 0, .int .i64 0, .string ByteArray.empty, .int .i64 0] 26 :: own VlT lx ((mst l i).2) :: blkA g4 #[pB hb2 0, pB hb3 0, lx] 35 :: rhA hb3 ((mst l i).1) :: hpA hb2 ((mst l i).1) :: blkA g1 #[.pointer none, .pointer none, (.slice none 0 0)] 35 :: F) ?_ (fun hj157 => ?_)
   ·
    rintro ⟨g52, g53⟩
    try dsimp only
    refine h_stepS2 6 23 ?_ ?_
    ·
     refine s_call [2] (of_s (L := (mst l i).2) (by (try simp only [lnm]); omega) y14.a) ?_
     rintro _ _ ⟨rfl, rfl⟩
     refine s_nil (xs_held [0, 2, 4] ?_)
     exact h_use hj141 (g52, g53) (fun _ h => h.re [1, 1, 0, 0, 0, 0, 0] [])
    ·
     refine s_alloc (.agg #[.int .i64 0, .int .i64 0, .int .i64 0, .string ByteArray.empty, .int .i64 0]) #[.int .i64 0, .int .i64 0, .int .i64 0, .string ByteArray.empty, .int .i64 0] (fun g158 => ?_)
     refine s_nil (xs_held [3, 3, 5] ?_)
     exact h_use hj147 (g52, g53, g158) (fun _ h => h.re [0, 0, 0, 0, 0, 0, 0, 0] [])
   refine h_join (ι := Nat × Nat) 7 #[true, true, true, true, true, true, false, true, true, true, true, true, true, false, true, true, true, true, true, true, false, true, false, true, false, false, false] (fun (g52, g55) => [(0, lv), (2, pB g1 0), (4, pB g4 0), (5, .int .i64 (i : Int)), (6, pB g52 0), (8, pB g55 0), (30, .agg #[pB hb2 0, pB hb3 0, lx]), (35, .agg #[.int .i64 y14.a.v.kind, .int .i64 y14.a.v.p, .int .i64 y14.a.v.q, .string y14.a.v.str, .int .i64 y14.a.v.ref, .int .i64 y14.a.obj]), (37, .agg #[pB hb2 0, pB hb3 0, lx]), (42, .agg #[.int .i64 y14.b.v.kind, .int .i64 y14.b.v.p, .int .i64 y14.b.v.q, .string y14.b.v.str, .int .i64 y14.b.v.ref, .int .i64 y14.b.obj]), (44, .agg #[pB hb2 0, pB hb3 0, lx]), (49, .agg #[.int .i64 y14.c.v.kind, .int .i64 y14.c.v.p, .int .i64 y14.c.v.q, .string y14.c.v.str, .int .i64 y14.c.v.ref, .int .i64 y14.c.obj])]) (fun (g52, g55) => blkA g55 #[.int .i64 0, .int .i64 0, .int .i64 0, .string ByteArray.empty, .int .i64 0] 26 :: blkA g52 #[.int .i64 0, .int .i64 0, .int .i64 0, .string ByteArray.empty, .int .i64 0] 26 :: own VlT lx ((mst l i).2) :: blkA g4 #[pB hb2 0, pB hb3 0, lx] 35 :: rhA hb3 ((mst l i).1) :: hpA hb2 ((mst l i).1) :: blkA g1 #[.pointer none, .pointer none, (.slice none 0 0)] 35 :: F) ?_ (fun hj159 => ?_)
   ·
    rintro ⟨g52, g55⟩
    try dsimp only
    refine h_stepS2 6 22 ?_ ?_
    ·
     refine s_call [2] (of_s (L := (mst l i).2) (by (try simp only [lnm]); omega) y14.a) ?_
     rintro _ _ ⟨rfl, rfl⟩
     refine s_nil (xs_held [0, 2, 4] ?_)
     exact h_use hj143 (g52, g55) (fun _ h => h.re [1, 1, 0, 0, 0, 0, 0] [])
    ·
     refine s_alloc (.agg #[.int .i64 0, .int .i64 0, .int .i64 0, .string ByteArray.empty, .int .i64 0]) #[.int .i64 0, .int .i64 0, .int .i64 0, .string ByteArray.empty, .int .i64 0] (fun g160 => ?_)
     refine s_nil (xs_held [3, 3, 5] ?_)
     exact h_use hj147 (g52, g160, g55) (fun _ h => h.re [1, 0, 0, 0, 0, 0, 0, 0] [])
   refine h_join (ι := Nat × Nat) 7 #[true, true, true, true, true, true, false, true, true, true, true, true, true, false, true, true, true, true, true, true, false, false, true, true, false, false, false] (fun (g57, g59) => [(0, lv), (2, pB g1 0), (4, pB g4 0), (5, .int .i64 (i : Int)), (7, pB g57 0), (8, pB g59 0), (30, .agg #[pB hb2 0, pB hb3 0, lx]), (35, .agg #[.int .i64 y14.a.v.kind, .int .i64 y14.a.v.p, .int .i64 y14.a.v.q, .string y14.a.v.str, .int .i64 y14.a.v.ref, .int .i64 y14.a.obj]), (37, .agg #[pB hb2 0, pB hb3 0, lx]), (42, .agg #[.int .i64 y14.b.v.kind, .int .i64 y14.b.v.p, .int .i64 y14.b.v.q, .string y14.b.v.str, .int .i64 y14.b.v.ref, .int .i64 y14.b.obj]), (44, .agg #[pB hb2 0, pB hb3 0, lx]), (49, .agg #[.int .i64 y14.c.v.kind, .int .i64 y14.c.v.p, .int .i64 y14.c.v.q, .string y14.c.v.str, .int .i64 y14.c.v.ref, .int .i64 y14.c.obj])]) (fun (g57, g59) => blkA g59 #[.int .i64 0, .int .i64 0, .int .i64 0, .string ByteArray.empty, .int .i64 0] 26 :: blkA g57 #[.int .i64 0, .int .i64 0, .int .i64 0, .string ByteArray.empty, .int .i64 0] 26 :: own VlT lx ((mst l i).2) :: blkA g4 #[pB hb2 0, pB hb3 0, lx] 35 :: rhA hb3 ((mst l i).1) :: hpA hb2 ((mst l i).1) :: blkA g1 #[.pointer none, .pointer none, (.slice none 0 0)] 35 :: F) ?_ (fun hj161 => ?_)
   ·
    rintro ⟨g57, g59⟩
    try dsimp only
    refine h_stepS2 6 21 ?_ ?_
    ·
     refine s_call [2] (of_s (L := (mst l i).2) (by (try simp only [lnm]); omega) y14.a) ?_
     rintro _ _ ⟨rfl, rfl⟩
     refine s_nil (xs_held [0, 2, 4] ?_)
     exact h_use hj145 (g57, g59) (fun _ h => h.re [1, 1, 0, 0, 0, 0, 0] [])
    ·
     refine s_alloc (.agg #[.int .i64 0, .int .i64 0, .int .i64 0, .string ByteArray.empty, .int .i64 0]) #[.int .i64 0, .int .i64 0, .int .i64 0, .string ByteArray.empty, .int .i64 0] (fun g162 => ?_)
     refine s_nil (xs_held [3, 3, 5] ?_)
     exact h_use hj147 (g162, g57, g59) (fun _ h => h.re [1, 1, 0, 0, 0, 0, 0, 0] [])
   refine h_stepS4 6 21 22 23 ?_ ?_ ?_ ?_
   ·
    refine s_call [0] (of_s (L := (mst l i).2) (by (try simp only [lnm]); omega) y14.a) ?_
    rintro _ _ ⟨rfl, rfl⟩
    refine s_nil (xs_held [0, 0, 2] ?_)
    refine h_stepS4 13 21 22 23 ?_ ?_ ?_ ?_
    ·
     refine s_call [0] (of_s (L := (mst l i).2) (by (try simp only [lnm]); omega) y14.b) ?_
     rintro _ _ ⟨rfl, rfl⟩
     refine s_nil (xs_held [0, 0, 2] ?_)
     refine h_stepS4 20 21 22 23 ?_ ?_ ?_ ?_
     ·
      refine s_call [0] (of_s (L := (mst l i).2) (by (try simp only [lnm]); omega) y14.c) ?_
      rintro _ _ ⟨rfl, rfl⟩
      refine s_nil (xs_held [0, 0, 2] ?_)
      refine h_stepS3 21 22 23 ?_ ?_ ?_
      ·
       refine s_alloc (.agg #[.int .i64 0, .int .i64 0, .int .i64 0, .string ByteArray.empty, .int .i64 0]) #[.int .i64 0, .int .i64 0, .int .i64 0, .string ByteArray.empty, .int .i64 0] (fun g163 => ?_)
       refine s_nil (xs_held [1, 1, 3] ?_)
       exact h_use hj116 g163 (fun _ h => h.re [0, 0, 0, 0, 0, 0] [])
      ·
       refine s_alloc (.agg #[.int .i64 0, .int .i64 0, .int .i64 0, .string ByteArray.empty, .int .i64 0]) #[.int .i64 0, .int .i64 0, .int .i64 0, .string ByteArray.empty, .int .i64 0] (fun g164 => ?_)
       refine s_nil (xs_held [1, 1, 3] ?_)
       exact h_use hj119 g164 (fun _ h => h.re [0, 0, 0, 0, 0, 0] [])
      ·
       refine s_alloc (.agg #[.int .i64 0, .int .i64 0, .int .i64 0, .string ByteArray.empty, .int .i64 0]) #[.int .i64 0, .int .i64 0, .int .i64 0, .string ByteArray.empty, .int .i64 0] (fun g165 => ?_)
       refine s_nil (xs_held [1, 1, 3] ?_)
       exact h_use hj122 g165 (fun _ h => h.re [0, 0, 0, 0, 0, 0] [])
     ·
      refine s_alloc (.agg #[.int .i64 0, .int .i64 0, .int .i64 0, .string ByteArray.empty, .int .i64 0]) #[.int .i64 0, .int .i64 0, .int .i64 0, .string ByteArray.empty, .int .i64 0] (fun g166 => ?_)
      refine s_nil (xs_held [1, 1, 3] ?_)
      exact h_use hj132 g166 (fun _ h => h.re [0, 0, 0, 0, 0, 0] [])
     ·
      refine s_alloc (.agg #[.int .i64 0, .int .i64 0, .int .i64 0, .string ByteArray.empty, .int .i64 0]) #[.int .i64 0, .int .i64 0, .int .i64 0, .string ByteArray.empty, .int .i64 0] (fun g167 => ?_)
      refine s_nil (xs_held [1, 1, 3] ?_)
      exact h_use hj135 g167 (fun _ h => h.re [0, 0, 0, 0, 0, 0] [])
     ·
      refine s_alloc (.agg #[.int .i64 0, .int .i64 0, .int .i64 0, .string ByteArray.empty, .int .i64 0]) #[.int .i64 0, .int .i64 0, .int .i64 0, .string ByteArray.empty, .int .i64 0] (fun g168 => ?_)
      refine s_nil (xs_held [1, 1, 3] ?_)
      exact h_use hj138 g168 (fun _ h => h.re [0, 0, 0, 0, 0, 0] [])
    ·
     refine s_alloc (.agg #[.int .i64 0, .int .i64 0, .int .i64 0, .string ByteArray.empty, .int .i64 0]) #[.int .i64 0, .int .i64 0, .int .i64 0, .string ByteArray.empty, .int .i64 0] (fun g169 => ?_)
     refine s_nil (xs_held [1, 1, 3] ?_)
     exact h_use hj148 g169 (fun _ h => h.re [0, 0, 0, 0, 0, 0] [])
    ·
     refine s_alloc (.agg #[.int .i64 0, .int .i64 0, .int .i64 0, .string ByteArray.empty, .int .i64 0]) #[.int .i64 0, .int .i64 0, .int .i64 0, .string ByteArray.empty, .int .i64 0] (fun g170 => ?_)
     refine s_nil (xs_held [1, 1, 3] ?_)
     exact h_use hj151 g170 (fun _ h => h.re [0, 0, 0, 0, 0, 0] [])
    ·
     refine s_alloc (.agg #[.int .i64 0, .int .i64 0, .int .i64 0, .string ByteArray.empty, .int .i64 0]) #[.int .i64 0, .int .i64 0, .int .i64 0, .string ByteArray.empty, .int .i64 0] (fun g171 => ?_)
     refine s_nil (xs_held [1, 1, 3] ?_)
     exact h_use hj154 g171 (fun _ h => h.re [0, 0, 0, 0, 0, 0] [])
   ·
    refine s_alloc (.agg #[.int .i64 0, .int .i64 0, .int .i64 0, .string ByteArray.empty, .int .i64 0]) #[.int .i64 0, .int .i64 0, .int .i64 0, .string ByteArray.empty, .int .i64 0] (fun g172 => ?_)
    refine s_nil (xs_held [1, 1, 3] ?_)
    refine h_stepS3 6 22 23 ?_ ?_ ?_
    ·
     refine s_call [1] (of_s (L := (mst l i).2) (by (try simp only [lnm]); omega) y14.a) ?_
     rintro _ _ ⟨rfl, rfl⟩
     refine s_nil (xs_held [0, 1, 3] ?_)
     exact h_use hj148 g172 (fun _ h => h.re [1, 0, 0, 0, 0, 0] [])
    ·
     refine s_alloc (.agg #[.int .i64 0, .int .i64 0, .int .i64 0, .string ByteArray.empty, .int .i64 0]) #[.int .i64 0, .int .i64 0, .int .i64 0, .string ByteArray.empty, .int .i64 0] (fun g173 => ?_)
     refine s_nil (xs_held [2, 2, 4] ?_)
     exact h_use hj157 (g172, g173) (fun _ h => h.re [0, 0, 0, 0, 0, 0, 0] [])
    ·
     refine s_alloc (.agg #[.int .i64 0, .int .i64 0, .int .i64 0, .string ByteArray.empty, .int .i64 0]) #[.int .i64 0, .int .i64 0, .int .i64 0, .string ByteArray.empty, .int .i64 0] (fun g174 => ?_)
     refine s_nil (xs_held [2, 2, 4] ?_)
     exact h_use hj159 (g172, g174) (fun _ h => h.re [0, 0, 0, 0, 0, 0, 0] [])
   ·
    refine s_alloc (.agg #[.int .i64 0, .int .i64 0, .int .i64 0, .string ByteArray.empty, .int .i64 0]) #[.int .i64 0, .int .i64 0, .int .i64 0, .string ByteArray.empty, .int .i64 0] (fun g175 => ?_)
    refine s_nil (xs_held [1, 1, 3] ?_)
    refine h_stepS3 6 21 23 ?_ ?_ ?_
    ·
     refine s_call [1] (of_s (L := (mst l i).2) (by (try simp only [lnm]); omega) y14.a) ?_
     rintro _ _ ⟨rfl, rfl⟩
     refine s_nil (xs_held [0, 1, 3] ?_)
     exact h_use hj151 g175 (fun _ h => h.re [1, 0, 0, 0, 0, 0] [])
    ·
     refine s_alloc (.agg #[.int .i64 0, .int .i64 0, .int .i64 0, .string ByteArray.empty, .int .i64 0]) #[.int .i64 0, .int .i64 0, .int .i64 0, .string ByteArray.empty, .int .i64 0] (fun g176 => ?_)
     refine s_nil (xs_held [2, 2, 4] ?_)
     exact h_use hj157 (g176, g175) (fun _ h => h.re [1, 0, 0, 0, 0, 0, 0] [])
    ·
     refine s_alloc (.agg #[.int .i64 0, .int .i64 0, .int .i64 0, .string ByteArray.empty, .int .i64 0]) #[.int .i64 0, .int .i64 0, .int .i64 0, .string ByteArray.empty, .int .i64 0] (fun g177 => ?_)
     refine s_nil (xs_held [2, 2, 4] ?_)
     exact h_use hj161 (g175, g177) (fun _ h => h.re [0, 0, 0, 0, 0, 0, 0] [])
   ·
    refine s_alloc (.agg #[.int .i64 0, .int .i64 0, .int .i64 0, .string ByteArray.empty, .int .i64 0]) #[.int .i64 0, .int .i64 0, .int .i64 0, .string ByteArray.empty, .int .i64 0] (fun g178 => ?_)
    refine s_nil (xs_held [1, 1, 3] ?_)
    refine h_stepS3 6 21 22 ?_ ?_ ?_
    ·
     refine s_call [1] (of_s (L := (mst l i).2) (by (try simp only [lnm]); omega) y14.a) ?_
     rintro _ _ ⟨rfl, rfl⟩
     refine s_nil (xs_held [0, 1, 3] ?_)
     exact h_use hj154 g178 (fun _ h => h.re [1, 0, 0, 0, 0, 0] [])
    ·
     refine s_alloc (.agg #[.int .i64 0, .int .i64 0, .int .i64 0, .string ByteArray.empty, .int .i64 0]) #[.int .i64 0, .int .i64 0, .int .i64 0, .string ByteArray.empty, .int .i64 0] (fun g179 => ?_)
     refine s_nil (xs_held [2, 2, 4] ?_)
     exact h_use hj159 (g179, g178) (fun _ h => h.re [1, 0, 0, 0, 0, 0, 0] [])
    ·
     refine s_alloc (.agg #[.int .i64 0, .int .i64 0, .int .i64 0, .string ByteArray.empty, .int .i64 0]) #[.int .i64 0, .int .i64 0, .int .i64 0, .string ByteArray.empty, .int .i64 0] (fun g180 => ?_)
     refine s_nil (xs_held [2, 2, 4] ?_)
     exact h_use hj161 (g180, g178) (fun _ h => h.re [1, 0, 0, 0, 0, 0, 0] [])
  ·
   have p181 := c9
   simp only [Bool.and_eq_true, Bool.or_eq_true, Bool.and_eq_false_iff, Bool.or_eq_false_iff, Bool.not_eq_true', Bool.not_eq_false', decide_eq_true_eq, decide_eq_false_iff_not] at p181
   refine k_exit ?_
   refine xs_exit ?_
   refine xs_exit ?_
   refine xs_here ?_
   refine xs_then ?_
   refine k_sr ?_
   refine s_lt (t_loadA 1 #[pB hb2 0, pB hb3 0, lx]) ?_
   refine s_fact (fun H h => ((Acc.own (T := VlT) (L := (mst l i).2) 0 rfl) H h).form) (fun hf182 => ?_)
   refine s_store (u := .agg #[pB hb2 0, pB hb3 0, lx]) (m := 3) 4 #[pB hb2 0, pB hb3 0, lx] ?_ (hm := by (obtain ⟨_, _, e⟩ := hf182; rw [e]; rfl)) (h1 := by (obtain ⟨_, _, e⟩ := hf182; rw [e]; rfl)) (ha' := by (obtain ⟨_, _, e⟩ := hf182; rw [e]; rfl))
   refine sp (.bool true) ?_
   refine s_nt ?_
   refine k_ret ?_
   have hend : made l = mst l i := by unfold made; congr 1; omega
   exact xs_fin [.agg #[.pointer (some ⟨hb2, 0, none⟩), .pointer (some ⟨hb3, 0, none⟩), lx], .bool true] (hpA hb2 (mst l i).1 :: rhA hb3 (mst l i).1 :: own VlT lx (mst l i).2 :: F) (SI.agg 2 35 4 (SI.tmp 3 SI.nil)) (fun _ h => h.re [3, 2, 0] [3, 3]) ⟨hb2, hb3, lx, rfl, by rw [hend]⟩
theorem handler_w {Z : Zone} {lv : Value} {l : List Opc} (hl0 : Kn Z OpT lv l) (v : Spc) (ev : ByteArray) : SF Try.prog 3 #[lv, v.w, .string ev] Z [] fun r Bs => r = .bool true ∧ Bs = [] := by
 refine sf_enter Try.func3 45 [(0, lv), (1, .agg #[.int .i64 v.v.kind, .int .i64 v.v.p, .int .i64 v.v.q, .string v.v.str, .int .i64 v.v.ref, .int .i64 v.obj]), (2, .string ev)] (fun w0 => ?_)
 refine k_sr ?_
 refine s_box #[.int .i64 v.v.kind, .int .i64 v.v.p, .int .i64 v.v.q, .string v.v.str, .int .i64 v.v.ref, .int .i64 v.obj] (fun g1 => ?_)
 refine sp (.bool false) ?_
 refine s_nt ?_
 refine k_seq ?_
 refine k_sr ?_
 refine sp lv ?_
 refine s_lt (t_loadA 0 #[.int .i64 v.v.kind, .int .i64 v.v.p, .int .i64 v.v.q, .string v.v.str, .int .i64 v.v.ref, .int .i64 v.obj]) ?_
 refine s_buildSlice (e := 28) [(0, .agg #[.int .i64 v.v.kind, .int .i64 v.v.p, .int .i64 v.v.q, .string v.v.str, .int .i64 v.v.ref, .int .i64 v.obj])] #[.int .i64 v.v.kind, .int .i64 v.v.p, .int .i64 v.v.q, .string v.v.str, .int .i64 v.v.ref, .int .i64 v.obj] (fun g2 => ?_) (hb := by kernel_rfl)
 refine s_mem (fun _ h => Holds.slice 0 h SpT_ok [v]) ?_
 refine s_call [0] (large_s (M := [v]) hl0 (by (try simp only [lnm]); omega)) ?_
 rintro _ _ ⟨lg3, rfl, hlg4, rfl⟩
 refine sp (.bool lg3) ?_
 refine s_fork 14 lg3 (fun c5 => ?_) (fun c5 => ?_)
 ·
  refine s_skip ?_
  refine s_skip ?_
  refine s_skip ?_
  refine sp (.bool true) ?_
  refine s_nt ?_
  refine k_true ?_
  refine k_sr ?_
  refine s_vcall (fun _ h => lives_s) ?_
  rintro _ rfl
  refine sp (.bool true) ?_
  refine s_nt ?_
  refine k_ret ?_
  refine xs_ret ?_
  exact xs_fin [.bool true] [] (SI.tmp 6 SI.nil) (fun _ h => h.re [] [0]) ⟨rfl, rfl⟩
 ·
  refine sp (.string ev) ?_
  refine s_lt (t_kern (.int .i64 (ev.size : Int))) ?_
  refine s_lt t_cmp ?_
  refine sp (.bool (decide ((100 : Int) < (ev.size : Int)))) ?_
  refine s_nt ?_
  refine k_cond (decide ((100 : Int) < (ev.size : Int))) (fun c6 => ?_) (fun c6 => ?_)
  ·
   have p7 := of_decide_eq_true c6
   refine k_sr ?_
   refine s_vcall (fun _ h => lives_s) ?_
   rintro _ rfl
   refine sp (.bool true) ?_
   refine s_nt ?_
   refine k_ret ?_
   refine xs_ret ?_
   exact xs_fin [.bool true] [] (SI.tmp 6 SI.nil) (fun _ h => h.re [] [0]) ⟨rfl, rfl⟩
  ·
   have p8 := of_decide_eq_false c6
   refine k_st ?_
   refine k_sr ?_
   refine sp lv ?_
   refine s_call [] (made_s hl0) ?_
   rintro _ _ ⟨hb9, gb10, lx11, rfl, rfl⟩
   refine s_fact (fun H h => ((Acc.own (T := VlT) (L := (made l).2) 2 rfl) H h).form) (fun hf12 => ?_)
   obtain ⟨hinv, hsm, hll⟩ := made_good l
   refine sp (.tuple #[.agg #[pB hb9 0, pB gb10 0, lx11], .bool true]) ?_
   refine sp (.agg #[pB hb9 0, pB gb10 0, lx11]) ?_
   refine sp (.bool true) ?_
   refine s_alloc (.agg #[.pointer none, .pointer none, (.slice none 0 0)]) #[.pointer none, .pointer none, (.slice none 0 0)] (fun g13 => ?_)
   refine s_store (u := .agg #[pB hb9 0, pB gb10 0, lx11]) (m := 3) 0 #[pB hb9 0, pB gb10 0, lx11] ?_ (hm := by (obtain ⟨_, _, e⟩ := hf12; rw [e]; rfl)) (h1 := by (obtain ⟨_, _, e⟩ := hf12; rw [e]; rfl)) (ha' := by (obtain ⟨_, _, e⟩ := hf12; rw [e]; rfl))
   refine sp (.bool true) ?_
   refine s_nr ?_
   refine s_lt (t_loadA 0 #[pB hb9 0, pB gb10 0, lx11]) ?_
   refine s_lt (t_loadA 4 #[.int .i64 v.v.kind, .int .i64 v.v.p, .int .i64 v.v.q, .string v.v.str, .int .i64 v.v.ref, .int .i64 v.obj]) ?_
   refine s_call [3] (of_s (L := (made l).2) (by (try simp only [lnm]); omega) v) ?_
   rintro _ _ ⟨rfl, rfl⟩
   refine s_alloc (.agg #[.int .i64 0, .int .i64 0, .int .i64 0, .string ByteArray.empty, .int .i64 0]) #[.int .i64 0, .int .i64 0, .int .i64 0, .string ByteArray.empty, .int .i64 0] (fun g14 => ?_)
   refine s_store 0 #[.int .i64 ((ofS ((made l).2) v).kind), .int .i64 ((ofS ((made l).2) v).p), .int .i64 ((ofS ((made l).2) v).q), .string ((ofS ((made l).2) v).str), .int .i64 ((ofS ((made l).2) v).ref)] ?_
   refine s_nt ?_
   refine k_seq ?_
   refine k_held [blkA g14 #[.int .i64 ((ofS ((made l).2) v).kind), .int .i64 ((ofS ((made l).2) v).p), .int .i64 ((ofS ((made l).2) v).q), .string ((ofS ((made l).2) v).str), .int .i64 ((ofS ((made l).2) v).ref)] 26, own VlT lx11 ((made l).2), blkA g13 #[pB hb9 0, pB gb10 0, lx11] 35, blkA g1 #[.int .i64 v.v.kind, .int .i64 v.v.p, .int .i64 v.v.q, .string v.v.str, .int .i64 v.v.ref, .int .i64 v.obj] 28] ?_
   refine hp_ 0 [0, 0, 0, 2] (.bool true) ?_
   refine hp_ 1 [0, 0, 0, 2] (.bool true) ?_
   refine hp_ 2 [0, 0, 0, 2] (pB g13 0) ?_
   refine h_l 3 rfl [0, 0, 0, 2] (fun _ => (t_load 2 (pB hb9 0))) ?_
   refine h_l 4 rfl [0, 0, 0, 2] (fun _ => (t_loadA 0 #[.int .i64 ((ofS ((made l).2) v).kind), .int .i64 ((ofS ((made l).2) v).p), .int .i64 ((ofS ((made l).2) v).q), .string ((ofS ((made l).2) v).str), .int .i64 ((ofS ((made l).2) v).ref)])) ?_
   refine hp_ 5 [0, 0, 0, 2] (.string ev) ?_
   refine hp_ 7 [0, 0, 0, 2] (pB g13 1) ?_
   refine h_l 8 rfl [0, 0, 0, 2] (fun _ => (t_load 2 (pB gb10 0))) ?_
   refine h_l 9 rfl [0, 0, 0, 2] (fun _ => (t_loadA 0 #[.int .i64 ((ofS ((made l).2) v).kind), .int .i64 ((ofS ((made l).2) v).p), .int .i64 ((ofS ((made l).2) v).q), .string ((ofS ((made l).2) v).str), .int .i64 ((ofS ((made l).2) v).ref)])) ?_
   refine hp_ 10 [0, 0, 0, 2] (.string ev) ?_
   refine h_stepS 6 ?_
   refine s_call [3] (hdl_s (st := (made l).1) hsm (by omega) (ofS ((made l).2) v) ev) ?_
   rintro _ _ ⟨rfl, rfl⟩
   refine s_nil (xs_held [1, 1, 1, 2] ?_)
   refine h_stepS 11 ?_
   refine s_call [4] (rhdl_s (st := (made l).1) hsm (by omega) (ofS ((made l).2) v) ev) ?_
   rintro _ _ ⟨rfl, rfl⟩
   refine s_nil (xs_held [2, 2, 2, 2] ?_)
   refine h_l 12 rfl [2, 2, 2, 2] (fun _ => (Lt.to (t_eqS (fun w => (eqVlT (hdl ((made l).1) (ofS ((made l).2) v) ev) (hdl ((made l).1) (ofS ((made l).2) v) ev) w).1)) (congrArg Value.bool (decide_eq_true rfl : (decide ((hdl ((made l).1) (ofS ((made l).2) v) ev) = (hdl ((made l).1) (ofS ((made l).2) v) ev))) = true)))) ?_
   refine hp_ 13 [2, 2, 2, 2] (.bool true) ?_
   refine hp_ 14 [2, 2, 2, 2] (.bool true) ?_
   refine h_stepS 15 ?_
   refine s_vcall (fun _ h => lives_s) ?_
   rintro _ rfl
   refine s_nil (xs_held [2, 2, 2, 2] ?_)
   refine hp_ 16 [2, 2, 2, 2] (.bool true) ?_
   refine hp_ 17 [2, 2, 2, 2] (.bool true) ?_
   refine h_doneS ?_
   refine xs_then ?_
   refine k_ret ?_
   exact xs_fin [.bool true] [] (SI.tmp 6 SI.nil) (fun _ h => h.re [] [0, 0, 0, 0, 0, 0]) ⟨rfl, rfl⟩
end Go.Proofs.Ytplkkhpokodbmaa
