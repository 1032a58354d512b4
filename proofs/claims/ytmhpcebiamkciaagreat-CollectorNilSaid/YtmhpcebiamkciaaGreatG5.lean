/-
  Heaps of the program: entries, objects, identities, sizes, touched objects. Each law says its conditions.
-/
import Derived.Test.YtmhpcebiamkciaaGreatG4
import Derived.Test.YtmhpcebiamkciaaGreatG2
import Derived.Lib.AppendZeros
import Derived.Test.YtmhpcebiamkciaaGreatRows
section
set_option linter.unusedSimpArgs false
set_option linter.unusedVariables false
set_option maxRecDepth 100000
set_option maxHeartbeats 2000000
namespace Go.Proofs.YtmhpcebiamkciaaGreat
open Go.Hp Go.J Go.S
open Go.Mem (Ty KTy blk elemAt pre suf blk_pre blk_suf aget aset strK aggDesc)
open Go.Mem (adel apos aget_aset aget_adel)
structure Ent where
  key : Int
  val : Int
  deriving DecidableEq
abbrev Ent.v (x : Ent) : Value := .agg #[.int .i64 x.key, .int .i64 x.val]
def EntT : Ty Ent := ⟨167, 2, 16, true, Ent.v, ⟨0, 0⟩⟩
theorem EntT_ok : EntT.Ok Tryz.prog := ok_of EntT _ Tryz.t167 (by decide) (fun _ => rfl) (fun x u hu => by simp [Ty.enc, EntT, Value.cells] at hu; rcases hu with rfl | rfl <;> rfl) (fun _ => rfl) Tryz.underlying167 rfl (fun h => by cases h) (by kernel_rfl) (by kernel_rfl) (by kernel_rfl) (by kernel_rfl)
theorem eqEntT (x y : Ent) (w : World) : (binOp .eql 167 x.v y.v).run Tryz.prog w = .ok (.bool (decide (x = y))) w ∧ (binOp .neq 167 x.v y.v).run Tryz.prog w = .ok (.bool (!decide (x = y))) w := by
  have h := J.run_eqS (P := Tryz.prog) (t := 167) [0, 0] (by kernel_rfl) (by kernel_rfl) #[.int .i64 x.key, .int .i64 x.val] #[.int .i64 y.key, .int .i64 y.val] rfl rfl w
  have e : J.cellsEq [.int .i64 x.key, .int .i64 x.val] [.int .i64 y.key, .int .i64 y.val] = decide (x = y) := by
    cases x; cases y; rw [Bool.eq_iff_iff]; simp [J.cellsEq, J.cellEq]
  rw [e] at h
  exact h
theorem decEntT (cs : List Value) (h : fitsL [0, 0] cs = true) : ∃ x, EntT.enc x = cs := by
  have hl := fitsL_len h
  match cs, hl, h with
  | [c0, c1], _, h =>
    simp only [fitsL, Bool.and_eq_true] at h
    obtain ⟨c0, rfl⟩ := fit_int h.1
    obtain ⟨c1, rfl⟩ := fit_int h.2.1
    exact ⟨⟨c0, c1⟩, rfl⟩
def entL (l : List (Vl × Vl)) : List Ent := (l.map fun p => (⟨idn p.1, idn p.2⟩ : Ent)).filter fun e => decide (e ≠ ⟨0, 0⟩)
def entsOf (T : Tb) : List Ent := entL (tents T)
theorem entL_step (l : List (Vl × Vl)) (p : Vl × Vl) : entL (l ++ [p]) = if (⟨idn p.1, idn p.2⟩ : Ent) ≠ ⟨0, 0⟩ then entL l ++ [⟨idn p.1, idn p.2⟩] else entL l := by
  unfold entL
  rw [List.map_append, List.filter_append, List.map_cons, List.map_nil]
  by_cases h : (⟨idn p.1, idn p.2⟩ : Ent) ≠ ⟨0, 0⟩
  · rw [if_pos h]; congr 1; simp only [List.filter_cons, List.filter_nil]; rw [if_pos (decide_eq_true h)]
  · rw [if_neg h]; simp only [List.filter_cons, List.filter_nil]; rw [if_neg (fun hc => h (of_decide_eq_true hc)), List.append_nil]
theorem entL_len (l : List (Vl × Vl)) : (entL l).length ≤ l.length := by
  unfold entL
  refine Nat.le_trans (List.length_filter_le _ _) ?_
  rw [List.length_map]; exact Nat.le_refl _
def hrefs (st : Hst) (id : Int) : List Int := match st.get id with
  | some o => refsOf o
  | none => []
def hents (st : Hst) (id : Int) : List Ent := match st.get id with
  | some o => if o.kind = 4 then entsOf o.tab else []
  | none => []
def hoId (st : Hst) (id : Int) : Int := if halive st id = true then id else 0
def hoSz (st : Hst) (id : Int) : Int := match st.get id with
  | some o => obSize o
  | none => 0
def hoWk (st : Hst) (id weak : Int) : Int := match st.get id with
  | some o => hweak o weak
  | none => 0
theorem obj_none {st : Hst} {id : Int} (h : st.get id = none) (weak : Int) : halive st id = false ∧ hoId st id = 0 ∧ hoSz st id = 0 ∧ hoWk st id weak = 0 ∧ hrefs st id = [] ∧ hents st id = [] := by
  have h1 : halive st id = false := by unfold halive; rw [h]; rfl
  refine ⟨h1, ?_, ?_, ?_, ?_, ?_⟩
  · unfold hoId; rw [h1]; rfl
  all_goals first | (unfold hoSz; rw [h]) | (unfold hoWk; rw [h]) | (unfold hrefs; rw [h]) | (unfold hents; rw [h])
theorem obj_some {st : Hst} {id : Int} {o : Hob} (h : st.get id = some o) (weak : Int) : halive st id = true ∧ hoId st id = id ∧ hoSz st id = obSize o ∧ hoWk st id weak = hweak o weak ∧ hrefs st id = refsOf o ∧ hents st id = if o.kind = 4 then entsOf o.tab else [] := by
  have h1 : halive st id = true := by unfold halive; rw [h]; rfl
  refine ⟨h1, ?_, ?_, ?_, ?_, ?_⟩
  · unfold hoId; rw [h1]; rfl
  all_goals first | (unfold hoSz; rw [h]) | (unfold hoWk; rw [h]) | (unfold hrefs; rw [h]) | (unfold hents; rw [h])
section
variable {Z : Zone} {F : List Asr} {H : Heap} {b : Nat} {st : Hst} {ps : List (Int × (Nat × Nat))} {id : Int} {q : Nat × Nat} {o : Hob}
theorem all_take (hq : aget ps id = some q) (ho : st.get id = some o) (h : Holds Z (allP ps st :: F) H) : Holds Z (obP q o :: holeP ps st id :: F) H := by
  obtain ⟨v, _, h⟩ := all_focus hq ho h
  exact ob_shut h
theorem all_back (hnd : (ps.map Prod.fst).Nodup) (hq : aget ps id = some q) (ho : st.get id = some o) (h : Holds Z (obP q o :: holeP ps st id :: F) H) : Holds Z (allP ps st :: F) H := by
  have := all_unfocus hnd hq ho h
  rwa [put_same ho] at this
theorem keys_wf (ha : HA ps st) (hl : st.objs.length ≤ 1000000) : ∀ p ∈ ps, (Lit.int .i64 p.1).wf = true := fun p hp => by
  have h1 : halive st p.1 = true := (mem_keys ha).1 (List.mem_map.2 ⟨p, hp, rfl⟩)
  obtain ⟨o, ho⟩ := halive_iff.1 h1
  obtain ⟨_, h2, h3, _⟩ := get_mem ho
  have e1 : IntKind.i64.min = -9223372036854775808 := by rfl
  have e2 : IntKind.i64.max = 9223372036854775807 := by rfl
  simp only [Lit.wf, Bool.and_eq_true, decide_eq_true_eq, e1, e2]
  omega
theorem aget_mem {m : List (Int × (Nat × Nat))} {k : Int} {u : Nat × Nat} (hn : (m.map Prod.fst).Nodup) (h : (k, u) ∈ m) : aget m k = some u := by
  induction m with
  | nil => cases h
  | cons a r ih =>
    rw [List.map_cons, List.nodup_cons] at hn
    unfold aget
    rcases List.mem_cons.1 h with rfl | h
    · simp
    · have hne : a.1 ≠ k := fun e => hn.1 (List.mem_map.2 ⟨_, h, e.symm⟩)
      have := ih hn.2 h
      simp [hne, this]
theorem nodup_sub : ∀ (A B : List Int), A.Nodup → (∀ x ∈ A, x ∈ B) → A.length ≤ B.length
  | [], B, _, _ => Nat.zero_le _
  | a :: r, B, hn, h => by
    rw [List.nodup_cons] at hn
    have ha := h a (by simp)
    have h1 := nodup_sub r (B.erase a) hn.2 fun x hx => (List.mem_erase_of_ne (fun e => hn.1 (by rw [← e]; exact hx))).2 (h x (List.mem_cons_of_mem _ hx))
    rw [List.length_erase_of_mem ha] at h1
    have := List.length_pos_of_mem ha
    simp only [List.length_cons]; omega
theorem fl_len {dn : List (Int × Bool)} (hn : (dn.map Prod.fst).Nodup) : ((dn.map Prod.fst).filter fun id => (aget ps id).isSome).length ≤ ps.length := by
  have e0 : (ps.map Prod.fst).length = ps.length := by simp
  rw [← e0]
  refine nodup_sub _ _ (hn.filter _) fun x hx => ?_
  have h1 := (List.mem_filter.1 hx).2
  apply Decidable.byContradiction
  intro hc
  rw [(Go.Mem.aget_none_iff ps x).2 hc] at h1; cases h1
theorem nodup_snoc {dn : List (Int × Bool)} {k : Int} {u : Bool} (hn : (dn.map Prod.fst).Nodup) (hk : k ∉ dn.map Prod.fst) : ((dn ++ [(k, u)]).map Prod.fst).Nodup := by
  rw [List.map_append, List.nodup_append]
  refine ⟨hn, by simp, fun a ha b hb => ?_⟩
  simp at hb
  subst hb
  exact fun e => hk (e ▸ ha)
end
theorem ident_s {Z : Zone} (v : Vl) : SF Tryz.prog 110 #[v.v] Z [] fun r Bs => r = .int .i64 (idn v) ∧ Bs = [] := by
 refine sf_enter Tryz.func110 12 [(0, .agg #[.int .i64 v.kind, .int .i64 v.p, .int .i64 v.q, .string v.str, .int .i64 v.ref])] (fun w0 => ?_)
 refine k_sr ?_
 refine s_box #[.int .i64 v.kind, .int .i64 v.p, .int .i64 v.q, .string v.str, .int .i64 v.ref] (fun g1 => ?_)
 refine sp (.int .i64 0) ?_
 refine s_nt ?_
 refine k_seq ?_
 refine k_sr ?_
 refine sp (pB g1 0) ?_
 refine s_lt (t_load 0 (.int .i64 v.kind)) ?_
 refine s_nt ?_
 refine k_block ?_
 refine k_seq ?_
 refine k_sr ?_
 refine s_lt t_cmp ?_
 refine sp (.bool (decide (v.kind = 4))) ?_
 refine s_nt ?_
 refine k_cond (decide (v.kind = 4)) (fun c2 => ?_) (fun c2 => ?_)
 ·
  have p3 := of_decide_eq_true c2
  refine k_st ?_
  refine k_true (hv := congrArg Value.bool c2) ?_
  refine k_sr ?_
  refine sp (pB g1 4) ?_
  refine s_lt (t_load 0 (.int .i64 v.ref)) ?_
  refine sp (.int .i64 v.ref) ?_
  refine s_nt ?_
  refine k_ret ?_
  refine xs_retBlock ?_
  refine xs_ret ?_
  have hp : idn v = v.ref := by unfold idn isRef; rw [if_pos (by simp only [Bool.or_eq_true, decide_eq_true_eq]; omega)]
  exact xs_fin [.int .i64 v.ref] [] (SI.tmp 2 SI.nil) (fun _ h => h.re [] [0]) ⟨by rw [hp]; rfl, rfl⟩
 ·
  have p4 := of_decide_eq_false c2
  refine k_sr ?_
  refine s_lt t_cmp ?_
  refine sp (.bool (decide (v.kind = 5))) ?_
  refine s_nt ?_
  refine k_cond (decide (v.kind = 5)) (fun c5 => ?_) (fun c5 => ?_)
  ·
   have p6 := of_decide_eq_true c5
   refine k_st ?_
   refine k_true (hv := congrArg Value.bool c5) ?_
   refine k_sr ?_
   refine sp (pB g1 4) ?_
   refine s_lt (t_load 0 (.int .i64 v.ref)) ?_
   refine sp (.int .i64 v.ref) ?_
   refine s_nt ?_
   refine k_ret ?_
   refine xs_retBlock ?_
   refine xs_ret ?_
   have hp : idn v = v.ref := by unfold idn isRef; rw [if_pos (by simp only [Bool.or_eq_true, decide_eq_true_eq]; omega)]
   exact xs_fin [.int .i64 v.ref] [] (SI.tmp 2 SI.nil) (fun _ h => h.re [] [0]) ⟨by rw [hp]; rfl, rfl⟩
  ·
   have p7 := of_decide_eq_false c5
   refine k_sr ?_
   refine s_lt t_cmp ?_
   refine sp (.bool (decide (v.kind = 7))) ?_
   refine s_nt ?_
   refine k_cond (decide (v.kind = 7)) (fun c8 => ?_) (fun c8 => ?_)
   ·
    have p9 := of_decide_eq_true c8
    refine k_st ?_
    refine k_true (hv := congrArg Value.bool c8) ?_
    refine k_sr ?_
    refine sp (pB g1 4) ?_
    refine s_lt (t_load 0 (.int .i64 v.ref)) ?_
    refine sp (.int .i64 v.ref) ?_
    refine s_nt ?_
    refine k_ret ?_
    refine xs_retBlock ?_
    refine xs_ret ?_
    have hp : idn v = v.ref := by unfold idn isRef; rw [if_pos (by simp only [Bool.or_eq_true, decide_eq_true_eq]; omega)]
    exact xs_fin [.int .i64 v.ref] [] (SI.tmp 2 SI.nil) (fun _ h => h.re [] [0]) ⟨by rw [hp]; rfl, rfl⟩
   ·
    have p10 := of_decide_eq_false c8
    refine k_reg ?_
    refine s_lt t_cmp ?_
    refine sp (.bool (decide (v.kind = 8))) ?_
    refine s_nt ?_
    refine k_cond (decide (v.kind = 8)) (fun c11 => ?_) (fun c11 => ?_)
    ·
     have p12 := of_decide_eq_true c11
     refine k_sr ?_
     refine sp (pB g1 4) ?_
     refine s_lt (t_load 0 (.int .i64 v.ref)) ?_
     refine sp (.int .i64 v.ref) ?_
     refine s_nt ?_
     refine k_ret ?_
     refine xs_retBlock ?_
     refine xs_ret ?_
     have hp : idn v = v.ref := by unfold idn isRef; rw [if_pos (by simp only [Bool.or_eq_true, decide_eq_true_eq]; omega)]
     exact xs_fin [.int .i64 v.ref] [] (SI.tmp 2 SI.nil) (fun _ h => h.re [] [0]) ⟨by rw [hp]; rfl, rfl⟩
    ·
     have p13 := of_decide_eq_false c11
     refine k_skip ?_
     refine xs_block ?_
     refine xs_then ?_
     refine k_sr ?_
     refine sp (.int .i64 0) ?_
     refine s_nt ?_
     refine k_ret ?_
     have hp : idn v = 0 := by unfold idn isRef; rw [if_neg (by simp only [Bool.or_eq_true, decide_eq_true_eq]; omega)]
     exact xs_fin [.int .i64 0] [] (SI.tmp 2 SI.nil) (fun _ h => h.re [] [0]) ⟨by rw [hp]; rfl, rfl⟩
theorem entries_s {Z : Zone} {F : List Asr} {b : Nat} {L : List Vl} {S : List Slt} (hti : TInv ⟨L, S⟩) (htw : TW ⟨L, S⟩) (hl : L.length ≤ 100000) (hs : S.length ≤ 100000) : SF Tryz.prog 111 #[.pointer (some ⟨b, 0, none⟩)] Z (tbA b L S :: F) fun r Bs => Bs = own EntT r (entsOf ⟨L, S⟩) :: tbA b L S :: F := by
 refine sf_enter Tryz.func111 43 [(0, pB b 0)] (fun w0 => ?_)
 have htl := tents_len ⟨L, S⟩
 refine k_sr ?_
 refine sp (.slice none 0 0) ?_
 refine s_nr ?_
 refine sp (.slice none 0 0) ?_
 refine s_nr ?_
 refine sp (pB b 0) ?_
 refine s_lt (t_kern (.agg #[.int .i64 0, .int .i64 0, .int .i64 0, .string ByteArray.empty, .int .i64 0])) ?_
 refine s_call [0] (tbnext_s (L := L) (S := S) (by (try simp only [lnm]); omega) (by (try simp only [lnm]); omega) zVl) ?_
 rintro _ _ ⟨rfl, rfl⟩
 refine sp (.tuple #[.agg #[.int .i64 (((tnext ⟨L, S⟩ zVl).1).kind), .int .i64 (((tnext ⟨L, S⟩ zVl).1).p), .int .i64 (((tnext ⟨L, S⟩ zVl).1).q), .string (((tnext ⟨L, S⟩ zVl).1).str), .int .i64 (((tnext ⟨L, S⟩ zVl).1).ref)], .agg #[.int .i64 (((tnext ⟨L, S⟩ zVl).2.1).kind), .int .i64 (((tnext ⟨L, S⟩ zVl).2.1).p), .int .i64 (((tnext ⟨L, S⟩ zVl).2.1).q), .string (((tnext ⟨L, S⟩ zVl).2.1).str), .int .i64 (((tnext ⟨L, S⟩ zVl).2.1).ref)], .bool ((tnext ⟨L, S⟩ zVl).2.2.1), .int .i64 ((tnext ⟨L, S⟩ zVl).2.2.2)]) ?_
 refine sp (.agg #[.int .i64 (((tnext ⟨L, S⟩ zVl).1).kind), .int .i64 (((tnext ⟨L, S⟩ zVl).1).p), .int .i64 (((tnext ⟨L, S⟩ zVl).1).q), .string (((tnext ⟨L, S⟩ zVl).1).str), .int .i64 (((tnext ⟨L, S⟩ zVl).1).ref)]) ?_
 refine sp (.agg #[.int .i64 (((tnext ⟨L, S⟩ zVl).2.1).kind), .int .i64 (((tnext ⟨L, S⟩ zVl).2.1).p), .int .i64 (((tnext ⟨L, S⟩ zVl).2.1).q), .string (((tnext ⟨L, S⟩ zVl).2.1).str), .int .i64 (((tnext ⟨L, S⟩ zVl).2.1).ref)]) ?_
 refine sp (.bool ((tnext ⟨L, S⟩ zVl).2.2.1)) ?_
 refine sp (.int .i64 ((tnext ⟨L, S⟩ zVl).2.2.2)) ?_
 refine s_alloc (.agg #[.int .i64 0, .int .i64 0, .int .i64 0, .string ByteArray.empty, .int .i64 0]) #[.int .i64 0, .int .i64 0, .int .i64 0, .string ByteArray.empty, .int .i64 0] (fun g1 => ?_)
 refine s_alloc (.agg #[.int .i64 0, .int .i64 0, .int .i64 0, .string ByteArray.empty, .int .i64 0]) #[.int .i64 0, .int .i64 0, .int .i64 0, .string ByteArray.empty, .int .i64 0] (fun g2 => ?_)
 refine s_store 1 #[.int .i64 (((tnext ⟨L, S⟩ zVl).1).kind), .int .i64 (((tnext ⟨L, S⟩ zVl).1).p), .int .i64 (((tnext ⟨L, S⟩ zVl).1).q), .string (((tnext ⟨L, S⟩ zVl).1).str), .int .i64 (((tnext ⟨L, S⟩ zVl).1).ref)] ?_
 refine s_store 0 #[.int .i64 (((tnext ⟨L, S⟩ zVl).2.1).kind), .int .i64 (((tnext ⟨L, S⟩ zVl).2.1).p), .int .i64 (((tnext ⟨L, S⟩ zVl).2.1).q), .string (((tnext ⟨L, S⟩ zVl).2.1).str), .int .i64 (((tnext ⟨L, S⟩ zVl).2.1).ref)] ?_
 refine sp (.bool ((tnext ⟨L, S⟩ zVl).2.2.1)) ?_
 refine sp (.int .i64 ((tnext ⟨L, S⟩ zVl).2.2.2)) ?_
 refine s_nt ?_
 refine k_seq ?_
 refine k_block ?_
 rw [next_first]
 refine k_mem (fun _ h => Holds.nilS (T := EntT) h) ?_
 refine k_mem (Bs := own EntT (.slice none 0 0) (entL []) :: blkA g2 #[.int .i64 (((hdE (tents ⟨L, S⟩)).2.1).kind), .int .i64 (((hdE (tents ⟨L, S⟩)).2.1).p), .int .i64 (((hdE (tents ⟨L, S⟩)).2.1).q), .string (((hdE (tents ⟨L, S⟩)).2.1).str), .int .i64 (((hdE (tents ⟨L, S⟩)).2.1).ref)] 71 :: blkA g1 #[.int .i64 (((hdE (tents ⟨L, S⟩)).1).kind), .int .i64 (((hdE (tents ⟨L, S⟩)).1).p), .int .i64 (((hdE (tents ⟨L, S⟩)).1).q), .string (((hdE (tents ⟨L, S⟩)).1).str), .int .i64 (((hdE (tents ⟨L, S⟩)).1).ref)] 71 :: tbA b L S :: F) (fun _ h => h) ?_
 refine k_loop (ι := Value × List (Vl × Vl) × List (Vl × Vl)) (fun (lx, dn, rem) => tents ⟨L, S⟩ = dn ++ rem) (fun (lx, dn, rem) => [(0, pB b 0), (3, lx), (4, pB g1 0), (5, pB g2 0), (6, .bool ((hdE rem).2.2.1)), (7, .int .i64 ((hdE rem).2.2.2))]) (fun (lx, dn, rem) => own EntT lx (entL dn) :: blkA g2 #[.int .i64 (((hdE rem).2.1).kind), .int .i64 (((hdE rem).2.1).p), .int .i64 (((hdE rem).2.1).q), .string (((hdE rem).2.1).str), .int .i64 (((hdE rem).2.1).ref)] 71 :: blkA g1 #[.int .i64 (((hdE rem).1).kind), .int .i64 (((hdE rem).1).p), .int .i64 (((hdE rem).1).q), .string (((hdE rem).1).str), .int .i64 (((hdE rem).1).ref)] 71 :: tbA b L S :: F) (fun (lx, dn, rem) => rem.length) ((.slice none 0 0), [], tents ⟨L, S⟩) rfl (sub_of rfl ⟨⟨rfl, rfl⟩, ⟨⟨rfl, rfl⟩, ⟨⟨rfl, rfl⟩, ⟨⟨rfl, rfl⟩, ⟨⟨rfl, rfl⟩, ⟨⟨rfl, rfl⟩, trivial⟩⟩⟩⟩⟩⟩) (fun _ h => h.re [0, 0, 0, 0] []) ?_
 rintro ⟨lx, dn, rem⟩ hi3
 replace hi3 : tents ⟨L, S⟩ = dn ++ rem := hi3
 show SK _ _ _ _ _ [(0, .pointer (some ⟨b, 0, none⟩)), (3, lx), (4, .pointer (some ⟨g1, 0, none⟩)), (5, .pointer (some ⟨g2, 0, none⟩)), (6, .bool ((hdE rem).2.2.1)), (7, .int .i64 ((hdE rem).2.2.2))] _ (own EntT lx (entL dn) :: blkA g2 #[.int .i64 (((hdE rem).2.1).kind), .int .i64 (((hdE rem).2.1).p), .int .i64 (((hdE rem).2.1).q), .string (((hdE rem).2.1).str), .int .i64 (((hdE rem).2.1).ref)] 71 :: blkA g1 #[.int .i64 (((hdE rem).1).kind), .int .i64 (((hdE rem).1).p), .int .i64 (((hdE rem).1).q), .string (((hdE rem).1).str), .int .i64 (((hdE rem).1).ref)] 71 :: tbA b L S :: F)
 have hel := entL_len dn
 have hdl : dn.length ≤ L.length + S.length := by have h0 := congrArg List.length hi3; rw [List.length_append] at h0; have h1 : (⟨L, S⟩ : Tb).list.length = L.length := rfl; have h2 : (⟨L, S⟩ : Tb).rest.length = S.length := rfl; omega
 refine k_seq ?_
 refine k_cut (ι := Unit) (fun _ => True) (fun _ => [(0, pB b 0), (3, lx), (4, pB g1 0), (5, pB g2 0), (21, .bool ((hdE rem).2.2.1))]) (fun _ => own EntT lx (entL dn) :: blkA g2 #[.int .i64 (((hdE rem).2.1).kind), .int .i64 (((hdE rem).2.1).p), .int .i64 (((hdE rem).2.1).q), .string (((hdE rem).2.1).str), .int .i64 (((hdE rem).2.1).ref)] 71 :: blkA g1 #[.int .i64 (((hdE rem).1).kind), .int .i64 (((hdE rem).1).p), .int .i64 (((hdE rem).1).q), .string (((hdE rem).1).str), .int .i64 (((hdE rem).1).ref)] 71 :: tbA b L S :: F) ?_ (fun _ _ => ?_)
 ·
  refine k_reg ?_
  refine sp (.bool ((hdE rem).2.2.1)) ?_
  refine sp (.bool ((hdE rem).2.2.1)) ?_
  refine s_fork 18 ((hdE rem).2.2.1) (fun c4 => ?_) (fun c4 => ?_)
  ·
   refine sp (.int .i64 ((hdE rem).2.2.2)) ?_
   refine s_lt (Lt.to t_cmp (congrArg Value.bool (decide_eq_true (hd_err rem) : (decide ((hdE rem).2.2.2 = 0)) = true))) ?_
   refine sp (.bool true) ?_
   refine s_nil ?_
   exact xs_cut () trivial (sub_of rfl ⟨⟨rfl, rfl⟩, ⟨⟨rfl, rfl⟩, ⟨⟨rfl, rfl⟩, ⟨⟨rfl, rfl⟩, ⟨⟨rfl, show Value.bool true = Value.bool ((hdE rem).2.2.1) by first | (simp only [c4, bls]; done) | simp [c4]⟩, trivial⟩⟩⟩⟩⟩) (fun _ h => h.re [0, 0, 0, 0] [])
  ·
   refine s_skip ?_
   refine s_skip ?_
   refine sp (.bool false) ?_
   refine s_nil ?_
   exact xs_cut () trivial (sub_of rfl ⟨⟨rfl, rfl⟩, ⟨⟨rfl, rfl⟩, ⟨⟨rfl, rfl⟩, ⟨⟨rfl, rfl⟩, ⟨⟨rfl, show Value.bool false = Value.bool ((hdE rem).2.2.1) by first | (simp only [c4, bls]; done) | simp [c4]⟩, trivial⟩⟩⟩⟩⟩) (fun _ h => h.re [0, 0, 0, 0] [])
 ·
  refine k_cond ((hdE rem).2.2.1) (fun c5 => ?_) (fun c5 => ?_)
  ·
   obtain ⟨p, tl, hrem⟩ := hd_some c5
   refine k_st ?_
   refine k_block ?_
   refine k_cut (ι := Nat) (fun _ => True) (fun jb8 => [(0, pB b 0), (3, lx), (4, pB g1 0), (5, pB g2 0), (8, pB jb8 0)]) (fun jb8 => blkA jb8 #[.int .i64 (idn ((hdE rem).1)), .int .i64 (idn ((hdE rem).2.1))] 167 :: own EntT lx (entL dn) :: blkA g2 #[.int .i64 (((hdE rem).2.1).kind), .int .i64 (((hdE rem).2.1).p), .int .i64 (((hdE rem).2.1).q), .string (((hdE rem).2.1).str), .int .i64 (((hdE rem).2.1).ref)] 71 :: blkA g1 #[.int .i64 (((hdE rem).1).kind), .int .i64 (((hdE rem).1).p), .int .i64 (((hdE rem).1).q), .string (((hdE rem).1).str), .int .i64 (((hdE rem).1).ref)] 71 :: tbA b L S :: F) ?_ (fun ix _ => ?_)
   ·
    refine k_held [own EntT lx (entL dn), blkA g2 #[.int .i64 (((hdE rem).2.1).kind), .int .i64 (((hdE rem).2.1).p), .int .i64 (((hdE rem).2.1).q), .string (((hdE rem).2.1).str), .int .i64 (((hdE rem).2.1).ref)] 71, blkA g1 #[.int .i64 (((hdE rem).1).kind), .int .i64 (((hdE rem).1).p), .int .i64 (((hdE rem).1).q), .string (((hdE rem).1).str), .int .i64 (((hdE rem).1).ref)] 71] ?_
    refine h_l 0 rfl [0, 0, 0] (fun _ => (t_loadA 2 #[.int .i64 (((hdE rem).1).kind), .int .i64 (((hdE rem).1).p), .int .i64 (((hdE rem).1).q), .string (((hdE rem).1).str), .int .i64 (((hdE rem).1).ref)])) ?_
    refine h_l 2 rfl [0, 0, 0] (fun _ => (t_loadA 1 #[.int .i64 (((hdE rem).2.1).kind), .int .i64 (((hdE rem).2.1).p), .int .i64 (((hdE rem).2.1).q), .string (((hdE rem).2.1).str), .int .i64 (((hdE rem).2.1).ref)])) ?_
    refine h_stepS2 1 5 ?_ ?_
    ·
     refine s_vcall (fun _ h => ident_s ((hdE rem).1)) ?_
     rintro _ rfl
     refine s_nil (xs_held [0, 0, 0] ?_)
     refine h_stepS2 3 5 ?_ ?_
     ·
      refine s_vcall (fun _ h => ident_s ((hdE rem).2.1)) ?_
      rintro _ rfl
      refine s_nil (xs_held [0, 0, 0] ?_)
      refine h_l 4 rfl [0, 0, 0] (fun _ => (t_kern (.agg #[.int .i64 (idn ((hdE rem).1)), .int .i64 (idn ((hdE rem).2.1))]))) ?_
      refine h_stepS 5 ?_
      refine s_alloc (.agg #[.int .i64 0, .int .i64 0]) #[.int .i64 0, .int .i64 0] (fun g6 => ?_)
      refine s_nil (xs_held [1, 1, 1] ?_)
      refine h_stepS 6 ?_
      refine s_store 0 #[.int .i64 (idn ((hdE rem).1)), .int .i64 (idn ((hdE rem).2.1))] ?_
      refine s_nil (xs_held [1, 1, 1] ?_)
      refine h_doneS ?_
      exact xcut g6 (fun _ h => h.re [0, 0, 0, 0, 0] [])
     ·
      refine s_alloc (.agg #[.int .i64 0, .int .i64 0]) #[.int .i64 0, .int .i64 0] (fun g7 => ?_)
      refine s_nil (xs_held [1, 1, 1] ?_)
      refine h_stepS 3 ?_
      refine s_vcall (fun _ h => ident_s ((hdE rem).2.1)) ?_
      rintro _ rfl
      refine s_nil (xs_held [1, 1, 1] ?_)
      refine h_l 4 rfl [1, 1, 1] (fun _ => (t_kern (.agg #[.int .i64 (idn ((hdE rem).1)), .int .i64 (idn ((hdE rem).2.1))]))) ?_
      refine h_stepS 6 ?_
      refine s_store 0 #[.int .i64 (idn ((hdE rem).1)), .int .i64 (idn ((hdE rem).2.1))] ?_
      refine s_nil (xs_held [1, 1, 1] ?_)
      refine h_doneS ?_
      exact xcut g7 (fun _ h => h.re [0, 0, 0, 0, 0] [])
    ·
     refine s_alloc (.agg #[.int .i64 0, .int .i64 0]) #[.int .i64 0, .int .i64 0] (fun g8 => ?_)
     refine s_nil (xs_held [1, 1, 1] ?_)
     refine h_stepS 1 ?_
     refine s_vcall (fun _ h => ident_s ((hdE rem).1)) ?_
     rintro _ rfl
     refine s_nil (xs_held [1, 1, 1] ?_)
     refine h_stepS 3 ?_
     refine s_vcall (fun _ h => ident_s ((hdE rem).2.1)) ?_
     rintro _ rfl
     refine s_nil (xs_held [1, 1, 1] ?_)
     refine h_l 4 rfl [1, 1, 1] (fun _ => (t_kern (.agg #[.int .i64 (idn ((hdE rem).1)), .int .i64 (idn ((hdE rem).2.1))]))) ?_
     refine h_stepS 6 ?_
     refine s_store 0 #[.int .i64 (idn ((hdE rem).1)), .int .i64 (idn ((hdE rem).2.1))] ?_
     refine s_nil (xs_held [1, 1, 1] ?_)
     refine h_doneS ?_
     exact xcut g8 (fun _ h => h.re [0, 0, 0, 0, 0] [])
   ·
    revert ix; intro jb8
    show SK _ _ _ _ _ [(0, .pointer (some ⟨b, 0, none⟩)), (3, lx), (4, .pointer (some ⟨g1, 0, none⟩)), (5, .pointer (some ⟨g2, 0, none⟩)), (8, .pointer (some ⟨jb8, 0, none⟩))] _ (blkA jb8 #[.int .i64 (idn ((hdE rem).1)), .int .i64 (idn ((hdE rem).2.1))] 167 :: own EntT lx (entL dn) :: blkA g2 #[.int .i64 (((hdE rem).2.1).kind), .int .i64 (((hdE rem).2.1).p), .int .i64 (((hdE rem).2.1).q), .string (((hdE rem).2.1).str), .int .i64 (((hdE rem).2.1).ref)] 71 :: blkA g1 #[.int .i64 (((hdE rem).1).kind), .int .i64 (((hdE rem).1).p), .int .i64 (((hdE rem).1).q), .string (((hdE rem).1).str), .int .i64 (((hdE rem).1).ref)] 71 :: tbA b L S :: F)
    refine k_seq ?_
    refine k_sr ?_
    refine s_lt (t_loadA 0 #[.int .i64 (idn ((hdE rem).1)), .int .i64 (idn ((hdE rem).2.1))]) ?_
    refine s_lt (t_kern (.agg #[.int .i64 0, .int .i64 0])) ?_
    refine s_lt (t_eqS (fun w => (eqEntT (⟨(idn ((hdE rem).1)), (idn ((hdE rem).2.1))⟩ : Ent) (⟨0, 0⟩ : Ent) w).2)) ?_
    refine s_nt ?_
    refine k_cond (!(decide ((⟨(idn ((hdE rem).1)), (idn ((hdE rem).2.1))⟩ : Ent) = (⟨0, 0⟩ : Ent)))) (fun c9 => ?_) (fun c9 => ?_)
    ·
     have c10 := not_t c9
     have p11 := of_decide_eq_false c10
     refine k_reg ?_
     refine sp lx ?_
     refine s_lt (t_loadA 0 #[.int .i64 (idn ((hdE rem).1)), .int .i64 (idn ((hdE rem).2.1))]) ?_
     refine s_buildSlice (e := 167) [(0, .agg #[.int .i64 (idn ((hdE rem).1)), .int .i64 (idn ((hdE rem).2.1))])] #[.int .i64 (idn ((hdE rem).1)), .int .i64 (idn ((hdE rem).2.1))] (fun g12 => ?_) (hb := by kernel_rfl)
     refine s_append (L := (entL dn)) 2 EntT_ok Tryz.underlying98 (.lit 0 EntT_ok [(⟨(idn ((hdE rem).1)), (idn ((hdE rem).2.1))⟩ : Ent)]) (by show _ * 16 ≤ _; (try simp only [lnm]); omega) (by (try simp only [lnm]); omega) (fun v13 => ?_)
     refine sp v13 ?_
     refine s_nt ?_
     refine k_reg ?_
     refine sp (pB b 0) ?_
     refine s_lt (t_loadA 4 #[.int .i64 (((hdE rem).1).kind), .int .i64 (((hdE rem).1).p), .int .i64 (((hdE rem).1).q), .string (((hdE rem).1).str), .int .i64 (((hdE rem).1).ref)]) ?_
     refine s_call [5] (tbnext_s (L := L) (S := S) (by (try simp only [lnm]); omega) (by (try simp only [lnm]); omega) ((hdE rem).1)) ?_
     rintro _ _ ⟨rfl, rfl⟩
     refine sp (.tuple #[.agg #[.int .i64 (((tnext ⟨L, S⟩ ((hdE rem).1)).1).kind), .int .i64 (((tnext ⟨L, S⟩ ((hdE rem).1)).1).p), .int .i64 (((tnext ⟨L, S⟩ ((hdE rem).1)).1).q), .string (((tnext ⟨L, S⟩ ((hdE rem).1)).1).str), .int .i64 (((tnext ⟨L, S⟩ ((hdE rem).1)).1).ref)], .agg #[.int .i64 (((tnext ⟨L, S⟩ ((hdE rem).1)).2.1).kind), .int .i64 (((tnext ⟨L, S⟩ ((hdE rem).1)).2.1).p), .int .i64 (((tnext ⟨L, S⟩ ((hdE rem).1)).2.1).q), .string (((tnext ⟨L, S⟩ ((hdE rem).1)).2.1).str), .int .i64 (((tnext ⟨L, S⟩ ((hdE rem).1)).2.1).ref)], .bool ((tnext ⟨L, S⟩ ((hdE rem).1)).2.2.1), .int .i64 ((tnext ⟨L, S⟩ ((hdE rem).1)).2.2.2)]) ?_
     refine sp (.agg #[.int .i64 (((tnext ⟨L, S⟩ ((hdE rem).1)).1).kind), .int .i64 (((tnext ⟨L, S⟩ ((hdE rem).1)).1).p), .int .i64 (((tnext ⟨L, S⟩ ((hdE rem).1)).1).q), .string (((tnext ⟨L, S⟩ ((hdE rem).1)).1).str), .int .i64 (((tnext ⟨L, S⟩ ((hdE rem).1)).1).ref)]) ?_
     refine sp (.agg #[.int .i64 (((tnext ⟨L, S⟩ ((hdE rem).1)).2.1).kind), .int .i64 (((tnext ⟨L, S⟩ ((hdE rem).1)).2.1).p), .int .i64 (((tnext ⟨L, S⟩ ((hdE rem).1)).2.1).q), .string (((tnext ⟨L, S⟩ ((hdE rem).1)).2.1).str), .int .i64 (((tnext ⟨L, S⟩ ((hdE rem).1)).2.1).ref)]) ?_
     refine sp (.bool ((tnext ⟨L, S⟩ ((hdE rem).1)).2.2.1)) ?_
     refine sp (.int .i64 ((tnext ⟨L, S⟩ ((hdE rem).1)).2.2.2)) ?_
     refine s_store 5 #[.int .i64 (((tnext ⟨L, S⟩ ((hdE rem).1)).1).kind), .int .i64 (((tnext ⟨L, S⟩ ((hdE rem).1)).1).p), .int .i64 (((tnext ⟨L, S⟩ ((hdE rem).1)).1).q), .string (((tnext ⟨L, S⟩ ((hdE rem).1)).1).str), .int .i64 (((tnext ⟨L, S⟩ ((hdE rem).1)).1).ref)] ?_
     refine s_store 4 #[.int .i64 (((tnext ⟨L, S⟩ ((hdE rem).1)).2.1).kind), .int .i64 (((tnext ⟨L, S⟩ ((hdE rem).1)).2.1).p), .int .i64 (((tnext ⟨L, S⟩ ((hdE rem).1)).2.1).q), .string (((tnext ⟨L, S⟩ ((hdE rem).1)).2.1).str), .int .i64 (((tnext ⟨L, S⟩ ((hdE rem).1)).2.1).ref)] ?_
     refine sp (.bool ((tnext ⟨L, S⟩ ((hdE rem).1)).2.2.1)) ?_
     refine sp (.int .i64 ((tnext ⟨L, S⟩ ((hdE rem).1)).2.2.2)) ?_
     refine s_nil ?_
     refine xs_block ?_
     have hn : tnext ⟨L, S⟩ ((hdE rem).1) = hdE tl := by rw [hrem]; exact next_step hti htw (by show L.length ≤ _; omega) (pre := dn) (by rw [hi3, hrem])
     rw [hn]
     have hE : (⟨(idn ((hdE rem).1)), (idn ((hdE rem).2.1))⟩ : Ent) = (⟨idn p.1, idn p.2⟩ : Ent) := by rw [hrem]; rfl
     have hes : ((entL dn) ++ [(⟨(idn ((hdE rem).1)), (idn ((hdE rem).2.1))⟩ : Ent)]) = entL (dn ++ [p]) := by rw [entL_step, if_pos (by rw [← hE]; exact of_decide_eq_false c10), ← hE]
     refine xs_mem (Bs := tbA b L S :: blkA g12 #[.int .i64 (idn ((hdE rem).1)), .int .i64 (idn ((hdE rem).2.1))] 167 :: blkA jb8 #[.int .i64 (idn ((hdE rem).1)), .int .i64 (idn ((hdE rem).2.1))] 167 :: own EntT v13 (entL (dn ++ [p])) :: blkA g2 #[.int .i64 (((hdE tl).2.1).kind), .int .i64 (((hdE tl).2.1).p), .int .i64 (((hdE tl).2.1).q), .string (((hdE tl).2.1).str), .int .i64 (((hdE tl).2.1).ref)] 71 :: blkA g1 #[.int .i64 (((hdE tl).1).kind), .int .i64 (((hdE tl).1).p), .int .i64 (((hdE tl).1).q), .string (((hdE tl).1).str), .int .i64 (((hdE tl).1).ref)] 71 :: F) (fun _ h => by rw [hes] at h; exact h) ?_
     exact xs_round (v13, dn ++ [p], tl) (by show tl.length < rem.length; rw [hrem]; simp) (by show _ = (dn ++ [p]) ++ tl; rw [hi3, hrem]; simp) (sub_of rfl ⟨⟨rfl, rfl⟩, ⟨⟨rfl, rfl⟩, ⟨⟨rfl, rfl⟩, ⟨⟨rfl, rfl⟩, ⟨⟨rfl, rfl⟩, ⟨⟨rfl, rfl⟩, trivial⟩⟩⟩⟩⟩⟩) (fun _ h => h.re [3, 3, 3, 0] [4, 4])
    ·
     have c14 := not_f c9
     have p15 := of_decide_eq_true c14
     refine k_st ?_
     refine k_reg ?_
     refine sp (pB b 0) ?_
     refine s_lt (t_loadA 3 #[.int .i64 (((hdE rem).1).kind), .int .i64 (((hdE rem).1).p), .int .i64 (((hdE rem).1).q), .string (((hdE rem).1).str), .int .i64 (((hdE rem).1).ref)]) ?_
     refine s_call [4] (tbnext_s (L := L) (S := S) (by (try simp only [lnm]); omega) (by (try simp only [lnm]); omega) ((hdE rem).1)) ?_
     rintro _ _ ⟨rfl, rfl⟩
     refine sp (.tuple #[.agg #[.int .i64 (((tnext ⟨L, S⟩ ((hdE rem).1)).1).kind), .int .i64 (((tnext ⟨L, S⟩ ((hdE rem).1)).1).p), .int .i64 (((tnext ⟨L, S⟩ ((hdE rem).1)).1).q), .string (((tnext ⟨L, S⟩ ((hdE rem).1)).1).str), .int .i64 (((tnext ⟨L, S⟩ ((hdE rem).1)).1).ref)], .agg #[.int .i64 (((tnext ⟨L, S⟩ ((hdE rem).1)).2.1).kind), .int .i64 (((tnext ⟨L, S⟩ ((hdE rem).1)).2.1).p), .int .i64 (((tnext ⟨L, S⟩ ((hdE rem).1)).2.1).q), .string (((tnext ⟨L, S⟩ ((hdE rem).1)).2.1).str), .int .i64 (((tnext ⟨L, S⟩ ((hdE rem).1)).2.1).ref)], .bool ((tnext ⟨L, S⟩ ((hdE rem).1)).2.2.1), .int .i64 ((tnext ⟨L, S⟩ ((hdE rem).1)).2.2.2)]) ?_
     refine sp (.agg #[.int .i64 (((tnext ⟨L, S⟩ ((hdE rem).1)).1).kind), .int .i64 (((tnext ⟨L, S⟩ ((hdE rem).1)).1).p), .int .i64 (((tnext ⟨L, S⟩ ((hdE rem).1)).1).q), .string (((tnext ⟨L, S⟩ ((hdE rem).1)).1).str), .int .i64 (((tnext ⟨L, S⟩ ((hdE rem).1)).1).ref)]) ?_
     refine sp (.agg #[.int .i64 (((tnext ⟨L, S⟩ ((hdE rem).1)).2.1).kind), .int .i64 (((tnext ⟨L, S⟩ ((hdE rem).1)).2.1).p), .int .i64 (((tnext ⟨L, S⟩ ((hdE rem).1)).2.1).q), .string (((tnext ⟨L, S⟩ ((hdE rem).1)).2.1).str), .int .i64 (((tnext ⟨L, S⟩ ((hdE rem).1)).2.1).ref)]) ?_
     refine sp (.bool ((tnext ⟨L, S⟩ ((hdE rem).1)).2.2.1)) ?_
     refine sp (.int .i64 ((tnext ⟨L, S⟩ ((hdE rem).1)).2.2.2)) ?_
     refine s_store 4 #[.int .i64 (((tnext ⟨L, S⟩ ((hdE rem).1)).1).kind), .int .i64 (((tnext ⟨L, S⟩ ((hdE rem).1)).1).p), .int .i64 (((tnext ⟨L, S⟩ ((hdE rem).1)).1).q), .string (((tnext ⟨L, S⟩ ((hdE rem).1)).1).str), .int .i64 (((tnext ⟨L, S⟩ ((hdE rem).1)).1).ref)] ?_
     refine s_store 3 #[.int .i64 (((tnext ⟨L, S⟩ ((hdE rem).1)).2.1).kind), .int .i64 (((tnext ⟨L, S⟩ ((hdE rem).1)).2.1).p), .int .i64 (((tnext ⟨L, S⟩ ((hdE rem).1)).2.1).q), .string (((tnext ⟨L, S⟩ ((hdE rem).1)).2.1).str), .int .i64 (((tnext ⟨L, S⟩ ((hdE rem).1)).2.1).ref)] ?_
     refine sp (.bool ((tnext ⟨L, S⟩ ((hdE rem).1)).2.2.1)) ?_
     refine sp (.int .i64 ((tnext ⟨L, S⟩ ((hdE rem).1)).2.2.2)) ?_
     refine s_nil ?_
     refine xs_block ?_
     have hn : tnext ⟨L, S⟩ ((hdE rem).1) = hdE tl := by rw [hrem]; exact next_step hti htw (by show L.length ≤ _; omega) (pre := dn) (by rw [hi3, hrem])
     rw [hn]
     have hE : (⟨(idn ((hdE rem).1)), (idn ((hdE rem).2.1))⟩ : Ent) = (⟨idn p.1, idn p.2⟩ : Ent) := by rw [hrem]; rfl
     have hes : (entL dn) = entL (dn ++ [p]) := by rw [entL_step, if_neg (fun hc => hc (by rw [← hE]; exact of_decide_eq_true c14))]
     refine xs_mem (Bs := tbA b L S :: blkA jb8 #[.int .i64 (idn ((hdE rem).1)), .int .i64 (idn ((hdE rem).2.1))] 167 :: own EntT lx (entL (dn ++ [p])) :: blkA g2 #[.int .i64 (((hdE tl).2.1).kind), .int .i64 (((hdE tl).2.1).p), .int .i64 (((hdE tl).2.1).q), .string (((hdE tl).2.1).str), .int .i64 (((hdE tl).2.1).ref)] 71 :: blkA g1 #[.int .i64 (((hdE tl).1).kind), .int .i64 (((hdE tl).1).p), .int .i64 (((hdE tl).1).q), .string (((hdE tl).1).str), .int .i64 (((hdE tl).1).ref)] 71 :: F) (fun _ h => by rw [hes] at h; exact h) ?_
     exact xs_round (lx, dn ++ [p], tl) (by show tl.length < rem.length; rw [hrem]; simp) (by show _ = (dn ++ [p]) ++ tl; rw [hi3, hrem]; simp) (sub_of rfl ⟨⟨rfl, rfl⟩, ⟨⟨rfl, rfl⟩, ⟨⟨rfl, rfl⟩, ⟨⟨rfl, rfl⟩, ⟨⟨rfl, rfl⟩, ⟨⟨rfl, rfl⟩, trivial⟩⟩⟩⟩⟩⟩) (fun _ h => h.re [2, 2, 2, 0] [4])
  ·
   have hrem := hd_none c5
   refine k_exit ?_
   refine xs_exit ?_
   refine xs_exit ?_
   refine xs_here ?_
   refine xs_then ?_
   refine k_sr ?_
   refine sp lx ?_
   refine sp lx ?_
   refine s_nt ?_
   refine k_ret ?_
   have hend : entL dn = entsOf ⟨L, S⟩ := by unfold entsOf; rw [hi3, hrem, List.append_nil]
   rw [hend]
   exact xs_fin [lx] (own EntT lx (entsOf ⟨L, S⟩) :: tbA b L S :: F) (SI.tmp 2 SI.nil) (fun _ h => h.re [0, 2] [2, 2]) rfl
theorem obsize_s {Z : Zone} {F : List Asr} {q : Nat × Nat} {o : Hob} (hl : o.tab.list.length ≤ 100000) (hs : o.tab.rest.length ≤ 100000) (hv : o.vals.length ≤ 100000) : SF Tryz.prog 109 #[ptrV q.1] Z (obP q o :: F) fun r Bs => r = .int .i64 (obSize o) ∧ Bs = obP q o :: F := by
 refine sf_enter Tryz.func109 31 [(0, pB q.1 0)] (fun w0 => ?_)
 refine k_memX (fun H h => ob_open (h.re [0] [])) (fun v1 hw => ?_)
 have htz : 0 ≤ tabSize ⟨o.tab.list, o.tab.rest⟩ ∧ tabSize ⟨o.tab.list, o.tab.rest⟩ ≤ 700000 := by unfold tabSize; dsimp only; omega
 refine k_sr ?_
 refine sp (.int .i64 0) ?_
 refine s_nt ?_
 refine k_seq ?_
 refine k_sr ?_
 refine sp (pB q.1 0) ?_
 refine sp (pB q.1 0) ?_
 refine sp (pB q.1 0) ?_
 refine s_lt (t_load 0 (.int .i64 o.kind)) ?_
 refine s_nt ?_
 refine k_block ?_
 refine k_sr ?_
 refine s_lt t_cmp ?_
 refine sp (.bool (decide (o.kind = 4))) ?_
 refine s_nt ?_
 refine k_cond (decide (o.kind = 4)) (fun c2 => ?_) (fun c2 => ?_)
 ·
  have p3 := of_decide_eq_true c2
  refine k_sr ?_
  refine sp (pB q.1 0) ?_
  refine sp (pB q.1 0) ?_
  refine sp (pB q.1 3) ?_
  refine s_lt (Lt.to (v' := ptrV q.2) (t_load 0 (tabV q o)) (by unfold tabV; rw [if_pos (of_decide_eq_true c2)])) ?_
  refine s_mem (fun _ h => tabO_open (of_decide_eq_true c2) (h.re [2] [])) ?_
  refine s_call [0] (tbsize_s (L := o.tab.list) (S := o.tab.rest) (by (try simp only [lnm]); omega) (by (try simp only [lnm]); omega)) ?_
  rintro _ _ ⟨rfl, rfl⟩
  refine s_lt (t_add 8 (tabSize ⟨o.tab.list, o.tab.rest⟩) (by (try simp only [lnm]); omega)) ?_
  refine sp (.int .i64 (8 + (tabSize ⟨o.tab.list, o.tab.rest⟩))) ?_
  refine s_nt ?_
  refine k_ret ?_
  refine xs_retBlock ?_
  refine xs_ret ?_
  refine xs_mem (fun _ h => tabO_shut (T := o.tab) (of_decide_eq_true c2) (h.re [0] [])) ?_
  refine xs_mem (Bs := tabO q o :: blkA q.1 #[.int .i64 o.kind, .int .i64 o.tag, .string o.name, (tabV q o), .int .i64 o.mt.kind, .int .i64 o.mt.p, .int .i64 o.mt.q, .string o.mt.str, .int .i64 o.mt.ref, v1] 123 :: own VlT v1 o.vals :: F) (fun _ h => h) ?_
  refine xs_mem (fun _ h => ob_shut (o := o) (h.re [1, 1, 0] [])) ?_
  have hp : obSize o = (8 + (tabSize ⟨o.tab.list, o.tab.rest⟩)) := by unfold obSize; rw [if_pos (of_decide_eq_true c2)]
  exact xs_fin [.int .i64 (8 + (tabSize ⟨o.tab.list, o.tab.rest⟩))] (obP q o :: F) (SI.tmp 2 SI.nil) (fun _ h => h.re [0] []) ⟨by rw [hp]; rfl, rfl⟩
 ·
  have p4 := of_decide_eq_false c2
  refine k_sr ?_
  refine s_lt t_cmp ?_
  refine sp (.bool (decide (o.kind = 5))) ?_
  refine s_nt ?_
  refine k_cond (decide (o.kind = 5)) (fun c5 => ?_) (fun c5 => ?_)
  ·
   have p6 := of_decide_eq_true c5
   refine k_sr ?_
   refine sp (pB q.1 0) ?_
   refine sp (pB q.1 0) ?_
   refine sp (pB q.1 9) ?_
   refine s_lt (t_load 0 v1) ?_
   refine s_lt (t_len VlT_ok Tryz.underlying28 (.own 1)) ?_
   refine s_lt (t_add 8 (o.vals.length : Int) (by (try simp only [lnm]); omega)) ?_
   refine sp (.int .i64 (8 + (o.vals.length : Int))) ?_
   refine s_nt ?_
   refine k_ret ?_
   refine xs_retBlock ?_
   refine xs_ret ?_
   refine xs_mem (fun _ h => ob_shut (o := o) (h.re [0, 0, 0] [])) ?_
   have hp : obSize o = (8 + (o.vals.length : Int)) := by unfold obSize; rw [if_neg (of_decide_eq_false c2), if_pos (of_decide_eq_true c5)]
   exact xs_fin [.int .i64 (8 + (o.vals.length : Int))] (obP q o :: F) (SI.tmp 2 SI.nil) (fun _ h => h.re [0] []) ⟨by rw [hp]; rfl, rfl⟩
  ·
   have p7 := of_decide_eq_false c5
   refine k_sr ?_
   refine s_lt t_cmp ?_
   refine sp (.bool (decide (o.kind = 7))) ?_
   refine s_nt ?_
   refine k_cond (decide (o.kind = 7)) (fun c8 => ?_) (fun c8 => ?_)
   ·
    have p9 := of_decide_eq_true c8
    refine k_sr ?_
    refine sp (pB q.1 0) ?_
    refine sp (pB q.1 0) ?_
    refine sp (pB q.1 9) ?_
    refine s_lt (t_load 0 v1) ?_
    refine s_lt (t_len VlT_ok Tryz.underlying28 (.own 1)) ?_
    refine s_lt (t_add 16 (o.vals.length : Int) (by (try simp only [lnm]); omega)) ?_
    refine sp (.int .i64 (16 + (o.vals.length : Int))) ?_
    refine s_nt ?_
    refine k_ret ?_
    refine xs_retBlock ?_
    refine xs_ret ?_
    refine xs_mem (fun _ h => ob_shut (o := o) (h.re [0, 0, 0] [])) ?_
    have hp : obSize o = (16 + (o.vals.length : Int)) := by unfold obSize; rw [if_neg (of_decide_eq_false c2), if_neg (of_decide_eq_false c5), if_pos (of_decide_eq_true c8)]
    exact xs_fin [.int .i64 (16 + (o.vals.length : Int))] (obP q o :: F) (SI.tmp 2 SI.nil) (fun _ h => h.re [0] []) ⟨by rw [hp]; rfl, rfl⟩
   ·
    have p10 := of_decide_eq_false c8
    refine k_skip ?_
    refine xs_block ?_
    refine xs_then ?_
    refine k_sr ?_
    refine sp (.int .i64 12) ?_
    refine s_nt ?_
    refine k_ret ?_
    refine xs_mem (fun _ h => ob_shut (o := o) (h.re [0, 0, 0] [])) ?_
    have hp : obSize o = 12 := by unfold obSize; rw [if_neg (of_decide_eq_false c2), if_neg (of_decide_eq_false c5), if_neg (of_decide_eq_false c8)]
    exact xs_fin [.int .i64 12] (obP q o :: F) (SI.tmp 2 SI.nil) (fun _ h => h.re [0] []) ⟨by rw [hp]; rfl, rfl⟩
theorem ob_bound {st : Hst} {n : Nat} (hsm : HSm n st) (hn : n ≤ 300) {id : Int} {o : Hob} (ho : st.get id = some o) : o.tab.list.length ≤ 90300 ∧ o.tab.rest.length ≤ 300 ∧ o.vals.length ≤ 320 := by
  obtain ⟨h1, h2, h3⟩ := hsm.obs o (get_mem ho).1
  have h4 : n * (n + 1) ≤ 300 * 301 := Nat.mul_le_mul (by omega) (by omega)
  exact ⟨by omega, by omega, by omega⟩
theorem obsize_bound {st : Hst} {n : Nat} (hsm : HSm n st) (hn : n ≤ 300) {id : Int} {o : Hob} (ho : st.get id = some o) : 0 ≤ obSize o ∧ obSize o ≤ 200000 := by
  obtain ⟨h1, h2, h3⟩ := ob_bound hsm hn ho
  unfold obSize tabSize
  repeat' split
  all_goals omega
theorem hids_s {Z : Zone} {F : List Asr} {b : Nat} {st : Hst} {n : Nat} (hsm : HSm n st) (hn : n ≤ 300) : SF Tryz.prog 23 #[.pointer (some ⟨b, 0, none⟩)] Z (hpA b st :: F) fun r Bs => Bs = own iTy r (hids st) :: hpA b st :: F := by
 refine sf_enter Tryz.func23 11 [(0, pB b 0)] (fun w0 => ?_)
 refine k_memX (fun H h => hpA_open (h.re [0] [])) (fun ps1 _ => ?_)
 refine k_fact (fun H h => hp_facts (h.re [0] [])) (fun hf2 => ?_)
 obtain ⟨hi3, ha4⟩ := hf2
 refine k_mem3 (fun H h => hp_open (h.re [0] [])) (fun mb5 tb6 tm7 hw => ?_)
 obtain ⟨hi8, ha9, ht10⟩ := hw
 refine k_fact (fun H h => (h.mp (i := 1) rfl).nodup) (fun hnd0 => ?_)
 refine k_sr ?_
 refine sp (.slice none 0 0) ?_
 refine s_nt ?_
 refine k_seq ?_
 refine k_sr ?_
 refine sp (pB b 0) ?_
 refine sp (.bool false) ?_
 refine s_nt ?_
 refine k_false ?_
 refine k_st ?_
 refine k_sr ?_
 refine sp (pB b 0) ?_
 refine sp (pB b 0) ?_
 refine sp (pB b 0) ?_
 refine s_lt (t_load 0 (.map (some mb5))) ?_
 refine s_pcall (fun _ h => keys_s mb5) ?_
 rintro _ _ ⟨g11, rfl, rfl⟩
 refine s_call [0, 1] (sorted_s (ps := ps1) (keys_wf ha9 (by have := hsm.len; omega)) (by have := ha9.len; have := count_le st; have := hsm.len; omega)) ?_
 rintro v12 _ rfl
 refine sp v12 ?_
 refine s_nt ?_
 refine k_ret ?_
 refine xs_mem (fun _ h => hp_shut (st := st) (n := (st.objs.length : Int)) ⟨⟨hi8, ha9, ht10⟩, rfl⟩ (h.re [2, 1, 1, 1] [])) ?_
 refine xs_mem (fun _ h => hpA_shut (h.re [0] [])) ?_
 have hk : (srt (ps1.map Prod.fst)) = hids st := keys_srt ha9 hnd0
 rw [hk]
 exact xs_fin [v12] (own iTy v12 (hids st) :: hpA b st :: F) (SI.tmp 2 SI.nil) (fun _ h => h.re [1, 0] []) rfl
theorem halive0_s {Z : Zone} {F : List Asr} {b mb tb : Nat} {n : Value} {ps : List (Int × (Nat × Nat))} (id : Int) : SF Tryz.prog 17 #[.pointer (some ⟨b, 0, none⟩), .int .i64 id] Z (blkA b #[.map (some mb), n, .map (some tb)] 97 :: mpA iK oV mb ps :: F) fun r Bs => r = .bool (aget ps id).isSome ∧ Bs = blkA b #[.map (some mb), n, .map (some tb)] 97 :: mpA iK oV mb ps :: F := by
 refine sf_enter Tryz.func17 16 [(0, pB b 0), (1, .int .i64 id)] (fun w0 => ?_)
 refine k_sr ?_
 refine sp (.bool false) ?_
 refine s_nr ?_
 refine sp (pB b 0) ?_
 refine sp (.bool true) ?_
 refine sp (.bool true) ?_
 refine sp (pB b 0) ?_
 refine sp (pB b 0) ?_
 refine sp (pB b 0) ?_
 refine s_lt (t_load 0 (.map (some mb))) ?_
 refine sp (.int .i64 id) ?_
 rcases hq1 : aget ps id with _ | q2
 ·
  refine s_lt (Lt.to (v' := .pointer none) (t_lookup 1 intOk Tryz.underlying94 (.pointer none) id) (by rw [hq1]; rfl)) ?_
  refine sp (.bool false) ?_
  refine sp (.bool false) ?_
  refine sp (.bool false) ?_
  refine s_nt ?_
  refine k_ret ?_
  exact xs_fin [.bool false] (blkA b #[.map (some mb), n, .map (some tb)] 97 :: mpA iK oV mb ps :: F) (SI.tmp 4 SI.nil) (fun _ h => h.re [0, 0] []) ⟨by first | rfl | (rw [hq1]; rfl), rfl⟩
 ·
  refine s_lt (Lt.to (v' := ptrV q2.1) (t_lookup 1 intOk Tryz.underlying94 (.pointer none) id) (by rw [hq1]; rfl)) ?_
  refine sp (.bool true) ?_
  refine sp (.bool true) ?_
  refine sp (.bool true) ?_
  refine s_nt ?_
  refine k_ret ?_
  exact xs_fin [.bool true] (blkA b #[.map (some mb), n, .map (some tb)] 97 :: mpA iK oV mb ps :: F) (SI.tmp 4 SI.nil) (fun _ h => h.re [0, 0] []) ⟨by first | rfl | (rw [hq1]; rfl), rfl⟩
end Go.Proofs.YtmhpcebiamkciaaGreat
end
section
set_option linter.unusedSimpArgs false
set_option linter.unusedVariables false
set_option maxRecDepth 100000
set_option maxHeartbeats 2000000
namespace Go.Proofs.YtmhpcebiamkciaaGreat
open Go.Hp Go.J Go.S
open Go.Mem (Ty KTy blk elemAt pre suf blk_pre blk_suf aget aset strK aggDesc)
open Go.Mem (adel apos aget_aset aget_adel)
theorem hobject_s {Z : Zone} {F : List Asr} {b : Nat} {st : Hst} {n : Nat} (hsm : HSm n st) (hn : n ≤ 300) (hw : HW st) (id weak : Int) : SF Tryz.prog 51 #[.pointer (some ⟨b, 0, none⟩), .int .i64 id, .int .i64 weak] Z (hpA b st :: F) fun r Bs => ∃ rv ev, r = .tuple #[.agg #[.int .i64 (hoId st id), .int .i64 (hoSz st id), .int .i64 (hoWk st id weak), rv, ev], .bool (halive st id)] ∧ Bs = own iTy rv (hrefs st id) :: own EntT ev (hents st id) :: hpA b st :: F := by
 refine sf_enter Tryz.func51 73 [(0, pB b 0), (1, .int .i64 id), (2, .int .i64 weak)] (fun w0 => ?_)
 refine k_sr ?_
 refine s_alloc (.agg #[.int .i64 0, .int .i64 0, .int .i64 0, (.slice none 0 0), (.slice none 0 0)]) #[.int .i64 0, .int .i64 0, .int .i64 0, (.slice none 0 0), (.slice none 0 0)] (fun g1 => ?_)
 refine sp (.bool false) ?_
 refine s_nt ?_
 refine k_seq ?_
 refine k_sr ?_
 refine sp (pB b 0) ?_
 refine sp (.int .i64 id) ?_
 refine s_call [1] (halive_s (st := st) id) ?_
 rintro _ _ ⟨rfl, rfl⟩
 refine sp (.bool (!(halive st id))) ?_
 refine s_nt ?_
 refine k_cond (!(halive st id)) (fun c2 => ?_) (fun c2 => ?_)
 ·
  have c3 := not_t c2
  refine k_sr ?_
  refine s_lt (t_kern (.agg #[.int .i64 0, .int .i64 0, .int .i64 0, (.slice none 0 0), (.slice none 0 0)])) ?_
  refine s_store 1 #[.int .i64 0, .int .i64 0, .int .i64 0, (.slice none 0 0), (.slice none 0 0)] ?_
  refine sp (.bool false) ?_
  refine s_nt ?_
  refine k_ret ?_
  refine xs_ret ?_
  refine xs_mem (fun _ h => Holds.nilS (T := EntT) h) ?_
  refine xs_mem (fun _ h => Holds.nilS (T := iTy) h) ?_
  have hg0 : st.get id = none := by have h0 := c3; unfold halive at h0; cases hg : st.get id with | none => rfl | some o => rw [hg] at h0; cases h0
  have ho := obj_none hg0 weak
  exact xs_fin [.agg #[.int .i64 0, .int .i64 0, .int .i64 0, (.slice none 0 0), (.slice none 0 0)], .bool false] (own iTy (.slice none 0 0) [] :: own EntT (.slice none 0 0) [] :: hpA b st :: F) (SI.agg 6 100 3 (SI.tmp 7 SI.nil)) (fun _ h => h.re [0, 0, 0] [3]) ⟨(.slice none 0 0), (.slice none 0 0), by rw [ho.1, ho.2.1, ho.2.2.1, ho.2.2.2.1]; rfl, by rw [ho.2.2.2.2.1, ho.2.2.2.2.2]⟩
 ·
  have c4 := not_f c2
  refine k_st ?_
  refine k_seq ?_
  refine k_memX (fun H h => hpA_open (h.re [0] [])) (fun ps5 _ => ?_)
  refine k_fact (fun H h => hp_facts (h.re [0] [])) (fun hf6 => ?_)
  obtain ⟨hi7, ha8⟩ := hf6
  refine k_mem3 (fun H h => hp_open (h.re [0] [])) (fun mb9 tb10 tm11 hw => ?_)
  obtain ⟨hi12, ha13, ht14⟩ := hw
  refine k_reg ?_
  refine sp (pB b 0) ?_
  refine sp (pB b 0) ?_
  refine sp (pB b 0) ?_
  refine s_lt (t_load 0 (.map (some mb9))) ?_
  refine sp (.int .i64 id) ?_
  rcases get_cases ha13 id with ⟨hg15, hq16⟩ | ⟨o17, q18, ho19, hq20⟩
  ·
   exfalso; simp_all [halive]
  ·
   refine s_lt (Lt.to (v' := ptrV q18.1) (t_lookup 1 intOk Tryz.underlying94 (.pointer none) id) (by rw [hq20]; rfl)) ?_
   refine sp (pB q18.1 0) ?_
   refine s_nr ?_
   refine sp (.int .i64 id) ?_
   refine sp (pB q18.1 0) ?_
   refine s_fact (fun H h => (h.mp (i := 1) rfl).nodup) (fun hnd21 => ?_)
   obtain ⟨hz1, hz2, hz3⟩ := ob_bound hsm hn ho19
   refine s_mem (fun _ h => all_take hq20 ho19 (h.re [3] [])) ?_
   refine s_call [0] (obsize_s (q := q18) (o := o17) (by omega) (by omega) (by omega)) ?_
   rintro _ _ ⟨rfl, rfl⟩
   refine s_mem (fun _ h => all_back hnd21 hq20 ho19 h) ?_
   refine s_lt (t_kern (.agg #[.int .i64 id, .int .i64 (obSize o17), .int .i64 0, (.slice none 0 0), (.slice none 0 0)])) ?_
   refine s_alloc (.agg #[.int .i64 0, .int .i64 0, .int .i64 0, (.slice none 0 0), (.slice none 0 0)]) #[.int .i64 0, .int .i64 0, .int .i64 0, (.slice none 0 0), (.slice none 0 0)] (fun g22 => ?_)
   refine s_store 0 #[.int .i64 id, .int .i64 (obSize o17), .int .i64 0, (.slice none 0 0), (.slice none 0 0)] ?_
   refine s_nt ?_
   refine k_seq ?_
   refine k_seq ?_
   obtain ⟨hb1, hb2, hb3⟩ := ob_bound hsm hn ho19
   refine k_memX (fun H h => all_focus hq20 ho19 (h.re [1] [])) (fun v23 _ => ?_)
   refine k_held [blkA q18.1 #[.int .i64 o17.kind, .int .i64 o17.tag, .string o17.name, (tabV q18 o17), .int .i64 o17.mt.kind, .int .i64 o17.mt.p, .int .i64 o17.mt.q, .string o17.mt.str, .int .i64 o17.mt.ref, v23] 123, own VlT v23 o17.vals, blkA g22 #[.int .i64 id, .int .i64 (obSize o17), .int .i64 0, (.slice none 0 0), (.slice none 0 0)] 100, blkA b #[.map (some mb9), .int .i64 (st.objs.length : Int), .map (some tb10)] 97, mpA iK oV mb9 ps5, mpA iK bV tb10 tm11, blkA g1 #[.int .i64 0, .int .i64 0, .int .i64 0, (.slice none 0 0), (.slice none 0 0)] 100] ?_
   refine hp_ 0 [0, 0, 2, 2, 2, 2, 2] (pB q18.1 0) ?_
   refine hp_ 1 [0, 0, 2, 2, 2, 2, 2] (pB q18.1 0) ?_
   refine hp_ 2 [0, 0, 2, 2, 2, 2, 2] (pB q18.1 4) ?_
   refine h_l 3 rfl [0, 0, 2, 2, 2, 2, 2] (fun _ => (t_loadA 0 #[.int .i64 o17.mt.kind, .int .i64 o17.mt.p, .int .i64 o17.mt.q, .string o17.mt.str, .int .i64 o17.mt.ref])) ?_
   refine hp_ 5 [0, 0, 2, 2, 2, 2, 2] (pB q18.1 0) ?_
   refine hp_ 6 [0, 0, 2, 2, 2, 2, 2] (pB q18.1 0) ?_
   refine hp_ 7 [0, 0, 2, 2, 2, 2, 2] (pB q18.1 9) ?_
   refine h_l 8 rfl [0, 0, 2, 2, 2, 2, 2] (fun _ => (t_load 0 v23)) ?_
   refine hp_ 11 [0, 0, 2, 2, 2, 2, 2] (.int .i64 0) ?_
   refine h_stepS 4 ?_
   refine s_buildSlice (e := 71) [(0, .agg #[.int .i64 o17.mt.kind, .int .i64 o17.mt.p, .int .i64 o17.mt.q, .string o17.mt.str, .int .i64 o17.mt.ref])] #[.int .i64 o17.mt.kind, .int .i64 o17.mt.p, .int .i64 o17.mt.q, .string o17.mt.str, .int .i64 o17.mt.ref] (fun g24 => ?_) (hb := by kernel_rfl)
   refine s_nil (xs_held [1, 1, 3, 3, 3, 3, 3] ?_)
   refine h_stepS 9 ?_
   refine s_mem (fun _ h => Holds.slice 0 h VlT_ok [o17.mt]) ?_
   refine s_append (L := [o17.mt]) 0 VlT_ok Tryz.underlying28 (.own 2) (by show _ * 48 ≤ _; (try simp only [lnm]); omega) (by (try simp only [lnm]); omega) (fun v25 => ?_)
   refine s_nil (xs_held [1, 1, 3, 3, 3, 3, 3] ?_)
   refine h_stepS 10 ?_
   refine s_lt (t_len VlT_ok Tryz.underlying28 (.own 0)) ?_
   refine s_nil (xs_held [1, 1, 3, 3, 3, 3, 3] ?_)
   refine h_doneS ?_
   refine xs_then ?_
   refine k_block ?_
   refine k_fact (fun H h => (h.mp (i := 7) rfl).nodup) (fun hnd26 => ?_)
   refine k_mem (fun _ h => (put_same ho19) ▸ all_unfocus (o' := o17) hnd26 hq20 ho19 (ob_shut (o := o17) (h.re [1, 1, 1, 1] []))) ?_
   refine k_mem (Bs := allP ps5 st :: own VlT v25 ([o17.mt] ++ o17.vals) :: blkA g22 #[.int .i64 id, .int .i64 (obSize o17), .int .i64 0, (.slice none 0 0), (.slice none 0 0)] 100 :: blkA b #[.map (some mb9), .int .i64 (st.objs.length : Int), .map (some tb10)] 97 :: mpA iK oV mb9 ps5 :: mpA iK bV tb10 tm11 :: blkA g1 #[.int .i64 0, .int .i64 0, .int .i64 0, (.slice none 0 0), (.slice none 0 0)] 100 :: F) (fun _ h => h) ?_
   refine k_mem (fun _ h => hp_shut (st := st) (n := (st.objs.length : Int)) ⟨⟨hi12, ha13, ht14⟩, rfl⟩ (h.re [3, 3, 3, 0] [])) ?_
   refine k_mem (fun _ h => Holds.nilS (T := iTy) h) ?_
   refine k_mem (Bs := own iTy (.slice none 0 0) (refsL (o17.mt :: o17.vals) 0) :: hpP b st ps5 :: own VlT v25 (o17.mt :: o17.vals) :: blkA g22 #[.int .i64 id, .int .i64 (obSize o17), .int .i64 0, (.slice none 0 0), (.slice none 0 0)] 100 :: blkA g1 #[.int .i64 0, .int .i64 0, .int .i64 0, (.slice none 0 0), (.slice none 0 0)] 100 :: F) (fun _ h => h) ?_
   have hll : (o17.mt :: o17.vals).length = o17.vals.length + 1 := rfl
   refine k_loop (ι := Value × Nat) (fun (rx, i) => i ≤ (o17.mt :: o17.vals).length) (fun (rx, i) => [(2, .int .i64 weak), (6, pB g1 0), (8, pB q18.1 0), (9, pB g22 0), (36, v25), (37, .int .i64 ((o17.mt :: o17.vals).length : Int)), (38, .int .i64 (i : Int))]) (fun (rx, i) => own iTy rx (refsL (o17.mt :: o17.vals) i) :: hpP b st ps5 :: own VlT v25 (o17.mt :: o17.vals) :: blkA g22 #[.int .i64 id, .int .i64 (obSize o17), .int .i64 0, rx, (.slice none 0 0)] 100 :: blkA g1 #[.int .i64 0, .int .i64 0, .int .i64 0, (.slice none 0 0), (.slice none 0 0)] 100 :: F) (fun (rx, i) => (o17.mt :: o17.vals).length - i) ((.slice none 0 0), 0) (Nat.zero_le _) (sub_of rfl ⟨⟨rfl, rfl⟩, ⟨⟨rfl, rfl⟩, ⟨⟨rfl, rfl⟩, ⟨⟨rfl, rfl⟩, ⟨⟨rfl, rfl⟩, ⟨⟨rfl, congrArg (Value.int .i64) (by first | rfl | (simp only [lnm]; omega))⟩, ⟨⟨rfl, rfl⟩, trivial⟩⟩⟩⟩⟩⟩⟩) (fun _ h => h.re [0, 0, 0, 0, 0] []) ?_
   rintro ⟨rx, i⟩ hi27
   replace hi27 : i ≤ (o17.mt :: o17.vals).length := hi27
   show SK _ _ _ _ _ [(2, .int .i64 weak), (6, .pointer (some ⟨g1, 0, none⟩)), (8, .pointer (some ⟨q18.1, 0, none⟩)), (9, .pointer (some ⟨g22, 0, none⟩)), (36, v25), (37, .int .i64 ((o17.mt :: o17.vals).length : Int)), (38, .int .i64 (i : Int))] _ (own iTy rx (refsL (o17.mt :: o17.vals) i) :: hpP b st ps5 :: own VlT v25 (o17.mt :: o17.vals) :: blkA g22 #[.int .i64 id, .int .i64 (obSize o17), .int .i64 0, rx, (.slice none 0 0)] 100 :: blkA g1 #[.int .i64 0, .int .i64 0, .int .i64 0, (.slice none 0 0), (.slice none 0 0)] 100 :: F)
   have hrl := refsL_len (o17.mt :: o17.vals) i
   refine k_sr ?_
   refine s_lt t_cmp ?_
   refine s_nt ?_
   refine k_seq ?_
   refine k_cond (decide ((i : Int) < ((o17.mt :: o17.vals).length : Int))) (fun c28 => ?_) (fun c28 => ?_)
   ·
    have p29 := of_decide_eq_true c28
    refine k_st ?_
    refine k_seq ?_
    refine k_block ?_
    refine k_sr ?_
    refine s_lt (t_index VlT_ok Tryz.underlying28 (.own 2) (i : Int) i (by omega) (by (try simp only [lnm]); omega) (by omega)) ?_
    obtain ⟨y30, hy31⟩ : ∃ y, (o17.mt :: o17.vals)[i]? = some y := ⟨_, List.getElem?_eq_getElem (by (try simp only [lnm]); omega)⟩
    refine s_lt (t_loadE VlT_ok (.own 2) hy31) ?_
    refine s_alloc (.agg #[.int .i64 0, .int .i64 0, .int .i64 0, .string ByteArray.empty, .int .i64 0]) #[.int .i64 0, .int .i64 0, .int .i64 0, .string ByteArray.empty, .int .i64 0] (fun g32 => ?_)
    refine s_store 0 #[.int .i64 y30.kind, .int .i64 y30.p, .int .i64 y30.q, .string y30.str, .int .i64 y30.ref] ?_
    refine s_nr ?_
    refine s_lt (t_loadA 0 #[.int .i64 y30.kind, .int .i64 y30.p, .int .i64 y30.q, .string y30.str, .int .i64 y30.ref]) ?_
    refine s_vcall (fun _ h => ident_s y30) ?_
    rintro _ rfl
    refine s_lt t_cmp ?_
    refine s_nt ?_
    refine k_cond (decide ((idn y30) ≠ 0)) (fun c33 => ?_) (fun c33 => ?_)
    ·
     have p34 := of_decide_eq_true c33
     refine k_held [blkA g32 #[.int .i64 y30.kind, .int .i64 y30.p, .int .i64 y30.q, .string y30.str, .int .i64 y30.ref] 71, own VlT v25 (o17.mt :: o17.vals), blkA g1 #[.int .i64 0, .int .i64 0, .int .i64 0, (.slice none 0 0), (.slice none 0 0)] 100] ?_
     refine hp_ 0 [0, 2, 3] (pB g22 3) ?_
     refine h_l 2 rfl [0, 2, 3] (fun _ => (t_loadA 0 #[.int .i64 y30.kind, .int .i64 y30.p, .int .i64 y30.q, .string y30.str, .int .i64 y30.ref])) ?_
     refine h_stepS2 1 3 ?_ ?_
     ·
      refine s_lt (t_load 4 rx) ?_
      refine s_nil (xs_held [0, 2, 3] ?_)
      refine h_stepS 3 ?_
      refine s_vcall (fun _ h => ident_s y30) ?_
      rintro _ rfl
      refine s_nil (xs_held [0, 2, 3] ?_)
      refine h_stepS 4 ?_
      refine s_buildSlice (e := 3) [(0, .int .i64 (idn y30))] #[.int .i64 (idn y30)] (fun g35 => ?_) (hb := by kernel_rfl)
      refine s_nil (xs_held [1, 3, 4] ?_)
      refine h_stepS 5 ?_
      refine s_append (L := (refsL (o17.mt :: o17.vals) i)) 2 iTy_ok Tryz.underlying23 (.lit 0 iTy_ok [(idn y30)]) (by show _ * 8 ≤ _; (try simp only [lnm]); omega) (by (try simp only [lnm]); omega) (fun v36 => ?_)
      refine s_nil (xs_held [1, 3, 4] ?_)
      refine hp_ 6 [1, 3, 4] (pB g22 3) ?_
      refine h_stepS 7 ?_
      refine s_fact (fun H h => ((Acc.own (T := iTy) (L := ((refsL (o17.mt :: o17.vals) i) ++ [(idn y30)])) 2 rfl) H h).form) (fun hf37 => ?_)
      refine s_store (u := v36) (m := 1) 5 #[.int .i64 id, .int .i64 (obSize o17), .int .i64 0, v36, (.slice none 0 0)] ?_ (hm := by (obtain ⟨_, _, e⟩ := hf37; rw [e]; rfl)) (h1 := by (obtain ⟨_, _, e⟩ := hf37; rw [e]; rfl)) (ha' := by (obtain ⟨_, _, e⟩ := hf37; rw [e]; rfl))
      refine s_nil (xs_held [1, 3, 4] ?_)
      refine h_doneS ?_
      refine xs_block ?_
      refine xs_then ?_
      refine k_reg ?_
      refine s_lt (t_add (i : Int) 1 (by (try simp only [lnm]); omega)) ?_
      refine sp (.int .i64 ((i : Int) + 1)) ?_
      refine s_nil ?_
      have hst := refsL_step hy31
      rw [if_pos (of_decide_eq_true c33)] at hst
      rw [← hst]
      exact xs_round (v36, i + 1) (by show (o17.mt :: o17.vals).length - (i + 1) < (o17.mt :: o17.vals).length - i; omega) (by show i + 1 ≤ (o17.mt :: o17.vals).length; omega) (sub_of rfl ⟨⟨rfl, rfl⟩, ⟨⟨rfl, rfl⟩, ⟨⟨rfl, rfl⟩, ⟨⟨rfl, rfl⟩, ⟨⟨rfl, rfl⟩, ⟨⟨rfl, rfl⟩, ⟨⟨rfl, rfl⟩, trivial⟩⟩⟩⟩⟩⟩⟩) (fun _ h => h.re [2, 2, 2, 2, 2] [5, 5])
     ·
      refine s_vcall (fun _ h => ident_s y30) ?_
      rintro _ rfl
      refine s_nil (xs_held [0, 2, 3] ?_)
      refine h_stepS2 1 4 ?_ ?_
      ·
       refine s_lt (t_load 4 rx) ?_
       refine s_nil (xs_held [0, 2, 3] ?_)
       refine h_stepS 4 ?_
       refine s_buildSlice (e := 3) [(0, .int .i64 (idn y30))] #[.int .i64 (idn y30)] (fun g38 => ?_) (hb := by kernel_rfl)
       refine s_nil (xs_held [1, 3, 4] ?_)
       refine h_stepS 5 ?_
       refine s_append (L := (refsL (o17.mt :: o17.vals) i)) 2 iTy_ok Tryz.underlying23 (.lit 0 iTy_ok [(idn y30)]) (by show _ * 8 ≤ _; (try simp only [lnm]); omega) (by (try simp only [lnm]); omega) (fun v39 => ?_)
       refine s_nil (xs_held [1, 3, 4] ?_)
       refine hp_ 6 [1, 3, 4] (pB g22 3) ?_
       refine h_stepS 7 ?_
       refine s_fact (fun H h => ((Acc.own (T := iTy) (L := ((refsL (o17.mt :: o17.vals) i) ++ [(idn y30)])) 2 rfl) H h).form) (fun hf40 => ?_)
       refine s_store (u := v39) (m := 1) 5 #[.int .i64 id, .int .i64 (obSize o17), .int .i64 0, v39, (.slice none 0 0)] ?_ (hm := by (obtain ⟨_, _, e⟩ := hf40; rw [e]; rfl)) (h1 := by (obtain ⟨_, _, e⟩ := hf40; rw [e]; rfl)) (ha' := by (obtain ⟨_, _, e⟩ := hf40; rw [e]; rfl))
       refine s_nil (xs_held [1, 3, 4] ?_)
       refine h_doneS ?_
       refine xs_block ?_
       refine xs_then ?_
       refine k_reg ?_
       refine s_lt (t_add (i : Int) 1 (by (try simp only [lnm]); omega)) ?_
       refine sp (.int .i64 ((i : Int) + 1)) ?_
       refine s_nil ?_
       have hst := refsL_step hy31
       rw [if_pos (of_decide_eq_true c33)] at hst
       rw [← hst]
       exact xs_round (v39, i + 1) (by show (o17.mt :: o17.vals).length - (i + 1) < (o17.mt :: o17.vals).length - i; omega) (by show i + 1 ≤ (o17.mt :: o17.vals).length; omega) (sub_of rfl ⟨⟨rfl, rfl⟩, ⟨⟨rfl, rfl⟩, ⟨⟨rfl, rfl⟩, ⟨⟨rfl, rfl⟩, ⟨⟨rfl, rfl⟩, ⟨⟨rfl, rfl⟩, ⟨⟨rfl, rfl⟩, trivial⟩⟩⟩⟩⟩⟩⟩) (fun _ h => h.re [2, 2, 2, 2, 2] [5, 5])
      ·
       refine s_buildSlice (e := 3) [(0, .int .i64 (idn y30))] #[.int .i64 (idn y30)] (fun g41 => ?_) (hb := by kernel_rfl)
       refine s_nil (xs_held [1, 3, 4] ?_)
       refine h_stepS 1 ?_
       refine s_lt (t_load 5 rx) ?_
       refine s_nil (xs_held [1, 3, 4] ?_)
       refine h_stepS 5 ?_
       refine s_append (L := (refsL (o17.mt :: o17.vals) i)) 2 iTy_ok Tryz.underlying23 (.lit 0 iTy_ok [(idn y30)]) (by show _ * 8 ≤ _; (try simp only [lnm]); omega) (by (try simp only [lnm]); omega) (fun v42 => ?_)
       refine s_nil (xs_held [1, 3, 4] ?_)
       refine hp_ 6 [1, 3, 4] (pB g22 3) ?_
       refine h_stepS 7 ?_
       refine s_fact (fun H h => ((Acc.own (T := iTy) (L := ((refsL (o17.mt :: o17.vals) i) ++ [(idn y30)])) 2 rfl) H h).form) (fun hf43 => ?_)
       refine s_store (u := v42) (m := 1) 5 #[.int .i64 id, .int .i64 (obSize o17), .int .i64 0, v42, (.slice none 0 0)] ?_ (hm := by (obtain ⟨_, _, e⟩ := hf43; rw [e]; rfl)) (h1 := by (obtain ⟨_, _, e⟩ := hf43; rw [e]; rfl)) (ha' := by (obtain ⟨_, _, e⟩ := hf43; rw [e]; rfl))
       refine s_nil (xs_held [1, 3, 4] ?_)
       refine h_doneS ?_
       refine xs_block ?_
       refine xs_then ?_
       refine k_reg ?_
       refine s_lt (t_add (i : Int) 1 (by (try simp only [lnm]); omega)) ?_
       refine sp (.int .i64 ((i : Int) + 1)) ?_
       refine s_nil ?_
       have hst := refsL_step hy31
       rw [if_pos (of_decide_eq_true c33)] at hst
       rw [← hst]
       exact xs_round (v42, i + 1) (by show (o17.mt :: o17.vals).length - (i + 1) < (o17.mt :: o17.vals).length - i; omega) (by show i + 1 ≤ (o17.mt :: o17.vals).length; omega) (sub_of rfl ⟨⟨rfl, rfl⟩, ⟨⟨rfl, rfl⟩, ⟨⟨rfl, rfl⟩, ⟨⟨rfl, rfl⟩, ⟨⟨rfl, rfl⟩, ⟨⟨rfl, rfl⟩, ⟨⟨rfl, rfl⟩, trivial⟩⟩⟩⟩⟩⟩⟩) (fun _ h => h.re [2, 2, 2, 2, 2] [5, 5])
    ·
     have p44 := Decidable.not_not.1 (of_decide_eq_false c33)
     refine k_skip ?_
     refine xs_block ?_
     refine xs_then ?_
     refine k_reg ?_
     refine s_lt (t_add (i : Int) 1 (by (try simp only [lnm]); omega)) ?_
     refine sp (.int .i64 ((i : Int) + 1)) ?_
     refine s_nil ?_
     have hst := refsL_step hy31
     rw [if_neg (of_decide_eq_false c33)] at hst
     rw [← hst]
     exact xs_round (rx, i + 1) (by show (o17.mt :: o17.vals).length - (i + 1) < (o17.mt :: o17.vals).length - i; omega) (by show i + 1 ≤ (o17.mt :: o17.vals).length; omega) (sub_of rfl ⟨⟨rfl, rfl⟩, ⟨⟨rfl, rfl⟩, ⟨⟨rfl, rfl⟩, ⟨⟨rfl, rfl⟩, ⟨⟨rfl, rfl⟩, ⟨⟨rfl, rfl⟩, ⟨⟨rfl, rfl⟩, trivial⟩⟩⟩⟩⟩⟩⟩) (fun _ h => h.re [1, 1, 1, 1, 1] [5])
   ·
    have p45 := of_decide_eq_false c28
    refine k_exit ?_
    refine xs_exit ?_
    refine xs_exit ?_
    refine xs_here ?_
    refine xs_then ?_
    refine k_seq ?_
    refine k_sr ?_
    refine sp (pB q18.1 0) ?_
    refine sp (pB q18.1 0) ?_
    refine sp (pB q18.1 0) ?_
    refine s_mem3 (fun H h => hp_open (h.re [1] [])) (fun mb46 tb47 tm48 hw => ?_)
    obtain ⟨hi49, ha50, ht51⟩ := hw
    refine s_memX (fun H h => all_focus hq20 ho19 (h.re [3] [])) (fun v52 _ => ?_)
    refine s_lt (t_load 0 (.int .i64 o17.kind)) ?_
    refine s_lt t_cmp ?_
    refine s_nt ?_
    refine k_cond (decide (o17.kind = 4)) (fun c53 => ?_) (fun c53 => ?_)
    ·
     have p54 := of_decide_eq_true c53
     refine k_seq ?_
     refine k_cut (ι := Unit) (fun _ => True) (fun _ => [(2, .int .i64 weak), (6, pB g1 0), (8, pB q18.1 0), (9, pB g22 0), (63, .bool ((decide ((0 : Int) ≤ weak)) && (decide (weak ≤ 3))))]) (fun _ => blkA q18.1 #[.int .i64 o17.kind, .int .i64 o17.tag, .string o17.name, (tabV q18 o17), .int .i64 o17.mt.kind, .int .i64 o17.mt.p, .int .i64 o17.mt.q, .string o17.mt.str, .int .i64 o17.mt.ref, v52] 123 :: own VlT v52 o17.vals :: tabO q18 o17 :: holeP ps5 st id :: blkA b #[.map (some mb46), .int .i64 (st.objs.length : Int), .map (some tb47)] 97 :: mpA iK oV mb46 ps5 :: mpA iK bV tb47 tm48 :: own iTy rx (refsL (o17.mt :: o17.vals) i) :: own VlT v25 (o17.mt :: o17.vals) :: blkA g22 #[.int .i64 id, .int .i64 (obSize o17), .int .i64 0, rx, (.slice none 0 0)] 100 :: blkA g1 #[.int .i64 0, .int .i64 0, .int .i64 0, (.slice none 0 0), (.slice none 0 0)] 100 :: F) ?_ (fun _ _ => ?_)
     ·
      refine k_reg ?_
      refine sp (.int .i64 weak) ?_
      refine s_lt t_cmp ?_
      refine sp (.bool (decide ((0 : Int) ≤ weak))) ?_
      refine s_fork 60 (decide ((0 : Int) ≤ weak)) (fun c55 => ?_) (fun c55 => ?_)
      ·
       have p56 := of_decide_eq_true c55
       refine sp (.int .i64 weak) ?_
       refine s_lt t_cmp ?_
       refine sp (.bool (decide (weak ≤ 3))) ?_
       refine s_nil ?_
       exact xs_cut () trivial (sub_of rfl ⟨⟨rfl, rfl⟩, ⟨⟨rfl, rfl⟩, ⟨⟨rfl, rfl⟩, ⟨⟨rfl, rfl⟩, ⟨⟨rfl, show Value.bool (decide (weak ≤ 3)) = Value.bool ((decide ((0 : Int) ≤ weak)) && (decide (weak ≤ 3))) by first | (simp only [c55, bls]; done) | simp [c55]⟩, trivial⟩⟩⟩⟩⟩) (fun _ h => h.re [0, 0, 0, 0, 0, 0, 0, 0, 0, 0, 0] [])
      ·
       have p57 := of_decide_eq_false c55
       refine s_skip ?_
       refine s_skip ?_
       refine sp (.bool false) ?_
       refine s_nil ?_
       exact xs_cut () trivial (sub_of rfl ⟨⟨rfl, rfl⟩, ⟨⟨rfl, rfl⟩, ⟨⟨rfl, rfl⟩, ⟨⟨rfl, rfl⟩, ⟨⟨rfl, show Value.bool false = Value.bool ((decide ((0 : Int) ≤ weak)) && (decide (weak ≤ 3))) by first | (simp only [c55, bls]; done) | simp [c55]⟩, trivial⟩⟩⟩⟩⟩) (fun _ h => h.re [0, 0, 0, 0, 0, 0, 0, 0, 0, 0, 0] [])
     ·
      refine k_cond ((decide ((0 : Int) ≤ weak)) && (decide (weak ≤ 3))) (fun c58 => ?_) (fun c58 => ?_)
      ·
       obtain ⟨c59, c60⟩ := and_t c58
       have p61 := of_decide_eq_true c59
       have p62 := of_decide_eq_true c60
       refine k_reg ?_
       refine sp (.int .i64 weak) ?_
       refine sp (pB g22 2) ?_
       refine s_store 9 #[.int .i64 id, .int .i64 (obSize o17), .int .i64 weak, rx, (.slice none 0 0)] ?_
       refine s_nt ?_
       refine k_reg ?_
       refine sp (pB q18.1 0) ?_
       refine sp (pB q18.1 0) ?_
       refine sp (pB q18.1 3) ?_
       refine s_lt (Lt.to (v' := ptrV q18.2) (t_load 0 (tabV q18 o17)) (by unfold tabV; rw [if_pos (of_decide_eq_true c53)])) ?_
       refine s_mem (fun _ h => tabO_open (of_decide_eq_true c53) (h.re [2] [])) ?_
       refine s_call [0] (entries_s (L := o17.tab.list) (S := o17.tab.rest) (hi49.obs o17 (get_mem ho19).1).tab (hw.of ho19).tw (by (try simp only [lnm]); omega) (by (try simp only [lnm]); omega)) ?_
       rintro v63 _ rfl
       refine s_fact (fun H h => ((Acc.own (T := EntT) (L := (entsOf ⟨o17.tab.list, o17.tab.rest⟩)) 0 rfl) H h).form) (fun hf64 => ?_)
       refine sp (pB g22 4) ?_
       refine s_store (u := v63) (m := 1) 10 #[.int .i64 id, .int .i64 (obSize o17), .int .i64 weak, rx, v63] ?_ (hm := by (obtain ⟨_, _, e⟩ := hf64; rw [e]; rfl)) (h1 := by (obtain ⟨_, _, e⟩ := hf64; rw [e]; rfl)) (ha' := by (obtain ⟨_, _, e⟩ := hf64; rw [e]; rfl))
       refine s_nr ?_
       refine s_lt (t_loadA 10 #[.int .i64 id, .int .i64 (obSize o17), .int .i64 weak, rx, v63]) ?_
       refine s_fact (fun H h => ((Acc.own (T := iTy) (L := (refsL (o17.mt :: o17.vals) i)) 8 rfl) H h).form) (fun hf65 => ?_)
       refine s_store (u := .agg #[.int .i64 id, .int .i64 (obSize o17), .int .i64 weak, rx, v63]) (m := 5) 11 #[.int .i64 id, .int .i64 (obSize o17), .int .i64 weak, rx, v63] ?_ (hm := by (obtain ⟨_, _, e⟩ := hf65; rw [e]; obtain ⟨_, _, e⟩ := hf64; rw [e]; rfl)) (h1 := by (obtain ⟨_, _, e⟩ := hf65; rw [e]; obtain ⟨_, _, e⟩ := hf64; rw [e]; rfl)) (ha' := by (obtain ⟨_, _, e⟩ := hf65; rw [e]; obtain ⟨_, _, e⟩ := hf64; rw [e]; rfl))
       refine sp (.bool true) ?_
       refine s_nt ?_
       refine k_ret ?_
       refine xs_mem (fun _ h => tabO_shut (T := o17.tab) (of_decide_eq_true c53) (h.re [1] [])) ?_
       refine xs_mem (Bs := tabO q18 o17 :: own EntT v63 (entsOf ⟨o17.tab.list, o17.tab.rest⟩) :: blkA q18.1 #[.int .i64 o17.kind, .int .i64 o17.tag, .string o17.name, (tabV q18 o17), .int .i64 o17.mt.kind, .int .i64 o17.mt.p, .int .i64 o17.mt.q, .string o17.mt.str, .int .i64 o17.mt.ref, v52] 123 :: own VlT v52 o17.vals :: holeP ps5 st id :: blkA b #[.map (some mb46), .int .i64 (st.objs.length : Int), .map (some tb47)] 97 :: mpA iK oV mb46 ps5 :: mpA iK bV tb47 tm48 :: own iTy rx (refsL (o17.mt :: o17.vals) i) :: own VlT v25 (o17.mt :: o17.vals) :: blkA g22 #[.int .i64 id, .int .i64 (obSize o17), .int .i64 weak, rx, v63] 100 :: blkA g1 #[.int .i64 id, .int .i64 (obSize o17), .int .i64 weak, rx, v63] 100 :: F) (fun _ h => h) ?_
       refine xs_fact (fun H h => (h.mp (i := 6) rfl).nodup) (fun hnd66 => ?_)
       refine xs_mem (fun _ h => (put_same ho19) ▸ all_unfocus (o' := o17) hnd66 hq20 ho19 (ob_shut (o := o17) (h.re [2, 2, 0, 1] []))) ?_
       refine xs_mem (Bs := allP ps5 st :: own EntT v63 (entsOf ⟨o17.tab.list, o17.tab.rest⟩) :: blkA b #[.map (some mb46), .int .i64 (st.objs.length : Int), .map (some tb47)] 97 :: mpA iK oV mb46 ps5 :: mpA iK bV tb47 tm48 :: own iTy rx (refsL (o17.mt :: o17.vals) i) :: own VlT v25 (o17.mt :: o17.vals) :: blkA g22 #[.int .i64 id, .int .i64 (obSize o17), .int .i64 weak, rx, v63] 100 :: blkA g1 #[.int .i64 id, .int .i64 (obSize o17), .int .i64 weak, rx, v63] 100 :: F) (fun _ h => h) ?_
       refine xs_mem (fun _ h => hp_shut (st := st) (n := (st.objs.length : Int)) ⟨⟨hi49, ha50, ht51⟩, rfl⟩ (h.re [2, 2, 2, 0] [])) ?_
       refine xs_mem (fun _ h => hpA_shut (h.re [0] [])) ?_
       have hend : refsL (o17.mt :: o17.vals) i = refsOf o17 := refsL_end (by omega)
       have hob := obj_some ho19 weak
       have hwk : hweak o17 weak = weak := by unfold hweak; rw [if_pos ⟨(of_decide_eq_true c53), by omega, by omega⟩]
       have hen : hents st id = entsOf o17.tab := by rw [hob.2.2.2.2.2]; exact if_pos (of_decide_eq_true c53)
       exact xs_fin [.agg #[.int .i64 id, .int .i64 (obSize o17), .int .i64 weak, rx, v63], .bool true] (own iTy rx (refsL (o17.mt :: o17.vals) i) :: own EntT v63 (entsOf o17.tab) :: hpA b st :: F) (SI.agg 6 100 5 (SI.tmp 7 SI.nil)) (fun _ h => h.re [2, 1, 0] [3, 3, 3]) ⟨rx, v63, by rw [hob.1, hob.2.1, hob.2.2.1, hob.2.2.2.1, hwk]; rfl, by rw [hen, hob.2.2.2.2.1, hend]⟩
      ·
       have p67 := c58
       simp only [Bool.and_eq_true, Bool.or_eq_true, Bool.and_eq_false_iff, Bool.or_eq_false_iff, Bool.not_eq_true', Bool.not_eq_false', decide_eq_true_eq, decide_eq_false_iff_not] at p67
       refine k_st ?_
       refine k_reg ?_
       refine sp (pB q18.1 0) ?_
       refine sp (pB q18.1 0) ?_
       refine sp (pB q18.1 3) ?_
       refine s_lt (Lt.to (v' := ptrV q18.2) (t_load 0 (tabV q18 o17)) (by unfold tabV; rw [if_pos (of_decide_eq_true c53)])) ?_
       refine s_mem (fun _ h => tabO_open (of_decide_eq_true c53) (h.re [2] [])) ?_
       refine s_call [0] (entries_s (L := o17.tab.list) (S := o17.tab.rest) (hi49.obs o17 (get_mem ho19).1).tab (hw.of ho19).tw (by (try simp only [lnm]); omega) (by (try simp only [lnm]); omega)) ?_
       rintro v68 _ rfl
       refine s_fact (fun H h => ((Acc.own (T := EntT) (L := (entsOf ⟨o17.tab.list, o17.tab.rest⟩)) 0 rfl) H h).form) (fun hf69 => ?_)
       refine sp (pB g22 4) ?_
       refine s_store (u := v68) (m := 1) 10 #[.int .i64 id, .int .i64 (obSize o17), .int .i64 0, rx, v68] ?_ (hm := by (obtain ⟨_, _, e⟩ := hf69; rw [e]; rfl)) (h1 := by (obtain ⟨_, _, e⟩ := hf69; rw [e]; rfl)) (ha' := by (obtain ⟨_, _, e⟩ := hf69; rw [e]; rfl))
       refine s_nr ?_
       refine s_lt (t_loadA 10 #[.int .i64 id, .int .i64 (obSize o17), .int .i64 0, rx, v68]) ?_
       refine s_fact (fun H h => ((Acc.own (T := iTy) (L := (refsL (o17.mt :: o17.vals) i)) 8 rfl) H h).form) (fun hf70 => ?_)
       refine s_store (u := .agg #[.int .i64 id, .int .i64 (obSize o17), .int .i64 0, rx, v68]) (m := 5) 11 #[.int .i64 id, .int .i64 (obSize o17), .int .i64 0, rx, v68] ?_ (hm := by (obtain ⟨_, _, e⟩ := hf70; rw [e]; obtain ⟨_, _, e⟩ := hf69; rw [e]; rfl)) (h1 := by (obtain ⟨_, _, e⟩ := hf70; rw [e]; obtain ⟨_, _, e⟩ := hf69; rw [e]; rfl)) (ha' := by (obtain ⟨_, _, e⟩ := hf70; rw [e]; obtain ⟨_, _, e⟩ := hf69; rw [e]; rfl))
       refine sp (.bool true) ?_
       refine s_nt ?_
       refine k_ret ?_
       refine xs_mem (fun _ h => tabO_shut (T := o17.tab) (of_decide_eq_true c53) (h.re [1] [])) ?_
       refine xs_mem (Bs := tabO q18 o17 :: own EntT v68 (entsOf ⟨o17.tab.list, o17.tab.rest⟩) :: blkA q18.1 #[.int .i64 o17.kind, .int .i64 o17.tag, .string o17.name, (tabV q18 o17), .int .i64 o17.mt.kind, .int .i64 o17.mt.p, .int .i64 o17.mt.q, .string o17.mt.str, .int .i64 o17.mt.ref, v52] 123 :: own VlT v52 o17.vals :: holeP ps5 st id :: blkA b #[.map (some mb46), .int .i64 (st.objs.length : Int), .map (some tb47)] 97 :: mpA iK oV mb46 ps5 :: mpA iK bV tb47 tm48 :: own iTy rx (refsL (o17.mt :: o17.vals) i) :: own VlT v25 (o17.mt :: o17.vals) :: blkA g22 #[.int .i64 id, .int .i64 (obSize o17), .int .i64 0, rx, v68] 100 :: blkA g1 #[.int .i64 id, .int .i64 (obSize o17), .int .i64 0, rx, v68] 100 :: F) (fun _ h => h) ?_
       refine xs_fact (fun H h => (h.mp (i := 6) rfl).nodup) (fun hnd71 => ?_)
       refine xs_mem (fun _ h => (put_same ho19) ▸ all_unfocus (o' := o17) hnd71 hq20 ho19 (ob_shut (o := o17) (h.re [2, 2, 0, 1] []))) ?_
       refine xs_mem (Bs := allP ps5 st :: own EntT v68 (entsOf ⟨o17.tab.list, o17.tab.rest⟩) :: blkA b #[.map (some mb46), .int .i64 (st.objs.length : Int), .map (some tb47)] 97 :: mpA iK oV mb46 ps5 :: mpA iK bV tb47 tm48 :: own iTy rx (refsL (o17.mt :: o17.vals) i) :: own VlT v25 (o17.mt :: o17.vals) :: blkA g22 #[.int .i64 id, .int .i64 (obSize o17), .int .i64 0, rx, v68] 100 :: blkA g1 #[.int .i64 id, .int .i64 (obSize o17), .int .i64 0, rx, v68] 100 :: F) (fun _ h => h) ?_
       refine xs_mem (fun _ h => hp_shut (st := st) (n := (st.objs.length : Int)) ⟨⟨hi49, ha50, ht51⟩, rfl⟩ (h.re [2, 2, 2, 0] [])) ?_
       refine xs_mem (fun _ h => hpA_shut (h.re [0] [])) ?_
       have hend : refsL (o17.mt :: o17.vals) i = refsOf o17 := refsL_end (by omega)
       have hob := obj_some ho19 weak
       have hwk : hweak o17 weak = 0 := by unfold hweak; rw [if_neg]; rintro ⟨h1, h2, h3⟩; omega
       have hen : hents st id = entsOf o17.tab := by rw [hob.2.2.2.2.2]; exact if_pos (of_decide_eq_true c53)
       exact xs_fin [.agg #[.int .i64 id, .int .i64 (obSize o17), .int .i64 0, rx, v68], .bool true] (own iTy rx (refsL (o17.mt :: o17.vals) i) :: own EntT v68 (entsOf o17.tab) :: hpA b st :: F) (SI.agg 6 100 5 (SI.tmp 7 SI.nil)) (fun _ h => h.re [2, 1, 0] [3, 3, 3]) ⟨rx, v68, by rw [hob.1, hob.2.1, hob.2.2.1, hob.2.2.2.1, hwk]; rfl, by rw [hen, hob.2.2.2.2.1, hend]⟩
    ·
     have p72 := of_decide_eq_false c53
     refine k_st ?_
     refine k_sr ?_
     refine s_lt (t_loadA 9 #[.int .i64 id, .int .i64 (obSize o17), .int .i64 0, rx, (.slice none 0 0)]) ?_
     refine s_fact (fun H h => ((Acc.own (T := iTy) (L := (refsL (o17.mt :: o17.vals) i)) 7 rfl) H h).form) (fun hf73 => ?_)
     refine s_store (u := .agg #[.int .i64 id, .int .i64 (obSize o17), .int .i64 0, rx, (.slice none 0 0)]) (m := 5) 10 #[.int .i64 id, .int .i64 (obSize o17), .int .i64 0, rx, (.slice none 0 0)] ?_ (hm := by (obtain ⟨_, _, e⟩ := hf73; rw [e]; rfl)) (h1 := by (obtain ⟨_, _, e⟩ := hf73; rw [e]; rfl)) (ha' := by (obtain ⟨_, _, e⟩ := hf73; rw [e]; rfl))
     refine sp (.bool true) ?_
     refine s_nt ?_
     refine k_ret ?_
     refine xs_fact (fun H h => (h.mp (i := 5) rfl).nodup) (fun hnd74 => ?_)
     refine xs_mem (fun _ h => (put_same ho19) ▸ all_unfocus (o' := o17) hnd74 hq20 ho19 (ob_shut (o := o17) (h.re [0, 0, 0, 0] []))) ?_
     refine xs_mem (Bs := allP ps5 st :: blkA b #[.map (some mb46), .int .i64 (st.objs.length : Int), .map (some tb47)] 97 :: mpA iK oV mb46 ps5 :: mpA iK bV tb47 tm48 :: own iTy rx (refsL (o17.mt :: o17.vals) i) :: own VlT v25 (o17.mt :: o17.vals) :: blkA g22 #[.int .i64 id, .int .i64 (obSize o17), .int .i64 0, rx, (.slice none 0 0)] 100 :: blkA g1 #[.int .i64 id, .int .i64 (obSize o17), .int .i64 0, rx, (.slice none 0 0)] 100 :: F) (fun _ h => h) ?_
     refine xs_mem (fun _ h => hp_shut (st := st) (n := (st.objs.length : Int)) ⟨⟨hi49, ha50, ht51⟩, rfl⟩ (h.re [1, 1, 1, 0] [])) ?_
     refine xs_mem (fun _ h => Holds.nilS (T := EntT) h) ?_
     refine xs_mem (fun _ h => hpA_shut (h.re [1] [])) ?_
     have hend : refsL (o17.mt :: o17.vals) i = refsOf o17 := refsL_end (by omega)
     have hob := obj_some ho19 weak
     have hwk : hweak o17 weak = 0 := by unfold hweak; rw [if_neg]; rintro ⟨h1, h2, h3⟩; exact absurd h1 (of_decide_eq_false c53)
     have hen : hents st id = [] := by rw [hob.2.2.2.2.2]; exact if_neg (of_decide_eq_false c53)
     exact xs_fin [.agg #[.int .i64 id, .int .i64 (obSize o17), .int .i64 0, rx, (.slice none 0 0)], .bool true] (own iTy rx (refsL (o17.mt :: o17.vals) i) :: own EntT (.slice none 0 0) [] :: hpA b st :: F) (SI.agg 6 100 5 (SI.tmp 7 SI.nil)) (fun _ h => h.re [2, 1, 0] [3, 3, 3]) ⟨rx, (.slice none 0 0), by rw [hob.1, hob.2.1, hob.2.2.1, hob.2.2.2.1, hwk]; rfl, by rw [hen, hob.2.2.2.2.1, hend]⟩
end Go.Proofs.YtmhpcebiamkciaaGreat
end
section
set_option linter.unusedSimpArgs false
set_option linter.unusedVariables false
namespace Go.S
open Go.Hp Go.J Go.RowKit
open Go.Mem (Ty KTy blk suf addr_add)
section
variable {P : Program} {w0 : World} {ops : Array Oper} {Q : Exit → Act → World → Prop} {n : Nat} {E : Env} {Z : Zone} {As : List Asr} {o : Oper} {rest : List Oper} {α : Type} {T : Ty α}
theorem s_appendZ {s x : Operand} {t tn : TypeId} {d : Nat} {q kq : IntKind} {y : Int} (k : Nat) (hT : T.Ok P) (ht : P.underlying t = some (.slice T.id)) (htn : P.underlying tn = some (.int kq)) (hy : y = (k : Int)) (h0 : 0 < k) (hb : k * T.bytes ≤ 140737488355328) (h63 : k ≤ 9223372036854775807) (h : ∀ v', SL P w0 ops Q n rest ((d, v') :: E) Z (own T v' (List.replicate k T.zero) :: As)) (ho : o.op = .call { callee := .builtin .append, args := #[s, x], argTypes := #[t, tn] } := by rfl) (hs : ev E s = .slice none 0 0 := by rfl) (hx : ev E x = .int q y := by rfl) (hd : o.dst = some d := by rfl) (hk : okOp ops n E o = true := by kernel_rfl) : SL P w0 ops Q n (o :: rest) E Z As := fun H hH => by
  subst hy
  refine l_run (R := fun v' H' => Ow H' T v' (List.replicate k T.zero) ∧ Chg (fun _ => False) H H' ∧ blk v' = some H.size) hk (fun w ha => ?_) (fun v' H' ⟨a1, a2, a3⟩ => ?_)
  · obtain ⟨i, hi, hsz, hby, hz⟩ := hT.info
    rw [← hby] at hb
    have hr := Go.Lib.run_append_nil_zeros (P := P) w t tn o.type T.id i _ q kq ht htn hi hz k h0 (by rw [hsz]; exact hT.pos) (by omega) (by omega)
    have hge := grownCap_ge w k 0 T.id
    have hcm := grownCap_le_maxLen w k 0 T.id (by simpa [maxLen] using h63)
    have hzs : (T.val T.zero).cells.size = T.size := by have := hT.len T.zero; simpa [Ty.enc] using this
    have hchg := Chg.of_mem ((Mem.Chg.refl (fun _ => False) w).drew.alloc (.cells (Builtin.zeroCells (T.val T.zero).cells k ++ Builtin.zeroCells (T.val T.zero).cells (grownCap w k 0 T.id - k)) T.id))
    refine ⟨.slice (some ⟨w.heap.size, 0, none⟩) k (grownCap w k 0 T.id), w.drew.alloc (.cells (Builtin.zeroCells (T.val T.zero).cells k ++ Builtin.zeroCells (T.val T.zero).cells (grownCap w k 0 T.id - k)) T.id), ?_, ⟨rfl, ha.os, ha.tape, ha.output⟩, .inr ⟨w.heap.size, _, _, by rw [List.length_replicate], heap_alloc_new w.drew _, by simpa using hge, hcm, ?_, ?_⟩, by rw [← ha.heap]; exact hchg, by rw [← ha.heap]; rfl⟩
    · unfold execOp
      simp only [ho, resolve, invoke, builtin, Sem.run_bind, Sem.run_pure, Result.andThen_ok, List.map_toArray, List.map_cons, List.map_nil, hs, hx, hr]
    · simp only [Array.size_append, size_zeroCells, hzs, ← Nat.add_mul]
      exact Nat.le_of_eq (by congr 1; omega)
    · have e : (Builtin.zeroCells (T.val T.zero).cells k).toList = T.flat (List.replicate k T.zero) := by
        rw [← Go.Mem.madeCells_flat hT, ← hzs]; rfl
      have hl := hT.flat_len (List.replicate k T.zero)
      rw [Array.toList_append, e, ← hl]
      exact List.take_left
  · rw [hd]
    exact h v' H' (hH.new (a2.mono fun k _ hk => hk.elim) (S' := fun k => blk v' = some k) ⟨a1, fun k => Iff.rfl⟩ fun k hk => by rw [a3] at hk; cases hk; omega)
end
end Go.S
end
section
set_option linter.unusedSimpArgs false
set_option linter.unusedVariables false
set_option maxRecDepth 100000
set_option maxHeartbeats 2000000
namespace Go.Proofs.YtmhpcebiamkciaaGreat
open Go.Hp Go.J Go.S
open Go.Mem (Ty KTy blk elemAt pre suf blk_pre blk_suf aget aset strK aggDesc)
open Go.Mem (adel apos aget_aset aget_adel)
structure Fen where
  id : Int
  deriving DecidableEq
abbrev Fen.v (x : Fen) : Value := .agg #[.int .i64 x.id]
def FenT : Ty Fen := ⟨153, 1, 8, true, Fen.v, ⟨0⟩⟩
theorem FenT_ok : FenT.Ok Tryz.prog := ok_of FenT _ Tryz.t153 (by decide) (fun _ => rfl) (fun x u hu => by simp [Ty.enc, FenT, Value.cells] at hu; rcases hu with rfl <;> rfl) (fun _ => rfl) Tryz.underlying153 rfl (fun h => by cases h) (by kernel_rfl) (by kernel_rfl) (by kernel_rfl) (by kernel_rfl)
theorem eqFenT (x y : Fen) (w : World) : (binOp .eql 153 x.v y.v).run Tryz.prog w = .ok (.bool (decide (x = y))) w ∧ (binOp .neq 153 x.v y.v).run Tryz.prog w = .ok (.bool (!decide (x = y))) w := by
  have h := J.run_eqS (P := Tryz.prog) (t := 153) [0] (by kernel_rfl) (by kernel_rfl) #[.int .i64 x.id] #[.int .i64 y.id] rfl rfl w
  have e : J.cellsEq [.int .i64 x.id] [.int .i64 y.id] = decide (x = y) := by
    cases x; cases y; rw [Bool.eq_iff_iff]; simp [J.cellsEq, J.cellEq]
  rw [e] at h
  exact h
theorem decFenT (cs : List Value) (h : fitsL [0] cs = true) : ∃ x, FenT.enc x = cs := by
  have hl := fitsL_len h
  match cs, hl, h with
  | [c0], _, h =>
    simp only [fitsL, Bool.and_eq_true] at h
    obtain ⟨c0, rfl⟩ := fit_int h.1
    exact ⟨⟨c0⟩, rfl⟩
abbrev cV (n : Int) : Value := .int .i64 n
def mgt (m : List (Int × Int)) (k : Int) : Int := (aget m k).getD 0
theorem mgt_is (m : List (Int × Int)) (k : Int) : ((aget m k).map cV).getD (.int .i64 0) = .int .i64 (mgt m k) := by
  unfold mgt; cases aget m k <;> rfl
/-- A collector: its queue of finalizers is empty, nothing has been freed. -/
def coA (b q hb : Nat) (ph : Int) (m : List (Int × Int)) (Q L : List Int) : Asr := exA fun mb => exA fun qv => exA fun lv => stA True [blkA b #[.pointer (some ⟨q, 0, none⟩), .pointer (some ⟨hb, 0, none⟩), .int .i64 ph, .map (some mb), qv, lv, .slice none 0 0] 91, blkA q #[.slice none 0 0, .slice none 0 0] 151, mpA iK cV mb m, ownO iTy qv Q, ownO iTy lv L]
section
variable {Z : Zone} {F : List Asr} {H : Heap} {b q hb : Nat} {ph : Int} {m : List (Int × Int)} {Q L : List Int}
theorem co_open (h : Holds Z (coA b q hb ph m Q L :: F) H) : ∃ mb qv lv, True ∧ Holds Z (blkA b #[.pointer (some ⟨q, 0, none⟩), .pointer (some ⟨hb, 0, none⟩), .int .i64 ph, .map (some mb), qv, lv, .slice none 0 0] 91 :: blkA q #[.slice none 0 0, .slice none 0 0] 151 :: mpA iK cV mb m :: ownO iTy qv Q :: ownO iTy lv L :: F) H := by
  obtain ⟨mb, h⟩ := h.open_ex
  obtain ⟨qv, h⟩ := h.open_ex
  obtain ⟨lv, h⟩ := h.open_ex
  exact ⟨mb, qv, lv, h.open_st⟩
theorem co_shut {mb : Nat} {qv lv : Value} (h : Holds Z (blkA b #[.pointer (some ⟨q, 0, none⟩), .pointer (some ⟨hb, 0, none⟩), .int .i64 ph, .map (some mb), qv, lv, .slice none 0 0] 91 :: blkA q #[.slice none 0 0, .slice none 0 0] 151 :: mpA iK cV mb m :: ownO iTy qv Q :: ownO iTy lv L :: F) H) : Holds Z (coA b q hb ph m Q L :: F) H :=
  Holds.shut_ex mb (Holds.shut_ex qv (Holds.shut_ex lv (Holds.shut_st trivial h)))
end
def rchM (st : Hst) (m : List (Int × Int)) (id : Int) : List (Int × Int) := if halive st id = true ∧ mgt m id = 0 then aset m id 1 else m
def rchQ (st : Hst) (m : List (Int × Int)) (Q : List Int) (id : Int) : List Int := if halive st id = true ∧ mgt m id = 0 then Q ++ [id] else Q
def rchS (st : Hst) (s : List (Int × Int) × List Int) (id : Int) : List (Int × Int) × List Int := (rchM st s.1 id, rchQ st s.1 s.2 id)
def rchA (st : Hst) (s : List (Int × Int) × List Int) (X : List Int) : List (Int × Int) × List Int := X.foldl (rchS st) s
theorem rchA_take {st : Hst} {s : List (Int × Int) × List Int} {X : List Int} {i : Nat} {y : Int} (h : X[i]? = some y) : rchA st s (X.take (i + 1)) = rchS st (rchA st s (X.take i)) y := by
  unfold rchA; rw [List.take_add_one, h, List.foldl_append]; rfl
theorem rchQ_len (st : Hst) (m : List (Int × Int)) (Q : List Int) (id : Int) : (rchQ st m Q id).length ≤ Q.length + 1 := by
  unfold rchQ; split <;> simp
theorem rchA_len (st : Hst) (X : List Int) : ∀ s : List (Int × Int) × List Int, (rchA st s X).2.length ≤ s.2.length + X.length := by
  induction X with
  | nil => exact fun s => Nat.le_refl _
  | cons a r ih => exact fun s => by have := ih (rchS st s a); have h2 := rchQ_len st s.1 s.2 a; simp only [List.length_cons]; unfold rchA at *; simp only [List.foldl_cons]; unfold rchS at *; dsimp only at *; omega
theorem creach_s {Z : Zone} {F : List Asr} {b q hb : Nat} {ph : Int} {m : List (Int × Int)} {Q L : List Int} {st : Hst} (hQ : Q.length ≤ 1000000) (id : Int) : SF Tryz.prog 46 #[.pointer (some ⟨b, 0, none⟩), .int .i64 id] Z (coA b q hb ph m Q L :: hpA hb st :: F) fun r Bs => r = .tuple #[] ∧ Bs = coA b q hb ph (rchM st m id) (rchQ st m Q id) L :: hpA hb st :: F := by
 refine sf_enter Tryz.func46 34 [(0, pB b 0), (1, .int .i64 id)] (fun w0 => ?_)
 refine k_sr ?_
 refine sp (pB b 0) ?_
 refine sp (pB b 0) ?_
 refine sp (pB b 1) ?_
 refine s_mem3 (fun H h => co_open (h.re [0] [])) (fun mb1 qv2 lv3 hw => ?_)
 refine s_lt (t_load 0 (pB hb 0)) ?_
 refine sp (.int .i64 id) ?_
 refine s_call [5] (halive_s (st := st) id) ?_
 rintro _ _ ⟨rfl, rfl⟩
 refine sp (.bool (halive st id)) ?_
 refine s_fork 10 (halive st id) (fun c4 => ?_) (fun c4 => ?_)
 ·
  refine sp (pB b 0) ?_
  refine sp (pB b 0) ?_
  refine sp (pB b 3) ?_
  refine s_lt (t_load 1 (.map (some mb1))) ?_
  refine sp (.int .i64 id) ?_
  refine s_lt (Lt.to (v' := .int .i64 (mgt m id)) (t_lookup 3 intOk Tryz.underlying89 (.int .i64 0) id) (mgt_is _ _)) ?_
  refine s_lt t_cmp ?_
  refine sp (.bool (decide ((mgt m id) = 0))) ?_
  refine s_nt ?_
  refine k_cond (decide ((mgt m id) = 0)) (fun c5 => ?_) (fun c5 => ?_)
  ·
   have p6 := of_decide_eq_true c5
   refine k_sr ?_
   refine sp (pB b 0) ?_
   refine sp (pB b 0) ?_
   refine sp (pB b 3) ?_
   refine s_lt (t_load 1 (.map (some mb1))) ?_
   refine sp (.int .i64 id) ?_
   refine s_update 3 intOk Tryz.underlying89 id (1 : Int) ?_
   refine s_nt ?_
   refine k_reg ?_
   refine sp (pB b 0) ?_
   refine sp (pB b 0) ?_
   refine sp (pB b 0) ?_
   refine sp (pB b 4) ?_
   refine s_lt (t_load 1 qv2) ?_
   refine sp (.int .i64 id) ?_
   refine s_buildSlice (e := 3) [(0, .int .i64 id)] #[.int .i64 id] (fun g7 => ?_) (hb := by kernel_rfl)
   refine s_appendO (L := Q) 5 iTy_ok Tryz.underlying23 (.lit 0 iTy_ok [id]) (by show _ * 8 ≤ _; (try simp only [lnm]); omega) (by (try simp only [lnm]); omega) (fun v8 => ?_)
   refine s_fact (fun H h => ((Acc.ownO (T := iTy) (L := (Q ++ [id])) 5 rfl) H h).form) (fun hf9 => ?_)
   refine sp (pB b 0) ?_
   refine sp (pB b 4) ?_
   refine s_store (u := v8) (m := 1) 2 #[pB q 0, pB hb 0, .int .i64 ph, .map (some mb1), v8, lv3, (.slice none 0 0)] ?_ (hm := by (obtain ⟨_, _, e⟩ := hf9; rw [e]; rfl)) (h1 := by (obtain ⟨_, _, e⟩ := hf9; rw [e]; rfl)) (ha' := by (obtain ⟨_, _, e⟩ := hf9; rw [e]; rfl))
   refine s_nil ?_
   refine xs_mem (fun _ h => co_shut (h.re [2, 2, 2, 2, 2] [])) ?_
   refine xs_finN [] (coA b q hb ph (aset m id (1 : Int)) (Q ++ [id]) L :: hpA hb st :: F) SI.nil (fun _ h => h.re [0, 1] [2]) ⟨rfl, ?_⟩
   unfold rchM rchQ; rw [if_pos ⟨c4, of_decide_eq_true c5⟩, if_pos ⟨c4, of_decide_eq_true c5⟩]
  ·
   have p10 := of_decide_eq_false c5
   refine k_skip ?_
   refine xs_mem (fun _ h => co_shut (h.re [1, 1, 1, 1, 1] [])) ?_
   refine xs_finN [] (coA b q hb ph m Q L :: hpA hb st :: F) SI.nil (fun _ h => h.re [0, 0] []) ⟨rfl, ?_⟩
   unfold rchM rchQ; rw [if_neg (fun e => of_decide_eq_false c5 e.2), if_neg (fun e => of_decide_eq_false c5 e.2)]
 ·
  refine s_skip ?_
  refine s_skip ?_
  refine s_skip ?_
  refine s_skip ?_
  refine s_skip ?_
  refine s_skip ?_
  refine s_skip ?_
  refine sp (.bool false) ?_
  refine s_nt ?_
  refine k_false ?_
  refine k_skip ?_
  refine xs_mem (fun _ h => co_shut (h.re [1, 1, 1, 1, 1] [])) ?_
  refine xs_finN [] (coA b q hb ph m Q L :: hpA hb st :: F) SI.nil (fun _ h => h.re [0, 0] []) ⟨rfl, ?_⟩
  unfold rchM rchQ; rw [if_neg (fun e => by rw [c4] at e; exact absurd e.1 (by decide)), if_neg (fun e => by rw [c4] at e; exact absurd e.1 (by decide))]
theorem k_factH {P : Program} {w0 : World} {Q : Exit → Act → World → Prop} {n : Nat} {E : Env} {Z : Zone} {As : List Asr} {c : Code} {p : Heap → Prop} (hA : ∀ H, Holds Z As H → p H) (h : ∀ H, p H → SK P w0 c Q n E Z As) : SK P w0 c Q n E Z As := fun H hH => h H (hA H hH) H hH
theorem clone_s {Z : Zone} {lv : Value} {L : List Int} (hL : Kn Z iTy lv L) (hl : L.length ≤ 1000000) : SF Tryz.prog 50 #[lv] Z [] fun r Bs => Bs = [own iTy r L] := by
 refine sf_enter Tryz.func50 8 [(0, lv)] (fun w0 => ?_)
 refine k_factH (fun H h => hL.get h) (fun H0 hsl => ?_)
 refine k_sr ?_
 refine sp (.slice none 0 0) ?_
 refine s_nt ?_
 refine k_seq ?_
 refine k_sr ?_
 refine sp lv ?_
 refine s_lt (t_nilS Tryz.underlying23 (.zn hL)) ?_
 refine s_nt ?_
 refine k_cond (nilS lv) (fun c1 => ?_) (fun c1 => ?_)
 ·
  refine k_sr ?_
  refine sp (.slice none 0 0) ?_
  refine s_nt ?_
  refine k_ret ?_
  refine xs_ret ?_
  have hn : L = [] := (nilS_spec hsl c1).2
  exact xs_fin [(.slice none 0 0)] [own iTy (.slice none 0 0) L] (SI.tmp 2 SI.nil) (fun _ h => by rw [hn]; exact h.nilS.re [0] []) rfl
 ·
  refine k_st ?_
  refine k_sr ?_
  refine s_buildSlice (e := 3) [] #[] (fun g2 => ?_) (hb := by kernel_rfl)
  refine sp lv ?_
  refine s_mem (fun _ h => Holds.slice 0 h iTy_ok []) ?_
  refine s_append (L := []) 0 iTy_ok Tryz.underlying23 (.zn hL) (by show _ * 8 ≤ _; (try simp only [lnm]); omega) (by (try simp only [lnm]); omega) (fun v3 => ?_)
  refine s_fact (fun H h => ((Acc.own (T := iTy) (L := ([] ++ L)) 0 rfl) H h).form) (fun hf4 => ?_)
  refine sp v3 ?_
  refine s_nt ?_
  refine k_ret ?_
  exact xs_fin [v3] [own iTy v3 L] (SI.tmp 2 SI.nil) (fun _ h => h.re [0] []) rfl
/-- A slice of integers in a cell. -/
structure Sq where
  p : Option Addr
  c : Nat
  xs : List Int
abbrev Sq.v (s : Sq) : Value := .slice s.p s.xs.length s.c
def SqT : Ty Sq := ⟨23, 1, 24, false, Sq.v, ⟨none, 0, []⟩⟩
theorem SqT_ok : SqT.Ok Tryz.prog := ⟨Nat.one_pos, fun _ => rfl, fun x u hu => by simp [Ty.enc, SqT, Value.cells] at hu; subst hu; rfl, fun _ => rfl, ⟨_, Tryz.underlying23, rfl⟩, fun _ => rfl, ⟨Tryz.t23, by kernel_rfl, by kernel_rfl, by kernel_rfl, by kernel_rfl⟩⟩
def cat (S : List Sq) : List Int := S.flatMap Sq.xs
theorem cat_take {S : List Sq} {i : Nat} {y : Sq} (h : S[i]? = some y) : cat (S.take i) ++ y.xs = cat (S.take (i + 1)) := by
  unfold cat; rw [List.take_add_one, h]; simp [List.flatMap_append]
theorem cat_len {S : List Sq} (h : ∀ s ∈ S, s.xs.length ≤ 1000000) : ∀ i : Nat, (cat (S.take i)).length ≤ 1000000 * i
  | 0 => by simp [cat]
  | i + 1 => by
    cases hy : S[i]? with
    | none =>
      have e : S.take (i + 1) = S.take i := by rw [List.take_add_one, hy]; simp
      rw [e]; have := cat_len h i; omega
    | some y => rw [← cat_take hy, List.length_append]; have := cat_len h i; have := h y (List.mem_of_getElem? hy); omega
theorem grow_s {Z : Zone} (n : Int) (h0 : 0 ≤ n) (h1 : n ≤ 1000000000) : SF Tryz.prog 183 #[.slice none 0 0, .int .i64 n] Z [] fun r Bs => Bs = [own iTy r []] := by
 refine sf_enter Tryz.func183 27 [(0, (.slice none 0 0)), (1, .int .i64 n)] (fun w0 => ?_)
 refine k_sr ?_
 refine sp (.slice none 0 0) ?_
 refine s_nt ?_
 refine k_seq ?_
 refine k_sr ?_
 refine sp (.int .i64 n) ?_
 refine s_lt (Lt.to t_cmp (congrArg Value.bool (decide_eq_false (by omega) : (decide (n < 0)) = false))) ?_
 refine s_nt ?_
 refine k_false ?_
 refine k_st ?_
 refine k_seq ?_
 refine k_sr ?_
 refine sp (.int .i64 n) ?_
 refine sp (.slice none 0 0) ?_
 refine s_lt (t_kern (.int .i64 0)) ?_
 refine sp (.slice none 0 0) ?_
 refine s_lt (t_kern (.int .i64 0)) ?_
 refine sp (.int .i64 0) ?_
 refine s_lt (t_sub n 0 (by (try simp only [lnm]); omega)) ?_
 refine sp (.int .i64 (n - 0)) ?_
 refine s_nr ?_
 refine sp (.int .i64 (n - 0)) ?_
 refine s_lt t_cmp ?_
 refine s_nt ?_
 refine k_cond (decide ((0 : Int) < (n - 0))) (fun c1 => ?_) (fun c1 => ?_)
 ·
  have p2 := of_decide_eq_true c1
  refine k_reg ?_
  refine sp (.slice none 0 0) ?_
  refine sp (.slice none 0 0) ?_
  refine s_lt (t_kern (.int .i64 0)) ?_
  refine s_lt (t_pre iTy_ok Tryz.underlying23 .nil 0 0 (by omega) (by (try simp only [lnm]); omega) (by omega)) ?_
  refine sp (.int .i64 (n - 0)) ?_
  refine s_appendZ (y := (n - 0)) (((n - 0)).toNat) iTy_ok Tryz.underlying23 Tryz.underlying3 (by omega) (by omega) (by show _ * 8 ≤ _; omega) (by omega) (fun v3 => ?_)
  refine s_fact (fun H h => ((Acc.own (T := iTy) (L := (List.replicate (((n - 0)).toNat) iTy.zero)) 0 rfl) H h).form) (fun hf4 => ?_)
  refine sp (.slice none 0 0) ?_
  refine s_lt (t_kern (.int .i64 0)) ?_
  refine s_lt (t_pre iTy_ok Tryz.underlying23 (.own 0) 0 0 (by omega) (by (try simp only [lnm]); omega) (by omega)) ?_
  refine sp (pre v3 0) ?_
  refine s_nr ?_
  refine sp (pre v3 0) ?_
  refine sp (pre v3 0) ?_
  refine s_nt ?_
  refine k_ret ?_
  exact xs_fin [(pre v3 0)] [own iTy (pre v3 0) []] (SI.tmp 4 SI.nil) (fun _ h => (Holds.pre (i := 0) h iTy_ok 0 rfl (Nat.zero_le _)).re [0] []) rfl
 ·
  have p5 := of_decide_eq_false c1
  refine k_st ?_
  refine k_sr ?_
  refine sp (.slice none 0 0) ?_
  refine sp (.slice none 0 0) ?_
  refine s_nt ?_
  refine k_ret ?_
  exact xs_fin [(.slice none 0 0)] [own iTy (.slice none 0 0) []] (SI.tmp 4 SI.nil) (fun _ h => h.nilS.re [0] []) rfl
theorem concat_s {Z : Zone} {sv : Value} {S : List Sq} (hS : Kn Z SqT sv S) (hE : ∀ s ∈ S, Kn Z iTy s.v s.xs) (hl : S.length ≤ 100) (hB : ∀ s ∈ S, s.xs.length ≤ 1000000) : SF Tryz.prog 129 #[sv] Z [] fun r Bs => Bs = [own iTy r (cat S)] := by
 refine sf_enter Tryz.func129 36 [(0, sv)] (fun w0 => ?_)
 refine k_sr ?_
 refine sp (.slice none 0 0) ?_
 refine s_nr ?_
 refine sp (.int .i64 0) ?_
 refine s_nt ?_
 refine k_seq ?_
 refine k_sr ?_
 refine sp sv ?_
 refine s_lt (t_len SqT_ok Tryz.underlying218 (.zn hS)) ?_
 refine sp (.int .i64 0) ?_
 refine s_nt ?_
 refine k_block ?_
 refine k_loop (ι := Int × Nat) (fun (sz, i) => i ≤ S.length ∧ sz = ((cat (S.take i)).length : Int)) (fun (sz, i) => [(0, sv), (3, .int .i64 sz), (9, sv), (10, .int .i64 (S.length : Int)), (11, .int .i64 (i : Int))]) (fun (sz, i) => []) (fun (sz, i) => S.length - i) (0, 0) ⟨Nat.zero_le _, rfl⟩ (sub_of rfl ⟨⟨rfl, rfl⟩, ⟨⟨rfl, rfl⟩, ⟨⟨rfl, rfl⟩, ⟨⟨rfl, rfl⟩, ⟨⟨rfl, rfl⟩, trivial⟩⟩⟩⟩⟩) (fun _ h => h.re [] []) ?_
 rintro ⟨sz, i⟩ hi1
 replace hi1 : i ≤ S.length ∧ sz = ((cat (S.take i)).length : Int) := hi1
 show SK _ _ _ _ _ [(0, sv), (3, .int .i64 sz), (9, sv), (10, .int .i64 (S.length : Int)), (11, .int .i64 (i : Int))] _ []
 have hcl := cat_len hB i; obtain ⟨hj1, hj2⟩ := id hi1
 refine k_sr ?_
 refine s_lt t_cmp ?_
 refine s_nt ?_
 refine k_seq ?_
 refine k_cond (decide ((i : Int) < (S.length : Int))) (fun c2 => ?_) (fun c2 => ?_)
 ·
  have p3 := of_decide_eq_true c2
  refine k_st ?_
  refine k_seq ?_
  refine k_block ?_
  refine k_sr ?_
  refine s_lt (t_index SqT_ok Tryz.underlying218 (.zn hS) (i : Int) i (by omega) (by (try simp only [lnm]); omega) (by omega)) ?_
  obtain ⟨y4, hy5⟩ : ∃ y, S[i]? = some y := ⟨_, List.getElem?_eq_getElem (by (try simp only [lnm]); omega)⟩
  have hb6 := hB y4 (List.mem_of_getElem? hy5)
  refine s_lt (t_loadE SqT_ok (.zn hS) hy5) ?_
  refine sp y4.v ?_
  refine s_nr ?_
  refine sp (.int .i64 sz) ?_
  refine sp y4.v ?_
  refine s_lt (t_len iTy_ok Tryz.underlying23 (.zn (hE y4 (List.mem_of_getElem? hy5)))) ?_
  refine s_lt (t_add sz (y4.xs.length : Int) (by (try simp only [lnm]); omega)) ?_
  refine sp (.int .i64 (sz + (y4.xs.length : Int))) ?_
  refine s_nr ?_
  refine sp (.int .i64 (sz + (y4.xs.length : Int))) ?_
  refine s_lt (Lt.to t_cmp (congrArg Value.bool (decide_eq_false (by omega) : (decide ((sz + (y4.xs.length : Int)) < 0)) = false))) ?_
  refine s_nt ?_
  refine k_false ?_
  refine k_skip ?_
  refine xs_block ?_
  refine xs_then ?_
  refine k_reg ?_
  refine s_lt (t_add (i : Int) 1 (by (try simp only [lnm]); omega)) ?_
  refine sp (.int .i64 ((i : Int) + 1)) ?_
  refine s_nil ?_
  exact xs_round ((sz + (y4.xs.length : Int)), i + 1) (by show S.length - (i + 1) < S.length - i; omega) (by obtain ⟨hi1, hi2⟩ := hi1; refine ⟨by omega, ?_⟩; rw [← cat_take hy5, List.length_append]; omega) (sub_of rfl ⟨⟨rfl, rfl⟩, ⟨⟨rfl, rfl⟩, ⟨⟨rfl, rfl⟩, ⟨⟨rfl, rfl⟩, ⟨⟨rfl, rfl⟩, trivial⟩⟩⟩⟩⟩) (fun _ h => h.re [] [])
 ·
  have p7 := of_decide_eq_false c2
  refine k_exit ?_
  refine xs_exit ?_
  refine xs_exit ?_
  refine xs_here ?_
  refine xs_then ?_
  refine k_sr ?_
  refine sp (.int .i64 sz) ?_
  refine s_pcall (fun _ h => grow_s sz (by omega) (by omega)) ?_
  rintro v8 _ rfl
  refine s_fact (fun H h => ((Acc.own (T := iTy) (L := []) 0 rfl) H h).form) (fun hf9 => ?_)
  refine sp v8 ?_
  refine s_nt ?_
  refine k_seq ?_
  refine k_sr ?_
  refine sp sv ?_
  refine s_lt (t_len SqT_ok Tryz.underlying218 (.zn hS)) ?_
  refine sp (.int .i64 0) ?_
  refine s_nt ?_
  refine k_block ?_
  refine k_mem (Bs := [own iTy v8 (cat (S.take 0))]) (fun _ h => h) ?_
  refine k_loop (ι := Value × Nat) (fun (sx, k) => k ≤ S.length) (fun (sx, k) => [(6, sx), (25, sv), (26, .int .i64 (S.length : Int)), (27, .int .i64 (k : Int))]) (fun (sx, k) => [own iTy sx (cat (S.take k))]) (fun (sx, k) => S.length - k) (v8, 0) (Nat.zero_le _) (sub_of rfl ⟨⟨rfl, rfl⟩, ⟨⟨rfl, rfl⟩, ⟨⟨rfl, rfl⟩, ⟨⟨rfl, rfl⟩, trivial⟩⟩⟩⟩) (fun _ h => h.re [0] []) ?_
  rintro ⟨sx, k⟩ hi10
  replace hi10 : k ≤ S.length := hi10
  show SK _ _ _ _ _ [(6, sx), (25, sv), (26, .int .i64 (S.length : Int)), (27, .int .i64 (k : Int))] _ [own iTy sx (cat (S.take k))]
  have hcl := cat_len hB k
  refine k_sr ?_
  refine s_lt t_cmp ?_
  refine s_nt ?_
  refine k_seq ?_
  refine k_cond (decide ((k : Int) < (S.length : Int))) (fun c11 => ?_) (fun c11 => ?_)
  ·
   have p12 := of_decide_eq_true c11
   refine k_st ?_
   refine k_seq ?_
   refine k_block ?_
   refine k_sr ?_
   refine s_lt (t_index SqT_ok Tryz.underlying218 (.zn hS) (k : Int) k (by omega) (by (try simp only [lnm]); omega) (by omega)) ?_
   obtain ⟨y13, hy14⟩ : ∃ y, S[k]? = some y := ⟨_, List.getElem?_eq_getElem (by (try simp only [lnm]); omega)⟩
   have hb15 := hB y13 (List.mem_of_getElem? hy14)
   refine s_lt (t_loadE SqT_ok (.zn hS) hy14) ?_
   refine sp y13.v ?_
   refine s_nt ?_
   refine k_reg ?_
   refine sp sx ?_
   refine sp y13.v ?_
   refine s_append (L := (cat (S.take k))) 0 iTy_ok Tryz.underlying23 (.zn (hE y13 (List.mem_of_getElem? hy14))) (by show _ * 8 ≤ _; (try simp only [lnm]); omega) (by (try simp only [lnm]); omega) (fun v16 => ?_)
   refine s_fact (fun H h => ((Acc.own (T := iTy) (L := ((cat (S.take k)) ++ y13.xs)) 0 rfl) H h).form) (fun hf17 => ?_)
   refine sp v16 ?_
   refine s_nil ?_
   refine xs_block ?_
   refine xs_then ?_
   refine k_reg ?_
   refine s_lt (t_add (k : Int) 1 (by (try simp only [lnm]); omega)) ?_
   refine sp (.int .i64 ((k : Int) + 1)) ?_
   refine s_nil ?_
   rw [cat_take hy14]
   exact xs_round (v16, k + 1) (by show S.length - (k + 1) < S.length - k; omega) (by show k + 1 ≤ S.length; omega) (sub_of rfl ⟨⟨rfl, rfl⟩, ⟨⟨rfl, rfl⟩, ⟨⟨rfl, rfl⟩, ⟨⟨rfl, rfl⟩, trivial⟩⟩⟩⟩) (fun _ h => h.re [0] [])
  ·
   have p18 := of_decide_eq_false c11
   refine k_exit ?_
   refine xs_exit ?_
   refine xs_exit ?_
   refine xs_here ?_
   refine xs_then ?_
   refine k_sr ?_
   refine sp sx ?_
   refine sp sx ?_
   refine s_nt ?_
   refine k_ret ?_
   exact xs_fin [sx] [own iTy sx (cat S)] (SI.tmp 2 SI.nil) (fun _ h => by rw [List.take_of_length_le (by omega)] at h; exact h.re [0] []) rfl
theorem each_nil2 {p : Sq → Prop} : ∀ x ∈ ([] : List Sq), p x := by simp
theorem each_cons2 {p : Sq → Prop} {a : Sq} {r : List Sq} (h : p a) (hr : ∀ x ∈ r, p x) : ∀ x ∈ a :: r, p x := by
  intro x hx
  rcases List.mem_cons.1 hx with rfl | hx
  · exact h
  · exact hr x hx
theorem cids_s {Z : Zone} : SF Tryz.prog 121 #[.slice none 0 0] Z [] fun r Bs => r = .slice none 0 0 ∧ Bs = [] := by
 refine sf_enter Tryz.func121 19 [(0, (.slice none 0 0))] (fun w0 => ?_)
 refine k_sr ?_
 refine sp (.slice none 0 0) ?_
 refine s_nr ?_
 refine sp (.slice none 0 0) ?_
 refine s_nt ?_
 refine k_seq ?_
 refine k_sr ?_
 refine sp (.slice none 0 0) ?_
 refine s_lt (t_kern (.int .i64 0)) ?_
 refine sp (.int .i64 0) ?_
 refine s_nt ?_
 refine k_block ?_
 refine k_loop (ι := Nat) (fun i => i ≤ 0) (fun i => [(3, (.slice none 0 0)), (6, (.slice none 0 0)), (7, .int .i64 0), (8, .int .i64 (i : Int))]) (fun i => []) (fun i => 0 - i) 0 (Nat.le_refl _) (sub_of rfl ⟨⟨rfl, rfl⟩, ⟨⟨rfl, rfl⟩, ⟨⟨rfl, rfl⟩, ⟨⟨rfl, rfl⟩, trivial⟩⟩⟩⟩) (fun _ h => h.re [] []) ?_
 rintro i hi1
 show SK _ _ _ _ _ [(3, (.slice none 0 0)), (6, (.slice none 0 0)), (7, .int .i64 0), (8, .int .i64 (i : Int))] _ []
 refine k_sr ?_
 refine s_lt (Lt.to t_cmp (congrArg Value.bool (decide_eq_false (by omega) : (decide ((i : Int) < 0)) = false))) ?_
 refine s_nt ?_
 refine k_seq ?_
 refine k_false ?_
 refine k_exit ?_
 refine xs_exit ?_
 refine xs_exit ?_
 refine xs_here ?_
 refine xs_then ?_
 refine k_sr ?_
 refine sp (.slice none 0 0) ?_
 refine sp (.slice none 0 0) ?_
 refine s_nt ?_
 refine k_ret ?_
 exact xs_fin [(.slice none 0 0)] [] (SI.tmp 2 SI.nil) (fun _ h => h.re [] []) ⟨rfl, rfl⟩
theorem creg_s {Z : Zone} {F : List Asr} {q : Nat} : SF Tryz.prog 130 #[.pointer (some ⟨q, 0, none⟩)] Z (blkA q #[.slice none 0 0, .slice none 0 0] 151 :: F) fun r Bs => r = .slice none 0 0 ∧ Bs = blkA q #[.slice none 0 0, .slice none 0 0] 151 :: F := by
 refine sf_enter Tryz.func130 10 [(0, pB q 0)] (fun w0 => ?_)
 refine k_sr ?_
 refine sp (.slice none 0 0) ?_
 refine s_nt ?_
 refine k_seq ?_
 refine k_sr ?_
 refine sp (pB q 0) ?_
 refine sp (.bool false) ?_
 refine s_nt ?_
 refine k_false ?_
 refine k_st ?_
 refine k_sr ?_
 refine sp (pB q 0) ?_
 refine sp (pB q 0) ?_
 refine sp (pB q 0) ?_
 refine s_lt (t_load 0 (.slice none 0 0)) ?_
 refine s_vcall (fun _ h => cids_s) ?_
 rintro _ rfl
 refine sp (.slice none 0 0) ?_
 refine s_nt ?_
 refine k_ret ?_
 exact xs_fin [(.slice none 0 0)] (blkA q #[.slice none 0 0, .slice none 0 0] 151 :: F) (SI.tmp 2 SI.nil) (fun _ h => h.re [0] []) ⟨rfl, rfl⟩
theorem cpen_s {Z : Zone} {F : List Asr} {q : Nat} : SF Tryz.prog 56 #[.pointer (some ⟨q, 0, none⟩)] Z (blkA q #[.slice none 0 0, .slice none 0 0] 151 :: F) fun r Bs => r = .slice none 0 0 ∧ Bs = blkA q #[.slice none 0 0, .slice none 0 0] 151 :: F := by
 refine sf_enter Tryz.func56 10 [(0, pB q 0)] (fun w0 => ?_)
 refine k_sr ?_
 refine sp (.slice none 0 0) ?_
 refine s_nt ?_
 refine k_seq ?_
 refine k_sr ?_
 refine sp (pB q 0) ?_
 refine sp (.bool false) ?_
 refine s_nt ?_
 refine k_false ?_
 refine k_st ?_
 refine k_sr ?_
 refine sp (pB q 0) ?_
 refine sp (pB q 0) ?_
 refine sp (pB q 1) ?_
 refine s_lt (t_load 0 (.slice none 0 0)) ?_
 refine s_vcall (fun _ h => cids_s) ?_
 rintro _ rfl
 refine sp (.slice none 0 0) ?_
 refine s_nt ?_
 refine k_ret ?_
 exact xs_fin [(.slice none 0 0)] (blkA q #[.slice none 0 0, .slice none 0 0] 151 :: F) (SI.tmp 2 SI.nil) (fun _ h => h.re [0] []) ⟨rfl, rfl⟩
theorem cqnew_s {Z : Zone} : SF Tryz.prog 62 #[] Z [] fun r Bs => ∃ q, r = .pointer (some ⟨q, 0, none⟩) ∧ Bs = [blkA q #[.slice none 0 0, .slice none 0 0] 151] := by
 refine sf_enter Tryz.func62 3 [] (fun w0 => ?_)
 refine k_sr ?_
 refine sp (.pointer none) ?_
 refine s_nr ?_
 refine s_lt (t_kern (.agg #[(.slice none 0 0), (.slice none 0 0)])) ?_
 refine s_box #[(.slice none 0 0), (.slice none 0 0)] (fun g1 => ?_)
 refine sp (pB g1 0) ?_
 refine s_nt ?_
 refine k_ret ?_
 exact xs_fin [.pointer (some ⟨g1, 0, none⟩)] [blkA g1 #[.slice none 0 0, .slice none 0 0] 151] (SI.tmp 0 SI.nil) (fun _ h => h.re [0] []) ⟨g1, rfl, rfl⟩
theorem cnew_s {Z : Zone} {hb : Nat} : SF Tryz.prog 26 #[.pointer (some ⟨hb, 0, none⟩)] Z [] fun r Bs => ∃ b q, r = .tuple #[.pointer (some ⟨b, 0, none⟩), .int .i64 0] ∧ Bs = [coA b q hb 0 [] [] []] := by
 refine sf_enter Tryz.func26 11 [(0, pB hb 0)] (fun w0 => ?_)
 refine k_sr ?_
 refine sp (.pointer none) ?_
 refine sp (.int .i64 0) ?_
 refine s_nt ?_
 refine k_seq ?_
 refine k_sr ?_
 refine sp (pB hb 0) ?_
 refine sp (.bool false) ?_
 refine s_nt ?_
 refine k_false ?_
 refine k_st ?_
 refine k_sr ?_
 refine s_pcall (fun _ h => cqnew_s) ?_
 rintro _ _ ⟨q1, rfl, rfl⟩
 refine sp (pB hb 0) ?_
 refine s_makeMap iK cV (fun b2 => ?_)
 refine s_lt (t_kern (.agg #[pB q1 0, pB hb 0, .int .i64 0, .map (some b2), (.slice none 0 0), (.slice none 0 0), (.slice none 0 0)])) ?_
 refine s_box #[pB q1 0, pB hb 0, .int .i64 0, .map (some b2), (.slice none 0 0), (.slice none 0 0), (.slice none 0 0)] (fun g3 => ?_)
 refine sp (pB g3 0) ?_
 refine sp (.int .i64 0) ?_
 refine s_nt ?_
 refine k_ret ?_
 refine xs_mem (fun _ h => Holds.nilO (T := iTy) h) ?_
 refine xs_mem (fun _ h => Holds.nilO (T := iTy) h) ?_
 refine xs_mem (fun _ h => co_shut (h.re [2, 3, 2, 0, 0] [])) ?_
 exact xs_fin [.pointer (some ⟨g3, 0, none⟩), .int .i64 0] [coA g3 q1 hb 0 [] [] []] (SI.tmp 2 (SI.tmp 3 SI.nil)) (fun _ h => h.re [0] []) ⟨g3, q1, rfl, rfl⟩
theorem crefs_s {Z : Zone} {F : List Asr} {b q hb : Nat} {ph : Int} {m : List (Int × Int)} {Q L : List Int} {st : Hst} {x : Int} (hr : hrefs st x = []) (he : hents st x = []) {n : Nat} (hsm : HSm n st) (hn : n ≤ 300) (hW : HW st) : SF Tryz.prog 66 #[.pointer (some ⟨b, 0, none⟩), .int .i64 x] Z (coA b q hb ph m Q L :: hpA hb st :: F) fun r Bs => Bs = own iTy r [] :: coA b q hb ph m Q L :: hpA hb st :: F := by
 refine sf_enter Tryz.func66 38 [(0, pB b 0), (1, .int .i64 x)] (fun w0 => ?_)
 refine k_sr ?_
 refine sp (.slice none 0 0) ?_
 refine s_nr ?_
 refine sp (pB b 0) ?_
 refine sp (pB b 0) ?_
 refine sp (pB b 1) ?_
 refine s_mem3 (fun H h => co_open (h.re [0] [])) (fun mb1 qv2 lv3 hw => ?_)
 refine s_lt (t_load 0 (pB hb 0)) ?_
 refine sp (.int .i64 x) ?_
 refine s_call [5] (hobject_s (st := st) hsm (by omega) hW x 0) ?_
 rintro _ _ ⟨rv4, ev5, rfl, rfl⟩
 refine s_fact (fun H h => ((Acc.own (T := iTy) (L := (hrefs st x)) 0 rfl) H h).form) (fun hf6 => ?_)
 refine s_fact (fun H h => ((Acc.own (T := EntT) (L := (hents st x)) 1 rfl) H h).form) (fun hf7 => ?_)
 refine s_mem (Bs := own iTy rv4 ([] : List Int) :: own EntT ev5 ([] : List Ent) :: hpA hb st :: blkA b #[pB q 0, pB hb 0, .int .i64 ph, .map (some mb1), qv2, lv3, (.slice none 0 0)] 91 :: blkA q #[(.slice none 0 0), (.slice none 0 0)] 151 :: mpA iK cV mb1 m :: ownO iTy qv2 Q :: ownO iTy lv3 L :: F) (fun _ h => by rw [hr, he] at h; exact h) ?_
 refine sp (.tuple #[.agg #[.int .i64 (hoId st x), .int .i64 (hoSz st x), .int .i64 (hoWk st x 0), rv4, ev5], .bool (halive st x)]) ?_
 refine sp (.agg #[.int .i64 (hoId st x), .int .i64 (hoSz st x), .int .i64 (hoWk st x 0), rv4, ev5]) ?_
 refine sp (.bool (halive st x)) ?_
 refine s_alloc (.agg #[.int .i64 0, .int .i64 0, .int .i64 0, (.slice none 0 0), (.slice none 0 0)]) #[.int .i64 0, .int .i64 0, .int .i64 0, (.slice none 0 0), (.slice none 0 0)] (fun g8 => ?_)
 refine s_store (u := .agg #[.int .i64 (hoId st x), .int .i64 (hoSz st x), .int .i64 (hoWk st x 0), rv4, ev5]) (m := 5) 0 #[.int .i64 (hoId st x), .int .i64 (hoSz st x), .int .i64 (hoWk st x 0), rv4, ev5] ?_ (hm := by (obtain ⟨_, _, e⟩ := hf6; rw [e]; obtain ⟨_, _, e⟩ := hf7; rw [e]; rfl)) (h1 := by (obtain ⟨_, _, e⟩ := hf6; rw [e]; obtain ⟨_, _, e⟩ := hf7; rw [e]; rfl)) (ha' := by (obtain ⟨_, _, e⟩ := hf6; rw [e]; obtain ⟨_, _, e⟩ := hf7; rw [e]; rfl))
 refine sp (.bool (halive st x)) ?_
 refine s_nr ?_
 refine sp (pB g8 3) ?_
 refine s_lt (t_load 0 rv4) ?_
 refine s_pcall (fun _ h => clone_s (Acc.kn (.own 1) h) (by (try simp only [lnm]); omega)) ?_
 rintro v9 _ rfl
 refine s_fact (fun H h => ((Acc.own (T := iTy) (L := ([] : List Int)) 0 rfl) H h).form) (fun hf10 => ?_)
 refine sp v9 ?_
 refine s_nt ?_
 refine k_seq ?_
 refine k_sr ?_
 refine sp (pB g8 4) ?_
 refine s_lt (t_load 1 ev5) ?_
 refine s_lt (t_len EntT_ok Tryz.underlying98 (.own 3)) ?_
 refine sp (.int .i64 0) ?_
 refine s_nt ?_
 refine k_block ?_
 refine k_mem (fun _ h => co_shut (h.re [5, 5, 5, 5, 5] [])) ?_
 refine k_loop (ι := Nat) (fun j => j ≤ 0) (fun j => [(7, v9), (23, ev5), (24, .int .i64 (([] : List Ent).length : Int)), (25, .int .i64 (j : Int))]) (fun j => coA b q hb ph m Q L :: own iTy v9 ([] : List Int) :: blkA g8 #[.int .i64 (hoId st x), .int .i64 (hoSz st x), .int .i64 (hoWk st x 0), rv4, ev5] 100 :: own iTy rv4 ([] : List Int) :: own EntT ev5 ([] : List Ent) :: hpA hb st :: F) (fun j => 0 - j) 0 (Nat.le_refl _) (sub_of rfl ⟨⟨rfl, rfl⟩, ⟨⟨rfl, rfl⟩, ⟨⟨rfl, rfl⟩, ⟨⟨rfl, rfl⟩, trivial⟩⟩⟩⟩) (fun _ h => h.re [0, 0, 0, 0, 0, 0] []) ?_
 rintro j hi11
 show SK _ _ _ _ _ [(7, v9), (23, ev5), (24, .int .i64 (([] : List Ent).length : Int)), (25, .int .i64 (j : Int))] _ (coA b q hb ph m Q L :: own iTy v9 ([] : List Int) :: blkA g8 #[.int .i64 (hoId st x), .int .i64 (hoSz st x), .int .i64 (hoWk st x 0), rv4, ev5] 100 :: own iTy rv4 ([] : List Int) :: own EntT ev5 ([] : List Ent) :: hpA hb st :: F)
 refine k_sr ?_
 refine s_lt (Lt.to t_cmp (congrArg Value.bool (decide_eq_false (by simp) : (decide ((j : Int) < (([] : List Ent).length : Int))) = false))) ?_
 refine s_nt ?_
 refine k_seq ?_
 refine k_false ?_
 refine k_exit ?_
 refine xs_exit ?_
 refine xs_exit ?_
 refine xs_here ?_
 refine xs_then ?_
 refine k_sr ?_
 refine sp v9 ?_
 refine sp v9 ?_
 refine s_nt ?_
 refine k_ret ?_
 exact xs_fin [v9] (own iTy v9 [] :: coA b q hb ph m Q L :: hpA hb st :: F) (SI.tmp 4 SI.nil) (fun _ h => h.re [1, 0, 3] [3, 3, 3]) rfl
theorem call_s {Z : Zone} {F : List Asr} {b q hb : Nat} {ph : Int} {m : List (Int × Int)} {Q L : List Int} {rv : Value} {R : List Int} (hR : R.length ≤ 1000000) : SF Tryz.prog 67 #[.pointer (some ⟨b, 0, none⟩), rv] Z (own iTy rv R :: coA b q hb ph m Q L :: F) fun r Bs => Bs = own iTy r R :: own iTy rv R :: coA b q hb ph m Q L :: F := by
 refine sf_enter Tryz.func67 18 [(0, pB b 0), (1, rv)] (fun w0 => ?_)
 refine k_fact (fun H h => ((Acc.own (T := iTy) (L := R) 0 rfl) H h).form) (fun hf => ?_)
 obtain ⟨pp, cc, e⟩ := hf; subst e
 refine k_sr ?_
 refine sp (.slice none 0 0) ?_
 refine s_nt ?_
 refine k_seq ?_
 refine k_mem3 (fun H h => co_open (h.re [1] [])) (fun mb1 qv2 lv3 hw => ?_)
 refine k_held [blkA b #[pB q 0, pB hb 0, .int .i64 ph, .map (some mb1), qv2, lv3, (.slice none 0 0)] 91, blkA q #[(.slice none 0 0), (.slice none 0 0)] 151, mpA iK cV mb1 m, own iTy (.slice pp R.length cc) R] ?_
 refine hp_ 0 [0, 0, 0, 2] (.slice pp R.length cc) ?_
 refine hp_ 1 [0, 0, 0, 2] (pB b 0) ?_
 refine hp_ 2 [0, 0, 0, 2] (pB b 0) ?_
 refine hp_ 3 [0, 0, 0, 2] (pB b 0) ?_
 refine h_l 4 rfl [0, 0, 0, 2] (fun _ => (t_load 0 (pB q 0))) ?_
 refine hp_ 6 [0, 0, 0, 2] (pB b 0) ?_
 refine hp_ 7 [0, 0, 0, 2] (pB b 0) ?_
 refine hp_ 8 [0, 0, 0, 2] (pB b 0) ?_
 refine h_l 9 rfl [0, 0, 0, 2] (fun _ => (t_load 0 (pB q 0))) ?_
 refine h_stepS 5 ?_
 refine s_call [1] (creg_s) ?_
 rintro _ _ ⟨rfl, rfl⟩
 refine s_nil (xs_held [1, 0, 0, 2] ?_)
 refine h_stepS 10 ?_
 refine s_call [0] (cpen_s) ?_
 rintro _ _ ⟨rfl, rfl⟩
 refine s_nil (xs_held [1, 0, 0, 2] ?_)
 refine h_stepS 11 ?_
 refine s_buildSlice (e := 23) [(0, (.slice pp R.length cc)), (1, (.slice none 0 0)), (2, (.slice none 0 0))] #[(.slice pp R.length cc), (.slice none 0 0), (.slice none 0 0)] (fun g4 => ?_) (hb := by kernel_rfl)
 refine s_nil (xs_held [2, 1, 1, 3] ?_)
 refine h_stepS 12 ?_
 refine s_pcall (fun _ h => concat_s (S := [⟨pp, cc, R⟩, ⟨none, 0, []⟩, ⟨none, 0, []⟩]) (Acc.kn (T := SqT) (Acc.lit 0 SqT_ok [⟨pp, cc, R⟩, ⟨none, 0, []⟩, ⟨none, 0, []⟩]) h) (each_cons2 (Acc.kn (T := iTy) (.own 6) h) (each_cons2 (Acc.kn (T := iTy) .nil h) (each_cons2 (Acc.kn (T := iTy) .nil h) each_nil2))) (by show 3 ≤ 100; decide) (each_cons2 (by show R.length ≤ _; (try simp only [lnm]); omega) (each_cons2 (by show [].length ≤ _; (try simp only [lnm]); omega) (each_cons2 (by show [].length ≤ _; (try simp only [lnm]); omega) each_nil2)))) ?_
 rintro v5 _ rfl
 have hcat : cat [⟨pp, cc, R⟩, ⟨none, 0, []⟩, ⟨none, 0, []⟩] = R := by simp [cat]
 refine s_mem (Bs := own iTy v5 R :: blkA g4 #[(.slice pp R.length cc), (.slice none 0 0), (.slice none 0 0)] 23 :: blkA q #[(.slice none 0 0), (.slice none 0 0)] 151 :: blkA b #[pB q 0, pB hb 0, .int .i64 ph, .map (some mb1), qv2, lv3, (.slice none 0 0)] 91 :: mpA iK cV mb1 m :: ownO iTy qv2 Q :: ownO iTy lv3 L :: own iTy (.slice pp R.length cc) R :: F) (fun _ h => by rw [hcat] at h; exact h) ?_
 refine s_fact (fun H h => ((Acc.own (T := iTy) (L := R) 0 rfl) H h).form) (fun hf6 => ?_)
 refine s_nil (xs_held [3, 2, 2, 4] ?_)
 refine hp_ 13 [3, 2, 2, 4] v5 ?_
 refine h_doneS ?_
 refine xs_then ?_
 refine k_ret ?_
 refine xs_mem (fun _ h => co_shut (h.re [3, 2, 2, 2, 2] [])) ?_
 exact xs_fin [v5] (own iTy v5 R :: own iTy (.slice pp R.length cc) R :: coA b q hb ph m Q L :: F) (SI.tmp 4 SI.nil) (fun _ h => h.re [1, 2, 0] [3]) rfl
theorem crooted_s {Z : Zone} {F : List Asr} {b q hb : Nat} {ph : Int} {m : List (Int × Int)} {Q L : List Int} {st : Hst} {rv : Value} {R : List Int} (hR : R.length ≤ 100000) (hQ : Q.length ≤ 100000) : SF Tryz.prog 108 #[.pointer (some ⟨b, 0, none⟩), rv] Z (own iTy rv R :: coA b q hb ph m Q L :: hpA hb st :: F) fun r Bs => r = .tuple #[] ∧ Bs = own iTy rv R :: coA b q hb ph (rchA st (m, Q) R).1 (rchA st (m, Q) R).2 L :: hpA hb st :: F := by
 refine sf_enter Tryz.func108 18 [(0, pB b 0), (1, rv)] (fun w0 => ?_)
 refine k_sr ?_
 refine sp (pB b 0) ?_
 refine sp rv ?_
 refine s_call [0, 0] (call_s (R := R) (by omega)) ?_
 rintro v1 _ rfl
 refine s_fact (fun H h => ((Acc.own (T := iTy) (L := R) 0 rfl) H h).form) (fun hf2 => ?_)
 refine s_lt (t_len iTy_ok Tryz.underlying23 (.own 0)) ?_
 refine sp (.int .i64 0) ?_
 refine s_nt ?_
 refine k_block ?_
 refine k_mem (Bs := own iTy v1 R :: own iTy rv R :: coA b q hb ph ((rchA st (m, Q) (R.take 0)).1) ((rchA st (m, Q) (R.take 0)).2) L :: hpA hb st :: F) (fun _ h => h) ?_
 refine k_loop (ι := Nat) (fun i => i ≤ R.length) (fun i => [(0, pB b 0), (8, v1), (9, .int .i64 (R.length : Int)), (10, .int .i64 (i : Int))]) (fun i => own iTy v1 R :: own iTy rv R :: coA b q hb ph ((rchA st (m, Q) (R.take i)).1) ((rchA st (m, Q) (R.take i)).2) L :: hpA hb st :: F) (fun i => R.length - i) 0 (Nat.zero_le _) (sub_of rfl ⟨⟨rfl, rfl⟩, ⟨⟨rfl, rfl⟩, ⟨⟨rfl, rfl⟩, ⟨⟨rfl, rfl⟩, trivial⟩⟩⟩⟩) (fun _ h => h.re [0, 0, 0, 0] []) ?_
 rintro i hi3
 show SK _ _ _ _ _ [(0, .pointer (some ⟨b, 0, none⟩)), (8, v1), (9, .int .i64 (R.length : Int)), (10, .int .i64 (i : Int))] _ (own iTy v1 R :: own iTy rv R :: coA b q hb ph ((rchA st (m, Q) (R.take i)).1) ((rchA st (m, Q) (R.take i)).2) L :: hpA hb st :: F)
 have hql := rchA_len st (R.take i) (m, Q); rw [List.length_take] at hql; dsimp only at hql
 refine k_sr ?_
 refine s_lt t_cmp ?_
 refine s_nt ?_
 refine k_seq ?_
 refine k_cond (decide ((i : Int) < (R.length : Int))) (fun c4 => ?_) (fun c4 => ?_)
 ·
  have p5 := of_decide_eq_true c4
  refine k_st ?_
  refine k_seq ?_
  refine k_block ?_
  refine k_sr ?_
  refine s_lt (t_index iTy_ok Tryz.underlying23 (.own 0) (i : Int) i (by omega) (by (try simp only [lnm]); omega) (by omega)) ?_
  obtain ⟨y6, hy7⟩ : ∃ y, R[i]? = some y := ⟨_, List.getElem?_eq_getElem (by (try simp only [lnm]); omega)⟩
  refine s_lt (t_loadE iTy_ok (.own 0) hy7) ?_
  refine sp (.int .i64 y6) ?_
  refine s_nt ?_
  refine k_reg ?_
  refine sp (pB b 0) ?_
  refine sp (.int .i64 y6) ?_
  refine s_call [2, 2] (creach_s (Q := (rchA st (m, Q) (R.take i)).2) (by omega) y6) ?_
  rintro _ _ ⟨rfl, rfl⟩
  refine s_nil ?_
  refine xs_block ?_
  refine xs_then ?_
  refine k_reg ?_
  refine s_lt (t_add (i : Int) 1 (by (try simp only [lnm]); omega)) ?_
  refine sp (.int .i64 ((i : Int) + 1)) ?_
  refine s_nil ?_
  refine xs_mem (Bs := coA b q hb ph ((rchA st (m, Q) (R.take (i + 1))).1) ((rchA st (m, Q) (R.take (i + 1))).2) L :: hpA hb st :: own iTy v1 R :: own iTy rv R :: F) (fun _ h => by rw [rchA_take hy7]; exact h) ?_
  exact xs_round (i + 1) (by show R.length - (i + 1) < R.length - i; omega) (by omega) (sub_of rfl ⟨⟨rfl, rfl⟩, ⟨⟨rfl, rfl⟩, ⟨⟨rfl, rfl⟩, ⟨⟨rfl, rfl⟩, trivial⟩⟩⟩⟩) (fun _ h => h.re [2, 2, 0, 0] [])
 ·
  have p8 := of_decide_eq_false c4
  refine k_exit ?_
  obtain rfl : i = R.length := by omega
  rw [List.take_length]
  refine xs_exit ?_
  refine xs_exit ?_
  refine xs_here ?_
  exact xs_finN [] (own iTy rv R :: coA b q hb ph ((rchA st (m, Q) R).1) ((rchA st (m, Q) R).2) L :: hpA hb st :: F) SI.nil (fun _ h => h.re [1, 1, 1] [3]) ⟨rfl, rfl⟩
theorem cbegin_s {Z : Zone} {F : List Asr} {b q hb : Nat} {ph : Int} {m : List (Int × Int)} {Q L : List Int} {st : Hst} {rv : Value} {R : List Int} (hR : R.length ≤ 100000) : SF Tryz.prog 47 #[.pointer (some ⟨b, 0, none⟩), rv] Z (own iTy rv R :: coA b q hb ph m Q L :: hpA hb st :: F) fun r Bs => r = .tuple #[] ∧ Bs = own iTy rv R :: coA b q hb 1 (rchA st ([], []) R).1 (rchA st ([], []) R).2 L :: hpA hb st :: F := by
 refine sf_enter Tryz.func47 17 [(0, pB b 0), (1, rv)] (fun w0 => ?_)
 refine k_sr ?_
 refine sp (pB b 0) ?_
 refine s_makeMap iK cV (fun b1 => ?_)
 refine sp (pB b 0) ?_
 refine sp (pB b 3) ?_
 refine s_mem3 (fun H h => co_open (h.re [2] [])) (fun mb2 qv3 lv4 hw => ?_)
 refine s_store 0 #[pB q 0, pB hb 0, .int .i64 ph, .map (some b1), qv3, lv4, (.slice none 0 0)] ?_
 refine s_nr ?_
 refine sp (pB b 0) ?_
 refine sp (pB b 0) ?_
 refine sp (pB b 4) ?_
 refine s_store 0 #[pB q 0, pB hb 0, .int .i64 ph, .map (some b1), (.slice none 0 0), lv4, (.slice none 0 0)] ?_
 refine s_nr ?_
 refine sp (pB b 0) ?_
 refine sp (pB b 0) ?_
 refine sp (pB b 2) ?_
 refine s_store 0 #[pB q 0, pB hb 0, .int .i64 1, .map (some b1), (.slice none 0 0), lv4, (.slice none 0 0)] ?_
 refine s_nt ?_
 refine k_reg ?_
 refine sp (pB b 0) ?_
 refine sp rv ?_
 refine s_mem (fun _ h => Holds.nilO (T := iTy) h) ?_
 refine s_mem (fun _ h => co_shut (h.re [1, 1, 4, 0, 2] [])) ?_
 refine s_call [3, 0, 2] (crooted_s (R := R) (Q := []) (m := []) (by omega) (by first | omega | simp)) ?_
 rintro _ _ ⟨rfl, rfl⟩
 refine s_nil ?_
 exact xs_finN [] (own iTy rv R :: coA b q hb 1 ((rchA st ([], []) R).1) ((rchA st ([], []) R).2) L :: hpA hb st :: F) SI.nil (fun _ h => h.re [0, 0, 0] [3, 3]) ⟨rfl, rfl⟩
end Go.Proofs.YtmhpcebiamkciaaGreat
end
section
set_option linter.unusedSimpArgs false
set_option linter.unusedVariables false
set_option maxRecDepth 100000
set_option maxHeartbeats 2000000
namespace Go.Proofs.YtmhpcebiamkciaaGreat
open Go.Hp Go.J Go.S
open Go.Mem (Ty KTy blk elemAt pre suf blk_pre blk_suf aget aset strK aggDesc)
open Go.Mem (adel apos aget_aset aget_adel)
theorem cmark1_s {Z : Zone} {F : List Asr} {b q hb : Nat} {ph : Int} {m : List (Int × Int)} {L : List Int} {st : Hst} {x : Int} {rv : Value} {R : List Int} (hr : hrefs st x = []) (he : hents st x = []) {n : Nat} (hsm : HSm n st) (hn : n ≤ 300) (hW : HW st) : SF Tryz.prog 48 #[.pointer (some ⟨b, 0, none⟩), rv] Z (own iTy rv R :: coA b q hb ph m [x] L :: hpA hb st :: F) fun r Bs => r = .bool true ∧ Bs = own iTy rv R :: coA b q hb ph (aset m x 2) [] L :: hpA hb st :: F := by
 refine sf_enter Tryz.func48 65 [(0, pB b 0), (1, rv)] (fun w0 => ?_)
 refine k_sr ?_
 refine sp (.bool false) ?_
 refine s_nt ?_
 refine k_seq ?_
 refine k_sr ?_
 refine sp (pB b 0) ?_
 refine sp (pB b 0) ?_
 refine sp (pB b 4) ?_
 refine s_mem3 (fun H h => co_open (h.re [1] [])) (fun mb1 qv2 lv3 hw => ?_)
 refine s_lt (t_load 0 qv2) ?_
 refine s_lt (t_len iTy_ok Tryz.underlying23 (.ownO 3)) ?_
 refine s_lt (Lt.to t_cmp (congrArg Value.bool (decide_eq_false (by simp) : (decide (([x].length : Int) = 0)) = false))) ?_
 refine s_nt ?_
 refine k_false ?_
 refine k_st ?_
 refine k_seq ?_
 refine k_sr ?_
 refine sp (pB b 0) ?_
 refine sp (pB b 0) ?_
 refine sp (pB b 4) ?_
 refine s_lt (t_load 0 qv2) ?_
 refine s_lt (t_len iTy_ok Tryz.underlying23 (.ownO 3)) ?_
 refine s_lt (Lt.to t_cmp (congrArg Value.bool (decide_eq_false (by simp) : (decide (([x].length : Int) = 0)) = false))) ?_
 refine s_nt ?_
 refine k_false ?_
 refine k_st ?_
 refine k_sr ?_
 refine sp (pB b 0) ?_
 refine sp (pB b 0) ?_
 refine sp (pB b 4) ?_
 refine s_lt (t_load 0 qv2) ?_
 refine s_lt (t_index iTy_ok Tryz.underlying23 (.ownO 3) 0 0 (by omega) (by (try simp only [lnm]); omega) (by omega)) ?_
 refine s_lt (t_loadE iTy_ok (.ownO 3) (show ([x] : List Int)[0]? = some x from rfl)) ?_
 refine sp (.int .i64 x) ?_
 refine s_nr ?_
 refine sp (pB b 0) ?_
 refine sp (pB b 0) ?_
 refine sp (pB b 0) ?_
 refine sp (pB b 4) ?_
 refine s_lt (t_load 0 qv2) ?_
 refine s_lt (t_suf iTy_ok Tryz.underlying23 (.ownO 3) 1 1 (by omega) (by (try simp only [lnm]); omega) (by omega)) ?_
 refine sp (pB b 0) ?_
 refine sp (pB b 4) ?_
 refine s_mem (fun _ h => Holds.sufO (i := 3) h iTy_ok 1 rfl (by (try simp only [lnm]); omega)) ?_
 refine s_fact (fun H h => ((Acc.ownO (T := iTy) (L := ([x].drop 1)) 3 rfl) H h).form) (fun hf4 => ?_)
 refine s_store (u := (suf iTy.size qv2 1)) (m := 1) 0 #[pB q 0, pB hb 0, .int .i64 ph, .map (some mb1), (suf iTy.size qv2 1), lv3, (.slice none 0 0)] ?_ (hm := by (obtain ⟨_, _, e⟩ := hf4; rw [e]; rfl)) (h1 := by (obtain ⟨_, _, e⟩ := hf4; rw [e]; rfl)) (ha' := by (obtain ⟨_, _, e⟩ := hf4; rw [e]; rfl))
 refine s_nt ?_
 refine k_seq ?_
 refine k_sr ?_
 refine sp (pB b 0) ?_
 refine sp (.int .i64 x) ?_
 refine s_mem (fun _ h => co_shut (h.re [0, 0, 0, 0, 0] [])) ?_
 refine s_call [0, 1] (crefs_s (x := x) hr he hsm hn hW) ?_
 rintro v5 _ rfl
 refine s_fact (fun H h => ((Acc.own (T := iTy) (L := ([] : List Int)) 0 rfl) H h).form) (fun hf6 => ?_)
 refine s_lt (t_len iTy_ok Tryz.underlying23 (.own 0)) ?_
 refine sp (.int .i64 0) ?_
 refine s_nt ?_
 refine k_block ?_
 refine k_loop (ι := Nat) (fun j => j ≤ 0) (fun j => [(0, pB b 0), (5, .int .i64 x), (50, v5), (51, .int .i64 (([] : List Int).length : Int)), (52, .int .i64 (j : Int))]) (fun j => own iTy v5 ([] : List Int) :: coA b q hb ph m ([x].drop 1) L :: hpA hb st :: own iTy rv R :: F) (fun j => 0 - j) 0 (Nat.le_refl _) (sub_of rfl ⟨⟨rfl, rfl⟩, ⟨⟨rfl, rfl⟩, ⟨⟨rfl, rfl⟩, ⟨⟨rfl, rfl⟩, ⟨⟨rfl, rfl⟩, trivial⟩⟩⟩⟩⟩) (fun _ h => h.re [0, 0, 0, 0] []) ?_
 rintro j hi7
 show SK _ _ _ _ _ [(0, .pointer (some ⟨b, 0, none⟩)), (5, .int .i64 x), (50, v5), (51, .int .i64 (([] : List Int).length : Int)), (52, .int .i64 (j : Int))] _ (own iTy v5 ([] : List Int) :: coA b q hb ph m ([x].drop 1) L :: hpA hb st :: own iTy rv R :: F)
 refine k_sr ?_
 refine s_lt (Lt.to t_cmp (congrArg Value.bool (decide_eq_false (by simp) : (decide ((j : Int) < (([] : List Int).length : Int))) = false))) ?_
 refine s_nt ?_
 refine k_seq ?_
 refine k_false ?_
 refine k_exit ?_
 refine xs_exit ?_
 refine xs_exit ?_
 refine xs_here ?_
 refine xs_then ?_
 refine k_sr ?_
 refine sp (pB b 0) ?_
 refine sp (pB b 0) ?_
 refine sp (pB b 3) ?_
 refine s_mem3 (fun H h => co_open (h.re [1] [])) (fun mb8 qv9 lv10 hw => ?_)
 refine s_lt (t_load 0 (.map (some mb8))) ?_
 refine sp (.int .i64 x) ?_
 refine s_update 2 intOk Tryz.underlying89 x (2 : Int) ?_
 refine s_nr ?_
 refine sp (.bool true) ?_
 refine s_nt ?_
 refine k_ret ?_
 refine xs_mem (fun _ h => co_shut (h.re [0, 0, 0, 0, 0] [])) ?_
 exact xs_fin [.bool true] (own iTy rv R :: coA b q hb ph (aset m x (2 : Int)) ([x].drop 1) L :: hpA hb st :: F) (SI.tmp 4 SI.nil) (fun _ h => h.re [3, 0, 1] [3]) ⟨rfl, rfl⟩
theorem cmark2_s {Z : Zone} {F : List Asr} {b q hb : Nat} {ph : Int} {m : List (Int × Int)} {L : List Int} {st : Hst} {rv : Value} {R : List Int} (hR : R.length ≤ 100000) (hz : rchA st (m, []) R = (m, [])) {n : Nat} (hsm : HSm n st) (hn : n ≤ 300) : SF Tryz.prog 48 #[.pointer (some ⟨b, 0, none⟩), rv] Z (own iTy rv R :: coA b q hb ph m [] L :: hpA hb st :: F) fun r Bs => r = .bool false ∧ Bs = own iTy rv R :: coA b q hb 2 m [] (hids st) :: hpA hb st :: F := by
 refine sf_enter Tryz.func48 65 [(0, pB b 0), (1, rv)] (fun w0 => ?_)
 refine k_sr ?_
 refine sp (.bool false) ?_
 refine s_nt ?_
 refine k_seq ?_
 refine k_sr ?_
 refine sp (pB b 0) ?_
 refine sp (pB b 0) ?_
 refine sp (pB b 4) ?_
 refine s_mem3 (fun H h => co_open (h.re [1] [])) (fun mb1 qv2 lv3 hw => ?_)
 refine s_lt (t_load 0 qv2) ?_
 refine s_lt (t_len iTy_ok Tryz.underlying23 (.ownO 3)) ?_
 refine s_lt (Lt.to t_cmp (congrArg Value.bool (decide_eq_true rfl : (decide ((([] : List Int).length : Int) = 0)) = true))) ?_
 refine s_nt ?_
 refine k_true ?_
 refine k_reg ?_
 refine sp (pB b 0) ?_
 refine sp rv ?_
 refine s_mem (fun _ h => co_shut (h.re [0, 0, 0, 0, 0] [])) ?_
 refine s_call [1, 0, 0] (crooted_s (R := R) (Q := ([] : List Int)) (m := m) (by omega) (by first | omega | simp)) ?_
 rintro _ _ ⟨rfl, rfl⟩
 refine s_mem (Bs := own iTy rv R :: coA b q hb ph m ([] : List Int) L :: hpA hb st :: F) (fun _ h => by rw [hz] at h; exact h) ?_
 refine s_nt ?_
 refine k_seq ?_
 refine k_sr ?_
 refine sp (pB b 0) ?_
 refine sp (pB b 0) ?_
 refine sp (pB b 4) ?_
 refine s_mem3 (fun H h => co_open (h.re [1] [])) (fun mb4 qv5 lv6 hw => ?_)
 refine s_lt (t_load 0 qv5) ?_
 refine s_lt (t_len iTy_ok Tryz.underlying23 (.ownO 3)) ?_
 refine s_lt (Lt.to t_cmp (congrArg Value.bool (decide_eq_true rfl : (decide ((([] : List Int).length : Int) = 0)) = true))) ?_
 refine s_nt ?_
 refine k_true ?_
 refine k_sr ?_
 refine sp (pB b 0) ?_
 refine sp (pB b 0) ?_
 refine sp (pB b 2) ?_
 refine s_store 0 #[pB q 0, pB hb 0, .int .i64 2, .map (some mb4), qv5, lv6, (.slice none 0 0)] ?_
 refine s_nr ?_
 refine sp (pB b 0) ?_
 refine sp (pB b 0) ?_
 refine sp (pB b 0) ?_
 refine sp (pB b 1) ?_
 refine s_lt (t_load 0 (pB hb 0)) ?_
 refine s_call [6] (hids_s (st := st) hsm (by omega)) ?_
 rintro v7 _ rfl
 refine s_fact (fun H h => ((Acc.own (T := iTy) (L := (hids st)) 0 rfl) H h).form) (fun hf8 => ?_)
 refine sp (pB b 0) ?_
 refine sp (pB b 5) ?_
 refine s_store (u := v7) (m := 1) 2 #[pB q 0, pB hb 0, .int .i64 2, .map (some mb4), qv5, v7, (.slice none 0 0)] ?_ (hm := by (obtain ⟨_, _, e⟩ := hf8; rw [e]; rfl)) (h1 := by (obtain ⟨_, _, e⟩ := hf8; rw [e]; rfl)) (ha' := by (obtain ⟨_, _, e⟩ := hf8; rw [e]; rfl))
 refine s_nr ?_
 refine sp (.bool false) ?_
 refine s_nt ?_
 refine k_ret ?_
 refine xs_ret ?_
 refine xs_mem (fun _ h => Holds.toO (h.re [0] [])) ?_
 refine xs_mem (fun _ h => co_shut (h.re [2, 2, 2, 2, 0] [])) ?_
 exact xs_fin [.bool false] (own iTy rv R :: coA b q hb 2 m ([] : List Int) (hids st) :: hpA hb st :: F) (SI.tmp 4 SI.nil) (fun _ h => h.re [3, 0, 0] [3]) ⟨rfl, rfl⟩
theorem csweep_s {Z : Zone} {F : List Asr} {b q hb : Nat} {ph : Int} {m : List (Int × Int)} {Q : List Int} {x : Int} (hz : ¬ mgt m x = 0) : SF Tryz.prog 49 #[.pointer (some ⟨b, 0, none⟩)] Z (coA b q hb ph m Q [x] :: F) fun r Bs => r = .tuple #[] ∧ Bs = coA b q hb ph (adel m x) Q [] :: F := by
 refine sf_enter Tryz.func49 45 [(0, pB b 0)] (fun w0 => ?_)
 refine k_sr ?_
 refine sp (pB b 0) ?_
 refine sp (pB b 0) ?_
 refine sp (pB b 5) ?_
 refine s_mem3 (fun H h => co_open (h.re [0] [])) (fun mb1 qv2 lv3 hw => ?_)
 refine s_lt (t_load 0 lv3) ?_
 refine s_lt (t_index iTy_ok Tryz.underlying23 (.ownO 4) 0 0 (by omega) (by (try simp only [lnm]); omega) (by omega)) ?_
 refine s_lt (t_loadE iTy_ok (.ownO 4) (show ([x] : List Int)[0]? = some x from rfl)) ?_
 refine sp (.int .i64 x) ?_
 refine s_nr ?_
 refine sp (pB b 0) ?_
 refine sp (pB b 0) ?_
 refine sp (pB b 0) ?_
 refine sp (pB b 5) ?_
 refine s_lt (t_load 0 lv3) ?_
 refine s_lt (t_suf iTy_ok Tryz.underlying23 (.ownO 4) 1 1 (by omega) (by (try simp only [lnm]); omega) (by omega)) ?_
 refine sp (pB b 0) ?_
 refine sp (pB b 5) ?_
 refine s_mem (fun _ h => Holds.sufO (i := 4) h iTy_ok 1 rfl (by (try simp only [lnm]); omega)) ?_
 refine s_fact (fun H h => ((Acc.ownO (T := iTy) (L := ([x].drop 1)) 4 rfl) H h).form) (fun hf4 => ?_)
 refine s_store (u := (suf iTy.size lv3 1)) (m := 1) 0 #[pB q 0, pB hb 0, .int .i64 ph, .map (some mb1), qv2, (suf iTy.size lv3 1), (.slice none 0 0)] ?_ (hm := by (obtain ⟨_, _, e⟩ := hf4; rw [e]; rfl)) (h1 := by (obtain ⟨_, _, e⟩ := hf4; rw [e]; rfl)) (ha' := by (obtain ⟨_, _, e⟩ := hf4; rw [e]; rfl))
 refine s_nr ?_
 refine sp (pB b 0) ?_
 refine sp (pB b 0) ?_
 refine sp (pB b 3) ?_
 refine s_lt (t_load 0 (.map (some mb1))) ?_
 refine sp (.int .i64 x) ?_
 refine s_lt (Lt.to (v' := .int .i64 (mgt m x)) (t_lookup 2 intOk Tryz.underlying89 (.int .i64 0) x) (mgt_is _ _)) ?_
 refine s_lt (Lt.to t_cmp (congrArg Value.bool (decide_eq_false hz : (decide ((mgt m x) = 0)) = false))) ?_
 refine s_nt ?_
 refine k_false ?_
 refine k_reg ?_
 refine sp (pB b 0) ?_
 refine sp (pB b 0) ?_
 refine sp (pB b 3) ?_
 refine s_lt (t_load 0 (.map (some mb1))) ?_
 refine sp (.int .i64 x) ?_
 refine s_delete0 2 intOk Tryz.underlying89 x ?_
 refine s_nil ?_
 refine xs_mem (fun _ h => co_shut (h.re [0, 0, 0, 0, 0] [])) ?_
 exact xs_finN [] (coA b q hb ph (adel m x) Q ([x].drop 1) :: F) SI.nil (fun _ h => h.re [0] []) ⟨rfl, rfl⟩
theorem lv_begin {st : Hst} (ha : halive st 1 = true) : rchA st ([], []) [1] = ([(1, 1)], [1]) := by
  show (rchM st [] 1, rchQ st [] [] 1) = _
  unfold rchM rchQ
  rw [if_pos ⟨ha, rfl⟩, if_pos ⟨ha, rfl⟩]; rfl
theorem lv_again {st : Hst} : rchA st ([(1, 2)], []) [1] = ([(1, 2)], []) := by
  show (rchM st [(1, 2)] 1, rchQ st [(1, 2)] [] 1) = _
  unfold rchM rchQ
  rw [if_neg (fun e => absurd e.2 (by decide)), if_neg (fun e => absurd e.2 (by decide))]
def lvst : Nat → Int × Int × List (Int × Int) × List Int × List Int
  | 0 => (0, 1, [(1, 1)], [1], [])
  | 1 => (1, 1, [(1, 2)], [], [])
  | 2 => (1, 2, [(1, 2)], [], [1])
  | _ => (2, 0, [], [], [])
theorem cwork_s {Z : Zone} {F : List Asr} {b q hb : Nat} {st : Hst} {rv : Value} (ha : halive st 1 = true) (hr : hrefs st 1 = []) (he : hents st 1 = []) (hi : hids st = [1]) {n : Nat} (hsm : HSm n st) (hn : n ≤ 300) (hW : HW st) : SF Tryz.prog 16 #[.pointer (some ⟨b, 0, none⟩), .int .i64 9, rv] Z (own iTy rv [1] :: coA b q hb 0 [] [] [] :: hpA hb st :: F) fun r Bs => r = .int .i64 2 ∧ Bs = own iTy rv [1] :: coA b q hb 0 [] [] [] :: hpA hb st :: F := by
 refine sf_enter Tryz.func16 62 [(0, pB b 0), (1, .int .i64 9), (2, rv)] (fun w0 => ?_)
 refine k_sr ?_
 refine sp (.int .i64 0) ?_
 refine s_nt ?_
 refine k_seq ?_
 refine k_sr ?_
 refine sp (pB b 0) ?_
 refine sp (.bool false) ?_
 refine sp (.bool false) ?_
 refine sp (.int .i64 9) ?_
 refine s_lt (t_cmp (c := false)) ?_
 refine sp (.bool false) ?_
 refine s_nt ?_
 refine k_false ?_
 refine k_st ?_
 refine k_seq ?_
 refine k_sr ?_
 refine sp (pB b 0) ?_
 refine sp (pB b 0) ?_
 refine sp (pB b 2) ?_
 refine s_mem3 (fun H h => co_open (h.re [1] [])) (fun mb1 qv2 lv3 hw => ?_)
 refine s_lt (t_load 0 (.int .i64 0)) ?_
 refine s_lt (t_cmp (c := true)) ?_
 refine s_nt ?_
 refine k_true ?_
 refine k_reg ?_
 refine sp (pB b 0) ?_
 refine sp rv ?_
 refine s_mem (fun _ h => co_shut (h.re [0, 0, 0, 0, 0] [])) ?_
 refine s_call [1, 0, 0] (cbegin_s (R := [1]) (by decide)) ?_
 rintro _ _ ⟨rfl, rfl⟩
 refine s_mem (Bs := own iTy rv [1] :: coA b q hb 1 [(1, 1)] [1] [] :: hpA hb st :: F) (fun _ h => by rw [lv_begin ha] at h; exact h) ?_
 refine s_nr ?_
 refine sp (.int .i64 0) ?_
 refine s_nt ?_
 refine k_seq ?_
 refine k_block ?_
 refine k_loop (ι := Nat × Int × Int × List (Int × Int) × List Int × List Int) (fun (k, zzn, zzp, zzm, zzQ, zzL) => lvst k = (zzn, zzp, zzm, zzQ, zzL) ∧ k ≤ 3) (fun (k, zzn, zzp, zzm, zzQ, zzL) => [(0, pB b 0), (1, .int .i64 9), (2, rv), (7, .int .i64 zzn)]) (fun (k, zzn, zzp, zzm, zzQ, zzL) => own iTy rv [1] :: coA b q hb zzp zzm zzQ zzL :: hpA hb st :: F) (fun (k, zzn, zzp, zzm, zzQ, zzL) => 3 - k) (0, 0, 1, [(1, 1)], [1], []) ⟨rfl, by decide⟩ (sub_of rfl ⟨⟨rfl, rfl⟩, ⟨⟨rfl, rfl⟩, ⟨⟨rfl, rfl⟩, ⟨⟨rfl, rfl⟩, trivial⟩⟩⟩⟩) (fun _ h => h.re [0, 0, 0] []) ?_
 rintro ⟨k, zzn, zzp, zzm, zzQ, zzL⟩ hi4
 replace hi4 : lvst k = (zzn, zzp, zzm, zzQ, zzL) ∧ k ≤ 3 := hi4
 show SK _ _ _ _ _ [(0, .pointer (some ⟨b, 0, none⟩)), (1, .int .i64 9), (2, rv), (7, .int .i64 zzn)] _ (own iTy rv [1] :: coA b q hb zzp zzm zzQ zzL :: hpA hb st :: F)
 obtain ⟨hk1, hk2⟩ := hi4
 obtain rfl | rfl | rfl | rfl : k = 0 ∨ k = 1 ∨ k = 2 ∨ k = 3 := by omega
 ·
  replace hk1 : ((0 : Int), (1 : Int), ([(1, 1)] : List (Int × Int)), ([1] : List Int), ([] : List Int)) = (zzn, zzp, zzm, zzQ, zzL) := hk1
  cases hk1
  show SK _ _ _ _ _ [(0, .pointer (some ⟨b, 0, none⟩)), (1, .int .i64 9), (2, rv), (7, .int .i64 0)] _ (own iTy rv [1] :: coA b q hb 1 [(1, 1)] [1] [] :: hpA hb st :: F)
  refine k_seq ?_
  refine k_sr ?_
  refine sp (.int .i64 0) ?_
  refine sp (.int .i64 9) ?_
  refine s_lt (t_cmp (c := true)) ?_
  refine sp (.bool true) ?_
  refine sp (pB b 0) ?_
  refine sp (pB b 0) ?_
  refine sp (pB b 2) ?_
  refine s_mem3 (fun H h => co_open (h.re [1] [])) (fun mb5 qv6 lv7 hw => ?_)
  refine s_lt (t_load 0 (.int .i64 1)) ?_
  refine s_lt (t_cmp (c := true)) ?_
  refine sp (.bool true) ?_
  refine s_nt ?_
  refine k_true ?_
  refine k_st ?_
  refine k_block ?_
  refine k_seq ?_
  refine k_sr ?_
  refine sp (pB b 0) ?_
  refine sp (pB b 0) ?_
  refine sp (pB b 2) ?_
  refine s_lt (t_load 0 (.int .i64 1)) ?_
  refine s_lt (t_cmp (c := true)) ?_
  refine s_nt ?_
  refine k_true ?_
  refine k_seq ?_
  refine k_sr ?_
  refine sp (pB b 0) ?_
  refine sp rv ?_
  refine s_mem (fun _ h => co_shut (h.re [0, 0, 0, 0, 0] [])) ?_
  refine s_call [1, 0, 0] (cmark1_s (x := 1) hr he hsm hn hW) ?_
  rintro _ _ ⟨rfl, rfl⟩
  refine s_mem (Bs := own iTy rv [1] :: coA b q hb 1 [(1, 2)] [] [] :: hpA hb st :: F) (fun _ h => by rw [show aset [((1 : Int), (1 : Int))] 1 2 = [(1, 2)] from by decide] at h; exact h) ?_
  refine s_nt ?_
  refine k_true ?_
  refine k_reg ?_
  refine sp (.int .i64 0) ?_
  refine sp (.int .i64 1) ?_
  refine sp (.int .i64 1) ?_
  refine s_nt ?_
  refine k_exit ?_
  refine xs_exit ?_
  refine xs_here ?_
  exact xs_round (1, 1, 1, [(1, 2)], [], []) (by show 3 - 1 < 3 - 0; decide) ⟨rfl, by show 1 ≤ 3; decide⟩ (sub_of rfl ⟨⟨rfl, rfl⟩, ⟨⟨rfl, rfl⟩, ⟨⟨rfl, rfl⟩, ⟨⟨rfl, rfl⟩, trivial⟩⟩⟩⟩) (fun _ h => h.re [0, 0, 0] [])
 ·
  replace hk1 : ((1 : Int), (1 : Int), ([(1, 2)] : List (Int × Int)), ([] : List Int), ([] : List Int)) = (zzn, zzp, zzm, zzQ, zzL) := hk1
  cases hk1
  show SK _ _ _ _ _ [(0, .pointer (some ⟨b, 0, none⟩)), (1, .int .i64 9), (2, rv), (7, .int .i64 1)] _ (own iTy rv [1] :: coA b q hb 1 [(1, 2)] [] [] :: hpA hb st :: F)
  refine k_seq ?_
  refine k_sr ?_
  refine sp (.int .i64 1) ?_
  refine sp (.int .i64 9) ?_
  refine s_lt (t_cmp (c := true)) ?_
  refine sp (.bool true) ?_
  refine sp (pB b 0) ?_
  refine sp (pB b 0) ?_
  refine sp (pB b 2) ?_
  refine s_mem3 (fun H h => co_open (h.re [1] [])) (fun mb8 qv9 lv10 hw => ?_)
  refine s_lt (t_load 0 (.int .i64 1)) ?_
  refine s_lt (t_cmp (c := true)) ?_
  refine sp (.bool true) ?_
  refine s_nt ?_
  refine k_true ?_
  refine k_st ?_
  refine k_block ?_
  refine k_seq ?_
  refine k_sr ?_
  refine sp (pB b 0) ?_
  refine sp (pB b 0) ?_
  refine sp (pB b 2) ?_
  refine s_lt (t_load 0 (.int .i64 1)) ?_
  refine s_lt (t_cmp (c := true)) ?_
  refine s_nt ?_
  refine k_true ?_
  refine k_seq ?_
  refine k_sr ?_
  refine sp (pB b 0) ?_
  refine sp rv ?_
  refine s_mem (fun _ h => co_shut (h.re [0, 0, 0, 0, 0] [])) ?_
  refine s_call [1, 0, 0] (cmark2_s (m := [(1, 2)]) (R := [1]) (by decide) lv_again hsm hn) ?_
  rintro _ _ ⟨rfl, rfl⟩
  refine s_mem (Bs := own iTy rv [1] :: coA b q hb 2 [(1, 2)] [] [1] :: hpA hb st :: F) (fun _ h => by rw [hi] at h; exact h) ?_
  refine s_nt ?_
  refine k_false ?_
  refine k_st ?_
  refine k_exit ?_
  refine xs_exit ?_
  refine xs_here ?_
  exact xs_round (2, 1, 2, [(1, 2)], [], [1]) (by show 3 - 2 < 3 - 1; decide) ⟨rfl, by show 2 ≤ 3; decide⟩ (sub_of rfl ⟨⟨rfl, rfl⟩, ⟨⟨rfl, rfl⟩, ⟨⟨rfl, rfl⟩, ⟨⟨rfl, rfl⟩, trivial⟩⟩⟩⟩) (fun _ h => h.re [0, 0, 0] [])
 ·
  replace hk1 : ((1 : Int), (2 : Int), ([(1, 2)] : List (Int × Int)), ([] : List Int), ([1] : List Int)) = (zzn, zzp, zzm, zzQ, zzL) := hk1
  cases hk1
  show SK _ _ _ _ _ [(0, .pointer (some ⟨b, 0, none⟩)), (1, .int .i64 9), (2, rv), (7, .int .i64 1)] _ (own iTy rv [1] :: coA b q hb 2 [(1, 2)] [] [1] :: hpA hb st :: F)
  refine k_seq ?_
  refine k_sr ?_
  refine sp (.int .i64 1) ?_
  refine sp (.int .i64 9) ?_
  refine s_lt (t_cmp (c := true)) ?_
  refine sp (.bool true) ?_
  refine sp (pB b 0) ?_
  refine sp (pB b 0) ?_
  refine sp (pB b 2) ?_
  refine s_mem3 (fun H h => co_open (h.re [1] [])) (fun mb11 qv12 lv13 hw => ?_)
  refine s_lt (t_load 0 (.int .i64 2)) ?_
  refine s_lt (t_cmp (c := true)) ?_
  refine sp (.bool true) ?_
  refine s_nt ?_
  refine k_true ?_
  refine k_st ?_
  refine k_block ?_
  refine k_seq ?_
  refine k_sr ?_
  refine sp (pB b 0) ?_
  refine sp (pB b 0) ?_
  refine sp (pB b 2) ?_
  refine s_lt (t_load 0 (.int .i64 2)) ?_
  refine s_lt (t_cmp (c := false)) ?_
  refine s_nt ?_
  refine k_false ?_
  refine k_st ?_
  refine k_seq ?_
  refine k_sr ?_
  refine sp (pB b 0) ?_
  refine sp (pB b 0) ?_
  refine sp (pB b 5) ?_
  refine s_lt (t_load 0 lv13) ?_
  refine s_lt (t_len iTy_ok Tryz.underlying23 (.ownO 4)) ?_
  refine s_lt (Lt.to t_cmp (congrArg Value.bool (decide_eq_true (by decide) : (decide ((0 : Int) < ([1].length : Int))) = true))) ?_
  refine s_nt ?_
  refine k_true ?_
  refine k_sr ?_
  refine sp (pB b 0) ?_
  refine s_mem (fun _ h => co_shut (h.re [0, 0, 0, 0, 0] [])) ?_
  refine s_call [0] (csweep_s (m := [(1, 2)]) (x := 1) (by decide)) ?_
  rintro _ _ ⟨rfl, rfl⟩
  refine s_mem (Bs := coA b q hb 2 [] [] [] :: own iTy rv [1] :: hpA hb st :: F) (fun _ h => by rw [show adel [((1 : Int), (2 : Int))] 1 = [] from by decide] at h; exact h) ?_
  refine s_nt ?_
  refine k_reg ?_
  refine sp (.int .i64 1) ?_
  refine sp (.int .i64 2) ?_
  refine sp (.int .i64 2) ?_
  refine s_nr ?_
  refine sp (pB b 0) ?_
  refine sp (pB b 0) ?_
  refine sp (pB b 5) ?_
  refine s_mem3 (fun H h => co_open (h.re [0] [])) (fun mb14 qv15 lv16 hw => ?_)
  refine s_lt (t_load 0 lv16) ?_
  refine s_lt (t_len iTy_ok Tryz.underlying23 (.ownO 4)) ?_
  refine s_lt (Lt.to t_cmp (congrArg Value.bool (decide_eq_true rfl : (decide (([].length : Int) = 0)) = true))) ?_
  refine s_nt ?_
  refine k_true ?_
  refine k_reg ?_
  refine sp (pB b 0) ?_
  refine sp (pB b 0) ?_
  refine sp (pB b 2) ?_
  refine s_store 0 #[pB q 0, pB hb 0, .int .i64 0, .map (some mb14), qv15, lv16, (.slice none 0 0)] ?_
  refine s_nil ?_
  refine xs_block ?_
  refine xs_mem (fun _ h => co_shut (h.re [0, 0, 0, 0, 0] [])) ?_
  exact xs_round (3, 2, 0, [], [], []) (by show 3 - 3 < 3 - 2; decide) ⟨rfl, by show 3 ≤ 3; decide⟩ (sub_of rfl ⟨⟨rfl, rfl⟩, ⟨⟨rfl, rfl⟩, ⟨⟨rfl, rfl⟩, ⟨⟨rfl, rfl⟩, trivial⟩⟩⟩⟩) (fun _ h => h.re [1, 0, 0] [])
 ·
  replace hk1 : ((2 : Int), (0 : Int), ([] : List (Int × Int)), ([] : List Int), ([] : List Int)) = (zzn, zzp, zzm, zzQ, zzL) := hk1
  cases hk1
  show SK _ _ _ _ _ [(0, .pointer (some ⟨b, 0, none⟩)), (1, .int .i64 9), (2, rv), (7, .int .i64 2)] _ (own iTy rv [1] :: coA b q hb 0 [] [] [] :: hpA hb st :: F)
  refine k_seq ?_
  refine k_sr ?_
  refine sp (.int .i64 2) ?_
  refine sp (.int .i64 9) ?_
  refine s_lt (t_cmp (c := true)) ?_
  refine sp (.bool true) ?_
  refine sp (pB b 0) ?_
  refine sp (pB b 0) ?_
  refine sp (pB b 2) ?_
  refine s_mem3 (fun H h => co_open (h.re [1] [])) (fun mb17 qv18 lv19 hw => ?_)
  refine s_lt (t_load 0 (.int .i64 0)) ?_
  refine s_lt (t_cmp (c := false)) ?_
  refine sp (.bool false) ?_
  refine s_nt ?_
  refine k_false ?_
  refine k_exit ?_
  refine xs_exit ?_
  refine xs_exit ?_
  refine xs_here ?_
  refine xs_then ?_
  refine k_sr ?_
  refine sp (.int .i64 2) ?_
  refine sp (.int .i64 2) ?_
  refine s_nt ?_
  refine k_ret ?_
  refine xs_mem (fun _ h => co_shut (h.re [0, 0, 0, 0, 0] [])) ?_
  exact xs_fin [.int .i64 2] (own iTy rv [1] :: coA b q hb 0 [] [] [] :: hpA hb st :: F) (SI.tmp 6 SI.nil) (fun _ h => h.re [1, 0, 0] []) ⟨rfl, rfl⟩
theorem cphase_s {Z : Zone} {F : List Asr} {b q hb : Nat} {ph : Int} {m : List (Int × Int)} {Q L : List Int} : SF Tryz.prog 15 #[.pointer (some ⟨b, 0, none⟩)] Z (coA b q hb ph m Q L :: F) fun r Bs => r = .int .i64 ph ∧ Bs = coA b q hb ph m Q L :: F := by
 refine sf_enter Tryz.func15 9 [(0, pB b 0)] (fun w0 => ?_)
 refine k_sr ?_
 refine sp (.int .i64 0) ?_
 refine s_nt ?_
 refine k_seq ?_
 refine k_sr ?_
 refine sp (pB b 0) ?_
 refine sp (.bool false) ?_
 refine s_nt ?_
 refine k_false ?_
 refine k_st ?_
 refine k_sr ?_
 refine sp (pB b 0) ?_
 refine sp (pB b 0) ?_
 refine sp (pB b 2) ?_
 refine s_mem3 (fun H h => co_open (h.re [0] [])) (fun mb1 qv2 lv3 hw => ?_)
 refine s_lt (t_load 0 (.int .i64 ph)) ?_
 refine sp (.int .i64 ph) ?_
 refine s_nt ?_
 refine k_ret ?_
 refine xs_mem (fun _ h => co_shut (h.re [0, 0, 0, 0, 0] [])) ?_
 exact xs_fin [.int .i64 ph] (coA b q hb ph m Q L :: F) (SI.tmp 2 SI.nil) (fun _ h => h.re [0] []) ⟨rfl, rfl⟩
def lvH : Hst := hmake hp0 (newO 4 0 ByteArray.empty [])
theorem lv_v : hmakeV hp0 4 = ⟨4, 0, 0, ByteArray.empty, 1⟩ := rfl
theorem lv_e : hmakeE hp0 = 0 := rfl
theorem lv_a : halive lvH 1 = true := rfl
theorem lv_r : hrefs lvH 1 = [] := rfl
theorem lv_n : hents lvH 1 = [] := rfl
theorem lv_i : hids lvH = [1] := rfl
theorem lv_sm : HSm 1 lvH := hmake_sm HSm.nil rfl (by decide)
theorem lv_w : HW lvH := HW.make HW.nil (newO_w _ _ _ (fun _ hv => (by cases hv)) (fun h8 => by cases h8))
theorem lives_s {Z : Zone} : SF Tryz.prog 9 #[] Z [] fun r Bs => r = .bool true ∧ Bs = [] := by
 refine sf_enter Tryz.func9 44 [] (fun w0 => ?_)
 refine k_sr ?_
 refine sp (.bool false) ?_
 refine s_nr ?_
 refine s_pcall (fun _ h => hnew_s) ?_
 rintro _ _ ⟨hb1, rfl, rfl⟩
 refine sp (pB hb1 0) ?_
 refine s_nt ?_
 refine k_seq ?_
 refine k_sr ?_
 refine sp (pB hb1 0) ?_
 refine sp (.bool false) ?_
 refine s_nt ?_
 refine k_false ?_
 refine k_st ?_
 refine k_sr ?_
 refine sp (pB hb1 0) ?_
 refine s_call [0] (hnewtable_s (st := hp0) (by decide)) ?_
 rintro _ _ ⟨rfl, rfl⟩
 rw [lv_v, lv_e]
 refine s_mem (Bs := [hpA hb1 lvH]) (fun _ h => h) ?_
 refine sp (.tuple #[.agg #[.int .i64 4, .int .i64 0, .int .i64 0, .string ByteArray.empty, .int .i64 1], .int .i64 0]) ?_
 refine sp (.agg #[.int .i64 4, .int .i64 0, .int .i64 0, .string ByteArray.empty, .int .i64 1]) ?_
 refine sp (.int .i64 0) ?_
 refine s_alloc (.agg #[.int .i64 0, .int .i64 0, .int .i64 0, .string ByteArray.empty, .int .i64 0]) #[.int .i64 0, .int .i64 0, .int .i64 0, .string ByteArray.empty, .int .i64 0] (fun g2 => ?_)
 refine s_store 0 #[.int .i64 4, .int .i64 0, .int .i64 0, .string ByteArray.empty, .int .i64 1] ?_
 refine sp (.int .i64 0) ?_
 refine s_nr ?_
 refine sp (pB hb1 0) ?_
 refine s_pcall (fun _ h => cnew_s) ?_
 rintro _ _ ⟨b3, q4, rfl, rfl⟩
 refine sp (.tuple #[pB b3 0, .int .i64 0]) ?_
 refine sp (pB b3 0) ?_
 refine sp (.int .i64 0) ?_
 refine sp (pB b3 0) ?_
 refine sp (.int .i64 0) ?_
 refine s_nr ?_
 refine sp (pB b3 0) ?_
 refine sp (.bool true) ?_
 refine sp (.bool true) ?_
 refine sp (.int .i64 0) ?_
 refine s_lt (t_cmp (c := true)) ?_
 refine sp (.bool true) ?_
 refine sp (.bool true) ?_
 refine sp (pB b3 0) ?_
 refine sp (pB g2 4) ?_
 refine s_lt (t_load 1 (.int .i64 1)) ?_
 refine s_buildSlice (e := 3) [(0, .int .i64 1)] #[.int .i64 1] (fun g5 => ?_) (hb := by kernel_rfl)
 refine s_mem (fun _ h => Holds.slice 0 h iTy_ok [1]) ?_
 refine s_call [0, 0, 1] (cwork_s lv_a lv_r lv_n lv_i lv_sm (by decide) lv_w) ?_
 rintro _ _ ⟨rfl, rfl⟩
 refine s_lt (t_cmp (c := true)) ?_
 refine sp (.bool true) ?_
 refine sp (.bool true) ?_
 refine sp (pB b3 0) ?_
 refine s_call [1] (cphase_s) ?_
 rintro _ _ ⟨rfl, rfl⟩
 refine s_lt (t_cmp (c := true)) ?_
 refine sp (.bool true) ?_
 refine sp (.bool true) ?_
 refine sp (pB hb1 0) ?_
 refine sp (pB g2 4) ?_
 refine s_lt (t_load 3 (.int .i64 1)) ?_
 refine s_call [2] (halive_s (st := lvH) 1) ?_
 rintro _ _ ⟨rfl, rfl⟩
 refine sp (.bool (halive lvH 1)) ?_
 refine sp (.bool (halive lvH 1)) ?_
 refine s_nt ?_
 refine k_ret ?_
 exact xs_fin [.bool (halive lvH 1)] [] (SI.tmp 0 SI.nil) (fun _ h => h.re [] [0, 0, 0, 0]) ⟨congrArg Value.bool lv_a, rfl⟩
theorem cnew0_s {Z : Zone} : SF Tryz.prog 26 #[.pointer none] Z [] fun r Bs => r = .tuple #[.pointer none, .int .i64 1] ∧ Bs = [] := by
 refine sf_enter Tryz.func26 11 [(0, .pointer none)] (fun w0 => ?_)
 refine k_sr ?_
 refine sp (.pointer none) ?_
 refine sp (.int .i64 0) ?_
 refine s_nt ?_
 refine k_seq ?_
 refine k_sr ?_
 refine sp (.pointer none) ?_
 refine sp (.bool true) ?_
 refine s_nt ?_
 refine k_true ?_
 refine k_sr ?_
 refine sp (.pointer none) ?_
 refine sp (.int .i64 1) ?_
 refine s_nt ?_
 refine k_ret ?_
 refine xs_ret ?_
 exact xs_fin [.pointer none, .int .i64 1] [] (SI.tmp 2 (SI.tmp 3 SI.nil)) (fun _ h => h.re [] []) ⟨rfl, rfl⟩
theorem due0_s {Z : Zone} : SF Tryz.prog 19 #[.pointer none] Z [] fun r Bs => r = .tuple #[.int .i64 0, .bool false] ∧ Bs = [] := by
 refine sf_enter Tryz.func19 13 [(0, .pointer none)] (fun w0 => ?_)
 refine k_sr ?_
 refine sp (.int .i64 0) ?_
 refine sp (.bool false) ?_
 refine s_nt ?_
 refine k_seq ?_
 refine k_sr ?_
 refine sp (.pointer none) ?_
 refine sp (.bool true) ?_
 refine s_nt ?_
 refine k_true ?_
 refine k_sr ?_
 refine sp (.int .i64 0) ?_
 refine sp (.bool false) ?_
 refine s_nt ?_
 refine k_ret ?_
 refine xs_ret ?_
 exact xs_fin [.int .i64 0, .bool false] [] (SI.tmp 2 (SI.tmp 3 SI.nil)) (fun _ h => h.re [] []) ⟨rfl, rfl⟩
theorem work0_s {Z : Zone} {x : Int} {rv : Value} : SF Tryz.prog 16 #[.pointer none, .int .i64 x, rv] Z [] fun r Bs => r = .int .i64 0 ∧ Bs = [] := by
 refine sf_enter Tryz.func16 62 [(0, .pointer none), (1, .int .i64 x), (2, rv)] (fun w0 => ?_)
 refine k_sr ?_
 refine sp (.int .i64 0) ?_
 refine s_nt ?_
 refine k_seq ?_
 refine k_sr ?_
 refine sp (.pointer none) ?_
 refine sp (.bool true) ?_
 refine sp (.bool true) ?_
 refine s_skip ?_
 refine s_skip ?_
 refine sp (.bool true) ?_
 refine s_nt ?_
 refine k_true ?_
 refine k_sr ?_
 refine sp (.int .i64 0) ?_
 refine s_nt ?_
 refine k_ret ?_
 refine xs_ret ?_
 exact xs_fin [.int .i64 0] [] (SI.tmp 6 SI.nil) (fun _ h => h.re [] []) ⟨rfl, rfl⟩
theorem write0_s {Z : Zone} {x : Int} {y : Int} : SF Tryz.prog 27 #[.pointer none, .int .i64 x, .int .i64 y] Z [] fun r Bs => r = .int .i64 1 ∧ Bs = [] := by
 refine sf_enter Tryz.func27 33 [(0, .pointer none), (1, .int .i64 x), (2, .int .i64 y)] (fun w0 => ?_)
 refine k_sr ?_
 refine sp (.int .i64 0) ?_
 refine s_nt ?_
 refine k_seq ?_
 refine k_sr ?_
 refine sp (.pointer none) ?_
 refine sp (.bool true) ?_
 refine s_nt ?_
 refine k_true ?_
 refine k_sr ?_
 refine sp (.int .i64 1) ?_
 refine s_nt ?_
 refine k_ret ?_
 refine xs_ret ?_
 exact xs_fin [.int .i64 1] [] (SI.tmp 6 SI.nil) (fun _ h => h.re [] []) ⟨rfl, rfl⟩
theorem birth0_s {Z : Zone} {x : Int} : SF Tryz.prog 28 #[.pointer none, .int .i64 x] Z [] fun r Bs => r = .int .i64 1 ∧ Bs = [] := by
 refine sf_enter Tryz.func28 47 [(0, .pointer none), (1, .int .i64 x)] (fun w0 => ?_)
 refine k_sr ?_
 refine s_box #[.int .i64 x] (fun g1 => ?_)
 refine sp (.int .i64 0) ?_
 refine s_nt ?_
 refine k_seq ?_
 refine k_sr ?_
 refine sp (.pointer none) ?_
 refine sp (.bool true) ?_
 refine s_nt ?_
 refine k_true ?_
 refine k_sr ?_
 refine sp (.int .i64 1) ?_
 refine s_nt ?_
 refine k_ret ?_
 refine xs_ret ?_
 exact xs_fin [.int .i64 1] [] (SI.tmp 4 SI.nil) (fun _ h => h.re [] [0]) ⟨rfl, rfl⟩
theorem regis0_s {Z : Zone} {x : Int} : SF Tryz.prog 14 #[.pointer none, .int .i64 x] Z [] fun r Bs => r = .int .i64 1 ∧ Bs = [] := by
 refine sf_enter Tryz.func14 56 [(0, .pointer none), (1, .int .i64 x)] (fun w0 => ?_)
 refine k_sr ?_
 refine sp (.int .i64 0) ?_
 refine s_nt ?_
 refine k_seq ?_
 refine k_sr ?_
 refine sp (.pointer none) ?_
 refine sp (.bool true) ?_
 refine s_nt ?_
 refine k_true ?_
 refine k_sr ?_
 refine sp (.int .i64 1) ?_
 refine s_nt ?_
 refine k_ret ?_
 refine xs_ret ?_
 exact xs_fin [.int .i64 1] [] (SI.tmp 4 SI.nil) (fun _ h => h.re [] []) ⟨rfl, rfl⟩
theorem full0_s {Z : Zone} {rv : Value} : SF Tryz.prog 18 #[.pointer none, rv] Z [] fun r Bs => r = (.slice none 0 0) ∧ Bs = [] := by
 refine sf_enter Tryz.func18 119 [(0, .pointer none), (1, rv)] (fun w0 => ?_)
 refine k_sr ?_
 refine sp (.slice none 0 0) ?_
 refine s_nt ?_
 refine k_seq ?_
 refine k_sr ?_
 refine sp (.pointer none) ?_
 refine sp (.bool true) ?_
 refine s_nt ?_
 refine k_true ?_
 refine k_sr ?_
 refine sp (.slice none 0 0) ?_
 refine s_nt ?_
 refine k_ret ?_
 refine xs_ret ?_
 exact xs_fin [(.slice none 0 0)] [] (SI.tmp 4 SI.nil) (fun _ h => h.re [] []) ⟨rfl, rfl⟩
theorem phase0_s {Z : Zone} : SF Tryz.prog 15 #[.pointer none] Z [] fun r Bs => r = .int .i64 0 ∧ Bs = [] := by
 refine sf_enter Tryz.func15 9 [(0, .pointer none)] (fun w0 => ?_)
 refine k_sr ?_
 refine sp (.int .i64 0) ?_
 refine s_nt ?_
 refine k_seq ?_
 refine k_sr ?_
 refine sp (.pointer none) ?_
 refine sp (.bool true) ?_
 refine s_nt ?_
 refine k_true ?_
 refine k_sr ?_
 refine sp (.int .i64 0) ?_
 refine s_nt ?_
 refine k_ret ?_
 refine xs_ret ?_
 exact xs_fin [.int .i64 0] [] (SI.tmp 2 SI.nil) (fun _ h => h.re [] []) ⟨rfl, rfl⟩
theorem freed0_s {Z : Zone} : SF Tryz.prog 25 #[.pointer none] Z [] fun r Bs => r = (.slice none 0 0) ∧ Bs = [] := by
 refine sf_enter Tryz.func25 10 [(0, .pointer none)] (fun w0 => ?_)
 refine k_sr ?_
 refine sp (.slice none 0 0) ?_
 refine s_nt ?_
 refine k_seq ?_
 refine k_sr ?_
 refine sp (.pointer none) ?_
 refine sp (.bool true) ?_
 refine s_nt ?_
 refine k_true ?_
 refine k_sr ?_
 refine sp (.slice none 0 0) ?_
 refine s_nt ?_
 refine k_ret ?_
 refine xs_ret ?_
 exact xs_fin [(.slice none 0 0)] [] (SI.tmp 2 SI.nil) (fun _ h => h.re [] []) ⟨rfl, rfl⟩
theorem sound0_s {Z : Zone} {rv : Value} : SF Tryz.prog 29 #[.pointer none, rv] Z [] fun r Bs => r = .bool false ∧ Bs = [] := by
 refine sf_enter Tryz.func29 125 [(0, .pointer none), (1, rv)] (fun w0 => ?_)
 refine k_sr ?_
 refine sp (.bool false) ?_
 refine s_nt ?_
 refine k_seq ?_
 refine k_sr ?_
 refine sp (.pointer none) ?_
 refine sp (.bool true) ?_
 refine s_nt ?_
 refine k_true ?_
 refine k_sr ?_
 refine sp (.bool false) ?_
 refine s_nt ?_
 refine k_ret ?_
 refine xs_ret ?_
 exact xs_fin [.bool false] [] (SI.tmp 4 SI.nil) (fun _ h => h.re [] []) ⟨rfl, rfl⟩
theorem cnil_w {Z : Zone} (x y : Int) (rv : Value) : SF Tryz.prog 5 #[.int .i64 x, .int .i64 y, rv] Z [] fun r Bs => r = .bool true ∧ Bs = [] := by
 refine sf_enter Tryz.func5 88 [(0, .int .i64 x), (1, .int .i64 y), (2, rv)] (fun w0 => ?_)
 refine k_sr ?_
 refine sp (.bool false) ?_
 refine s_nr ?_
 refine sp (.pointer none) ?_
 refine s_nr ?_
 refine s_vcall (fun _ h => cnew0_s) ?_
 rintro _ rfl
 refine sp (.tuple #[.pointer none, .int .i64 1]) ?_
 refine sp (.pointer none) ?_
 refine sp (.int .i64 1) ?_
 refine sp (.pointer none) ?_
 refine sp (.int .i64 1) ?_
 refine s_nr ?_
 refine sp (.pointer none) ?_
 refine s_vcall (fun _ h => due0_s) ?_
 rintro _ rfl
 refine sp (.tuple #[.int .i64 0, .bool false]) ?_
 refine sp (.int .i64 0) ?_
 refine sp (.bool false) ?_
 refine sp (.int .i64 0) ?_
 refine sp (.bool false) ?_
 refine s_nr ?_
 refine sp (.pointer none) ?_
 refine sp (.bool true) ?_
 refine sp (.bool true) ?_
 refine sp (.int .i64 1) ?_
 refine s_lt (t_cmp (c := true)) ?_
 refine sp (.bool true) ?_
 refine sp (.bool true) ?_
 refine sp (.pointer none) ?_
 refine sp (.int .i64 x) ?_
 refine sp rv ?_
 refine s_vcall (fun _ h => work0_s) ?_
 rintro _ rfl
 refine s_lt (t_cmp (c := true)) ?_
 refine sp (.bool true) ?_
 refine sp (.bool true) ?_
 refine sp (.pointer none) ?_
 refine sp (.int .i64 y) ?_
 refine sp (.int .i64 x) ?_
 refine s_vcall (fun _ h => write0_s) ?_
 rintro _ rfl
 refine s_lt (t_cmp (c := true)) ?_
 refine sp (.bool true) ?_
 refine sp (.bool true) ?_
 refine sp (.pointer none) ?_
 refine sp (.int .i64 y) ?_
 refine s_vcall (fun _ h => birth0_s) ?_
 rintro _ rfl
 refine s_lt (t_cmp (c := true)) ?_
 refine sp (.bool true) ?_
 refine sp (.bool true) ?_
 refine sp (.pointer none) ?_
 refine sp (.int .i64 y) ?_
 refine s_vcall (fun _ h => regis0_s) ?_
 rintro _ rfl
 refine s_lt (t_cmp (c := true)) ?_
 refine sp (.bool true) ?_
 refine sp (.bool true) ?_
 refine sp (.int .i64 0) ?_
 refine s_lt (t_cmp (c := true)) ?_
 refine sp (.bool true) ?_
 refine sp (.bool true) ?_
 refine sp (.bool false) ?_
 refine sp (.bool true) ?_
 refine sp (.bool true) ?_
 refine sp (.bool true) ?_
 refine sp (.pointer none) ?_
 refine sp rv ?_
 refine s_vcall (fun _ h => full0_s) ?_
 rintro _ rfl
 refine s_lt (t_kern (.int .i64 0)) ?_
 refine s_lt (t_cmp (c := true)) ?_
 refine sp (.bool true) ?_
 refine sp (.bool true) ?_
 refine sp (.pointer none) ?_
 refine s_vcall (fun _ h => phase0_s) ?_
 rintro _ rfl
 refine s_lt (t_cmp (c := true)) ?_
 refine sp (.bool true) ?_
 refine sp (.bool true) ?_
 refine sp (.pointer none) ?_
 refine s_vcall (fun _ h => freed0_s) ?_
 rintro _ rfl
 refine s_lt (t_kern (.int .i64 0)) ?_
 refine s_lt (t_cmp (c := true)) ?_
 refine sp (.bool true) ?_
 refine sp (.bool true) ?_
 refine sp (.pointer none) ?_
 refine sp rv ?_
 refine s_vcall (fun _ h => sound0_s) ?_
 rintro _ rfl
 refine sp (.bool true) ?_
 refine sp (.bool true) ?_
 refine sp (.bool true) ?_
 refine s_vcall (fun _ h => lives_s) ?_
 rintro _ rfl
 refine sp (.bool true) ?_
 refine sp (.bool true) ?_
 refine s_nt ?_
 refine k_ret ?_
 exact xs_fin [.bool true] [] (SI.tmp 6 SI.nil) (fun _ h => h.re [] []) ⟨rfl, rfl⟩
end Go.Proofs.YtmhpcebiamkciaaGreat
end
section
set_option linter.unusedSimpArgs false
set_option linter.unusedVariables false
namespace Go.J
open Go.ChangeShapes Go.WideShapes Go.RowKit Go.Hp
open Go.Mem (Ty)
section
variable {H : Type} {enc : TypeId × Value → H} {P : Program} {W : World}
abbrev Tr (enc : TypeId × Value → H) (P : Program) (W : World) (t : TypeId) (cs : List Value) : Prop := ∃ n x, DataW.trod enc P W 0 (fun _ => true) true n t cs = some x
theorem tr_field {t : TypeId} {fs : Array Field} {cs : List Value} (hu : P.underlying t = some (.struct fs)) (h : Tr enc P W t cs) (j : Nat) (f : Field) (hf : fs[j]? = some f) : Tr enc P W f.type ((cs.drop f.offset).take (P.cellsOf f.type)) := by
  obtain ⟨fuel, x, hx⟩ := h
  obtain ⟨xs, n, _, _, hlen, hxl, hall⟩ := DataW.trod_struct hu hx
  have h2 := hall j f hf
  have hj : j < xs.length := by rw [hxl]; exact (Array.getElem?_eq_some_iff.1 hf).1
  rw [List.getElem?_eq_getElem hj] at h2
  exact ⟨n, _, h2⟩
theorem tr_len {t : TypeId} {fs : Array Field} {cs : List Value} (hu : P.underlying t = some (.struct fs)) (h : Tr enc P W t cs) : cs.length = P.cellsOf t := by
  obtain ⟨fuel, x, hx⟩ := h
  obtain ⟨xs, n, _, _, hlen, hxl, hall⟩ := DataW.trod_struct hu hx
  exact hlen
theorem tr_int {t : TypeId} {k : IntKind} {cs : List Value} (hu : P.underlying t = some (.int k)) (h : Tr enc P W t cs) : ∃ n, cs = [.int k n] ∧ (Lit.int k n).wf = true := by
  obtain ⟨fuel, x, hx⟩ := h
  obtain ⟨n, h1, _, h3⟩ := DataW.trod_int hu hx
  exact ⟨n, h1, h3⟩
theorem tr_bool {t : TypeId} {cs : List Value} (hu : P.underlying t = some .bool) (h : Tr enc P W t cs) : ∃ b, cs = [.bool b] := by
  obtain ⟨fuel, x, hx⟩ := h
  obtain ⟨n, h1, _⟩ := DataW.trod_bool hu hx
  exact ⟨n, h1⟩
theorem tr_str {t : TypeId} {cs : List Value} (hu : P.underlying t = some .string) (h : Tr enc P W t cs) : ∃ s, cs = [.string s] := by
  obtain ⟨fuel, x, hx⟩ := h
  obtain ⟨n, h1, _⟩ := DataW.trod_string hu hx
  exact ⟨n, h1⟩
/-- A slice that is read: its elements, and that each of them is read. -/
theorem tr_slice {α : Type} [Inhabited α] {T : Ty α} (hT : T.Ok P) {t : TypeId} {cs : List Value} (ht : P.underlying t = some (.slice T.id)) (hc : P.cellsOf T.id = T.size)
    (hdec : ∀ cs, Tr enc P W T.id cs → ∃ x, T.enc x = cs) (h : Tr enc P W t cs) : ∃ v L, cs = [v] ∧ Sl W.heap T v L ∧ ∀ (k : Nat) y, L[k]? = some y → Tr enc P W T.id (T.enc y) := by
  obtain ⟨fuel, x, hf⟩ := h
  rcases Deep.open_slice ht hf with ⟨h0, _⟩ | ⟨a, len0, cap, m, n, D, Pl, h0, _, hl, hm, hmm, _, hx⟩
  · exact ⟨_, [], h0, .inl ⟨⟨none, rfl⟩, rfl⟩, by simp⟩
  simp only [if_true] at hmm
  subst hmm
  have hpos := hT.pos
  rw [hc] at hx
  by_cases hcap : m = 0
  · subst hcap
    obtain rfl : len0 = 0 := by omega
    exact ⟨_, [], h0, .inl ⟨⟨some a, rfl⟩, rfl⟩, by simp⟩
  obtain ⟨g, off, spot⟩ := a
  have key : spot = none ∧ ∃ arr e fr, W.heap[g]? = some (.cells arr e fr) := by
    obtain ⟨cs', h1, h2⟩ := hx 0 (by omega)
    obtain ⟨_, hlen, hcell⟩ := World.cells?_some h1
    have h3 := hcell 0 hpos
    simp only [Nat.zero_mul, Addr.add, if_true] at h3
    have hne : cs'[0]? ≠ none := by rw [List.getElem?_eq_getElem (by omega)]; exact fun h => nomatch h
    unfold World.cell? at h3
    simp only at h3
    cases hg : W.heap[g]? with
    | none => rw [hg] at h3; simp only at h3; exact absurd h3.symm hne
    | some ob =>
      rw [hg] at h3
      cases ob <;> simp only at h3 <;> first | (exact absurd h3.symm hne) | skip
      rename_i arr e fr
      cases spot with
      | none => exact ⟨rfl, arr, e, fr, rfl⟩
      | some s => simp only [Option.isSome_some, if_true] at h3; exact absurd h3.symm hne
  obtain ⟨rfl, arr, e, fr, hg⟩ := key
  obtain ⟨X, hX⟩ := Deep.choose_lt (α := α) (p := fun i x => (∀ j u, (T.enc x)[j]? = some u → arr[off + i * T.size + j]? = some u) ∧ Tr enc P W T.id (T.enc x)) (fun i hi => by
    obtain ⟨cs', h1, h2⟩ := hx i hi
    obtain ⟨_, hlen, hcell⟩ := World.cells?_some h1
    obtain ⟨x, hx'⟩ := hdec cs' ⟨_, _, h2⟩
    refine ⟨x, fun j u hj => ?_, by rw [hx']; exact ⟨_, _, h2⟩⟩
    rw [hx'] at hj
    have hjl : j < T.size := by rw [← hlen]; exact (List.getElem?_eq_some_iff.1 hj).1
    have := hcell j hjl
    rw [Mem.addr_add, Mem.addr_add, cell_of_row W g _ arr e fr hg, hj] at this
    exact this)
  have hget : ∀ i j, i < m → j < T.size → ∃ u, (T.enc (X i))[j]? = some u ∧ arr[off + i * T.size + j]? = some u := fun i j hi hj => by
    have : j < (T.enc (X i)).length := by rw [hT.len]; exact hj
    exact ⟨_, List.getElem?_eq_getElem this, (hX i hi).1 j _ (List.getElem?_eq_getElem this)⟩
  refine ⟨_, (List.range len0).map X, h0, .inr ⟨g, off, m, arr, e, fr, by simp, hg, by simpa using hl, hm, ?_, ?_⟩, ?_⟩
  · intro hcp
    obtain ⟨u, _, hu⟩ := hget (m - 1) (T.size - 1) (by omega) (by omega)
    have hlt := (Array.getElem?_eq_some_iff.1 hu).1
    have : m * T.size = (m - 1) * T.size + T.size := by rw [Nat.sub_mul]; have : T.size ≤ m * T.size := Nat.le_mul_of_pos_left _ hcp; omega
    omega
  · apply List.ext_getElem?
    intro q
    have hfl := hT.flat_len ((List.range len0).map X)
    simp only [List.length_map, List.length_range] at hfl ⊢
    by_cases hq : q < len0 * T.size
    · have hi : q / T.size < len0 := Nat.div_lt_of_lt_mul (by rw [Nat.mul_comm]; exact hq)
      have hj : q % T.size < T.size := Nat.mod_lt _ hpos
      have e1 : q = q / T.size * T.size + q % T.size := by rw [Nat.mul_comm]; exact (Nat.div_add_mod _ _).symm
      obtain ⟨u, h1, h2⟩ := hget (q / T.size) (q % T.size) (by omega) hj
      have hL : ((List.range len0).map X)[q / T.size]? = some (X (q / T.size)) := by simp [hi]
      have h3 := hT.flat_get hL hj
      rw [← e1, h1] at h3
      rw [h3, List.getElem?_take, if_pos hq, List.getElem?_drop, Array.getElem?_toList]
      rw [← h2]
      congr 1
      omega
    · rw [List.getElem?_eq_none (by simp; omega), List.getElem?_eq_none (by rw [hfl]; omega)]
  · intro k y hk
    simp only [List.getElem?_map, Option.map_eq_some_iff] at hk
    obtain ⟨i, hi, rfl⟩ := hk
    have hi' := List.getElem?_eq_some_iff.1 hi
    obtain ⟨hlt, he⟩ := hi'
    simp at hlt he
    subst he
    exact (hX k (by omega)).2
end
end Go.J
end
section
set_option linter.unusedSimpArgs false
set_option linter.unusedVariables false
namespace Go.J
open Go.ChangeShapes Go.WideShapes Go.RowKit Go.Hp
open Go.Mem (Ty)
section
variable {H : Type} {enc : TypeId × Value → H} {P : Program} {W : World}
/-- A slice that is read: its elements, and that each of them is read. -/
theorem tr_sliceQ {α : Type} [Inhabited α] {T : Ty α} (hT : T.Ok P) {t : TypeId} {cs : List Value} (ht : P.underlying t = some (.slice T.id)) (hc : P.cellsOf T.id = T.size)
    {Q : α → Prop} (hdec : ∀ cs, Tr enc P W T.id cs → ∃ x, T.enc x = cs ∧ Q x) (h : Tr enc P W t cs) : ∃ v L, cs = [v] ∧ Sl W.heap T v L ∧ ∀ y ∈ L, Q y := by
  obtain ⟨fuel, x, hf⟩ := h
  rcases Deep.open_slice ht hf with ⟨h0, _⟩ | ⟨a, len0, cap, m, n, D, Pl, h0, _, hl, hm, hmm, _, hx⟩
  · exact ⟨_, [], h0, .inl ⟨⟨none, rfl⟩, rfl⟩, by simp⟩
  simp only [if_true] at hmm
  subst hmm
  have hpos := hT.pos
  rw [hc] at hx
  by_cases hcap : m = 0
  · subst hcap
    obtain rfl : len0 = 0 := by omega
    exact ⟨_, [], h0, .inl ⟨⟨some a, rfl⟩, rfl⟩, by simp⟩
  obtain ⟨g, off, spot⟩ := a
  have key : spot = none ∧ ∃ arr e fr, W.heap[g]? = some (.cells arr e fr) := by
    obtain ⟨cs', h1, h2⟩ := hx 0 (by omega)
    obtain ⟨_, hlen, hcell⟩ := World.cells?_some h1
    have h3 := hcell 0 hpos
    simp only [Nat.zero_mul, Addr.add, if_true] at h3
    have hne : cs'[0]? ≠ none := by rw [List.getElem?_eq_getElem (by omega)]; exact fun h => nomatch h
    unfold World.cell? at h3
    simp only at h3
    cases hg : W.heap[g]? with
    | none => rw [hg] at h3; simp only at h3; exact absurd h3.symm hne
    | some ob =>
      rw [hg] at h3
      cases ob <;> simp only at h3 <;> first | (exact absurd h3.symm hne) | skip
      rename_i arr e fr
      cases spot with
      | none => exact ⟨rfl, arr, e, fr, rfl⟩
      | some s => simp only [Option.isSome_some, if_true] at h3; exact absurd h3.symm hne
  obtain ⟨rfl, arr, e, fr, hg⟩ := key
  obtain ⟨X, hX⟩ := Deep.choose_lt (α := α) (p := fun i x => (∀ j u, (T.enc x)[j]? = some u → arr[off + i * T.size + j]? = some u) ∧ Q x) (fun i hi => by
    obtain ⟨cs', h1, h2⟩ := hx i hi
    obtain ⟨_, hlen, hcell⟩ := World.cells?_some h1
    obtain ⟨x, hx', hQ⟩ := hdec cs' ⟨_, _, h2⟩
    refine ⟨x, fun j u hj => ?_, hQ⟩
    rw [hx'] at hj
    have hjl : j < T.size := by rw [← hlen]; exact (List.getElem?_eq_some_iff.1 hj).1
    have := hcell j hjl
    rw [Mem.addr_add, Mem.addr_add, cell_of_row W g _ arr e fr hg, hj] at this
    exact this)
  have hget : ∀ i j, i < m → j < T.size → ∃ u, (T.enc (X i))[j]? = some u ∧ arr[off + i * T.size + j]? = some u := fun i j hi hj => by
    have : j < (T.enc (X i)).length := by rw [hT.len]; exact hj
    exact ⟨_, List.getElem?_eq_getElem this, (hX i hi).1 j _ (List.getElem?_eq_getElem this)⟩
  refine ⟨_, (List.range len0).map X, h0, .inr ⟨g, off, m, arr, e, fr, by simp, hg, by simpa using hl, hm, ?_, ?_⟩, ?_⟩
  · intro hcp
    obtain ⟨u, _, hu⟩ := hget (m - 1) (T.size - 1) (by omega) (by omega)
    have hlt := (Array.getElem?_eq_some_iff.1 hu).1
    have : m * T.size = (m - 1) * T.size + T.size := by rw [Nat.sub_mul]; have : T.size ≤ m * T.size := Nat.le_mul_of_pos_left _ hcp; omega
    omega
  · apply List.ext_getElem?
    intro q
    have hfl := hT.flat_len ((List.range len0).map X)
    simp only [List.length_map, List.length_range] at hfl ⊢
    by_cases hq : q < len0 * T.size
    · have hi : q / T.size < len0 := Nat.div_lt_of_lt_mul (by rw [Nat.mul_comm]; exact hq)
      have hj : q % T.size < T.size := Nat.mod_lt _ hpos
      have e1 : q = q / T.size * T.size + q % T.size := by rw [Nat.mul_comm]; exact (Nat.div_add_mod _ _).symm
      obtain ⟨u, h1, h2⟩ := hget (q / T.size) (q % T.size) (by omega) hj
      have hL : ((List.range len0).map X)[q / T.size]? = some (X (q / T.size)) := by simp [hi]
      have h3 := hT.flat_get hL hj
      rw [← e1, h1] at h3
      rw [h3, List.getElem?_take, if_pos hq, List.getElem?_drop, Array.getElem?_toList]
      rw [← h2]
      congr 1
      omega
    · rw [List.getElem?_eq_none (by simp; omega), List.getElem?_eq_none (by rw [hfl]; omega)]
  · intro y hy
    simp only [List.mem_map, List.mem_range] at hy
    obtain ⟨i, hi, rfl⟩ := hy
    exact (hX i (by omega)).2
theorem tr_fieldC {t : TypeId} {fs : Array Field} {cs : List Value} (hu : P.underlying t = some (.struct fs)) (h : Tr enc P W t cs) (j : Nat) (u : TypeId) (off m : Nat) (hf : (fs[j]?).map (fun f => (f.type, f.offset)) = some (u, off) := by rfl) (hc : P.cellsOf u = m := by kernel_rfl) : Tr enc P W u ((cs.drop off).take m) := by
  cases hfj : fs[j]? with
  | none => rw [hfj] at hf; cases hf
  | some f =>
    rw [hfj] at hf
    injection hf with hf; injection hf with e1 e2
    subst e1 e2 hc
    exact tr_field hu h j f hfj
end
end Go.J
end
section
set_option linter.unusedSimpArgs false
set_option linter.unusedVariables false
namespace Go.Proofs.YtmhpcebiamkciaaGreat
open Go.RowKit Go.J Go.S Go.Hp Go.ChangeShapes Go.WideShapes
theorem Tryz.own : ownKnob Tryz.prog.godebug = none := by kernel_rfl
theorem Tryz.laidOut : laidOutB Tryz.prog = true := by kernel_rfl
section
variable {H : Type} {enc : TypeId × Value → H} {W : World}
theorem open_ints {cs : List Value} (h : Tr enc Tryz.prog W 23 cs) : ∃ v L, cs = [v] ∧ Sl W.heap iTy v L := by
  obtain ⟨v, L, h1, h2, _⟩ := tr_sliceQ (Q := fun _ => True) iTy_ok Tryz.underlying23 (by kernel_rfl) (fun cs h => by obtain ⟨n, e, _⟩ := tr_int Tryz.underlying3 h; exact ⟨n, e.symm, trivial⟩) h
  exact ⟨v, L, h1, h2⟩
end
end Go.Proofs.YtmhpcebiamkciaaGreat
end
