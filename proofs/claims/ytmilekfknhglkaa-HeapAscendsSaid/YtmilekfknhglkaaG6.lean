/-
  Heaps of the program: entries, objects, identities, sizes, touched objects. Each law says its conditions.
-/
import Derived.Test.YtmilekfknhglkaaG5
import Derived.Test.YtmilekfknhglkaaG2
import Derived.Test.YtmilekfknhglkaaRows
section
set_option linter.unusedSimpArgs false
set_option linter.unusedVariables false
set_option maxRecDepth 100000
set_option maxHeartbeats 2000000
namespace Go.Proofs.Ytmilekfknhglkaa
open Go.Hp Go.J Go.S
open Go.Mem (Ty KTy blk elemAt pre suf blk_pre blk_suf aget aset strK aggDesc)
open Go.Mem (adel apos aget_aset aget_adel)
structure Ent where
  key : Int
  val : Int
  deriving DecidableEq
abbrev Ent.v (x : Ent) : Value := .agg #[.int .i64 x.key, .int .i64 x.val]
def EntT : Ty Ent := ⟨62, 2, 16, true, Ent.v, ⟨0, 0⟩⟩
theorem EntT_ok : EntT.Ok Try.prog := ok_of EntT _ Try.t62 (by decide) (fun _ => rfl) (fun x u hu => by simp [Ty.enc, EntT, Value.cells] at hu; rcases hu with rfl | rfl <;> rfl) (fun _ => rfl) Try.underlying62 rfl (fun h => by cases h) (by kernel_rfl) (by kernel_rfl) (by kernel_rfl) (by kernel_rfl)
theorem eqEntT (x y : Ent) (w : World) : (binOp .eql 62 x.v y.v).run Try.prog w = .ok (.bool (decide (x = y))) w ∧ (binOp .neq 62 x.v y.v).run Try.prog w = .ok (.bool (!decide (x = y))) w := by
  have h := J.run_eqS (P := Try.prog) (t := 62) [0, 0] (by kernel_rfl) (by kernel_rfl) #[.int .i64 x.key, .int .i64 x.val] #[.int .i64 y.key, .int .i64 y.val] rfl rfl w
  have e : J.cellsEq [.int .i64 x.key, .int .i64 x.val] [.int .i64 y.key, .int .i64 y.val] = decide (x = y) := by
    cases x; cases y; rw [Bool.eq_iff_iff]; simp [J.cellsEq, J.cellEq]
  rw [e] at h
  exact h
theorem decEntT (cs : List Value) (h : fitsL [0, 0] cs = true) : ∃ x, EntT.enc x = cs := by
  have hl := fitsL_len h
  match cs, hl, h with
  | [c0, c1], _, h =>
    simp only [fitsL, Bool.and_eq_true] at h
    obtain ⟨c0, rfl⟩ := fit_int h.1
    obtain ⟨c1, rfl⟩ := fit_int h.2.1
    exact ⟨⟨c0, c1⟩, rfl⟩
def entL (l : List (Vl × Vl)) : List Ent := (l.map fun p => (⟨idn p.1, idn p.2⟩ : Ent)).filter fun e => decide (e ≠ ⟨0, 0⟩)
def entsOf (T : Tb) : List Ent := entL (tents T)
theorem entL_step (l : List (Vl × Vl)) (p : Vl × Vl) : entL (l ++ [p]) = if (⟨idn p.1, idn p.2⟩ : Ent) ≠ ⟨0, 0⟩ then entL l ++ [⟨idn p.1, idn p.2⟩] else entL l := by
  unfold entL
  rw [List.map_append, List.filter_append, List.map_cons, List.map_nil]
  by_cases h : (⟨idn p.1, idn p.2⟩ : Ent) ≠ ⟨0, 0⟩
  · rw [if_pos h]; congr 1; simp only [List.filter_cons, List.filter_nil]; rw [if_pos (decide_eq_true h)]
  · rw [if_neg h]; simp only [List.filter_cons, List.filter_nil]; rw [if_neg (fun hc => h (of_decide_eq_true hc)), List.append_nil]
theorem entL_len (l : List (Vl × Vl)) : (entL l).length ≤ l.length := by
  unfold entL
  refine Nat.le_trans (List.length_filter_le _ _) ?_
  rw [List.length_map]; exact Nat.le_refl _
def hrefs (st : Hst) (id : Int) : List Int := match st.get id with
  | some o => refsOf o
  | none => []
def hents (st : Hst) (id : Int) : List Ent := match st.get id with
  | some o => if o.kind = 4 then entsOf o.tab else []
  | none => []
def hoId (st : Hst) (id : Int) : Int := if halive st id = true then id else 0
def hoSz (st : Hst) (id : Int) : Int := match st.get id with
  | some o => obSize o
  | none => 0
def hoWk (st : Hst) (id weak : Int) : Int := match st.get id with
  | some o => hweak o weak
  | none => 0
theorem obj_none {st : Hst} {id : Int} (h : st.get id = none) (weak : Int) : halive st id = false ∧ hoId st id = 0 ∧ hoSz st id = 0 ∧ hoWk st id weak = 0 ∧ hrefs st id = [] ∧ hents st id = [] := by
  have h1 : halive st id = false := by unfold halive; rw [h]; rfl
  refine ⟨h1, ?_, ?_, ?_, ?_, ?_⟩
  · unfold hoId; rw [h1]; rfl
  all_goals first | (unfold hoSz; rw [h]) | (unfold hoWk; rw [h]) | (unfold hrefs; rw [h]) | (unfold hents; rw [h])
theorem obj_some {st : Hst} {id : Int} {o : Hob} (h : st.get id = some o) (weak : Int) : halive st id = true ∧ hoId st id = id ∧ hoSz st id = obSize o ∧ hoWk st id weak = hweak o weak ∧ hrefs st id = refsOf o ∧ hents st id = if o.kind = 4 then entsOf o.tab else [] := by
  have h1 : halive st id = true := by unfold halive; rw [h]; rfl
  refine ⟨h1, ?_, ?_, ?_, ?_, ?_⟩
  · unfold hoId; rw [h1]; rfl
  all_goals first | (unfold hoSz; rw [h]) | (unfold hoWk; rw [h]) | (unfold hrefs; rw [h]) | (unfold hents; rw [h])
section
variable {Z : Zone} {F : List Asr} {H : Heap} {b : Nat} {st : Hst} {ps : List (Int × (Nat × Nat))} {id : Int} {q : Nat × Nat} {o : Hob}
theorem all_take (hq : aget ps id = some q) (ho : st.get id = some o) (h : Holds Z (allP ps st :: F) H) : Holds Z (obP q o :: holeP ps st id :: F) H := by
  obtain ⟨v, _, h⟩ := all_focus hq ho h
  exact ob_shut h
theorem all_back (hnd : (ps.map Prod.fst).Nodup) (hq : aget ps id = some q) (ho : st.get id = some o) (h : Holds Z (obP q o :: holeP ps st id :: F) H) : Holds Z (allP ps st :: F) H := by
  have := all_unfocus hnd hq ho h
  rwa [put_same ho] at this
theorem keys_wf (ha : HA ps st) (hl : st.objs.length ≤ 1000000) : ∀ p ∈ ps, (Lit.int .i64 p.1).wf = true := fun p hp => by
  have h1 : halive st p.1 = true := (mem_keys ha).1 (List.mem_map.2 ⟨p, hp, rfl⟩)
  obtain ⟨o, ho⟩ := halive_iff.1 h1
  obtain ⟨_, h2, h3, _⟩ := get_mem ho
  have e1 : IntKind.i64.min = -9223372036854775808 := by rfl
  have e2 : IntKind.i64.max = 9223372036854775807 := by rfl
  simp only [Lit.wf, Bool.and_eq_true, decide_eq_true_eq, e1, e2]
  omega
theorem aget_mem {m : List (Int × (Nat × Nat))} {k : Int} {u : Nat × Nat} (hn : (m.map Prod.fst).Nodup) (h : (k, u) ∈ m) : aget m k = some u := by
  induction m with
  | nil => cases h
  | cons a r ih =>
    rw [List.map_cons, List.nodup_cons] at hn
    unfold aget
    rcases List.mem_cons.1 h with rfl | h
    · simp
    · have hne : a.1 ≠ k := fun e => hn.1 (List.mem_map.2 ⟨_, h, e.symm⟩)
      have := ih hn.2 h
      simp [hne, this]
theorem nodup_sub : ∀ (A B : List Int), A.Nodup → (∀ x ∈ A, x ∈ B) → A.length ≤ B.length
  | [], B, _, _ => Nat.zero_le _
  | a :: r, B, hn, h => by
    rw [List.nodup_cons] at hn
    have ha := h a (by simp)
    have h1 := nodup_sub r (B.erase a) hn.2 fun x hx => (List.mem_erase_of_ne (fun e => hn.1 (by rw [← e]; exact hx))).2 (h x (List.mem_cons_of_mem _ hx))
    rw [List.length_erase_of_mem ha] at h1
    have := List.length_pos_of_mem ha
    simp only [List.length_cons]; omega
theorem fl_len {dn : List (Int × Bool)} (hn : (dn.map Prod.fst).Nodup) : ((dn.map Prod.fst).filter fun id => (aget ps id).isSome).length ≤ ps.length := by
  have e0 : (ps.map Prod.fst).length = ps.length := by simp
  rw [← e0]
  refine nodup_sub _ _ (hn.filter _) fun x hx => ?_
  have h1 := (List.mem_filter.1 hx).2
  apply Decidable.byContradiction
  intro hc
  rw [(Go.Mem.aget_none_iff ps x).2 hc] at h1; cases h1
theorem nodup_snoc {dn : List (Int × Bool)} {k : Int} {u : Bool} (hn : (dn.map Prod.fst).Nodup) (hk : k ∉ dn.map Prod.fst) : ((dn ++ [(k, u)]).map Prod.fst).Nodup := by
  rw [List.map_append, List.nodup_append]
  refine ⟨hn, by simp, fun a ha b hb => ?_⟩
  simp at hb
  subst hb
  exact fun e => hk (e ▸ ha)
end
theorem ident_s {Z : Zone} (v : Vl) : SF Try.prog 57 #[v.v] Z [] fun r Bs => r = .int .i64 (idn v) ∧ Bs = [] := by
 refine sf_enter Try.func57 12 [(0, .agg #[.int .i64 v.kind, .int .i64 v.p, .int .i64 v.q, .string v.str, .int .i64 v.ref])] (fun w0 => ?_)
 refine k_sr ?_
 refine s_box #[.int .i64 v.kind, .int .i64 v.p, .int .i64 v.q, .string v.str, .int .i64 v.ref] (fun g1 => ?_)
 refine sp (.int .i64 0) ?_
 refine s_nt ?_
 refine k_seq ?_
 refine k_sr ?_
 refine sp (pB g1 0) ?_
 refine s_lt (t_load 0 (.int .i64 v.kind)) ?_
 refine s_nt ?_
 refine k_block ?_
 refine k_seq ?_
 refine k_sr ?_
 refine s_lt t_cmp ?_
 refine sp (.bool (decide (v.kind = 4))) ?_
 refine s_nt ?_
 refine k_cond (decide (v.kind = 4)) (fun c2 => ?_) (fun c2 => ?_)
 ·
  have p3 := of_decide_eq_true c2
  refine k_st ?_
  refine k_true (hv := congrArg Value.bool c2) ?_
  refine k_sr ?_
  refine sp (pB g1 4) ?_
  refine s_lt (t_load 0 (.int .i64 v.ref)) ?_
  refine sp (.int .i64 v.ref) ?_
  refine s_nt ?_
  refine k_ret ?_
  refine xs_retBlock ?_
  refine xs_ret ?_
  have hp : idn v = v.ref := by unfold idn isRef; rw [if_pos (by simp only [Bool.or_eq_true, decide_eq_true_eq]; omega)]
  exact xs_fin [.int .i64 v.ref] [] (SI.tmp 2 SI.nil) (fun _ h => h.re [] [0]) ⟨by rw [hp]; rfl, rfl⟩
 ·
  have p4 := of_decide_eq_false c2
  refine k_sr ?_
  refine s_lt t_cmp ?_
  refine sp (.bool (decide (v.kind = 5))) ?_
  refine s_nt ?_
  refine k_cond (decide (v.kind = 5)) (fun c5 => ?_) (fun c5 => ?_)
  ·
   have p6 := of_decide_eq_true c5
   refine k_st ?_
   refine k_true (hv := congrArg Value.bool c5) ?_
   refine k_sr ?_
   refine sp (pB g1 4) ?_
   refine s_lt (t_load 0 (.int .i64 v.ref)) ?_
   refine sp (.int .i64 v.ref) ?_
   refine s_nt ?_
   refine k_ret ?_
   refine xs_retBlock ?_
   refine xs_ret ?_
   have hp : idn v = v.ref := by unfold idn isRef; rw [if_pos (by simp only [Bool.or_eq_true, decide_eq_true_eq]; omega)]
   exact xs_fin [.int .i64 v.ref] [] (SI.tmp 2 SI.nil) (fun _ h => h.re [] [0]) ⟨by rw [hp]; rfl, rfl⟩
  ·
   have p7 := of_decide_eq_false c5
   refine k_sr ?_
   refine s_lt t_cmp ?_
   refine sp (.bool (decide (v.kind = 7))) ?_
   refine s_nt ?_
   refine k_cond (decide (v.kind = 7)) (fun c8 => ?_) (fun c8 => ?_)
   ·
    have p9 := of_decide_eq_true c8
    refine k_st ?_
    refine k_true (hv := congrArg Value.bool c8) ?_
    refine k_sr ?_
    refine sp (pB g1 4) ?_
    refine s_lt (t_load 0 (.int .i64 v.ref)) ?_
    refine sp (.int .i64 v.ref) ?_
    refine s_nt ?_
    refine k_ret ?_
    refine xs_retBlock ?_
    refine xs_ret ?_
    have hp : idn v = v.ref := by unfold idn isRef; rw [if_pos (by simp only [Bool.or_eq_true, decide_eq_true_eq]; omega)]
    exact xs_fin [.int .i64 v.ref] [] (SI.tmp 2 SI.nil) (fun _ h => h.re [] [0]) ⟨by rw [hp]; rfl, rfl⟩
   ·
    have p10 := of_decide_eq_false c8
    refine k_reg ?_
    refine s_lt t_cmp ?_
    refine sp (.bool (decide (v.kind = 8))) ?_
    refine s_nt ?_
    refine k_cond (decide (v.kind = 8)) (fun c11 => ?_) (fun c11 => ?_)
    ·
     have p12 := of_decide_eq_true c11
     refine k_sr ?_
     refine sp (pB g1 4) ?_
     refine s_lt (t_load 0 (.int .i64 v.ref)) ?_
     refine sp (.int .i64 v.ref) ?_
     refine s_nt ?_
     refine k_ret ?_
     refine xs_retBlock ?_
     refine xs_ret ?_
     have hp : idn v = v.ref := by unfold idn isRef; rw [if_pos (by simp only [Bool.or_eq_true, decide_eq_true_eq]; omega)]
     exact xs_fin [.int .i64 v.ref] [] (SI.tmp 2 SI.nil) (fun _ h => h.re [] [0]) ⟨by rw [hp]; rfl, rfl⟩
    ·
     have p13 := of_decide_eq_false c11
     refine k_skip ?_
     refine xs_block ?_
     refine xs_then ?_
     refine k_sr ?_
     refine sp (.int .i64 0) ?_
     refine s_nt ?_
     refine k_ret ?_
     have hp : idn v = 0 := by unfold idn isRef; rw [if_neg (by simp only [Bool.or_eq_true, decide_eq_true_eq]; omega)]
     exact xs_fin [.int .i64 0] [] (SI.tmp 2 SI.nil) (fun _ h => h.re [] [0]) ⟨by rw [hp]; rfl, rfl⟩
theorem entries_s {Z : Zone} {F : List Asr} {b : Nat} {L : List Vl} {S : List Slt} (hti : TInv ⟨L, S⟩) (htw : TW ⟨L, S⟩) (hl : L.length ≤ 100000) (hs : S.length ≤ 100000) : SF Try.prog 58 #[.pointer (some ⟨b, 0, none⟩)] Z (tbA b L S :: F) fun r Bs => Bs = own EntT r (entsOf ⟨L, S⟩) :: tbA b L S :: F := by
 refine sf_enter Try.func58 43 [(0, pB b 0)] (fun w0 => ?_)
 have htl := tents_len ⟨L, S⟩
 refine k_sr ?_
 refine sp (.slice none 0 0) ?_
 refine s_nr ?_
 refine sp (.slice none 0 0) ?_
 refine s_nr ?_
 refine sp (pB b 0) ?_
 refine s_lt (t_kern (.agg #[.int .i64 0, .int .i64 0, .int .i64 0, .string ByteArray.empty, .int .i64 0])) ?_
 refine s_call [0] (tbnext_s (L := L) (S := S) (by (try simp only [lnm]); omega) (by (try simp only [lnm]); omega) zVl) ?_
 rintro _ _ ⟨rfl, rfl⟩
 refine sp (.tuple #[.agg #[.int .i64 (((tnext ⟨L, S⟩ zVl).1).kind), .int .i64 (((tnext ⟨L, S⟩ zVl).1).p), .int .i64 (((tnext ⟨L, S⟩ zVl).1).q), .string (((tnext ⟨L, S⟩ zVl).1).str), .int .i64 (((tnext ⟨L, S⟩ zVl).1).ref)], .agg #[.int .i64 (((tnext ⟨L, S⟩ zVl).2.1).kind), .int .i64 (((tnext ⟨L, S⟩ zVl).2.1).p), .int .i64 (((tnext ⟨L, S⟩ zVl).2.1).q), .string (((tnext ⟨L, S⟩ zVl).2.1).str), .int .i64 (((tnext ⟨L, S⟩ zVl).2.1).ref)], .bool ((tnext ⟨L, S⟩ zVl).2.2.1), .int .i64 ((tnext ⟨L, S⟩ zVl).2.2.2)]) ?_
 refine sp (.agg #[.int .i64 (((tnext ⟨L, S⟩ zVl).1).kind), .int .i64 (((tnext ⟨L, S⟩ zVl).1).p), .int .i64 (((tnext ⟨L, S⟩ zVl).1).q), .string (((tnext ⟨L, S⟩ zVl).1).str), .int .i64 (((tnext ⟨L, S⟩ zVl).1).ref)]) ?_
 refine sp (.agg #[.int .i64 (((tnext ⟨L, S⟩ zVl).2.1).kind), .int .i64 (((tnext ⟨L, S⟩ zVl).2.1).p), .int .i64 (((tnext ⟨L, S⟩ zVl).2.1).q), .string (((tnext ⟨L, S⟩ zVl).2.1).str), .int .i64 (((tnext ⟨L, S⟩ zVl).2.1).ref)]) ?_
 refine sp (.bool ((tnext ⟨L, S⟩ zVl).2.2.1)) ?_
 refine sp (.int .i64 ((tnext ⟨L, S⟩ zVl).2.2.2)) ?_
 refine s_alloc (.agg #[.int .i64 0, .int .i64 0, .int .i64 0, .string ByteArray.empty, .int .i64 0]) #[.int .i64 0, .int .i64 0, .int .i64 0, .string ByteArray.empty, .int .i64 0] (fun g1 => ?_)
 refine s_alloc (.agg #[.int .i64 0, .int .i64 0, .int .i64 0, .string ByteArray.empty, .int .i64 0]) #[.int .i64 0, .int .i64 0, .int .i64 0, .string ByteArray.empty, .int .i64 0] (fun g2 => ?_)
 refine s_store 1 #[.int .i64 (((tnext ⟨L, S⟩ zVl).1).kind), .int .i64 (((tnext ⟨L, S⟩ zVl).1).p), .int .i64 (((tnext ⟨L, S⟩ zVl).1).q), .string (((tnext ⟨L, S⟩ zVl).1).str), .int .i64 (((tnext ⟨L, S⟩ zVl).1).ref)] ?_
 refine s_store 0 #[.int .i64 (((tnext ⟨L, S⟩ zVl).2.1).kind), .int .i64 (((tnext ⟨L, S⟩ zVl).2.1).p), .int .i64 (((tnext ⟨L, S⟩ zVl).2.1).q), .string (((tnext ⟨L, S⟩ zVl).2.1).str), .int .i64 (((tnext ⟨L, S⟩ zVl).2.1).ref)] ?_
 refine sp (.bool ((tnext ⟨L, S⟩ zVl).2.2.1)) ?_
 refine sp (.int .i64 ((tnext ⟨L, S⟩ zVl).2.2.2)) ?_
 refine s_nt ?_
 refine k_seq ?_
 refine k_block ?_
 rw [next_first]
 refine k_mem (fun _ h => Holds.nilS (T := EntT) h) ?_
 refine k_mem (Bs := own EntT (.slice none 0 0) (entL []) :: blkA g2 #[.int .i64 (((hdE (tents ⟨L, S⟩)).2.1).kind), .int .i64 (((hdE (tents ⟨L, S⟩)).2.1).p), .int .i64 (((hdE (tents ⟨L, S⟩)).2.1).q), .string (((hdE (tents ⟨L, S⟩)).2.1).str), .int .i64 (((hdE (tents ⟨L, S⟩)).2.1).ref)] 26 :: blkA g1 #[.int .i64 (((hdE (tents ⟨L, S⟩)).1).kind), .int .i64 (((hdE (tents ⟨L, S⟩)).1).p), .int .i64 (((hdE (tents ⟨L, S⟩)).1).q), .string (((hdE (tents ⟨L, S⟩)).1).str), .int .i64 (((hdE (tents ⟨L, S⟩)).1).ref)] 26 :: tbA b L S :: F) (fun _ h => h) ?_
 refine k_loop (ι := Value × List (Vl × Vl) × List (Vl × Vl)) (fun (lx, dn, rem) => tents ⟨L, S⟩ = dn ++ rem) (fun (lx, dn, rem) => [(0, pB b 0), (3, lx), (4, pB g1 0), (5, pB g2 0), (6, .bool ((hdE rem).2.2.1)), (7, .int .i64 ((hdE rem).2.2.2))]) (fun (lx, dn, rem) => own EntT lx (entL dn) :: blkA g2 #[.int .i64 (((hdE rem).2.1).kind), .int .i64 (((hdE rem).2.1).p), .int .i64 (((hdE rem).2.1).q), .string (((hdE rem).2.1).str), .int .i64 (((hdE rem).2.1).ref)] 26 :: blkA g1 #[.int .i64 (((hdE rem).1).kind), .int .i64 (((hdE rem).1).p), .int .i64 (((hdE rem).1).q), .string (((hdE rem).1).str), .int .i64 (((hdE rem).1).ref)] 26 :: tbA b L S :: F) (fun (lx, dn, rem) => rem.length) ((.slice none 0 0), [], tents ⟨L, S⟩) rfl (sub_of rfl ⟨⟨rfl, rfl⟩, ⟨⟨rfl, rfl⟩, ⟨⟨rfl, rfl⟩, ⟨⟨rfl, rfl⟩, ⟨⟨rfl, rfl⟩, ⟨⟨rfl, rfl⟩, trivial⟩⟩⟩⟩⟩⟩) (fun _ h => h.re [0, 0, 0, 0] []) ?_
 rintro ⟨lx, dn, rem⟩ hi3
 replace hi3 : tents ⟨L, S⟩ = dn ++ rem := hi3
 show SK _ _ _ _ _ [(0, .pointer (some ⟨b, 0, none⟩)), (3, lx), (4, .pointer (some ⟨g1, 0, none⟩)), (5, .pointer (some ⟨g2, 0, none⟩)), (6, .bool ((hdE rem).2.2.1)), (7, .int .i64 ((hdE rem).2.2.2))] _ (own EntT lx (entL dn) :: blkA g2 #[.int .i64 (((hdE rem).2.1).kind), .int .i64 (((hdE rem).2.1).p), .int .i64 (((hdE rem).2.1).q), .string (((hdE rem).2.1).str), .int .i64 (((hdE rem).2.1).ref)] 26 :: blkA g1 #[.int .i64 (((hdE rem).1).kind), .int .i64 (((hdE rem).1).p), .int .i64 (((hdE rem).1).q), .string (((hdE rem).1).str), .int .i64 (((hdE rem).1).ref)] 26 :: tbA b L S :: F)
 have hel := entL_len dn
 have hdl : dn.length ≤ L.length + S.length := by have h0 := congrArg List.length hi3; rw [List.length_append] at h0; have h1 : (⟨L, S⟩ : Tb).list.length = L.length := rfl; have h2 : (⟨L, S⟩ : Tb).rest.length = S.length := rfl; omega
 refine k_seq ?_
 refine k_cut (ι := Unit) (fun _ => True) (fun _ => [(0, pB b 0), (3, lx), (4, pB g1 0), (5, pB g2 0), (21, .bool ((hdE rem).2.2.1))]) (fun _ => own EntT lx (entL dn) :: blkA g2 #[.int .i64 (((hdE rem).2.1).kind), .int .i64 (((hdE rem).2.1).p), .int .i64 (((hdE rem).2.1).q), .string (((hdE rem).2.1).str), .int .i64 (((hdE rem).2.1).ref)] 26 :: blkA g1 #[.int .i64 (((hdE rem).1).kind), .int .i64 (((hdE rem).1).p), .int .i64 (((hdE rem).1).q), .string (((hdE rem).1).str), .int .i64 (((hdE rem).1).ref)] 26 :: tbA b L S :: F) ?_ (fun _ _ => ?_)
 ·
  refine k_reg ?_
  refine sp (.bool ((hdE rem).2.2.1)) ?_
  refine sp (.bool ((hdE rem).2.2.1)) ?_
  refine s_fork 18 ((hdE rem).2.2.1) (fun c4 => ?_) (fun c4 => ?_)
  ·
   refine sp (.int .i64 ((hdE rem).2.2.2)) ?_
   refine s_lt (Lt.to t_cmp (congrArg Value.bool (decide_eq_true (hd_err rem) : (decide ((hdE rem).2.2.2 = 0)) = true))) ?_
   refine sp (.bool true) ?_
   refine s_nil ?_
   exact xs_cut () trivial (sub_of rfl ⟨⟨rfl, rfl⟩, ⟨⟨rfl, rfl⟩, ⟨⟨rfl, rfl⟩, ⟨⟨rfl, rfl⟩, ⟨⟨rfl, show Value.bool true = Value.bool ((hdE rem).2.2.1) by first | (simp only [c4, bls]; done) | simp [c4]⟩, trivial⟩⟩⟩⟩⟩) (fun _ h => h.re [0, 0, 0, 0] [])
  ·
   refine s_skip ?_
   refine s_skip ?_
   refine sp (.bool false) ?_
   refine s_nil ?_
   exact xs_cut () trivial (sub_of rfl ⟨⟨rfl, rfl⟩, ⟨⟨rfl, rfl⟩, ⟨⟨rfl, rfl⟩, ⟨⟨rfl, rfl⟩, ⟨⟨rfl, show Value.bool false = Value.bool ((hdE rem).2.2.1) by first | (simp only [c4, bls]; done) | simp [c4]⟩, trivial⟩⟩⟩⟩⟩) (fun _ h => h.re [0, 0, 0, 0] [])
 ·
  refine k_cond ((hdE rem).2.2.1) (fun c5 => ?_) (fun c5 => ?_)
  ·
   obtain ⟨p, tl, hrem⟩ := hd_some c5
   refine k_st ?_
   refine k_block ?_
   refine k_cut (ι := Nat) (fun _ => True) (fun jb8 => [(0, pB b 0), (3, lx), (4, pB g1 0), (5, pB g2 0), (8, pB jb8 0)]) (fun jb8 => blkA jb8 #[.int .i64 (idn ((hdE rem).1)), .int .i64 (idn ((hdE rem).2.1))] 62 :: own EntT lx (entL dn) :: blkA g2 #[.int .i64 (((hdE rem).2.1).kind), .int .i64 (((hdE rem).2.1).p), .int .i64 (((hdE rem).2.1).q), .string (((hdE rem).2.1).str), .int .i64 (((hdE rem).2.1).ref)] 26 :: blkA g1 #[.int .i64 (((hdE rem).1).kind), .int .i64 (((hdE rem).1).p), .int .i64 (((hdE rem).1).q), .string (((hdE rem).1).str), .int .i64 (((hdE rem).1).ref)] 26 :: tbA b L S :: F) ?_ (fun ix _ => ?_)
   ·
    refine k_held [own EntT lx (entL dn), blkA g2 #[.int .i64 (((hdE rem).2.1).kind), .int .i64 (((hdE rem).2.1).p), .int .i64 (((hdE rem).2.1).q), .string (((hdE rem).2.1).str), .int .i64 (((hdE rem).2.1).ref)] 26, blkA g1 #[.int .i64 (((hdE rem).1).kind), .int .i64 (((hdE rem).1).p), .int .i64 (((hdE rem).1).q), .string (((hdE rem).1).str), .int .i64 (((hdE rem).1).ref)] 26] ?_
    refine h_l 0 rfl [0, 0, 0] (fun _ => (t_loadA 2 #[.int .i64 (((hdE rem).1).kind), .int .i64 (((hdE rem).1).p), .int .i64 (((hdE rem).1).q), .string (((hdE rem).1).str), .int .i64 (((hdE rem).1).ref)])) ?_
    refine h_l 2 rfl [0, 0, 0] (fun _ => (t_loadA 1 #[.int .i64 (((hdE rem).2.1).kind), .int .i64 (((hdE rem).2.1).p), .int .i64 (((hdE rem).2.1).q), .string (((hdE rem).2.1).str), .int .i64 (((hdE rem).2.1).ref)])) ?_
    refine h_stepS2 1 5 ?_ ?_
    ·
     refine s_vcall (fun _ h => ident_s ((hdE rem).1)) ?_
     rintro _ rfl
     refine s_nil (xs_held [0, 0, 0] ?_)
     refine h_stepS2 3 5 ?_ ?_
     ·
      refine s_vcall (fun _ h => ident_s ((hdE rem).2.1)) ?_
      rintro _ rfl
      refine s_nil (xs_held [0, 0, 0] ?_)
      refine h_l 4 rfl [0, 0, 0] (fun _ => (t_kern (.agg #[.int .i64 (idn ((hdE rem).1)), .int .i64 (idn ((hdE rem).2.1))]))) ?_
      refine h_stepS 5 ?_
      refine s_alloc (.agg #[.int .i64 0, .int .i64 0]) #[.int .i64 0, .int .i64 0] (fun g6 => ?_)
      refine s_nil (xs_held [1, 1, 1] ?_)
      refine h_stepS 6 ?_
      refine s_store 0 #[.int .i64 (idn ((hdE rem).1)), .int .i64 (idn ((hdE rem).2.1))] ?_
      refine s_nil (xs_held [1, 1, 1] ?_)
      refine h_doneS ?_
      exact xcut g6 (fun _ h => h.re [0, 0, 0, 0, 0] [])
     ·
      refine s_alloc (.agg #[.int .i64 0, .int .i64 0]) #[.int .i64 0, .int .i64 0] (fun g7 => ?_)
      refine s_nil (xs_held [1, 1, 1] ?_)
      refine h_stepS 3 ?_
      refine s_vcall (fun _ h => ident_s ((hdE rem).2.1)) ?_
      rintro _ rfl
      refine s_nil (xs_held [1, 1, 1] ?_)
      refine h_l 4 rfl [1, 1, 1] (fun _ => (t_kern (.agg #[.int .i64 (idn ((hdE rem).1)), .int .i64 (idn ((hdE rem).2.1))]))) ?_
      refine h_stepS 6 ?_
      refine s_store 0 #[.int .i64 (idn ((hdE rem).1)), .int .i64 (idn ((hdE rem).2.1))] ?_
      refine s_nil (xs_held [1, 1, 1] ?_)
      refine h_doneS ?_
      exact xcut g7 (fun _ h => h.re [0, 0, 0, 0, 0] [])
    ·
     refine s_alloc (.agg #[.int .i64 0, .int .i64 0]) #[.int .i64 0, .int .i64 0] (fun g8 => ?_)
     refine s_nil (xs_held [1, 1, 1] ?_)
     refine h_stepS 1 ?_
     refine s_vcall (fun _ h => ident_s ((hdE rem).1)) ?_
     rintro _ rfl
     refine s_nil (xs_held [1, 1, 1] ?_)
     refine h_stepS 3 ?_
     refine s_vcall (fun _ h => ident_s ((hdE rem).2.1)) ?_
     rintro _ rfl
     refine s_nil (xs_held [1, 1, 1] ?_)
     refine h_l 4 rfl [1, 1, 1] (fun _ => (t_kern (.agg #[.int .i64 (idn ((hdE rem).1)), .int .i64 (idn ((hdE rem).2.1))]))) ?_
     refine h_stepS 6 ?_
     refine s_store 0 #[.int .i64 (idn ((hdE rem).1)), .int .i64 (idn ((hdE rem).2.1))] ?_
     refine s_nil (xs_held [1, 1, 1] ?_)
     refine h_doneS ?_
     exact xcut g8 (fun _ h => h.re [0, 0, 0, 0, 0] [])
   ·
    revert ix; intro jb8
    show SK _ _ _ _ _ [(0, .pointer (some ⟨b, 0, none⟩)), (3, lx), (4, .pointer (some ⟨g1, 0, none⟩)), (5, .pointer (some ⟨g2, 0, none⟩)), (8, .pointer (some ⟨jb8, 0, none⟩))] _ (blkA jb8 #[.int .i64 (idn ((hdE rem).1)), .int .i64 (idn ((hdE rem).2.1))] 62 :: own EntT lx (entL dn) :: blkA g2 #[.int .i64 (((hdE rem).2.1).kind), .int .i64 (((hdE rem).2.1).p), .int .i64 (((hdE rem).2.1).q), .string (((hdE rem).2.1).str), .int .i64 (((hdE rem).2.1).ref)] 26 :: blkA g1 #[.int .i64 (((hdE rem).1).kind), .int .i64 (((hdE rem).1).p), .int .i64 (((hdE rem).1).q), .string (((hdE rem).1).str), .int .i64 (((hdE rem).1).ref)] 26 :: tbA b L S :: F)
    refine k_seq ?_
    refine k_sr ?_
    refine s_lt (t_loadA 0 #[.int .i64 (idn ((hdE rem).1)), .int .i64 (idn ((hdE rem).2.1))]) ?_
    refine s_lt (t_kern (.agg #[.int .i64 0, .int .i64 0])) ?_
    refine s_lt (t_eqS (fun w => (eqEntT (⟨(idn ((hdE rem).1)), (idn ((hdE rem).2.1))⟩ : Ent) (⟨0, 0⟩ : Ent) w).2)) ?_
    refine s_nt ?_
    refine k_cond (!(decide ((⟨(idn ((hdE rem).1)), (idn ((hdE rem).2.1))⟩ : Ent) = (⟨0, 0⟩ : Ent)))) (fun c9 => ?_) (fun c9 => ?_)
    ·
     have c10 := not_t c9
     have p11 := of_decide_eq_false c10
     refine k_reg ?_
     refine sp lx ?_
     refine s_lt (t_loadA 0 #[.int .i64 (idn ((hdE rem).1)), .int .i64 (idn ((hdE rem).2.1))]) ?_
     refine s_buildSlice (e := 62) [(0, .agg #[.int .i64 (idn ((hdE rem).1)), .int .i64 (idn ((hdE rem).2.1))])] #[.int .i64 (idn ((hdE rem).1)), .int .i64 (idn ((hdE rem).2.1))] (fun g12 => ?_) (hb := by kernel_rfl)
     refine s_append (L := (entL dn)) 2 EntT_ok Try.underlying55 (.lit 0 EntT_ok [(⟨(idn ((hdE rem).1)), (idn ((hdE rem).2.1))⟩ : Ent)]) (by show _ * 16 ≤ _; (try simp only [lnm]); omega) (by (try simp only [lnm]); omega) (fun v13 => ?_)
     refine sp v13 ?_
     refine s_nt ?_
     refine k_reg ?_
     refine sp (pB b 0) ?_
     refine s_lt (t_loadA 4 #[.int .i64 (((hdE rem).1).kind), .int .i64 (((hdE rem).1).p), .int .i64 (((hdE rem).1).q), .string (((hdE rem).1).str), .int .i64 (((hdE rem).1).ref)]) ?_
     refine s_call [5] (tbnext_s (L := L) (S := S) (by (try simp only [lnm]); omega) (by (try simp only [lnm]); omega) ((hdE rem).1)) ?_
     rintro _ _ ⟨rfl, rfl⟩
     refine sp (.tuple #[.agg #[.int .i64 (((tnext ⟨L, S⟩ ((hdE rem).1)).1).kind), .int .i64 (((tnext ⟨L, S⟩ ((hdE rem).1)).1).p), .int .i64 (((tnext ⟨L, S⟩ ((hdE rem).1)).1).q), .string (((tnext ⟨L, S⟩ ((hdE rem).1)).1).str), .int .i64 (((tnext ⟨L, S⟩ ((hdE rem).1)).1).ref)], .agg #[.int .i64 (((tnext ⟨L, S⟩ ((hdE rem).1)).2.1).kind), .int .i64 (((tnext ⟨L, S⟩ ((hdE rem).1)).2.1).p), .int .i64 (((tnext ⟨L, S⟩ ((hdE rem).1)).2.1).q), .string (((tnext ⟨L, S⟩ ((hdE rem).1)).2.1).str), .int .i64 (((tnext ⟨L, S⟩ ((hdE rem).1)).2.1).ref)], .bool ((tnext ⟨L, S⟩ ((hdE rem).1)).2.2.1), .int .i64 ((tnext ⟨L, S⟩ ((hdE rem).1)).2.2.2)]) ?_
     refine sp (.agg #[.int .i64 (((tnext ⟨L, S⟩ ((hdE rem).1)).1).kind), .int .i64 (((tnext ⟨L, S⟩ ((hdE rem).1)).1).p), .int .i64 (((tnext ⟨L, S⟩ ((hdE rem).1)).1).q), .string (((tnext ⟨L, S⟩ ((hdE rem).1)).1).str), .int .i64 (((tnext ⟨L, S⟩ ((hdE rem).1)).1).ref)]) ?_
     refine sp (.agg #[.int .i64 (((tnext ⟨L, S⟩ ((hdE rem).1)).2.1).kind), .int .i64 (((tnext ⟨L, S⟩ ((hdE rem).1)).2.1).p), .int .i64 (((tnext ⟨L, S⟩ ((hdE rem).1)).2.1).q), .string (((tnext ⟨L, S⟩ ((hdE rem).1)).2.1).str), .int .i64 (((tnext ⟨L, S⟩ ((hdE rem).1)).2.1).ref)]) ?_
     refine sp (.bool ((tnext ⟨L, S⟩ ((hdE rem).1)).2.2.1)) ?_
     refine sp (.int .i64 ((tnext ⟨L, S⟩ ((hdE rem).1)).2.2.2)) ?_
     refine s_store 5 #[.int .i64 (((tnext ⟨L, S⟩ ((hdE rem).1)).1).kind), .int .i64 (((tnext ⟨L, S⟩ ((hdE rem).1)).1).p), .int .i64 (((tnext ⟨L, S⟩ ((hdE rem).1)).1).q), .string (((tnext ⟨L, S⟩ ((hdE rem).1)).1).str), .int .i64 (((tnext ⟨L, S⟩ ((hdE rem).1)).1).ref)] ?_
     refine s_store 4 #[.int .i64 (((tnext ⟨L, S⟩ ((hdE rem).1)).2.1).kind), .int .i64 (((tnext ⟨L, S⟩ ((hdE rem).1)).2.1).p), .int .i64 (((tnext ⟨L, S⟩ ((hdE rem).1)).2.1).q), .string (((tnext ⟨L, S⟩ ((hdE rem).1)).2.1).str), .int .i64 (((tnext ⟨L, S⟩ ((hdE rem).1)).2.1).ref)] ?_
     refine sp (.bool ((tnext ⟨L, S⟩ ((hdE rem).1)).2.2.1)) ?_
     refine sp (.int .i64 ((tnext ⟨L, S⟩ ((hdE rem).1)).2.2.2)) ?_
     refine s_nil ?_
     refine xs_block ?_
     have hn : tnext ⟨L, S⟩ ((hdE rem).1) = hdE tl := by rw [hrem]; exact next_step hti htw (by show L.length ≤ _; omega) (pre := dn) (by rw [hi3, hrem])
     rw [hn]
     have hE : (⟨(idn ((hdE rem).1)), (idn ((hdE rem).2.1))⟩ : Ent) = (⟨idn p.1, idn p.2⟩ : Ent) := by rw [hrem]; rfl
     have hes : ((entL dn) ++ [(⟨(idn ((hdE rem).1)), (idn ((hdE rem).2.1))⟩ : Ent)]) = entL (dn ++ [p]) := by rw [entL_step, if_pos (by rw [← hE]; exact of_decide_eq_false c10), ← hE]
     refine xs_mem (Bs := tbA b L S :: blkA g12 #[.int .i64 (idn ((hdE rem).1)), .int .i64 (idn ((hdE rem).2.1))] 62 :: blkA jb8 #[.int .i64 (idn ((hdE rem).1)), .int .i64 (idn ((hdE rem).2.1))] 62 :: own EntT v13 (entL (dn ++ [p])) :: blkA g2 #[.int .i64 (((hdE tl).2.1).kind), .int .i64 (((hdE tl).2.1).p), .int .i64 (((hdE tl).2.1).q), .string (((hdE tl).2.1).str), .int .i64 (((hdE tl).2.1).ref)] 26 :: blkA g1 #[.int .i64 (((hdE tl).1).kind), .int .i64 (((hdE tl).1).p), .int .i64 (((hdE tl).1).q), .string (((hdE tl).1).str), .int .i64 (((hdE tl).1).ref)] 26 :: F) (fun _ h => by rw [hes] at h; exact h) ?_
     exact xs_round (v13, dn ++ [p], tl) (by show tl.length < rem.length; rw [hrem]; simp) (by show _ = (dn ++ [p]) ++ tl; rw [hi3, hrem]; simp) (sub_of rfl ⟨⟨rfl, rfl⟩, ⟨⟨rfl, rfl⟩, ⟨⟨rfl, rfl⟩, ⟨⟨rfl, rfl⟩, ⟨⟨rfl, rfl⟩, ⟨⟨rfl, rfl⟩, trivial⟩⟩⟩⟩⟩⟩) (fun _ h => h.re [3, 3, 3, 0] [4, 4])
    ·
     have c14 := not_f c9
     have p15 := of_decide_eq_true c14
     refine k_st ?_
     refine k_reg ?_
     refine sp (pB b 0) ?_
     refine s_lt (t_loadA 3 #[.int .i64 (((hdE rem).1).kind), .int .i64 (((hdE rem).1).p), .int .i64 (((hdE rem).1).q), .string (((hdE rem).1).str), .int .i64 (((hdE rem).1).ref)]) ?_
     refine s_call [4] (tbnext_s (L := L) (S := S) (by (try simp only [lnm]); omega) (by (try simp only [lnm]); omega) ((hdE rem).1)) ?_
     rintro _ _ ⟨rfl, rfl⟩
     refine sp (.tuple #[.agg #[.int .i64 (((tnext ⟨L, S⟩ ((hdE rem).1)).1).kind), .int .i64 (((tnext ⟨L, S⟩ ((hdE rem).1)).1).p), .int .i64 (((tnext ⟨L, S⟩ ((hdE rem).1)).1).q), .string (((tnext ⟨L, S⟩ ((hdE rem).1)).1).str), .int .i64 (((tnext ⟨L, S⟩ ((hdE rem).1)).1).ref)], .agg #[.int .i64 (((tnext ⟨L, S⟩ ((hdE rem).1)).2.1).kind), .int .i64 (((tnext ⟨L, S⟩ ((hdE rem).1)).2.1).p), .int .i64 (((tnext ⟨L, S⟩ ((hdE rem).1)).2.1).q), .string (((tnext ⟨L, S⟩ ((hdE rem).1)).2.1).str), .int .i64 (((tnext ⟨L, S⟩ ((hdE rem).1)).2.1).ref)], .bool ((tnext ⟨L, S⟩ ((hdE rem).1)).2.2.1), .int .i64 ((tnext ⟨L, S⟩ ((hdE rem).1)).2.2.2)]) ?_
     refine sp (.agg #[.int .i64 (((tnext ⟨L, S⟩ ((hdE rem).1)).1).kind), .int .i64 (((tnext ⟨L, S⟩ ((hdE rem).1)).1).p), .int .i64 (((tnext ⟨L, S⟩ ((hdE rem).1)).1).q), .string (((tnext ⟨L, S⟩ ((hdE rem).1)).1).str), .int .i64 (((tnext ⟨L, S⟩ ((hdE rem).1)).1).ref)]) ?_
     refine sp (.agg #[.int .i64 (((tnext ⟨L, S⟩ ((hdE rem).1)).2.1).kind), .int .i64 (((tnext ⟨L, S⟩ ((hdE rem).1)).2.1).p), .int .i64 (((tnext ⟨L, S⟩ ((hdE rem).1)).2.1).q), .string (((tnext ⟨L, S⟩ ((hdE rem).1)).2.1).str), .int .i64 (((tnext ⟨L, S⟩ ((hdE rem).1)).2.1).ref)]) ?_
     refine sp (.bool ((tnext ⟨L, S⟩ ((hdE rem).1)).2.2.1)) ?_
     refine sp (.int .i64 ((tnext ⟨L, S⟩ ((hdE rem).1)).2.2.2)) ?_
     refine s_store 4 #[.int .i64 (((tnext ⟨L, S⟩ ((hdE rem).1)).1).kind), .int .i64 (((tnext ⟨L, S⟩ ((hdE rem).1)).1).p), .int .i64 (((tnext ⟨L, S⟩ ((hdE rem).1)).1).q), .string (((tnext ⟨L, S⟩ ((hdE rem).1)).1).str), .int .i64 (((tnext ⟨L, S⟩ ((hdE rem).1)).1).ref)] ?_
     refine s_store 3 #[.int .i64 (((tnext ⟨L, S⟩ ((hdE rem).1)).2.1).kind), .int .i64 (((tnext ⟨L, S⟩ ((hdE rem).1)).2.1).p), .int .i64 (((tnext ⟨L, S⟩ ((hdE rem).1)).2.1).q), .string (((tnext ⟨L, S⟩ ((hdE rem).1)).2.1).str), .int .i64 (((tnext ⟨L, S⟩ ((hdE rem).1)).2.1).ref)] ?_
     refine sp (.bool ((tnext ⟨L, S⟩ ((hdE rem).1)).2.2.1)) ?_
     refine sp (.int .i64 ((tnext ⟨L, S⟩ ((hdE rem).1)).2.2.2)) ?_
     refine s_nil ?_
     refine xs_block ?_
     have hn : tnext ⟨L, S⟩ ((hdE rem).1) = hdE tl := by rw [hrem]; exact next_step hti htw (by show L.length ≤ _; omega) (pre := dn) (by rw [hi3, hrem])
     rw [hn]
     have hE : (⟨(idn ((hdE rem).1)), (idn ((hdE rem).2.1))⟩ : Ent) = (⟨idn p.1, idn p.2⟩ : Ent) := by rw [hrem]; rfl
     have hes : (entL dn) = entL (dn ++ [p]) := by rw [entL_step, if_neg (fun hc => hc (by rw [← hE]; exact of_decide_eq_true c14))]
     refine xs_mem (Bs := tbA b L S :: blkA jb8 #[.int .i64 (idn ((hdE rem).1)), .int .i64 (idn ((hdE rem).2.1))] 62 :: own EntT lx (entL (dn ++ [p])) :: blkA g2 #[.int .i64 (((hdE tl).2.1).kind), .int .i64 (((hdE tl).2.1).p), .int .i64 (((hdE tl).2.1).q), .string (((hdE tl).2.1).str), .int .i64 (((hdE tl).2.1).ref)] 26 :: blkA g1 #[.int .i64 (((hdE tl).1).kind), .int .i64 (((hdE tl).1).p), .int .i64 (((hdE tl).1).q), .string (((hdE tl).1).str), .int .i64 (((hdE tl).1).ref)] 26 :: F) (fun _ h => by rw [hes] at h; exact h) ?_
     exact xs_round (lx, dn ++ [p], tl) (by show tl.length < rem.length; rw [hrem]; simp) (by show _ = (dn ++ [p]) ++ tl; rw [hi3, hrem]; simp) (sub_of rfl ⟨⟨rfl, rfl⟩, ⟨⟨rfl, rfl⟩, ⟨⟨rfl, rfl⟩, ⟨⟨rfl, rfl⟩, ⟨⟨rfl, rfl⟩, ⟨⟨rfl, rfl⟩, trivial⟩⟩⟩⟩⟩⟩) (fun _ h => h.re [2, 2, 2, 0] [4])
  ·
   have hrem := hd_none c5
   refine k_exit ?_
   refine xs_exit ?_
   refine xs_exit ?_
   refine xs_here ?_
   refine xs_then ?_
   refine k_sr ?_
   refine sp lx ?_
   refine sp lx ?_
   refine s_nt ?_
   refine k_ret ?_
   have hend : entL dn = entsOf ⟨L, S⟩ := by unfold entsOf; rw [hi3, hrem, List.append_nil]
   rw [hend]
   exact xs_fin [lx] (own EntT lx (entsOf ⟨L, S⟩) :: tbA b L S :: F) (SI.tmp 2 SI.nil) (fun _ h => h.re [0, 2] [2, 2]) rfl
theorem obsize_s {Z : Zone} {F : List Asr} {q : Nat × Nat} {o : Hob} (hl : o.tab.list.length ≤ 100000) (hs : o.tab.rest.length ≤ 100000) (hv : o.vals.length ≤ 100000) : SF Try.prog 53 #[ptrV q.1] Z (obP q o :: F) fun r Bs => r = .int .i64 (obSize o) ∧ Bs = obP q o :: F := by
 refine sf_enter Try.func53 31 [(0, pB q.1 0)] (fun w0 => ?_)
 refine k_memX (fun H h => ob_open (h.re [0] [])) (fun v1 hw => ?_)
 have htz : 0 ≤ tabSize ⟨o.tab.list, o.tab.rest⟩ ∧ tabSize ⟨o.tab.list, o.tab.rest⟩ ≤ 700000 := by unfold tabSize; dsimp only; omega
 refine k_sr ?_
 refine sp (.int .i64 0) ?_
 refine s_nt ?_
 refine k_seq ?_
 refine k_sr ?_
 refine sp (pB q.1 0) ?_
 refine sp (pB q.1 0) ?_
 refine sp (pB q.1 0) ?_
 refine s_lt (t_load 0 (.int .i64 o.kind)) ?_
 refine s_nt ?_
 refine k_block ?_
 refine k_sr ?_
 refine s_lt t_cmp ?_
 refine sp (.bool (decide (o.kind = 4))) ?_
 refine s_nt ?_
 refine k_cond (decide (o.kind = 4)) (fun c2 => ?_) (fun c2 => ?_)
 ·
  have p3 := of_decide_eq_true c2
  refine k_sr ?_
  refine sp (pB q.1 0) ?_
  refine sp (pB q.1 0) ?_
  refine sp (pB q.1 3) ?_
  refine s_lt (Lt.to (v' := ptrV q.2) (t_load 0 (tabV q o)) (by unfold tabV; rw [if_pos (of_decide_eq_true c2)])) ?_
  refine s_mem (fun _ h => tabO_open (of_decide_eq_true c2) (h.re [2] [])) ?_
  refine s_call [0] (tbsize_s (L := o.tab.list) (S := o.tab.rest) (by (try simp only [lnm]); omega) (by (try simp only [lnm]); omega)) ?_
  rintro _ _ ⟨rfl, rfl⟩
  refine s_lt (t_add 8 (tabSize ⟨o.tab.list, o.tab.rest⟩) (by (try simp only [lnm]); omega)) ?_
  refine sp (.int .i64 (8 + (tabSize ⟨o.tab.list, o.tab.rest⟩))) ?_
  refine s_nt ?_
  refine k_ret ?_
  refine xs_retBlock ?_
  refine xs_ret ?_
  refine xs_mem (fun _ h => tabO_shut (T := o.tab) (of_decide_eq_true c2) (h.re [0] [])) ?_
  refine xs_mem (Bs := tabO q o :: blkA q.1 #[.int .i64 o.kind, .int .i64 o.tag, .string o.name, (tabV q o), .int .i64 o.mt.kind, .int .i64 o.mt.p, .int .i64 o.mt.q, .string o.mt.str, .int .i64 o.mt.ref, v1] 84 :: own VlT v1 o.vals :: F) (fun _ h => h) ?_
  refine xs_mem (fun _ h => ob_shut (o := o) (h.re [1, 1, 0] [])) ?_
  have hp : obSize o = (8 + (tabSize ⟨o.tab.list, o.tab.rest⟩)) := by unfold obSize; rw [if_pos (of_decide_eq_true c2)]
  exact xs_fin [.int .i64 (8 + (tabSize ⟨o.tab.list, o.tab.rest⟩))] (obP q o :: F) (SI.tmp 2 SI.nil) (fun _ h => h.re [0] []) ⟨by rw [hp]; rfl, rfl⟩
 ·
  have p4 := of_decide_eq_false c2
  refine k_sr ?_
  refine s_lt t_cmp ?_
  refine sp (.bool (decide (o.kind = 5))) ?_
  refine s_nt ?_
  refine k_cond (decide (o.kind = 5)) (fun c5 => ?_) (fun c5 => ?_)
  ·
   have p6 := of_decide_eq_true c5
   refine k_sr ?_
   refine sp (pB q.1 0) ?_
   refine sp (pB q.1 0) ?_
   refine sp (pB q.1 9) ?_
   refine s_lt (t_load 0 v1) ?_
   refine s_lt (t_len VlT_ok Try.underlying22 (.own 1)) ?_
   refine s_lt (t_add 8 (o.vals.length : Int) (by (try simp only [lnm]); omega)) ?_
   refine sp (.int .i64 (8 + (o.vals.length : Int))) ?_
   refine s_nt ?_
   refine k_ret ?_
   refine xs_retBlock ?_
   refine xs_ret ?_
   refine xs_mem (fun _ h => ob_shut (o := o) (h.re [0, 0, 0] [])) ?_
   have hp : obSize o = (8 + (o.vals.length : Int)) := by unfold obSize; rw [if_neg (of_decide_eq_false c2), if_pos (of_decide_eq_true c5)]
   exact xs_fin [.int .i64 (8 + (o.vals.length : Int))] (obP q o :: F) (SI.tmp 2 SI.nil) (fun _ h => h.re [0] []) ⟨by rw [hp]; rfl, rfl⟩
  ·
   have p7 := of_decide_eq_false c5
   refine k_sr ?_
   refine s_lt t_cmp ?_
   refine sp (.bool (decide (o.kind = 7))) ?_
   refine s_nt ?_
   refine k_cond (decide (o.kind = 7)) (fun c8 => ?_) (fun c8 => ?_)
   ·
    have p9 := of_decide_eq_true c8
    refine k_sr ?_
    refine sp (pB q.1 0) ?_
    refine sp (pB q.1 0) ?_
    refine sp (pB q.1 9) ?_
    refine s_lt (t_load 0 v1) ?_
    refine s_lt (t_len VlT_ok Try.underlying22 (.own 1)) ?_
    refine s_lt (t_add 16 (o.vals.length : Int) (by (try simp only [lnm]); omega)) ?_
    refine sp (.int .i64 (16 + (o.vals.length : Int))) ?_
    refine s_nt ?_
    refine k_ret ?_
    refine xs_retBlock ?_
    refine xs_ret ?_
    refine xs_mem (fun _ h => ob_shut (o := o) (h.re [0, 0, 0] [])) ?_
    have hp : obSize o = (16 + (o.vals.length : Int)) := by unfold obSize; rw [if_neg (of_decide_eq_false c2), if_neg (of_decide_eq_false c5), if_pos (of_decide_eq_true c8)]
    exact xs_fin [.int .i64 (16 + (o.vals.length : Int))] (obP q o :: F) (SI.tmp 2 SI.nil) (fun _ h => h.re [0] []) ⟨by rw [hp]; rfl, rfl⟩
   ·
    have p10 := of_decide_eq_false c8
    refine k_skip ?_
    refine xs_block ?_
    refine xs_then ?_
    refine k_sr ?_
    refine sp (.int .i64 12) ?_
    refine s_nt ?_
    refine k_ret ?_
    refine xs_mem (fun _ h => ob_shut (o := o) (h.re [0, 0, 0] [])) ?_
    have hp : obSize o = 12 := by unfold obSize; rw [if_neg (of_decide_eq_false c2), if_neg (of_decide_eq_false c5), if_neg (of_decide_eq_false c8)]
    exact xs_fin [.int .i64 12] (obP q o :: F) (SI.tmp 2 SI.nil) (fun _ h => h.re [0] []) ⟨by rw [hp]; rfl, rfl⟩
theorem ob_bound {st : Hst} {n : Nat} (hsm : HSm n st) (hn : n ≤ 300) {id : Int} {o : Hob} (ho : st.get id = some o) : o.tab.list.length ≤ 90300 ∧ o.tab.rest.length ≤ 300 ∧ o.vals.length ≤ 320 := by
  obtain ⟨h1, h2, h3⟩ := hsm.obs o (get_mem ho).1
  have h4 : n * (n + 1) ≤ 300 * 301 := Nat.mul_le_mul (by omega) (by omega)
  exact ⟨by omega, by omega, by omega⟩
theorem obsize_bound {st : Hst} {n : Nat} (hsm : HSm n st) (hn : n ≤ 300) {id : Int} {o : Hob} (ho : st.get id = some o) : 0 ≤ obSize o ∧ obSize o ≤ 200000 := by
  obtain ⟨h1, h2, h3⟩ := ob_bound hsm hn ho
  unfold obSize tabSize
  repeat' split
  all_goals omega
theorem hids_s {Z : Zone} {F : List Asr} {b : Nat} {st : Hst} {n : Nat} (hsm : HSm n st) (hn : n ≤ 300) : SF Try.prog 34 #[.pointer (some ⟨b, 0, none⟩)] Z (hpA b st :: F) fun r Bs => Bs = own iTy r (hids st) :: hpA b st :: F := by
 refine sf_enter Try.func34 11 [(0, pB b 0)] (fun w0 => ?_)
 refine k_memX (fun H h => hpA_open (h.re [0] [])) (fun ps1 _ => ?_)
 refine k_fact (fun H h => hp_facts (h.re [0] [])) (fun hf2 => ?_)
 obtain ⟨hi3, ha4⟩ := hf2
 refine k_mem3 (fun H h => hp_open (h.re [0] [])) (fun mb5 tb6 tm7 hw => ?_)
 obtain ⟨hi8, ha9, ht10⟩ := hw
 refine k_fact (fun H h => (h.mp (i := 1) rfl).nodup) (fun hnd0 => ?_)
 refine k_sr ?_
 refine sp (.slice none 0 0) ?_
 refine s_nt ?_
 refine k_seq ?_
 refine k_sr ?_
 refine sp (pB b 0) ?_
 refine sp (.bool false) ?_
 refine s_nt ?_
 refine k_false ?_
 refine k_st ?_
 refine k_sr ?_
 refine sp (pB b 0) ?_
 refine sp (pB b 0) ?_
 refine sp (pB b 0) ?_
 refine s_lt (t_load 0 (.map (some mb5))) ?_
 refine s_pcall (fun _ h => keys_s mb5) ?_
 rintro _ _ ⟨g11, rfl, rfl⟩
 refine s_call [0, 1] (sorted_s (ps := ps1) (keys_wf ha9 (by have := hsm.len; omega)) (by have := ha9.len; have := count_le st; have := hsm.len; omega)) ?_
 rintro v12 _ rfl
 refine sp v12 ?_
 refine s_nt ?_
 refine k_ret ?_
 refine xs_mem (fun _ h => hp_shut (st := st) (n := (st.objs.length : Int)) ⟨⟨hi8, ha9, ht10⟩, rfl⟩ (h.re [2, 1, 1, 1] [])) ?_
 refine xs_mem (fun _ h => hpA_shut (h.re [0] [])) ?_
 have hk : (srt (ps1.map Prod.fst)) = hids st := keys_srt ha9 hnd0
 rw [hk]
 exact xs_fin [v12] (own iTy v12 (hids st) :: hpA b st :: F) (SI.tmp 2 SI.nil) (fun _ h => h.re [1, 0] []) rfl
theorem halive0_s {Z : Zone} {F : List Asr} {b mb tb : Nat} {n : Value} {ps : List (Int × (Nat × Nat))} (id : Int) : SF Try.prog 31 #[.pointer (some ⟨b, 0, none⟩), .int .i64 id] Z (blkA b #[.map (some mb), n, .map (some tb)] 76 :: mpA iK oV mb ps :: F) fun r Bs => r = .bool (aget ps id).isSome ∧ Bs = blkA b #[.map (some mb), n, .map (some tb)] 76 :: mpA iK oV mb ps :: F := by
 refine sf_enter Try.func31 16 [(0, pB b 0), (1, .int .i64 id)] (fun w0 => ?_)
 refine k_sr ?_
 refine sp (.bool false) ?_
 refine s_nr ?_
 refine sp (pB b 0) ?_
 refine sp (.bool true) ?_
 refine sp (.bool true) ?_
 refine sp (pB b 0) ?_
 refine sp (pB b 0) ?_
 refine sp (pB b 0) ?_
 refine s_lt (t_load 0 (.map (some mb))) ?_
 refine sp (.int .i64 id) ?_
 rcases hq1 : aget ps id with _ | q2
 ·
  refine s_lt (Lt.to (v' := .pointer none) (t_lookup 1 intOk Try.underlying73 (.pointer none) id) (by rw [hq1]; rfl)) ?_
  refine sp (.bool false) ?_
  refine sp (.bool false) ?_
  refine sp (.bool false) ?_
  refine s_nt ?_
  refine k_ret ?_
  exact xs_fin [.bool false] (blkA b #[.map (some mb), n, .map (some tb)] 76 :: mpA iK oV mb ps :: F) (SI.tmp 4 SI.nil) (fun _ h => h.re [0, 0] []) ⟨by first | rfl | (rw [hq1]; rfl), rfl⟩
 ·
  refine s_lt (Lt.to (v' := ptrV q2.1) (t_lookup 1 intOk Try.underlying73 (.pointer none) id) (by rw [hq1]; rfl)) ?_
  refine sp (.bool true) ?_
  refine sp (.bool true) ?_
  refine sp (.bool true) ?_
  refine s_nt ?_
  refine k_ret ?_
  exact xs_fin [.bool true] (blkA b #[.map (some mb), n, .map (some tb)] 76 :: mpA iK oV mb ps :: F) (SI.tmp 4 SI.nil) (fun _ h => h.re [0, 0] []) ⟨by first | rfl | (rw [hq1]; rfl), rfl⟩
theorem htouched_s {Z : Zone} {F : List Asr} {b : Nat} {st : Hst} {n : Nat} (hsm : HSm n st) (hn : n ≤ 300) : SF Try.prog 35 #[.pointer (some ⟨b, 0, none⟩)] Z (hpA b st :: F) fun r Bs => Bs = own iTy r (htchd st) :: hpA b (huntch st) :: F := by
 refine sf_enter Try.func35 30 [(0, pB b 0)] (fun w0 => ?_)
 refine k_memX (fun H h => hpA_open (h.re [0] [])) (fun ps1 _ => ?_)
 refine k_fact (fun H h => hp_facts (h.re [0] [])) (fun hf2 => ?_)
 obtain ⟨hi3, ha4⟩ := hf2
 refine k_mem3 (fun H h => hp_open (h.re [0] [])) (fun mb5 tb6 tm7 hw => ?_)
 obtain ⟨hi8, ha9, ht10⟩ := hw
 refine k_fact (fun H h => (h.mp (i := 1) rfl).nodup) (fun hnd0 => ?_)
 refine k_fact (fun H h => (h.mp (i := 2) rfl).nodup) (fun hnd1 => ?_)
 refine k_sr ?_
 refine sp (.slice none 0 0) ?_
 refine s_nt ?_
 refine k_seq ?_
 refine k_sr ?_
 refine sp (pB b 0) ?_
 refine sp (.bool false) ?_
 refine s_nt ?_
 refine k_false ?_
 refine k_st ?_
 refine k_sr ?_
 refine sp (.slice none 0 0) ?_
 refine s_nt ?_
 refine k_seq ?_
 refine k_sr ?_
 refine sp (pB b 0) ?_
 refine sp (pB b 0) ?_
 refine sp (pB b 2) ?_
 refine s_lt (t_load 0 (.map (some tb6))) ?_
 refine s_range 2 Try.underlying74 (fun r11 => ?_)
 refine s_nt ?_
 refine k_block ?_
 refine k_mem (fun _ h => Holds.nilS (T := iTy) h) ?_
 refine k_mem (Bs := own iTy (.slice none 0 0) ((([] : List (Int × Bool)).map Prod.fst).filter fun id => (aget ps1 id).isSome) :: blkA b #[.map (some mb5), .int .i64 (st.objs.length : Int), .map (some tb6)] 76 :: mpA iK oV mb5 ps1 :: rgA iK bV tb6 r11 tm7 [] :: allP ps1 st :: F) (fun _ h => h) ?_
 refine k_loop (ι := Value × List (Int × Bool)) (fun (sx, dn) => (dn.map Prod.fst).Nodup) (fun (sx, dn) => [(0, pB b 0), (3, sx), (11, pB r11 0)]) (fun (sx, dn) => own iTy sx ((dn.map Prod.fst).filter fun id => (aget ps1 id).isSome) :: blkA b #[.map (some mb5), .int .i64 (st.objs.length : Int), .map (some tb6)] 76 :: mpA iK oV mb5 ps1 :: rgA iK bV tb6 r11 tm7 dn :: allP ps1 st :: F) (fun (sx, dn) => tm7.length - dn.length) ((.slice none 0 0), []) List.nodup_nil (sub_of rfl ⟨⟨rfl, rfl⟩, ⟨⟨rfl, rfl⟩, ⟨⟨rfl, rfl⟩, trivial⟩⟩⟩) (fun _ h => h.re [0, 0, 0, 0, 0] []) ?_
 rintro ⟨sx, dn⟩ hi12
 replace hi12 : (dn.map Prod.fst).Nodup := hi12
 show SK _ _ _ _ _ [(0, .pointer (some ⟨b, 0, none⟩)), (3, sx), (11, .pointer (some ⟨r11, 0, none⟩))] _ (own iTy sx ((dn.map Prod.fst).filter fun id => (aget ps1 id).isSome) :: blkA b #[.map (some mb5), .int .i64 (st.objs.length : Int), .map (some tb6)] 76 :: mpA iK oV mb5 ps1 :: rgA iK bV tb6 r11 tm7 dn :: allP ps1 st :: F)
 have hfn := fl_len (ps := ps1) hi12
 have hpl : ps1.length ≤ 300 := by have := ha9.len; have := count_le st; have := hsm.len; omega
 refine k_sr ?_
 refine s_next 3 (fun hd13 => ?_) (fun ky14 u15 hm16 hn17 hd18 => ?_)
 ·
  refine sp (.bool false) ?_
  refine s_nt ?_
  refine k_seq ?_
  refine k_false ?_
  refine k_exit ?_
  refine xs_mem (fun _ h => Holds.unrange 3 h) ?_
  refine xs_exit ?_
  refine xs_exit ?_
  refine xs_here ?_
  refine xs_then ?_
  refine k_sr ?_
  refine sp sx ?_
  refine s_call [0] (sort_s (L := ((dn.map Prod.fst).filter fun id => (aget ps1 id).isSome)) (by omega)) ?_
  rintro _ _ ⟨rfl, rfl⟩
  refine s_nr ?_
  refine sp (pB b 0) ?_
  refine sp (pB b 0) ?_
  refine sp (pB b 2) ?_
  refine s_lt (t_load 1 (.map (some tb6))) ?_
  refine s_clear0 3 Try.underlying74 ?_
  refine s_mem (Bs := own iTy sx (srt ((dn.map Prod.fst).filter fun id => (aget ps1 id).isSome)) :: blkA b #[.map (some mb5), .int .i64 (st.objs.length : Int), .map (some tb6)] 76 :: mpA iK oV mb5 ps1 :: mpA iK bV tb6 [] :: allP ps1 (huntch st) :: F) (fun _ h => h) ?_
  refine s_nr ?_
  refine sp sx ?_
  refine sp sx ?_
  refine s_nt ?_
  refine k_ret ?_
  refine xs_mem (fun _ h => hp_shut (st := (huntch st)) (n := (st.objs.length : Int)) ⟨⟨untch_inv hi8, ⟨ha9.has, ha9.len⟩, TA.untch st⟩, rfl⟩ (h.re [1, 1, 1, 1] [])) ?_
  refine xs_mem (fun _ h => hpA_shut (h.re [0] [])) ?_
  have hk : (srt ((dn.map Prod.fst).filter fun id => (aget ps1 id).isSome)) = htchd st := (srt_perm' ((hd13.map Prod.fst).filter _)).trans (by rw [← tch_srt ht10 hnd1]; congr 1; refine List.filter_congr fun x _ => ?_; exact ha9.has x)
  rw [hk]
  exact xs_fin [sx] (own iTy sx (htchd st) :: hpA b (huntch st) :: F) (SI.tmp 2 SI.nil) (fun _ h => h.re [1, 0] []) rfl
 ·
  refine sp (.bool true) ?_
  refine s_nt ?_
  refine k_seq ?_
  refine k_true ?_
  refine k_st ?_
  refine k_block ?_
  refine k_sr ?_
  refine s_lt (t_entry 3) ?_
  refine sp (.int .i64 ky14) ?_
  refine sp (.int .i64 ky14) ?_
  refine s_nr ?_
  refine sp (pB b 0) ?_
  refine sp (.int .i64 ky14) ?_
  refine s_call [1, 1] (halive0_s (ps := ps1) ky14) ?_
  rintro _ _ ⟨rfl, rfl⟩
  refine s_nt ?_
  refine k_cond ((aget ps1 ky14).isSome) (fun c19 => ?_) (fun c19 => ?_)
  ·
   refine k_reg ?_
   refine sp sx ?_
   refine sp (.int .i64 ky14) ?_
   refine s_buildSlice (e := 3) [(0, .int .i64 ky14)] #[.int .i64 ky14] (fun g20 => ?_) (hb := by kernel_rfl)
   refine s_append (L := ((dn.map Prod.fst).filter fun id => (aget ps1 id).isSome)) 3 iTy_ok Try.underlying54 (.lit 0 iTy_ok [ky14]) (by show _ * 8 ≤ _; (try simp only [lnm]); omega) (by (try simp only [lnm]); omega) (fun v21 => ?_)
   refine sp v21 ?_
   refine s_nil ?_
   refine xs_block ?_
   have hfl : (((dn.map Prod.fst).filter fun id => (aget ps1 id).isSome) ++ [ky14]) = (((dn ++ [(ky14, u15)]).map Prod.fst).filter fun id => (aget ps1 id).isSome) := by rw [List.map_append, List.filter_append, List.map_cons, List.map_nil]; show _ = _ ++ List.filter _ [ky14]; rw [List.filter_cons_of_pos (by exact c19)]; rfl
   refine xs_mem (Bs := blkA g20 #[.int .i64 ky14] 3 :: blkA b #[.map (some mb5), .int .i64 (st.objs.length : Int), .map (some tb6)] 76 :: mpA iK oV mb5 ps1 :: own iTy v21 (((dn ++ [(ky14, u15)]).map Prod.fst).filter fun id => (aget ps1 id).isSome) :: rgA iK bV tb6 r11 tm7 (dn ++ [(ky14, u15)]) :: allP ps1 st :: F) (fun _ h => by rw [hfl] at h; exact h) ?_
   exact xs_round (v21, dn ++ [(ky14, u15)]) (by show tm7.length - (dn ++ [(ky14, u15)]).length < tm7.length - dn.length; rw [List.length_append]; have := hd18; simp only [List.length_singleton]; omega) (nodup_snoc hi12 hn17) (sub_of rfl ⟨⟨rfl, rfl⟩, ⟨⟨rfl, rfl⟩, ⟨⟨rfl, rfl⟩, trivial⟩⟩⟩) (fun _ h => h.re [3, 1, 1, 1, 1] [5])
  ·
   refine k_skip ?_
   refine xs_block ?_
   have hfl : ((dn.map Prod.fst).filter fun id => (aget ps1 id).isSome) = (((dn ++ [(ky14, u15)]).map Prod.fst).filter fun id => (aget ps1 id).isSome) := by rw [List.map_append, List.filter_append, List.map_cons, List.map_nil]; show _ = _ ++ List.filter _ [ky14]; rw [List.filter_cons_of_neg (by rw [c19]; decide)]; simp
   refine xs_mem (Bs := blkA b #[.map (some mb5), .int .i64 (st.objs.length : Int), .map (some tb6)] 76 :: mpA iK oV mb5 ps1 :: own iTy sx (((dn ++ [(ky14, u15)]).map Prod.fst).filter fun id => (aget ps1 id).isSome) :: rgA iK bV tb6 r11 tm7 (dn ++ [(ky14, u15)]) :: allP ps1 st :: F) (fun _ h => by rw [hfl] at h; exact h) ?_
   exact xs_round (sx, dn ++ [(ky14, u15)]) (by show tm7.length - (dn ++ [(ky14, u15)]).length < tm7.length - dn.length; rw [List.length_append]; have := hd18; simp only [List.length_singleton]; omega) (nodup_snoc hi12 hn17) (sub_of rfl ⟨⟨rfl, rfl⟩, ⟨⟨rfl, rfl⟩, ⟨⟨rfl, rfl⟩, trivial⟩⟩⟩) (fun _ h => h.re [2, 0, 0, 0, 0] [])
end Go.Proofs.Ytmilekfknhglkaa
end
section
set_option linter.unusedSimpArgs false
set_option linter.unusedVariables false
set_option maxRecDepth 100000
set_option maxHeartbeats 2000000
namespace Go.Proofs.Ytmilekfknhglkaa
open Go.Hp Go.J Go.S
open Go.Mem (Ty KTy blk elemAt pre suf blk_pre blk_suf aget aset strK aggDesc)
open Go.Mem (adel apos aget_aset aget_adel)
theorem hobject_s {Z : Zone} {F : List Asr} {b : Nat} {st : Hst} {n : Nat} (hsm : HSm n st) (hn : n ≤ 300) (hw : HW st) (id weak : Int) : SF Try.prog 28 #[.pointer (some ⟨b, 0, none⟩), .int .i64 id, .int .i64 weak] Z (hpA b st :: F) fun r Bs => ∃ rv ev, r = .tuple #[.agg #[.int .i64 (hoId st id), .int .i64 (hoSz st id), .int .i64 (hoWk st id weak), rv, ev], .bool (halive st id)] ∧ Bs = own iTy rv (hrefs st id) :: own EntT ev (hents st id) :: hpA b st :: F := by
 refine sf_enter Try.func28 73 [(0, pB b 0), (1, .int .i64 id), (2, .int .i64 weak)] (fun w0 => ?_)
 refine k_sr ?_
 refine s_alloc (.agg #[.int .i64 0, .int .i64 0, .int .i64 0, (.slice none 0 0), (.slice none 0 0)]) #[.int .i64 0, .int .i64 0, .int .i64 0, (.slice none 0 0), (.slice none 0 0)] (fun g1 => ?_)
 refine sp (.bool false) ?_
 refine s_nt ?_
 refine k_seq ?_
 refine k_sr ?_
 refine sp (pB b 0) ?_
 refine sp (.int .i64 id) ?_
 refine s_call [1] (halive_s (st := st) id) ?_
 rintro _ _ ⟨rfl, rfl⟩
 refine sp (.bool (!(halive st id))) ?_
 refine s_nt ?_
 refine k_cond (!(halive st id)) (fun c2 => ?_) (fun c2 => ?_)
 ·
  have c3 := not_t c2
  refine k_sr ?_
  refine s_lt (t_kern (.agg #[.int .i64 0, .int .i64 0, .int .i64 0, (.slice none 0 0), (.slice none 0 0)])) ?_
  refine s_store 1 #[.int .i64 0, .int .i64 0, .int .i64 0, (.slice none 0 0), (.slice none 0 0)] ?_
  refine sp (.bool false) ?_
  refine s_nt ?_
  refine k_ret ?_
  refine xs_ret ?_
  refine xs_mem (fun _ h => Holds.nilS (T := EntT) h) ?_
  refine xs_mem (fun _ h => Holds.nilS (T := iTy) h) ?_
  have hg0 : st.get id = none := by have h0 := c3; unfold halive at h0; cases hg : st.get id with | none => rfl | some o => rw [hg] at h0; cases h0
  have ho := obj_none hg0 weak
  exact xs_fin [.agg #[.int .i64 0, .int .i64 0, .int .i64 0, (.slice none 0 0), (.slice none 0 0)], .bool false] (own iTy (.slice none 0 0) [] :: own EntT (.slice none 0 0) [] :: hpA b st :: F) (SI.agg 6 57 3 (SI.tmp 7 SI.nil)) (fun _ h => h.re [0, 0, 0] [3]) ⟨(.slice none 0 0), (.slice none 0 0), by rw [ho.1, ho.2.1, ho.2.2.1, ho.2.2.2.1]; rfl, by rw [ho.2.2.2.2.1, ho.2.2.2.2.2]⟩
 ·
  have c4 := not_f c2
  refine k_st ?_
  refine k_seq ?_
  refine k_memX (fun H h => hpA_open (h.re [0] [])) (fun ps5 _ => ?_)
  refine k_fact (fun H h => hp_facts (h.re [0] [])) (fun hf6 => ?_)
  obtain ⟨hi7, ha8⟩ := hf6
  refine k_mem3 (fun H h => hp_open (h.re [0] [])) (fun mb9 tb10 tm11 hw => ?_)
  obtain ⟨hi12, ha13, ht14⟩ := hw
  refine k_reg ?_
  refine sp (pB b 0) ?_
  refine sp (pB b 0) ?_
  refine sp (pB b 0) ?_
  refine s_lt (t_load 0 (.map (some mb9))) ?_
  refine sp (.int .i64 id) ?_
  rcases get_cases ha13 id with ⟨hg15, hq16⟩ | ⟨o17, q18, ho19, hq20⟩
  ·
   exfalso; simp_all [halive]
  ·
   refine s_lt (Lt.to (v' := ptrV q18.1) (t_lookup 1 intOk Try.underlying73 (.pointer none) id) (by rw [hq20]; rfl)) ?_
   refine sp (pB q18.1 0) ?_
   refine s_nr ?_
   refine sp (.int .i64 id) ?_
   refine sp (pB q18.1 0) ?_
   refine s_fact (fun H h => (h.mp (i := 1) rfl).nodup) (fun hnd21 => ?_)
   obtain ⟨hz1, hz2, hz3⟩ := ob_bound hsm hn ho19
   refine s_mem (fun _ h => all_take hq20 ho19 (h.re [3] [])) ?_
   refine s_call [0] (obsize_s (q := q18) (o := o17) (by omega) (by omega) (by omega)) ?_
   rintro _ _ ⟨rfl, rfl⟩
   refine s_mem (fun _ h => all_back hnd21 hq20 ho19 h) ?_
   refine s_lt (t_kern (.agg #[.int .i64 id, .int .i64 (obSize o17), .int .i64 0, (.slice none 0 0), (.slice none 0 0)])) ?_
   refine s_alloc (.agg #[.int .i64 0, .int .i64 0, .int .i64 0, (.slice none 0 0), (.slice none 0 0)]) #[.int .i64 0, .int .i64 0, .int .i64 0, (.slice none 0 0), (.slice none 0 0)] (fun g22 => ?_)
   refine s_store 0 #[.int .i64 id, .int .i64 (obSize o17), .int .i64 0, (.slice none 0 0), (.slice none 0 0)] ?_
   refine s_nt ?_
   refine k_seq ?_
   refine k_seq ?_
   obtain ⟨hb1, hb2, hb3⟩ := ob_bound hsm hn ho19
   refine k_memX (fun H h => all_focus hq20 ho19 (h.re [1] [])) (fun v23 _ => ?_)
   refine k_held [blkA q18.1 #[.int .i64 o17.kind, .int .i64 o17.tag, .string o17.name, (tabV q18 o17), .int .i64 o17.mt.kind, .int .i64 o17.mt.p, .int .i64 o17.mt.q, .string o17.mt.str, .int .i64 o17.mt.ref, v23] 84, own VlT v23 o17.vals, blkA g22 #[.int .i64 id, .int .i64 (obSize o17), .int .i64 0, (.slice none 0 0), (.slice none 0 0)] 57, blkA b #[.map (some mb9), .int .i64 (st.objs.length : Int), .map (some tb10)] 76, mpA iK oV mb9 ps5, mpA iK bV tb10 tm11, blkA g1 #[.int .i64 0, .int .i64 0, .int .i64 0, (.slice none 0 0), (.slice none 0 0)] 57] ?_
   refine hp_ 0 [0, 0, 2, 2, 2, 2, 2] (pB q18.1 0) ?_
   refine hp_ 1 [0, 0, 2, 2, 2, 2, 2] (pB q18.1 0) ?_
   refine hp_ 2 [0, 0, 2, 2, 2, 2, 2] (pB q18.1 4) ?_
   refine h_l 3 rfl [0, 0, 2, 2, 2, 2, 2] (fun _ => (t_loadA 0 #[.int .i64 o17.mt.kind, .int .i64 o17.mt.p, .int .i64 o17.mt.q, .string o17.mt.str, .int .i64 o17.mt.ref])) ?_
   refine hp_ 5 [0, 0, 2, 2, 2, 2, 2] (pB q18.1 0) ?_
   refine hp_ 6 [0, 0, 2, 2, 2, 2, 2] (pB q18.1 0) ?_
   refine hp_ 7 [0, 0, 2, 2, 2, 2, 2] (pB q18.1 9) ?_
   refine h_l 8 rfl [0, 0, 2, 2, 2, 2, 2] (fun _ => (t_load 0 v23)) ?_
   refine hp_ 11 [0, 0, 2, 2, 2, 2, 2] (.int .i64 0) ?_
   refine h_stepS 4 ?_
   refine s_buildSlice (e := 26) [(0, .agg #[.int .i64 o17.mt.kind, .int .i64 o17.mt.p, .int .i64 o17.mt.q, .string o17.mt.str, .int .i64 o17.mt.ref])] #[.int .i64 o17.mt.kind, .int .i64 o17.mt.p, .int .i64 o17.mt.q, .string o17.mt.str, .int .i64 o17.mt.ref] (fun g24 => ?_) (hb := by kernel_rfl)
   refine s_nil (xs_held [1, 1, 3, 3, 3, 3, 3] ?_)
   refine h_stepS 9 ?_
   refine s_mem (fun _ h => Holds.slice 0 h VlT_ok [o17.mt]) ?_
   refine s_append (L := [o17.mt]) 0 VlT_ok Try.underlying22 (.own 2) (by show _ * 48 ≤ _; (try simp only [lnm]); omega) (by (try simp only [lnm]); omega) (fun v25 => ?_)
   refine s_nil (xs_held [1, 1, 3, 3, 3, 3, 3] ?_)
   refine h_stepS 10 ?_
   refine s_lt (t_len VlT_ok Try.underlying22 (.own 0)) ?_
   refine s_nil (xs_held [1, 1, 3, 3, 3, 3, 3] ?_)
   refine h_doneS ?_
   refine xs_then ?_
   refine k_block ?_
   refine k_fact (fun H h => (h.mp (i := 7) rfl).nodup) (fun hnd26 => ?_)
   refine k_mem (fun _ h => (put_same ho19) ▸ all_unfocus (o' := o17) hnd26 hq20 ho19 (ob_shut (o := o17) (h.re [1, 1, 1, 1] []))) ?_
   refine k_mem (Bs := allP ps5 st :: own VlT v25 ([o17.mt] ++ o17.vals) :: blkA g22 #[.int .i64 id, .int .i64 (obSize o17), .int .i64 0, (.slice none 0 0), (.slice none 0 0)] 57 :: blkA b #[.map (some mb9), .int .i64 (st.objs.length : Int), .map (some tb10)] 76 :: mpA iK oV mb9 ps5 :: mpA iK bV tb10 tm11 :: blkA g1 #[.int .i64 0, .int .i64 0, .int .i64 0, (.slice none 0 0), (.slice none 0 0)] 57 :: F) (fun _ h => h) ?_
   refine k_mem (fun _ h => hp_shut (st := st) (n := (st.objs.length : Int)) ⟨⟨hi12, ha13, ht14⟩, rfl⟩ (h.re [3, 3, 3, 0] [])) ?_
   refine k_mem (fun _ h => Holds.nilS (T := iTy) h) ?_
   refine k_mem (Bs := own iTy (.slice none 0 0) (refsL (o17.mt :: o17.vals) 0) :: hpP b st ps5 :: own VlT v25 (o17.mt :: o17.vals) :: blkA g22 #[.int .i64 id, .int .i64 (obSize o17), .int .i64 0, (.slice none 0 0), (.slice none 0 0)] 57 :: blkA g1 #[.int .i64 0, .int .i64 0, .int .i64 0, (.slice none 0 0), (.slice none 0 0)] 57 :: F) (fun _ h => h) ?_
   have hll : (o17.mt :: o17.vals).length = o17.vals.length + 1 := rfl
   refine k_loop (ι := Value × Nat) (fun (rx, i) => i ≤ (o17.mt :: o17.vals).length) (fun (rx, i) => [(2, .int .i64 weak), (6, pB g1 0), (8, pB q18.1 0), (9, pB g22 0), (36, v25), (37, .int .i64 ((o17.mt :: o17.vals).length : Int)), (38, .int .i64 (i : Int))]) (fun (rx, i) => own iTy rx (refsL (o17.mt :: o17.vals) i) :: hpP b st ps5 :: own VlT v25 (o17.mt :: o17.vals) :: blkA g22 #[.int .i64 id, .int .i64 (obSize o17), .int .i64 0, rx, (.slice none 0 0)] 57 :: blkA g1 #[.int .i64 0, .int .i64 0, .int .i64 0, (.slice none 0 0), (.slice none 0 0)] 57 :: F) (fun (rx, i) => (o17.mt :: o17.vals).length - i) ((.slice none 0 0), 0) (Nat.zero_le _) (sub_of rfl ⟨⟨rfl, rfl⟩, ⟨⟨rfl, rfl⟩, ⟨⟨rfl, rfl⟩, ⟨⟨rfl, rfl⟩, ⟨⟨rfl, rfl⟩, ⟨⟨rfl, congrArg (Value.int .i64) (by first | rfl | (simp only [lnm]; omega))⟩, ⟨⟨rfl, rfl⟩, trivial⟩⟩⟩⟩⟩⟩⟩) (fun _ h => h.re [0, 0, 0, 0, 0] []) ?_
   rintro ⟨rx, i⟩ hi27
   replace hi27 : i ≤ (o17.mt :: o17.vals).length := hi27
   show SK _ _ _ _ _ [(2, .int .i64 weak), (6, .pointer (some ⟨g1, 0, none⟩)), (8, .pointer (some ⟨q18.1, 0, none⟩)), (9, .pointer (some ⟨g22, 0, none⟩)), (36, v25), (37, .int .i64 ((o17.mt :: o17.vals).length : Int)), (38, .int .i64 (i : Int))] _ (own iTy rx (refsL (o17.mt :: o17.vals) i) :: hpP b st ps5 :: own VlT v25 (o17.mt :: o17.vals) :: blkA g22 #[.int .i64 id, .int .i64 (obSize o17), .int .i64 0, rx, (.slice none 0 0)] 57 :: blkA g1 #[.int .i64 0, .int .i64 0, .int .i64 0, (.slice none 0 0), (.slice none 0 0)] 57 :: F)
   have hrl := refsL_len (o17.mt :: o17.vals) i
   refine k_sr ?_
   refine s_lt t_cmp ?_
   refine s_nt ?_
   refine k_seq ?_
   refine k_cond (decide ((i : Int) < ((o17.mt :: o17.vals).length : Int))) (fun c28 => ?_) (fun c28 => ?_)
   ·
    have p29 := of_decide_eq_true c28
    refine k_st ?_
    refine k_seq ?_
    refine k_block ?_
    refine k_sr ?_
    refine s_lt (t_index VlT_ok Try.underlying22 (.own 2) (i : Int) i (by omega) (by (try simp only [lnm]); omega) (by omega)) ?_
    obtain ⟨y30, hy31⟩ : ∃ y, (o17.mt :: o17.vals)[i]? = some y := ⟨_, List.getElem?_eq_getElem (by (try simp only [lnm]); omega)⟩
    refine s_lt (t_loadE VlT_ok (.own 2) hy31) ?_
    refine s_alloc (.agg #[.int .i64 0, .int .i64 0, .int .i64 0, .string ByteArray.empty, .int .i64 0]) #[.int .i64 0, .int .i64 0, .int .i64 0, .string ByteArray.empty, .int .i64 0] (fun g32 => ?_)
    refine s_store 0 #[.int .i64 y30.kind, .int .i64 y30.p, .int .i64 y30.q, .string y30.str, .int .i64 y30.ref] ?_
    refine s_nr ?_
    refine s_lt (t_loadA 0 #[.int .i64 y30.kind, .int .i64 y30.p, .int .i64 y30.q, .string y30.str, .int .i64 y30.ref]) ?_
    refine s_vcall (fun _ h => ident_s y30) ?_
    rintro _ rfl
    refine s_lt t_cmp ?_
    refine s_nt ?_
    refine k_cond (decide ((idn y30) ≠ 0)) (fun c33 => ?_) (fun c33 => ?_)
    ·
     have p34 := of_decide_eq_true c33
     refine k_held [blkA g32 #[.int .i64 y30.kind, .int .i64 y30.p, .int .i64 y30.q, .string y30.str, .int .i64 y30.ref] 26, own VlT v25 (o17.mt :: o17.vals), blkA g1 #[.int .i64 0, .int .i64 0, .int .i64 0, (.slice none 0 0), (.slice none 0 0)] 57] ?_
     refine hp_ 0 [0, 2, 3] (pB g22 3) ?_
     refine h_l 2 rfl [0, 2, 3] (fun _ => (t_loadA 0 #[.int .i64 y30.kind, .int .i64 y30.p, .int .i64 y30.q, .string y30.str, .int .i64 y30.ref])) ?_
     refine h_stepS2 1 3 ?_ ?_
     ·
      refine s_lt (t_load 4 rx) ?_
      refine s_nil (xs_held [0, 2, 3] ?_)
      refine h_stepS 3 ?_
      refine s_vcall (fun _ h => ident_s y30) ?_
      rintro _ rfl
      refine s_nil (xs_held [0, 2, 3] ?_)
      refine h_stepS 4 ?_
      refine s_buildSlice (e := 3) [(0, .int .i64 (idn y30))] #[.int .i64 (idn y30)] (fun g35 => ?_) (hb := by kernel_rfl)
      refine s_nil (xs_held [1, 3, 4] ?_)
      refine h_stepS 5 ?_
      refine s_append (L := (refsL (o17.mt :: o17.vals) i)) 2 iTy_ok Try.underlying54 (.lit 0 iTy_ok [(idn y30)]) (by show _ * 8 ≤ _; (try simp only [lnm]); omega) (by (try simp only [lnm]); omega) (fun v36 => ?_)
      refine s_nil (xs_held [1, 3, 4] ?_)
      refine hp_ 6 [1, 3, 4] (pB g22 3) ?_
      refine h_stepS 7 ?_
      refine s_fact (fun H h => ((Acc.own (T := iTy) (L := ((refsL (o17.mt :: o17.vals) i) ++ [(idn y30)])) 2 rfl) H h).form) (fun hf37 => ?_)
      refine s_store (u := v36) (m := 1) 5 #[.int .i64 id, .int .i64 (obSize o17), .int .i64 0, v36, (.slice none 0 0)] ?_ (hm := by (obtain ⟨_, _, e⟩ := hf37; rw [e]; rfl)) (h1 := by (obtain ⟨_, _, e⟩ := hf37; rw [e]; rfl)) (ha' := by (obtain ⟨_, _, e⟩ := hf37; rw [e]; rfl))
      refine s_nil (xs_held [1, 3, 4] ?_)
      refine h_doneS ?_
      refine xs_block ?_
      refine xs_then ?_
      refine k_reg ?_
      refine s_lt (t_add (i : Int) 1 (by (try simp only [lnm]); omega)) ?_
      refine sp (.int .i64 ((i : Int) + 1)) ?_
      refine s_nil ?_
      have hst := refsL_step hy31
      rw [if_pos (of_decide_eq_true c33)] at hst
      rw [← hst]
      exact xs_round (v36, i + 1) (by show (o17.mt :: o17.vals).length - (i + 1) < (o17.mt :: o17.vals).length - i; omega) (by show i + 1 ≤ (o17.mt :: o17.vals).length; omega) (sub_of rfl ⟨⟨rfl, rfl⟩, ⟨⟨rfl, rfl⟩, ⟨⟨rfl, rfl⟩, ⟨⟨rfl, rfl⟩, ⟨⟨rfl, rfl⟩, ⟨⟨rfl, rfl⟩, ⟨⟨rfl, rfl⟩, trivial⟩⟩⟩⟩⟩⟩⟩) (fun _ h => h.re [2, 2, 2, 2, 2] [5, 5])
     ·
      refine s_vcall (fun _ h => ident_s y30) ?_
      rintro _ rfl
      refine s_nil (xs_held [0, 2, 3] ?_)
      refine h_stepS2 1 4 ?_ ?_
      ·
       refine s_lt (t_load 4 rx) ?_
       refine s_nil (xs_held [0, 2, 3] ?_)
       refine h_stepS 4 ?_
       refine s_buildSlice (e := 3) [(0, .int .i64 (idn y30))] #[.int .i64 (idn y30)] (fun g38 => ?_) (hb := by kernel_rfl)
       refine s_nil (xs_held [1, 3, 4] ?_)
       refine h_stepS 5 ?_
       refine s_append (L := (refsL (o17.mt :: o17.vals) i)) 2 iTy_ok Try.underlying54 (.lit 0 iTy_ok [(idn y30)]) (by show _ * 8 ≤ _; (try simp only [lnm]); omega) (by (try simp only [lnm]); omega) (fun v39 => ?_)
       refine s_nil (xs_held [1, 3, 4] ?_)
       refine hp_ 6 [1, 3, 4] (pB g22 3) ?_
       refine h_stepS 7 ?_
       refine s_fact (fun H h => ((Acc.own (T := iTy) (L := ((refsL (o17.mt :: o17.vals) i) ++ [(idn y30)])) 2 rfl) H h).form) (fun hf40 => ?_)
       refine s_store (u := v39) (m := 1) 5 #[.int .i64 id, .int .i64 (obSize o17), .int .i64 0, v39, (.slice none 0 0)] ?_ (hm := by (obtain ⟨_, _, e⟩ := hf40; rw [e]; rfl)) (h1 := by (obtain ⟨_, _, e⟩ := hf40; rw [e]; rfl)) (ha' := by (obtain ⟨_, _, e⟩ := hf40; rw [e]; rfl))
       refine s_nil (xs_held [1, 3, 4] ?_)
       refine h_doneS ?_
       refine xs_block ?_
       refine xs_then ?_
       refine k_reg ?_
       refine s_lt (t_add (i : Int) 1 (by (try simp only [lnm]); omega)) ?_
       refine sp (.int .i64 ((i : Int) + 1)) ?_
       refine s_nil ?_
       have hst := refsL_step hy31
       rw [if_pos (of_decide_eq_true c33)] at hst
       rw [← hst]
       exact xs_round (v39, i + 1) (by show (o17.mt :: o17.vals).length - (i + 1) < (o17.mt :: o17.vals).length - i; omega) (by show i + 1 ≤ (o17.mt :: o17.vals).length; omega) (sub_of rfl ⟨⟨rfl, rfl⟩, ⟨⟨rfl, rfl⟩, ⟨⟨rfl, rfl⟩, ⟨⟨rfl, rfl⟩, ⟨⟨rfl, rfl⟩, ⟨⟨rfl, rfl⟩, ⟨⟨rfl, rfl⟩, trivial⟩⟩⟩⟩⟩⟩⟩) (fun _ h => h.re [2, 2, 2, 2, 2] [5, 5])
      ·
       refine s_buildSlice (e := 3) [(0, .int .i64 (idn y30))] #[.int .i64 (idn y30)] (fun g41 => ?_) (hb := by kernel_rfl)
       refine s_nil (xs_held [1, 3, 4] ?_)
       refine h_stepS 1 ?_
       refine s_lt (t_load 5 rx) ?_
       refine s_nil (xs_held [1, 3, 4] ?_)
       refine h_stepS 5 ?_
       refine s_append (L := (refsL (o17.mt :: o17.vals) i)) 2 iTy_ok Try.underlying54 (.lit 0 iTy_ok [(idn y30)]) (by show _ * 8 ≤ _; (try simp only [lnm]); omega) (by (try simp only [lnm]); omega) (fun v42 => ?_)
       refine s_nil (xs_held [1, 3, 4] ?_)
       refine hp_ 6 [1, 3, 4] (pB g22 3) ?_
       refine h_stepS 7 ?_
       refine s_fact (fun H h => ((Acc.own (T := iTy) (L := ((refsL (o17.mt :: o17.vals) i) ++ [(idn y30)])) 2 rfl) H h).form) (fun hf43 => ?_)
       refine s_store (u := v42) (m := 1) 5 #[.int .i64 id, .int .i64 (obSize o17), .int .i64 0, v42, (.slice none 0 0)] ?_ (hm := by (obtain ⟨_, _, e⟩ := hf43; rw [e]; rfl)) (h1 := by (obtain ⟨_, _, e⟩ := hf43; rw [e]; rfl)) (ha' := by (obtain ⟨_, _, e⟩ := hf43; rw [e]; rfl))
       refine s_nil (xs_held [1, 3, 4] ?_)
       refine h_doneS ?_
       refine xs_block ?_
       refine xs_then ?_
       refine k_reg ?_
       refine s_lt (t_add (i : Int) 1 (by (try simp only [lnm]); omega)) ?_
       refine sp (.int .i64 ((i : Int) + 1)) ?_
       refine s_nil ?_
       have hst := refsL_step hy31
       rw [if_pos (of_decide_eq_true c33)] at hst
       rw [← hst]
       exact xs_round (v42, i + 1) (by show (o17.mt :: o17.vals).length - (i + 1) < (o17.mt :: o17.vals).length - i; omega) (by show i + 1 ≤ (o17.mt :: o17.vals).length; omega) (sub_of rfl ⟨⟨rfl, rfl⟩, ⟨⟨rfl, rfl⟩, ⟨⟨rfl, rfl⟩, ⟨⟨rfl, rfl⟩, ⟨⟨rfl, rfl⟩, ⟨⟨rfl, rfl⟩, ⟨⟨rfl, rfl⟩, trivial⟩⟩⟩⟩⟩⟩⟩) (fun _ h => h.re [2, 2, 2, 2, 2] [5, 5])
    ·
     have p44 := Decidable.not_not.1 (of_decide_eq_false c33)
     refine k_skip ?_
     refine xs_block ?_
     refine xs_then ?_
     refine k_reg ?_
     refine s_lt (t_add (i : Int) 1 (by (try simp only [lnm]); omega)) ?_
     refine sp (.int .i64 ((i : Int) + 1)) ?_
     refine s_nil ?_
     have hst := refsL_step hy31
     rw [if_neg (of_decide_eq_false c33)] at hst
     rw [← hst]
     exact xs_round (rx, i + 1) (by show (o17.mt :: o17.vals).length - (i + 1) < (o17.mt :: o17.vals).length - i; omega) (by show i + 1 ≤ (o17.mt :: o17.vals).length; omega) (sub_of rfl ⟨⟨rfl, rfl⟩, ⟨⟨rfl, rfl⟩, ⟨⟨rfl, rfl⟩, ⟨⟨rfl, rfl⟩, ⟨⟨rfl, rfl⟩, ⟨⟨rfl, rfl⟩, ⟨⟨rfl, rfl⟩, trivial⟩⟩⟩⟩⟩⟩⟩) (fun _ h => h.re [1, 1, 1, 1, 1] [5])
   ·
    have p45 := of_decide_eq_false c28
    refine k_exit ?_
    refine xs_exit ?_
    refine xs_exit ?_
    refine xs_here ?_
    refine xs_then ?_
    refine k_seq ?_
    refine k_sr ?_
    refine sp (pB q18.1 0) ?_
    refine sp (pB q18.1 0) ?_
    refine sp (pB q18.1 0) ?_
    refine s_mem3 (fun H h => hp_open (h.re [1] [])) (fun mb46 tb47 tm48 hw => ?_)
    obtain ⟨hi49, ha50, ht51⟩ := hw
    refine s_memX (fun H h => all_focus hq20 ho19 (h.re [3] [])) (fun v52 _ => ?_)
    refine s_lt (t_load 0 (.int .i64 o17.kind)) ?_
    refine s_lt t_cmp ?_
    refine s_nt ?_
    refine k_cond (decide (o17.kind = 4)) (fun c53 => ?_) (fun c53 => ?_)
    ·
     have p54 := of_decide_eq_true c53
     refine k_seq ?_
     refine k_cut (ι := Unit) (fun _ => True) (fun _ => [(2, .int .i64 weak), (6, pB g1 0), (8, pB q18.1 0), (9, pB g22 0), (63, .bool ((decide ((0 : Int) ≤ weak)) && (decide (weak ≤ 3))))]) (fun _ => blkA q18.1 #[.int .i64 o17.kind, .int .i64 o17.tag, .string o17.name, (tabV q18 o17), .int .i64 o17.mt.kind, .int .i64 o17.mt.p, .int .i64 o17.mt.q, .string o17.mt.str, .int .i64 o17.mt.ref, v52] 84 :: own VlT v52 o17.vals :: tabO q18 o17 :: holeP ps5 st id :: blkA b #[.map (some mb46), .int .i64 (st.objs.length : Int), .map (some tb47)] 76 :: mpA iK oV mb46 ps5 :: mpA iK bV tb47 tm48 :: own iTy rx (refsL (o17.mt :: o17.vals) i) :: own VlT v25 (o17.mt :: o17.vals) :: blkA g22 #[.int .i64 id, .int .i64 (obSize o17), .int .i64 0, rx, (.slice none 0 0)] 57 :: blkA g1 #[.int .i64 0, .int .i64 0, .int .i64 0, (.slice none 0 0), (.slice none 0 0)] 57 :: F) ?_ (fun _ _ => ?_)
     ·
      refine k_reg ?_
      refine sp (.int .i64 weak) ?_
      refine s_lt t_cmp ?_
      refine sp (.bool (decide ((0 : Int) ≤ weak))) ?_
      refine s_fork 60 (decide ((0 : Int) ≤ weak)) (fun c55 => ?_) (fun c55 => ?_)
      ·
       have p56 := of_decide_eq_true c55
       refine sp (.int .i64 weak) ?_
       refine s_lt t_cmp ?_
       refine sp (.bool (decide (weak ≤ 3))) ?_
       refine s_nil ?_
       exact xs_cut () trivial (sub_of rfl ⟨⟨rfl, rfl⟩, ⟨⟨rfl, rfl⟩, ⟨⟨rfl, rfl⟩, ⟨⟨rfl, rfl⟩, ⟨⟨rfl, show Value.bool (decide (weak ≤ 3)) = Value.bool ((decide ((0 : Int) ≤ weak)) && (decide (weak ≤ 3))) by first | (simp only [c55, bls]; done) | simp [c55]⟩, trivial⟩⟩⟩⟩⟩) (fun _ h => h.re [0, 0, 0, 0, 0, 0, 0, 0, 0, 0, 0] [])
      ·
       have p57 := of_decide_eq_false c55
       refine s_skip ?_
       refine s_skip ?_
       refine sp (.bool false) ?_
       refine s_nil ?_
       exact xs_cut () trivial (sub_of rfl ⟨⟨rfl, rfl⟩, ⟨⟨rfl, rfl⟩, ⟨⟨rfl, rfl⟩, ⟨⟨rfl, rfl⟩, ⟨⟨rfl, show Value.bool false = Value.bool ((decide ((0 : Int) ≤ weak)) && (decide (weak ≤ 3))) by first | (simp only [c55, bls]; done) | simp [c55]⟩, trivial⟩⟩⟩⟩⟩) (fun _ h => h.re [0, 0, 0, 0, 0, 0, 0, 0, 0, 0, 0] [])
     ·
      refine k_cond ((decide ((0 : Int) ≤ weak)) && (decide (weak ≤ 3))) (fun c58 => ?_) (fun c58 => ?_)
      ·
       obtain ⟨c59, c60⟩ := and_t c58
       have p61 := of_decide_eq_true c59
       have p62 := of_decide_eq_true c60
       refine k_reg ?_
       refine sp (.int .i64 weak) ?_
       refine sp (pB g22 2) ?_
       refine s_store 9 #[.int .i64 id, .int .i64 (obSize o17), .int .i64 weak, rx, (.slice none 0 0)] ?_
       refine s_nt ?_
       refine k_reg ?_
       refine sp (pB q18.1 0) ?_
       refine sp (pB q18.1 0) ?_
       refine sp (pB q18.1 3) ?_
       refine s_lt (Lt.to (v' := ptrV q18.2) (t_load 0 (tabV q18 o17)) (by unfold tabV; rw [if_pos (of_decide_eq_true c53)])) ?_
       refine s_mem (fun _ h => tabO_open (of_decide_eq_true c53) (h.re [2] [])) ?_
       refine s_call [0] (entries_s (L := o17.tab.list) (S := o17.tab.rest) (hi49.obs o17 (get_mem ho19).1).tab (hw.of ho19).tw (by (try simp only [lnm]); omega) (by (try simp only [lnm]); omega)) ?_
       rintro v63 _ rfl
       refine s_fact (fun H h => ((Acc.own (T := EntT) (L := (entsOf ⟨o17.tab.list, o17.tab.rest⟩)) 0 rfl) H h).form) (fun hf64 => ?_)
       refine sp (pB g22 4) ?_
       refine s_store (u := v63) (m := 1) 10 #[.int .i64 id, .int .i64 (obSize o17), .int .i64 weak, rx, v63] ?_ (hm := by (obtain ⟨_, _, e⟩ := hf64; rw [e]; rfl)) (h1 := by (obtain ⟨_, _, e⟩ := hf64; rw [e]; rfl)) (ha' := by (obtain ⟨_, _, e⟩ := hf64; rw [e]; rfl))
       refine s_nr ?_
       refine s_lt (t_loadA 10 #[.int .i64 id, .int .i64 (obSize o17), .int .i64 weak, rx, v63]) ?_
       refine s_fact (fun H h => ((Acc.own (T := iTy) (L := (refsL (o17.mt :: o17.vals) i)) 8 rfl) H h).form) (fun hf65 => ?_)
       refine s_store (u := .agg #[.int .i64 id, .int .i64 (obSize o17), .int .i64 weak, rx, v63]) (m := 5) 11 #[.int .i64 id, .int .i64 (obSize o17), .int .i64 weak, rx, v63] ?_ (hm := by (obtain ⟨_, _, e⟩ := hf65; rw [e]; obtain ⟨_, _, e⟩ := hf64; rw [e]; rfl)) (h1 := by (obtain ⟨_, _, e⟩ := hf65; rw [e]; obtain ⟨_, _, e⟩ := hf64; rw [e]; rfl)) (ha' := by (obtain ⟨_, _, e⟩ := hf65; rw [e]; obtain ⟨_, _, e⟩ := hf64; rw [e]; rfl))
       refine sp (.bool true) ?_
       refine s_nt ?_
       refine k_ret ?_
       refine xs_mem (fun _ h => tabO_shut (T := o17.tab) (of_decide_eq_true c53) (h.re [1] [])) ?_
       refine xs_mem (Bs := tabO q18 o17 :: own EntT v63 (entsOf ⟨o17.tab.list, o17.tab.rest⟩) :: blkA q18.1 #[.int .i64 o17.kind, .int .i64 o17.tag, .string o17.name, (tabV q18 o17), .int .i64 o17.mt.kind, .int .i64 o17.mt.p, .int .i64 o17.mt.q, .string o17.mt.str, .int .i64 o17.mt.ref, v52] 84 :: own VlT v52 o17.vals :: holeP ps5 st id :: blkA b #[.map (some mb46), .int .i64 (st.objs.length : Int), .map (some tb47)] 76 :: mpA iK oV mb46 ps5 :: mpA iK bV tb47 tm48 :: own iTy rx (refsL (o17.mt :: o17.vals) i) :: own VlT v25 (o17.mt :: o17.vals) :: blkA g22 #[.int .i64 id, .int .i64 (obSize o17), .int .i64 weak, rx, v63] 57 :: blkA g1 #[.int .i64 id, .int .i64 (obSize o17), .int .i64 weak, rx, v63] 57 :: F) (fun _ h => h) ?_
       refine xs_fact (fun H h => (h.mp (i := 6) rfl).nodup) (fun hnd66 => ?_)
       refine xs_mem (fun _ h => (put_same ho19) ▸ all_unfocus (o' := o17) hnd66 hq20 ho19 (ob_shut (o := o17) (h.re [2, 2, 0, 1] []))) ?_
       refine xs_mem (Bs := allP ps5 st :: own EntT v63 (entsOf ⟨o17.tab.list, o17.tab.rest⟩) :: blkA b #[.map (some mb46), .int .i64 (st.objs.length : Int), .map (some tb47)] 76 :: mpA iK oV mb46 ps5 :: mpA iK bV tb47 tm48 :: own iTy rx (refsL (o17.mt :: o17.vals) i) :: own VlT v25 (o17.mt :: o17.vals) :: blkA g22 #[.int .i64 id, .int .i64 (obSize o17), .int .i64 weak, rx, v63] 57 :: blkA g1 #[.int .i64 id, .int .i64 (obSize o17), .int .i64 weak, rx, v63] 57 :: F) (fun _ h => h) ?_
       refine xs_mem (fun _ h => hp_shut (st := st) (n := (st.objs.length : Int)) ⟨⟨hi49, ha50, ht51⟩, rfl⟩ (h.re [2, 2, 2, 0] [])) ?_
       refine xs_mem (fun _ h => hpA_shut (h.re [0] [])) ?_
       have hend : refsL (o17.mt :: o17.vals) i = refsOf o17 := refsL_end (by omega)
       have hob := obj_some ho19 weak
       have hwk : hweak o17 weak = weak := by unfold hweak; rw [if_pos ⟨(of_decide_eq_true c53), by omega, by omega⟩]
       have hen : hents st id = entsOf o17.tab := by rw [hob.2.2.2.2.2]; exact if_pos (of_decide_eq_true c53)
       exact xs_fin [.agg #[.int .i64 id, .int .i64 (obSize o17), .int .i64 weak, rx, v63], .bool true] (own iTy rx (refsL (o17.mt :: o17.vals) i) :: own EntT v63 (entsOf o17.tab) :: hpA b st :: F) (SI.agg 6 57 5 (SI.tmp 7 SI.nil)) (fun _ h => h.re [2, 1, 0] [3, 3, 3]) ⟨rx, v63, by rw [hob.1, hob.2.1, hob.2.2.1, hob.2.2.2.1, hwk]; rfl, by rw [hen, hob.2.2.2.2.1, hend]⟩
      ·
       have p67 := c58
       simp only [Bool.and_eq_true, Bool.or_eq_true, Bool.and_eq_false_iff, Bool.or_eq_false_iff, Bool.not_eq_true', Bool.not_eq_false', decide_eq_true_eq, decide_eq_false_iff_not] at p67
       refine k_st ?_
       refine k_reg ?_
       refine sp (pB q18.1 0) ?_
       refine sp (pB q18.1 0) ?_
       refine sp (pB q18.1 3) ?_
       refine s_lt (Lt.to (v' := ptrV q18.2) (t_load 0 (tabV q18 o17)) (by unfold tabV; rw [if_pos (of_decide_eq_true c53)])) ?_
       refine s_mem (fun _ h => tabO_open (of_decide_eq_true c53) (h.re [2] [])) ?_
       refine s_call [0] (entries_s (L := o17.tab.list) (S := o17.tab.rest) (hi49.obs o17 (get_mem ho19).1).tab (hw.of ho19).tw (by (try simp only [lnm]); omega) (by (try simp only [lnm]); omega)) ?_
       rintro v68 _ rfl
       refine s_fact (fun H h => ((Acc.own (T := EntT) (L := (entsOf ⟨o17.tab.list, o17.tab.rest⟩)) 0 rfl) H h).form) (fun hf69 => ?_)
       refine sp (pB g22 4) ?_
       refine s_store (u := v68) (m := 1) 10 #[.int .i64 id, .int .i64 (obSize o17), .int .i64 0, rx, v68] ?_ (hm := by (obtain ⟨_, _, e⟩ := hf69; rw [e]; rfl)) (h1 := by (obtain ⟨_, _, e⟩ := hf69; rw [e]; rfl)) (ha' := by (obtain ⟨_, _, e⟩ := hf69; rw [e]; rfl))
       refine s_nr ?_
       refine s_lt (t_loadA 10 #[.int .i64 id, .int .i64 (obSize o17), .int .i64 0, rx, v68]) ?_
       refine s_fact (fun H h => ((Acc.own (T := iTy) (L := (refsL (o17.mt :: o17.vals) i)) 8 rfl) H h).form) (fun hf70 => ?_)
       refine s_store (u := .agg #[.int .i64 id, .int .i64 (obSize o17), .int .i64 0, rx, v68]) (m := 5) 11 #[.int .i64 id, .int .i64 (obSize o17), .int .i64 0, rx, v68] ?_ (hm := by (obtain ⟨_, _, e⟩ := hf70; rw [e]; obtain ⟨_, _, e⟩ := hf69; rw [e]; rfl)) (h1 := by (obtain ⟨_, _, e⟩ := hf70; rw [e]; obtain ⟨_, _, e⟩ := hf69; rw [e]; rfl)) (ha' := by (obtain ⟨_, _, e⟩ := hf70; rw [e]; obtain ⟨_, _, e⟩ := hf69; rw [e]; rfl))
       refine sp (.bool true) ?_
       refine s_nt ?_
       refine k_ret ?_
       refine xs_mem (fun _ h => tabO_shut (T := o17.tab) (of_decide_eq_true c53) (h.re [1] [])) ?_
       refine xs_mem (Bs := tabO q18 o17 :: own EntT v68 (entsOf ⟨o17.tab.list, o17.tab.rest⟩) :: blkA q18.1 #[.int .i64 o17.kind, .int .i64 o17.tag, .string o17.name, (tabV q18 o17), .int .i64 o17.mt.kind, .int .i64 o17.mt.p, .int .i64 o17.mt.q, .string o17.mt.str, .int .i64 o17.mt.ref, v52] 84 :: own VlT v52 o17.vals :: holeP ps5 st id :: blkA b #[.map (some mb46), .int .i64 (st.objs.length : Int), .map (some tb47)] 76 :: mpA iK oV mb46 ps5 :: mpA iK bV tb47 tm48 :: own iTy rx (refsL (o17.mt :: o17.vals) i) :: own VlT v25 (o17.mt :: o17.vals) :: blkA g22 #[.int .i64 id, .int .i64 (obSize o17), .int .i64 0, rx, v68] 57 :: blkA g1 #[.int .i64 id, .int .i64 (obSize o17), .int .i64 0, rx, v68] 57 :: F) (fun _ h => h) ?_
       refine xs_fact (fun H h => (h.mp (i := 6) rfl).nodup) (fun hnd71 => ?_)
       refine xs_mem (fun _ h => (put_same ho19) ▸ all_unfocus (o' := o17) hnd71 hq20 ho19 (ob_shut (o := o17) (h.re [2, 2, 0, 1] []))) ?_
       refine xs_mem (Bs := allP ps5 st :: own EntT v68 (entsOf ⟨o17.tab.list, o17.tab.rest⟩) :: blkA b #[.map (some mb46), .int .i64 (st.objs.length : Int), .map (some tb47)] 76 :: mpA iK oV mb46 ps5 :: mpA iK bV tb47 tm48 :: own iTy rx (refsL (o17.mt :: o17.vals) i) :: own VlT v25 (o17.mt :: o17.vals) :: blkA g22 #[.int .i64 id, .int .i64 (obSize o17), .int .i64 0, rx, v68] 57 :: blkA g1 #[.int .i64 id, .int .i64 (obSize o17), .int .i64 0, rx, v68] 57 :: F) (fun _ h => h) ?_
       refine xs_mem (fun _ h => hp_shut (st := st) (n := (st.objs.length : Int)) ⟨⟨hi49, ha50, ht51⟩, rfl⟩ (h.re [2, 2, 2, 0] [])) ?_
       refine xs_mem (fun _ h => hpA_shut (h.re [0] [])) ?_
       have hend : refsL (o17.mt :: o17.vals) i = refsOf o17 := refsL_end (by omega)
       have hob := obj_some ho19 weak
       have hwk : hweak o17 weak = 0 := by unfold hweak; rw [if_neg]; rintro ⟨h1, h2, h3⟩; omega
       have hen : hents st id = entsOf o17.tab := by rw [hob.2.2.2.2.2]; exact if_pos (of_decide_eq_true c53)
       exact xs_fin [.agg #[.int .i64 id, .int .i64 (obSize o17), .int .i64 0, rx, v68], .bool true] (own iTy rx (refsL (o17.mt :: o17.vals) i) :: own EntT v68 (entsOf o17.tab) :: hpA b st :: F) (SI.agg 6 57 5 (SI.tmp 7 SI.nil)) (fun _ h => h.re [2, 1, 0] [3, 3, 3]) ⟨rx, v68, by rw [hob.1, hob.2.1, hob.2.2.1, hob.2.2.2.1, hwk]; rfl, by rw [hen, hob.2.2.2.2.1, hend]⟩
    ·
     have p72 := of_decide_eq_false c53
     refine k_st ?_
     refine k_sr ?_
     refine s_lt (t_loadA 9 #[.int .i64 id, .int .i64 (obSize o17), .int .i64 0, rx, (.slice none 0 0)]) ?_
     refine s_fact (fun H h => ((Acc.own (T := iTy) (L := (refsL (o17.mt :: o17.vals) i)) 7 rfl) H h).form) (fun hf73 => ?_)
     refine s_store (u := .agg #[.int .i64 id, .int .i64 (obSize o17), .int .i64 0, rx, (.slice none 0 0)]) (m := 5) 10 #[.int .i64 id, .int .i64 (obSize o17), .int .i64 0, rx, (.slice none 0 0)] ?_ (hm := by (obtain ⟨_, _, e⟩ := hf73; rw [e]; rfl)) (h1 := by (obtain ⟨_, _, e⟩ := hf73; rw [e]; rfl)) (ha' := by (obtain ⟨_, _, e⟩ := hf73; rw [e]; rfl))
     refine sp (.bool true) ?_
     refine s_nt ?_
     refine k_ret ?_
     refine xs_fact (fun H h => (h.mp (i := 5) rfl).nodup) (fun hnd74 => ?_)
     refine xs_mem (fun _ h => (put_same ho19) ▸ all_unfocus (o' := o17) hnd74 hq20 ho19 (ob_shut (o := o17) (h.re [0, 0, 0, 0] []))) ?_
     refine xs_mem (Bs := allP ps5 st :: blkA b #[.map (some mb46), .int .i64 (st.objs.length : Int), .map (some tb47)] 76 :: mpA iK oV mb46 ps5 :: mpA iK bV tb47 tm48 :: own iTy rx (refsL (o17.mt :: o17.vals) i) :: own VlT v25 (o17.mt :: o17.vals) :: blkA g22 #[.int .i64 id, .int .i64 (obSize o17), .int .i64 0, rx, (.slice none 0 0)] 57 :: blkA g1 #[.int .i64 id, .int .i64 (obSize o17), .int .i64 0, rx, (.slice none 0 0)] 57 :: F) (fun _ h => h) ?_
     refine xs_mem (fun _ h => hp_shut (st := st) (n := (st.objs.length : Int)) ⟨⟨hi49, ha50, ht51⟩, rfl⟩ (h.re [1, 1, 1, 0] [])) ?_
     refine xs_mem (fun _ h => Holds.nilS (T := EntT) h) ?_
     refine xs_mem (fun _ h => hpA_shut (h.re [1] [])) ?_
     have hend : refsL (o17.mt :: o17.vals) i = refsOf o17 := refsL_end (by omega)
     have hob := obj_some ho19 weak
     have hwk : hweak o17 weak = 0 := by unfold hweak; rw [if_neg]; rintro ⟨h1, h2, h3⟩; exact absurd h1 (of_decide_eq_false c53)
     have hen : hents st id = [] := by rw [hob.2.2.2.2.2]; exact if_neg (of_decide_eq_false c53)
     exact xs_fin [.agg #[.int .i64 id, .int .i64 (obSize o17), .int .i64 0, rx, (.slice none 0 0)], .bool true] (own iTy rx (refsL (o17.mt :: o17.vals) i) :: own EntT (.slice none 0 0) [] :: hpA b st :: F) (SI.agg 6 57 5 (SI.tmp 7 SI.nil)) (fun _ h => h.re [2, 1, 0] [3, 3, 3]) ⟨rx, (.slice none 0 0), by rw [hob.1, hob.2.1, hob.2.2.1, hob.2.2.2.1, hwk]; rfl, by rw [hen, hob.2.2.2.2.1, hend]⟩
end Go.Proofs.Ytmilekfknhglkaa
end
section
set_option linter.unusedSimpArgs false
set_option linter.unusedVariables false
namespace Go.Proofs.Ytmilekfknhglkaa
structure Sv where
  p : Option Addr
  len : Nat
  cap : Nat
abbrev Sv.v (s : Sv) : Value := .slice s.p s.len s.cap
/-- A call: its cells, and what its list holds. -/
structure Cl where
  kind : Int
  a : Vl
  b : Vl
  c : Vl
  n : Int
  s : ByteArray
  lv : Sv
  l : List Vl
structure Rs where
  v : Vl
  w : Vl
  n : Int
  s : ByteArray
  ok : Bool
  e : Int
  deriving DecidableEq
def hcall (st : Hst) (c : Cl) : Hst :=
  if c.kind = 0 then hmake st (newO 4 0 ByteArray.empty []) else
  if c.kind = 1 then hmake st (newO 5 c.n ByteArray.empty []) else
  if c.kind = 2 then hmake st (newO 7 c.n ByteArray.empty []) else
  if c.kind = 3 then hdata st c.s else
  if c.kind = 4 then st else
  if c.kind = 5 then hset st c.a c.b c.c else
  if c.kind = 6 then st else
  if c.kind = 7 then st else
  if c.kind = 8 then hins st c.a c.n c.c else
  if c.kind = 9 then hrem st c.a c.n else
  if c.kind = 10 then hsetMeta st c.a c.b else
  if c.kind = 11 then st else
  if c.kind = 12 then hsetSlot st c.a c.n c.c else
  if c.kind = 13 then hsetRefs st c.a c.l else
  if c.kind = 14 then hdrop st c.n else
  if c.kind = 15 then st else
  if c.kind = 16 then st else
  if c.kind = 17 then st else
  st
def hres (st : Hst) (c : Cl) : Rs :=
  if c.kind = 0 then ⟨hmakeV st 4, zVl, 0, ByteArray.empty, false, hmakeE st⟩ else
  if c.kind = 1 then ⟨hmakeV st 5, zVl, 0, ByteArray.empty, false, hmakeE st⟩ else
  if c.kind = 2 then ⟨hmakeV st 7, zVl, 0, ByteArray.empty, false, hmakeE st⟩ else
  if c.kind = 3 then ⟨hdataV st c.s, zVl, 0, ByteArray.empty, false, hdataE st c.s⟩ else
  if c.kind = 4 then ⟨hgetV st c.a c.b, zVl, 0, ByteArray.empty, false, hgetE st c.a⟩ else
  if c.kind = 5 then ⟨zVl, zVl, 0, ByteArray.empty, false, hsetE st c.a c.b c.c⟩ else
  if c.kind = 6 then ⟨zVl, zVl, hlenV st c.a, ByteArray.empty, false, hgetE st c.a⟩ else
  if c.kind = 7 then ⟨(hnext st c.a c.b).1, (hnext st c.a c.b).2.1, 0, ByteArray.empty, (hnext st c.a c.b).2.2.1, (hnext st c.a c.b).2.2.2⟩ else
  if c.kind = 8 then ⟨zVl, zVl, 0, ByteArray.empty, false, hinsE st c.a c.n c.c⟩ else
  if c.kind = 9 then ⟨hremV st c.a c.n, zVl, 0, ByteArray.empty, false, hremE st c.a c.n⟩ else
  if c.kind = 10 then ⟨zVl, zVl, 0, ByteArray.empty, false, hsetMetaE st c.a c.b⟩ else
  if c.kind = 11 then ⟨hslotV st c.a c.n, zVl, 0, ByteArray.empty, false, hslotE st c.a c.n⟩ else
  if c.kind = 12 then ⟨zVl, zVl, 0, ByteArray.empty, false, hsetSlotE st c.a c.n c.c⟩ else
  if c.kind = 13 then ⟨zVl, zVl, 0, ByteArray.empty, false, hsetRefsE st c.a c.l⟩ else
  if c.kind = 14 then ⟨zVl, zVl, 0, ByteArray.empty, false, hdropE st c.n⟩ else
  if c.kind = 15 then ⟨zVl, zVl, (htagV st c.a).1, ByteArray.empty, (htagV st c.a).2, 0⟩ else
  if c.kind = 16 then ⟨zVl, zVl, 0, (hnameV st c.a).1, (hnameV st c.a).2, 0⟩ else
  if c.kind = 17 then ⟨hmeta st c.a, zVl, 0, ByteArray.empty, false, 0⟩ else
  ⟨zVl, zVl, 0, ByteArray.empty, halive st c.n, 0⟩
section
variable {st : Hst} {c : Cl} {n : Nat}
theorem hdata_cases (st : Hst) (name : ByteArray) : (40 < (name.size : Int) ∧ hdata st name = st ∧ hdataE st name = 14 ∧ hdataV st name = zVl) ∨ (¬ 40 < (name.size : Int) ∧ hdata st name = hmake st (newO 8 0 name (List.replicate 16 zVl)) ∧ hdataE st name = hmakeE st ∧ hdataV st name = hmakeV st 8) := by
  unfold hdata hdataE hdataV
  by_cases h : 40 < (name.size : Int)
  · exact .inl ⟨h, if_pos h, if_pos h, if_pos h⟩
  · exact .inr ⟨h, if_neg h, if_neg h, if_neg h⟩
theorem hdata_inv' (h : HInv st) (name : ByteArray) : HInv (hdata st name) := by
  rcases hdata_cases st name with ⟨_, e, _⟩ | ⟨_, e, _⟩ <;> rw [e]
  · exact h
  · exact hmake_inv h (newO_inv _ _ _ (by decide))
theorem hdata_sm' (h : HSm n st) (name : ByteArray) : HSm (n + 1) (hdata st name) := by
  rcases hdata_cases st name with ⟨_, e, _⟩ | ⟨_, e, _⟩ <;> rw [e]
  · exact h.mono (by omega)
  · exact hmake_sm h rfl (by simp [newO])
theorem hdata_w (h : HW st) (name : ByteArray) : HW (hdata st name) := by
  rcases hdata_cases st name with ⟨_, e, _⟩ | ⟨_, e, _⟩ <;> rw [e]
  · exact h
  · exact h.make (data_w name)
theorem hcall_0 (h : c.kind = 0) : hcall st c = hmake st (newO 4 0 ByteArray.empty []) := by unfold hcall; rw [if_pos h]
theorem hres_0 (h : c.kind = 0) : hres st c = ⟨hmakeV st 4, zVl, 0, ByteArray.empty, false, hmakeE st⟩ := by unfold hres; rw [if_pos h]
theorem hcall_1 (h : c.kind = 1) : hcall st c = hmake st (newO 5 c.n ByteArray.empty []) := by unfold hcall; rw [if_neg (by omega), if_pos h]
theorem hres_1 (h : c.kind = 1) : hres st c = ⟨hmakeV st 5, zVl, 0, ByteArray.empty, false, hmakeE st⟩ := by unfold hres; rw [if_neg (by omega), if_pos h]
theorem hcall_2 (h : c.kind = 2) : hcall st c = hmake st (newO 7 c.n ByteArray.empty []) := by unfold hcall; rw [if_neg (by omega), if_neg (by omega), if_pos h]
theorem hres_2 (h : c.kind = 2) : hres st c = ⟨hmakeV st 7, zVl, 0, ByteArray.empty, false, hmakeE st⟩ := by unfold hres; rw [if_neg (by omega), if_neg (by omega), if_pos h]
theorem hcall_3 (h : c.kind = 3) : hcall st c = hdata st c.s := by unfold hcall; rw [if_neg (by omega), if_neg (by omega), if_neg (by omega), if_pos h]
theorem hres_3 (h : c.kind = 3) : hres st c = ⟨hdataV st c.s, zVl, 0, ByteArray.empty, false, hdataE st c.s⟩ := by unfold hres; rw [if_neg (by omega), if_neg (by omega), if_neg (by omega), if_pos h]
theorem hcall_4 (h : c.kind = 4) : hcall st c = st := by unfold hcall; rw [if_neg (by omega), if_neg (by omega), if_neg (by omega), if_neg (by omega), if_pos h]
theorem hres_4 (h : c.kind = 4) : hres st c = ⟨hgetV st c.a c.b, zVl, 0, ByteArray.empty, false, hgetE st c.a⟩ := by unfold hres; rw [if_neg (by omega), if_neg (by omega), if_neg (by omega), if_neg (by omega), if_pos h]
theorem hcall_5 (h : c.kind = 5) : hcall st c = hset st c.a c.b c.c := by unfold hcall; rw [if_neg (by omega), if_neg (by omega), if_neg (by omega), if_neg (by omega), if_neg (by omega), if_pos h]
theorem hres_5 (h : c.kind = 5) : hres st c = ⟨zVl, zVl, 0, ByteArray.empty, false, hsetE st c.a c.b c.c⟩ := by unfold hres; rw [if_neg (by omega), if_neg (by omega), if_neg (by omega), if_neg (by omega), if_neg (by omega), if_pos h]
theorem hcall_6 (h : c.kind = 6) : hcall st c = st := by unfold hcall; rw [if_neg (by omega), if_neg (by omega), if_neg (by omega), if_neg (by omega), if_neg (by omega), if_neg (by omega), if_pos h]
theorem hres_6 (h : c.kind = 6) : hres st c = ⟨zVl, zVl, hlenV st c.a, ByteArray.empty, false, hgetE st c.a⟩ := by unfold hres; rw [if_neg (by omega), if_neg (by omega), if_neg (by omega), if_neg (by omega), if_neg (by omega), if_neg (by omega), if_pos h]
theorem hcall_7 (h : c.kind = 7) : hcall st c = st := by unfold hcall; rw [if_neg (by omega), if_neg (by omega), if_neg (by omega), if_neg (by omega), if_neg (by omega), if_neg (by omega), if_neg (by omega), if_pos h]
theorem hres_7 (h : c.kind = 7) : hres st c = ⟨(hnext st c.a c.b).1, (hnext st c.a c.b).2.1, 0, ByteArray.empty, (hnext st c.a c.b).2.2.1, (hnext st c.a c.b).2.2.2⟩ := by unfold hres; rw [if_neg (by omega), if_neg (by omega), if_neg (by omega), if_neg (by omega), if_neg (by omega), if_neg (by omega), if_neg (by omega), if_pos h]
theorem hcall_8 (h : c.kind = 8) : hcall st c = hins st c.a c.n c.c := by unfold hcall; rw [if_neg (by omega), if_neg (by omega), if_neg (by omega), if_neg (by omega), if_neg (by omega), if_neg (by omega), if_neg (by omega), if_neg (by omega), if_pos h]
theorem hres_8 (h : c.kind = 8) : hres st c = ⟨zVl, zVl, 0, ByteArray.empty, false, hinsE st c.a c.n c.c⟩ := by unfold hres; rw [if_neg (by omega), if_neg (by omega), if_neg (by omega), if_neg (by omega), if_neg (by omega), if_neg (by omega), if_neg (by omega), if_neg (by omega), if_pos h]
theorem hcall_9 (h : c.kind = 9) : hcall st c = hrem st c.a c.n := by unfold hcall; rw [if_neg (by omega), if_neg (by omega), if_neg (by omega), if_neg (by omega), if_neg (by omega), if_neg (by omega), if_neg (by omega), if_neg (by omega), if_neg (by omega), if_pos h]
theorem hres_9 (h : c.kind = 9) : hres st c = ⟨hremV st c.a c.n, zVl, 0, ByteArray.empty, false, hremE st c.a c.n⟩ := by unfold hres; rw [if_neg (by omega), if_neg (by omega), if_neg (by omega), if_neg (by omega), if_neg (by omega), if_neg (by omega), if_neg (by omega), if_neg (by omega), if_neg (by omega), if_pos h]
theorem hcall_10 (h : c.kind = 10) : hcall st c = hsetMeta st c.a c.b := by unfold hcall; rw [if_neg (by omega), if_neg (by omega), if_neg (by omega), if_neg (by omega), if_neg (by omega), if_neg (by omega), if_neg (by omega), if_neg (by omega), if_neg (by omega), if_neg (by omega), if_pos h]
theorem hres_10 (h : c.kind = 10) : hres st c = ⟨zVl, zVl, 0, ByteArray.empty, false, hsetMetaE st c.a c.b⟩ := by unfold hres; rw [if_neg (by omega), if_neg (by omega), if_neg (by omega), if_neg (by omega), if_neg (by omega), if_neg (by omega), if_neg (by omega), if_neg (by omega), if_neg (by omega), if_neg (by omega), if_pos h]
theorem hcall_11 (h : c.kind = 11) : hcall st c = st := by unfold hcall; rw [if_neg (by omega), if_neg (by omega), if_neg (by omega), if_neg (by omega), if_neg (by omega), if_neg (by omega), if_neg (by omega), if_neg (by omega), if_neg (by omega), if_neg (by omega), if_neg (by omega), if_pos h]
theorem hres_11 (h : c.kind = 11) : hres st c = ⟨hslotV st c.a c.n, zVl, 0, ByteArray.empty, false, hslotE st c.a c.n⟩ := by unfold hres; rw [if_neg (by omega), if_neg (by omega), if_neg (by omega), if_neg (by omega), if_neg (by omega), if_neg (by omega), if_neg (by omega), if_neg (by omega), if_neg (by omega), if_neg (by omega), if_neg (by omega), if_pos h]
theorem hcall_12 (h : c.kind = 12) : hcall st c = hsetSlot st c.a c.n c.c := by unfold hcall; rw [if_neg (by omega), if_neg (by omega), if_neg (by omega), if_neg (by omega), if_neg (by omega), if_neg (by omega), if_neg (by omega), if_neg (by omega), if_neg (by omega), if_neg (by omega), if_neg (by omega), if_neg (by omega), if_pos h]
theorem hres_12 (h : c.kind = 12) : hres st c = ⟨zVl, zVl, 0, ByteArray.empty, false, hsetSlotE st c.a c.n c.c⟩ := by unfold hres; rw [if_neg (by omega), if_neg (by omega), if_neg (by omega), if_neg (by omega), if_neg (by omega), if_neg (by omega), if_neg (by omega), if_neg (by omega), if_neg (by omega), if_neg (by omega), if_neg (by omega), if_neg (by omega), if_pos h]
theorem hcall_13 (h : c.kind = 13) : hcall st c = hsetRefs st c.a c.l := by unfold hcall; rw [if_neg (by omega), if_neg (by omega), if_neg (by omega), if_neg (by omega), if_neg (by omega), if_neg (by omega), if_neg (by omega), if_neg (by omega), if_neg (by omega), if_neg (by omega), if_neg (by omega), if_neg (by omega), if_neg (by omega), if_pos h]
theorem hres_13 (h : c.kind = 13) : hres st c = ⟨zVl, zVl, 0, ByteArray.empty, false, hsetRefsE st c.a c.l⟩ := by unfold hres; rw [if_neg (by omega), if_neg (by omega), if_neg (by omega), if_neg (by omega), if_neg (by omega), if_neg (by omega), if_neg (by omega), if_neg (by omega), if_neg (by omega), if_neg (by omega), if_neg (by omega), if_neg (by omega), if_neg (by omega), if_pos h]
theorem hcall_14 (h : c.kind = 14) : hcall st c = hdrop st c.n := by unfold hcall; rw [if_neg (by omega), if_neg (by omega), if_neg (by omega), if_neg (by omega), if_neg (by omega), if_neg (by omega), if_neg (by omega), if_neg (by omega), if_neg (by omega), if_neg (by omega), if_neg (by omega), if_neg (by omega), if_neg (by omega), if_neg (by omega), if_pos h]
theorem hres_14 (h : c.kind = 14) : hres st c = ⟨zVl, zVl, 0, ByteArray.empty, false, hdropE st c.n⟩ := by unfold hres; rw [if_neg (by omega), if_neg (by omega), if_neg (by omega), if_neg (by omega), if_neg (by omega), if_neg (by omega), if_neg (by omega), if_neg (by omega), if_neg (by omega), if_neg (by omega), if_neg (by omega), if_neg (by omega), if_neg (by omega), if_neg (by omega), if_pos h]
theorem hcall_15 (h : c.kind = 15) : hcall st c = st := by unfold hcall; rw [if_neg (by omega), if_neg (by omega), if_neg (by omega), if_neg (by omega), if_neg (by omega), if_neg (by omega), if_neg (by omega), if_neg (by omega), if_neg (by omega), if_neg (by omega), if_neg (by omega), if_neg (by omega), if_neg (by omega), if_neg (by omega), if_neg (by omega), if_pos h]
theorem hres_15 (h : c.kind = 15) : hres st c = ⟨zVl, zVl, (htagV st c.a).1, ByteArray.empty, (htagV st c.a).2, 0⟩ := by unfold hres; rw [if_neg (by omega), if_neg (by omega), if_neg (by omega), if_neg (by omega), if_neg (by omega), if_neg (by omega), if_neg (by omega), if_neg (by omega), if_neg (by omega), if_neg (by omega), if_neg (by omega), if_neg (by omega), if_neg (by omega), if_neg (by omega), if_neg (by omega), if_pos h]
theorem hcall_16 (h : c.kind = 16) : hcall st c = st := by unfold hcall; rw [if_neg (by omega), if_neg (by omega), if_neg (by omega), if_neg (by omega), if_neg (by omega), if_neg (by omega), if_neg (by omega), if_neg (by omega), if_neg (by omega), if_neg (by omega), if_neg (by omega), if_neg (by omega), if_neg (by omega), if_neg (by omega), if_neg (by omega), if_neg (by omega), if_pos h]
theorem hres_16 (h : c.kind = 16) : hres st c = ⟨zVl, zVl, 0, (hnameV st c.a).1, (hnameV st c.a).2, 0⟩ := by unfold hres; rw [if_neg (by omega), if_neg (by omega), if_neg (by omega), if_neg (by omega), if_neg (by omega), if_neg (by omega), if_neg (by omega), if_neg (by omega), if_neg (by omega), if_neg (by omega), if_neg (by omega), if_neg (by omega), if_neg (by omega), if_neg (by omega), if_neg (by omega), if_neg (by omega), if_pos h]
theorem hcall_17 (h : c.kind = 17) : hcall st c = st := by unfold hcall; rw [if_neg (by omega), if_neg (by omega), if_neg (by omega), if_neg (by omega), if_neg (by omega), if_neg (by omega), if_neg (by omega), if_neg (by omega), if_neg (by omega), if_neg (by omega), if_neg (by omega), if_neg (by omega), if_neg (by omega), if_neg (by omega), if_neg (by omega), if_neg (by omega), if_neg (by omega), if_pos h]
theorem hres_17 (h : c.kind = 17) : hres st c = ⟨hmeta st c.a, zVl, 0, ByteArray.empty, false, 0⟩ := by unfold hres; rw [if_neg (by omega), if_neg (by omega), if_neg (by omega), if_neg (by omega), if_neg (by omega), if_neg (by omega), if_neg (by omega), if_neg (by omega), if_neg (by omega), if_neg (by omega), if_neg (by omega), if_neg (by omega), if_neg (by omega), if_neg (by omega), if_neg (by omega), if_neg (by omega), if_neg (by omega), if_pos h]
theorem hcall_x (h : c.kind < 0 ∨ 17 < c.kind) : hcall st c = st := by unfold hcall; rw [if_neg (by omega), if_neg (by omega), if_neg (by omega), if_neg (by omega), if_neg (by omega), if_neg (by omega), if_neg (by omega), if_neg (by omega), if_neg (by omega), if_neg (by omega), if_neg (by omega), if_neg (by omega), if_neg (by omega), if_neg (by omega), if_neg (by omega), if_neg (by omega), if_neg (by omega), if_neg (by omega)]
theorem hres_x (h : c.kind < 0 ∨ 17 < c.kind) : hres st c = ⟨zVl, zVl, 0, ByteArray.empty, halive st c.n, 0⟩ := by unfold hres; rw [if_neg (by omega), if_neg (by omega), if_neg (by omega), if_neg (by omega), if_neg (by omega), if_neg (by omega), if_neg (by omega), if_neg (by omega), if_neg (by omega), if_neg (by omega), if_neg (by omega), if_neg (by omega), if_neg (by omega), if_neg (by omega), if_neg (by omega), if_neg (by omega), if_neg (by omega), if_neg (by omega)]
theorem kinds (c : Cl) : c.kind = 0 ∨ c.kind = 1 ∨ c.kind = 2 ∨ c.kind = 3 ∨ c.kind = 4 ∨ c.kind = 5 ∨ c.kind = 6 ∨ c.kind = 7 ∨ c.kind = 8 ∨ c.kind = 9 ∨ c.kind = 10 ∨ c.kind = 11 ∨ c.kind = 12 ∨ c.kind = 13 ∨ c.kind = 14 ∨ c.kind = 15 ∨ c.kind = 16 ∨ c.kind = 17 ∨ (c.kind < 0 ∨ 17 < c.kind) := by omega
theorem hcall_inv (h : HInv st) (c : Cl) : HInv (hcall st c) := by
  rcases kinds c with hk | hk | hk | hk | hk | hk | hk | hk | hk | hk | hk | hk | hk | hk | hk | hk | hk | hk | hk
  · rw [hcall_0 hk]; exact hmake_inv h (newO_inv _ _ _ (by decide))
  · rw [hcall_1 hk]; exact hmake_inv h (newO_inv _ _ _ (by decide))
  · rw [hcall_2 hk]; exact hmake_inv h (newO_inv _ _ _ (by decide))
  · rw [hcall_3 hk]; exact hdata_inv' h _
  · rw [hcall_4 hk]; exact h
  · rw [hcall_5 hk]; exact hset_inv h _ _ _
  · rw [hcall_6 hk]; exact h
  · rw [hcall_7 hk]; exact h
  · rw [hcall_8 hk]; exact hins_inv h _ _ _
  · rw [hcall_9 hk]; exact hrem_inv h _ _
  · rw [hcall_10 hk]; exact hsetMeta_inv h _ _
  · rw [hcall_11 hk]; exact h
  · rw [hcall_12 hk]; exact setSlot_inv h _ _ _
  · rw [hcall_13 hk]; exact setRefs_inv h _ _
  · rw [hcall_14 hk]; exact drop_inv h _
  · rw [hcall_15 hk]; exact h
  · rw [hcall_16 hk]; exact h
  · rw [hcall_17 hk]; exact h
  · rw [hcall_x hk]; exact h
theorem hcall_sm (hi : HInv st) (h : HSm n st) (c : Cl) (hl : c.l.length ≤ 20) : HSm (n + 1) (hcall st c) := by
  rcases kinds c with hk | hk | hk | hk | hk | hk | hk | hk | hk | hk | hk | hk | hk | hk | hk | hk | hk | hk | hk
  · rw [hcall_0 hk]; exact hmake_sm h rfl (by simp [newO])
  · rw [hcall_1 hk]; exact hmake_sm h rfl (by simp [newO])
  · rw [hcall_2 hk]; exact hmake_sm h rfl (by simp [newO])
  · rw [hcall_3 hk]; exact hdata_sm' h _
  · rw [hcall_4 hk]; exact h.mono (by omega)
  · rw [hcall_5 hk]; exact hset_sm hi h _ _ _
  · rw [hcall_6 hk]; exact h.mono (by omega)
  · rw [hcall_7 hk]; exact h.mono (by omega)
  · rw [hcall_8 hk]; exact hins_sm hi h _ _ _
  · rw [hcall_9 hk]; exact hrem_sm hi h _ _
  · rw [hcall_10 hk]; exact hsetMeta_sm h _ _
  · rw [hcall_11 hk]; exact h.mono (by omega)
  · rw [hcall_12 hk]; exact setSlot_sm h _ _ _
  · rw [hcall_13 hk]; exact setRefs_sm h _ hl
  · rw [hcall_14 hk]; exact drop_sm h _
  · rw [hcall_15 hk]; exact h.mono (by omega)
  · rw [hcall_16 hk]; exact h.mono (by omega)
  · rw [hcall_17 hk]; exact h.mono (by omega)
  · rw [hcall_x hk]; exact h.mono (by omega)
theorem hcall_w (hi : HInv st) (h : HW st) (c : Cl) : HW (hcall st c) := by
  rcases kinds c with hk | hk | hk | hk | hk | hk | hk | hk | hk | hk | hk | hk | hk | hk | hk | hk | hk | hk | hk
  · rw [hcall_0 hk]; exact h.make (newO_w _ _ _ (fun _ hv => (by cases hv)) (fun h8 => by cases h8))
  · rw [hcall_1 hk]; exact h.make (newO_w _ _ _ (fun _ hv => (by cases hv)) (fun h8 => by cases h8))
  · rw [hcall_2 hk]; exact h.make (newO_w _ _ _ (fun _ hv => (by cases hv)) (fun h8 => by cases h8))
  · rw [hcall_3 hk]; exact hdata_w h _
  · rw [hcall_4 hk]; exact h
  · rw [hcall_5 hk]; exact HW.set hi h _ _ _
  · rw [hcall_6 hk]; exact h
  · rw [hcall_7 hk]; exact h
  · rw [hcall_8 hk]; exact hins_w hi h _ _ _
  · rw [hcall_9 hk]; exact hrem_w hi h _ _
  · rw [hcall_10 hk]; exact setMeta_w h _ _
  · rw [hcall_11 hk]; exact h
  · rw [hcall_12 hk]; exact setSlot_w h _ _ _
  · rw [hcall_13 hk]; exact setRefs_w h _ _
  · rw [hcall_14 hk]; exact drop_w h _
  · rw [hcall_15 hk]; exact h
  · rw [hcall_16 hk]; exact h
  · rw [hcall_17 hk]; exact h
  · rw [hcall_x hk]; exact h
theorem hset_len (st : Hst) (t k v : Vl) : (hset st t k v).objs.length = st.objs.length := by
  rcases hset_cases st t k v with ⟨_, e, _⟩ | ⟨_, _, _, e, _⟩ | ⟨_, _, _, _, e, _⟩ | ⟨T, o, _, _, _, _, _, _, _, _, e, _⟩ <;> rw [e]
  exact put_len'
theorem hins_len (st : Hst) (t : Vl) (p : Int) (v : Vl) : (hins st t p v).objs.length = st.objs.length := by
  rcases hins_cases st t p v with ⟨e, _⟩ | ⟨o, _, _, _, _, _, _, e, _⟩ <;> rw [e]
  exact put_len'
theorem hrem_len (st : Hst) (t : Vl) (p : Int) : (hrem st t p).objs.length = st.objs.length := by
  rcases hrem_cases st t p with ⟨e, _⟩ | ⟨o, _, _, _, _, _, e, _⟩ <;> rw [e]
  exact put_len'
theorem hsetMeta_len (st : Hst) (v m : Vl) : (hsetMeta st v m).objs.length = st.objs.length := by
  rcases hsetMeta_cases st v m with ⟨e, _⟩ | ⟨o, _, _, _, e, _⟩ <;> rw [e]
  exact put_len'
theorem setSlot_len (st : Hst) (v : Vl) (i : Int) (x : Vl) : (hsetSlot st v i x).objs.length = st.objs.length := by
  rcases setSlot_cases st v i x with ⟨e, _⟩ | ⟨o, _, _, _, _, _, _, _, _, e, _⟩ <;> rw [e]
  exact put_len'
theorem setRefs_len (st : Hst) (v : Vl) (l : List Vl) : (hsetRefs st v l).objs.length = st.objs.length := by
  rcases setRefs_cases st v l with ⟨e, _⟩ | ⟨o, _, _, _, _, _, e, _⟩ <;> rw [e]
  exact put_len'
/-- A call that creates an object. -/
def news (st : Hst) (c : Cl) : Prop := 0 ≤ c.kind ∧ c.kind ≤ 3 ∧ (hres st c).e = 0
theorem make_new (hc : st.count < 65536) (o : Hob) (k : Int) : (hmake st o).objs.length = st.objs.length + 1 ∧ (hmakeV st k).ref = (st.objs.length : Int) + 1 ∧ halive (hmake st o) ((st.objs.length : Int) + 1) = true := by
  obtain ⟨_, a2, a3, a4⟩ := hmake_ok (o := o) hc
  refine ⟨a3, by rw [a2]; rfl, ?_⟩
  unfold halive
  rw [a4, if_pos rfl]; rfl
theorem hcall_news (hc : st.count < 65536) (h : news st c) : (hcall st c).objs.length = st.objs.length + 1 ∧ (hres st c).v.ref = (st.objs.length : Int) + 1 ∧ halive (hcall st c) ((st.objs.length : Int) + 1) = true := by
  obtain ⟨h0, h3, he⟩ := h
  have : c.kind = 0 ∨ c.kind = 1 ∨ c.kind = 2 ∨ c.kind = 3 := by omega
  rcases this with hk | hk | hk | hk
  · rw [hcall_0 hk, hres_0 hk]; exact make_new hc _ _
  · rw [hcall_1 hk, hres_1 hk]; exact make_new hc _ _
  · rw [hcall_2 hk, hres_2 hk]; exact make_new hc _ _
  · rw [hres_3 hk] at he
    rw [hcall_3 hk, hres_3 hk]
    rcases hdata_cases st c.s with ⟨_, e1, e2, e3⟩ | ⟨_, e1, e2, e3⟩
    · have h14 : hdataE st c.s = 0 := he
      rw [e2] at h14; cases h14
    · show (hdata st c.s).objs.length = _ ∧ (hdataV st c.s).ref = _ ∧ _
      rw [e1, e3]; exact make_new hc _ _
theorem hcall_old (hc : st.count < 65536) (h : ¬ news st c) : (hcall st c).objs.length = st.objs.length := by
  have he0 := (hmake_ok (o := newO 4 0 ByteArray.empty []) hc).1
  unfold news at h
  rcases kinds c with hk | hk | hk | hk | hk | hk | hk | hk | hk | hk | hk | hk | hk | hk | hk | hk | hk | hk | hk
  · exact absurd ⟨by omega, by omega, by rw [hres_0 hk]; exact he0⟩ h
  · exact absurd ⟨by omega, by omega, by rw [hres_1 hk]; exact he0⟩ h
  · exact absurd ⟨by omega, by omega, by rw [hres_2 hk]; exact he0⟩ h
  · rcases hdata_cases st c.s with ⟨_, e1, _⟩ | ⟨_, e1, e2, _⟩
    · rw [hcall_3 hk, e1]
    · exact absurd ⟨by omega, by omega, by rw [hres_3 hk]; exact e2.trans he0⟩ h
  · rw [hcall_4 hk]
  · rw [hcall_5 hk]; exact hset_len _ _ _ _
  · rw [hcall_6 hk]
  · rw [hcall_7 hk]
  · rw [hcall_8 hk]; exact hins_len _ _ _ _
  · rw [hcall_9 hk]; exact hrem_len _ _ _
  · rw [hcall_10 hk]; exact hsetMeta_len _ _ _
  · rw [hcall_11 hk]
  · rw [hcall_12 hk]; exact setSlot_len _ _ _ _
  · rw [hcall_13 hk]; exact setRefs_len _ _ _
  · rw [hcall_14 hk]; exact drop_len.1
  · rw [hcall_15 hk]
  · rw [hcall_16 hk]
  · rw [hcall_17 hk]
  · rw [hcall_x hk]
/-- The heap behind the first calls. -/
def hrun (l : List Cl) : Nat → Hst
  | 0 => hp0
  | i + 1 => match l[i]? with
    | some c => hcall (hrun l i) c
    | none => hrun l i
theorem hrun_succ {l : List Cl} {i : Nat} {y : Cl} (h : l[i]? = some y) : hrun l (i + 1) = hcall (hrun l i) y := by rw [hrun, h]
theorem hrun_good {l : List Cl} (hl : ∀ x ∈ l, x.l.length ≤ 20) : ∀ i, HInv (hrun l i) ∧ HSm i (hrun l i) ∧ HW (hrun l i)
  | 0 => ⟨HInv.nil, HSm.nil, HW.nil⟩
  | i + 1 => by
    obtain ⟨h1, h2, h3⟩ := hrun_good hl i
    rw [hrun]
    cases hc : l[i]? with
    | none => exact ⟨h1, h2.mono (by omega), h3⟩
    | some c => exact ⟨hcall_inv h1 c, hcall_sm h1 h2 c (hl c (List.mem_of_getElem? hc)), hcall_w h1 h3 c⟩
theorem alive_end (st : Hst) : halive st ((st.objs.length : Int) + 1) = false := by unfold halive; rw [get_end]; rfl
theorem alive_zero (st : Hst) : halive st 0 = false := by unfold halive Hst.get; rfl
end
end Go.Proofs.Ytmilekfknhglkaa
end
section
set_option linter.unusedSimpArgs false
set_option linter.unusedVariables false
set_option maxRecDepth 100000
set_option maxHeartbeats 2000000
namespace Go.Proofs.Ytmilekfknhglkaa
open Go.Hp Go.J Go.S
open Go.Mem (Ty KTy blk elemAt pre suf blk_pre blk_suf aget aset strK aggDesc)
open Go.Mem (adel apos aget_aset aget_adel)
abbrev Cl.w (x : Cl) : Value := .agg #[.int .i64 x.kind, .int .i64 x.a.kind, .int .i64 x.a.p, .int .i64 x.a.q, .string x.a.str, .int .i64 x.a.ref, .int .i64 x.b.kind, .int .i64 x.b.p, .int .i64 x.b.q, .string x.b.str, .int .i64 x.b.ref, .int .i64 x.c.kind, .int .i64 x.c.p, .int .i64 x.c.q, .string x.c.str, .int .i64 x.c.ref, .int .i64 x.n, .string x.s, x.lv.v]
def ClT : Ty Cl := ⟨29, 19, 200, true, Cl.w, ⟨0, zVl, zVl, zVl, 0, ByteArray.empty, ⟨none, 0, 0⟩, []⟩⟩
theorem ClT_ok : ClT.Ok Try.prog := ok_of ClT _ Try.t29 (by decide) (fun _ => rfl) (fun x u hu => by simp [Ty.enc, ClT, Cl.w, Value.cells] at hu; rcases hu with rfl | rfl | rfl | rfl | rfl | rfl | rfl | rfl | rfl | rfl | rfl | rfl | rfl | rfl | rfl | rfl | rfl | rfl | rfl <;> rfl) (fun _ => rfl) Try.underlying29 rfl (fun h => by cases h) (by kernel_rfl) (by kernel_rfl) (by kernel_rfl) (by kernel_rfl)
def Rs.w_ (x : Rs) : Value := .agg #[.int .i64 x.v.kind, .int .i64 x.v.p, .int .i64 x.v.q, .string x.v.str, .int .i64 x.v.ref, .int .i64 x.w.kind, .int .i64 x.w.p, .int .i64 x.w.q, .string x.w.str, .int .i64 x.w.ref, .int .i64 x.n, .string x.s, .bool x.ok, .int .i64 x.e]
abbrev KnC (Z : Zone) (x : Cl) : Prop := Kn Z VlT x.lv.v x.l
/-- Calls that the zone knows. -/
structure KnL (Z : Zone) (lv : Value) (l : List Cl) : Prop where
  obs : Kn Z ClT lv l
  each : ∀ x ∈ l, KnC Z x
theorem lstr_s {Z : Zone} (s : ByteArray) : SF Try.prog 37 #[.string s] Z [] fun r Bs => r = (strV s).v ∧ Bs = [] := by
 refine sf_enter Try.func37 5 [(0, .string s)] (fun w0 => ?_)
 refine k_sr ?_
 refine s_alloc (.agg #[.int .i64 0, .int .i64 0, .int .i64 0, .string ByteArray.empty, .int .i64 0]) #[.int .i64 0, .int .i64 0, .int .i64 0, .string ByteArray.empty, .int .i64 0] (fun g1 => ?_)
 refine s_nr ?_
 refine sp (.string s) ?_
 refine s_lt (t_kern (.agg #[.int .i64 3, .int .i64 0, .int .i64 0, .string s, .int .i64 0])) ?_
 refine s_store 0 #[.int .i64 3, .int .i64 0, .int .i64 0, .string s, .int .i64 0] ?_
 refine s_nt ?_
 refine k_ret ?_
 exact xs_fin [.agg #[.int .i64 3, .int .i64 0, .int .i64 0, .string s, .int .i64 0]] [] (SI.agg 2 26 0 SI.nil) (fun _ h => h.re [] [0]) ⟨rfl, rfl⟩
def numV (n : Int) : Vl := ⟨2, n, 1, ByteArray.empty, 0⟩
theorem lnum_s {Z : Zone} (n : Int) : SF Try.prog 26 #[.int .i64 n] Z [] fun r Bs => r = (numV n).v ∧ Bs = [] := by
 refine sf_enter Try.func26 6 [(0, .int .i64 n)] (fun w0 => ?_)
 refine k_sr ?_
 refine s_alloc (.agg #[.int .i64 0, .int .i64 0, .int .i64 0, .string ByteArray.empty, .int .i64 0]) #[.int .i64 0, .int .i64 0, .int .i64 0, .string ByteArray.empty, .int .i64 0] (fun g1 => ?_)
 refine s_nr ?_
 refine sp (.int .i64 n) ?_
 refine s_lt (t_kern (.agg #[.int .i64 n, .int .i64 1])) ?_
 refine s_lt (t_kern (.agg #[.int .i64 2, .int .i64 n, .int .i64 1, .string ByteArray.empty, .int .i64 0])) ?_
 refine s_store 0 #[.int .i64 2, .int .i64 n, .int .i64 1, .string ByteArray.empty, .int .i64 0] ?_
 refine s_nt ?_
 refine k_ret ?_
 exact xs_fin [.agg #[.int .i64 2, .int .i64 n, .int .i64 1, .string ByteArray.empty, .int .i64 0]] [] (SI.agg 2 26 0 SI.nil) (fun _ h => h.re [] [0]) ⟨rfl, rfl⟩
theorem awake_s {Z : Zone} : SF Try.prog 9 #[] Z [] fun r Bs => r = .bool true ∧ Bs = [] := by
 refine sf_enter Try.func9 99 [] (fun w0 => ?_)
 refine k_sr ?_
 refine sp (.bool false) ?_
 refine s_nr ?_
 refine s_pcall (fun _ h => hnew_s) ?_
 rintro _ _ ⟨hb1, rfl, rfl⟩
 refine sp (pB hb1 0) ?_
 refine s_nt ?_
 refine k_seq ?_
 refine k_sr ?_
 refine sp (pB hb1 0) ?_
 refine sp (.bool false) ?_
 refine s_nt ?_
 refine k_false ?_
 refine k_st ?_
 refine k_sr ?_
 refine sp (pB hb1 0) ?_
 refine s_call [0] (hnewtable_s (st := hp0) (by have := HSm.nil.len; omega)) ?_
 rintro _ _ ⟨rfl, rfl⟩
 have hi2 := hmake_inv (o := (newO 4 0 ByteArray.empty [])) HInv.nil (newO_inv _ _ _ (by decide))
 have hs3 := hmake_sm (o := (newO 4 0 ByteArray.empty [])) HSm.nil rfl (by decide)
 have hw4 := HW.make (o := (newO 4 0 ByteArray.empty [])) HW.nil (newO_w _ _ _ (fun _ hv => (by cases hv)) (fun h8 => by cases h8))
 refine sp (.tuple #[.agg #[.int .i64 ((hmakeV hp0 4).kind), .int .i64 ((hmakeV hp0 4).p), .int .i64 ((hmakeV hp0 4).q), .string ((hmakeV hp0 4).str), .int .i64 ((hmakeV hp0 4).ref)], .int .i64 (hmakeE hp0)]) ?_
 refine sp (.agg #[.int .i64 ((hmakeV hp0 4).kind), .int .i64 ((hmakeV hp0 4).p), .int .i64 ((hmakeV hp0 4).q), .string ((hmakeV hp0 4).str), .int .i64 ((hmakeV hp0 4).ref)]) ?_
 refine sp (.int .i64 (hmakeE hp0)) ?_
 refine s_alloc (.agg #[.int .i64 0, .int .i64 0, .int .i64 0, .string ByteArray.empty, .int .i64 0]) #[.int .i64 0, .int .i64 0, .int .i64 0, .string ByteArray.empty, .int .i64 0] (fun g5 => ?_)
 refine s_store 0 #[.int .i64 ((hmakeV hp0 4).kind), .int .i64 ((hmakeV hp0 4).p), .int .i64 ((hmakeV hp0 4).q), .string ((hmakeV hp0 4).str), .int .i64 ((hmakeV hp0 4).ref)] ?_
 refine sp (.int .i64 (hmakeE hp0)) ?_
 refine s_nt ?_
 refine k_seq ?_
 refine k_seq ?_
 refine k_held [blkA g5 #[.int .i64 ((hmakeV hp0 4).kind), .int .i64 ((hmakeV hp0 4).p), .int .i64 ((hmakeV hp0 4).q), .string ((hmakeV hp0 4).str), .int .i64 ((hmakeV hp0 4).ref)] 26] ?_
 refine hp_ 0 [0] (.int .i64 (hmakeE hp0)) ?_
 refine h_l 1 rfl [0] (fun _ => (Lt.to t_cmp (congrArg Value.bool ((by kernel_rfl) : (decide ((hmakeE hp0) ≠ 0)) = false)))) ?_
 refine hp_ 2 [0] (.bool false) ?_
 refine h_l 3 rfl [0] (fun _ => (t_loadA 0 #[.int .i64 ((hmakeV hp0 4).kind), .int .i64 ((hmakeV hp0 4).p), .int .i64 ((hmakeV hp0 4).q), .string ((hmakeV hp0 4).str), .int .i64 ((hmakeV hp0 4).ref)])) ?_
 refine h_l 4 rfl [0] (fun _ => (t_kern (.agg #[.int .i64 4, .int .i64 0, .int .i64 0, .string ByteArray.empty, .int .i64 1]))) ?_
 refine h_l 5 rfl [0] (fun _ => (Lt.to (t_eqS (fun w => (eqVlT (hmakeV hp0 4) (⟨4, 0, 0, ByteArray.empty, 1⟩ : Vl) w).2)) (congrArg Value.bool ((congrArg Bool.not ((by kernel_rfl) : (decide ((hmakeV hp0 4) = (⟨4, 0, 0, ByteArray.empty, 1⟩ : Vl))) = true)).trans rfl : (!(decide ((hmakeV hp0 4) = (⟨4, 0, 0, ByteArray.empty, 1⟩ : Vl)))) = false)))) ?_
 refine hp_ 6 [0] (.bool false) ?_
 refine hp_ 7 [0] (.bool false) ?_
 refine hp_ 8 [0] (pB hb1 0) ?_
 refine h_l 9 rfl [0] (fun _ => (t_loadA 0 #[.int .i64 ((hmakeV hp0 4).kind), .int .i64 ((hmakeV hp0 4).p), .int .i64 ((hmakeV hp0 4).q), .string ((hmakeV hp0 4).str), .int .i64 ((hmakeV hp0 4).ref)])) ?_
 refine h_stepS 10 ?_
 refine s_vcall (fun _ h => lnum_s 1) ?_
 rintro _ rfl
 refine s_nil (xs_held [0] ?_)
 refine h_stepS 11 ?_
 refine s_vcall (fun _ h => lstr_s ⟨#[97]⟩) ?_
 rintro _ rfl
 refine s_nil (xs_held [0] ?_)
 refine h_stepS 12 ?_
 refine s_call [1] (hset_s (st := (hmake hp0 (newO 4 0 ByteArray.empty []))) hs3 (by omega) (hmakeV hp0 4) (numV 1) (strV ⟨#[97]⟩)) ?_
 rintro _ _ ⟨rfl, rfl⟩
 have hi6 := hset_inv hi2 (hmakeV hp0 4) (numV 1) (strV ⟨#[97]⟩)
 have hs7 := hset_sm hi2 hs3 (hmakeV hp0 4) (numV 1) (strV ⟨#[97]⟩)
 have hw8 := HW.set hi2 hw4 (hmakeV hp0 4) (numV 1) (strV ⟨#[97]⟩)
 refine s_nil (xs_held [1] ?_)
 refine h_l 13 rfl [1] (fun _ => (Lt.to t_cmp (congrArg Value.bool ((by kernel_rfl) : (decide ((hsetE (hmake hp0 (newO 4 0 ByteArray.empty [])) (hmakeV hp0 4) (numV 1) (strV ⟨#[97]⟩)) ≠ 0)) = false)))) ?_
 refine hp_ 14 [1] (.bool false) ?_
 refine hp_ 15 [1] (.bool false) ?_
 refine hp_ 16 [1] (pB hb1 0) ?_
 refine h_l 17 rfl [1] (fun _ => (t_loadA 0 #[.int .i64 ((hmakeV hp0 4).kind), .int .i64 ((hmakeV hp0 4).p), .int .i64 ((hmakeV hp0 4).q), .string ((hmakeV hp0 4).str), .int .i64 ((hmakeV hp0 4).ref)])) ?_
 refine h_l 18 rfl [1] (fun _ => (t_kern (.agg #[.int .i64 0, .int .i64 0, .int .i64 0, .string ByteArray.empty, .int .i64 0]))) ?_
 refine h_l 19 rfl [1] (fun _ => (t_loadA 0 #[.int .i64 ((hmakeV hp0 4).kind), .int .i64 ((hmakeV hp0 4).p), .int .i64 ((hmakeV hp0 4).q), .string ((hmakeV hp0 4).str), .int .i64 ((hmakeV hp0 4).ref)])) ?_
 refine h_stepS 20 ?_
 refine s_call [0] (hset_s (st := (hset (hmake hp0 (newO 4 0 ByteArray.empty [])) (hmakeV hp0 4) (numV 1) (strV ⟨#[97]⟩))) hs7 (by omega) (hmakeV hp0 4) zVl (hmakeV hp0 4)) ?_
 rintro _ _ ⟨rfl, rfl⟩
 have hi9 := hset_inv hi6 (hmakeV hp0 4) zVl (hmakeV hp0 4)
 have hs10 := hset_sm hi6 hs7 (hmakeV hp0 4) zVl (hmakeV hp0 4)
 have hw11 := HW.set hi6 hw8 (hmakeV hp0 4) zVl (hmakeV hp0 4)
 refine s_nil (xs_held [1] ?_)
 refine h_l 21 rfl [1] (fun _ => (Lt.to t_cmp (congrArg Value.bool ((by kernel_rfl) : (decide ((hsetE (hset (hmake hp0 (newO 4 0 ByteArray.empty [])) (hmakeV hp0 4) (numV 1) (strV ⟨#[97]⟩)) (hmakeV hp0 4) zVl (hmakeV hp0 4)) ≠ 13)) = false)))) ?_
 refine hp_ 22 [1] (.bool false) ?_
 refine h_doneS ?_
 refine xs_then ?_
 refine k_false ?_
 refine k_st ?_
 refine k_seq ?_
 refine k_held [blkA g5 #[.int .i64 ((hmakeV hp0 4).kind), .int .i64 ((hmakeV hp0 4).p), .int .i64 ((hmakeV hp0 4).q), .string ((hmakeV hp0 4).str), .int .i64 ((hmakeV hp0 4).ref)] 26] ?_
 refine hp_ 0 [1] (pB hb1 0) ?_
 refine h_l 1 rfl [1] (fun _ => (t_loadA 0 #[.int .i64 ((hmakeV hp0 4).kind), .int .i64 ((hmakeV hp0 4).p), .int .i64 ((hmakeV hp0 4).q), .string ((hmakeV hp0 4).str), .int .i64 ((hmakeV hp0 4).ref)])) ?_
 refine h_join (ι := Nat) 2 #[true, true, true, true, true, true, true, true, false, false] (fun g12 => [(1, pB hb1 0), (2, pB g5 0), (4, pB g12 0), (45, .agg #[.int .i64 ((hgetV (hset (hset (hmake hp0 (newO 4 0 ByteArray.empty [])) (hmakeV hp0 4) (numV 1) (strV ⟨#[97]⟩)) (hmakeV hp0 4) zVl (hmakeV hp0 4)) (hmakeV hp0 4) (numV 1)).kind), .int .i64 ((hgetV (hset (hset (hmake hp0 (newO 4 0 ByteArray.empty [])) (hmakeV hp0 4) (numV 1) (strV ⟨#[97]⟩)) (hmakeV hp0 4) zVl (hmakeV hp0 4)) (hmakeV hp0 4) (numV 1)).p), .int .i64 ((hgetV (hset (hset (hmake hp0 (newO 4 0 ByteArray.empty [])) (hmakeV hp0 4) (numV 1) (strV ⟨#[97]⟩)) (hmakeV hp0 4) zVl (hmakeV hp0 4)) (hmakeV hp0 4) (numV 1)).q), .string ((hgetV (hset (hset (hmake hp0 (newO 4 0 ByteArray.empty [])) (hmakeV hp0 4) (numV 1) (strV ⟨#[97]⟩)) (hmakeV hp0 4) zVl (hmakeV hp0 4)) (hmakeV hp0 4) (numV 1)).str), .int .i64 ((hgetV (hset (hset (hmake hp0 (newO 4 0 ByteArray.empty [])) (hmakeV hp0 4) (numV 1) (strV ⟨#[97]⟩)) (hmakeV hp0 4) zVl (hmakeV hp0 4)) (hmakeV hp0 4) (numV 1)).ref)]), (46, .int .i64 (hgetE (hset (hset (hmake hp0 (newO 4 0 ByteArray.empty [])) (hmakeV hp0 4) (numV 1) (strV ⟨#[97]⟩)) (hmakeV hp0 4) zVl (hmakeV hp0 4)) (hmakeV hp0 4)))]) (fun g12 => [blkA g12 #[.int .i64 0, .int .i64 0, .int .i64 0, .string ByteArray.empty, .int .i64 0] 26, hpA hb1 (hset (hset (hmake hp0 (newO 4 0 ByteArray.empty [])) (hmakeV hp0 4) (numV 1) (strV ⟨#[97]⟩)) (hmakeV hp0 4) zVl (hmakeV hp0 4)), blkA g5 #[.int .i64 ((hmakeV hp0 4).kind), .int .i64 ((hmakeV hp0 4).p), .int .i64 ((hmakeV hp0 4).q), .string ((hmakeV hp0 4).str), .int .i64 ((hmakeV hp0 4).ref)] 26]) ?_ (fun hj15 => ?_)
 ·
  rintro g12
  try dsimp only
  refine h_stepS 8 ?_
  refine s_store 0 #[.int .i64 ((hgetV (hset (hset (hmake hp0 (newO 4 0 ByteArray.empty [])) (hmakeV hp0 4) (numV 1) (strV ⟨#[97]⟩)) (hmakeV hp0 4) zVl (hmakeV hp0 4)) (hmakeV hp0 4) (numV 1)).kind), .int .i64 ((hgetV (hset (hset (hmake hp0 (newO 4 0 ByteArray.empty [])) (hmakeV hp0 4) (numV 1) (strV ⟨#[97]⟩)) (hmakeV hp0 4) zVl (hmakeV hp0 4)) (hmakeV hp0 4) (numV 1)).p), .int .i64 ((hgetV (hset (hset (hmake hp0 (newO 4 0 ByteArray.empty [])) (hmakeV hp0 4) (numV 1) (strV ⟨#[97]⟩)) (hmakeV hp0 4) zVl (hmakeV hp0 4)) (hmakeV hp0 4) (numV 1)).q), .string ((hgetV (hset (hset (hmake hp0 (newO 4 0 ByteArray.empty [])) (hmakeV hp0 4) (numV 1) (strV ⟨#[97]⟩)) (hmakeV hp0 4) zVl (hmakeV hp0 4)) (hmakeV hp0 4) (numV 1)).str), .int .i64 ((hgetV (hset (hset (hmake hp0 (newO 4 0 ByteArray.empty [])) (hmakeV hp0 4) (numV 1) (strV ⟨#[97]⟩)) (hmakeV hp0 4) zVl (hmakeV hp0 4)) (hmakeV hp0 4) (numV 1)).ref)] ?_
  refine s_nil (xs_held [2] ?_)
  refine hp_ 9 [2] (.int .i64 (hgetE (hset (hset (hmake hp0 (newO 4 0 ByteArray.empty [])) (hmakeV hp0 4) (numV 1) (strV ⟨#[97]⟩)) (hmakeV hp0 4) zVl (hmakeV hp0 4)) (hmakeV hp0 4))) ?_
  refine h_doneS ?_
  refine xs_then ?_
  refine k_sr ?_
  refine sp (pB hb1 0) ?_
  refine s_lt (t_loadA 2 #[.int .i64 ((hmakeV hp0 4).kind), .int .i64 ((hmakeV hp0 4).p), .int .i64 ((hmakeV hp0 4).q), .string ((hmakeV hp0 4).str), .int .i64 ((hmakeV hp0 4).ref)]) ?_
  refine s_call [1] (hlen_s (st := (hset (hset (hmake hp0 (newO 4 0 ByteArray.empty [])) (hmakeV hp0 4) (numV 1) (strV ⟨#[97]⟩)) (hmakeV hp0 4) zVl (hmakeV hp0 4))) hs10 (by omega) (hmakeV hp0 4)) ?_
  rintro _ _ ⟨rfl, rfl⟩
  refine sp (.tuple #[.int .i64 (hlenV (hset (hset (hmake hp0 (newO 4 0 ByteArray.empty [])) (hmakeV hp0 4) (numV 1) (strV ⟨#[97]⟩)) (hmakeV hp0 4) zVl (hmakeV hp0 4)) (hmakeV hp0 4)), .int .i64 (hgetE (hset (hset (hmake hp0 (newO 4 0 ByteArray.empty [])) (hmakeV hp0 4) (numV 1) (strV ⟨#[97]⟩)) (hmakeV hp0 4) zVl (hmakeV hp0 4)) (hmakeV hp0 4))]) ?_
  refine sp (.int .i64 (hlenV (hset (hset (hmake hp0 (newO 4 0 ByteArray.empty [])) (hmakeV hp0 4) (numV 1) (strV ⟨#[97]⟩)) (hmakeV hp0 4) zVl (hmakeV hp0 4)) (hmakeV hp0 4))) ?_
  refine sp (.int .i64 (hgetE (hset (hset (hmake hp0 (newO 4 0 ByteArray.empty [])) (hmakeV hp0 4) (numV 1) (strV ⟨#[97]⟩)) (hmakeV hp0 4) zVl (hmakeV hp0 4)) (hmakeV hp0 4))) ?_
  refine sp (.int .i64 (hlenV (hset (hset (hmake hp0 (newO 4 0 ByteArray.empty [])) (hmakeV hp0 4) (numV 1) (strV ⟨#[97]⟩)) (hmakeV hp0 4) zVl (hmakeV hp0 4)) (hmakeV hp0 4))) ?_
  refine sp (.int .i64 (hgetE (hset (hset (hmake hp0 (newO 4 0 ByteArray.empty [])) (hmakeV hp0 4) (numV 1) (strV ⟨#[97]⟩)) (hmakeV hp0 4) zVl (hmakeV hp0 4)) (hmakeV hp0 4))) ?_
  refine s_nr ?_
  refine sp (pB hb1 0) ?_
  refine s_call [0] (htouched_s (st := (hset (hset (hmake hp0 (newO 4 0 ByteArray.empty [])) (hmakeV hp0 4) (numV 1) (strV ⟨#[97]⟩)) (hmakeV hp0 4) zVl (hmakeV hp0 4))) hs10 (by omega)) ?_
  rintro v16 _ rfl
  refine s_fact (fun H h => ((Acc.own (T := iTy) (L := (htchd (hset (hset (hmake hp0 (newO 4 0 ByteArray.empty [])) (hmakeV hp0 4) (numV 1) (strV ⟨#[97]⟩)) (hmakeV hp0 4) zVl (hmakeV hp0 4)))) 0 rfl) H h).form) (fun hf17 => ?_)
  have hi18 := untch_inv hi9
  have hs19 := untch_sm hs10
  have hw20 := untch_w hw11
  have htl21 : (htchd (hset (hset (hmake hp0 (newO 4 0 ByteArray.empty [])) (hmakeV hp0 4) (numV 1) (strV ⟨#[97]⟩)) (hmakeV hp0 4) zVl (hmakeV hp0 4))) = [1] := by kernel_rfl
  refine s_mem (Bs := [own iTy v16 [1], hpA hb1 (huntch (hset (hset (hmake hp0 (newO 4 0 ByteArray.empty [])) (hmakeV hp0 4) (numV 1) (strV ⟨#[97]⟩)) (hmakeV hp0 4) zVl (hmakeV hp0 4))), blkA g12 #[.int .i64 ((hgetV (hset (hset (hmake hp0 (newO 4 0 ByteArray.empty [])) (hmakeV hp0 4) (numV 1) (strV ⟨#[97]⟩)) (hmakeV hp0 4) zVl (hmakeV hp0 4)) (hmakeV hp0 4) (numV 1)).kind), .int .i64 ((hgetV (hset (hset (hmake hp0 (newO 4 0 ByteArray.empty [])) (hmakeV hp0 4) (numV 1) (strV ⟨#[97]⟩)) (hmakeV hp0 4) zVl (hmakeV hp0 4)) (hmakeV hp0 4) (numV 1)).p), .int .i64 ((hgetV (hset (hset (hmake hp0 (newO 4 0 ByteArray.empty [])) (hmakeV hp0 4) (numV 1) (strV ⟨#[97]⟩)) (hmakeV hp0 4) zVl (hmakeV hp0 4)) (hmakeV hp0 4) (numV 1)).q), .string ((hgetV (hset (hset (hmake hp0 (newO 4 0 ByteArray.empty [])) (hmakeV hp0 4) (numV 1) (strV ⟨#[97]⟩)) (hmakeV hp0 4) zVl (hmakeV hp0 4)) (hmakeV hp0 4) (numV 1)).str), .int .i64 ((hgetV (hset (hset (hmake hp0 (newO 4 0 ByteArray.empty [])) (hmakeV hp0 4) (numV 1) (strV ⟨#[97]⟩)) (hmakeV hp0 4) zVl (hmakeV hp0 4)) (hmakeV hp0 4) (numV 1)).ref)] 26, blkA g5 #[.int .i64 ((hmakeV hp0 4).kind), .int .i64 ((hmakeV hp0 4).p), .int .i64 ((hmakeV hp0 4).q), .string ((hmakeV hp0 4).str), .int .i64 ((hmakeV hp0 4).ref)] 26]) (fun _ h => by rw [htl21] at h; exact h) ?_
  refine sp v16 ?_
  refine s_nt ?_
  refine k_seq ?_
  refine k_held [blkA g12 #[.int .i64 ((hgetV (hset (hset (hmake hp0 (newO 4 0 ByteArray.empty [])) (hmakeV hp0 4) (numV 1) (strV ⟨#[97]⟩)) (hmakeV hp0 4) zVl (hmakeV hp0 4)) (hmakeV hp0 4) (numV 1)).kind), .int .i64 ((hgetV (hset (hset (hmake hp0 (newO 4 0 ByteArray.empty [])) (hmakeV hp0 4) (numV 1) (strV ⟨#[97]⟩)) (hmakeV hp0 4) zVl (hmakeV hp0 4)) (hmakeV hp0 4) (numV 1)).p), .int .i64 ((hgetV (hset (hset (hmake hp0 (newO 4 0 ByteArray.empty [])) (hmakeV hp0 4) (numV 1) (strV ⟨#[97]⟩)) (hmakeV hp0 4) zVl (hmakeV hp0 4)) (hmakeV hp0 4) (numV 1)).q), .string ((hgetV (hset (hset (hmake hp0 (newO 4 0 ByteArray.empty [])) (hmakeV hp0 4) (numV 1) (strV ⟨#[97]⟩)) (hmakeV hp0 4) zVl (hmakeV hp0 4)) (hmakeV hp0 4) (numV 1)).str), .int .i64 ((hgetV (hset (hset (hmake hp0 (newO 4 0 ByteArray.empty [])) (hmakeV hp0 4) (numV 1) (strV ⟨#[97]⟩)) (hmakeV hp0 4) zVl (hmakeV hp0 4)) (hmakeV hp0 4) (numV 1)).ref)] 26, blkA g5 #[.int .i64 ((hmakeV hp0 4).kind), .int .i64 ((hmakeV hp0 4).p), .int .i64 ((hmakeV hp0 4).q), .string ((hmakeV hp0 4).str), .int .i64 ((hmakeV hp0 4).ref)] 26] ?_
  refine hp_ 0 [2, 2] (.int .i64 (hgetE (hset (hset (hmake hp0 (newO 4 0 ByteArray.empty [])) (hmakeV hp0 4) (numV 1) (strV ⟨#[97]⟩)) (hmakeV hp0 4) zVl (hmakeV hp0 4)) (hmakeV hp0 4))) ?_
  refine h_l 1 rfl [2, 2] (fun _ => (Lt.to t_cmp (congrArg Value.bool ((by kernel_rfl) : (decide ((hgetE (hset (hset (hmake hp0 (newO 4 0 ByteArray.empty [])) (hmakeV hp0 4) (numV 1) (strV ⟨#[97]⟩)) (hmakeV hp0 4) zVl (hmakeV hp0 4)) (hmakeV hp0 4)) = 0)) = true)))) ?_
  refine hp_ 2 [2, 2] (.bool true) ?_
  refine h_l 3 rfl [2, 2] (fun _ => (t_loadA 0 #[.int .i64 ((hgetV (hset (hset (hmake hp0 (newO 4 0 ByteArray.empty [])) (hmakeV hp0 4) (numV 1) (strV ⟨#[97]⟩)) (hmakeV hp0 4) zVl (hmakeV hp0 4)) (hmakeV hp0 4) (numV 1)).kind), .int .i64 ((hgetV (hset (hset (hmake hp0 (newO 4 0 ByteArray.empty [])) (hmakeV hp0 4) (numV 1) (strV ⟨#[97]⟩)) (hmakeV hp0 4) zVl (hmakeV hp0 4)) (hmakeV hp0 4) (numV 1)).p), .int .i64 ((hgetV (hset (hset (hmake hp0 (newO 4 0 ByteArray.empty [])) (hmakeV hp0 4) (numV 1) (strV ⟨#[97]⟩)) (hmakeV hp0 4) zVl (hmakeV hp0 4)) (hmakeV hp0 4) (numV 1)).q), .string ((hgetV (hset (hset (hmake hp0 (newO 4 0 ByteArray.empty [])) (hmakeV hp0 4) (numV 1) (strV ⟨#[97]⟩)) (hmakeV hp0 4) zVl (hmakeV hp0 4)) (hmakeV hp0 4) (numV 1)).str), .int .i64 ((hgetV (hset (hset (hmake hp0 (newO 4 0 ByteArray.empty [])) (hmakeV hp0 4) (numV 1) (strV ⟨#[97]⟩)) (hmakeV hp0 4) zVl (hmakeV hp0 4)) (hmakeV hp0 4) (numV 1)).ref)])) ?_
  refine h_stepS 4 ?_
  refine s_vcall (fun _ h => lstr_s ⟨#[97]⟩) ?_
  rintro _ rfl
  refine s_nil (xs_held [2, 2] ?_)
  refine h_l 5 rfl [2, 2] (fun _ => (Lt.to (t_eqS (fun w => (eqVlT (hgetV (hset (hset (hmake hp0 (newO 4 0 ByteArray.empty [])) (hmakeV hp0 4) (numV 1) (strV ⟨#[97]⟩)) (hmakeV hp0 4) zVl (hmakeV hp0 4)) (hmakeV hp0 4) (numV 1)) (strV ⟨#[97]⟩) w).1)) (congrArg Value.bool ((by kernel_rfl) : (decide ((hgetV (hset (hset (hmake hp0 (newO 4 0 ByteArray.empty [])) (hmakeV hp0 4) (numV 1) (strV ⟨#[97]⟩)) (hmakeV hp0 4) zVl (hmakeV hp0 4)) (hmakeV hp0 4) (numV 1)) = (strV ⟨#[97]⟩))) = true)))) ?_
  refine hp_ 6 [2, 2] (.bool true) ?_
  refine hp_ 7 [2, 2] (.bool true) ?_
  refine hp_ 8 [2, 2] (.int .i64 (hgetE (hset (hset (hmake hp0 (newO 4 0 ByteArray.empty [])) (hmakeV hp0 4) (numV 1) (strV ⟨#[97]⟩)) (hmakeV hp0 4) zVl (hmakeV hp0 4)) (hmakeV hp0 4))) ?_
  refine h_l 9 rfl [2, 2] (fun _ => (Lt.to t_cmp (congrArg Value.bool ((by kernel_rfl) : (decide ((hgetE (hset (hset (hmake hp0 (newO 4 0 ByteArray.empty [])) (hmakeV hp0 4) (numV 1) (strV ⟨#[97]⟩)) (hmakeV hp0 4) zVl (hmakeV hp0 4)) (hmakeV hp0 4)) = 0)) = true)))) ?_
  refine hp_ 10 [2, 2] (.bool true) ?_
  refine hp_ 11 [2, 2] (.bool true) ?_
  refine hp_ 12 [2, 2] (.int .i64 (hlenV (hset (hset (hmake hp0 (newO 4 0 ByteArray.empty [])) (hmakeV hp0 4) (numV 1) (strV ⟨#[97]⟩)) (hmakeV hp0 4) zVl (hmakeV hp0 4)) (hmakeV hp0 4))) ?_
  refine h_l 13 rfl [2, 2] (fun _ => (Lt.to t_cmp (congrArg Value.bool ((by kernel_rfl) : (decide ((hlenV (hset (hset (hmake hp0 (newO 4 0 ByteArray.empty [])) (hmakeV hp0 4) (numV 1) (strV ⟨#[97]⟩)) (hmakeV hp0 4) zVl (hmakeV hp0 4)) (hmakeV hp0 4)) = 1)) = true)))) ?_
  refine hp_ 14 [2, 2] (.bool true) ?_
  refine hp_ 15 [2, 2] (.bool true) ?_
  refine hp_ 16 [2, 2] (pB hb1 0) ?_
  refine h_l 18 rfl [2, 2] (fun _ => (t_loadA 1 #[.int .i64 ((hmakeV hp0 4).kind), .int .i64 ((hmakeV hp0 4).p), .int .i64 ((hmakeV hp0 4).q), .string ((hmakeV hp0 4).str), .int .i64 ((hmakeV hp0 4).ref)])) ?_
  refine h_stepS 17 ?_
  refine s_vcall (fun _ h => lnum_s 1) ?_
  rintro _ rfl
  refine s_nil (xs_held [2, 2] ?_)
  refine h_stepS 19 ?_
  refine s_call [1] (hsetmeta_s (st := (huntch (hset (hset (hmake hp0 (newO 4 0 ByteArray.empty [])) (hmakeV hp0 4) (numV 1) (strV ⟨#[97]⟩)) (hmakeV hp0 4) zVl (hmakeV hp0 4)))) (numV 1) (hmakeV hp0 4)) ?_
  rintro _ _ ⟨rfl, rfl⟩
  have hi22 := hsetMeta_inv hi18 (numV 1) (hmakeV hp0 4)
  have hs23 := hsetMeta_sm hs19 (numV 1) (hmakeV hp0 4)
  have hw24 := setMeta_w hw20 (numV 1) (hmakeV hp0 4)
  refine s_nil (xs_held [2, 2] ?_)
  refine h_l 20 rfl [2, 2] (fun _ => (Lt.to t_cmp (congrArg Value.bool ((by kernel_rfl) : (decide ((hsetMetaE (huntch (hset (hset (hmake hp0 (newO 4 0 ByteArray.empty [])) (hmakeV hp0 4) (numV 1) (strV ⟨#[97]⟩)) (hmakeV hp0 4) zVl (hmakeV hp0 4))) (numV 1) (hmakeV hp0 4)) = 8)) = true)))) ?_
  refine hp_ 21 [2, 2] (.bool true) ?_
  refine hp_ 22 [2, 2] (.bool true) ?_
  refine hp_ 23 [2, 2] (pB hb1 0) ?_
  refine h_stepS 24 ?_
  refine s_call [0] (hcount_s (st := (hsetMeta (huntch (hset (hset (hmake hp0 (newO 4 0 ByteArray.empty [])) (hmakeV hp0 4) (numV 1) (strV ⟨#[97]⟩)) (hmakeV hp0 4) zVl (hmakeV hp0 4))) (numV 1) (hmakeV hp0 4)))) ?_
  rintro _ _ ⟨rfl, rfl⟩
  refine s_nil (xs_held [2, 2] ?_)
  refine h_l 25 rfl [2, 2] (fun _ => (Lt.to t_cmp (congrArg Value.bool ((by kernel_rfl) : (decide (((hsetMeta (huntch (hset (hset (hmake hp0 (newO 4 0 ByteArray.empty [])) (hmakeV hp0 4) (numV 1) (strV ⟨#[97]⟩)) (hmakeV hp0 4) zVl (hmakeV hp0 4))) (numV 1) (hmakeV hp0 4)).count : Int) = 1)) = true)))) ?_
  refine hp_ 26 [2, 2] (.bool true) ?_
  refine hp_ 27 [2, 2] (.bool true) ?_
  refine hp_ 28 [2, 2] v16 ?_
  refine h_stepS 29 ?_
  refine s_lt (t_len iTy_ok Try.underlying54 (.own 1)) ?_
  refine s_nil (xs_held [2, 2] ?_)
  refine h_l 30 rfl [2, 2] (fun _ => (Lt.to t_cmp (congrArg Value.bool ((by kernel_rfl) : (decide (([1].length : Int) = 1)) = true)))) ?_
  refine hp_ 31 [2, 2] (.bool true) ?_
  refine hp_ 32 [2, 2] (.bool true) ?_
  refine hp_ 33 [2, 2] v16 ?_
  refine h_stepS 34 ?_
  refine s_lt (t_index iTy_ok Try.underlying54 (.own 1) 0 0 (by omega) (by (try simp only [lnm]); omega) (by omega)) ?_
  refine s_nil (xs_held [2, 2] ?_)
  refine h_stepS 35 ?_
  refine s_lt (t_loadE iTy_ok (.own 1) rfl) ?_
  refine s_nil (xs_held [2, 2] ?_)
  refine h_l 36 rfl [2, 2] (fun _ => (t_cmp (c := true))) ?_
  refine hp_ 37 [2, 2] (.bool true) ?_
  refine hp_ 38 [2, 2] (.bool true) ?_
  refine hp_ 39 [2, 2] (pB hb1 0) ?_
  refine h_stepS 40 ?_
  refine s_call [0] (htouched_s (st := (hsetMeta (huntch (hset (hset (hmake hp0 (newO 4 0 ByteArray.empty [])) (hmakeV hp0 4) (numV 1) (strV ⟨#[97]⟩)) (hmakeV hp0 4) zVl (hmakeV hp0 4))) (numV 1) (hmakeV hp0 4))) hs23 (by omega)) ?_
  rintro v25 _ rfl
  refine s_fact (fun H h => ((Acc.own (T := iTy) (L := (htchd (hsetMeta (huntch (hset (hset (hmake hp0 (newO 4 0 ByteArray.empty [])) (hmakeV hp0 4) (numV 1) (strV ⟨#[97]⟩)) (hmakeV hp0 4) zVl (hmakeV hp0 4))) (numV 1) (hmakeV hp0 4)))) 0 rfl) H h).form) (fun hf26 => ?_)
  have hi27 := untch_inv hi22
  have hs28 := untch_sm hs23
  have hw29 := untch_w hw24
  have htl30 : (htchd (hsetMeta (huntch (hset (hset (hmake hp0 (newO 4 0 ByteArray.empty [])) (hmakeV hp0 4) (numV 1) (strV ⟨#[97]⟩)) (hmakeV hp0 4) zVl (hmakeV hp0 4))) (numV 1) (hmakeV hp0 4))) = [] := by kernel_rfl
  refine s_mem (Bs := [own iTy v25 [], hpA hb1 (huntch (hsetMeta (huntch (hset (hset (hmake hp0 (newO 4 0 ByteArray.empty [])) (hmakeV hp0 4) (numV 1) (strV ⟨#[97]⟩)) (hmakeV hp0 4) zVl (hmakeV hp0 4))) (numV 1) (hmakeV hp0 4))), own iTy v16 [1], blkA g12 #[.int .i64 ((hgetV (hset (hset (hmake hp0 (newO 4 0 ByteArray.empty [])) (hmakeV hp0 4) (numV 1) (strV ⟨#[97]⟩)) (hmakeV hp0 4) zVl (hmakeV hp0 4)) (hmakeV hp0 4) (numV 1)).kind), .int .i64 ((hgetV (hset (hset (hmake hp0 (newO 4 0 ByteArray.empty [])) (hmakeV hp0 4) (numV 1) (strV ⟨#[97]⟩)) (hmakeV hp0 4) zVl (hmakeV hp0 4)) (hmakeV hp0 4) (numV 1)).p), .int .i64 ((hgetV (hset (hset (hmake hp0 (newO 4 0 ByteArray.empty [])) (hmakeV hp0 4) (numV 1) (strV ⟨#[97]⟩)) (hmakeV hp0 4) zVl (hmakeV hp0 4)) (hmakeV hp0 4) (numV 1)).q), .string ((hgetV (hset (hset (hmake hp0 (newO 4 0 ByteArray.empty [])) (hmakeV hp0 4) (numV 1) (strV ⟨#[97]⟩)) (hmakeV hp0 4) zVl (hmakeV hp0 4)) (hmakeV hp0 4) (numV 1)).str), .int .i64 ((hgetV (hset (hset (hmake hp0 (newO 4 0 ByteArray.empty [])) (hmakeV hp0 4) (numV 1) (strV ⟨#[97]⟩)) (hmakeV hp0 4) zVl (hmakeV hp0 4)) (hmakeV hp0 4) (numV 1)).ref)] 26, blkA g5 #[.int .i64 ((hmakeV hp0 4).kind), .int .i64 ((hmakeV hp0 4).p), .int .i64 ((hmakeV hp0 4).q), .string ((hmakeV hp0 4).str), .int .i64 ((hmakeV hp0 4).ref)] 26]) (fun _ h => by rw [htl30] at h; exact h) ?_
  refine s_nil (xs_held [3, 3] ?_)
  refine h_stepS 41 ?_
  refine s_lt (t_len iTy_ok Try.underlying54 (.own 0)) ?_
  refine s_nil (xs_held [3, 3] ?_)
  refine h_l 42 rfl [3, 3] (fun _ => (Lt.to t_cmp (congrArg Value.bool ((by kernel_rfl) : (decide (([].length : Int) = 0)) = true)))) ?_
  refine hp_ 43 [3, 3] (.bool true) ?_
  refine hp_ 44 [3, 3] (.bool true) ?_
  refine h_doneS ?_
  refine xs_then ?_
  refine k_ret ?_
  exact xs_fin [.bool true] [] (SI.tmp 0 SI.nil) (fun _ h => h.re [] [0, 0, 0, 0, 0]) ⟨rfl, rfl⟩
 refine h_join (ι := Nat) 6 #[true, true, true, false, false, false, false, true, false, false] (fun g13 => [(1, pB hb1 0), (2, pB g5 0), (4, pB g13 0), (41, pB hb1 0), (42, .agg #[.int .i64 ((hmakeV hp0 4).kind), .int .i64 ((hmakeV hp0 4).p), .int .i64 ((hmakeV hp0 4).q), .string ((hmakeV hp0 4).str), .int .i64 ((hmakeV hp0 4).ref)]), (43, .agg #[.int .i64 ((numV 1).kind), .int .i64 ((numV 1).p), .int .i64 ((numV 1).q), .string ((numV 1).str), .int .i64 ((numV 1).ref)])]) (fun g13 => [blkA g13 #[.int .i64 0, .int .i64 0, .int .i64 0, .string ByteArray.empty, .int .i64 0] 26, hpA hb1 (hset (hset (hmake hp0 (newO 4 0 ByteArray.empty [])) (hmakeV hp0 4) (numV 1) (strV ⟨#[97]⟩)) (hmakeV hp0 4) zVl (hmakeV hp0 4)), blkA g5 #[.int .i64 ((hmakeV hp0 4).kind), .int .i64 ((hmakeV hp0 4).p), .int .i64 ((hmakeV hp0 4).q), .string ((hmakeV hp0 4).str), .int .i64 ((hmakeV hp0 4).ref)] 26]) ?_ (fun hj31 => ?_)
 ·
  rintro g13
  try dsimp only
  refine h_stepS 3 ?_
  refine s_call [1] (hget_s (st := (hset (hset (hmake hp0 (newO 4 0 ByteArray.empty [])) (hmakeV hp0 4) (numV 1) (strV ⟨#[97]⟩)) (hmakeV hp0 4) zVl (hmakeV hp0 4))) hs10 (by omega) (hmakeV hp0 4) (numV 1)) ?_
  rintro _ _ ⟨rfl, rfl⟩
  refine s_nil (xs_held [2] ?_)
  refine hp_ 4 [2] (.tuple #[.agg #[.int .i64 ((hgetV (hset (hset (hmake hp0 (newO 4 0 ByteArray.empty [])) (hmakeV hp0 4) (numV 1) (strV ⟨#[97]⟩)) (hmakeV hp0 4) zVl (hmakeV hp0 4)) (hmakeV hp0 4) (numV 1)).kind), .int .i64 ((hgetV (hset (hset (hmake hp0 (newO 4 0 ByteArray.empty [])) (hmakeV hp0 4) (numV 1) (strV ⟨#[97]⟩)) (hmakeV hp0 4) zVl (hmakeV hp0 4)) (hmakeV hp0 4) (numV 1)).p), .int .i64 ((hgetV (hset (hset (hmake hp0 (newO 4 0 ByteArray.empty [])) (hmakeV hp0 4) (numV 1) (strV ⟨#[97]⟩)) (hmakeV hp0 4) zVl (hmakeV hp0 4)) (hmakeV hp0 4) (numV 1)).q), .string ((hgetV (hset (hset (hmake hp0 (newO 4 0 ByteArray.empty [])) (hmakeV hp0 4) (numV 1) (strV ⟨#[97]⟩)) (hmakeV hp0 4) zVl (hmakeV hp0 4)) (hmakeV hp0 4) (numV 1)).str), .int .i64 ((hgetV (hset (hset (hmake hp0 (newO 4 0 ByteArray.empty [])) (hmakeV hp0 4) (numV 1) (strV ⟨#[97]⟩)) (hmakeV hp0 4) zVl (hmakeV hp0 4)) (hmakeV hp0 4) (numV 1)).ref)], .int .i64 (hgetE (hset (hset (hmake hp0 (newO 4 0 ByteArray.empty [])) (hmakeV hp0 4) (numV 1) (strV ⟨#[97]⟩)) (hmakeV hp0 4) zVl (hmakeV hp0 4)) (hmakeV hp0 4))]) ?_
  refine hp_ 5 [2] (.agg #[.int .i64 ((hgetV (hset (hset (hmake hp0 (newO 4 0 ByteArray.empty [])) (hmakeV hp0 4) (numV 1) (strV ⟨#[97]⟩)) (hmakeV hp0 4) zVl (hmakeV hp0 4)) (hmakeV hp0 4) (numV 1)).kind), .int .i64 ((hgetV (hset (hset (hmake hp0 (newO 4 0 ByteArray.empty [])) (hmakeV hp0 4) (numV 1) (strV ⟨#[97]⟩)) (hmakeV hp0 4) zVl (hmakeV hp0 4)) (hmakeV hp0 4) (numV 1)).p), .int .i64 ((hgetV (hset (hset (hmake hp0 (newO 4 0 ByteArray.empty [])) (hmakeV hp0 4) (numV 1) (strV ⟨#[97]⟩)) (hmakeV hp0 4) zVl (hmakeV hp0 4)) (hmakeV hp0 4) (numV 1)).q), .string ((hgetV (hset (hset (hmake hp0 (newO 4 0 ByteArray.empty [])) (hmakeV hp0 4) (numV 1) (strV ⟨#[97]⟩)) (hmakeV hp0 4) zVl (hmakeV hp0 4)) (hmakeV hp0 4) (numV 1)).str), .int .i64 ((hgetV (hset (hset (hmake hp0 (newO 4 0 ByteArray.empty [])) (hmakeV hp0 4) (numV 1) (strV ⟨#[97]⟩)) (hmakeV hp0 4) zVl (hmakeV hp0 4)) (hmakeV hp0 4) (numV 1)).ref)]) ?_
  refine hp_ 6 [2] (.int .i64 (hgetE (hset (hset (hmake hp0 (newO 4 0 ByteArray.empty [])) (hmakeV hp0 4) (numV 1) (strV ⟨#[97]⟩)) (hmakeV hp0 4) zVl (hmakeV hp0 4)) (hmakeV hp0 4))) ?_
  exact h_use hj15 g13 (fun _ h => h.re [1, 0, 0] [])
 refine h_stepS2 2 7 ?_ ?_
 ·
  refine s_vcall (fun _ h => lnum_s 1) ?_
  rintro _ rfl
  refine s_nil (xs_held [1] ?_)
  refine h_stepS2 3 7 ?_ ?_
  ·
   refine s_call [0] (hget_s (st := (hset (hset (hmake hp0 (newO 4 0 ByteArray.empty [])) (hmakeV hp0 4) (numV 1) (strV ⟨#[97]⟩)) (hmakeV hp0 4) zVl (hmakeV hp0 4))) hs10 (by omega) (hmakeV hp0 4) (numV 1)) ?_
   rintro _ _ ⟨rfl, rfl⟩
   refine s_nil (xs_held [1] ?_)
   refine hp_ 4 [1] (.tuple #[.agg #[.int .i64 ((hgetV (hset (hset (hmake hp0 (newO 4 0 ByteArray.empty [])) (hmakeV hp0 4) (numV 1) (strV ⟨#[97]⟩)) (hmakeV hp0 4) zVl (hmakeV hp0 4)) (hmakeV hp0 4) (numV 1)).kind), .int .i64 ((hgetV (hset (hset (hmake hp0 (newO 4 0 ByteArray.empty [])) (hmakeV hp0 4) (numV 1) (strV ⟨#[97]⟩)) (hmakeV hp0 4) zVl (hmakeV hp0 4)) (hmakeV hp0 4) (numV 1)).p), .int .i64 ((hgetV (hset (hset (hmake hp0 (newO 4 0 ByteArray.empty [])) (hmakeV hp0 4) (numV 1) (strV ⟨#[97]⟩)) (hmakeV hp0 4) zVl (hmakeV hp0 4)) (hmakeV hp0 4) (numV 1)).q), .string ((hgetV (hset (hset (hmake hp0 (newO 4 0 ByteArray.empty [])) (hmakeV hp0 4) (numV 1) (strV ⟨#[97]⟩)) (hmakeV hp0 4) zVl (hmakeV hp0 4)) (hmakeV hp0 4) (numV 1)).str), .int .i64 ((hgetV (hset (hset (hmake hp0 (newO 4 0 ByteArray.empty [])) (hmakeV hp0 4) (numV 1) (strV ⟨#[97]⟩)) (hmakeV hp0 4) zVl (hmakeV hp0 4)) (hmakeV hp0 4) (numV 1)).ref)], .int .i64 (hgetE (hset (hset (hmake hp0 (newO 4 0 ByteArray.empty [])) (hmakeV hp0 4) (numV 1) (strV ⟨#[97]⟩)) (hmakeV hp0 4) zVl (hmakeV hp0 4)) (hmakeV hp0 4))]) ?_
   refine hp_ 5 [1] (.agg #[.int .i64 ((hgetV (hset (hset (hmake hp0 (newO 4 0 ByteArray.empty [])) (hmakeV hp0 4) (numV 1) (strV ⟨#[97]⟩)) (hmakeV hp0 4) zVl (hmakeV hp0 4)) (hmakeV hp0 4) (numV 1)).kind), .int .i64 ((hgetV (hset (hset (hmake hp0 (newO 4 0 ByteArray.empty [])) (hmakeV hp0 4) (numV 1) (strV ⟨#[97]⟩)) (hmakeV hp0 4) zVl (hmakeV hp0 4)) (hmakeV hp0 4) (numV 1)).p), .int .i64 ((hgetV (hset (hset (hmake hp0 (newO 4 0 ByteArray.empty [])) (hmakeV hp0 4) (numV 1) (strV ⟨#[97]⟩)) (hmakeV hp0 4) zVl (hmakeV hp0 4)) (hmakeV hp0 4) (numV 1)).q), .string ((hgetV (hset (hset (hmake hp0 (newO 4 0 ByteArray.empty [])) (hmakeV hp0 4) (numV 1) (strV ⟨#[97]⟩)) (hmakeV hp0 4) zVl (hmakeV hp0 4)) (hmakeV hp0 4) (numV 1)).str), .int .i64 ((hgetV (hset (hset (hmake hp0 (newO 4 0 ByteArray.empty [])) (hmakeV hp0 4) (numV 1) (strV ⟨#[97]⟩)) (hmakeV hp0 4) zVl (hmakeV hp0 4)) (hmakeV hp0 4) (numV 1)).ref)]) ?_
   refine hp_ 6 [1] (.int .i64 (hgetE (hset (hset (hmake hp0 (newO 4 0 ByteArray.empty [])) (hmakeV hp0 4) (numV 1) (strV ⟨#[97]⟩)) (hmakeV hp0 4) zVl (hmakeV hp0 4)) (hmakeV hp0 4))) ?_
   refine h_stepS 7 ?_
   refine s_alloc (.agg #[.int .i64 0, .int .i64 0, .int .i64 0, .string ByteArray.empty, .int .i64 0]) #[.int .i64 0, .int .i64 0, .int .i64 0, .string ByteArray.empty, .int .i64 0] (fun g32 => ?_)
   refine s_nil (xs_held [2] ?_)
   exact h_use hj15 g32 (fun _ h => h.re [0, 0, 0] [])
  ·
   refine s_alloc (.agg #[.int .i64 0, .int .i64 0, .int .i64 0, .string ByteArray.empty, .int .i64 0]) #[.int .i64 0, .int .i64 0, .int .i64 0, .string ByteArray.empty, .int .i64 0] (fun g33 => ?_)
   refine s_nil (xs_held [2] ?_)
   exact h_use hj31 g33 (fun _ h => h.re [0, 0, 0] [])
 ·
  refine s_alloc (.agg #[.int .i64 0, .int .i64 0, .int .i64 0, .string ByteArray.empty, .int .i64 0]) #[.int .i64 0, .int .i64 0, .int .i64 0, .string ByteArray.empty, .int .i64 0] (fun g34 => ?_)
  refine s_nil (xs_held [2] ?_)
  refine h_stepS 2 ?_
  refine s_vcall (fun _ h => lnum_s 1) ?_
  rintro _ rfl
  refine s_nil (xs_held [2] ?_)
  exact h_use hj31 g34 (fun _ h => h.re [0, 0, 0] [])
/-- What 'long' leaves: at most 100 calls, their lists short. -/
def shortC (c : Cl) : Prop := c.a.str.size ≤ 4106 ∧ c.b.str.size ≤ 4106 ∧ c.c.str.size ≤ 4106 ∧ c.s.size ≤ 100 ∧ c.l.length ≤ 20
theorem short_step {l : List Cl} {i : Nat} {y : Cl} (h : ∀ x ∈ l.take i, shortC x) (hy : l[i]? = some y) (h2 : shortC y) : ∀ x ∈ l.take (i + 1), shortC x := fun x hx => by
  rw [List.take_add_one, hy] at hx
  rcases List.mem_append.1 hx with hx | hx
  · exact h x hx
  · rw [Option.toList_some, List.mem_singleton] at hx; rw [hx]; exact h2
theorem long_s {Z : Zone} {lv : Value} {l : List Cl} (hL : KnL Z lv l) : SF Try.prog 8 #[lv] Z [] fun r Bs => ∃ x, r = .bool x ∧ (x = false → l.length ≤ 100 ∧ ∀ x ∈ l, shortC x) ∧ Bs = [] := by
 refine sf_enter Try.func8 69 [(0, lv)] (fun w0 => ?_)
 refine k_sr ?_
 refine sp (.bool false) ?_
 refine s_nt ?_
 refine k_seq ?_
 refine k_sr ?_
 refine sp (.int .i64 0) ?_
 refine s_nt ?_
 refine k_block ?_
 refine k_fact (fun H h => (hL.obs.get h).len_le) (fun lA => ?_)
 refine k_loop (ι := Nat) (fun i => i ≤ 100 ∧ i ≤ l.length ∧ ∀ x ∈ l.take i, shortC x) (fun i => [(0, lv), (3, .int .i64 (i : Int))]) (fun i => []) (fun i => 100 - i) 0 ⟨by omega, by omega, by simp⟩ (sub_of rfl ⟨⟨rfl, rfl⟩, ⟨⟨rfl, rfl⟩, trivial⟩⟩) (fun _ h => h.re [] []) ?_
 rintro i hi1
 show SK _ _ _ _ _ [(0, lv), (3, .int .i64 (i : Int))] _ []
 refine k_seq ?_
 refine k_cut (ι := Unit) (fun _ => True) (fun _ => [(0, lv), (3, .int .i64 (i : Int)), (13, .bool ((decide ((i : Int) < (l.length : Int))) && (decide ((i : Int) < 100))))]) (fun _ => []) ?_ (fun _ _ => ?_)
 ·
  refine k_reg ?_
  refine sp (.int .i64 (i : Int)) ?_
  refine sp lv ?_
  refine s_lt (t_len ClT_ok Try.underlying30 (.zn hL.obs)) ?_
  refine s_lt t_cmp ?_
  refine sp (.bool (decide ((i : Int) < (l.length : Int)))) ?_
  refine s_fork 10 (decide ((i : Int) < (l.length : Int))) (fun c2 => ?_) (fun c2 => ?_)
  ·
   have p3 := of_decide_eq_true c2
   refine sp (.int .i64 (i : Int)) ?_
   refine s_lt t_cmp ?_
   refine sp (.bool (decide ((i : Int) < 100))) ?_
   refine s_nil ?_
   exact xs_cut () trivial (sub_of rfl ⟨⟨rfl, rfl⟩, ⟨⟨rfl, rfl⟩, ⟨⟨rfl, show Value.bool (decide ((i : Int) < 100)) = Value.bool ((decide ((i : Int) < (l.length : Int))) && (decide ((i : Int) < 100))) by first | (simp only [c2, bls]; done) | simp [c2]⟩, trivial⟩⟩⟩) (fun _ h => h.re [] [])
  ·
   have p4 := of_decide_eq_false c2
   refine s_skip ?_
   refine s_skip ?_
   refine sp (.bool false) ?_
   refine s_nil ?_
   exact xs_cut () trivial (sub_of rfl ⟨⟨rfl, rfl⟩, ⟨⟨rfl, rfl⟩, ⟨⟨rfl, show Value.bool false = Value.bool ((decide ((i : Int) < (l.length : Int))) && (decide ((i : Int) < 100))) by first | (simp only [c2, bls]; done) | simp [c2]⟩, trivial⟩⟩⟩) (fun _ h => h.re [] [])
 ·
  refine k_cond ((decide ((i : Int) < (l.length : Int))) && (decide ((i : Int) < 100))) (fun c5 => ?_) (fun c5 => ?_)
  ·
   obtain ⟨c6, c7⟩ := and_t c5
   have p8 := of_decide_eq_true c6
   have p9 := of_decide_eq_true c7
   refine k_st ?_
   refine k_seq ?_
   refine k_block ?_
   refine k_sr ?_
   refine sp lv ?_
   refine sp (.int .i64 (i : Int)) ?_
   refine s_lt (t_index ClT_ok Try.underlying30 (.zn hL.obs) (i : Int) i (by omega) (by (try simp only [lnm]); omega) (by omega)) ?_
   obtain ⟨y10, hy11⟩ : ∃ y, l[i]? = some y := ⟨_, List.getElem?_eq_getElem (by (try simp only [lnm]); omega)⟩
   refine s_lt (t_loadE ClT_ok (.zn hL.obs) hy11) ?_
   refine s_alloc (.agg #[.int .i64 0, .int .i64 0, .int .i64 0, .int .i64 0, .string ByteArray.empty, .int .i64 0, .int .i64 0, .int .i64 0, .int .i64 0, .string ByteArray.empty, .int .i64 0, .int .i64 0, .int .i64 0, .int .i64 0, .string ByteArray.empty, .int .i64 0, .int .i64 0, .string ByteArray.empty, (.slice none 0 0)]) #[.int .i64 0, .int .i64 0, .int .i64 0, .int .i64 0, .string ByteArray.empty, .int .i64 0, .int .i64 0, .int .i64 0, .int .i64 0, .string ByteArray.empty, .int .i64 0, .int .i64 0, .int .i64 0, .int .i64 0, .string ByteArray.empty, .int .i64 0, .int .i64 0, .string ByteArray.empty, (.slice none 0 0)] (fun g12 => ?_)
   refine s_store 0 #[.int .i64 y10.kind, .int .i64 y10.a.kind, .int .i64 y10.a.p, .int .i64 y10.a.q, .string y10.a.str, .int .i64 y10.a.ref, .int .i64 y10.b.kind, .int .i64 y10.b.p, .int .i64 y10.b.q, .string y10.b.str, .int .i64 y10.b.ref, .int .i64 y10.c.kind, .int .i64 y10.c.p, .int .i64 y10.c.q, .string y10.c.str, .int .i64 y10.c.ref, .int .i64 y10.n, .string y10.s, y10.lv.v] ?_
   refine s_nt ?_
   refine k_seq ?_
   refine k_cut (ι := Unit) (fun _ => True) (fun _ => [(0, lv), (3, .int .i64 (i : Int)), (4, pB g12 0), (50, .bool ((decide ((4106 : Int) < (y10.a.str.size : Int))) || ((decide ((4106 : Int) < (y10.b.str.size : Int))) || ((decide ((4106 : Int) < (y10.c.str.size : Int))) || ((decide ((100 : Int) < (y10.s.size : Int))) || (decide ((20 : Int) < (y10.l.length : Int))))))))]) (fun _ => [blkA g12 #[.int .i64 y10.kind, .int .i64 y10.a.kind, .int .i64 y10.a.p, .int .i64 y10.a.q, .string y10.a.str, .int .i64 y10.a.ref, .int .i64 y10.b.kind, .int .i64 y10.b.p, .int .i64 y10.b.q, .string y10.b.str, .int .i64 y10.b.ref, .int .i64 y10.c.kind, .int .i64 y10.c.p, .int .i64 y10.c.q, .string y10.c.str, .int .i64 y10.c.ref, .int .i64 y10.n, .string y10.s, y10.lv.v] 29]) ?_ (fun _ _ => ?_)
   ·
    refine k_reg ?_
    refine sp (pB g12 1) ?_
    refine sp (pB g12 4) ?_
    refine s_lt (t_load 0 (.string y10.a.str)) ?_
    refine s_lt (t_kern (.int .i64 (y10.a.str.size : Int))) ?_
    refine s_lt t_cmp ?_
    refine sp (.bool (decide ((4106 : Int) < (y10.a.str.size : Int)))) ?_
    refine s_fork 25 (decide ((4106 : Int) < (y10.a.str.size : Int))) (fun c13 => ?_) (fun c13 => ?_)
    ·
     have p14 := of_decide_eq_true c13
     refine s_skip ?_
     refine s_skip ?_
     refine s_skip ?_
     refine s_skip ?_
     refine s_skip ?_
     refine sp (.bool true) ?_
     refine sp (.bool true) ?_
     refine s_skip ?_
     refine s_skip ?_
     refine s_skip ?_
     refine s_skip ?_
     refine s_skip ?_
     refine sp (.bool true) ?_
     refine sp (.bool true) ?_
     refine s_skip ?_
     refine s_skip ?_
     refine s_skip ?_
     refine s_skip ?_
     refine sp (.bool true) ?_
     refine sp (.bool true) ?_
     refine s_skip ?_
     refine s_skip ?_
     refine s_skip ?_
     refine s_skip ?_
     refine sp (.bool true) ?_
     refine s_nil ?_
     exact xs_cut () trivial (sub_of rfl ⟨⟨rfl, rfl⟩, ⟨⟨rfl, rfl⟩, ⟨⟨rfl, rfl⟩, ⟨⟨rfl, show Value.bool true = Value.bool ((decide ((4106 : Int) < (y10.a.str.size : Int))) || ((decide ((4106 : Int) < (y10.b.str.size : Int))) || ((decide ((4106 : Int) < (y10.c.str.size : Int))) || ((decide ((100 : Int) < (y10.s.size : Int))) || (decide ((20 : Int) < (y10.l.length : Int))))))) by first | (simp only [c13, bls]; done) | simp [c13]⟩, trivial⟩⟩⟩⟩) (fun _ h => h.re [0] [])
    ·
     have p15 := of_decide_eq_false c13
     refine sp (pB g12 6) ?_
     refine sp (pB g12 9) ?_
     refine s_lt (t_load 0 (.string y10.b.str)) ?_
     refine s_lt (t_kern (.int .i64 (y10.b.str.size : Int))) ?_
     refine s_lt t_cmp ?_
     refine sp (.bool (decide ((4106 : Int) < (y10.b.str.size : Int)))) ?_
     refine sp (.bool (decide ((4106 : Int) < (y10.b.str.size : Int)))) ?_
     refine s_fork 32 (decide ((4106 : Int) < (y10.b.str.size : Int))) (fun c16 => ?_) (fun c16 => ?_)
     ·
      have p17 := of_decide_eq_true c16
      refine s_skip ?_
      refine s_skip ?_
      refine s_skip ?_
      refine s_skip ?_
      refine s_skip ?_
      refine sp (.bool true) ?_
      refine sp (.bool true) ?_
      refine s_skip ?_
      refine s_skip ?_
      refine s_skip ?_
      refine s_skip ?_
      refine sp (.bool true) ?_
      refine sp (.bool true) ?_
      refine s_skip ?_
      refine s_skip ?_
      refine s_skip ?_
      refine s_skip ?_
      refine sp (.bool true) ?_
      refine s_nil ?_
      exact xs_cut () trivial (sub_of rfl ⟨⟨rfl, rfl⟩, ⟨⟨rfl, rfl⟩, ⟨⟨rfl, rfl⟩, ⟨⟨rfl, show Value.bool true = Value.bool ((decide ((4106 : Int) < (y10.a.str.size : Int))) || ((decide ((4106 : Int) < (y10.b.str.size : Int))) || ((decide ((4106 : Int) < (y10.c.str.size : Int))) || ((decide ((100 : Int) < (y10.s.size : Int))) || (decide ((20 : Int) < (y10.l.length : Int))))))) by first | (simp only [c13, c16, bls]; done) | simp [c13, c16]⟩, trivial⟩⟩⟩⟩) (fun _ h => h.re [0] [])
     ·
      have p18 := of_decide_eq_false c16
      refine sp (pB g12 11) ?_
      refine sp (pB g12 14) ?_
      refine s_lt (t_load 0 (.string y10.c.str)) ?_
      refine s_lt (t_kern (.int .i64 (y10.c.str.size : Int))) ?_
      refine s_lt t_cmp ?_
      refine sp (.bool (decide ((4106 : Int) < (y10.c.str.size : Int)))) ?_
      refine sp (.bool (decide ((4106 : Int) < (y10.c.str.size : Int)))) ?_
      refine s_fork 39 (decide ((4106 : Int) < (y10.c.str.size : Int))) (fun c19 => ?_) (fun c19 => ?_)
      ·
       have p20 := of_decide_eq_true c19
       refine s_skip ?_
       refine s_skip ?_
       refine s_skip ?_
       refine s_skip ?_
       refine sp (.bool true) ?_
       refine sp (.bool true) ?_
       refine s_skip ?_
       refine s_skip ?_
       refine s_skip ?_
       refine s_skip ?_
       refine sp (.bool true) ?_
       refine s_nil ?_
       exact xs_cut () trivial (sub_of rfl ⟨⟨rfl, rfl⟩, ⟨⟨rfl, rfl⟩, ⟨⟨rfl, rfl⟩, ⟨⟨rfl, show Value.bool true = Value.bool ((decide ((4106 : Int) < (y10.a.str.size : Int))) || ((decide ((4106 : Int) < (y10.b.str.size : Int))) || ((decide ((4106 : Int) < (y10.c.str.size : Int))) || ((decide ((100 : Int) < (y10.s.size : Int))) || (decide ((20 : Int) < (y10.l.length : Int))))))) by first | (simp only [c13, c16, c19, bls]; done) | simp [c13, c16, c19]⟩, trivial⟩⟩⟩⟩) (fun _ h => h.re [0] [])
      ·
       have p21 := of_decide_eq_false c19
       refine sp (pB g12 17) ?_
       refine s_lt (t_load 0 (.string y10.s)) ?_
       refine s_lt (t_kern (.int .i64 (y10.s.size : Int))) ?_
       refine s_lt t_cmp ?_
       refine sp (.bool (decide ((100 : Int) < (y10.s.size : Int)))) ?_
       refine sp (.bool (decide ((100 : Int) < (y10.s.size : Int)))) ?_
       refine s_fork 45 (decide ((100 : Int) < (y10.s.size : Int))) (fun c22 => ?_) (fun c22 => ?_)
       ·
        have p23 := of_decide_eq_true c22
        refine s_skip ?_
        refine s_skip ?_
        refine s_skip ?_
        refine s_skip ?_
        refine sp (.bool true) ?_
        refine s_nil ?_
        exact xs_cut () trivial (sub_of rfl ⟨⟨rfl, rfl⟩, ⟨⟨rfl, rfl⟩, ⟨⟨rfl, rfl⟩, ⟨⟨rfl, show Value.bool true = Value.bool ((decide ((4106 : Int) < (y10.a.str.size : Int))) || ((decide ((4106 : Int) < (y10.b.str.size : Int))) || ((decide ((4106 : Int) < (y10.c.str.size : Int))) || ((decide ((100 : Int) < (y10.s.size : Int))) || (decide ((20 : Int) < (y10.l.length : Int))))))) by first | (simp only [c13, c16, c19, c22, bls]; done) | simp [c13, c16, c19, c22]⟩, trivial⟩⟩⟩⟩) (fun _ h => h.re [0] [])
       ·
        have p24 := of_decide_eq_false c22
        refine sp (pB g12 18) ?_
        refine s_lt (t_load 0 y10.lv.v) ?_
        refine s_lt (t_len VlT_ok Try.underlying22 (.zn (hL.each y10 (List.mem_of_getElem? hy11)))) ?_
        refine s_lt t_cmp ?_
        refine sp (.bool (decide ((20 : Int) < (y10.l.length : Int)))) ?_
        refine s_nil ?_
        exact xs_cut () trivial (sub_of rfl ⟨⟨rfl, rfl⟩, ⟨⟨rfl, rfl⟩, ⟨⟨rfl, rfl⟩, ⟨⟨rfl, show Value.bool (decide ((20 : Int) < (y10.l.length : Int))) = Value.bool ((decide ((4106 : Int) < (y10.a.str.size : Int))) || ((decide ((4106 : Int) < (y10.b.str.size : Int))) || ((decide ((4106 : Int) < (y10.c.str.size : Int))) || ((decide ((100 : Int) < (y10.s.size : Int))) || (decide ((20 : Int) < (y10.l.length : Int))))))) by first | (simp only [c13, c16, c19, c22, bls]; done) | simp [c13, c16, c19, c22]⟩, trivial⟩⟩⟩⟩) (fun _ h => h.re [0] [])
   ·
    refine k_cond ((decide ((4106 : Int) < (y10.a.str.size : Int))) || ((decide ((4106 : Int) < (y10.b.str.size : Int))) || ((decide ((4106 : Int) < (y10.c.str.size : Int))) || ((decide ((100 : Int) < (y10.s.size : Int))) || (decide ((20 : Int) < (y10.l.length : Int))))))) (fun c25 => ?_) (fun c25 => ?_)
    ·
     have p26 := c25
     simp only [Bool.and_eq_true, Bool.or_eq_true, Bool.and_eq_false_iff, Bool.or_eq_false_iff, Bool.not_eq_true', Bool.not_eq_false', decide_eq_true_eq, decide_eq_false_iff_not] at p26
     refine k_sr ?_
     refine sp (.bool true) ?_
     refine s_nt ?_
     refine k_ret ?_
     refine xs_ret ?_
     refine xs_retBlock ?_
     refine xs_ret ?_
     refine xs_ret ?_
     refine xs_retBlock ?_
     refine xs_ret ?_
     exact xs_fin [.bool true] [] (SI.tmp 2 SI.nil) (fun _ h => h.re [] [0]) ⟨true, rfl, (fun h => by cases h), rfl⟩
    ·
     obtain ⟨c27, c28⟩ := or_f c25
     have p29 := of_decide_eq_false c27
     obtain ⟨c30, c31⟩ := or_f c28
     have p32 := of_decide_eq_false c30
     obtain ⟨c33, c34⟩ := or_f c31
     have p35 := of_decide_eq_false c33
     obtain ⟨c36, c37⟩ := or_f c34
     have p38 := of_decide_eq_false c36
     have p39 := of_decide_eq_false c37
     refine k_st ?_
     refine k_sr ?_
     refine sp (.int .i64 0) ?_
     refine s_nt ?_
     refine k_block ?_
     refine k_loop (ι := Nat) (fun j => j ≤ y10.l.length) (fun j => [(0, lv), (3, .int .i64 (i : Int)), (4, pB g12 0), (5, .int .i64 (j : Int))]) (fun j => [blkA g12 #[.int .i64 y10.kind, .int .i64 y10.a.kind, .int .i64 y10.a.p, .int .i64 y10.a.q, .string y10.a.str, .int .i64 y10.a.ref, .int .i64 y10.b.kind, .int .i64 y10.b.p, .int .i64 y10.b.q, .string y10.b.str, .int .i64 y10.b.ref, .int .i64 y10.c.kind, .int .i64 y10.c.p, .int .i64 y10.c.q, .string y10.c.str, .int .i64 y10.c.ref, .int .i64 y10.n, .string y10.s, y10.lv.v] 29]) (fun j => y10.l.length - j) 0 (Nat.zero_le _) (sub_of rfl ⟨⟨rfl, rfl⟩, ⟨⟨rfl, rfl⟩, ⟨⟨rfl, rfl⟩, ⟨⟨rfl, rfl⟩, trivial⟩⟩⟩⟩) (fun _ h => h.re [0] []) ?_
     rintro j hi40
     show SK _ _ _ _ _ [(0, lv), (3, .int .i64 (i : Int)), (4, .pointer (some ⟨g12, 0, none⟩)), (5, .int .i64 (j : Int))] _ [blkA g12 #[.int .i64 y10.kind, .int .i64 y10.a.kind, .int .i64 y10.a.p, .int .i64 y10.a.q, .string y10.a.str, .int .i64 y10.a.ref, .int .i64 y10.b.kind, .int .i64 y10.b.p, .int .i64 y10.b.q, .string y10.b.str, .int .i64 y10.b.ref, .int .i64 y10.c.kind, .int .i64 y10.c.p, .int .i64 y10.c.q, .string y10.c.str, .int .i64 y10.c.ref, .int .i64 y10.n, .string y10.s, y10.lv.v] 29]
     refine k_seq ?_
     refine k_sr ?_
     refine sp (.int .i64 (j : Int)) ?_
     refine sp (pB g12 18) ?_
     refine s_lt (t_load 0 y10.lv.v) ?_
     refine s_lt (t_len VlT_ok Try.underlying22 (.zn (hL.each y10 (List.mem_of_getElem? hy11)))) ?_
     refine s_lt t_cmp ?_
     refine s_nt ?_
     refine k_cond (decide ((j : Int) < (y10.l.length : Int))) (fun c41 => ?_) (fun c41 => ?_)
     ·
      have p42 := of_decide_eq_true c41
      refine k_st ?_
      refine k_seq ?_
      refine k_block ?_
      refine k_sr ?_
      refine sp (pB g12 18) ?_
      refine s_lt (t_load 0 y10.lv.v) ?_
      refine sp (.int .i64 (j : Int)) ?_
      refine s_lt (t_index VlT_ok Try.underlying22 (.zn (hL.each y10 (List.mem_of_getElem? hy11))) (j : Int) j (by omega) (by (try simp only [lnm]); omega) (by omega)) ?_
      refine sp (.pointer (some ((elemAt VlT.size y10.lv.v j).add 3))) ?_
      obtain ⟨y43, hy44⟩ : ∃ y, y10.l[j]? = some y := ⟨_, List.getElem?_eq_getElem (by (try simp only [lnm]); omega)⟩
      refine s_lt (t_loadF 3 VlT_ok (.zn (hL.each y10 (List.mem_of_getElem? hy11))) hy44) ?_
      refine s_lt (t_kern (.int .i64 (y43.str.size : Int))) ?_
      refine s_lt t_cmp ?_
      refine s_nt ?_
      refine k_cond (decide ((4106 : Int) < (y43.str.size : Int))) (fun c45 => ?_) (fun c45 => ?_)
      ·
       have p46 := of_decide_eq_true c45
       refine k_sr ?_
       refine sp (.bool true) ?_
       refine s_nt ?_
       refine k_ret ?_
       refine xs_retBlock ?_
       refine xs_ret ?_
       refine xs_ret ?_
       refine xs_retBlock ?_
       refine xs_retBlock ?_
       refine xs_ret ?_
       refine xs_ret ?_
       refine xs_retBlock ?_
       refine xs_ret ?_
       exact xs_fin [.bool true] [] (SI.tmp 2 SI.nil) (fun _ h => h.re [] [0]) ⟨true, rfl, (fun h => by cases h), rfl⟩
      ·
       have p47 := of_decide_eq_false c45
       refine k_skip ?_
       refine xs_block ?_
       refine xs_then ?_
       refine k_reg ?_
       refine sp (.int .i64 (j : Int)) ?_
       refine s_lt (t_add (j : Int) 1 (by (try simp only [lnm]); omega)) ?_
       refine sp (.int .i64 ((j : Int) + 1)) ?_
       refine s_nil ?_
       exact xs_round (j + 1) (by omega) (by omega) (sub_of rfl ⟨⟨rfl, rfl⟩, ⟨⟨rfl, rfl⟩, ⟨⟨rfl, rfl⟩, ⟨⟨rfl, rfl⟩, trivial⟩⟩⟩⟩) (fun _ h => h.re [0] [])
     ·
      have p48 := of_decide_eq_false c41
      refine k_exit ?_
      refine xs_exit ?_
      refine xs_exit ?_
      refine xs_here ?_
      refine xs_block ?_
      refine xs_then ?_
      refine k_reg ?_
      refine sp (.int .i64 (i : Int)) ?_
      refine s_lt (t_add (i : Int) 1 (by (try simp only [lnm]); omega)) ?_
      refine sp (.int .i64 ((i : Int) + 1)) ?_
      refine s_nil ?_
      exact xs_round (i + 1) (by omega) ⟨by omega, by omega, short_step hi1.2.2 hy11 ⟨by omega, by omega, by omega, by omega, by omega⟩⟩ (sub_of rfl ⟨⟨rfl, rfl⟩, ⟨⟨rfl, rfl⟩, trivial⟩⟩) (fun _ h => h.re [] [0])
  ·
   have p49 := c5
   simp only [Bool.and_eq_true, Bool.or_eq_true, Bool.and_eq_false_iff, Bool.or_eq_false_iff, Bool.not_eq_true', Bool.not_eq_false', decide_eq_true_eq, decide_eq_false_iff_not] at p49
   refine k_exit ?_
   refine xs_exit ?_
   refine xs_exit ?_
   refine xs_here ?_
   refine xs_then ?_
   refine k_sr ?_
   refine sp lv ?_
   refine s_lt (t_len ClT_ok Try.underlying30 (.zn hL.obs)) ?_
   refine s_lt t_cmp ?_
   refine sp (.bool (decide ((100 : Int) < (l.length : Int)))) ?_
   refine s_nt ?_
   refine k_ret ?_
   refine xs_fin [.bool (decide ((100 : Int) < (l.length : Int)))] [] (SI.tmp 2 SI.nil) (fun _ h => h.re [] []) ⟨_, rfl, fun hq => ?_, rfl⟩
   have hl := of_decide_eq_false hq; have hall := hi1.2.2; rw [List.take_of_length_le (by omega)] at hall; exact ⟨by omega, hall⟩
theorem KnL.up {Z : Zone} {As : List Asr} {H : Heap} {lv : Value} {l : List Cl} (k : KnL Z lv l) (h : Holds Z As H) : KnL (zoneOf H) lv l := ⟨k.obs.up h, fun x hx => (k.each x hx).up h⟩
theorem program_s {Z : Zone} {F : List Asr} {b : Nat} {st : Hst} {n : Nat} (hsm : HSm n st) (hn : n ≤ 300) (hw : HW st) {c : Cl} (hc : KnC Z c) (hcl : c.l.length ≤ 20) : SF Try.prog 30 #[.pointer (some ⟨b, 0, none⟩), c.w] Z (hpA b st :: F) fun r Bs => r = (hres st c).w_ ∧ Bs = hpA b (hcall st c) :: F := by
 refine sf_enter Try.func30 246 [(0, pB b 0), (1, .agg #[.int .i64 c.kind, .int .i64 c.a.kind, .int .i64 c.a.p, .int .i64 c.a.q, .string c.a.str, .int .i64 c.a.ref, .int .i64 c.b.kind, .int .i64 c.b.p, .int .i64 c.b.q, .string c.b.str, .int .i64 c.b.ref, .int .i64 c.c.kind, .int .i64 c.c.p, .int .i64 c.c.q, .string c.c.str, .int .i64 c.c.ref, .int .i64 c.n, .string c.s, c.lv.v])] (fun w0 => ?_)
 refine k_fact (fun H h => hpA_inv h) (fun hi0 => ?_)
 refine k_sr ?_
 refine s_box #[.int .i64 c.kind, .int .i64 c.a.kind, .int .i64 c.a.p, .int .i64 c.a.q, .string c.a.str, .int .i64 c.a.ref, .int .i64 c.b.kind, .int .i64 c.b.p, .int .i64 c.b.q, .string c.b.str, .int .i64 c.b.ref, .int .i64 c.c.kind, .int .i64 c.c.p, .int .i64 c.c.q, .string c.c.str, .int .i64 c.c.ref, .int .i64 c.n, .string c.s, c.lv.v] (fun g1 => ?_)
 refine s_alloc (.agg #[.int .i64 0, .int .i64 0, .int .i64 0, .string ByteArray.empty, .int .i64 0, .int .i64 0, .int .i64 0, .int .i64 0, .string ByteArray.empty, .int .i64 0, .int .i64 0, .string ByteArray.empty, .bool false, .int .i64 0]) #[.int .i64 0, .int .i64 0, .int .i64 0, .string ByteArray.empty, .int .i64 0, .int .i64 0, .int .i64 0, .int .i64 0, .string ByteArray.empty, .int .i64 0, .int .i64 0, .string ByteArray.empty, .bool false, .int .i64 0] (fun g2 => ?_)
 refine s_nr ?_
 refine s_lt (t_kern (.agg #[.int .i64 0, .int .i64 0, .int .i64 0, .string ByteArray.empty, .int .i64 0, .int .i64 0, .int .i64 0, .int .i64 0, .string ByteArray.empty, .int .i64 0, .int .i64 0, .string ByteArray.empty, .bool false, .int .i64 0])) ?_
 refine s_alloc (.agg #[.int .i64 0, .int .i64 0, .int .i64 0, .string ByteArray.empty, .int .i64 0, .int .i64 0, .int .i64 0, .int .i64 0, .string ByteArray.empty, .int .i64 0, .int .i64 0, .string ByteArray.empty, .bool false, .int .i64 0]) #[.int .i64 0, .int .i64 0, .int .i64 0, .string ByteArray.empty, .int .i64 0, .int .i64 0, .int .i64 0, .int .i64 0, .string ByteArray.empty, .int .i64 0, .int .i64 0, .string ByteArray.empty, .bool false, .int .i64 0] (fun g3 => ?_)
 refine s_store 0 #[.int .i64 0, .int .i64 0, .int .i64 0, .string ByteArray.empty, .int .i64 0, .int .i64 0, .int .i64 0, .int .i64 0, .string ByteArray.empty, .int .i64 0, .int .i64 0, .string ByteArray.empty, .bool false, .int .i64 0] ?_
 refine s_nt ?_
 refine k_seq ?_
 refine k_sr ?_
 refine sp (pB g1 0) ?_
 refine s_lt (t_load 2 (.int .i64 c.kind)) ?_
 refine s_nt ?_
 refine k_block ?_
 refine k_sr ?_
 refine s_lt t_cmp ?_
 refine sp (.bool (decide (c.kind = 0))) ?_
 refine s_nt ?_
 refine k_cond (decide (c.kind = 0)) (fun c4 => ?_) (fun c4 => ?_)
 ·
  have p5 := of_decide_eq_true c4
  refine k_sr ?_
  refine sp (pB b 0) ?_
  refine s_call [3] (hnewtable_s (st := st) (by have := hsm.len; omega)) ?_
  rintro _ _ ⟨rfl, rfl⟩
  refine sp (.tuple #[.agg #[.int .i64 ((hmakeV st 4).kind), .int .i64 ((hmakeV st 4).p), .int .i64 ((hmakeV st 4).q), .string ((hmakeV st 4).str), .int .i64 ((hmakeV st 4).ref)], .int .i64 (hmakeE st)]) ?_
  refine sp (.agg #[.int .i64 ((hmakeV st 4).kind), .int .i64 ((hmakeV st 4).p), .int .i64 ((hmakeV st 4).q), .string ((hmakeV st 4).str), .int .i64 ((hmakeV st 4).ref)]) ?_
  refine sp (.int .i64 (hmakeE st)) ?_
  refine s_alloc (.agg #[.int .i64 0, .int .i64 0, .int .i64 0, .string ByteArray.empty, .int .i64 0]) #[.int .i64 0, .int .i64 0, .int .i64 0, .string ByteArray.empty, .int .i64 0] (fun g6 => ?_)
  refine s_store 0 #[.int .i64 ((hmakeV st 4).kind), .int .i64 ((hmakeV st 4).p), .int .i64 ((hmakeV st 4).q), .string ((hmakeV st 4).str), .int .i64 ((hmakeV st 4).ref)] ?_
  refine sp (.int .i64 (hmakeE st)) ?_
  refine s_nt ?_
  refine k_reg ?_
  refine s_lt (t_loadA 0 #[.int .i64 ((hmakeV st 4).kind), .int .i64 ((hmakeV st 4).p), .int .i64 ((hmakeV st 4).q), .string ((hmakeV st 4).str), .int .i64 ((hmakeV st 4).ref)]) ?_
  refine sp (.int .i64 (hmakeE st)) ?_
  refine s_lt (t_kern (.agg #[.int .i64 ((hmakeV st 4).kind), .int .i64 ((hmakeV st 4).p), .int .i64 ((hmakeV st 4).q), .string ((hmakeV st 4).str), .int .i64 ((hmakeV st 4).ref), .int .i64 0, .int .i64 0, .int .i64 0, .string ByteArray.empty, .int .i64 0, .int .i64 0, .string ByteArray.empty, .bool false, .int .i64 (hmakeE st)])) ?_
  refine s_store 2 #[.int .i64 ((hmakeV st 4).kind), .int .i64 ((hmakeV st 4).p), .int .i64 ((hmakeV st 4).q), .string ((hmakeV st 4).str), .int .i64 ((hmakeV st 4).ref), .int .i64 0, .int .i64 0, .int .i64 0, .string ByteArray.empty, .int .i64 0, .int .i64 0, .string ByteArray.empty, .bool false, .int .i64 (hmakeE st)] ?_
  refine s_nil ?_
  refine xs_block ?_
  refine xs_then ?_
  refine k_sr ?_
  refine s_lt (t_loadA 2 #[.int .i64 ((hmakeV st 4).kind), .int .i64 ((hmakeV st 4).p), .int .i64 ((hmakeV st 4).q), .string ((hmakeV st 4).str), .int .i64 ((hmakeV st 4).ref), .int .i64 0, .int .i64 0, .int .i64 0, .string ByteArray.empty, .int .i64 0, .int .i64 0, .string ByteArray.empty, .bool false, .int .i64 (hmakeE st)]) ?_
  refine s_store 3 #[.int .i64 ((hmakeV st 4).kind), .int .i64 ((hmakeV st 4).p), .int .i64 ((hmakeV st 4).q), .string ((hmakeV st 4).str), .int .i64 ((hmakeV st 4).ref), .int .i64 0, .int .i64 0, .int .i64 0, .string ByteArray.empty, .int .i64 0, .int .i64 0, .string ByteArray.empty, .bool false, .int .i64 (hmakeE st)] ?_
  refine s_nt ?_
  refine k_ret ?_
  have h1 : hcall st c = hmake st (newO 4 0 ByteArray.empty []) := hcall_0 (by omega)
  have h2 : hres st c = ⟨hmakeV st 4, zVl, 0, ByteArray.empty, false, hmakeE st⟩ := hres_0 (by omega)
  refine xs_fin [.agg #[.int .i64 ((hmakeV st 4).kind), .int .i64 ((hmakeV st 4).p), .int .i64 ((hmakeV st 4).q), .string ((hmakeV st 4).str), .int .i64 ((hmakeV st 4).ref), .int .i64 0, .int .i64 0, .int .i64 0, .string ByteArray.empty, .int .i64 0, .int .i64 0, .string ByteArray.empty, .bool false, .int .i64 (hmakeE st)]] (hpA b (hmake st (newO 4 0 ByteArray.empty [])) :: F) (SI.agg 4 65 3 SI.nil) (fun _ h => h.re [1] [1, 1, 1, 1]) ⟨?_, ?_⟩
  · rw [h2]; rfl
  · rw [h1]
 ·
  have p7 := of_decide_eq_false c4
  refine k_sr ?_
  refine s_lt t_cmp ?_
  refine sp (.bool (decide (c.kind = 1))) ?_
  refine s_nt ?_
  refine k_cond (decide (c.kind = 1)) (fun c8 => ?_) (fun c8 => ?_)
  ·
   have p9 := of_decide_eq_true c8
   refine k_sr ?_
   refine sp (pB b 0) ?_
   refine sp (pB g1 16) ?_
   refine s_lt (t_load 2 (.int .i64 c.n)) ?_
   refine s_call [3] (hnewfunc_s (st := st) (by have := hsm.len; omega) c.n) ?_
   rintro _ _ ⟨rfl, rfl⟩
   refine sp (.tuple #[.agg #[.int .i64 ((hmakeV st 5).kind), .int .i64 ((hmakeV st 5).p), .int .i64 ((hmakeV st 5).q), .string ((hmakeV st 5).str), .int .i64 ((hmakeV st 5).ref)], .int .i64 (hmakeE st)]) ?_
   refine sp (.agg #[.int .i64 ((hmakeV st 5).kind), .int .i64 ((hmakeV st 5).p), .int .i64 ((hmakeV st 5).q), .string ((hmakeV st 5).str), .int .i64 ((hmakeV st 5).ref)]) ?_
   refine sp (.int .i64 (hmakeE st)) ?_
   refine s_alloc (.agg #[.int .i64 0, .int .i64 0, .int .i64 0, .string ByteArray.empty, .int .i64 0]) #[.int .i64 0, .int .i64 0, .int .i64 0, .string ByteArray.empty, .int .i64 0] (fun g10 => ?_)
   refine s_store 0 #[.int .i64 ((hmakeV st 5).kind), .int .i64 ((hmakeV st 5).p), .int .i64 ((hmakeV st 5).q), .string ((hmakeV st 5).str), .int .i64 ((hmakeV st 5).ref)] ?_
   refine sp (.int .i64 (hmakeE st)) ?_
   refine s_nt ?_
   refine k_reg ?_
   refine s_lt (t_loadA 0 #[.int .i64 ((hmakeV st 5).kind), .int .i64 ((hmakeV st 5).p), .int .i64 ((hmakeV st 5).q), .string ((hmakeV st 5).str), .int .i64 ((hmakeV st 5).ref)]) ?_
   refine sp (.int .i64 (hmakeE st)) ?_
   refine s_lt (t_kern (.agg #[.int .i64 ((hmakeV st 5).kind), .int .i64 ((hmakeV st 5).p), .int .i64 ((hmakeV st 5).q), .string ((hmakeV st 5).str), .int .i64 ((hmakeV st 5).ref), .int .i64 0, .int .i64 0, .int .i64 0, .string ByteArray.empty, .int .i64 0, .int .i64 0, .string ByteArray.empty, .bool false, .int .i64 (hmakeE st)])) ?_
   refine s_store 2 #[.int .i64 ((hmakeV st 5).kind), .int .i64 ((hmakeV st 5).p), .int .i64 ((hmakeV st 5).q), .string ((hmakeV st 5).str), .int .i64 ((hmakeV st 5).ref), .int .i64 0, .int .i64 0, .int .i64 0, .string ByteArray.empty, .int .i64 0, .int .i64 0, .string ByteArray.empty, .bool false, .int .i64 (hmakeE st)] ?_
   refine s_nil ?_
   refine xs_block ?_
   refine xs_then ?_
   refine k_sr ?_
   refine s_lt (t_loadA 2 #[.int .i64 ((hmakeV st 5).kind), .int .i64 ((hmakeV st 5).p), .int .i64 ((hmakeV st 5).q), .string ((hmakeV st 5).str), .int .i64 ((hmakeV st 5).ref), .int .i64 0, .int .i64 0, .int .i64 0, .string ByteArray.empty, .int .i64 0, .int .i64 0, .string ByteArray.empty, .bool false, .int .i64 (hmakeE st)]) ?_
   refine s_store 3 #[.int .i64 ((hmakeV st 5).kind), .int .i64 ((hmakeV st 5).p), .int .i64 ((hmakeV st 5).q), .string ((hmakeV st 5).str), .int .i64 ((hmakeV st 5).ref), .int .i64 0, .int .i64 0, .int .i64 0, .string ByteArray.empty, .int .i64 0, .int .i64 0, .string ByteArray.empty, .bool false, .int .i64 (hmakeE st)] ?_
   refine s_nt ?_
   refine k_ret ?_
   have h1 : hcall st c = hmake st (newO 5 c.n ByteArray.empty []) := hcall_1 (by omega)
   have h2 : hres st c = ⟨hmakeV st 5, zVl, 0, ByteArray.empty, false, hmakeE st⟩ := hres_1 (by omega)
   refine xs_fin [.agg #[.int .i64 ((hmakeV st 5).kind), .int .i64 ((hmakeV st 5).p), .int .i64 ((hmakeV st 5).q), .string ((hmakeV st 5).str), .int .i64 ((hmakeV st 5).ref), .int .i64 0, .int .i64 0, .int .i64 0, .string ByteArray.empty, .int .i64 0, .int .i64 0, .string ByteArray.empty, .bool false, .int .i64 (hmakeE st)]] (hpA b (hmake st (newO 5 c.n ByteArray.empty [])) :: F) (SI.agg 4 65 3 SI.nil) (fun _ h => h.re [1] [1, 1, 1, 1]) ⟨?_, ?_⟩
   · rw [h2]; rfl
   · rw [h1]
  ·
   have p11 := of_decide_eq_false c8
   refine k_sr ?_
   refine s_lt t_cmp ?_
   refine sp (.bool (decide (c.kind = 2))) ?_
   refine s_nt ?_
   refine k_cond (decide (c.kind = 2)) (fun c12 => ?_) (fun c12 => ?_)
   ·
    have p13 := of_decide_eq_true c12
    refine k_sr ?_
    refine sp (pB b 0) ?_
    refine sp (pB g1 16) ?_
    refine s_lt (t_load 2 (.int .i64 c.n)) ?_
    refine s_call [3] (hnewthread_s (st := st) (by have := hsm.len; omega) c.n) ?_
    rintro _ _ ⟨rfl, rfl⟩
    refine sp (.tuple #[.agg #[.int .i64 ((hmakeV st 7).kind), .int .i64 ((hmakeV st 7).p), .int .i64 ((hmakeV st 7).q), .string ((hmakeV st 7).str), .int .i64 ((hmakeV st 7).ref)], .int .i64 (hmakeE st)]) ?_
    refine sp (.agg #[.int .i64 ((hmakeV st 7).kind), .int .i64 ((hmakeV st 7).p), .int .i64 ((hmakeV st 7).q), .string ((hmakeV st 7).str), .int .i64 ((hmakeV st 7).ref)]) ?_
    refine sp (.int .i64 (hmakeE st)) ?_
    refine s_alloc (.agg #[.int .i64 0, .int .i64 0, .int .i64 0, .string ByteArray.empty, .int .i64 0]) #[.int .i64 0, .int .i64 0, .int .i64 0, .string ByteArray.empty, .int .i64 0] (fun g14 => ?_)
    refine s_store 0 #[.int .i64 ((hmakeV st 7).kind), .int .i64 ((hmakeV st 7).p), .int .i64 ((hmakeV st 7).q), .string ((hmakeV st 7).str), .int .i64 ((hmakeV st 7).ref)] ?_
    refine sp (.int .i64 (hmakeE st)) ?_
    refine s_nt ?_
    refine k_reg ?_
    refine s_lt (t_loadA 0 #[.int .i64 ((hmakeV st 7).kind), .int .i64 ((hmakeV st 7).p), .int .i64 ((hmakeV st 7).q), .string ((hmakeV st 7).str), .int .i64 ((hmakeV st 7).ref)]) ?_
    refine sp (.int .i64 (hmakeE st)) ?_
    refine s_lt (t_kern (.agg #[.int .i64 ((hmakeV st 7).kind), .int .i64 ((hmakeV st 7).p), .int .i64 ((hmakeV st 7).q), .string ((hmakeV st 7).str), .int .i64 ((hmakeV st 7).ref), .int .i64 0, .int .i64 0, .int .i64 0, .string ByteArray.empty, .int .i64 0, .int .i64 0, .string ByteArray.empty, .bool false, .int .i64 (hmakeE st)])) ?_
    refine s_store 2 #[.int .i64 ((hmakeV st 7).kind), .int .i64 ((hmakeV st 7).p), .int .i64 ((hmakeV st 7).q), .string ((hmakeV st 7).str), .int .i64 ((hmakeV st 7).ref), .int .i64 0, .int .i64 0, .int .i64 0, .string ByteArray.empty, .int .i64 0, .int .i64 0, .string ByteArray.empty, .bool false, .int .i64 (hmakeE st)] ?_
    refine s_nil ?_
    refine xs_block ?_
    refine xs_then ?_
    refine k_sr ?_
    refine s_lt (t_loadA 2 #[.int .i64 ((hmakeV st 7).kind), .int .i64 ((hmakeV st 7).p), .int .i64 ((hmakeV st 7).q), .string ((hmakeV st 7).str), .int .i64 ((hmakeV st 7).ref), .int .i64 0, .int .i64 0, .int .i64 0, .string ByteArray.empty, .int .i64 0, .int .i64 0, .string ByteArray.empty, .bool false, .int .i64 (hmakeE st)]) ?_
    refine s_store 3 #[.int .i64 ((hmakeV st 7).kind), .int .i64 ((hmakeV st 7).p), .int .i64 ((hmakeV st 7).q), .string ((hmakeV st 7).str), .int .i64 ((hmakeV st 7).ref), .int .i64 0, .int .i64 0, .int .i64 0, .string ByteArray.empty, .int .i64 0, .int .i64 0, .string ByteArray.empty, .bool false, .int .i64 (hmakeE st)] ?_
    refine s_nt ?_
    refine k_ret ?_
    have h1 : hcall st c = hmake st (newO 7 c.n ByteArray.empty []) := hcall_2 (by omega)
    have h2 : hres st c = ⟨hmakeV st 7, zVl, 0, ByteArray.empty, false, hmakeE st⟩ := hres_2 (by omega)
    refine xs_fin [.agg #[.int .i64 ((hmakeV st 7).kind), .int .i64 ((hmakeV st 7).p), .int .i64 ((hmakeV st 7).q), .string ((hmakeV st 7).str), .int .i64 ((hmakeV st 7).ref), .int .i64 0, .int .i64 0, .int .i64 0, .string ByteArray.empty, .int .i64 0, .int .i64 0, .string ByteArray.empty, .bool false, .int .i64 (hmakeE st)]] (hpA b (hmake st (newO 7 c.n ByteArray.empty [])) :: F) (SI.agg 4 65 3 SI.nil) (fun _ h => h.re [1] [1, 1, 1, 1]) ⟨?_, ?_⟩
    · rw [h2]; rfl
    · rw [h1]
   ·
    have p15 := of_decide_eq_false c12
    refine k_sr ?_
    refine s_lt t_cmp ?_
    refine sp (.bool (decide (c.kind = 3))) ?_
    refine s_nt ?_
    refine k_cond (decide (c.kind = 3)) (fun c16 => ?_) (fun c16 => ?_)
    ·
     have p17 := of_decide_eq_true c16
     refine k_sr ?_
     refine sp (pB b 0) ?_
     refine sp (pB g1 17) ?_
     refine s_lt (t_load 2 (.string c.s)) ?_
     refine s_call [3] (hnewdata_s (st := st) (by have := hsm.len; omega) c.s) ?_
     rintro _ _ ⟨rfl, rfl⟩
     refine sp (.tuple #[.agg #[.int .i64 ((hdataV st c.s).kind), .int .i64 ((hdataV st c.s).p), .int .i64 ((hdataV st c.s).q), .string ((hdataV st c.s).str), .int .i64 ((hdataV st c.s).ref)], .int .i64 (hdataE st c.s)]) ?_
     refine sp (.agg #[.int .i64 ((hdataV st c.s).kind), .int .i64 ((hdataV st c.s).p), .int .i64 ((hdataV st c.s).q), .string ((hdataV st c.s).str), .int .i64 ((hdataV st c.s).ref)]) ?_
     refine sp (.int .i64 (hdataE st c.s)) ?_
     refine s_alloc (.agg #[.int .i64 0, .int .i64 0, .int .i64 0, .string ByteArray.empty, .int .i64 0]) #[.int .i64 0, .int .i64 0, .int .i64 0, .string ByteArray.empty, .int .i64 0] (fun g18 => ?_)
     refine s_store 0 #[.int .i64 ((hdataV st c.s).kind), .int .i64 ((hdataV st c.s).p), .int .i64 ((hdataV st c.s).q), .string ((hdataV st c.s).str), .int .i64 ((hdataV st c.s).ref)] ?_
     refine sp (.int .i64 (hdataE st c.s)) ?_
     refine s_nt ?_
     refine k_reg ?_
     refine s_lt (t_loadA 0 #[.int .i64 ((hdataV st c.s).kind), .int .i64 ((hdataV st c.s).p), .int .i64 ((hdataV st c.s).q), .string ((hdataV st c.s).str), .int .i64 ((hdataV st c.s).ref)]) ?_
     refine sp (.int .i64 (hdataE st c.s)) ?_
     refine s_lt (t_kern (.agg #[.int .i64 ((hdataV st c.s).kind), .int .i64 ((hdataV st c.s).p), .int .i64 ((hdataV st c.s).q), .string ((hdataV st c.s).str), .int .i64 ((hdataV st c.s).ref), .int .i64 0, .int .i64 0, .int .i64 0, .string ByteArray.empty, .int .i64 0, .int .i64 0, .string ByteArray.empty, .bool false, .int .i64 (hdataE st c.s)])) ?_
     refine s_store 2 #[.int .i64 ((hdataV st c.s).kind), .int .i64 ((hdataV st c.s).p), .int .i64 ((hdataV st c.s).q), .string ((hdataV st c.s).str), .int .i64 ((hdataV st c.s).ref), .int .i64 0, .int .i64 0, .int .i64 0, .string ByteArray.empty, .int .i64 0, .int .i64 0, .string ByteArray.empty, .bool false, .int .i64 (hdataE st c.s)] ?_
     refine s_nil ?_
     refine xs_block ?_
     refine xs_then ?_
     refine k_sr ?_
     refine s_lt (t_loadA 2 #[.int .i64 ((hdataV st c.s).kind), .int .i64 ((hdataV st c.s).p), .int .i64 ((hdataV st c.s).q), .string ((hdataV st c.s).str), .int .i64 ((hdataV st c.s).ref), .int .i64 0, .int .i64 0, .int .i64 0, .string ByteArray.empty, .int .i64 0, .int .i64 0, .string ByteArray.empty, .bool false, .int .i64 (hdataE st c.s)]) ?_
     refine s_store 3 #[.int .i64 ((hdataV st c.s).kind), .int .i64 ((hdataV st c.s).p), .int .i64 ((hdataV st c.s).q), .string ((hdataV st c.s).str), .int .i64 ((hdataV st c.s).ref), .int .i64 0, .int .i64 0, .int .i64 0, .string ByteArray.empty, .int .i64 0, .int .i64 0, .string ByteArray.empty, .bool false, .int .i64 (hdataE st c.s)] ?_
     refine s_nt ?_
     refine k_ret ?_
     have h1 : hcall st c = hdata st c.s := hcall_3 (by omega)
     have h2 : hres st c = ⟨hdataV st c.s, zVl, 0, ByteArray.empty, false, hdataE st c.s⟩ := hres_3 (by omega)
     refine xs_fin [.agg #[.int .i64 ((hdataV st c.s).kind), .int .i64 ((hdataV st c.s).p), .int .i64 ((hdataV st c.s).q), .string ((hdataV st c.s).str), .int .i64 ((hdataV st c.s).ref), .int .i64 0, .int .i64 0, .int .i64 0, .string ByteArray.empty, .int .i64 0, .int .i64 0, .string ByteArray.empty, .bool false, .int .i64 (hdataE st c.s)]] (hpA b (hdata st c.s) :: F) (SI.agg 4 65 3 SI.nil) (fun _ h => h.re [1] [1, 1, 1, 1]) ⟨?_, ?_⟩
     · rw [h2]; rfl
     · rw [h1]
    ·
     have p19 := of_decide_eq_false c16
     refine k_sr ?_
     refine s_lt t_cmp ?_
     refine sp (.bool (decide (c.kind = 4))) ?_
     refine s_nt ?_
     refine k_cond (decide (c.kind = 4)) (fun c20 => ?_) (fun c20 => ?_)
     ·
      have p21 := of_decide_eq_true c20
      refine k_sr ?_
      refine sp (pB b 0) ?_
      refine sp (pB g1 1) ?_
      refine s_lt (t_loadA 2 #[.int .i64 c.a.kind, .int .i64 c.a.p, .int .i64 c.a.q, .string c.a.str, .int .i64 c.a.ref]) ?_
      refine sp (pB g1 6) ?_
      refine s_lt (t_loadA 2 #[.int .i64 c.b.kind, .int .i64 c.b.p, .int .i64 c.b.q, .string c.b.str, .int .i64 c.b.ref]) ?_
      refine s_call [3] (hget_s (st := st) hsm (by omega) c.a c.b) ?_
      rintro _ _ ⟨rfl, rfl⟩
      refine sp (.tuple #[.agg #[.int .i64 ((hgetV st c.a c.b).kind), .int .i64 ((hgetV st c.a c.b).p), .int .i64 ((hgetV st c.a c.b).q), .string ((hgetV st c.a c.b).str), .int .i64 ((hgetV st c.a c.b).ref)], .int .i64 (hgetE st c.a)]) ?_
      refine sp (.agg #[.int .i64 ((hgetV st c.a c.b).kind), .int .i64 ((hgetV st c.a c.b).p), .int .i64 ((hgetV st c.a c.b).q), .string ((hgetV st c.a c.b).str), .int .i64 ((hgetV st c.a c.b).ref)]) ?_
      refine sp (.int .i64 (hgetE st c.a)) ?_
      refine s_alloc (.agg #[.int .i64 0, .int .i64 0, .int .i64 0, .string ByteArray.empty, .int .i64 0]) #[.int .i64 0, .int .i64 0, .int .i64 0, .string ByteArray.empty, .int .i64 0] (fun g22 => ?_)
      refine s_store 0 #[.int .i64 ((hgetV st c.a c.b).kind), .int .i64 ((hgetV st c.a c.b).p), .int .i64 ((hgetV st c.a c.b).q), .string ((hgetV st c.a c.b).str), .int .i64 ((hgetV st c.a c.b).ref)] ?_
      refine sp (.int .i64 (hgetE st c.a)) ?_
      refine s_nt ?_
      refine k_reg ?_
      refine s_lt (t_loadA 0 #[.int .i64 ((hgetV st c.a c.b).kind), .int .i64 ((hgetV st c.a c.b).p), .int .i64 ((hgetV st c.a c.b).q), .string ((hgetV st c.a c.b).str), .int .i64 ((hgetV st c.a c.b).ref)]) ?_
      refine sp (.int .i64 (hgetE st c.a)) ?_
      refine s_lt (t_kern (.agg #[.int .i64 ((hgetV st c.a c.b).kind), .int .i64 ((hgetV st c.a c.b).p), .int .i64 ((hgetV st c.a c.b).q), .string ((hgetV st c.a c.b).str), .int .i64 ((hgetV st c.a c.b).ref), .int .i64 0, .int .i64 0, .int .i64 0, .string ByteArray.empty, .int .i64 0, .int .i64 0, .string ByteArray.empty, .bool false, .int .i64 (hgetE st c.a)])) ?_
      refine s_store 2 #[.int .i64 ((hgetV st c.a c.b).kind), .int .i64 ((hgetV st c.a c.b).p), .int .i64 ((hgetV st c.a c.b).q), .string ((hgetV st c.a c.b).str), .int .i64 ((hgetV st c.a c.b).ref), .int .i64 0, .int .i64 0, .int .i64 0, .string ByteArray.empty, .int .i64 0, .int .i64 0, .string ByteArray.empty, .bool false, .int .i64 (hgetE st c.a)] ?_
      refine s_nil ?_
      refine xs_block ?_
      refine xs_then ?_
      refine k_sr ?_
      refine s_lt (t_loadA 2 #[.int .i64 ((hgetV st c.a c.b).kind), .int .i64 ((hgetV st c.a c.b).p), .int .i64 ((hgetV st c.a c.b).q), .string ((hgetV st c.a c.b).str), .int .i64 ((hgetV st c.a c.b).ref), .int .i64 0, .int .i64 0, .int .i64 0, .string ByteArray.empty, .int .i64 0, .int .i64 0, .string ByteArray.empty, .bool false, .int .i64 (hgetE st c.a)]) ?_
      refine s_store 3 #[.int .i64 ((hgetV st c.a c.b).kind), .int .i64 ((hgetV st c.a c.b).p), .int .i64 ((hgetV st c.a c.b).q), .string ((hgetV st c.a c.b).str), .int .i64 ((hgetV st c.a c.b).ref), .int .i64 0, .int .i64 0, .int .i64 0, .string ByteArray.empty, .int .i64 0, .int .i64 0, .string ByteArray.empty, .bool false, .int .i64 (hgetE st c.a)] ?_
      refine s_nt ?_
      refine k_ret ?_
      have h1 : hcall st c = st := hcall_4 (by omega)
      have h2 : hres st c = ⟨hgetV st c.a c.b, zVl, 0, ByteArray.empty, false, hgetE st c.a⟩ := hres_4 (by omega)
      refine xs_fin [.agg #[.int .i64 ((hgetV st c.a c.b).kind), .int .i64 ((hgetV st c.a c.b).p), .int .i64 ((hgetV st c.a c.b).q), .string ((hgetV st c.a c.b).str), .int .i64 ((hgetV st c.a c.b).ref), .int .i64 0, .int .i64 0, .int .i64 0, .string ByteArray.empty, .int .i64 0, .int .i64 0, .string ByteArray.empty, .bool false, .int .i64 (hgetE st c.a)]] (hpA b st :: F) (SI.agg 4 65 3 SI.nil) (fun _ h => h.re [1] [1, 1, 1, 1]) ⟨?_, ?_⟩
      · rw [h2]; rfl
      · rw [h1]
     ·
      have p23 := of_decide_eq_false c20
      refine k_sr ?_
      refine s_lt t_cmp ?_
      refine sp (.bool (decide (c.kind = 5))) ?_
      refine s_nt ?_
      refine k_cond (decide (c.kind = 5)) (fun c24 => ?_) (fun c24 => ?_)
      ·
       have p25 := of_decide_eq_true c24
       refine k_reg ?_
       refine sp (pB b 0) ?_
       refine sp (pB g1 1) ?_
       refine s_lt (t_loadA 2 #[.int .i64 c.a.kind, .int .i64 c.a.p, .int .i64 c.a.q, .string c.a.str, .int .i64 c.a.ref]) ?_
       refine sp (pB g1 6) ?_
       refine s_lt (t_loadA 2 #[.int .i64 c.b.kind, .int .i64 c.b.p, .int .i64 c.b.q, .string c.b.str, .int .i64 c.b.ref]) ?_
       refine sp (pB g1 11) ?_
       refine s_lt (t_loadA 2 #[.int .i64 c.c.kind, .int .i64 c.c.p, .int .i64 c.c.q, .string c.c.str, .int .i64 c.c.ref]) ?_
       refine s_call [3] (hset_s (st := st) hsm (by omega) c.a c.b c.c) ?_
       rintro _ _ ⟨rfl, rfl⟩
       refine sp (pB g3 13) ?_
       refine s_store 1 #[.int .i64 0, .int .i64 0, .int .i64 0, .string ByteArray.empty, .int .i64 0, .int .i64 0, .int .i64 0, .int .i64 0, .string ByteArray.empty, .int .i64 0, .int .i64 0, .string ByteArray.empty, .bool false, .int .i64 (hsetE st c.a c.b c.c)] ?_
       refine s_nil ?_
       refine xs_block ?_
       refine xs_then ?_
       refine k_sr ?_
       refine s_lt (t_loadA 1 #[.int .i64 0, .int .i64 0, .int .i64 0, .string ByteArray.empty, .int .i64 0, .int .i64 0, .int .i64 0, .int .i64 0, .string ByteArray.empty, .int .i64 0, .int .i64 0, .string ByteArray.empty, .bool false, .int .i64 (hsetE st c.a c.b c.c)]) ?_
       refine s_store 2 #[.int .i64 0, .int .i64 0, .int .i64 0, .string ByteArray.empty, .int .i64 0, .int .i64 0, .int .i64 0, .int .i64 0, .string ByteArray.empty, .int .i64 0, .int .i64 0, .string ByteArray.empty, .bool false, .int .i64 (hsetE st c.a c.b c.c)] ?_
       refine s_nt ?_
       refine k_ret ?_
       have h1 : hcall st c = hset st c.a c.b c.c := hcall_5 (by omega)
       have h2 : hres st c = ⟨zVl, zVl, 0, ByteArray.empty, false, hsetE st c.a c.b c.c⟩ := hres_5 (by omega)
       refine xs_fin [.agg #[.int .i64 0, .int .i64 0, .int .i64 0, .string ByteArray.empty, .int .i64 0, .int .i64 0, .int .i64 0, .int .i64 0, .string ByteArray.empty, .int .i64 0, .int .i64 0, .string ByteArray.empty, .bool false, .int .i64 (hsetE st c.a c.b c.c)]] (hpA b (hset st c.a c.b c.c) :: F) (SI.agg 4 65 2 SI.nil) (fun _ h => h.re [0] [1, 1, 1]) ⟨?_, ?_⟩
       · rw [h2]; rfl
       · rw [h1]
      ·
       have p26 := of_decide_eq_false c24
       refine k_sr ?_
       refine s_lt t_cmp ?_
       refine sp (.bool (decide (c.kind = 6))) ?_
       refine s_nt ?_
       refine k_cond (decide (c.kind = 6)) (fun c27 => ?_) (fun c27 => ?_)
       ·
        have p28 := of_decide_eq_true c27
        refine k_sr ?_
        refine sp (pB b 0) ?_
        refine sp (pB g1 1) ?_
        refine s_lt (t_loadA 2 #[.int .i64 c.a.kind, .int .i64 c.a.p, .int .i64 c.a.q, .string c.a.str, .int .i64 c.a.ref]) ?_
        refine s_call [3] (hlen_s (st := st) hsm (by omega) c.a) ?_
        rintro _ _ ⟨rfl, rfl⟩
        refine sp (.tuple #[.int .i64 (hlenV st c.a), .int .i64 (hgetE st c.a)]) ?_
        refine sp (.int .i64 (hlenV st c.a)) ?_
        refine sp (.int .i64 (hgetE st c.a)) ?_
        refine sp (.int .i64 (hlenV st c.a)) ?_
        refine sp (.int .i64 (hgetE st c.a)) ?_
        refine s_nt ?_
        refine k_reg ?_
        refine sp (.int .i64 (hlenV st c.a)) ?_
        refine sp (.int .i64 (hgetE st c.a)) ?_
        refine s_lt (t_kern (.agg #[.int .i64 0, .int .i64 0, .int .i64 0, .string ByteArray.empty, .int .i64 0, .int .i64 0, .int .i64 0, .int .i64 0, .string ByteArray.empty, .int .i64 0, .int .i64 (hlenV st c.a), .string ByteArray.empty, .bool false, .int .i64 (hgetE st c.a)])) ?_
        refine s_store 1 #[.int .i64 0, .int .i64 0, .int .i64 0, .string ByteArray.empty, .int .i64 0, .int .i64 0, .int .i64 0, .int .i64 0, .string ByteArray.empty, .int .i64 0, .int .i64 (hlenV st c.a), .string ByteArray.empty, .bool false, .int .i64 (hgetE st c.a)] ?_
        refine s_nil ?_
        refine xs_block ?_
        refine xs_then ?_
        refine k_sr ?_
        refine s_lt (t_loadA 1 #[.int .i64 0, .int .i64 0, .int .i64 0, .string ByteArray.empty, .int .i64 0, .int .i64 0, .int .i64 0, .int .i64 0, .string ByteArray.empty, .int .i64 0, .int .i64 (hlenV st c.a), .string ByteArray.empty, .bool false, .int .i64 (hgetE st c.a)]) ?_
        refine s_store 2 #[.int .i64 0, .int .i64 0, .int .i64 0, .string ByteArray.empty, .int .i64 0, .int .i64 0, .int .i64 0, .int .i64 0, .string ByteArray.empty, .int .i64 0, .int .i64 (hlenV st c.a), .string ByteArray.empty, .bool false, .int .i64 (hgetE st c.a)] ?_
        refine s_nt ?_
        refine k_ret ?_
        have h1 : hcall st c = st := hcall_6 (by omega)
        have h2 : hres st c = ⟨zVl, zVl, hlenV st c.a, ByteArray.empty, false, hgetE st c.a⟩ := hres_6 (by omega)
        refine xs_fin [.agg #[.int .i64 0, .int .i64 0, .int .i64 0, .string ByteArray.empty, .int .i64 0, .int .i64 0, .int .i64 0, .int .i64 0, .string ByteArray.empty, .int .i64 0, .int .i64 (hlenV st c.a), .string ByteArray.empty, .bool false, .int .i64 (hgetE st c.a)]] (hpA b st :: F) (SI.agg 4 65 2 SI.nil) (fun _ h => h.re [0] [1, 1, 1]) ⟨?_, ?_⟩
        · rw [h2]; rfl
        · rw [h1]
       ·
        have p29 := of_decide_eq_false c27
        refine k_sr ?_
        refine s_lt t_cmp ?_
        refine sp (.bool (decide (c.kind = 7))) ?_
        refine s_nt ?_
        refine k_cond (decide (c.kind = 7)) (fun c30 => ?_) (fun c30 => ?_)
        ·
         have p31 := of_decide_eq_true c30
         refine k_sr ?_
         refine sp (pB b 0) ?_
         refine sp (pB g1 1) ?_
         refine s_lt (t_loadA 2 #[.int .i64 c.a.kind, .int .i64 c.a.p, .int .i64 c.a.q, .string c.a.str, .int .i64 c.a.ref]) ?_
         refine sp (pB g1 6) ?_
         refine s_lt (t_loadA 2 #[.int .i64 c.b.kind, .int .i64 c.b.p, .int .i64 c.b.q, .string c.b.str, .int .i64 c.b.ref]) ?_
         refine s_call [3] (hnext_s (st := st) hsm (by omega) c.a c.b) ?_
         rintro _ _ ⟨rfl, rfl⟩
         refine sp (.tuple #[.agg #[.int .i64 (((hnext st c.a c.b).1).kind), .int .i64 (((hnext st c.a c.b).1).p), .int .i64 (((hnext st c.a c.b).1).q), .string (((hnext st c.a c.b).1).str), .int .i64 (((hnext st c.a c.b).1).ref)], .agg #[.int .i64 (((hnext st c.a c.b).2.1).kind), .int .i64 (((hnext st c.a c.b).2.1).p), .int .i64 (((hnext st c.a c.b).2.1).q), .string (((hnext st c.a c.b).2.1).str), .int .i64 (((hnext st c.a c.b).2.1).ref)], .bool ((hnext st c.a c.b).2.2.1), .int .i64 ((hnext st c.a c.b).2.2.2)]) ?_
         refine sp (.agg #[.int .i64 (((hnext st c.a c.b).1).kind), .int .i64 (((hnext st c.a c.b).1).p), .int .i64 (((hnext st c.a c.b).1).q), .string (((hnext st c.a c.b).1).str), .int .i64 (((hnext st c.a c.b).1).ref)]) ?_
         refine sp (.agg #[.int .i64 (((hnext st c.a c.b).2.1).kind), .int .i64 (((hnext st c.a c.b).2.1).p), .int .i64 (((hnext st c.a c.b).2.1).q), .string (((hnext st c.a c.b).2.1).str), .int .i64 (((hnext st c.a c.b).2.1).ref)]) ?_
         refine sp (.bool ((hnext st c.a c.b).2.2.1)) ?_
         refine sp (.int .i64 ((hnext st c.a c.b).2.2.2)) ?_
         refine s_alloc (.agg #[.int .i64 0, .int .i64 0, .int .i64 0, .string ByteArray.empty, .int .i64 0]) #[.int .i64 0, .int .i64 0, .int .i64 0, .string ByteArray.empty, .int .i64 0] (fun g32 => ?_)
         refine s_alloc (.agg #[.int .i64 0, .int .i64 0, .int .i64 0, .string ByteArray.empty, .int .i64 0]) #[.int .i64 0, .int .i64 0, .int .i64 0, .string ByteArray.empty, .int .i64 0] (fun g33 => ?_)
         refine s_store 1 #[.int .i64 (((hnext st c.a c.b).1).kind), .int .i64 (((hnext st c.a c.b).1).p), .int .i64 (((hnext st c.a c.b).1).q), .string (((hnext st c.a c.b).1).str), .int .i64 (((hnext st c.a c.b).1).ref)] ?_
         refine s_store 0 #[.int .i64 (((hnext st c.a c.b).2.1).kind), .int .i64 (((hnext st c.a c.b).2.1).p), .int .i64 (((hnext st c.a c.b).2.1).q), .string (((hnext st c.a c.b).2.1).str), .int .i64 (((hnext st c.a c.b).2.1).ref)] ?_
         refine sp (.bool ((hnext st c.a c.b).2.2.1)) ?_
         refine sp (.int .i64 ((hnext st c.a c.b).2.2.2)) ?_
         refine s_nt ?_
         refine k_reg ?_
         refine s_lt (t_loadA 1 #[.int .i64 (((hnext st c.a c.b).1).kind), .int .i64 (((hnext st c.a c.b).1).p), .int .i64 (((hnext st c.a c.b).1).q), .string (((hnext st c.a c.b).1).str), .int .i64 (((hnext st c.a c.b).1).ref)]) ?_
         refine s_lt (t_loadA 0 #[.int .i64 (((hnext st c.a c.b).2.1).kind), .int .i64 (((hnext st c.a c.b).2.1).p), .int .i64 (((hnext st c.a c.b).2.1).q), .string (((hnext st c.a c.b).2.1).str), .int .i64 (((hnext st c.a c.b).2.1).ref)]) ?_
         refine sp (.bool ((hnext st c.a c.b).2.2.1)) ?_
         refine sp (.int .i64 ((hnext st c.a c.b).2.2.2)) ?_
         refine s_lt (t_kern (.agg #[.int .i64 (((hnext st c.a c.b).1).kind), .int .i64 (((hnext st c.a c.b).1).p), .int .i64 (((hnext st c.a c.b).1).q), .string (((hnext st c.a c.b).1).str), .int .i64 (((hnext st c.a c.b).1).ref), .int .i64 (((hnext st c.a c.b).2.1).kind), .int .i64 (((hnext st c.a c.b).2.1).p), .int .i64 (((hnext st c.a c.b).2.1).q), .string (((hnext st c.a c.b).2.1).str), .int .i64 (((hnext st c.a c.b).2.1).ref), .int .i64 0, .string ByteArray.empty, .bool ((hnext st c.a c.b).2.2.1), .int .i64 ((hnext st c.a c.b).2.2.2)])) ?_
         refine s_store 3 #[.int .i64 (((hnext st c.a c.b).1).kind), .int .i64 (((hnext st c.a c.b).1).p), .int .i64 (((hnext st c.a c.b).1).q), .string (((hnext st c.a c.b).1).str), .int .i64 (((hnext st c.a c.b).1).ref), .int .i64 (((hnext st c.a c.b).2.1).kind), .int .i64 (((hnext st c.a c.b).2.1).p), .int .i64 (((hnext st c.a c.b).2.1).q), .string (((hnext st c.a c.b).2.1).str), .int .i64 (((hnext st c.a c.b).2.1).ref), .int .i64 0, .string ByteArray.empty, .bool ((hnext st c.a c.b).2.2.1), .int .i64 ((hnext st c.a c.b).2.2.2)] ?_
         refine s_nil ?_
         refine xs_block ?_
         refine xs_then ?_
         refine k_sr ?_
         refine s_lt (t_loadA 3 #[.int .i64 (((hnext st c.a c.b).1).kind), .int .i64 (((hnext st c.a c.b).1).p), .int .i64 (((hnext st c.a c.b).1).q), .string (((hnext st c.a c.b).1).str), .int .i64 (((hnext st c.a c.b).1).ref), .int .i64 (((hnext st c.a c.b).2.1).kind), .int .i64 (((hnext st c.a c.b).2.1).p), .int .i64 (((hnext st c.a c.b).2.1).q), .string (((hnext st c.a c.b).2.1).str), .int .i64 (((hnext st c.a c.b).2.1).ref), .int .i64 0, .string ByteArray.empty, .bool ((hnext st c.a c.b).2.2.1), .int .i64 ((hnext st c.a c.b).2.2.2)]) ?_
         refine s_store 4 #[.int .i64 (((hnext st c.a c.b).1).kind), .int .i64 (((hnext st c.a c.b).1).p), .int .i64 (((hnext st c.a c.b).1).q), .string (((hnext st c.a c.b).1).str), .int .i64 (((hnext st c.a c.b).1).ref), .int .i64 (((hnext st c.a c.b).2.1).kind), .int .i64 (((hnext st c.a c.b).2.1).p), .int .i64 (((hnext st c.a c.b).2.1).q), .string (((hnext st c.a c.b).2.1).str), .int .i64 (((hnext st c.a c.b).2.1).ref), .int .i64 0, .string ByteArray.empty, .bool ((hnext st c.a c.b).2.2.1), .int .i64 ((hnext st c.a c.b).2.2.2)] ?_
         refine s_nt ?_
         refine k_ret ?_
         have h1 : hcall st c = st := hcall_7 (by omega)
         have h2 : hres st c = ⟨(hnext st c.a c.b).1, (hnext st c.a c.b).2.1, 0, ByteArray.empty, (hnext st c.a c.b).2.2.1, (hnext st c.a c.b).2.2.2⟩ := hres_7 (by omega)
         refine xs_fin [.agg #[.int .i64 (((hnext st c.a c.b).1).kind), .int .i64 (((hnext st c.a c.b).1).p), .int .i64 (((hnext st c.a c.b).1).q), .string (((hnext st c.a c.b).1).str), .int .i64 (((hnext st c.a c.b).1).ref), .int .i64 (((hnext st c.a c.b).2.1).kind), .int .i64 (((hnext st c.a c.b).2.1).p), .int .i64 (((hnext st c.a c.b).2.1).q), .string (((hnext st c.a c.b).2.1).str), .int .i64 (((hnext st c.a c.b).2.1).ref), .int .i64 0, .string ByteArray.empty, .bool ((hnext st c.a c.b).2.2.1), .int .i64 ((hnext st c.a c.b).2.2.2)]] (hpA b st :: F) (SI.agg 4 65 4 SI.nil) (fun _ h => h.re [2] [1, 1, 1, 1, 1]) ⟨?_, ?_⟩
         · rw [h2]; rfl
         · rw [h1]
        ·
         have p34 := of_decide_eq_false c30
         refine k_sr ?_
         refine s_lt t_cmp ?_
         refine sp (.bool (decide (c.kind = 8))) ?_
         refine s_nt ?_
         refine k_cond (decide (c.kind = 8)) (fun c35 => ?_) (fun c35 => ?_)
         ·
          have p36 := of_decide_eq_true c35
          refine k_reg ?_
          refine sp (pB b 0) ?_
          refine sp (pB g1 1) ?_
          refine s_lt (t_loadA 2 #[.int .i64 c.a.kind, .int .i64 c.a.p, .int .i64 c.a.q, .string c.a.str, .int .i64 c.a.ref]) ?_
          refine sp (pB g1 16) ?_
          refine s_lt (t_load 2 (.int .i64 c.n)) ?_
          refine sp (pB g1 11) ?_
          refine s_lt (t_loadA 2 #[.int .i64 c.c.kind, .int .i64 c.c.p, .int .i64 c.c.q, .string c.c.str, .int .i64 c.c.ref]) ?_
          refine s_call [3] (hinsert_s (st := st) hsm (by omega) c.a c.n c.c) ?_
          rintro _ _ ⟨rfl, rfl⟩
          refine sp (pB g3 13) ?_
          refine s_store 1 #[.int .i64 0, .int .i64 0, .int .i64 0, .string ByteArray.empty, .int .i64 0, .int .i64 0, .int .i64 0, .int .i64 0, .string ByteArray.empty, .int .i64 0, .int .i64 0, .string ByteArray.empty, .bool false, .int .i64 (hinsE st c.a c.n c.c)] ?_
          refine s_nil ?_
          refine xs_block ?_
          refine xs_then ?_
          refine k_sr ?_
          refine s_lt (t_loadA 1 #[.int .i64 0, .int .i64 0, .int .i64 0, .string ByteArray.empty, .int .i64 0, .int .i64 0, .int .i64 0, .int .i64 0, .string ByteArray.empty, .int .i64 0, .int .i64 0, .string ByteArray.empty, .bool false, .int .i64 (hinsE st c.a c.n c.c)]) ?_
          refine s_store 2 #[.int .i64 0, .int .i64 0, .int .i64 0, .string ByteArray.empty, .int .i64 0, .int .i64 0, .int .i64 0, .int .i64 0, .string ByteArray.empty, .int .i64 0, .int .i64 0, .string ByteArray.empty, .bool false, .int .i64 (hinsE st c.a c.n c.c)] ?_
          refine s_nt ?_
          refine k_ret ?_
          have h1 : hcall st c = hins st c.a c.n c.c := hcall_8 (by omega)
          have h2 : hres st c = ⟨zVl, zVl, 0, ByteArray.empty, false, hinsE st c.a c.n c.c⟩ := hres_8 (by omega)
          refine xs_fin [.agg #[.int .i64 0, .int .i64 0, .int .i64 0, .string ByteArray.empty, .int .i64 0, .int .i64 0, .int .i64 0, .int .i64 0, .string ByteArray.empty, .int .i64 0, .int .i64 0, .string ByteArray.empty, .bool false, .int .i64 (hinsE st c.a c.n c.c)]] (hpA b (hins st c.a c.n c.c) :: F) (SI.agg 4 65 2 SI.nil) (fun _ h => h.re [0] [1, 1, 1]) ⟨?_, ?_⟩
          · rw [h2]; rfl
          · rw [h1]
         ·
          have p37 := of_decide_eq_false c35
          refine k_sr ?_
          refine s_lt t_cmp ?_
          refine sp (.bool (decide (c.kind = 9))) ?_
          refine s_nt ?_
          refine k_cond (decide (c.kind = 9)) (fun c38 => ?_) (fun c38 => ?_)
          ·
           have p39 := of_decide_eq_true c38
           refine k_sr ?_
           refine sp (pB b 0) ?_
           refine sp (pB g1 1) ?_
           refine s_lt (t_loadA 2 #[.int .i64 c.a.kind, .int .i64 c.a.p, .int .i64 c.a.q, .string c.a.str, .int .i64 c.a.ref]) ?_
           refine sp (pB g1 16) ?_
           refine s_lt (t_load 2 (.int .i64 c.n)) ?_
           refine s_call [3] (hremove_s (st := st) hsm (by omega) c.a c.n) ?_
           rintro _ _ ⟨rfl, rfl⟩
           refine sp (.tuple #[.agg #[.int .i64 ((hremV st c.a c.n).kind), .int .i64 ((hremV st c.a c.n).p), .int .i64 ((hremV st c.a c.n).q), .string ((hremV st c.a c.n).str), .int .i64 ((hremV st c.a c.n).ref)], .int .i64 (hremE st c.a c.n)]) ?_
           refine sp (.agg #[.int .i64 ((hremV st c.a c.n).kind), .int .i64 ((hremV st c.a c.n).p), .int .i64 ((hremV st c.a c.n).q), .string ((hremV st c.a c.n).str), .int .i64 ((hremV st c.a c.n).ref)]) ?_
           refine sp (.int .i64 (hremE st c.a c.n)) ?_
           refine s_alloc (.agg #[.int .i64 0, .int .i64 0, .int .i64 0, .string ByteArray.empty, .int .i64 0]) #[.int .i64 0, .int .i64 0, .int .i64 0, .string ByteArray.empty, .int .i64 0] (fun g40 => ?_)
           refine s_store 0 #[.int .i64 ((hremV st c.a c.n).kind), .int .i64 ((hremV st c.a c.n).p), .int .i64 ((hremV st c.a c.n).q), .string ((hremV st c.a c.n).str), .int .i64 ((hremV st c.a c.n).ref)] ?_
           refine sp (.int .i64 (hremE st c.a c.n)) ?_
           refine s_nt ?_
           refine k_reg ?_
           refine s_lt (t_loadA 0 #[.int .i64 ((hremV st c.a c.n).kind), .int .i64 ((hremV st c.a c.n).p), .int .i64 ((hremV st c.a c.n).q), .string ((hremV st c.a c.n).str), .int .i64 ((hremV st c.a c.n).ref)]) ?_
           refine sp (.int .i64 (hremE st c.a c.n)) ?_
           refine s_lt (t_kern (.agg #[.int .i64 ((hremV st c.a c.n).kind), .int .i64 ((hremV st c.a c.n).p), .int .i64 ((hremV st c.a c.n).q), .string ((hremV st c.a c.n).str), .int .i64 ((hremV st c.a c.n).ref), .int .i64 0, .int .i64 0, .int .i64 0, .string ByteArray.empty, .int .i64 0, .int .i64 0, .string ByteArray.empty, .bool false, .int .i64 (hremE st c.a c.n)])) ?_
           refine s_store 2 #[.int .i64 ((hremV st c.a c.n).kind), .int .i64 ((hremV st c.a c.n).p), .int .i64 ((hremV st c.a c.n).q), .string ((hremV st c.a c.n).str), .int .i64 ((hremV st c.a c.n).ref), .int .i64 0, .int .i64 0, .int .i64 0, .string ByteArray.empty, .int .i64 0, .int .i64 0, .string ByteArray.empty, .bool false, .int .i64 (hremE st c.a c.n)] ?_
           refine s_nil ?_
           refine xs_block ?_
           refine xs_then ?_
           refine k_sr ?_
           refine s_lt (t_loadA 2 #[.int .i64 ((hremV st c.a c.n).kind), .int .i64 ((hremV st c.a c.n).p), .int .i64 ((hremV st c.a c.n).q), .string ((hremV st c.a c.n).str), .int .i64 ((hremV st c.a c.n).ref), .int .i64 0, .int .i64 0, .int .i64 0, .string ByteArray.empty, .int .i64 0, .int .i64 0, .string ByteArray.empty, .bool false, .int .i64 (hremE st c.a c.n)]) ?_
           refine s_store 3 #[.int .i64 ((hremV st c.a c.n).kind), .int .i64 ((hremV st c.a c.n).p), .int .i64 ((hremV st c.a c.n).q), .string ((hremV st c.a c.n).str), .int .i64 ((hremV st c.a c.n).ref), .int .i64 0, .int .i64 0, .int .i64 0, .string ByteArray.empty, .int .i64 0, .int .i64 0, .string ByteArray.empty, .bool false, .int .i64 (hremE st c.a c.n)] ?_
           refine s_nt ?_
           refine k_ret ?_
           have h1 : hcall st c = hrem st c.a c.n := hcall_9 (by omega)
           have h2 : hres st c = ⟨hremV st c.a c.n, zVl, 0, ByteArray.empty, false, hremE st c.a c.n⟩ := hres_9 (by omega)
           refine xs_fin [.agg #[.int .i64 ((hremV st c.a c.n).kind), .int .i64 ((hremV st c.a c.n).p), .int .i64 ((hremV st c.a c.n).q), .string ((hremV st c.a c.n).str), .int .i64 ((hremV st c.a c.n).ref), .int .i64 0, .int .i64 0, .int .i64 0, .string ByteArray.empty, .int .i64 0, .int .i64 0, .string ByteArray.empty, .bool false, .int .i64 (hremE st c.a c.n)]] (hpA b (hrem st c.a c.n) :: F) (SI.agg 4 65 3 SI.nil) (fun _ h => h.re [1] [1, 1, 1, 1]) ⟨?_, ?_⟩
           · rw [h2]; rfl
           · rw [h1]
          ·
           have p41 := of_decide_eq_false c38
           refine k_sr ?_
           refine s_lt t_cmp ?_
           refine sp (.bool (decide (c.kind = 10))) ?_
           refine s_nt ?_
           refine k_cond (decide (c.kind = 10)) (fun c42 => ?_) (fun c42 => ?_)
           ·
            have p43 := of_decide_eq_true c42
            refine k_reg ?_
            refine sp (pB b 0) ?_
            refine sp (pB g1 1) ?_
            refine s_lt (t_loadA 2 #[.int .i64 c.a.kind, .int .i64 c.a.p, .int .i64 c.a.q, .string c.a.str, .int .i64 c.a.ref]) ?_
            refine sp (pB g1 6) ?_
            refine s_lt (t_loadA 2 #[.int .i64 c.b.kind, .int .i64 c.b.p, .int .i64 c.b.q, .string c.b.str, .int .i64 c.b.ref]) ?_
            refine s_call [3] (hsetmeta_s (st := st) c.a c.b) ?_
            rintro _ _ ⟨rfl, rfl⟩
            refine sp (pB g3 13) ?_
            refine s_store 1 #[.int .i64 0, .int .i64 0, .int .i64 0, .string ByteArray.empty, .int .i64 0, .int .i64 0, .int .i64 0, .int .i64 0, .string ByteArray.empty, .int .i64 0, .int .i64 0, .string ByteArray.empty, .bool false, .int .i64 (hsetMetaE st c.a c.b)] ?_
            refine s_nil ?_
            refine xs_block ?_
            refine xs_then ?_
            refine k_sr ?_
            refine s_lt (t_loadA 1 #[.int .i64 0, .int .i64 0, .int .i64 0, .string ByteArray.empty, .int .i64 0, .int .i64 0, .int .i64 0, .int .i64 0, .string ByteArray.empty, .int .i64 0, .int .i64 0, .string ByteArray.empty, .bool false, .int .i64 (hsetMetaE st c.a c.b)]) ?_
            refine s_store 2 #[.int .i64 0, .int .i64 0, .int .i64 0, .string ByteArray.empty, .int .i64 0, .int .i64 0, .int .i64 0, .int .i64 0, .string ByteArray.empty, .int .i64 0, .int .i64 0, .string ByteArray.empty, .bool false, .int .i64 (hsetMetaE st c.a c.b)] ?_
            refine s_nt ?_
            refine k_ret ?_
            have h1 : hcall st c = hsetMeta st c.a c.b := hcall_10 (by omega)
            have h2 : hres st c = ⟨zVl, zVl, 0, ByteArray.empty, false, hsetMetaE st c.a c.b⟩ := hres_10 (by omega)
            refine xs_fin [.agg #[.int .i64 0, .int .i64 0, .int .i64 0, .string ByteArray.empty, .int .i64 0, .int .i64 0, .int .i64 0, .int .i64 0, .string ByteArray.empty, .int .i64 0, .int .i64 0, .string ByteArray.empty, .bool false, .int .i64 (hsetMetaE st c.a c.b)]] (hpA b (hsetMeta st c.a c.b) :: F) (SI.agg 4 65 2 SI.nil) (fun _ h => h.re [0] [1, 1, 1]) ⟨?_, ?_⟩
            · rw [h2]; rfl
            · rw [h1]
           ·
            have p44 := of_decide_eq_false c42
            refine k_sr ?_
            refine s_lt t_cmp ?_
            refine sp (.bool (decide (c.kind = 11))) ?_
            refine s_nt ?_
            refine k_cond (decide (c.kind = 11)) (fun c45 => ?_) (fun c45 => ?_)
            ·
             have p46 := of_decide_eq_true c45
             refine k_sr ?_
             refine sp (pB b 0) ?_
             refine sp (pB g1 1) ?_
             refine s_lt (t_loadA 2 #[.int .i64 c.a.kind, .int .i64 c.a.p, .int .i64 c.a.q, .string c.a.str, .int .i64 c.a.ref]) ?_
             refine sp (pB g1 16) ?_
             refine s_lt (t_load 2 (.int .i64 c.n)) ?_
             refine s_call [3] (hslot_s (st := st) hw c.a c.n) ?_
             rintro _ _ ⟨rfl, rfl⟩
             refine sp (.tuple #[.agg #[.int .i64 ((hslotV st c.a c.n).kind), .int .i64 ((hslotV st c.a c.n).p), .int .i64 ((hslotV st c.a c.n).q), .string ((hslotV st c.a c.n).str), .int .i64 ((hslotV st c.a c.n).ref)], .int .i64 (hslotE st c.a c.n)]) ?_
             refine sp (.agg #[.int .i64 ((hslotV st c.a c.n).kind), .int .i64 ((hslotV st c.a c.n).p), .int .i64 ((hslotV st c.a c.n).q), .string ((hslotV st c.a c.n).str), .int .i64 ((hslotV st c.a c.n).ref)]) ?_
             refine sp (.int .i64 (hslotE st c.a c.n)) ?_
             refine s_alloc (.agg #[.int .i64 0, .int .i64 0, .int .i64 0, .string ByteArray.empty, .int .i64 0]) #[.int .i64 0, .int .i64 0, .int .i64 0, .string ByteArray.empty, .int .i64 0] (fun g47 => ?_)
             refine s_store 0 #[.int .i64 ((hslotV st c.a c.n).kind), .int .i64 ((hslotV st c.a c.n).p), .int .i64 ((hslotV st c.a c.n).q), .string ((hslotV st c.a c.n).str), .int .i64 ((hslotV st c.a c.n).ref)] ?_
             refine sp (.int .i64 (hslotE st c.a c.n)) ?_
             refine s_nt ?_
             refine k_reg ?_
             refine s_lt (t_loadA 0 #[.int .i64 ((hslotV st c.a c.n).kind), .int .i64 ((hslotV st c.a c.n).p), .int .i64 ((hslotV st c.a c.n).q), .string ((hslotV st c.a c.n).str), .int .i64 ((hslotV st c.a c.n).ref)]) ?_
             refine sp (.int .i64 (hslotE st c.a c.n)) ?_
             refine s_lt (t_kern (.agg #[.int .i64 ((hslotV st c.a c.n).kind), .int .i64 ((hslotV st c.a c.n).p), .int .i64 ((hslotV st c.a c.n).q), .string ((hslotV st c.a c.n).str), .int .i64 ((hslotV st c.a c.n).ref), .int .i64 0, .int .i64 0, .int .i64 0, .string ByteArray.empty, .int .i64 0, .int .i64 0, .string ByteArray.empty, .bool false, .int .i64 (hslotE st c.a c.n)])) ?_
             refine s_store 2 #[.int .i64 ((hslotV st c.a c.n).kind), .int .i64 ((hslotV st c.a c.n).p), .int .i64 ((hslotV st c.a c.n).q), .string ((hslotV st c.a c.n).str), .int .i64 ((hslotV st c.a c.n).ref), .int .i64 0, .int .i64 0, .int .i64 0, .string ByteArray.empty, .int .i64 0, .int .i64 0, .string ByteArray.empty, .bool false, .int .i64 (hslotE st c.a c.n)] ?_
             refine s_nil ?_
             refine xs_block ?_
             refine xs_then ?_
             refine k_sr ?_
             refine s_lt (t_loadA 2 #[.int .i64 ((hslotV st c.a c.n).kind), .int .i64 ((hslotV st c.a c.n).p), .int .i64 ((hslotV st c.a c.n).q), .string ((hslotV st c.a c.n).str), .int .i64 ((hslotV st c.a c.n).ref), .int .i64 0, .int .i64 0, .int .i64 0, .string ByteArray.empty, .int .i64 0, .int .i64 0, .string ByteArray.empty, .bool false, .int .i64 (hslotE st c.a c.n)]) ?_
             refine s_store 3 #[.int .i64 ((hslotV st c.a c.n).kind), .int .i64 ((hslotV st c.a c.n).p), .int .i64 ((hslotV st c.a c.n).q), .string ((hslotV st c.a c.n).str), .int .i64 ((hslotV st c.a c.n).ref), .int .i64 0, .int .i64 0, .int .i64 0, .string ByteArray.empty, .int .i64 0, .int .i64 0, .string ByteArray.empty, .bool false, .int .i64 (hslotE st c.a c.n)] ?_
             refine s_nt ?_
             refine k_ret ?_
             have h1 : hcall st c = st := hcall_11 (by omega)
             have h2 : hres st c = ⟨hslotV st c.a c.n, zVl, 0, ByteArray.empty, false, hslotE st c.a c.n⟩ := hres_11 (by omega)
             refine xs_fin [.agg #[.int .i64 ((hslotV st c.a c.n).kind), .int .i64 ((hslotV st c.a c.n).p), .int .i64 ((hslotV st c.a c.n).q), .string ((hslotV st c.a c.n).str), .int .i64 ((hslotV st c.a c.n).ref), .int .i64 0, .int .i64 0, .int .i64 0, .string ByteArray.empty, .int .i64 0, .int .i64 0, .string ByteArray.empty, .bool false, .int .i64 (hslotE st c.a c.n)]] (hpA b st :: F) (SI.agg 4 65 3 SI.nil) (fun _ h => h.re [1] [1, 1, 1, 1]) ⟨?_, ?_⟩
             · rw [h2]; rfl
             · rw [h1]
            ·
             have p48 := of_decide_eq_false c45
             refine k_sr ?_
             refine s_lt t_cmp ?_
             refine sp (.bool (decide (c.kind = 12))) ?_
             refine s_nt ?_
             refine k_cond (decide (c.kind = 12)) (fun c49 => ?_) (fun c49 => ?_)
             ·
              have p50 := of_decide_eq_true c49
              refine k_reg ?_
              refine sp (pB b 0) ?_
              refine sp (pB g1 1) ?_
              refine s_lt (t_loadA 2 #[.int .i64 c.a.kind, .int .i64 c.a.p, .int .i64 c.a.q, .string c.a.str, .int .i64 c.a.ref]) ?_
              refine sp (pB g1 16) ?_
              refine s_lt (t_load 2 (.int .i64 c.n)) ?_
              refine sp (pB g1 11) ?_
              refine s_lt (t_loadA 2 #[.int .i64 c.c.kind, .int .i64 c.c.p, .int .i64 c.c.q, .string c.c.str, .int .i64 c.c.ref]) ?_
              refine s_call [3] (hsetslot_s (st := st) hw c.a c.n c.c) ?_
              rintro _ _ ⟨rfl, rfl⟩
              refine sp (pB g3 13) ?_
              refine s_store 1 #[.int .i64 0, .int .i64 0, .int .i64 0, .string ByteArray.empty, .int .i64 0, .int .i64 0, .int .i64 0, .int .i64 0, .string ByteArray.empty, .int .i64 0, .int .i64 0, .string ByteArray.empty, .bool false, .int .i64 (hsetSlotE st c.a c.n c.c)] ?_
              refine s_nil ?_
              refine xs_block ?_
              refine xs_then ?_
              refine k_sr ?_
              refine s_lt (t_loadA 1 #[.int .i64 0, .int .i64 0, .int .i64 0, .string ByteArray.empty, .int .i64 0, .int .i64 0, .int .i64 0, .int .i64 0, .string ByteArray.empty, .int .i64 0, .int .i64 0, .string ByteArray.empty, .bool false, .int .i64 (hsetSlotE st c.a c.n c.c)]) ?_
              refine s_store 2 #[.int .i64 0, .int .i64 0, .int .i64 0, .string ByteArray.empty, .int .i64 0, .int .i64 0, .int .i64 0, .int .i64 0, .string ByteArray.empty, .int .i64 0, .int .i64 0, .string ByteArray.empty, .bool false, .int .i64 (hsetSlotE st c.a c.n c.c)] ?_
              refine s_nt ?_
              refine k_ret ?_
              have h1 : hcall st c = hsetSlot st c.a c.n c.c := hcall_12 (by omega)
              have h2 : hres st c = ⟨zVl, zVl, 0, ByteArray.empty, false, hsetSlotE st c.a c.n c.c⟩ := hres_12 (by omega)
              refine xs_fin [.agg #[.int .i64 0, .int .i64 0, .int .i64 0, .string ByteArray.empty, .int .i64 0, .int .i64 0, .int .i64 0, .int .i64 0, .string ByteArray.empty, .int .i64 0, .int .i64 0, .string ByteArray.empty, .bool false, .int .i64 (hsetSlotE st c.a c.n c.c)]] (hpA b (hsetSlot st c.a c.n c.c) :: F) (SI.agg 4 65 2 SI.nil) (fun _ h => h.re [0] [1, 1, 1]) ⟨?_, ?_⟩
              · rw [h2]; rfl
              · rw [h1]
             ·
              have p51 := of_decide_eq_false c49
              refine k_sr ?_
              refine s_lt t_cmp ?_
              refine sp (.bool (decide (c.kind = 13))) ?_
              refine s_nt ?_
              refine k_cond (decide (c.kind = 13)) (fun c52 => ?_) (fun c52 => ?_)
              ·
               have p53 := of_decide_eq_true c52
               refine k_reg ?_
               refine sp (pB b 0) ?_
               refine sp (pB g1 1) ?_
               refine s_lt (t_loadA 2 #[.int .i64 c.a.kind, .int .i64 c.a.p, .int .i64 c.a.q, .string c.a.str, .int .i64 c.a.ref]) ?_
               refine sp (pB g1 18) ?_
               refine s_lt (t_load 2 c.lv.v) ?_
               refine s_call [3] (hsetrefs_s (st := st) hc (by (try simp only [lnm]); omega) c.a) ?_
               rintro _ _ ⟨rfl, rfl⟩
               refine sp (pB g3 13) ?_
               refine s_store 1 #[.int .i64 0, .int .i64 0, .int .i64 0, .string ByteArray.empty, .int .i64 0, .int .i64 0, .int .i64 0, .int .i64 0, .string ByteArray.empty, .int .i64 0, .int .i64 0, .string ByteArray.empty, .bool false, .int .i64 (hsetRefsE st c.a c.l)] ?_
               refine s_nil ?_
               refine xs_block ?_
               refine xs_then ?_
               refine k_sr ?_
               refine s_lt (t_loadA 1 #[.int .i64 0, .int .i64 0, .int .i64 0, .string ByteArray.empty, .int .i64 0, .int .i64 0, .int .i64 0, .int .i64 0, .string ByteArray.empty, .int .i64 0, .int .i64 0, .string ByteArray.empty, .bool false, .int .i64 (hsetRefsE st c.a c.l)]) ?_
               refine s_store 2 #[.int .i64 0, .int .i64 0, .int .i64 0, .string ByteArray.empty, .int .i64 0, .int .i64 0, .int .i64 0, .int .i64 0, .string ByteArray.empty, .int .i64 0, .int .i64 0, .string ByteArray.empty, .bool false, .int .i64 (hsetRefsE st c.a c.l)] ?_
               refine s_nt ?_
               refine k_ret ?_
               have h1 : hcall st c = hsetRefs st c.a c.l := hcall_13 (by omega)
               have h2 : hres st c = ⟨zVl, zVl, 0, ByteArray.empty, false, hsetRefsE st c.a c.l⟩ := hres_13 (by omega)
               refine xs_fin [.agg #[.int .i64 0, .int .i64 0, .int .i64 0, .string ByteArray.empty, .int .i64 0, .int .i64 0, .int .i64 0, .int .i64 0, .string ByteArray.empty, .int .i64 0, .int .i64 0, .string ByteArray.empty, .bool false, .int .i64 (hsetRefsE st c.a c.l)]] (hpA b (hsetRefs st c.a c.l) :: F) (SI.agg 4 65 2 SI.nil) (fun _ h => h.re [0] [1, 1, 1]) ⟨?_, ?_⟩
               · rw [h2]; rfl
               · rw [h1]
              ·
               have p54 := of_decide_eq_false c52
               refine k_sr ?_
               refine s_lt t_cmp ?_
               refine sp (.bool (decide (c.kind = 14))) ?_
               refine s_nt ?_
               refine k_cond (decide (c.kind = 14)) (fun c55 => ?_) (fun c55 => ?_)
               ·
                have p56 := of_decide_eq_true c55
                refine k_reg ?_
                refine sp (pB b 0) ?_
                refine sp (pB g1 16) ?_
                refine s_lt (t_load 2 (.int .i64 c.n)) ?_
                refine s_call [3] (hdrop_s (st := st) c.n) ?_
                rintro _ _ ⟨rfl, rfl⟩
                refine sp (pB g3 13) ?_
                refine s_store 1 #[.int .i64 0, .int .i64 0, .int .i64 0, .string ByteArray.empty, .int .i64 0, .int .i64 0, .int .i64 0, .int .i64 0, .string ByteArray.empty, .int .i64 0, .int .i64 0, .string ByteArray.empty, .bool false, .int .i64 (hdropE st c.n)] ?_
                refine s_nil ?_
                refine xs_block ?_
                refine xs_then ?_
                refine k_sr ?_
                refine s_lt (t_loadA 1 #[.int .i64 0, .int .i64 0, .int .i64 0, .string ByteArray.empty, .int .i64 0, .int .i64 0, .int .i64 0, .int .i64 0, .string ByteArray.empty, .int .i64 0, .int .i64 0, .string ByteArray.empty, .bool false, .int .i64 (hdropE st c.n)]) ?_
                refine s_store 2 #[.int .i64 0, .int .i64 0, .int .i64 0, .string ByteArray.empty, .int .i64 0, .int .i64 0, .int .i64 0, .int .i64 0, .string ByteArray.empty, .int .i64 0, .int .i64 0, .string ByteArray.empty, .bool false, .int .i64 (hdropE st c.n)] ?_
                refine s_nt ?_
                refine k_ret ?_
                have h1 : hcall st c = hdrop st c.n := hcall_14 (by omega)
                have h2 : hres st c = ⟨zVl, zVl, 0, ByteArray.empty, false, hdropE st c.n⟩ := hres_14 (by omega)
                refine xs_fin [.agg #[.int .i64 0, .int .i64 0, .int .i64 0, .string ByteArray.empty, .int .i64 0, .int .i64 0, .int .i64 0, .int .i64 0, .string ByteArray.empty, .int .i64 0, .int .i64 0, .string ByteArray.empty, .bool false, .int .i64 (hdropE st c.n)]] (hpA b (hdrop st c.n) :: F) (SI.agg 4 65 2 SI.nil) (fun _ h => h.re [0] [1, 1, 1]) ⟨?_, ?_⟩
                · rw [h2]; rfl
                · rw [h1]
               ·
                have p57 := of_decide_eq_false c55
                refine k_sr ?_
                refine s_lt t_cmp ?_
                refine sp (.bool (decide (c.kind = 15))) ?_
                refine s_nt ?_
                refine k_cond (decide (c.kind = 15)) (fun c58 => ?_) (fun c58 => ?_)
                ·
                 have p59 := of_decide_eq_true c58
                 refine k_sr ?_
                 refine sp (pB b 0) ?_
                 refine sp (pB g1 1) ?_
                 refine s_lt (t_loadA 2 #[.int .i64 c.a.kind, .int .i64 c.a.p, .int .i64 c.a.q, .string c.a.str, .int .i64 c.a.ref]) ?_
                 refine s_call [3] (htag_s (st := st) c.a) ?_
                 rintro _ _ ⟨rfl, rfl⟩
                 refine sp (.tuple #[.int .i64 ((htagV st c.a).1), .bool ((htagV st c.a).2)]) ?_
                 refine sp (.int .i64 ((htagV st c.a).1)) ?_
                 refine sp (.bool ((htagV st c.a).2)) ?_
                 refine sp (.int .i64 ((htagV st c.a).1)) ?_
                 refine sp (.bool ((htagV st c.a).2)) ?_
                 refine s_nt ?_
                 refine k_reg ?_
                 refine sp (.int .i64 ((htagV st c.a).1)) ?_
                 refine sp (.bool ((htagV st c.a).2)) ?_
                 refine s_lt (t_kern (.agg #[.int .i64 0, .int .i64 0, .int .i64 0, .string ByteArray.empty, .int .i64 0, .int .i64 0, .int .i64 0, .int .i64 0, .string ByteArray.empty, .int .i64 0, .int .i64 ((htagV st c.a).1), .string ByteArray.empty, .bool ((htagV st c.a).2), .int .i64 0])) ?_
                 refine s_store 1 #[.int .i64 0, .int .i64 0, .int .i64 0, .string ByteArray.empty, .int .i64 0, .int .i64 0, .int .i64 0, .int .i64 0, .string ByteArray.empty, .int .i64 0, .int .i64 ((htagV st c.a).1), .string ByteArray.empty, .bool ((htagV st c.a).2), .int .i64 0] ?_
                 refine s_nil ?_
                 refine xs_block ?_
                 refine xs_then ?_
                 refine k_sr ?_
                 refine s_lt (t_loadA 1 #[.int .i64 0, .int .i64 0, .int .i64 0, .string ByteArray.empty, .int .i64 0, .int .i64 0, .int .i64 0, .int .i64 0, .string ByteArray.empty, .int .i64 0, .int .i64 ((htagV st c.a).1), .string ByteArray.empty, .bool ((htagV st c.a).2), .int .i64 0]) ?_
                 refine s_store 2 #[.int .i64 0, .int .i64 0, .int .i64 0, .string ByteArray.empty, .int .i64 0, .int .i64 0, .int .i64 0, .int .i64 0, .string ByteArray.empty, .int .i64 0, .int .i64 ((htagV st c.a).1), .string ByteArray.empty, .bool ((htagV st c.a).2), .int .i64 0] ?_
                 refine s_nt ?_
                 refine k_ret ?_
                 have h1 : hcall st c = st := hcall_15 (by omega)
                 have h2 : hres st c = ⟨zVl, zVl, (htagV st c.a).1, ByteArray.empty, (htagV st c.a).2, 0⟩ := hres_15 (by omega)
                 refine xs_fin [.agg #[.int .i64 0, .int .i64 0, .int .i64 0, .string ByteArray.empty, .int .i64 0, .int .i64 0, .int .i64 0, .int .i64 0, .string ByteArray.empty, .int .i64 0, .int .i64 ((htagV st c.a).1), .string ByteArray.empty, .bool ((htagV st c.a).2), .int .i64 0]] (hpA b st :: F) (SI.agg 4 65 2 SI.nil) (fun _ h => h.re [0] [1, 1, 1]) ⟨?_, ?_⟩
                 · rw [h2]; rfl
                 · rw [h1]
                ·
                 have p60 := of_decide_eq_false c58
                 refine k_sr ?_
                 refine s_lt t_cmp ?_
                 refine sp (.bool (decide (c.kind = 16))) ?_
                 refine s_nt ?_
                 refine k_cond (decide (c.kind = 16)) (fun c61 => ?_) (fun c61 => ?_)
                 ·
                  have p62 := of_decide_eq_true c61
                  refine k_sr ?_
                  refine sp (pB b 0) ?_
                  refine sp (pB g1 1) ?_
                  refine s_lt (t_loadA 2 #[.int .i64 c.a.kind, .int .i64 c.a.p, .int .i64 c.a.q, .string c.a.str, .int .i64 c.a.ref]) ?_
                  refine s_call [3] (hname_s (st := st) c.a) ?_
                  rintro _ _ ⟨rfl, rfl⟩
                  refine sp (.tuple #[.string ((hnameV st c.a).1), .bool ((hnameV st c.a).2)]) ?_
                  refine sp (.string ((hnameV st c.a).1)) ?_
                  refine sp (.bool ((hnameV st c.a).2)) ?_
                  refine sp (.string ((hnameV st c.a).1)) ?_
                  refine sp (.bool ((hnameV st c.a).2)) ?_
                  refine s_nt ?_
                  refine k_reg ?_
                  refine sp (.string ((hnameV st c.a).1)) ?_
                  refine sp (.bool ((hnameV st c.a).2)) ?_
                  refine s_lt (t_kern (.agg #[.int .i64 0, .int .i64 0, .int .i64 0, .string ByteArray.empty, .int .i64 0, .int .i64 0, .int .i64 0, .int .i64 0, .string ByteArray.empty, .int .i64 0, .int .i64 0, .string ((hnameV st c.a).1), .bool ((hnameV st c.a).2), .int .i64 0])) ?_
                  refine s_store 1 #[.int .i64 0, .int .i64 0, .int .i64 0, .string ByteArray.empty, .int .i64 0, .int .i64 0, .int .i64 0, .int .i64 0, .string ByteArray.empty, .int .i64 0, .int .i64 0, .string ((hnameV st c.a).1), .bool ((hnameV st c.a).2), .int .i64 0] ?_
                  refine s_nil ?_
                  refine xs_block ?_
                  refine xs_then ?_
                  refine k_sr ?_
                  refine s_lt (t_loadA 1 #[.int .i64 0, .int .i64 0, .int .i64 0, .string ByteArray.empty, .int .i64 0, .int .i64 0, .int .i64 0, .int .i64 0, .string ByteArray.empty, .int .i64 0, .int .i64 0, .string ((hnameV st c.a).1), .bool ((hnameV st c.a).2), .int .i64 0]) ?_
                  refine s_store 2 #[.int .i64 0, .int .i64 0, .int .i64 0, .string ByteArray.empty, .int .i64 0, .int .i64 0, .int .i64 0, .int .i64 0, .string ByteArray.empty, .int .i64 0, .int .i64 0, .string ((hnameV st c.a).1), .bool ((hnameV st c.a).2), .int .i64 0] ?_
                  refine s_nt ?_
                  refine k_ret ?_
                  have h1 : hcall st c = st := hcall_16 (by omega)
                  have h2 : hres st c = ⟨zVl, zVl, 0, (hnameV st c.a).1, (hnameV st c.a).2, 0⟩ := hres_16 (by omega)
                  refine xs_fin [.agg #[.int .i64 0, .int .i64 0, .int .i64 0, .string ByteArray.empty, .int .i64 0, .int .i64 0, .int .i64 0, .int .i64 0, .string ByteArray.empty, .int .i64 0, .int .i64 0, .string ((hnameV st c.a).1), .bool ((hnameV st c.a).2), .int .i64 0]] (hpA b st :: F) (SI.agg 4 65 2 SI.nil) (fun _ h => h.re [0] [1, 1, 1]) ⟨?_, ?_⟩
                  · rw [h2]; rfl
                  · rw [h1]
                 ·
                  have p63 := of_decide_eq_false c61
                  refine k_sr ?_
                  refine s_lt t_cmp ?_
                  refine sp (.bool (decide (c.kind = 17))) ?_
                  refine s_nt ?_
                  refine k_cond (decide (c.kind = 17)) (fun c64 => ?_) (fun c64 => ?_)
                  ·
                   have p65 := of_decide_eq_true c64
                   refine k_reg ?_
                   refine sp (pB b 0) ?_
                   refine sp (pB g1 1) ?_
                   refine s_lt (t_loadA 2 #[.int .i64 c.a.kind, .int .i64 c.a.p, .int .i64 c.a.q, .string c.a.str, .int .i64 c.a.ref]) ?_
                   refine s_call [3] (hmeta_s (st := st) c.a) ?_
                   rintro _ _ ⟨rfl, rfl⟩
                   refine sp (pB g3 0) ?_
                   refine s_store 1 #[.int .i64 ((hmeta st c.a).kind), .int .i64 ((hmeta st c.a).p), .int .i64 ((hmeta st c.a).q), .string ((hmeta st c.a).str), .int .i64 ((hmeta st c.a).ref), .int .i64 0, .int .i64 0, .int .i64 0, .string ByteArray.empty, .int .i64 0, .int .i64 0, .string ByteArray.empty, .bool false, .int .i64 0] ?_
                   refine s_nil ?_
                   refine xs_block ?_
                   refine xs_then ?_
                   refine k_sr ?_
                   refine s_lt (t_loadA 1 #[.int .i64 ((hmeta st c.a).kind), .int .i64 ((hmeta st c.a).p), .int .i64 ((hmeta st c.a).q), .string ((hmeta st c.a).str), .int .i64 ((hmeta st c.a).ref), .int .i64 0, .int .i64 0, .int .i64 0, .string ByteArray.empty, .int .i64 0, .int .i64 0, .string ByteArray.empty, .bool false, .int .i64 0]) ?_
                   refine s_store 2 #[.int .i64 ((hmeta st c.a).kind), .int .i64 ((hmeta st c.a).p), .int .i64 ((hmeta st c.a).q), .string ((hmeta st c.a).str), .int .i64 ((hmeta st c.a).ref), .int .i64 0, .int .i64 0, .int .i64 0, .string ByteArray.empty, .int .i64 0, .int .i64 0, .string ByteArray.empty, .bool false, .int .i64 0] ?_
                   refine s_nt ?_
                   refine k_ret ?_
                   have h1 : hcall st c = st := hcall_17 (by omega)
                   have h2 : hres st c = ⟨hmeta st c.a, zVl, 0, ByteArray.empty, false, 0⟩ := hres_17 (by omega)
                   refine xs_fin [.agg #[.int .i64 ((hmeta st c.a).kind), .int .i64 ((hmeta st c.a).p), .int .i64 ((hmeta st c.a).q), .string ((hmeta st c.a).str), .int .i64 ((hmeta st c.a).ref), .int .i64 0, .int .i64 0, .int .i64 0, .string ByteArray.empty, .int .i64 0, .int .i64 0, .string ByteArray.empty, .bool false, .int .i64 0]] (hpA b st :: F) (SI.agg 4 65 2 SI.nil) (fun _ h => h.re [0] [1, 1, 1]) ⟨?_, ?_⟩
                   · rw [h2]; rfl
                   · rw [h1]
                  ·
                   have p66 := of_decide_eq_false c64
                   refine k_reg ?_
                   refine sp (pB b 0) ?_
                   refine sp (pB g1 16) ?_
                   refine s_lt (t_load 2 (.int .i64 c.n)) ?_
                   refine s_call [3] (halive_s (st := st) c.n) ?_
                   rintro _ _ ⟨rfl, rfl⟩
                   refine sp (pB g3 12) ?_
                   refine s_store 1 #[.int .i64 0, .int .i64 0, .int .i64 0, .string ByteArray.empty, .int .i64 0, .int .i64 0, .int .i64 0, .int .i64 0, .string ByteArray.empty, .int .i64 0, .int .i64 0, .string ByteArray.empty, .bool (halive st c.n), .int .i64 0] ?_
                   refine s_nil ?_
                   refine xs_block ?_
                   refine xs_then ?_
                   refine k_sr ?_
                   refine s_lt (t_loadA 1 #[.int .i64 0, .int .i64 0, .int .i64 0, .string ByteArray.empty, .int .i64 0, .int .i64 0, .int .i64 0, .int .i64 0, .string ByteArray.empty, .int .i64 0, .int .i64 0, .string ByteArray.empty, .bool (halive st c.n), .int .i64 0]) ?_
                   refine s_store 2 #[.int .i64 0, .int .i64 0, .int .i64 0, .string ByteArray.empty, .int .i64 0, .int .i64 0, .int .i64 0, .int .i64 0, .string ByteArray.empty, .int .i64 0, .int .i64 0, .string ByteArray.empty, .bool (halive st c.n), .int .i64 0] ?_
                   refine s_nt ?_
                   refine k_ret ?_
                   have h1 : hcall st c = st := hcall_x (by omega)
                   have h2 : hres st c = ⟨zVl, zVl, 0, ByteArray.empty, halive st c.n, 0⟩ := hres_x (by omega)
                   refine xs_fin [.agg #[.int .i64 0, .int .i64 0, .int .i64 0, .string ByteArray.empty, .int .i64 0, .int .i64 0, .int .i64 0, .int .i64 0, .string ByteArray.empty, .int .i64 0, .int .i64 0, .string ByteArray.empty, .bool (halive st c.n), .int .i64 0]] (hpA b st :: F) (SI.agg 4 65 2 SI.nil) (fun _ h => h.re [0] [1, 1, 1]) ⟨?_, ?_⟩
                   · rw [h2]; rfl
                   · rw [h1]
end Go.Proofs.Ytmilekfknhglkaa
end
section
set_option linter.unusedSimpArgs false
set_option linter.unusedVariables false
namespace Go.J
open Go.ChangeShapes Go.WideShapes Go.RowKit Go.Hp
open Go.Mem (Ty)
section
variable {H : Type} {enc : TypeId × Value → H} {P : Program} {W : World}
abbrev Tr (enc : TypeId × Value → H) (P : Program) (W : World) (t : TypeId) (cs : List Value) : Prop := ∃ n x, DataW.trod enc P W 0 (fun _ => true) true n t cs = some x
theorem tr_field {t : TypeId} {fs : Array Field} {cs : List Value} (hu : P.underlying t = some (.struct fs)) (h : Tr enc P W t cs) (j : Nat) (f : Field) (hf : fs[j]? = some f) : Tr enc P W f.type ((cs.drop f.offset).take (P.cellsOf f.type)) := by
  obtain ⟨fuel, x, hx⟩ := h
  obtain ⟨xs, n, _, _, hlen, hxl, hall⟩ := DataW.trod_struct hu hx
  have h2 := hall j f hf
  have hj : j < xs.length := by rw [hxl]; exact (Array.getElem?_eq_some_iff.1 hf).1
  rw [List.getElem?_eq_getElem hj] at h2
  exact ⟨n, _, h2⟩
theorem tr_len {t : TypeId} {fs : Array Field} {cs : List Value} (hu : P.underlying t = some (.struct fs)) (h : Tr enc P W t cs) : cs.length = P.cellsOf t := by
  obtain ⟨fuel, x, hx⟩ := h
  obtain ⟨xs, n, _, _, hlen, hxl, hall⟩ := DataW.trod_struct hu hx
  exact hlen
theorem tr_int {t : TypeId} {k : IntKind} {cs : List Value} (hu : P.underlying t = some (.int k)) (h : Tr enc P W t cs) : ∃ n, cs = [.int k n] ∧ (Lit.int k n).wf = true := by
  obtain ⟨fuel, x, hx⟩ := h
  obtain ⟨n, h1, _, h3⟩ := DataW.trod_int hu hx
  exact ⟨n, h1, h3⟩
theorem tr_bool {t : TypeId} {cs : List Value} (hu : P.underlying t = some .bool) (h : Tr enc P W t cs) : ∃ b, cs = [.bool b] := by
  obtain ⟨fuel, x, hx⟩ := h
  obtain ⟨n, h1, _⟩ := DataW.trod_bool hu hx
  exact ⟨n, h1⟩
theorem tr_str {t : TypeId} {cs : List Value} (hu : P.underlying t = some .string) (h : Tr enc P W t cs) : ∃ s, cs = [.string s] := by
  obtain ⟨fuel, x, hx⟩ := h
  obtain ⟨n, h1, _⟩ := DataW.trod_string hu hx
  exact ⟨n, h1⟩
/-- A slice that is read: its elements, and that each of them is read. -/
theorem tr_slice {α : Type} [Inhabited α] {T : Ty α} (hT : T.Ok P) {t : TypeId} {cs : List Value} (ht : P.underlying t = some (.slice T.id)) (hc : P.cellsOf T.id = T.size)
    (hdec : ∀ cs, Tr enc P W T.id cs → ∃ x, T.enc x = cs) (h : Tr enc P W t cs) : ∃ v L, cs = [v] ∧ Sl W.heap T v L ∧ ∀ (k : Nat) y, L[k]? = some y → Tr enc P W T.id (T.enc y) := by
  obtain ⟨fuel, x, hf⟩ := h
  rcases Deep.open_slice ht hf with ⟨h0, _⟩ | ⟨a, len0, cap, m, n, D, Pl, h0, _, hl, hm, hmm, _, hx⟩
  · exact ⟨_, [], h0, .inl ⟨⟨none, rfl⟩, rfl⟩, by simp⟩
  simp only [if_true] at hmm
  subst hmm
  have hpos := hT.pos
  rw [hc] at hx
  by_cases hcap : m = 0
  · subst hcap
    obtain rfl : len0 = 0 := by omega
    exact ⟨_, [], h0, .inl ⟨⟨some a, rfl⟩, rfl⟩, by simp⟩
  obtain ⟨g, off, spot⟩ := a
  have key : spot = none ∧ ∃ arr e fr, W.heap[g]? = some (.cells arr e fr) := by
    obtain ⟨cs', h1, h2⟩ := hx 0 (by omega)
    obtain ⟨_, hlen, hcell⟩ := World.cells?_some h1
    have h3 := hcell 0 hpos
    simp only [Nat.zero_mul, Addr.add, if_true] at h3
    have hne : cs'[0]? ≠ none := by rw [List.getElem?_eq_getElem (by omega)]; exact fun h => nomatch h
    unfold World.cell? at h3
    simp only at h3
    cases hg : W.heap[g]? with
    | none => rw [hg] at h3; simp only at h3; exact absurd h3.symm hne
    | some ob =>
      rw [hg] at h3
      cases ob <;> simp only at h3 <;> first | (exact absurd h3.symm hne) | skip
      rename_i arr e fr
      cases spot with
      | none => exact ⟨rfl, arr, e, fr, rfl⟩
      | some s => simp only [Option.isSome_some, if_true] at h3; exact absurd h3.symm hne
  obtain ⟨rfl, arr, e, fr, hg⟩ := key
  obtain ⟨X, hX⟩ := Deep.choose_lt (α := α) (p := fun i x => (∀ j u, (T.enc x)[j]? = some u → arr[off + i * T.size + j]? = some u) ∧ Tr enc P W T.id (T.enc x)) (fun i hi => by
    obtain ⟨cs', h1, h2⟩ := hx i hi
    obtain ⟨_, hlen, hcell⟩ := World.cells?_some h1
    obtain ⟨x, hx'⟩ := hdec cs' ⟨_, _, h2⟩
    refine ⟨x, fun j u hj => ?_, by rw [hx']; exact ⟨_, _, h2⟩⟩
    rw [hx'] at hj
    have hjl : j < T.size := by rw [← hlen]; exact (List.getElem?_eq_some_iff.1 hj).1
    have := hcell j hjl
    rw [Mem.addr_add, Mem.addr_add, cell_of_row W g _ arr e fr hg, hj] at this
    exact this)
  have hget : ∀ i j, i < m → j < T.size → ∃ u, (T.enc (X i))[j]? = some u ∧ arr[off + i * T.size + j]? = some u := fun i j hi hj => by
    have : j < (T.enc (X i)).length := by rw [hT.len]; exact hj
    exact ⟨_, List.getElem?_eq_getElem this, (hX i hi).1 j _ (List.getElem?_eq_getElem this)⟩
  refine ⟨_, (List.range len0).map X, h0, .inr ⟨g, off, m, arr, e, fr, by simp, hg, by simpa using hl, hm, ?_, ?_⟩, ?_⟩
  · intro hcp
    obtain ⟨u, _, hu⟩ := hget (m - 1) (T.size - 1) (by omega) (by omega)
    have hlt := (Array.getElem?_eq_some_iff.1 hu).1
    have : m * T.size = (m - 1) * T.size + T.size := by rw [Nat.sub_mul]; have : T.size ≤ m * T.size := Nat.le_mul_of_pos_left _ hcp; omega
    omega
  · apply List.ext_getElem?
    intro q
    have hfl := hT.flat_len ((List.range len0).map X)
    simp only [List.length_map, List.length_range] at hfl ⊢
    by_cases hq : q < len0 * T.size
    · have hi : q / T.size < len0 := Nat.div_lt_of_lt_mul (by rw [Nat.mul_comm]; exact hq)
      have hj : q % T.size < T.size := Nat.mod_lt _ hpos
      have e1 : q = q / T.size * T.size + q % T.size := by rw [Nat.mul_comm]; exact (Nat.div_add_mod _ _).symm
      obtain ⟨u, h1, h2⟩ := hget (q / T.size) (q % T.size) (by omega) hj
      have hL : ((List.range len0).map X)[q / T.size]? = some (X (q / T.size)) := by simp [hi]
      have h3 := hT.flat_get hL hj
      rw [← e1, h1] at h3
      rw [h3, List.getElem?_take, if_pos hq, List.getElem?_drop, Array.getElem?_toList]
      rw [← h2]
      congr 1
      omega
    · rw [List.getElem?_eq_none (by simp; omega), List.getElem?_eq_none (by rw [hfl]; omega)]
  · intro k y hk
    simp only [List.getElem?_map, Option.map_eq_some_iff] at hk
    obtain ⟨i, hi, rfl⟩ := hk
    have hi' := List.getElem?_eq_some_iff.1 hi
    obtain ⟨hlt, he⟩ := hi'
    simp at hlt he
    subst he
    exact (hX k (by omega)).2
end
end Go.J
end
section
set_option linter.unusedSimpArgs false
set_option linter.unusedVariables false
namespace Go.J
open Go.ChangeShapes Go.WideShapes Go.RowKit Go.Hp
open Go.Mem (Ty)
section
variable {H : Type} {enc : TypeId × Value → H} {P : Program} {W : World}
/-- A slice that is read: its elements, and that each of them is read. -/
theorem tr_sliceQ {α : Type} [Inhabited α] {T : Ty α} (hT : T.Ok P) {t : TypeId} {cs : List Value} (ht : P.underlying t = some (.slice T.id)) (hc : P.cellsOf T.id = T.size)
    {Q : α → Prop} (hdec : ∀ cs, Tr enc P W T.id cs → ∃ x, T.enc x = cs ∧ Q x) (h : Tr enc P W t cs) : ∃ v L, cs = [v] ∧ Sl W.heap T v L ∧ ∀ y ∈ L, Q y := by
  obtain ⟨fuel, x, hf⟩ := h
  rcases Deep.open_slice ht hf with ⟨h0, _⟩ | ⟨a, len0, cap, m, n, D, Pl, h0, _, hl, hm, hmm, _, hx⟩
  · exact ⟨_, [], h0, .inl ⟨⟨none, rfl⟩, rfl⟩, by simp⟩
  simp only [if_true] at hmm
  subst hmm
  have hpos := hT.pos
  rw [hc] at hx
  by_cases hcap : m = 0
  · subst hcap
    obtain rfl : len0 = 0 := by omega
    exact ⟨_, [], h0, .inl ⟨⟨some a, rfl⟩, rfl⟩, by simp⟩
  obtain ⟨g, off, spot⟩ := a
  have key : spot = none ∧ ∃ arr e fr, W.heap[g]? = some (.cells arr e fr) := by
    obtain ⟨cs', h1, h2⟩ := hx 0 (by omega)
    obtain ⟨_, hlen, hcell⟩ := World.cells?_some h1
    have h3 := hcell 0 hpos
    simp only [Nat.zero_mul, Addr.add, if_true] at h3
    have hne : cs'[0]? ≠ none := by rw [List.getElem?_eq_getElem (by omega)]; exact fun h => nomatch h
    unfold World.cell? at h3
    simp only at h3
    cases hg : W.heap[g]? with
    | none => rw [hg] at h3; simp only at h3; exact absurd h3.symm hne
    | some ob =>
      rw [hg] at h3
      cases ob <;> simp only at h3 <;> first | (exact absurd h3.symm hne) | skip
      rename_i arr e fr
      cases spot with
      | none => exact ⟨rfl, arr, e, fr, rfl⟩
      | some s => simp only [Option.isSome_some, if_true] at h3; exact absurd h3.symm hne
  obtain ⟨rfl, arr, e, fr, hg⟩ := key
  obtain ⟨X, hX⟩ := Deep.choose_lt (α := α) (p := fun i x => (∀ j u, (T.enc x)[j]? = some u → arr[off + i * T.size + j]? = some u) ∧ Q x) (fun i hi => by
    obtain ⟨cs', h1, h2⟩ := hx i hi
    obtain ⟨_, hlen, hcell⟩ := World.cells?_some h1
    obtain ⟨x, hx', hQ⟩ := hdec cs' ⟨_, _, h2⟩
    refine ⟨x, fun j u hj => ?_, hQ⟩
    rw [hx'] at hj
    have hjl : j < T.size := by rw [← hlen]; exact (List.getElem?_eq_some_iff.1 hj).1
    have := hcell j hjl
    rw [Mem.addr_add, Mem.addr_add, cell_of_row W g _ arr e fr hg, hj] at this
    exact this)
  have hget : ∀ i j, i < m → j < T.size → ∃ u, (T.enc (X i))[j]? = some u ∧ arr[off + i * T.size + j]? = some u := fun i j hi hj => by
    have : j < (T.enc (X i)).length := by rw [hT.len]; exact hj
    exact ⟨_, List.getElem?_eq_getElem this, (hX i hi).1 j _ (List.getElem?_eq_getElem this)⟩
  refine ⟨_, (List.range len0).map X, h0, .inr ⟨g, off, m, arr, e, fr, by simp, hg, by simpa using hl, hm, ?_, ?_⟩, ?_⟩
  · intro hcp
    obtain ⟨u, _, hu⟩ := hget (m - 1) (T.size - 1) (by omega) (by omega)
    have hlt := (Array.getElem?_eq_some_iff.1 hu).1
    have : m * T.size = (m - 1) * T.size + T.size := by rw [Nat.sub_mul]; have : T.size ≤ m * T.size := Nat.le_mul_of_pos_left _ hcp; omega
    omega
  · apply List.ext_getElem?
    intro q
    have hfl := hT.flat_len ((List.range len0).map X)
    simp only [List.length_map, List.length_range] at hfl ⊢
    by_cases hq : q < len0 * T.size
    · have hi : q / T.size < len0 := Nat.div_lt_of_lt_mul (by rw [Nat.mul_comm]; exact hq)
      have hj : q % T.size < T.size := Nat.mod_lt _ hpos
      have e1 : q = q / T.size * T.size + q % T.size := by rw [Nat.mul_comm]; exact (Nat.div_add_mod _ _).symm
      obtain ⟨u, h1, h2⟩ := hget (q / T.size) (q % T.size) (by omega) hj
      have hL : ((List.range len0).map X)[q / T.size]? = some (X (q / T.size)) := by simp [hi]
      have h3 := hT.flat_get hL hj
      rw [← e1, h1] at h3
      rw [h3, List.getElem?_take, if_pos hq, List.getElem?_drop, Array.getElem?_toList]
      rw [← h2]
      congr 1
      omega
    · rw [List.getElem?_eq_none (by simp; omega), List.getElem?_eq_none (by rw [hfl]; omega)]
  · intro y hy
    simp only [List.mem_map, List.mem_range] at hy
    obtain ⟨i, hi, rfl⟩ := hy
    exact (hX i (by omega)).2
theorem tr_fieldC {t : TypeId} {fs : Array Field} {cs : List Value} (hu : P.underlying t = some (.struct fs)) (h : Tr enc P W t cs) (j : Nat) (u : TypeId) (off m : Nat) (hf : (fs[j]?).map (fun f => (f.type, f.offset)) = some (u, off) := by rfl) (hc : P.cellsOf u = m := by kernel_rfl) : Tr enc P W u ((cs.drop off).take m) := by
  cases hfj : fs[j]? with
  | none => rw [hfj] at hf; cases hf
  | some f =>
    rw [hfj] at hf
    injection hf with hf; injection hf with e1 e2
    subst e1 e2 hc
    exact tr_field hu h j f hfj
end
end Go.J
end
section
set_option linter.unusedSimpArgs false
set_option linter.unusedVariables false
namespace Go.Proofs.Ytmilekfknhglkaa
open Go.RowKit Go.J Go.S Go.Hp Go.ChangeShapes Go.WideShapes
theorem Try.own : ownKnob Try.prog.godebug = none := by kernel_rfl
theorem Try.laidOut : laidOutB Try.prog = true := by kernel_rfl
instance : Inhabited Vl := ⟨zVl⟩
instance : Inhabited Cl := ⟨ClT.zero⟩
section
variable {H : Type} {enc : TypeId × Value → H} {W : World}
theorem open_val {cs : List Value} (h : Tr enc Try.prog W 26 cs) : ∃ x : Vl, cs = VlT.enc x := by
  have hl : cs.length = 5 := (tr_len Try.underlying26 h).trans (by kernel_rfl)
  obtain ⟨a, ea, _⟩ := tr_int Try.underlying3 (tr_fieldC Try.underlying26 h 0 3 0 1)
  have hn := tr_fieldC Try.underlying26 h 1 24 1 2
  obtain ⟨b, eb, _⟩ := tr_int Try.underlying3 (tr_fieldC Try.underlying24 hn 0 3 0 1)
  obtain ⟨c, ec, _⟩ := tr_int Try.underlying3 (tr_fieldC Try.underlying24 hn 1 3 1 1)
  obtain ⟨s, es⟩ := tr_str Try.underlying9 (tr_fieldC Try.underlying26 h 2 9 3 1)
  obtain ⟨d, ed, _⟩ := tr_int Try.underlying3 (tr_fieldC Try.underlying26 h 3 3 4 1)
  match cs, hl with
  | [x0, x1, x2, x3, x4], _ =>
    obtain rfl : x0 = _ := (List.cons.inj (show [x0] = _ from ea)).1
    obtain rfl : x1 = _ := (List.cons.inj (show [x1] = _ from eb)).1
    obtain rfl : x2 = _ := (List.cons.inj (show [x2] = _ from ec)).1
    obtain rfl : x3 = _ := (List.cons.inj (show [x3] = _ from es)).1
    obtain rfl : x4 = _ := (List.cons.inj (show [x4] = _ from ed)).1
    exact ⟨⟨a, b, c, s, d⟩, rfl⟩
theorem open_vals {cs : List Value} (h : Tr enc Try.prog W 22 cs) : ∃ v L, cs = [v] ∧ Sl W.heap VlT v L := by
  obtain ⟨v, L, h1, h2, _⟩ := tr_sliceQ (Q := fun _ => True) VlT_ok Try.underlying22 (by kernel_rfl) (fun cs h => by obtain ⟨x, e⟩ := open_val h; exact ⟨x, e.symm, trivial⟩) h
  exact ⟨v, L, h1, h2⟩
theorem open_cl {cs : List Value} (h : Tr enc Try.prog W 29 cs) : ∃ x, ClT.enc x = cs ∧ Sl W.heap VlT x.lv.v x.l := by
  have hl : cs.length = 19 := (tr_len Try.underlying29 h).trans (by kernel_rfl)
  obtain ⟨k, ek, _⟩ := tr_int Try.underlying3 (tr_fieldC Try.underlying29 h 0 3 0 1)
  obtain ⟨a, ea⟩ := open_val (tr_fieldC Try.underlying29 h 1 26 1 5)
  obtain ⟨b, eb⟩ := open_val (tr_fieldC Try.underlying29 h 2 26 6 5)
  obtain ⟨c, ec⟩ := open_val (tr_fieldC Try.underlying29 h 3 26 11 5)
  obtain ⟨n, en, _⟩ := tr_int Try.underlying3 (tr_fieldC Try.underlying29 h 4 3 16 1)
  obtain ⟨s, es⟩ := tr_str Try.underlying9 (tr_fieldC Try.underlying29 h 5 9 17 1)
  obtain ⟨v, L, ev, hv⟩ := open_vals (tr_fieldC Try.underlying29 h 6 22 18 1)
  obtain ⟨p, q, rfl⟩ := hv.form
  match cs, hl with
  | [x0, x1, x2, x3, x4, x5, x6, x7, x8, x9, x10, x11, x12, x13, x14, x15, x16, x17, x18], _ =>
    obtain rfl : x0 = _ := (List.cons.inj (show [x0] = _ from ek)).1
    have fa : [x1, x2, x3, x4, x5] = VlT.enc a := ea
    have fb : [x6, x7, x8, x9, x10] = VlT.enc b := eb
    have fc : [x11, x12, x13, x14, x15] = VlT.enc c := ec
    simp only [VlT, Go.Mem.Ty.enc, Vl.v, Value.cells, List.cons.injEq, and_true] at fa fb fc
    obtain ⟨rfl, rfl, rfl, rfl, rfl⟩ := fa
    obtain ⟨rfl, rfl, rfl, rfl, rfl⟩ := fb
    obtain ⟨rfl, rfl, rfl, rfl, rfl⟩ := fc
    obtain rfl : x16 = _ := (List.cons.inj (show [x16] = _ from en)).1
    obtain rfl : x17 = _ := (List.cons.inj (show [x17] = _ from es)).1
    obtain rfl : x18 = _ := (List.cons.inj (show [x18] = _ from ev)).1
    exact ⟨⟨k, a, b, c, n, s, ⟨p, L.length, q⟩, L⟩, rfl, hv⟩
theorem open_cls {cs : List Value} (h : Tr enc Try.prog W 30 cs) : ∃ v L, cs = [v] ∧ KnL (zoneOf W.heap) v L := by
  obtain ⟨v, L, h1, h2, h3⟩ := tr_sliceQ (Q := fun x : Cl => Sl W.heap VlT x.lv.v x.l) ClT_ok Try.underlying30 (by kernel_rfl) (fun cs h => open_cl h) h
  exact ⟨v, L, h1, .of h2, fun x hx => .of (h3 x hx)⟩
end
end Go.Proofs.Ytmilekfknhglkaa
end
