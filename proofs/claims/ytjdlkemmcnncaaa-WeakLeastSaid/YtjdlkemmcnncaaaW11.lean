/-
  Marking with a queue: New, Step, Reach of layer 25. Each law says its conditions.
-/
import Derived.Test.YtjdlkemmcnncaaaW7
import Derived.Test.YtjdlkemmcnncaaaL6
import Derived.Test.YtjdlkemmcnncaaaSD
import Derived.Test.YtjdlkemmcnncaaaSMk
set_option linter.unusedSimpArgs false
set_option linter.unusedVariables false
set_option maxRecDepth 100000
set_option maxHeartbeats 2000000
namespace Go.Proofs.Ytjdlkemmcnncaaa
open Go.Hp Go.J Go.S
open Go.Mem (Ty KTy blk elemAt pre suf blk_pre blk_suf aget aset strK aggDesc)
open Go.Mem (adel apos aget_aset aget_adel aset_new aget_none_iff)
abbrev ndV (g : Nat) : Value := .pointer (some ⟨g, 0, none⟩)
def nob (l : List Ob) (id : Int) : Ob := (fnd l id).getD ⟨0, 0, 0, ⟨none, 0, 0⟩, ⟨none, 0, 0⟩, [], []⟩
theorem nob_is {l : List Ob} {id : Int} {o : Ob} (h : fnd l id = some o) : nob l id = o := by unfold nob; rw [h]; rfl
def entI (o : Ob) : List Int := o.ents.flatMap allE
theorem allO_is (o : Ob) : o.refs ++ entI o = allO o := rfl
/-- A node: its slices, its color. -/
def ndA (g : Nat) (o : Ob) (c : Int) : Asr := exA fun rv => exA fun ev => stA True [blkA g #[rv, ev, .int .i64 c] 63, own iTy rv o.refs, own iTy ev (entI o)]
section
variable {Z : Zone} {F : List Asr} {H : Heap} {g b : Nat} {o : Ob} {c : Int} {l : List Ob} {G G' : List Int} {k k' q : Nat} {ps : List (Int × Nat)} {id : Int}
theorem nd_open (h : Holds Z (ndA g o c :: F) H) : ∃ rv ev, True ∧ Holds Z (blkA g #[rv, ev, .int .i64 c] 63 :: own iTy rv o.refs :: own iTy ev (entI o) :: F) H := by
  obtain ⟨rv, h⟩ := h.open_ex
  obtain ⟨ev, h⟩ := h.open_ex
  exact ⟨rv, ev, h.open_st⟩
theorem nd_shut {rv ev : Value} (h : Holds Z (blkA g #[rv, ev, .int .i64 c] 63 :: own iTy rv o.refs :: own iTy ev (entI o) :: F) H) : Holds Z (ndA g o c :: F) H := Holds.shut_ex rv (Holds.shut_ex ev (Holds.shut_st trivial h))
/-- The nodes of the objects of a graph, with their colors. -/
def ndsA (ps : List (Int × Nat)) (l : List Ob) (G : List Int) (k : Nat) : Asr := star (ps.map fun p => ndA p.2 (nob l p.1) (colI G k p.1))
def ndsH (ps : List (Int × Nat)) (l : List Ob) (G : List Int) (k : Nat) (id : Int) : Asr := star ((adel ps id).map fun p => ndA p.2 (nob l p.1) (colI G k p.1))
theorem nds_focus (hq : aget ps id = some g) (ho : fnd l id = some o) (h : Holds Z (ndsA ps l G k :: F) H) : ∃ rv ev, True ∧ Holds Z (blkA g #[rv, ev, .int .i64 (colI G k id)] 63 :: own iTy rv o.refs :: own iTy ev (entI o) :: ndsH ps l G k id :: F) H := by
  obtain ⟨i, hp⟩ : ∃ i, apos ps id = some i := by
    cases hp : apos ps id with
    | none => rw [Go.Mem.apos_none hp] at hq; cases hq
    | some i => exact ⟨i, rfl⟩
  obtain ⟨hi, y, hy, hq'⟩ := Go.Mem.apos_lt hp
  rw [hq] at hq'; cases hq'
  have h1 : Holds Z (ndA g (nob l id) (colI G k id) :: star ((ps.eraseIdx i).map fun p => ndA p.2 (nob l p.1) (colI G k p.1)) :: F) H := h.star_get hy
  unfold ndsH
  rw [Go.Mem.adel_pos hp]
  rw [nob_is ho] at h1
  exact nd_open h1
theorem nds_back {rv ev : Value} (hnd : (ps.map Prod.fst).Nodup) (hq : aget ps id = some g) (ho : fnd l id = some o) (hc : colI G' k' id = c) (hr : ∀ x, x ≠ id → colI G' k' x = colI G k x) (h : Holds Z (blkA g #[rv, ev, .int .i64 c] 63 :: own iTy rv o.refs :: own iTy ev (entI o) :: ndsH ps l G k id :: F) H) : Holds Z (ndsA ps l G' k' :: F) H := by
  have h := nd_shut h
  obtain ⟨i, hp⟩ : ∃ i, apos ps id = some i := by
    cases hp : apos ps id with
    | none => rw [Go.Mem.apos_none hp] at hq; cases hq
    | some i => exact ⟨i, rfl⟩
  obtain ⟨hi, y, hy, hq'⟩ := Go.Mem.apos_lt hp
  rw [hq] at hq'; cases hq'
  unfold ndsH at h
  rw [Go.Mem.adel_pos hp] at h
  refine Holds.star_set (f := fun p : Int × Nat => ndA p.2 (nob l p.1) (colI G k p.1)) (g := fun p => ndA p.2 (nob l p.1) (colI G' k' p.1)) hy (fun j p hj hp' => ?_) ?_
  · show ndA p.2 _ _ = ndA p.2 _ _
    have hne : p.1 ≠ id := fun e => hj (by
      obtain ⟨hj1, e1⟩ := List.getElem?_eq_some_iff.1 hp'
      refine (List.getElem_inj (h₀ := by rw [List.length_map]; exact hj1) (h₁ := by rw [List.length_map]; exact hi) hnd).1 ?_
      simp only [List.getElem_map]
      rw [e1, (List.getElem?_eq_some_iff.1 hy).2]; exact e)
    rw [hr _ hne]
  · show Holds Z (ndA g (nob l id) (colI G' k' id) :: _ :: F) H
    rw [nob_is ho, hc]; exact h
theorem nds_nil (h : Holds Z F H) : Holds Z (ndsA [] l G k :: F) H := h.star_nil
theorem nds_new {rv ev : Value} (hn : id ∉ ps.map Prod.fst) (ho : fnd l id = some o) (h : Holds Z (blkA g #[rv, ev, .int .i64 0] 63 :: own iTy rv o.refs :: own iTy ev (entI o) :: ndsA ps l [] 0 :: F) H) : Holds Z (ndsA (aset ps id g) l [] 0 :: F) H := by
  have h := nd_shut h
  rw [aset_new (apos_none_of hn)]
  unfold ndsA at h ⊢
  rw [List.map_append]
  refine Holds.star_add ?_
  show Holds Z (ndA g (nob l id) (colI [] 0 id) :: _ :: F) H
  rw [nob_is ho]; exact h
/-- A marker: the first k of G are black, those from q on lie in the queue. -/
def mrA (b : Nat) (l : List Ob) (ps : List (Int × Nat)) (G : List Int) (k q : Nat) : Asr := exA fun mb => exA fun qv => stA (ps.map Prod.fst = l.map Ob.id) [blkA b #[.map (some mb), qv] 67, mpA (Go.Mem.intK 3) ndV mb ps, ownO iTy qv (G.drop q), ndsA ps l G k]
theorem mr_open (h : Holds Z (mrA b l ps G k q :: F) H) : ∃ (mb : Nat) (qv : Value), ps.map Prod.fst = l.map Ob.id ∧ Holds Z (blkA b #[.map (some mb), qv] 67 :: mpA (Go.Mem.intK 3) ndV mb ps :: ownO iTy qv (G.drop q) :: ndsA ps l G k :: F) H := by
  obtain ⟨mb, h⟩ := h.open_ex
  obtain ⟨qv, h⟩ := h.open_ex
  exact ⟨mb, qv, h.open_st⟩
theorem mr_shut {mb : Nat} {qv : Value} {L : List Int} (hp : ps.map Prod.fst = l.map Ob.id) (hL : L = G.drop q) (h : Holds Z (blkA b #[.map (some mb), qv] 67 :: mpA (Go.Mem.intK 3) ndV mb ps :: ownO iTy qv L :: ndsA ps l G k :: F) H) : Holds Z (mrA b l ps G k q :: F) H := by
  subst hL
  exact Holds.shut_ex mb (Holds.shut_ex qv (Holds.shut_st hp h))
theorem nd_cases (hp : ps.map Prod.fst = l.map Ob.id) (id : Int) : (fnd l id = none ∧ aget ps id = none) ∨ ∃ o g, fnd l id = some o ∧ aget ps id = some g := by
  cases hf : fnd l id with
  | none =>
    refine .inl ⟨rfl, (aget_none_iff ps id).2 ?_⟩
    rw [hp]; intro hm
    obtain ⟨o, ho, e⟩ := List.mem_map.1 hm
    exact fnd_none hf o ho e
  | some o =>
    obtain ⟨h1, h2⟩ := fnd_id hf
    cases hg : aget ps id with
    | none => exact absurd (List.mem_map.2 ⟨o, h2, h1⟩) (by rw [← hp]; exact (aget_none_iff ps id).1 hg)
    | some g => exact .inr ⟨o, g, rfl, rfl⟩
/-- Objects of the graph, each once. -/
def Ns (l : List Ob) (G : List Int) : Prop := G.Nodup ∧ ∀ x ∈ G, Is l x
theorem Ns.len (h : Ns l G) : G.length ≤ l.length := by
  have := h.1.length_le_of_subset (l₂ := l.map Ob.id) fun x hx => by
    obtain ⟨o, ho⟩ := Option.isSome_iff_exists.1 (h.2 x hx)
    obtain ⟨h1, h2⟩ := fnd_id ho
    exact List.mem_map.2 ⟨o, h2, h1⟩
  rwa [List.length_map] at this
theorem Ns.grs (h : Ns l G) (X : List Int) : Ns l (grs l G X) := by
  have k := grs_ok l X G
  refine ⟨k.nodup h.1, fun x hx => ?_⟩
  rcases k.sound x hx with h1 | ⟨_, h1⟩
  · exact h.2 x h1
  · exact h1
theorem ns_nil (l : List Ob) : Ns l [] := ⟨List.nodup_nil, by simp⟩
theorem Bf.ns {R : List Int} (h : Bf l R k G) : Ns l G := ⟨h.nodup, fun x hx => (h.snd x hx).1⟩
end
theorem ent_take {L : List Ent} {i : Nat} {e : Ent} (h : L[i]? = some e) : (L.take i).flatMap allE ++ [e.key, e.val] = (L.take (i + 1)).flatMap allE := by
  rw [List.take_add_one, h]; simp [List.flatMap_append, allE]
theorem ent_len : ∀ L : List Ent, (L.flatMap allE).length = 2 * L.length
  | [] => rfl
  | e :: r => by simp only [List.flatMap_cons, List.length_append, List.length_cons, ent_len r]; simp [allE]; omega
theorem nd_must {l : List Ob} {ps : List (Int × Nat)} {id : Int} (hp : ps.map Prod.fst = l.map Ob.id) (hi : Is l id) : ∃ o g, fnd l id = some o ∧ aget ps id = some g := by
  rcases nd_cases hp id with ⟨h, _⟩ | h
  · rw [Is, h] at hi; cases hi
  · exact h
theorem mreach_s {Z : Zone} {F : List Asr} {b : Nat} {l : List Ob} {ps : List (Int × Nat)} {G : List Int} {k q : Nat} (hk : k ≤ G.length) (hq : q ≤ G.length) (hG : G.length ≤ 1000000) (id : Int) : SF Try.prog 48 #[.pointer (some ⟨b, 0, none⟩), .int .i64 id] Z (mrA b l ps G k q :: F) fun r Bs => r = .tuple #[] ∧ Bs = mrA b l ps (gr1 l G id) k q :: F := by
  refine sf_enter Try.func48 36 [(0, .pointer (some ⟨b, 0, none⟩)), (1, .int .i64 id)] (fun w0 => ?_)
  refine k_mem2 (fun H h => mr_open (h.re [0] [])) (fun mb1 qv2 hw => ?_)
  have hps3 := hw
  refine k_seq ?_
  refine k_reg ?_
  refine s_lt (t_pure (.pointer (some ⟨b, 0, none⟩))) ?_
  refine s_lt (t_pure (.pointer (some ⟨b, 0, none⟩))) ?_
  refine s_lt (t_pure (.pointer (some ⟨b, 0, none⟩))) ?_
  refine s_lt (t_load 0 (.map (some mb1))) ?_
  refine s_lt (t_pure (.int .i64 id)) ?_
  rcases nd_cases hps3 id with ⟨hf4, hq5⟩ | ⟨ob6, g7, hf8, hq9⟩
  ·
    refine s_lt (Lt.to (v' := .tuple #[.pointer none, .bool false]) (t_lookupOk 1 intOk Try.underlying65 (.pointer none) id) (by rw [hq5]; rfl)) ?_
    refine s_lt (t_pure (.tuple #[.pointer none, .bool false])) ?_
    refine s_lt (t_pure (.pointer none)) ?_
    refine s_lt (t_pure (.bool false)) ?_
    refine s_lt (t_pure (.pointer none)) ?_
    refine s_lt (t_pure (.bool false)) ?_
    refine s_nil ?_
    refine xs_then ?_
    refine k_seq ?_
    refine k_reg ?_
    refine s_lt (t_pure (.bool false)) ?_
    refine s_lt (t_pure (.bool false)) ?_
    refine s_skip ?_
    refine s_skip ?_
    refine s_skip ?_
    refine s_skip ?_
    refine s_skip ?_
    refine s_lt (t_pure (.bool false)) ?_
    refine s_nil ?_
    refine xs_then ?_
    refine k_false ?_
    refine k_skip ?_
    refine xs_mem (fun _ h => mr_shut (q := q) hps3 rfl (h.re [0, 0, 0, 0] [])) ?_
    refine xs_finN [] (mrA b l ps G k q :: F) SI.nil (fun _ h => h.re [0] []) ⟨rfl, ?_⟩
    rw [gr1_none (by rw [Is, hf4]; decide)]
  ·
    refine s_lt (Lt.to (v' := .tuple #[ndV g7, .bool true]) (t_lookupOk 1 intOk Try.underlying65 (.pointer none) id) (by rw [hq9]; rfl)) ?_
    refine s_lt (t_pure (.tuple #[.pointer (some ⟨g7, 0, none⟩), .bool true])) ?_
    refine s_lt (t_pure (.pointer (some ⟨g7, 0, none⟩))) ?_
    refine s_lt (t_pure (.bool true)) ?_
    refine s_lt (t_pure (.pointer (some ⟨g7, 0, none⟩))) ?_
    refine s_lt (t_pure (.bool true)) ?_
    refine s_nil ?_
    refine xs_then ?_
    refine k_seq ?_
    refine k_reg ?_
    refine s_lt (t_pure (.bool true)) ?_
    refine s_lt (t_pure (.bool true)) ?_
    refine s_lt (t_pure (.pointer (some ⟨g7, 0, none⟩))) ?_
    refine s_lt (t_pure (.pointer (some ⟨g7, 0, none⟩))) ?_
    refine s_lt (t_pure (.pointer (some ⟨g7, 2, none⟩))) ?_
    refine s_mem2 (fun H h => nds_focus hq9 hf8 (h.re [3] [])) (fun rv10 ev11 _ => ?_)
    refine s_lt (t_load 0 (.int .i64 (colI G k id))) ?_
    refine s_lt t_cmp ?_
    refine s_lt (t_pure (.bool (decide ((colI G k id) = 0)))) ?_
    refine s_nil ?_
    refine xs_then ?_
    refine k_cond (decide ((colI G k id) = 0)) (fun c12 => ?_) (fun c12 => ?_)
    ·
      have p13 := of_decide_eq_true c12
      have hz := p13
      refine k_seq ?_
      refine k_reg ?_
      refine s_lt (t_pure (.pointer (some ⟨g7, 0, none⟩))) ?_
      refine s_lt (t_pure (.pointer (some ⟨g7, 0, none⟩))) ?_
      refine s_lt (t_pure (.pointer (some ⟨g7, 2, none⟩))) ?_
      refine s_store 0 #[rv10, ev11, .int .i64 1] ?_
      refine s_nil ?_
      refine xs_then ?_
      refine k_reg ?_
      refine s_lt (t_pure (.pointer (some ⟨b, 0, none⟩))) ?_
      refine s_lt (t_pure (.pointer (some ⟨b, 0, none⟩))) ?_
      refine s_lt (t_pure (.pointer (some ⟨b, 0, none⟩))) ?_
      refine s_lt (t_pure (.pointer (some ⟨b, 1, none⟩))) ?_
      refine s_lt (t_load 4 qv2) ?_
      refine s_lt (t_pure (.int .i64 id)) ?_
      refine s_buildSlice (e := 3) [(0, .int .i64 id)] #[.int .i64 id] (fun g14 => ?_) (hb := by kernel_rfl)
      refine s_appendO (L := (G.drop q)) 7 iTy_ok Try.underlying23 (.lit 0 iTy_ok [id]) (by show _ * 8 ≤ _; (try simp only [List.length_nil, List.length_cons, List.length_append, List.length_take, List.length_drop, List.length_set, List.length_replicate, List.length_reverse, bits_len]); omega) (by (try simp only [List.length_nil, List.length_cons, List.length_append, List.length_take, List.length_drop, List.length_set, List.length_replicate, List.length_reverse, bits_len]); omega) (fun v15 => ?_)
      refine s_fact (fun H h => ((Acc.ownO (T := iTy) (L := ((G.drop q) ++ [id])) 7 rfl) H h).form) (fun hf16 => ?_)
      refine s_lt (t_pure (.pointer (some ⟨b, 0, none⟩))) ?_
      refine s_lt (t_pure (.pointer (some ⟨b, 1, none⟩))) ?_
      refine s_store (u := v15) (m := 1) 5 #[.map (some mb1), v15] ?_ (hm := by (obtain ⟨_, _, e0⟩ := hf16; rw [e0]; rfl)) (h1 := by (obtain ⟨_, _, e0⟩ := hf16; rw [e0]; rfl)) (ha' := by (obtain ⟨_, _, e0⟩ := hf16; rw [e0]; rfl))
      refine s_nil ?_
      refine xs_fact (fun H h => (h.mp (i := 6) rfl).nodup) (fun hnd17 => ?_)
      refine xs_mem (fun _ h => nds_back (G' := (G ++ [id])) (k' := k) hnd17 hq9 hf8 ((colI_new hk (colI_zero hz)).trans (if_pos rfl)) (fun x hx => (colI_new hk (colI_zero hz)).trans (if_neg hx)) (h.re [1, 1, 1, 1] [])) ?_
      refine xs_mem (fun _ h => mr_shut (q := q) hps3 (List.drop_append_of_le_length hq).symm (h.re [2, 2, 2, 0] [])) ?_
      refine xs_finN [] (mrA b l ps (G ++ [id]) k q :: F) SI.nil (fun _ h => h.re [0] [1]) ⟨rfl, ?_⟩
      rw [gr1_yes (by rw [Is, hf8]; rfl) (colI_zero hz)]
    ·
      have p18 := of_decide_eq_false c12
      have hz0 := p18
      refine k_skip ?_
      refine xs_fact (fun H h => (h.mp (i := 5) rfl).nodup) (fun hnd19 => ?_)
      refine xs_mem (fun _ h => nds_back (G' := G) (k' := k) hnd19 hq9 hf8 rfl (fun _ _ => rfl) (h.re [0, 0, 0, 0] [])) ?_
      refine xs_mem (fun _ h => mr_shut (q := q) hps3 rfl (h.re [1, 1, 1, 0] [])) ?_
      refine xs_finN [] (mrA b l ps G k q :: F) SI.nil (fun _ h => h.re [0] []) ⟨rfl, ?_⟩
      rw [gr1_in (colI_ne hz0)]
theorem mentries_s {Z : Zone} {x : Ob} (hx : KnO Z x) (hl : x.ents.length ≤ 100000) : SF Try.prog 47 #[x.v] Z [] fun r Bs => Bs = [own iTy r (entI x)] := by
  refine sf_enter Try.func47 22 [(0, .agg #[.int .i64 x.id, .int .i64 x.size, .int .i64 x.weak, x.rv.v, x.ev.v])] (fun w0 => ?_)
  refine k_seq ?_
  refine k_reg ?_
  refine s_box #[.int .i64 x.id, .int .i64 x.size, .int .i64 x.weak, x.rv.v, x.ev.v] (fun g1 => ?_)
  refine s_lt (t_pure (.slice none 0 0)) ?_
  refine s_nil ?_
  refine xs_then ?_
  refine k_seq ?_
  refine k_reg ?_
  refine s_lt (t_pure (.slice none 0 0)) ?_
  refine s_nil ?_
  refine xs_then ?_
  refine k_seq ?_
  refine k_seq ?_
  refine k_reg ?_
  refine s_lt (t_pure (.pointer (some ⟨g1, 4, none⟩))) ?_
  refine s_lt (t_load 0 x.ev.v) ?_
  refine s_lt (t_len EntT_ok Try.underlying40 (.zn hx.2)) ?_
  refine s_lt (t_pure (.int .i64 0)) ?_
  refine s_nil ?_
  refine xs_then ?_
  refine k_block ?_
  refine k_fact (fun H h => (hx.2.get h).len_le) (fun le => ?_)
  refine k_mem (fun _ h => Holds.nilS (T := iTy) h) ?_
  refine k_mem (Bs := [own iTy (.slice none 0 0) ((x.ents.take 0).flatMap allE), blkA g1 #[.int .i64 x.id, .int .i64 x.size, .int .i64 x.weak, x.rv.v, x.ev.v] 42]) (fun _ h => h) ?_
  refine k_loop (ι := Value × Nat) (fun (sx, i) => i ≤ x.ents.length) (fun (sx, i) => [(2, (.slice none 0 0)), (3, sx), (7, x.ev.v), (8, .int .i64 (x.ents.length : Int)), (9, .int .i64 (i : Int))]) (fun (sx, i) => [own iTy sx ((x.ents.take i).flatMap allE), blkA g1 #[.int .i64 x.id, .int .i64 x.size, .int .i64 x.weak, x.rv.v, x.ev.v] 42]) (fun (sx, i) => x.ents.length - i) (.slice none 0 0, 0) (Nat.zero_le _) (sub_of rfl ⟨⟨rfl, rfl⟩, ⟨⟨rfl, rfl⟩, ⟨⟨rfl, rfl⟩, ⟨⟨rfl, rfl⟩, ⟨⟨rfl, rfl⟩, trivial⟩⟩⟩⟩⟩) (fun _ h => h.re [0, 0] []) ?_
  rintro ⟨sx, i⟩ hi2
  replace hi2 : i ≤ x.ents.length := hi2
  show SK _ _ _ _ _ [(2, (.slice none 0 0)), (3, sx), (7, x.ev.v), (8, .int .i64 (x.ents.length : Int)), (9, .int .i64 (i : Int))] _ [own iTy sx ((x.ents.take i).flatMap allE), blkA g1 #[.int .i64 x.id, .int .i64 x.size, .int .i64 x.weak, x.rv.v, x.ev.v] 42]
  have hel := ent_len (x.ents.take i); rw [List.length_take] at hel
  refine k_seq ?_
  refine k_reg ?_
  refine s_lt t_cmp ?_
  refine s_nil ?_
  refine xs_then ?_
  refine k_seq ?_
  refine k_cond (decide ((i : Int) < (x.ents.length : Int))) (fun c3 => ?_) (fun c3 => ?_)
  ·
    have p4 := of_decide_eq_true c3
    refine k_skip ?_
    refine xs_then ?_
    refine k_seq ?_
    refine k_block ?_
    refine k_seq ?_
    refine k_reg ?_
    refine s_lt (t_index EntT_ok Try.underlying40 (.zn hx.2) (i : Int) i (by omega) (by (try simp only [List.length_nil, List.length_cons, List.length_append, List.length_take, List.length_drop, List.length_set, List.length_replicate, List.length_reverse, bits_len]); omega) (by omega)) ?_
    obtain ⟨y5, hy6⟩ : ∃ y, x.ents[i]? = some y := ⟨_, List.getElem?_eq_getElem (by (try simp only [List.length_nil, List.length_cons, List.length_append, List.length_take, List.length_drop, List.length_set, List.length_replicate, List.length_reverse, bits_len]); omega)⟩
    refine s_lt (t_loadE EntT_ok (.zn hx.2) hy6) ?_
    refine s_alloc (.agg #[.int .i64 0, .int .i64 0]) #[.int .i64 0, .int .i64 0] (fun g7 => ?_)
    refine s_store 0 #[.int .i64 y5.key, .int .i64 y5.val] ?_
    refine s_nil ?_
    refine xs_then ?_
    refine k_reg ?_
    refine s_lt (t_pure sx) ?_
    refine s_lt (t_pure (.pointer (some ⟨g7, 0, none⟩))) ?_
    refine s_lt (t_load 0 (.int .i64 y5.key)) ?_
    refine s_lt (t_pure (.pointer (some ⟨g7, 1, none⟩))) ?_
    refine s_lt (t_load 0 (.int .i64 y5.val)) ?_
    refine s_buildSlice (e := 3) [(0, .int .i64 y5.key), (1, .int .i64 y5.val)] #[.int .i64 y5.key, .int .i64 y5.val] (fun g8 => ?_) (hb := by kernel_rfl)
    refine s_append (L := ((x.ents.take i).flatMap allE)) 2 iTy_ok Try.underlying23 (.lit 0 iTy_ok [y5.key, y5.val]) (by show _ * 8 ≤ _; (try simp only [List.length_nil, List.length_cons, List.length_append, List.length_take, List.length_drop, List.length_set, List.length_replicate, List.length_reverse, bits_len]); omega) (by (try simp only [List.length_nil, List.length_cons, List.length_append, List.length_take, List.length_drop, List.length_set, List.length_replicate, List.length_reverse, bits_len]); omega) (fun v9 => ?_)
    refine s_fact (fun H h => ((Acc.own (T := iTy) (L := (((x.ents.take i).flatMap allE) ++ [y5.key, y5.val])) 2 rfl) H h).form) (fun hf10 => ?_)
    refine s_lt (t_pure v9) ?_
    refine s_nil ?_
    refine xs_block ?_
    refine xs_then ?_
    refine k_reg ?_
    refine s_lt (t_add (i : Int) 1 (by (try simp only [List.length_nil, List.length_cons, List.length_append, List.length_take, List.length_drop, List.length_set, List.length_replicate, List.length_reverse, bits_len]); omega)) ?_
    refine s_lt (t_pure (.int .i64 ((i : Int) + 1))) ?_
    refine s_nil ?_
    rw [ent_take hy6]
    exact xs_round (v9, i + 1) (by show x.ents.length - (i + 1) < x.ents.length - i; omega) (by show i + 1 ≤ x.ents.length; omega) (sub_of rfl ⟨⟨rfl, rfl⟩, ⟨⟨rfl, rfl⟩, ⟨⟨rfl, rfl⟩, ⟨⟨rfl, rfl⟩, ⟨⟨rfl, rfl⟩, trivial⟩⟩⟩⟩⟩) (fun _ h => h.re [2, 2] [2, 2])
  ·
    have p11 := of_decide_eq_false c3
    refine k_exit ?_
    refine xs_exit ?_
    refine xs_exit ?_
    refine xs_here ?_
    refine xs_then ?_
    refine k_seq ?_
    refine k_reg ?_
    refine s_lt (t_pure sx) ?_
    refine s_lt (t_pure sx) ?_
    refine s_nil ?_
    refine xs_then ?_
    refine k_ret ?_
    exact xs_fin [sx] [own iTy sx (entI x)] (SI.tmp 2 SI.nil) (fun _ h => by rw [List.take_of_length_le (by omega)] at h; exact h.re [0] [1]) rfl
/-- A slice of integers in a cell. -/
structure Sq where
  p : Option Addr
  c : Nat
  xs : List Int
abbrev Sq.v (s : Sq) : Value := .slice s.p s.xs.length s.c
def SqT : Ty Sq := ⟨23, 1, 24, false, Sq.v, ⟨none, 0, []⟩⟩
theorem SqT_ok : SqT.Ok Try.prog := ⟨Nat.one_pos, fun _ => rfl, fun x u hu => by simp [Ty.enc, SqT, Value.cells] at hu; subst hu; rfl, fun _ => rfl, ⟨_, Try.underlying23, rfl⟩, fun _ => rfl, ⟨Try.t23, by kernel_rfl, by kernel_rfl, by kernel_rfl, by kernel_rfl⟩⟩
def cat (S : List Sq) : List Int := S.flatMap Sq.xs
theorem cat_take {S : List Sq} {i : Nat} {y : Sq} (h : S[i]? = some y) : cat (S.take i) ++ y.xs = cat (S.take (i + 1)) := by
  unfold cat; rw [List.take_add_one, h]; simp [List.flatMap_append]
theorem cat_len {S : List Sq} (h : ∀ s ∈ S, s.xs.length ≤ 1000000) : ∀ i : Nat, (cat (S.take i)).length ≤ 1000000 * i
  | 0 => by simp [cat]
  | i + 1 => by
    cases hy : S[i]? with
    | none =>
      have e : S.take (i + 1) = S.take i := by rw [List.take_add_one, hy]; simp
      rw [e]; have := cat_len h i; omega
    | some y => rw [← cat_take hy, List.length_append]; have := cat_len h i; have := h y (List.mem_of_getElem? hy); omega
theorem grow_s {Z : Zone} (n : Int) (h0 : 0 ≤ n) (h1 : n ≤ 1000000000) : SF Try.prog 72 #[.slice none 0 0, .int .i64 n] Z [] fun r Bs => Bs = [own iTy r []] := by
  refine sf_enter Try.func72 27 [(0, (.slice none 0 0)), (1, .int .i64 n)] (fun w0 => ?_)
  refine k_seq ?_
  refine k_reg ?_
  refine s_lt (t_pure (.slice none 0 0)) ?_
  refine s_nil ?_
  refine xs_then ?_
  refine k_seq ?_
  refine k_seq ?_
  refine k_reg ?_
  refine s_lt (t_pure (.int .i64 n)) ?_
  refine s_lt (Lt.to t_cmp (congrArg Value.bool (decide_eq_false (by omega) : (decide (n < 0)) = false))) ?_
  refine s_nil ?_
  refine xs_then ?_
  refine k_false ?_
  refine k_skip ?_
  refine xs_then ?_
  refine k_seq ?_
  refine k_seq ?_
  refine k_reg ?_
  refine s_lt (t_pure (.int .i64 n)) ?_
  refine s_lt (t_pure (.slice none 0 0)) ?_
  refine s_lt (t_kern (.int .i64 0)) ?_
  refine s_lt (t_pure (.slice none 0 0)) ?_
  refine s_lt (t_kern (.int .i64 0)) ?_
  refine s_lt (t_pure (.int .i64 0)) ?_
  refine s_lt (t_sub n 0 (by (try simp only [List.length_nil, List.length_cons, List.length_append, List.length_take, List.length_drop, List.length_set, List.length_replicate, List.length_reverse, bits_len]); omega)) ?_
  refine s_lt (t_pure (.int .i64 (n - 0))) ?_
  refine s_nil ?_
  refine xs_then ?_
  refine k_seq ?_
  refine k_reg ?_
  refine s_lt (t_pure (.int .i64 (n - 0))) ?_
  refine s_lt t_cmp ?_
  refine s_nil ?_
  refine xs_then ?_
  refine k_cond (decide ((0 : Int) < (n - 0))) (fun c1 => ?_) (fun c1 => ?_)
  ·
    have p2 := of_decide_eq_true c1
    refine k_reg ?_
    refine s_lt (t_pure (.slice none 0 0)) ?_
    refine s_lt (t_pure (.slice none 0 0)) ?_
    refine s_lt (t_kern (.int .i64 0)) ?_
    refine s_lt (t_pre iTy_ok Try.underlying23 .nil 0 0 (by omega) (by (try simp only [List.length_nil, List.length_cons, List.length_append, List.length_take, List.length_drop, List.length_set, List.length_replicate, List.length_reverse, bits_len]); omega) (by omega)) ?_
    refine s_lt (t_pure (.int .i64 (n - 0))) ?_
    refine s_appendZ (y := (n - 0)) (((n - 0)).toNat) iTy_ok Try.underlying23 Try.underlying3 (by omega) (by omega) (by show _ * 8 ≤ _; omega) (by omega) (fun v3 => ?_)
    refine s_fact (fun H h => ((Acc.own (T := iTy) (L := (List.replicate (((n - 0)).toNat) iTy.zero)) 0 rfl) H h).form) (fun hf4 => ?_)
    refine s_lt (t_pure (.slice none 0 0)) ?_
    refine s_lt (t_kern (.int .i64 0)) ?_
    refine s_lt (t_pre iTy_ok Try.underlying23 (.own 0) 0 0 (by omega) (by (try simp only [List.length_nil, List.length_cons, List.length_append, List.length_take, List.length_drop, List.length_set, List.length_replicate, List.length_reverse, bits_len]); omega) (by omega)) ?_
    refine s_lt (t_pure (pre v3 0)) ?_
    refine s_nil ?_
    refine xs_then ?_
    refine k_seq ?_
    refine k_reg ?_
    refine s_lt (t_pure (pre v3 0)) ?_
    refine s_lt (t_pure (pre v3 0)) ?_
    refine s_nil ?_
    refine xs_then ?_
    refine k_ret ?_
    exact xs_fin [(pre v3 0)] [own iTy (pre v3 0) []] (SI.tmp 4 SI.nil) (fun _ h => (Holds.pre (i := 0) h iTy_ok 0 rfl (Nat.zero_le _)).re [0] []) rfl
  ·
    have p5 := of_decide_eq_false c1
    refine k_skip ?_
    refine xs_then ?_
    refine k_seq ?_
    refine k_reg ?_
    refine s_lt (t_pure (.slice none 0 0)) ?_
    refine s_lt (t_pure (.slice none 0 0)) ?_
    refine s_nil ?_
    refine xs_then ?_
    refine k_ret ?_
    exact xs_fin [(.slice none 0 0)] [own iTy (.slice none 0 0) []] (SI.tmp 4 SI.nil) (fun _ h => h.nilS.re [0] []) rfl
theorem concat_s {Z : Zone} {sv : Value} {S : List Sq} (hS : Kn Z SqT sv S) (hE : ∀ s ∈ S, Kn Z iTy s.v s.xs) (hl : S.length ≤ 100) (hB : ∀ s ∈ S, s.xs.length ≤ 1000000) : SF Try.prog 65 #[sv] Z [] fun r Bs => Bs = [own iTy r (cat S)] := by
  refine sf_enter Try.func65 36 [(0, sv)] (fun w0 => ?_)
  refine k_seq ?_
  refine k_reg ?_
  refine s_lt (t_pure (.slice none 0 0)) ?_
  refine s_nil ?_
  refine xs_then ?_
  refine k_seq ?_
  refine k_reg ?_
  refine s_lt (t_pure (.int .i64 0)) ?_
  refine s_nil ?_
  refine xs_then ?_
  refine k_seq ?_
  refine k_seq ?_
  refine k_reg ?_
  refine s_lt (t_pure sv) ?_
  refine s_lt (t_len SqT_ok Try.underlying104 (.zn hS)) ?_
  refine s_lt (t_pure (.int .i64 0)) ?_
  refine s_nil ?_
  refine xs_then ?_
  refine k_block ?_
  refine k_loop (ι := Int × Nat) (fun (sz, i) => i ≤ S.length ∧ sz = ((cat (S.take i)).length : Int)) (fun (sz, i) => [(0, sv), (2, (.slice none 0 0)), (3, .int .i64 sz), (9, sv), (10, .int .i64 (S.length : Int)), (11, .int .i64 (i : Int))]) (fun (sz, i) => []) (fun (sz, i) => S.length - i) (0, 0) ⟨Nat.zero_le _, rfl⟩ (sub_of rfl ⟨⟨rfl, rfl⟩, ⟨⟨rfl, rfl⟩, ⟨⟨rfl, rfl⟩, ⟨⟨rfl, rfl⟩, ⟨⟨rfl, rfl⟩, ⟨⟨rfl, rfl⟩, trivial⟩⟩⟩⟩⟩⟩) (fun _ h => h.re [] []) ?_
  rintro ⟨sz, i⟩ hi1
  replace hi1 : i ≤ S.length ∧ sz = ((cat (S.take i)).length : Int) := hi1
  show SK _ _ _ _ _ [(0, sv), (2, (.slice none 0 0)), (3, .int .i64 sz), (9, sv), (10, .int .i64 (S.length : Int)), (11, .int .i64 (i : Int))] _ []
  have hcl := cat_len hB i; obtain ⟨hj1, hj2⟩ := id hi1
  refine k_seq ?_
  refine k_reg ?_
  refine s_lt t_cmp ?_
  refine s_nil ?_
  refine xs_then ?_
  refine k_seq ?_
  refine k_cond (decide ((i : Int) < (S.length : Int))) (fun c2 => ?_) (fun c2 => ?_)
  ·
    have p3 := of_decide_eq_true c2
    refine k_skip ?_
    refine xs_then ?_
    refine k_seq ?_
    refine k_block ?_
    refine k_seq ?_
    refine k_reg ?_
    refine s_lt (t_index SqT_ok Try.underlying104 (.zn hS) (i : Int) i (by omega) (by (try simp only [List.length_nil, List.length_cons, List.length_append, List.length_take, List.length_drop, List.length_set, List.length_replicate, List.length_reverse, bits_len]); omega) (by omega)) ?_
    obtain ⟨y4, hy5⟩ : ∃ y, S[i]? = some y := ⟨_, List.getElem?_eq_getElem (by (try simp only [List.length_nil, List.length_cons, List.length_append, List.length_take, List.length_drop, List.length_set, List.length_replicate, List.length_reverse, bits_len]); omega)⟩
    have hb6 := hB y4 (List.mem_of_getElem? hy5)
    refine s_lt (t_loadE SqT_ok (.zn hS) hy5) ?_
    refine s_lt (t_pure y4.v) ?_
    refine s_nil ?_
    refine xs_then ?_
    refine k_seq ?_
    refine k_reg ?_
    refine s_lt (t_pure (.int .i64 sz)) ?_
    refine s_lt (t_pure y4.v) ?_
    refine s_lt (t_len iTy_ok Try.underlying23 (.zn (hE y4 (List.mem_of_getElem? hy5)))) ?_
    refine s_lt (t_add sz (y4.xs.length : Int) (by (try simp only [List.length_nil, List.length_cons, List.length_append, List.length_take, List.length_drop, List.length_set, List.length_replicate, List.length_reverse, bits_len]); omega)) ?_
    refine s_lt (t_pure (.int .i64 (sz + (y4.xs.length : Int)))) ?_
    refine s_nil ?_
    refine xs_then ?_
    refine k_seq ?_
    refine k_reg ?_
    refine s_lt (t_pure (.int .i64 (sz + (y4.xs.length : Int)))) ?_
    refine s_lt (Lt.to t_cmp (congrArg Value.bool (decide_eq_false (by omega) : (decide ((sz + (y4.xs.length : Int)) < 0)) = false))) ?_
    refine s_nil ?_
    refine xs_then ?_
    refine k_false ?_
    refine k_skip ?_
    refine xs_block ?_
    refine xs_then ?_
    refine k_reg ?_
    refine s_lt (t_add (i : Int) 1 (by (try simp only [List.length_nil, List.length_cons, List.length_append, List.length_take, List.length_drop, List.length_set, List.length_replicate, List.length_reverse, bits_len]); omega)) ?_
    refine s_lt (t_pure (.int .i64 ((i : Int) + 1))) ?_
    refine s_nil ?_
    exact xs_round ((sz + (y4.xs.length : Int)), i + 1) (by show S.length - (i + 1) < S.length - i; omega) (by obtain ⟨hi1, hi2⟩ := hi1; refine ⟨by omega, ?_⟩; rw [← cat_take hy5, List.length_append]; omega) (sub_of rfl ⟨⟨rfl, rfl⟩, ⟨⟨rfl, rfl⟩, ⟨⟨rfl, rfl⟩, ⟨⟨rfl, rfl⟩, ⟨⟨rfl, rfl⟩, ⟨⟨rfl, rfl⟩, trivial⟩⟩⟩⟩⟩⟩) (fun _ h => h.re [] [])
  ·
    have p7 := of_decide_eq_false c2
    refine k_exit ?_
    refine xs_exit ?_
    refine xs_exit ?_
    refine xs_here ?_
    refine xs_then ?_
    refine k_seq ?_
    refine k_reg ?_
    refine s_lt (t_pure (.int .i64 sz)) ?_
    refine s_pcall (fun _ h => grow_s sz (by omega) (by omega)) ?_
    rintro v8 _ rfl
    refine s_fact (fun H h => ((Acc.own (T := iTy) (L := []) 0 rfl) H h).form) (fun hf9 => ?_)
    refine s_lt (t_pure v8) ?_
    refine s_nil ?_
    refine xs_then ?_
    refine k_seq ?_
    refine k_seq ?_
    refine k_reg ?_
    refine s_lt (t_pure sv) ?_
    refine s_lt (t_len SqT_ok Try.underlying104 (.zn hS)) ?_
    refine s_lt (t_pure (.int .i64 0)) ?_
    refine s_nil ?_
    refine xs_then ?_
    refine k_block ?_
    refine k_mem (Bs := [own iTy v8 (cat (S.take 0))]) (fun _ h => h) ?_
    refine k_loop (ι := Value × Nat) (fun (sx, k) => k ≤ S.length) (fun (sx, k) => [(2, (.slice none 0 0)), (6, sx), (25, sv), (26, .int .i64 (S.length : Int)), (27, .int .i64 (k : Int))]) (fun (sx, k) => [own iTy sx (cat (S.take k))]) (fun (sx, k) => S.length - k) (v8, 0) (Nat.zero_le _) (sub_of rfl ⟨⟨rfl, rfl⟩, ⟨⟨rfl, rfl⟩, ⟨⟨rfl, rfl⟩, ⟨⟨rfl, rfl⟩, ⟨⟨rfl, rfl⟩, trivial⟩⟩⟩⟩⟩) (fun _ h => h.re [0] []) ?_
    rintro ⟨sx, k⟩ hi10
    replace hi10 : k ≤ S.length := hi10
    show SK _ _ _ _ _ [(2, (.slice none 0 0)), (6, sx), (25, sv), (26, .int .i64 (S.length : Int)), (27, .int .i64 (k : Int))] _ [own iTy sx (cat (S.take k))]
    have hcl := cat_len hB k
    refine k_seq ?_
    refine k_reg ?_
    refine s_lt t_cmp ?_
    refine s_nil ?_
    refine xs_then ?_
    refine k_seq ?_
    refine k_cond (decide ((k : Int) < (S.length : Int))) (fun c11 => ?_) (fun c11 => ?_)
    ·
      have p12 := of_decide_eq_true c11
      refine k_skip ?_
      refine xs_then ?_
      refine k_seq ?_
      refine k_block ?_
      refine k_seq ?_
      refine k_reg ?_
      refine s_lt (t_index SqT_ok Try.underlying104 (.zn hS) (k : Int) k (by omega) (by (try simp only [List.length_nil, List.length_cons, List.length_append, List.length_take, List.length_drop, List.length_set, List.length_replicate, List.length_reverse, bits_len]); omega) (by omega)) ?_
      obtain ⟨y13, hy14⟩ : ∃ y, S[k]? = some y := ⟨_, List.getElem?_eq_getElem (by (try simp only [List.length_nil, List.length_cons, List.length_append, List.length_take, List.length_drop, List.length_set, List.length_replicate, List.length_reverse, bits_len]); omega)⟩
      have hb15 := hB y13 (List.mem_of_getElem? hy14)
      refine s_lt (t_loadE SqT_ok (.zn hS) hy14) ?_
      refine s_lt (t_pure y13.v) ?_
      refine s_nil ?_
      refine xs_then ?_
      refine k_reg ?_
      refine s_lt (t_pure sx) ?_
      refine s_lt (t_pure y13.v) ?_
      refine s_append (L := (cat (S.take k))) 0 iTy_ok Try.underlying23 (.zn (hE y13 (List.mem_of_getElem? hy14))) (by show _ * 8 ≤ _; (try simp only [List.length_nil, List.length_cons, List.length_append, List.length_take, List.length_drop, List.length_set, List.length_replicate, List.length_reverse, bits_len]); omega) (by (try simp only [List.length_nil, List.length_cons, List.length_append, List.length_take, List.length_drop, List.length_set, List.length_replicate, List.length_reverse, bits_len]); omega) (fun v16 => ?_)
      refine s_fact (fun H h => ((Acc.own (T := iTy) (L := ((cat (S.take k)) ++ y13.xs)) 0 rfl) H h).form) (fun hf17 => ?_)
      refine s_lt (t_pure v16) ?_
      refine s_nil ?_
      refine xs_block ?_
      refine xs_then ?_
      refine k_reg ?_
      refine s_lt (t_add (k : Int) 1 (by (try simp only [List.length_nil, List.length_cons, List.length_append, List.length_take, List.length_drop, List.length_set, List.length_replicate, List.length_reverse, bits_len]); omega)) ?_
      refine s_lt (t_pure (.int .i64 ((k : Int) + 1))) ?_
      refine s_nil ?_
      rw [cat_take hy14]
      exact xs_round (v16, k + 1) (by show S.length - (k + 1) < S.length - k; omega) (by show k + 1 ≤ S.length; omega) (sub_of rfl ⟨⟨rfl, rfl⟩, ⟨⟨rfl, rfl⟩, ⟨⟨rfl, rfl⟩, ⟨⟨rfl, rfl⟩, ⟨⟨rfl, rfl⟩, trivial⟩⟩⟩⟩⟩) (fun _ h => h.re [0] [])
    ·
      have p18 := of_decide_eq_false c11
      refine k_exit ?_
      refine xs_exit ?_
      refine xs_exit ?_
      refine xs_here ?_
      refine xs_then ?_
      refine k_seq ?_
      refine k_reg ?_
      refine s_lt (t_pure sx) ?_
      refine s_lt (t_pure sx) ?_
      refine s_nil ?_
      refine xs_then ?_
      refine k_ret ?_
      exact xs_fin [sx] [own iTy sx (cat S)] (SI.tmp 2 SI.nil) (fun _ h => by rw [List.take_of_length_le (by omega)] at h; exact h.re [0] []) rfl
theorem each_nil2 {p : Sq → Prop} : ∀ x ∈ ([] : List Sq), p x := by simp
theorem each_cons2 {p : Sq → Prop} {a : Sq} {r : List Sq} (h : p a) (hr : ∀ x ∈ r, p x) : ∀ x ∈ a :: r, p x := by
  intro x hx
  rcases List.mem_cons.1 hx with rfl | hx
  · exact h
  · exact hr x hx
theorem mall_s {Z : Zone} {F : List Asr} {g : Nat} {rv ev : Value} {cv : Int} {A B : List Int} (hA : A.length ≤ 1000000) (hB : B.length ≤ 1000000) : SF Try.prog 49 #[ndV g] Z (blkA g #[rv, ev, .int .i64 cv] 63 :: own iTy rv A :: own iTy ev B :: F) fun r Bs => Bs = own iTy r (A ++ B) :: blkA g #[rv, ev, .int .i64 cv] 63 :: own iTy rv A :: own iTy ev B :: F := by
  refine sf_enter Try.func49 13 [(0, .pointer (some ⟨g, 0, none⟩))] (fun w0 => ?_)
  refine k_seq ?_
  refine k_reg ?_
  refine s_lt (t_pure (.slice none 0 0)) ?_
  refine s_nil ?_
  refine xs_then ?_
  refine k_seq ?_
  refine k_draw ?_
  refine s_lt (t_pure (.pointer (some ⟨g, 0, none⟩))) ?_
  refine s_lt (t_pure (.pointer (some ⟨g, 0, none⟩))) ?_
  refine s_lt (t_pure (.pointer (some ⟨g, 0, none⟩))) ?_
  refine s_lt (t_load 0 rv) ?_
  refine s_lt (t_pure (.pointer (some ⟨g, 0, none⟩))) ?_
  refine s_lt (t_pure (.pointer (some ⟨g, 0, none⟩))) ?_
  refine s_lt (t_pure (.pointer (some ⟨g, 1, none⟩))) ?_
  refine s_lt (t_load 0 ev) ?_
  refine s_fact (fun H h => ((Acc.own (T := iTy) (L := A) 1 rfl) H h).form) (fun hf1 => ?_)
  obtain ⟨pp2, cc3, e⟩ := hf1; subst e
  refine s_fact (fun H h => ((Acc.own (T := iTy) (L := B) 2 rfl) H h).form) (fun hf4 => ?_)
  obtain ⟨pp5, cc6, e⟩ := hf4; subst e
  refine s_buildSlice (e := 23) [(0, (.slice pp2 A.length cc3)), (1, (.slice pp5 B.length cc6))] #[(.slice pp2 A.length cc3), (.slice pp5 B.length cc6)] (fun g7 => ?_) (hb := by kernel_rfl)
  refine s_pcall (fun _ h => concat_s (S := [⟨pp2, cc3, A⟩, ⟨pp5, cc6, B⟩]) (Acc.kn (T := SqT) (Acc.lit 0 SqT_ok [⟨pp2, cc3, A⟩, ⟨pp5, cc6, B⟩]) h) (each_cons2 (Acc.kn (T := iTy) (.own 2) h) (each_cons2 (Acc.kn (T := iTy) (.own 3) h) each_nil2)) (by show 2 ≤ 100; decide) (each_cons2 (by show A.length ≤ _; (try simp only [List.length_nil, List.length_cons, List.length_append, List.length_take, List.length_drop, List.length_set, List.length_replicate, List.length_reverse, bits_len]); omega) (each_cons2 (by show B.length ≤ _; (try simp only [List.length_nil, List.length_cons, List.length_append, List.length_take, List.length_drop, List.length_set, List.length_replicate, List.length_reverse, bits_len]); omega) each_nil2))) ?_
  rintro v8 _ rfl
  have hcat : cat [⟨pp2, cc3, A⟩, ⟨pp5, cc6, B⟩] = (A ++ B) := by simp [cat]
  refine s_mem (Bs := own iTy v8 (A ++ B) :: blkA g7 #[(.slice pp2 A.length cc3), (.slice pp5 B.length cc6)] 23 :: blkA g #[(.slice pp2 A.length cc3), (.slice pp5 B.length cc6), .int .i64 cv] 63 :: own iTy (.slice pp2 A.length cc3) A :: own iTy (.slice pp5 B.length cc6) B :: F) (fun _ h => by rw [hcat] at h; exact h) ?_
  refine s_fact (fun H h => ((Acc.own (T := iTy) (L := (A ++ B)) 0 rfl) H h).form) (fun hf9 => ?_)
  refine s_lt (t_pure v8) ?_
  refine s_nil ?_
  refine x_dynS (fun _ h => by kernel_rfl) ?_
  refine xs_then ?_
  refine k_ret ?_
  exact xs_fin [v8] (own iTy v8 (A ++ B) :: blkA g #[(.slice pp2 A.length cc3), (.slice pp5 B.length cc6), .int .i64 cv] 63 :: own iTy (.slice pp2 A.length cc3) A :: own iTy (.slice pp5 B.length cc6) B :: F) (SI.tmp 2 SI.nil) (fun _ h => h.re [0, 1, 1, 1] [4]) rfl
end Go.Proofs.Ytjdlkemmcnncaaa
