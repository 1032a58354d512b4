/-
  Lists compared, searching, checking, copying; what entries keep alive. Each law says its conditions.
-/
import Derived.Test.YtjdlkemmcnncaaaL1
import Derived.Test.YtjdlkemmcnncaaaSl
set_option linter.unusedSimpArgs false
set_option linter.unusedVariables false
set_option maxRecDepth 100000
namespace Go.Proofs.Ytjdlkemmcnncaaa
open Go.Hp Go.J Go.S
open Go.Mem (Ty KTy blk elemAt pre suf blk_pre blk_suf aget aset strK aggDesc)
theorem half (a b : Nat) : Int.tdiv ((a : Int) + (b : Int)) 2 = (((a + b) / 2 : Nat) : Int) := by
  rw [← Int.natCast_add, Int.tdiv_eq_ediv_of_nonneg (by omega)]; omega
theorem take_eq_succ {α : Type} {A B : List α} {i : Nat} {x y : α} (h : A.take i = B.take i) (hx : A[i]? = some x) (hy : B[i]? = some y) (e : x = y) : A.take (i + 1) = B.take (i + 1) := by
  rw [List.take_add_one, List.take_add_one, h, hx, hy, e]
theorem ne_of_get {α : Type} {A B : List α} {i : Nat} {x y : α} (hx : A[i]? = some x) (hy : B[i]? = some y) (h : x ≠ y) : A ≠ B := by
  rintro rfl; rw [hx] at hy; exact h (Option.some.inj hy)
theorem take_all {α : Type} {A B : List α} {i : Nat} (h : A.take i = B.take i) (h1 : A.length ≤ i) (h2 : B.length ≤ i) : A = B := by
  rwa [List.take_of_length_le h1, List.take_of_length_le h2] at h
/-- The search in halves. -/
structure Bis (ks : List Int) (n : Int) (lo hi : Nat) : Prop where
  le : lo ≤ hi
  top : hi ≤ ks.length
  below : ∀ (j : Nat) y, j < lo → ks[j]? = some y → y < n
  above : ∀ (j : Nat) y, hi ≤ j → ks[j]? = some y → n ≤ y
theorem bis0 (ks : List Int) (n : Int) : Bis ks n 0 ks.length := ⟨Nat.zero_le _, Nat.le_refl _, fun j y h => absurd h (Nat.not_lt_zero _), fun j y h hy => by rw [List.getElem?_eq_none h] at hy; cases hy⟩
theorem get_lt {ks : List Int} (h : ks.Pairwise (· < ·)) {i j : Nat} {x y : Int} (hx : ks[i]? = some x) (hy : ks[j]? = some y) (hij : i < j) : x < y := by
  obtain ⟨hi, e1⟩ := List.getElem?_eq_some_iff.1 hx
  obtain ⟨hj, e2⟩ := List.getElem?_eq_some_iff.1 hy
  rw [← e1, ← e2]; exact List.pairwise_iff_getElem.1 h i j hi hj hij
theorem Bis.up {ks : List Int} (hs : ks.Pairwise (· < ·)) {n y : Int} {lo hi md : Nat} (h : Bis ks n lo hi) (hy : ks[md]? = some y) (hm : lo ≤ md ∧ md < hi) (hlt : y < n) : Bis ks n (md + 1) hi :=
  ⟨by omega, h.top, fun j z hj hz => by
    rcases Nat.lt_or_ge j md with h1 | h1
    · have := get_lt hs hz hy h1; omega
    · have : j = md := by omega
      subst this; rw [hy] at hz; cases hz; exact hlt, h.above⟩
theorem Bis.down {ks : List Int} (hs : ks.Pairwise (· < ·)) {n y : Int} {lo hi md : Nat} (h : Bis ks n lo hi) (hy : ks[md]? = some y) (hm : lo ≤ md ∧ md < hi) (hge : ¬ y < n) : Bis ks n lo md :=
  ⟨hm.1, by have := h.top; omega, h.below, fun j z hj hz => by
    rcases Nat.lt_or_ge md j with h1 | h1
    · have := get_lt hs hy hz h1; omega
    · have : j = md := by omega
      subst this; rw [hy] at hz; cases hz; omega⟩
theorem Bis.end_ {ks : List Int} (hs : ks.Pairwise (· < ·)) {n : Int} {lo hi : Nat} (h : Bis ks n lo hi) (he : ¬ lo < hi) : n ∈ ks ↔ ks[lo]? = some n := by
  have hl : lo = hi := by have := h.le; omega
  subst hl
  constructor
  · intro hm
    obtain ⟨j, hj⟩ := List.mem_iff_getElem?.1 hm
    rcases Nat.lt_trichotomy j lo with h1 | rfl | h1
    · have := h.below j n h1 hj; omega
    · exact hj
    · have hjl : j < ks.length := (List.getElem?_eq_some_iff.1 hj).1
      obtain ⟨y, hy⟩ : ∃ y, ks[lo]? = some y := ⟨_, List.getElem?_eq_getElem (by omega)⟩
      have h2 := h.above lo y (Nat.le_refl _) hy
      have h3 := get_lt hs hy hj h1
      omega
  · exact fun h => List.mem_of_getElem? h
theorem Bis.found {ks : List Int} (hs : ks.Pairwise (· < ·)) {n y : Int} {lo hi : Nat} (h : Bis ks n lo hi) (he : ¬ lo < hi) (hy : ks[lo]? = some y) : decide (y = n) = decide (n ∈ ks) := by
  rw [decide_eq_decide, h.end_ hs he, hy]; exact ⟨fun h => by rw [h], fun h => Option.some.inj h⟩
theorem Bis.lost {ks : List Int} (hs : ks.Pairwise (· < ·)) {n : Int} {lo hi : Nat} (h : Bis ks n lo hi) (he : ¬ lo < hi) (hy : ¬ lo < ks.length) : false = decide (n ∈ ks) := by
  refine (decide_eq_false fun hm => ?_).symm
  rw [h.end_ hs he, List.getElem?_eq_none (by omega)] at hm; cases hm
theorem ids_asc {l : List Ob} (h : Asc l) : (l.map Ob.id).Pairwise (· < ·) := by rw [List.pairwise_map]; exact h
theorem ids_get {l : List Ob} {i : Nat} {y : Ob} (h : l[i]? = some y) : (l.map Ob.id)[i]? = some y.id := by rw [List.getElem?_map, h]; rfl
/-- Where an object is. -/
def findI (l : List Ob) (id : Int) : Int := match (l.map Ob.id).findIdx? (fun x => decide (x = id)) with | some i => (i : Int) | none => -1
theorem findI_some {l : List Ob} (h : Asc l) {i : Nat} {y : Ob} (hy : l[i]? = some y) : findI l y.id = (i : Int) := by
  unfold findI
  cases hf : (l.map Ob.id).findIdx? (fun x => decide (x = y.id)) with
  | none =>
    have := List.findIdx?_eq_none_iff.1 hf y.id (List.mem_of_getElem? (ids_get hy))
    simp at this
  | some j =>
    obtain ⟨hj, h1, _⟩ := List.findIdx?_eq_some_iff_getElem.1 hf
    have h2 : l[j]? = some (l[j]'(by simpa using hj)) := List.getElem?_eq_getElem _
    have h3 : (l[j]'(by simpa using hj)).id = y.id := by simpa using h1
    have := asc_inj h h2 hy h3
    subst this; rfl
theorem findI_none {l : List Ob} {id : Int} (h : id ∉ l.map Ob.id) : findI l id = -1 := by
  unfold findI
  have : (l.map Ob.id).findIdx? (fun x => decide (x = id)) = none := List.findIdx?_eq_none_iff.2 fun x hx => by
    simp; rintro rfl; exact h hx
  rw [this]
theorem find_cases {l : List Ob} (h : Asc l) (id : Int) : (fnd l id = none ∧ findI l id = -1) ∨ ∃ i o, l[i]? = some o ∧ o.id = id ∧ fnd l id = some o ∧ findI l id = ((i : Nat) : Int) := by
  cases hf : fnd l id with
  | none =>
    refine .inl ⟨rfl, findI_none fun hm => ?_⟩
    obtain ⟨o, ho, e⟩ := List.mem_map.1 hm
    exact fnd_none hf o ho e
  | some o =>
    obtain ⟨h1, h2⟩ := fnd_id hf
    obtain ⟨i, hi⟩ := List.mem_iff_getElem?.1 h2
    exact .inr ⟨i, o, hi, h1, rfl, by rw [← h1]; exact findI_some h hi⟩
def errI (b : Bool) : Int := if b then 0 else 2
def largeB (l : List Ob) (R : List Int) : Bool := (decide ((200 : Int) < (l.length : Int)) || decide ((400 : Int) < (R.length : Int))) || l.any fun o => decide ((400 : Int) < (o.refs.length : Int)) || decide ((400 : Int) < (o.ents.length : Int))
theorem small_of {l : List Ob} {R : List Int} (h : largeB l R = false) : l.length ≤ 200 ∧ R.length ≤ 400 ∧ ∀ o ∈ l, o.refs.length ≤ 400 ∧ o.ents.length ≤ 400 := by
  simp only [largeB, Bool.or_eq_false_iff, decide_eq_false_iff_not, List.any_eq_false, Bool.or_eq_true, decide_eq_true_eq, not_or] at h
  exact ⟨by omega, by omega, fun o ho => by have := h.2 o ho; omega⟩
theorem any_take {α : Type} {p : α → Bool} {L : List α} {i : Nat} {y : α} (h : (L.take i).any p = false) (hy : L[i]? = some y) (hp : p y = false) : (L.take (i + 1)).any p = false := by
  rw [List.take_add_one, hy, List.any_append, h]; simp [hp]
theorem any_here {α : Type} {p : α → Bool} {L : List α} {i : Nat} {y : α} (hy : L[i]? = some y) (hp : p y = true) : L.any p = true := List.any_eq_true.2 ⟨y, List.mem_of_getElem? hy, hp⟩
theorem any_end {α : Type} {p : α → Bool} {L : List α} {i : Nat} (h : (L.take i).any p = false) (hi : L.length ≤ i) : L.any p = false := by rwa [List.take_of_length_le hi] at h
theorem ints_s {Z : Zone} {va vb : Value} {A B : List Int} (hA : Kn Z iTy va A) (hB : Kn Z iTy vb B) : SF Try.prog 15 #[va, vb] Z [] fun r Bs => r = .bool (decide (A = B)) ∧ Bs = [] := by
  refine sf_enter Try.func15 26 [(0, va), (1, vb)] (fun w0 => ?_)
  refine k_fact (fun H h => (hA.get h).len_le) (fun lA => ?_)
  refine k_seq ?_
  refine k_reg ?_
  refine s_lt (t_pure (.bool false)) ?_
  refine s_nil ?_
  refine xs_then ?_
  refine k_seq ?_
  refine k_seq ?_
  refine k_reg ?_
  refine s_lt (t_pure va) ?_
  refine s_lt (t_len iTy_ok Try.underlying23 (.zn hA)) ?_
  refine s_lt (t_pure vb) ?_
  refine s_lt (t_len iTy_ok Try.underlying23 (.zn hB)) ?_
  refine s_lt t_cmp ?_
  refine s_nil ?_
  refine xs_then ?_
  refine k_cond (decide ((A.length : Int) ≠ (B.length : Int))) (fun c1 => ?_) (fun c1 => ?_)
  ·
    have p2 := of_decide_eq_true c1
    refine k_seq ?_
    refine k_reg ?_
    refine s_lt (t_pure (.bool false)) ?_
    refine s_nil ?_
    refine xs_then ?_
    refine k_ret ?_
    refine xs_ret ?_
    refine xs_fin [.bool false] [] (SI.tmp 4 SI.nil) (fun _ h => h.re [] []) ⟨congrArg Value.bool ?_, rfl⟩
    exact (decide_eq_false (fun e => by subst e; omega)).symm
  ·
    have p3 := Decidable.not_not.1 (of_decide_eq_false c1)
    refine k_skip ?_
    refine xs_then ?_
    refine k_seq ?_
    refine k_seq ?_
    refine k_reg ?_
    refine s_lt (t_pure (.int .i64 0)) ?_
    refine s_nil ?_
    refine xs_then ?_
    refine k_block ?_
    refine k_loop (ι := Nat) (fun i => i ≤ A.length ∧ A.take i = B.take i) (fun i => [(0, va), (1, vb), (4, .bool false), (5, .int .i64 (i : Int))]) (fun i => []) (fun i => A.length - i) 0 ⟨Nat.zero_le _, rfl⟩ (sub_of rfl ⟨⟨rfl, rfl⟩, ⟨⟨rfl, rfl⟩, ⟨⟨rfl, rfl⟩, ⟨⟨rfl, rfl⟩, trivial⟩⟩⟩⟩) (fun _ h => h.re [] []) ?_
    rintro i hi4
    show SK _ _ _ _ _ [(0, va), (1, vb), (4, .bool false), (5, .int .i64 (i : Int))] _ []
    refine k_seq ?_
    refine k_seq ?_
    refine k_reg ?_
    refine s_lt (t_pure (.int .i64 (i : Int))) ?_
    refine s_lt (t_pure va) ?_
    refine s_lt (t_len iTy_ok Try.underlying23 (.zn hA)) ?_
    refine s_lt t_cmp ?_
    refine s_nil ?_
    refine xs_then ?_
    refine k_cond (decide ((i : Int) < (A.length : Int))) (fun c5 => ?_) (fun c5 => ?_)
    ·
      have p6 := of_decide_eq_true c5
      refine k_skip ?_
      refine xs_then ?_
      refine k_seq ?_
      refine k_block ?_
      refine k_seq ?_
      refine k_draw ?_
      refine s_lt (t_pure va) ?_
      refine s_lt (t_pure (.int .i64 (i : Int))) ?_
      refine s_lt (t_index iTy_ok Try.underlying23 (.zn hA) (i : Int) i (by omega) (by (try simp only [List.length_nil, List.length_cons, List.length_append, List.length_take, List.length_drop, List.length_set, List.length_replicate, List.length_reverse]); omega) (by omega)) ?_
      obtain ⟨y7, hy8⟩ : ∃ y, A[i]? = some y := ⟨_, List.getElem?_eq_getElem (by (try simp only [List.length_nil, List.length_cons, List.length_append, List.length_take, List.length_drop, List.length_set, List.length_replicate, List.length_reverse]); omega)⟩
      refine s_lt (t_loadE iTy_ok (.zn hA) hy8) ?_
      refine s_lt (t_pure vb) ?_
      refine s_lt (t_pure (.int .i64 (i : Int))) ?_
      refine s_lt (t_index iTy_ok Try.underlying23 (.zn hB) (i : Int) i (by omega) (by (try simp only [List.length_nil, List.length_cons, List.length_append, List.length_take, List.length_drop, List.length_set, List.length_replicate, List.length_reverse]); omega) (by omega)) ?_
      obtain ⟨y9, hy10⟩ : ∃ y, B[i]? = some y := ⟨_, List.getElem?_eq_getElem (by (try simp only [List.length_nil, List.length_cons, List.length_append, List.length_take, List.length_drop, List.length_set, List.length_replicate, List.length_reverse]); omega)⟩
      refine s_lt (t_loadE iTy_ok (.zn hB) hy10) ?_
      refine s_lt t_cmp ?_
      refine s_nil ?_
      refine x_dynS (fun _ h => by kernel_rfl) ?_
      refine xs_then ?_
      refine k_cond (decide (y7 ≠ y9)) (fun c11 => ?_) (fun c11 => ?_)
      ·
        have p12 := of_decide_eq_true c11
        refine k_seq ?_
        refine k_reg ?_
        refine s_lt (t_pure (.bool false)) ?_
        refine s_nil ?_
        refine xs_then ?_
        refine k_ret ?_
        refine xs_retBlock ?_
        refine xs_ret ?_
        refine xs_ret ?_
        refine xs_retBlock ?_
        refine xs_ret ?_
        refine xs_fin [.bool false] [] (SI.tmp 4 SI.nil) (fun _ h => h.re [] []) ⟨congrArg Value.bool ?_, rfl⟩
        exact (decide_eq_false (ne_of_get hy8 hy10 p12)).symm
      ·
        have p13 := Decidable.not_not.1 (of_decide_eq_false c11)
        refine k_skip ?_
        refine xs_block ?_
        refine xs_then ?_
        refine k_reg ?_
        refine s_lt (t_pure (.int .i64 (i : Int))) ?_
        refine s_lt (t_add (i : Int) 1 (by (try simp only [List.length_nil, List.length_cons, List.length_append, List.length_take, List.length_drop, List.length_set, List.length_replicate, List.length_reverse]); omega)) ?_
        refine s_lt (t_pure (.int .i64 ((i : Int) + 1))) ?_
        refine s_nil ?_
        exact xs_round (i + 1) (by omega) (by obtain ⟨hi1, hi2⟩ := hi4; exact ⟨by omega, take_eq_succ hi2 hy8 hy10 p13⟩) (sub_of rfl ⟨⟨rfl, rfl⟩, ⟨⟨rfl, rfl⟩, ⟨⟨rfl, rfl⟩, ⟨⟨rfl, rfl⟩, trivial⟩⟩⟩⟩) (fun _ h => h.re [] [])
    ·
      have p14 := of_decide_eq_false c5
      refine k_exit ?_
      refine xs_exit ?_
      refine xs_exit ?_
      refine xs_here ?_
      refine xs_then ?_
      refine k_seq ?_
      refine k_reg ?_
      refine s_lt (t_pure (.bool true)) ?_
      refine s_nil ?_
      refine xs_then ?_
      refine k_ret ?_
      refine xs_fin [.bool true] [] (SI.tmp 4 SI.nil) (fun _ h => h.re [] []) ⟨congrArg Value.bool ?_, rfl⟩
      exact (decide_eq_true (take_all hi4.2 (by omega) (by omega))).symm
theorem in_s {Z : Zone} {lv : Value} {L : List Int} (n : Int) (hL : Kn Z iTy lv L) (hs : L.Pairwise (· < ·)) (hl : L.length ≤ 1000000) : SF Try.prog 23 #[lv, .int .i64 n] Z [] fun r Bs => r = .bool (decide (n ∈ L)) ∧ Bs = [] := by
  refine sf_enter Try.func23 38 [(0, lv), (1, .int .i64 n)] (fun w0 => ?_)
  refine k_fact (fun H h => (hL.get h).len_le) (fun lA => ?_)
  refine k_seq ?_
  refine k_reg ?_
  refine s_lt (t_pure (.bool false)) ?_
  refine s_nil ?_
  refine xs_then ?_
  refine k_seq ?_
  refine k_reg ?_
  refine s_lt (t_pure lv) ?_
  refine s_lt (t_len iTy_ok Try.underlying23 (.zn hL)) ?_
  refine s_lt (t_pure (.int .i64 0)) ?_
  refine s_lt (t_pure (.int .i64 (L.length : Int))) ?_
  refine s_nil ?_
  refine xs_then ?_
  refine k_seq ?_
  refine k_block ?_
  refine k_loop (ι := Nat × Nat) (fun (lo, hi) => Bis L n lo hi) (fun (lo, hi) => [(0, lv), (1, .int .i64 n), (4, .bool false), (5, .int .i64 (lo : Int)), (6, .int .i64 (hi : Int))]) (fun (lo, hi) => []) (fun (lo, hi) => hi - lo) (0, L.length) (bis0 L n) (sub_of rfl ⟨⟨rfl, rfl⟩, ⟨⟨rfl, rfl⟩, ⟨⟨rfl, rfl⟩, ⟨⟨rfl, rfl⟩, ⟨⟨rfl, rfl⟩, trivial⟩⟩⟩⟩⟩) (fun _ h => h.re [] []) ?_
  rintro ⟨lo, hi⟩ hi1
  replace hi1 : Bis L n lo hi := hi1
  show SK _ _ _ _ _ [(0, lv), (1, .int .i64 n), (4, .bool false), (5, .int .i64 (lo : Int)), (6, .int .i64 (hi : Int))] _ []
  have htop := hi1.top
  refine k_seq ?_
  refine k_seq ?_
  refine k_reg ?_
  refine s_lt (t_pure (.int .i64 (lo : Int))) ?_
  refine s_lt (t_pure (.int .i64 (hi : Int))) ?_
  refine s_lt t_cmp ?_
  refine s_nil ?_
  refine xs_then ?_
  refine k_cond (decide ((lo : Int) < (hi : Int))) (fun c2 => ?_) (fun c2 => ?_)
  ·
    have p3 := of_decide_eq_true c2
    refine k_skip ?_
    refine xs_then ?_
    refine k_block ?_
    refine k_seq ?_
    refine k_reg ?_
    refine s_lt (t_pure (.int .i64 (lo : Int))) ?_
    refine s_lt (t_pure (.int .i64 (hi : Int))) ?_
    refine s_lt (t_add (lo : Int) (hi : Int) (by (try simp only [List.length_nil, List.length_cons, List.length_append, List.length_take, List.length_drop, List.length_set, List.length_replicate, List.length_reverse]); omega)) ?_
    obtain ⟨md4, hmd5⟩ : ∃ m : Nat, m = (lo + hi) / 2 := ⟨_, rfl⟩
    refine s_lt (Lt.to (v' := .int .i64 (md4 : Int)) (t_quo ((lo : Int) + (hi : Int)) 2 (by decide) (by rw [half]; omega)) (by rw [half, ← hmd5])) ?_
    refine s_lt (t_pure (.int .i64 (md4 : Int))) ?_
    refine s_nil ?_
    refine xs_then ?_
    refine k_seq ?_
    refine k_reg ?_
    refine s_lt (t_pure lv) ?_
    refine s_lt (t_pure (.int .i64 (md4 : Int))) ?_
    refine s_lt (t_index iTy_ok Try.underlying23 (.zn hL) (md4 : Int) md4 (by omega) (by (try simp only [List.length_nil, List.length_cons, List.length_append, List.length_take, List.length_drop, List.length_set, List.length_replicate, List.length_reverse]); omega) (by omega)) ?_
    obtain ⟨y6, hy7⟩ : ∃ y, L[md4]? = some y := ⟨_, List.getElem?_eq_getElem (by (try simp only [List.length_nil, List.length_cons, List.length_append, List.length_take, List.length_drop, List.length_set, List.length_replicate, List.length_reverse]); omega)⟩
    refine s_lt (t_loadE iTy_ok (.zn hL) hy7) ?_
    refine s_lt (t_pure (.int .i64 n)) ?_
    refine s_lt t_cmp ?_
    refine s_nil ?_
    refine xs_then ?_
    refine k_cond (decide (y6 < n)) (fun c8 => ?_) (fun c8 => ?_)
    ·
      have p9 := of_decide_eq_true c8
      refine k_reg ?_
      refine s_lt (t_pure (.int .i64 (md4 : Int))) ?_
      refine s_lt (t_add (md4 : Int) 1 (by (try simp only [List.length_nil, List.length_cons, List.length_append, List.length_take, List.length_drop, List.length_set, List.length_replicate, List.length_reverse]); omega)) ?_
      refine s_lt (t_pure (.int .i64 ((md4 : Int) + 1))) ?_
      refine s_nil ?_
      refine xs_block ?_
      exact xs_round (md4 + 1, hi) (by show hi - (md4 + 1) < hi - lo; omega) (hi1.up hs hy7 (by omega) p9) (sub_of rfl ⟨⟨rfl, rfl⟩, ⟨⟨rfl, rfl⟩, ⟨⟨rfl, rfl⟩, ⟨⟨rfl, rfl⟩, ⟨⟨rfl, rfl⟩, trivial⟩⟩⟩⟩⟩) (fun _ h => h.re [] [])
    ·
      have p10 := of_decide_eq_false c8
      refine k_reg ?_
      refine s_lt (t_pure (.int .i64 (md4 : Int))) ?_
      refine s_lt (t_pure (.int .i64 (md4 : Int))) ?_
      refine s_nil ?_
      refine xs_block ?_
      exact xs_round (lo, md4) (by show md4 - lo < hi - lo; omega) (hi1.down hs hy7 (by omega) p10) (sub_of rfl ⟨⟨rfl, rfl⟩, ⟨⟨rfl, rfl⟩, ⟨⟨rfl, rfl⟩, ⟨⟨rfl, rfl⟩, ⟨⟨rfl, rfl⟩, trivial⟩⟩⟩⟩⟩) (fun _ h => h.re [] [])
  ·
    have p11 := of_decide_eq_false c2
    refine k_exit ?_
    refine xs_exit ?_
    refine xs_exit ?_
    refine xs_here ?_
    refine xs_then ?_
    refine k_seq ?_
    refine k_reg ?_
    refine s_lt (t_pure (.int .i64 (lo : Int))) ?_
    refine s_lt (t_pure lv) ?_
    refine s_lt (t_len iTy_ok Try.underlying23 (.zn hL)) ?_
    refine s_lt t_cmp ?_
    refine s_lt (t_pure (.bool (decide ((lo : Int) < (L.length : Int))))) ?_
    refine s_fork 30 (decide ((lo : Int) < (L.length : Int))) (fun c12 => ?_) (fun c12 => ?_)
    ·
      have p13 := of_decide_eq_true c12
      refine s_lt (t_pure lv) ?_
      refine s_lt (t_pure (.int .i64 (lo : Int))) ?_
      refine s_lt (t_index iTy_ok Try.underlying23 (.zn hL) (lo : Int) lo (by omega) (by (try simp only [List.length_nil, List.length_cons, List.length_append, List.length_take, List.length_drop, List.length_set, List.length_replicate, List.length_reverse]); omega) (by omega)) ?_
      obtain ⟨y14, hy15⟩ : ∃ y, L[lo]? = some y := ⟨_, List.getElem?_eq_getElem (by (try simp only [List.length_nil, List.length_cons, List.length_append, List.length_take, List.length_drop, List.length_set, List.length_replicate, List.length_reverse]); omega)⟩
      refine s_lt (t_loadE iTy_ok (.zn hL) hy15) ?_
      refine s_lt (t_pure (.int .i64 n)) ?_
      refine s_lt t_cmp ?_
      refine s_lt (t_pure (.bool (decide (y14 = n)))) ?_
      refine s_lt (t_pure (.bool (decide (y14 = n)))) ?_
      refine s_nil ?_
      refine xs_then ?_
      refine k_ret ?_
      refine xs_fin [.bool (decide (y14 = n))] [] (SI.tmp 4 SI.nil) (fun _ h => h.re [] []) ⟨congrArg Value.bool ?_, rfl⟩
      exact hi1.found hs (by omega) hy15
    ·
      have p16 := of_decide_eq_false c12
      refine s_skip ?_
      refine s_skip ?_
      refine s_skip ?_
      refine s_skip ?_
      refine s_skip ?_
      refine s_skip ?_
      refine s_lt (t_pure (.bool false)) ?_
      refine s_lt (t_pure (.bool false)) ?_
      refine s_nil ?_
      refine xs_then ?_
      refine k_ret ?_
      refine xs_fin [.bool false] [] (SI.tmp 4 SI.nil) (fun _ h => h.re [] []) ⟨congrArg Value.bool ?_, rfl⟩
      exact hi1.lost hs (by omega) (by omega)
theorem find2_s {Z : Zone} {ov rv : Value} {l : List Ob} {R : List Int} (hg : KnG Z ov rv l R) (hs : Asc l) (hl : l.length ≤ 1000000) (id : Int) : SF Try.prog 24 #[.agg #[ov, rv], .int .i64 id] Z [] fun r Bs => r = .int .i64 (findI l id) ∧ Bs = [] := by
  refine sf_enter Try.func24 45 [(0, .agg #[ov, rv]), (1, .int .i64 id)] (fun w0 => ?_)
  refine k_seq ?_
  refine k_reg ?_
  refine s_box #[ov, rv] (fun g1 => ?_)
  refine s_lt (t_pure (.int .i64 0)) ?_
  refine s_nil ?_
  refine xs_then ?_
  refine k_seq ?_
  refine k_draw ?_
  refine s_lt (t_pure (.pointer (some ⟨g1, 0, none⟩))) ?_
  refine s_lt (t_load 0 ov) ?_
  refine s_fact (fun H h => ((Acc.zn hg.obs) H h).form) (fun hf2 => ?_)
  refine s_lt (t_len ObT_ok Try.underlying22 (.zn hg.obs)) ?_
  refine s_lt (t_pure (.int .i64 0)) ?_
  refine s_lt (t_pure (.int .i64 (l.length : Int))) ?_
  refine s_nil ?_
  refine x_dynS (fun _ h => by obtain ⟨_, _, e⟩ := hf2; subst e; kernel_rfl) ?_
  refine xs_then ?_
  refine k_seq ?_
  refine k_block ?_
  refine k_loop (ι := Nat × Nat) (fun (lo, hi) => Bis (l.map Ob.id) id lo hi) (fun (lo, hi) => [(1, .int .i64 id), (2, .pointer (some ⟨g1, 0, none⟩)), (4, .int .i64 0), (5, .int .i64 (lo : Int)), (6, .int .i64 (hi : Int))]) (fun (lo, hi) => [blkA g1 #[ov, rv] 25]) (fun (lo, hi) => hi - lo) (0, l.length) (by have := bis0 (l.map Ob.id) id; rwa [List.length_map] at this) (sub_of rfl ⟨⟨rfl, rfl⟩, ⟨⟨rfl, rfl⟩, ⟨⟨rfl, rfl⟩, ⟨⟨rfl, rfl⟩, ⟨⟨rfl, rfl⟩, trivial⟩⟩⟩⟩⟩) (fun _ h => h.re [0] []) ?_
  rintro ⟨lo, hi⟩ hi3
  replace hi3 : Bis (l.map Ob.id) id lo hi := hi3
  show SK _ _ _ _ _ [(1, .int .i64 id), (2, .pointer (some ⟨g1, 0, none⟩)), (4, .int .i64 0), (5, .int .i64 (lo : Int)), (6, .int .i64 (hi : Int))] _ [blkA g1 #[ov, rv] 25]
  have htop := hi3.top; rw [List.length_map] at htop
  refine k_seq ?_
  refine k_seq ?_
  refine k_reg ?_
  refine s_lt (t_pure (.int .i64 (lo : Int))) ?_
  refine s_lt (t_pure (.int .i64 (hi : Int))) ?_
  refine s_lt t_cmp ?_
  refine s_nil ?_
  refine xs_then ?_
  refine k_cond (decide ((lo : Int) < (hi : Int))) (fun c4 => ?_) (fun c4 => ?_)
  ·
    have p5 := of_decide_eq_true c4
    refine k_skip ?_
    refine xs_then ?_
    refine k_block ?_
    refine k_seq ?_
    refine k_reg ?_
    refine s_lt (t_pure (.int .i64 (lo : Int))) ?_
    refine s_lt (t_pure (.int .i64 (hi : Int))) ?_
    refine s_lt (t_add (lo : Int) (hi : Int) (by (try simp only [List.length_nil, List.length_cons, List.length_append, List.length_take, List.length_drop, List.length_set, List.length_replicate, List.length_reverse]); omega)) ?_
    obtain ⟨md6, hmd7⟩ : ∃ m : Nat, m = (lo + hi) / 2 := ⟨_, rfl⟩
    refine s_lt (Lt.to (v' := .int .i64 (md6 : Int)) (t_quo ((lo : Int) + (hi : Int)) 2 (by decide) (by rw [half]; omega)) (by rw [half, ← hmd7])) ?_
    refine s_lt (t_pure (.int .i64 (md6 : Int))) ?_
    refine s_nil ?_
    refine xs_then ?_
    refine k_seq ?_
    refine k_reg ?_
    refine s_lt (t_pure (.pointer (some ⟨g1, 0, none⟩))) ?_
    refine s_lt (t_load 0 ov) ?_
    refine s_lt (t_pure (.int .i64 (md6 : Int))) ?_
    refine s_lt (t_index ObT_ok Try.underlying22 (.zn hg.obs) (md6 : Int) md6 (by omega) (by (try simp only [List.length_nil, List.length_cons, List.length_append, List.length_take, List.length_drop, List.length_set, List.length_replicate, List.length_reverse]); omega) (by omega)) ?_
    refine s_lt (t_pure (.pointer (some (elemAt ObT.size ov md6)))) ?_
    obtain ⟨y8, hy9⟩ : ∃ y, l[md6]? = some y := ⟨_, List.getElem?_eq_getElem (by (try simp only [List.length_nil, List.length_cons, List.length_append, List.length_take, List.length_drop, List.length_set, List.length_replicate, List.length_reverse]); omega)⟩
    have hk10 := hg.each y8 (List.mem_of_getElem? hy9)
    refine s_lt (t_loadF 0 ObT_ok (.zn hg.obs) hy9) ?_
    refine s_lt (t_pure (.int .i64 id)) ?_
    refine s_lt t_cmp ?_
    refine s_nil ?_
    refine xs_then ?_
    refine k_cond (decide (y8.id < id)) (fun c11 => ?_) (fun c11 => ?_)
    ·
      have p12 := of_decide_eq_true c11
      refine k_reg ?_
      refine s_lt (t_pure (.int .i64 (md6 : Int))) ?_
      refine s_lt (t_add (md6 : Int) 1 (by (try simp only [List.length_nil, List.length_cons, List.length_append, List.length_take, List.length_drop, List.length_set, List.length_replicate, List.length_reverse]); omega)) ?_
      refine s_lt (t_pure (.int .i64 ((md6 : Int) + 1))) ?_
      refine s_nil ?_
      refine xs_block ?_
      exact xs_round (md6 + 1, hi) (by show hi - (md6 + 1) < hi - lo; omega) (hi3.up (ids_asc hs) (ids_get hy9) (by omega) p12) (sub_of rfl ⟨⟨rfl, rfl⟩, ⟨⟨rfl, rfl⟩, ⟨⟨rfl, rfl⟩, ⟨⟨rfl, rfl⟩, ⟨⟨rfl, rfl⟩, trivial⟩⟩⟩⟩⟩) (fun _ h => h.re [0] [])
    ·
      have p13 := of_decide_eq_false c11
      refine k_reg ?_
      refine s_lt (t_pure (.int .i64 (md6 : Int))) ?_
      refine s_lt (t_pure (.int .i64 (md6 : Int))) ?_
      refine s_nil ?_
      refine xs_block ?_
      exact xs_round (lo, md6) (by show md6 - lo < hi - lo; omega) (hi3.down (ids_asc hs) (ids_get hy9) (by omega) p13) (sub_of rfl ⟨⟨rfl, rfl⟩, ⟨⟨rfl, rfl⟩, ⟨⟨rfl, rfl⟩, ⟨⟨rfl, rfl⟩, ⟨⟨rfl, rfl⟩, trivial⟩⟩⟩⟩⟩) (fun _ h => h.re [0] [])
  ·
    have p14 := of_decide_eq_false c4
    refine k_exit ?_
    refine xs_exit ?_
    refine xs_exit ?_
    refine xs_here ?_
    refine xs_then ?_
    refine k_seq ?_
    refine k_seq ?_
    refine k_reg ?_
    refine s_lt (t_pure (.int .i64 (lo : Int))) ?_
    refine s_lt (t_pure (.pointer (some ⟨g1, 0, none⟩))) ?_
    refine s_lt (t_load 0 ov) ?_
    refine s_lt (t_len ObT_ok Try.underlying22 (.zn hg.obs)) ?_
    refine s_lt t_cmp ?_
    refine s_lt (t_pure (.bool (decide ((lo : Int) < (l.length : Int))))) ?_
    refine s_fork 34 (decide ((lo : Int) < (l.length : Int))) (fun c15 => ?_) (fun c15 => ?_)
    ·
      have p16 := of_decide_eq_true c15
      refine s_lt (t_pure (.pointer (some ⟨g1, 0, none⟩))) ?_
      refine s_lt (t_load 0 ov) ?_
      refine s_lt (t_pure (.int .i64 (lo : Int))) ?_
      refine s_lt (t_index ObT_ok Try.underlying22 (.zn hg.obs) (lo : Int) lo (by omega) (by (try simp only [List.length_nil, List.length_cons, List.length_append, List.length_take, List.length_drop, List.length_set, List.length_replicate, List.length_reverse]); omega) (by omega)) ?_
      refine s_lt (t_pure (.pointer (some (elemAt ObT.size ov lo)))) ?_
      obtain ⟨y17, hy18⟩ : ∃ y, l[lo]? = some y := ⟨_, List.getElem?_eq_getElem (by (try simp only [List.length_nil, List.length_cons, List.length_append, List.length_take, List.length_drop, List.length_set, List.length_replicate, List.length_reverse]); omega)⟩
      have hk19 := hg.each y17 (List.mem_of_getElem? hy18)
      refine s_lt (t_loadF 0 ObT_ok (.zn hg.obs) hy18) ?_
      refine s_lt (t_pure (.int .i64 id)) ?_
      refine s_lt t_cmp ?_
      refine s_lt (t_pure (.bool (decide (y17.id = id)))) ?_
      refine s_nil ?_
      refine xs_then ?_
      refine k_cond (decide (y17.id = id)) (fun c20 => ?_) (fun c20 => ?_)
      ·
        have p21 := of_decide_eq_true c20
        refine k_seq ?_
        refine k_reg ?_
        refine s_lt (t_pure (.int .i64 (lo : Int))) ?_
        refine s_lt (t_pure (.int .i64 (lo : Int))) ?_
        refine s_nil ?_
        refine xs_then ?_
        refine k_ret ?_
        refine xs_ret ?_
        refine xs_fin [.int .i64 (lo : Int)] [] (SI.tmp 4 SI.nil) (fun _ h => h.re [] [0]) ⟨congrArg (Value.int .i64) ?_, rfl⟩
        rw [← p21]; exact (findI_some hs hy18).symm
      ·
        have p22 := of_decide_eq_false c20
        refine k_skip ?_
        refine xs_then ?_
        refine k_seq ?_
        refine k_reg ?_
        refine s_lt (t_pure (.int .i64 (-1))) ?_
        refine s_nil ?_
        refine xs_then ?_
        refine k_ret ?_
        refine xs_fin [.int .i64 (-1)] [] (SI.tmp 4 SI.nil) (fun _ h => h.re [] [0]) ⟨congrArg (Value.int .i64) ?_, rfl⟩
        refine (findI_none fun hm => ?_).symm
        have hx := hi3.found (ids_asc hs) (by omega) (ids_get hy18); rw [decide_eq_true hm] at hx; exact p22 (of_decide_eq_true hx)
    ·
      have p23 := of_decide_eq_false c15
      refine s_skip ?_
      refine s_skip ?_
      refine s_skip ?_
      refine s_skip ?_
      refine s_skip ?_
      refine s_skip ?_
      refine s_skip ?_
      refine s_skip ?_
      refine s_lt (t_pure (.bool false)) ?_
      refine s_nil ?_
      refine xs_then ?_
      refine k_false ?_
      refine k_skip ?_
      refine xs_then ?_
      refine k_seq ?_
      refine k_reg ?_
      refine s_lt (t_pure (.int .i64 (-1))) ?_
      refine s_nil ?_
      refine xs_then ?_
      refine k_ret ?_
      refine xs_fin [.int .i64 (-1)] [] (SI.tmp 4 SI.nil) (fun _ h => h.re [] [0]) ⟨congrArg (Value.int .i64) ?_, rfl⟩
      refine (findI_none fun hm => ?_).symm
      have hx := hi3.lost (ids_asc hs) (by omega) (by rw [List.length_map]; omega); rw [decide_eq_true hm] at hx; cases hx
theorem k_factH {P : Program} {w0 : World} {Q : Exit → Act → World → Prop} {n : Nat} {E : Env} {Z : Zone} {As : List Asr} {c : Code} {p : Heap → Prop} (hA : ∀ H, Holds Z As H → p H) (h : ∀ H, p H → SK P w0 c Q n E Z As) : SK P w0 c Q n E Z As := fun H hH => h H (hA H hH) H hH
theorem clone_s {Z : Zone} {lv : Value} {L : List Int} (hL : Kn Z iTy lv L) (hl : L.length ≤ 1000000) : SF Try.prog 33 #[lv] Z [] fun r Bs => Bs = [own iTy r L] := by
  refine sf_enter Try.func33 8 [(0, lv)] (fun w0 => ?_)
  refine k_factH (fun H h => hL.get h) (fun H0 hsl => ?_)
  refine k_seq ?_
  refine k_reg ?_
  refine s_lt (t_pure (.slice none 0 0)) ?_
  refine s_nil ?_
  refine xs_then ?_
  refine k_seq ?_
  refine k_seq ?_
  refine k_reg ?_
  refine s_lt (t_pure lv) ?_
  refine s_lt (t_nilS Try.underlying23 (.zn hL)) ?_
  refine s_nil ?_
  refine xs_then ?_
  refine k_cond (nilS lv) (fun c1 => ?_) (fun c1 => ?_)
  ·
    refine k_seq ?_
    refine k_reg ?_
    refine s_lt (t_pure (.slice none 0 0)) ?_
    refine s_nil ?_
    refine xs_then ?_
    refine k_ret ?_
    refine xs_ret ?_
    have hn : L = [] := (nilS_spec hsl c1).2
    exact xs_fin [(.slice none 0 0)] [own iTy (.slice none 0 0) L] (SI.tmp 2 SI.nil) (fun _ h => by rw [hn]; exact h.nilS.re [0] []) rfl
  ·
    refine k_skip ?_
    refine xs_then ?_
    refine k_seq ?_
    refine k_reg ?_
    refine s_buildSlice (e := 3) [] #[] (fun g2 => ?_) (hb := by kernel_rfl)
    refine s_lt (t_pure lv) ?_
    refine s_mem (fun _ h => Holds.slice 0 h iTy_ok []) ?_
    refine s_append (L := []) 0 iTy_ok Try.underlying23 (.zn hL) (by show _ * 8 ≤ _; (try simp only [List.length_nil, List.length_cons, List.length_append, List.length_take, List.length_drop, List.length_set, List.length_replicate, List.length_reverse]); omega) (by (try simp only [List.length_nil, List.length_cons, List.length_append, List.length_take, List.length_drop, List.length_set, List.length_replicate, List.length_reverse]); omega) (fun v3 => ?_)
    refine s_lt (t_pure v3) ?_
    refine s_nil ?_
    refine xs_then ?_
    refine k_ret ?_
    exact xs_fin [v3] [own iTy v3 L] (SI.tmp 2 SI.nil) (fun _ h => h.re [0] []) rfl
theorem check_s {Z : Zone} {ov rv : Value} {l : List Ob} {R : List Int} (hg : KnG Z ov rv l R) : SF Try.prog 26 #[.agg #[ov, rv]] Z [] fun r Bs => r = .int .i64 (errI (chk 0 l)) ∧ Bs = [] := by
  refine sf_enter Try.func26 35 [(0, .agg #[ov, rv])] (fun w0 => ?_)
  refine k_fact (fun H h => (hg.obs.get h).len_le) (fun lA => ?_)
  refine k_seq ?_
  refine k_reg ?_
  refine s_box #[ov, rv] (fun g1 => ?_)
  refine s_lt (t_pure (.int .i64 0)) ?_
  refine s_nil ?_
  refine xs_then ?_
  refine k_seq ?_
  refine k_reg ?_
  refine s_lt (t_pure (.int .i64 0)) ?_
  refine s_nil ?_
  refine xs_then ?_
  refine k_seq ?_
  refine k_seq ?_
  refine k_reg ?_
  refine s_lt (t_pure (.pointer (some ⟨g1, 0, none⟩))) ?_
  refine s_lt (t_load 0 ov) ?_
  refine s_lt (t_len ObT_ok Try.underlying22 (.zn hg.obs)) ?_
  refine s_lt (t_pure (.int .i64 0)) ?_
  refine s_nil ?_
  refine xs_then ?_
  refine k_block ?_
  refine k_loop (ι := Int × Nat) (fun (last, i) => i ≤ l.length ∧ chk 0 l = chk last (l.drop i) ∧ 0 ≤ last) (fun (last, i) => [(2, .int .i64 0), (3, .int .i64 last), (7, ov), (8, .int .i64 (l.length : Int)), (9, .int .i64 (i : Int))]) (fun (last, i) => [blkA g1 #[ov, rv] 25]) (fun (last, i) => l.length - i) (0, 0) ⟨Nat.zero_le _, rfl, Int.le_refl _⟩ (sub_of rfl ⟨⟨rfl, rfl⟩, ⟨⟨rfl, rfl⟩, ⟨⟨rfl, rfl⟩, ⟨⟨rfl, rfl⟩, ⟨⟨rfl, rfl⟩, trivial⟩⟩⟩⟩⟩) (fun _ h => h.re [0] []) ?_
  rintro ⟨last, i⟩ hi2
  replace hi2 : i ≤ l.length ∧ chk 0 l = chk last (l.drop i) ∧ 0 ≤ last := hi2
  show SK _ _ _ _ _ [(2, .int .i64 0), (3, .int .i64 last), (7, ov), (8, .int .i64 (l.length : Int)), (9, .int .i64 (i : Int))] _ [blkA g1 #[ov, rv] 25]
  refine k_seq ?_
  refine k_reg ?_
  refine s_lt t_cmp ?_
  refine s_nil ?_
  refine xs_then ?_
  refine k_seq ?_
  refine k_cond (decide ((i : Int) < (l.length : Int))) (fun c3 => ?_) (fun c3 => ?_)
  ·
    have p4 := of_decide_eq_true c3
    refine k_skip ?_
    refine xs_then ?_
    refine k_seq ?_
    refine k_block ?_
    refine k_seq ?_
    refine k_reg ?_
    refine s_lt (t_index ObT_ok Try.underlying22 (.zn hg.obs) (i : Int) i (by omega) (by (try simp only [List.length_nil, List.length_cons, List.length_append, List.length_take, List.length_drop, List.length_set, List.length_replicate, List.length_reverse]); omega) (by omega)) ?_
    obtain ⟨y5, hy6⟩ : ∃ y, l[i]? = some y := ⟨_, List.getElem?_eq_getElem (by (try simp only [List.length_nil, List.length_cons, List.length_append, List.length_take, List.length_drop, List.length_set, List.length_replicate, List.length_reverse]); omega)⟩
    have hk7 := hg.each y5 (List.mem_of_getElem? hy6)
    refine s_lt (t_loadE ObT_ok (.zn hg.obs) hy6) ?_
    refine s_alloc (.agg #[.int .i64 0, .int .i64 0, .int .i64 0, (.slice none 0 0), (.slice none 0 0)]) #[.int .i64 0, .int .i64 0, .int .i64 0, (.slice none 0 0), (.slice none 0 0)] (fun g8 => ?_)
    refine s_store 0 #[.int .i64 y5.id, .int .i64 y5.size, .int .i64 y5.weak, y5.rv.v, y5.ev.v] ?_
    refine s_nil ?_
    refine xs_then ?_
    refine k_seq ?_
    refine k_cut (ι := Unit) (fun _ => True) (fun _ => [(2, .int .i64 0), (3, .int .i64 last), (5, .pointer (some ⟨g8, 0, none⟩)), (7, ov), (8, .int .i64 (l.length : Int)), (9, .int .i64 (i : Int)), (10, .bool (decide ((i : Int) < (l.length : Int)))), (11, .pointer (some (elemAt ObT.size ov i))), (12, .agg #[.int .i64 y5.id, .int .i64 y5.size, .int .i64 y5.weak, y5.rv.v, y5.ev.v]), (13, .pointer (some ⟨g8, 0, none⟩)), (14, .int .i64 y5.id), (15, .int .i64 last), (16, .bool (decide (y5.id ≤ last))), (17, .bool (decide (y5.id ≤ last))), (21, .bool ((decide (y5.id ≤ last)) || (decide (y5.size < 0)))), (22, .bool ((decide (y5.id ≤ last)) || (decide (y5.size < 0)))), (26, .bool ((decide (y5.id ≤ last)) || ((decide (y5.size < 0)) || (decide (y5.weak < 0))))), (27, .bool ((decide (y5.id ≤ last)) || ((decide (y5.size < 0)) || (decide (y5.weak < 0))))), (31, .bool ((decide (y5.id ≤ last)) || ((decide (y5.size < 0)) || ((decide (y5.weak < 0)) || (decide ((3 : Int) < y5.weak))))))]) (fun _ => [blkA g8 #[.int .i64 y5.id, .int .i64 y5.size, .int .i64 y5.weak, y5.rv.v, y5.ev.v] 42, blkA g1 #[ov, rv] 25]) ?_ (fun _ _ => ?_)
    ·
      refine k_reg ?_
      refine s_lt (t_pure (.pointer (some ⟨g8, 0, none⟩))) ?_
      refine s_lt (t_load 0 (.int .i64 y5.id)) ?_
      refine s_lt (t_pure (.int .i64 last)) ?_
      refine s_lt t_cmp ?_
      refine s_lt (t_pure (.bool (decide (y5.id ≤ last)))) ?_
      refine s_fork 17 (decide (y5.id ≤ last)) (fun c9 => ?_) (fun c9 => ?_)
      ·
        have p10 := of_decide_eq_true c9
        refine s_skip ?_
        refine s_skip ?_
        refine s_skip ?_
        refine s_lt (t_pure (.bool true)) ?_
        refine s_lt (t_pure (.bool true)) ?_
        refine s_skip ?_
        refine s_skip ?_
        refine s_skip ?_
        refine s_lt (t_pure (.bool true)) ?_
        refine s_lt (t_pure (.bool true)) ?_
        refine s_skip ?_
        refine s_skip ?_
        refine s_skip ?_
        refine s_lt (t_pure (.bool true)) ?_
        refine s_nil ?_
        exact xs_cut () trivial (sub_of rfl ⟨⟨rfl, rfl⟩, ⟨⟨rfl, rfl⟩, ⟨⟨rfl, rfl⟩, ⟨⟨rfl, rfl⟩, ⟨⟨rfl, rfl⟩, ⟨⟨rfl, rfl⟩, ⟨⟨rfl, rfl⟩, ⟨⟨rfl, rfl⟩, ⟨⟨rfl, rfl⟩, ⟨⟨rfl, rfl⟩, ⟨⟨rfl, rfl⟩, ⟨⟨rfl, rfl⟩, ⟨⟨rfl, rfl⟩, ⟨⟨rfl, show Value.bool true = Value.bool (decide (y5.id ≤ last)) by first | (simp only [c9, Bool.true_and, Bool.false_and, Bool.and_true, Bool.and_false, Bool.true_or, Bool.or_true, Bool.false_or, Bool.or_false, Bool.not_true, Bool.not_false]; done) | simp [c9]⟩, ⟨⟨rfl, show Value.bool true = Value.bool ((decide (y5.id ≤ last)) || (decide (y5.size < 0))) by first | (simp only [c9, Bool.true_and, Bool.false_and, Bool.and_true, Bool.and_false, Bool.true_or, Bool.or_true, Bool.false_or, Bool.or_false, Bool.not_true, Bool.not_false]; done) | simp [c9]⟩, ⟨⟨rfl, show Value.bool true = Value.bool ((decide (y5.id ≤ last)) || (decide (y5.size < 0))) by first | (simp only [c9, Bool.true_and, Bool.false_and, Bool.and_true, Bool.and_false, Bool.true_or, Bool.or_true, Bool.false_or, Bool.or_false, Bool.not_true, Bool.not_false]; done) | simp [c9]⟩, ⟨⟨rfl, show Value.bool true = Value.bool ((decide (y5.id ≤ last)) || ((decide (y5.size < 0)) || (decide (y5.weak < 0)))) by first | (simp only [c9, Bool.true_and, Bool.false_and, Bool.and_true, Bool.and_false, Bool.true_or, Bool.or_true, Bool.false_or, Bool.or_false, Bool.not_true, Bool.not_false]; done) | simp [c9]⟩, ⟨⟨rfl, show Value.bool true = Value.bool ((decide (y5.id ≤ last)) || ((decide (y5.size < 0)) || (decide (y5.weak < 0)))) by first | (simp only [c9, Bool.true_and, Bool.false_and, Bool.and_true, Bool.and_false, Bool.true_or, Bool.or_true, Bool.false_or, Bool.or_false, Bool.not_true, Bool.not_false]; done) | simp [c9]⟩, ⟨⟨rfl, show Value.bool true = Value.bool ((decide (y5.id ≤ last)) || ((decide (y5.size < 0)) || ((decide (y5.weak < 0)) || (decide ((3 : Int) < y5.weak))))) by first | (simp only [c9, Bool.true_and, Bool.false_and, Bool.and_true, Bool.and_false, Bool.true_or, Bool.or_true, Bool.false_or, Bool.or_false, Bool.not_true, Bool.not_false]; done) | simp [c9]⟩, trivial⟩⟩⟩⟩⟩⟩⟩⟩⟩⟩⟩⟩⟩⟩⟩⟩⟩⟩⟩) (fun _ h => h.re [0, 0] [])
      ·
        have p11 := of_decide_eq_false c9
        refine s_lt (t_pure (.pointer (some ⟨g8, 1, none⟩))) ?_
        refine s_lt (t_load 0 (.int .i64 y5.size)) ?_
        refine s_lt t_cmp ?_
        refine s_lt (t_pure (.bool (decide (y5.size < 0)))) ?_
        refine s_lt (t_pure (.bool (decide (y5.size < 0)))) ?_
        refine s_fork 22 (decide (y5.size < 0)) (fun c12 => ?_) (fun c12 => ?_)
        ·
          have p13 := of_decide_eq_true c12
          refine s_skip ?_
          refine s_skip ?_
          refine s_skip ?_
          refine s_lt (t_pure (.bool true)) ?_
          refine s_lt (t_pure (.bool true)) ?_
          refine s_skip ?_
          refine s_skip ?_
          refine s_skip ?_
          refine s_lt (t_pure (.bool true)) ?_
          refine s_nil ?_
          exact xs_cut () trivial (sub_of rfl ⟨⟨rfl, rfl⟩, ⟨⟨rfl, rfl⟩, ⟨⟨rfl, rfl⟩, ⟨⟨rfl, rfl⟩, ⟨⟨rfl, rfl⟩, ⟨⟨rfl, rfl⟩, ⟨⟨rfl, rfl⟩, ⟨⟨rfl, rfl⟩, ⟨⟨rfl, rfl⟩, ⟨⟨rfl, rfl⟩, ⟨⟨rfl, rfl⟩, ⟨⟨rfl, rfl⟩, ⟨⟨rfl, rfl⟩, ⟨⟨rfl, show Value.bool false = Value.bool (decide (y5.id ≤ last)) by first | (simp only [c9, c12, Bool.true_and, Bool.false_and, Bool.and_true, Bool.and_false, Bool.true_or, Bool.or_true, Bool.false_or, Bool.or_false, Bool.not_true, Bool.not_false]; done) | simp [c9, c12]⟩, ⟨⟨rfl, show Value.bool (decide (y5.size < 0)) = Value.bool ((decide (y5.id ≤ last)) || (decide (y5.size < 0))) by first | (simp only [c9, c12, Bool.true_and, Bool.false_and, Bool.and_true, Bool.and_false, Bool.true_or, Bool.or_true, Bool.false_or, Bool.or_false, Bool.not_true, Bool.not_false]; done) | simp [c9, c12]⟩, ⟨⟨rfl, show Value.bool true = Value.bool ((decide (y5.id ≤ last)) || (decide (y5.size < 0))) by first | (simp only [c9, c12, Bool.true_and, Bool.false_and, Bool.and_true, Bool.and_false, Bool.true_or, Bool.or_true, Bool.false_or, Bool.or_false, Bool.not_true, Bool.not_false]; done) | simp [c9, c12]⟩, ⟨⟨rfl, show Value.bool true = Value.bool ((decide (y5.id ≤ last)) || ((decide (y5.size < 0)) || (decide (y5.weak < 0)))) by first | (simp only [c9, c12, Bool.true_and, Bool.false_and, Bool.and_true, Bool.and_false, Bool.true_or, Bool.or_true, Bool.false_or, Bool.or_false, Bool.not_true, Bool.not_false]; done) | simp [c9, c12]⟩, ⟨⟨rfl, show Value.bool true = Value.bool ((decide (y5.id ≤ last)) || ((decide (y5.size < 0)) || (decide (y5.weak < 0)))) by first | (simp only [c9, c12, Bool.true_and, Bool.false_and, Bool.and_true, Bool.and_false, Bool.true_or, Bool.or_true, Bool.false_or, Bool.or_false, Bool.not_true, Bool.not_false]; done) | simp [c9, c12]⟩, ⟨⟨rfl, show Value.bool true = Value.bool ((decide (y5.id ≤ last)) || ((decide (y5.size < 0)) || ((decide (y5.weak < 0)) || (decide ((3 : Int) < y5.weak))))) by first | (simp only [c9, c12, Bool.true_and, Bool.false_and, Bool.and_true, Bool.and_false, Bool.true_or, Bool.or_true, Bool.false_or, Bool.or_false, Bool.not_true, Bool.not_false]; done) | simp [c9, c12]⟩, trivial⟩⟩⟩⟩⟩⟩⟩⟩⟩⟩⟩⟩⟩⟩⟩⟩⟩⟩⟩) (fun _ h => h.re [0, 0] [])
        ·
          have p14 := of_decide_eq_false c12
          refine s_lt (t_pure (.pointer (some ⟨g8, 2, none⟩))) ?_
          refine s_lt (t_load 0 (.int .i64 y5.weak)) ?_
          refine s_lt t_cmp ?_
          refine s_lt (t_pure (.bool (decide (y5.weak < 0)))) ?_
          refine s_lt (t_pure (.bool (decide (y5.weak < 0)))) ?_
          refine s_fork 27 (decide (y5.weak < 0)) (fun c15 => ?_) (fun c15 => ?_)
          ·
            have p16 := of_decide_eq_true c15
            refine s_skip ?_
            refine s_skip ?_
            refine s_skip ?_
            refine s_lt (t_pure (.bool true)) ?_
            refine s_nil ?_
            exact xs_cut () trivial (sub_of rfl ⟨⟨rfl, rfl⟩, ⟨⟨rfl, rfl⟩, ⟨⟨rfl, rfl⟩, ⟨⟨rfl, rfl⟩, ⟨⟨rfl, rfl⟩, ⟨⟨rfl, rfl⟩, ⟨⟨rfl, rfl⟩, ⟨⟨rfl, rfl⟩, ⟨⟨rfl, rfl⟩, ⟨⟨rfl, rfl⟩, ⟨⟨rfl, rfl⟩, ⟨⟨rfl, rfl⟩, ⟨⟨rfl, rfl⟩, ⟨⟨rfl, show Value.bool false = Value.bool (decide (y5.id ≤ last)) by first | (simp only [c9, c12, c15, Bool.true_and, Bool.false_and, Bool.and_true, Bool.and_false, Bool.true_or, Bool.or_true, Bool.false_or, Bool.or_false, Bool.not_true, Bool.not_false]; done) | simp [c9, c12, c15]⟩, ⟨⟨rfl, show Value.bool (decide (y5.size < 0)) = Value.bool ((decide (y5.id ≤ last)) || (decide (y5.size < 0))) by first | (simp only [c9, c12, c15, Bool.true_and, Bool.false_and, Bool.and_true, Bool.and_false, Bool.true_or, Bool.or_true, Bool.false_or, Bool.or_false, Bool.not_true, Bool.not_false]; done) | simp [c9, c12, c15]⟩, ⟨⟨rfl, show Value.bool false = Value.bool ((decide (y5.id ≤ last)) || (decide (y5.size < 0))) by first | (simp only [c9, c12, c15, Bool.true_and, Bool.false_and, Bool.and_true, Bool.and_false, Bool.true_or, Bool.or_true, Bool.false_or, Bool.or_false, Bool.not_true, Bool.not_false]; done) | simp [c9, c12, c15]⟩, ⟨⟨rfl, show Value.bool (decide (y5.weak < 0)) = Value.bool ((decide (y5.id ≤ last)) || ((decide (y5.size < 0)) || (decide (y5.weak < 0)))) by first | (simp only [c9, c12, c15, Bool.true_and, Bool.false_and, Bool.and_true, Bool.and_false, Bool.true_or, Bool.or_true, Bool.false_or, Bool.or_false, Bool.not_true, Bool.not_false]; done) | simp [c9, c12, c15]⟩, ⟨⟨rfl, show Value.bool true = Value.bool ((decide (y5.id ≤ last)) || ((decide (y5.size < 0)) || (decide (y5.weak < 0)))) by first | (simp only [c9, c12, c15, Bool.true_and, Bool.false_and, Bool.and_true, Bool.and_false, Bool.true_or, Bool.or_true, Bool.false_or, Bool.or_false, Bool.not_true, Bool.not_false]; done) | simp [c9, c12, c15]⟩, ⟨⟨rfl, show Value.bool true = Value.bool ((decide (y5.id ≤ last)) || ((decide (y5.size < 0)) || ((decide (y5.weak < 0)) || (decide ((3 : Int) < y5.weak))))) by first | (simp only [c9, c12, c15, Bool.true_and, Bool.false_and, Bool.and_true, Bool.and_false, Bool.true_or, Bool.or_true, Bool.false_or, Bool.or_false, Bool.not_true, Bool.not_false]; done) | simp [c9, c12, c15]⟩, trivial⟩⟩⟩⟩⟩⟩⟩⟩⟩⟩⟩⟩⟩⟩⟩⟩⟩⟩⟩) (fun _ h => h.re [0, 0] [])
          ·
            have p17 := of_decide_eq_false c15
            refine s_lt (t_pure (.pointer (some ⟨g8, 2, none⟩))) ?_
            refine s_lt (t_load 0 (.int .i64 y5.weak)) ?_
            refine s_lt t_cmp ?_
            refine s_lt (t_pure (.bool (decide ((3 : Int) < y5.weak)))) ?_
            refine s_nil ?_
            exact xs_cut () trivial (sub_of rfl ⟨⟨rfl, rfl⟩, ⟨⟨rfl, rfl⟩, ⟨⟨rfl, rfl⟩, ⟨⟨rfl, rfl⟩, ⟨⟨rfl, rfl⟩, ⟨⟨rfl, rfl⟩, ⟨⟨rfl, rfl⟩, ⟨⟨rfl, rfl⟩, ⟨⟨rfl, rfl⟩, ⟨⟨rfl, rfl⟩, ⟨⟨rfl, rfl⟩, ⟨⟨rfl, rfl⟩, ⟨⟨rfl, rfl⟩, ⟨⟨rfl, show Value.bool false = Value.bool (decide (y5.id ≤ last)) by first | (simp only [c9, c12, c15, Bool.true_and, Bool.false_and, Bool.and_true, Bool.and_false, Bool.true_or, Bool.or_true, Bool.false_or, Bool.or_false, Bool.not_true, Bool.not_false]; done) | simp [c9, c12, c15]⟩, ⟨⟨rfl, show Value.bool (decide (y5.size < 0)) = Value.bool ((decide (y5.id ≤ last)) || (decide (y5.size < 0))) by first | (simp only [c9, c12, c15, Bool.true_and, Bool.false_and, Bool.and_true, Bool.and_false, Bool.true_or, Bool.or_true, Bool.false_or, Bool.or_false, Bool.not_true, Bool.not_false]; done) | simp [c9, c12, c15]⟩, ⟨⟨rfl, show Value.bool false = Value.bool ((decide (y5.id ≤ last)) || (decide (y5.size < 0))) by first | (simp only [c9, c12, c15, Bool.true_and, Bool.false_and, Bool.and_true, Bool.and_false, Bool.true_or, Bool.or_true, Bool.false_or, Bool.or_false, Bool.not_true, Bool.not_false]; done) | simp [c9, c12, c15]⟩, ⟨⟨rfl, show Value.bool (decide (y5.weak < 0)) = Value.bool ((decide (y5.id ≤ last)) || ((decide (y5.size < 0)) || (decide (y5.weak < 0)))) by first | (simp only [c9, c12, c15, Bool.true_and, Bool.false_and, Bool.and_true, Bool.and_false, Bool.true_or, Bool.or_true, Bool.false_or, Bool.or_false, Bool.not_true, Bool.not_false]; done) | simp [c9, c12, c15]⟩, ⟨⟨rfl, show Value.bool false = Value.bool ((decide (y5.id ≤ last)) || ((decide (y5.size < 0)) || (decide (y5.weak < 0)))) by first | (simp only [c9, c12, c15, Bool.true_and, Bool.false_and, Bool.and_true, Bool.and_false, Bool.true_or, Bool.or_true, Bool.false_or, Bool.or_false, Bool.not_true, Bool.not_false]; done) | simp [c9, c12, c15]⟩, ⟨⟨rfl, show Value.bool (decide ((3 : Int) < y5.weak)) = Value.bool ((decide (y5.id ≤ last)) || ((decide (y5.size < 0)) || ((decide (y5.weak < 0)) || (decide ((3 : Int) < y5.weak))))) by first | (simp only [c9, c12, c15, Bool.true_and, Bool.false_and, Bool.and_true, Bool.and_false, Bool.true_or, Bool.or_true, Bool.false_or, Bool.or_false, Bool.not_true, Bool.not_false]; done) | simp [c9, c12, c15]⟩, trivial⟩⟩⟩⟩⟩⟩⟩⟩⟩⟩⟩⟩⟩⟩⟩⟩⟩⟩⟩) (fun _ h => h.re [0, 0] [])
    ·
      refine k_cond ((decide (y5.id ≤ last)) || ((decide (y5.size < 0)) || ((decide (y5.weak < 0)) || (decide ((3 : Int) < y5.weak))))) (fun c18 => ?_) (fun c18 => ?_)
      ·
        have p19 := c18
        simp only [Bool.and_eq_true, Bool.or_eq_true, Bool.and_eq_false_iff, Bool.or_eq_false_iff, Bool.not_eq_true', Bool.not_eq_false', decide_eq_true_eq, decide_eq_false_iff_not] at p19
        refine k_seq ?_
        refine k_reg ?_
        refine s_lt (t_pure (.int .i64 2)) ?_
        refine s_nil ?_
        refine xs_then ?_
        refine k_ret ?_
        refine xs_ret ?_
        refine xs_retBlock ?_
        refine xs_ret ?_
        refine xs_ret ?_
        refine xs_retBlock ?_
        refine xs_ret ?_
        refine xs_fin [.int .i64 2] [] (SI.tmp 2 SI.nil) (fun _ h => h.re [] [0, 0]) ⟨congrArg (Value.int .i64) ?_, rfl⟩
        rw [hi2.2.1, chk_drop hy6]; simp only [errI]; rw [if_neg]; simp only [Bool.and_eq_true, Bool.not_eq_true', Bool.or_eq_false_iff, decide_eq_false_iff_not]; omega
      ·
        obtain ⟨c20, c21⟩ := or_f c18
        have p22 := of_decide_eq_false c20
        obtain ⟨c23, c24⟩ := or_f c21
        have p25 := of_decide_eq_false c23
        obtain ⟨c26, c27⟩ := or_f c24
        have p28 := of_decide_eq_false c26
        have p29 := of_decide_eq_false c27
        refine k_skip ?_
        refine xs_then ?_
        refine k_reg ?_
        refine s_lt (t_pure (.pointer (some ⟨g8, 0, none⟩))) ?_
        refine s_lt (t_load 0 (.int .i64 y5.id)) ?_
        refine s_lt (t_pure (.int .i64 y5.id)) ?_
        refine s_nil ?_
        refine xs_block ?_
        refine xs_then ?_
        refine k_reg ?_
        refine s_lt (t_add (i : Int) 1 (by (try simp only [List.length_nil, List.length_cons, List.length_append, List.length_take, List.length_drop, List.length_set, List.length_replicate, List.length_reverse]); omega)) ?_
        refine s_lt (t_pure (.int .i64 ((i : Int) + 1))) ?_
        refine s_nil ?_
        exact xs_round (y5.id, i + 1) (by show l.length - (i + 1) < l.length - i; omega) (by obtain ⟨hi1, hi2, hi3⟩ := hi2; have hd := chk_drop (last := last) hy6; refine ⟨by omega, ?_, by omega⟩; rw [hi2, hd, decide_eq_false (by omega), decide_eq_false (by omega), decide_eq_false (by omega), decide_eq_false (by omega)]; rfl) (sub_of rfl ⟨⟨rfl, rfl⟩, ⟨⟨rfl, rfl⟩, ⟨⟨rfl, rfl⟩, ⟨⟨rfl, rfl⟩, ⟨⟨rfl, rfl⟩, trivial⟩⟩⟩⟩⟩) (fun _ h => h.re [1] [1])
  ·
    have p30 := of_decide_eq_false c3
    refine k_exit ?_
    refine xs_exit ?_
    refine xs_exit ?_
    refine xs_here ?_
    refine xs_then ?_
    refine k_seq ?_
    refine k_reg ?_
    refine s_lt (t_pure (.int .i64 0)) ?_
    refine s_nil ?_
    refine xs_then ?_
    refine k_ret ?_
    refine xs_fin [.int .i64 0] [] (SI.tmp 2 SI.nil) (fun _ h => h.re [] [0]) ⟨congrArg (Value.int .i64) ?_, rfl⟩
    rw [hi2.2.1, List.drop_of_length_le (by omega)]; rfl
theorem rcheck_s {Z : Zone} {ov rv : Value} {l : List Ob} {R : List Int} (hg : KnG Z ov rv l R) : SF Try.prog 31 #[.agg #[ov, rv]] Z [] fun r Bs => r = .int .i64 (errI (chk 0 l)) ∧ Bs = [] := by
  refine sf_enter Try.func31 51 [(0, .agg #[ov, rv])] (fun w0 => ?_)
  refine k_fact (fun H h => (hg.obs.get h).len_le) (fun lA => ?_)
  refine k_seq ?_
  refine k_reg ?_
  refine s_box #[ov, rv] (fun g1 => ?_)
  refine s_lt (t_pure (.int .i64 0)) ?_
  refine s_nil ?_
  refine xs_then ?_
  refine k_seq ?_
  refine k_seq ?_
  refine k_reg ?_
  refine s_lt (t_pure (.int .i64 0)) ?_
  refine s_nil ?_
  refine xs_then ?_
  refine k_block ?_
  refine k_loop (ι := Int × Nat) (fun (last, i) => i ≤ l.length ∧ chk 0 l = chk last (l.drop i) ∧ 0 ≤ last ∧ last = (if i = 0 then 0 else ((l.map Ob.id)[i - 1]?).getD 0)) (fun (last, i) => [(1, .pointer (some ⟨g1, 0, none⟩)), (2, .int .i64 0), (3, .int .i64 (i : Int))]) (fun (last, i) => [blkA g1 #[ov, rv] 25]) (fun (last, i) => l.length - i) (0, 0) ⟨Nat.zero_le _, rfl, Int.le_refl _, rfl⟩ (sub_of rfl ⟨⟨rfl, rfl⟩, ⟨⟨rfl, rfl⟩, ⟨⟨rfl, rfl⟩, trivial⟩⟩⟩) (fun _ h => h.re [0] []) ?_
  rintro ⟨last, i⟩ hi2
  replace hi2 : i ≤ l.length ∧ chk 0 l = chk last (l.drop i) ∧ 0 ≤ last ∧ last = (if i = 0 then 0 else ((l.map Ob.id)[i - 1]?).getD 0) := hi2
  show SK _ _ _ _ _ [(1, .pointer (some ⟨g1, 0, none⟩)), (2, .int .i64 0), (3, .int .i64 (i : Int))] _ [blkA g1 #[ov, rv] 25]
  obtain ⟨hj1, hj2, hj3, hj4⟩ := id hi2
  refine k_seq ?_
  refine k_seq ?_
  refine k_reg ?_
  refine s_lt (t_pure (.int .i64 (i : Int))) ?_
  refine s_lt (t_pure (.pointer (some ⟨g1, 0, none⟩))) ?_
  refine s_lt (t_load 0 ov) ?_
  refine s_lt (t_len ObT_ok Try.underlying22 (.zn hg.obs)) ?_
  refine s_lt t_cmp ?_
  refine s_nil ?_
  refine xs_then ?_
  refine k_cond (decide ((i : Int) < (l.length : Int))) (fun c3 => ?_) (fun c3 => ?_)
  ·
    have p4 := of_decide_eq_true c3
    refine k_skip ?_
    refine xs_then ?_
    refine k_seq ?_
    refine k_block ?_
    refine k_seq ?_
    refine k_reg ?_
    refine s_lt (t_pure (.pointer (some ⟨g1, 0, none⟩))) ?_
    refine s_lt (t_load 0 ov) ?_
    refine s_lt (t_pure (.int .i64 (i : Int))) ?_
    refine s_lt (t_index ObT_ok Try.underlying22 (.zn hg.obs) (i : Int) i (by omega) (by (try simp only [List.length_nil, List.length_cons, List.length_append, List.length_take, List.length_drop, List.length_set, List.length_replicate, List.length_reverse]); omega) (by omega)) ?_
    obtain ⟨y5, hy6⟩ : ∃ y, l[i]? = some y := ⟨_, List.getElem?_eq_getElem (by (try simp only [List.length_nil, List.length_cons, List.length_append, List.length_take, List.length_drop, List.length_set, List.length_replicate, List.length_reverse]); omega)⟩
    have hk7 := hg.each y5 (List.mem_of_getElem? hy6)
    refine s_lt (t_loadE ObT_ok (.zn hg.obs) hy6) ?_
    refine s_alloc (.agg #[.int .i64 0, .int .i64 0, .int .i64 0, (.slice none 0 0), (.slice none 0 0)]) #[.int .i64 0, .int .i64 0, .int .i64 0, (.slice none 0 0), (.slice none 0 0)] (fun g8 => ?_)
    refine s_store 0 #[.int .i64 y5.id, .int .i64 y5.size, .int .i64 y5.weak, y5.rv.v, y5.ev.v] ?_
    refine s_nil ?_
    refine xs_then ?_
    refine k_seq ?_
    refine k_draw ?_
    refine s_lt (t_pure (.pointer (some ⟨g8, 0, none⟩))) ?_
    refine s_lt (t_load 0 (.int .i64 y5.id)) ?_
    refine s_lt t_cmp ?_
    refine s_lt (t_pure (.bool (decide (y5.id < 1)))) ?_
    refine s_fork 20 (decide (y5.id < 1)) (fun c9 => ?_) (fun c9 => ?_)
    ·
      have p10 := of_decide_eq_true c9
      refine s_skip ?_
      refine s_skip ?_
      refine s_skip ?_
      refine s_skip ?_
      refine s_skip ?_
      refine s_skip ?_
      refine s_skip ?_
      refine s_skip ?_
      refine s_skip ?_
      refine s_skip ?_
      refine s_skip ?_
      refine s_skip ?_
      refine s_skip ?_
      refine s_skip ?_
      refine s_lt (t_pure (.bool true)) ?_
      refine s_lt (t_pure (.bool true)) ?_
      refine s_skip ?_
      refine s_skip ?_
      refine s_skip ?_
      refine s_lt (t_pure (.bool true)) ?_
      refine s_lt (t_pure (.bool true)) ?_
      refine s_skip ?_
      refine s_skip ?_
      refine s_skip ?_
      refine s_lt (t_pure (.bool true)) ?_
      refine s_lt (t_pure (.bool true)) ?_
      refine s_skip ?_
      refine s_skip ?_
      refine s_skip ?_
      refine s_lt (t_pure (.bool true)) ?_
      refine s_nil ?_
      refine x_dynS (fun _ h => by kernel_rfl) ?_
      refine xs_then ?_
      refine k_true ?_
      refine k_seq ?_
      refine k_reg ?_
      refine s_lt (t_pure (.int .i64 2)) ?_
      refine s_nil ?_
      refine xs_then ?_
      refine k_ret ?_
      refine xs_retBlock ?_
      refine xs_ret ?_
      refine xs_ret ?_
      refine xs_retBlock ?_
      refine xs_ret ?_
      refine xs_fin [.int .i64 2] [] (SI.tmp 2 SI.nil) (fun _ h => h.re [] [0, 0]) ⟨congrArg (Value.int .i64) ?_, rfl⟩
      rw [hi2.2.1, chk_drop hy6]; first | (rw [decide_eq_true (p := y5.id ≤ last) (by have := hi2.2.2; first | omega | (rw [hi2.2.2.2]; rw [if_pos (by omega)]; omega))]; rfl) | (simp only [errI]; rw [if_neg]; simp only [Bool.and_eq_true, Bool.not_eq_true', Bool.or_eq_false_iff, decide_eq_false_iff_not]; omega)
    ·
      have p11 := of_decide_eq_false c9
      refine s_lt (t_pure (.int .i64 (i : Int))) ?_
      refine s_lt t_cmp ?_
      refine s_lt (t_pure (.bool (decide ((0 : Int) < (i : Int))))) ?_
      refine s_fork 23 (decide ((0 : Int) < (i : Int))) (fun c12 => ?_) (fun c12 => ?_)
      ·
        have p13 := of_decide_eq_true c12
        refine s_lt (t_pure (.pointer (some ⟨g8, 0, none⟩))) ?_
        refine s_lt (t_load 0 (.int .i64 y5.id)) ?_
        refine s_lt (t_pure (.pointer (some ⟨g1, 0, none⟩))) ?_
        refine s_lt (t_load 1 ov) ?_
        refine s_lt (t_pure (.int .i64 (i : Int))) ?_
        refine s_lt (t_sub (i : Int) 1 (by (try simp only [List.length_nil, List.length_cons, List.length_append, List.length_take, List.length_drop, List.length_set, List.length_replicate, List.length_reverse]); omega)) ?_
        refine s_lt (t_index ObT_ok Try.underlying22 (.zn hg.obs) ((i : Int) - 1) (i - 1) (by omega) (by (try simp only [List.length_nil, List.length_cons, List.length_append, List.length_take, List.length_drop, List.length_set, List.length_replicate, List.length_reverse]); omega) (by omega)) ?_
        refine s_lt (t_pure (.pointer (some (elemAt ObT.size ov (i - 1))))) ?_
        obtain ⟨y14, hy15⟩ : ∃ y, l[(i - 1)]? = some y := ⟨_, List.getElem?_eq_getElem (by (try simp only [List.length_nil, List.length_cons, List.length_append, List.length_take, List.length_drop, List.length_set, List.length_replicate, List.length_reverse]); omega)⟩
        have hk16 := hg.each y14 (List.mem_of_getElem? hy15)
        have hq : last = y14.id := by rw [hj4, if_neg (by omega), ids_get hy15]; rfl
        refine s_lt (t_loadF 0 ObT_ok (.zn hg.obs) hy15) ?_
        refine s_lt t_cmp ?_
        refine s_lt (t_pure (.bool (decide (y5.id ≤ y14.id)))) ?_
        refine s_lt (t_pure (.bool (decide (y5.id ≤ y14.id)))) ?_
        refine s_lt (t_pure (.bool (decide (y5.id ≤ y14.id)))) ?_
        refine s_fork 36 (decide (y5.id ≤ y14.id)) (fun c17 => ?_) (fun c17 => ?_)
        ·
          have p18 := of_decide_eq_true c17
          refine s_skip ?_
          refine s_skip ?_
          refine s_skip ?_
          refine s_lt (t_pure (.bool true)) ?_
          refine s_lt (t_pure (.bool true)) ?_
          refine s_skip ?_
          refine s_skip ?_
          refine s_skip ?_
          refine s_lt (t_pure (.bool true)) ?_
          refine s_lt (t_pure (.bool true)) ?_
          refine s_skip ?_
          refine s_skip ?_
          refine s_skip ?_
          refine s_lt (t_pure (.bool true)) ?_
          refine s_nil ?_
          refine x_dynS (fun _ h => by kernel_rfl) ?_
          refine xs_then ?_
          refine k_true ?_
          refine k_seq ?_
          refine k_reg ?_
          refine s_lt (t_pure (.int .i64 2)) ?_
          refine s_nil ?_
          refine xs_then ?_
          refine k_ret ?_
          refine xs_retBlock ?_
          refine xs_ret ?_
          refine xs_ret ?_
          refine xs_retBlock ?_
          refine xs_ret ?_
          refine xs_fin [.int .i64 2] [] (SI.tmp 2 SI.nil) (fun _ h => h.re [] [0, 0]) ⟨congrArg (Value.int .i64) ?_, rfl⟩
          rw [hi2.2.1, chk_drop hy6]; first | (rw [decide_eq_true (p := y5.id ≤ last) (by have := hi2.2.2; first | omega | (rw [hi2.2.2.2]; rw [if_pos (by omega)]; omega))]; rfl) | (simp only [errI]; rw [if_neg]; simp only [Bool.and_eq_true, Bool.not_eq_true', Bool.or_eq_false_iff, decide_eq_false_iff_not]; omega)
        ·
          have p19 := of_decide_eq_false c17
          refine s_lt (t_pure (.pointer (some ⟨g8, 1, none⟩))) ?_
          refine s_lt (t_load 0 (.int .i64 y5.size)) ?_
          refine s_lt t_cmp ?_
          refine s_lt (t_pure (.bool (decide (y5.size < 0)))) ?_
          refine s_lt (t_pure (.bool (decide (y5.size < 0)))) ?_
          refine s_fork 41 (decide (y5.size < 0)) (fun c20 => ?_) (fun c20 => ?_)
          ·
            have p21 := of_decide_eq_true c20
            refine s_skip ?_
            refine s_skip ?_
            refine s_skip ?_
            refine s_lt (t_pure (.bool true)) ?_
            refine s_lt (t_pure (.bool true)) ?_
            refine s_skip ?_
            refine s_skip ?_
            refine s_skip ?_
            refine s_lt (t_pure (.bool true)) ?_
            refine s_nil ?_
            refine x_dynS (fun _ h => by kernel_rfl) ?_
            refine xs_then ?_
            refine k_true ?_
            refine k_seq ?_
            refine k_reg ?_
            refine s_lt (t_pure (.int .i64 2)) ?_
            refine s_nil ?_
            refine xs_then ?_
            refine k_ret ?_
            refine xs_retBlock ?_
            refine xs_ret ?_
            refine xs_ret ?_
            refine xs_retBlock ?_
            refine xs_ret ?_
            refine xs_fin [.int .i64 2] [] (SI.tmp 2 SI.nil) (fun _ h => h.re [] [0, 0]) ⟨congrArg (Value.int .i64) ?_, rfl⟩
            rw [hi2.2.1, chk_drop hy6]; first | (rw [decide_eq_true (p := y5.id ≤ last) (by have := hi2.2.2; first | omega | (rw [hi2.2.2.2]; rw [if_pos (by omega)]; omega))]; rfl) | (simp only [errI]; rw [if_neg]; simp only [Bool.and_eq_true, Bool.not_eq_true', Bool.or_eq_false_iff, decide_eq_false_iff_not]; omega)
          ·
            have p22 := of_decide_eq_false c20
            refine s_lt (t_pure (.pointer (some ⟨g8, 2, none⟩))) ?_
            refine s_lt (t_load 0 (.int .i64 y5.weak)) ?_
            refine s_lt t_cmp ?_
            refine s_lt (t_pure (.bool (decide (y5.weak < 0)))) ?_
            refine s_lt (t_pure (.bool (decide (y5.weak < 0)))) ?_
            refine s_fork 46 (decide (y5.weak < 0)) (fun c23 => ?_) (fun c23 => ?_)
            ·
              have p24 := of_decide_eq_true c23
              refine s_skip ?_
              refine s_skip ?_
              refine s_skip ?_
              refine s_lt (t_pure (.bool true)) ?_
              refine s_nil ?_
              refine x_dynS (fun _ h => by kernel_rfl) ?_
              refine xs_then ?_
              refine k_true ?_
              refine k_seq ?_
              refine k_reg ?_
              refine s_lt (t_pure (.int .i64 2)) ?_
              refine s_nil ?_
              refine xs_then ?_
              refine k_ret ?_
              refine xs_retBlock ?_
              refine xs_ret ?_
              refine xs_ret ?_
              refine xs_retBlock ?_
              refine xs_ret ?_
              refine xs_fin [.int .i64 2] [] (SI.tmp 2 SI.nil) (fun _ h => h.re [] [0, 0]) ⟨congrArg (Value.int .i64) ?_, rfl⟩
              rw [hi2.2.1, chk_drop hy6]; first | (rw [decide_eq_true (p := y5.id ≤ last) (by have := hi2.2.2; first | omega | (rw [hi2.2.2.2]; rw [if_pos (by omega)]; omega))]; rfl) | (simp only [errI]; rw [if_neg]; simp only [Bool.and_eq_true, Bool.not_eq_true', Bool.or_eq_false_iff, decide_eq_false_iff_not]; omega)
            ·
              have p25 := of_decide_eq_false c23
              refine s_lt (t_pure (.pointer (some ⟨g8, 2, none⟩))) ?_
              refine s_lt (t_load 0 (.int .i64 y5.weak)) ?_
              refine s_lt t_cmp ?_
              refine s_lt (t_pure (.bool (decide ((3 : Int) < y5.weak)))) ?_
              refine s_nil ?_
              refine x_dynS (fun _ h => by kernel_rfl) ?_
              refine xs_then ?_
              refine k_cond (decide ((3 : Int) < y5.weak)) (fun c26 => ?_) (fun c26 => ?_)
              ·
                have p27 := of_decide_eq_true c26
                refine k_seq ?_
                refine k_reg ?_
                refine s_lt (t_pure (.int .i64 2)) ?_
                refine s_nil ?_
                refine xs_then ?_
                refine k_ret ?_
                refine xs_retBlock ?_
                refine xs_ret ?_
                refine xs_ret ?_
                refine xs_retBlock ?_
                refine xs_ret ?_
                refine xs_fin [.int .i64 2] [] (SI.tmp 2 SI.nil) (fun _ h => h.re [] [0, 0]) ⟨congrArg (Value.int .i64) ?_, rfl⟩
                rw [hi2.2.1, chk_drop hy6]; first | (rw [decide_eq_true (p := y5.id ≤ last) (by have := hi2.2.2; first | omega | (rw [hi2.2.2.2]; rw [if_pos (by omega)]; omega))]; rfl) | (simp only [errI]; rw [if_neg]; simp only [Bool.and_eq_true, Bool.not_eq_true', Bool.or_eq_false_iff, decide_eq_false_iff_not]; omega)
              ·
                have p28 := of_decide_eq_false c26
                refine k_skip ?_
                refine xs_block ?_
                refine xs_then ?_
                refine k_reg ?_
                refine s_lt (t_pure (.int .i64 (i : Int))) ?_
                refine s_lt (t_add (i : Int) 1 (by (try simp only [List.length_nil, List.length_cons, List.length_append, List.length_take, List.length_drop, List.length_set, List.length_replicate, List.length_reverse]); omega)) ?_
                refine s_lt (t_pure (.int .i64 ((i : Int) + 1))) ?_
                refine s_nil ?_
                exact xs_round (y5.id, i + 1) (by show l.length - (i + 1) < l.length - i; omega) (by obtain ⟨hi1, hi2, hi3, hi4⟩ := hi2; have hd := chk_drop (last := last) hy6; refine ⟨by omega, ?_, by omega, by show y5.id = if i + 1 = 0 then 0 else ((l.map Ob.id)[i + 1 - 1]?).getD 0; rw [if_neg (by omega), Nat.add_sub_cancel, ids_get hy6]; rfl⟩; rw [hi2, hd, decide_eq_false (by omega), decide_eq_false (by omega), decide_eq_false (by omega), decide_eq_false (by omega)]; rfl) (sub_of rfl ⟨⟨rfl, rfl⟩, ⟨⟨rfl, rfl⟩, ⟨⟨rfl, rfl⟩, trivial⟩⟩⟩) (fun _ h => h.re [1] [1])
      ·
        have p29 := of_decide_eq_false c12
        refine s_skip ?_
        refine s_skip ?_
        refine s_skip ?_
        refine s_skip ?_
        refine s_skip ?_
        refine s_skip ?_
        refine s_skip ?_
        refine s_skip ?_
        refine s_skip ?_
        refine s_skip ?_
        refine s_lt (t_pure (.bool false)) ?_
        refine s_lt (t_pure (.bool false)) ?_
        refine s_lt (t_pure (.bool false)) ?_
        refine s_lt (t_pure (.pointer (some ⟨g8, 1, none⟩))) ?_
        refine s_lt (t_load 0 (.int .i64 y5.size)) ?_
        refine s_lt t_cmp ?_
        refine s_lt (t_pure (.bool (decide (y5.size < 0)))) ?_
        refine s_lt (t_pure (.bool (decide (y5.size < 0)))) ?_
        refine s_fork 41 (decide (y5.size < 0)) (fun c30 => ?_) (fun c30 => ?_)
        ·
          have p31 := of_decide_eq_true c30
          refine s_skip ?_
          refine s_skip ?_
          refine s_skip ?_
          refine s_lt (t_pure (.bool true)) ?_
          refine s_lt (t_pure (.bool true)) ?_
          refine s_skip ?_
          refine s_skip ?_
          refine s_skip ?_
          refine s_lt (t_pure (.bool true)) ?_
          refine s_nil ?_
          refine x_dynS (fun _ h => by kernel_rfl) ?_
          refine xs_then ?_
          refine k_true ?_
          refine k_seq ?_
          refine k_reg ?_
          refine s_lt (t_pure (.int .i64 2)) ?_
          refine s_nil ?_
          refine xs_then ?_
          refine k_ret ?_
          refine xs_retBlock ?_
          refine xs_ret ?_
          refine xs_ret ?_
          refine xs_retBlock ?_
          refine xs_ret ?_
          refine xs_fin [.int .i64 2] [] (SI.tmp 2 SI.nil) (fun _ h => h.re [] [0, 0]) ⟨congrArg (Value.int .i64) ?_, rfl⟩
          rw [hi2.2.1, chk_drop hy6]; first | (rw [decide_eq_true (p := y5.id ≤ last) (by have := hi2.2.2; first | omega | (rw [hi2.2.2.2]; rw [if_pos (by omega)]; omega))]; rfl) | (simp only [errI]; rw [if_neg]; simp only [Bool.and_eq_true, Bool.not_eq_true', Bool.or_eq_false_iff, decide_eq_false_iff_not]; omega)
        ·
          have p32 := of_decide_eq_false c30
          refine s_lt (t_pure (.pointer (some ⟨g8, 2, none⟩))) ?_
          refine s_lt (t_load 0 (.int .i64 y5.weak)) ?_
          refine s_lt t_cmp ?_
          refine s_lt (t_pure (.bool (decide (y5.weak < 0)))) ?_
          refine s_lt (t_pure (.bool (decide (y5.weak < 0)))) ?_
          refine s_fork 46 (decide (y5.weak < 0)) (fun c33 => ?_) (fun c33 => ?_)
          ·
            have p34 := of_decide_eq_true c33
            refine s_skip ?_
            refine s_skip ?_
            refine s_skip ?_
            refine s_lt (t_pure (.bool true)) ?_
            refine s_nil ?_
            refine x_dynS (fun _ h => by kernel_rfl) ?_
            refine xs_then ?_
            refine k_true ?_
            refine k_seq ?_
            refine k_reg ?_
            refine s_lt (t_pure (.int .i64 2)) ?_
            refine s_nil ?_
            refine xs_then ?_
            refine k_ret ?_
            refine xs_retBlock ?_
            refine xs_ret ?_
            refine xs_ret ?_
            refine xs_retBlock ?_
            refine xs_ret ?_
            refine xs_fin [.int .i64 2] [] (SI.tmp 2 SI.nil) (fun _ h => h.re [] [0, 0]) ⟨congrArg (Value.int .i64) ?_, rfl⟩
            rw [hi2.2.1, chk_drop hy6]; first | (rw [decide_eq_true (p := y5.id ≤ last) (by have := hi2.2.2; first | omega | (rw [hi2.2.2.2]; rw [if_pos (by omega)]; omega))]; rfl) | (simp only [errI]; rw [if_neg]; simp only [Bool.and_eq_true, Bool.not_eq_true', Bool.or_eq_false_iff, decide_eq_false_iff_not]; omega)
          ·
            have p35 := of_decide_eq_false c33
            refine s_lt (t_pure (.pointer (some ⟨g8, 2, none⟩))) ?_
            refine s_lt (t_load 0 (.int .i64 y5.weak)) ?_
            refine s_lt t_cmp ?_
            refine s_lt (t_pure (.bool (decide ((3 : Int) < y5.weak)))) ?_
            refine s_nil ?_
            refine x_dynS (fun _ h => by kernel_rfl) ?_
            refine xs_then ?_
            refine k_cond (decide ((3 : Int) < y5.weak)) (fun c36 => ?_) (fun c36 => ?_)
            ·
              have p37 := of_decide_eq_true c36
              refine k_seq ?_
              refine k_reg ?_
              refine s_lt (t_pure (.int .i64 2)) ?_
              refine s_nil ?_
              refine xs_then ?_
              refine k_ret ?_
              refine xs_retBlock ?_
              refine xs_ret ?_
              refine xs_ret ?_
              refine xs_retBlock ?_
              refine xs_ret ?_
              refine xs_fin [.int .i64 2] [] (SI.tmp 2 SI.nil) (fun _ h => h.re [] [0, 0]) ⟨congrArg (Value.int .i64) ?_, rfl⟩
              rw [hi2.2.1, chk_drop hy6]; first | (rw [decide_eq_true (p := y5.id ≤ last) (by have := hi2.2.2; first | omega | (rw [hi2.2.2.2]; rw [if_pos (by omega)]; omega))]; rfl) | (simp only [errI]; rw [if_neg]; simp only [Bool.and_eq_true, Bool.not_eq_true', Bool.or_eq_false_iff, decide_eq_false_iff_not]; omega)
            ·
              have p38 := of_decide_eq_false c36
              refine k_skip ?_
              refine xs_block ?_
              refine xs_then ?_
              refine k_reg ?_
              refine s_lt (t_pure (.int .i64 (i : Int))) ?_
              refine s_lt (t_add (i : Int) 1 (by (try simp only [List.length_nil, List.length_cons, List.length_append, List.length_take, List.length_drop, List.length_set, List.length_replicate, List.length_reverse]); omega)) ?_
              refine s_lt (t_pure (.int .i64 ((i : Int) + 1))) ?_
              refine s_nil ?_
              exact xs_round (y5.id, i + 1) (by show l.length - (i + 1) < l.length - i; omega) (by obtain ⟨hi1, hi2, hi3, hi4⟩ := hi2; have hd := chk_drop (last := last) hy6; refine ⟨by omega, ?_, by omega, by show y5.id = if i + 1 = 0 then 0 else ((l.map Ob.id)[i + 1 - 1]?).getD 0; rw [if_neg (by omega), Nat.add_sub_cancel, ids_get hy6]; rfl⟩; rw [hi2, hd, decide_eq_false (by omega), decide_eq_false (by omega), decide_eq_false (by omega), decide_eq_false (by omega)]; rfl) (sub_of rfl ⟨⟨rfl, rfl⟩, ⟨⟨rfl, rfl⟩, ⟨⟨rfl, rfl⟩, trivial⟩⟩⟩) (fun _ h => h.re [1] [1])
  ·
    have p39 := of_decide_eq_false c3
    refine k_exit ?_
    refine xs_exit ?_
    refine xs_exit ?_
    refine xs_here ?_
    refine xs_then ?_
    refine k_seq ?_
    refine k_reg ?_
    refine s_lt (t_pure (.int .i64 0)) ?_
    refine s_nil ?_
    refine xs_then ?_
    refine k_ret ?_
    refine xs_fin [.int .i64 0] [] (SI.tmp 2 SI.nil) (fun _ h => h.re [] [0]) ⟨congrArg (Value.int .i64) ?_, rfl⟩
    rw [hi2.2.1, List.drop_of_length_le (by omega)]; rfl
theorem large_s {Z : Zone} {ov rv : Value} {l : List Ob} {R : List Int} (hg : KnG Z ov rv l R) : SF Try.prog 11 #[.agg #[ov, rv]] Z [] fun r Bs => r = .bool (largeB l R) ∧ Bs = [] := by
  refine sf_enter Try.func11 39 [(0, .agg #[ov, rv])] (fun w0 => ?_)
  refine k_fact (fun H h => (hg.obs.get h).len_le) (fun lA => ?_)
  refine k_seq ?_
  refine k_reg ?_
  refine s_box #[ov, rv] (fun g1 => ?_)
  refine s_lt (t_pure (.bool false)) ?_
  refine s_nil ?_
  refine xs_then ?_
  refine k_seq ?_
  refine k_cut (ι := Unit) (fun _ => True) (fun _ => [(1, .pointer (some ⟨g1, 0, none⟩)), (2, .bool false), (13, .bool ((decide ((200 : Int) < (l.length : Int))) || (decide ((400 : Int) < (R.length : Int)))))]) (fun _ => [blkA g1 #[ov, rv] 25]) ?_ (fun _ _ => ?_)
  ·
    refine k_reg ?_
    refine s_lt (t_pure (.pointer (some ⟨g1, 0, none⟩))) ?_
    refine s_lt (t_load 0 ov) ?_
    refine s_lt (t_len ObT_ok Try.underlying22 (.zn hg.obs)) ?_
    refine s_lt t_cmp ?_
    refine s_lt (t_pure (.bool (decide ((200 : Int) < (l.length : Int))))) ?_
    refine s_fork 8 (decide ((200 : Int) < (l.length : Int))) (fun c2 => ?_) (fun c2 => ?_)
    ·
      have p3 := of_decide_eq_true c2
      refine s_skip ?_
      refine s_skip ?_
      refine s_skip ?_
      refine s_skip ?_
      refine s_lt (t_pure (.bool true)) ?_
      refine s_nil ?_
      exact xs_cut () trivial (sub_of rfl ⟨⟨rfl, rfl⟩, ⟨⟨rfl, rfl⟩, ⟨⟨rfl, show Value.bool true = Value.bool ((decide ((200 : Int) < (l.length : Int))) || (decide ((400 : Int) < (R.length : Int)))) by first | (simp only [c2, Bool.true_and, Bool.false_and, Bool.and_true, Bool.and_false, Bool.true_or, Bool.or_true, Bool.false_or, Bool.or_false, Bool.not_true, Bool.not_false]; done) | simp [c2]⟩, trivial⟩⟩⟩) (fun _ h => h.re [0] [])
    ·
      have p4 := of_decide_eq_false c2
      refine s_lt (t_pure (.pointer (some ⟨g1, 1, none⟩))) ?_
      refine s_lt (t_load 0 rv) ?_
      refine s_lt (t_len iTy_ok Try.underlying23 (.zn hg.roots)) ?_
      refine s_lt t_cmp ?_
      refine s_lt (t_pure (.bool (decide ((400 : Int) < (R.length : Int))))) ?_
      refine s_nil ?_
      exact xs_cut () trivial (sub_of rfl ⟨⟨rfl, rfl⟩, ⟨⟨rfl, rfl⟩, ⟨⟨rfl, show Value.bool (decide ((400 : Int) < (R.length : Int))) = Value.bool ((decide ((200 : Int) < (l.length : Int))) || (decide ((400 : Int) < (R.length : Int)))) by first | (simp only [c2, Bool.true_and, Bool.false_and, Bool.and_true, Bool.and_false, Bool.true_or, Bool.or_true, Bool.false_or, Bool.or_false, Bool.not_true, Bool.not_false]; done) | simp [c2]⟩, trivial⟩⟩⟩) (fun _ h => h.re [0] [])
  ·
    refine k_cond ((decide ((200 : Int) < (l.length : Int))) || (decide ((400 : Int) < (R.length : Int)))) (fun c5 => ?_) (fun c5 => ?_)
    ·
      have p6 := c5
      simp only [Bool.and_eq_true, Bool.or_eq_true, Bool.and_eq_false_iff, Bool.or_eq_false_iff, Bool.not_eq_true', Bool.not_eq_false', decide_eq_true_eq, decide_eq_false_iff_not] at p6
      refine k_seq ?_
      refine k_reg ?_
      refine s_lt (t_pure (.bool true)) ?_
      refine s_nil ?_
      refine xs_then ?_
      refine k_ret ?_
      refine xs_ret ?_
      refine xs_fin [.bool true] [] (SI.tmp 2 SI.nil) (fun _ h => h.re [] [0]) ⟨congrArg Value.bool ?_, rfl⟩
      unfold largeB; symm; simp only [Bool.or_eq_true, decide_eq_true_eq]; omega
    ·
      obtain ⟨c7, c8⟩ := or_f c5
      have p9 := of_decide_eq_false c7
      have p10 := of_decide_eq_false c8
      refine k_skip ?_
      refine xs_then ?_
      refine k_seq ?_
      refine k_seq ?_
      refine k_reg ?_
      refine s_lt (t_pure (.int .i64 0)) ?_
      refine s_nil ?_
      refine xs_then ?_
      refine k_block ?_
      refine k_loop (ι := Nat) (fun i => i ≤ l.length ∧ (l.take i).any (fun o => decide ((400 : Int) < (o.refs.length : Int)) || decide ((400 : Int) < (o.ents.length : Int))) = false) (fun i => [(1, .pointer (some ⟨g1, 0, none⟩)), (2, .bool false), (3, .int .i64 (i : Int))]) (fun i => [blkA g1 #[ov, rv] 25]) (fun i => l.length - i) 0 ⟨Nat.zero_le _, rfl⟩ (sub_of rfl ⟨⟨rfl, rfl⟩, ⟨⟨rfl, rfl⟩, ⟨⟨rfl, rfl⟩, trivial⟩⟩⟩) (fun _ h => h.re [0] []) ?_
      rintro i hi11
      show SK _ _ _ _ _ [(1, .pointer (some ⟨g1, 0, none⟩)), (2, .bool false), (3, .int .i64 (i : Int))] _ [blkA g1 #[ov, rv] 25]
      refine k_seq ?_
      refine k_seq ?_
      refine k_reg ?_
      refine s_lt (t_pure (.int .i64 (i : Int))) ?_
      refine s_lt (t_pure (.pointer (some ⟨g1, 0, none⟩))) ?_
      refine s_lt (t_load 0 ov) ?_
      refine s_lt (t_len ObT_ok Try.underlying22 (.zn hg.obs)) ?_
      refine s_lt t_cmp ?_
      refine s_nil ?_
      refine xs_then ?_
      refine k_cond (decide ((i : Int) < (l.length : Int))) (fun c12 => ?_) (fun c12 => ?_)
      ·
        have p13 := of_decide_eq_true c12
        refine k_skip ?_
        refine xs_then ?_
        refine k_seq ?_
        refine k_block ?_
        refine k_seq ?_
        refine k_reg ?_
        refine s_lt (t_pure (.pointer (some ⟨g1, 0, none⟩))) ?_
        refine s_lt (t_load 0 ov) ?_
        refine s_lt (t_pure (.int .i64 (i : Int))) ?_
        refine s_lt (t_index ObT_ok Try.underlying22 (.zn hg.obs) (i : Int) i (by omega) (by (try simp only [List.length_nil, List.length_cons, List.length_append, List.length_take, List.length_drop, List.length_set, List.length_replicate, List.length_reverse]); omega) (by omega)) ?_
        refine s_lt (t_pure (.pointer (some ((elemAt ObT.size ov i).add 3)))) ?_
        obtain ⟨y14, hy15⟩ : ∃ y, l[i]? = some y := ⟨_, List.getElem?_eq_getElem (by (try simp only [List.length_nil, List.length_cons, List.length_append, List.length_take, List.length_drop, List.length_set, List.length_replicate, List.length_reverse]); omega)⟩
        have hk16 := hg.each y14 (List.mem_of_getElem? hy15)
        refine s_lt (t_loadF 3 ObT_ok (.zn hg.obs) hy15) ?_
        refine s_lt (t_len iTy_ok Try.underlying23 (.zn hk16.1)) ?_
        refine s_lt t_cmp ?_
        refine s_lt (t_pure (.bool (decide ((400 : Int) < (y14.refs.length : Int))))) ?_
        refine s_fork 29 (decide ((400 : Int) < (y14.refs.length : Int))) (fun c17 => ?_) (fun c17 => ?_)
        ·
          have p18 := of_decide_eq_true c17
          refine s_skip ?_
          refine s_skip ?_
          refine s_skip ?_
          refine s_skip ?_
          refine s_skip ?_
          refine s_skip ?_
          refine s_skip ?_
          refine s_skip ?_
          refine s_lt (t_pure (.bool true)) ?_
          refine s_nil ?_
          refine xs_then ?_
          refine k_true ?_
          refine k_seq ?_
          refine k_reg ?_
          refine s_lt (t_pure (.bool true)) ?_
          refine s_nil ?_
          refine xs_then ?_
          refine k_ret ?_
          refine xs_retBlock ?_
          refine xs_ret ?_
          refine xs_ret ?_
          refine xs_retBlock ?_
          refine xs_ret ?_
          refine xs_fin [.bool true] [] (SI.tmp 2 SI.nil) (fun _ h => h.re [] [0]) ⟨congrArg Value.bool ?_, rfl⟩
          unfold largeB; rw [any_here hy15 (by simp only [Bool.or_eq_true, decide_eq_true_eq]; omega), Bool.or_true]
        ·
          have p19 := of_decide_eq_false c17
          refine s_lt (t_pure (.pointer (some ⟨g1, 0, none⟩))) ?_
          refine s_lt (t_load 0 ov) ?_
          refine s_lt (t_pure (.int .i64 (i : Int))) ?_
          refine s_lt (t_index ObT_ok Try.underlying22 (.zn hg.obs) (i : Int) i (by omega) (by (try simp only [List.length_nil, List.length_cons, List.length_append, List.length_take, List.length_drop, List.length_set, List.length_replicate, List.length_reverse]); omega) (by omega)) ?_
          refine s_lt (t_pure (.pointer (some ((elemAt ObT.size ov i).add 4)))) ?_
          refine s_lt (t_loadF 4 ObT_ok (.zn hg.obs) hy15) ?_
          refine s_lt (t_len EntT_ok Try.underlying40 (.zn hk16.2)) ?_
          refine s_lt t_cmp ?_
          refine s_lt (t_pure (.bool (decide ((400 : Int) < (y14.ents.length : Int))))) ?_
          refine s_nil ?_
          refine xs_then ?_
          refine k_cond (decide ((400 : Int) < (y14.ents.length : Int))) (fun c20 => ?_) (fun c20 => ?_)
          ·
            have p21 := of_decide_eq_true c20
            refine k_seq ?_
            refine k_reg ?_
            refine s_lt (t_pure (.bool true)) ?_
            refine s_nil ?_
            refine xs_then ?_
            refine k_ret ?_
            refine xs_retBlock ?_
            refine xs_ret ?_
            refine xs_ret ?_
            refine xs_retBlock ?_
            refine xs_ret ?_
            refine xs_fin [.bool true] [] (SI.tmp 2 SI.nil) (fun _ h => h.re [] [0]) ⟨congrArg Value.bool ?_, rfl⟩
            unfold largeB; rw [any_here hy15 (by simp only [Bool.or_eq_true, decide_eq_true_eq]; omega), Bool.or_true]
          ·
            have p22 := of_decide_eq_false c20
            refine k_skip ?_
            refine xs_block ?_
            refine xs_then ?_
            refine k_reg ?_
            refine s_lt (t_pure (.int .i64 (i : Int))) ?_
            refine s_lt (t_add (i : Int) 1 (by (try simp only [List.length_nil, List.length_cons, List.length_append, List.length_take, List.length_drop, List.length_set, List.length_replicate, List.length_reverse]); omega)) ?_
            refine s_lt (t_pure (.int .i64 ((i : Int) + 1))) ?_
            refine s_nil ?_
            exact xs_round (i + 1) (by omega) (by obtain ⟨hi1, hi2⟩ := hi11; exact ⟨by omega, any_take hi2 hy15 (by simp only [Bool.or_eq_false_iff, decide_eq_false_iff_not]; omega)⟩) (sub_of rfl ⟨⟨rfl, rfl⟩, ⟨⟨rfl, rfl⟩, ⟨⟨rfl, rfl⟩, trivial⟩⟩⟩) (fun _ h => h.re [0] [])
      ·
        have p23 := of_decide_eq_false c12
        refine k_exit ?_
        refine xs_exit ?_
        refine xs_exit ?_
        refine xs_here ?_
        refine xs_then ?_
        refine k_seq ?_
        refine k_reg ?_
        refine s_lt (t_pure (.bool false)) ?_
        refine s_nil ?_
        refine xs_then ?_
        refine k_ret ?_
        refine xs_fin [.bool false] [] (SI.tmp 2 SI.nil) (fun _ h => h.re [] [0]) ⟨congrArg Value.bool ?_, rfl⟩
        unfold largeB; rw [any_end hi11.2 (by omega), decide_eq_false (by omega), decide_eq_false (by omega)]; rfl
end Go.Proofs.Ytjdlkemmcnncaaa
