/-
  Layer 45: collectors of the program; queues that are empty. Each law says its conditions.
-/
import Derived.Test.YtmhpcebiamkciaaGreatG5
import Derived.Test.YtmhpcebiamkciaaGreatG2
import Derived.Test.YtmhpcebiamkciaaGreatRows
section
set_option linter.unusedSimpArgs false
set_option linter.unusedVariables false
set_option maxRecDepth 100000
set_option maxHeartbeats 2000000
namespace Go.Proofs.YtmhpcebiamkciaaGreat
open Go.Hp Go.J Go.S
open Go.Mem (Ty KTy blk elemAt pre suf blk_pre blk_suf aget aset strK aggDesc)
open Go.Mem (adel apos aget_aset aget_adel)
structure Fen where
  id : Int
  deriving DecidableEq
abbrev Fen.v (x : Fen) : Value := .agg #[iw x.id]
abbrev cV (n : Int) : Value := iw n
def mgt (m : List (Int × Int)) (k : Int) : Int := (aget m k).getD 0
theorem mgt_is (m : List (Int × Int)) (k : Int) : ((aget m k).map cV).getD (iw 0) = iw (mgt m k) := by
  unfold mgt; cases aget m k <;> rfl
def coA (b q hb : Nat) (ph : Int) (m : List (Int × Int)) (Q L Fr : List Int) : Asr := exA fun mb => exA fun qv => exA fun lv => exA fun fv => stA True [blkA b #[.pointer (some ⟨q, 0, none⟩), .pointer (some ⟨hb, 0, none⟩), iw ph, .map (some mb), qv, lv, fv] 91, blkA q #[.slice none 0 0, .slice none 0 0] 151, mpA iK cV mb m, ownO iTy qv Q, ownO iTy lv L, ownO iTy fv Fr]
section
variable {Z : Zone} {F : List Asr} {H : Heap} {b q hb : Nat} {ph : Int} {m : List (Int × Int)} {Q L Fr : List Int}
theorem co_open (h : Holds Z (coA b q hb ph m Q L Fr :: F) H) : ∃ mb qv lv fv, True ∧ Holds Z (blkA b #[.pointer (some ⟨q, 0, none⟩), .pointer (some ⟨hb, 0, none⟩), iw ph, .map (some mb), qv, lv, fv] 91 :: blkA q #[.slice none 0 0, .slice none 0 0] 151 :: mpA iK cV mb m :: ownO iTy qv Q :: ownO iTy lv L :: ownO iTy fv Fr :: F) H := by
  obtain ⟨mb, h⟩ := h.open_ex
  obtain ⟨qv, h⟩ := h.open_ex
  obtain ⟨lv, h⟩ := h.open_ex
  obtain ⟨fv, h⟩ := h.open_ex
  exact ⟨mb, qv, lv, fv, h.open_st⟩
theorem co_shut {mb : Nat} {qv lv fv : Value} (h : Holds Z (blkA b #[.pointer (some ⟨q, 0, none⟩), .pointer (some ⟨hb, 0, none⟩), iw ph, .map (some mb), qv, lv, fv] 91 :: blkA q #[.slice none 0 0, .slice none 0 0] 151 :: mpA iK cV mb m :: ownO iTy qv Q :: ownO iTy lv L :: ownO iTy fv Fr :: F) H) : Holds Z (coA b q hb ph m Q L Fr :: F) H :=
  Holds.shut_ex mb (Holds.shut_ex qv (Holds.shut_ex lv (Holds.shut_ex fv (Holds.shut_st trivial h))))
end
def rchM (st : Hst) (m : List (Int × Int)) (id : Int) : List (Int × Int) := if halive st id = true ∧ mgt m id = 0 then aset m id 1 else m
def rchQ (st : Hst) (m : List (Int × Int)) (Q : List Int) (id : Int) : List Int := if halive st id = true ∧ mgt m id = 0 then Q ++ [id] else Q
def rchS (st : Hst) (s : List (Int × Int) × List Int) (id : Int) : List (Int × Int) × List Int := (rchM st s.1 id, rchQ st s.1 s.2 id)
def rchA (st : Hst) (s : List (Int × Int) × List Int) (X : List Int) : List (Int × Int) × List Int := X.foldl (rchS st) s
theorem rchA_take {st : Hst} {s : List (Int × Int) × List Int} {X : List Int} {i : Nat} {y : Int} (h : X[i]? = some y) : rchA st s (X.take (i + 1)) = rchS st (rchA st s (X.take i)) y := by
  unfold rchA; rw [List.take_add_one, h, List.foldl_append]; rfl
theorem rchQ_len (st : Hst) (m : List (Int × Int)) (Q : List Int) (id : Int) : (rchQ st m Q id).length ≤ Q.length + 1 := by
  unfold rchQ; split <;> simp
theorem rchA_len (st : Hst) (X : List Int) : ∀ s : List (Int × Int) × List Int, (rchA st s X).2.length ≤ s.2.length + X.length := by
  induction X with
  | nil => exact fun s => Nat.le_refl _
  | cons a r ih => exact fun s => by have := ih (rchS st s a); have h2 := rchQ_len st s.1 s.2 a; simp only [List.length_cons]; unfold rchA at *; simp only [List.foldl_cons]; unfold rchS at *; dsimp only at *; omega
theorem creach_s {Z : Zone} {F : List Asr} {b q hb : Nat} {ph : Int} {m : List (Int × Int)} {Q L Fr : List Int} {st : Hst} (hQ : Q.length ≤ 1000000) (id : Int) : SF Tryz.prog 46 #[.pointer (some ⟨b, 0, none⟩), iw id] Z (coA b q hb ph m Q L Fr :: hpA hb st :: F) fun r Bs => r = .tuple #[] ∧ Bs = coA b q hb ph (rchM st m id) (rchQ st m Q id) L Fr :: hpA hb st :: F := by
 refine sf_enter Tryz.func46 34 [(0, pB b 0), (1, iw id)] (fun w0 => ?_)
 refine k_sr <| sp (pB b 0) ?_
 refine sp (pB b 0) ?_
 refine sp (pB b 1) ?_
 refine s_mem4 (fun H h => co_open (h.re [0] [])) (fun mb1 qv2 lv3 fv4 hw => ?_)
 refine s_lt (t_load 0 (pB hb 0)) ?_
 refine sp (iw id) ?_
 refine s_call [6] (halive_s (st := st) id) ?_
 rintro _ _ ⟨rfl, rfl⟩
 refine sp (.bool (halive st id)) ?_
 refine s_fork 10 (halive st id) (fun c5 => ?_) (fun c5 => ?_)
 ·
  refine sp (pB b 0) ?_
  refine sp (pB b 0) ?_
  refine sp (pB b 3) ?_
  refine s_lt (t_load 1 (.map (some mb1))) ?_
  refine sp (iw id) ?_
  refine s_lt (Lt.to (v' := iw (mgt m id)) (t_lookup 3 intOk Tryz.underlying89 (iw 0) id) (mgt_is _ _)) ?_
  refine s_lt t_cmp ?_
  refine sp (.bool (decide ((mgt m id) = 0))) ?_
  refine s_nt <| k_cond (decide ((mgt m id) = 0)) (fun c6 => ?_) (fun c6 => ?_)
  ·
   have p7 := of_decide_eq_true c6
   refine k_sr <| sp (pB b 0) ?_
   refine sp (pB b 0) ?_
   refine sp (pB b 3) ?_
   refine s_lt (t_load 1 (.map (some mb1))) ?_
   refine sp (iw id) ?_
   refine s_update 3 intOk Tryz.underlying89 id (1 : Int) ?_
   refine s_nt <| k_reg ?_
   refine sp (pB b 0) ?_
   refine sp (pB b 0) ?_
   refine sp (pB b 0) ?_
   refine sp (pB b 4) ?_
   refine s_lt (t_load 1 qv2) ?_
   refine sp (iw id) ?_
   refine s_buildSlice (e := 3) [(0, iw id)] #[iw id] (fun g8 => ?_) (hb := by kernel_rfl)
   refine s_appendO (L := Q) 5 iTy_ok Tryz.underlying23 (.lit 0 iTy_ok [id]) (by show _ * 8 ≤ _; (try simp only [lnm]); omega) (by (try simp only [lnm]); omega) (fun v9 => ?_)
   refine s_fact (fun H h => ((Acc.ownO (T := iTy) (L := (Q ++ [id])) 5 rfl) H h).form) (fun hf10 => ?_)
   refine sp (pB b 0) ?_
   refine sp (pB b 4) ?_
   refine s_store (u := v9) (m := 1) 2 #[pB q 0, pB hb 0, iw ph, .map (some mb1), v9, lv3, fv4] ?_ (hm := by (obtain ⟨_, _, e⟩ := hf10; rw [e]; rfl)) (h1 := by (obtain ⟨_, _, e⟩ := hf10; rw [e]; rfl)) (ha' := by (obtain ⟨_, _, e⟩ := hf10; rw [e]; rfl))
   refine s_nil <| xs_mem (fun _ h => co_shut (h.re [2, 2, 2, 2, 2, 2] [])) ?_
   refine xs_finN [] (coA b q hb ph (aset m id (1 : Int)) (Q ++ [id]) L Fr :: hpA hb st :: F) SI.nil (fun _ h => h.re [0, 1] [2]) ⟨rfl, ?_⟩
   unfold rchM rchQ; rw [if_pos ⟨c5, of_decide_eq_true c6⟩, if_pos ⟨c5, of_decide_eq_true c6⟩]
  ·
   have p11 := of_decide_eq_false c6
   refine k_skip ?_
   refine xs_mem (fun _ h => co_shut (h.re [1, 1, 1, 1, 1, 1] [])) ?_
   refine xs_finN [] (coA b q hb ph m Q L Fr :: hpA hb st :: F) SI.nil (fun _ h => h.re [0, 0] []) ⟨rfl, ?_⟩
   unfold rchM rchQ; rw [if_neg (fun e => of_decide_eq_false c6 e.2), if_neg (fun e => of_decide_eq_false c6 e.2)]
 ·
  refine s_skip ?_
  refine s_skip ?_
  refine s_skip ?_
  refine s_skip ?_
  refine s_skip ?_
  refine s_skip ?_
  refine s_skip ?_
  refine sp (.bool false) ?_
  refine s_nt <| k_false ?_
  refine k_skip ?_
  refine xs_mem (fun _ h => co_shut (h.re [1, 1, 1, 1, 1, 1] [])) ?_
  refine xs_finN [] (coA b q hb ph m Q L Fr :: hpA hb st :: F) SI.nil (fun _ h => h.re [0, 0] []) ⟨rfl, ?_⟩
  unfold rchM rchQ; rw [if_neg (fun e => by rw [c5] at e; exact absurd e.1 (by decide)), if_neg (fun e => by rw [c5] at e; exact absurd e.1 (by decide))]
theorem k_factH {P : Program} {w0 : World} {Q : Exit → Act → World → Prop} {n : Nat} {E : Env} {Z : Zone} {As : List Asr} {c : Code} {p : Heap → Prop} (hA : ∀ H, Holds Z As H → p H) (h : ∀ H, p H → SK P w0 c Q n E Z As) : SK P w0 c Q n E Z As := fun H hH => h H (hA H hH) H hH
theorem clone_s {Z : Zone} {lv : Value} {L : List Int} (hL : Kn Z iTy lv L) (hl : L.length ≤ 1000000) : SF Tryz.prog 50 #[lv] Z [] fun r Bs => Bs = [own iTy r L] := by
 refine sf_enter Tryz.func50 8 [(0, lv)] (fun w0 => ?_)
 refine k_factH (fun H h => hL.get h) (fun H0 hsl => ?_)
 refine k_sr <| sp (.slice none 0 0) ?_
 refine s_nt <| k_seq <| k_sr <| sp lv ?_
 refine s_lt (t_nilS Tryz.underlying23 (.zn hL)) ?_
 refine s_nt <| k_cond (nilS lv) (fun c1 => ?_) (fun c1 => ?_)
 ·
  refine k_sr <| sp (.slice none 0 0) ?_
  refine s_nt <| k_ret <| xs_ret ?_
  have hn : L = [] := (nilS_spec hsl c1).2
  exact xs_fin [(.slice none 0 0)] [own iTy (.slice none 0 0) L] (SI.tmp 2 SI.nil) (fun _ h => by rw [hn]; exact h.nilS.re [0] []) rfl
 ·
  refine k_st <| k_sr <| s_buildSlice (e := 3) [] #[] (fun g2 => ?_) (hb := by kernel_rfl)
  refine sp lv ?_
  refine s_mem (fun _ h => Holds.slice 0 h iTy_ok []) ?_
  refine s_append (L := []) 0 iTy_ok Tryz.underlying23 (.zn hL) (by show _ * 8 ≤ _; (try simp only [lnm]); omega) (by (try simp only [lnm]); omega) (fun v3 => ?_)
  refine s_fact (fun H h => ((Acc.own (T := iTy) (L := ([] ++ L)) 0 rfl) H h).form) (fun hf4 => ?_)
  refine sp v3 ?_
  refine s_nt <| k_ret ?_
  exact xs_fin [v3] [own iTy v3 L] (SI.tmp 2 SI.nil) (fun _ h => h.re [0] []) rfl
structure Sq where
  p : Option Addr
  c : Nat
  xs : List Int
abbrev Sq.v (s : Sq) : Value := .slice s.p s.xs.length s.c
def SqT : Ty Sq := ⟨23, 1, 24, false, Sq.v, ⟨none, 0, []⟩⟩
theorem SqT_ok : SqT.Ok Tryz.prog := ⟨Nat.one_pos, fun _ => rfl, fun x u hu => by simp [Ty.enc, SqT, Value.cells] at hu; subst hu; rfl, fun _ => rfl, ⟨_, Tryz.underlying23, rfl⟩, fun _ => rfl, ⟨Tryz.t23, by kernel_rfl, by kernel_rfl, by kernel_rfl, by kernel_rfl⟩⟩
def cat (S : List Sq) : List Int := S.flatMap Sq.xs
theorem cat_take {S : List Sq} {i : Nat} {y : Sq} (h : S[i]? = some y) : cat (S.take i) ++ y.xs = cat (S.take (i + 1)) := by
  unfold cat; rw [List.take_add_one, h]; simp [List.flatMap_append]
theorem cat_len {S : List Sq} (h : ∀ s ∈ S, s.xs.length ≤ 1000000) : ∀ i : Nat, (cat (S.take i)).length ≤ 1000000 * i
  | 0 => by simp [cat]
  | i + 1 => by
    cases hy : S[i]? with
    | none =>
      have e : S.take (i + 1) = S.take i := by rw [List.take_add_one, hy]; simp
      rw [e]; have := cat_len h i; omega
    | some y => rw [← cat_take hy, List.length_append]; have := cat_len h i; have := h y (List.mem_of_getElem? hy); omega
theorem grow_s {Z : Zone} (n : Int) (h0 : 0 ≤ n) (h1 : n ≤ 1000000000) : SF Tryz.prog 183 #[.slice none 0 0, iw n] Z [] fun r Bs => Bs = [own iTy r []] := by
 refine sf_enter Tryz.func183 27 [(0, (.slice none 0 0)), (1, iw n)] (fun w0 => ?_)
 refine k_sr <| sp (.slice none 0 0) ?_
 refine s_nt <| k_seq <| k_sr <| sp (iw n) ?_
 refine s_lt (Lt.to t_cmp (congrArg Value.bool (decide_eq_false (by omega) : (decide (n < 0)) = false))) ?_
 refine s_nt <| k_false ?_
 refine k_st <| k_seq <| k_sr <| sp (iw n) ?_
 refine sp (.slice none 0 0) ?_
 refine s_lt (t_kern (iw 0)) ?_
 refine sp (.slice none 0 0) ?_
 refine s_lt (t_kern (iw 0)) ?_
 refine sp (iw 0) ?_
 refine s_lt (t_sub n 0 (by (try simp only [lnm]); omega)) ?_
 refine sp (iw (n - 0)) ?_
 refine s_nr ?_
 refine sp (iw (n - 0)) ?_
 refine s_lt t_cmp ?_
 refine s_nt <| k_cond (decide ((0 : Int) < (n - 0))) (fun c1 => ?_) (fun c1 => ?_)
 ·
  have p2 := of_decide_eq_true c1
  refine k_reg ?_
  refine sp (.slice none 0 0) ?_
  refine sp (.slice none 0 0) ?_
  refine s_lt (t_kern (iw 0)) ?_
  refine s_lt (t_pre iTy_ok Tryz.underlying23 .nil 0 0 (by omega) (by (try simp only [lnm]); omega) (by omega)) ?_
  refine sp (iw (n - 0)) ?_
  refine s_appendZ (y := (n - 0)) (((n - 0)).toNat) iTy_ok Tryz.underlying23 Tryz.underlying3 (by omega) (by omega) (by show _ * 8 ≤ _; omega) (by omega) (fun v3 => ?_)
  refine s_fact (fun H h => ((Acc.own (T := iTy) (L := (List.replicate (((n - 0)).toNat) iTy.zero)) 0 rfl) H h).form) (fun hf4 => ?_)
  refine sp (.slice none 0 0) ?_
  refine s_lt (t_kern (iw 0)) ?_
  refine s_lt (t_pre iTy_ok Tryz.underlying23 (.own 0) 0 0 (by omega) (by (try simp only [lnm]); omega) (by omega)) ?_
  refine sp (pre v3 0) ?_
  refine s_nr ?_
  refine sp (pre v3 0) ?_
  refine sp (pre v3 0) ?_
  refine s_nt <| k_ret ?_
  exact xs_fin [(pre v3 0)] [own iTy (pre v3 0) []] (SI.tmp 4 SI.nil) (fun _ h => (Holds.pre (i := 0) h iTy_ok 0 rfl (Nat.zero_le _)).re [0] []) rfl
 ·
  have p5 := of_decide_eq_false c1
  refine k_st <| k_sr <| sp (.slice none 0 0) ?_
  refine sp (.slice none 0 0) ?_
  refine s_nt <| k_ret ?_
  exact xs_fin [(.slice none 0 0)] [own iTy (.slice none 0 0) []] (SI.tmp 4 SI.nil) (fun _ h => h.nilS.re [0] []) rfl
theorem concat_s {Z : Zone} {sv : Value} {S : List Sq} (hS : Kn Z SqT sv S) (hE : ∀ s ∈ S, Kn Z iTy s.v s.xs) (hl : S.length ≤ 100) (hB : ∀ s ∈ S, s.xs.length ≤ 1000000) : SF Tryz.prog 129 #[sv] Z [] fun r Bs => Bs = [own iTy r (cat S)] := by
 refine sf_enter Tryz.func129 36 [(0, sv)] (fun w0 => ?_)
 refine k_sr <| sp (.slice none 0 0) ?_
 refine s_nr ?_
 refine sp (iw 0) ?_
 refine s_nt <| k_seq <| k_sr <| sp sv ?_
 refine s_lt (t_len SqT_ok Tryz.underlying218 (.zn hS)) ?_
 refine sp (iw 0) ?_
 refine s_nt <| k_block ?_
 refine k_loop (ι := Int × Nat) (fun (sz, i) => i ≤ S.length ∧ sz = ((cat (S.take i)).length : Int)) (fun (sz, i) => [(0, sv), (3, iw sz), (9, sv), (10, iw (S.length : Int)), (11, iw (i : Int))]) (fun (sz, i) => []) (fun (sz, i) => S.length - i) (0, 0) ⟨Nat.zero_le _, rfl⟩ (sub_of rfl ⟨⟨rfl, rfl⟩, ⟨⟨rfl, rfl⟩, ⟨⟨rfl, rfl⟩, ⟨⟨rfl, rfl⟩, ⟨⟨rfl, rfl⟩, trivial⟩⟩⟩⟩⟩) (fun _ h => h.re [] []) ?_
 rintro ⟨sz, i⟩ hi1
 replace hi1 : i ≤ S.length ∧ sz = ((cat (S.take i)).length : Int) := hi1
 show SK _ _ _ _ _ [(0, sv), (3, iw sz), (9, sv), (10, iw (S.length : Int)), (11, iw (i : Int))] _ []
 have hcl := cat_len hB i; obtain ⟨hj1, hj2⟩ := id hi1
 refine k_sr <| s_lt t_cmp ?_
 refine s_nt <| k_seq <| k_cond (decide ((i : Int) < (S.length : Int))) (fun c2 => ?_) (fun c2 => ?_)
 ·
  have p3 := of_decide_eq_true c2
  refine k_st <| k_seq <| k_block ?_
  refine k_sr <| s_lt (t_index SqT_ok Tryz.underlying218 (.zn hS) (i : Int) i (by omega) (by (try simp only [lnm]); omega) (by omega)) ?_
  obtain ⟨y4, hy5⟩ : ∃ y, S[i]? = some y := ⟨_, List.getElem?_eq_getElem (by (try simp only [lnm]); omega)⟩
  have hb6 := hB y4 (List.mem_of_getElem? hy5)
  refine s_lt (t_loadE SqT_ok (.zn hS) hy5) ?_
  refine sp y4.v ?_
  refine s_nr ?_
  refine sp (iw sz) ?_
  refine sp y4.v ?_
  refine s_lt (t_len iTy_ok Tryz.underlying23 (.zn (hE y4 (List.mem_of_getElem? hy5)))) ?_
  refine s_lt (t_add sz (y4.xs.length : Int) (by (try simp only [lnm]); omega)) ?_
  refine sp (iw (sz + (y4.xs.length : Int))) ?_
  refine s_nr ?_
  refine sp (iw (sz + (y4.xs.length : Int))) ?_
  refine s_lt (Lt.to t_cmp (congrArg Value.bool (decide_eq_false (by omega) : (decide ((sz + (y4.xs.length : Int)) < 0)) = false))) ?_
  refine s_nt <| k_false ?_
  refine k_skip ?_
  refine xs_block ?_
  refine xs_then <| k_reg ?_
  refine s_lt (t_add (i : Int) 1 (by (try simp only [lnm]); omega)) ?_
  refine sp (iw ((i : Int) + 1)) ?_
  refine s_nil ?_
  exact xs_round ((sz + (y4.xs.length : Int)), i + 1) (by show S.length - (i + 1) < S.length - i; omega) (by obtain ⟨hi1, hi2⟩ := hi1; refine ⟨by omega, ?_⟩; rw [← cat_take hy5, List.length_append]; omega) (sub_of rfl ⟨⟨rfl, rfl⟩, ⟨⟨rfl, rfl⟩, ⟨⟨rfl, rfl⟩, ⟨⟨rfl, rfl⟩, ⟨⟨rfl, rfl⟩, trivial⟩⟩⟩⟩⟩) (fun _ h => h.re [] [])
 ·
  have p7 := of_decide_eq_false c2
  refine k_exit ?_
  refine xs_exit ?_
  refine xs_exit ?_
  refine xs_here ?_
  refine xs_then <| k_sr <| sp (iw sz) ?_
  refine s_pcall (fun _ h => grow_s sz (by omega) (by omega)) ?_
  rintro v8 _ rfl
  refine s_fact (fun H h => ((Acc.own (T := iTy) (L := []) 0 rfl) H h).form) (fun hf9 => ?_)
  refine sp v8 ?_
  refine s_nt <| k_seq <| k_sr <| sp sv ?_
  refine s_lt (t_len SqT_ok Tryz.underlying218 (.zn hS)) ?_
  refine sp (iw 0) ?_
  refine s_nt <| k_block ?_
  refine k_mem (Bs := [own iTy v8 (cat (S.take 0))]) (fun _ h => h) ?_
  refine k_loop (ι := Value × Nat) (fun (sx, k) => k ≤ S.length) (fun (sx, k) => [(6, sx), (25, sv), (26, iw (S.length : Int)), (27, iw (k : Int))]) (fun (sx, k) => [own iTy sx (cat (S.take k))]) (fun (sx, k) => S.length - k) (v8, 0) (Nat.zero_le _) (sub_of rfl ⟨⟨rfl, rfl⟩, ⟨⟨rfl, rfl⟩, ⟨⟨rfl, rfl⟩, ⟨⟨rfl, rfl⟩, trivial⟩⟩⟩⟩) (fun _ h => h.re [0] []) ?_
  rintro ⟨sx, k⟩ hi10
  replace hi10 : k ≤ S.length := hi10
  show SK _ _ _ _ _ [(6, sx), (25, sv), (26, iw (S.length : Int)), (27, iw (k : Int))] _ [own iTy sx (cat (S.take k))]
  have hcl := cat_len hB k
  refine k_sr <| s_lt t_cmp ?_
  refine s_nt <| k_seq <| k_cond (decide ((k : Int) < (S.length : Int))) (fun c11 => ?_) (fun c11 => ?_)
  ·
   have p12 := of_decide_eq_true c11
   refine k_st <| k_seq <| k_block ?_
   refine k_sr <| s_lt (t_index SqT_ok Tryz.underlying218 (.zn hS) (k : Int) k (by omega) (by (try simp only [lnm]); omega) (by omega)) ?_
   obtain ⟨y13, hy14⟩ : ∃ y, S[k]? = some y := ⟨_, List.getElem?_eq_getElem (by (try simp only [lnm]); omega)⟩
   have hb15 := hB y13 (List.mem_of_getElem? hy14)
   refine s_lt (t_loadE SqT_ok (.zn hS) hy14) ?_
   refine sp y13.v ?_
   refine s_nt <| k_reg ?_
   refine sp sx ?_
   refine sp y13.v ?_
   refine s_append (L := (cat (S.take k))) 0 iTy_ok Tryz.underlying23 (.zn (hE y13 (List.mem_of_getElem? hy14))) (by show _ * 8 ≤ _; (try simp only [lnm]); omega) (by (try simp only [lnm]); omega) (fun v16 => ?_)
   refine s_fact (fun H h => ((Acc.own (T := iTy) (L := ((cat (S.take k)) ++ y13.xs)) 0 rfl) H h).form) (fun hf17 => ?_)
   refine sp v16 ?_
   refine s_nil <| xs_block ?_
   refine xs_then <| k_reg ?_
   refine s_lt (t_add (k : Int) 1 (by (try simp only [lnm]); omega)) ?_
   refine sp (iw ((k : Int) + 1)) ?_
   refine s_nil ?_
   rw [cat_take hy14]
   exact xs_round (v16, k + 1) (by show S.length - (k + 1) < S.length - k; omega) (by show k + 1 ≤ S.length; omega) (sub_of rfl ⟨⟨rfl, rfl⟩, ⟨⟨rfl, rfl⟩, ⟨⟨rfl, rfl⟩, ⟨⟨rfl, rfl⟩, trivial⟩⟩⟩⟩) (fun _ h => h.re [0] [])
  ·
   have p18 := of_decide_eq_false c11
   refine k_exit ?_
   refine xs_exit ?_
   refine xs_exit ?_
   refine xs_here ?_
   refine xs_then <| k_sr <| sp sx ?_
   refine sp sx ?_
   refine s_nt <| k_ret ?_
   exact xs_fin [sx] [own iTy sx (cat S)] (SI.tmp 2 SI.nil) (fun _ h => by rw [List.take_of_length_le (by omega)] at h; exact h.re [0] []) rfl
theorem each_nil2 {p : Sq → Prop} : ∀ x ∈ ([] : List Sq), p x := by simp
theorem each_cons2 {p : Sq → Prop} {a : Sq} {r : List Sq} (h : p a) (hr : ∀ x ∈ r, p x) : ∀ x ∈ a :: r, p x := by
  intro x hx
  rcases List.mem_cons.1 hx with rfl | hx
  · exact h
  · exact hr x hx
theorem cids_s {Z : Zone} : SF Tryz.prog 121 #[.slice none 0 0] Z [] fun r Bs => r = .slice none 0 0 ∧ Bs = [] := by
 refine sf_enter Tryz.func121 19 [(0, (.slice none 0 0))] (fun w0 => ?_)
 refine k_sr <| sp (.slice none 0 0) ?_
 refine s_nr ?_
 refine sp (.slice none 0 0) ?_
 refine s_nt <| k_seq <| k_sr <| sp (.slice none 0 0) ?_
 refine s_lt (t_kern (iw 0)) ?_
 refine sp (iw 0) ?_
 refine s_nt <| k_block ?_
 refine k_loop (ι := Nat) (fun i => i ≤ 0) (fun i => [(3, (.slice none 0 0)), (6, (.slice none 0 0)), (7, iw 0), (8, iw (i : Int))]) (fun i => []) (fun i => 0 - i) 0 (Nat.le_refl _) (sub_of rfl ⟨⟨rfl, rfl⟩, ⟨⟨rfl, rfl⟩, ⟨⟨rfl, rfl⟩, ⟨⟨rfl, rfl⟩, trivial⟩⟩⟩⟩) (fun _ h => h.re [] []) ?_
 rintro i hi1
 show SK _ _ _ _ _ [(3, (.slice none 0 0)), (6, (.slice none 0 0)), (7, iw 0), (8, iw (i : Int))] _ []
 refine k_sr <| s_lt (Lt.to t_cmp (congrArg Value.bool (decide_eq_false (by omega) : (decide ((i : Int) < 0)) = false))) ?_
 refine s_nt <| k_seq <| k_false ?_
 refine k_exit ?_
 refine xs_exit ?_
 refine xs_exit ?_
 refine xs_here ?_
 refine xs_then <| k_sr <| sp (.slice none 0 0) ?_
 refine sp (.slice none 0 0) ?_
 refine s_nt <| k_ret ?_
 exact xs_fin [(.slice none 0 0)] [] (SI.tmp 2 SI.nil) (fun _ h => h.re [] []) ⟨rfl, rfl⟩
theorem creg_s {Z : Zone} {F : List Asr} {q : Nat} : SF Tryz.prog 130 #[.pointer (some ⟨q, 0, none⟩)] Z (blkA q #[.slice none 0 0, .slice none 0 0] 151 :: F) fun r Bs => r = .slice none 0 0 ∧ Bs = blkA q #[.slice none 0 0, .slice none 0 0] 151 :: F := by
 refine sf_enter Tryz.func130 10 [(0, pB q 0)] (fun w0 => ?_)
 refine k_sr <| sp (.slice none 0 0) ?_
 refine s_nt <| k_seq <| k_sr <| sp (pB q 0) ?_
 refine sp (.bool false) ?_
 refine s_nt <| k_false ?_
 refine k_st <| k_sr <| sp (pB q 0) ?_
 refine sp (pB q 0) ?_
 refine sp (pB q 0) ?_
 refine s_lt (t_load 0 (.slice none 0 0)) ?_
 refine s_vcall (fun _ h => cids_s) ?_
 rintro _ rfl
 refine sp (.slice none 0 0) ?_
 refine s_nt <| k_ret ?_
 exact xs_fin [(.slice none 0 0)] (blkA q #[.slice none 0 0, .slice none 0 0] 151 :: F) (SI.tmp 2 SI.nil) (fun _ h => h.re [0] []) ⟨rfl, rfl⟩
theorem cpen_s {Z : Zone} {F : List Asr} {q : Nat} : SF Tryz.prog 56 #[.pointer (some ⟨q, 0, none⟩)] Z (blkA q #[.slice none 0 0, .slice none 0 0] 151 :: F) fun r Bs => r = .slice none 0 0 ∧ Bs = blkA q #[.slice none 0 0, .slice none 0 0] 151 :: F := by
 refine sf_enter Tryz.func56 10 [(0, pB q 0)] (fun w0 => ?_)
 refine k_sr <| sp (.slice none 0 0) ?_
 refine s_nt <| k_seq <| k_sr <| sp (pB q 0) ?_
 refine sp (.bool false) ?_
 refine s_nt <| k_false ?_
 refine k_st <| k_sr <| sp (pB q 0) ?_
 refine sp (pB q 0) ?_
 refine sp (pB q 1) ?_
 refine s_lt (t_load 0 (.slice none 0 0)) ?_
 refine s_vcall (fun _ h => cids_s) ?_
 rintro _ rfl
 refine sp (.slice none 0 0) ?_
 refine s_nt <| k_ret ?_
 exact xs_fin [(.slice none 0 0)] (blkA q #[.slice none 0 0, .slice none 0 0] 151 :: F) (SI.tmp 2 SI.nil) (fun _ h => h.re [0] []) ⟨rfl, rfl⟩
theorem cqnew_s {Z : Zone} : SF Tryz.prog 62 #[] Z [] fun r Bs => ∃ q, r = .pointer (some ⟨q, 0, none⟩) ∧ Bs = [blkA q #[.slice none 0 0, .slice none 0 0] 151] := by
 refine sf_enter Tryz.func62 3 [] (fun w0 => ?_)
 refine k_sr <| sp (.pointer none) ?_
 refine s_nr ?_
 refine s_lt (t_kern (.agg #[(.slice none 0 0), (.slice none 0 0)])) ?_
 refine s_box #[(.slice none 0 0), (.slice none 0 0)] (fun g1 => ?_)
 refine sp (pB g1 0) ?_
 refine s_nt <| k_ret ?_
 exact xs_fin [.pointer (some ⟨g1, 0, none⟩)] [blkA g1 #[.slice none 0 0, .slice none 0 0] 151] (SI.tmp 0 SI.nil) (fun _ h => h.re [0] []) ⟨g1, rfl, rfl⟩
theorem cnew_s {Z : Zone} {hb : Nat} : SF Tryz.prog 26 #[.pointer (some ⟨hb, 0, none⟩)] Z [] fun r Bs => ∃ b q, r = .tuple #[.pointer (some ⟨b, 0, none⟩), iw 0] ∧ Bs = [coA b q hb 0 [] [] [] []] := by
 refine sf_enter Tryz.func26 11 [(0, pB hb 0)] (fun w0 => ?_)
 refine k_sr <| sp (.pointer none) ?_
 refine sp (iw 0) ?_
 refine s_nt <| k_seq <| k_sr <| sp (pB hb 0) ?_
 refine sp (.bool false) ?_
 refine s_nt <| k_false ?_
 refine k_st <| k_sr <| s_pcall (fun _ h => cqnew_s) ?_
 rintro _ _ ⟨q1, rfl, rfl⟩
 refine sp (pB hb 0) ?_
 refine s_makeMap iK cV (fun b2 => ?_)
 refine s_lt (t_kern (.agg #[pB q1 0, pB hb 0, iw 0, .map (some b2), (.slice none 0 0), (.slice none 0 0), (.slice none 0 0)])) ?_
 refine s_box #[pB q1 0, pB hb 0, iw 0, .map (some b2), (.slice none 0 0), (.slice none 0 0), (.slice none 0 0)] (fun g3 => ?_)
 refine sp (pB g3 0) ?_
 refine sp (iw 0) ?_
 refine s_nt <| k_ret <| xs_mem (fun _ h => Holds.nilO (T := iTy) h) ?_
 refine xs_mem (fun _ h => Holds.nilO (T := iTy) h) ?_
 refine xs_mem (fun _ h => Holds.nilO (T := iTy) h) ?_
 refine xs_mem (fun _ h => co_shut (h.re [3, 4, 3, 0, 0, 0] [])) ?_
 exact xs_fin [.pointer (some ⟨g3, 0, none⟩), iw 0] [coA g3 q1 hb 0 [] [] [] []] (SI.tmp 2 (SI.tmp 3 SI.nil)) (fun _ h => h.re [0] []) ⟨g3, q1, rfl, rfl⟩
def crf (st : Hst) (id : Int) : List Int := hrefs st id ++ (hents st id).flatMap allE
theorem crf_bound {st : Hst} {n : Nat} (hsm : HSm n st) (hn : n ≤ 300) (id : Int) : (hrefs st id).length ≤ 400 ∧ (hents st id).length ≤ 91000 ∧ (crf st id).length ≤ 190000 := by
  have key : (hrefs st id).length ≤ 400 ∧ (hents st id).length ≤ 91000 := by
    cases hg : st.get id with
    | none => have := obj_none hg 0; rw [this.2.2.2.2.1, this.2.2.2.2.2]; exact ⟨Nat.zero_le _, Nat.zero_le _⟩
    | some o =>
      obtain ⟨h1, h2, h3⟩ := ob_bound hsm hn hg
      have ho := obj_some hg 0
      rw [ho.2.2.2.2.1, ho.2.2.2.2.2]
      refine ⟨?_, ?_⟩
      · have := refsL_len (o.mt :: o.vals) (o.vals.length + 1)
        have e : refsL (o.mt :: o.vals) (o.vals.length + 1) = refsOf o := refsL_end (by simp)
        rw [e] at this; omega
      · split
        · unfold entsOf
          have h4 := entL_len (tents o.tab); have h5 := tents_len o.tab; omega
        · exact Nat.zero_le _
  refine ⟨key.1, key.2, ?_⟩
  unfold crf; rw [List.length_append, ent_len]; omega
theorem crefs_s {Z : Zone} {F : List Asr} {b q hb : Nat} {ph : Int} {m : List (Int × Int)} {Q L Fr : List Int} {st : Hst} {x : Int} {n : Nat} (hsm : HSm n st) (hn : n ≤ 300) (hW : HW st) : SF Tryz.prog 66 #[.pointer (some ⟨b, 0, none⟩), iw x] Z (coA b q hb ph m Q L Fr :: hpA hb st :: F) fun r Bs => Bs = own iTy r (crf st x) :: coA b q hb ph m Q L Fr :: hpA hb st :: F := by
 refine sf_enter Tryz.func66 38 [(0, pB b 0), (1, iw x)] (fun w0 => ?_)
 refine k_sr <| sp (.slice none 0 0) ?_
 refine s_nr ?_
 refine sp (pB b 0) ?_
 refine sp (pB b 0) ?_
 refine sp (pB b 1) ?_
 refine s_mem4 (fun H h => co_open (h.re [0] [])) (fun mb1 qv2 lv3 fv4 hw => ?_)
 refine s_lt (t_load 0 (pB hb 0)) ?_
 refine sp (iw x) ?_
 refine s_call [6] (hobject_s (st := st) hsm (by omega) hW x 0) ?_
 rintro _ _ ⟨rv5, ev6, rfl, rfl⟩
 refine s_fact (fun H h => ((Acc.own (T := iTy) (L := (hrefs st x)) 0 rfl) H h).form) (fun hf7 => ?_)
 refine s_fact (fun H h => ((Acc.own (T := EntT) (L := (hents st x)) 1 rfl) H h).form) (fun hf8 => ?_)
 obtain ⟨hrl, hel, hcl⟩ := crf_bound hsm hn x
 refine sp (.tuple #[.agg #[iw (hoId st x), iw (hoSz st x), iw (hoWk st x 0), rv5, ev6], .bool (halive st x)]) ?_
 refine sp (.agg #[iw (hoId st x), iw (hoSz st x), iw (hoWk st x 0), rv5, ev6]) ?_
 refine sp (.bool (halive st x)) ?_
 refine s_alloc (.agg #[iw 0, iw 0, iw 0, (.slice none 0 0), (.slice none 0 0)]) #[iw 0, iw 0, iw 0, (.slice none 0 0), (.slice none 0 0)] (fun g9 => ?_)
 refine s_store (u := .agg #[iw (hoId st x), iw (hoSz st x), iw (hoWk st x 0), rv5, ev6]) (m := 5) 0 #[iw (hoId st x), iw (hoSz st x), iw (hoWk st x 0), rv5, ev6] ?_ (hm := by (obtain ⟨_, _, e⟩ := hf7; rw [e]; obtain ⟨_, _, e⟩ := hf8; rw [e]; rfl)) (h1 := by (obtain ⟨_, _, e⟩ := hf7; rw [e]; obtain ⟨_, _, e⟩ := hf8; rw [e]; rfl)) (ha' := by (obtain ⟨_, _, e⟩ := hf7; rw [e]; obtain ⟨_, _, e⟩ := hf8; rw [e]; rfl))
 refine sp (.bool (halive st x)) ?_
 refine s_nr ?_
 refine sp (pB g9 3) ?_
 refine s_lt (t_load 0 rv5) ?_
 refine s_pcall (fun _ h => clone_s (Acc.kn (.own 1) h) (by (try simp only [lnm]); omega)) ?_
 rintro v10 _ rfl
 refine s_fact (fun H h => ((Acc.own (T := iTy) (L := (hrefs st x)) 0 rfl) H h).form) (fun hf11 => ?_)
 refine sp v10 ?_
 refine s_nt <| k_seq <| k_sr <| sp (pB g9 4) ?_
 refine s_lt (t_load 1 ev6) ?_
 refine s_lt (t_len EntT_ok Tryz.underlying98 (.own 3)) ?_
 refine sp (iw 0) ?_
 refine s_nt <| k_block ?_
 refine k_mem (fun _ h => co_shut (h.re [5, 5, 5, 5, 5, 5] [])) ?_
 refine k_mem (Bs := coA b q hb ph m Q L Fr :: own iTy v10 (hrefs st x ++ ((hents st x).take 0).flatMap allE) :: blkA g9 #[iw (hoId st x), iw (hoSz st x), iw (hoWk st x 0), rv5, ev6] 100 :: own iTy rv5 (hrefs st x) :: own EntT ev6 (hents st x) :: hpA hb st :: F) (fun _ h => by rw [show hrefs st x ++ ((hents st x).take 0).flatMap allE = hrefs st x from List.append_nil _]; exact h) ?_
 refine k_loop (ι := Value × Nat) (fun (sx, i) => i ≤ (hents st x).length) (fun (sx, i) => [(7, sx), (23, ev6), (24, iw ((hents st x).length : Int)), (25, iw (i : Int))]) (fun (sx, i) => coA b q hb ph m Q L Fr :: own iTy sx (hrefs st x ++ ((hents st x).take i).flatMap allE) :: blkA g9 #[iw (hoId st x), iw (hoSz st x), iw (hoWk st x 0), rv5, ev6] 100 :: own iTy rv5 (hrefs st x) :: own EntT ev6 (hents st x) :: hpA hb st :: F) (fun (sx, i) => (hents st x).length - i) (v10, 0) (Nat.zero_le _) (sub_of rfl ⟨⟨rfl, rfl⟩, ⟨⟨rfl, rfl⟩, ⟨⟨rfl, rfl⟩, ⟨⟨rfl, rfl⟩, trivial⟩⟩⟩⟩) (fun _ h => h.re [0, 0, 0, 0, 0, 0] []) ?_
 rintro ⟨sx, i⟩ hi12
 replace hi12 : i ≤ (hents st x).length := hi12
 show SK _ _ _ _ _ [(7, sx), (23, ev6), (24, iw ((hents st x).length : Int)), (25, iw (i : Int))] _ (coA b q hb ph m Q L Fr :: own iTy sx (hrefs st x ++ ((hents st x).take i).flatMap allE) :: blkA g9 #[iw (hoId st x), iw (hoSz st x), iw (hoWk st x 0), rv5, ev6] 100 :: own iTy rv5 (hrefs st x) :: own EntT ev6 (hents st x) :: hpA hb st :: F)
 have hfl := ent_len ((hents st x).take i); rw [List.length_take] at hfl
 refine k_sr <| s_lt t_cmp ?_
 refine s_nt <| k_seq <| k_cond (decide ((i : Int) < ((hents st x).length : Int))) (fun c13 => ?_) (fun c13 => ?_)
 ·
  have p14 := of_decide_eq_true c13
  refine k_st <| k_seq <| k_block ?_
  refine k_sr <| s_lt (t_index EntT_ok Tryz.underlying98 (.own 4) (i : Int) i (by omega) (by (try simp only [lnm]); omega) (by omega)) ?_
  obtain ⟨y15, hy16⟩ : ∃ y, (hents st x)[i]? = some y := ⟨_, List.getElem?_eq_getElem (by (try simp only [lnm]); omega)⟩
  refine s_lt (t_loadE EntT_ok (.own 4) hy16) ?_
  refine s_alloc (.agg #[iw 0, iw 0]) #[iw 0, iw 0] (fun g17 => ?_)
  refine s_store 0 #[iw y15.key, iw y15.val] ?_
  refine s_nt <| k_reg ?_
  refine sp sx ?_
  refine sp (pB g17 0) ?_
  refine s_lt (t_load 0 (iw y15.key)) ?_
  refine sp (pB g17 1) ?_
  refine s_lt (t_load 0 (iw y15.val)) ?_
  refine s_buildSlice (e := 3) [(0, iw y15.key), (1, iw y15.val)] #[iw y15.key, iw y15.val] (fun g18 => ?_) (hb := by kernel_rfl)
  refine s_append (L := (hrefs st x ++ ((hents st x).take i).flatMap allE)) 3 iTy_ok Tryz.underlying23 (.lit 0 iTy_ok [y15.key, y15.val]) (by show _ * 8 ≤ _; (try simp only [lnm]); omega) (by (try simp only [lnm]); omega) (fun v19 => ?_)
  refine s_fact (fun H h => ((Acc.own (T := iTy) (L := ((hrefs st x ++ ((hents st x).take i).flatMap allE) ++ [y15.key, y15.val])) 3 rfl) H h).form) (fun hf20 => ?_)
  refine sp v19 ?_
  refine s_nil <| xs_block ?_
  refine xs_then <| k_reg ?_
  refine s_lt (t_add (i : Int) 1 (by (try simp only [lnm]); omega)) ?_
  refine sp (iw ((i : Int) + 1)) ?_
  refine s_nil ?_
  rw [List.append_assoc, ent_take hy16]
  exact xs_round (v19, i + 1) (by show (hents st x).length - (i + 1) < (hents st x).length - i; omega) (by show i + 1 ≤ (hents st x).length; omega) (sub_of rfl ⟨⟨rfl, rfl⟩, ⟨⟨rfl, rfl⟩, ⟨⟨rfl, rfl⟩, ⟨⟨rfl, rfl⟩, trivial⟩⟩⟩⟩) (fun _ h => h.re [2, 2, 2, 2, 2, 2] [6, 6])
 ·
  have p21 := of_decide_eq_false c13
  refine k_exit ?_
  refine xs_exit ?_
  refine xs_exit ?_
  refine xs_here ?_
  refine xs_then <| k_sr <| sp sx ?_
  refine sp sx ?_
  refine s_nt <| k_ret ?_
  exact xs_fin [sx] (own iTy sx (crf st x) :: coA b q hb ph m Q L Fr :: hpA hb st :: F) (SI.tmp 4 SI.nil) (fun _ h => by rw [List.take_of_length_le (by omega)] at h; exact h.re [1, 0, 3] [3, 3, 3]) rfl
theorem call_s {Z : Zone} {F : List Asr} {b q hb : Nat} {ph : Int} {m : List (Int × Int)} {Q L Fr : List Int} {rv : Value} {R : List Int} (hR : R.length ≤ 1000000) : SF Tryz.prog 67 #[.pointer (some ⟨b, 0, none⟩), rv] Z (own iTy rv R :: coA b q hb ph m Q L Fr :: F) fun r Bs => Bs = own iTy r R :: own iTy rv R :: coA b q hb ph m Q L Fr :: F := by
 refine sf_enter Tryz.func67 18 [(0, pB b 0), (1, rv)] (fun w0 => ?_)
 refine k_fact (fun H h => ((Acc.own (T := iTy) (L := R) 0 rfl) H h).form) (fun hf => ?_)
 obtain ⟨pp, cc, e⟩ := hf; subst e
 refine k_sr <| sp (.slice none 0 0) ?_
 refine s_nt <| k_seq <| k_mem4 (fun H h => co_open (h.re [1] [])) (fun mb1 qv2 lv3 fv4 hw => ?_)
 refine k_held [blkA b #[pB q 0, pB hb 0, iw ph, .map (some mb1), qv2, lv3, fv4] 91, blkA q #[(.slice none 0 0), (.slice none 0 0)] 151, mpA iK cV mb1 m, own iTy (.slice pp R.length cc) R] ?_
 refine hp_ 0 [0, 0, 0, 3] (.slice pp R.length cc) ?_
 refine hp_ 1 [0, 0, 0, 3] (pB b 0) ?_
 refine hp_ 2 [0, 0, 0, 3] (pB b 0) ?_
 refine hp_ 3 [0, 0, 0, 3] (pB b 0) ?_
 refine h_l 4 rfl [0, 0, 0, 3] (fun _ => (t_load 0 (pB q 0))) ?_
 refine hp_ 6 [0, 0, 0, 3] (pB b 0) ?_
 refine hp_ 7 [0, 0, 0, 3] (pB b 0) ?_
 refine hp_ 8 [0, 0, 0, 3] (pB b 0) ?_
 refine h_l 9 rfl [0, 0, 0, 3] (fun _ => (t_load 0 (pB q 0))) ?_
 refine h_stepS 5 ?_
 refine s_call [1] (creg_s) ?_
 rintro _ _ ⟨rfl, rfl⟩
 refine s_nil (xs_held [1, 0, 0, 3] ?_)
 refine h_stepS 10 ?_
 refine s_call [0] (cpen_s) ?_
 rintro _ _ ⟨rfl, rfl⟩
 refine s_nil (xs_held [1, 0, 0, 3] ?_)
 refine h_stepS 11 ?_
 refine s_buildSlice (e := 23) [(0, (.slice pp R.length cc)), (1, (.slice none 0 0)), (2, (.slice none 0 0))] #[(.slice pp R.length cc), (.slice none 0 0), (.slice none 0 0)] (fun g5 => ?_) (hb := by kernel_rfl)
 refine s_nil (xs_held [2, 1, 1, 4] ?_)
 refine h_stepS 12 ?_
 refine s_pcall (fun _ h => concat_s (S := [⟨pp, cc, R⟩, ⟨none, 0, []⟩, ⟨none, 0, []⟩]) (Acc.kn (T := SqT) (Acc.lit 0 SqT_ok [⟨pp, cc, R⟩, ⟨none, 0, []⟩, ⟨none, 0, []⟩]) h) (each_cons2 (Acc.kn (T := iTy) (.own 7) h) (each_cons2 (Acc.kn (T := iTy) .nil h) (each_cons2 (Acc.kn (T := iTy) .nil h) each_nil2))) (by show 3 ≤ 100; decide) (each_cons2 (by show R.length ≤ _; (try simp only [lnm]); omega) (each_cons2 (by show [].length ≤ _; (try simp only [lnm]); omega) (each_cons2 (by show [].length ≤ _; (try simp only [lnm]); omega) each_nil2)))) ?_
 rintro v6 _ rfl
 have hcat : cat [⟨pp, cc, R⟩, ⟨none, 0, []⟩, ⟨none, 0, []⟩] = R := by simp [cat]
 refine s_mem (Bs := own iTy v6 R :: blkA g5 #[(.slice pp R.length cc), (.slice none 0 0), (.slice none 0 0)] 23 :: blkA q #[(.slice none 0 0), (.slice none 0 0)] 151 :: blkA b #[pB q 0, pB hb 0, iw ph, .map (some mb1), qv2, lv3, fv4] 91 :: mpA iK cV mb1 m :: ownO iTy qv2 Q :: ownO iTy lv3 L :: ownO iTy fv4 Fr :: own iTy (.slice pp R.length cc) R :: F) (fun _ h => by rw [hcat] at h; exact h) ?_
 refine s_fact (fun H h => ((Acc.own (T := iTy) (L := R) 0 rfl) H h).form) (fun hf7 => ?_)
 refine s_nil (xs_held [3, 2, 2, 5] ?_)
 refine hp_ 13 [3, 2, 2, 5] v6 ?_
 refine h_doneS ?_
 refine xs_then <| k_ret <| xs_mem (fun _ h => co_shut (h.re [3, 2, 2, 2, 2, 2] [])) ?_
 exact xs_fin [v6] (own iTy v6 R :: own iTy (.slice pp R.length cc) R :: coA b q hb ph m Q L Fr :: F) (SI.tmp 4 SI.nil) (fun _ h => h.re [1, 2, 0] [3]) rfl
theorem crooted_s {Z : Zone} {F : List Asr} {b q hb : Nat} {ph : Int} {m : List (Int × Int)} {Q L Fr : List Int} {st : Hst} {rv : Value} {R : List Int} (hR : R.length ≤ 100000) (hQ : Q.length ≤ 100000) : SF Tryz.prog 108 #[.pointer (some ⟨b, 0, none⟩), rv] Z (own iTy rv R :: coA b q hb ph m Q L Fr :: hpA hb st :: F) fun r Bs => r = .tuple #[] ∧ Bs = own iTy rv R :: coA b q hb ph (rchA st (m, Q) R).1 (rchA st (m, Q) R).2 L Fr :: hpA hb st :: F := by
 refine sf_enter Tryz.func108 18 [(0, pB b 0), (1, rv)] (fun w0 => ?_)
 refine k_sr <| sp (pB b 0) ?_
 refine sp rv ?_
 refine s_call [0, 0] (call_s (R := R) (by omega)) ?_
 rintro v1 _ rfl
 refine s_fact (fun H h => ((Acc.own (T := iTy) (L := R) 0 rfl) H h).form) (fun hf2 => ?_)
 refine s_lt (t_len iTy_ok Tryz.underlying23 (.own 0)) ?_
 refine sp (iw 0) ?_
 refine s_nt <| k_block ?_
 refine k_mem (Bs := own iTy v1 R :: own iTy rv R :: coA b q hb ph ((rchA st (m, Q) (R.take 0)).1) ((rchA st (m, Q) (R.take 0)).2) L Fr :: hpA hb st :: F) (fun _ h => h) ?_
 refine k_loop (ι := Nat) (fun i => i ≤ R.length) (fun i => [(0, pB b 0), (8, v1), (9, iw (R.length : Int)), (10, iw (i : Int))]) (fun i => own iTy v1 R :: own iTy rv R :: coA b q hb ph ((rchA st (m, Q) (R.take i)).1) ((rchA st (m, Q) (R.take i)).2) L Fr :: hpA hb st :: F) (fun i => R.length - i) 0 (Nat.zero_le _) (sub_of rfl ⟨⟨rfl, rfl⟩, ⟨⟨rfl, rfl⟩, ⟨⟨rfl, rfl⟩, ⟨⟨rfl, rfl⟩, trivial⟩⟩⟩⟩) (fun _ h => h.re [0, 0, 0, 0] []) ?_
 rintro i hi3
 show SK _ _ _ _ _ [(0, .pointer (some ⟨b, 0, none⟩)), (8, v1), (9, iw (R.length : Int)), (10, iw (i : Int))] _ (own iTy v1 R :: own iTy rv R :: coA b q hb ph ((rchA st (m, Q) (R.take i)).1) ((rchA st (m, Q) (R.take i)).2) L Fr :: hpA hb st :: F)
 have hql := rchA_len st (R.take i) (m, Q); rw [List.length_take] at hql; dsimp only at hql
 refine k_sr <| s_lt t_cmp ?_
 refine s_nt <| k_seq <| k_cond (decide ((i : Int) < (R.length : Int))) (fun c4 => ?_) (fun c4 => ?_)
 ·
  have p5 := of_decide_eq_true c4
  refine k_st <| k_seq <| k_block ?_
  refine k_sr <| s_lt (t_index iTy_ok Tryz.underlying23 (.own 0) (i : Int) i (by omega) (by (try simp only [lnm]); omega) (by omega)) ?_
  obtain ⟨y6, hy7⟩ : ∃ y, R[i]? = some y := ⟨_, List.getElem?_eq_getElem (by (try simp only [lnm]); omega)⟩
  refine s_lt (t_loadE iTy_ok (.own 0) hy7) ?_
  refine sp (iw y6) ?_
  refine s_nt <| k_reg ?_
  refine sp (pB b 0) ?_
  refine sp (iw y6) ?_
  refine s_call [2, 2] (creach_s (Q := (rchA st (m, Q) (R.take i)).2) (by omega) y6) ?_
  rintro _ _ ⟨rfl, rfl⟩
  refine s_nil <| xs_block ?_
  refine xs_then <| k_reg ?_
  refine s_lt (t_add (i : Int) 1 (by (try simp only [lnm]); omega)) ?_
  refine sp (iw ((i : Int) + 1)) ?_
  refine s_nil <| xs_mem (Bs := coA b q hb ph ((rchA st (m, Q) (R.take (i + 1))).1) ((rchA st (m, Q) (R.take (i + 1))).2) L Fr :: hpA hb st :: own iTy v1 R :: own iTy rv R :: F) (fun _ h => by rw [rchA_take hy7]; exact h) ?_
  exact xs_round (i + 1) (by show R.length - (i + 1) < R.length - i; omega) (by omega) (sub_of rfl ⟨⟨rfl, rfl⟩, ⟨⟨rfl, rfl⟩, ⟨⟨rfl, rfl⟩, ⟨⟨rfl, rfl⟩, trivial⟩⟩⟩⟩) (fun _ h => h.re [2, 2, 0, 0] [])
 ·
  have p8 := of_decide_eq_false c4
  refine k_exit ?_
  obtain rfl : i = R.length := by omega
  rw [List.take_length]
  refine xs_exit ?_
  refine xs_exit ?_
  refine xs_here ?_
  exact xs_finN [] (own iTy rv R :: coA b q hb ph ((rchA st (m, Q) R).1) ((rchA st (m, Q) R).2) L Fr :: hpA hb st :: F) SI.nil (fun _ h => h.re [1, 1, 1] [3]) ⟨rfl, rfl⟩
theorem cbegin_s {Z : Zone} {F : List Asr} {b q hb : Nat} {ph : Int} {m : List (Int × Int)} {Q L Fr : List Int} {st : Hst} {rv : Value} {R : List Int} (hR : R.length ≤ 100000) : SF Tryz.prog 47 #[.pointer (some ⟨b, 0, none⟩), rv] Z (own iTy rv R :: coA b q hb ph m Q L Fr :: hpA hb st :: F) fun r Bs => r = .tuple #[] ∧ Bs = own iTy rv R :: coA b q hb 1 (rchA st ([], []) R).1 (rchA st ([], []) R).2 L Fr :: hpA hb st :: F := by
 refine sf_enter Tryz.func47 17 [(0, pB b 0), (1, rv)] (fun w0 => ?_)
 refine k_sr <| sp (pB b 0) ?_
 refine s_makeMap iK cV (fun b1 => ?_)
 refine sp (pB b 0) ?_
 refine sp (pB b 3) ?_
 refine s_mem4 (fun H h => co_open (h.re [2] [])) (fun mb2 qv3 lv4 fv5 hw => ?_)
 refine s_store 0 #[pB q 0, pB hb 0, iw ph, .map (some b1), qv3, lv4, fv5] ?_
 refine s_nr ?_
 refine sp (pB b 0) ?_
 refine sp (pB b 0) ?_
 refine sp (pB b 4) ?_
 refine s_store 0 #[pB q 0, pB hb 0, iw ph, .map (some b1), (.slice none 0 0), lv4, fv5] ?_
 refine s_nr ?_
 refine sp (pB b 0) ?_
 refine sp (pB b 0) ?_
 refine sp (pB b 2) ?_
 refine s_store 0 #[pB q 0, pB hb 0, iw 1, .map (some b1), (.slice none 0 0), lv4, fv5] ?_
 refine s_nt <| k_reg ?_
 refine sp (pB b 0) ?_
 refine sp rv ?_
 refine s_mem (fun _ h => Holds.nilO (T := iTy) h) ?_
 refine s_mem (fun _ h => co_shut (h.re [1, 1, 5, 0, 2, 2] [])) ?_
 refine s_call [3, 0, 2] (crooted_s (R := R) (Q := []) (m := []) (by omega) (by first | omega | simp)) ?_
 rintro _ _ ⟨rfl, rfl⟩
 refine s_nil ?_
 exact xs_finN [] (own iTy rv R :: coA b q hb 1 ((rchA st ([], []) R).1) ((rchA st ([], []) R).2) L Fr :: hpA hb st :: F) SI.nil (fun _ h => h.re [0, 0, 0] [3, 3]) ⟨rfl, rfl⟩
end Go.Proofs.YtmhpcebiamkciaaGreat
end
section
set_option linter.unusedSimpArgs false
set_option linter.unusedVariables false
set_option maxRecDepth 100000
set_option maxHeartbeats 2000000
namespace Go.Proofs.YtmhpcebiamkciaaGreat
open Go.Hp Go.J Go.S
open Go.Mem (Ty KTy blk elemAt pre suf blk_pre blk_suf aget aset strK aggDesc)
open Go.Mem (adel apos aget_aset aget_adel)
theorem cmark1_s {Z : Zone} {F : List Asr} {b q hb : Nat} {ph : Int} {m : List (Int × Int)} {Q L Fr : List Int} {st : Hst} {x : Int} {rv : Value} {R : List Int} (hQ : Q.length ≤ 100000) {n : Nat} (hsm : HSm n st) (hn : n ≤ 300) (hW : HW st) : SF Tryz.prog 48 #[.pointer (some ⟨b, 0, none⟩), rv] Z (own iTy rv R :: coA b q hb ph m (x :: Q) L Fr :: hpA hb st :: F) fun r Bs => r = .bool true ∧ Bs = own iTy rv R :: coA b q hb ph (aset (rchA st (m, Q) (crf st x)).1 x 2) (rchA st (m, Q) (crf st x)).2 L Fr :: hpA hb st :: F := by
 refine sf_enter Tryz.func48 65 [(0, pB b 0), (1, rv)] (fun w0 => ?_)
 refine k_sr <| sp (.bool false) ?_
 refine s_nt <| k_seq <| k_sr <| sp (pB b 0) ?_
 refine sp (pB b 0) ?_
 refine sp (pB b 4) ?_
 refine s_mem4 (fun H h => co_open (h.re [1] [])) (fun mb1 qv2 lv3 fv4 hw => ?_)
 refine s_lt (t_load 0 qv2) ?_
 refine s_lt (t_len iTy_ok Tryz.underlying23 (.ownO 3)) ?_
 refine s_lt (Lt.to t_cmp (congrArg Value.bool (decide_eq_false (by simp; omega) : (decide (((x :: Q).length : Int) = 0)) = false))) ?_
 refine s_nt <| k_false ?_
 refine k_st <| k_seq <| k_sr <| sp (pB b 0) ?_
 refine sp (pB b 0) ?_
 refine sp (pB b 4) ?_
 refine s_lt (t_load 0 qv2) ?_
 refine s_lt (t_len iTy_ok Tryz.underlying23 (.ownO 3)) ?_
 refine s_lt (Lt.to t_cmp (congrArg Value.bool (decide_eq_false (by simp; omega) : (decide (((x :: Q).length : Int) = 0)) = false))) ?_
 refine s_nt <| k_false ?_
 refine k_st <| k_sr <| sp (pB b 0) ?_
 refine sp (pB b 0) ?_
 refine sp (pB b 4) ?_
 refine s_lt (t_load 0 qv2) ?_
 refine s_lt (t_index iTy_ok Tryz.underlying23 (.ownO 3) 0 0 (by omega) (by (try simp only [lnm]); omega) (by omega)) ?_
 refine s_lt (t_loadE iTy_ok (.ownO 3) (show ((x :: Q))[0]? = some x from rfl)) ?_
 refine sp (iw x) ?_
 refine s_nr ?_
 refine sp (pB b 0) ?_
 refine sp (pB b 0) ?_
 refine sp (pB b 0) ?_
 refine sp (pB b 4) ?_
 refine s_lt (t_load 0 qv2) ?_
 refine s_lt (t_suf iTy_ok Tryz.underlying23 (.ownO 3) 1 1 (by omega) (by (try simp only [lnm]); omega) (by omega)) ?_
 refine sp (pB b 0) ?_
 refine sp (pB b 4) ?_
 refine s_mem (fun _ h => Holds.sufO (i := 3) h iTy_ok 1 rfl (by (try simp only [lnm]); omega)) ?_
 refine s_fact (fun H h => ((Acc.ownO (T := iTy) (L := ((x :: Q).drop 1)) 3 rfl) H h).form) (fun hf5 => ?_)
 refine s_store (u := (suf iTy.size qv2 1)) (m := 1) 0 #[pB q 0, pB hb 0, iw ph, .map (some mb1), (suf iTy.size qv2 1), lv3, fv4] ?_ (hm := by (obtain ⟨_, _, e⟩ := hf5; rw [e]; rfl)) (h1 := by (obtain ⟨_, _, e⟩ := hf5; rw [e]; rfl)) (ha' := by (obtain ⟨_, _, e⟩ := hf5; rw [e]; rfl))
 refine s_nt <| k_seq <| k_sr <| sp (pB b 0) ?_
 refine sp (iw x) ?_
 refine s_mem (fun _ h => co_shut (h.re [0, 0, 0, 0, 0, 0] [])) ?_
 refine s_call [0, 1] (crefs_s (x := x) hsm hn hW) ?_
 rintro v6 _ rfl
 refine s_fact (fun H h => ((Acc.own (T := iTy) (L := (crf st x)) 0 rfl) H h).form) (fun hf7 => ?_)
 refine s_lt (t_len iTy_ok Tryz.underlying23 (.own 0)) ?_
 refine sp (iw 0) ?_
 refine s_nt <| k_block ?_
 refine k_mem (Bs := own iTy v6 (crf st x) :: coA b q hb ph ((rchA st (m, Q) ((crf st x).take 0)).1) ((rchA st (m, Q) ((crf st x).take 0)).2) L Fr :: hpA hb st :: own iTy rv R :: F) (fun _ h => h) ?_
 obtain ⟨_, _, hcl⟩ := crf_bound hsm hn x
 refine k_loop (ι := Nat) (fun i => i ≤ (crf st x).length) (fun i => [(0, pB b 0), (5, iw x), (50, v6), (51, iw ((crf st x).length : Int)), (52, iw (i : Int))]) (fun i => own iTy v6 (crf st x) :: coA b q hb ph ((rchA st (m, Q) ((crf st x).take i)).1) ((rchA st (m, Q) ((crf st x).take i)).2) L Fr :: hpA hb st :: own iTy rv R :: F) (fun i => (crf st x).length - i) 0 (Nat.zero_le _) (sub_of rfl ⟨⟨rfl, rfl⟩, ⟨⟨rfl, rfl⟩, ⟨⟨rfl, rfl⟩, ⟨⟨rfl, rfl⟩, ⟨⟨rfl, rfl⟩, trivial⟩⟩⟩⟩⟩) (fun _ h => h.re [0, 0, 0, 0] []) ?_
 rintro i hi8
 show SK _ _ _ _ _ [(0, .pointer (some ⟨b, 0, none⟩)), (5, iw x), (50, v6), (51, iw ((crf st x).length : Int)), (52, iw (i : Int))] _ (own iTy v6 (crf st x) :: coA b q hb ph ((rchA st (m, Q) ((crf st x).take i)).1) ((rchA st (m, Q) ((crf st x).take i)).2) L Fr :: hpA hb st :: own iTy rv R :: F)
 have hql := rchA_len st ((crf st x).take i) (m, Q); rw [List.length_take] at hql; dsimp only at hql
 refine k_sr <| s_lt t_cmp ?_
 refine s_nt <| k_seq <| k_cond (decide ((i : Int) < ((crf st x).length : Int))) (fun c9 => ?_) (fun c9 => ?_)
 ·
  have p10 := of_decide_eq_true c9
  refine k_st <| k_seq <| k_block ?_
  refine k_sr <| s_lt (t_index iTy_ok Tryz.underlying23 (.own 0) (i : Int) i (by omega) (by (try simp only [lnm]); omega) (by omega)) ?_
  obtain ⟨y11, hy12⟩ : ∃ y, (crf st x)[i]? = some y := ⟨_, List.getElem?_eq_getElem (by (try simp only [lnm]); omega)⟩
  refine s_lt (t_loadE iTy_ok (.own 0) hy12) ?_
  refine sp (iw y11) ?_
  refine s_nt <| k_reg ?_
  refine sp (pB b 0) ?_
  refine sp (iw y11) ?_
  refine s_call [1, 1] (creach_s (Q := (rchA st (m, Q) ((crf st x).take i)).2) (by omega) y11) ?_
  rintro _ _ ⟨rfl, rfl⟩
  refine s_nil <| xs_block ?_
  refine xs_then <| k_reg ?_
  refine s_lt (t_add (i : Int) 1 (by (try simp only [lnm]); omega)) ?_
  refine sp (iw ((i : Int) + 1)) ?_
  refine s_nil <| xs_mem (Bs := coA b q hb ph ((rchA st (m, Q) ((crf st x).take (i + 1))).1) ((rchA st (m, Q) ((crf st x).take (i + 1))).2) L Fr :: hpA hb st :: own iTy v6 (crf st x) :: own iTy rv R :: F) (fun _ h => by rw [rchA_take hy12]; exact h) ?_
  exact xs_round (i + 1) (by show (crf st x).length - (i + 1) < (crf st x).length - i; omega) (by omega) (sub_of rfl ⟨⟨rfl, rfl⟩, ⟨⟨rfl, rfl⟩, ⟨⟨rfl, rfl⟩, ⟨⟨rfl, rfl⟩, ⟨⟨rfl, rfl⟩, trivial⟩⟩⟩⟩⟩) (fun _ h => h.re [2, 0, 0, 0] [])
 ·
  have p13 := of_decide_eq_false c9
  refine k_exit ?_
  obtain rfl : i = (crf st x).length := by omega
  rw [List.take_length]
  refine xs_exit ?_
  refine xs_exit ?_
  refine xs_here ?_
  refine xs_then <| k_sr <| sp (pB b 0) ?_
  refine sp (pB b 0) ?_
  refine sp (pB b 3) ?_
  refine s_mem4 (fun H h => co_open (h.re [1] [])) (fun mb14 qv15 lv16 fv17 hw => ?_)
  refine s_lt (t_load 0 (.map (some mb14))) ?_
  refine sp (iw x) ?_
  refine s_update 2 intOk Tryz.underlying89 x (2 : Int) ?_
  refine s_nr ?_
  refine sp (.bool true) ?_
  refine s_nt <| k_ret <| xs_mem (fun _ h => co_shut (h.re [0, 0, 0, 0, 0, 0] [])) ?_
  exact xs_fin [.bool true] (own iTy rv R :: coA b q hb ph (aset ((rchA st (m, Q) (crf st x)).1) x (2 : Int)) ((rchA st (m, Q) (crf st x)).2) L Fr :: hpA hb st :: F) (SI.tmp 4 SI.nil) (fun _ h => h.re [3, 0, 1] [3]) ⟨rfl, rfl⟩
theorem cmark2_s {Z : Zone} {F : List Asr} {b q hb : Nat} {ph : Int} {m : List (Int × Int)} {L Fr : List Int} {st : Hst} {rv : Value} {R : List Int} (hR : R.length ≤ 100000) (hz : rchA st (m, []) R = (m, [])) {n : Nat} (hsm : HSm n st) (hn : n ≤ 300) : SF Tryz.prog 48 #[.pointer (some ⟨b, 0, none⟩), rv] Z (own iTy rv R :: coA b q hb ph m [] L Fr :: hpA hb st :: F) fun r Bs => r = .bool false ∧ Bs = own iTy rv R :: coA b q hb 2 m [] (hids st) Fr :: hpA hb st :: F := by
 refine sf_enter Tryz.func48 65 [(0, pB b 0), (1, rv)] (fun w0 => ?_)
 refine k_sr <| sp (.bool false) ?_
 refine s_nt <| k_seq <| k_sr <| sp (pB b 0) ?_
 refine sp (pB b 0) ?_
 refine sp (pB b 4) ?_
 refine s_mem4 (fun H h => co_open (h.re [1] [])) (fun mb1 qv2 lv3 fv4 hw => ?_)
 refine s_lt (t_load 0 qv2) ?_
 refine s_lt (t_len iTy_ok Tryz.underlying23 (.ownO 3)) ?_
 refine s_lt (Lt.to t_cmp (congrArg Value.bool (decide_eq_true rfl : (decide ((([] : List Int).length : Int) = 0)) = true))) ?_
 refine s_nt <| k_true ?_
 refine k_reg ?_
 refine sp (pB b 0) ?_
 refine sp rv ?_
 refine s_mem (fun _ h => co_shut (h.re [0, 0, 0, 0, 0, 0] [])) ?_
 refine s_call [1, 0, 0] (crooted_s (R := R) (Q := ([] : List Int)) (m := m) (by omega) (by first | omega | simp)) ?_
 rintro _ _ ⟨rfl, rfl⟩
 refine s_mem (Bs := own iTy rv R :: coA b q hb ph m ([] : List Int) L Fr :: hpA hb st :: F) (fun _ h => by rw [hz] at h; exact h) ?_
 refine s_nt <| k_seq <| k_sr <| sp (pB b 0) ?_
 refine sp (pB b 0) ?_
 refine sp (pB b 4) ?_
 refine s_mem4 (fun H h => co_open (h.re [1] [])) (fun mb5 qv6 lv7 fv8 hw => ?_)
 refine s_lt (t_load 0 qv6) ?_
 refine s_lt (t_len iTy_ok Tryz.underlying23 (.ownO 3)) ?_
 refine s_lt (Lt.to t_cmp (congrArg Value.bool (decide_eq_true rfl : (decide ((([] : List Int).length : Int) = 0)) = true))) ?_
 refine s_nt <| k_true ?_
 refine k_sr <| sp (pB b 0) ?_
 refine sp (pB b 0) ?_
 refine sp (pB b 2) ?_
 refine s_store 0 #[pB q 0, pB hb 0, iw 2, .map (some mb5), qv6, lv7, fv8] ?_
 refine s_nr ?_
 refine sp (pB b 0) ?_
 refine sp (pB b 0) ?_
 refine sp (pB b 0) ?_
 refine sp (pB b 1) ?_
 refine s_lt (t_load 0 (pB hb 0)) ?_
 refine s_call [7] (hids_s (st := st) hsm (by omega)) ?_
 rintro v9 _ rfl
 refine s_fact (fun H h => ((Acc.own (T := iTy) (L := (hids st)) 0 rfl) H h).form) (fun hf10 => ?_)
 refine sp (pB b 0) ?_
 refine sp (pB b 5) ?_
 refine s_store (u := v9) (m := 1) 2 #[pB q 0, pB hb 0, iw 2, .map (some mb5), qv6, v9, fv8] ?_ (hm := by (obtain ⟨_, _, e⟩ := hf10; rw [e]; rfl)) (h1 := by (obtain ⟨_, _, e⟩ := hf10; rw [e]; rfl)) (ha' := by (obtain ⟨_, _, e⟩ := hf10; rw [e]; rfl))
 refine s_nr ?_
 refine sp (.bool false) ?_
 refine s_nt <| k_ret <| xs_ret <| xs_mem (fun _ h => Holds.toO (h.re [0] [])) ?_
 refine xs_mem (fun _ h => co_shut (h.re [2, 2, 2, 2, 0, 2] [])) ?_
 exact xs_fin [.bool false] (own iTy rv R :: coA b q hb 2 m ([] : List Int) (hids st) Fr :: hpA hb st :: F) (SI.tmp 4 SI.nil) (fun _ h => h.re [3, 0, 0] [3]) ⟨rfl, rfl⟩
theorem csweep2_s {Z : Zone} {F : List Asr} {b q hb : Nat} {ph : Int} {m : List (Int × Int)} {Q L Fr : List Int} {x : Int} (hz : ¬ mgt m x = 0) : SF Tryz.prog 49 #[.pointer (some ⟨b, 0, none⟩)] Z (coA b q hb ph m Q (x :: L) Fr :: F) fun r Bs => r = .tuple #[] ∧ Bs = coA b q hb ph (adel m x) Q L Fr :: F := by
 refine sf_enter Tryz.func49 45 [(0, pB b 0)] (fun w0 => ?_)
 refine k_sr <| sp (pB b 0) ?_
 refine sp (pB b 0) ?_
 refine sp (pB b 5) ?_
 refine s_mem4 (fun H h => co_open (h.re [0] [])) (fun mb1 qv2 lv3 fv4 hw => ?_)
 refine s_lt (t_load 0 lv3) ?_
 refine s_lt (t_index iTy_ok Tryz.underlying23 (.ownO 4) 0 0 (by omega) (by (try simp only [lnm]); omega) (by omega)) ?_
 refine s_lt (t_loadE iTy_ok (.ownO 4) (show ((x :: L))[0]? = some x from rfl)) ?_
 refine sp (iw x) ?_
 refine s_nr ?_
 refine sp (pB b 0) ?_
 refine sp (pB b 0) ?_
 refine sp (pB b 0) ?_
 refine sp (pB b 5) ?_
 refine s_lt (t_load 0 lv3) ?_
 refine s_lt (t_suf iTy_ok Tryz.underlying23 (.ownO 4) 1 1 (by omega) (by (try simp only [lnm]); omega) (by omega)) ?_
 refine sp (pB b 0) ?_
 refine sp (pB b 5) ?_
 refine s_mem (fun _ h => Holds.sufO (i := 4) h iTy_ok 1 rfl (by (try simp only [lnm]); omega)) ?_
 refine s_fact (fun H h => ((Acc.ownO (T := iTy) (L := ((x :: L).drop 1)) 4 rfl) H h).form) (fun hf5 => ?_)
 refine s_store (u := (suf iTy.size lv3 1)) (m := 1) 0 #[pB q 0, pB hb 0, iw ph, .map (some mb1), qv2, (suf iTy.size lv3 1), fv4] ?_ (hm := by (obtain ⟨_, _, e⟩ := hf5; rw [e]; rfl)) (h1 := by (obtain ⟨_, _, e⟩ := hf5; rw [e]; rfl)) (ha' := by (obtain ⟨_, _, e⟩ := hf5; rw [e]; rfl))
 refine s_nr ?_
 refine sp (pB b 0) ?_
 refine sp (pB b 0) ?_
 refine sp (pB b 3) ?_
 refine s_lt (t_load 0 (.map (some mb1))) ?_
 refine sp (iw x) ?_
 refine s_lt (Lt.to (v' := iw (mgt m x)) (t_lookup 2 intOk Tryz.underlying89 (iw 0) x) (mgt_is _ _)) ?_
 refine s_lt (Lt.to t_cmp (congrArg Value.bool (decide_eq_false hz : (decide ((mgt m x) = 0)) = false))) ?_
 refine s_nt <| k_false ?_
 refine k_reg ?_
 refine sp (pB b 0) ?_
 refine sp (pB b 0) ?_
 refine sp (pB b 3) ?_
 refine s_lt (t_load 0 (.map (some mb1))) ?_
 refine sp (iw x) ?_
 refine s_delete0 2 intOk Tryz.underlying89 x ?_
 refine s_nil <| xs_mem (fun _ h => co_shut (h.re [0, 0, 0, 0, 0, 0] [])) ?_
 exact xs_finN [] (coA b q hb ph (adel m x) Q ((x :: L).drop 1) Fr :: F) SI.nil (fun _ h => h.re [0] []) ⟨rfl, rfl⟩
theorem csweep1_s {Z : Zone} {F : List Asr} {b q hb : Nat} {ph : Int} {m : List (Int × Int)} {Q L Fr : List Int} {st : Hst} {x : Int} (hz : mgt m x = 0) (hF : Fr.length ≤ 100000) : SF Tryz.prog 49 #[.pointer (some ⟨b, 0, none⟩)] Z (coA b q hb ph m Q (x :: L) Fr :: hpA hb st :: F) fun r Bs => r = .tuple #[] ∧ Bs = coA b q hb ph m Q L (Fr ++ [x]) :: hpA hb (hdrop st x) :: F := by
 refine sf_enter Tryz.func49 45 [(0, pB b 0)] (fun w0 => ?_)
 refine k_sr <| sp (pB b 0) ?_
 refine sp (pB b 0) ?_
 refine sp (pB b 5) ?_
 refine s_mem4 (fun H h => co_open (h.re [0] [])) (fun mb1 qv2 lv3 fv4 hw => ?_)
 refine s_lt (t_load 0 lv3) ?_
 refine s_lt (t_index iTy_ok Tryz.underlying23 (.ownO 4) 0 0 (by omega) (by (try simp only [lnm]); omega) (by omega)) ?_
 refine s_lt (t_loadE iTy_ok (.ownO 4) (show ((x :: L))[0]? = some x from rfl)) ?_
 refine sp (iw x) ?_
 refine s_nr ?_
 refine sp (pB b 0) ?_
 refine sp (pB b 0) ?_
 refine sp (pB b 0) ?_
 refine sp (pB b 5) ?_
 refine s_lt (t_load 0 lv3) ?_
 refine s_lt (t_suf iTy_ok Tryz.underlying23 (.ownO 4) 1 1 (by omega) (by (try simp only [lnm]); omega) (by omega)) ?_
 refine sp (pB b 0) ?_
 refine sp (pB b 5) ?_
 refine s_mem (fun _ h => Holds.sufO (i := 4) h iTy_ok 1 rfl (by (try simp only [lnm]); omega)) ?_
 refine s_fact (fun H h => ((Acc.ownO (T := iTy) (L := ((x :: L).drop 1)) 4 rfl) H h).form) (fun hf5 => ?_)
 refine s_store (u := (suf iTy.size lv3 1)) (m := 1) 0 #[pB q 0, pB hb 0, iw ph, .map (some mb1), qv2, (suf iTy.size lv3 1), fv4] ?_ (hm := by (obtain ⟨_, _, e⟩ := hf5; rw [e]; rfl)) (h1 := by (obtain ⟨_, _, e⟩ := hf5; rw [e]; rfl)) (ha' := by (obtain ⟨_, _, e⟩ := hf5; rw [e]; rfl))
 refine s_nr ?_
 refine sp (pB b 0) ?_
 refine sp (pB b 0) ?_
 refine sp (pB b 3) ?_
 refine s_lt (t_load 0 (.map (some mb1))) ?_
 refine sp (iw x) ?_
 refine s_lt (Lt.to (v' := iw (mgt m x)) (t_lookup 2 intOk Tryz.underlying89 (iw 0) x) (mgt_is _ _)) ?_
 refine s_lt (Lt.to t_cmp (congrArg Value.bool (decide_eq_true hz : (decide ((mgt m x) = 0)) = true))) ?_
 refine s_nt <| k_true ?_
 refine k_sr <| sp (pB b 0) ?_
 refine sp (pB b 0) ?_
 refine sp (pB b 1) ?_
 refine s_lt (t_load 0 (pB hb 0)) ?_
 refine sp (iw x) ?_
 refine s_call [6] (hdrop_s (st := st) x) ?_
 rintro _ _ ⟨rfl, rfl⟩
 refine s_nt <| k_reg ?_
 refine sp (pB b 0) ?_
 refine sp (pB b 0) ?_
 refine sp (pB b 0) ?_
 refine sp (pB b 6) ?_
 refine s_lt (t_load 1 fv4) ?_
 refine sp (iw x) ?_
 refine s_buildSlice (e := 3) [(0, iw x)] #[iw x] (fun g6 => ?_) (hb := by kernel_rfl)
 refine s_appendO (L := Fr) 7 iTy_ok Tryz.underlying23 (.lit 0 iTy_ok [x]) (by show _ * 8 ≤ _; (try simp only [lnm]); omega) (by (try simp only [lnm]); omega) (fun v7 => ?_)
 refine s_fact (fun H h => ((Acc.ownO (T := iTy) (L := (Fr ++ [x])) 7 rfl) H h).form) (fun hf8 => ?_)
 refine sp (pB b 0) ?_
 refine sp (pB b 6) ?_
 refine s_store (u := v7) (m := 1) 2 #[pB q 0, pB hb 0, iw ph, .map (some mb1), qv2, (suf iTy.size lv3 1), v7] ?_ (hm := by (obtain ⟨_, _, e⟩ := hf8; rw [e]; rfl)) (h1 := by (obtain ⟨_, _, e⟩ := hf8; rw [e]; rfl)) (ha' := by (obtain ⟨_, _, e⟩ := hf8; rw [e]; rfl))
 refine s_nil <| xs_mem (fun _ h => co_shut (h.re [2, 2, 2, 2, 2, 2] [])) ?_
 exact xs_finN [] (coA b q hb ph m Q ((x :: L).drop 1) (Fr ++ [x]) :: hpA hb (hdrop st x) :: F) SI.nil (fun _ h => h.re [0, 1] [2]) ⟨rfl, rfl⟩
theorem cphase_s {Z : Zone} {F : List Asr} {b q hb : Nat} {ph : Int} {m : List (Int × Int)} {Q L Fr : List Int} : SF Tryz.prog 15 #[.pointer (some ⟨b, 0, none⟩)] Z (coA b q hb ph m Q L Fr :: F) fun r Bs => r = iw ph ∧ Bs = coA b q hb ph m Q L Fr :: F := by
 refine sf_enter Tryz.func15 9 [(0, pB b 0)] (fun w0 => ?_)
 refine k_sr <| sp (iw 0) ?_
 refine s_nt <| k_seq <| k_sr <| sp (pB b 0) ?_
 refine sp (.bool false) ?_
 refine s_nt <| k_false ?_
 refine k_st <| k_sr <| sp (pB b 0) ?_
 refine sp (pB b 0) ?_
 refine sp (pB b 2) ?_
 refine s_mem4 (fun H h => co_open (h.re [0] [])) (fun mb1 qv2 lv3 fv4 hw => ?_)
 refine s_lt (t_load 0 (iw ph)) ?_
 refine sp (iw ph) ?_
 refine s_nt <| k_ret <| xs_mem (fun _ h => co_shut (h.re [0, 0, 0, 0, 0, 0] [])) ?_
 exact xs_fin [iw ph] (coA b q hb ph m Q L Fr :: F) (SI.tmp 2 SI.nil) (fun _ h => h.re [0] []) ⟨rfl, rfl⟩
theorem cfreed_s {Z : Zone} {F : List Asr} {b q hb : Nat} {ph : Int} {m : List (Int × Int)} {Q L Fr : List Int} (hF : Fr.length ≤ 100000) : SF Tryz.prog 25 #[.pointer (some ⟨b, 0, none⟩)] Z (coA b q hb ph m Q L Fr :: F) fun r Bs => Bs = own iTy r Fr :: coA b q hb ph m Q L Fr :: F := by
 refine sf_enter Tryz.func25 10 [(0, pB b 0)] (fun w0 => ?_)
 refine k_sr <| sp (.slice none 0 0) ?_
 refine s_nt <| k_seq <| k_sr <| sp (pB b 0) ?_
 refine sp (.bool false) ?_
 refine s_nt <| k_false ?_
 refine k_st <| k_sr <| sp (pB b 0) ?_
 refine sp (pB b 0) ?_
 refine sp (pB b 6) ?_
 refine s_mem4 (fun H h => co_open (h.re [0] [])) (fun mb1 qv2 lv3 fv4 hw => ?_)
 refine s_lt (t_load 0 fv4) ?_
 refine s_pcall (fun _ h => clone_s (Acc.kn (.ownO 5) h) (by (try simp only [lnm]); omega)) ?_
 rintro v5 _ rfl
 refine s_fact (fun H h => ((Acc.own (T := iTy) (L := Fr) 0 rfl) H h).form) (fun hf6 => ?_)
 refine sp v5 ?_
 refine s_nt <| k_ret <| xs_mem (fun _ h => co_shut (h.re [1, 1, 1, 1, 1, 1] [])) ?_
 exact xs_fin [v5] (own iTy v5 Fr :: coA b q hb ph m Q L Fr :: F) (SI.tmp 2 SI.nil) (fun _ h => h.re [1, 0] []) rfl
end Go.Proofs.YtmhpcebiamkciaaGreat
end
section
set_option linter.unusedSimpArgs false
set_option linter.unusedVariables false
namespace Go.Proofs.YtmhpcebiamkciaaGreat
open Go.Hp Go.J Go.S
open Go.Mem (Ty KTy blk aget aset adel aget_aset)
def gq (st : Hst) (R : List Int) : Nat → List Int
  | 0 => srs (halive st) [] R
  | h + 1 => match (gq st R h)[h]? with
    | some x => srs (halive st) (gq st R h) (crf st x)
    | none => gq st R h
section
variable {st : Hst} {R G X Q : List Int} {m : List (Int × Int)} {h q n t s : Nat} {x id : Int}
theorem gq_succ (hx : (gq st R h)[h]? = some x) : gq st R (h + 1) = srs (halive st) (gq st R h) (crf st x) := by rw [gq, hx]
theorem gq_bq (hlt : ∀ h < n, h < (gq st R h).length) : ∀ h ≤ n, Bq (halive st) (crf st) R h (gq st R h)
  | 0, _ => bq_start _ _ _
  | h + 1, hn => by
    have b := gq_bq hlt h (by omega)
    have hx : (gq st R h)[h]? = some ((gq st R h)[h]'(hlt h (by omega))) := List.getElem?_eq_getElem _
    rw [gq_succ hx]; exact b.step hx
structure Lv (st : Hst) (R : List Int) (n : Nat) : Prop where
  lt : ∀ h < n, h < (gq st R h).length
  eq : (gq st R n).length = n
theorem Lv.bq (v : Lv st R n) (ht : t ≤ n) : Bq (halive st) (crf st) R t (gq st R t) := gq_bq v.lt t ht
theorem Lv.iff (v : Lv st R n) (x : Int) : x ∈ gq st R n ↔ Rq (halive st) (crf st) R x := (v.bq (Nat.le_refl n)).fin (Nat.le_of_eq v.eq) x
theorem Lv.le (v : Lv st R n) : n ≤ (hids st).length := by
  have := (v.bq (Nat.le_refl n)).len (A := hids st) fun x hx => mem_hids.2 hx
  rw [v.eq] at this; exact this
theorem lv_ex (st : Hst) (R : List Int) : ∃ n, Lv st R n := by
  have key : ∀ k : Nat, (∃ n, Lv st R n) ∨ ∀ h < k, h < (gq st R h).length := by
    intro k
    induction k with
    | zero => exact .inr fun h hh => absurd hh (Nat.not_lt_zero h)
    | succ k ih =>
      rcases ih with ih | ih
      · exact .inl ih
      · by_cases hk : k < (gq st R k).length
        · refine .inr fun h hh => ?_
          rcases Nat.lt_or_ge h k with h1 | h1
          · exact ih h h1
          · have : h = k := by omega
            subst this; exact hk
        · have := (gq_bq ih k (Nat.le_refl k)).top
          exact .inl ⟨k, ih, by omega⟩
  rcases key ((hids st).length + 1) with h | h
  · exact h
  · have b := gq_bq h ((hids st).length + 1) (Nat.le_refl _)
    have := b.len (A := hids st) fun x hx => mem_hids.2 hx
    have := b.top
    omega
def Col (m : List (Int × Int)) (G : List Int) (h : Nat) : Prop := ∀ id, mgt m id = clI G h id
theorem mgt_aset (m : List (Int × Int)) (k v id : Int) : mgt (aset m k v) id = if id = k then v else mgt m id := by
  unfold mgt; rw [aget_aset]; split <;> rfl
theorem aget_adel_ne {m : List (Int × Int)} {k k' : Int} (hk : k' ≠ k) : aget (adel m k) k' = aget m k' := by
  induction m with
  | nil => simp [adel, aget]
  | cons p r ih =>
    simp only [adel]
    by_cases h : p.1 = k
    · rw [if_pos h]; simp only [aget]; rw [if_neg (fun e => hk (e.symm.trans h))]
    · rw [if_neg h]; simp only [aget]; rw [ih]
theorem clI_white (hn : id ∉ G) : clI G h id = 0 := by
  unfold clI; rw [if_neg fun q => hn (List.mem_of_mem_take q), if_neg hn]
theorem rch_rel (X : List Int) : ∀ {m : List (Int × Int)} {G : List Int}, Col m G h → h ≤ G.length → q ≤ G.length → Col (rchA st (m, G.drop q) X).1 (srs (halive st) G X) h ∧ (rchA st (m, G.drop q) X).2 = (srs (halive st) G X).drop q := by
  induction X with
  | nil => exact fun hc _ _ => ⟨hc, rfl⟩
  | cons a r ih =>
    intro m G hc hh hq
    show Col (rchA st (rchM st m a, rchQ st m (G.drop q) a) r).1 (srs (halive st) (sr1 (halive st) G a) r) h ∧ (rchA st (rchM st m a, rchQ st m (G.drop q) a) r).2 = (srs (halive st) (sr1 (halive st) G a) r).drop q
    by_cases ha : halive st a = true ∧ mgt m a = 0
    · have hn : a ∉ G := clI_zero (by rw [← hc a]; exact ha.2)
      have e1 : rchM st m a = aset m a 1 := if_pos ha
      have e2 : rchQ st m (G.drop q) a = (G ++ [a]).drop q := by unfold rchQ; rw [if_pos ha, List.drop_append_of_le_length hq]
      rw [e1, e2, sr1_yes ha.1 hn]
      refine ih (fun id => ?_) (by rw [List.length_append]; omega) (by rw [List.length_append]; omega)
      rw [mgt_aset, clI_new hh hn, hc id]
    · have e1 : rchM st m a = m := if_neg ha
      have e2 : rchQ st m (G.drop q) a = G.drop q := if_neg ha
      have e3 : sr1 (halive st) G a = G := by
        cases h1 : halive st a with
        | false => exact sr1_dead h1
        | true => exact sr1_in (clI_ne (h := h) (by rw [← hc a]; exact fun e => ha ⟨h1, e⟩))
      rw [e1, e2, e3]; exact ih hc hh hq
theorem rch_none (X : List Int) (hX : ∀ z ∈ X, halive st z = true → mgt m z ≠ 0) : rchA st (m, Q) X = (m, Q) := by
  induction X with
  | nil => rfl
  | cons a r ih =>
    show rchA st (rchM st m a, rchQ st m Q a) r = _
    have ha : ¬ (halive st a = true ∧ mgt m a = 0) := fun q => hX a (by simp) q.1 q.2
    rw [show rchM st m a = m from if_neg ha, show rchQ st m Q a = Q from if_neg ha]
    exact ih fun z hz => hX z (List.mem_cons_of_mem _ hz)
theorem start_rel (st : Hst) (R : List Int) : Col (rchA st ([], []) R).1 (gq st R 0) 0 ∧ (rchA st ([], []) R).2 = (gq st R 0).drop 0 :=
  rch_rel (st := st) (h := 0) (q := 0) R (m := []) (G := []) (fun id => by rw [clI_nil]; rfl) (Nat.le_refl _) (Nat.le_refl _)
theorem mark_step (v : Lv st R n) (ht : t < n) (hc : Col m (gq st R t) t) (hx : (gq st R t)[t]? = some x) :
    Col (aset (rchA st (m, (gq st R t).drop (t + 1)) (crf st x)).1 x 2) (gq st R (t + 1)) (t + 1) ∧ (rchA st (m, (gq st R t).drop (t + 1)) (crf st x)).2 = (gq st R (t + 1)).drop (t + 1) := by
  have hl := v.lt t ht
  have k := rch_rel (st := st) (q := t + 1) (crf st x) hc (by omega) (by omega)
  rw [gq_succ hx]
  refine ⟨fun id => ?_, k.2⟩
  rw [mgt_aset, clI_black (y := x) (by rw [pre_at (srs_ok (halive st) (crf st x) (gq st R t)).pre hl]; exact hx), k.1 id]
theorem again (v : Lv st R n) (hc : Col m (gq st R n) n) : rchA st (m, []) R = (m, []) :=
  rch_none R fun z hz ha e => by
    rw [hc z] at e
    exact clI_zero e ((v.bq (Nat.le_refl n)).roots z hz ha)
def swS (st : Hst) (G : List Int) : Nat → Hst
  | 0 => st
  | s + 1 => match (hids st)[s]? with
    | some x => if x ∈ G then swS st G s else hdrop (swS st G s) x
    | none => swS st G s
def swF (st : Hst) (G : List Int) (s : Nat) : List Int := ((hids st).take s).filter fun x => !decide (x ∈ G)
def SwC (m : List (Int × Int)) (st : Hst) (G : List Int) (s : Nat) : Prop := ∀ id ∈ (hids st).drop s, mgt m id = if id ∈ G then 2 else 0
theorem swS_in (hx : (hids st)[s]? = some x) (h1 : x ∈ G) : swS st G (s + 1) = swS st G s := by rw [swS, hx]; exact if_pos h1
theorem swS_out (hx : (hids st)[s]? = some x) (h1 : x ∉ G) : swS st G (s + 1) = hdrop (swS st G s) x := by rw [swS, hx]; exact if_neg h1
theorem swF_in (hx : (hids st)[s]? = some x) (h1 : x ∈ G) : swF st G (s + 1) = swF st G s := by unfold swF; rw [List.take_add_one, hx]; simp [List.filter_append, h1]
theorem swF_out (hx : (hids st)[s]? = some x) (h1 : x ∉ G) : swF st G (s + 1) = swF st G s ++ [x] := by unfold swF; rw [List.take_add_one, hx]; simp [List.filter_append, h1]
theorem swF_len (st : Hst) (G : List Int) (s : Nat) : (swF st G s).length ≤ (hids st).length := by
  unfold swF; refine Nat.le_trans (List.length_filter_le _ _) ?_; rw [List.length_take]; omega
theorem drop_at {L : List Int} (hx : L[s]? = some x) : L.drop s = x :: L.drop (s + 1) := by
  obtain ⟨h1, h2⟩ := List.getElem?_eq_some_iff.1 hx
  rw [List.drop_eq_getElem_cons h1, h2]
theorem sw_head (hc : SwC m st G s) (hx : (hids st)[s]? = some x) : mgt m x = if x ∈ G then 2 else 0 := hc x (by rw [drop_at hx]; simp)
theorem sw_start (v : Lv st R n) (hc : Col m (gq st R n) n) : SwC m st (gq st R n) 0 := fun id _ => by
  rw [hc id]
  by_cases h1 : id ∈ gq st R n
  · rw [if_pos h1]; exact (clI_end (Nat.le_of_eq v.eq)).2 h1
  · rw [if_neg h1]; exact clI_white h1
theorem sw_same (hc : SwC m st G s) (hx : (hids st)[s]? = some x) : SwC m st G (s + 1) := fun id hi => hc id (by rw [drop_at hx]; exact List.mem_cons_of_mem _ hi)
theorem sw_del (hc : SwC m st G s) (hx : (hids st)[s]? = some x) : SwC (adel m x) st G (s + 1) := fun id hi => by
  have hne : id ≠ x := by
    have := hids_asc st
    rw [← List.take_append_drop s (hids st), drop_at hx, List.pairwise_append] at this
    have := (List.pairwise_cons.1 this.2.1).1 id hi
    omega
  have := sw_same hc hx id hi
  unfold mgt at this ⊢; rw [aget_adel_ne hne]; exact this
theorem swS_get (st : Hst) (G : List Int) (id : Int) : ∀ s : Nat, (swS st G s).get id = if id ∈ (hids st).take s ∧ id ∉ G then none else st.get id
  | 0 => by rw [swS]; simp
  | s + 1 => by
    have ih := swS_get st G id s
    cases hx : (hids st)[s]? with
    | none =>
      have e : (hids st).take (s + 1) = (hids st).take s := by rw [List.take_add_one, hx]; simp
      rw [swS, hx, e]; exact ih
    | some x =>
      have e : id ∈ (hids st).take (s + 1) ↔ id ∈ (hids st).take s ∨ id = x := by rw [List.take_add_one, hx]; simp
      by_cases h1 : x ∈ G
      · rw [swS_in hx h1, ih]
        by_cases h2 : id = x
        · subst h2; rw [if_neg fun q => q.2 h1, if_neg fun q => q.2 h1]
        · simp only [e, h2, or_false]
      · rw [swS_out hx h1, get_drop, ih]
        by_cases h2 : id = x
        · subst h2; rw [if_pos rfl, if_pos ⟨e.2 (.inr rfl), h1⟩]
        · rw [if_neg h2]; simp only [e, h2, or_false]
theorem asc_same {A B : List Int} (hA : A.Pairwise (· < ·)) (hB : B.Pairwise (· < ·)) (hm : ∀ x, x ∈ A ↔ x ∈ B) : A = B := by
  rw [← srt_asc' hA, ← srt_asc' hB]; exact srt_perm' (perm_of_mem (asc_nodup hA) (asc_nodup hB) hm)
theorem swS_ids (st : Hst) (G : List Int) : hids (swS st G (hids st).length) = (hids st).filter fun x => decide (x ∈ G) := by
  refine asc_same (hids_asc _) ((hids_asc st).filter _) fun x => ?_
  rw [mem_hids, List.mem_filter, mem_hids, decide_eq_true_eq]
  unfold halive
  rw [swS_get, List.take_length]
  by_cases h1 : x ∈ hids st ∧ x ∉ G
  · rw [if_pos h1]
    constructor
    · intro q; cases q
    · intro q; exact absurd q.2 h1.2
  · rw [if_neg h1]
    refine ⟨fun q => ⟨q, Decidable.byContradiction fun h2 => h1 ⟨mem_hids.2 q, h2⟩⟩, fun q => q.1⟩
theorem sw_count (L G : List Int) : (L.filter fun x => decide (x ∈ G)).length + (L.filter fun x => !decide (x ∈ G)).length = L.length := by
  induction L with
  | nil => rfl
  | cons a r ih => simp only [List.filter_cons]; by_cases h1 : a ∈ G <;> simp [h1] <;> omega
theorem live_count (v : Lv st R n) : ((hids st).filter fun x => decide (x ∈ gq st R n)).length = n := by
  have b := v.bq (Nat.le_refl n)
  have hnd : ((hids st).filter fun x => decide (x ∈ gq st R n)).Nodup := (asc_nodup (hids_asc st)).filter _
  have h1 := hnd.length_le_of_subset (l₂ := gq st R n) fun x hx => by simpa using (List.mem_filter.1 hx).2
  have h2 := b.nodup.length_le_of_subset (l₂ := (hids st).filter fun x => decide (x ∈ gq st R n)) fun x hx => List.mem_filter.2 ⟨mem_hids.2 (b.snd x hx).1, by simpa using hx⟩
  have := v.eq
  omega
theorem free_count (v : Lv st R n) : (swF st (gq st R n) (hids st).length).length = (hids st).length - n := by
  have h1 := sw_count (hids st) (gq st R n)
  have h2 := live_count v
  unfold swF; rw [List.take_length]; omega
end
def cyA (b q hb : Nat) (st : Hst) (R : List Int) (n t : Nat) : Asr :=
  if t ≤ n then exA fun m => stA (Col m (gq st R t) t) [coA b q hb 1 m ((gq st R t).drop t) [] [], hpA hb st]
  else if t ≤ n + (hids st).length then exA fun m => stA (SwC m st (gq st R n) (t - n - 1)) [coA b q hb 2 m [] ((hids st).drop (t - n - 1)) (swF st (gq st R n) (t - n - 1)), hpA hb (swS st (gq st R n) (t - n - 1))]
  else exA fun m => stA True [coA b q hb 0 m [] [] (swF st (gq st R n) (hids st).length), hpA hb (swS st (gq st R n) (hids st).length)]
def enA (b q hb : Nat) (st : Hst) (R : List Int) (n : Nat) (f : Bool) (t : Nat) : Asr :=
  if f = true then stA True [coA b q hb 0 [] [] [] [], hpA hb st] else cyA b q hb st R n t
section
variable {Z : Zone} {F : List Asr} {H : Heap} {b q hb : Nat} {st : Hst} {R : List Int} {n t : Nat} {m : List (Int × Int)}
theorem cy_mark (ht : t ≤ n) (h : Holds Z (cyA b q hb st R n t :: F) H) : ∃ m, Col m (gq st R t) t ∧ Holds Z (coA b q hb 1 m ((gq st R t).drop t) [] [] :: hpA hb st :: F) H := by
  unfold cyA at h; rw [if_pos ht] at h
  obtain ⟨m, h⟩ := h.open_ex
  exact ⟨m, h.open_st⟩
theorem cy_gray (v : Lv st R n) (ht : t < n) (h : Holds Z (cyA b q hb st R n t :: F) H) : ∃ m x, (Col m (gq st R t) t ∧ (gq st R t)[t]? = some x) ∧ Holds Z (coA b q hb 1 m (x :: (gq st R t).drop (t + 1)) [] [] :: hpA hb st :: F) H := by
  obtain ⟨m, hc, h⟩ := cy_mark (Nat.le_of_lt ht) h
  have hx : (gq st R t)[t]? = some ((gq st R t)[t]'(v.lt t ht)) := List.getElem?_eq_getElem _
  rw [drop_at hx] at h
  exact ⟨m, _, ⟨hc, hx⟩, h⟩
theorem cy_black (v : Lv st R n) (h : Holds Z (cyA b q hb st R n n :: F) H) : ∃ m, Col m (gq st R n) n ∧ Holds Z (coA b q hb 1 m [] [] [] :: hpA hb st :: F) H := by
  obtain ⟨m, hc, h⟩ := cy_mark (Nat.le_refl n) h
  rw [List.drop_of_length_le (Nat.le_of_eq v.eq)] at h
  exact ⟨m, hc, h⟩
theorem cy_marked (ht : t ≤ n) {Q : List Int} (hc : Col m (gq st R t) t) (hQ : Q = (gq st R t).drop t) (h : Holds Z (coA b q hb 1 m Q [] [] :: hpA hb st :: F) H) : Holds Z (cyA b q hb st R n t :: F) H := by
  subst hQ
  unfold cyA; rw [if_pos ht]
  exact Holds.shut_ex m (Holds.shut_st hc h)
theorem cy_sweep {s : Nat} (hs : s < (hids st).length) (h : Holds Z (cyA b q hb st R n (n + 1 + s) :: F) H) : ∃ m x, (SwC m st (gq st R n) s ∧ (hids st)[s]? = some x) ∧ Holds Z (coA b q hb 2 m [] (x :: (hids st).drop (s + 1)) (swF st (gq st R n) s) :: hpA hb (swS st (gq st R n) s) :: F) H := by
  unfold cyA at h
  rw [if_neg (by omega), if_pos (by omega), show n + 1 + s - n - 1 = s by omega] at h
  obtain ⟨m, h⟩ := h.open_ex
  obtain ⟨hc, h⟩ := h.open_st
  have hx : (hids st)[s]? = some ((hids st)[s]'hs) := List.getElem?_eq_getElem _
  rw [drop_at hx] at h
  exact ⟨m, _, ⟨hc, hx⟩, h⟩
theorem cy_swept {s : Nat} (hs : s < (hids st).length) (hc : SwC m st (gq st R n) s) (h : Holds Z (coA b q hb 2 m [] ((hids st).drop s) (swF st (gq st R n) s) :: hpA hb (swS st (gq st R n) s) :: F) H) : Holds Z (cyA b q hb st R n (n + 1 + s) :: F) H := by
  unfold cyA
  rw [if_neg (by omega), if_pos (by omega), show n + 1 + s - n - 1 = s by omega]
  exact Holds.shut_ex m (Holds.shut_st hc h)
theorem cy_done {s : Nat} {L : List Int} (hs : s = (hids st).length) (hL : L = []) (h : Holds Z (coA b q hb 0 m [] L (swF st (gq st R n) s) :: hpA hb (swS st (gq st R n) s) :: F) H) : Holds Z (cyA b q hb st R n (n + 1 + s) :: F) H := by
  subst hs hL
  unfold cyA
  rw [if_neg (by omega), if_neg (by omega)]
  exact Holds.shut_ex m (Holds.shut_st trivial h)
theorem cy_end (ht : n + (hids st).length < t) (h : Holds Z (cyA b q hb st R n t :: F) H) : ∃ m, True ∧ Holds Z (coA b q hb 0 m [] [] (swF st (gq st R n) (hids st).length) :: hpA hb (swS st (gq st R n) (hids st).length) :: F) H := by
  unfold cyA at h
  rw [if_neg (by omega), if_neg (by omega)] at h
  obtain ⟨m, h⟩ := h.open_ex
  exact ⟨m, h.open_st⟩
theorem cy_ended (ht : n + (hids st).length < t) (h : Holds Z (coA b q hb 0 m [] [] (swF st (gq st R n) (hids st).length) :: hpA hb (swS st (gq st R n) (hids st).length) :: F) H) : Holds Z (cyA b q hb st R n t :: F) H := by
  unfold cyA
  rw [if_neg (by omega), if_neg (by omega)]
  exact Holds.shut_ex m (Holds.shut_st trivial h)
end
end Go.Proofs.YtmhpcebiamkciaaGreat
end
section
set_option linter.unusedSimpArgs false
set_option linter.unusedVariables false
set_option maxRecDepth 100000
set_option maxHeartbeats 2000000
namespace Go.Proofs.YtmhpcebiamkciaaGreat
open Go.Hp Go.J Go.S
open Go.Mem (Ty KTy blk elemAt pre suf blk_pre blk_suf aget aset strK aggDesc)
open Go.Mem (adel apos aget_aset aget_adel)
def nof (n t : Nat) : Nat := if t ≤ n then t else t - 1
theorem nofA {n t : Nat} (h : t ≤ n) : nof n t = t := if_pos h
theorem nofB (n s : Nat) : nof n (n + 1 + s) = n + s := by unfold nof; rw [if_neg (by omega)]; omega
theorem cyc_cases {n t u : Nat} (h : t ≤ n + u + 1) : t < n ∨ t = n ∨ (∃ s, t = n + 1 + s ∧ s < u) ∨ t = n + 1 + u := by
  by_cases h1 : t < n
  · exact .inl h1
  · by_cases h2 : t = n
    · exact .inr (.inl h2)
    · by_cases h3 : t = n + 1 + u
      · exact .inr (.inr (.inr h3))
      · exact .inr (.inr (.inl ⟨t - n - 1, by omega, by omega⟩))
section
variable {Z : Zone} {F : List Asr} {H : Heap} {b q hb : Nat} {st : Hst} {R : List Int} {n t s : Nat} {m : List (Int × Int)} {x : Int}
theorem en_fresh (h : Holds Z (enA b q hb st R n true t :: F) H) : Holds Z (coA b q hb 0 [] [] [] [] :: hpA hb st :: F) H := (show Holds Z (stA True [coA b q hb 0 [] [] [] [], hpA hb st] :: F) H from h).open_st.2
theorem en_cy (h : Holds Z (enA b q hb st R n false t :: F) H) : Holds Z (cyA b q hb st R n t :: F) H := h
theorem cy_blackT (v : Lv st R n) (ht : t = n) (h : Holds Z (cyA b q hb st R n t :: F) H) : ∃ m, Col m (gq st R n) n ∧ Holds Z (coA b q hb 1 m [] [] [] :: hpA hb st :: F) H := by
  subst ht; exact cy_black v h
theorem cy_blackS (v : Lv st R n) (ht : t = n) (hc : Col m (gq st R n) n) (h : Holds Z (coA b q hb 1 m [] [] [] :: hpA hb st :: F) H) : Holds Z (cyA b q hb st R n t :: F) H := by
  subst ht; exact cy_marked (Nat.le_refl t) hc (List.drop_of_length_le (Nat.le_of_eq v.eq)).symm h
theorem cy_sweepT (ht : t = n + 1 + s) (hs : s < (hids st).length) (h : Holds Z (cyA b q hb st R n t :: F) H) : ∃ m x, (SwC m st (gq st R n) s ∧ (hids st)[s]? = some x) ∧ Holds Z (coA b q hb 2 m [] (x :: (hids st).drop (s + 1)) (swF st (gq st R n) s) :: hpA hb (swS st (gq st R n) s) :: F) H := by
  subst ht; exact cy_sweep hs h
theorem cy_sweepS (ht : t = n + 1 + s) (hs : s < (hids st).length) (hc : SwC m st (gq st R n) s) (hx : (hids st)[s]? = some x) (h : Holds Z (coA b q hb 2 m [] (x :: (hids st).drop (s + 1)) (swF st (gq st R n) s) :: hpA hb (swS st (gq st R n) s) :: F) H) : Holds Z (cyA b q hb st R n t :: F) H := by
  subst ht; rw [← drop_at hx] at h; exact cy_swept hs hc h
theorem cy_first (v : Lv st R n) (h0 : 0 < (hids st).length) (hc : Col m (gq st R n) n) (h : Holds Z (coA b q hb 2 m [] (hids st) [] :: hpA hb st :: F) H) : Holds Z (cyA b q hb st R n (n + 1 + 0) :: F) H := cy_swept h0 (sw_start v hc) h
theorem cy_nextB (hs : s + 1 < (hids st).length) (hc : SwC m st (gq st R n) s) (hx : (hids st)[s]? = some x) (hi : x ∈ gq st R n) (h : Holds Z (coA b q hb 2 (adel m x) [] ((hids st).drop (s + 1)) (swF st (gq st R n) s) :: hpA hb (swS st (gq st R n) s) :: F) H) : Holds Z (cyA b q hb st R n (n + 1 + (s + 1)) :: F) H := by
  rw [← swF_in hx hi, ← swS_in hx hi] at h; exact cy_swept hs (sw_del hc hx) h
theorem cy_nextW (hs : s + 1 < (hids st).length) (hc : SwC m st (gq st R n) s) (hx : (hids st)[s]? = some x) (hi : x ∉ gq st R n) (h : Holds Z (coA b q hb 2 m [] ((hids st).drop (s + 1)) (swF st (gq st R n) s ++ [x]) :: hpA hb (hdrop (swS st (gq st R n) s) x) :: F) H) : Holds Z (cyA b q hb st R n (n + 1 + (s + 1)) :: F) H := by
  rw [← swF_out hx hi, ← swS_out hx hi] at h; exact cy_swept hs (sw_same hc hx) h
theorem cy_lastB (hs : s + 1 = (hids st).length) (hx : (hids st)[s]? = some x) (hi : x ∈ gq st R n) (h : Holds Z (coA b q hb 0 m [] ((hids st).drop (s + 1)) (swF st (gq st R n) s) :: hpA hb (swS st (gq st R n) s) :: F) H) : Holds Z (cyA b q hb st R n (n + 1 + (s + 1)) :: F) H := by
  rw [← swF_in hx hi, ← swS_in hx hi] at h; exact cy_done hs (List.drop_of_length_le (by omega)) h
theorem cy_lastW (hs : s + 1 = (hids st).length) (hx : (hids st)[s]? = some x) (hi : x ∉ gq st R n) (h : Holds Z (coA b q hb 0 m [] ((hids st).drop (s + 1)) (swF st (gq st R n) s ++ [x]) :: hpA hb (hdrop (swS st (gq st R n) s) x) :: F) H) : Holds Z (cyA b q hb st R n (n + 1 + (s + 1)) :: F) H := by
  rw [← swF_out hx hi, ← swS_out hx hi] at h; exact cy_done hs (List.drop_of_length_le (by omega)) h
end
theorem cwork_g {Z : Zone} {F : List Asr} {b q hb : Nat} {st : Hst} {rv : Value} {R : List Int} {n t0 k : Nat} {f : Bool} {nn : Nat} (hsm : HSm nn st) (hn : nn ≤ 300) (hW : HW st) (v : Lv st R n) (h0 : 0 < (hids st).length) (hR : R.length ≤ 1000) (hT : t0 ≤ n + (hids st).length) (hk : 0 < k) (hk2 : k ≤ 1000) (hf : f = true → t0 = 0) : SF Tryz.prog 16 #[.pointer (some ⟨b, 0, none⟩), iw (k : Int), rv] Z (own iTy rv R :: enA b q hb st R n f t0 :: F) fun r Bs => ∃ t z : Nat, r = iw (z : Int) ∧ (z + nof n t0 = nof n t ∧ z ≤ k ∧ t ≤ n + (hids st).length + 1 ∧ (z = k ∨ t = n + (hids st).length + 1)) ∧ Bs = own iTy rv R :: cyA b q hb st R n t :: F := by
 refine sf_enter Tryz.func16 62 [(0, pB b 0), (1, iw (k : Int)), (2, rv)] (fun w0 => ?_)
 have hil := hids_len st; have hol := hsm.len
 refine k_sr <| sp (iw 0) ?_
 refine s_nt <| k_seq <| k_sr <| sp (pB b 0) ?_
 refine sp (.bool false) ?_
 refine sp (.bool false) ?_
 refine sp (iw (k : Int)) ?_
 refine s_lt (Lt.to t_cmp (congrArg Value.bool (decide_eq_false (by omega) : (decide ((k : Int) ≤ 0)) = false))) ?_
 refine sp (.bool false) ?_
 refine s_nt <| k_false ?_
 refine k_st <| k_cut (ι := Unit) (fun _ => True) (fun _ => [(0, pB b 0), (1, iw (k : Int)), (2, rv)]) (fun _ => cyA b q hb st R n t0 :: own iTy rv R :: F) ?_ (fun _ _ => ?_)
 ·
  obtain rfl | rfl : f = true ∨ f = false := by cases f <;> simp
  ·
   obtain rfl := hf rfl
   refine k_mem (fun _ h => en_fresh (h.re [1] [])) ?_
   refine k_sr <| sp (pB b 0) ?_
   refine sp (pB b 0) ?_
   refine sp (pB b 2) ?_
   refine s_mem4 (fun H h => co_open (h.re [0] [])) (fun mb1 qv2 lv3 fv4 hw => ?_)
   refine s_lt (t_load 0 (iw 0)) ?_
   refine s_lt (t_cmp (c := true)) ?_
   refine s_nt <| k_true ?_
   refine k_reg ?_
   refine sp (pB b 0) ?_
   refine sp rv ?_
   refine s_mem (fun _ h => co_shut (h.re [0, 0, 0, 0, 0, 0] [])) ?_
   refine s_call [2, 0, 0] (cbegin_s (R := R) (by omega)) ?_
   rintro _ _ ⟨rfl, rfl⟩
   refine s_nil <| xs_mem (Bs := cyA b q hb st R n 0 :: own iTy rv R :: F) (fun _ h => cy_marked (Nat.zero_le _) (start_rel st R).1 (start_rel st R).2 (h.re [1, 1, 0] [])) ?_
   exact xcut () (fun _ h => h.re [0, 0] [])
  ·
   refine k_mem (fun _ h => en_cy (h.re [1] [])) ?_
   by_cases ht : t0 ≤ n
   ·
    refine k_memX (fun H h => cy_mark ht (h.re [0] [])) (fun m hm => ?_)
    refine k_sr <| sp (pB b 0) ?_
    refine sp (pB b 0) ?_
    refine sp (pB b 2) ?_
    refine s_mem4 (fun H h => co_open (h.re [0] [])) (fun mb5 qv6 lv7 fv8 hw => ?_)
    refine s_lt (t_load 0 (iw 1)) ?_
    refine s_lt (t_cmp (c := false)) ?_
    refine s_nt <| k_false ?_
    refine k_skip ?_
    refine xs_mem (fun _ h => co_shut (h.re [0, 0, 0, 0, 0, 0] [])) ?_
    refine xs_mem (Bs := cyA b q hb st R n t0 :: own iTy rv R :: F) (fun _ h => cy_marked ht hm rfl (h.re [0, 0, 0] [])) ?_
    exact xcut () (fun _ h => h.re [0, 0] [])
   ·
    obtain ⟨s, hs⟩ : ∃ s, t0 = n + 1 + s := ⟨t0 - n - 1, by omega⟩
    refine k_mem2 (fun H h => cy_sweepT (st := st) hs (by omega) (h.re [0] [])) (fun m x hm => ?_)
    refine k_sr <| sp (pB b 0) ?_
    refine sp (pB b 0) ?_
    refine sp (pB b 2) ?_
    refine s_mem4 (fun H h => co_open (h.re [0] [])) (fun mb9 qv10 lv11 fv12 hw => ?_)
    refine s_lt (t_load 0 (iw 2)) ?_
    refine s_lt (t_cmp (c := false)) ?_
    refine s_nt <| k_false ?_
    refine k_skip ?_
    refine xs_mem (fun _ h => co_shut (h.re [0, 0, 0, 0, 0, 0] [])) ?_
    refine xs_mem (Bs := cyA b q hb st R n t0 :: own iTy rv R :: F) (fun _ h => cy_sweepS (st := st) hs (by omega) hm.1 hm.2 (h.re [0, 0, 0] [])) ?_
    exact xcut () (fun _ h => h.re [0, 0] [])
 ·
  refine k_sr <| sp (iw 0) ?_
  refine s_nt <| k_seq <| k_block ?_
  refine k_loop (ι := Nat × Nat) (fun (t, z) => t0 ≤ t ∧ t ≤ n + (hids st).length + 1 ∧ z + nof n t0 = nof n t ∧ z ≤ k) (fun (t, z) => [(0, pB b 0), (1, iw (k : Int)), (2, rv), (7, iw (z : Int))]) (fun (t, z) => cyA b q hb st R n t :: own iTy rv R :: F) (fun (t, z) => n + (hids st).length + 1 - t) (t0, 0) ⟨Nat.le_refl _, by omega, by omega, Nat.zero_le _⟩ (sub_of rfl ⟨⟨rfl, rfl⟩, ⟨⟨rfl, rfl⟩, ⟨⟨rfl, rfl⟩, ⟨⟨rfl, rfl⟩, trivial⟩⟩⟩⟩) (fun _ h => h.re [0, 0] []) ?_
  rintro ⟨t, z⟩ hi13
  replace hi13 : t0 ≤ t ∧ t ≤ n + (hids st).length + 1 ∧ z + nof n t0 = nof n t ∧ z ≤ k := hi13
  show SK _ _ _ _ _ [(0, .pointer (some ⟨b, 0, none⟩)), (1, iw (k : Int)), (2, rv), (7, iw (z : Int))] _ (cyA b q hb st R n t :: own iTy rv R :: F)
  obtain ⟨hi1, hi2, hi3, hi4⟩ := hi13
  rcases cyc_cases hi2 with ht | ht | ⟨s, ht, hs⟩ | ht
  ·
   have e1 := nofA (Nat.le_of_lt ht); have e2 := nofA (n := n) (t := t + 1) (by omega)
   refine k_mem2 (fun H h => cy_gray v ht (h.re [0] [])) (fun m x hm => ?_)
   refine k_seq <| k_sr <| sp (iw (z : Int)) ?_
   refine sp (iw (k : Int)) ?_
   refine s_lt t_cmp ?_
   refine sp (.bool (decide ((z : Int) < (k : Int)))) ?_
   refine s_fork 25 (decide ((z : Int) < (k : Int))) (fun c14 => ?_) (fun c14 => ?_)
   ·
    have p15 := of_decide_eq_true c14
    refine sp (pB b 0) ?_
    refine sp (pB b 0) ?_
    refine sp (pB b 2) ?_
    refine s_mem4 (fun H h => co_open (h.re [0] [])) (fun mb16 qv17 lv18 fv19 hw => ?_)
    refine s_lt (t_load 0 (iw 1)) ?_
    refine s_lt (t_cmp (c := true)) ?_
    refine sp (.bool true) ?_
    refine s_nt <| k_true ?_
    refine k_st <| k_block ?_
    refine k_seq <| k_sr <| sp (pB b 0) ?_
    refine sp (pB b 0) ?_
    refine sp (pB b 2) ?_
    refine s_lt (t_load 0 (iw 1)) ?_
    refine s_lt (t_cmp (c := true)) ?_
    refine s_nt <| k_true ?_
    refine k_seq <| k_sr <| sp (pB b 0) ?_
    refine sp rv ?_
    refine s_mem (fun _ h => co_shut (h.re [0, 0, 0, 0, 0, 0] [])) ?_
    refine s_call [2, 0, 0] (cmark1_s (x := x) (m := m) (Q := (gq st R t).drop (t + 1)) (by have h1 := (v.bq (Nat.le_of_lt ht)).len (A := hids st) fun x hx => mem_hids.2 hx; rw [List.length_drop]; omega) hsm hn hW) ?_
    rintro _ _ ⟨rfl, rfl⟩
    refine s_nt <| k_true ?_
    refine k_reg ?_
    refine sp (iw (z : Int)) ?_
    refine s_lt (t_add (z : Int) 1 (by (try simp only [lnm]); omega)) ?_
    refine sp (iw ((z : Int) + 1)) ?_
    refine s_nt <| k_exit ?_
    refine xs_exit ?_
    refine xs_here ?_
    refine xs_mem (Bs := cyA b q hb st R n (t + 1) :: own iTy rv R :: F) (fun _ h => cy_marked (by omega) (mark_step v ht hm.1 hm.2).1 (mark_step v ht hm.1 hm.2).2 (h.re [1, 1, 0] [])) ?_
    exact xs_round (t + 1, z + 1) (by show n + (hids st).length + 1 - (t + 1) < n + (hids st).length + 1 - t; omega) ⟨by omega, by omega, by omega, by omega⟩ (sub_of rfl ⟨⟨rfl, rfl⟩, ⟨⟨rfl, rfl⟩, ⟨⟨rfl, rfl⟩, ⟨⟨rfl, rfl⟩, trivial⟩⟩⟩⟩) (fun _ h => h.re [0, 0] [])
   ·
    have p20 := of_decide_eq_false c14
    refine s_skip ?_
    refine s_skip ?_
    refine s_skip ?_
    refine s_skip ?_
    refine s_skip ?_
    refine sp (.bool false) ?_
    refine s_nt <| k_false ?_
    refine k_exit ?_
    refine xs_exit ?_
    refine xs_exit ?_
    refine xs_here ?_
    refine xs_then <| k_sr <| sp (iw (z : Int)) ?_
    refine sp (iw (z : Int)) ?_
    refine s_nt <| k_ret <| xs_mem (Bs := cyA b q hb st R n t :: own iTy rv R :: F) (fun _ h => cy_marked (Nat.le_of_lt ht) hm.1 (drop_at hm.2).symm (h.re [0, 0, 0] [])) ?_
    exact xs_fin [iw (z : Int)] (own iTy rv R :: cyA b q hb st R n t :: F) (SI.tmp 6 SI.nil) (fun _ h => h.re [1, 0] []) ⟨t, z, rfl, ⟨hi3, hi4, hi2, by omega⟩, rfl⟩
  ·
   have e1 := nofA (Nat.le_of_eq ht); have e2 := nofB n 0
   refine k_memX (fun H h => cy_blackT v ht (h.re [0] [])) (fun m hm => ?_)
   refine k_seq <| k_sr <| sp (iw (z : Int)) ?_
   refine sp (iw (k : Int)) ?_
   refine s_lt t_cmp ?_
   refine sp (.bool (decide ((z : Int) < (k : Int)))) ?_
   refine s_fork 25 (decide ((z : Int) < (k : Int))) (fun c21 => ?_) (fun c21 => ?_)
   ·
    have p22 := of_decide_eq_true c21
    refine sp (pB b 0) ?_
    refine sp (pB b 0) ?_
    refine sp (pB b 2) ?_
    refine s_mem4 (fun H h => co_open (h.re [0] [])) (fun mb23 qv24 lv25 fv26 hw => ?_)
    refine s_lt (t_load 0 (iw 1)) ?_
    refine s_lt (t_cmp (c := true)) ?_
    refine sp (.bool true) ?_
    refine s_nt <| k_true ?_
    refine k_st <| k_block ?_
    refine k_seq <| k_sr <| sp (pB b 0) ?_
    refine sp (pB b 0) ?_
    refine sp (pB b 2) ?_
    refine s_lt (t_load 0 (iw 1)) ?_
    refine s_lt (t_cmp (c := true)) ?_
    refine s_nt <| k_true ?_
    refine k_seq <| k_sr <| sp (pB b 0) ?_
    refine sp rv ?_
    refine s_mem (fun _ h => co_shut (h.re [0, 0, 0, 0, 0, 0] [])) ?_
    refine s_call [2, 0, 0] (cmark2_s (m := m) (R := R) (by omega) (again v hm) hsm hn) ?_
    rintro _ _ ⟨rfl, rfl⟩
    refine s_nt <| k_false ?_
    refine k_st <| k_exit ?_
    refine xs_exit ?_
    refine xs_here ?_
    refine xs_mem (Bs := cyA b q hb st R n (n + 1 + 0) :: own iTy rv R :: F) (fun _ h => cy_first v h0 hm (h.re [1, 1, 0] [])) ?_
    exact xs_round (n + 1 + 0, z) (by show n + (hids st).length + 1 - (n + 1 + 0) < n + (hids st).length + 1 - t; omega) ⟨by omega, by omega, by omega, by omega⟩ (sub_of rfl ⟨⟨rfl, rfl⟩, ⟨⟨rfl, rfl⟩, ⟨⟨rfl, rfl⟩, ⟨⟨rfl, rfl⟩, trivial⟩⟩⟩⟩) (fun _ h => h.re [0, 0] [])
   ·
    have p27 := of_decide_eq_false c21
    refine s_skip ?_
    refine s_skip ?_
    refine s_skip ?_
    refine s_skip ?_
    refine s_skip ?_
    refine sp (.bool false) ?_
    refine s_nt <| k_false ?_
    refine k_exit ?_
    refine xs_exit ?_
    refine xs_exit ?_
    refine xs_here ?_
    refine xs_then <| k_sr <| sp (iw (z : Int)) ?_
    refine sp (iw (z : Int)) ?_
    refine s_nt <| k_ret <| xs_mem (Bs := cyA b q hb st R n t :: own iTy rv R :: F) (fun _ h => cy_blackS v ht hm (h.re [0, 0, 0] [])) ?_
    exact xs_fin [iw (z : Int)] (own iTy rv R :: cyA b q hb st R n t :: F) (SI.tmp 6 SI.nil) (fun _ h => h.re [1, 0] []) ⟨t, z, rfl, ⟨hi3, hi4, hi2, by omega⟩, rfl⟩
  ·
   have e1 : nof n t = n + s := by rw [ht]; exact nofB n s
   have e2 := nofB n (s + 1); have hfl := swF_len st (gq st R n) s
   refine k_mem2 (fun H h => cy_sweepT ht hs (h.re [0] [])) (fun m x hm => ?_)
   refine k_seq <| k_sr <| sp (iw (z : Int)) ?_
   refine sp (iw (k : Int)) ?_
   refine s_lt t_cmp ?_
   refine sp (.bool (decide ((z : Int) < (k : Int)))) ?_
   refine s_fork 25 (decide ((z : Int) < (k : Int))) (fun c28 => ?_) (fun c28 => ?_)
   ·
    have p29 := of_decide_eq_true c28
    refine sp (pB b 0) ?_
    refine sp (pB b 0) ?_
    refine sp (pB b 2) ?_
    refine s_mem4 (fun H h => co_open (h.re [0] [])) (fun mb30 qv31 lv32 fv33 hw => ?_)
    refine s_lt (t_load 0 (iw 2)) ?_
    refine s_lt (t_cmp (c := true)) ?_
    refine sp (.bool true) ?_
    refine s_nt <| k_true ?_
    refine k_st <| k_block ?_
    refine k_seq <| k_sr <| sp (pB b 0) ?_
    refine sp (pB b 0) ?_
    refine sp (pB b 2) ?_
    refine s_lt (t_load 0 (iw 2)) ?_
    refine s_lt (t_cmp (c := false)) ?_
    refine s_nt <| k_false ?_
    refine k_st <| k_seq <| k_sr <| sp (pB b 0) ?_
    refine sp (pB b 0) ?_
    refine sp (pB b 5) ?_
    refine s_lt (t_load 0 lv32) ?_
    refine s_lt (t_len iTy_ok Tryz.underlying23 (.ownO 4)) ?_
    refine s_lt (Lt.to t_cmp (congrArg Value.bool (decide_eq_true (by simp only [List.length_cons]; omega) : (decide ((0 : Int) < ((x :: (hids st).drop (s + 1)).length : Int))) = true))) ?_
    refine s_nt <| k_true ?_
    refine k_sr <| sp (pB b 0) ?_
    refine s_mem (fun _ h => co_shut (h.re [0, 0, 0, 0, 0, 0] [])) ?_
    by_cases hx : x ∈ gq st R n
    ·
     refine s_call [0] (csweep2_s (m := m) (x := x) (by rw [sw_head hm.1 hm.2, if_pos hx]; decide)) ?_
     rintro _ _ ⟨rfl, rfl⟩
     refine s_nt <| k_reg ?_
     refine sp (iw (z : Int)) ?_
     refine s_lt (t_add (z : Int) 1 (by (try simp only [lnm]); omega)) ?_
     refine sp (iw ((z : Int) + 1)) ?_
     refine s_nr ?_
     refine sp (pB b 0) ?_
     refine sp (pB b 0) ?_
     refine sp (pB b 5) ?_
     refine s_mem4 (fun H h => co_open (h.re [0] [])) (fun mb34 qv35 lv36 fv37 hw => ?_)
     refine s_lt (t_load 0 lv36) ?_
     refine s_lt (t_len iTy_ok Tryz.underlying23 (.ownO 4)) ?_
     refine s_lt t_cmp ?_
     refine s_nt <| k_cond (decide ((((hids st).drop (s + 1)).length : Int) = 0)) (fun c38 => ?_) (fun c38 => ?_)
     ·
      have p39 := of_decide_eq_true c38
      refine k_reg ?_
      refine sp (pB b 0) ?_
      refine sp (pB b 0) ?_
      refine sp (pB b 2) ?_
      refine s_store 0 #[pB q 0, pB hb 0, iw 0, .map (some mb34), qv35, lv36, fv37] ?_
      refine s_nil <| xs_block ?_
      rw [List.length_drop] at p39
      refine xs_mem (fun _ h => co_shut (h.re [0, 0, 0, 0, 0, 0] [])) ?_
      refine xs_mem (Bs := cyA b q hb st R n (n + 1 + (s + 1)) :: own iTy rv R :: F) (fun _ h => cy_lastB (by omega) hm.2 hx (h.re [0, 0, 0] [])) ?_
      exact xs_round (n + 1 + (s + 1), z + 1) (by show n + (hids st).length + 1 - (n + 1 + (s + 1)) < n + (hids st).length + 1 - t; omega) ⟨by omega, by omega, by omega, by omega⟩ (sub_of rfl ⟨⟨rfl, rfl⟩, ⟨⟨rfl, rfl⟩, ⟨⟨rfl, rfl⟩, ⟨⟨rfl, rfl⟩, trivial⟩⟩⟩⟩) (fun _ h => h.re [0, 0] [])
     ·
      have p40 := of_decide_eq_false c38
      refine k_skip ?_
      refine xs_block ?_
      rw [List.length_drop] at p40
      refine xs_mem (fun _ h => co_shut (h.re [0, 0, 0, 0, 0, 0] [])) ?_
      refine xs_mem (Bs := cyA b q hb st R n (n + 1 + (s + 1)) :: own iTy rv R :: F) (fun _ h => cy_nextB (by omega) hm.1 hm.2 hx (h.re [0, 0, 0] [])) ?_
      exact xs_round (n + 1 + (s + 1), z + 1) (by show n + (hids st).length + 1 - (n + 1 + (s + 1)) < n + (hids st).length + 1 - t; omega) ⟨by omega, by omega, by omega, by omega⟩ (sub_of rfl ⟨⟨rfl, rfl⟩, ⟨⟨rfl, rfl⟩, ⟨⟨rfl, rfl⟩, ⟨⟨rfl, rfl⟩, trivial⟩⟩⟩⟩) (fun _ h => h.re [0, 0] [])
    ·
     refine s_call [0, 0] (csweep1_s (m := m) (x := x) (Fr := (swF st (gq st R n) s)) (by rw [sw_head hm.1 hm.2, if_neg hx]) (by omega)) ?_
     rintro _ _ ⟨rfl, rfl⟩
     refine s_nt <| k_reg ?_
     refine sp (iw (z : Int)) ?_
     refine s_lt (t_add (z : Int) 1 (by (try simp only [lnm]); omega)) ?_
     refine sp (iw ((z : Int) + 1)) ?_
     refine s_nr ?_
     refine sp (pB b 0) ?_
     refine sp (pB b 0) ?_
     refine sp (pB b 5) ?_
     refine s_mem4 (fun H h => co_open (h.re [0] [])) (fun mb41 qv42 lv43 fv44 hw => ?_)
     refine s_lt (t_load 0 lv43) ?_
     refine s_lt (t_len iTy_ok Tryz.underlying23 (.ownO 4)) ?_
     refine s_lt t_cmp ?_
     refine s_nt <| k_cond (decide ((((hids st).drop (s + 1)).length : Int) = 0)) (fun c45 => ?_) (fun c45 => ?_)
     ·
      have p46 := of_decide_eq_true c45
      refine k_reg ?_
      refine sp (pB b 0) ?_
      refine sp (pB b 0) ?_
      refine sp (pB b 2) ?_
      refine s_store 0 #[pB q 0, pB hb 0, iw 0, .map (some mb41), qv42, lv43, fv44] ?_
      refine s_nil <| xs_block ?_
      rw [List.length_drop] at p46
      refine xs_mem (fun _ h => co_shut (h.re [0, 0, 0, 0, 0, 0] [])) ?_
      refine xs_mem (Bs := cyA b q hb st R n (n + 1 + (s + 1)) :: own iTy rv R :: F) (fun _ h => cy_lastW (by omega) hm.2 hx (h.re [0, 0, 0] [])) ?_
      exact xs_round (n + 1 + (s + 1), z + 1) (by show n + (hids st).length + 1 - (n + 1 + (s + 1)) < n + (hids st).length + 1 - t; omega) ⟨by omega, by omega, by omega, by omega⟩ (sub_of rfl ⟨⟨rfl, rfl⟩, ⟨⟨rfl, rfl⟩, ⟨⟨rfl, rfl⟩, ⟨⟨rfl, rfl⟩, trivial⟩⟩⟩⟩) (fun _ h => h.re [0, 0] [])
     ·
      have p47 := of_decide_eq_false c45
      refine k_skip ?_
      refine xs_block ?_
      rw [List.length_drop] at p47
      refine xs_mem (fun _ h => co_shut (h.re [0, 0, 0, 0, 0, 0] [])) ?_
      refine xs_mem (Bs := cyA b q hb st R n (n + 1 + (s + 1)) :: own iTy rv R :: F) (fun _ h => cy_nextW (by omega) hm.1 hm.2 hx (h.re [0, 0, 0] [])) ?_
      exact xs_round (n + 1 + (s + 1), z + 1) (by show n + (hids st).length + 1 - (n + 1 + (s + 1)) < n + (hids st).length + 1 - t; omega) ⟨by omega, by omega, by omega, by omega⟩ (sub_of rfl ⟨⟨rfl, rfl⟩, ⟨⟨rfl, rfl⟩, ⟨⟨rfl, rfl⟩, ⟨⟨rfl, rfl⟩, trivial⟩⟩⟩⟩) (fun _ h => h.re [0, 0] [])
   ·
    have p48 := of_decide_eq_false c28
    refine s_skip ?_
    refine s_skip ?_
    refine s_skip ?_
    refine s_skip ?_
    refine s_skip ?_
    refine sp (.bool false) ?_
    refine s_nt <| k_false ?_
    refine k_exit ?_
    refine xs_exit ?_
    refine xs_exit ?_
    refine xs_here ?_
    refine xs_then <| k_sr <| sp (iw (z : Int)) ?_
    refine sp (iw (z : Int)) ?_
    refine s_nt <| k_ret <| xs_mem (Bs := cyA b q hb st R n t :: own iTy rv R :: F) (fun _ h => cy_sweepS ht hs hm.1 hm.2 (h.re [0, 0, 0] [])) ?_
    exact xs_fin [iw (z : Int)] (own iTy rv R :: cyA b q hb st R n t :: F) (SI.tmp 6 SI.nil) (fun _ h => h.re [1, 0] []) ⟨t, z, rfl, ⟨hi3, hi4, hi2, by omega⟩, rfl⟩
  ·
   refine k_memX (fun H h => cy_end (n := n) (st := st) (t := t) (by omega) (h.re [0] [])) (fun m hm => ?_)
   refine k_seq <| k_sr <| sp (iw (z : Int)) ?_
   refine sp (iw (k : Int)) ?_
   refine s_lt t_cmp ?_
   refine sp (.bool (decide ((z : Int) < (k : Int)))) ?_
   refine s_fork 25 (decide ((z : Int) < (k : Int))) (fun c49 => ?_) (fun c49 => ?_)
   ·
    have p50 := of_decide_eq_true c49
    refine sp (pB b 0) ?_
    refine sp (pB b 0) ?_
    refine sp (pB b 2) ?_
    refine s_mem4 (fun H h => co_open (h.re [0] [])) (fun mb51 qv52 lv53 fv54 hw => ?_)
    refine s_lt (t_load 0 (iw 0)) ?_
    refine s_lt (t_cmp (c := false)) ?_
    refine sp (.bool false) ?_
    refine s_nt <| k_false ?_
    refine k_exit ?_
    refine xs_exit ?_
    refine xs_exit ?_
    refine xs_here ?_
    refine xs_then <| k_sr <| sp (iw (z : Int)) ?_
    refine sp (iw (z : Int)) ?_
    refine s_nt <| k_ret <| xs_mem (fun _ h => co_shut (h.re [0, 0, 0, 0, 0, 0] [])) ?_
    refine xs_mem (Bs := cyA b q hb st R n t :: own iTy rv R :: F) (fun _ h => cy_ended (n := n) (st := st) (t := t) (by omega) (h.re [0, 0, 0] [])) ?_
    exact xs_fin [iw (z : Int)] (own iTy rv R :: cyA b q hb st R n t :: F) (SI.tmp 6 SI.nil) (fun _ h => h.re [1, 0] []) ⟨t, z, rfl, ⟨hi3, hi4, hi2, by omega⟩, rfl⟩
   ·
    have p55 := of_decide_eq_false c49
    refine s_skip ?_
    refine s_skip ?_
    refine s_skip ?_
    refine s_skip ?_
    refine s_skip ?_
    refine sp (.bool false) ?_
    refine s_nt <| k_false ?_
    refine k_exit ?_
    refine xs_exit ?_
    refine xs_exit ?_
    refine xs_here ?_
    refine xs_then <| k_sr <| sp (iw (z : Int)) ?_
    refine sp (iw (z : Int)) ?_
    refine s_nt <| k_ret <| xs_mem (Bs := cyA b q hb st R n t :: own iTy rv R :: F) (fun _ h => cy_ended (n := n) (st := st) (t := t) (by omega) (h.re [0, 0, 0] [])) ?_
    exact xs_fin [iw (z : Int)] (own iTy rv R :: cyA b q hb st R n t :: F) (SI.tmp 6 SI.nil) (fun _ h => h.re [1, 0] []) ⟨t, z, rfl, ⟨hi3, hi4, hi2, by omega⟩, rfl⟩
end Go.Proofs.YtmhpcebiamkciaaGreat
end
section
set_option linter.unusedSimpArgs false
set_option linter.unusedVariables false
set_option maxRecDepth 100000
set_option maxHeartbeats 2000000
namespace Go.Proofs.YtmhpcebiamkciaaGreat
open Go.Hp Go.J Go.S
open Go.Mem (Ty KTy blk elemAt pre suf blk_pre blk_suf aget aset strK aggDesc)
open Go.Mem (adel apos aget_aset aget_adel)
theorem rq27_s {Z : Zone} : SF Tryz.prog 85 #[] Z [] fun r Bs => ∃ q, r = .pointer (some ⟨q, 0, none⟩) ∧ Bs = [] := by
 refine sf_enter Tryz.func85 3 [] (fun w0 => ?_)
 refine k_sr <| sp (.pointer none) ?_
 refine s_nr ?_
 refine s_lt (t_kern (.agg #[(.slice none 0 0), (.slice none 0 0)])) ?_
 refine s_box #[(.slice none 0 0), (.slice none 0 0)] (fun g1 => ?_)
 refine sp (pB g1 0) ?_
 refine s_nt <| k_ret ?_
 exact xs_fin [.pointer (some ⟨g1, 0, none⟩)] [] (SI.tmp 0 SI.nil) (fun _ h => h.re [] [0]) ⟨g1, rfl, rfl⟩
theorem rcnew_s {Z : Zone} {gb : Nat} : SF Tryz.prog 35 #[.pointer (some ⟨gb, 0, none⟩)] Z [] fun r Bs => ∃ p, r = .tuple #[.pointer (some ⟨p, 0, none⟩), iw 0] ∧ Bs = [] := by
 refine sf_enter Tryz.func35 10 [(0, pB gb 0)] (fun w0 => ?_)
 refine k_sr <| sp (.pointer none) ?_
 refine sp (iw 0) ?_
 refine s_nt <| k_seq <| k_sr <| sp (pB gb 0) ?_
 refine sp (.bool false) ?_
 refine s_nt <| k_false ?_
 refine k_st <| k_sr <| sp (pB gb 0) ?_
 refine s_pcall (fun _ h => rq27_s) ?_
 rintro _ _ ⟨q1, rfl, rfl⟩
 refine s_lt (t_kern (.agg #[pB gb 0, pB q1 0, iw 0, (.slice none 0 0), (.slice none 0 0), (.slice none 0 0), (.slice none 0 0)])) ?_
 refine s_box #[pB gb 0, pB q1 0, iw 0, (.slice none 0 0), (.slice none 0 0), (.slice none 0 0), (.slice none 0 0)] (fun g2 => ?_)
 refine sp (pB g2 0) ?_
 refine sp (iw 0) ?_
 refine s_nt <| k_ret ?_
 exact xs_fin [.pointer (some ⟨g2, 0, none⟩), iw 0] [] (SI.tmp 2 (SI.tmp 3 SI.nil)) (fun _ h => h.re [] [0]) ⟨g2, rfl, rfl⟩
theorem begun_s {Z : Zone} {F : List Asr} {lv : Value} {l : List Opc} (hl0 : Kn Z OpT lv l) : SF Tryz.prog 10 #[lv] Z F fun r Bs => ∃ hb gb lx o p q, r = .tuple #[.agg #[ptrV hb, ptrV gb, lx, ptrV o, ptrV p, .slice none 0 0], .bool true] ∧ Bs = coA o q hb 0 [] [] [] [] :: hpA hb (made l).1 :: own VlT lx (made l).2 :: F := by
 refine sf_enter Tryz.func10 44 [(0, lv)] (fun w0 => ?_)
 refine k_sr <| s_alloc (.agg #[.pointer none, .pointer none, (.slice none 0 0), .pointer none, .pointer none, (.slice none 0 0)]) #[.pointer none, .pointer none, (.slice none 0 0), .pointer none, .pointer none, (.slice none 0 0)] (fun g1 => ?_)
 refine sp (.bool false) ?_
 refine s_nr ?_
 refine sp lv ?_
 refine s_call [] (made_s hl0) ?_
 rintro _ _ ⟨hb2, gb3, lx4, rfl, rfl⟩
 refine s_fact (fun H h => ((Acc.own (T := VlT) (L := (made l).2) 2 rfl) H h).form) (fun hf5 => ?_)
 obtain ⟨hinv, hsm, hll⟩ := made_good l
 refine sp (.tuple #[.agg #[pB hb2 0, pB gb3 0, lx4], .bool true]) ?_
 refine sp (.agg #[pB hb2 0, pB gb3 0, lx4]) ?_
 refine sp (.bool true) ?_
 refine s_alloc (.agg #[.pointer none, .pointer none, (.slice none 0 0)]) #[.pointer none, .pointer none, (.slice none 0 0)] (fun g6 => ?_)
 refine s_store (u := .agg #[pB hb2 0, pB gb3 0, lx4]) (m := 3) 0 #[pB hb2 0, pB gb3 0, lx4] ?_ (hm := by (obtain ⟨_, _, e⟩ := hf5; rw [e]; rfl)) (h1 := by (obtain ⟨_, _, e⟩ := hf5; rw [e]; rfl)) (ha' := by (obtain ⟨_, _, e⟩ := hf5; rw [e]; rfl))
 refine sp (.bool true) ?_
 refine s_nt <| k_seq <| k_sr <| sp (.bool true) ?_
 refine sp (.bool false) ?_
 refine s_nt <| k_false ?_
 refine k_st <| k_sr <| sp (pB g6 0) ?_
 refine s_lt (t_load 0 (pB hb2 0)) ?_
 refine s_pcall (fun _ h => cnew_s) ?_
 rintro _ _ ⟨b7, q8, rfl, rfl⟩
 refine sp (.tuple #[pB b7 0, iw 0]) ?_
 refine sp (pB b7 0) ?_
 refine sp (iw 0) ?_
 refine sp (pB b7 0) ?_
 refine sp (iw 0) ?_
 refine s_nr ?_
 refine sp (pB g6 1) ?_
 refine s_lt (t_load 1 (pB gb3 0)) ?_
 refine s_pcall (fun _ h => rcnew_s) ?_
 rintro _ _ ⟨p9, rfl, rfl⟩
 refine sp (.tuple #[pB p9 0, iw 0]) ?_
 refine sp (pB p9 0) ?_
 refine sp (iw 0) ?_
 refine sp (pB p9 0) ?_
 refine sp (iw 0) ?_
 refine s_nr ?_
 refine s_lt (t_loadA 1 #[pB hb2 0, pB gb3 0, lx4]) ?_
 refine sp (pB b7 0) ?_
 refine sp (pB p9 0) ?_
 refine s_lt (show Lt _ _ _ _ _ (.agg #[pB hb2 0, pB gb3 0, lx4, pB b7 0, pB p9 0, (.slice none 0 0)]) from by obtain ⟨_, _, e⟩ := hf5; rw [e]; clear e; exact t_kern _) ?_
 refine sp (pB b7 0) ?_
 refine sp (.bool true) ?_
 refine sp (.bool true) ?_
 refine sp (iw 0) ?_
 refine s_lt (t_cmp (c := true)) ?_
 refine sp (.bool true) ?_
 refine sp (.bool true) ?_
 refine sp (iw 0) ?_
 refine s_lt (t_cmp (c := true)) ?_
 refine sp (.bool true) ?_
 refine s_store (u := .agg #[pB hb2 0, pB gb3 0, lx4, pB b7 0, pB p9 0, (.slice none 0 0)]) (m := 6) 5 #[pB hb2 0, pB gb3 0, lx4, pB b7 0, pB p9 0, (.slice none 0 0)] ?_ (hm := by (obtain ⟨_, _, e⟩ := hf5; rw [e]; rfl)) (h1 := by (obtain ⟨_, _, e⟩ := hf5; rw [e]; rfl)) (ha' := by (obtain ⟨_, _, e⟩ := hf5; rw [e]; rfl))
 refine sp (.bool true) ?_
 refine s_nt <| k_ret ?_
 exact xs_fin [.agg #[.pointer (some ⟨hb2, 0, none⟩), .pointer (some ⟨gb3, 0, none⟩), lx4, .pointer (some ⟨b7, 0, none⟩), .pointer (some ⟨p9, 0, none⟩), (.slice none 0 0)], .bool true] (coA b7 q8 hb2 0 [] [] [] [] :: hpA hb2 (made l).1 :: own VlT lx4 (made l).2 :: F) (SI.agg 2 34 5 (SI.tmp 3 SI.nil)) (fun _ h => h.re [0, 1, 2] [3, 3, 3]) ⟨hb2, gb3, lx4, b7, p9, q8, rfl, rfl⟩
theorem tmod_ge {a : Int} {n : Nat} (ha : 0 ≤ a) (hn : 0 < n) : 0 ≤ Int.tmod a n ∧ Int.tmod a n < n := ⟨Int.tmod_nonneg _ ha, Int.tmod_lt_of_pos _ (by omega)⟩
theorem pid_s {Z : Zone} {F : List Asr} {p : Nat} {hv gv lx ov pv rv : Value} {L : List Vl} (hl : L.length ≤ 100000) (at_ : Int) : SF Tryz.prog 13 #[.pointer (some ⟨p, 0, none⟩), iw at_] Z (blkA p #[hv, gv, lx, ov, pv, rv] 34 :: own VlT lx L :: F) fun r Bs => ∃ x : Int, r = iw x ∧ Bs = blkA p #[hv, gv, lx, ov, pv, rv] 34 :: own VlT lx L :: F := by
 refine sf_enter Tryz.func13 32 [(0, pB p 0), (1, iw at_)] (fun w0 => ?_)
 refine k_sr <| sp (iw 0) ?_
 refine s_nt <| k_seq <| k_cut (ι := Unit) (fun _ => True) (fun _ => [(0, pB p 0), (1, iw at_), (15, .bool ((decide ((L.length : Int) = 0)) || (decide (at_ < 0))))]) (fun _ => blkA p #[hv, gv, lx, ov, pv, rv] 34 :: own VlT lx L :: F) ?_ (fun _ _ => ?_)
 ·
  refine k_reg ?_
  refine sp (pB p 0) ?_
  refine sp (pB p 0) ?_
  refine sp (pB p 0) ?_
  refine sp (pB p 2) ?_
  refine s_lt (t_load 0 lx) ?_
  refine s_lt (t_len VlT_ok Tryz.underlying28 (.own 1)) ?_
  refine s_lt t_cmp ?_
  refine sp (.bool (decide ((L.length : Int) = 0))) ?_
  refine s_fork 12 (decide ((L.length : Int) = 0)) (fun c1 => ?_) (fun c1 => ?_)
  ·
   have p2 := of_decide_eq_true c1
   refine s_skip ?_
   refine s_skip ?_
   refine sp (.bool true) ?_
   refine s_nil ?_
   exact xs_cut () trivial (sub_of rfl ⟨⟨rfl, rfl⟩, ⟨⟨rfl, rfl⟩, ⟨⟨rfl, show Value.bool true = Value.bool ((decide ((L.length : Int) = 0)) || (decide (at_ < 0))) by first | (simp only [c1, bls]; done) | simp [c1]⟩, trivial⟩⟩⟩) (fun _ h => h.re [0, 0] [])
  ·
   have p3 := of_decide_eq_false c1
   refine sp (iw at_) ?_
   refine s_lt t_cmp ?_
   refine sp (.bool (decide (at_ < 0))) ?_
   refine s_nil ?_
   exact xs_cut () trivial (sub_of rfl ⟨⟨rfl, rfl⟩, ⟨⟨rfl, rfl⟩, ⟨⟨rfl, show Value.bool (decide (at_ < 0)) = Value.bool ((decide ((L.length : Int) = 0)) || (decide (at_ < 0))) by first | (simp only [c1, bls]; done) | simp [c1]⟩, trivial⟩⟩⟩) (fun _ h => h.re [0, 0] [])
 ·
  refine k_cond ((decide ((L.length : Int) = 0)) || (decide (at_ < 0))) (fun c4 => ?_) (fun c4 => ?_)
  ·
   have p5 := c4
   simp only [Bool.and_eq_true, Bool.or_eq_true, Bool.and_eq_false_iff, Bool.or_eq_false_iff, Bool.not_eq_true', Bool.not_eq_false', decide_eq_true_eq, decide_eq_false_iff_not] at p5
   refine k_sr <| sp (iw 0) ?_
   refine s_nt <| k_ret <| xs_ret ?_
   exact xs_fin [iw 0] (blkA p #[hv, gv, lx, ov, pv, rv] 34 :: own VlT lx L :: F) (SI.tmp 4 SI.nil) (fun _ h => h.re [0, 0] []) ⟨_, rfl, rfl⟩
  ·
   obtain ⟨c6, c7⟩ := or_f c4
   have p8 := of_decide_eq_false c6
   have p9 := of_decide_eq_false c7
   refine k_st <| k_seq <| k_draw ?_
   refine sp (pB p 0) ?_
   refine sp (pB p 0) ?_
   refine sp (pB p 0) ?_
   refine sp (pB p 2) ?_
   refine s_lt (t_load 0 lx) ?_
   refine sp (iw at_) ?_
   refine sp (pB p 0) ?_
   refine sp (pB p 0) ?_
   refine sp (pB p 0) ?_
   refine sp (pB p 2) ?_
   refine s_lt (t_load 0 lx) ?_
   refine s_fact (fun H h => ((Acc.own (T := VlT) (L := L) 1 rfl) H h).form) (fun hf10 => ?_)
   refine s_lt (t_len VlT_ok Tryz.underlying28 (.own 1)) ?_
   obtain ⟨htm1, htm2⟩ := tmod_ge (a := at_) (n := L.length) (by omega) (by omega)
   refine s_lt (t_rem at_ (L.length : Int) (by omega)) ?_
   refine s_lt (t_index VlT_ok Tryz.underlying28 (.own 1) (Int.tmod at_ (L.length : Int)) (((Int.tmod at_ (L.length : Int))).toNat) (by omega) (by (try simp only [lnm]); omega) (by omega)) ?_
   refine sp (.pointer (some ((elemAt VlT.size lx (((Int.tmod at_ (L.length : Int))).toNat)).add 4))) ?_
   obtain ⟨y11, hy12⟩ : ∃ y, L[((Int.tmod at_ (L.length : Int))).toNat]? = some y := ⟨_, List.getElem?_eq_getElem (by (try simp only [lnm]); omega)⟩
   refine s_lt (t_loadF 4 VlT_ok (.own 1) hy12) ?_
   refine sp (iw y11.ref) ?_
   refine s_nil <| x_dynS (fun _ h => by obtain ⟨_, _, e⟩ := hf10; subst e; kernel_rfl) ?_
   refine xs_then <| k_ret ?_
   exact xs_fin [iw y11.ref] (blkA p #[hv, gv, lx, ov, pv, rv] 34 :: own VlT lx L :: F) (SI.tmp 4 SI.nil) (fun _ h => h.re [0, 0] []) ⟨_, rfl, rfl⟩
theorem pstep6_s {Z : Zone} {F : List Asr} {p : Nat} {hv gv lx ov pv sv : Value} {L : List Vl} {SL : List Int} (hS : Kn Z iTy sv SL) (hl : L.length ≤ 100000) : SF Tryz.prog 11 #[.pointer (some ⟨p, 0, none⟩), .agg #[iw 6, iw 0, iw 0, iw 0, sv]] Z (blkA p #[hv, gv, lx, ov, pv, .slice none 0 0] 34 :: own VlT lx L :: F) fun r Bs => ∃ rx R, r = .bool true ∧ R.length ≤ 30 ∧ Bs = blkA p #[hv, gv, lx, ov, pv, rx] 34 :: own iTy rx R :: own VlT lx L :: F := by
 refine sf_enter Tryz.func11 151 [(0, pB p 0), (1, .agg #[iw 6, iw 0, iw 0, iw 0, sv])] (fun w0 => ?_)
 refine k_fact (fun H h => (hS.get h).len_le) (fun lS => ?_)
 refine k_sr <| s_box #[iw 6, iw 0, iw 0, iw 0, sv] (fun g1 => ?_)
 refine sp (.bool false) ?_
 refine s_nt <| k_seq <| k_sr <| sp (pB g1 0) ?_
 refine s_lt (t_load 0 (iw 6)) ?_
 refine s_nt <| k_block ?_
 refine k_sr <| s_lt (t_cmp (c := false)) ?_
 refine sp (.bool false) ?_
 refine s_nt <| k_false ?_
 refine k_sr <| s_lt (t_cmp (c := false)) ?_
 refine sp (.bool false) ?_
 refine s_nt <| k_false ?_
 refine k_sr <| s_lt (t_cmp (c := false)) ?_
 refine sp (.bool false) ?_
 refine s_nt <| k_false ?_
 refine k_sr <| s_lt (t_cmp (c := false)) ?_
 refine sp (.bool false) ?_
 refine s_nt <| k_false ?_
 refine k_sr <| s_lt (t_cmp (c := false)) ?_
 refine sp (.bool false) ?_
 refine s_nt <| k_false ?_
 refine k_sr <| s_lt (t_cmp (c := false)) ?_
 refine sp (.bool false) ?_
 refine s_nt <| k_false ?_
 refine k_skip ?_
 refine xs_block ?_
 refine xs_then <| k_sr <| sp (pB p 0) ?_
 refine sp (pB p 0) ?_
 refine sp (pB p 5) ?_
 refine s_store 1 #[hv, gv, lx, ov, pv, (.slice none 0 0)] ?_
 refine s_nt <| k_seq <| k_sr <| sp (iw 0) ?_
 refine s_nt <| k_block ?_
 refine k_mem (fun _ h => Holds.nilS (T := iTy) h) ?_
 refine k_loop (ι := Value × List Int × Nat) (fun (rx, R, i) => R.length = i ∧ i ≤ 30) (fun (rx, R, i) => [(0, pB p 0), (3, pB g1 0), (10, iw (i : Int))]) (fun (rx, R, i) => own iTy rx R :: blkA g1 #[iw 6, iw 0, iw 0, iw 0, sv] 39 :: blkA p #[hv, gv, lx, ov, pv, rx] 34 :: own VlT lx L :: F) (fun (rx, R, i) => 30 - i) ((.slice none 0 0), [], 0) ⟨rfl, Nat.zero_le _⟩ (sub_of rfl ⟨⟨rfl, rfl⟩, ⟨⟨rfl, rfl⟩, ⟨⟨rfl, rfl⟩, trivial⟩⟩⟩) (fun _ h => h.re [0, 0, 0, 0] []) ?_
 rintro ⟨rx, R, i⟩ hi2
 replace hi2 : R.length = i ∧ i ≤ 30 := hi2
 show SK _ _ _ _ _ [(0, .pointer (some ⟨p, 0, none⟩)), (3, .pointer (some ⟨g1, 0, none⟩)), (10, iw (i : Int))] _ (own iTy rx R :: blkA g1 #[iw 6, iw 0, iw 0, iw 0, sv] 39 :: blkA p #[hv, gv, lx, ov, pv, rx] 34 :: own VlT lx L :: F)
 refine k_seq <| k_cut (ι := Unit) (fun _ => True) (fun _ => [(0, pB p 0), (3, pB g1 0), (10, iw (i : Int)), (132, .bool ((decide ((i : Int) < (SL.length : Int))) && (decide ((i : Int) < 30))))]) (fun _ => own iTy rx R :: blkA g1 #[iw 6, iw 0, iw 0, iw 0, sv] 39 :: blkA p #[hv, gv, lx, ov, pv, rx] 34 :: own VlT lx L :: F) ?_ (fun _ _ => ?_)
 ·
  refine k_reg ?_
  refine sp (iw (i : Int)) ?_
  refine sp (pB g1 4) ?_
  refine s_lt (t_load 1 sv) ?_
  refine s_lt (t_len iTy_ok Tryz.underlying23 (.zn hS)) ?_
  refine s_lt t_cmp ?_
  refine sp (.bool (decide ((i : Int) < (SL.length : Int)))) ?_
  refine s_fork 129 (decide ((i : Int) < (SL.length : Int))) (fun c3 => ?_) (fun c3 => ?_)
  ·
   have p4 := of_decide_eq_true c3
   refine sp (iw (i : Int)) ?_
   refine s_lt t_cmp ?_
   refine sp (.bool (decide ((i : Int) < 30))) ?_
   refine s_nil ?_
   exact xs_cut () trivial (sub_of rfl ⟨⟨rfl, rfl⟩, ⟨⟨rfl, rfl⟩, ⟨⟨rfl, rfl⟩, ⟨⟨rfl, show Value.bool (decide ((i : Int) < 30)) = Value.bool ((decide ((i : Int) < (SL.length : Int))) && (decide ((i : Int) < 30))) by first | (simp only [c3, bls]; done) | simp [c3]⟩, trivial⟩⟩⟩⟩) (fun _ h => h.re [0, 0, 0, 0] [])
  ·
   have p5 := of_decide_eq_false c3
   refine s_skip ?_
   refine s_skip ?_
   refine sp (.bool false) ?_
   refine s_nil ?_
   exact xs_cut () trivial (sub_of rfl ⟨⟨rfl, rfl⟩, ⟨⟨rfl, rfl⟩, ⟨⟨rfl, rfl⟩, ⟨⟨rfl, show Value.bool false = Value.bool ((decide ((i : Int) < (SL.length : Int))) && (decide ((i : Int) < 30))) by first | (simp only [c3, bls]; done) | simp [c3]⟩, trivial⟩⟩⟩⟩) (fun _ h => h.re [0, 0, 0, 0] [])
 ·
  refine k_cond ((decide ((i : Int) < (SL.length : Int))) && (decide ((i : Int) < 30))) (fun c6 => ?_) (fun c6 => ?_)
  ·
   obtain ⟨c7, c8⟩ := and_t c6
   have p9 := of_decide_eq_true c7
   have p10 := of_decide_eq_true c8
   refine k_st <| k_seq <| k_block ?_
   refine k_held [blkA g1 #[iw 6, iw 0, iw 0, iw 0, sv] 39, own VlT lx L] ?_
   refine hp_ 0 [1, 2] (pB p 0) ?_
   refine hp_ 1 [1, 2] (pB p 0) ?_
   refine hp_ 2 [1, 2] (pB p 0) ?_
   refine hp_ 3 [1, 2] (pB p 5) ?_
   refine hp_ 5 [1, 2] (pB p 0) ?_
   refine hp_ 6 [1, 2] (pB g1 4) ?_
   refine h_l 7 rfl [1, 2] (fun _ => (t_load 0 sv)) ?_
   refine hp_ 8 [1, 2] (iw (i : Int)) ?_
   refine h_l 9 rfl [1, 2] (fun _ => (t_index iTy_ok Tryz.underlying23 (.zn hS) (i : Int) i (by omega) (by (try simp only [lnm]); omega) (by omega))) ?_
   obtain ⟨y11, hy12⟩ : ∃ y, SL[i]? = some y := ⟨_, List.getElem?_eq_getElem (by (try simp only [lnm]); omega)⟩
   refine h_l 10 rfl [1, 2] (fun _ => (t_loadE iTy_ok (.zn hS) hy12)) ?_
   refine h_stepS2 4 11 ?_ ?_
   ·
    refine s_lt (t_load 2 rx) ?_
    refine s_nil (xs_held [1, 2] ?_)
    refine h_stepS 11 ?_
    refine s_call [2, 2] (pid_s (L := L) (by omega) y11) ?_
    rintro _ _ ⟨x18, rfl, rfl⟩
    refine s_nil (xs_held [3, 1] ?_)
    refine h_stepS 12 ?_
    refine s_buildSlice (e := 3) [(0, iw x18)] #[iw x18] (fun g19 => ?_) (hb := by kernel_rfl)
    refine s_nil (xs_held [4, 2] ?_)
    refine h_stepS 13 ?_
    refine s_append (L := R) 3 iTy_ok Tryz.underlying23 (.lit 0 iTy_ok [x18]) (by show _ * 8 ≤ _; (try simp only [lnm]); omega) (by (try simp only [lnm]); omega) (fun v20 => ?_)
    refine s_nil (xs_held [4, 2] ?_)
    refine hp_ 14 [4, 2] (pB p 0) ?_
    refine hp_ 15 [4, 2] (pB p 5) ?_
    refine h_stepS 16 ?_
    refine s_fact (fun H h => ((Acc.own (T := iTy) (L := (R ++ [x18])) 3 rfl) H h).form) (fun hf21 => ?_)
    refine s_store (u := v20) (m := 1) 1 #[hv, gv, lx, ov, pv, v20] ?_ (hm := by (obtain ⟨_, _, e⟩ := hf21; rw [e]; rfl)) (h1 := by (obtain ⟨_, _, e⟩ := hf21; rw [e]; rfl)) (ha' := by (obtain ⟨_, _, e⟩ := hf21; rw [e]; rfl))
    refine s_nil (xs_held [4, 2] ?_)
    refine h_doneS ?_
    refine xs_block ?_
    refine xs_then <| k_reg ?_
    refine sp (iw (i : Int)) ?_
    refine s_lt (t_add (i : Int) 1 (by (try simp only [lnm]); omega)) ?_
    refine sp (iw ((i : Int) + 1)) ?_
    refine s_nil ?_
    exact xs_round (v20, (R ++ [x18]), i + 1) (by show 30 - (i + 1) < 30 - i; omega) (by show ((R ++ [x18])).length = i + 1 ∧ i + 1 ≤ 30; rw [List.length_append]; simp only [List.length_singleton]; omega) (sub_of rfl ⟨⟨rfl, rfl⟩, ⟨⟨rfl, rfl⟩, ⟨⟨rfl, rfl⟩, trivial⟩⟩⟩) (fun _ h => h.re [3, 3, 1, 1] [4])
   ·
    refine s_call [2, 2] (pid_s (L := L) (by omega) y11) ?_
    rintro _ _ ⟨x22, rfl, rfl⟩
    refine s_nil (xs_held [3, 1] ?_)
    refine h_stepS2 4 12 ?_ ?_
    ·
     refine s_lt (t_load 0 rx) ?_
     refine s_nil (xs_held [3, 1] ?_)
     refine h_stepS 12 ?_
     refine s_buildSlice (e := 3) [(0, iw x22)] #[iw x22] (fun g27 => ?_) (hb := by kernel_rfl)
     refine s_nil (xs_held [4, 2] ?_)
     refine h_stepS 13 ?_
     refine s_append (L := R) 3 iTy_ok Tryz.underlying23 (.lit 0 iTy_ok [x22]) (by show _ * 8 ≤ _; (try simp only [lnm]); omega) (by (try simp only [lnm]); omega) (fun v28 => ?_)
     refine s_nil (xs_held [4, 2] ?_)
     refine hp_ 14 [4, 2] (pB p 0) ?_
     refine hp_ 15 [4, 2] (pB p 5) ?_
     refine h_stepS 16 ?_
     refine s_fact (fun H h => ((Acc.own (T := iTy) (L := (R ++ [x22])) 3 rfl) H h).form) (fun hf29 => ?_)
     refine s_store (u := v28) (m := 1) 1 #[hv, gv, lx, ov, pv, v28] ?_ (hm := by (obtain ⟨_, _, e⟩ := hf29; rw [e]; rfl)) (h1 := by (obtain ⟨_, _, e⟩ := hf29; rw [e]; rfl)) (ha' := by (obtain ⟨_, _, e⟩ := hf29; rw [e]; rfl))
     refine s_nil (xs_held [4, 2] ?_)
     refine h_doneS ?_
     refine xs_block ?_
     refine xs_then <| k_reg ?_
     refine sp (iw (i : Int)) ?_
     refine s_lt (t_add (i : Int) 1 (by (try simp only [lnm]); omega)) ?_
     refine sp (iw ((i : Int) + 1)) ?_
     refine s_nil ?_
     exact xs_round (v28, (R ++ [x22]), i + 1) (by show 30 - (i + 1) < 30 - i; omega) (by show ((R ++ [x22])).length = i + 1 ∧ i + 1 ≤ 30; rw [List.length_append]; simp only [List.length_singleton]; omega) (sub_of rfl ⟨⟨rfl, rfl⟩, ⟨⟨rfl, rfl⟩, ⟨⟨rfl, rfl⟩, trivial⟩⟩⟩) (fun _ h => h.re [3, 3, 1, 1] [4])
    ·
     refine s_buildSlice (e := 3) [(0, iw x22)] #[iw x22] (fun g30 => ?_) (hb := by kernel_rfl)
     refine s_nil (xs_held [4, 2] ?_)
     refine h_stepS 4 ?_
     refine s_lt (t_load 1 rx) ?_
     refine s_nil (xs_held [4, 2] ?_)
     refine h_stepS 13 ?_
     refine s_append (L := R) 3 iTy_ok Tryz.underlying23 (.lit 0 iTy_ok [x22]) (by show _ * 8 ≤ _; (try simp only [lnm]); omega) (by (try simp only [lnm]); omega) (fun v31 => ?_)
     refine s_nil (xs_held [4, 2] ?_)
     refine hp_ 14 [4, 2] (pB p 0) ?_
     refine hp_ 15 [4, 2] (pB p 5) ?_
     refine h_stepS 16 ?_
     refine s_fact (fun H h => ((Acc.own (T := iTy) (L := (R ++ [x22])) 3 rfl) H h).form) (fun hf32 => ?_)
     refine s_store (u := v31) (m := 1) 1 #[hv, gv, lx, ov, pv, v31] ?_ (hm := by (obtain ⟨_, _, e⟩ := hf32; rw [e]; rfl)) (h1 := by (obtain ⟨_, _, e⟩ := hf32; rw [e]; rfl)) (ha' := by (obtain ⟨_, _, e⟩ := hf32; rw [e]; rfl))
     refine s_nil (xs_held [4, 2] ?_)
     refine h_doneS ?_
     refine xs_block ?_
     refine xs_then <| k_reg ?_
     refine sp (iw (i : Int)) ?_
     refine s_lt (t_add (i : Int) 1 (by (try simp only [lnm]); omega)) ?_
     refine sp (iw ((i : Int) + 1)) ?_
     refine s_nil ?_
     exact xs_round (v31, (R ++ [x22]), i + 1) (by show 30 - (i + 1) < 30 - i; omega) (by show ((R ++ [x22])).length = i + 1 ∧ i + 1 ≤ 30; rw [List.length_append]; simp only [List.length_singleton]; omega) (sub_of rfl ⟨⟨rfl, rfl⟩, ⟨⟨rfl, rfl⟩, ⟨⟨rfl, rfl⟩, trivial⟩⟩⟩) (fun _ h => h.re [3, 3, 1, 1] [4])
  ·
   have p33 := c6
   simp only [Bool.and_eq_true, Bool.or_eq_true, Bool.and_eq_false_iff, Bool.or_eq_false_iff, Bool.not_eq_true', Bool.not_eq_false', decide_eq_true_eq, decide_eq_false_iff_not] at p33
   refine k_exit ?_
   refine xs_exit ?_
   refine xs_exit ?_
   refine xs_here ?_
   refine xs_then <| k_sr <| sp (.bool true) ?_
   refine s_nt <| k_ret ?_
   exact xs_fin [.bool true] (blkA p #[hv, gv, lx, ov, pv, rx] 34 :: own iTy rx R :: own VlT lx L :: F) (SI.tmp 4 SI.nil) (fun _ h => h.re [2, 0, 1] [3]) ⟨rx, R, rfl, by omega, rfl⟩
end Go.Proofs.YtmhpcebiamkciaaGreat
end
section
set_option linter.unusedSimpArgs false
set_option linter.unusedVariables false
set_option maxRecDepth 100000
set_option maxHeartbeats 2000000
namespace Go.Proofs.YtmhpcebiamkciaaGreat
open Go.Hp Go.J Go.S
open Go.Mem (Ty KTy blk elemAt pre suf blk_pre blk_suf aget aset strK aggDesc)
open Go.Mem (adel apos aget_aset aget_adel)
abbrev Core := Int × Int × Int × List Int × List Ent
def AllO (L : List Ob) (H : Heap) : Prop := ∀ x ∈ L, Sl H iTy x.rv.v x.refs ∧ Sl H EntT x.ev.v x.ents
theorem frz_push {Z : Zone} {As : List Asr} {H : Heap} {L : List Ob} (nb : Ob) (h : Holds Z (own iTy nb.rv.v nb.refs :: own EntT nb.ev.v nb.ents :: frz (AllO L) :: As) H) : Holds Z (frz (AllO (L ++ [nb])) :: As) H := by
  have h1 : Holds Z (own EntT nb.ev.v nb.ents :: frz (AllO L) :: own iTy nb.rv.v nb.refs :: As) H := h.re [1, 1] []
  have h2 := h1.frzO
  have h3 : Holds Z (own iTy nb.rv.v nb.refs :: frz (fun H => Sl H EntT nb.ev.v nb.ents ∧ AllO L H) :: As) H := h2.re [1] []
  refine h3.frzO.frzM fun H ⟨a, b, c⟩ x hx => ?_
  rcases List.mem_append.1 hx with hx | hx
  · exact c x hx
  · simp at hx; subst hx; exact ⟨a, b⟩
def cobj (st : Hst) (id : Int) : Core := (hoId st id, hoSz st id, hoWk st id 0, hrefs st id, hents st id)
theorem cob_snoc {st : Hst} {X : List Int} {N : List Ob} {j : Nat} {y : Int} {z : Ob} (hy : X[j]? = some y) (h : N.map Ob.c = (X.take j).map (cobj st)) (hz : z.c = cobj st y) : (N ++ [z]).map Ob.c = (X.take (j + 1)).map (cobj st) := by
  rw [List.take_add_one, hy, List.map_append, List.map_append, h]; simp [hz]
theorem graph_s {Z : Zone} {F : List Asr} {hb : Nat} {st : Hst} {rv : Value} {nn mm : Nat} (hrv : ∃ (p : Option Addr) (c : Nat), rv = .slice p mm c) (hsm : HSm nn st) (hn : nn ≤ 300) (hW : HW st) : SF Tryz.prog 22 #[.pointer (some ⟨hb, 0, none⟩), rv] Z (hpA hb st :: F) fun r Bs => ∃ ov N, r = .agg #[ov, rv] ∧ N.map Ob.c = (hids st).map (cobj st) ∧ Bs = own ObT ov N :: frz (AllO N) :: hpA hb st :: F := by
 refine sf_enter Tryz.func22 36 [(0, pB hb 0), (1, rv)] (fun w0 => ?_)
 have hil := hids_len st; have hol := hsm.len
 refine k_sr <| s_alloc (.agg #[(.slice none 0 0), (.slice none 0 0)]) #[(.slice none 0 0), (.slice none 0 0)] (fun g1 => ?_)
 refine s_nr ?_
 refine sp rv ?_
 refine s_lt (show Lt _ _ _ _ _ (.agg #[(.slice none 0 0), rv]) from by obtain ⟨_, _, e⟩ := hrv; rw [e]; clear e; exact t_kern _) ?_
 refine s_alloc (.agg #[(.slice none 0 0), (.slice none 0 0)]) #[(.slice none 0 0), (.slice none 0 0)] (fun g2 => ?_)
 refine s_store (u := .agg #[(.slice none 0 0), rv]) (m := 2) 0 #[(.slice none 0 0), rv] ?_ (hm := by (obtain ⟨_, _, e0⟩ := hrv; rw [e0]; rfl)) (h1 := by (obtain ⟨_, _, e0⟩ := hrv; rw [e0]; rfl)) (ha' := by (obtain ⟨_, _, e0⟩ := hrv; rw [e0]; rfl))
 refine s_nr ?_
 refine sp (pB hb 0) ?_
 refine s_call [2] (hids_s (st := st) hsm hn) ?_
 rintro v3 _ rfl
 refine s_fact (fun H h => ((Acc.own (T := iTy) (L := (hids st)) 0 rfl) H h).form) (fun hf4 => ?_)
 refine sp v3 ?_
 refine s_nt <| k_seq <| k_sr <| sp (iw 0) ?_
 refine s_nt <| k_block ?_
 refine k_mem (fun _ h => Holds.nilS (T := ObT) (h.frz0 (F := AllO []) (by intro _ x hx; cases hx))) ?_
 refine k_loop (ι := Value × List Ob × Nat) (fun (ox, N, j) => j ≤ (hids st).length ∧ N.map Ob.c = ((hids st).take j).map (cobj st)) (fun (ox, N, j) => [(0, pB hb 0), (4, pB g1 0), (5, pB g2 0), (6, v3), (7, iw (j : Int))]) (fun (ox, N, j) => own ObT ox N :: frz (AllO N) :: own iTy v3 (hids st) :: hpA hb st :: blkA g2 #[ox, rv] 57 :: blkA g1 #[(.slice none 0 0), (.slice none 0 0)] 57 :: F) (fun (ox, N, j) => (hids st).length - j) ((.slice none 0 0), [], 0) ⟨Nat.zero_le _, rfl⟩ (sub_of rfl ⟨⟨rfl, rfl⟩, ⟨⟨rfl, rfl⟩, ⟨⟨rfl, rfl⟩, ⟨⟨rfl, rfl⟩, ⟨⟨rfl, rfl⟩, trivial⟩⟩⟩⟩⟩) (fun _ h => h.re [0, 0, 0, 0, 0, 0] []) ?_
 rintro ⟨ox, N, j⟩ hi5
 replace hi5 : j ≤ (hids st).length ∧ N.map Ob.c = ((hids st).take j).map (cobj st) := hi5
 show SK _ _ _ _ _ [(0, .pointer (some ⟨hb, 0, none⟩)), (4, .pointer (some ⟨g1, 0, none⟩)), (5, .pointer (some ⟨g2, 0, none⟩)), (6, v3), (7, iw (j : Int))] _ (own ObT ox N :: frz (AllO N) :: own iTy v3 (hids st) :: hpA hb st :: blkA g2 #[ox, rv] 57 :: blkA g1 #[(.slice none 0 0), (.slice none 0 0)] 57 :: F)
 have hNl : N.length = j := by have := congrArg List.length hi5.2; simp only [List.length_map, List.length_take] at this; omega
 refine k_seq <| k_sr <| sp (iw (j : Int)) ?_
 refine sp v3 ?_
 refine s_lt (t_len iTy_ok Tryz.underlying23 (.own 2)) ?_
 refine s_lt t_cmp ?_
 refine s_nt <| k_cond (decide ((j : Int) < ((hids st).length : Int))) (fun c6 => ?_) (fun c6 => ?_)
 ·
  have p7 := of_decide_eq_true c6
  refine k_st <| k_seq <| k_block ?_
  refine k_sr <| sp (pB hb 0) ?_
  refine sp v3 ?_
  refine sp (iw (j : Int)) ?_
  refine s_lt (t_index iTy_ok Tryz.underlying23 (.own 2) (j : Int) j (by omega) (by (try simp only [lnm]); omega) (by omega)) ?_
  obtain ⟨y8, hy9⟩ : ∃ y, (hids st)[j]? = some y := ⟨_, List.getElem?_eq_getElem (by (try simp only [lnm]); omega)⟩
  refine s_lt (t_loadE iTy_ok (.own 2) hy9) ?_
  refine s_call [3] (hobject_s (st := st) hsm hn hW y8 0) ?_
  rintro _ _ ⟨rv10, ev11, rfl, rfl⟩
  refine s_fact (fun H h => ((Acc.own (T := iTy) (L := (hrefs st y8)) 0 rfl) H h).form) (fun hf12 => ?_)
  refine s_fact (fun H h => ((Acc.own (T := EntT) (L := (hents st y8)) 1 rfl) H h).form) (fun hf13 => ?_)
  refine sp (.tuple #[.agg #[iw (hoId st y8), iw (hoSz st y8), iw (hoWk st y8 0), rv10, ev11], .bool (halive st y8)]) ?_
  refine sp (.agg #[iw (hoId st y8), iw (hoSz st y8), iw (hoWk st y8 0), rv10, ev11]) ?_
  refine sp (.bool (halive st y8)) ?_
  refine s_alloc (.agg #[iw 0, iw 0, iw 0, (.slice none 0 0), (.slice none 0 0)]) #[iw 0, iw 0, iw 0, (.slice none 0 0), (.slice none 0 0)] (fun g14 => ?_)
  refine s_store (u := .agg #[iw (hoId st y8), iw (hoSz st y8), iw (hoWk st y8 0), rv10, ev11]) (m := 5) 0 #[iw (hoId st y8), iw (hoSz st y8), iw (hoWk st y8 0), rv10, ev11] ?_ (hm := by (obtain ⟨_, _, e0⟩ := hf12; obtain ⟨_, _, e1⟩ := hf13; rw [e0, e1]; rfl)) (h1 := by (obtain ⟨_, _, e0⟩ := hf12; obtain ⟨_, _, e1⟩ := hf13; rw [e0, e1]; rfl)) (ha' := by (obtain ⟨_, _, e0⟩ := hf12; obtain ⟨_, _, e1⟩ := hf13; rw [e0, e1]; rfl))
  refine sp (.bool (halive st y8)) ?_
  refine s_nt <| k_reg ?_
  refine sp (pB g2 0) ?_
  refine s_lt (t_load 7 ox) ?_
  obtain ⟨pp15, cc16, e⟩ := hf12; subst e
  obtain ⟨pp17, cc18, e⟩ := hf13; subst e
  refine s_lt (t_loadA 0 #[iw (hoId st y8), iw (hoSz st y8), iw (hoWk st y8 0), (.slice pp15 (hrefs st y8).length cc16), (.slice pp17 (hents st y8).length cc18)]) ?_
  refine s_buildSlice (e := 100) [(0, .agg #[iw (hoId st y8), iw (hoSz st y8), iw (hoWk st y8 0), (.slice pp15 (hrefs st y8).length cc16), (.slice pp17 (hents st y8).length cc18)])] #[iw (hoId st y8), iw (hoSz st y8), iw (hoWk st y8 0), (.slice pp15 (hrefs st y8).length cc16), (.slice pp17 (hents st y8).length cc18)] (fun g19 => ?_) (hb := by kernel_rfl)
  refine s_append (L := N) 5 ObT_ok Tryz.underlying55 (.lit 0 ObT_ok [(⟨(hoId st y8), (hoSz st y8), (hoWk st y8 0), ⟨pp15, (hrefs st y8).length, cc16⟩, ⟨pp17, (hents st y8).length, cc18⟩, (hrefs st y8), (hents st y8)⟩ : Ob)]) (by show _ * 72 ≤ _; (try simp only [lnm]); omega) (by (try simp only [lnm]); omega) (fun v20 => ?_)
  refine s_fact (fun H h => ((Acc.own (T := ObT) (L := (N ++ [(⟨(hoId st y8), (hoSz st y8), (hoWk st y8 0), ⟨pp15, (hrefs st y8).length, cc16⟩, ⟨pp17, (hents st y8).length, cc18⟩, (hrefs st y8), (hents st y8)⟩ : Ob)])) 5 rfl) H h).form) (fun hf21 => ?_)
  refine sp (pB g2 0) ?_
  refine s_store (u := v20) (m := 1) 8 #[v20, rv] ?_ (hm := by (obtain ⟨_, _, e0⟩ := hf21; rw [e0]; rfl)) (h1 := by (obtain ⟨_, _, e0⟩ := hf21; rw [e0]; rfl)) (ha' := by (obtain ⟨_, _, e0⟩ := hf21; rw [e0]; rfl))
  refine s_nil <| xs_block ?_
  refine xs_then <| k_reg ?_
  refine sp (iw (j : Int)) ?_
  refine s_lt (t_add (j : Int) 1 (by (try simp only [lnm]); omega)) ?_
  refine sp (iw ((j : Int) + 1)) ?_
  refine s_nil <| xs_mem (fun _ h => frz_push (⟨(hoId st y8), (hoSz st y8), (hoWk st y8 0), ⟨pp15, (hrefs st y8).length, cc16⟩, ⟨pp17, (hents st y8).length, cc18⟩, (hrefs st y8), (hents st y8)⟩ : Ob) (h.re [2, 2, 4] [])) ?_
  exact xs_round (v20, N ++ [(⟨(hoId st y8), (hoSz st y8), (hoWk st y8 0), ⟨pp15, (hrefs st y8).length, cc16⟩, ⟨pp17, (hents st y8).length, cc18⟩, (hrefs st y8), (hents st y8)⟩ : Ob)], j + 1) (by show (hids st).length - (j + 1) < (hids st).length - j; omega) (by obtain ⟨hk1, hk2⟩ := hi5; exact ⟨by omega, cob_snoc hy9 hk2 rfl⟩) (sub_of rfl ⟨⟨rfl, rfl⟩, ⟨⟨rfl, rfl⟩, ⟨⟨rfl, rfl⟩, ⟨⟨rfl, rfl⟩, ⟨⟨rfl, rfl⟩, trivial⟩⟩⟩⟩⟩) (fun _ h => h.re [4, 0, 3, 2, 2, 2] [6, 6])
 ·
  have p22 := of_decide_eq_false c6
  refine k_exit ?_
  refine xs_exit ?_
  refine xs_exit ?_
  refine xs_here ?_
  refine xs_then <| k_sr <| s_lt (t_loadA 4 #[ox, rv]) ?_
  refine s_fact (fun H h => ((Acc.own (T := ObT) (L := N) 0 rfl) H h).form) (fun hf23 => ?_)
  refine s_store (u := .agg #[ox, rv]) (m := 2) 5 #[ox, rv] ?_ (hm := by (obtain ⟨_, _, e0⟩ := hf23; obtain ⟨_, _, e1⟩ := hrv; rw [e0, e1]; rfl)) (h1 := by (obtain ⟨_, _, e0⟩ := hf23; obtain ⟨_, _, e1⟩ := hrv; rw [e0, e1]; rfl)) (ha' := by (obtain ⟨_, _, e0⟩ := hf23; obtain ⟨_, _, e1⟩ := hrv; rw [e0, e1]; rfl))
  refine s_nt <| k_ret ?_
  obtain ⟨hk1, hk2⟩ := hi5
  rw [List.take_of_length_le (by omega)] at hk2
  exact xs_fin [.agg #[ox, rv]] (own ObT ox N :: frz (AllO N) :: hpA hb st :: F) (SI.agg 4 57 5 SI.nil) (fun _ h => h.re [0, 0, 1] [3, 3, 3]) ⟨ox, N, rfl, hk2, rfl⟩
def phI (n u t : Nat) : Int := if t ≤ n then 1 else if t ≤ n + u then 2 else 0
theorem cyphase_s {Z : Zone} {F : List Asr} {b q hb : Nat} {st : Hst} {R : List Int} {n t : Nat} : SF Tryz.prog 15 #[.pointer (some ⟨b, 0, none⟩)] Z (cyA b q hb st R n t :: F) fun r Bs => r = iw (phI n (hids st).length t) ∧ Bs = cyA b q hb st R n t :: F := by
 refine sf_enter Tryz.func15 9 [(0, pB b 0)] (fun w0 => ?_)
 by_cases ht : t ≤ n
 ·
  refine k_memX (fun H h => cy_mark ht (h.re [0] [])) (fun m hm => ?_)
  refine k_sr <| sp (iw 0) ?_
  refine s_nt <| k_seq <| k_sr <| sp (pB b 0) ?_
  refine sp (.bool false) ?_
  refine s_nt <| k_false ?_
  refine k_st <| k_sr <| sp (pB b 0) ?_
  refine sp (pB b 0) ?_
  refine sp (pB b 2) ?_
  refine s_mem4 (fun H h => co_open (h.re [0] [])) (fun mb1 qv2 lv3 fv4 hw => ?_)
  refine s_lt (t_load 0 (iw 1)) ?_
  refine sp (iw 1) ?_
  refine s_nt <| k_ret <| xs_mem (fun _ h => co_shut (h.re [0, 0, 0, 0, 0, 0] [])) ?_
  refine xs_mem (Bs := cyA b q hb st R n t :: F) (fun _ h => cy_marked ht hm rfl (h.re [0, 0] [])) ?_
  exact xs_fin [iw 1] (cyA b q hb st R n t :: F) (SI.tmp 2 SI.nil) (fun _ h => h.re [0] []) ⟨by unfold phI; rw [if_pos ht]; rfl, rfl⟩
 ·
  by_cases ht2 : t ≤ n + (hids st).length
  ·
   obtain ⟨s, hs⟩ : ∃ s, t = n + 1 + s := ⟨t - n - 1, by omega⟩
   refine k_mem2 (fun H h => cy_sweepT (st := st) hs (by omega) (h.re [0] [])) (fun m x hm => ?_)
   refine k_sr <| sp (iw 0) ?_
   refine s_nt <| k_seq <| k_sr <| sp (pB b 0) ?_
   refine sp (.bool false) ?_
   refine s_nt <| k_false ?_
   refine k_st <| k_sr <| sp (pB b 0) ?_
   refine sp (pB b 0) ?_
   refine sp (pB b 2) ?_
   refine s_mem4 (fun H h => co_open (h.re [0] [])) (fun mb5 qv6 lv7 fv8 hw => ?_)
   refine s_lt (t_load 0 (iw 2)) ?_
   refine sp (iw 2) ?_
   refine s_nt <| k_ret <| xs_mem (fun _ h => co_shut (h.re [0, 0, 0, 0, 0, 0] [])) ?_
   refine xs_mem (Bs := cyA b q hb st R n t :: F) (fun _ h => cy_sweepS (st := st) hs (by omega) hm.1 hm.2 (h.re [0, 0] [])) ?_
   exact xs_fin [iw 2] (cyA b q hb st R n t :: F) (SI.tmp 2 SI.nil) (fun _ h => h.re [0] []) ⟨by unfold phI; rw [if_neg ht, if_pos ht2]; rfl, rfl⟩
  ·
   refine k_memX (fun H h => cy_end (n := n) (st := st) (t := t) (by omega) (h.re [0] [])) (fun m hm => ?_)
   refine k_sr <| sp (iw 0) ?_
   refine s_nt <| k_seq <| k_sr <| sp (pB b 0) ?_
   refine sp (.bool false) ?_
   refine s_nt <| k_false ?_
   refine k_st <| k_sr <| sp (pB b 0) ?_
   refine sp (pB b 0) ?_
   refine sp (pB b 2) ?_
   refine s_mem4 (fun H h => co_open (h.re [0] [])) (fun mb9 qv10 lv11 fv12 hw => ?_)
   refine s_lt (t_load 0 (iw 0)) ?_
   refine sp (iw 0) ?_
   refine s_nt <| k_ret <| xs_mem (fun _ h => co_shut (h.re [0, 0, 0, 0, 0, 0] [])) ?_
   refine xs_mem (Bs := cyA b q hb st R n t :: F) (fun _ h => cy_ended (n := n) (st := st) (t := t) (by omega) (h.re [0, 0] [])) ?_
   exact xs_fin [iw 0] (cyA b q hb st R n t :: F) (SI.tmp 2 SI.nil) (fun _ h => h.re [0] []) ⟨by unfold phI; rw [if_neg ht, if_neg ht2]; rfl, rfl⟩
theorem cwork_z {Z : Zone} {b : Nat} {rv : Value} : SF Tryz.prog 16 #[.pointer (some ⟨b, 0, none⟩), iw 0, rv] Z [] fun r Bs => r = iw 0 ∧ Bs = [] := by
 refine sf_enter Tryz.func16 62 [(0, pB b 0), (1, iw 0), (2, rv)] (fun w0 => ?_)
 refine k_sr <| sp (iw 0) ?_
 refine s_nt <| k_seq <| k_sr <| sp (pB b 0) ?_
 refine sp (.bool false) ?_
 refine sp (.bool false) ?_
 refine sp (iw 0) ?_
 refine s_lt (t_cmp (c := true)) ?_
 refine sp (.bool true) ?_
 refine s_nt <| k_true ?_
 refine k_sr <| sp (iw 0) ?_
 refine s_nt <| k_ret <| xs_ret ?_
 exact xs_fin [iw 0] [] (SI.tmp 6 SI.nil) (fun _ h => h.re [] []) ⟨rfl, rfl⟩
theorem none_start {st : Hst} (h0 : hids st = []) (R : List Int) : rchA st ([], []) R = ([], []) :=
  rch_none R fun z _ ha => by have := mem_hids.2 ha; rw [h0] at this; cases this
def nost : Nat → Int
  | 0 => 1
  | 1 => 2
  | _ => 0
theorem cwork_e {Z : Zone} {F : List Asr} {b q hb : Nat} {st : Hst} {rv : Value} {R : List Int} {n : Nat} (hsm : HSm n st) (hn : n ≤ 300) (h0 : hids st = []) (hR : R.length ≤ 1000) : SF Tryz.prog 16 #[.pointer (some ⟨b, 0, none⟩), iw 5, rv] Z (own iTy rv R :: coA b q hb 0 [] [] [] [] :: hpA hb st :: F) fun r Bs => r = iw 0 ∧ Bs = F := by
 refine sf_enter Tryz.func16 62 [(0, pB b 0), (1, iw 5), (2, rv)] (fun w0 => ?_)
 refine k_sr <| sp (iw 0) ?_
 refine s_nt <| k_seq <| k_sr <| sp (pB b 0) ?_
 refine sp (.bool false) ?_
 refine sp (.bool false) ?_
 refine sp (iw 5) ?_
 refine s_lt (t_cmp (c := false)) ?_
 refine sp (.bool false) ?_
 refine s_nt <| k_false ?_
 refine k_st <| k_seq <| k_sr <| sp (pB b 0) ?_
 refine sp (pB b 0) ?_
 refine sp (pB b 2) ?_
 refine s_mem4 (fun H h => co_open (h.re [1] [])) (fun mb1 qv2 lv3 fv4 hw => ?_)
 refine s_lt (t_load 0 (iw 0)) ?_
 refine s_lt (t_cmp (c := true)) ?_
 refine s_nt <| k_true ?_
 refine k_reg ?_
 refine sp (pB b 0) ?_
 refine sp rv ?_
 refine s_mem (fun _ h => co_shut (h.re [0, 0, 0, 0, 0, 0] [])) ?_
 refine s_call [1, 0, 0] (cbegin_s (R := R) (by omega)) ?_
 rintro _ _ ⟨rfl, rfl⟩
 refine s_mem (Bs := own iTy rv R :: coA b q hb 1 [] ([] : List Int) [] [] :: hpA hb st :: F) (fun _ h => by rw [none_start h0 R] at h; exact h) ?_
 refine s_nr ?_
 refine sp (iw 0) ?_
 refine s_nt <| k_seq <| k_block ?_
 refine k_loop (ι := Nat × Int) (fun (k, zzp) => nost k = zzp ∧ k ≤ 2) (fun (k, zzp) => [(0, pB b 0), (1, iw 5), (2, rv), (7, iw 0)]) (fun (k, zzp) => own iTy rv R :: coA b q hb zzp [] ([] : List Int) [] [] :: hpA hb st :: F) (fun (k, zzp) => 2 - k) (0, 1) ⟨rfl, by decide⟩ (sub_of rfl ⟨⟨rfl, rfl⟩, ⟨⟨rfl, rfl⟩, ⟨⟨rfl, rfl⟩, ⟨⟨rfl, rfl⟩, trivial⟩⟩⟩⟩) (fun _ h => h.re [0, 0, 0] []) ?_
 rintro ⟨k, zzp⟩ hi5
 replace hi5 : nost k = zzp ∧ k ≤ 2 := hi5
 show SK _ _ _ _ _ [(0, .pointer (some ⟨b, 0, none⟩)), (1, iw 5), (2, rv), (7, iw 0)] _ (own iTy rv R :: coA b q hb zzp [] ([] : List Int) [] [] :: hpA hb st :: F)
 obtain ⟨hk1, hk2⟩ := hi5
 obtain rfl | rfl | rfl : k = 0 ∨ k = 1 ∨ k = 2 := by omega
 ·
  obtain rfl : (1 : Int) = zzp := hk1
  show SK _ _ _ _ _ [(0, .pointer (some ⟨b, 0, none⟩)), (1, iw 5), (2, rv), (7, iw 0)] _ (own iTy rv R :: coA b q hb 1 [] ([] : List Int) [] [] :: hpA hb st :: F)
  refine k_seq <| k_sr <| sp (iw 0) ?_
  refine sp (iw 5) ?_
  refine s_lt (t_cmp (c := true)) ?_
  refine sp (.bool true) ?_
  refine sp (pB b 0) ?_
  refine sp (pB b 0) ?_
  refine sp (pB b 2) ?_
  refine s_mem4 (fun H h => co_open (h.re [1] [])) (fun mb6 qv7 lv8 fv9 hw => ?_)
  refine s_lt (t_load 0 (iw 1)) ?_
  refine s_lt (t_cmp (c := true)) ?_
  refine sp (.bool true) ?_
  refine s_nt <| k_true ?_
  refine k_st <| k_block ?_
  refine k_seq <| k_sr <| sp (pB b 0) ?_
  refine sp (pB b 0) ?_
  refine sp (pB b 2) ?_
  refine s_lt (t_load 0 (iw 1)) ?_
  refine s_lt (t_cmp (c := true)) ?_
  refine s_nt <| k_true ?_
  refine k_seq <| k_sr <| sp (pB b 0) ?_
  refine sp rv ?_
  refine s_mem (fun _ h => co_shut (h.re [0, 0, 0, 0, 0, 0] [])) ?_
  refine s_call [1, 0, 0] (cmark2_s (m := []) (R := R) (by omega) (none_start h0 R) hsm hn) ?_
  rintro _ _ ⟨rfl, rfl⟩
  refine s_mem (Bs := own iTy rv R :: coA b q hb 2 [] ([] : List Int) [] [] :: hpA hb st :: F) (fun _ h => by rw [h0] at h; exact h) ?_
  refine s_nt <| k_false ?_
  refine k_st <| k_exit ?_
  refine xs_exit ?_
  refine xs_here ?_
  exact xs_round (1, 2) (by show 2 - 1 < 2 - 0; decide) ⟨rfl, by show 1 ≤ 2; decide⟩ (sub_of rfl ⟨⟨rfl, rfl⟩, ⟨⟨rfl, rfl⟩, ⟨⟨rfl, rfl⟩, ⟨⟨rfl, rfl⟩, trivial⟩⟩⟩⟩) (fun _ h => h.re [0, 0, 0] [])
 ·
  obtain rfl : (2 : Int) = zzp := hk1
  show SK _ _ _ _ _ [(0, .pointer (some ⟨b, 0, none⟩)), (1, iw 5), (2, rv), (7, iw 0)] _ (own iTy rv R :: coA b q hb 2 [] ([] : List Int) [] [] :: hpA hb st :: F)
  refine k_seq <| k_sr <| sp (iw 0) ?_
  refine sp (iw 5) ?_
  refine s_lt (t_cmp (c := true)) ?_
  refine sp (.bool true) ?_
  refine sp (pB b 0) ?_
  refine sp (pB b 0) ?_
  refine sp (pB b 2) ?_
  refine s_mem4 (fun H h => co_open (h.re [1] [])) (fun mb10 qv11 lv12 fv13 hw => ?_)
  refine s_lt (t_load 0 (iw 2)) ?_
  refine s_lt (t_cmp (c := true)) ?_
  refine sp (.bool true) ?_
  refine s_nt <| k_true ?_
  refine k_st <| k_block ?_
  refine k_seq <| k_sr <| sp (pB b 0) ?_
  refine sp (pB b 0) ?_
  refine sp (pB b 2) ?_
  refine s_lt (t_load 0 (iw 2)) ?_
  refine s_lt (t_cmp (c := false)) ?_
  refine s_nt <| k_false ?_
  refine k_st <| k_seq <| k_sr <| sp (pB b 0) ?_
  refine sp (pB b 0) ?_
  refine sp (pB b 5) ?_
  refine s_lt (t_load 0 lv12) ?_
  refine s_lt (t_len iTy_ok Tryz.underlying23 (.ownO 4)) ?_
  refine s_lt (Lt.to t_cmp (congrArg Value.bool (decide_eq_false (by decide) : (decide ((0 : Int) < ([].length : Int))) = false))) ?_
  refine s_nt <| k_false ?_
  refine k_st <| k_sr <| sp (pB b 0) ?_
  refine sp (pB b 0) ?_
  refine sp (pB b 5) ?_
  refine s_lt (t_load 0 lv12) ?_
  refine s_lt (t_len iTy_ok Tryz.underlying23 (.ownO 4)) ?_
  refine s_lt (Lt.to t_cmp (congrArg Value.bool (decide_eq_true rfl : (decide (([].length : Int) = 0)) = true))) ?_
  refine s_nt <| k_true ?_
  refine k_reg ?_
  refine sp (pB b 0) ?_
  refine sp (pB b 0) ?_
  refine sp (pB b 2) ?_
  refine s_store 0 #[pB q 0, pB hb 0, iw 0, .map (some mb10), qv11, lv12, fv13] ?_
  refine s_nil <| xs_block ?_
  refine xs_mem (fun _ h => co_shut (h.re [0, 0, 0, 0, 0, 0] [])) ?_
  exact xs_round (2, 0) (by show 2 - 2 < 2 - 1; decide) ⟨rfl, by show 2 ≤ 2; decide⟩ (sub_of rfl ⟨⟨rfl, rfl⟩, ⟨⟨rfl, rfl⟩, ⟨⟨rfl, rfl⟩, ⟨⟨rfl, rfl⟩, trivial⟩⟩⟩⟩) (fun _ h => h.re [1, 0, 0] [])
 ·
  obtain rfl : (0 : Int) = zzp := hk1
  show SK _ _ _ _ _ [(0, .pointer (some ⟨b, 0, none⟩)), (1, iw 5), (2, rv), (7, iw 0)] _ (own iTy rv R :: coA b q hb 0 [] ([] : List Int) [] [] :: hpA hb st :: F)
  refine k_seq <| k_sr <| sp (iw 0) ?_
  refine sp (iw 5) ?_
  refine s_lt (t_cmp (c := true)) ?_
  refine sp (.bool true) ?_
  refine sp (pB b 0) ?_
  refine sp (pB b 0) ?_
  refine sp (pB b 2) ?_
  refine s_mem4 (fun H h => co_open (h.re [1] [])) (fun mb14 qv15 lv16 fv17 hw => ?_)
  refine s_lt (t_load 0 (iw 0)) ?_
  refine s_lt (t_cmp (c := false)) ?_
  refine sp (.bool false) ?_
  refine s_nt <| k_false ?_
  refine k_exit ?_
  refine xs_exit ?_
  refine xs_exit ?_
  refine xs_here ?_
  refine xs_then <| k_sr <| sp (iw 0) ?_
  refine sp (iw 0) ?_
  refine s_nt <| k_ret <| xs_mem (fun _ h => co_shut (h.re [0, 0, 0, 0, 0, 0] [])) ?_
  exact xs_fin [iw 0] F (SI.tmp 6 SI.nil) (fun _ h => h.re [] [0, 0, 0]) ⟨rfl, rfl⟩
theorem en_mk {Z : Zone} {F : List Asr} {H : Heap} {b q hb : Nat} {st : Hst} {R : List Int} {n t : Nat} (h : Holds Z (coA b q hb 0 [] [] [] [] :: hpA hb st :: F) H) : Holds Z (enA b q hb st R n true t :: F) H := Holds.shut_st trivial h
def lvH : Hst := hmake hp0 (newO 4 0 eb [])
theorem lv_v : hmakeV hp0 4 = ⟨4, 0, 0, eb, 1⟩ := rfl
theorem lv_e : hmakeE hp0 = 0 := rfl
theorem lv_i : hids lvH = [1] := rfl
theorem lv_sm : HSm 1 lvH := hmake_sm HSm.nil rfl (by decide)
theorem lv_w : HW lvH := HW.make HW.nil (newO_w _ _ _ (fun _ hv => (by cases hv)) (fun h8 => by cases h8))
theorem lv_lv : Lv lvH [1] 1 := ⟨fun h hh => by obtain rfl : h = 0 := by omega
                                                exact (show (0 : Nat) < 1 by decide), rfl⟩
theorem lv_a : halive (swS lvH (gq lvH [1] 1) (hids lvH).length) 1 = true := mem_hids.1 (by rw [swS_ids]; exact List.mem_filter.2 ⟨by rw [lv_i]; decide, by rfl⟩)
theorem lv_work {t z : Nat} (h1 : z + nof 1 0 = nof 1 t) (h2 : z ≤ 9) (h3 : t ≤ 1 + (hids lvH).length + 1) (h4 : z = 9 ∨ t = 1 + (hids lvH).length + 1) : t = 3 ∧ z = 2 := by
  rw [lv_i] at h3 h4
  simp only [List.length_singleton] at h3 h4
  have e := nofA (n := 1) (t := 0) (by omega)
  have e3 : nof 1 3 = 2 := nofB 1 1
  have e4 : nof 1 t ≤ t := by unfold nof; split <;> omega
  have ht : t = 3 := by omega
  subst ht; exact ⟨rfl, by omega⟩
theorem lives45_s {Z : Zone} : SF Tryz.prog 9 #[] Z [] fun r Bs => r = .bool true ∧ Bs = [] := by
 refine sf_enter Tryz.func9 44 [] (fun w0 => ?_)
 refine k_sr <| sp (.bool false) ?_
 refine s_nr ?_
 refine s_pcall (fun _ h => hnew_s) ?_
 rintro _ _ ⟨hb1, rfl, rfl⟩
 refine sp (pB hb1 0) ?_
 refine s_nt <| k_seq <| k_sr <| sp (pB hb1 0) ?_
 refine sp (.bool false) ?_
 refine s_nt <| k_false ?_
 refine k_st <| k_sr <| sp (pB hb1 0) ?_
 refine s_call [0] (hnewtable_s (st := hp0) (by decide)) ?_
 rintro _ _ ⟨rfl, rfl⟩
 rw [lv_v, lv_e]
 refine s_mem (Bs := [hpA hb1 lvH]) (fun _ h => h) ?_
 refine sp (.tuple #[.agg #[iw 4, iw 0, iw 0, sw eb, iw 1], iw 0]) ?_
 refine sp (.agg #[iw 4, iw 0, iw 0, sw eb, iw 1]) ?_
 refine sp (iw 0) ?_
 refine s_alloc (.agg zc) zc (fun g2 => ?_)
 refine s_store 0 #[iw 4, iw 0, iw 0, sw eb, iw 1] ?_
 refine sp (iw 0) ?_
 refine s_nr ?_
 refine sp (pB hb1 0) ?_
 refine s_pcall (fun _ h => cnew_s) ?_
 rintro _ _ ⟨b3, q4, rfl, rfl⟩
 refine sp (.tuple #[pB b3 0, iw 0]) ?_
 refine sp (pB b3 0) ?_
 refine sp (iw 0) ?_
 refine sp (pB b3 0) ?_
 refine sp (iw 0) ?_
 refine s_nr ?_
 refine sp (pB b3 0) ?_
 refine sp (.bool true) ?_
 refine sp (.bool true) ?_
 refine sp (iw 0) ?_
 refine s_lt (t_cmp (c := true)) ?_
 refine sp (.bool true) ?_
 refine sp (.bool true) ?_
 refine sp (pB b3 0) ?_
 refine sp (pB g2 4) ?_
 refine s_lt (t_load 1 (iw 1)) ?_
 refine s_buildSlice (e := 3) [(0, iw 1)] #[iw 1] (fun g5 => ?_) (hb := by kernel_rfl)
 refine s_mem (fun _ h => Holds.slice 0 h iTy_ok [1]) ?_
 refine s_mem (fun _ h => en_mk (R := [1]) (n := 1) (t := 0) (h.re [1, 2] [])) ?_
 refine s_call [1, 0] (cwork_g (k := 9) lv_sm (by decide) lv_w lv_lv (by decide) (by decide) (by decide) (by decide) (by decide) (fun _ => rfl)) ?_
 rintro _ _ ⟨t, z, rfl, ⟨hz1, hz2, hz3, hz4⟩, rfl⟩
 obtain ⟨rfl, rfl⟩ := lv_work hz1 hz2 hz3 hz4
 refine s_memX (fun H h => cy_end (b := b3) (q := q4) (hb := hb1) (n := 1) (st := lvH) (R := [1]) (t := 3) (by decide) (h.re [1] [])) (fun m _ => ?_)
 refine s_lt (t_cmp (c := true)) ?_
 refine sp (.bool true) ?_
 refine sp (.bool true) ?_
 refine sp (pB b3 0) ?_
 refine s_call [0] (cphase_s) ?_
 rintro _ _ ⟨rfl, rfl⟩
 refine s_lt (t_cmp (c := true)) ?_
 refine sp (.bool true) ?_
 refine sp (.bool true) ?_
 refine sp (pB hb1 0) ?_
 refine sp (pB g2 4) ?_
 refine s_lt (t_load 3 (iw 1)) ?_
 refine s_call [1] (halive_s (st := (swS lvH (gq lvH [1] 1) (hids lvH).length)) 1) ?_
 rintro _ _ ⟨rfl, rfl⟩
 refine sp (.bool (halive (swS lvH (gq lvH [1] 1) (hids lvH).length) 1)) ?_
 refine sp (.bool (halive (swS lvH (gq lvH [1] 1) (hids lvH).length) 1)) ?_
 refine s_nt <| k_ret ?_
 exact xs_fin [.bool (halive (swS lvH (gq lvH [1] 1) (hids lvH).length) 1)] [] (SI.tmp 0 SI.nil) (fun _ h => h.re [] [0, 0, 0, 0]) ⟨congrArg Value.bool lv_a, rfl⟩
end Go.Proofs.YtmhpcebiamkciaaGreat
end
section
set_option linter.unusedSimpArgs false
set_option linter.unusedVariables false
namespace Go.Proofs.YtmhpcebiamkciaaGreat
theorem made_dw {st : Hst} (h : HW st) (name : ByteArray) : HW (hdata st name) := by
  unfold hdata
  split
  · exact h
  · exact h.make (data_w name)
theorem mstep_w {i : Nat} {o : Opc} {s : Hst × List Vl} (hi : HInv s.1) (h : HW s.1) : HW (mstep i o s).1 := by
  unfold mstep
  split
  · exact h.make (newO_w _ _ _ (fun _ hv => (by cases hv)) (fun h8 => by cases h8))
  split
  · exact made_dw h _
  split
  · exact h.make (newO_w _ _ _ (fun _ hv => (by cases hv)) (fun h8 => by cases h8))
  split
  · exact HW.set hi h _ _ _
  · exact setMeta_w h _ _
theorem mst_w (l : List Opc) : ∀ i, HW (mst l i).1
  | 0 => HW.nil
  | i + 1 => by
    rw [mst]
    split
    · exact mstep_w (mst_good l i).1 (mst_w l i)
    · exact mst_w l i
theorem made_w (l : List Opc) : HW (made l).1 := mst_w l _
structure Shows (st : Hst) (N : List Ob) : Prop where
  ids : N.map Ob.id = hids st
  obj : ∀ o ∈ N, o.c = cobj st o.id ∧ halive st o.id = true
theorem ho_id {st : Hst} {id : Int} (h : id ∈ hids st) : hoId st id = id := by unfold hoId; rw [if_pos (mem_hids.1 h)]
theorem shows_of {st : Hst} {N : List Ob} (hN : N.map Ob.c = (hids st).map (cobj st)) : Shows st N := by
  have h1 : N.map Ob.id = hids st := by
    have e : (N.map Ob.c).map (fun x => x.1) = ((hids st).map (cobj st)).map (fun x => x.1) := by rw [hN]
    rw [List.map_map, List.map_map] at e
    refine (show N.map Ob.id = N.map ((fun x => x.1) ∘ Ob.c) from rfl).trans (e.trans ?_)
    refine (List.map_congr_left fun x hx => ?_).trans (List.map_id _)
    exact ho_id hx
  refine ⟨h1, fun o ho => ?_⟩
  have h2 : o.c ∈ (hids st).map (cobj st) := by rw [← hN]; exact List.mem_map.2 ⟨o, ho, rfl⟩
  obtain ⟨id, hid, e⟩ := List.mem_map.1 h2
  have e2 : hoId st id = o.id := congrArg (fun x : Core => x.1) e
  rw [ho_id hid] at e2; subst e2
  exact ⟨e.symm, mem_hids.1 hid⟩
theorem Shows.asc {st : Hst} {N : List Ob} (h : Shows st N) : Asc N := by
  have := hids_asc st
  rw [← h.ids, List.pairwise_map] at this; exact this
theorem chk_of : ∀ (N : List Ob) (last : Int), N.Pairwise (fun x y => x.id < y.id) → (∀ o ∈ N, last < o.id ∧ 0 ≤ o.size ∧ 0 ≤ o.weak ∧ o.weak ≤ 3) → chk last N = true
  | [], _, _, _ => rfl
  | x :: r, last, ha, h => by
    obtain ⟨h1, h2, h3, h4⟩ := h x (by simp)
    obtain ⟨ha1, ha2⟩ := List.pairwise_cons.1 ha
    have ih := chk_of r x.id ha2 fun o ho => ⟨ha1 o ho, (h o (List.mem_cons_of_mem _ ho)).2⟩
    rw [chk, ih]
    simp only [Bool.and_true, Bool.not_eq_true', Bool.or_eq_false_iff, decide_eq_false_iff_not]
    omega
theorem Shows.chk {st : Hst} {N : List Ob} {n : Nat} (h : Shows st N) (hsm : HSm n st) (hn : n ≤ 300) : chk 0 N = true := by
  refine chk_of N 0 h.asc fun o ho => ?_
  obtain ⟨e, ha⟩ := h.obj o ho
  obtain ⟨ob, hg⟩ := halive_iff.1 ha
  have hs := obj_some hg 0
  have e1 : o.size = hoSz st o.id := congrArg (fun x : Core => x.2.1) e
  have e2 : o.weak = hoWk st o.id 0 := congrArg (fun x : Core => x.2.2.1) e
  have h1 := (get_mem hg).2.1
  have h2 := (obsize_bound hsm hn hg).1
  rw [hs.2.2.1] at e1
  have h3 : hoWk st o.id 0 = 0 := by rw [hs.2.2.2.1]; unfold hweak; split <;> rfl
  rw [h3] at e2
  exact ⟨by omega, by omega, by omega, by omega⟩
theorem Shows.fnd {st : Hst} {N : List Ob} (h : Shows st N) (id : Int) : alO N id = halive st id := by
  rw [Bool.eq_iff_iff]
  constructor
  · intro hx
    have := al_ids hx
    rw [h.ids] at this; exact mem_hids.1 this
  · intro hx
    have := mem_hids.2 hx
    rw [← h.ids] at this
    obtain ⟨o, ho, rfl⟩ := List.mem_map.1 this
    exact alO_is (fnd_mem h.asc ho)
theorem Shows.refs {st : Hst} {N : List Ob} (h : Shows st N) {id : Int} (hx : alO N id = true) : rfO N id = crf st id := by
  unfold alO at hx
  obtain ⟨o, ho⟩ := Option.isSome_iff_exists.1 hx
  obtain ⟨h1, h2⟩ := fnd_id ho
  have e := (h.obj o h2).1
  rw [rfO_is ho, ← h1]
  have e1 : o.refs = hrefs st o.id := congrArg (fun x : Core => x.2.2.2.1) e
  have e2 : o.ents = hents st o.id := congrArg (fun x : Core => x.2.2.2.2) e
  unfold allO crf; rw [e1, e2]
theorem Shows.live {st : Hst} {N : List Ob} {R G : List Int} {n k : Nat} (h : Shows st N) (v : Lv st R n) (b : Bq (alO N) (rfO N) R k G) (hk : G.length ≤ k) : fil N G = (hids st).filter fun x => decide (x ∈ gq st R n) := by
  unfold fil
  rw [h.ids]
  refine List.filter_congr fun x _ => ?_
  rw [decide_eq_decide, b.fin hk x, v.iff x]
  exact ⟨rq_congr h.fnd (fun y hy => h.refs hy), rq_congr (fun y => (h.fnd y).symm) (fun y hy => (h.refs (by rw [h.fnd]; exact hy)).symm)⟩
theorem Shows.small {st : Hst} {N : List Ob} {n : Nat} (h : Shows st N) (hsm : HSm n st) (hn : n ≤ 300) : ∀ o ∈ N, o.refs.length ≤ 100000 ∧ o.ents.length ≤ 100000 := fun o ho => by
  have e := (h.obj o ho).1
  have e1 : o.refs = hrefs st o.id := congrArg (fun x : Core => x.2.2.2.1) e
  have e2 : o.ents = hents st o.id := congrArg (fun x : Core => x.2.2.2.2) e
  have := crf_bound hsm hn o.id
  rw [e1, e2]; omega
theorem drop_sm' {st : Hst} {n : Nat} (h : HSm n st) (id : Int) : HSm n (hdrop st id) := ⟨by rw [drop_len.1]; exact h.len, fun o ho => h.obs o (mem_drop ho)⟩
theorem sw_sm {st : Hst} {n : Nat} (G : List Int) (h : HSm n st) : ∀ s, HSm n (swS st G s)
  | 0 => h
  | s + 1 => by
    rw [swS]
    split
    · split
      · exact sw_sm G h s
      · exact drop_sm' (sw_sm G h s) _
    · exact sw_sm G h s
theorem phI_ne {n u t : Nat} (h : phI n u t ≠ 0) : t ≤ n + u := by
  unfold phI at h
  split at h
  · omega
  · split at h
    · assumption
    · exact absurd rfl h
theorem phI_eq {n u t : Nat} (h : phI n u t = 0) : n + u < t := by
  unfold phI at h
  split at h
  · cases h
  · split at h
    · cases h
    · omega
theorem nof_lt {n u t : Nat} (h : t ≤ n + u) (hu : 0 < u) : nof n t + 1 ≤ n + u := by unfold nof; split <;> omega
theorem nof_end (n u : Nat) : nof n (n + u + 1) = n + u := by rw [show n + u + 1 = n + 1 + u by omega]; exact nofB n u
theorem nof_le {n u t : Nat} (h : t ≤ n + u + 1) : nof n t ≤ n + u := by unfold nof; split <;> omega
end Go.Proofs.YtmhpcebiamkciaaGreat
end
section
set_option linter.unusedSimpArgs false
set_option linter.unusedVariables false
set_option maxRecDepth 100000
set_option maxHeartbeats 2000000
namespace Go.Proofs.YtmhpcebiamkciaaGreat
open Go.Hp Go.J Go.S
open Go.Mem (Ty KTy blk elemAt pre suf blk_pre blk_suf aget aset strK aggDesc)
open Go.Mem (adel apos aget_aset aget_adel)
theorem ints25_s {Z : Zone} {va vb : Value} {A B : List Int} (hA : Kn Z iTy va A) (hB : Kn Z iTy vb B) : SF Tryz.prog 24 #[va, vb] Z [] fun r Bs => r = .bool (decide (A = B)) ∧ Bs = [] := by
 refine sf_enter Tryz.func24 26 [(0, va), (1, vb)] (fun w0 => ?_)
 refine k_fact (fun H h => (hA.get h).len_le) (fun lA => ?_)
 refine k_sr <| sp (.bool false) ?_
 refine s_nt <| k_seq <| k_sr <| sp va ?_
 refine s_lt (t_len iTy_ok Tryz.underlying23 (.zn hA)) ?_
 refine sp vb ?_
 refine s_lt (t_len iTy_ok Tryz.underlying23 (.zn hB)) ?_
 refine s_lt t_cmp ?_
 refine s_nt <| k_cond (decide ((A.length : Int) ≠ (B.length : Int))) (fun c1 => ?_) (fun c1 => ?_)
 ·
  have p2 := of_decide_eq_true c1
  refine k_sr <| sp (.bool false) ?_
  refine s_nt <| k_ret <| xs_ret <| xs_fin [.bool false] [] (SI.tmp 4 SI.nil) (fun _ h => h.re [] []) ⟨congrArg Value.bool ?_, rfl⟩
  exact (decide_eq_false (fun e => by subst e; omega)).symm
 ·
  have p3 := Decidable.not_not.1 (of_decide_eq_false c1)
  refine k_st <| k_seq <| k_sr <| sp (iw 0) ?_
  refine s_nt <| k_block ?_
  refine k_loop (ι := Nat) (fun i => i ≤ A.length ∧ A.take i = B.take i) (fun i => [(0, va), (1, vb), (5, iw (i : Int))]) (fun i => []) (fun i => A.length - i) 0 ⟨Nat.zero_le _, rfl⟩ (sub_of rfl ⟨⟨rfl, rfl⟩, ⟨⟨rfl, rfl⟩, ⟨⟨rfl, rfl⟩, trivial⟩⟩⟩) (fun _ h => h.re [] []) ?_
  rintro i hi4
  show SK _ _ _ _ _ [(0, va), (1, vb), (5, iw (i : Int))] _ []
  refine k_seq <| k_sr <| sp (iw (i : Int)) ?_
  refine sp va ?_
  refine s_lt (t_len iTy_ok Tryz.underlying23 (.zn hA)) ?_
  refine s_lt t_cmp ?_
  refine s_nt <| k_cond (decide ((i : Int) < (A.length : Int))) (fun c5 => ?_) (fun c5 => ?_)
  ·
   have p6 := of_decide_eq_true c5
   refine k_st <| k_seq <| k_block ?_
   refine k_seq <| k_draw ?_
   refine sp va ?_
   refine sp (iw (i : Int)) ?_
   refine s_lt (t_index iTy_ok Tryz.underlying23 (.zn hA) (i : Int) i (by omega) (by (try simp only [lnm]); omega) (by omega)) ?_
   obtain ⟨y7, hy8⟩ : ∃ y, A[i]? = some y := ⟨_, List.getElem?_eq_getElem (by (try simp only [lnm]); omega)⟩
   refine s_lt (t_loadE iTy_ok (.zn hA) hy8) ?_
   refine sp vb ?_
   refine sp (iw (i : Int)) ?_
   refine s_lt (t_index iTy_ok Tryz.underlying23 (.zn hB) (i : Int) i (by omega) (by (try simp only [lnm]); omega) (by omega)) ?_
   obtain ⟨y9, hy10⟩ : ∃ y, B[i]? = some y := ⟨_, List.getElem?_eq_getElem (by (try simp only [lnm]); omega)⟩
   refine s_lt (t_loadE iTy_ok (.zn hB) hy10) ?_
   refine s_lt t_cmp ?_
   refine s_nil <| x_dynS (fun _ h => by kernel_rfl) ?_
   refine xs_then <| k_cond (decide (y7 ≠ y9)) (fun c11 => ?_) (fun c11 => ?_)
   ·
    have p12 := of_decide_eq_true c11
    refine k_sr <| sp (.bool false) ?_
    refine s_nt <| k_ret <| xs_retBlock ?_
    refine xs_ret <| xs_ret <| xs_retBlock ?_
    refine xs_ret <| xs_fin [.bool false] [] (SI.tmp 4 SI.nil) (fun _ h => h.re [] []) ⟨congrArg Value.bool ?_, rfl⟩
    exact (decide_eq_false (ne_of_get hy8 hy10 p12)).symm
   ·
    have p13 := Decidable.not_not.1 (of_decide_eq_false c11)
    refine k_skip ?_
    refine xs_block ?_
    refine xs_then <| k_reg ?_
    refine sp (iw (i : Int)) ?_
    refine s_lt (t_add (i : Int) 1 (by (try simp only [lnm]); omega)) ?_
    refine sp (iw ((i : Int) + 1)) ?_
    refine s_nil ?_
    exact xs_round (i + 1) (by omega) (by obtain ⟨hi1, hi2⟩ := hi4; exact ⟨by omega, take_eq_succ hi2 hy8 hy10 p13⟩) (sub_of rfl ⟨⟨rfl, rfl⟩, ⟨⟨rfl, rfl⟩, ⟨⟨rfl, rfl⟩, trivial⟩⟩⟩) (fun _ h => h.re [] [])
  ·
   have p14 := of_decide_eq_false c5
   refine k_exit ?_
   refine xs_exit ?_
   refine xs_exit ?_
   refine xs_here ?_
   refine xs_then <| k_sr <| sp (.bool true) ?_
   refine s_nt <| k_ret <| xs_fin [.bool true] [] (SI.tmp 4 SI.nil) (fun _ h => h.re [] []) ⟨congrArg Value.bool ?_, rfl⟩
   exact (decide_eq_true (take_all hi4.2 (by omega) (by omega))).symm
def uTy : Ty Int := ⟨5, 1, 1, false, fun n => .int .u8 n, 0⟩
theorem uTy_ok : uTy.Ok Tryz.prog := ⟨Nat.one_pos, fun _ => rfl, fun x u hu => by simp [Ty.enc, uTy, Value.cells] at hu; subst hu; rfl, fun _ => rfl, ⟨_, Tryz.underlying5, rfl⟩, fun _ => rfl, ⟨Tryz.t5, by kernel_rfl, by kernel_rfl, by kernel_rfl, by kernel_rfl⟩⟩
theorem tmod9 {a : Int} (h : 0 ≤ a) : 0 ≤ Int.tmod a 9 ∧ Int.tmod a 9 < 9 := ⟨Int.tmod_nonneg _ h, Int.tmod_lt_of_pos _ (by decide)⟩
theorem en_next {Z : Zone} {F : List Asr} {H : Heap} {b q hb : Nat} {st : Hst} {R : List Int} {n t i : Nat} (h : Holds Z (cyA b q hb st R n t :: F) H) : Holds Z (enA b q hb st R n (decide (i + 1 = 0)) t :: F) H := by
  rw [decide_eq_false (show ¬ i + 1 = 0 by omega)]; exact h
theorem en_out {Z : Zone} {F : List Asr} {H : Heap} {b q hb : Nat} {st : Hst} {R : List Int} {n t i : Nat} (hi : ¬ i = 0) (h : Holds Z (enA b q hb st R n (decide (i = 0)) t :: F) H) : Holds Z (cyA b q hb st R n t :: F) H := by
  rw [decide_eq_false hi] at h; exact h
theorem en_in {Z : Zone} {F : List Asr} {H : Heap} {b q hb : Nat} {st : Hst} {R : List Int} {n t i : Nat} (hi : ¬ i = 0) (h : Holds Z (cyA b q hb st R n t :: F) H) : Holds Z (enA b q hb st R n (decide (i = 0)) t :: F) H := by
  rw [decide_eq_false hi]; exact h
theorem work_pos {n u t t2 z k : Nat} (ht : t ≤ n + u) (hu : 0 < u) (h1 : z + nof n t = nof n t2) (hk : 0 < k) (h4 : z = k ∨ t2 = n + u + 1) : 1 ≤ z := by
  rcases h4 with h | h
  · omega
  · subst h; have := nof_end n u; have := nof_lt ht hu; omega
theorem nof_mono {n t t2 z : Nat} (h1 : z + nof n t = nof n t2) (hz : 1 ≤ z) : t < t2 := by
  unfold nof at h1; split at h1 <;> split at h1 <;> omega
theorem ccycle_w {Z : Zone} {lv sv uv : Value} {l : List Opc} {SL UL : List Int} (hl0 : Kn Z OpT lv l) (hS : Kn Z iTy sv SL) (hUv : Kn Z uTy uv UL) (hU : ∀ x ∈ UL, 0 ≤ x ∧ x < 256) : SF Tryz.prog 4 #[lv, sv, uv] Z [] fun r Bs => r = .bool true ∧ Bs = [] := by
 refine sf_enter Tryz.func4 149 [(0, lv), (1, sv), (2, uv)] (fun w0 => ?_)
 obtain ⟨hinv, hsm, hll⟩ := made_good l
 refine k_fact (fun H h => ((Acc.zn hS) H h).form) (fun hfs => ?_)
 refine k_fact (fun H h => (hUv.get h).len_le) (fun lU => ?_)
 refine k_sr <| sp (.bool false) ?_
 refine s_nt <| k_seq <| k_sr <| sp lv ?_
 refine s_mem (fun _ h => Holds.nilS (T := SpT) h) ?_
 refine s_call [0] (large_s (M := []) hl0 (by (try simp only [lnm]); omega)) ?_
 rintro _ _ ⟨lg1, rfl, hlg2, rfl⟩
 refine sp (.bool lg1) ?_
 refine s_fork 18 lg1 (fun c3 => ?_) (fun c3 => ?_)
 ·
  refine s_skip ?_
  refine s_skip ?_
  refine s_skip ?_
  refine sp (.bool true) ?_
  refine s_nt <| k_true ?_
  refine k_sr <| s_vcall (fun _ h => lives45_s) ?_
  rintro _ rfl
  refine sp (.bool true) ?_
  refine s_nt <| k_ret <| xs_ret ?_
  exact xs_fin [.bool true] [] (SI.tmp 6 SI.nil) (fun _ h => h.re [] []) ⟨rfl, rfl⟩
 ·
  refine sp uv ?_
  refine s_lt (t_len uTy_ok Tryz.underlying52 (.zn hUv)) ?_
  refine s_lt t_cmp ?_
  refine sp (.bool (decide ((50 : Int) < (UL.length : Int)))) ?_
  refine s_nt <| k_cond (decide ((50 : Int) < (UL.length : Int))) (fun c4 => ?_) (fun c4 => ?_)
  ·
   have p5 := of_decide_eq_true c4
   refine k_sr <| s_vcall (fun _ h => lives45_s) ?_
   rintro _ rfl
   refine sp (.bool true) ?_
   refine s_nt <| k_ret <| xs_ret ?_
   exact xs_fin [.bool true] [] (SI.tmp 6 SI.nil) (fun _ h => h.re [] []) ⟨rfl, rfl⟩
  ·
   have p6 := of_decide_eq_false c4
   refine k_st <| k_sr <| sp lv ?_
   refine s_call [] (begun_s hl0) ?_
   rintro _ _ ⟨hb7, gb8, lx9, o10, p11, q12, rfl, rfl⟩
   refine s_fact (fun H h => ((Acc.own (T := VlT) (L := (made l).2) 2 rfl) H h).form) (fun hf13 => ?_)
   refine sp (.tuple #[.agg #[pB hb7 0, pB gb8 0, lx9, pB o10 0, pB p11 0, (.slice none 0 0)], .bool true]) ?_
   refine sp (.agg #[pB hb7 0, pB gb8 0, lx9, pB o10 0, pB p11 0, (.slice none 0 0)]) ?_
   refine sp (.bool true) ?_
   refine s_alloc (.agg #[.pointer none, .pointer none, (.slice none 0 0), .pointer none, .pointer none, (.slice none 0 0)]) #[.pointer none, .pointer none, (.slice none 0 0), .pointer none, .pointer none, (.slice none 0 0)] (fun g14 => ?_)
   refine s_store (u := .agg #[pB hb7 0, pB gb8 0, lx9, pB o10 0, pB p11 0, (.slice none 0 0)]) (m := 6) 0 #[pB hb7 0, pB gb8 0, lx9, pB o10 0, pB p11 0, (.slice none 0 0)] ?_ (hm := by (obtain ⟨_, _, e⟩ := hf13; rw [e]; rfl)) (h1 := by (obtain ⟨_, _, e⟩ := hf13; rw [e]; rfl)) (ha' := by (obtain ⟨_, _, e⟩ := hf13; rw [e]; rfl))
   refine sp (.bool true) ?_
   refine s_nt <| k_seq <| k_sr <| sp (.bool true) ?_
   refine sp (.bool false) ?_
   refine sp (.bool false) ?_
   refine sp sv ?_
   refine s_lt (show Lt _ _ _ _ _ (.agg #[iw 6, iw 0, iw 0, iw 0, sv]) from by obtain ⟨_, _, e⟩ := hfs; rw [e]; clear e; exact t_kern _) ?_
   refine s_call [0, 2] (pstep6_s (L := (made l).2) hS (by omega)) ?_
   rintro _ _ ⟨rx, R, rfl, hR, rfl⟩
   refine s_fact (fun H h => ((Acc.own (T := iTy) (L := R) 1 rfl) H h).form) (fun hf15 => ?_)
   obtain ⟨n, hv⟩ := lv_ex (made l).1 R
   have hnle := hv.le; have hW := made_w l; have hil := hids_len (made l).1; have hol := hsm.len
   refine sp (.bool false) ?_
   refine sp (.bool false) ?_
   refine s_nt <| k_false ?_
   refine k_st <| k_sr <| sp (pB g14 0) ?_
   refine sp (pB g14 0) ?_
   refine s_lt (t_load 0 (pB hb7 0)) ?_
   refine sp (pB g14 5) ?_
   refine s_lt (t_load 0 rx) ?_
   refine s_call [4] (graph_s hf15 hsm (by omega) hW) ?_
   rintro _ _ ⟨ov, N, rfl, hN, rfl⟩
   have hsh := shows_of hN; have hNl : N.length = (hids ((made l).1)).length := by have := congrArg List.length hN; simpa using this
   refine s_pcall (fun _ h => rgraph_s (l := N) (R := R) ⟨Acc.kn (T := ObT) (.own 0) h, Acc.kn (T := iTy) (.own 4) h, fun x hx => ⟨.of (h.frzF 1 rfl x hx).1, .of (h.frzF 1 rfl x hx).2⟩⟩ (hsh.chk hsm (by omega)) hsh.asc (by omega) (by omega) (hsh.small hsm (by omega))) ?_
   rintro _ _ ⟨rl, G, kg, rfl, hB, hGe, rfl⟩
   refine s_mem (Bs := [own iTy rl ((hids ((made l).1)).filter fun x => decide (x ∈ gq ((made l).1) R n)), own ObT ov N, frz (AllO N), hpA hb7 ((made l).1), blkA g14 #[pB hb7 0, pB gb8 0, lx9, pB o10 0, pB p11 0, rx] 34, own iTy rx R, own VlT lx9 ((made l).2), coA o10 q12 hb7 0 [] [] [] []]) (fun _ h => by rw [hsh.live hv hB hGe] at h; exact h) ?_
   have hlv := live_count hv
   refine s_fact (fun H h => ((Acc.own (T := iTy) (L := ((hids ((made l).1)).filter fun x => decide (x ∈ gq ((made l).1) R n))) 0 rfl) H h).form) (fun hf16 => ?_)
   refine sp (.tuple #[rl, iw 0]) ?_
   refine sp rl ?_
   refine sp (iw 0) ?_
   refine sp rl ?_
   refine sp (iw 0) ?_
   refine s_nr ?_
   refine sp (pB g14 0) ?_
   refine sp (pB g14 0) ?_
   refine s_lt (t_load 4 (pB hb7 0)) ?_
   refine s_call [3] (hids_s (st := ((made l).1)) hsm (by omega)) ?_
   rintro v17 _ rfl
   refine s_fact (fun H h => ((Acc.own (T := iTy) (L := (hids ((made l).1))) 0 rfl) H h).form) (fun hf18 => ?_)
   refine sp v17 ?_
   refine s_nt <| k_seq <| k_sr <| sp (iw 0) ?_
   refine s_lt (t_cmp (c := false)) ?_
   refine sp (.bool false) ?_
   refine sp (pB g14 3) ?_
   refine s_lt (t_load 5 (pB o10 0)) ?_
   refine sp (pB g14 5) ?_
   refine s_lt (t_load 5 rx) ?_
   refine s_vcall (fun _ h => cwork_z) ?_
   rintro _ rfl
   refine s_lt (t_cmp (c := false)) ?_
   refine sp (.bool false) ?_
   refine s_nt <| k_false ?_
   refine k_st <| k_seq <| k_sr <| sp v17 ?_
   refine s_lt (t_len iTy_ok Tryz.underlying23 (.own 0)) ?_
   refine s_lt t_cmp ?_
   refine s_nt <| k_cond (decide (((hids ((made l).1)).length : Int) = 0)) (fun c19 => ?_) (fun c19 => ?_)
   ·
    have p20 := of_decide_eq_true c19
    refine k_sr <| sp (pB g14 3) ?_
    refine s_lt (t_load 5 (pB o10 0)) ?_
    refine sp (pB g14 5) ?_
    refine s_lt (t_load 5 rx) ?_
    have h0e : (hids ((made l).1)) = [] := List.eq_nil_of_length_eq_zero (by have := of_decide_eq_true c19; omega)
    refine s_call [6, 7, 1] (cwork_e (R := R) hsm (by omega) h0e (by omega)) ?_
    rintro _ _ ⟨rfl, rfl⟩
    refine s_lt (t_cmp (c := true)) ?_
    refine sp (.bool true) ?_
    refine s_vcall (fun _ h => lives45_s) ?_
    rintro _ rfl
    refine sp (.bool true) ?_
    refine sp (.bool true) ?_
    refine s_nt <| k_ret <| xs_ret ?_
    exact xs_fin [.bool true] [] (SI.tmp 6 SI.nil) (fun _ h => h.re [] [0, 0, 0, 0, 0, 0]) ⟨rfl, rfl⟩
   ·
    have p21 := of_decide_eq_false c19
    refine k_st <| k_sr <| sp (iw 0) ?_
    refine s_nt <| k_seq <| k_sr <| sp (iw 0) ?_
    refine s_nt <| k_block ?_
    have h0 : 0 < (hids ((made l).1)).length := by omega
    refine k_mem (fun _ h => en_mk (R := R) (n := n) (t := 0) (h.re [8, 1] [])) ?_
    refine k_loop (ι := Nat × Nat) (fun (i, t) => (i = 0 → t = 0) ∧ t ≤ n + (hids ((made l).1)).length + 1 ∧ i ≤ t) (fun (i, t) => [(2, uv), (7, pB g14 0), (9, rl), (11, v17), (12, iw (nof n t : Int)), (13, iw (i : Int))]) (fun (i, t) => [enA o10 q12 hb7 ((made l).1) R n (decide (i = 0)) t, own iTy v17 (hids ((made l).1)), own iTy rl ((hids ((made l).1)).filter fun x => decide (x ∈ gq ((made l).1) R n)), own ObT ov N, frz (AllO N), blkA g14 #[pB hb7 0, pB gb8 0, lx9, pB o10 0, pB p11 0, rx] 34, own iTy rx R, own VlT lx9 ((made l).2)]) (fun (i, t) => n + (hids ((made l).1)).length + 2 - t) (0, 0) ⟨fun _ => rfl, Nat.zero_le _, Nat.le_refl _⟩ (sub_of rfl ⟨⟨rfl, rfl⟩, ⟨⟨rfl, rfl⟩, ⟨⟨rfl, rfl⟩, ⟨⟨rfl, rfl⟩, ⟨⟨rfl, congrArg (Value.int .i64) (by rw [nofA (Nat.zero_le _)]; rfl)⟩, ⟨⟨rfl, rfl⟩, trivial⟩⟩⟩⟩⟩⟩) (fun _ h => h.re [0, 0, 0, 0, 0, 0, 0, 0] []) ?_
    rintro ⟨i, t⟩ hi22
    replace hi22 : (i = 0 → t = 0) ∧ t ≤ n + (hids ((made l).1)).length + 1 ∧ i ≤ t := hi22
    show SK _ _ _ _ _ [(2, uv), (7, .pointer (some ⟨g14, 0, none⟩)), (9, rl), (11, v17), (12, iw (nof n t : Int)), (13, iw (i : Int))] _ [enA o10 q12 hb7 ((made l).1) R n (decide (i = 0)) t, own iTy v17 (hids ((made l).1)), own iTy rl ((hids ((made l).1)).filter fun x => decide (x ∈ gq ((made l).1) R n)), own ObT ov N, frz (AllO N), blkA g14 #[.pointer (some ⟨hb7, 0, none⟩), .pointer (some ⟨gb8, 0, none⟩), lx9, .pointer (some ⟨o10, 0, none⟩), .pointer (some ⟨p11, 0, none⟩), rx] 34, own iTy rx R, own VlT lx9 ((made l).2)]
    obtain ⟨hi1, hi2, hi3⟩ := id hi22
    have hnz : i = 0 → nof n t = 0 := fun e => by rw [hi1 e]; exact nofA (Nat.zero_le _)
    refine k_seq <| k_sr <| sp (iw (i : Int)) ?_
    refine s_lt t_cmp ?_
    refine sp (.bool (decide ((i : Int) = 0))) ?_
    refine s_fork 75 (decide ((i : Int) = 0)) (fun c23 => ?_) (fun c23 => ?_)
    ·
     have p24 := of_decide_eq_true c23
     refine s_skip ?_
     refine s_skip ?_
     refine s_skip ?_
     refine s_skip ?_
     refine sp (.bool true) ?_
     refine s_nt <| k_true ?_
     refine k_st <| k_seq <| k_block ?_
     refine k_sr <| sp (iw 1) ?_
     refine s_nt <| k_seq <| k_sr <| sp (iw (i : Int)) ?_
     refine sp uv ?_
     refine s_lt (t_len uTy_ok Tryz.underlying52 (.zn hUv)) ?_
     refine s_lt t_cmp ?_
     refine s_nt <| k_cond (decide ((i : Int) < (UL.length : Int))) (fun c25 => ?_) (fun c25 => ?_)
     ·
      have p26 := of_decide_eq_true c25
      refine k_reg ?_
      refine sp uv ?_
      refine sp (iw (i : Int)) ?_
      refine s_lt (t_index uTy_ok Tryz.underlying52 (.zn hUv) (i : Int) i (by omega) (by (try simp only [lnm]); omega) (by omega)) ?_
      obtain ⟨y27, hy28⟩ : ∃ y, UL[i]? = some y := ⟨_, List.getElem?_eq_getElem (by (try simp only [lnm]); omega)⟩
      have hub := hU y27 (List.mem_of_getElem? hy28)
      refine s_lt (t_loadE uTy_ok (.zn hUv) hy28) ?_
      refine s_lt (t_conv y27 (by rw [IntKind.wrap_i64]; omega) Tryz.underlying5 Tryz.underlying3) ?_
      obtain ⟨htm1, htm2⟩ := tmod9 (a := y27) hub.1
      refine s_lt (t_rem y27 9 (by omega)) ?_
      refine s_lt (t_add 1 (Int.tmod y27 9) (by (try simp only [lnm]); omega)) ?_
      refine sp (iw (1 + (Int.tmod y27 9))) ?_
      refine s_nr ?_
      refine sp (pB g14 3) ?_
      refine s_lt (t_load 5 (pB o10 0)) ?_
      refine sp (iw (1 + (Int.tmod y27 9))) ?_
      refine sp (pB g14 5) ?_
      refine s_lt (t_load 5 rx) ?_
      obtain ⟨kk31, hkk⟩ : ∃ x : Nat, (x : Int) = (1 + (Int.tmod y27 9)) := ⟨((1 + (Int.tmod y27 9))).toNat, by omega⟩
      rw [← hkk]
      refine s_call [6, 0] (cwork_g (k := kk31) hsm (by omega) hW hv h0 (by omega) (by omega) (by omega) (by omega) (fun e => hi22.1 (of_decide_eq_true e))) ?_
      rintro _ _ ⟨t29, z30, rfl, ⟨hz1, hz2, hz3, hz4⟩, rfl⟩
      have hzp := work_pos (by omega) h0 hz1 (by omega) hz4; have hle := nof_le hz3
      refine sp (iw (z30 : Int)) ?_
      refine s_nr ?_
      refine sp (iw (nof n t : Int)) ?_
      refine sp (iw (z30 : Int)) ?_
      refine s_lt (t_add (nof n t : Int) (z30 : Int) (by (try simp only [lnm]); omega)) ?_
      refine sp (iw ((nof n t : Int) + (z30 : Int))) ?_
      refine s_nr ?_
      refine sp (iw (z30 : Int)) ?_
      refine s_lt (Lt.to t_cmp (congrArg Value.bool (decide_eq_false (by omega) : (decide ((z30 : Int) < 1)) = false))) ?_
      refine sp (.bool false) ?_
      refine sp (iw (z30 : Int)) ?_
      refine sp (iw (kk31 : Int)) ?_
      refine s_lt (Lt.to t_cmp (congrArg Value.bool (decide_eq_false (by omega) : (decide ((kk31 : Int) < (z30 : Int))) = false))) ?_
      refine sp (.bool false) ?_
      refine sp (.bool false) ?_
      refine sp (iw ((nof n t : Int) + (z30 : Int))) ?_
      refine sp rl ?_
      refine s_lt (t_len iTy_ok Tryz.underlying23 (.own 3)) ?_
      refine sp v17 ?_
      refine s_lt (t_len iTy_ok Tryz.underlying23 (.own 2)) ?_
      refine s_lt (t_add (((hids ((made l).1)).filter fun x => decide (x ∈ gq ((made l).1) R n)).length : Int) ((hids ((made l).1)).length : Int) (by (try simp only [lnm]); omega)) ?_
      refine s_lt (Lt.to t_cmp (congrArg Value.bool (decide_eq_false (by omega) : (decide (((((hids ((made l).1)).filter fun x => decide (x ∈ gq ((made l).1) R n)).length : Int) + ((hids ((made l).1)).length : Int)) < ((nof n t : Int) + (z30 : Int)))) = false))) ?_
      refine sp (.bool false) ?_
      refine s_nt <| k_false ?_
      refine k_skip ?_
      refine xs_block ?_
      refine xs_then <| k_reg ?_
      refine sp (iw (i : Int)) ?_
      refine s_lt (t_add (i : Int) 1 (by (try simp only [lnm]); omega)) ?_
      refine sp (iw ((i : Int) + 1)) ?_
      refine s_nil <| xs_mem (fun _ h => en_next (i := i) (h.re [1] [])) ?_
      exact xs_round (i + 1, t29) (by show n + (hids ((made l).1)).length + 2 - t29 < n + (hids ((made l).1)).length + 2 - t; have := nof_mono hz1 hzp; omega) ⟨fun e => absurd e (by omega), hz3, by have := nof_mono hz1 hzp; omega⟩ (sub_of rfl ⟨⟨rfl, rfl⟩, ⟨⟨rfl, rfl⟩, ⟨⟨rfl, rfl⟩, ⟨⟨rfl, rfl⟩, ⟨⟨rfl, congrArg (Value.int .i64) (by omega)⟩, ⟨⟨rfl, rfl⟩, trivial⟩⟩⟩⟩⟩⟩) (fun _ h => h.re [0, 1, 1, 1, 1, 1, 0, 0] [])
     ·
      have p32 := of_decide_eq_false c25
      refine k_st <| k_sr <| sp (pB g14 3) ?_
      refine s_lt (t_load 5 (pB o10 0)) ?_
      refine sp (iw 1) ?_
      refine sp (pB g14 5) ?_
      refine s_lt (t_load 5 rx) ?_
      refine s_call [6, 0] (cwork_g (k := 1) hsm (by omega) hW hv h0 (by omega) (by omega) (by omega) (by omega) (fun e => hi22.1 (of_decide_eq_true e))) ?_
      rintro _ _ ⟨t33, z34, rfl, ⟨hz1, hz2, hz3, hz4⟩, rfl⟩
      have hzp := work_pos (by omega) h0 hz1 (by omega) hz4; have hle := nof_le hz3
      refine sp (iw (z34 : Int)) ?_
      refine s_nr ?_
      refine sp (iw (nof n t : Int)) ?_
      refine sp (iw (z34 : Int)) ?_
      refine s_lt (t_add (nof n t : Int) (z34 : Int) (by (try simp only [lnm]); omega)) ?_
      refine sp (iw ((nof n t : Int) + (z34 : Int))) ?_
      refine s_nr ?_
      refine sp (iw (z34 : Int)) ?_
      refine s_lt (Lt.to t_cmp (congrArg Value.bool (decide_eq_false (by omega) : (decide ((z34 : Int) < 1)) = false))) ?_
      refine sp (.bool false) ?_
      refine sp (iw (z34 : Int)) ?_
      refine sp (iw 1) ?_
      refine s_lt (Lt.to t_cmp (congrArg Value.bool (decide_eq_false (by omega) : (decide ((1 : Int) < (z34 : Int))) = false))) ?_
      refine sp (.bool false) ?_
      refine sp (.bool false) ?_
      refine sp (iw ((nof n t : Int) + (z34 : Int))) ?_
      refine sp rl ?_
      refine s_lt (t_len iTy_ok Tryz.underlying23 (.own 3)) ?_
      refine sp v17 ?_
      refine s_lt (t_len iTy_ok Tryz.underlying23 (.own 2)) ?_
      refine s_lt (t_add (((hids ((made l).1)).filter fun x => decide (x ∈ gq ((made l).1) R n)).length : Int) ((hids ((made l).1)).length : Int) (by (try simp only [lnm]); omega)) ?_
      refine s_lt (Lt.to t_cmp (congrArg Value.bool (decide_eq_false (by omega) : (decide (((((hids ((made l).1)).filter fun x => decide (x ∈ gq ((made l).1) R n)).length : Int) + ((hids ((made l).1)).length : Int)) < ((nof n t : Int) + (z34 : Int)))) = false))) ?_
      refine sp (.bool false) ?_
      refine s_nt <| k_false ?_
      refine k_skip ?_
      refine xs_block ?_
      refine xs_then <| k_reg ?_
      refine sp (iw (i : Int)) ?_
      refine s_lt (t_add (i : Int) 1 (by (try simp only [lnm]); omega)) ?_
      refine sp (iw ((i : Int) + 1)) ?_
      refine s_nil <| xs_mem (fun _ h => en_next (i := i) (h.re [1] [])) ?_
      exact xs_round (i + 1, t33) (by show n + (hids ((made l).1)).length + 2 - t33 < n + (hids ((made l).1)).length + 2 - t; have := nof_mono hz1 hzp; omega) ⟨fun e => absurd e (by omega), hz3, by have := nof_mono hz1 hzp; omega⟩ (sub_of rfl ⟨⟨rfl, rfl⟩, ⟨⟨rfl, rfl⟩, ⟨⟨rfl, rfl⟩, ⟨⟨rfl, rfl⟩, ⟨⟨rfl, congrArg (Value.int .i64) (by omega)⟩, ⟨⟨rfl, rfl⟩, trivial⟩⟩⟩⟩⟩⟩) (fun _ h => h.re [0, 1, 1, 1, 1, 1, 0, 0] [])
    ·
     have p35 := of_decide_eq_false c23
     refine sp (pB g14 3) ?_
     refine s_lt (t_load 5 (pB o10 0)) ?_
     have hi0 : ¬ i = 0 := by omega
     refine s_mem (fun _ h => en_out hi0 (h.re [0] [])) ?_
     refine s_call [0] cyphase_s ?_
     rintro _ _ ⟨rfl, rfl⟩
     refine s_mem (fun _ h => en_in hi0 (h.re [0] [])) ?_
     refine s_lt t_cmp ?_
     refine sp (.bool (decide ((phI n (hids ((made l).1)).length t) ≠ 0))) ?_
     refine s_nt <| k_cond (decide ((phI n (hids ((made l).1)).length t) ≠ 0)) (fun c36 => ?_) (fun c36 => ?_)
     ·
      have p37 := of_decide_eq_true c36
      have hph := phI_ne p37
      refine k_st <| k_seq <| k_block ?_
      refine k_sr <| sp (iw 1) ?_
      refine s_nt <| k_seq <| k_sr <| sp (iw (i : Int)) ?_
      refine sp uv ?_
      refine s_lt (t_len uTy_ok Tryz.underlying52 (.zn hUv)) ?_
      refine s_lt t_cmp ?_
      refine s_nt <| k_cond (decide ((i : Int) < (UL.length : Int))) (fun c38 => ?_) (fun c38 => ?_)
      ·
       have p39 := of_decide_eq_true c38
       refine k_reg ?_
       refine sp uv ?_
       refine sp (iw (i : Int)) ?_
       refine s_lt (t_index uTy_ok Tryz.underlying52 (.zn hUv) (i : Int) i (by omega) (by (try simp only [lnm]); omega) (by omega)) ?_
       obtain ⟨y40, hy41⟩ : ∃ y, UL[i]? = some y := ⟨_, List.getElem?_eq_getElem (by (try simp only [lnm]); omega)⟩
       have hub := hU y40 (List.mem_of_getElem? hy41)
       refine s_lt (t_loadE uTy_ok (.zn hUv) hy41) ?_
       refine s_lt (t_conv y40 (by rw [IntKind.wrap_i64]; omega) Tryz.underlying5 Tryz.underlying3) ?_
       obtain ⟨htm1, htm2⟩ := tmod9 (a := y40) hub.1
       refine s_lt (t_rem y40 9 (by omega)) ?_
       refine s_lt (t_add 1 (Int.tmod y40 9) (by (try simp only [lnm]); omega)) ?_
       refine sp (iw (1 + (Int.tmod y40 9))) ?_
       refine s_nr ?_
       refine sp (pB g14 3) ?_
       refine s_lt (t_load 5 (pB o10 0)) ?_
       refine sp (iw (1 + (Int.tmod y40 9))) ?_
       refine sp (pB g14 5) ?_
       refine s_lt (t_load 5 rx) ?_
       obtain ⟨kk44, hkk⟩ : ∃ x : Nat, (x : Int) = (1 + (Int.tmod y40 9)) := ⟨((1 + (Int.tmod y40 9))).toNat, by omega⟩
       rw [← hkk]
       refine s_call [6, 0] (cwork_g (k := kk44) hsm (by omega) hW hv h0 (by omega) (by omega) (by omega) (by omega) (fun e => hi22.1 (of_decide_eq_true e))) ?_
       rintro _ _ ⟨t42, z43, rfl, ⟨hz1, hz2, hz3, hz4⟩, rfl⟩
       have hzp := work_pos (by omega) h0 hz1 (by omega) hz4; have hle := nof_le hz3
       refine sp (iw (z43 : Int)) ?_
       refine s_nr ?_
       refine sp (iw (nof n t : Int)) ?_
       refine sp (iw (z43 : Int)) ?_
       refine s_lt (t_add (nof n t : Int) (z43 : Int) (by (try simp only [lnm]); omega)) ?_
       refine sp (iw ((nof n t : Int) + (z43 : Int))) ?_
       refine s_nr ?_
       refine sp (iw (z43 : Int)) ?_
       refine s_lt (Lt.to t_cmp (congrArg Value.bool (decide_eq_false (by omega) : (decide ((z43 : Int) < 1)) = false))) ?_
       refine sp (.bool false) ?_
       refine sp (iw (z43 : Int)) ?_
       refine sp (iw (kk44 : Int)) ?_
       refine s_lt (Lt.to t_cmp (congrArg Value.bool (decide_eq_false (by omega) : (decide ((kk44 : Int) < (z43 : Int))) = false))) ?_
       refine sp (.bool false) ?_
       refine sp (.bool false) ?_
       refine sp (iw ((nof n t : Int) + (z43 : Int))) ?_
       refine sp rl ?_
       refine s_lt (t_len iTy_ok Tryz.underlying23 (.own 3)) ?_
       refine sp v17 ?_
       refine s_lt (t_len iTy_ok Tryz.underlying23 (.own 2)) ?_
       refine s_lt (t_add (((hids ((made l).1)).filter fun x => decide (x ∈ gq ((made l).1) R n)).length : Int) ((hids ((made l).1)).length : Int) (by (try simp only [lnm]); omega)) ?_
       refine s_lt (Lt.to t_cmp (congrArg Value.bool (decide_eq_false (by omega) : (decide (((((hids ((made l).1)).filter fun x => decide (x ∈ gq ((made l).1) R n)).length : Int) + ((hids ((made l).1)).length : Int)) < ((nof n t : Int) + (z43 : Int)))) = false))) ?_
       refine sp (.bool false) ?_
       refine s_nt <| k_false ?_
       refine k_skip ?_
       refine xs_block ?_
       refine xs_then <| k_reg ?_
       refine sp (iw (i : Int)) ?_
       refine s_lt (t_add (i : Int) 1 (by (try simp only [lnm]); omega)) ?_
       refine sp (iw ((i : Int) + 1)) ?_
       refine s_nil <| xs_mem (fun _ h => en_next (i := i) (h.re [1] [])) ?_
       exact xs_round (i + 1, t42) (by show n + (hids ((made l).1)).length + 2 - t42 < n + (hids ((made l).1)).length + 2 - t; have := nof_mono hz1 hzp; omega) ⟨fun e => absurd e (by omega), hz3, by have := nof_mono hz1 hzp; omega⟩ (sub_of rfl ⟨⟨rfl, rfl⟩, ⟨⟨rfl, rfl⟩, ⟨⟨rfl, rfl⟩, ⟨⟨rfl, rfl⟩, ⟨⟨rfl, congrArg (Value.int .i64) (by omega)⟩, ⟨⟨rfl, rfl⟩, trivial⟩⟩⟩⟩⟩⟩) (fun _ h => h.re [0, 1, 1, 1, 1, 1, 0, 0] [])
      ·
       have p45 := of_decide_eq_false c38
       refine k_st <| k_sr <| sp (pB g14 3) ?_
       refine s_lt (t_load 5 (pB o10 0)) ?_
       refine sp (iw 1) ?_
       refine sp (pB g14 5) ?_
       refine s_lt (t_load 5 rx) ?_
       refine s_call [6, 0] (cwork_g (k := 1) hsm (by omega) hW hv h0 (by omega) (by omega) (by omega) (by omega) (fun e => hi22.1 (of_decide_eq_true e))) ?_
       rintro _ _ ⟨t46, z47, rfl, ⟨hz1, hz2, hz3, hz4⟩, rfl⟩
       have hzp := work_pos (by omega) h0 hz1 (by omega) hz4; have hle := nof_le hz3
       refine sp (iw (z47 : Int)) ?_
       refine s_nr ?_
       refine sp (iw (nof n t : Int)) ?_
       refine sp (iw (z47 : Int)) ?_
       refine s_lt (t_add (nof n t : Int) (z47 : Int) (by (try simp only [lnm]); omega)) ?_
       refine sp (iw ((nof n t : Int) + (z47 : Int))) ?_
       refine s_nr ?_
       refine sp (iw (z47 : Int)) ?_
       refine s_lt (Lt.to t_cmp (congrArg Value.bool (decide_eq_false (by omega) : (decide ((z47 : Int) < 1)) = false))) ?_
       refine sp (.bool false) ?_
       refine sp (iw (z47 : Int)) ?_
       refine sp (iw 1) ?_
       refine s_lt (Lt.to t_cmp (congrArg Value.bool (decide_eq_false (by omega) : (decide ((1 : Int) < (z47 : Int))) = false))) ?_
       refine sp (.bool false) ?_
       refine sp (.bool false) ?_
       refine sp (iw ((nof n t : Int) + (z47 : Int))) ?_
       refine sp rl ?_
       refine s_lt (t_len iTy_ok Tryz.underlying23 (.own 3)) ?_
       refine sp v17 ?_
       refine s_lt (t_len iTy_ok Tryz.underlying23 (.own 2)) ?_
       refine s_lt (t_add (((hids ((made l).1)).filter fun x => decide (x ∈ gq ((made l).1) R n)).length : Int) ((hids ((made l).1)).length : Int) (by (try simp only [lnm]); omega)) ?_
       refine s_lt (Lt.to t_cmp (congrArg Value.bool (decide_eq_false (by omega) : (decide (((((hids ((made l).1)).filter fun x => decide (x ∈ gq ((made l).1) R n)).length : Int) + ((hids ((made l).1)).length : Int)) < ((nof n t : Int) + (z47 : Int)))) = false))) ?_
       refine sp (.bool false) ?_
       refine s_nt <| k_false ?_
       refine k_skip ?_
       refine xs_block ?_
       refine xs_then <| k_reg ?_
       refine sp (iw (i : Int)) ?_
       refine s_lt (t_add (i : Int) 1 (by (try simp only [lnm]); omega)) ?_
       refine sp (iw ((i : Int) + 1)) ?_
       refine s_nil <| xs_mem (fun _ h => en_next (i := i) (h.re [1] [])) ?_
       exact xs_round (i + 1, t46) (by show n + (hids ((made l).1)).length + 2 - t46 < n + (hids ((made l).1)).length + 2 - t; have := nof_mono hz1 hzp; omega) ⟨fun e => absurd e (by omega), hz3, by have := nof_mono hz1 hzp; omega⟩ (sub_of rfl ⟨⟨rfl, rfl⟩, ⟨⟨rfl, rfl⟩, ⟨⟨rfl, rfl⟩, ⟨⟨rfl, rfl⟩, ⟨⟨rfl, congrArg (Value.int .i64) (by omega)⟩, ⟨⟨rfl, rfl⟩, trivial⟩⟩⟩⟩⟩⟩) (fun _ h => h.re [0, 1, 1, 1, 1, 1, 0, 0] [])
     ·
      have p48 := Decidable.not_not.1 (of_decide_eq_false c36)
      have hph := phI_eq p48
      refine k_exit ?_
      refine xs_exit ?_
      refine xs_exit ?_
      refine xs_here ?_
      refine xs_then <| k_sr <| sp (iw (nof n t : Int)) ?_
      refine sp rl ?_
      refine s_lt (t_len iTy_ok Tryz.underlying23 (.own 2)) ?_
      refine sp v17 ?_
      refine s_lt (t_len iTy_ok Tryz.underlying23 (.own 1)) ?_
      refine s_lt (t_add (((hids ((made l).1)).filter fun x => decide (x ∈ gq ((made l).1) R n)).length : Int) ((hids ((made l).1)).length : Int) (by (try simp only [lnm]); omega)) ?_
      refine s_lt (Lt.to t_cmp (congrArg Value.bool (decide_eq_true (by have := nof_end n (hids ((made l).1)).length; have : t = n + (hids ((made l).1)).length + 1 := (by omega); subst this; omega) : (decide ((nof n t : Int) = ((((hids ((made l).1)).filter fun x => decide (x ∈ gq ((made l).1) R n)).length : Int) + ((hids ((made l).1)).length : Int)))) = true))) ?_
      refine sp (.bool true) ?_
      refine sp (pB g14 0) ?_
      refine sp (pB g14 0) ?_
      refine s_lt (t_load 5 (pB hb7 0)) ?_
      have hi0 : ¬ i = 0 := by omega
      refine s_mem (fun _ h => en_out hi0 (h.re [0] [])) ?_
      refine s_memX (fun H h => cy_end (b := o10) (q := q12) (hb := hb7) (n := n) (st := ((made l).1)) (R := R) (t := t) (by omega) (h.re [0] [])) (fun m _ => ?_)
      refine s_call [1] (hids_s (st := (swS ((made l).1) (gq ((made l).1) R n) (hids ((made l).1)).length)) (sw_sm (gq ((made l).1) R n) hsm _) (by omega)) ?_
      rintro v49 _ rfl
      refine s_fact (fun H h => ((Acc.own (T := iTy) (L := (hids (swS ((made l).1) (gq ((made l).1) R n) (hids ((made l).1)).length))) 0 rfl) H h).form) (fun hf50 => ?_)
      refine s_mem (Bs := [own iTy v49 ((hids ((made l).1)).filter fun x => decide (x ∈ gq ((made l).1) R n)), hpA hb7 (swS ((made l).1) (gq ((made l).1) R n) (hids ((made l).1)).length), coA o10 q12 hb7 0 m [] [] (swF ((made l).1) (gq ((made l).1) R n) (hids ((made l).1)).length), own iTy v17 (hids ((made l).1)), own iTy rl ((hids ((made l).1)).filter fun x => decide (x ∈ gq ((made l).1) R n)), own ObT ov N, frz (AllO N), blkA g14 #[pB hb7 0, pB gb8 0, lx9, pB o10 0, pB p11 0, rx] 34, own iTy rx R, own VlT lx9 ((made l).2)]) (fun _ h => by rw [swS_ids] at h; exact h) ?_
      refine sp rl ?_
      refine s_vcall (fun _ h => ints25_s (Acc.kn (.own 0) h) (Acc.kn (.own 4) h)) ?_
      rintro u52 e51
      obtain rfl : u52 = .bool true := e51.trans (congrArg Value.bool (decide_eq_true rfl))
      refine sp (.bool true) ?_
      refine sp (.bool true) ?_
      refine sp (pB g14 3) ?_
      refine s_lt (t_load 7 (pB o10 0)) ?_
      refine s_call [2] (cfreed_s (Fr := (swF ((made l).1) (gq ((made l).1) R n) (hids ((made l).1)).length)) (by have := swF_len (made l).1 (gq ((made l).1) R n) (hids ((made l).1)).length; omega)) ?_
      rintro v53 _ rfl
      refine s_fact (fun H h => ((Acc.own (T := iTy) (L := (swF ((made l).1) (gq ((made l).1) R n) (hids ((made l).1)).length)) 0 rfl) H h).form) (fun hf54 => ?_)
      have hfc := free_count hv; have hnl := hv.le
      refine s_lt (t_len iTy_ok Tryz.underlying23 (.own 0)) ?_
      refine sp v17 ?_
      refine s_lt (t_len iTy_ok Tryz.underlying23 (.own 4)) ?_
      refine sp rl ?_
      refine s_lt (t_len iTy_ok Tryz.underlying23 (.own 5)) ?_
      refine s_lt (t_sub ((hids ((made l).1)).length : Int) (((hids ((made l).1)).filter fun x => decide (x ∈ gq ((made l).1) R n)).length : Int) (by (try simp only [lnm]); omega)) ?_
      refine s_lt (Lt.to t_cmp (congrArg Value.bool (decide_eq_true (by omega) : (decide (((swF ((made l).1) (gq ((made l).1) R n) (hids ((made l).1)).length).length : Int) = (((hids ((made l).1)).length : Int) - (((hids ((made l).1)).filter fun x => decide (x ∈ gq ((made l).1) R n)).length : Int)))) = true))) ?_
      refine sp (.bool true) ?_
      refine sp (.bool true) ?_
      refine s_vcall (fun _ h => lives45_s) ?_
      rintro _ rfl
      refine sp (.bool true) ?_
      refine sp (.bool true) ?_
      refine s_nt <| k_ret ?_
      exact xs_fin [.bool true] [] (SI.tmp 6 SI.nil) (fun _ h => h.re [] [0, 0, 0, 0, 0, 0, 0, 0, 0, 0, 0]) ⟨rfl, rfl⟩
end Go.Proofs.YtmhpcebiamkciaaGreat
end
section
set_option linter.unusedSimpArgs false
set_option linter.unusedVariables false
namespace Go.J
open Go.ChangeShapes Go.WideShapes Go.RowKit Go.Hp
open Go.Mem (Ty)
section
variable {H : Type} {enc : TypeId × Value → H} {P : Program} {W : World}
abbrev Tr (enc : TypeId × Value → H) (P : Program) (W : World) (t : TypeId) (cs : List Value) : Prop := ∃ n x, DataW.trod enc P W 0 (fun _ => true) true n t cs = some x
theorem tr_int {t : TypeId} {k : IntKind} {cs : List Value} (hu : P.underlying t = some (.int k)) (h : Tr enc P W t cs) : ∃ n, cs = [.int k n] ∧ (Lit.int k n).wf = true := by
  obtain ⟨fuel, x, hx⟩ := h
  obtain ⟨n, h1, _, h3⟩ := DataW.trod_int hu hx
  exact ⟨n, h1, h3⟩
end
end Go.J
end
section
set_option linter.unusedSimpArgs false
set_option linter.unusedVariables false
namespace Go.J
open Go.ChangeShapes Go.WideShapes Go.RowKit Go.Hp
open Go.Mem (Ty)
section
variable {H : Type} {enc : TypeId × Value → H} {P : Program} {W : World}
theorem tr_sliceQ {α : Type} [Inhabited α] {T : Ty α} (hT : T.Ok P) {t : TypeId} {cs : List Value} (ht : P.underlying t = some (.slice T.id)) (hc : P.cellsOf T.id = T.size)
    {Q : α → Prop} (hdec : ∀ cs, Tr enc P W T.id cs → ∃ x, T.enc x = cs ∧ Q x) (h : Tr enc P W t cs) : ∃ v L, cs = [v] ∧ Sl W.heap T v L ∧ ∀ y ∈ L, Q y := by
  obtain ⟨fuel, x, hf⟩ := h
  rcases Deep.open_slice ht hf with ⟨h0, _⟩ | ⟨a, len0, cap, m, n, D, Pl, h0, _, hl, hm, hmm, _, hx⟩
  · exact ⟨_, [], h0, .inl ⟨⟨none, rfl⟩, rfl⟩, by simp⟩
  simp only [if_true] at hmm
  subst hmm
  have hpos := hT.pos
  rw [hc] at hx
  by_cases hcap : m = 0
  · subst hcap
    obtain rfl : len0 = 0 := by omega
    exact ⟨_, [], h0, .inl ⟨⟨some a, rfl⟩, rfl⟩, by simp⟩
  obtain ⟨g, off, spot⟩ := a
  have key : spot = none ∧ ∃ arr e fr, W.heap[g]? = some (.cells arr e fr) := by
    obtain ⟨cs', h1, h2⟩ := hx 0 (by omega)
    obtain ⟨_, hlen, hcell⟩ := World.cells?_some h1
    have h3 := hcell 0 hpos
    simp only [Nat.zero_mul, Addr.add, if_true] at h3
    have hne : cs'[0]? ≠ none := by rw [List.getElem?_eq_getElem (by omega)]; exact fun h => nomatch h
    unfold World.cell? at h3
    simp only at h3
    cases hg : W.heap[g]? with
    | none => rw [hg] at h3; simp only at h3; exact absurd h3.symm hne
    | some ob =>
      rw [hg] at h3
      cases ob <;> simp only at h3 <;> first | (exact absurd h3.symm hne) | skip
      rename_i arr e fr
      cases spot with
      | none => exact ⟨rfl, arr, e, fr, rfl⟩
      | some s => simp only [Option.isSome_some, if_true] at h3; exact absurd h3.symm hne
  obtain ⟨rfl, arr, e, fr, hg⟩ := key
  obtain ⟨X, hX⟩ := Deep.choose_lt (α := α) (p := fun i x => (∀ j u, (T.enc x)[j]? = some u → arr[off + i * T.size + j]? = some u) ∧ Q x) (fun i hi => by
    obtain ⟨cs', h1, h2⟩ := hx i hi
    obtain ⟨_, hlen, hcell⟩ := World.cells?_some h1
    obtain ⟨x, hx', hQ⟩ := hdec cs' ⟨_, _, h2⟩
    refine ⟨x, fun j u hj => ?_, hQ⟩
    rw [hx'] at hj
    have hjl : j < T.size := by rw [← hlen]; exact (List.getElem?_eq_some_iff.1 hj).1
    have := hcell j hjl
    rw [Mem.addr_add, Mem.addr_add, cell_of_row W g _ arr e fr hg, hj] at this
    exact this)
  have hget : ∀ i j, i < m → j < T.size → ∃ u, (T.enc (X i))[j]? = some u ∧ arr[off + i * T.size + j]? = some u := fun i j hi hj => by
    have : j < (T.enc (X i)).length := by rw [hT.len]; exact hj
    exact ⟨_, List.getElem?_eq_getElem this, (hX i hi).1 j _ (List.getElem?_eq_getElem this)⟩
  refine ⟨_, (List.range len0).map X, h0, .inr ⟨g, off, m, arr, e, fr, by simp, hg, by simpa using hl, hm, ?_, ?_⟩, ?_⟩
  · intro hcp
    obtain ⟨u, _, hu⟩ := hget (m - 1) (T.size - 1) (by omega) (by omega)
    have hlt := (Array.getElem?_eq_some_iff.1 hu).1
    have : m * T.size = (m - 1) * T.size + T.size := by rw [Nat.sub_mul]; have : T.size ≤ m * T.size := Nat.le_mul_of_pos_left _ hcp; omega
    omega
  · apply List.ext_getElem?
    intro q
    have hfl := hT.flat_len ((List.range len0).map X)
    simp only [List.length_map, List.length_range] at hfl ⊢
    by_cases hq : q < len0 * T.size
    · have hi : q / T.size < len0 := Nat.div_lt_of_lt_mul (by rw [Nat.mul_comm]; exact hq)
      have hj : q % T.size < T.size := Nat.mod_lt _ hpos
      have e1 : q = q / T.size * T.size + q % T.size := by rw [Nat.mul_comm]; exact (Nat.div_add_mod _ _).symm
      obtain ⟨u, h1, h2⟩ := hget (q / T.size) (q % T.size) (by omega) hj
      have hL : ((List.range len0).map X)[q / T.size]? = some (X (q / T.size)) := by simp [hi]
      have h3 := hT.flat_get hL hj
      rw [← e1, h1] at h3
      rw [h3, List.getElem?_take, if_pos hq, List.getElem?_drop, Array.getElem?_toList]
      rw [← h2]
      congr 1
      omega
    · rw [List.getElem?_eq_none (by simp; omega), List.getElem?_eq_none (by rw [hfl]; omega)]
  · intro y hy
    simp only [List.mem_map, List.mem_range] at hy
    obtain ⟨i, hi, rfl⟩ := hy
    exact (hX i (by omega)).2
end
end Go.J
end
section
set_option linter.unusedSimpArgs false
set_option linter.unusedVariables false
set_option maxRecDepth 100000
namespace Go.Proofs.YtmhpcebiamkciaaGreat
open Go.RowKit Go.J Go.S Go.Hp Go.ChangeShapes Go.WideShapes
theorem Tryz.own : ownKnob Tryz.prog.godebug = none := by kernel_rfl
theorem Tryz.laidOut : laidOutB Tryz.prog = true := by kernel_rfl
instance : Inhabited Spc := ⟨⟨zVl, 0⟩⟩
instance : Inhabited Opc := ⟨⟨0, ⟨zVl, 0⟩, ⟨zVl, 0⟩, ⟨zVl, 0⟩⟩⟩
section
variable {H : Type} {enc : TypeId × Value → H} {W : World}
theorem open_ints {cs : List Value} (h : Tr enc Tryz.prog W 23 cs) : ∃ v L, cs = [v] ∧ Sl W.heap iTy v L := by
  obtain ⟨v, L, h1, h2, _⟩ := tr_sliceQ (Q := fun _ => True) iTy_ok Tryz.underlying23 (by kernel_rfl) (fun cs h => by obtain ⟨n, e, _⟩ := tr_int Tryz.underlying3 h; exact ⟨n, e.symm, trivial⟩) h
  exact ⟨v, L, h1, h2⟩
theorem rng8 {n : Int} (h : (Lit.int .u8 n).wf = true) : 0 ≤ n ∧ n < 256 := by
  simp only [Lit.wf, Bool.and_eq_true, decide_eq_true_eq] at h
  have e1 : IntKind.u8.min = 0 := by rfl
  have e2 : IntKind.u8.max = 255 := by rfl
  rw [e1, e2] at h; omega
theorem open_bytes {cs : List Value} (h : Tr enc Tryz.prog W 52 cs) : ∃ v L, cs = [v] ∧ Sl W.heap uTy v L ∧ ∀ x ∈ L, 0 ≤ x ∧ x < 256 := by
  obtain ⟨v, L, h1, h2, h3⟩ := tr_sliceQ (Q := fun x => 0 ≤ x ∧ x < 256) uTy_ok Tryz.underlying52 (by kernel_rfl) (fun cs h => by obtain ⟨n, e, hw⟩ := tr_int Tryz.underlying5 h; exact ⟨n, e.symm, rng8 hw⟩) h
  exact ⟨v, L, h1, h2, h3⟩
end
theorem decOpT (cs : List Value) (h : fitsL [0, 0, 0, 0, 1, 0, 0, 0, 0, 0, 1, 0, 0, 0, 0, 0, 1, 0, 0] cs = true) : ∃ x, OpT.enc x = cs := by
  have hl := fitsL_len h
  match cs, hl, h with
  | [c0, c1, c2, c3, c4, c5, c6, c7, c8, c9, c10, c11, c12, c13, c14, c15, c16, c17, c18], _, h =>
    simp only [fitsL, Bool.and_eq_true] at h
    obtain ⟨c0, rfl⟩ := fit_int h.1
    obtain ⟨c1, rfl⟩ := fit_int h.2.1
    obtain ⟨c2, rfl⟩ := fit_int h.2.2.1
    obtain ⟨c3, rfl⟩ := fit_int h.2.2.2.1
    obtain ⟨c4, rfl⟩ := fit_str h.2.2.2.2.1
    obtain ⟨c5, rfl⟩ := fit_int h.2.2.2.2.2.1
    obtain ⟨c6, rfl⟩ := fit_int h.2.2.2.2.2.2.1
    obtain ⟨c7, rfl⟩ := fit_int h.2.2.2.2.2.2.2.1
    obtain ⟨c8, rfl⟩ := fit_int h.2.2.2.2.2.2.2.2.1
    obtain ⟨c9, rfl⟩ := fit_int h.2.2.2.2.2.2.2.2.2.1
    obtain ⟨c10, rfl⟩ := fit_str h.2.2.2.2.2.2.2.2.2.2.1
    obtain ⟨c11, rfl⟩ := fit_int h.2.2.2.2.2.2.2.2.2.2.2.1
    obtain ⟨c12, rfl⟩ := fit_int h.2.2.2.2.2.2.2.2.2.2.2.2.1
    obtain ⟨c13, rfl⟩ := fit_int h.2.2.2.2.2.2.2.2.2.2.2.2.2.1
    obtain ⟨c14, rfl⟩ := fit_int h.2.2.2.2.2.2.2.2.2.2.2.2.2.2.1
    obtain ⟨c15, rfl⟩ := fit_int h.2.2.2.2.2.2.2.2.2.2.2.2.2.2.2.1
    obtain ⟨c16, rfl⟩ := fit_str h.2.2.2.2.2.2.2.2.2.2.2.2.2.2.2.2.1
    obtain ⟨c17, rfl⟩ := fit_int h.2.2.2.2.2.2.2.2.2.2.2.2.2.2.2.2.2.1
    obtain ⟨c18, rfl⟩ := fit_int h.2.2.2.2.2.2.2.2.2.2.2.2.2.2.2.2.2.2.1
    exact ⟨⟨c0, ⟨⟨c1, c2, c3, c4, c5⟩, c6⟩, ⟨⟨c7, c8, c9, c10, c11⟩, c12⟩, ⟨⟨c13, c14, c15, c16, c17⟩, c18⟩⟩, rfl⟩
end Go.Proofs.YtmhpcebiamkciaaGreat
end
