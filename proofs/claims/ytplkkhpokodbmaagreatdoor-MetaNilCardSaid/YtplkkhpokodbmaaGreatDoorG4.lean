/-
  Plain facts of layer 19: decimal numerals. No program in sight.
-/
import Derived.Test.YtplkkhpokodbmaaGreatDoorG2
import Derived.Lib.ItoaNum
import Derived.Shelf.Strconv.Itoa3
import Derived.Test.YtplkkhpokodbmaaGreatDoorProg
import Derived.Test.YtplkkhpokodbmaaGreatDoorG1
import Derived.Test.YtplkkhpokodbmaaGreatDoorG3
import Derived.Test.YtplkkhpokodbmaaGreatDoorRows
import Derived.Lib.LaidTab
import Derived.Stop.LaidErr
import Derived.Test.YtplkkhpokodbmaaGreatDoorCards
import Derived.Test.YtplkkhpokodbmaaGreatDoorTie
import Derived.WalkKit
import Derived.ProofKit
import Derived.OpenShut
import Derived.Deep.DeepHandedRow
section
set_option linter.unusedSimpArgs false
set_option linter.unusedVariables false
namespace Go.Proofs.YtplkkhpokodbmaaGreatDoor
open Go.Lib (decDigits itoa)
theorem u64_wrap {z : Int} (h0 : 0 ≤ z) (h1 : z < 18446744073709551616) : IntKind.u64.wrap z = z := by
  simp [IntKind.wrap, IntKind.bits, IntKind.signed]; omega
theorem u64_neg {n : Int} (h0 : -9223372036854775808 ≤ n) (h1 : n < 0) : IntKind.u64.wrap (-(IntKind.u64.wrap n)) = -n := by
  simp [IntKind.wrap, IntKind.bits, IntKind.signed]; omega
def names36 : ByteArray := ⟨#[48, 49, 50, 51, 52, 53, 54, 55, 56, 57, 97, 98, 99, 100, 101, 102, 103, 104, 105, 106, 107, 108, 109, 110, 111, 112, 113, 114, 115, 116, 117, 118, 119, 120, 121, 122]⟩
theorem names_get36 (d : Nat) (h : d < 10) : names36[d]? = some (UInt8.ofNat (48 + d)) := by
  have : ∀ d : Fin 10, names36[d.1]? = some (UInt8.ofNat (48 + d.1)) := by decide
  exact this ⟨d, h⟩
/-- What is still to come. -/
def left (u : Nat) (l : List UInt8) : List UInt8 := if u = 0 ∧ l ≠ [] then [] else decDigits u
theorem left_step (u : Nat) (l : List UInt8) (h : u ≠ 0 ∨ l = []) : left u l ++ l.reverse = left (u / 10) (l ++ [UInt8.ofNat (48 + u % 10)]) ++ (l ++ [UInt8.ofNat (48 + u % 10)]).reverse := by
  have h1 : left u l = decDigits u := by
    unfold left; rw [if_neg]; rintro ⟨a, b⟩; rcases h with h | h
    · exact h a
    · exact b h
  rw [h1, List.reverse_append]
  by_cases hs : u < 10
  · have e : u / 10 = 0 := by omega
    rw [decDigits, dif_pos hs, left, if_pos ⟨e, by simp⟩, show u % 10 = u by omega]; simp
  · have e : ¬ u / 10 = 0 := by omega
    rw [decDigits, dif_neg hs, left, if_neg (fun q => e q.1)]; simp
theorem left_end {U u : Nat} {l : List UInt8} (h : decDigits U = left u l ++ l.reverse) (h0 : u = 0) (h1 : 0 < l.length) : decDigits U = l.reverse := by
  rw [h, left, if_pos ⟨h0, by rintro rfl; cases h1⟩]; rfl
theorem left_len {U u : Nat} {l : List UInt8} (h : decDigits U = left u l ++ l.reverse) : l.length ≤ (decDigits U).length := by rw [h]; simp
theorem dec_len {U : Nat} (h : U < 18446744073709551616) : (decDigits U).length ≤ 20 := by
  rw [Go.Lib.decDigits_length]
  by_cases h0 : 1 ≤ U
  · have := Go.Lib.numDigits_eq U h0 h; split at this <;> omega
  · obtain rfl : U = 0 := by omega
    rw [Go.Lib.nDigits_small (by omega)]; omega
end Go.Proofs.YtplkkhpokodbmaaGreatDoor
end
section
set_option linter.unusedSimpArgs false
set_option linter.unusedVariables false
namespace Go.Proofs
open Go.Shelf
def Tryz.laysM171_ren : Go.Shelf.Ren := ⟨fun | 171 => 37 | 243 => 89 | 246 => 115 | 283 => 132 | 284 => 133 | 285 => 134 | 286 => 135 | 129 => 141 | 317 => 140 | 318 => 142 | 319 => 143 | 320 => 144 | 337 => 147 | 338 => 148 | n => n, fun | 3 => 3 | 9 => 9 | 2 => 2 | 4 => 4 | 171 => 152 | 0 => 0 | 53 => 153 | 37 => 156 | 5 => 5 | 173 => 157 | 212 => 162 | 51 => 163 | 20 => 20 | 213 => 164 | 46 => 160 | 232 => 170 | 233 => 171 | n => n, fun | 17 => 1 | 18 => 2 | 19 => 3 | n => n⟩
theorem Tryz.laysM171 : Go.Proofs.LaysM.n171 Tryz.prog Tryz.laysM171_ren := {
  mixed := by kernel_rfl
  f129 := Tryz.func141.trans (congrArg some (by kernel_rfl))
  f171 := Tryz.func37.trans (congrArg some (by kernel_rfl))
  f243 := Tryz.func89.trans (congrArg some (by kernel_rfl))
  f246 := Tryz.func115.trans (congrArg some (by kernel_rfl))
  f283 := Tryz.func132.trans (congrArg some (by kernel_rfl))
  f284 := Tryz.func133.trans (congrArg some (by kernel_rfl))
  f285 := Tryz.func134.trans (congrArg some (by kernel_rfl))
  f286 := Tryz.func135.trans (congrArg some (by kernel_rfl))
  f317 := Tryz.func140.trans (congrArg some (by kernel_rfl))
  f318 := Tryz.func142.trans (congrArg some (by kernel_rfl))
  f319 := Tryz.func143.trans (congrArg some (by kernel_rfl))
  f320 := Tryz.func144.trans (congrArg some (by kernel_rfl))
  f337 := Tryz.func147.trans (congrArg some (by kernel_rfl))
  f338 := Tryz.func148.trans (congrArg some (by kernel_rfl))
  t0 := Tryz.underlying0
  a0 := Tryz.isAgg0
  z0 := Tryz.sizeOf0
  v0 := Tryz.zeroValue0
  t2 := Tryz.underlying2
  a2 := Tryz.isAgg2
  z2 := Tryz.sizeOf2
  v2 := Tryz.zeroValue2
  t3 := Tryz.underlying3
  a3 := Tryz.isAgg3
  z3 := Tryz.sizeOf3
  v3 := Tryz.zeroValue3
  t4 := Tryz.underlying4
  a4 := Tryz.isAgg4
  z4 := Tryz.sizeOf4
  v4 := Tryz.zeroValue4
  t5 := Tryz.underlying5
  a5 := Tryz.isAgg5
  z5 := Tryz.sizeOf5
  v5 := Tryz.zeroValue5
  t9 := Tryz.underlying9
  a9 := Tryz.isAgg9
  z9 := Tryz.sizeOf9
  v9 := Tryz.zeroValue9
  t20 := Tryz.underlying20
  a20 := Tryz.isAgg20
  z20 := Tryz.sizeOf20
  v20 := Tryz.zeroValue20
  t37 := Tryz.underlying156
  a37 := Tryz.isAgg156
  z37 := Tryz.sizeOf156
  v37 := Tryz.zeroValue156
  t46 := Tryz.underlying160
  a46 := Tryz.isAgg160
  z46 := Tryz.sizeOf160
  v46 := Tryz.zeroValue160
  t51 := Tryz.underlying163
  a51 := Tryz.isAgg163
  z51 := Tryz.sizeOf163
  v51 := Tryz.zeroValue163
  t53 := Tryz.underlying153
  a53 := Tryz.isAgg153
  z53 := Tryz.sizeOf153
  v53 := Tryz.zeroValue153
  t171 := Tryz.underlying152
  a171 := Tryz.isAgg152
  z171 := Tryz.sizeOf152
  v171 := Tryz.zeroValue152
  t173 := Tryz.underlying157
  a173 := Tryz.isAgg157
  z173 := Tryz.sizeOf157
  v173 := Tryz.zeroValue157
  t212 := Tryz.underlying162
  a212 := Tryz.isAgg162
  z212 := Tryz.sizeOf162
  v212 := Tryz.zeroValue162
  t213 := Tryz.underlying164
  a213 := Tryz.isAgg164
  z213 := Tryz.sizeOf164
  t232 := Tryz.underlying170
  a232 := Tryz.isAgg170
  z232 := Tryz.sizeOf170
  v232 := Tryz.zeroValue170
  t233 := Tryz.underlying171
  a233 := Tryz.isAgg171
  z233 := Tryz.sizeOf171
  v233 := Tryz.zeroValue171
  g17 := by kernel_rfl
  g18 := by kernel_rfl
  g19 := by kernel_rfl
  i0 := by kernel_rfl
  i2 := by kernel_rfl
  i3 := by kernel_rfl
  i4 := by kernel_rfl
  i5 := by kernel_rfl
  i9 := by kernel_rfl
  i20 := by kernel_rfl
  i37 := by kernel_rfl
  i46 := by kernel_rfl
  i51 := by kernel_rfl
  i53 := by kernel_rfl
  i171 := by kernel_rfl
  i173 := by kernel_rfl
  i212 := by kernel_rfl
  i232 := by kernel_rfl
  i233 := by kernel_rfl
  m17 := by kernel_rfl
  m18 := by kernel_rfl
  m19 := by kernel_rfl }
open Go.RowKit Go.Sort Go.Lib in
theorem Tryz.strconv_Itoa (n : Int) (h0 : -9223372036854775808 ≤ n) (h1 : n ≤ 9223372036854775807) (w : World) (htab : Lib.TabIs Tryz.prog w "internal/strconv.uint64pow10" .u64 Lib.pow10Tab) :
    Calls Tryz.prog 37 #[.int .i64 n] w fun e w' => e = .returned (.string ⟨(Lib.itoa n).toArray⟩) ∧ ∃ k os, w' = grow (w.drewN k) os := Any.strconv_Itoa Tryz.laysM171 n h0 h1 w htab
namespace YtplkkhpokodbmaaGreatDoor
open Go.Hp Go.J Go.S
/-- The table lies as it should, in this memory. -/
def Tab (H : Heap) : Prop := ∀ w : World, w.heap = H → Lib.TabIs Tryz.prog w "internal/strconv.uint64pow10" .u64 Lib.pow10Tab
def KnTab (Z : Zone) : Prop := ∀ H : Heap, (∀ k, Z.dom k → H[k]? = Z.heap[k]? ∧ k < H.size) → Tab H
def itoaB (n : Int) : ByteArray := ⟨(Lib.itoa n).toArray⟩
theorem KnTab.get {Z : Zone} {As : List Asr} {H : Heap} (k : KnTab Z) (h : Holds Z As H) : Tab H := k H h.zone
theorem KnTab.at {Z : Zone} {As : List Asr} {H : Heap} (k : KnTab Z) (h : Holds Z As H) : KnTab (zoneOf H) :=
  fun H' q => k H' fun j hj => ⟨(q j (h.zone j hj).2).1.trans (h.zone j hj).1, (q j (h.zone j hj).2).2⟩
theorem chg_grow (w : World) (k : Nat) (os : Array Obj) : Chg (fun _ => False) w.heap (Sort.grow (w.drewN k) os).heap := by
  refine ⟨by show w.heap.size ≤ (w.heap ++ os).size; simp, fun j hj _ => ?_⟩
  show (w.heap ++ os)[j]? = w.heap[j]?
  rw [Array.getElem?_append_left hj]
theorem itoa_s {Z : Zone} (ht : KnTab Z) (n : Int) (h0 : -9223372036854775808 ≤ n) (h1 : n ≤ 9223372036854775807) : SF Tryz.prog 37 #[.int .i64 n] Z [] fun v Bs => v = .string (itoaB n) ∧ Bs = [] :=
  sf_val fun H hH w hw => (Tryz.strconv_Itoa n h0 h1 w (ht.get hH w hw)).mono fun e w' ⟨he, k, os, hw'⟩ => ⟨_, he, by subst hw'; exact ⟨rfl, rfl, rfl, rfl⟩, rfl, by subst hw'; rw [← hw]; exact chg_grow w k os⟩
end YtplkkhpokodbmaaGreatDoor
end Go.Proofs
end
section
set_option linter.unusedSimpArgs false
set_option linter.unusedVariables false
set_option maxRecDepth 100000
set_option maxHeartbeats 2000000
namespace Go.Proofs.YtplkkhpokodbmaaGreatDoor
open Go.Hp Go.J Go.S
open Go.Mem (Ty KTy blk elemAt pre suf blk_pre blk_suf aget aset strK aggDesc)
open Go.Mem (adel apos aget_aset aget_adel)
open Go.Lib (decDigits itoa)
theorem bt_ok : (byteT 5).Ok Tryz.prog := byteT_ok (i := Tryz.t5) Tryz.underlying5 (by kernel_rfl) (by kernel_rfl) (by kernel_rfl) (by kernel_rfl)
theorem u64_quo (a b : Nat) (hb : 0 < b) (ha : a < 18446744073709551616) : IntKind.u64.wrap (Int.tdiv (a : Int) (b : Int)) = ((a / b : Nat) : Int) := by
  have e : Int.tdiv (a : Int) (b : Int) = ((a / b : Nat) : Int) := rfl
  have : a / b ≤ a := Nat.div_le_self _ _
  rw [e, u64_wrap (Int.natCast_nonneg _) (Int.ofNat_lt.2 (Nat.lt_of_le_of_lt this ha))]
theorem drop_rev {D : List UInt8} {i : Nat} {y : UInt8} (hi : 0 < i) (hy : D[i - 1]? = some y) : (D.drop (i - 1)).reverse = (D.drop i).reverse ++ [y] := by
  have hlt := (List.getElem?_eq_some_iff.1 hy).1
  rw [List.drop_eq_getElem_cons hlt, show i - 1 + 1 = i by omega, List.reverse_cons, (List.getElem?_eq_some_iff.1 hy).2]
theorem itoaB_size {n : Int} (h0 : -9223372036854775808 ≤ n) (h1 : n ≤ 9223372036854775807) : (itoaB n).size ≤ 21 := by
  show (itoa n).toArray.size ≤ 21
  rw [List.size_toArray, itoa]; split
  · rw [List.length_cons]; have := dec_len (U := n.natAbs) (by omega); omega
  · have := dec_len (U := n.toNat) (by omega); omega
theorem sz_mk (l : List UInt8) : (ByteArray.mk l.toArray).size = l.length := rfl
theorem base_s {Z : Zone} (n : Int) (h0 : -9223372036854775808 ≤ n) (h1 : n ≤ 9223372036854775807) : SF Tryz.prog 116 #[.int .i64 n, .int .i64 10] Z [] fun v Bs => v = .tuple #[.string ⟨(itoa n).toArray⟩, .int .i64 0] ∧ Bs = [] := by
 refine sf_enter Tryz.func116 66 [(0, .int .i64 n), (1, .int .i64 10)] (fun w0 => ?_)
 refine k_sr ?_
 refine sp (.string ByteArray.empty) ?_
 refine sp (.int .i64 0) ?_
 refine s_nt ?_
 refine k_seq ?_
 refine k_sr ?_
 refine sp (.int .i64 10) ?_
 refine s_lt (t_cmp (c := false)) ?_
 refine sp (.bool false) ?_
 refine sp (.int .i64 10) ?_
 refine s_lt (t_cmp (c := false)) ?_
 refine sp (.bool false) ?_
 refine s_nt ?_
 refine k_false ?_
 refine k_st ?_
 refine k_sr ?_
 refine sp (.int .i64 n) ?_
 refine s_lt (t_convK n Tryz.underlying3 Tryz.underlying153) ?_
 refine sp (.int .u64 (IntKind.u64.wrap n)) ?_
 refine s_nt ?_
 refine k_seq ?_
 refine k_sr ?_
 refine sp (.int .i64 n) ?_
 refine s_lt t_cmp ?_
 refine s_nt ?_
 refine k_cond (decide (n < 0)) (fun c1 => ?_) (fun c1 => ?_)
 ·
  have p2 := of_decide_eq_true c1
  refine k_reg ?_
  refine sp (.int .u64 (IntKind.u64.wrap n)) ?_
  refine s_lt (t_negK (IntKind.u64.wrap n)) ?_
  refine sp (.int .u64 (IntKind.u64.wrap (-(IntKind.u64.wrap n)))) ?_
  refine s_nr ?_
  refine sp (.string ⟨#[48, 49, 50, 51, 52, 53, 54, 55, 56, 57, 97, 98, 99, 100, 101, 102, 103, 104, 105, 106, 107, 108, 109, 110, 111, 112, 113, 114, 115, 116, 117, 118, 119, 120, 121, 122]⟩) ?_
  refine s_nt ?_
  refine k_seq ?_
  obtain ⟨U, hU, hU2⟩ : ∃ U : Nat, (U : Int) = (IntKind.u64.wrap (-(IntKind.u64.wrap n))) ∧ U = n.natAbs := ⟨n.natAbs, by rw [u64_neg (by omega) (by omega)]; omega, rfl⟩
  rw [← hU]
  have hU3 : U < 18446744073709551616 := by omega
  have hd := dec_len hU3
  refine k_reg ?_
  refine s_buildSlice (e := 5) [] #[] (fun g3 => ?_) (hb := by kernel_rfl)
  refine sp (.slice (some ⟨g3, 0, none⟩) 0 0) ?_
  refine s_nt ?_
  refine k_seq ?_
  refine k_block ?_
  refine k_mem (fun _ h => Holds.slice 0 h bt_ok []) ?_
  refine k_loop (ι := Value × Nat × List UInt8) (fun (sx, u, l) => u < 18446744073709551616 ∧ decDigits U = left u l ++ l.reverse) (fun (sx, u, l) => [(0, .int .i64 n), (1, .int .i64 10), (6, .int .u64 (u : Int)), (7, .string ⟨#[48, 49, 50, 51, 52, 53, 54, 55, 56, 57, 97, 98, 99, 100, 101, 102, 103, 104, 105, 106, 107, 108, 109, 110, 111, 112, 113, 114, 115, 116, 117, 118, 119, 120, 121, 122]⟩), (8, sx)]) (fun (sx, u, l) => [own (byteT 5) sx l]) (fun (sx, u, l) => u + (1 - l.length)) ((.slice (some ⟨g3, 0, none⟩) 0 0), U, []) ⟨by omega, by simp [left]⟩ (sub_of rfl ⟨⟨rfl, rfl⟩, ⟨⟨rfl, rfl⟩, ⟨⟨rfl, rfl⟩, ⟨⟨rfl, rfl⟩, ⟨⟨rfl, rfl⟩, trivial⟩⟩⟩⟩⟩) (fun _ h => h.re [0] []) ?_
  rintro ⟨sx, u, l⟩ hi4
  replace hi4 : u < 18446744073709551616 ∧ decDigits U = left u l ++ l.reverse := hi4
  show SK _ _ _ _ _ [(0, .int .i64 n), (1, .int .i64 10), (6, .int .u64 (u : Int)), (7, .string ⟨#[48, 49, 50, 51, 52, 53, 54, 55, 56, 57, 97, 98, 99, 100, 101, 102, 103, 104, 105, 106, 107, 108, 109, 110, 111, 112, 113, 114, 115, 116, 117, 118, 119, 120, 121, 122]⟩), (8, sx)] _ [own (byteT 5) sx l]
  obtain ⟨hl1, hl2⟩ := hi4
  have hl3 := left_len hl2
  refine k_seq ?_
  refine k_cut (ι := Unit) (fun _ => True) (fun _ => [(0, .int .i64 n), (1, .int .i64 10), (6, .int .u64 (u : Int)), (7, .string ⟨#[48, 49, 50, 51, 52, 53, 54, 55, 56, 57, 97, 98, 99, 100, 101, 102, 103, 104, 105, 106, 107, 108, 109, 110, 111, 112, 113, 114, 115, 116, 117, 118, 119, 120, 121, 122]⟩), (8, sx), (30, .bool ((decide ((0 : Int) < (u : Int))) || (decide ((l.length : Int) = 0))))]) (fun _ => [own (byteT 5) sx l]) ?_ (fun _ _ => ?_)
  ·
   refine k_reg ?_
   refine sp (.int .u64 (u : Int)) ?_
   refine s_lt t_cmp ?_
   refine sp (.bool (decide ((0 : Int) < (u : Int)))) ?_
   refine s_fork 26 (decide ((0 : Int) < (u : Int))) (fun c5 => ?_) (fun c5 => ?_)
   ·
    have p6 := of_decide_eq_true c5
    refine s_skip ?_
    refine s_skip ?_
    refine s_skip ?_
    refine sp (.bool true) ?_
    refine s_nil ?_
    exact xs_cut () trivial (sub_of rfl ⟨⟨rfl, rfl⟩, ⟨⟨rfl, rfl⟩, ⟨⟨rfl, rfl⟩, ⟨⟨rfl, rfl⟩, ⟨⟨rfl, rfl⟩, ⟨⟨rfl, show Value.bool true = Value.bool ((decide ((0 : Int) < (u : Int))) || (decide ((l.length : Int) = 0))) by first | (simp only [c5, bls]; done) | simp [c5]⟩, trivial⟩⟩⟩⟩⟩⟩) (fun _ h => h.re [0] [])
   ·
    have p7 := of_decide_eq_false c5
    refine sp sx ?_
    refine s_lt (t_len bt_ok Tryz.underlying156 (.own 0)) ?_
    refine s_lt t_cmp ?_
    refine sp (.bool (decide ((l.length : Int) = 0))) ?_
    refine s_nil ?_
    exact xs_cut () trivial (sub_of rfl ⟨⟨rfl, rfl⟩, ⟨⟨rfl, rfl⟩, ⟨⟨rfl, rfl⟩, ⟨⟨rfl, rfl⟩, ⟨⟨rfl, rfl⟩, ⟨⟨rfl, show Value.bool (decide ((l.length : Int) = 0)) = Value.bool ((decide ((0 : Int) < (u : Int))) || (decide ((l.length : Int) = 0))) by first | (simp only [c5, bls]; done) | simp [c5]⟩, trivial⟩⟩⟩⟩⟩⟩) (fun _ h => h.re [0] [])
  ·
   refine k_cond ((decide ((0 : Int) < (u : Int))) || (decide ((l.length : Int) = 0))) (fun c8 => ?_) (fun c8 => ?_)
   ·
    have p9 := c8
    simp only [Bool.and_eq_true, Bool.or_eq_true, Bool.and_eq_false_iff, Bool.or_eq_false_iff, Bool.not_eq_true', Bool.not_eq_false', decide_eq_true_eq, decide_eq_false_iff_not] at p9
    have hcond := p9
    refine k_st ?_
    refine k_block ?_
    refine k_sr ?_
    refine sp sx ?_
    refine sp (.string ⟨#[48, 49, 50, 51, 52, 53, 54, 55, 56, 57, 97, 98, 99, 100, 101, 102, 103, 104, 105, 106, 107, 108, 109, 110, 111, 112, 113, 114, 115, 116, 117, 118, 119, 120, 121, 122]⟩) ?_
    refine sp (.int .u64 (u : Int)) ?_
    refine sp (.int .i64 10) ?_
    refine s_lt (t_conv 10 (by decide) Tryz.underlying3 Tryz.underlying153) ?_
    refine s_lt (Lt.to (v' := .int .u64 ((u % 10 : Nat) : Int)) (t_rem (u : Int) 10 (by omega)) rfl) ?_
    refine s_lt (t_idxS Tryz.underlying9 names36 ((u % 10 : Nat) : Int) (UInt8.ofNat (48 + u % 10)) (by omega) (names_get36 _ (by omega))) ?_
    refine s_buildSlice (e := 5) [(0, .int .u8 ((UInt8.ofNat (48 + u % 10)).toNat : Int))] #[.int .u8 ((UInt8.ofNat (48 + u % 10)).toNat : Int)] (fun g10 => ?_) (hb := by kernel_rfl)
    refine s_append (L := l) 1 bt_ok Tryz.underlying156 (.lit 0 bt_ok [(UInt8.ofNat (48 + u % 10))]) (by show _ * 1 ≤ _; (try simp only [lnm]); omega) (by (try simp only [lnm]); omega) (fun v11 => ?_)
    refine sp v11 ?_
    refine s_nt ?_
    refine k_reg ?_
    refine sp (.int .u64 (u : Int)) ?_
    refine sp (.int .i64 10) ?_
    refine s_lt (t_conv 10 (by decide) Tryz.underlying3 Tryz.underlying153) ?_
    refine s_lt (Lt.to (v' := .int .u64 ((u / 10 : Nat) : Int)) (t_quoK (u : Int) 10 (by omega)) (congrArg (Value.int .u64) (u64_quo u 10 (by omega) (by omega)))) ?_
    refine sp (.int .u64 ((u / 10 : Nat) : Int)) ?_
    refine s_nil ?_
    refine xs_block ?_
    exact xs_round (v11, u / 10, (l ++ [(UInt8.ofNat (48 + u % 10))])) (by show u / 10 + (1 - (l ++ [_]).length) < u + (1 - l.length); simp only [List.length_append, List.length_cons, List.length_nil]; omega) (by refine ⟨by omega, ?_⟩; rw [hl2]; exact left_step u l (by rcases hcond with h | h; exact .inl (by omega); exact .inr (List.eq_nil_of_length_eq_zero (by omega)))) (sub_of rfl ⟨⟨rfl, rfl⟩, ⟨⟨rfl, rfl⟩, ⟨⟨rfl, rfl⟩, ⟨⟨rfl, rfl⟩, ⟨⟨rfl, rfl⟩, trivial⟩⟩⟩⟩⟩) (fun _ h => h.re [1] [1])
   ·
    obtain ⟨c12, c13⟩ := or_f c8
    have p14 := of_decide_eq_false c12
    have p15 := of_decide_eq_false c13
    have hfin := left_end hl2 (by omega) (by omega)
    refine k_exit ?_
    refine xs_exit ?_
    refine xs_exit ?_
    refine xs_here ?_
    refine xs_then ?_
    refine k_seq ?_
    refine k_sr ?_
    refine sp (.int .i64 n) ?_
    refine s_lt (Lt.to t_cmp (congrArg Value.bool (c1 : (decide (n < 0)) = true))) ?_
    refine s_nt ?_
    refine k_true ?_
    refine k_reg ?_
    refine sp sx ?_
    refine s_buildSlice (e := 5) [(0, .int .u8 45)] #[.int .u8 45] (fun g16 => ?_) (hb := by kernel_rfl)
    refine s_append (L := l) 1 bt_ok Tryz.underlying156 (.lit 0 bt_ok [45]) (by show _ * 1 ≤ _; (try simp only [lnm]); omega) (by (try simp only [lnm]); omega) (fun v17 => ?_)
    refine sp v17 ?_
    refine s_nr ?_
    refine s_buildSlice (e := 5) [] #[] (fun g18 => ?_) (hb := by kernel_rfl)
    refine sp (.slice (some ⟨g18, 0, none⟩) 0 0) ?_
    refine s_nt ?_
    refine k_seq ?_
    refine k_sr ?_
    refine sp v17 ?_
    refine s_lt (t_len bt_ok Tryz.underlying156 (.own 2)) ?_
    refine s_lt (t_sub ((l ++ [45]).length : Int) 1 (by (try simp only [lnm]); omega)) ?_
    refine sp (.int .i64 (((l ++ [45]).length : Int) - 1)) ?_
    refine s_nt ?_
    refine k_block ?_
    refine k_mem (fun _ h => Holds.slice 0 h bt_ok []) ?_
    obtain ⟨D, hD⟩ : ∃ x, x = (l ++ [45]) := ⟨_, rfl⟩
    rw [← hD]
    have hDl : D.length ≤ 30 := by rw [hD]; (try simp only [lnm]); omega
    refine k_loop (ι := Value × Nat) (fun (sy, i) => i ≤ D.length) (fun (sy, i) => [(8, v17), (9, sy), (10, .int .i64 ((i : Int) - 1))]) (fun (sy, i) => [own (byteT 5) sy ((D.drop i).reverse), own (byteT 5) v17 D]) (fun (sy, i) => i) ((.slice (some ⟨g18, 0, none⟩) 0 0), D.length) (Nat.le_refl _) (sub_of rfl ⟨⟨rfl, rfl⟩, ⟨⟨rfl, rfl⟩, ⟨⟨rfl, rfl⟩, trivial⟩⟩⟩) (fun _ h => by show Holds _ [own _ _ (D.drop D.length).reverse, _] _; rw [List.drop_length]; exact h.re [0, 1] [2]) ?_
    rintro ⟨sy, i⟩ hi19
    replace hi19 : i ≤ D.length := hi19
    show SK _ _ _ _ _ [(8, v17), (9, sy), (10, .int .i64 ((i : Int) - 1))] _ [own (byteT 5) sy ((D.drop i).reverse), own (byteT 5) v17 D]
    refine k_seq ?_
    refine k_sr ?_
    refine sp (.int .i64 ((i : Int) - 1)) ?_
    refine s_lt t_cmp ?_
    refine s_nt ?_
    refine k_cond (decide ((0 : Int) ≤ ((i : Int) - 1))) (fun c20 => ?_) (fun c20 => ?_)
    ·
     have p21 := of_decide_eq_true c20
     refine k_st ?_
     refine k_seq ?_
     refine k_block ?_
     refine k_reg ?_
     refine sp sy ?_
     refine sp v17 ?_
     refine sp (.int .i64 ((i : Int) - 1)) ?_
     refine s_lt (t_index bt_ok Tryz.underlying156 (.own 1) ((i : Int) - 1) (i - 1) (by omega) (by (try simp only [lnm]); omega) (by omega)) ?_
     obtain ⟨y22, hy23⟩ : ∃ y, D[(i - 1)]? = some y := ⟨_, List.getElem?_eq_getElem (by (try simp only [lnm]); omega)⟩
     refine s_lt (t_loadE bt_ok (.own 1) hy23) ?_
     refine s_buildSlice (e := 5) [(0, .int .u8 (y22.toNat : Int))] #[.int .u8 (y22.toNat : Int)] (fun g24 => ?_) (hb := by kernel_rfl)
     refine s_append (L := (D.drop i).reverse) 1 bt_ok Tryz.underlying156 (.lit 0 bt_ok [y22]) (by show _ * 1 ≤ _; (try simp only [lnm]); omega) (by (try simp only [lnm]); omega) (fun v25 => ?_)
     refine sp v25 ?_
     refine s_nil ?_
     refine xs_block ?_
     refine xs_then ?_
     refine k_reg ?_
     refine sp (.int .i64 ((i : Int) - 1)) ?_
     refine s_lt (t_sub ((i : Int) - 1) 1 (by (try simp only [lnm]); omega)) ?_
     refine sp (.int .i64 (((i : Int) - 1) - 1)) ?_
     refine s_nil ?_
     rw [show (i : Int) - 1 - 1 = ((i - 1 : Nat) : Int) - 1 by omega]
     exact xs_round (v25, i - 1) (by show i - 1 < i; omega) (by show i - 1 ≤ D.length; omega) (sub_of rfl ⟨⟨rfl, rfl⟩, ⟨⟨rfl, rfl⟩, ⟨⟨rfl, rfl⟩, trivial⟩⟩⟩) (fun _ h => by show Holds _ [own _ _ (D.drop (i - 1)).reverse, _] _; rw [drop_rev (by omega) (by first | exact hy23 | (rw [← hy23]; congr 1; omega))]; exact h.re [1, 1] [2])
    ·
     have p26 := of_decide_eq_false c20
     refine k_exit ?_
     refine xs_exit ?_
     refine xs_exit ?_
     refine xs_here ?_
     refine xs_then ?_
     refine k_sr ?_
     refine sp sy ?_
     refine s_lt (t_bytes bt_ok Tryz.underlying156 Tryz.underlying5 Tryz.underlying9 (.own 0)) ?_
     refine sp (.string ⟨((D.drop i).reverse).toArray⟩) ?_
     refine sp (.int .i64 0) ?_
     refine s_nt ?_
     refine k_ret ?_
     have hi0 : i = 0 := by omega
     have he : itoa n = (D.drop i).reverse := by
      rw [hi0, List.drop_zero, itoa]
      first
      | (rw [if_pos (by omega), ← hU2, hfin, hD]; simp)
      | rw [if_neg (by omega), show n.toNat = U by omega, hfin, hD]
     exact xs_fin [.string ⟨((D.drop i).reverse).toArray⟩, .int .i64 0] [] (SI.tmp 4 (SI.tmp 5 SI.nil)) (fun _ h => h.re [] [0, 0]) ⟨by rw [he]; rfl, rfl⟩
 ·
  have p27 := of_decide_eq_false c1
  refine k_st ?_
  refine k_sr ?_
  refine sp (.string ⟨#[48, 49, 50, 51, 52, 53, 54, 55, 56, 57, 97, 98, 99, 100, 101, 102, 103, 104, 105, 106, 107, 108, 109, 110, 111, 112, 113, 114, 115, 116, 117, 118, 119, 120, 121, 122]⟩) ?_
  refine s_nt ?_
  refine k_seq ?_
  obtain ⟨U, hU, hU2⟩ : ∃ U : Nat, (U : Int) = (IntKind.u64.wrap n) ∧ U = n.natAbs := ⟨n.natAbs, by rw [u64_wrap (by omega) (by omega)]; omega, rfl⟩
  rw [← hU]
  have hU3 : U < 18446744073709551616 := by omega
  have hd := dec_len hU3
  refine k_reg ?_
  refine s_buildSlice (e := 5) [] #[] (fun g28 => ?_) (hb := by kernel_rfl)
  refine sp (.slice (some ⟨g28, 0, none⟩) 0 0) ?_
  refine s_nt ?_
  refine k_seq ?_
  refine k_block ?_
  refine k_mem (fun _ h => Holds.slice 0 h bt_ok []) ?_
  refine k_loop (ι := Value × Nat × List UInt8) (fun (sx, u, l) => u < 18446744073709551616 ∧ decDigits U = left u l ++ l.reverse) (fun (sx, u, l) => [(0, .int .i64 n), (1, .int .i64 10), (6, .int .u64 (u : Int)), (7, .string ⟨#[48, 49, 50, 51, 52, 53, 54, 55, 56, 57, 97, 98, 99, 100, 101, 102, 103, 104, 105, 106, 107, 108, 109, 110, 111, 112, 113, 114, 115, 116, 117, 118, 119, 120, 121, 122]⟩), (8, sx)]) (fun (sx, u, l) => [own (byteT 5) sx l]) (fun (sx, u, l) => u + (1 - l.length)) ((.slice (some ⟨g28, 0, none⟩) 0 0), U, []) ⟨by omega, by simp [left]⟩ (sub_of rfl ⟨⟨rfl, rfl⟩, ⟨⟨rfl, rfl⟩, ⟨⟨rfl, rfl⟩, ⟨⟨rfl, rfl⟩, ⟨⟨rfl, rfl⟩, trivial⟩⟩⟩⟩⟩) (fun _ h => h.re [0] []) ?_
  rintro ⟨sx, u, l⟩ hi29
  replace hi29 : u < 18446744073709551616 ∧ decDigits U = left u l ++ l.reverse := hi29
  show SK _ _ _ _ _ [(0, .int .i64 n), (1, .int .i64 10), (6, .int .u64 (u : Int)), (7, .string ⟨#[48, 49, 50, 51, 52, 53, 54, 55, 56, 57, 97, 98, 99, 100, 101, 102, 103, 104, 105, 106, 107, 108, 109, 110, 111, 112, 113, 114, 115, 116, 117, 118, 119, 120, 121, 122]⟩), (8, sx)] _ [own (byteT 5) sx l]
  obtain ⟨hl1, hl2⟩ := hi29
  have hl3 := left_len hl2
  refine k_seq ?_
  refine k_cut (ι := Unit) (fun _ => True) (fun _ => [(0, .int .i64 n), (1, .int .i64 10), (6, .int .u64 (u : Int)), (7, .string ⟨#[48, 49, 50, 51, 52, 53, 54, 55, 56, 57, 97, 98, 99, 100, 101, 102, 103, 104, 105, 106, 107, 108, 109, 110, 111, 112, 113, 114, 115, 116, 117, 118, 119, 120, 121, 122]⟩), (8, sx), (30, .bool ((decide ((0 : Int) < (u : Int))) || (decide ((l.length : Int) = 0))))]) (fun _ => [own (byteT 5) sx l]) ?_ (fun _ _ => ?_)
  ·
   refine k_reg ?_
   refine sp (.int .u64 (u : Int)) ?_
   refine s_lt t_cmp ?_
   refine sp (.bool (decide ((0 : Int) < (u : Int)))) ?_
   refine s_fork 26 (decide ((0 : Int) < (u : Int))) (fun c30 => ?_) (fun c30 => ?_)
   ·
    have p31 := of_decide_eq_true c30
    refine s_skip ?_
    refine s_skip ?_
    refine s_skip ?_
    refine sp (.bool true) ?_
    refine s_nil ?_
    exact xs_cut () trivial (sub_of rfl ⟨⟨rfl, rfl⟩, ⟨⟨rfl, rfl⟩, ⟨⟨rfl, rfl⟩, ⟨⟨rfl, rfl⟩, ⟨⟨rfl, rfl⟩, ⟨⟨rfl, show Value.bool true = Value.bool ((decide ((0 : Int) < (u : Int))) || (decide ((l.length : Int) = 0))) by first | (simp only [c30, bls]; done) | simp [c30]⟩, trivial⟩⟩⟩⟩⟩⟩) (fun _ h => h.re [0] [])
   ·
    have p32 := of_decide_eq_false c30
    refine sp sx ?_
    refine s_lt (t_len bt_ok Tryz.underlying156 (.own 0)) ?_
    refine s_lt t_cmp ?_
    refine sp (.bool (decide ((l.length : Int) = 0))) ?_
    refine s_nil ?_
    exact xs_cut () trivial (sub_of rfl ⟨⟨rfl, rfl⟩, ⟨⟨rfl, rfl⟩, ⟨⟨rfl, rfl⟩, ⟨⟨rfl, rfl⟩, ⟨⟨rfl, rfl⟩, ⟨⟨rfl, show Value.bool (decide ((l.length : Int) = 0)) = Value.bool ((decide ((0 : Int) < (u : Int))) || (decide ((l.length : Int) = 0))) by first | (simp only [c30, bls]; done) | simp [c30]⟩, trivial⟩⟩⟩⟩⟩⟩) (fun _ h => h.re [0] [])
  ·
   refine k_cond ((decide ((0 : Int) < (u : Int))) || (decide ((l.length : Int) = 0))) (fun c33 => ?_) (fun c33 => ?_)
   ·
    have p34 := c33
    simp only [Bool.and_eq_true, Bool.or_eq_true, Bool.and_eq_false_iff, Bool.or_eq_false_iff, Bool.not_eq_true', Bool.not_eq_false', decide_eq_true_eq, decide_eq_false_iff_not] at p34
    have hcond := p34
    refine k_st ?_
    refine k_block ?_
    refine k_sr ?_
    refine sp sx ?_
    refine sp (.string ⟨#[48, 49, 50, 51, 52, 53, 54, 55, 56, 57, 97, 98, 99, 100, 101, 102, 103, 104, 105, 106, 107, 108, 109, 110, 111, 112, 113, 114, 115, 116, 117, 118, 119, 120, 121, 122]⟩) ?_
    refine sp (.int .u64 (u : Int)) ?_
    refine sp (.int .i64 10) ?_
    refine s_lt (t_conv 10 (by decide) Tryz.underlying3 Tryz.underlying153) ?_
    refine s_lt (Lt.to (v' := .int .u64 ((u % 10 : Nat) : Int)) (t_rem (u : Int) 10 (by omega)) rfl) ?_
    refine s_lt (t_idxS Tryz.underlying9 names36 ((u % 10 : Nat) : Int) (UInt8.ofNat (48 + u % 10)) (by omega) (names_get36 _ (by omega))) ?_
    refine s_buildSlice (e := 5) [(0, .int .u8 ((UInt8.ofNat (48 + u % 10)).toNat : Int))] #[.int .u8 ((UInt8.ofNat (48 + u % 10)).toNat : Int)] (fun g35 => ?_) (hb := by kernel_rfl)
    refine s_append (L := l) 1 bt_ok Tryz.underlying156 (.lit 0 bt_ok [(UInt8.ofNat (48 + u % 10))]) (by show _ * 1 ≤ _; (try simp only [lnm]); omega) (by (try simp only [lnm]); omega) (fun v36 => ?_)
    refine sp v36 ?_
    refine s_nt ?_
    refine k_reg ?_
    refine sp (.int .u64 (u : Int)) ?_
    refine sp (.int .i64 10) ?_
    refine s_lt (t_conv 10 (by decide) Tryz.underlying3 Tryz.underlying153) ?_
    refine s_lt (Lt.to (v' := .int .u64 ((u / 10 : Nat) : Int)) (t_quoK (u : Int) 10 (by omega)) (congrArg (Value.int .u64) (u64_quo u 10 (by omega) (by omega)))) ?_
    refine sp (.int .u64 ((u / 10 : Nat) : Int)) ?_
    refine s_nil ?_
    refine xs_block ?_
    exact xs_round (v36, u / 10, (l ++ [(UInt8.ofNat (48 + u % 10))])) (by show u / 10 + (1 - (l ++ [_]).length) < u + (1 - l.length); simp only [List.length_append, List.length_cons, List.length_nil]; omega) (by refine ⟨by omega, ?_⟩; rw [hl2]; exact left_step u l (by rcases hcond with h | h; exact .inl (by omega); exact .inr (List.eq_nil_of_length_eq_zero (by omega)))) (sub_of rfl ⟨⟨rfl, rfl⟩, ⟨⟨rfl, rfl⟩, ⟨⟨rfl, rfl⟩, ⟨⟨rfl, rfl⟩, ⟨⟨rfl, rfl⟩, trivial⟩⟩⟩⟩⟩) (fun _ h => h.re [1] [1])
   ·
    obtain ⟨c37, c38⟩ := or_f c33
    have p39 := of_decide_eq_false c37
    have p40 := of_decide_eq_false c38
    have hfin := left_end hl2 (by omega) (by omega)
    refine k_exit ?_
    refine xs_exit ?_
    refine xs_exit ?_
    refine xs_here ?_
    refine xs_then ?_
    refine k_seq ?_
    refine k_sr ?_
    refine sp (.int .i64 n) ?_
    refine s_lt (Lt.to t_cmp (congrArg Value.bool (c1 : (decide (n < 0)) = false))) ?_
    refine s_nt ?_
    refine k_false ?_
    refine k_st ?_
    refine k_sr ?_
    refine s_buildSlice (e := 5) [] #[] (fun g41 => ?_) (hb := by kernel_rfl)
    refine sp (.slice (some ⟨g41, 0, none⟩) 0 0) ?_
    refine s_nt ?_
    refine k_seq ?_
    refine k_sr ?_
    refine sp sx ?_
    refine s_lt (t_len bt_ok Tryz.underlying156 (.own 1)) ?_
    refine s_lt (t_sub (l.length : Int) 1 (by (try simp only [lnm]); omega)) ?_
    refine sp (.int .i64 ((l.length : Int) - 1)) ?_
    refine s_nt ?_
    refine k_block ?_
    refine k_mem (fun _ h => Holds.slice 0 h bt_ok []) ?_
    obtain ⟨D, hD⟩ : ∃ x, x = l := ⟨_, rfl⟩
    rw [← hD]
    have hDl : D.length ≤ 30 := by rw [hD]; (try simp only [lnm]); omega
    refine k_loop (ι := Value × Nat) (fun (sy, i) => i ≤ D.length) (fun (sy, i) => [(8, sx), (9, sy), (10, .int .i64 ((i : Int) - 1))]) (fun (sy, i) => [own (byteT 5) sy ((D.drop i).reverse), own (byteT 5) sx D]) (fun (sy, i) => i) ((.slice (some ⟨g41, 0, none⟩) 0 0), D.length) (Nat.le_refl _) (sub_of rfl ⟨⟨rfl, rfl⟩, ⟨⟨rfl, rfl⟩, ⟨⟨rfl, rfl⟩, trivial⟩⟩⟩) (fun _ h => by show Holds _ [own _ _ (D.drop D.length).reverse, _] _; rw [List.drop_length]; exact h.re [0, 0] []) ?_
    rintro ⟨sy, i⟩ hi42
    replace hi42 : i ≤ D.length := hi42
    show SK _ _ _ _ _ [(8, sx), (9, sy), (10, .int .i64 ((i : Int) - 1))] _ [own (byteT 5) sy ((D.drop i).reverse), own (byteT 5) sx D]
    refine k_seq ?_
    refine k_sr ?_
    refine sp (.int .i64 ((i : Int) - 1)) ?_
    refine s_lt t_cmp ?_
    refine s_nt ?_
    refine k_cond (decide ((0 : Int) ≤ ((i : Int) - 1))) (fun c43 => ?_) (fun c43 => ?_)
    ·
     have p44 := of_decide_eq_true c43
     refine k_st ?_
     refine k_seq ?_
     refine k_block ?_
     refine k_reg ?_
     refine sp sy ?_
     refine sp sx ?_
     refine sp (.int .i64 ((i : Int) - 1)) ?_
     refine s_lt (t_index bt_ok Tryz.underlying156 (.own 1) ((i : Int) - 1) (i - 1) (by omega) (by (try simp only [lnm]); omega) (by omega)) ?_
     obtain ⟨y45, hy46⟩ : ∃ y, D[(i - 1)]? = some y := ⟨_, List.getElem?_eq_getElem (by (try simp only [lnm]); omega)⟩
     refine s_lt (t_loadE bt_ok (.own 1) hy46) ?_
     refine s_buildSlice (e := 5) [(0, .int .u8 (y45.toNat : Int))] #[.int .u8 (y45.toNat : Int)] (fun g47 => ?_) (hb := by kernel_rfl)
     refine s_append (L := (D.drop i).reverse) 1 bt_ok Tryz.underlying156 (.lit 0 bt_ok [y45]) (by show _ * 1 ≤ _; (try simp only [lnm]); omega) (by (try simp only [lnm]); omega) (fun v48 => ?_)
     refine sp v48 ?_
     refine s_nil ?_
     refine xs_block ?_
     refine xs_then ?_
     refine k_reg ?_
     refine sp (.int .i64 ((i : Int) - 1)) ?_
     refine s_lt (t_sub ((i : Int) - 1) 1 (by (try simp only [lnm]); omega)) ?_
     refine sp (.int .i64 (((i : Int) - 1) - 1)) ?_
     refine s_nil ?_
     rw [show (i : Int) - 1 - 1 = ((i - 1 : Nat) : Int) - 1 by omega]
     exact xs_round (v48, i - 1) (by show i - 1 < i; omega) (by show i - 1 ≤ D.length; omega) (sub_of rfl ⟨⟨rfl, rfl⟩, ⟨⟨rfl, rfl⟩, ⟨⟨rfl, rfl⟩, trivial⟩⟩⟩) (fun _ h => by show Holds _ [own _ _ (D.drop (i - 1)).reverse, _] _; rw [drop_rev (by omega) (by first | exact hy46 | (rw [← hy46]; congr 1; omega))]; exact h.re [1, 1] [2])
    ·
     have p49 := of_decide_eq_false c43
     refine k_exit ?_
     refine xs_exit ?_
     refine xs_exit ?_
     refine xs_here ?_
     refine xs_then ?_
     refine k_sr ?_
     refine sp sy ?_
     refine s_lt (t_bytes bt_ok Tryz.underlying156 Tryz.underlying5 Tryz.underlying9 (.own 0)) ?_
     refine sp (.string ⟨((D.drop i).reverse).toArray⟩) ?_
     refine sp (.int .i64 0) ?_
     refine s_nt ?_
     refine k_ret ?_
     have hi0 : i = 0 := by omega
     have he : itoa n = (D.drop i).reverse := by
      rw [hi0, List.drop_zero, itoa]
      first
      | (rw [if_pos (by omega), ← hU2, hfin, hD]; simp)
      | rw [if_neg (by omega), show n.toNat = U by omega, hfin, hD]
     exact xs_fin [.string ⟨((D.drop i).reverse).toArray⟩, .int .i64 0] [] (SI.tmp 4 (SI.tmp 5 SI.nil)) (fun _ h => h.re [] [0, 0]) ⟨by rw [he]; rfl, rfl⟩
theorem decimal_s {Z : Zone} (n : Int) (h0 : -9223372036854775808 ≤ n) (h1 : n ≤ 9223372036854775807) : SF Tryz.prog 93 #[.int .i64 n] Z [] fun v Bs => v = .string (itoaB n) ∧ Bs = [] := by
 refine sf_enter Tryz.func93 11 [(0, .int .i64 n)] (fun w0 => ?_)
 refine k_sr ?_
 refine sp (.string ByteArray.empty) ?_
 refine s_nr ?_
 refine sp (.int .i64 n) ?_
 refine s_vcall (fun _ h => base_s n (by omega) (by omega)) ?_
 rintro _ rfl
 refine sp (.tuple #[.string ⟨(itoa n).toArray⟩, .int .i64 0]) ?_
 refine sp (.string ⟨(itoa n).toArray⟩) ?_
 refine sp (.int .i64 0) ?_
 refine sp (.string ⟨(itoa n).toArray⟩) ?_
 refine sp (.int .i64 0) ?_
 refine s_nr ?_
 refine sp (.string ⟨(itoa n).toArray⟩) ?_
 refine sp (.string ⟨(itoa n).toArray⟩) ?_
 refine s_nt ?_
 refine k_ret ?_
 exact xs_fin [.string ⟨(itoa n).toArray⟩] [] (SI.tmp 2 SI.nil) (fun _ h => h.re [] []) ⟨rfl, rfl⟩
def numT (p q : Int) : ByteArray := if validN p q then (if q = 1 then itoaB p else itoaB p ++ ⟨#[47]⟩ ++ itoaB q) else ⟨#[110, 97, 110]⟩
theorem validN_b {p q : Int} (h : validN p q = true) : 1 ≤ q ∧ q ≤ 2147483647 ∧ -2147483647 ≤ p ∧ p ≤ 2147483647 := by
  simp only [validN, Bool.and_eq_true, decide_eq_true_eq] at h; exact ⟨h.1, h.2.1, h.2.2.1, h.2.2.2.1⟩
theorem rntext_s {Z : Zone} (p q : Int) : SF Tryz.prog 92 #[.agg #[.int .i64 p, .int .i64 q]] Z [] fun v Bs => v = .string (numT p q) ∧ Bs = [] := by
 refine sf_enter Tryz.func92 20 [(0, .agg #[.int .i64 p, .int .i64 q])] (fun w0 => ?_)
 refine k_sr ?_
 refine s_box #[.int .i64 p, .int .i64 q] (fun g1 => ?_)
 refine sp (.string ByteArray.empty) ?_
 refine s_nt ?_
 refine k_seq ?_
 refine k_sr ?_
 refine s_lt (t_loadA 0 #[.int .i64 p, .int .i64 q]) ?_
 refine s_vcall (fun _ h => rvnum_s p q) ?_
 rintro _ rfl
 refine sp (.bool (!(validN p q))) ?_
 refine s_nt ?_
 refine k_cond (!(validN p q)) (fun c2 => ?_) (fun c2 => ?_)
 ·
  have c3 := not_t c2
  refine k_sr ?_
  refine sp (.string ⟨#[110, 97, 110]⟩) ?_
  refine s_nt ?_
  refine k_ret ?_
  refine xs_ret ?_
  refine xs_fin [.string ⟨#[110, 97, 110]⟩] [] (SI.tmp 2 SI.nil) (fun _ h => h.re [] [0]) ⟨?_, rfl⟩
  first | (rw [numT, if_pos c3, if_pos c3]; rfl) | (rw [numT, if_pos c3, if_neg c3]; rfl) | (rw [numT, if_neg (by simp [c3])]; rfl)
 ·
  have c4 := not_f c2
  refine k_st ?_
  refine k_seq ?_
  refine k_seq ?_
  have hb := validN_b (p := p) (q := q) (by first | exact c4 | simpa using c4)
  refine k_reg ?_
  refine sp (pB g1 1) ?_
  refine s_lt (t_load 0 (.int .i64 q)) ?_
  refine s_lt t_cmp ?_
  refine s_nt ?_
  refine k_cond (decide (q = 1)) (fun c5 => ?_) (fun c5 => ?_)
  ·
   have p6 := of_decide_eq_true c5
   refine k_sr ?_
   refine sp (pB g1 0) ?_
   refine s_lt (t_load 0 (.int .i64 p)) ?_
   have z7 := itoaB_size (n := p) (by omega) (by omega)
   refine s_vcall (fun _ h => decimal_s p (by omega) (by omega)) ?_
   rintro _ rfl
   refine sp (.string (itoaB p)) ?_
   refine s_nt ?_
   refine k_ret ?_
   refine xs_ret ?_
   refine xs_fin [.string (itoaB p)] [] (SI.tmp 2 SI.nil) (fun _ h => h.re [] [0]) ⟨?_, rfl⟩
   first | (rw [numT, if_pos c4, if_pos c4]; rfl) | (rw [numT, if_pos c4, if_neg c4]; rfl) | (rw [numT, if_neg (by simp [c4])]; rfl) | (rw [numT, if_pos c4, if_pos p6]; rfl) | (rw [numT, if_pos c4, if_neg p6]; rfl) | (rw [numT, if_neg (by simp [c4])]; rfl) | (rw [numT, if_pos p6, if_pos c4]; rfl) | (rw [numT, if_pos p6, if_neg c4]; rfl) | (rw [numT, if_neg (by simp [p6])]; rfl) | (rw [numT, if_pos p6, if_pos p6]; rfl) | (rw [numT, if_pos p6, if_neg p6]; rfl) | (rw [numT, if_neg (by simp [p6])]; rfl)
  ·
   have p8 := of_decide_eq_false c5
   refine k_st ?_
   refine k_seq ?_
   refine k_held [blkA g1 #[.int .i64 p, .int .i64 q] 24] ?_
   refine hp_ 0 [0] (pB g1 0) ?_
   refine h_l 1 rfl [0] (fun _ => (t_load 0 (.int .i64 p))) ?_
   refine hp_ 4 [0] (pB g1 1) ?_
   refine h_l 5 rfl [0] (fun _ => (t_load 0 (.int .i64 q))) ?_
   refine h_stepS 2 ?_
   have z9 := itoaB_size (n := p) (by omega) (by omega)
   refine s_vcall (fun _ h => decimal_s p (by omega) (by omega)) ?_
   rintro _ rfl
   refine s_nil (xs_held [0] ?_)
   refine h_l 3 rfl [0] (fun _ => (t_cat (itoaB p) ⟨#[47]⟩ (by simp only [ByteArray.size_append, sz_mk, List.length_cons, List.length_nil]; omega))) ?_
   refine h_stepS 6 ?_
   have z10 := itoaB_size (n := q) (by omega) (by omega)
   refine s_vcall (fun _ h => decimal_s q (by omega) (by omega)) ?_
   rintro _ rfl
   refine s_nil (xs_held [0] ?_)
   refine h_l 7 rfl [0] (fun _ => (t_cat ((itoaB p) ++ ⟨#[47]⟩) (itoaB q) (by simp only [ByteArray.size_append, sz_mk, List.length_cons, List.length_nil]; omega))) ?_
   refine hp_ 8 [0] (.string (((itoaB p) ++ ⟨#[47]⟩) ++ (itoaB q))) ?_
   refine h_doneS ?_
   refine xs_then ?_
   refine k_ret ?_
   refine xs_fin [.string (((itoaB p) ++ ⟨#[47]⟩) ++ (itoaB q))] [] (SI.tmp 2 SI.nil) (fun _ h => h.re [] [0]) ⟨?_, rfl⟩
   first | (rw [numT, if_pos c4, if_pos c4]; rfl) | (rw [numT, if_pos c4, if_neg c4]; rfl) | (rw [numT, if_neg (by simp [c4])]; rfl) | (rw [numT, if_pos c4, if_pos p8]; rfl) | (rw [numT, if_pos c4, if_neg p8]; rfl) | (rw [numT, if_neg (by simp [c4])]; rfl) | (rw [numT, if_pos p8, if_pos c4]; rfl) | (rw [numT, if_pos p8, if_neg c4]; rfl) | (rw [numT, if_neg (by simp [p8])]; rfl) | (rw [numT, if_pos p8, if_pos p8]; rfl) | (rw [numT, if_pos p8, if_neg p8]; rfl) | (rw [numT, if_neg (by simp [p8])]; rfl)
theorem ntext_s {Z : Zone} (ht : KnTab Z) (p q : Int) : SF Tryz.prog 87 #[.agg #[.int .i64 p, .int .i64 q]] Z [] fun v Bs => v = .string (numT p q) ∧ Bs = [] := by
 refine sf_enter Tryz.func87 20 [(0, .agg #[.int .i64 p, .int .i64 q])] (fun w0 => ?_)
 refine k_sr ?_
 refine s_box #[.int .i64 p, .int .i64 q] (fun g1 => ?_)
 refine sp (.string ByteArray.empty) ?_
 refine s_nt ?_
 refine k_seq ?_
 refine k_sr ?_
 refine s_lt (t_loadA 0 #[.int .i64 p, .int .i64 q]) ?_
 refine s_vcall (fun _ h => vnum_s p q) ?_
 rintro _ rfl
 refine sp (.bool (!(validN p q))) ?_
 refine s_nt ?_
 refine k_cond (!(validN p q)) (fun c2 => ?_) (fun c2 => ?_)
 ·
  have c3 := not_t c2
  refine k_sr ?_
  refine sp (.string ⟨#[110, 97, 110]⟩) ?_
  refine s_nt ?_
  refine k_ret ?_
  refine xs_ret ?_
  refine xs_fin [.string ⟨#[110, 97, 110]⟩] [] (SI.tmp 2 SI.nil) (fun _ h => h.re [] [0]) ⟨?_, rfl⟩
  first | (rw [numT, if_pos c3, if_pos c3]; rfl) | (rw [numT, if_pos c3, if_neg c3]; rfl) | (rw [numT, if_neg (by simp [c3])]; rfl)
 ·
  have c4 := not_f c2
  refine k_st ?_
  refine k_seq ?_
  refine k_seq ?_
  have hb := validN_b (p := p) (q := q) (by first | exact c4 | simpa using c4)
  refine k_reg ?_
  refine sp (pB g1 1) ?_
  refine s_lt (t_load 0 (.int .i64 q)) ?_
  refine s_lt t_cmp ?_
  refine s_nt ?_
  refine k_cond (decide (q = 1)) (fun c5 => ?_) (fun c5 => ?_)
  ·
   have p6 := of_decide_eq_true c5
   refine k_sr ?_
   refine sp (pB g1 0) ?_
   refine s_lt (t_load 0 (.int .i64 p)) ?_
   have z7 := itoaB_size (n := p) (by omega) (by omega)
   refine s_vcall (fun _ h => itoa_s (ht.at h) p (by omega) (by omega)) ?_
   rintro _ rfl
   refine sp (.string (itoaB p)) ?_
   refine s_nt ?_
   refine k_ret ?_
   refine xs_ret ?_
   refine xs_fin [.string (itoaB p)] [] (SI.tmp 2 SI.nil) (fun _ h => h.re [] [0]) ⟨?_, rfl⟩
   first | (rw [numT, if_pos c4, if_pos c4]; rfl) | (rw [numT, if_pos c4, if_neg c4]; rfl) | (rw [numT, if_neg (by simp [c4])]; rfl) | (rw [numT, if_pos c4, if_pos p6]; rfl) | (rw [numT, if_pos c4, if_neg p6]; rfl) | (rw [numT, if_neg (by simp [c4])]; rfl) | (rw [numT, if_pos p6, if_pos c4]; rfl) | (rw [numT, if_pos p6, if_neg c4]; rfl) | (rw [numT, if_neg (by simp [p6])]; rfl) | (rw [numT, if_pos p6, if_pos p6]; rfl) | (rw [numT, if_pos p6, if_neg p6]; rfl) | (rw [numT, if_neg (by simp [p6])]; rfl)
  ·
   have p8 := of_decide_eq_false c5
   refine k_st ?_
   refine k_seq ?_
   refine k_held [blkA g1 #[.int .i64 p, .int .i64 q] 24] ?_
   refine hp_ 0 [0] (pB g1 0) ?_
   refine h_l 1 rfl [0] (fun _ => (t_load 0 (.int .i64 p))) ?_
   refine hp_ 4 [0] (pB g1 1) ?_
   refine h_l 5 rfl [0] (fun _ => (t_load 0 (.int .i64 q))) ?_
   refine h_stepS 2 ?_
   have z9 := itoaB_size (n := p) (by omega) (by omega)
   refine s_vcall (fun _ h => itoa_s (ht.at h) p (by omega) (by omega)) ?_
   rintro _ rfl
   refine s_nil (xs_held [0] ?_)
   refine h_l 3 rfl [0] (fun _ => (t_cat (itoaB p) ⟨#[47]⟩ (by simp only [ByteArray.size_append, sz_mk, List.length_cons, List.length_nil]; omega))) ?_
   refine h_stepS 6 ?_
   have z10 := itoaB_size (n := q) (by omega) (by omega)
   refine s_vcall (fun _ h => itoa_s (ht.at h) q (by omega) (by omega)) ?_
   rintro _ rfl
   refine s_nil (xs_held [0] ?_)
   refine h_l 7 rfl [0] (fun _ => (t_cat ((itoaB p) ++ ⟨#[47]⟩) (itoaB q) (by simp only [ByteArray.size_append, sz_mk, List.length_cons, List.length_nil]; omega))) ?_
   refine hp_ 8 [0] (.string (((itoaB p) ++ ⟨#[47]⟩) ++ (itoaB q))) ?_
   refine h_doneS ?_
   refine xs_then ?_
   refine k_ret ?_
   refine xs_fin [.string (((itoaB p) ++ ⟨#[47]⟩) ++ (itoaB q))] [] (SI.tmp 2 SI.nil) (fun _ h => h.re [] [0]) ⟨?_, rfl⟩
   first | (rw [numT, if_pos c4, if_pos c4]; rfl) | (rw [numT, if_pos c4, if_neg c4]; rfl) | (rw [numT, if_neg (by simp [c4])]; rfl) | (rw [numT, if_pos c4, if_pos p8]; rfl) | (rw [numT, if_pos c4, if_neg p8]; rfl) | (rw [numT, if_neg (by simp [c4])]; rfl) | (rw [numT, if_pos p8, if_pos c4]; rfl) | (rw [numT, if_pos p8, if_neg c4]; rfl) | (rw [numT, if_neg (by simp [p8])]; rfl) | (rw [numT, if_pos p8, if_pos p8]; rfl) | (rw [numT, if_pos p8, if_neg p8]; rfl) | (rw [numT, if_neg (by simp [p8])]; rfl)
def textT (v : Vl) : ByteArray :=
  if v.kind = 0 then ⟨#[110, 105, 108]⟩ else if v.kind = 1 then (if v.ref = 0 then ⟨#[102, 97, 108, 115, 101]⟩ else ⟨#[116, 114, 117, 101]⟩) else if v.kind = 2 then numT v.p v.q else if v.kind = 3 then v.str else if v.kind = 6 then ⟨#[98, 117, 105, 108, 116, 105, 110, 58, 32]⟩ ++ v.str else
  if v.kind = 4 ∨ v.kind = 5 ∨ v.kind = 7 ∨ v.kind = 8 then typeB v.kind ++ ⟨#[58, 32]⟩ ++ itoaB v.ref else ByteArray.empty
theorem text_s {Z : Zone} (ht : KnTab Z) (v : Vl) (h0 : -9223372036854775808 ≤ v.ref) (h1 : v.ref ≤ 9223372036854775807) (hs : (v.str.size : Int) ≤ 4611686018427387904) : SF Tryz.prog 35 #[v.v] Z [] fun r Bs => r = .string (textT v) ∧ Bs = [] := by
 have hts := typeB_size v.kind
 refine sf_enter Tryz.func35 38 [(0, .agg #[.int .i64 v.kind, .int .i64 v.p, .int .i64 v.q, .string v.str, .int .i64 v.ref])] (fun w0 => ?_)
 refine k_sr ?_
 refine s_box #[.int .i64 v.kind, .int .i64 v.p, .int .i64 v.q, .string v.str, .int .i64 v.ref] (fun g1 => ?_)
 refine sp (.string ByteArray.empty) ?_
 refine s_nt ?_
 refine k_seq ?_
 refine k_sr ?_
 refine sp (pB g1 0) ?_
 refine s_lt (t_load 0 (.int .i64 v.kind)) ?_
 refine s_nt ?_
 refine k_block ?_
 refine k_sr ?_
 refine s_lt t_cmp ?_
 refine sp (.bool (decide (v.kind = 0))) ?_
 refine s_nt ?_
 refine k_cond (decide (v.kind = 0)) (fun c2 => ?_) (fun c2 => ?_)
 ·
  have p3 := of_decide_eq_true c2
  refine k_sr ?_
  refine sp (.string ⟨#[110, 105, 108]⟩) ?_
  refine s_nt ?_
  refine k_ret ?_
  refine xs_retBlock ?_
  refine xs_ret ?_
  refine xs_fin [.string ⟨#[110, 105, 108]⟩] [] (SI.tmp 2 SI.nil) (fun _ h => h.re [] [0]) ⟨congrArg Value.string ?_, rfl⟩
  first | (simp [textT, c2, p3]; done) | (by_cases e0 : v.kind = 0 <;> simp_all [textT, typeB]; done)
 ·
  have p4 := of_decide_eq_false c2
  refine k_sr ?_
  refine s_lt t_cmp ?_
  refine sp (.bool (decide (v.kind = 1))) ?_
  refine s_nt ?_
  refine k_cond (decide (v.kind = 1)) (fun c5 => ?_) (fun c5 => ?_)
  ·
   have p6 := of_decide_eq_true c5
   refine k_seq ?_
   refine k_sr ?_
   refine sp (pB g1 4) ?_
   refine s_lt (t_load 0 (.int .i64 v.ref)) ?_
   refine s_lt t_cmp ?_
   refine s_nt ?_
   refine k_cond (decide (v.ref = 0)) (fun c7 => ?_) (fun c7 => ?_)
   ·
    have p8 := of_decide_eq_true c7
    refine k_sr ?_
    refine sp (.string ⟨#[102, 97, 108, 115, 101]⟩) ?_
    refine s_nt ?_
    refine k_ret ?_
    refine xs_ret ?_
    refine xs_retBlock ?_
    refine xs_ret ?_
    refine xs_fin [.string ⟨#[102, 97, 108, 115, 101]⟩] [] (SI.tmp 2 SI.nil) (fun _ h => h.re [] [0]) ⟨congrArg Value.string ?_, rfl⟩
    first | (simp [textT, c2, c5, c7, p4, p6, p8]; done) | (by_cases e0 : v.kind = 0 <;> simp_all [textT, typeB]; done)
   ·
    have p9 := of_decide_eq_false c7
    refine k_st ?_
    refine k_sr ?_
    refine sp (.string ⟨#[116, 114, 117, 101]⟩) ?_
    refine s_nt ?_
    refine k_ret ?_
    refine xs_retBlock ?_
    refine xs_ret ?_
    refine xs_fin [.string ⟨#[116, 114, 117, 101]⟩] [] (SI.tmp 2 SI.nil) (fun _ h => h.re [] [0]) ⟨congrArg Value.string ?_, rfl⟩
    first | (simp [textT, c2, c5, c7, p4, p6, p9]; done) | (by_cases e0 : v.kind = 0 <;> simp_all [textT, typeB]; done)
  ·
   have p10 := of_decide_eq_false c5
   refine k_sr ?_
   refine s_lt t_cmp ?_
   refine sp (.bool (decide (v.kind = 2))) ?_
   refine s_nt ?_
   refine k_cond (decide (v.kind = 2)) (fun c11 => ?_) (fun c11 => ?_)
   ·
    have p12 := of_decide_eq_true c11
    refine k_sr ?_
    refine sp (pB g1 1) ?_
    refine s_lt (t_loadA 0 #[.int .i64 v.p, .int .i64 v.q]) ?_
    refine s_vcall (fun _ h => ntext_s (ht.at h) v.p v.q) ?_
    rintro _ rfl
    refine sp (.string (numT v.p v.q)) ?_
    refine s_nt ?_
    refine k_ret ?_
    refine xs_retBlock ?_
    refine xs_ret ?_
    refine xs_fin [.string (numT v.p v.q)] [] (SI.tmp 2 SI.nil) (fun _ h => h.re [] [0]) ⟨congrArg Value.string ?_, rfl⟩
    first | (simp [textT, c2, c5, c11, p4, p10, p12]; done) | (by_cases e0 : v.kind = 0 <;> simp_all [textT, typeB]; done)
   ·
    have p13 := of_decide_eq_false c11
    refine k_sr ?_
    refine s_lt t_cmp ?_
    refine sp (.bool (decide (v.kind = 3))) ?_
    refine s_nt ?_
    refine k_cond (decide (v.kind = 3)) (fun c14 => ?_) (fun c14 => ?_)
    ·
     have p15 := of_decide_eq_true c14
     refine k_sr ?_
     refine sp (pB g1 3) ?_
     refine s_lt (t_load 0 (.string v.str)) ?_
     refine sp (.string v.str) ?_
     refine s_nt ?_
     refine k_ret ?_
     refine xs_retBlock ?_
     refine xs_ret ?_
     refine xs_fin [.string v.str] [] (SI.tmp 2 SI.nil) (fun _ h => h.re [] [0]) ⟨congrArg Value.string ?_, rfl⟩
     first | (simp [textT, c2, c5, c11, c14, p4, p10, p13, p15]; done) | (by_cases e0 : v.kind = 0 <;> simp_all [textT, typeB]; done)
    ·
     have p16 := of_decide_eq_false c14
     refine k_sr ?_
     refine s_lt t_cmp ?_
     refine sp (.bool (decide (v.kind = 6))) ?_
     refine s_nt ?_
     refine k_cond (decide (v.kind = 6)) (fun c17 => ?_) (fun c17 => ?_)
     ·
      have p18 := of_decide_eq_true c17
      refine k_sr ?_
      refine sp (pB g1 3) ?_
      refine s_lt (t_load 0 (.string v.str)) ?_
      refine s_lt (t_cat ⟨#[98, 117, 105, 108, 116, 105, 110, 58, 32]⟩ v.str (by simp only [ByteArray.size_append, sz_mk, List.length_cons, List.length_nil]; omega)) ?_
      refine sp (.string (⟨#[98, 117, 105, 108, 116, 105, 110, 58, 32]⟩ ++ v.str)) ?_
      refine s_nt ?_
      refine k_ret ?_
      refine xs_retBlock ?_
      refine xs_ret ?_
      refine xs_fin [.string (⟨#[98, 117, 105, 108, 116, 105, 110, 58, 32]⟩ ++ v.str)] [] (SI.tmp 2 SI.nil) (fun _ h => h.re [] [0]) ⟨congrArg Value.string ?_, rfl⟩
      first | (simp [textT, c2, c5, c11, c14, c17, p4, p10, p13, p16, p18]; done) | (by_cases e0 : v.kind = 0 <;> simp_all [textT, typeB]; done)
     ·
      have p19 := of_decide_eq_false c17
      refine k_seq ?_
      refine k_sr ?_
      refine s_lt t_cmp ?_
      refine sp (.bool (decide (v.kind = 4))) ?_
      refine s_nt ?_
      refine k_cond (decide (v.kind = 4)) (fun c20 => ?_) (fun c20 => ?_)
      ·
       have p21 := of_decide_eq_true c20
       refine k_st ?_
       refine k_true (hv := congrArg Value.bool c20) ?_
       refine k_seq ?_
       refine k_held [blkA g1 #[.int .i64 v.kind, .int .i64 v.p, .int .i64 v.q, .string v.str, .int .i64 v.ref] 26] ?_
       refine h_l 0 rfl [0] (fun _ => (t_loadA 0 #[.int .i64 v.kind, .int .i64 v.p, .int .i64 v.q, .string v.str, .int .i64 v.ref])) ?_
       refine hp_ 3 [0] (pB g1 4) ?_
       refine h_l 4 rfl [0] (fun _ => (t_load 0 (.int .i64 v.ref))) ?_
       refine h_stepS 1 ?_
       refine s_vcall (fun _ h => type_s v) ?_
       rintro _ rfl
       refine s_nil (xs_held [0] ?_)
       refine h_l 2 rfl [0] (fun _ => (t_cat (typeB v.kind) ⟨#[58, 32]⟩ (by simp only [ByteArray.size_append, sz_mk, List.length_cons, List.length_nil]; omega))) ?_
       refine h_stepS 5 ?_
       have z22 := itoaB_size (n := v.ref) (by omega) (by omega)
       refine s_vcall (fun _ h => itoa_s (ht.at h) v.ref (by omega) (by omega)) ?_
       rintro _ rfl
       refine s_nil (xs_held [0] ?_)
       refine h_l 6 rfl [0] (fun _ => (t_cat ((typeB v.kind) ++ ⟨#[58, 32]⟩) (itoaB v.ref) (by simp only [ByteArray.size_append, sz_mk, List.length_cons, List.length_nil]; omega))) ?_
       refine hp_ 7 [0] (.string (((typeB v.kind) ++ ⟨#[58, 32]⟩) ++ (itoaB v.ref))) ?_
       refine h_doneS ?_
       refine xs_then ?_
       refine k_ret ?_
       refine xs_retBlock ?_
       refine xs_ret ?_
       refine xs_fin [.string (((typeB v.kind) ++ ⟨#[58, 32]⟩) ++ (itoaB v.ref))] [] (SI.tmp 2 SI.nil) (fun _ h => h.re [] [0]) ⟨congrArg Value.string ?_, rfl⟩
       first | (simp [textT, c2, c5, c11, c14, c17, c20, p4, p10, p13, p16, p19, p21]; done) | (by_cases e0 : v.kind = 0 <;> simp_all [textT, typeB]; done)
      ·
       have p23 := of_decide_eq_false c20
       refine k_sr ?_
       refine s_lt t_cmp ?_
       refine sp (.bool (decide (v.kind = 5))) ?_
       refine s_nt ?_
       refine k_cond (decide (v.kind = 5)) (fun c24 => ?_) (fun c24 => ?_)
       ·
        have p25 := of_decide_eq_true c24
        refine k_st ?_
        refine k_true (hv := congrArg Value.bool c24) ?_
        refine k_seq ?_
        refine k_held [blkA g1 #[.int .i64 v.kind, .int .i64 v.p, .int .i64 v.q, .string v.str, .int .i64 v.ref] 26] ?_
        refine h_l 0 rfl [0] (fun _ => (t_loadA 0 #[.int .i64 v.kind, .int .i64 v.p, .int .i64 v.q, .string v.str, .int .i64 v.ref])) ?_
        refine hp_ 3 [0] (pB g1 4) ?_
        refine h_l 4 rfl [0] (fun _ => (t_load 0 (.int .i64 v.ref))) ?_
        refine h_stepS 1 ?_
        refine s_vcall (fun _ h => type_s v) ?_
        rintro _ rfl
        refine s_nil (xs_held [0] ?_)
        refine h_l 2 rfl [0] (fun _ => (t_cat (typeB v.kind) ⟨#[58, 32]⟩ (by simp only [ByteArray.size_append, sz_mk, List.length_cons, List.length_nil]; omega))) ?_
        refine h_stepS 5 ?_
        have z26 := itoaB_size (n := v.ref) (by omega) (by omega)
        refine s_vcall (fun _ h => itoa_s (ht.at h) v.ref (by omega) (by omega)) ?_
        rintro _ rfl
        refine s_nil (xs_held [0] ?_)
        refine h_l 6 rfl [0] (fun _ => (t_cat ((typeB v.kind) ++ ⟨#[58, 32]⟩) (itoaB v.ref) (by simp only [ByteArray.size_append, sz_mk, List.length_cons, List.length_nil]; omega))) ?_
        refine hp_ 7 [0] (.string (((typeB v.kind) ++ ⟨#[58, 32]⟩) ++ (itoaB v.ref))) ?_
        refine h_doneS ?_
        refine xs_then ?_
        refine k_ret ?_
        refine xs_retBlock ?_
        refine xs_ret ?_
        refine xs_fin [.string (((typeB v.kind) ++ ⟨#[58, 32]⟩) ++ (itoaB v.ref))] [] (SI.tmp 2 SI.nil) (fun _ h => h.re [] [0]) ⟨congrArg Value.string ?_, rfl⟩
        first | (simp [textT, c2, c5, c11, c14, c17, c20, c24, p4, p10, p13, p16, p19, p23, p25]; done) | (by_cases e0 : v.kind = 0 <;> simp_all [textT, typeB]; done)
       ·
        have p27 := of_decide_eq_false c24
        refine k_sr ?_
        refine s_lt t_cmp ?_
        refine sp (.bool (decide (v.kind = 7))) ?_
        refine s_nt ?_
        refine k_cond (decide (v.kind = 7)) (fun c28 => ?_) (fun c28 => ?_)
        ·
         have p29 := of_decide_eq_true c28
         refine k_st ?_
         refine k_true (hv := congrArg Value.bool c28) ?_
         refine k_seq ?_
         refine k_held [blkA g1 #[.int .i64 v.kind, .int .i64 v.p, .int .i64 v.q, .string v.str, .int .i64 v.ref] 26] ?_
         refine h_l 0 rfl [0] (fun _ => (t_loadA 0 #[.int .i64 v.kind, .int .i64 v.p, .int .i64 v.q, .string v.str, .int .i64 v.ref])) ?_
         refine hp_ 3 [0] (pB g1 4) ?_
         refine h_l 4 rfl [0] (fun _ => (t_load 0 (.int .i64 v.ref))) ?_
         refine h_stepS 1 ?_
         refine s_vcall (fun _ h => type_s v) ?_
         rintro _ rfl
         refine s_nil (xs_held [0] ?_)
         refine h_l 2 rfl [0] (fun _ => (t_cat (typeB v.kind) ⟨#[58, 32]⟩ (by simp only [ByteArray.size_append, sz_mk, List.length_cons, List.length_nil]; omega))) ?_
         refine h_stepS 5 ?_
         have z30 := itoaB_size (n := v.ref) (by omega) (by omega)
         refine s_vcall (fun _ h => itoa_s (ht.at h) v.ref (by omega) (by omega)) ?_
         rintro _ rfl
         refine s_nil (xs_held [0] ?_)
         refine h_l 6 rfl [0] (fun _ => (t_cat ((typeB v.kind) ++ ⟨#[58, 32]⟩) (itoaB v.ref) (by simp only [ByteArray.size_append, sz_mk, List.length_cons, List.length_nil]; omega))) ?_
         refine hp_ 7 [0] (.string (((typeB v.kind) ++ ⟨#[58, 32]⟩) ++ (itoaB v.ref))) ?_
         refine h_doneS ?_
         refine xs_then ?_
         refine k_ret ?_
         refine xs_retBlock ?_
         refine xs_ret ?_
         refine xs_fin [.string (((typeB v.kind) ++ ⟨#[58, 32]⟩) ++ (itoaB v.ref))] [] (SI.tmp 2 SI.nil) (fun _ h => h.re [] [0]) ⟨congrArg Value.string ?_, rfl⟩
         first | (simp [textT, c2, c5, c11, c14, c17, c20, c24, c28, p4, p10, p13, p16, p19, p23, p27, p29]; done) | (by_cases e0 : v.kind = 0 <;> simp_all [textT, typeB]; done)
        ·
         have p31 := of_decide_eq_false c28
         refine k_reg ?_
         refine s_lt t_cmp ?_
         refine sp (.bool (decide (v.kind = 8))) ?_
         refine s_nt ?_
         refine k_cond (decide (v.kind = 8)) (fun c32 => ?_) (fun c32 => ?_)
         ·
          have p33 := of_decide_eq_true c32
          refine k_seq ?_
          refine k_held [blkA g1 #[.int .i64 v.kind, .int .i64 v.p, .int .i64 v.q, .string v.str, .int .i64 v.ref] 26] ?_
          refine h_l 0 rfl [0] (fun _ => (t_loadA 0 #[.int .i64 v.kind, .int .i64 v.p, .int .i64 v.q, .string v.str, .int .i64 v.ref])) ?_
          refine hp_ 3 [0] (pB g1 4) ?_
          refine h_l 4 rfl [0] (fun _ => (t_load 0 (.int .i64 v.ref))) ?_
          refine h_stepS 1 ?_
          refine s_vcall (fun _ h => type_s v) ?_
          rintro _ rfl
          refine s_nil (xs_held [0] ?_)
          refine h_l 2 rfl [0] (fun _ => (t_cat (typeB v.kind) ⟨#[58, 32]⟩ (by simp only [ByteArray.size_append, sz_mk, List.length_cons, List.length_nil]; omega))) ?_
          refine h_stepS 5 ?_
          have z34 := itoaB_size (n := v.ref) (by omega) (by omega)
          refine s_vcall (fun _ h => itoa_s (ht.at h) v.ref (by omega) (by omega)) ?_
          rintro _ rfl
          refine s_nil (xs_held [0] ?_)
          refine h_l 6 rfl [0] (fun _ => (t_cat ((typeB v.kind) ++ ⟨#[58, 32]⟩) (itoaB v.ref) (by simp only [ByteArray.size_append, sz_mk, List.length_cons, List.length_nil]; omega))) ?_
          refine hp_ 7 [0] (.string (((typeB v.kind) ++ ⟨#[58, 32]⟩) ++ (itoaB v.ref))) ?_
          refine h_doneS ?_
          refine xs_then ?_
          refine k_ret ?_
          refine xs_retBlock ?_
          refine xs_ret ?_
          refine xs_fin [.string (((typeB v.kind) ++ ⟨#[58, 32]⟩) ++ (itoaB v.ref))] [] (SI.tmp 2 SI.nil) (fun _ h => h.re [] [0]) ⟨congrArg Value.string ?_, rfl⟩
          first | (simp [textT, c2, c5, c11, c14, c17, c20, c24, c28, c32, p4, p10, p13, p16, p19, p23, p27, p31, p33]; done) | (by_cases e0 : v.kind = 0 <;> simp_all [textT, typeB]; done)
         ·
          have p35 := of_decide_eq_false c32
          refine k_skip ?_
          refine xs_block ?_
          refine xs_then ?_
          refine k_sr ?_
          refine sp (.string ByteArray.empty) ?_
          refine s_nt ?_
          refine k_ret ?_
          refine xs_fin [.string ByteArray.empty] [] (SI.tmp 2 SI.nil) (fun _ h => h.re [] [0]) ⟨congrArg Value.string ?_, rfl⟩
          first | (simp [textT, c2, c5, c11, c14, c17, c20, c24, c28, c32, p4, p10, p13, p16, p19, p23, p27, p31, p35]; done) | (by_cases e0 : v.kind = 0 <;> simp_all [textT, typeB]; done)
theorem rvtext_s {Z : Zone} (v : Vl) (h0 : -9223372036854775808 ≤ v.ref) (h1 : v.ref ≤ 9223372036854775807) (hs : (v.str.size : Int) ≤ 4611686018427387904) : SF Tryz.prog 45 #[v.v] Z [] fun r Bs => r = .string (textT v) ∧ Bs = [] := by
 have hts := typeB_size v.kind
 refine sf_enter Tryz.func45 38 [(0, .agg #[.int .i64 v.kind, .int .i64 v.p, .int .i64 v.q, .string v.str, .int .i64 v.ref])] (fun w0 => ?_)
 refine k_sr ?_
 refine s_box #[.int .i64 v.kind, .int .i64 v.p, .int .i64 v.q, .string v.str, .int .i64 v.ref] (fun g1 => ?_)
 refine sp (.string ByteArray.empty) ?_
 refine s_nt ?_
 refine k_seq ?_
 refine k_sr ?_
 refine sp (pB g1 0) ?_
 refine s_lt (t_load 0 (.int .i64 v.kind)) ?_
 refine s_nt ?_
 refine k_block ?_
 refine k_sr ?_
 refine s_lt t_cmp ?_
 refine sp (.bool (decide (v.kind = 1))) ?_
 refine s_nt ?_
 refine k_cond (decide (v.kind = 1)) (fun c2 => ?_) (fun c2 => ?_)
 ·
  have p3 := of_decide_eq_true c2
  refine k_seq ?_
  refine k_sr ?_
  refine sp (pB g1 4) ?_
  refine s_lt (t_load 0 (.int .i64 v.ref)) ?_
  refine s_lt t_cmp ?_
  refine s_nt ?_
  refine k_cond (decide (v.ref = 0)) (fun c4 => ?_) (fun c4 => ?_)
  ·
   have p5 := of_decide_eq_true c4
   refine k_sr ?_
   refine sp (.string ⟨#[102, 97, 108, 115, 101]⟩) ?_
   refine s_nt ?_
   refine k_ret ?_
   refine xs_ret ?_
   refine xs_retBlock ?_
   refine xs_ret ?_
   refine xs_fin [.string ⟨#[102, 97, 108, 115, 101]⟩] [] (SI.tmp 2 SI.nil) (fun _ h => h.re [] [0]) ⟨congrArg Value.string ?_, rfl⟩
   first | (simp [textT, c2, c4, p3, p5]; done) | (by_cases e0 : v.kind = 0 <;> simp_all [textT, typeB]; done)
  ·
   have p6 := of_decide_eq_false c4
   refine k_st ?_
   refine k_sr ?_
   refine sp (.string ⟨#[116, 114, 117, 101]⟩) ?_
   refine s_nt ?_
   refine k_ret ?_
   refine xs_retBlock ?_
   refine xs_ret ?_
   refine xs_fin [.string ⟨#[116, 114, 117, 101]⟩] [] (SI.tmp 2 SI.nil) (fun _ h => h.re [] [0]) ⟨congrArg Value.string ?_, rfl⟩
   first | (simp [textT, c2, c4, p3, p6]; done) | (by_cases e0 : v.kind = 0 <;> simp_all [textT, typeB]; done)
 ·
  have p7 := of_decide_eq_false c2
  refine k_sr ?_
  refine s_lt t_cmp ?_
  refine sp (.bool (decide (v.kind = 2))) ?_
  refine s_nt ?_
  refine k_cond (decide (v.kind = 2)) (fun c8 => ?_) (fun c8 => ?_)
  ·
   have p9 := of_decide_eq_true c8
   refine k_sr ?_
   refine sp (pB g1 1) ?_
   refine s_lt (t_loadA 0 #[.int .i64 v.p, .int .i64 v.q]) ?_
   refine s_vcall (fun _ h => rntext_s v.p v.q) ?_
   rintro _ rfl
   refine sp (.string (numT v.p v.q)) ?_
   refine s_nt ?_
   refine k_ret ?_
   refine xs_retBlock ?_
   refine xs_ret ?_
   refine xs_fin [.string (numT v.p v.q)] [] (SI.tmp 2 SI.nil) (fun _ h => h.re [] [0]) ⟨congrArg Value.string ?_, rfl⟩
   first | (simp [textT, c2, c8, p7, p9]; done) | (by_cases e0 : v.kind = 0 <;> simp_all [textT, typeB]; done)
  ·
   have p10 := of_decide_eq_false c8
   refine k_sr ?_
   refine s_lt t_cmp ?_
   refine sp (.bool (decide (v.kind = 3))) ?_
   refine s_nt ?_
   refine k_cond (decide (v.kind = 3)) (fun c11 => ?_) (fun c11 => ?_)
   ·
    have p12 := of_decide_eq_true c11
    refine k_sr ?_
    refine sp (pB g1 3) ?_
    refine s_lt (t_load 0 (.string v.str)) ?_
    refine sp (.string v.str) ?_
    refine s_nt ?_
    refine k_ret ?_
    refine xs_retBlock ?_
    refine xs_ret ?_
    refine xs_fin [.string v.str] [] (SI.tmp 2 SI.nil) (fun _ h => h.re [] [0]) ⟨congrArg Value.string ?_, rfl⟩
    first | (simp [textT, c2, c8, c11, p7, p10, p12]; done) | (by_cases e0 : v.kind = 0 <;> simp_all [textT, typeB]; done)
   ·
    have p13 := of_decide_eq_false c11
    refine k_sr ?_
    refine s_lt t_cmp ?_
    refine sp (.bool (decide (v.kind = 6))) ?_
    refine s_nt ?_
    refine k_cond (decide (v.kind = 6)) (fun c14 => ?_) (fun c14 => ?_)
    ·
     have p15 := of_decide_eq_true c14
     refine k_sr ?_
     refine sp (pB g1 3) ?_
     refine s_lt (t_load 0 (.string v.str)) ?_
     refine s_lt (t_cat ⟨#[98, 117, 105, 108, 116, 105, 110, 58, 32]⟩ v.str (by simp only [ByteArray.size_append, sz_mk, List.length_cons, List.length_nil]; omega)) ?_
     refine sp (.string (⟨#[98, 117, 105, 108, 116, 105, 110, 58, 32]⟩ ++ v.str)) ?_
     refine s_nt ?_
     refine k_ret ?_
     refine xs_retBlock ?_
     refine xs_ret ?_
     refine xs_fin [.string (⟨#[98, 117, 105, 108, 116, 105, 110, 58, 32]⟩ ++ v.str)] [] (SI.tmp 2 SI.nil) (fun _ h => h.re [] [0]) ⟨congrArg Value.string ?_, rfl⟩
     first | (simp [textT, c2, c8, c11, c14, p7, p10, p13, p15]; done) | (by_cases e0 : v.kind = 0 <;> simp_all [textT, typeB]; done)
    ·
     have p16 := of_decide_eq_false c14
     refine k_seq ?_
     refine k_sr ?_
     refine s_lt t_cmp ?_
     refine sp (.bool (decide (v.kind = 4))) ?_
     refine s_nt ?_
     refine k_cond (decide (v.kind = 4)) (fun c17 => ?_) (fun c17 => ?_)
     ·
      have p18 := of_decide_eq_true c17
      refine k_st ?_
      refine k_true (hv := congrArg Value.bool c17) ?_
      refine k_seq ?_
      refine k_held [blkA g1 #[.int .i64 v.kind, .int .i64 v.p, .int .i64 v.q, .string v.str, .int .i64 v.ref] 26] ?_
      refine h_l 0 rfl [0] (fun _ => (t_loadA 0 #[.int .i64 v.kind, .int .i64 v.p, .int .i64 v.q, .string v.str, .int .i64 v.ref])) ?_
      refine hp_ 3 [0] (pB g1 4) ?_
      refine h_l 4 rfl [0] (fun _ => (t_load 0 (.int .i64 v.ref))) ?_
      refine h_stepS 1 ?_
      refine s_vcall (fun _ h => rtype_s v) ?_
      rintro _ rfl
      refine s_nil (xs_held [0] ?_)
      refine h_l 2 rfl [0] (fun _ => (t_cat (typeB v.kind) ⟨#[58, 32]⟩ (by simp only [ByteArray.size_append, sz_mk, List.length_cons, List.length_nil]; omega))) ?_
      refine h_stepS 5 ?_
      have z19 := itoaB_size (n := v.ref) (by omega) (by omega)
      refine s_vcall (fun _ h => decimal_s v.ref (by omega) (by omega)) ?_
      rintro _ rfl
      refine s_nil (xs_held [0] ?_)
      refine h_l 6 rfl [0] (fun _ => (t_cat ((typeB v.kind) ++ ⟨#[58, 32]⟩) (itoaB v.ref) (by simp only [ByteArray.size_append, sz_mk, List.length_cons, List.length_nil]; omega))) ?_
      refine hp_ 7 [0] (.string (((typeB v.kind) ++ ⟨#[58, 32]⟩) ++ (itoaB v.ref))) ?_
      refine h_doneS ?_
      refine xs_then ?_
      refine k_ret ?_
      refine xs_retBlock ?_
      refine xs_ret ?_
      refine xs_fin [.string (((typeB v.kind) ++ ⟨#[58, 32]⟩) ++ (itoaB v.ref))] [] (SI.tmp 2 SI.nil) (fun _ h => h.re [] [0]) ⟨congrArg Value.string ?_, rfl⟩
      first | (simp [textT, c2, c8, c11, c14, c17, p7, p10, p13, p16, p18]; done) | (by_cases e0 : v.kind = 0 <;> simp_all [textT, typeB]; done)
     ·
      have p20 := of_decide_eq_false c17
      refine k_sr ?_
      refine s_lt t_cmp ?_
      refine sp (.bool (decide (v.kind = 5))) ?_
      refine s_nt ?_
      refine k_cond (decide (v.kind = 5)) (fun c21 => ?_) (fun c21 => ?_)
      ·
       have p22 := of_decide_eq_true c21
       refine k_st ?_
       refine k_true (hv := congrArg Value.bool c21) ?_
       refine k_seq ?_
       refine k_held [blkA g1 #[.int .i64 v.kind, .int .i64 v.p, .int .i64 v.q, .string v.str, .int .i64 v.ref] 26] ?_
       refine h_l 0 rfl [0] (fun _ => (t_loadA 0 #[.int .i64 v.kind, .int .i64 v.p, .int .i64 v.q, .string v.str, .int .i64 v.ref])) ?_
       refine hp_ 3 [0] (pB g1 4) ?_
       refine h_l 4 rfl [0] (fun _ => (t_load 0 (.int .i64 v.ref))) ?_
       refine h_stepS 1 ?_
       refine s_vcall (fun _ h => rtype_s v) ?_
       rintro _ rfl
       refine s_nil (xs_held [0] ?_)
       refine h_l 2 rfl [0] (fun _ => (t_cat (typeB v.kind) ⟨#[58, 32]⟩ (by simp only [ByteArray.size_append, sz_mk, List.length_cons, List.length_nil]; omega))) ?_
       refine h_stepS 5 ?_
       have z23 := itoaB_size (n := v.ref) (by omega) (by omega)
       refine s_vcall (fun _ h => decimal_s v.ref (by omega) (by omega)) ?_
       rintro _ rfl
       refine s_nil (xs_held [0] ?_)
       refine h_l 6 rfl [0] (fun _ => (t_cat ((typeB v.kind) ++ ⟨#[58, 32]⟩) (itoaB v.ref) (by simp only [ByteArray.size_append, sz_mk, List.length_cons, List.length_nil]; omega))) ?_
       refine hp_ 7 [0] (.string (((typeB v.kind) ++ ⟨#[58, 32]⟩) ++ (itoaB v.ref))) ?_
       refine h_doneS ?_
       refine xs_then ?_
       refine k_ret ?_
       refine xs_retBlock ?_
       refine xs_ret ?_
       refine xs_fin [.string (((typeB v.kind) ++ ⟨#[58, 32]⟩) ++ (itoaB v.ref))] [] (SI.tmp 2 SI.nil) (fun _ h => h.re [] [0]) ⟨congrArg Value.string ?_, rfl⟩
       first | (simp [textT, c2, c8, c11, c14, c17, c21, p7, p10, p13, p16, p20, p22]; done) | (by_cases e0 : v.kind = 0 <;> simp_all [textT, typeB]; done)
      ·
       have p24 := of_decide_eq_false c21
       refine k_sr ?_
       refine s_lt t_cmp ?_
       refine sp (.bool (decide (v.kind = 7))) ?_
       refine s_nt ?_
       refine k_cond (decide (v.kind = 7)) (fun c25 => ?_) (fun c25 => ?_)
       ·
        have p26 := of_decide_eq_true c25
        refine k_st ?_
        refine k_true (hv := congrArg Value.bool c25) ?_
        refine k_seq ?_
        refine k_held [blkA g1 #[.int .i64 v.kind, .int .i64 v.p, .int .i64 v.q, .string v.str, .int .i64 v.ref] 26] ?_
        refine h_l 0 rfl [0] (fun _ => (t_loadA 0 #[.int .i64 v.kind, .int .i64 v.p, .int .i64 v.q, .string v.str, .int .i64 v.ref])) ?_
        refine hp_ 3 [0] (pB g1 4) ?_
        refine h_l 4 rfl [0] (fun _ => (t_load 0 (.int .i64 v.ref))) ?_
        refine h_stepS 1 ?_
        refine s_vcall (fun _ h => rtype_s v) ?_
        rintro _ rfl
        refine s_nil (xs_held [0] ?_)
        refine h_l 2 rfl [0] (fun _ => (t_cat (typeB v.kind) ⟨#[58, 32]⟩ (by simp only [ByteArray.size_append, sz_mk, List.length_cons, List.length_nil]; omega))) ?_
        refine h_stepS 5 ?_
        have z27 := itoaB_size (n := v.ref) (by omega) (by omega)
        refine s_vcall (fun _ h => decimal_s v.ref (by omega) (by omega)) ?_
        rintro _ rfl
        refine s_nil (xs_held [0] ?_)
        refine h_l 6 rfl [0] (fun _ => (t_cat ((typeB v.kind) ++ ⟨#[58, 32]⟩) (itoaB v.ref) (by simp only [ByteArray.size_append, sz_mk, List.length_cons, List.length_nil]; omega))) ?_
        refine hp_ 7 [0] (.string (((typeB v.kind) ++ ⟨#[58, 32]⟩) ++ (itoaB v.ref))) ?_
        refine h_doneS ?_
        refine xs_then ?_
        refine k_ret ?_
        refine xs_retBlock ?_
        refine xs_ret ?_
        refine xs_fin [.string (((typeB v.kind) ++ ⟨#[58, 32]⟩) ++ (itoaB v.ref))] [] (SI.tmp 2 SI.nil) (fun _ h => h.re [] [0]) ⟨congrArg Value.string ?_, rfl⟩
        first | (simp [textT, c2, c8, c11, c14, c17, c21, c25, p7, p10, p13, p16, p20, p24, p26]; done) | (by_cases e0 : v.kind = 0 <;> simp_all [textT, typeB]; done)
       ·
        have p28 := of_decide_eq_false c25
        refine k_reg ?_
        refine s_lt t_cmp ?_
        refine sp (.bool (decide (v.kind = 8))) ?_
        refine s_nt ?_
        refine k_cond (decide (v.kind = 8)) (fun c29 => ?_) (fun c29 => ?_)
        ·
         have p30 := of_decide_eq_true c29
         refine k_seq ?_
         refine k_held [blkA g1 #[.int .i64 v.kind, .int .i64 v.p, .int .i64 v.q, .string v.str, .int .i64 v.ref] 26] ?_
         refine h_l 0 rfl [0] (fun _ => (t_loadA 0 #[.int .i64 v.kind, .int .i64 v.p, .int .i64 v.q, .string v.str, .int .i64 v.ref])) ?_
         refine hp_ 3 [0] (pB g1 4) ?_
         refine h_l 4 rfl [0] (fun _ => (t_load 0 (.int .i64 v.ref))) ?_
         refine h_stepS 1 ?_
         refine s_vcall (fun _ h => rtype_s v) ?_
         rintro _ rfl
         refine s_nil (xs_held [0] ?_)
         refine h_l 2 rfl [0] (fun _ => (t_cat (typeB v.kind) ⟨#[58, 32]⟩ (by simp only [ByteArray.size_append, sz_mk, List.length_cons, List.length_nil]; omega))) ?_
         refine h_stepS 5 ?_
         have z31 := itoaB_size (n := v.ref) (by omega) (by omega)
         refine s_vcall (fun _ h => decimal_s v.ref (by omega) (by omega)) ?_
         rintro _ rfl
         refine s_nil (xs_held [0] ?_)
         refine h_l 6 rfl [0] (fun _ => (t_cat ((typeB v.kind) ++ ⟨#[58, 32]⟩) (itoaB v.ref) (by simp only [ByteArray.size_append, sz_mk, List.length_cons, List.length_nil]; omega))) ?_
         refine hp_ 7 [0] (.string (((typeB v.kind) ++ ⟨#[58, 32]⟩) ++ (itoaB v.ref))) ?_
         refine h_doneS ?_
         refine xs_then ?_
         refine k_ret ?_
         refine xs_retBlock ?_
         refine xs_ret ?_
         refine xs_fin [.string (((typeB v.kind) ++ ⟨#[58, 32]⟩) ++ (itoaB v.ref))] [] (SI.tmp 2 SI.nil) (fun _ h => h.re [] [0]) ⟨congrArg Value.string ?_, rfl⟩
         first | (simp [textT, c2, c8, c11, c14, c17, c21, c25, c29, p7, p10, p13, p16, p20, p24, p28, p30]; done) | (by_cases e0 : v.kind = 0 <;> simp_all [textT, typeB]; done)
        ·
         have p32 := of_decide_eq_false c29
         refine k_skip ?_
         refine xs_block ?_
         refine xs_then ?_
         refine k_sr ?_
         refine s_lt (t_loadA 0 #[.int .i64 v.kind, .int .i64 v.p, .int .i64 v.q, .string v.str, .int .i64 v.ref]) ?_
         refine s_vcall (fun _ h => rtype_s v) ?_
         rintro _ rfl
         refine sp (.string (typeB v.kind)) ?_
         refine s_nt ?_
         refine k_ret ?_
         refine xs_fin [.string (typeB v.kind)] [] (SI.tmp 2 SI.nil) (fun _ h => h.re [] [0]) ⟨congrArg Value.string ?_, rfl⟩
         first | (simp [textT, c2, c8, c11, c14, c17, c21, c25, c29, p7, p10, p13, p16, p20, p24, p28, p32]; done) | (by_cases e0 : v.kind = 0 <;> simp_all [textT, typeB]; done)
end Go.Proofs.YtplkkhpokodbmaaGreatDoor
end
section
set_option linter.unusedSimpArgs false
set_option linter.unusedVariables false
namespace Go.Proofs.YtplkkhpokodbmaaGreatDoor
section
variable {S : List Slt} {k v : Vl}
theorem live_mem {s : Slt} : s ∈ live S ↔ s ∈ S ∧ s.gone = false := by unfold live; rw [List.mem_filter]; simp
/-- What lives after a key was set. -/
theorem live_oset (h : OInv S) (hk : okKey k = true) (hv : validB v = true) (s : Slt) : s ∈ live (osetL S k v) ↔ (s.key ≠ k ∧ s ∈ live S) ∨ (v.kind ≠ 0 ∧ s = ⟨k, v, false⟩) := by
  have hset : ∀ {i : Nat} {t u : Slt}, S[i]? = some t → t.gone = false → t.key = k → ∀ s, s ∈ S.set i u ∧ s.gone = false ↔ (s.key ≠ k ∧ s ∈ live S) ∨ (s = u ∧ u.gone = false) := by
    intro i t u hi hg htk s
    constructor
    · rintro ⟨h1, h2⟩
      obtain ⟨j, hj⟩ := List.mem_iff_getElem?.1 h1
      by_cases e : i = j
      · subst e
        rw [List.getElem?_set_self (List.getElem?_eq_some_iff.1 hi).1] at hj
        injection hj with e; subst e
        exact .inr ⟨rfl, h2⟩
      · rw [List.getElem?_set_ne e] at hj
        refine .inl ⟨fun hk' => ?_, live_mem.2 ⟨List.mem_of_getElem? hj, h2⟩⟩
        have a := h.last hj h2
        have b := h.last hi hg
        rw [hk'] at a; rw [htk] at b; rw [a] at b; injection b with b; exact e b.symm
    · rintro (⟨h1, h2⟩ | ⟨rfl, h2⟩)
      · obtain ⟨h3, h4⟩ := live_mem.1 h2
        obtain ⟨j, hj⟩ := List.mem_iff_getElem?.1 h3
        refine ⟨?_, h4⟩
        have e : i ≠ j := fun e => by subst e; rw [hi] at hj; injection hj with e; subst e; exact h1 htk
        exact List.mem_of_getElem? (i := j) (by rw [List.getElem?_set_ne e]; exact hj)
      · exact ⟨List.mem_of_getElem? (i := i) (by rw [List.getElem?_set_self (List.getElem?_eq_some_iff.1 hi).1]), h2⟩
  have hno : thereAt S k = none → ∀ s ∈ live S, s.key ≠ k := fun ht s hs e => by
    obtain ⟨h1, h2⟩ := live_mem.1 hs
    rw [there_none h ht s h1 e] at h2; cases h2
  rw [live_mem]
  unfold osetL
  rw [if_neg (by rw [hk]; decide), if_neg (by rw [hv]; decide)]
  split
  · rename_i h0
    cases ht : thereAt S k with
    | none =>
      simp only
      rw [← live_mem]
      exact ⟨fun hs => .inl ⟨hno ht s hs, hs⟩, fun hs => by rcases hs with hs | hs; exact hs.2; exact absurd h0 hs.1⟩
    | some i =>
      obtain ⟨_, t, h1, h2, h3⟩ := thereAt_some ht
      simp only
      rw [hset h1 h3 h2]
      constructor
      · rintro (hs | ⟨rfl, hs⟩)
        · exact .inl hs
        · cases hs
      · rintro (hs | hs)
        · exact .inl hs
        · exact absurd h0 hs.1
  · rename_i h0
    cases ht : thereAt S k with
    | some i =>
      obtain ⟨_, t, h1, h2, h3⟩ := thereAt_some ht
      simp only
      rw [hset h1 h3 h2]
      constructor
      · rintro (hs | ⟨rfl, hs⟩)
        · exact .inl hs
        · exact .inr ⟨h0, rfl⟩
      · rintro (hs | hs)
        · exact .inl hs
        · exact .inr ⟨hs.2, rfl⟩
    | none =>
      simp only
      rw [List.mem_append, List.mem_singleton]
      have hlv : ∀ s, s.gone = false → (s ∈ (if cnt S + 8 < S.length - cnt S then live S else S) ↔ s ∈ live S) := fun s hg => by
        split
        · exact Iff.rfl
        · rw [live_mem]; simp [hg]
      constructor
      · rintro ⟨h1 | h1, h2⟩
        · have := (hlv s h2).1 h1
          exact .inl ⟨hno ht s this, this⟩
        · exact .inr ⟨h0, h1⟩
      · rintro (⟨h1, h2⟩ | ⟨h1, rfl⟩)
        · exact ⟨.inl ((hlv s (live_mem.1 h2).2).2 h2), (live_mem.1 h2).2⟩
        · exact ⟨.inr rfl, rfl⟩
end
/-- No key that lives in the map part is of the list. -/
def TW (T : Tb) : Prop := ∀ s ∈ live T.rest, inB (whole s.key) T.list.length = false
theorem TW.nil : TW ⟨[], []⟩ := fun _ h => by cases h
theorem stale_no {S : List Slt} {n m : Nat} (h : staleB S n m = false) {s : Slt} (hs : s ∈ S) (h1 : n < whole s.key) : ¬ whole s.key ≤ m := fun h2 => by
  unfold staleB at h
  rw [List.any_eq_false] at h
  obtain ⟨e, h3⟩ := whole_key (k := s.key) (n := whole s.key) rfl (by omega)
  refine h (whole s.key).toNat (List.mem_range'_1.2 ⟨by omega, by omega⟩) ?_
  unfold hasK
  rw [show (((whole s.key).toNat : Nat) : Int) = whole s.key by omega, ← e]
  cases hl : lastAt S s.key with
  | some j => simp
  | none => exact absurd rfl (lastAt_none hl s hs)
section
variable {T : Tb} {k v : Vl}
theorem tadd_tw (h : TInv T) (hw : TW T) (v : Vl) : TW (tadd T v) := by
  intro s hs
  have hle := grow_le T.rest (T.rest.length + 2) T.list v
  show inB _ (grow T.rest (T.rest.length + 2) T.list v).length = false
  have hs' : s ∈ live (if staleB T.rest T.list.length (grow T.rest (T.rest.length + 2) T.list v).length = true then purge T.rest (grow T.rest (T.rest.length + 2) T.list v).length else T.rest) := hs
  split at hs'
  · have h1 := (live_mem.1 hs').1
    unfold purge at h1
    have := (List.mem_filter.1 h1).2
    simpa using this
  · rename_i hst
    have h1 := hw s hs'
    refine inB_false fun hb => ?_
    have h2 : ¬ (1 ≤ whole s.key ∧ whole s.key ≤ (T.list.length : Int)) := fun hc => by rw [inB_iff.2 hc] at h1; cases h1
    exact stale_no (by simpa using hst) (live_mem.1 hs').1 (by omega) hb.2
theorem tset_tw (h : TInv T) (hw : TW T) (k v : Vl) : TW (tset T k v) := by
  unfold tset
  split
  · exact hw
  rename_i hk
  split
  · exact hw
  rename_i hv
  split
  · intro s hs
    have h1 := hw s hs
    have h2 := shr_len (T.list.set (whole k - 1).toNat v)
    rw [List.length_set] at h2
    refine inB_false fun hb => ?_
    have hb2 : whole s.key ≤ ((shr (T.list.set (whole k - 1).toNat v)).length : Int) := hb.2
    rw [inB_iff.2 ⟨hb.1, by omega⟩] at h1; cases h1
  rename_i hb
  split
  · exact tadd_tw h hw v
  · intro s hs
    rcases (live_oset h.rest (by simpa using hk) (by simpa using hv) s).1 hs with h1 | h1
    · exact hw s h1.2
    · rw [h1.2]; simpa using hb
end
end Go.Proofs.YtplkkhpokodbmaaGreatDoor
end
section
set_option linter.unusedSimpArgs false
set_option linter.unusedVariables false
namespace Go.Proofs.YtplkkhpokodbmaaGreatDoor
/-! ### What follows a key -/
section
variable {T : Tb} {k : Vl} {n i : Nat} {y : Vl}
end
/-! ### Insertion and removal -/
section
variable {T : Tb} {p : Int} {v : Vl}
end
end Go.Proofs.YtplkkhpokodbmaaGreatDoor
end
section
set_option linter.unusedSimpArgs false
set_option linter.unusedVariables false
namespace Go.Proofs.YtplkkhpokodbmaaGreatDoor
section
variable {st st' : Hst} {v k t m : Vl} {o : Hob}
end
end Go.Proofs.YtplkkhpokodbmaaGreatDoor
end
section
set_option linter.unusedSimpArgs false
set_option linter.unusedVariables false
namespace Go.Proofs.YtplkkhpokodbmaaGreatDoor
/-- An object is changed. -/
def Hst.upd (st : Hst) (id : Int) (f : Hob → Hob) : Hst := match st.get id with
  | some o => st.put id (f o)
  | none => st
def hnameV (st : Hst) (v : Vl) : ByteArray × Bool := match hfind st v with
  | some o => if o.kind = 8 then (o.name, true) else (ByteArray.empty, false)
  | none => (ByteArray.empty, false)
/-! ### What an object is, further -/
structure ObW (o : Hob) : Prop where
  tw : TW o.tab
  vals : ∀ v ∈ o.vals, validB v = true
  mt : isRef o.mt.kind = true → 1 ≤ o.mt.ref
  data : o.kind = 8 → o.vals.length = 16
def HW (st : Hst) : Prop := ∀ o, some o ∈ st.objs → ObW o
theorem HW.nil : HW hp0 := fun _ h => by cases h
section
variable {st : Hst} {v t k x : Vl} {id p i : Int} {o o' : Hob} {n : Nat} {l : List Vl}
theorem HW.put (h : HW st) (ho : ObW o') : HW (st.put id o') := fun x hx => by
  rcases mem_put hx with hx | rfl
  · exact h x hx
  · exact ho
theorem HW.touch (h : HW st) (id : Int) : HW (st.touch id) := h
theorem HW.of (h : HW st) (hg : st.get id = some o) : ObW o := h o (get_mem hg).1
theorem HW.make (h : HW st) (ho : ObW o) : HW (hmake st o) := by
  unfold hmake
  split
  · exact h
  · intro x hx
    rcases List.mem_append.1 hx with hx | hx
    · exact h x hx
    · rw [List.mem_singleton] at hx; injection hx with hx; rw [hx]; exact ho
theorem HW.set (hi : HInv st) (h : HW st) (t k v : Vl) : HW (hset st t k v) := by
  rcases hset_cases st t k v with ⟨_, e, _⟩ | ⟨_, _, _, e, _⟩ | ⟨_, _, _, _, e, _⟩ | ⟨T, o, h1, h2, h3, hv, h4, h5, h6, h7, e, _⟩
  · rw [e]; exact h
  · rw [e]; exact h
  · rw [e]; exact h
  · rw [e]
    have ho := h.of h4
    have hob := hi.obs o (get_mem h4).1
    refine HW.touch (HW.put h (o' := { o with tab := tset T k v }) ⟨?_, ho.vals, ho.mt, ho.data⟩) _
    rw [← h7]; exact tset_tw hob.tab ho.tw k v
/-! ### Inserting and removing -/
/-! ### Values of objects -/
/-! ### Dropping -/
end
/-! ### Answers, by cases -/
section
variable {st : Hst} {v x : Vl} {i : Int} {o : Hob} {l : List Vl}
end
end Go.Proofs.YtplkkhpokodbmaaGreatDoor
end
section
set_option linter.unusedSimpArgs false
set_option linter.unusedVariables false
set_option maxRecDepth 100000
set_option maxHeartbeats 2000000
namespace Go.Proofs.YtplkkhpokodbmaaGreatDoor
open Go.Hp Go.J Go.S
open Go.Mem (Ty KTy blk elemAt pre suf blk_pre blk_suf aget aset strK aggDesc)
open Go.Mem (adel apos aget_aset aget_adel)
/-- The names of the objects are short. -/
def NmS (st : Hst) : Prop := ∀ o, some o ∈ st.objs → o.name.size ≤ 5000
theorem NmS.put {st : Hst} {id : Int} {o' : Hob} (h : NmS st) (ho : o'.name.size ≤ 5000) : NmS (st.put id o') := fun x hx => by
  rcases mem_put hx with hx | rfl
  · exact h x hx
  · exact ho
theorem NmS.make {st : Hst} {o : Hob} (h : NmS st) (ho : o.name.size ≤ 5000) : NmS (hmake st o) := by
  unfold hmake
  split
  · exact h
  · intro x hx
    rcases List.mem_append.1 hx with hx | hx
    · exact h x hx
    · rw [List.mem_singleton] at hx; injection hx with hx; rw [hx]; exact ho
theorem NmS.set {st : Hst} (h : NmS st) (t k v : Vl) : NmS (hset st t k v) := by
  rcases hset_cases st t k v with ⟨_, e, _⟩ | ⟨_, _, _, e, _⟩ | ⟨_, _, _, _, e, _⟩ | ⟨T, o, h1, h2, h3, hv, h4, h5, h6, h7, e, _⟩
  · rw [e]; exact h
  · rw [e]; exact h
  · rw [e]; exact h
  · rw [e]; exact NmS.put h (o' := { o with tab := tset T k v }) (h o (get_mem h4).1)
def cutT (s : ByteArray) : ByteArray := s.extract 0 (min s.size 4096)
theorem cut_a (s : ByteArray) : s.extract 0 (if (4096 : Int) < (s.size : Int) then (4096 : Int) else (s.size : Int)).toNat = cutT s := by
  unfold cutT; congr 1; split <;> omega
theorem cut_b {s : ByteArray} (h : (4096 : Int) < (s.size : Int)) : s.extract 0 (4096 : Int).toNat = cutT s := by
  unfold cutT; congr 1; omega
theorem cut_c {s : ByteArray} (h : ¬ (4096 : Int) < (s.size : Int)) : s = cutT s := by
  unfold cutT; rw [Nat.min_eq_left (by omega)]; exact ByteArray.extract_zero_size.symm
def hasN (st : Hst) (v : Vl) : Prop := (hdl st v ⟨#[95, 95, 110, 97, 109, 101]⟩).kind = 3 ∨ (hnameV st v).2 = true
instance (st : Hst) (v : Vl) : Decidable (hasN st v) := by unfold hasN; exact inferInstance
theorem rshort_s {Z : Zone} (s : ByteArray) : SF Tryz.prog 42 #[.string s] Z [] fun r Bs => r = (giveN (strV (cutT s))).w (.slice none 0 0) ∧ Bs = [] := by
 refine sf_enter Tryz.func42 11 [(0, .string s)] (fun w0 => ?_)
 refine k_sr ?_
 refine s_alloc (.agg #[.int .i64 0, .int .i64 0, .int .i64 0, .int .i64 0, .string ByteArray.empty, .int .i64 0, .int .i64 0, .int .i64 0, .int .i64 0, .string ByteArray.empty, .int .i64 0, (.slice none 0 0), .int .i64 0, .string ByteArray.empty]) #[.int .i64 0, .int .i64 0, .int .i64 0, .int .i64 0, .string ByteArray.empty, .int .i64 0, .int .i64 0, .int .i64 0, .int .i64 0, .string ByteArray.empty, .int .i64 0, (.slice none 0 0), .int .i64 0, .string ByteArray.empty] (fun g1 => ?_)
 refine s_nt ?_
 refine k_seq ?_
 refine k_sr ?_
 refine sp (.string s) ?_
 refine s_lt (t_kern (.int .i64 (s.size : Int))) ?_
 refine s_lt t_cmp ?_
 refine s_nt ?_
 refine k_cond (decide ((4096 : Int) < (s.size : Int))) (fun c2 => ?_) (fun c2 => ?_)
 ·
  have p3 := of_decide_eq_true c2
  refine k_reg ?_
  refine sp (.string s) ?_
  refine s_lt (t_subH Tryz.underlying9 s 4096 (by omega) (by omega)) ?_
  refine sp (.string (s.extract 0 (4096 : Int).toNat)) ?_
  refine s_nr ?_
  refine sp (.string (s.extract 0 (4096 : Int).toNat)) ?_
  refine s_vcall (fun _ h => rtext_s (s.extract 0 (4096 : Int).toNat)) ?_
  rintro _ rfl
  refine s_vcall (fun _ h => give_s (strV (s.extract 0 (4096 : Int).toNat))) ?_
  rintro _ rfl
  refine s_store 0 #[.int .i64 1, .int .i64 ((strV (s.extract 0 (4096 : Int).toNat)).kind), .int .i64 ((strV (s.extract 0 (4096 : Int).toNat)).p), .int .i64 ((strV (s.extract 0 (4096 : Int).toNat)).q), .string ((strV (s.extract 0 (4096 : Int).toNat)).str), .int .i64 ((strV (s.extract 0 (4096 : Int).toNat)).ref), .int .i64 0, .int .i64 0, .int .i64 0, .string ByteArray.empty, .int .i64 0, (.slice none 0 0), .int .i64 0, .string ByteArray.empty] ?_
  refine s_nt ?_
  refine k_ret ?_
  refine xs_fin [.agg #[.int .i64 1, .int .i64 ((strV (s.extract 0 (4096 : Int).toNat)).kind), .int .i64 ((strV (s.extract 0 (4096 : Int).toNat)).p), .int .i64 ((strV (s.extract 0 (4096 : Int).toNat)).q), .string ((strV (s.extract 0 (4096 : Int).toNat)).str), .int .i64 ((strV (s.extract 0 (4096 : Int).toNat)).ref), .int .i64 0, .int .i64 0, .int .i64 0, .string ByteArray.empty, .int .i64 0, (.slice none 0 0), .int .i64 0, .string ByteArray.empty]] [] (SI.agg 2 41 0 SI.nil) (fun _ h => h.re [] [0]) ⟨?_, rfl⟩
  rw [← cut_b (s := s) (by omega)]; rfl
 ·
  have p4 := of_decide_eq_false c2
  refine k_st ?_
  refine k_sr ?_
  refine sp (.string s) ?_
  refine s_vcall (fun _ h => rtext_s s) ?_
  rintro _ rfl
  refine s_vcall (fun _ h => give_s (strV s)) ?_
  rintro _ rfl
  refine s_store 0 #[.int .i64 1, .int .i64 ((strV s).kind), .int .i64 ((strV s).p), .int .i64 ((strV s).q), .string ((strV s).str), .int .i64 ((strV s).ref), .int .i64 0, .int .i64 0, .int .i64 0, .string ByteArray.empty, .int .i64 0, (.slice none 0 0), .int .i64 0, .string ByteArray.empty] ?_
  refine s_nt ?_
  refine k_ret ?_
  refine xs_fin [.agg #[.int .i64 1, .int .i64 ((strV s).kind), .int .i64 ((strV s).p), .int .i64 ((strV s).q), .string ((strV s).str), .int .i64 ((strV s).ref), .int .i64 0, .int .i64 0, .int .i64 0, .string ByteArray.empty, .int .i64 0, (.slice none 0 0), .int .i64 0, .string ByteArray.empty]] [] (SI.agg 2 41 0 SI.nil) (fun _ h => h.re [] [0]) ⟨?_, rfl⟩
  rw [← cut_c (s := s) (by omega)]; rfl
end Go.Proofs.YtplkkhpokodbmaaGreatDoor
end
section
set_option linter.unusedSimpArgs false
set_option linter.unusedVariables false
set_option maxRecDepth 100000
set_option maxHeartbeats 2000000
namespace Go.Proofs.YtplkkhpokodbmaaGreatDoor
open Go.Hp Go.J Go.S
open Go.Mem (Ty KTy blk elemAt pre suf blk_pre blk_suf aget aset strK aggDesc)
open Go.Mem (adel apos aget_aset aget_adel)
end Go.Proofs.YtplkkhpokodbmaaGreatDoor
end
section
set_option linter.unusedSimpArgs false
set_option linter.unusedVariables false
set_option maxRecDepth 100000
set_option maxHeartbeats 2000000
namespace Go.Proofs.YtplkkhpokodbmaaGreatDoor
open Go.Hp Go.J Go.S
open Go.Mem (Ty KTy blk elemAt pre suf blk_pre blk_suf aget aset strK aggDesc)
open Go.Mem (adel apos aget_aset aget_adel)
end Go.Proofs.YtplkkhpokodbmaaGreatDoor
end
section
set_option linter.unusedSimpArgs false
set_option linter.unusedVariables false
set_option maxRecDepth 100000
set_option maxHeartbeats 2000000
namespace Go.Proofs.YtplkkhpokodbmaaGreatDoor
open Go.Hp Go.J Go.S
open Go.Mem (Ty KTy blk elemAt pre suf blk_pre blk_suf aget aset strK aggDesc)
open Go.Mem (adel apos aget_aset aget_adel)
theorem meth_s {Z : Zone} (k : Vl) : SF Tryz.prog 58 #[k.v] Z [] fun r Bs => r = (methV k).v ∧ Bs = [] := by
 refine sf_enter Tryz.func58 27 [(0, .agg #[.int .i64 k.kind, .int .i64 k.p, .int .i64 k.q, .string k.str, .int .i64 k.ref])] (fun w0 => ?_)
 refine k_sr ?_
 refine s_box #[.int .i64 k.kind, .int .i64 k.p, .int .i64 k.q, .string k.str, .int .i64 k.ref] (fun g1 => ?_)
 refine s_alloc (.agg #[.int .i64 0, .int .i64 0, .int .i64 0, .string ByteArray.empty, .int .i64 0]) #[.int .i64 0, .int .i64 0, .int .i64 0, .string ByteArray.empty, .int .i64 0] (fun g2 => ?_)
 refine s_nt ?_
 refine k_seq ?_
 refine k_sr ?_
 refine sp (pB g1 0) ?_
 refine s_lt (t_load 1 (.int .i64 k.kind)) ?_
 refine s_lt t_cmp ?_
 refine s_nt ?_
 refine k_cond (decide (k.kind = 3)) (fun c3 => ?_) (fun c3 => ?_)
 ·
  have p4 := of_decide_eq_true c3
  refine k_sr ?_
  refine sp (pB g1 3) ?_
  refine s_lt (t_load 1 (.string k.str)) ?_
  refine s_nt ?_
  refine k_block ?_
  refine k_cut (ι := Unit) (fun _ => True) (fun _ => [(1, pB g1 0), (2, pB g2 0), (8, .bool ((decide (k.str = ⟨#[98, 121, 116, 101]⟩)) || ((decide (k.str = ⟨#[99, 104, 97, 114]⟩)) || ((decide (k.str = ⟨#[102, 105, 110, 100]⟩)) || ((decide (k.str = ⟨#[102, 111, 114, 109, 97, 116]⟩)) || ((decide (k.str = ⟨#[103, 109, 97, 116, 99, 104]⟩)) || ((decide (k.str = ⟨#[103, 115, 117, 98]⟩)) || ((decide (k.str = ⟨#[108, 101, 110]⟩)) || ((decide (k.str = ⟨#[108, 111, 119, 101, 114]⟩)) || ((decide (k.str = ⟨#[109, 97, 116, 99, 104]⟩)) || ((decide (k.str = ⟨#[114, 101, 112]⟩)) || ((decide (k.str = ⟨#[114, 101, 118, 101, 114, 115, 101]⟩)) || ((decide (k.str = ⟨#[115, 117, 98]⟩)) || (decide (k.str = ⟨#[117, 112, 112, 101, 114]⟩)))))))))))))))]) (fun _ => [blkA g2 #[.int .i64 0, .int .i64 0, .int .i64 0, .string ByteArray.empty, .int .i64 0] 26, blkA g1 #[.int .i64 k.kind, .int .i64 k.p, .int .i64 k.q, .string k.str, .int .i64 k.ref] 26]) ?_ (fun _ _ => ?_)
  ·
   refine k_sr ?_
   refine s_lt t_cmpS ?_
   refine sp (.bool (decide (k.str = ⟨#[98, 121, 116, 101]⟩))) ?_
   refine s_nt ?_
   refine k_cond (decide (k.str = ⟨#[98, 121, 116, 101]⟩)) (fun c5 => ?_) (fun c5 => ?_)
   ·
    have p6 := of_decide_eq_true c5
    refine k_skip ?_
    exact xs_cut () trivial (sub_of rfl ⟨⟨rfl, rfl⟩, ⟨⟨rfl, rfl⟩, ⟨⟨rfl, show Value.bool (decide (k.str = ⟨#[98, 121, 116, 101]⟩)) = Value.bool ((decide (k.str = ⟨#[98, 121, 116, 101]⟩)) || ((decide (k.str = ⟨#[99, 104, 97, 114]⟩)) || ((decide (k.str = ⟨#[102, 105, 110, 100]⟩)) || ((decide (k.str = ⟨#[102, 111, 114, 109, 97, 116]⟩)) || ((decide (k.str = ⟨#[103, 109, 97, 116, 99, 104]⟩)) || ((decide (k.str = ⟨#[103, 115, 117, 98]⟩)) || ((decide (k.str = ⟨#[108, 101, 110]⟩)) || ((decide (k.str = ⟨#[108, 111, 119, 101, 114]⟩)) || ((decide (k.str = ⟨#[109, 97, 116, 99, 104]⟩)) || ((decide (k.str = ⟨#[114, 101, 112]⟩)) || ((decide (k.str = ⟨#[114, 101, 118, 101, 114, 115, 101]⟩)) || ((decide (k.str = ⟨#[115, 117, 98]⟩)) || (decide (k.str = ⟨#[117, 112, 112, 101, 114]⟩)))))))))))))) by first | (simp only [c5, bls]; done) | simp [c5]⟩, trivial⟩⟩⟩) (fun _ h => h.re [0, 0] [])
   ·
    have p7 := of_decide_eq_false c5
    refine k_sr ?_
    refine s_lt t_cmpS ?_
    refine sp (.bool (decide (k.str = ⟨#[99, 104, 97, 114]⟩))) ?_
    refine s_nt ?_
    refine k_cond (decide (k.str = ⟨#[99, 104, 97, 114]⟩)) (fun c8 => ?_) (fun c8 => ?_)
    ·
     have p9 := of_decide_eq_true c8
     refine k_skip ?_
     exact xs_cut () trivial (sub_of rfl ⟨⟨rfl, rfl⟩, ⟨⟨rfl, rfl⟩, ⟨⟨rfl, show Value.bool (decide (k.str = ⟨#[99, 104, 97, 114]⟩)) = Value.bool ((decide (k.str = ⟨#[98, 121, 116, 101]⟩)) || ((decide (k.str = ⟨#[99, 104, 97, 114]⟩)) || ((decide (k.str = ⟨#[102, 105, 110, 100]⟩)) || ((decide (k.str = ⟨#[102, 111, 114, 109, 97, 116]⟩)) || ((decide (k.str = ⟨#[103, 109, 97, 116, 99, 104]⟩)) || ((decide (k.str = ⟨#[103, 115, 117, 98]⟩)) || ((decide (k.str = ⟨#[108, 101, 110]⟩)) || ((decide (k.str = ⟨#[108, 111, 119, 101, 114]⟩)) || ((decide (k.str = ⟨#[109, 97, 116, 99, 104]⟩)) || ((decide (k.str = ⟨#[114, 101, 112]⟩)) || ((decide (k.str = ⟨#[114, 101, 118, 101, 114, 115, 101]⟩)) || ((decide (k.str = ⟨#[115, 117, 98]⟩)) || (decide (k.str = ⟨#[117, 112, 112, 101, 114]⟩)))))))))))))) by first | (simp only [c5, c8, bls]; done) | simp [c5, c8]⟩, trivial⟩⟩⟩) (fun _ h => h.re [0, 0] [])
    ·
     have p10 := of_decide_eq_false c8
     refine k_sr ?_
     refine s_lt t_cmpS ?_
     refine sp (.bool (decide (k.str = ⟨#[102, 105, 110, 100]⟩))) ?_
     refine s_nt ?_
     refine k_cond (decide (k.str = ⟨#[102, 105, 110, 100]⟩)) (fun c11 => ?_) (fun c11 => ?_)
     ·
      have p12 := of_decide_eq_true c11
      refine k_skip ?_
      exact xs_cut () trivial (sub_of rfl ⟨⟨rfl, rfl⟩, ⟨⟨rfl, rfl⟩, ⟨⟨rfl, show Value.bool (decide (k.str = ⟨#[102, 105, 110, 100]⟩)) = Value.bool ((decide (k.str = ⟨#[98, 121, 116, 101]⟩)) || ((decide (k.str = ⟨#[99, 104, 97, 114]⟩)) || ((decide (k.str = ⟨#[102, 105, 110, 100]⟩)) || ((decide (k.str = ⟨#[102, 111, 114, 109, 97, 116]⟩)) || ((decide (k.str = ⟨#[103, 109, 97, 116, 99, 104]⟩)) || ((decide (k.str = ⟨#[103, 115, 117, 98]⟩)) || ((decide (k.str = ⟨#[108, 101, 110]⟩)) || ((decide (k.str = ⟨#[108, 111, 119, 101, 114]⟩)) || ((decide (k.str = ⟨#[109, 97, 116, 99, 104]⟩)) || ((decide (k.str = ⟨#[114, 101, 112]⟩)) || ((decide (k.str = ⟨#[114, 101, 118, 101, 114, 115, 101]⟩)) || ((decide (k.str = ⟨#[115, 117, 98]⟩)) || (decide (k.str = ⟨#[117, 112, 112, 101, 114]⟩)))))))))))))) by first | (simp only [c5, c8, c11, bls]; done) | simp [c5, c8, c11]⟩, trivial⟩⟩⟩) (fun _ h => h.re [0, 0] [])
     ·
      have p13 := of_decide_eq_false c11
      refine k_sr ?_
      refine s_lt t_cmpS ?_
      refine sp (.bool (decide (k.str = ⟨#[102, 111, 114, 109, 97, 116]⟩))) ?_
      refine s_nt ?_
      refine k_cond (decide (k.str = ⟨#[102, 111, 114, 109, 97, 116]⟩)) (fun c14 => ?_) (fun c14 => ?_)
      ·
       have p15 := of_decide_eq_true c14
       refine k_skip ?_
       exact xs_cut () trivial (sub_of rfl ⟨⟨rfl, rfl⟩, ⟨⟨rfl, rfl⟩, ⟨⟨rfl, show Value.bool (decide (k.str = ⟨#[102, 111, 114, 109, 97, 116]⟩)) = Value.bool ((decide (k.str = ⟨#[98, 121, 116, 101]⟩)) || ((decide (k.str = ⟨#[99, 104, 97, 114]⟩)) || ((decide (k.str = ⟨#[102, 105, 110, 100]⟩)) || ((decide (k.str = ⟨#[102, 111, 114, 109, 97, 116]⟩)) || ((decide (k.str = ⟨#[103, 109, 97, 116, 99, 104]⟩)) || ((decide (k.str = ⟨#[103, 115, 117, 98]⟩)) || ((decide (k.str = ⟨#[108, 101, 110]⟩)) || ((decide (k.str = ⟨#[108, 111, 119, 101, 114]⟩)) || ((decide (k.str = ⟨#[109, 97, 116, 99, 104]⟩)) || ((decide (k.str = ⟨#[114, 101, 112]⟩)) || ((decide (k.str = ⟨#[114, 101, 118, 101, 114, 115, 101]⟩)) || ((decide (k.str = ⟨#[115, 117, 98]⟩)) || (decide (k.str = ⟨#[117, 112, 112, 101, 114]⟩)))))))))))))) by first | (simp only [c5, c8, c11, c14, bls]; done) | simp [c5, c8, c11, c14]⟩, trivial⟩⟩⟩) (fun _ h => h.re [0, 0] [])
      ·
       have p16 := of_decide_eq_false c14
       refine k_sr ?_
       refine s_lt t_cmpS ?_
       refine sp (.bool (decide (k.str = ⟨#[103, 109, 97, 116, 99, 104]⟩))) ?_
       refine s_nt ?_
       refine k_cond (decide (k.str = ⟨#[103, 109, 97, 116, 99, 104]⟩)) (fun c17 => ?_) (fun c17 => ?_)
       ·
        have p18 := of_decide_eq_true c17
        refine k_skip ?_
        exact xs_cut () trivial (sub_of rfl ⟨⟨rfl, rfl⟩, ⟨⟨rfl, rfl⟩, ⟨⟨rfl, show Value.bool (decide (k.str = ⟨#[103, 109, 97, 116, 99, 104]⟩)) = Value.bool ((decide (k.str = ⟨#[98, 121, 116, 101]⟩)) || ((decide (k.str = ⟨#[99, 104, 97, 114]⟩)) || ((decide (k.str = ⟨#[102, 105, 110, 100]⟩)) || ((decide (k.str = ⟨#[102, 111, 114, 109, 97, 116]⟩)) || ((decide (k.str = ⟨#[103, 109, 97, 116, 99, 104]⟩)) || ((decide (k.str = ⟨#[103, 115, 117, 98]⟩)) || ((decide (k.str = ⟨#[108, 101, 110]⟩)) || ((decide (k.str = ⟨#[108, 111, 119, 101, 114]⟩)) || ((decide (k.str = ⟨#[109, 97, 116, 99, 104]⟩)) || ((decide (k.str = ⟨#[114, 101, 112]⟩)) || ((decide (k.str = ⟨#[114, 101, 118, 101, 114, 115, 101]⟩)) || ((decide (k.str = ⟨#[115, 117, 98]⟩)) || (decide (k.str = ⟨#[117, 112, 112, 101, 114]⟩)))))))))))))) by first | (simp only [c5, c8, c11, c14, c17, bls]; done) | simp [c5, c8, c11, c14, c17]⟩, trivial⟩⟩⟩) (fun _ h => h.re [0, 0] [])
       ·
        have p19 := of_decide_eq_false c17
        refine k_sr ?_
        refine s_lt t_cmpS ?_
        refine sp (.bool (decide (k.str = ⟨#[103, 115, 117, 98]⟩))) ?_
        refine s_nt ?_
        refine k_cond (decide (k.str = ⟨#[103, 115, 117, 98]⟩)) (fun c20 => ?_) (fun c20 => ?_)
        ·
         have p21 := of_decide_eq_true c20
         refine k_skip ?_
         exact xs_cut () trivial (sub_of rfl ⟨⟨rfl, rfl⟩, ⟨⟨rfl, rfl⟩, ⟨⟨rfl, show Value.bool (decide (k.str = ⟨#[103, 115, 117, 98]⟩)) = Value.bool ((decide (k.str = ⟨#[98, 121, 116, 101]⟩)) || ((decide (k.str = ⟨#[99, 104, 97, 114]⟩)) || ((decide (k.str = ⟨#[102, 105, 110, 100]⟩)) || ((decide (k.str = ⟨#[102, 111, 114, 109, 97, 116]⟩)) || ((decide (k.str = ⟨#[103, 109, 97, 116, 99, 104]⟩)) || ((decide (k.str = ⟨#[103, 115, 117, 98]⟩)) || ((decide (k.str = ⟨#[108, 101, 110]⟩)) || ((decide (k.str = ⟨#[108, 111, 119, 101, 114]⟩)) || ((decide (k.str = ⟨#[109, 97, 116, 99, 104]⟩)) || ((decide (k.str = ⟨#[114, 101, 112]⟩)) || ((decide (k.str = ⟨#[114, 101, 118, 101, 114, 115, 101]⟩)) || ((decide (k.str = ⟨#[115, 117, 98]⟩)) || (decide (k.str = ⟨#[117, 112, 112, 101, 114]⟩)))))))))))))) by first | (simp only [c5, c8, c11, c14, c17, c20, bls]; done) | simp [c5, c8, c11, c14, c17, c20]⟩, trivial⟩⟩⟩) (fun _ h => h.re [0, 0] [])
        ·
         have p22 := of_decide_eq_false c20
         refine k_sr ?_
         refine s_lt t_cmpS ?_
         refine sp (.bool (decide (k.str = ⟨#[108, 101, 110]⟩))) ?_
         refine s_nt ?_
         refine k_cond (decide (k.str = ⟨#[108, 101, 110]⟩)) (fun c23 => ?_) (fun c23 => ?_)
         ·
          have p24 := of_decide_eq_true c23
          refine k_skip ?_
          exact xs_cut () trivial (sub_of rfl ⟨⟨rfl, rfl⟩, ⟨⟨rfl, rfl⟩, ⟨⟨rfl, show Value.bool (decide (k.str = ⟨#[108, 101, 110]⟩)) = Value.bool ((decide (k.str = ⟨#[98, 121, 116, 101]⟩)) || ((decide (k.str = ⟨#[99, 104, 97, 114]⟩)) || ((decide (k.str = ⟨#[102, 105, 110, 100]⟩)) || ((decide (k.str = ⟨#[102, 111, 114, 109, 97, 116]⟩)) || ((decide (k.str = ⟨#[103, 109, 97, 116, 99, 104]⟩)) || ((decide (k.str = ⟨#[103, 115, 117, 98]⟩)) || ((decide (k.str = ⟨#[108, 101, 110]⟩)) || ((decide (k.str = ⟨#[108, 111, 119, 101, 114]⟩)) || ((decide (k.str = ⟨#[109, 97, 116, 99, 104]⟩)) || ((decide (k.str = ⟨#[114, 101, 112]⟩)) || ((decide (k.str = ⟨#[114, 101, 118, 101, 114, 115, 101]⟩)) || ((decide (k.str = ⟨#[115, 117, 98]⟩)) || (decide (k.str = ⟨#[117, 112, 112, 101, 114]⟩)))))))))))))) by first | (simp only [c5, c8, c11, c14, c17, c20, c23, bls]; done) | simp [c5, c8, c11, c14, c17, c20, c23]⟩, trivial⟩⟩⟩) (fun _ h => h.re [0, 0] [])
         ·
          have p25 := of_decide_eq_false c23
          refine k_sr ?_
          refine s_lt t_cmpS ?_
          refine sp (.bool (decide (k.str = ⟨#[108, 111, 119, 101, 114]⟩))) ?_
          refine s_nt ?_
          refine k_cond (decide (k.str = ⟨#[108, 111, 119, 101, 114]⟩)) (fun c26 => ?_) (fun c26 => ?_)
          ·
           have p27 := of_decide_eq_true c26
           refine k_skip ?_
           exact xs_cut () trivial (sub_of rfl ⟨⟨rfl, rfl⟩, ⟨⟨rfl, rfl⟩, ⟨⟨rfl, show Value.bool (decide (k.str = ⟨#[108, 111, 119, 101, 114]⟩)) = Value.bool ((decide (k.str = ⟨#[98, 121, 116, 101]⟩)) || ((decide (k.str = ⟨#[99, 104, 97, 114]⟩)) || ((decide (k.str = ⟨#[102, 105, 110, 100]⟩)) || ((decide (k.str = ⟨#[102, 111, 114, 109, 97, 116]⟩)) || ((decide (k.str = ⟨#[103, 109, 97, 116, 99, 104]⟩)) || ((decide (k.str = ⟨#[103, 115, 117, 98]⟩)) || ((decide (k.str = ⟨#[108, 101, 110]⟩)) || ((decide (k.str = ⟨#[108, 111, 119, 101, 114]⟩)) || ((decide (k.str = ⟨#[109, 97, 116, 99, 104]⟩)) || ((decide (k.str = ⟨#[114, 101, 112]⟩)) || ((decide (k.str = ⟨#[114, 101, 118, 101, 114, 115, 101]⟩)) || ((decide (k.str = ⟨#[115, 117, 98]⟩)) || (decide (k.str = ⟨#[117, 112, 112, 101, 114]⟩)))))))))))))) by first | (simp only [c5, c8, c11, c14, c17, c20, c23, c26, bls]; done) | simp [c5, c8, c11, c14, c17, c20, c23, c26]⟩, trivial⟩⟩⟩) (fun _ h => h.re [0, 0] [])
          ·
           have p28 := of_decide_eq_false c26
           refine k_sr ?_
           refine s_lt t_cmpS ?_
           refine sp (.bool (decide (k.str = ⟨#[109, 97, 116, 99, 104]⟩))) ?_
           refine s_nt ?_
           refine k_cond (decide (k.str = ⟨#[109, 97, 116, 99, 104]⟩)) (fun c29 => ?_) (fun c29 => ?_)
           ·
            have p30 := of_decide_eq_true c29
            refine k_skip ?_
            exact xs_cut () trivial (sub_of rfl ⟨⟨rfl, rfl⟩, ⟨⟨rfl, rfl⟩, ⟨⟨rfl, show Value.bool (decide (k.str = ⟨#[109, 97, 116, 99, 104]⟩)) = Value.bool ((decide (k.str = ⟨#[98, 121, 116, 101]⟩)) || ((decide (k.str = ⟨#[99, 104, 97, 114]⟩)) || ((decide (k.str = ⟨#[102, 105, 110, 100]⟩)) || ((decide (k.str = ⟨#[102, 111, 114, 109, 97, 116]⟩)) || ((decide (k.str = ⟨#[103, 109, 97, 116, 99, 104]⟩)) || ((decide (k.str = ⟨#[103, 115, 117, 98]⟩)) || ((decide (k.str = ⟨#[108, 101, 110]⟩)) || ((decide (k.str = ⟨#[108, 111, 119, 101, 114]⟩)) || ((decide (k.str = ⟨#[109, 97, 116, 99, 104]⟩)) || ((decide (k.str = ⟨#[114, 101, 112]⟩)) || ((decide (k.str = ⟨#[114, 101, 118, 101, 114, 115, 101]⟩)) || ((decide (k.str = ⟨#[115, 117, 98]⟩)) || (decide (k.str = ⟨#[117, 112, 112, 101, 114]⟩)))))))))))))) by first | (simp only [c5, c8, c11, c14, c17, c20, c23, c26, c29, bls]; done) | simp [c5, c8, c11, c14, c17, c20, c23, c26, c29]⟩, trivial⟩⟩⟩) (fun _ h => h.re [0, 0] [])
           ·
            have p31 := of_decide_eq_false c29
            refine k_sr ?_
            refine s_lt t_cmpS ?_
            refine sp (.bool (decide (k.str = ⟨#[114, 101, 112]⟩))) ?_
            refine s_nt ?_
            refine k_cond (decide (k.str = ⟨#[114, 101, 112]⟩)) (fun c32 => ?_) (fun c32 => ?_)
            ·
             have p33 := of_decide_eq_true c32
             refine k_skip ?_
             exact xs_cut () trivial (sub_of rfl ⟨⟨rfl, rfl⟩, ⟨⟨rfl, rfl⟩, ⟨⟨rfl, show Value.bool (decide (k.str = ⟨#[114, 101, 112]⟩)) = Value.bool ((decide (k.str = ⟨#[98, 121, 116, 101]⟩)) || ((decide (k.str = ⟨#[99, 104, 97, 114]⟩)) || ((decide (k.str = ⟨#[102, 105, 110, 100]⟩)) || ((decide (k.str = ⟨#[102, 111, 114, 109, 97, 116]⟩)) || ((decide (k.str = ⟨#[103, 109, 97, 116, 99, 104]⟩)) || ((decide (k.str = ⟨#[103, 115, 117, 98]⟩)) || ((decide (k.str = ⟨#[108, 101, 110]⟩)) || ((decide (k.str = ⟨#[108, 111, 119, 101, 114]⟩)) || ((decide (k.str = ⟨#[109, 97, 116, 99, 104]⟩)) || ((decide (k.str = ⟨#[114, 101, 112]⟩)) || ((decide (k.str = ⟨#[114, 101, 118, 101, 114, 115, 101]⟩)) || ((decide (k.str = ⟨#[115, 117, 98]⟩)) || (decide (k.str = ⟨#[117, 112, 112, 101, 114]⟩)))))))))))))) by first | (simp only [c5, c8, c11, c14, c17, c20, c23, c26, c29, c32, bls]; done) | simp [c5, c8, c11, c14, c17, c20, c23, c26, c29, c32]⟩, trivial⟩⟩⟩) (fun _ h => h.re [0, 0] [])
            ·
             have p34 := of_decide_eq_false c32
             refine k_sr ?_
             refine s_lt t_cmpS ?_
             refine sp (.bool (decide (k.str = ⟨#[114, 101, 118, 101, 114, 115, 101]⟩))) ?_
             refine s_nt ?_
             refine k_cond (decide (k.str = ⟨#[114, 101, 118, 101, 114, 115, 101]⟩)) (fun c35 => ?_) (fun c35 => ?_)
             ·
              have p36 := of_decide_eq_true c35
              refine k_skip ?_
              exact xs_cut () trivial (sub_of rfl ⟨⟨rfl, rfl⟩, ⟨⟨rfl, rfl⟩, ⟨⟨rfl, show Value.bool (decide (k.str = ⟨#[114, 101, 118, 101, 114, 115, 101]⟩)) = Value.bool ((decide (k.str = ⟨#[98, 121, 116, 101]⟩)) || ((decide (k.str = ⟨#[99, 104, 97, 114]⟩)) || ((decide (k.str = ⟨#[102, 105, 110, 100]⟩)) || ((decide (k.str = ⟨#[102, 111, 114, 109, 97, 116]⟩)) || ((decide (k.str = ⟨#[103, 109, 97, 116, 99, 104]⟩)) || ((decide (k.str = ⟨#[103, 115, 117, 98]⟩)) || ((decide (k.str = ⟨#[108, 101, 110]⟩)) || ((decide (k.str = ⟨#[108, 111, 119, 101, 114]⟩)) || ((decide (k.str = ⟨#[109, 97, 116, 99, 104]⟩)) || ((decide (k.str = ⟨#[114, 101, 112]⟩)) || ((decide (k.str = ⟨#[114, 101, 118, 101, 114, 115, 101]⟩)) || ((decide (k.str = ⟨#[115, 117, 98]⟩)) || (decide (k.str = ⟨#[117, 112, 112, 101, 114]⟩)))))))))))))) by first | (simp only [c5, c8, c11, c14, c17, c20, c23, c26, c29, c32, c35, bls]; done) | simp [c5, c8, c11, c14, c17, c20, c23, c26, c29, c32, c35]⟩, trivial⟩⟩⟩) (fun _ h => h.re [0, 0] [])
             ·
              have p37 := of_decide_eq_false c35
              refine k_sr ?_
              refine s_lt t_cmpS ?_
              refine sp (.bool (decide (k.str = ⟨#[115, 117, 98]⟩))) ?_
              refine s_nt ?_
              refine k_cond (decide (k.str = ⟨#[115, 117, 98]⟩)) (fun c38 => ?_) (fun c38 => ?_)
              ·
               have p39 := of_decide_eq_true c38
               refine k_skip ?_
               exact xs_cut () trivial (sub_of rfl ⟨⟨rfl, rfl⟩, ⟨⟨rfl, rfl⟩, ⟨⟨rfl, show Value.bool (decide (k.str = ⟨#[115, 117, 98]⟩)) = Value.bool ((decide (k.str = ⟨#[98, 121, 116, 101]⟩)) || ((decide (k.str = ⟨#[99, 104, 97, 114]⟩)) || ((decide (k.str = ⟨#[102, 105, 110, 100]⟩)) || ((decide (k.str = ⟨#[102, 111, 114, 109, 97, 116]⟩)) || ((decide (k.str = ⟨#[103, 109, 97, 116, 99, 104]⟩)) || ((decide (k.str = ⟨#[103, 115, 117, 98]⟩)) || ((decide (k.str = ⟨#[108, 101, 110]⟩)) || ((decide (k.str = ⟨#[108, 111, 119, 101, 114]⟩)) || ((decide (k.str = ⟨#[109, 97, 116, 99, 104]⟩)) || ((decide (k.str = ⟨#[114, 101, 112]⟩)) || ((decide (k.str = ⟨#[114, 101, 118, 101, 114, 115, 101]⟩)) || ((decide (k.str = ⟨#[115, 117, 98]⟩)) || (decide (k.str = ⟨#[117, 112, 112, 101, 114]⟩)))))))))))))) by first | (simp only [c5, c8, c11, c14, c17, c20, c23, c26, c29, c32, c35, c38, bls]; done) | simp [c5, c8, c11, c14, c17, c20, c23, c26, c29, c32, c35, c38]⟩, trivial⟩⟩⟩) (fun _ h => h.re [0, 0] [])
              ·
               have p40 := of_decide_eq_false c38
               refine k_reg ?_
               refine s_lt t_cmpS ?_
               refine sp (.bool (decide (k.str = ⟨#[117, 112, 112, 101, 114]⟩))) ?_
               refine s_nil ?_
               exact xs_cut () trivial (sub_of rfl ⟨⟨rfl, rfl⟩, ⟨⟨rfl, rfl⟩, ⟨⟨rfl, show Value.bool (decide (k.str = ⟨#[117, 112, 112, 101, 114]⟩)) = Value.bool ((decide (k.str = ⟨#[98, 121, 116, 101]⟩)) || ((decide (k.str = ⟨#[99, 104, 97, 114]⟩)) || ((decide (k.str = ⟨#[102, 105, 110, 100]⟩)) || ((decide (k.str = ⟨#[102, 111, 114, 109, 97, 116]⟩)) || ((decide (k.str = ⟨#[103, 109, 97, 116, 99, 104]⟩)) || ((decide (k.str = ⟨#[103, 115, 117, 98]⟩)) || ((decide (k.str = ⟨#[108, 101, 110]⟩)) || ((decide (k.str = ⟨#[108, 111, 119, 101, 114]⟩)) || ((decide (k.str = ⟨#[109, 97, 116, 99, 104]⟩)) || ((decide (k.str = ⟨#[114, 101, 112]⟩)) || ((decide (k.str = ⟨#[114, 101, 118, 101, 114, 115, 101]⟩)) || ((decide (k.str = ⟨#[115, 117, 98]⟩)) || (decide (k.str = ⟨#[117, 112, 112, 101, 114]⟩)))))))))))))) by first | (simp only [c5, c8, c11, c14, c17, c20, c23, c26, c29, c32, c35, c38, bls]; done) | simp [c5, c8, c11, c14, c17, c20, c23, c26, c29, c32, c35, c38]⟩, trivial⟩⟩⟩) (fun _ h => h.re [0, 0] [])
  ·
   refine k_cond ((decide (k.str = ⟨#[98, 121, 116, 101]⟩)) || ((decide (k.str = ⟨#[99, 104, 97, 114]⟩)) || ((decide (k.str = ⟨#[102, 105, 110, 100]⟩)) || ((decide (k.str = ⟨#[102, 111, 114, 109, 97, 116]⟩)) || ((decide (k.str = ⟨#[103, 109, 97, 116, 99, 104]⟩)) || ((decide (k.str = ⟨#[103, 115, 117, 98]⟩)) || ((decide (k.str = ⟨#[108, 101, 110]⟩)) || ((decide (k.str = ⟨#[108, 111, 119, 101, 114]⟩)) || ((decide (k.str = ⟨#[109, 97, 116, 99, 104]⟩)) || ((decide (k.str = ⟨#[114, 101, 112]⟩)) || ((decide (k.str = ⟨#[114, 101, 118, 101, 114, 115, 101]⟩)) || ((decide (k.str = ⟨#[115, 117, 98]⟩)) || (decide (k.str = ⟨#[117, 112, 112, 101, 114]⟩)))))))))))))) (fun c41 => ?_) (fun c41 => ?_)
   ·
    have p42 := c41
    simp only [Bool.and_eq_true, Bool.or_eq_true, Bool.and_eq_false_iff, Bool.or_eq_false_iff, Bool.not_eq_true', Bool.not_eq_false', decide_eq_true_eq, decide_eq_false_iff_not] at p42
    refine k_sr ?_
    refine sp (pB g1 3) ?_
    refine s_lt (t_load 1 (.string k.str)) ?_
    refine s_lt (t_cat ⟨#[115, 116, 114, 105, 110, 103, 46]⟩ k.str (cat_ok (by decide : (⟨#[115, 116, 114, 105, 110, 103, 46]⟩ : ByteArray).size ≤ 7) (lib_size (s := k.str) c41) (by decide))) ?_
    refine s_lt (t_kern (.agg #[.int .i64 6, .int .i64 0, .int .i64 0, .string (⟨#[115, 116, 114, 105, 110, 103, 46]⟩ ++ k.str), .int .i64 0])) ?_
    refine s_store 0 #[.int .i64 6, .int .i64 0, .int .i64 0, .string (⟨#[115, 116, 114, 105, 110, 103, 46]⟩ ++ k.str), .int .i64 0] ?_
    refine s_nt ?_
    refine k_ret ?_
    refine xs_retBlock ?_
    refine xs_ret ?_
    refine xs_fin [.agg #[.int .i64 6, .int .i64 0, .int .i64 0, .string (⟨#[115, 116, 114, 105, 110, 103, 46]⟩ ++ k.str), .int .i64 0]] [] (SI.agg 2 26 0 SI.nil) (fun _ h => h.re [] [0, 0]) ⟨?_, rfl⟩
    unfold methV; rw [if_pos ⟨by omega, c41⟩]; rfl
   ·
    obtain ⟨c43, c44⟩ := or_f c41
    have p45 := of_decide_eq_false c43
    obtain ⟨c46, c47⟩ := or_f c44
    have p48 := of_decide_eq_false c46
    obtain ⟨c49, c50⟩ := or_f c47
    have p51 := of_decide_eq_false c49
    obtain ⟨c52, c53⟩ := or_f c50
    have p54 := of_decide_eq_false c52
    obtain ⟨c55, c56⟩ := or_f c53
    have p57 := of_decide_eq_false c55
    obtain ⟨c58, c59⟩ := or_f c56
    have p60 := of_decide_eq_false c58
    obtain ⟨c61, c62⟩ := or_f c59
    have p63 := of_decide_eq_false c61
    obtain ⟨c64, c65⟩ := or_f c62
    have p66 := of_decide_eq_false c64
    obtain ⟨c67, c68⟩ := or_f c65
    have p69 := of_decide_eq_false c67
    obtain ⟨c70, c71⟩ := or_f c68
    have p72 := of_decide_eq_false c70
    obtain ⟨c73, c74⟩ := or_f c71
    have p75 := of_decide_eq_false c73
    obtain ⟨c76, c77⟩ := or_f c74
    have p78 := of_decide_eq_false c76
    have p79 := of_decide_eq_false c77
    refine k_skip ?_
    refine xs_block ?_
    refine xs_then ?_
    refine k_sr ?_
    refine s_lt (t_kern (.agg #[.int .i64 0, .int .i64 0, .int .i64 0, .string ByteArray.empty, .int .i64 0])) ?_
    refine s_store 0 #[.int .i64 0, .int .i64 0, .int .i64 0, .string ByteArray.empty, .int .i64 0] ?_
    refine s_nt ?_
    refine k_ret ?_
    refine xs_fin [.agg #[.int .i64 0, .int .i64 0, .int .i64 0, .string ByteArray.empty, .int .i64 0]] [] (SI.agg 2 26 0 SI.nil) (fun _ h => h.re [] [0, 0]) ⟨?_, rfl⟩
    unfold methV; rw [if_neg (fun h => Bool.false_ne_true ((show libB k.str = false from c41).symm.trans h.2))]; rfl
 ·
  have p80 := of_decide_eq_false c3
  refine k_st ?_
  refine k_sr ?_
  refine s_lt (t_kern (.agg #[.int .i64 0, .int .i64 0, .int .i64 0, .string ByteArray.empty, .int .i64 0])) ?_
  refine s_store 0 #[.int .i64 0, .int .i64 0, .int .i64 0, .string ByteArray.empty, .int .i64 0] ?_
  refine s_nt ?_
  refine k_ret ?_
  refine xs_fin [.agg #[.int .i64 0, .int .i64 0, .int .i64 0, .string ByteArray.empty, .int .i64 0]] [] (SI.agg 2 26 0 SI.nil) (fun _ h => h.re [] [0, 0]) ⟨?_, rfl⟩
  unfold methV; rw [if_neg (fun h => absurd h.1 (by omega))]; rfl
/-- A closure's call that leaves all as it is. -/
theorem s_vcallL {P : Program} {w0 : World} {ops : Array Oper} {Q : Exit → Act → World → Prop} {n : Nat} {E : Env} {Z : Zone} {As : List Asr} {o : Oper} {rest : List Oper} {f : FuncId} {x : Operand} {xs : Array Operand} {ts : Array TypeId} {first cap : Array Value} {vals : List Value} {R : Value → Prop} {d : Nat} (hc : ∀ H, Holds Z As H → SF P f vals.toArray (zoneOf H) [] fun v Bs => R v ∧ Bs = [])
    (h : ∀ v, R v → SL P w0 ops Q n rest ((d, v) :: E) Z As)
    (ho : o.op = .call { callee := .value x, args := xs, argTypes := ts } := by rfl) (hf : ev E x = .func (.func f) first cap := by rfl) (hx : (first.toList ++ (xs.toList.map (ev E))) ++ cap.toList = vals := by rfl) (hd : o.dst = some d := by rfl) (hfn : isFn P f = true := by kernel_rfl) (hk : okOp ops n E o = true := by kernel_rfl) : SL P w0 ops Q n (o :: rest) E Z As :=
  s_callL (As0 := As) [] (SF.frame hc) (by rintro v _ ⟨_, ⟨hr, rfl⟩, rfl⟩; exact h v hr) rfl ho hf hx hd hfn hk
theorem npfind_s {Z : Zone}  (v : Vl): SF Tryz.prog 78 #[.pointer none, v.v] Z [] fun r Bs => r = .pointer none ∧ Bs = [] := by
 refine sf_enter Tryz.func78 27 [(0, .pointer none), (1, .agg #[.int .i64 v.kind, .int .i64 v.p, .int .i64 v.q, .string v.str, .int .i64 v.ref])] (fun w0 => ?_)
 refine k_sr ?_
 refine s_box #[.int .i64 v.kind, .int .i64 v.p, .int .i64 v.q, .string v.str, .int .i64 v.ref] (fun g1 => ?_)
 refine sp (.pointer none) ?_
 refine s_nt ?_
 refine k_seq ?_
 refine k_sr ?_
 refine sp (.pointer none) ?_
 refine sp (.bool true) ?_
 refine s_nt ?_
 refine k_true ?_
 refine k_sr ?_
 refine sp (.pointer none) ?_
 refine s_nt ?_
 refine k_ret ?_
 refine xs_ret ?_
 exact xs_fin [.pointer none] [] (SI.tmp 4 SI.nil) (fun _ h => h.re [] [0]) ⟨rfl, rfl⟩
theorem nptab_s {Z : Zone}  (v : Vl): SF Tryz.prog 72 #[.pointer none, v.v] Z [] fun r Bs => r = .pointer none ∧ Bs = [] := by
 refine sf_enter Tryz.func72 15 [(0, .pointer none), (1, .agg #[.int .i64 v.kind, .int .i64 v.p, .int .i64 v.q, .string v.str, .int .i64 v.ref])] (fun w0 => ?_)
 refine k_sr ?_
 refine s_box #[.int .i64 v.kind, .int .i64 v.p, .int .i64 v.q, .string v.str, .int .i64 v.ref] (fun g1 => ?_)
 refine sp (.pointer none) ?_
 refine s_nr ?_
 refine sp (.pointer none) ?_
 refine s_lt (t_loadA 0 #[.int .i64 v.kind, .int .i64 v.p, .int .i64 v.q, .string v.str, .int .i64 v.ref]) ?_
 refine s_vcall (fun _ h => npfind_s v) ?_
 rintro _ rfl
 refine sp (.pointer none) ?_
 refine s_nt ?_
 refine k_seq ?_
 refine k_sr ?_
 refine sp (.pointer none) ?_
 refine sp (.bool true) ?_
 refine s_nt ?_
 refine k_true ?_
 refine k_sr ?_
 refine sp (.pointer none) ?_
 refine s_nt ?_
 refine k_ret ?_
 refine xs_ret ?_
 exact xs_fin [.pointer none] [] (SI.tmp 4 SI.nil) (fun _ h => h.re [] [0]) ⟨rfl, rfl⟩
theorem npget_s {Z : Zone}  (t : Vl) (k : Vl): SF Tryz.prog 56 #[.pointer none, t.v, k.v] Z [] fun r Bs => r = pairV zVl 1 ∧ Bs = [] := by
 refine sf_enter Tryz.func56 20 [(0, .pointer none), (1, .agg #[.int .i64 t.kind, .int .i64 t.p, .int .i64 t.q, .string t.str, .int .i64 t.ref]), (2, .agg #[.int .i64 k.kind, .int .i64 k.p, .int .i64 k.q, .string k.str, .int .i64 k.ref])] (fun w0 => ?_)
 refine k_sr ?_
 refine s_box #[.int .i64 t.kind, .int .i64 t.p, .int .i64 t.q, .string t.str, .int .i64 t.ref] (fun g1 => ?_)
 refine s_box #[.int .i64 k.kind, .int .i64 k.p, .int .i64 k.q, .string k.str, .int .i64 k.ref] (fun g2 => ?_)
 refine s_alloc (.agg #[.int .i64 0, .int .i64 0, .int .i64 0, .string ByteArray.empty, .int .i64 0]) #[.int .i64 0, .int .i64 0, .int .i64 0, .string ByteArray.empty, .int .i64 0] (fun g3 => ?_)
 refine sp (.int .i64 0) ?_
 refine s_nr ?_
 refine sp (.pointer none) ?_
 refine s_lt (t_loadA 2 #[.int .i64 t.kind, .int .i64 t.p, .int .i64 t.q, .string t.str, .int .i64 t.ref]) ?_
 refine s_vcall (fun _ h => nptab_s t) ?_
 rintro _ rfl
 refine sp (.pointer none) ?_
 refine s_nt ?_
 refine k_seq ?_
 refine k_sr ?_
 refine sp (.pointer none) ?_
 refine sp (.bool true) ?_
 refine s_nt ?_
 refine k_true ?_
 refine k_sr ?_
 refine s_lt (t_kern (.agg #[.int .i64 0, .int .i64 0, .int .i64 0, .string ByteArray.empty, .int .i64 0])) ?_
 refine sp (.pointer none) ?_
 refine s_vcall (fun _ h => hmiss0_s) ?_
 rintro _ rfl
 refine s_store 0 #[.int .i64 0, .int .i64 0, .int .i64 0, .string ByteArray.empty, .int .i64 0] ?_
 refine sp (.int .i64 1) ?_
 refine s_nt ?_
 refine k_ret ?_
 refine xs_ret ?_
 exact xs_fin [.agg #[.int .i64 0, .int .i64 0, .int .i64 0, .string ByteArray.empty, .int .i64 0], .int .i64 1] [] (SI.agg 6 26 0 (SI.tmp 7 SI.nil)) (fun _ h => h.re [] [0, 0, 0]) ⟨rfl, rfl⟩
theorem npset_s {Z : Zone}  (t : Vl) (k : Vl) (v : Vl): SF Tryz.prog 22 #[.pointer none, t.v, k.v, v.v] Z [] fun r Bs => r = .int .i64 1 ∧ Bs = [] := by
 refine sf_enter Tryz.func22 40 [(0, .pointer none), (1, .agg #[.int .i64 t.kind, .int .i64 t.p, .int .i64 t.q, .string t.str, .int .i64 t.ref]), (2, .agg #[.int .i64 k.kind, .int .i64 k.p, .int .i64 k.q, .string k.str, .int .i64 k.ref]), (3, .agg #[.int .i64 v.kind, .int .i64 v.p, .int .i64 v.q, .string v.str, .int .i64 v.ref])] (fun w0 => ?_)
 refine k_sr ?_
 refine s_box #[.int .i64 t.kind, .int .i64 t.p, .int .i64 t.q, .string t.str, .int .i64 t.ref] (fun g1 => ?_)
 refine s_box #[.int .i64 k.kind, .int .i64 k.p, .int .i64 k.q, .string k.str, .int .i64 k.ref] (fun g2 => ?_)
 refine s_box #[.int .i64 v.kind, .int .i64 v.p, .int .i64 v.q, .string v.str, .int .i64 v.ref] (fun g3 => ?_)
 refine sp (.int .i64 0) ?_
 refine s_nr ?_
 refine sp (.pointer none) ?_
 refine s_lt (t_loadA 2 #[.int .i64 t.kind, .int .i64 t.p, .int .i64 t.q, .string t.str, .int .i64 t.ref]) ?_
 refine s_vcall (fun _ h => nptab_s t) ?_
 rintro _ rfl
 refine sp (.pointer none) ?_
 refine s_nt ?_
 refine k_seq ?_
 refine k_block ?_
 refine k_sr ?_
 refine sp (.pointer none) ?_
 refine sp (.bool true) ?_
 refine sp (.bool true) ?_
 refine s_nt ?_
 refine k_true ?_
 refine k_sr ?_
 refine sp (.pointer none) ?_
 refine s_vcall (fun _ h => hmiss0_s) ?_
 rintro _ rfl
 refine sp (.int .i64 1) ?_
 refine s_nt ?_
 refine k_ret ?_
 refine xs_retBlock ?_
 refine xs_ret ?_
 exact xs_fin [.int .i64 1] [] (SI.tmp 8 SI.nil) (fun _ h => h.re [] [0, 0, 0]) ⟨rfl, rfl⟩
theorem npmeta_s {Z : Zone}  (v : Vl): SF Tryz.prog 55 #[.pointer none, v.v] Z [] fun r Bs => r = zVl.v ∧ Bs = [] := by
 refine sf_enter Tryz.func55 16 [(0, .pointer none), (1, .agg #[.int .i64 v.kind, .int .i64 v.p, .int .i64 v.q, .string v.str, .int .i64 v.ref])] (fun w0 => ?_)
 refine k_sr ?_
 refine s_box #[.int .i64 v.kind, .int .i64 v.p, .int .i64 v.q, .string v.str, .int .i64 v.ref] (fun g1 => ?_)
 refine s_alloc (.agg #[.int .i64 0, .int .i64 0, .int .i64 0, .string ByteArray.empty, .int .i64 0]) #[.int .i64 0, .int .i64 0, .int .i64 0, .string ByteArray.empty, .int .i64 0] (fun g2 => ?_)
 refine s_nr ?_
 refine sp (.pointer none) ?_
 refine s_lt (t_loadA 1 #[.int .i64 v.kind, .int .i64 v.p, .int .i64 v.q, .string v.str, .int .i64 v.ref]) ?_
 refine s_vcall (fun _ h => npfind_s v) ?_
 rintro _ rfl
 refine sp (.pointer none) ?_
 refine s_nt ?_
 refine k_seq ?_
 refine k_sr ?_
 refine sp (.pointer none) ?_
 refine sp (.bool true) ?_
 refine s_nt ?_
 refine k_true ?_
 refine k_sr ?_
 refine s_lt (t_kern (.agg #[.int .i64 0, .int .i64 0, .int .i64 0, .string ByteArray.empty, .int .i64 0])) ?_
 refine s_store 0 #[.int .i64 0, .int .i64 0, .int .i64 0, .string ByteArray.empty, .int .i64 0] ?_
 refine s_nt ?_
 refine k_ret ?_
 refine xs_ret ?_
 exact xs_fin [.agg #[.int .i64 0, .int .i64 0, .int .i64 0, .string ByteArray.empty, .int .i64 0]] [] (SI.agg 4 26 0 SI.nil) (fun _ h => h.re [] [0, 0]) ⟨rfl, rfl⟩
theorem nplen_s {Z : Zone}  (t : Vl): SF Tryz.prog 47 #[.pointer none, t.v] Z [] fun r Bs => r = .tuple #[.int .i64 0, .int .i64 1] ∧ Bs = [] := by
 refine sf_enter Tryz.func47 16 [(0, .pointer none), (1, .agg #[.int .i64 t.kind, .int .i64 t.p, .int .i64 t.q, .string t.str, .int .i64 t.ref])] (fun w0 => ?_)
 refine k_sr ?_
 refine s_box #[.int .i64 t.kind, .int .i64 t.p, .int .i64 t.q, .string t.str, .int .i64 t.ref] (fun g1 => ?_)
 refine sp (.int .i64 0) ?_
 refine sp (.int .i64 0) ?_
 refine s_nr ?_
 refine sp (.pointer none) ?_
 refine s_lt (t_loadA 0 #[.int .i64 t.kind, .int .i64 t.p, .int .i64 t.q, .string t.str, .int .i64 t.ref]) ?_
 refine s_vcall (fun _ h => nptab_s t) ?_
 rintro _ rfl
 refine sp (.pointer none) ?_
 refine s_nt ?_
 refine k_seq ?_
 refine k_sr ?_
 refine sp (.pointer none) ?_
 refine sp (.bool true) ?_
 refine s_nt ?_
 refine k_true ?_
 refine k_sr ?_
 refine sp (.pointer none) ?_
 refine s_vcall (fun _ h => hmiss0_s) ?_
 rintro _ rfl
 refine sp (.int .i64 0) ?_
 refine sp (.int .i64 1) ?_
 refine s_nt ?_
 refine k_ret ?_
 refine xs_ret ?_
 exact xs_fin [.int .i64 0, .int .i64 1] [] (SI.tmp 4 (SI.tmp 5 SI.nil)) (fun _ h => h.re [] [0]) ⟨rfl, rfl⟩
theorem npname_s {Z : Zone}  (v : Vl): SF Tryz.prog 36 #[.pointer none, v.v] Z [] fun r Bs => r = .tuple #[.string ByteArray.empty, .bool false] ∧ Bs = [] := by
 refine sf_enter Tryz.func36 23 [(0, .pointer none), (1, .agg #[.int .i64 v.kind, .int .i64 v.p, .int .i64 v.q, .string v.str, .int .i64 v.ref])] (fun w0 => ?_)
 refine k_sr ?_
 refine s_box #[.int .i64 v.kind, .int .i64 v.p, .int .i64 v.q, .string v.str, .int .i64 v.ref] (fun g1 => ?_)
 refine sp (.string ByteArray.empty) ?_
 refine sp (.bool false) ?_
 refine s_nr ?_
 refine sp (.pointer none) ?_
 refine s_lt (t_loadA 0 #[.int .i64 v.kind, .int .i64 v.p, .int .i64 v.q, .string v.str, .int .i64 v.ref]) ?_
 refine s_vcall (fun _ h => npfind_s v) ?_
 rintro _ rfl
 refine sp (.pointer none) ?_
 refine s_nt ?_
 refine k_seq ?_
 refine k_sr ?_
 refine sp (.pointer none) ?_
 refine sp (.bool true) ?_
 refine sp (.bool true) ?_
 refine s_skip ?_
 refine s_skip ?_
 refine s_skip ?_
 refine s_skip ?_
 refine s_skip ?_
 refine sp (.bool true) ?_
 refine s_nt ?_
 refine k_true ?_
 refine k_sr ?_
 refine sp (.string ByteArray.empty) ?_
 refine sp (.bool false) ?_
 refine s_nt ?_
 refine k_ret ?_
 refine xs_ret ?_
 exact xs_fin [.string ByteArray.empty, .bool false] [] (SI.tmp 4 (SI.tmp 5 SI.nil)) (fun _ h => h.re [] [0]) ⟨rfl, rfl⟩
theorem nrden_s {Z : Zone}  (v : Vl): SF Tryz.prog 113 #[.pointer none, v.v] Z [] fun r Bs => r = .bool false ∧ Bs = [] := by
 refine sf_enter Tryz.func113 46 [(0, .pointer none), (1, .agg #[.int .i64 v.kind, .int .i64 v.p, .int .i64 v.q, .string v.str, .int .i64 v.ref])] (fun w0 => ?_)
 refine k_sr ?_
 refine s_box #[.int .i64 v.kind, .int .i64 v.p, .int .i64 v.q, .string v.str, .int .i64 v.ref] (fun g1 => ?_)
 refine sp (.bool false) ?_
 refine s_nt ?_
 refine k_seq ?_
 refine k_draw ?_
 refine sp (.pointer none) ?_
 refine sp (.bool false) ?_
 refine sp (.bool false) ?_
 refine s_skip ?_
 refine s_skip ?_
 refine s_skip ?_
 refine sp (.bool false) ?_
 refine sp (.bool false) ?_
 refine s_skip ?_
 refine s_skip ?_
 refine s_skip ?_
 refine sp (.bool false) ?_
 refine sp (.bool false) ?_
 refine s_skip ?_
 refine s_skip ?_
 refine s_skip ?_
 refine s_skip ?_
 refine s_skip ?_
 refine s_skip ?_
 refine s_skip ?_
 refine s_skip ?_
 refine sp (.bool false) ?_
 refine sp (.bool false) ?_
 refine s_skip ?_
 refine s_skip ?_
 refine s_skip ?_
 refine s_skip ?_
 refine s_skip ?_
 refine s_skip ?_
 refine s_skip ?_
 refine s_skip ?_
 refine s_skip ?_
 refine s_skip ?_
 refine s_skip ?_
 refine s_skip ?_
 refine s_skip ?_
 refine sp (.bool false) ?_
 refine sp (.bool false) ?_
 refine s_skip ?_
 refine s_skip ?_
 refine sp (.bool false) ?_
 refine sp (.bool false) ?_
 refine s_nil ?_
 refine x_dynS (fun _ h => by kernel_rfl) ?_
 refine xs_then ?_
 refine k_ret ?_
 exact xs_fin [.bool false] [] (SI.tmp 4 SI.nil) (fun _ h => h.re [] [0]) ⟨rfl, rfl⟩
theorem nris_s {Z : Zone}  (v : Vl) (k : Int): SF Tryz.prog 86 #[.pointer none, v.v, .int .i64 k] Z [] fun r Bs => r = .bool false ∧ Bs = [] := by
 refine sf_enter Tryz.func86 16 [(0, .pointer none), (1, .agg #[.int .i64 v.kind, .int .i64 v.p, .int .i64 v.q, .string v.str, .int .i64 v.ref]), (2, .int .i64 k)] (fun w0 => ?_)
 refine k_sr ?_
 refine s_box #[.int .i64 v.kind, .int .i64 v.p, .int .i64 v.q, .string v.str, .int .i64 v.ref] (fun g1 => ?_)
 refine sp (.bool false) ?_
 refine s_nr ?_
 refine sp (.pointer none) ?_
 refine s_lt (t_loadA 0 #[.int .i64 v.kind, .int .i64 v.p, .int .i64 v.q, .string v.str, .int .i64 v.ref]) ?_
 refine s_vcall (fun _ h => nrden_s v) ?_
 rintro _ rfl
 refine sp (.bool false) ?_
 refine s_skip ?_
 refine s_skip ?_
 refine s_skip ?_
 refine s_skip ?_
 refine sp (.bool false) ?_
 refine sp (.bool false) ?_
 refine s_nt ?_
 refine k_ret ?_
 exact xs_fin [.bool false] [] (SI.tmp 6 SI.nil) (fun _ h => h.re [] [0]) ⟨rfl, rfl⟩
theorem nrtable_s {Z : Zone}  (v : Vl): SF Tryz.prog 81 #[.pointer none, v.v] Z [] fun r Bs => r = .int .i64 1 ∧ Bs = [] := by
 refine sf_enter Tryz.func81 11 [(0, .pointer none), (1, .agg #[.int .i64 v.kind, .int .i64 v.p, .int .i64 v.q, .string v.str, .int .i64 v.ref])] (fun w0 => ?_)
 refine k_sr ?_
 refine s_box #[.int .i64 v.kind, .int .i64 v.p, .int .i64 v.q, .string v.str, .int .i64 v.ref] (fun g1 => ?_)
 refine sp (.int .i64 0) ?_
 refine s_nt ?_
 refine k_seq ?_
 refine k_sr ?_
 refine sp (.pointer none) ?_
 refine sp (.bool true) ?_
 refine s_nt ?_
 refine k_true ?_
 refine k_sr ?_
 refine sp (.int .i64 1) ?_
 refine s_nt ?_
 refine k_ret ?_
 refine xs_ret ?_
 exact xs_fin [.int .i64 1] [] (SI.tmp 4 SI.nil) (fun _ h => h.re [] [0]) ⟨rfl, rfl⟩
theorem nrget_s {Z : Zone}  (t : Vl) (k : Vl): SF Tryz.prog 61 #[.pointer none, t.v, k.v] Z [] fun r Bs => r = pairV zVl 1 ∧ Bs = [] := by
 refine sf_enter Tryz.func61 28 [(0, .pointer none), (1, .agg #[.int .i64 t.kind, .int .i64 t.p, .int .i64 t.q, .string t.str, .int .i64 t.ref]), (2, .agg #[.int .i64 k.kind, .int .i64 k.p, .int .i64 k.q, .string k.str, .int .i64 k.ref])] (fun w0 => ?_)
 refine k_sr ?_
 refine s_box #[.int .i64 t.kind, .int .i64 t.p, .int .i64 t.q, .string t.str, .int .i64 t.ref] (fun g1 => ?_)
 refine s_box #[.int .i64 k.kind, .int .i64 k.p, .int .i64 k.q, .string k.str, .int .i64 k.ref] (fun g2 => ?_)
 refine s_alloc (.agg #[.int .i64 0, .int .i64 0, .int .i64 0, .string ByteArray.empty, .int .i64 0]) #[.int .i64 0, .int .i64 0, .int .i64 0, .string ByteArray.empty, .int .i64 0] (fun g3 => ?_)
 refine sp (.int .i64 0) ?_
 refine s_nr ?_
 refine sp (.pointer none) ?_
 refine s_lt (t_loadA 2 #[.int .i64 t.kind, .int .i64 t.p, .int .i64 t.q, .string t.str, .int .i64 t.ref]) ?_
 refine s_vcall (fun _ h => nrtable_s t) ?_
 rintro _ rfl
 refine sp (.int .i64 1) ?_
 refine s_nt ?_
 refine k_seq ?_
 refine k_sr ?_
 refine sp (.int .i64 1) ?_
 refine s_lt (t_cmp (c := true)) ?_
 refine s_nt ?_
 refine k_true ?_
 refine k_sr ?_
 refine s_lt (t_kern (.agg #[.int .i64 0, .int .i64 0, .int .i64 0, .string ByteArray.empty, .int .i64 0])) ?_
 refine sp (.int .i64 1) ?_
 refine s_store 0 #[.int .i64 0, .int .i64 0, .int .i64 0, .string ByteArray.empty, .int .i64 0] ?_
 refine sp (.int .i64 1) ?_
 refine s_nt ?_
 refine k_ret ?_
 refine xs_ret ?_
 exact xs_fin [.agg #[.int .i64 0, .int .i64 0, .int .i64 0, .string ByteArray.empty, .int .i64 0], .int .i64 1] [] (SI.agg 6 26 0 (SI.tmp 7 SI.nil)) (fun _ h => h.re [] [0, 0, 0]) ⟨rfl, rfl⟩
theorem nrset_s {Z : Zone}  (t : Vl) (k : Vl) (v : Vl): SF Tryz.prog 31 #[.pointer none, t.v, k.v, v.v] Z [] fun r Bs => r = .int .i64 1 ∧ Bs = [] := by
 refine sf_enter Tryz.func31 45 [(0, .pointer none), (1, .agg #[.int .i64 t.kind, .int .i64 t.p, .int .i64 t.q, .string t.str, .int .i64 t.ref]), (2, .agg #[.int .i64 k.kind, .int .i64 k.p, .int .i64 k.q, .string k.str, .int .i64 k.ref]), (3, .agg #[.int .i64 v.kind, .int .i64 v.p, .int .i64 v.q, .string v.str, .int .i64 v.ref])] (fun w0 => ?_)
 refine k_sr ?_
 refine s_box #[.int .i64 t.kind, .int .i64 t.p, .int .i64 t.q, .string t.str, .int .i64 t.ref] (fun g1 => ?_)
 refine s_box #[.int .i64 k.kind, .int .i64 k.p, .int .i64 k.q, .string k.str, .int .i64 k.ref] (fun g2 => ?_)
 refine s_box #[.int .i64 v.kind, .int .i64 v.p, .int .i64 v.q, .string v.str, .int .i64 v.ref] (fun g3 => ?_)
 refine sp (.int .i64 0) ?_
 refine s_nr ?_
 refine sp (.pointer none) ?_
 refine s_lt (t_loadA 2 #[.int .i64 t.kind, .int .i64 t.p, .int .i64 t.q, .string t.str, .int .i64 t.ref]) ?_
 refine s_vcall (fun _ h => nrtable_s t) ?_
 rintro _ rfl
 refine sp (.int .i64 1) ?_
 refine s_nt ?_
 refine k_seq ?_
 refine k_sr ?_
 refine sp (.int .i64 1) ?_
 refine s_lt (t_cmp (c := true)) ?_
 refine s_nt ?_
 refine k_true ?_
 refine k_sr ?_
 refine sp (.int .i64 1) ?_
 refine sp (.int .i64 1) ?_
 refine s_nt ?_
 refine k_ret ?_
 refine xs_ret ?_
 exact xs_fin [.int .i64 1] [] (SI.tmp 8 SI.nil) (fun _ h => h.re [] [0, 0, 0]) ⟨rfl, rfl⟩
theorem nrmeta_s {Z : Zone}  (v : Vl): SF Tryz.prog 90 #[.pointer none, v.v] Z [] fun r Bs => r = zVl.v ∧ Bs = [] := by
 refine sf_enter Tryz.func90 24 [(0, .pointer none), (1, .agg #[.int .i64 v.kind, .int .i64 v.p, .int .i64 v.q, .string v.str, .int .i64 v.ref])] (fun w0 => ?_)
 refine k_sr ?_
 refine s_box #[.int .i64 v.kind, .int .i64 v.p, .int .i64 v.q, .string v.str, .int .i64 v.ref] (fun g1 => ?_)
 refine s_alloc (.agg #[.int .i64 0, .int .i64 0, .int .i64 0, .string ByteArray.empty, .int .i64 0]) #[.int .i64 0, .int .i64 0, .int .i64 0, .string ByteArray.empty, .int .i64 0] (fun g2 => ?_)
 refine s_nt ?_
 refine k_seq ?_
 refine k_sr ?_
 refine sp (.pointer none) ?_
 refine s_lt (t_loadA 1 #[.int .i64 v.kind, .int .i64 v.p, .int .i64 v.q, .string v.str, .int .i64 v.ref]) ?_
 refine s_vcall (fun _ h => nris_s v 4) ?_
 rintro _ rfl
 refine sp (.bool false) ?_
 refine sp (.pointer none) ?_
 refine s_lt (t_loadA 1 #[.int .i64 v.kind, .int .i64 v.p, .int .i64 v.q, .string v.str, .int .i64 v.ref]) ?_
 refine s_vcall (fun _ h => nris_s v 8) ?_
 rintro _ rfl
 refine sp (.bool false) ?_
 refine s_nt ?_
 refine k_false ?_
 refine k_st ?_
 refine k_sr ?_
 refine s_lt (t_kern (.agg #[.int .i64 0, .int .i64 0, .int .i64 0, .string ByteArray.empty, .int .i64 0])) ?_
 refine s_store 0 #[.int .i64 0, .int .i64 0, .int .i64 0, .string ByteArray.empty, .int .i64 0] ?_
 refine s_nt ?_
 refine k_ret ?_
 exact xs_fin [.agg #[.int .i64 0, .int .i64 0, .int .i64 0, .string ByteArray.empty, .int .i64 0]] [] (SI.agg 4 26 0 SI.nil) (fun _ h => h.re [] [0, 0]) ⟨rfl, rfl⟩
theorem nrlen_s {Z : Zone}  (t : Vl): SF Tryz.prog 52 #[.pointer none, t.v] Z [] fun r Bs => r = .tuple #[.int .i64 0, .int .i64 1] ∧ Bs = [] := by
 refine sf_enter Tryz.func52 24 [(0, .pointer none), (1, .agg #[.int .i64 t.kind, .int .i64 t.p, .int .i64 t.q, .string t.str, .int .i64 t.ref])] (fun w0 => ?_)
 refine k_sr ?_
 refine s_box #[.int .i64 t.kind, .int .i64 t.p, .int .i64 t.q, .string t.str, .int .i64 t.ref] (fun g1 => ?_)
 refine sp (.int .i64 0) ?_
 refine sp (.int .i64 0) ?_
 refine s_nr ?_
 refine sp (.pointer none) ?_
 refine s_lt (t_loadA 0 #[.int .i64 t.kind, .int .i64 t.p, .int .i64 t.q, .string t.str, .int .i64 t.ref]) ?_
 refine s_vcall (fun _ h => nrtable_s t) ?_
 rintro _ rfl
 refine sp (.int .i64 1) ?_
 refine s_nt ?_
 refine k_seq ?_
 refine k_sr ?_
 refine sp (.int .i64 1) ?_
 refine s_lt (t_cmp (c := true)) ?_
 refine s_nt ?_
 refine k_true ?_
 refine k_sr ?_
 refine sp (.int .i64 1) ?_
 refine sp (.int .i64 0) ?_
 refine sp (.int .i64 1) ?_
 refine s_nt ?_
 refine k_ret ?_
 refine xs_ret ?_
 exact xs_fin [.int .i64 0, .int .i64 1] [] (SI.tmp 4 (SI.tmp 5 SI.nil)) (fun _ h => h.re [] [0]) ⟨rfl, rfl⟩
theorem nrname_s {Z : Zone}  (v : Vl): SF Tryz.prog 44 #[.pointer none, v.v] Z [] fun r Bs => r = .tuple #[.string ByteArray.empty, .bool false] ∧ Bs = [] := by
 refine sf_enter Tryz.func44 19 [(0, .pointer none), (1, .agg #[.int .i64 v.kind, .int .i64 v.p, .int .i64 v.q, .string v.str, .int .i64 v.ref])] (fun w0 => ?_)
 refine k_sr ?_
 refine s_box #[.int .i64 v.kind, .int .i64 v.p, .int .i64 v.q, .string v.str, .int .i64 v.ref] (fun g1 => ?_)
 refine sp (.string ByteArray.empty) ?_
 refine sp (.bool false) ?_
 refine s_nt ?_
 refine k_seq ?_
 refine k_sr ?_
 refine sp (.pointer none) ?_
 refine s_lt (t_loadA 0 #[.int .i64 v.kind, .int .i64 v.p, .int .i64 v.q, .string v.str, .int .i64 v.ref]) ?_
 refine s_vcall (fun _ h => nris_s v 8) ?_
 rintro _ rfl
 refine s_nt ?_
 refine k_false ?_
 refine k_st ?_
 refine k_sr ?_
 refine sp (.string ByteArray.empty) ?_
 refine sp (.bool false) ?_
 refine s_nt ?_
 refine k_ret ?_
 exact xs_fin [.string ByteArray.empty, .bool false] [] (SI.tmp 4 (SI.tmp 5 SI.nil)) (fun _ h => h.re [] [0]) ⟨rfl, rfl⟩
theorem nhdl_s {Z : Zone}  (v : Vl) (ev : ByteArray): SF Tryz.prog 14 #[.pointer none, v.v, .string ev] Z [] fun r Bs => r = zVl.v ∧ Bs = [] := by
 refine sf_enter Tryz.func14 26 [(0, .pointer none), (1, .agg #[.int .i64 v.kind, .int .i64 v.p, .int .i64 v.q, .string v.str, .int .i64 v.ref]), (2, .string ev)] (fun w0 => ?_)
 refine k_sr ?_
 refine s_box #[.int .i64 v.kind, .int .i64 v.p, .int .i64 v.q, .string v.str, .int .i64 v.ref] (fun g1 => ?_)
 refine s_alloc (.agg #[.int .i64 0, .int .i64 0, .int .i64 0, .string ByteArray.empty, .int .i64 0]) #[.int .i64 0, .int .i64 0, .int .i64 0, .string ByteArray.empty, .int .i64 0] (fun g2 => ?_)
 refine s_nr ?_
 refine sp (.pointer none) ?_
 refine s_lt (t_loadA 1 #[.int .i64 v.kind, .int .i64 v.p, .int .i64 v.q, .string v.str, .int .i64 v.ref]) ?_
 refine s_vcall (fun _ h => npmeta_s v) ?_
 rintro _ rfl
 refine s_alloc (.agg #[.int .i64 0, .int .i64 0, .int .i64 0, .string ByteArray.empty, .int .i64 0]) #[.int .i64 0, .int .i64 0, .int .i64 0, .string ByteArray.empty, .int .i64 0] (fun g3 => ?_)
 refine s_store 0 #[.int .i64 0, .int .i64 0, .int .i64 0, .string ByteArray.empty, .int .i64 0] ?_
 refine s_nt ?_
 refine k_seq ?_
 refine k_sr ?_
 refine sp (pB g3 0) ?_
 refine s_lt (t_load 0 (.int .i64 0)) ?_
 refine s_lt (t_cmp (c := true)) ?_
 refine s_nt ?_
 refine k_true ?_
 refine k_sr ?_
 refine s_lt (t_kern (.agg #[.int .i64 0, .int .i64 0, .int .i64 0, .string ByteArray.empty, .int .i64 0])) ?_
 refine s_store 1 #[.int .i64 0, .int .i64 0, .int .i64 0, .string ByteArray.empty, .int .i64 0] ?_
 refine s_nt ?_
 refine k_ret ?_
 refine xs_ret ?_
 exact xs_fin [.agg #[.int .i64 0, .int .i64 0, .int .i64 0, .string ByteArray.empty, .int .i64 0]] [] (SI.agg 6 26 1 SI.nil) (fun _ h => h.re [] [0, 0, 0]) ⟨rfl, rfl⟩
theorem rnhdl_s {Z : Zone}  (v : Vl) (ev : ByteArray): SF Tryz.prog 40 #[.pointer none, v.v, .string ev] Z [] fun r Bs => r = zVl.v ∧ Bs = [] := by
 refine sf_enter Tryz.func40 35 [(0, .pointer none), (1, .agg #[.int .i64 v.kind, .int .i64 v.p, .int .i64 v.q, .string v.str, .int .i64 v.ref]), (2, .string ev)] (fun w0 => ?_)
 refine k_sr ?_
 refine s_box #[.int .i64 v.kind, .int .i64 v.p, .int .i64 v.q, .string v.str, .int .i64 v.ref] (fun g1 => ?_)
 refine s_alloc (.agg #[.int .i64 0, .int .i64 0, .int .i64 0, .string ByteArray.empty, .int .i64 0]) #[.int .i64 0, .int .i64 0, .int .i64 0, .string ByteArray.empty, .int .i64 0] (fun g2 => ?_)
 refine s_nt ?_
 refine k_seq ?_
 refine k_sr ?_
 refine sp (pB g1 0) ?_
 refine s_lt (t_load 1 (.int .i64 v.kind)) ?_
 refine s_lt t_cmp ?_
 refine sp (.bool (decide (v.kind ≠ 4))) ?_
 refine s_fork 13 (decide (v.kind ≠ 4)) (fun c3 => ?_) (fun c3 => ?_)
 ·
  have p4 := of_decide_eq_true c3
  refine sp (pB g1 0) ?_
  refine s_lt (t_load 1 (.int .i64 v.kind)) ?_
  refine s_lt t_cmp ?_
  refine sp (.bool (decide (v.kind ≠ 8))) ?_
  refine s_nt ?_
  refine k_cond (decide (v.kind ≠ 8)) (fun c5 => ?_) (fun c5 => ?_)
  ·
   have p6 := of_decide_eq_true c5
   refine k_sr ?_
   refine s_lt (t_kern (.agg #[.int .i64 0, .int .i64 0, .int .i64 0, .string ByteArray.empty, .int .i64 0])) ?_
   refine s_store 0 #[.int .i64 0, .int .i64 0, .int .i64 0, .string ByteArray.empty, .int .i64 0] ?_
   refine s_nt ?_
   refine k_ret ?_
   refine xs_ret ?_
   exact xs_fin [.agg #[.int .i64 0, .int .i64 0, .int .i64 0, .string ByteArray.empty, .int .i64 0]] [] (SI.agg 6 26 0 SI.nil) (fun _ h => h.re [] [0, 0]) ⟨rfl, rfl⟩
  ·
   have p7 := Decidable.not_not.1 (of_decide_eq_false c5)
   refine k_st ?_
   refine k_sr ?_
   refine sp (.pointer none) ?_
   refine s_lt (t_loadA 1 #[.int .i64 v.kind, .int .i64 v.p, .int .i64 v.q, .string v.str, .int .i64 v.ref]) ?_
   refine s_vcall (fun _ h => nrmeta_s v) ?_
   rintro _ rfl
   refine s_alloc (.agg #[.int .i64 0, .int .i64 0, .int .i64 0, .string ByteArray.empty, .int .i64 0]) #[.int .i64 0, .int .i64 0, .int .i64 0, .string ByteArray.empty, .int .i64 0] (fun g8 => ?_)
   refine s_store 0 #[.int .i64 0, .int .i64 0, .int .i64 0, .string ByteArray.empty, .int .i64 0] ?_
   refine s_nt ?_
   refine k_seq ?_
   refine k_sr ?_
   refine sp (pB g8 0) ?_
   refine s_lt (t_load 0 (.int .i64 0)) ?_
   refine s_lt (t_cmp (c := true)) ?_
   refine s_nt ?_
   refine k_true ?_
   refine k_sr ?_
   refine s_lt (t_kern (.agg #[.int .i64 0, .int .i64 0, .int .i64 0, .string ByteArray.empty, .int .i64 0])) ?_
   refine s_store 1 #[.int .i64 0, .int .i64 0, .int .i64 0, .string ByteArray.empty, .int .i64 0] ?_
   refine s_nt ?_
   refine k_ret ?_
   refine xs_ret ?_
   exact xs_fin [.agg #[.int .i64 0, .int .i64 0, .int .i64 0, .string ByteArray.empty, .int .i64 0]] [] (SI.agg 6 26 1 SI.nil) (fun _ h => h.re [] [0, 0, 0]) ⟨rfl, rfl⟩
 ·
  have p9 := Decidable.not_not.1 (of_decide_eq_false c3)
  refine s_skip ?_
  refine s_skip ?_
  refine s_skip ?_
  refine sp (.bool false) ?_
  refine s_nt ?_
  refine k_false ?_
  refine k_st ?_
  refine k_sr ?_
  refine sp (.pointer none) ?_
  refine s_lt (t_loadA 1 #[.int .i64 v.kind, .int .i64 v.p, .int .i64 v.q, .string v.str, .int .i64 v.ref]) ?_
  refine s_vcall (fun _ h => nrmeta_s v) ?_
  rintro _ rfl
  refine s_alloc (.agg #[.int .i64 0, .int .i64 0, .int .i64 0, .string ByteArray.empty, .int .i64 0]) #[.int .i64 0, .int .i64 0, .int .i64 0, .string ByteArray.empty, .int .i64 0] (fun g10 => ?_)
  refine s_store 0 #[.int .i64 0, .int .i64 0, .int .i64 0, .string ByteArray.empty, .int .i64 0] ?_
  refine s_nt ?_
  refine k_seq ?_
  refine k_sr ?_
  refine sp (pB g10 0) ?_
  refine s_lt (t_load 0 (.int .i64 0)) ?_
  refine s_lt (t_cmp (c := true)) ?_
  refine s_nt ?_
  refine k_true ?_
  refine k_sr ?_
  refine s_lt (t_kern (.agg #[.int .i64 0, .int .i64 0, .int .i64 0, .string ByteArray.empty, .int .i64 0])) ?_
  refine s_store 1 #[.int .i64 0, .int .i64 0, .int .i64 0, .string ByteArray.empty, .int .i64 0] ?_
  refine s_nt ?_
  refine k_ret ?_
  refine xs_ret ?_
  exact xs_fin [.agg #[.int .i64 0, .int .i64 0, .int .i64 0, .string ByteArray.empty, .int .i64 0]] [] (SI.agg 6 26 1 SI.nil) (fun _ h => h.re [] [0, 0, 0]) ⟨rfl, rfl⟩
/-- Where a chain settles, the heap being nil. -/
def nst (k v : Vl) : Nd × Bool := if v.kind = 4 then (giveN zVl, true) else if v.kind = 3 then (giveN (methV k), true) else (zNd, false)
def nix (k v : Vl) : Nd := if (nst k v).2 = true then (nst k v).1 else failN (attB v.kind)
def nlen (v : Vl) : Nd := if v.kind = 3 then giveN (ofI (v.str.size : Int)) else if v.kind = 4 then giveN (ofI 0) else failN (lenB v.kind)
theorem nstl_s {Z : Zone} {F : List Asr} {gf gk : Nat} {k : Vl} (v : Vl) : SF Tryz.prog 57 #[v.v, zVl.v, .pointer (some ⟨gf, 0, none⟩), .pointer (some ⟨gk, 0, none⟩)] Z (blkA gf #[.func (.func 56) #[.pointer none] #[]] 79 :: blkA gk #[.int .i64 k.kind, .int .i64 k.p, .int .i64 k.q, .string k.str, .int .i64 k.ref] 26 :: F) fun r Bs => r = .tuple #[(nst k v).1.w (.slice none 0 0), .bool (nst k v).2] ∧ Bs = blkA gf #[.func (.func 56) #[.pointer none] #[]] 79 :: blkA gk #[.int .i64 k.kind, .int .i64 k.p, .int .i64 k.q, .string k.str, .int .i64 k.ref] 26 :: F := by
 refine sf_enter Tryz.func57 37 [(0, .agg #[.int .i64 v.kind, .int .i64 v.p, .int .i64 v.q, .string v.str, .int .i64 v.ref]), (1, .agg #[.int .i64 0, .int .i64 0, .int .i64 0, .string ByteArray.empty, .int .i64 0]), (2, pB gf 0), (3, pB gk 0)] (fun w0 => ?_)
 refine k_sr ?_
 refine s_box #[.int .i64 v.kind, .int .i64 v.p, .int .i64 v.q, .string v.str, .int .i64 v.ref] (fun g1 => ?_)
 refine s_box #[.int .i64 0, .int .i64 0, .int .i64 0, .string ByteArray.empty, .int .i64 0] (fun g2 => ?_)
 refine s_alloc (.agg #[.int .i64 0, .int .i64 0, .int .i64 0, .int .i64 0, .string ByteArray.empty, .int .i64 0, .int .i64 0, .int .i64 0, .int .i64 0, .string ByteArray.empty, .int .i64 0, (.slice none 0 0), .int .i64 0, .string ByteArray.empty]) #[.int .i64 0, .int .i64 0, .int .i64 0, .int .i64 0, .string ByteArray.empty, .int .i64 0, .int .i64 0, .int .i64 0, .int .i64 0, .string ByteArray.empty, .int .i64 0, (.slice none 0 0), .int .i64 0, .string ByteArray.empty] (fun g3 => ?_)
 refine sp (.bool false) ?_
 refine s_nt ?_
 refine k_seq ?_
 refine k_sr ?_
 refine sp (pB g1 0) ?_
 refine s_lt (t_load 2 (.int .i64 v.kind)) ?_
 refine s_nt ?_
 refine k_block ?_
 refine k_sr ?_
 refine s_lt t_cmp ?_
 refine sp (.bool (decide (v.kind = 4))) ?_
 refine s_nt ?_
 refine k_cond (decide (v.kind = 4)) (fun c4 => ?_) (fun c4 => ?_)
 ·
  have p5 := of_decide_eq_true c4
  refine k_sr ?_
  refine s_lt (t_load 3 (.func (.func 56) #[.pointer none] #[])) ?_
  refine s_lt (t_loadA 2 #[.int .i64 v.kind, .int .i64 v.p, .int .i64 v.q, .string v.str, .int .i64 v.ref]) ?_
  refine s_lt (t_loadA 4 #[.int .i64 k.kind, .int .i64 k.p, .int .i64 k.q, .string k.str, .int .i64 k.ref]) ?_
  refine s_vcallL (fun _ h => npget_s v k) ?_
  rintro _ rfl
  refine sp (.tuple #[.agg #[.int .i64 0, .int .i64 0, .int .i64 0, .string ByteArray.empty, .int .i64 0], .int .i64 1]) ?_
  refine sp (.agg #[.int .i64 0, .int .i64 0, .int .i64 0, .string ByteArray.empty, .int .i64 0]) ?_
  refine sp (.int .i64 1) ?_
  refine s_alloc (.agg #[.int .i64 0, .int .i64 0, .int .i64 0, .string ByteArray.empty, .int .i64 0]) #[.int .i64 0, .int .i64 0, .int .i64 0, .string ByteArray.empty, .int .i64 0] (fun g6 => ?_)
  refine s_store 0 #[.int .i64 0, .int .i64 0, .int .i64 0, .string ByteArray.empty, .int .i64 0] ?_
  refine sp (.int .i64 1) ?_
  refine s_nt ?_
  refine k_seq ?_
  refine k_held [blkA g6 #[.int .i64 0, .int .i64 0, .int .i64 0, .string ByteArray.empty, .int .i64 0] 26, blkA g2 #[.int .i64 0, .int .i64 0, .int .i64 0, .string ByteArray.empty, .int .i64 0] 26, blkA g1 #[.int .i64 v.kind, .int .i64 v.p, .int .i64 v.q, .string v.str, .int .i64 v.ref] 26, blkA gf #[.func (.func 56) #[.pointer none] #[]] 79, blkA gk #[.int .i64 k.kind, .int .i64 k.p, .int .i64 k.q, .string k.str, .int .i64 k.ref] 26] ?_
  refine h_l 0 rfl [0, 1, 1, 1, 1] (fun _ => (t_loadA 0 #[.int .i64 0, .int .i64 0, .int .i64 0, .string ByteArray.empty, .int .i64 0])) ?_
  refine hp_ 2 [0, 1, 1, 1, 1] (pB g6 0) ?_
  refine h_l 3 rfl [0, 1, 1, 1, 1] (fun _ => (t_load 0 (.int .i64 0))) ?_
  refine h_l 4 rfl [0, 1, 1, 1, 1] (fun _ => (t_cmp (c := false))) ?_
  refine h_stepS 1 ?_
  refine s_vcall (fun _ h => given_s zVl) ?_
  rintro _ rfl
  refine s_nil (xs_held [0, 1, 1, 1, 1] ?_)
  refine hp_ 5 [0, 1, 1, 1, 1] (.bool false) ?_
  refine hp_ 6 [0, 1, 1, 1, 1] (pB g2 0) ?_
  refine h_l 7 rfl [0, 1, 1, 1, 1] (fun _ => (t_load 1 (.int .i64 0))) ?_
  refine h_l 8 rfl [0, 1, 1, 1, 1] (fun _ => (t_cmp (c := true))) ?_
  refine hp_ 9 [0, 1, 1, 1, 1] (.bool true) ?_
  refine h_stepS 10 ?_
  refine s_store 1 #[.int .i64 1, .int .i64 0, .int .i64 0, .int .i64 0, .string ByteArray.empty, .int .i64 0, .int .i64 0, .int .i64 0, .int .i64 0, .string ByteArray.empty, .int .i64 0, (.slice none 0 0), .int .i64 0, .string ByteArray.empty] ?_
  refine s_nil (xs_held [0, 1, 1, 1, 1] ?_)
  refine hp_ 11 [0, 1, 1, 1, 1] (.bool true) ?_
  refine h_doneS ?_
  refine xs_then ?_
  refine k_ret ?_
  refine xs_retBlock ?_
  refine xs_ret ?_
  have hs : nst k v = (giveN zVl, true) := by rw [nst, if_pos (by omega)]
  exact xs_fin [.agg #[.int .i64 1, .int .i64 0, .int .i64 0, .int .i64 0, .string ByteArray.empty, .int .i64 0, .int .i64 0, .int .i64 0, .int .i64 0, .string ByteArray.empty, .int .i64 0, (.slice none 0 0), .int .i64 0, .string ByteArray.empty], .bool true] (blkA gf #[.func (.func 56) #[.pointer none] #[]] 79 :: blkA gk #[.int .i64 k.kind, .int .i64 k.p, .int .i64 k.q, .string k.str, .int .i64 k.ref] 26 :: F) (SI.agg 6 41 1 (SI.tmp 7 SI.nil)) (fun _ h => h.re [4, 4] [2, 2, 2, 2]) ⟨by rw [hs]; rfl, rfl⟩
 ·
  have p7 := of_decide_eq_false c4
  refine k_sr ?_
  refine s_lt t_cmp ?_
  refine sp (.bool (decide (v.kind = 3))) ?_
  refine s_nt ?_
  refine k_cond (decide (v.kind = 3)) (fun c8 => ?_) (fun c8 => ?_)
  ·
   have p9 := of_decide_eq_true c8
   refine k_sr ?_
   refine s_lt (t_loadA 4 #[.int .i64 k.kind, .int .i64 k.p, .int .i64 k.q, .string k.str, .int .i64 k.ref]) ?_
   refine s_vcall (fun _ h => meth_s k) ?_
   rintro _ rfl
   refine s_vcall (fun _ h => given_s (methV k)) ?_
   rintro _ rfl
   refine s_store 0 #[.int .i64 1, .int .i64 ((methV k).kind), .int .i64 ((methV k).p), .int .i64 ((methV k).q), .string ((methV k).str), .int .i64 ((methV k).ref), .int .i64 0, .int .i64 0, .int .i64 0, .string ByteArray.empty, .int .i64 0, (.slice none 0 0), .int .i64 0, .string ByteArray.empty] ?_
   refine sp (.bool true) ?_
   refine s_nt ?_
   refine k_ret ?_
   refine xs_retBlock ?_
   refine xs_ret ?_
   have hs : nst k v = (giveN (methV k), true) := by rw [nst, if_neg (by omega), if_pos (by omega)]
   exact xs_fin [.agg #[.int .i64 1, .int .i64 ((methV k).kind), .int .i64 ((methV k).p), .int .i64 ((methV k).q), .string ((methV k).str), .int .i64 ((methV k).ref), .int .i64 0, .int .i64 0, .int .i64 0, .string ByteArray.empty, .int .i64 0, (.slice none 0 0), .int .i64 0, .string ByteArray.empty], .bool true] (blkA gf #[.func (.func 56) #[.pointer none] #[]] 79 :: blkA gk #[.int .i64 k.kind, .int .i64 k.p, .int .i64 k.q, .string k.str, .int .i64 k.ref] 26 :: F) (SI.agg 6 41 0 (SI.tmp 7 SI.nil)) (fun _ h => h.re [3, 3] [2, 2, 2]) ⟨by rw [hs]; rfl, rfl⟩
  ·
   have p10 := of_decide_eq_false c8
   refine k_skip ?_
   refine xs_block ?_
   refine xs_then ?_
   refine k_sr ?_
   refine s_lt (t_kern (.agg #[.int .i64 0, .int .i64 0, .int .i64 0, .int .i64 0, .string ByteArray.empty, .int .i64 0, .int .i64 0, .int .i64 0, .int .i64 0, .string ByteArray.empty, .int .i64 0, (.slice none 0 0), .int .i64 0, .string ByteArray.empty])) ?_
   refine s_store 0 #[.int .i64 0, .int .i64 0, .int .i64 0, .int .i64 0, .string ByteArray.empty, .int .i64 0, .int .i64 0, .int .i64 0, .int .i64 0, .string ByteArray.empty, .int .i64 0, (.slice none 0 0), .int .i64 0, .string ByteArray.empty] ?_
   refine sp (.bool false) ?_
   refine s_nt ?_
   refine k_ret ?_
   have hs : nst k v = (zNd, false) := by rw [nst, if_neg (by omega), if_neg (by omega)]
   exact xs_fin [.agg #[.int .i64 0, .int .i64 0, .int .i64 0, .int .i64 0, .string ByteArray.empty, .int .i64 0, .int .i64 0, .int .i64 0, .int .i64 0, .string ByteArray.empty, .int .i64 0, (.slice none 0 0), .int .i64 0, .string ByteArray.empty], .bool false] (blkA gf #[.func (.func 56) #[.pointer none] #[]] 79 :: blkA gk #[.int .i64 k.kind, .int .i64 k.p, .int .i64 k.q, .string k.str, .int .i64 k.ref] 26 :: F) (SI.agg 6 41 0 (SI.tmp 7 SI.nil)) (fun _ h => h.re [3, 3] [2, 2, 2]) ⟨by rw [hs]; rfl, rfl⟩
theorem nchain_s {Z : Zone} {F : List Asr} {gf gk : Nat} {k : Vl} (v : Vl) : SF Tryz.prog 59 #[.pointer none, v.v, .string ⟨#[95, 95, 105, 110, 100, 101, 120]⟩, .func (.func 57) #[] #[.pointer (some ⟨gf, 0, none⟩), .pointer (some ⟨gk, 0, none⟩)], .func (.func 60) #[] #[.pointer (some ⟨gk, 0, none⟩)]] Z (blkA gf #[.func (.func 56) #[.pointer none] #[]] 79 :: blkA gk #[.int .i64 k.kind, .int .i64 k.p, .int .i64 k.q, .string k.str, .int .i64 k.ref] 26 :: F) fun r Bs => r = (nix k v).w (.slice none 0 0) ∧ Bs = blkA gf #[.func (.func 56) #[.pointer none] #[]] 79 :: blkA gk #[.int .i64 k.kind, .int .i64 k.p, .int .i64 k.q, .string k.str, .int .i64 k.ref] 26 :: F := by
 refine sf_enter Tryz.func59 46 [(0, .pointer none), (1, .agg #[.int .i64 v.kind, .int .i64 v.p, .int .i64 v.q, .string v.str, .int .i64 v.ref]), (2, .string ⟨#[95, 95, 105, 110, 100, 101, 120]⟩), (3, .func (.func 57) #[] #[pB gf 0, pB gk 0]), (4, .func (.func 60) #[] #[pB gk 0])] (fun w0 => ?_)
 refine k_sr ?_
 refine s_box #[.int .i64 v.kind, .int .i64 v.p, .int .i64 v.q, .string v.str, .int .i64 v.ref] (fun g1 => ?_)
 refine s_alloc (.agg #[.int .i64 0, .int .i64 0, .int .i64 0, .int .i64 0, .string ByteArray.empty, .int .i64 0, .int .i64 0, .int .i64 0, .int .i64 0, .string ByteArray.empty, .int .i64 0, (.slice none 0 0), .int .i64 0, .string ByteArray.empty]) #[.int .i64 0, .int .i64 0, .int .i64 0, .int .i64 0, .string ByteArray.empty, .int .i64 0, .int .i64 0, .int .i64 0, .int .i64 0, .string ByteArray.empty, .int .i64 0, (.slice none 0 0), .int .i64 0, .string ByteArray.empty] (fun g2 => ?_)
 refine s_nt ?_
 refine k_seq ?_
 refine k_sr ?_
 refine sp (.int .i64 0) ?_
 refine s_nt ?_
 refine k_block ?_
 refine k_loop (ι := Nat) (fun i => i ≤ 0) (fun i => [(0, .pointer none), (2, .string ⟨#[95, 95, 105, 110, 100, 101, 120]⟩), (3, .func (.func 57) #[] #[pB gf 0, pB gk 0]), (4, .func (.func 60) #[] #[pB gk 0]), (6, pB g1 0), (10, pB g2 0), (14, .int .i64 (i : Int))]) (fun i => blkA g2 #[.int .i64 0, .int .i64 0, .int .i64 0, .int .i64 0, .string ByteArray.empty, .int .i64 0, .int .i64 0, .int .i64 0, .int .i64 0, .string ByteArray.empty, .int .i64 0, (.slice none 0 0), .int .i64 0, .string ByteArray.empty] 41 :: blkA g1 #[.int .i64 v.kind, .int .i64 v.p, .int .i64 v.q, .string v.str, .int .i64 v.ref] 26 :: blkA gf #[.func (.func 56) #[.pointer none] #[]] 79 :: blkA gk #[.int .i64 k.kind, .int .i64 k.p, .int .i64 k.q, .string k.str, .int .i64 k.ref] 26 :: F) (fun i => 0) 0 (Nat.le_refl _) (sub_of rfl ⟨⟨rfl, rfl⟩, ⟨⟨rfl, rfl⟩, ⟨⟨rfl, rfl⟩, ⟨⟨rfl, rfl⟩, ⟨⟨rfl, rfl⟩, ⟨⟨rfl, rfl⟩, ⟨⟨rfl, rfl⟩, trivial⟩⟩⟩⟩⟩⟩⟩) (fun _ h => h.re [0, 0, 0, 0] []) ?_
 rintro i hi3
 show SK _ _ _ _ _ [(0, .pointer none), (2, .string ⟨#[95, 95, 105, 110, 100, 101, 120]⟩), (3, .func (.func 57) #[] #[.pointer (some ⟨gf, 0, none⟩), .pointer (some ⟨gk, 0, none⟩)]), (4, .func (.func 60) #[] #[.pointer (some ⟨gk, 0, none⟩)]), (6, .pointer (some ⟨g1, 0, none⟩)), (10, .pointer (some ⟨g2, 0, none⟩)), (14, .int .i64 (i : Int))] _ (blkA g2 #[.int .i64 0, .int .i64 0, .int .i64 0, .int .i64 0, .string ByteArray.empty, .int .i64 0, .int .i64 0, .int .i64 0, .int .i64 0, .string ByteArray.empty, .int .i64 0, (.slice none 0 0), .int .i64 0, .string ByteArray.empty] 41 :: blkA g1 #[.int .i64 v.kind, .int .i64 v.p, .int .i64 v.q, .string v.str, .int .i64 v.ref] 26 :: blkA gf #[.func (.func 56) #[.pointer none] #[]] 79 :: blkA gk #[.int .i64 k.kind, .int .i64 k.p, .int .i64 k.q, .string k.str, .int .i64 k.ref] 26 :: F)
 refine k_sr ?_
 refine s_lt (Lt.to t_cmp (congrArg Value.bool (decide_eq_true (by omega) : (decide ((i : Int) < 32)) = true))) ?_
 refine s_nt ?_
 refine k_seq ?_
 refine k_true ?_
 refine k_st ?_
 refine k_seq ?_
 refine k_block ?_
 refine k_sr ?_
 refine sp (.pointer none) ?_
 refine s_lt (t_loadA 1 #[.int .i64 v.kind, .int .i64 v.p, .int .i64 v.q, .string v.str, .int .i64 v.ref]) ?_
 refine sp (.string ⟨#[95, 95, 105, 110, 100, 101, 120]⟩) ?_
 refine s_vcall (fun _ h => nhdl_s v ⟨#[95, 95, 105, 110, 100, 101, 120]⟩) ?_
 rintro _ rfl
 refine s_alloc (.agg #[.int .i64 0, .int .i64 0, .int .i64 0, .string ByteArray.empty, .int .i64 0]) #[.int .i64 0, .int .i64 0, .int .i64 0, .string ByteArray.empty, .int .i64 0] (fun g4 => ?_)
 refine s_store 0 #[.int .i64 0, .int .i64 0, .int .i64 0, .string ByteArray.empty, .int .i64 0] ?_
 refine s_nt ?_
 refine k_seq ?_
 refine k_sr ?_
 refine sp (.func (.func 57) #[] #[pB gf 0, pB gk 0]) ?_
 refine s_lt (t_loadA 2 #[.int .i64 v.kind, .int .i64 v.p, .int .i64 v.q, .string v.str, .int .i64 v.ref]) ?_
 refine s_lt (t_loadA 0 #[.int .i64 0, .int .i64 0, .int .i64 0, .string ByteArray.empty, .int .i64 0]) ?_
 refine s_callL [3, 3] (nstl_s (k := k) v) ?_
 rintro _ _ ⟨rfl, rfl⟩
 refine sp (.tuple #[.agg #[.int .i64 ((nst k v).1.kind), .int .i64 (((nst k v).1.val).kind), .int .i64 (((nst k v).1.val).p), .int .i64 (((nst k v).1.val).q), .string (((nst k v).1.val).str), .int .i64 (((nst k v).1.val).ref), .int .i64 (((nst k v).1.fn).kind), .int .i64 (((nst k v).1.fn).p), .int .i64 (((nst k v).1.fn).q), .string (((nst k v).1.fn).str), .int .i64 (((nst k v).1.fn).ref), (.slice none 0 0), .int .i64 ((nst k v).1.after), .string ((nst k v).1.str)], .bool ((nst k v).2)]) ?_
 refine sp (.agg #[.int .i64 ((nst k v).1.kind), .int .i64 (((nst k v).1.val).kind), .int .i64 (((nst k v).1.val).p), .int .i64 (((nst k v).1.val).q), .string (((nst k v).1.val).str), .int .i64 (((nst k v).1.val).ref), .int .i64 (((nst k v).1.fn).kind), .int .i64 (((nst k v).1.fn).p), .int .i64 (((nst k v).1.fn).q), .string (((nst k v).1.fn).str), .int .i64 (((nst k v).1.fn).ref), (.slice none 0 0), .int .i64 ((nst k v).1.after), .string ((nst k v).1.str)]) ?_
 refine sp (.bool ((nst k v).2)) ?_
 refine s_alloc (.agg #[.int .i64 0, .int .i64 0, .int .i64 0, .int .i64 0, .string ByteArray.empty, .int .i64 0, .int .i64 0, .int .i64 0, .int .i64 0, .string ByteArray.empty, .int .i64 0, (.slice none 0 0), .int .i64 0, .string ByteArray.empty]) #[.int .i64 0, .int .i64 0, .int .i64 0, .int .i64 0, .string ByteArray.empty, .int .i64 0, .int .i64 0, .int .i64 0, .int .i64 0, .string ByteArray.empty, .int .i64 0, (.slice none 0 0), .int .i64 0, .string ByteArray.empty] (fun g5 => ?_)
 refine s_store 0 #[.int .i64 ((nst k v).1.kind), .int .i64 (((nst k v).1.val).kind), .int .i64 (((nst k v).1.val).p), .int .i64 (((nst k v).1.val).q), .string (((nst k v).1.val).str), .int .i64 (((nst k v).1.val).ref), .int .i64 (((nst k v).1.fn).kind), .int .i64 (((nst k v).1.fn).p), .int .i64 (((nst k v).1.fn).q), .string (((nst k v).1.fn).str), .int .i64 (((nst k v).1.fn).ref), (.slice none 0 0), .int .i64 ((nst k v).1.after), .string ((nst k v).1.str)] ?_
 refine sp (.bool ((nst k v).2)) ?_
 refine s_nr ?_
 refine sp (.bool ((nst k v).2)) ?_
 refine s_nt ?_
 refine k_cond ((nst k v).2) (fun c6 => ?_) (fun c6 => ?_)
 ·
  refine k_sr ?_
  refine s_lt (t_loadA 0 #[.int .i64 ((nst k v).1.kind), .int .i64 (((nst k v).1.val).kind), .int .i64 (((nst k v).1.val).p), .int .i64 (((nst k v).1.val).q), .string (((nst k v).1.val).str), .int .i64 (((nst k v).1.val).ref), .int .i64 (((nst k v).1.fn).kind), .int .i64 (((nst k v).1.fn).p), .int .i64 (((nst k v).1.fn).q), .string (((nst k v).1.fn).str), .int .i64 (((nst k v).1.fn).ref), (.slice none 0 0), .int .i64 ((nst k v).1.after), .string ((nst k v).1.str)]) ?_
  refine s_store 4 #[.int .i64 ((nst k v).1.kind), .int .i64 (((nst k v).1.val).kind), .int .i64 (((nst k v).1.val).p), .int .i64 (((nst k v).1.val).q), .string (((nst k v).1.val).str), .int .i64 (((nst k v).1.val).ref), .int .i64 (((nst k v).1.fn).kind), .int .i64 (((nst k v).1.fn).p), .int .i64 (((nst k v).1.fn).q), .string (((nst k v).1.fn).str), .int .i64 (((nst k v).1.fn).ref), (.slice none 0 0), .int .i64 ((nst k v).1.after), .string ((nst k v).1.str)] ?_
  refine s_nt ?_
  refine k_ret ?_
  refine xs_ret ?_
  refine xs_retBlock ?_
  refine xs_ret ?_
  refine xs_ret ?_
  refine xs_retBlock ?_
  refine xs_ret ?_
  have hc : nix k v = (nst k v).1 := if_pos c6
  exact xs_fin [.agg #[.int .i64 ((nst k v).1.kind), .int .i64 (((nst k v).1.val).kind), .int .i64 (((nst k v).1.val).p), .int .i64 (((nst k v).1.val).q), .string (((nst k v).1.val).str), .int .i64 (((nst k v).1.val).ref), .int .i64 (((nst k v).1.fn).kind), .int .i64 (((nst k v).1.fn).p), .int .i64 (((nst k v).1.fn).q), .string (((nst k v).1.fn).str), .int .i64 (((nst k v).1.fn).ref), (.slice none 0 0), .int .i64 ((nst k v).1.after), .string ((nst k v).1.str)]] (blkA gf #[.func (.func 56) #[.pointer none] #[]] 79 :: blkA gk #[.int .i64 k.kind, .int .i64 k.p, .int .i64 k.q, .string k.str, .int .i64 k.ref] 26 :: F) (SI.agg 10 41 4 SI.nil) (fun _ h => h.re [1, 1] [2, 2, 2, 2]) ⟨by rw [hc]; rfl, rfl⟩
 ·
  refine k_st ?_
  refine k_seq ?_
  refine k_block ?_
  refine k_sr ?_
  refine sp (pB g4 0) ?_
  refine s_lt (t_load 3 (.int .i64 0)) ?_
  refine s_lt (t_cmp (c := true)) ?_
  refine sp (.bool true) ?_
  refine s_nt ?_
  refine k_true ?_
  refine k_sr ?_
  refine s_lt (t_loadA 5 #[.int .i64 v.kind, .int .i64 v.p, .int .i64 v.q, .string v.str, .int .i64 v.ref]) ?_
  refine s_vcall (fun _ h => attempt_s v) ?_
  rintro _ rfl
  refine s_vcall (fun _ h => failed_s (attB v.kind)) ?_
  rintro _ rfl
  refine s_store 4 #[.int .i64 3, .int .i64 0, .int .i64 0, .int .i64 0, .string ByteArray.empty, .int .i64 0, .int .i64 0, .int .i64 0, .int .i64 0, .string ByteArray.empty, .int .i64 0, (.slice none 0 0), .int .i64 0, .string (attB v.kind)] ?_
  refine s_nt ?_
  refine k_ret ?_
  refine xs_retBlock ?_
  refine xs_ret ?_
  refine xs_retBlock ?_
  refine xs_ret ?_
  refine xs_ret ?_
  refine xs_retBlock ?_
  refine xs_ret ?_
  have hc : nix k v = failN (attB v.kind) := if_neg (by rw [c6]; decide)
  exact xs_fin [.agg #[.int .i64 3, .int .i64 0, .int .i64 0, .int .i64 0, .string ByteArray.empty, .int .i64 0, .int .i64 0, .int .i64 0, .int .i64 0, .string ByteArray.empty, .int .i64 0, (.slice none 0 0), .int .i64 0, .string (attB v.kind)]] (blkA gf #[.func (.func 56) #[.pointer none] #[]] 79 :: blkA gk #[.int .i64 k.kind, .int .i64 k.p, .int .i64 k.q, .string k.str, .int .i64 k.ref] 26 :: F) (SI.agg 10 41 4 SI.nil) (fun _ h => h.re [1, 1] [2, 2, 2, 2]) ⟨by rw [hc]; rfl, rfl⟩
theorem nindex_s {Z : Zone}  (v : Vl) (k : Vl): SF Tryz.prog 15 #[.pointer none, v.v, k.v] Z [] fun r Bs => r = (nix k v).w (.slice none 0 0) ∧ Bs = [] := by
 refine sf_enter Tryz.func15 17 [(0, .pointer none), (1, .agg #[.int .i64 v.kind, .int .i64 v.p, .int .i64 v.q, .string v.str, .int .i64 v.ref]), (2, .agg #[.int .i64 k.kind, .int .i64 k.p, .int .i64 k.q, .string k.str, .int .i64 k.ref])] (fun w0 => ?_)
 refine k_sr ?_
 refine s_box #[.int .i64 v.kind, .int .i64 v.p, .int .i64 v.q, .string v.str, .int .i64 v.ref] (fun g1 => ?_)
 refine s_box #[.int .i64 k.kind, .int .i64 k.p, .int .i64 k.q, .string k.str, .int .i64 k.ref] (fun g2 => ?_)
 refine s_alloc (.agg #[.int .i64 0, .int .i64 0, .int .i64 0, .int .i64 0, .string ByteArray.empty, .int .i64 0, .int .i64 0, .int .i64 0, .int .i64 0, .string ByteArray.empty, .int .i64 0, (.slice none 0 0), .int .i64 0, .string ByteArray.empty]) #[.int .i64 0, .int .i64 0, .int .i64 0, .int .i64 0, .string ByteArray.empty, .int .i64 0, .int .i64 0, .int .i64 0, .int .i64 0, .string ByteArray.empty, .int .i64 0, (.slice none 0 0), .int .i64 0, .string ByteArray.empty] (fun g3 => ?_)
 refine s_nr ?_
 refine sp (.pointer none) ?_
 refine s_lt (t_clo 56 [.pointer none] []) ?_
 refine s_alloc (.nilFunc) #[.nilFunc] (fun g4 => ?_)
 refine s_store 0 #[.func (.func 56) #[.pointer none] #[]] ?_
 refine s_nr ?_
 refine s_lt (t_clo 57 [] [pB g4 0, pB g2 0]) ?_
 refine sp (.func (.func 57) #[] #[pB g4 0, pB g2 0]) ?_
 refine s_nr ?_
 refine sp (.pointer none) ?_
 refine s_lt (t_loadA 3 #[.int .i64 v.kind, .int .i64 v.p, .int .i64 v.q, .string v.str, .int .i64 v.ref]) ?_
 refine sp (.func (.func 57) #[] #[pB g4 0, pB g2 0]) ?_
 refine s_lt (t_clo 60 [] [pB g2 0]) ?_
 refine s_call [0, 1] (nchain_s (k := k) v) ?_
 rintro _ _ ⟨rfl, rfl⟩
 refine s_store 2 #[.int .i64 ((nix k v).kind), .int .i64 (((nix k v).val).kind), .int .i64 (((nix k v).val).p), .int .i64 (((nix k v).val).q), .string (((nix k v).val).str), .int .i64 (((nix k v).val).ref), .int .i64 (((nix k v).fn).kind), .int .i64 (((nix k v).fn).p), .int .i64 (((nix k v).fn).q), .string (((nix k v).fn).str), .int .i64 (((nix k v).fn).ref), (.slice none 0 0), .int .i64 ((nix k v).after), .string ((nix k v).str)] ?_
 refine s_nt ?_
 refine k_ret ?_
 exact xs_fin [.agg #[.int .i64 ((nix k v).kind), .int .i64 (((nix k v).val).kind), .int .i64 (((nix k v).val).p), .int .i64 (((nix k v).val).q), .string (((nix k v).val).str), .int .i64 (((nix k v).val).ref), .int .i64 (((nix k v).fn).kind), .int .i64 (((nix k v).fn).p), .int .i64 (((nix k v).fn).q), .string (((nix k v).fn).str), .int .i64 (((nix k v).fn).ref), (.slice none 0 0), .int .i64 ((nix k v).after), .string ((nix k v).str)]] [] (SI.agg 6 41 2 SI.nil) (fun _ h => h.re [] [0, 0, 0, 0]) ⟨rfl, rfl⟩
theorem nstored_s {Z : Zone} (v : Vl) : SF Tryz.prog 66 #[v.v, .int .i64 1] Z [] fun r Bs => r = (failN (attB v.kind)).w (.slice none 0 0) ∧ Bs = [] := by
 refine sf_enter Tryz.func66 19 [(0, .agg #[.int .i64 v.kind, .int .i64 v.p, .int .i64 v.q, .string v.str, .int .i64 v.ref]), (1, .int .i64 1)] (fun w0 => ?_)
 refine k_sr ?_
 refine s_box #[.int .i64 v.kind, .int .i64 v.p, .int .i64 v.q, .string v.str, .int .i64 v.ref] (fun g1 => ?_)
 refine s_alloc (.agg #[.int .i64 0, .int .i64 0, .int .i64 0, .int .i64 0, .string ByteArray.empty, .int .i64 0, .int .i64 0, .int .i64 0, .int .i64 0, .string ByteArray.empty, .int .i64 0, (.slice none 0 0), .int .i64 0, .string ByteArray.empty]) #[.int .i64 0, .int .i64 0, .int .i64 0, .int .i64 0, .string ByteArray.empty, .int .i64 0, .int .i64 0, .int .i64 0, .int .i64 0, .string ByteArray.empty, .int .i64 0, (.slice none 0 0), .int .i64 0, .string ByteArray.empty] (fun g2 => ?_)
 refine s_nt ?_
 refine k_seq ?_
 refine k_sr ?_
 refine sp (.int .i64 1) ?_
 refine s_nt ?_
 refine k_block ?_
 refine k_sr ?_
 refine s_lt (t_cmp (c := false)) ?_
 refine sp (.bool false) ?_
 refine s_nt ?_
 refine k_false ?_
 refine k_sr ?_
 refine s_lt (t_cmp (c := false)) ?_
 refine sp (.bool false) ?_
 refine s_nt ?_
 refine k_false ?_
 refine k_sr ?_
 refine s_lt (t_cmp (c := false)) ?_
 refine sp (.bool false) ?_
 refine s_nt ?_
 refine k_false ?_
 refine k_skip ?_
 refine xs_block ?_
 refine xs_then ?_
 refine k_sr ?_
 refine s_lt (t_loadA 1 #[.int .i64 v.kind, .int .i64 v.p, .int .i64 v.q, .string v.str, .int .i64 v.ref]) ?_
 refine s_vcall (fun _ h => attempt_s v) ?_
 rintro _ rfl
 refine s_vcall (fun _ h => failed_s (attB v.kind)) ?_
 rintro _ rfl
 refine s_store 0 #[.int .i64 3, .int .i64 0, .int .i64 0, .int .i64 0, .string ByteArray.empty, .int .i64 0, .int .i64 0, .int .i64 0, .int .i64 0, .string ByteArray.empty, .int .i64 0, (.slice none 0 0), .int .i64 0, .string (attB v.kind)] ?_
 refine s_nt ?_
 refine k_ret ?_
 exact xs_fin [.agg #[.int .i64 3, .int .i64 0, .int .i64 0, .int .i64 0, .string ByteArray.empty, .int .i64 0, .int .i64 0, .int .i64 0, .int .i64 0, .string ByteArray.empty, .int .i64 0, (.slice none 0 0), .int .i64 0, .string (attB v.kind)]] [] (SI.agg 4 41 0 SI.nil) (fun _ h => h.re [] [0, 0]) ⟨rfl, rfl⟩
def nsa (v : Vl) : Nd × Bool := if v.kind = 4 then (failN (attB v.kind), true) else (zNd, false)
theorem nsta_s {Z : Zone} {F : List Asr} {gf gk gs gx : Nat} {k x : Vl} (v : Vl) : SF Tryz.prog 65 #[v.v, zVl.v, .pointer (some ⟨gf, 0, none⟩), .pointer (some ⟨gk, 0, none⟩), .pointer (some ⟨gs, 0, none⟩), .pointer (some ⟨gx, 0, none⟩)] Z (blkA gf #[.func (.func 56) #[.pointer none] #[]] 79 :: blkA gk #[.int .i64 k.kind, .int .i64 k.p, .int .i64 k.q, .string k.str, .int .i64 k.ref] 26 :: blkA gs #[.func (.func 22) #[.pointer none] #[]] 59 :: blkA gx #[.int .i64 x.kind, .int .i64 x.p, .int .i64 x.q, .string x.str, .int .i64 x.ref] 26 :: F) fun r Bs => r = .tuple #[(nsa v).1.w (.slice none 0 0), .bool (nsa v).2] ∧ Bs = blkA gf #[.func (.func 56) #[.pointer none] #[]] 79 :: blkA gk #[.int .i64 k.kind, .int .i64 k.p, .int .i64 k.q, .string k.str, .int .i64 k.ref] 26 :: blkA gs #[.func (.func 22) #[.pointer none] #[]] 59 :: blkA gx #[.int .i64 x.kind, .int .i64 x.p, .int .i64 x.q, .string x.str, .int .i64 x.ref] 26 :: F := by
 refine sf_enter Tryz.func65 39 [(0, .agg #[.int .i64 v.kind, .int .i64 v.p, .int .i64 v.q, .string v.str, .int .i64 v.ref]), (1, .agg #[.int .i64 0, .int .i64 0, .int .i64 0, .string ByteArray.empty, .int .i64 0]), (2, pB gf 0), (3, pB gk 0), (4, pB gs 0), (5, pB gx 0)] (fun w0 => ?_)
 refine k_sr ?_
 refine s_box #[.int .i64 v.kind, .int .i64 v.p, .int .i64 v.q, .string v.str, .int .i64 v.ref] (fun g1 => ?_)
 refine s_box #[.int .i64 0, .int .i64 0, .int .i64 0, .string ByteArray.empty, .int .i64 0] (fun g2 => ?_)
 refine s_alloc (.agg #[.int .i64 0, .int .i64 0, .int .i64 0, .int .i64 0, .string ByteArray.empty, .int .i64 0, .int .i64 0, .int .i64 0, .int .i64 0, .string ByteArray.empty, .int .i64 0, (.slice none 0 0), .int .i64 0, .string ByteArray.empty]) #[.int .i64 0, .int .i64 0, .int .i64 0, .int .i64 0, .string ByteArray.empty, .int .i64 0, .int .i64 0, .int .i64 0, .int .i64 0, .string ByteArray.empty, .int .i64 0, (.slice none 0 0), .int .i64 0, .string ByteArray.empty] (fun g3 => ?_)
 refine sp (.bool false) ?_
 refine s_nt ?_
 refine k_seq ?_
 refine k_sr ?_
 refine sp (pB g1 0) ?_
 refine s_lt (t_load 2 (.int .i64 v.kind)) ?_
 refine s_lt t_cmp ?_
 refine s_nt ?_
 refine k_cond (decide (v.kind ≠ 4)) (fun c4 => ?_) (fun c4 => ?_)
 ·
  have p5 := of_decide_eq_true c4
  refine k_sr ?_
  refine s_lt (t_kern (.agg #[.int .i64 0, .int .i64 0, .int .i64 0, .int .i64 0, .string ByteArray.empty, .int .i64 0, .int .i64 0, .int .i64 0, .int .i64 0, .string ByteArray.empty, .int .i64 0, (.slice none 0 0), .int .i64 0, .string ByteArray.empty])) ?_
  refine s_store 0 #[.int .i64 0, .int .i64 0, .int .i64 0, .int .i64 0, .string ByteArray.empty, .int .i64 0, .int .i64 0, .int .i64 0, .int .i64 0, .string ByteArray.empty, .int .i64 0, (.slice none 0 0), .int .i64 0, .string ByteArray.empty] ?_
  refine sp (.bool false) ?_
  refine s_nt ?_
  refine k_ret ?_
  refine xs_ret ?_
  have hs : nsa v = (zNd, false) := by rw [nsa, if_neg (by omega)]
  exact xs_fin [.agg #[.int .i64 0, .int .i64 0, .int .i64 0, .int .i64 0, .string ByteArray.empty, .int .i64 0, .int .i64 0, .int .i64 0, .int .i64 0, .string ByteArray.empty, .int .i64 0, (.slice none 0 0), .int .i64 0, .string ByteArray.empty], .bool false] (blkA gf #[.func (.func 56) #[.pointer none] #[]] 79 :: blkA gk #[.int .i64 k.kind, .int .i64 k.p, .int .i64 k.q, .string k.str, .int .i64 k.ref] 26 :: blkA gs #[.func (.func 22) #[.pointer none] #[]] 59 :: blkA gx #[.int .i64 x.kind, .int .i64 x.p, .int .i64 x.q, .string x.str, .int .i64 x.ref] 26 :: F) (SI.agg 8 41 0 (SI.tmp 9 SI.nil)) (fun _ h => h.re [3, 3, 3, 3] [4, 4, 4]) ⟨by rw [hs]; rfl, rfl⟩
 ·
  have p6 := Decidable.not_not.1 (of_decide_eq_false c4)
  refine k_st ?_
  refine k_seq ?_
  refine k_sr ?_
  refine s_lt (t_load 3 (.func (.func 56) #[.pointer none] #[])) ?_
  refine s_lt (t_loadA 2 #[.int .i64 v.kind, .int .i64 v.p, .int .i64 v.q, .string v.str, .int .i64 v.ref]) ?_
  refine s_lt (t_loadA 4 #[.int .i64 k.kind, .int .i64 k.p, .int .i64 k.q, .string k.str, .int .i64 k.ref]) ?_
  refine s_vcallL (fun _ h => npget_s v k) ?_
  rintro _ rfl
  refine sp (.tuple #[.agg #[.int .i64 0, .int .i64 0, .int .i64 0, .string ByteArray.empty, .int .i64 0], .int .i64 1]) ?_
  refine sp (.agg #[.int .i64 0, .int .i64 0, .int .i64 0, .string ByteArray.empty, .int .i64 0]) ?_
  refine sp (.int .i64 1) ?_
  refine s_alloc (.agg #[.int .i64 0, .int .i64 0, .int .i64 0, .string ByteArray.empty, .int .i64 0]) #[.int .i64 0, .int .i64 0, .int .i64 0, .string ByteArray.empty, .int .i64 0] (fun g7 => ?_)
  refine s_store 0 #[.int .i64 0, .int .i64 0, .int .i64 0, .string ByteArray.empty, .int .i64 0] ?_
  refine sp (.int .i64 1) ?_
  refine s_nr ?_
  refine sp (pB g7 0) ?_
  refine s_lt (t_load 0 (.int .i64 0)) ?_
  refine s_lt (t_cmp (c := true)) ?_
  refine sp (.bool true) ?_
  refine sp (pB g2 0) ?_
  refine s_lt (t_load 2 (.int .i64 0)) ?_
  refine s_lt (t_cmp (c := false)) ?_
  refine sp (.bool false) ?_
  refine s_nt ?_
  refine k_false ?_
  refine k_st ?_
  refine k_seq ?_
  refine k_held [blkA g7 #[.int .i64 0, .int .i64 0, .int .i64 0, .string ByteArray.empty, .int .i64 0] 26, blkA g2 #[.int .i64 0, .int .i64 0, .int .i64 0, .string ByteArray.empty, .int .i64 0] 26, blkA g1 #[.int .i64 v.kind, .int .i64 v.p, .int .i64 v.q, .string v.str, .int .i64 v.ref] 26, blkA gf #[.func (.func 56) #[.pointer none] #[]] 79, blkA gk #[.int .i64 k.kind, .int .i64 k.p, .int .i64 k.q, .string k.str, .int .i64 k.ref] 26, blkA gs #[.func (.func 22) #[.pointer none] #[]] 59, blkA gx #[.int .i64 x.kind, .int .i64 x.p, .int .i64 x.q, .string x.str, .int .i64 x.ref] 26] ?_
  refine h_l 0 rfl [0, 1, 1, 1, 1, 1, 1] (fun _ => (t_loadA 2 #[.int .i64 v.kind, .int .i64 v.p, .int .i64 v.q, .string v.str, .int .i64 v.ref])) ?_
  refine h_l 1 rfl [0, 1, 1, 1, 1, 1, 1] (fun _ => (t_load 5 (.func (.func 22) #[.pointer none] #[]))) ?_
  refine h_l 2 rfl [0, 1, 1, 1, 1, 1, 1] (fun _ => (t_loadA 2 #[.int .i64 v.kind, .int .i64 v.p, .int .i64 v.q, .string v.str, .int .i64 v.ref])) ?_
  refine h_l 3 rfl [0, 1, 1, 1, 1, 1, 1] (fun _ => (t_loadA 4 #[.int .i64 k.kind, .int .i64 k.p, .int .i64 k.q, .string k.str, .int .i64 k.ref])) ?_
  refine h_l 4 rfl [0, 1, 1, 1, 1, 1, 1] (fun _ => (t_loadA 6 #[.int .i64 x.kind, .int .i64 x.p, .int .i64 x.q, .string x.str, .int .i64 x.ref])) ?_
  refine h_stepS 5 ?_
  refine s_vcallL (fun _ h => npset_s v k x) ?_
  rintro _ rfl
  refine s_nil (xs_held [0, 1, 1, 1, 1, 1, 1] ?_)
  refine h_stepS 6 ?_
  refine s_vcall (fun _ h => nstored_s v) ?_
  rintro _ rfl
  refine s_nil (xs_held [0, 1, 1, 1, 1, 1, 1] ?_)
  refine h_stepS 7 ?_
  refine s_store 1 #[.int .i64 ((failN (attB v.kind)).kind), .int .i64 (((failN (attB v.kind)).val).kind), .int .i64 (((failN (attB v.kind)).val).p), .int .i64 (((failN (attB v.kind)).val).q), .string (((failN (attB v.kind)).val).str), .int .i64 (((failN (attB v.kind)).val).ref), .int .i64 (((failN (attB v.kind)).fn).kind), .int .i64 (((failN (attB v.kind)).fn).p), .int .i64 (((failN (attB v.kind)).fn).q), .string (((failN (attB v.kind)).fn).str), .int .i64 (((failN (attB v.kind)).fn).ref), (.slice none 0 0), .int .i64 ((failN (attB v.kind)).after), .string ((failN (attB v.kind)).str)] ?_
  refine s_nil (xs_held [0, 1, 1, 1, 1, 1, 1] ?_)
  refine hp_ 8 [0, 1, 1, 1, 1, 1, 1] (.bool true) ?_
  refine h_doneS ?_
  refine xs_then ?_
  refine k_ret ?_
  have hs : nsa v = (failN (attB v.kind), true) := by rw [nsa, if_pos (by omega)]
  exact xs_fin [.agg #[.int .i64 ((failN (attB v.kind)).kind), .int .i64 (((failN (attB v.kind)).val).kind), .int .i64 (((failN (attB v.kind)).val).p), .int .i64 (((failN (attB v.kind)).val).q), .string (((failN (attB v.kind)).val).str), .int .i64 (((failN (attB v.kind)).val).ref), .int .i64 (((failN (attB v.kind)).fn).kind), .int .i64 (((failN (attB v.kind)).fn).p), .int .i64 (((failN (attB v.kind)).fn).q), .string (((failN (attB v.kind)).fn).str), .int .i64 (((failN (attB v.kind)).fn).ref), (.slice none 0 0), .int .i64 ((failN (attB v.kind)).after), .string ((failN (attB v.kind)).str)], .bool true] (blkA gf #[.func (.func 56) #[.pointer none] #[]] 79 :: blkA gk #[.int .i64 k.kind, .int .i64 k.p, .int .i64 k.q, .string k.str, .int .i64 k.ref] 26 :: blkA gs #[.func (.func 22) #[.pointer none] #[]] 59 :: blkA gx #[.int .i64 x.kind, .int .i64 x.p, .int .i64 x.q, .string x.str, .int .i64 x.ref] 26 :: F) (SI.agg 8 41 1 (SI.tmp 9 SI.nil)) (fun _ h => h.re [4, 4, 4, 4] [4, 4, 4, 4]) ⟨by rw [hs]; rfl, rfl⟩
theorem nchainA_s {Z : Zone} {F : List Asr} {gf gk gs gx : Nat} {k x : Vl} (v : Vl) : SF Tryz.prog 59 #[.pointer none, v.v, .string ⟨#[95, 95, 110, 101, 119, 105, 110, 100, 101, 120]⟩, .func (.func 65) #[] #[.pointer (some ⟨gf, 0, none⟩), .pointer (some ⟨gk, 0, none⟩), .pointer (some ⟨gs, 0, none⟩), .pointer (some ⟨gx, 0, none⟩)], .func (.func 67) #[] #[.pointer (some ⟨gk, 0, none⟩), .pointer (some ⟨gx, 0, none⟩)]] Z (blkA gf #[.func (.func 56) #[.pointer none] #[]] 79 :: blkA gk #[.int .i64 k.kind, .int .i64 k.p, .int .i64 k.q, .string k.str, .int .i64 k.ref] 26 :: blkA gs #[.func (.func 22) #[.pointer none] #[]] 59 :: blkA gx #[.int .i64 x.kind, .int .i64 x.p, .int .i64 x.q, .string x.str, .int .i64 x.ref] 26 :: F) fun r Bs => r = (failN (attB v.kind)).w (.slice none 0 0) ∧ Bs = blkA gf #[.func (.func 56) #[.pointer none] #[]] 79 :: blkA gk #[.int .i64 k.kind, .int .i64 k.p, .int .i64 k.q, .string k.str, .int .i64 k.ref] 26 :: blkA gs #[.func (.func 22) #[.pointer none] #[]] 59 :: blkA gx #[.int .i64 x.kind, .int .i64 x.p, .int .i64 x.q, .string x.str, .int .i64 x.ref] 26 :: F := by
 refine sf_enter Tryz.func59 46 [(0, .pointer none), (1, .agg #[.int .i64 v.kind, .int .i64 v.p, .int .i64 v.q, .string v.str, .int .i64 v.ref]), (2, .string ⟨#[95, 95, 110, 101, 119, 105, 110, 100, 101, 120]⟩), (3, .func (.func 65) #[] #[pB gf 0, pB gk 0, pB gs 0, pB gx 0]), (4, .func (.func 67) #[] #[pB gk 0, pB gx 0])] (fun w0 => ?_)
 refine k_sr ?_
 refine s_box #[.int .i64 v.kind, .int .i64 v.p, .int .i64 v.q, .string v.str, .int .i64 v.ref] (fun g1 => ?_)
 refine s_alloc (.agg #[.int .i64 0, .int .i64 0, .int .i64 0, .int .i64 0, .string ByteArray.empty, .int .i64 0, .int .i64 0, .int .i64 0, .int .i64 0, .string ByteArray.empty, .int .i64 0, (.slice none 0 0), .int .i64 0, .string ByteArray.empty]) #[.int .i64 0, .int .i64 0, .int .i64 0, .int .i64 0, .string ByteArray.empty, .int .i64 0, .int .i64 0, .int .i64 0, .int .i64 0, .string ByteArray.empty, .int .i64 0, (.slice none 0 0), .int .i64 0, .string ByteArray.empty] (fun g2 => ?_)
 refine s_nt ?_
 refine k_seq ?_
 refine k_sr ?_
 refine sp (.int .i64 0) ?_
 refine s_nt ?_
 refine k_block ?_
 refine k_loop (ι := Nat) (fun i => i ≤ 0) (fun i => [(0, .pointer none), (2, .string ⟨#[95, 95, 110, 101, 119, 105, 110, 100, 101, 120]⟩), (3, .func (.func 65) #[] #[pB gf 0, pB gk 0, pB gs 0, pB gx 0]), (4, .func (.func 67) #[] #[pB gk 0, pB gx 0]), (6, pB g1 0), (10, pB g2 0), (14, .int .i64 (i : Int))]) (fun i => blkA g2 #[.int .i64 0, .int .i64 0, .int .i64 0, .int .i64 0, .string ByteArray.empty, .int .i64 0, .int .i64 0, .int .i64 0, .int .i64 0, .string ByteArray.empty, .int .i64 0, (.slice none 0 0), .int .i64 0, .string ByteArray.empty] 41 :: blkA g1 #[.int .i64 v.kind, .int .i64 v.p, .int .i64 v.q, .string v.str, .int .i64 v.ref] 26 :: blkA gf #[.func (.func 56) #[.pointer none] #[]] 79 :: blkA gk #[.int .i64 k.kind, .int .i64 k.p, .int .i64 k.q, .string k.str, .int .i64 k.ref] 26 :: blkA gs #[.func (.func 22) #[.pointer none] #[]] 59 :: blkA gx #[.int .i64 x.kind, .int .i64 x.p, .int .i64 x.q, .string x.str, .int .i64 x.ref] 26 :: F) (fun i => 0) 0 (Nat.le_refl _) (sub_of rfl ⟨⟨rfl, rfl⟩, ⟨⟨rfl, rfl⟩, ⟨⟨rfl, rfl⟩, ⟨⟨rfl, rfl⟩, ⟨⟨rfl, rfl⟩, ⟨⟨rfl, rfl⟩, ⟨⟨rfl, rfl⟩, trivial⟩⟩⟩⟩⟩⟩⟩) (fun _ h => h.re [0, 0, 0, 0, 0, 0] []) ?_
 rintro i hi3
 show SK _ _ _ _ _ [(0, .pointer none), (2, .string ⟨#[95, 95, 110, 101, 119, 105, 110, 100, 101, 120]⟩), (3, .func (.func 65) #[] #[.pointer (some ⟨gf, 0, none⟩), .pointer (some ⟨gk, 0, none⟩), .pointer (some ⟨gs, 0, none⟩), .pointer (some ⟨gx, 0, none⟩)]), (4, .func (.func 67) #[] #[.pointer (some ⟨gk, 0, none⟩), .pointer (some ⟨gx, 0, none⟩)]), (6, .pointer (some ⟨g1, 0, none⟩)), (10, .pointer (some ⟨g2, 0, none⟩)), (14, .int .i64 (i : Int))] _ (blkA g2 #[.int .i64 0, .int .i64 0, .int .i64 0, .int .i64 0, .string ByteArray.empty, .int .i64 0, .int .i64 0, .int .i64 0, .int .i64 0, .string ByteArray.empty, .int .i64 0, (.slice none 0 0), .int .i64 0, .string ByteArray.empty] 41 :: blkA g1 #[.int .i64 v.kind, .int .i64 v.p, .int .i64 v.q, .string v.str, .int .i64 v.ref] 26 :: blkA gf #[.func (.func 56) #[.pointer none] #[]] 79 :: blkA gk #[.int .i64 k.kind, .int .i64 k.p, .int .i64 k.q, .string k.str, .int .i64 k.ref] 26 :: blkA gs #[.func (.func 22) #[.pointer none] #[]] 59 :: blkA gx #[.int .i64 x.kind, .int .i64 x.p, .int .i64 x.q, .string x.str, .int .i64 x.ref] 26 :: F)
 refine k_sr ?_
 refine s_lt (Lt.to t_cmp (congrArg Value.bool (decide_eq_true (by omega) : (decide ((i : Int) < 32)) = true))) ?_
 refine s_nt ?_
 refine k_seq ?_
 refine k_true ?_
 refine k_st ?_
 refine k_seq ?_
 refine k_block ?_
 refine k_sr ?_
 refine sp (.pointer none) ?_
 refine s_lt (t_loadA 1 #[.int .i64 v.kind, .int .i64 v.p, .int .i64 v.q, .string v.str, .int .i64 v.ref]) ?_
 refine sp (.string ⟨#[95, 95, 110, 101, 119, 105, 110, 100, 101, 120]⟩) ?_
 refine s_vcall (fun _ h => nhdl_s v ⟨#[95, 95, 110, 101, 119, 105, 110, 100, 101, 120]⟩) ?_
 rintro _ rfl
 refine s_alloc (.agg #[.int .i64 0, .int .i64 0, .int .i64 0, .string ByteArray.empty, .int .i64 0]) #[.int .i64 0, .int .i64 0, .int .i64 0, .string ByteArray.empty, .int .i64 0] (fun g4 => ?_)
 refine s_store 0 #[.int .i64 0, .int .i64 0, .int .i64 0, .string ByteArray.empty, .int .i64 0] ?_
 refine s_nt ?_
 refine k_seq ?_
 refine k_sr ?_
 refine sp (.func (.func 65) #[] #[pB gf 0, pB gk 0, pB gs 0, pB gx 0]) ?_
 refine s_lt (t_loadA 2 #[.int .i64 v.kind, .int .i64 v.p, .int .i64 v.q, .string v.str, .int .i64 v.ref]) ?_
 refine s_lt (t_loadA 0 #[.int .i64 0, .int .i64 0, .int .i64 0, .string ByteArray.empty, .int .i64 0]) ?_
 refine s_callL [3, 3, 3, 3] (nsta_s (k := k) (x := x) v) ?_
 rintro _ _ ⟨rfl, rfl⟩
 refine sp (.tuple #[.agg #[.int .i64 ((nsa v).1.kind), .int .i64 (((nsa v).1.val).kind), .int .i64 (((nsa v).1.val).p), .int .i64 (((nsa v).1.val).q), .string (((nsa v).1.val).str), .int .i64 (((nsa v).1.val).ref), .int .i64 (((nsa v).1.fn).kind), .int .i64 (((nsa v).1.fn).p), .int .i64 (((nsa v).1.fn).q), .string (((nsa v).1.fn).str), .int .i64 (((nsa v).1.fn).ref), (.slice none 0 0), .int .i64 ((nsa v).1.after), .string ((nsa v).1.str)], .bool ((nsa v).2)]) ?_
 refine sp (.agg #[.int .i64 ((nsa v).1.kind), .int .i64 (((nsa v).1.val).kind), .int .i64 (((nsa v).1.val).p), .int .i64 (((nsa v).1.val).q), .string (((nsa v).1.val).str), .int .i64 (((nsa v).1.val).ref), .int .i64 (((nsa v).1.fn).kind), .int .i64 (((nsa v).1.fn).p), .int .i64 (((nsa v).1.fn).q), .string (((nsa v).1.fn).str), .int .i64 (((nsa v).1.fn).ref), (.slice none 0 0), .int .i64 ((nsa v).1.after), .string ((nsa v).1.str)]) ?_
 refine sp (.bool ((nsa v).2)) ?_
 refine s_alloc (.agg #[.int .i64 0, .int .i64 0, .int .i64 0, .int .i64 0, .string ByteArray.empty, .int .i64 0, .int .i64 0, .int .i64 0, .int .i64 0, .string ByteArray.empty, .int .i64 0, (.slice none 0 0), .int .i64 0, .string ByteArray.empty]) #[.int .i64 0, .int .i64 0, .int .i64 0, .int .i64 0, .string ByteArray.empty, .int .i64 0, .int .i64 0, .int .i64 0, .int .i64 0, .string ByteArray.empty, .int .i64 0, (.slice none 0 0), .int .i64 0, .string ByteArray.empty] (fun g5 => ?_)
 refine s_store 0 #[.int .i64 ((nsa v).1.kind), .int .i64 (((nsa v).1.val).kind), .int .i64 (((nsa v).1.val).p), .int .i64 (((nsa v).1.val).q), .string (((nsa v).1.val).str), .int .i64 (((nsa v).1.val).ref), .int .i64 (((nsa v).1.fn).kind), .int .i64 (((nsa v).1.fn).p), .int .i64 (((nsa v).1.fn).q), .string (((nsa v).1.fn).str), .int .i64 (((nsa v).1.fn).ref), (.slice none 0 0), .int .i64 ((nsa v).1.after), .string ((nsa v).1.str)] ?_
 refine sp (.bool ((nsa v).2)) ?_
 refine s_nr ?_
 refine sp (.bool ((nsa v).2)) ?_
 refine s_nt ?_
 refine k_cond ((nsa v).2) (fun c6 => ?_) (fun c6 => ?_)
 ·
  refine k_sr ?_
  refine s_lt (t_loadA 0 #[.int .i64 ((nsa v).1.kind), .int .i64 (((nsa v).1.val).kind), .int .i64 (((nsa v).1.val).p), .int .i64 (((nsa v).1.val).q), .string (((nsa v).1.val).str), .int .i64 (((nsa v).1.val).ref), .int .i64 (((nsa v).1.fn).kind), .int .i64 (((nsa v).1.fn).p), .int .i64 (((nsa v).1.fn).q), .string (((nsa v).1.fn).str), .int .i64 (((nsa v).1.fn).ref), (.slice none 0 0), .int .i64 ((nsa v).1.after), .string ((nsa v).1.str)]) ?_
  refine s_store 6 #[.int .i64 ((nsa v).1.kind), .int .i64 (((nsa v).1.val).kind), .int .i64 (((nsa v).1.val).p), .int .i64 (((nsa v).1.val).q), .string (((nsa v).1.val).str), .int .i64 (((nsa v).1.val).ref), .int .i64 (((nsa v).1.fn).kind), .int .i64 (((nsa v).1.fn).p), .int .i64 (((nsa v).1.fn).q), .string (((nsa v).1.fn).str), .int .i64 (((nsa v).1.fn).ref), (.slice none 0 0), .int .i64 ((nsa v).1.after), .string ((nsa v).1.str)] ?_
  refine s_nt ?_
  refine k_ret ?_
  refine xs_ret ?_
  refine xs_retBlock ?_
  refine xs_ret ?_
  refine xs_ret ?_
  refine xs_retBlock ?_
  refine xs_ret ?_
  have hc : (nsa v).1 = failN (attB v.kind) := by have h0 := c6; unfold nsa at h0 ⊢; by_cases h4 : v.kind = 4; rw [if_pos h4]; rw [if_neg h4] at h0; cases h0
  exact xs_fin [.agg #[.int .i64 ((nsa v).1.kind), .int .i64 (((nsa v).1.val).kind), .int .i64 (((nsa v).1.val).p), .int .i64 (((nsa v).1.val).q), .string (((nsa v).1.val).str), .int .i64 (((nsa v).1.val).ref), .int .i64 (((nsa v).1.fn).kind), .int .i64 (((nsa v).1.fn).p), .int .i64 (((nsa v).1.fn).q), .string (((nsa v).1.fn).str), .int .i64 (((nsa v).1.fn).ref), (.slice none 0 0), .int .i64 ((nsa v).1.after), .string ((nsa v).1.str)]] (blkA gf #[.func (.func 56) #[.pointer none] #[]] 79 :: blkA gk #[.int .i64 k.kind, .int .i64 k.p, .int .i64 k.q, .string k.str, .int .i64 k.ref] 26 :: blkA gs #[.func (.func 22) #[.pointer none] #[]] 59 :: blkA gx #[.int .i64 x.kind, .int .i64 x.p, .int .i64 x.q, .string x.str, .int .i64 x.ref] 26 :: F) (SI.agg 10 41 6 SI.nil) (fun _ h => h.re [1, 1, 1, 1] [4, 4, 4, 4]) ⟨by rw [← hc]; rfl, rfl⟩
 ·
  refine k_st ?_
  refine k_seq ?_
  refine k_block ?_
  refine k_sr ?_
  refine sp (pB g4 0) ?_
  refine s_lt (t_load 5 (.int .i64 0)) ?_
  refine s_lt (t_cmp (c := true)) ?_
  refine sp (.bool true) ?_
  refine s_nt ?_
  refine k_true ?_
  refine k_sr ?_
  refine s_lt (t_loadA 7 #[.int .i64 v.kind, .int .i64 v.p, .int .i64 v.q, .string v.str, .int .i64 v.ref]) ?_
  refine s_vcall (fun _ h => attempt_s v) ?_
  rintro _ rfl
  refine s_vcall (fun _ h => failed_s (attB v.kind)) ?_
  rintro _ rfl
  refine s_store 6 #[.int .i64 3, .int .i64 0, .int .i64 0, .int .i64 0, .string ByteArray.empty, .int .i64 0, .int .i64 0, .int .i64 0, .int .i64 0, .string ByteArray.empty, .int .i64 0, (.slice none 0 0), .int .i64 0, .string (attB v.kind)] ?_
  refine s_nt ?_
  refine k_ret ?_
  refine xs_retBlock ?_
  refine xs_ret ?_
  refine xs_retBlock ?_
  refine xs_ret ?_
  refine xs_ret ?_
  refine xs_retBlock ?_
  refine xs_ret ?_
  exact xs_fin [.agg #[.int .i64 3, .int .i64 0, .int .i64 0, .int .i64 0, .string ByteArray.empty, .int .i64 0, .int .i64 0, .int .i64 0, .int .i64 0, .string ByteArray.empty, .int .i64 0, (.slice none 0 0), .int .i64 0, .string (attB v.kind)]] (blkA gf #[.func (.func 56) #[.pointer none] #[]] 79 :: blkA gk #[.int .i64 k.kind, .int .i64 k.p, .int .i64 k.q, .string k.str, .int .i64 k.ref] 26 :: blkA gs #[.func (.func 22) #[.pointer none] #[]] 59 :: blkA gx #[.int .i64 x.kind, .int .i64 x.p, .int .i64 x.q, .string x.str, .int .i64 x.ref] 26 :: F) (SI.agg 10 41 6 SI.nil) (fun _ h => h.re [1, 1, 1, 1] [4, 4, 4, 4]) ⟨rfl, rfl⟩
theorem nassign_s {Z : Zone}  (v : Vl) (k : Vl) (x : Vl): SF Tryz.prog 17 #[.pointer none, v.v, k.v, x.v] Z [] fun r Bs => r = (failN (attB v.kind)).w (.slice none 0 0) ∧ Bs = [] := by
 refine sf_enter Tryz.func17 22 [(0, .pointer none), (1, .agg #[.int .i64 v.kind, .int .i64 v.p, .int .i64 v.q, .string v.str, .int .i64 v.ref]), (2, .agg #[.int .i64 k.kind, .int .i64 k.p, .int .i64 k.q, .string k.str, .int .i64 k.ref]), (3, .agg #[.int .i64 x.kind, .int .i64 x.p, .int .i64 x.q, .string x.str, .int .i64 x.ref])] (fun w0 => ?_)
 refine k_sr ?_
 refine s_box #[.int .i64 v.kind, .int .i64 v.p, .int .i64 v.q, .string v.str, .int .i64 v.ref] (fun g1 => ?_)
 refine s_box #[.int .i64 k.kind, .int .i64 k.p, .int .i64 k.q, .string k.str, .int .i64 k.ref] (fun g2 => ?_)
 refine s_box #[.int .i64 x.kind, .int .i64 x.p, .int .i64 x.q, .string x.str, .int .i64 x.ref] (fun g3 => ?_)
 refine s_alloc (.agg #[.int .i64 0, .int .i64 0, .int .i64 0, .int .i64 0, .string ByteArray.empty, .int .i64 0, .int .i64 0, .int .i64 0, .int .i64 0, .string ByteArray.empty, .int .i64 0, (.slice none 0 0), .int .i64 0, .string ByteArray.empty]) #[.int .i64 0, .int .i64 0, .int .i64 0, .int .i64 0, .string ByteArray.empty, .int .i64 0, .int .i64 0, .int .i64 0, .int .i64 0, .string ByteArray.empty, .int .i64 0, (.slice none 0 0), .int .i64 0, .string ByteArray.empty] (fun g4 => ?_)
 refine s_nr ?_
 refine sp (.pointer none) ?_
 refine s_lt (t_clo 56 [.pointer none] []) ?_
 refine sp (.pointer none) ?_
 refine s_lt (t_clo 22 [.pointer none] []) ?_
 refine s_alloc (.nilFunc) #[.nilFunc] (fun g5 => ?_)
 refine s_alloc (.nilFunc) #[.nilFunc] (fun g6 => ?_)
 refine s_store 1 #[.func (.func 56) #[.pointer none] #[]] ?_
 refine s_store 0 #[.func (.func 22) #[.pointer none] #[]] ?_
 refine s_nr ?_
 refine s_lt (t_clo 65 [] [pB g5 0, pB g2 0, pB g6 0, pB g3 0]) ?_
 refine sp (.func (.func 65) #[] #[pB g5 0, pB g2 0, pB g6 0, pB g3 0]) ?_
 refine s_nr ?_
 refine sp (.pointer none) ?_
 refine s_lt (t_loadA 5 #[.int .i64 v.kind, .int .i64 v.p, .int .i64 v.q, .string v.str, .int .i64 v.ref]) ?_
 refine sp (.func (.func 65) #[] #[pB g5 0, pB g2 0, pB g6 0, pB g3 0]) ?_
 refine s_lt (t_clo 67 [] [pB g2 0, pB g3 0]) ?_
 refine s_call [1, 3, 0, 1] (nchainA_s (k := k) (x := x) v) ?_
 rintro _ _ ⟨rfl, rfl⟩
 refine s_store 4 #[.int .i64 ((failN (attB v.kind)).kind), .int .i64 (((failN (attB v.kind)).val).kind), .int .i64 (((failN (attB v.kind)).val).p), .int .i64 (((failN (attB v.kind)).val).q), .string (((failN (attB v.kind)).val).str), .int .i64 (((failN (attB v.kind)).val).ref), .int .i64 (((failN (attB v.kind)).fn).kind), .int .i64 (((failN (attB v.kind)).fn).p), .int .i64 (((failN (attB v.kind)).fn).q), .string (((failN (attB v.kind)).fn).str), .int .i64 (((failN (attB v.kind)).fn).ref), (.slice none 0 0), .int .i64 ((failN (attB v.kind)).after), .string ((failN (attB v.kind)).str)] ?_
 refine s_nt ?_
 refine k_ret ?_
 exact xs_fin [.agg #[.int .i64 ((failN (attB v.kind)).kind), .int .i64 (((failN (attB v.kind)).val).kind), .int .i64 (((failN (attB v.kind)).val).p), .int .i64 (((failN (attB v.kind)).val).q), .string (((failN (attB v.kind)).val).str), .int .i64 (((failN (attB v.kind)).val).ref), .int .i64 (((failN (attB v.kind)).fn).kind), .int .i64 (((failN (attB v.kind)).fn).p), .int .i64 (((failN (attB v.kind)).fn).q), .string (((failN (attB v.kind)).fn).str), .int .i64 (((failN (attB v.kind)).fn).ref), (.slice none 0 0), .int .i64 ((failN (attB v.kind)).after), .string ((failN (attB v.kind)).str)]] [] (SI.agg 8 41 4 SI.nil) (fun _ h => h.re [] [0, 0, 0, 0, 0, 0]) ⟨rfl, rfl⟩
theorem nrindex_s {Z : Zone} (v : Vl) (k : Vl) : SF Tryz.prog 16 #[.pointer none, v.v, k.v] Z [] fun r Bs => r = (nix k v).w (.slice none 0 0) ∧ Bs = [] := by
 refine sf_enter Tryz.func16 76 [(0, .pointer none), (1, .agg #[.int .i64 v.kind, .int .i64 v.p, .int .i64 v.q, .string v.str, .int .i64 v.ref]), (2, .agg #[.int .i64 k.kind, .int .i64 k.p, .int .i64 k.q, .string k.str, .int .i64 k.ref])] (fun w0 => ?_)
 refine k_sr ?_
 refine s_box #[.int .i64 v.kind, .int .i64 v.p, .int .i64 v.q, .string v.str, .int .i64 v.ref] (fun g1 => ?_)
 refine s_box #[.int .i64 k.kind, .int .i64 k.p, .int .i64 k.q, .string k.str, .int .i64 k.ref] (fun g2 => ?_)
 refine s_alloc (.agg #[.int .i64 0, .int .i64 0, .int .i64 0, .int .i64 0, .string ByteArray.empty, .int .i64 0, .int .i64 0, .int .i64 0, .int .i64 0, .string ByteArray.empty, .int .i64 0, (.slice none 0 0), .int .i64 0, .string ByteArray.empty]) #[.int .i64 0, .int .i64 0, .int .i64 0, .int .i64 0, .string ByteArray.empty, .int .i64 0, .int .i64 0, .int .i64 0, .int .i64 0, .string ByteArray.empty, .int .i64 0, (.slice none 0 0), .int .i64 0, .string ByteArray.empty] (fun g3 => ?_)
 refine s_nt ?_
 refine k_seq ?_
 refine k_sr ?_
 refine sp (.int .i64 0) ?_
 refine s_nt ?_
 refine k_block ?_
 refine k_loop (ι := Nat) (fun i => i ≤ 0) (fun i => [(0, .pointer none), (4, pB g1 0), (5, pB g2 0), (6, pB g3 0), (7, .int .i64 (i : Int))]) (fun i => [blkA g3 #[.int .i64 0, .int .i64 0, .int .i64 0, .int .i64 0, .string ByteArray.empty, .int .i64 0, .int .i64 0, .int .i64 0, .int .i64 0, .string ByteArray.empty, .int .i64 0, (.slice none 0 0), .int .i64 0, .string ByteArray.empty] 41, blkA g2 #[.int .i64 k.kind, .int .i64 k.p, .int .i64 k.q, .string k.str, .int .i64 k.ref] 26, blkA g1 #[.int .i64 v.kind, .int .i64 v.p, .int .i64 v.q, .string v.str, .int .i64 v.ref] 26]) (fun i => 0) 0 (Nat.le_refl _) (sub_of rfl ⟨⟨rfl, rfl⟩, ⟨⟨rfl, rfl⟩, ⟨⟨rfl, rfl⟩, ⟨⟨rfl, rfl⟩, ⟨⟨rfl, rfl⟩, trivial⟩⟩⟩⟩⟩) (fun _ h => h.re [0, 0, 0] []) ?_
 rintro i hi4
 show SK _ _ _ _ _ [(0, .pointer none), (4, .pointer (some ⟨g1, 0, none⟩)), (5, .pointer (some ⟨g2, 0, none⟩)), (6, .pointer (some ⟨g3, 0, none⟩)), (7, .int .i64 (i : Int))] _ [blkA g3 #[.int .i64 0, .int .i64 0, .int .i64 0, .int .i64 0, .string ByteArray.empty, .int .i64 0, .int .i64 0, .int .i64 0, .int .i64 0, .string ByteArray.empty, .int .i64 0, (.slice none 0 0), .int .i64 0, .string ByteArray.empty] 41, blkA g2 #[.int .i64 k.kind, .int .i64 k.p, .int .i64 k.q, .string k.str, .int .i64 k.ref] 26, blkA g1 #[.int .i64 v.kind, .int .i64 v.p, .int .i64 v.q, .string v.str, .int .i64 v.ref] 26]
 refine k_seq ?_
 refine k_sr ?_
 refine sp (.int .i64 (i : Int)) ?_
 refine s_lt (Lt.to t_cmp (congrArg Value.bool (decide_eq_true (by omega) : (decide ((i : Int) < 32)) = true))) ?_
 refine s_nt ?_
 refine k_true ?_
 refine k_st ?_
 refine k_seq ?_
 refine k_block ?_
 refine k_seq ?_
 refine k_sr ?_
 refine sp (pB g1 0) ?_
 refine s_lt (t_load 2 (.int .i64 v.kind)) ?_
 refine s_lt t_cmp ?_
 refine s_nt ?_
 refine k_cond (decide (v.kind = 4)) (fun c5 => ?_) (fun c5 => ?_)
 ·
  have p6 := of_decide_eq_true c5
  refine k_sr ?_
  refine sp (.pointer none) ?_
  refine s_lt (t_loadA 2 #[.int .i64 v.kind, .int .i64 v.p, .int .i64 v.q, .string v.str, .int .i64 v.ref]) ?_
  refine s_lt (t_loadA 1 #[.int .i64 k.kind, .int .i64 k.p, .int .i64 k.q, .string k.str, .int .i64 k.ref]) ?_
  refine s_vcall (fun _ h => nrget_s v k) ?_
  rintro _ rfl
  refine sp (.tuple #[.agg #[.int .i64 0, .int .i64 0, .int .i64 0, .string ByteArray.empty, .int .i64 0], .int .i64 1]) ?_
  refine sp (.agg #[.int .i64 0, .int .i64 0, .int .i64 0, .string ByteArray.empty, .int .i64 0]) ?_
  refine sp (.int .i64 1) ?_
  refine s_alloc (.agg #[.int .i64 0, .int .i64 0, .int .i64 0, .string ByteArray.empty, .int .i64 0]) #[.int .i64 0, .int .i64 0, .int .i64 0, .string ByteArray.empty, .int .i64 0] (fun g7 => ?_)
  refine s_store 0 #[.int .i64 0, .int .i64 0, .int .i64 0, .string ByteArray.empty, .int .i64 0] ?_
  refine sp (.int .i64 1) ?_
  refine s_nr ?_
  refine sp (pB g7 0) ?_
  refine s_lt (t_load 0 (.int .i64 0)) ?_
  refine s_lt (t_cmp (c := false)) ?_
  refine s_nt ?_
  refine k_false ?_
  refine k_st ?_
  refine k_seq ?_
  refine k_sr ?_
  refine sp (pB g1 0) ?_
  refine s_lt (t_load 3 (.int .i64 v.kind)) ?_
  refine s_lt (Lt.to t_cmp (congrArg Value.bool (decide_eq_false (by have := of_decide_eq_true c5; omega) : (decide (v.kind = 3)) = false))) ?_
  refine s_nt ?_
  refine k_false ?_
  refine k_st ?_
  refine k_sr ?_
  refine sp (.pointer none) ?_
  refine s_lt (t_loadA 3 #[.int .i64 v.kind, .int .i64 v.p, .int .i64 v.q, .string v.str, .int .i64 v.ref]) ?_
  refine s_vcall (fun _ h => rnhdl_s v ⟨#[95, 95, 105, 110, 100, 101, 120]⟩) ?_
  rintro _ rfl
  refine s_alloc (.agg #[.int .i64 0, .int .i64 0, .int .i64 0, .string ByteArray.empty, .int .i64 0]) #[.int .i64 0, .int .i64 0, .int .i64 0, .string ByteArray.empty, .int .i64 0] (fun g8 => ?_)
  refine s_store 0 #[.int .i64 0, .int .i64 0, .int .i64 0, .string ByteArray.empty, .int .i64 0] ?_
  refine s_nt ?_
  refine k_seq ?_
  refine k_sr ?_
  refine sp (pB g8 0) ?_
  refine s_lt (t_load 0 (.int .i64 0)) ?_
  refine s_lt (t_cmp (c := true)) ?_
  refine sp (.bool true) ?_
  refine sp (pB g1 0) ?_
  refine s_lt (t_load 4 (.int .i64 v.kind)) ?_
  refine s_lt (Lt.to t_cmp (congrArg Value.bool (c5 : (decide (v.kind = 4)) = true))) ?_
  refine sp (.bool true) ?_
  refine s_nt ?_
  refine k_true ?_
  refine k_sr ?_
  refine s_lt (t_kern (.agg #[.int .i64 0, .int .i64 0, .int .i64 0, .string ByteArray.empty, .int .i64 0])) ?_
  refine s_vcall (fun _ h => give_s zVl) ?_
  rintro _ rfl
  refine s_store 2 #[.int .i64 1, .int .i64 0, .int .i64 0, .int .i64 0, .string ByteArray.empty, .int .i64 0, .int .i64 0, .int .i64 0, .int .i64 0, .string ByteArray.empty, .int .i64 0, (.slice none 0 0), .int .i64 0, .string ByteArray.empty] ?_
  refine s_nt ?_
  refine k_ret ?_
  refine xs_ret ?_
  refine xs_retBlock ?_
  refine xs_ret ?_
  refine xs_ret ?_
  refine xs_retBlock ?_
  refine xs_ret ?_
  refine xs_fin [.agg #[.int .i64 1, .int .i64 0, .int .i64 0, .int .i64 0, .string ByteArray.empty, .int .i64 0, .int .i64 0, .int .i64 0, .int .i64 0, .string ByteArray.empty, .int .i64 0, (.slice none 0 0), .int .i64 0, .string ByteArray.empty]] [] (SI.agg 6 41 2 SI.nil) (fun _ h => h.re [] [0, 0, 0, 0, 0]) ⟨?_, rfl⟩
  unfold nix nst methV; simp_all [Nd.w, giveN, failN] <;> rfl
 ·
  have p9 := of_decide_eq_false c5
  refine k_st ?_
  refine k_seq ?_
  refine k_sr ?_
  refine sp (pB g1 0) ?_
  refine s_lt (t_load 2 (.int .i64 v.kind)) ?_
  refine s_lt t_cmp ?_
  refine s_nt ?_
  refine k_cond (decide (v.kind = 3)) (fun c10 => ?_) (fun c10 => ?_)
  ·
   have p11 := of_decide_eq_true c10
   refine k_seq ?_
   refine k_sr ?_
   refine sp (pB g2 0) ?_
   refine s_lt (t_load 1 (.int .i64 k.kind)) ?_
   refine s_lt t_cmp ?_
   refine sp (.bool (decide (k.kind = 3))) ?_
   refine s_fork 36 (decide (k.kind = 3)) (fun c12 => ?_) (fun c12 => ?_)
   ·
    have p13 := of_decide_eq_true c12
    refine sp (pB g2 3) ?_
    refine s_lt (t_load 1 (.string k.str)) ?_
    refine s_vcall (fun _ h => lib_s k.str) ?_
    rintro _ rfl
    refine sp (.bool (libB k.str)) ?_
    refine s_nt ?_
    refine k_cond (libB k.str) (fun c14 => ?_) (fun c14 => ?_)
    ·
     refine k_sr ?_
     refine sp (pB g2 3) ?_
     refine s_lt (t_load 1 (.string k.str)) ?_
     refine s_lt (t_cat ⟨#[115, 116, 114, 105, 110, 103, 46]⟩ k.str (cat_ok (by decide : (⟨#[115, 116, 114, 105, 110, 103, 46]⟩ : ByteArray).size ≤ 7) (lib_size (s := k.str) c14) (by decide))) ?_
     refine s_lt (t_kern (.agg #[.int .i64 6, .int .i64 0, .int .i64 0, .string (⟨#[115, 116, 114, 105, 110, 103, 46]⟩ ++ k.str), .int .i64 0])) ?_
     refine s_vcall (fun _ h => give_s (⟨6, 0, 0, (⟨#[115, 116, 114, 105, 110, 103, 46]⟩ ++ k.str), 0⟩ : Vl)) ?_
     rintro _ rfl
     refine s_store 0 #[.int .i64 1, .int .i64 6, .int .i64 0, .int .i64 0, .string (⟨#[115, 116, 114, 105, 110, 103, 46]⟩ ++ k.str), .int .i64 0, .int .i64 0, .int .i64 0, .int .i64 0, .string ByteArray.empty, .int .i64 0, (.slice none 0 0), .int .i64 0, .string ByteArray.empty] ?_
     refine s_nt ?_
     refine k_ret ?_
     refine xs_ret ?_
     refine xs_ret ?_
     refine xs_retBlock ?_
     refine xs_ret ?_
     refine xs_ret ?_
     refine xs_retBlock ?_
     refine xs_ret ?_
     refine xs_fin [.agg #[.int .i64 1, .int .i64 6, .int .i64 0, .int .i64 0, .string (⟨#[115, 116, 114, 105, 110, 103, 46]⟩ ++ k.str), .int .i64 0, .int .i64 0, .int .i64 0, .int .i64 0, .string ByteArray.empty, .int .i64 0, (.slice none 0 0), .int .i64 0, .string ByteArray.empty]] [] (SI.agg 6 41 0 SI.nil) (fun _ h => h.re [] [0, 0, 0]) ⟨?_, rfl⟩
     unfold nix nst methV; simp_all [Nd.w, giveN, failN] <;> rfl
    ·
     refine k_st ?_
     refine k_sr ?_
     refine s_lt (t_kern (.agg #[.int .i64 0, .int .i64 0, .int .i64 0, .string ByteArray.empty, .int .i64 0])) ?_
     refine s_vcall (fun _ h => give_s zVl) ?_
     rintro _ rfl
     refine s_store 0 #[.int .i64 1, .int .i64 0, .int .i64 0, .int .i64 0, .string ByteArray.empty, .int .i64 0, .int .i64 0, .int .i64 0, .int .i64 0, .string ByteArray.empty, .int .i64 0, (.slice none 0 0), .int .i64 0, .string ByteArray.empty] ?_
     refine s_nt ?_
     refine k_ret ?_
     refine xs_ret ?_
     refine xs_retBlock ?_
     refine xs_ret ?_
     refine xs_ret ?_
     refine xs_retBlock ?_
     refine xs_ret ?_
     refine xs_fin [.agg #[.int .i64 1, .int .i64 0, .int .i64 0, .int .i64 0, .string ByteArray.empty, .int .i64 0, .int .i64 0, .int .i64 0, .int .i64 0, .string ByteArray.empty, .int .i64 0, (.slice none 0 0), .int .i64 0, .string ByteArray.empty]] [] (SI.agg 6 41 0 SI.nil) (fun _ h => h.re [] [0, 0, 0]) ⟨?_, rfl⟩
     unfold nix nst methV; simp_all [Nd.w, giveN, failN] <;> rfl
   ·
    have p15 := of_decide_eq_false c12
    refine s_skip ?_
    refine s_skip ?_
    refine s_skip ?_
    refine sp (.bool false) ?_
    refine s_nt ?_
    refine k_false ?_
    refine k_st ?_
    refine k_sr ?_
    refine s_lt (t_kern (.agg #[.int .i64 0, .int .i64 0, .int .i64 0, .string ByteArray.empty, .int .i64 0])) ?_
    refine s_vcall (fun _ h => give_s zVl) ?_
    rintro _ rfl
    refine s_store 0 #[.int .i64 1, .int .i64 0, .int .i64 0, .int .i64 0, .string ByteArray.empty, .int .i64 0, .int .i64 0, .int .i64 0, .int .i64 0, .string ByteArray.empty, .int .i64 0, (.slice none 0 0), .int .i64 0, .string ByteArray.empty] ?_
    refine s_nt ?_
    refine k_ret ?_
    refine xs_ret ?_
    refine xs_retBlock ?_
    refine xs_ret ?_
    refine xs_ret ?_
    refine xs_retBlock ?_
    refine xs_ret ?_
    refine xs_fin [.agg #[.int .i64 1, .int .i64 0, .int .i64 0, .int .i64 0, .string ByteArray.empty, .int .i64 0, .int .i64 0, .int .i64 0, .int .i64 0, .string ByteArray.empty, .int .i64 0, (.slice none 0 0), .int .i64 0, .string ByteArray.empty]] [] (SI.agg 6 41 0 SI.nil) (fun _ h => h.re [] [0, 0, 0]) ⟨?_, rfl⟩
    unfold nix nst methV; simp_all [Nd.w, giveN, failN] <;> rfl
  ·
   have p16 := of_decide_eq_false c10
   refine k_st ?_
   refine k_sr ?_
   refine sp (.pointer none) ?_
   refine s_lt (t_loadA 2 #[.int .i64 v.kind, .int .i64 v.p, .int .i64 v.q, .string v.str, .int .i64 v.ref]) ?_
   refine s_vcall (fun _ h => rnhdl_s v ⟨#[95, 95, 105, 110, 100, 101, 120]⟩) ?_
   rintro _ rfl
   refine s_alloc (.agg #[.int .i64 0, .int .i64 0, .int .i64 0, .string ByteArray.empty, .int .i64 0]) #[.int .i64 0, .int .i64 0, .int .i64 0, .string ByteArray.empty, .int .i64 0] (fun g17 => ?_)
   refine s_store 0 #[.int .i64 0, .int .i64 0, .int .i64 0, .string ByteArray.empty, .int .i64 0] ?_
   refine s_nt ?_
   refine k_seq ?_
   refine k_sr ?_
   refine sp (pB g17 0) ?_
   refine s_lt (t_load 0 (.int .i64 0)) ?_
   refine s_lt (t_cmp (c := true)) ?_
   refine sp (.bool true) ?_
   refine sp (pB g1 0) ?_
   refine s_lt (t_load 3 (.int .i64 v.kind)) ?_
   refine s_lt (Lt.to t_cmp (congrArg Value.bool (c5 : (decide (v.kind = 4)) = false))) ?_
   refine sp (.bool false) ?_
   refine s_nt ?_
   refine k_false ?_
   refine k_st ?_
   refine k_seq ?_
   refine k_sr ?_
   refine sp (pB g17 0) ?_
   refine s_lt (t_load 0 (.int .i64 0)) ?_
   refine s_lt (t_cmp (c := true)) ?_
   refine s_nt ?_
   refine k_true ?_
   refine k_sr ?_
   refine s_lt (t_loadA 3 #[.int .i64 v.kind, .int .i64 v.p, .int .i64 v.q, .string v.str, .int .i64 v.ref]) ?_
   refine s_vcall (fun _ h => rindex_s v) ?_
   rintro _ rfl
   refine s_vcall (fun _ h => fail_s (attB v.kind)) ?_
   rintro _ rfl
   refine s_store 1 #[.int .i64 3, .int .i64 0, .int .i64 0, .int .i64 0, .string ByteArray.empty, .int .i64 0, .int .i64 0, .int .i64 0, .int .i64 0, .string ByteArray.empty, .int .i64 0, (.slice none 0 0), .int .i64 0, .string (attB v.kind)] ?_
   refine s_nt ?_
   refine k_ret ?_
   refine xs_ret ?_
   refine xs_retBlock ?_
   refine xs_ret ?_
   refine xs_ret ?_
   refine xs_retBlock ?_
   refine xs_ret ?_
   refine xs_fin [.agg #[.int .i64 3, .int .i64 0, .int .i64 0, .int .i64 0, .string ByteArray.empty, .int .i64 0, .int .i64 0, .int .i64 0, .int .i64 0, .string ByteArray.empty, .int .i64 0, (.slice none 0 0), .int .i64 0, .string (attB v.kind)]] [] (SI.agg 6 41 1 SI.nil) (fun _ h => h.re [] [0, 0, 0, 0]) ⟨?_, rfl⟩
   unfold nix nst methV; simp_all [Nd.w, giveN, failN] <;> rfl
theorem rnstored_s {Z : Zone}  (v : Vl) (k : Vl) (x : Vl): SF Tryz.prog 68 #[.pointer none, v.v, k.v, x.v] Z [] fun r Bs => r = (failN (attB v.kind)).w (.slice none 0 0) ∧ Bs = [] := by
 refine sf_enter Tryz.func68 27 [(0, .pointer none), (1, .agg #[.int .i64 v.kind, .int .i64 v.p, .int .i64 v.q, .string v.str, .int .i64 v.ref]), (2, .agg #[.int .i64 k.kind, .int .i64 k.p, .int .i64 k.q, .string k.str, .int .i64 k.ref]), (3, .agg #[.int .i64 x.kind, .int .i64 x.p, .int .i64 x.q, .string x.str, .int .i64 x.ref])] (fun w0 => ?_)
 refine k_sr ?_
 refine s_box #[.int .i64 v.kind, .int .i64 v.p, .int .i64 v.q, .string v.str, .int .i64 v.ref] (fun g1 => ?_)
 refine s_box #[.int .i64 k.kind, .int .i64 k.p, .int .i64 k.q, .string k.str, .int .i64 k.ref] (fun g2 => ?_)
 refine s_box #[.int .i64 x.kind, .int .i64 x.p, .int .i64 x.q, .string x.str, .int .i64 x.ref] (fun g3 => ?_)
 refine s_alloc (.agg #[.int .i64 0, .int .i64 0, .int .i64 0, .int .i64 0, .string ByteArray.empty, .int .i64 0, .int .i64 0, .int .i64 0, .int .i64 0, .string ByteArray.empty, .int .i64 0, (.slice none 0 0), .int .i64 0, .string ByteArray.empty]) #[.int .i64 0, .int .i64 0, .int .i64 0, .int .i64 0, .string ByteArray.empty, .int .i64 0, .int .i64 0, .int .i64 0, .int .i64 0, .string ByteArray.empty, .int .i64 0, (.slice none 0 0), .int .i64 0, .string ByteArray.empty] (fun g4 => ?_)
 refine s_nt ?_
 refine k_seq ?_
 refine k_sr ?_
 refine sp (.pointer none) ?_
 refine s_lt (t_loadA 3 #[.int .i64 v.kind, .int .i64 v.p, .int .i64 v.q, .string v.str, .int .i64 v.ref]) ?_
 refine s_lt (t_loadA 2 #[.int .i64 k.kind, .int .i64 k.p, .int .i64 k.q, .string k.str, .int .i64 k.ref]) ?_
 refine s_lt (t_loadA 1 #[.int .i64 x.kind, .int .i64 x.p, .int .i64 x.q, .string x.str, .int .i64 x.ref]) ?_
 refine s_vcall (fun _ h => nrset_s v k x) ?_
 rintro _ rfl
 refine s_nt ?_
 refine k_block ?_
 refine k_sr ?_
 refine s_lt (t_cmp (c := false)) ?_
 refine sp (.bool false) ?_
 refine s_nt ?_
 refine k_false ?_
 refine k_sr ?_
 refine s_lt (t_cmp (c := false)) ?_
 refine sp (.bool false) ?_
 refine s_nt ?_
 refine k_false ?_
 refine k_sr ?_
 refine s_lt (t_cmp (c := false)) ?_
 refine sp (.bool false) ?_
 refine s_nt ?_
 refine k_false ?_
 refine k_skip ?_
 refine xs_block ?_
 refine xs_then ?_
 refine k_sr ?_
 refine s_lt (t_loadA 3 #[.int .i64 v.kind, .int .i64 v.p, .int .i64 v.q, .string v.str, .int .i64 v.ref]) ?_
 refine s_vcall (fun _ h => rindex_s v) ?_
 rintro _ rfl
 refine s_vcall (fun _ h => fail_s (attB v.kind)) ?_
 rintro _ rfl
 refine s_store 0 #[.int .i64 3, .int .i64 0, .int .i64 0, .int .i64 0, .string ByteArray.empty, .int .i64 0, .int .i64 0, .int .i64 0, .int .i64 0, .string ByteArray.empty, .int .i64 0, (.slice none 0 0), .int .i64 0, .string (attB v.kind)] ?_
 refine s_nt ?_
 refine k_ret ?_
 exact xs_fin [.agg #[.int .i64 3, .int .i64 0, .int .i64 0, .int .i64 0, .string ByteArray.empty, .int .i64 0, .int .i64 0, .int .i64 0, .int .i64 0, .string ByteArray.empty, .int .i64 0, (.slice none 0 0), .int .i64 0, .string (attB v.kind)]] [] (SI.agg 8 41 0 SI.nil) (fun _ h => h.re [] [0, 0, 0, 0]) ⟨rfl, rfl⟩
theorem nrassign_s {Z : Zone} (v : Vl) (k : Vl) (x : Vl) : SF Tryz.prog 18 #[.pointer none, v.v, k.v, x.v] Z [] fun r Bs => r = (failN (attB v.kind)).w (.slice none 0 0) ∧ Bs = [] := by
 refine sf_enter Tryz.func18 59 [(0, .pointer none), (1, .agg #[.int .i64 v.kind, .int .i64 v.p, .int .i64 v.q, .string v.str, .int .i64 v.ref]), (2, .agg #[.int .i64 k.kind, .int .i64 k.p, .int .i64 k.q, .string k.str, .int .i64 k.ref]), (3, .agg #[.int .i64 x.kind, .int .i64 x.p, .int .i64 x.q, .string x.str, .int .i64 x.ref])] (fun w0 => ?_)
 refine k_sr ?_
 refine s_box #[.int .i64 v.kind, .int .i64 v.p, .int .i64 v.q, .string v.str, .int .i64 v.ref] (fun g1 => ?_)
 refine s_box #[.int .i64 k.kind, .int .i64 k.p, .int .i64 k.q, .string k.str, .int .i64 k.ref] (fun g2 => ?_)
 refine s_box #[.int .i64 x.kind, .int .i64 x.p, .int .i64 x.q, .string x.str, .int .i64 x.ref] (fun g3 => ?_)
 refine s_alloc (.agg #[.int .i64 0, .int .i64 0, .int .i64 0, .int .i64 0, .string ByteArray.empty, .int .i64 0, .int .i64 0, .int .i64 0, .int .i64 0, .string ByteArray.empty, .int .i64 0, (.slice none 0 0), .int .i64 0, .string ByteArray.empty]) #[.int .i64 0, .int .i64 0, .int .i64 0, .int .i64 0, .string ByteArray.empty, .int .i64 0, .int .i64 0, .int .i64 0, .int .i64 0, .string ByteArray.empty, .int .i64 0, (.slice none 0 0), .int .i64 0, .string ByteArray.empty] (fun g4 => ?_)
 refine s_nt ?_
 refine k_seq ?_
 refine k_sr ?_
 refine sp (.int .i64 0) ?_
 refine s_nt ?_
 refine k_block ?_
 refine k_loop (ι := Nat) (fun i => i ≤ 0) (fun i => [(0, .pointer none), (5, pB g1 0), (6, pB g2 0), (7, pB g3 0), (8, pB g4 0), (9, .int .i64 (i : Int))]) (fun i => [blkA g4 #[.int .i64 0, .int .i64 0, .int .i64 0, .int .i64 0, .string ByteArray.empty, .int .i64 0, .int .i64 0, .int .i64 0, .int .i64 0, .string ByteArray.empty, .int .i64 0, (.slice none 0 0), .int .i64 0, .string ByteArray.empty] 41, blkA g3 #[.int .i64 x.kind, .int .i64 x.p, .int .i64 x.q, .string x.str, .int .i64 x.ref] 26, blkA g2 #[.int .i64 k.kind, .int .i64 k.p, .int .i64 k.q, .string k.str, .int .i64 k.ref] 26, blkA g1 #[.int .i64 v.kind, .int .i64 v.p, .int .i64 v.q, .string v.str, .int .i64 v.ref] 26]) (fun i => 0) 0 (Nat.le_refl _) (sub_of rfl ⟨⟨rfl, rfl⟩, ⟨⟨rfl, rfl⟩, ⟨⟨rfl, rfl⟩, ⟨⟨rfl, rfl⟩, ⟨⟨rfl, rfl⟩, ⟨⟨rfl, rfl⟩, trivial⟩⟩⟩⟩⟩⟩) (fun _ h => h.re [0, 0, 0, 0] []) ?_
 rintro i hi5
 show SK _ _ _ _ _ [(0, .pointer none), (5, .pointer (some ⟨g1, 0, none⟩)), (6, .pointer (some ⟨g2, 0, none⟩)), (7, .pointer (some ⟨g3, 0, none⟩)), (8, .pointer (some ⟨g4, 0, none⟩)), (9, .int .i64 (i : Int))] _ [blkA g4 #[.int .i64 0, .int .i64 0, .int .i64 0, .int .i64 0, .string ByteArray.empty, .int .i64 0, .int .i64 0, .int .i64 0, .int .i64 0, .string ByteArray.empty, .int .i64 0, (.slice none 0 0), .int .i64 0, .string ByteArray.empty] 41, blkA g3 #[.int .i64 x.kind, .int .i64 x.p, .int .i64 x.q, .string x.str, .int .i64 x.ref] 26, blkA g2 #[.int .i64 k.kind, .int .i64 k.p, .int .i64 k.q, .string k.str, .int .i64 k.ref] 26, blkA g1 #[.int .i64 v.kind, .int .i64 v.p, .int .i64 v.q, .string v.str, .int .i64 v.ref] 26]
 refine k_seq ?_
 refine k_sr ?_
 refine sp (.int .i64 (i : Int)) ?_
 refine s_lt (Lt.to t_cmp (congrArg Value.bool (decide_eq_true (by omega) : (decide ((i : Int) < 32)) = true))) ?_
 refine s_nt ?_
 refine k_true ?_
 refine k_st ?_
 refine k_seq ?_
 refine k_block ?_
 refine k_sr ?_
 refine sp (.pointer none) ?_
 refine s_lt (t_loadA 3 #[.int .i64 v.kind, .int .i64 v.p, .int .i64 v.q, .string v.str, .int .i64 v.ref]) ?_
 refine s_vcall (fun _ h => rnhdl_s v ⟨#[95, 95, 110, 101, 119, 105, 110, 100, 101, 120]⟩) ?_
 rintro _ rfl
 refine s_alloc (.agg #[.int .i64 0, .int .i64 0, .int .i64 0, .string ByteArray.empty, .int .i64 0]) #[.int .i64 0, .int .i64 0, .int .i64 0, .string ByteArray.empty, .int .i64 0] (fun g6 => ?_)
 refine s_store 0 #[.int .i64 0, .int .i64 0, .int .i64 0, .string ByteArray.empty, .int .i64 0] ?_
 refine s_nt ?_
 refine k_seq ?_
 refine k_sr ?_
 refine sp (pB g1 0) ?_
 refine s_lt (t_load 4 (.int .i64 v.kind)) ?_
 refine s_lt t_cmp ?_
 refine s_nt ?_
 refine k_cond (decide (v.kind = 4)) (fun c7 => ?_) (fun c7 => ?_)
 ·
  have p8 := of_decide_eq_true c7
  refine k_sr ?_
  refine sp (.pointer none) ?_
  refine s_lt (t_loadA 4 #[.int .i64 v.kind, .int .i64 v.p, .int .i64 v.q, .string v.str, .int .i64 v.ref]) ?_
  refine s_lt (t_loadA 3 #[.int .i64 k.kind, .int .i64 k.p, .int .i64 k.q, .string k.str, .int .i64 k.ref]) ?_
  refine s_vcall (fun _ h => nrget_s v k) ?_
  rintro _ rfl
  refine sp (.tuple #[.agg #[.int .i64 0, .int .i64 0, .int .i64 0, .string ByteArray.empty, .int .i64 0], .int .i64 1]) ?_
  refine sp (.agg #[.int .i64 0, .int .i64 0, .int .i64 0, .string ByteArray.empty, .int .i64 0]) ?_
  refine sp (.int .i64 1) ?_
  refine s_alloc (.agg #[.int .i64 0, .int .i64 0, .int .i64 0, .string ByteArray.empty, .int .i64 0]) #[.int .i64 0, .int .i64 0, .int .i64 0, .string ByteArray.empty, .int .i64 0] (fun g9 => ?_)
  refine s_store 0 #[.int .i64 0, .int .i64 0, .int .i64 0, .string ByteArray.empty, .int .i64 0] ?_
  refine sp (.int .i64 1) ?_
  refine s_nr ?_
  refine sp (pB g9 0) ?_
  refine s_lt (t_load 0 (.int .i64 0)) ?_
  refine s_lt (t_cmp (c := false)) ?_
  refine sp (.bool false) ?_
  refine sp (pB g6 0) ?_
  refine s_lt (t_load 1 (.int .i64 0)) ?_
  refine s_lt (t_cmp (c := true)) ?_
  refine sp (.bool true) ?_
  refine s_nt ?_
  refine k_true ?_
  refine k_sr ?_
  refine sp (.pointer none) ?_
  refine s_lt (t_loadA 5 #[.int .i64 v.kind, .int .i64 v.p, .int .i64 v.q, .string v.str, .int .i64 v.ref]) ?_
  refine s_lt (t_loadA 4 #[.int .i64 k.kind, .int .i64 k.p, .int .i64 k.q, .string k.str, .int .i64 k.ref]) ?_
  refine s_lt (t_loadA 3 #[.int .i64 x.kind, .int .i64 x.p, .int .i64 x.q, .string x.str, .int .i64 x.ref]) ?_
  refine s_vcall (fun _ h => rnstored_s v k x) ?_
  rintro _ rfl
  refine s_store 2 #[.int .i64 ((failN (attB v.kind)).kind), .int .i64 (((failN (attB v.kind)).val).kind), .int .i64 (((failN (attB v.kind)).val).p), .int .i64 (((failN (attB v.kind)).val).q), .string (((failN (attB v.kind)).val).str), .int .i64 (((failN (attB v.kind)).val).ref), .int .i64 (((failN (attB v.kind)).fn).kind), .int .i64 (((failN (attB v.kind)).fn).p), .int .i64 (((failN (attB v.kind)).fn).q), .string (((failN (attB v.kind)).fn).str), .int .i64 (((failN (attB v.kind)).fn).ref), (.slice none 0 0), .int .i64 ((failN (attB v.kind)).after), .string ((failN (attB v.kind)).str)] ?_
  refine s_nt ?_
  refine k_ret ?_
  refine xs_ret ?_
  refine xs_retBlock ?_
  refine xs_ret ?_
  refine xs_ret ?_
  refine xs_retBlock ?_
  refine xs_ret ?_
  exact xs_fin [.agg #[.int .i64 ((failN (attB v.kind)).kind), .int .i64 (((failN (attB v.kind)).val).kind), .int .i64 (((failN (attB v.kind)).val).p), .int .i64 (((failN (attB v.kind)).val).q), .string (((failN (attB v.kind)).val).str), .int .i64 (((failN (attB v.kind)).val).ref), .int .i64 (((failN (attB v.kind)).fn).kind), .int .i64 (((failN (attB v.kind)).fn).p), .int .i64 (((failN (attB v.kind)).fn).q), .string (((failN (attB v.kind)).fn).str), .int .i64 (((failN (attB v.kind)).fn).ref), (.slice none 0 0), .int .i64 ((failN (attB v.kind)).after), .string ((failN (attB v.kind)).str)]] [] (SI.agg 8 41 2 SI.nil) (fun _ h => h.re [] [0, 0, 0, 0, 0, 0]) ⟨rfl, rfl⟩
 ·
  have p10 := of_decide_eq_false c7
  refine k_st ?_
  refine k_seq ?_
  refine k_sr ?_
  refine sp (pB g6 0) ?_
  refine s_lt (t_load 0 (.int .i64 0)) ?_
  refine s_lt (t_cmp (c := true)) ?_
  refine s_nt ?_
  refine k_true ?_
  refine k_sr ?_
  refine s_lt (t_loadA 4 #[.int .i64 v.kind, .int .i64 v.p, .int .i64 v.q, .string v.str, .int .i64 v.ref]) ?_
  refine s_vcall (fun _ h => rindex_s v) ?_
  rintro _ rfl
  refine s_vcall (fun _ h => fail_s (attB v.kind)) ?_
  rintro _ rfl
  refine s_store 1 #[.int .i64 3, .int .i64 0, .int .i64 0, .int .i64 0, .string ByteArray.empty, .int .i64 0, .int .i64 0, .int .i64 0, .int .i64 0, .string ByteArray.empty, .int .i64 0, (.slice none 0 0), .int .i64 0, .string (attB v.kind)] ?_
  refine s_nt ?_
  refine k_ret ?_
  refine xs_ret ?_
  refine xs_retBlock ?_
  refine xs_ret ?_
  refine xs_ret ?_
  refine xs_retBlock ?_
  refine xs_ret ?_
  exact xs_fin [.agg #[.int .i64 3, .int .i64 0, .int .i64 0, .int .i64 0, .string ByteArray.empty, .int .i64 0, .int .i64 0, .int .i64 0, .int .i64 0, .string ByteArray.empty, .int .i64 0, (.slice none 0 0), .int .i64 0, .string (attB v.kind)]] [] (SI.agg 8 41 1 SI.nil) (fun _ h => h.re [] [0, 0, 0, 0, 0]) ⟨rfl, rfl⟩
theorem ntext15_s {Z : Zone} (ht : KnTab Z) (v : Vl) (h0 : -9223372036854775808 ≤ v.ref) (h1 : v.ref ≤ 9223372036854775807) (hs : (v.str.size : Int) ≤ 4611686018427387904) : SF Tryz.prog 10 #[.pointer none, v.v] Z [] fun r Bs => r = (giveN (strV (cutT (textT v)))).w (.slice none 0 0) ∧ Bs = [] := by
 refine sf_enter Tryz.func10 50 [(0, .pointer none), (1, .agg #[.int .i64 v.kind, .int .i64 v.p, .int .i64 v.q, .string v.str, .int .i64 v.ref])] (fun w0 => ?_)
 refine k_sr ?_
 refine s_box #[.int .i64 v.kind, .int .i64 v.p, .int .i64 v.q, .string v.str, .int .i64 v.ref] (fun g1 => ?_)
 refine s_alloc (.agg #[.int .i64 0, .int .i64 0, .int .i64 0, .int .i64 0, .string ByteArray.empty, .int .i64 0, .int .i64 0, .int .i64 0, .int .i64 0, .string ByteArray.empty, .int .i64 0, (.slice none 0 0), .int .i64 0, .string ByteArray.empty]) #[.int .i64 0, .int .i64 0, .int .i64 0, .int .i64 0, .string ByteArray.empty, .int .i64 0, .int .i64 0, .int .i64 0, .int .i64 0, .string ByteArray.empty, .int .i64 0, (.slice none 0 0), .int .i64 0, .string ByteArray.empty] (fun g2 => ?_)
 refine s_nt ?_
 refine k_seq ?_
 refine k_sr ?_
 refine sp (.pointer none) ?_
 refine s_lt (t_loadA 1 #[.int .i64 v.kind, .int .i64 v.p, .int .i64 v.q, .string v.str, .int .i64 v.ref]) ?_
 refine s_vcall (fun _ h => nhdl_s v ⟨#[95, 95, 116, 111, 115, 116, 114, 105, 110, 103]⟩) ?_
 rintro _ rfl
 refine s_alloc (.agg #[.int .i64 0, .int .i64 0, .int .i64 0, .string ByteArray.empty, .int .i64 0]) #[.int .i64 0, .int .i64 0, .int .i64 0, .string ByteArray.empty, .int .i64 0] (fun g3 => ?_)
 refine s_store 0 #[.int .i64 0, .int .i64 0, .int .i64 0, .string ByteArray.empty, .int .i64 0] ?_
 refine s_nr ?_
 refine sp (pB g3 0) ?_
 refine s_lt (t_load 0 (.int .i64 0)) ?_
 refine s_lt (t_cmp (c := false)) ?_
 refine s_nt ?_
 refine k_false ?_
 refine k_st ?_
 refine k_sr ?_
 refine s_lt (t_loadA 2 #[.int .i64 v.kind, .int .i64 v.p, .int .i64 v.q, .string v.str, .int .i64 v.ref]) ?_
 refine s_vcall (fun _ h => text_s (ht.at h) v (by omega) (by omega) (by omega)) ?_
 rintro _ rfl
 refine sp (.string (textT v)) ?_
 refine s_nr ?_
 refine sp (.pointer none) ?_
 refine s_lt (t_loadA 2 #[.int .i64 v.kind, .int .i64 v.p, .int .i64 v.q, .string v.str, .int .i64 v.ref]) ?_
 refine s_vcall (fun _ h => npname_s v) ?_
 rintro _ rfl
 refine sp (.tuple #[.string ByteArray.empty, .bool false]) ?_
 refine sp (.string ByteArray.empty) ?_
 refine sp (.bool false) ?_
 refine sp (.string ByteArray.empty) ?_
 refine sp (.bool false) ?_
 refine s_nt ?_
 refine k_seq ?_
 refine k_sr ?_
 refine sp (.pointer none) ?_
 refine s_lt (t_loadA 2 #[.int .i64 v.kind, .int .i64 v.p, .int .i64 v.q, .string v.str, .int .i64 v.ref]) ?_
 refine s_vcall (fun _ h => nhdl_s v ⟨#[95, 95, 110, 97, 109, 101]⟩) ?_
 rintro _ rfl
 refine s_alloc (.agg #[.int .i64 0, .int .i64 0, .int .i64 0, .string ByteArray.empty, .int .i64 0]) #[.int .i64 0, .int .i64 0, .int .i64 0, .string ByteArray.empty, .int .i64 0] (fun g4 => ?_)
 refine s_store 0 #[.int .i64 0, .int .i64 0, .int .i64 0, .string ByteArray.empty, .int .i64 0] ?_
 refine s_nr ?_
 refine sp (pB g4 0) ?_
 refine s_lt (t_load 0 (.int .i64 0)) ?_
 refine s_lt (t_cmp (c := false)) ?_
 refine s_nt ?_
 refine k_false ?_
 refine k_st ?_
 refine k_seq ?_
 refine k_sr ?_
 refine sp (.bool false) ?_
 refine s_nt ?_
 refine k_false ?_
 refine k_st ?_
 refine k_sr ?_
 refine sp (.string (textT v)) ?_
 refine sp (.string (textT v)) ?_
 refine s_lt (t_kern (.int .i64 ((textT v).size : Int))) ?_
 refine s_lt t_min ?_
 refine s_lt (t_subH Tryz.underlying9 (textT v) (if 4096 < ((textT v).size : Int) then 4096 else ((textT v).size : Int)) (by omega) (by omega)) ?_
 refine s_vcall (fun _ h => ofstr_s ((textT v).extract 0 ((if 4096 < ((textT v).size : Int) then 4096 else ((textT v).size : Int))).toNat)) ?_
 rintro _ rfl
 refine s_vcall (fun _ h => given_s (strV ((textT v).extract 0 ((if 4096 < ((textT v).size : Int) then 4096 else ((textT v).size : Int))).toNat))) ?_
 rintro _ rfl
 refine s_store 2 #[.int .i64 1, .int .i64 ((strV ((textT v).extract 0 ((if 4096 < ((textT v).size : Int) then 4096 else ((textT v).size : Int))).toNat)).kind), .int .i64 ((strV ((textT v).extract 0 ((if 4096 < ((textT v).size : Int) then 4096 else ((textT v).size : Int))).toNat)).p), .int .i64 ((strV ((textT v).extract 0 ((if 4096 < ((textT v).size : Int) then 4096 else ((textT v).size : Int))).toNat)).q), .string ((strV ((textT v).extract 0 ((if 4096 < ((textT v).size : Int) then 4096 else ((textT v).size : Int))).toNat)).str), .int .i64 ((strV ((textT v).extract 0 ((if 4096 < ((textT v).size : Int) then 4096 else ((textT v).size : Int))).toNat)).ref), .int .i64 0, .int .i64 0, .int .i64 0, .string ByteArray.empty, .int .i64 0, (.slice none 0 0), .int .i64 0, .string ByteArray.empty] ?_
 refine s_nt ?_
 refine k_ret ?_
 refine xs_fin [.agg #[.int .i64 1, .int .i64 ((strV ((textT v).extract 0 ((if 4096 < ((textT v).size : Int) then 4096 else ((textT v).size : Int))).toNat)).kind), .int .i64 ((strV ((textT v).extract 0 ((if 4096 < ((textT v).size : Int) then 4096 else ((textT v).size : Int))).toNat)).p), .int .i64 ((strV ((textT v).extract 0 ((if 4096 < ((textT v).size : Int) then 4096 else ((textT v).size : Int))).toNat)).q), .string ((strV ((textT v).extract 0 ((if 4096 < ((textT v).size : Int) then 4096 else ((textT v).size : Int))).toNat)).str), .int .i64 ((strV ((textT v).extract 0 ((if 4096 < ((textT v).size : Int) then 4096 else ((textT v).size : Int))).toNat)).ref), .int .i64 0, .int .i64 0, .int .i64 0, .string ByteArray.empty, .int .i64 0, (.slice none 0 0), .int .i64 0, .string ByteArray.empty]] [] (SI.agg 4 41 2 SI.nil) (fun _ h => h.re [] [0, 0, 0, 0]) ⟨?_, rfl⟩
 rw [← cut_a (textT v)]; rfl
theorem rntext15_s {Z : Zone} (v : Vl) (h0 : -9223372036854775808 ≤ v.ref) (h1 : v.ref ≤ 9223372036854775807) (hs : (v.str.size : Int) ≤ 4611686018427387904) : SF Tryz.prog 11 #[.pointer none, v.v] Z [] fun r Bs => r = (giveN (strV (cutT (textT v)))).w (.slice none 0 0) ∧ Bs = [] := by
 refine sf_enter Tryz.func11 51 [(0, .pointer none), (1, .agg #[.int .i64 v.kind, .int .i64 v.p, .int .i64 v.q, .string v.str, .int .i64 v.ref])] (fun w0 => ?_)
 refine k_sr ?_
 refine s_box #[.int .i64 v.kind, .int .i64 v.p, .int .i64 v.q, .string v.str, .int .i64 v.ref] (fun g1 => ?_)
 refine s_alloc (.agg #[.int .i64 0, .int .i64 0, .int .i64 0, .int .i64 0, .string ByteArray.empty, .int .i64 0, .int .i64 0, .int .i64 0, .int .i64 0, .string ByteArray.empty, .int .i64 0, (.slice none 0 0), .int .i64 0, .string ByteArray.empty]) #[.int .i64 0, .int .i64 0, .int .i64 0, .int .i64 0, .string ByteArray.empty, .int .i64 0, .int .i64 0, .int .i64 0, .int .i64 0, .string ByteArray.empty, .int .i64 0, (.slice none 0 0), .int .i64 0, .string ByteArray.empty] (fun g2 => ?_)
 refine s_nt ?_
 refine k_seq ?_
 refine k_sr ?_
 refine sp (.pointer none) ?_
 refine s_lt (t_loadA 1 #[.int .i64 v.kind, .int .i64 v.p, .int .i64 v.q, .string v.str, .int .i64 v.ref]) ?_
 refine s_vcall (fun _ h => rnhdl_s v ⟨#[95, 95, 116, 111, 115, 116, 114, 105, 110, 103]⟩) ?_
 rintro _ rfl
 refine s_alloc (.agg #[.int .i64 0, .int .i64 0, .int .i64 0, .string ByteArray.empty, .int .i64 0]) #[.int .i64 0, .int .i64 0, .int .i64 0, .string ByteArray.empty, .int .i64 0] (fun g3 => ?_)
 refine s_store 0 #[.int .i64 0, .int .i64 0, .int .i64 0, .string ByteArray.empty, .int .i64 0] ?_
 refine s_nr ?_
 refine sp (pB g3 0) ?_
 refine s_lt (t_load 0 (.int .i64 0)) ?_
 refine s_lt (t_cmp (c := false)) ?_
 refine s_nt ?_
 refine k_false ?_
 refine k_st ?_
 refine k_seq ?_
 refine k_sr ?_
 refine sp (.pointer none) ?_
 refine s_lt (t_loadA 2 #[.int .i64 v.kind, .int .i64 v.p, .int .i64 v.q, .string v.str, .int .i64 v.ref]) ?_
 refine s_vcall (fun _ h => rnhdl_s v ⟨#[95, 95, 110, 97, 109, 101]⟩) ?_
 rintro _ rfl
 refine s_alloc (.agg #[.int .i64 0, .int .i64 0, .int .i64 0, .string ByteArray.empty, .int .i64 0]) #[.int .i64 0, .int .i64 0, .int .i64 0, .string ByteArray.empty, .int .i64 0] (fun g4 => ?_)
 refine s_store 0 #[.int .i64 0, .int .i64 0, .int .i64 0, .string ByteArray.empty, .int .i64 0] ?_
 refine s_nr ?_
 refine sp (pB g4 0) ?_
 refine s_lt (t_load 0 (.int .i64 0)) ?_
 refine s_lt (t_cmp (c := false)) ?_
 refine s_nt ?_
 refine k_false ?_
 refine k_st ?_
 refine k_seq ?_
 refine k_sr ?_
 refine sp (pB g1 0) ?_
 refine s_lt (t_load 3 (.int .i64 v.kind)) ?_
 refine s_lt t_cmp ?_
 refine s_nt ?_
 refine k_cond (decide (v.kind = 8)) (fun c5 => ?_) (fun c5 => ?_)
 ·
  have p6 := of_decide_eq_true c5
  refine k_sr ?_
  refine sp (.pointer none) ?_
  refine s_lt (t_loadA 3 #[.int .i64 v.kind, .int .i64 v.p, .int .i64 v.q, .string v.str, .int .i64 v.ref]) ?_
  refine s_vcall (fun _ h => nrname_s v) ?_
  rintro _ rfl
  refine sp (.tuple #[.string ByteArray.empty, .bool false]) ?_
  refine sp (.string ByteArray.empty) ?_
  refine sp (.bool false) ?_
  refine sp (.string ByteArray.empty) ?_
  refine sp (.bool false) ?_
  refine s_nr ?_
  refine sp (.bool false) ?_
  refine s_nt ?_
  refine k_false ?_
  refine k_st ?_
  refine k_sr ?_
  refine s_lt (t_loadA 3 #[.int .i64 v.kind, .int .i64 v.p, .int .i64 v.q, .string v.str, .int .i64 v.ref]) ?_
  refine s_vcall (fun _ h => rvtext_s v (by omega) (by omega) (by omega)) ?_
  rintro _ rfl
  refine s_vcall (fun _ h => rshort_s (textT v)) ?_
  rintro _ rfl
  refine s_store 2 #[.int .i64 1, .int .i64 ((strV (cutT (textT v))).kind), .int .i64 ((strV (cutT (textT v))).p), .int .i64 ((strV (cutT (textT v))).q), .string ((strV (cutT (textT v))).str), .int .i64 ((strV (cutT (textT v))).ref), .int .i64 0, .int .i64 0, .int .i64 0, .string ByteArray.empty, .int .i64 0, (.slice none 0 0), .int .i64 0, .string ByteArray.empty] ?_
  refine s_nt ?_
  refine k_ret ?_
  exact xs_fin [.agg #[.int .i64 1, .int .i64 ((strV (cutT (textT v))).kind), .int .i64 ((strV (cutT (textT v))).p), .int .i64 ((strV (cutT (textT v))).q), .string ((strV (cutT (textT v))).str), .int .i64 ((strV (cutT (textT v))).ref), .int .i64 0, .int .i64 0, .int .i64 0, .string ByteArray.empty, .int .i64 0, (.slice none 0 0), .int .i64 0, .string ByteArray.empty]] [] (SI.agg 4 41 2 SI.nil) (fun _ h => h.re [] [0, 0, 0, 0]) ⟨rfl, rfl⟩
 ·
  have p7 := of_decide_eq_false c5
  refine k_st ?_
  refine k_sr ?_
  refine s_lt (t_loadA 3 #[.int .i64 v.kind, .int .i64 v.p, .int .i64 v.q, .string v.str, .int .i64 v.ref]) ?_
  refine s_vcall (fun _ h => rvtext_s v (by omega) (by omega) (by omega)) ?_
  rintro _ rfl
  refine s_vcall (fun _ h => rshort_s (textT v)) ?_
  rintro _ rfl
  refine s_store 2 #[.int .i64 1, .int .i64 ((strV (cutT (textT v))).kind), .int .i64 ((strV (cutT (textT v))).p), .int .i64 ((strV (cutT (textT v))).q), .string ((strV (cutT (textT v))).str), .int .i64 ((strV (cutT (textT v))).ref), .int .i64 0, .int .i64 0, .int .i64 0, .string ByteArray.empty, .int .i64 0, (.slice none 0 0), .int .i64 0, .string ByteArray.empty] ?_
  refine s_nt ?_
  refine k_ret ?_
  exact xs_fin [.agg #[.int .i64 1, .int .i64 ((strV (cutT (textT v))).kind), .int .i64 ((strV (cutT (textT v))).p), .int .i64 ((strV (cutT (textT v))).q), .string ((strV (cutT (textT v))).str), .int .i64 ((strV (cutT (textT v))).ref), .int .i64 0, .int .i64 0, .int .i64 0, .string ByteArray.empty, .int .i64 0, (.slice none 0 0), .int .i64 0, .string ByteArray.empty]] [] (SI.agg 4 41 2 SI.nil) (fun _ h => h.re [] [0, 0, 0, 0]) ⟨rfl, rfl⟩
theorem nlength_s {Z : Zone}  (v : Vl): SF Tryz.prog 12 #[.pointer none, v.v] Z [] fun r Bs => r = (nlen v).w (.slice none 0 0) ∧ Bs = [] := by
 refine sf_enter Tryz.func12 42 [(0, .pointer none), (1, .agg #[.int .i64 v.kind, .int .i64 v.p, .int .i64 v.q, .string v.str, .int .i64 v.ref])] (fun w0 => ?_)
 refine k_sr ?_
 refine s_box #[.int .i64 v.kind, .int .i64 v.p, .int .i64 v.q, .string v.str, .int .i64 v.ref] (fun g1 => ?_)
 refine s_alloc (.agg #[.int .i64 0, .int .i64 0, .int .i64 0, .int .i64 0, .string ByteArray.empty, .int .i64 0, .int .i64 0, .int .i64 0, .int .i64 0, .string ByteArray.empty, .int .i64 0, (.slice none 0 0), .int .i64 0, .string ByteArray.empty]) #[.int .i64 0, .int .i64 0, .int .i64 0, .int .i64 0, .string ByteArray.empty, .int .i64 0, .int .i64 0, .int .i64 0, .int .i64 0, .string ByteArray.empty, .int .i64 0, (.slice none 0 0), .int .i64 0, .string ByteArray.empty] (fun g2 => ?_)
 refine s_nt ?_
 refine k_seq ?_
 refine k_sr ?_
 refine sp (pB g1 0) ?_
 refine s_lt (t_load 1 (.int .i64 v.kind)) ?_
 refine s_lt t_cmp ?_
 refine s_nt ?_
 refine k_cond (decide (v.kind = 3)) (fun c3 => ?_) (fun c3 => ?_)
 ·
  have p4 := of_decide_eq_true c3
  refine k_sr ?_
  refine sp (pB g1 3) ?_
  refine s_lt (t_load 1 (.string v.str)) ?_
  refine s_lt (t_kern (.int .i64 (v.str.size : Int))) ?_
  refine s_vcall (fun _ h => ofint_s (v.str.size : Int)) ?_
  rintro _ rfl
  refine s_vcall (fun _ h => given_s (ofI (v.str.size : Int))) ?_
  rintro _ rfl
  refine s_store 0 #[.int .i64 1, .int .i64 ((ofI (v.str.size : Int)).kind), .int .i64 ((ofI (v.str.size : Int)).p), .int .i64 ((ofI (v.str.size : Int)).q), .string ((ofI (v.str.size : Int)).str), .int .i64 ((ofI (v.str.size : Int)).ref), .int .i64 0, .int .i64 0, .int .i64 0, .string ByteArray.empty, .int .i64 0, (.slice none 0 0), .int .i64 0, .string ByteArray.empty] ?_
  refine s_nt ?_
  refine k_ret ?_
  refine xs_ret ?_
  refine xs_fin [.agg #[.int .i64 1, .int .i64 ((ofI (v.str.size : Int)).kind), .int .i64 ((ofI (v.str.size : Int)).p), .int .i64 ((ofI (v.str.size : Int)).q), .string ((ofI (v.str.size : Int)).str), .int .i64 ((ofI (v.str.size : Int)).ref), .int .i64 0, .int .i64 0, .int .i64 0, .string ByteArray.empty, .int .i64 0, (.slice none 0 0), .int .i64 0, .string ByteArray.empty]] [] (SI.agg 4 41 0 SI.nil) (fun _ h => h.re [] [0, 0]) ⟨?_, rfl⟩
  have hl : nlen v = _ := if_pos (by omega)
  rw [hl]; rfl
 ·
  have p5 := of_decide_eq_false c3
  refine k_st ?_
  refine k_seq ?_
  refine k_sr ?_
  refine sp (.pointer none) ?_
  refine s_lt (t_loadA 1 #[.int .i64 v.kind, .int .i64 v.p, .int .i64 v.q, .string v.str, .int .i64 v.ref]) ?_
  refine s_vcall (fun _ h => nhdl_s v ⟨#[95, 95, 108, 101, 110]⟩) ?_
  rintro _ rfl
  refine s_alloc (.agg #[.int .i64 0, .int .i64 0, .int .i64 0, .string ByteArray.empty, .int .i64 0]) #[.int .i64 0, .int .i64 0, .int .i64 0, .string ByteArray.empty, .int .i64 0] (fun g6 => ?_)
  refine s_store 0 #[.int .i64 0, .int .i64 0, .int .i64 0, .string ByteArray.empty, .int .i64 0] ?_
  refine s_nr ?_
  refine sp (pB g6 0) ?_
  refine s_lt (t_load 0 (.int .i64 0)) ?_
  refine s_lt (t_cmp (c := false)) ?_
  refine s_nt ?_
  refine k_false ?_
  refine k_st ?_
  refine k_seq ?_
  refine k_sr ?_
  refine sp (pB g1 0) ?_
  refine s_lt (t_load 2 (.int .i64 v.kind)) ?_
  refine s_lt t_cmp ?_
  refine s_nt ?_
  refine k_cond (decide (v.kind = 4)) (fun c7 => ?_) (fun c7 => ?_)
  ·
   have p8 := of_decide_eq_true c7
   refine k_sr ?_
   refine sp (.pointer none) ?_
   refine s_lt (t_loadA 2 #[.int .i64 v.kind, .int .i64 v.p, .int .i64 v.q, .string v.str, .int .i64 v.ref]) ?_
   refine s_vcall (fun _ h => nplen_s v) ?_
   rintro _ rfl
   refine sp (.tuple #[.int .i64 0, .int .i64 1]) ?_
   refine sp (.int .i64 0) ?_
   refine sp (.int .i64 1) ?_
   refine sp (.int .i64 0) ?_
   refine sp (.int .i64 1) ?_
   refine s_nr ?_
   refine sp (.int .i64 0) ?_
   refine s_vcall (fun _ h => ofint_s 0) ?_
   rintro _ rfl
   refine s_vcall (fun _ h => given_s (ofI 0)) ?_
   rintro _ rfl
   refine s_store 1 #[.int .i64 1, .int .i64 ((ofI 0).kind), .int .i64 ((ofI 0).p), .int .i64 ((ofI 0).q), .string ((ofI 0).str), .int .i64 ((ofI 0).ref), .int .i64 0, .int .i64 0, .int .i64 0, .string ByteArray.empty, .int .i64 0, (.slice none 0 0), .int .i64 0, .string ByteArray.empty] ?_
   refine s_nt ?_
   refine k_ret ?_
   refine xs_ret ?_
   refine xs_fin [.agg #[.int .i64 1, .int .i64 ((ofI 0).kind), .int .i64 ((ofI 0).p), .int .i64 ((ofI 0).q), .string ((ofI 0).str), .int .i64 ((ofI 0).ref), .int .i64 0, .int .i64 0, .int .i64 0, .string ByteArray.empty, .int .i64 0, (.slice none 0 0), .int .i64 0, .string ByteArray.empty]] [] (SI.agg 4 41 1 SI.nil) (fun _ h => h.re [] [0, 0, 0]) ⟨?_, rfl⟩
   have hl : nlen v = _ := (if_neg (by omega)).trans (if_pos (by omega))
   rw [hl]; rfl
  ·
   have p9 := of_decide_eq_false c7
   refine k_st ?_
   refine k_sr ?_
   refine s_lt (t_loadA 2 #[.int .i64 v.kind, .int .i64 v.p, .int .i64 v.q, .string v.str, .int .i64 v.ref]) ?_
   refine s_vcall (fun _ h => attempt2_s v) ?_
   rintro _ rfl
   refine s_vcall (fun _ h => failed_s (lenB v.kind)) ?_
   rintro _ rfl
   refine s_store 1 #[.int .i64 3, .int .i64 0, .int .i64 0, .int .i64 0, .string ByteArray.empty, .int .i64 0, .int .i64 0, .int .i64 0, .int .i64 0, .string ByteArray.empty, .int .i64 0, (.slice none 0 0), .int .i64 0, .string (lenB v.kind)] ?_
   refine s_nt ?_
   refine k_ret ?_
   refine xs_fin [.agg #[.int .i64 3, .int .i64 0, .int .i64 0, .int .i64 0, .string ByteArray.empty, .int .i64 0, .int .i64 0, .int .i64 0, .int .i64 0, .string ByteArray.empty, .int .i64 0, (.slice none 0 0), .int .i64 0, .string (lenB v.kind)]] [] (SI.agg 4 41 1 SI.nil) (fun _ h => h.re [] [0, 0, 0]) ⟨?_, rfl⟩
   have hl : nlen v = _ := (if_neg (by omega)).trans (if_neg (by omega))
   rw [hl]; rfl
theorem rnlength_s {Z : Zone}  (v : Vl): SF Tryz.prog 13 #[.pointer none, v.v] Z [] fun r Bs => r = (nlen v).w (.slice none 0 0) ∧ Bs = [] := by
 refine sf_enter Tryz.func13 44 [(0, .pointer none), (1, .agg #[.int .i64 v.kind, .int .i64 v.p, .int .i64 v.q, .string v.str, .int .i64 v.ref])] (fun w0 => ?_)
 refine k_sr ?_
 refine s_box #[.int .i64 v.kind, .int .i64 v.p, .int .i64 v.q, .string v.str, .int .i64 v.ref] (fun g1 => ?_)
 refine s_alloc (.agg #[.int .i64 0, .int .i64 0, .int .i64 0, .int .i64 0, .string ByteArray.empty, .int .i64 0, .int .i64 0, .int .i64 0, .int .i64 0, .string ByteArray.empty, .int .i64 0, (.slice none 0 0), .int .i64 0, .string ByteArray.empty]) #[.int .i64 0, .int .i64 0, .int .i64 0, .int .i64 0, .string ByteArray.empty, .int .i64 0, .int .i64 0, .int .i64 0, .int .i64 0, .string ByteArray.empty, .int .i64 0, (.slice none 0 0), .int .i64 0, .string ByteArray.empty] (fun g2 => ?_)
 refine s_nt ?_
 refine k_seq ?_
 refine k_sr ?_
 refine sp (pB g1 0) ?_
 refine s_lt (t_load 1 (.int .i64 v.kind)) ?_
 refine s_lt t_cmp ?_
 refine s_nt ?_
 refine k_cond (decide (v.kind = 3)) (fun c3 => ?_) (fun c3 => ?_)
 ·
  have p4 := of_decide_eq_true c3
  refine k_sr ?_
  refine sp (pB g1 3) ?_
  refine s_lt (t_load 1 (.string v.str)) ?_
  refine s_lt (t_kern (.int .i64 (v.str.size : Int))) ?_
  refine s_vcall (fun _ h => rofint_s (v.str.size : Int)) ?_
  rintro _ rfl
  refine s_vcall (fun _ h => give_s (ofI (v.str.size : Int))) ?_
  rintro _ rfl
  refine s_store 0 #[.int .i64 1, .int .i64 ((ofI (v.str.size : Int)).kind), .int .i64 ((ofI (v.str.size : Int)).p), .int .i64 ((ofI (v.str.size : Int)).q), .string ((ofI (v.str.size : Int)).str), .int .i64 ((ofI (v.str.size : Int)).ref), .int .i64 0, .int .i64 0, .int .i64 0, .string ByteArray.empty, .int .i64 0, (.slice none 0 0), .int .i64 0, .string ByteArray.empty] ?_
  refine s_nt ?_
  refine k_ret ?_
  refine xs_ret ?_
  refine xs_fin [.agg #[.int .i64 1, .int .i64 ((ofI (v.str.size : Int)).kind), .int .i64 ((ofI (v.str.size : Int)).p), .int .i64 ((ofI (v.str.size : Int)).q), .string ((ofI (v.str.size : Int)).str), .int .i64 ((ofI (v.str.size : Int)).ref), .int .i64 0, .int .i64 0, .int .i64 0, .string ByteArray.empty, .int .i64 0, (.slice none 0 0), .int .i64 0, .string ByteArray.empty]] [] (SI.agg 4 41 0 SI.nil) (fun _ h => h.re [] [0, 0]) ⟨?_, rfl⟩
  have hl : nlen v = _ := if_pos (by omega)
  rw [hl]; rfl
 ·
  have p5 := of_decide_eq_false c3
  refine k_st ?_
  refine k_seq ?_
  refine k_sr ?_
  refine sp (.pointer none) ?_
  refine s_lt (t_loadA 1 #[.int .i64 v.kind, .int .i64 v.p, .int .i64 v.q, .string v.str, .int .i64 v.ref]) ?_
  refine s_vcall (fun _ h => rnhdl_s v ⟨#[95, 95, 108, 101, 110]⟩) ?_
  rintro _ rfl
  refine s_alloc (.agg #[.int .i64 0, .int .i64 0, .int .i64 0, .string ByteArray.empty, .int .i64 0]) #[.int .i64 0, .int .i64 0, .int .i64 0, .string ByteArray.empty, .int .i64 0] (fun g6 => ?_)
  refine s_store 0 #[.int .i64 0, .int .i64 0, .int .i64 0, .string ByteArray.empty, .int .i64 0] ?_
  refine s_nr ?_
  refine sp (pB g6 0) ?_
  refine s_lt (t_load 0 (.int .i64 0)) ?_
  refine s_lt (t_cmp (c := false)) ?_
  refine s_nt ?_
  refine k_false ?_
  refine k_st ?_
  refine k_seq ?_
  refine k_sr ?_
  refine sp (pB g1 0) ?_
  refine s_lt (t_load 2 (.int .i64 v.kind)) ?_
  refine s_lt t_cmp ?_
  refine s_nt ?_
  refine k_cond (decide (v.kind = 4)) (fun c7 => ?_) (fun c7 => ?_)
  ·
   have p8 := of_decide_eq_true c7
   refine k_sr ?_
   refine sp (.pointer none) ?_
   refine s_lt (t_loadA 2 #[.int .i64 v.kind, .int .i64 v.p, .int .i64 v.q, .string v.str, .int .i64 v.ref]) ?_
   refine s_vcall (fun _ h => nrlen_s v) ?_
   rintro _ rfl
   refine sp (.tuple #[.int .i64 0, .int .i64 1]) ?_
   refine sp (.int .i64 0) ?_
   refine sp (.int .i64 1) ?_
   refine sp (.int .i64 0) ?_
   refine sp (.int .i64 1) ?_
   refine s_nr ?_
   refine sp (.int .i64 0) ?_
   refine s_vcall (fun _ h => rofint_s 0) ?_
   rintro _ rfl
   refine s_vcall (fun _ h => give_s (ofI 0)) ?_
   rintro _ rfl
   refine s_store 1 #[.int .i64 1, .int .i64 ((ofI 0).kind), .int .i64 ((ofI 0).p), .int .i64 ((ofI 0).q), .string ((ofI 0).str), .int .i64 ((ofI 0).ref), .int .i64 0, .int .i64 0, .int .i64 0, .string ByteArray.empty, .int .i64 0, (.slice none 0 0), .int .i64 0, .string ByteArray.empty] ?_
   refine s_nt ?_
   refine k_ret ?_
   refine xs_ret ?_
   refine xs_fin [.agg #[.int .i64 1, .int .i64 ((ofI 0).kind), .int .i64 ((ofI 0).p), .int .i64 ((ofI 0).q), .string ((ofI 0).str), .int .i64 ((ofI 0).ref), .int .i64 0, .int .i64 0, .int .i64 0, .string ByteArray.empty, .int .i64 0, (.slice none 0 0), .int .i64 0, .string ByteArray.empty]] [] (SI.agg 4 41 1 SI.nil) (fun _ h => h.re [] [0, 0, 0]) ⟨?_, rfl⟩
   have hl : nlen v = _ := (if_neg (by omega)).trans (if_pos (by omega))
   rw [hl]; rfl
  ·
   have p9 := of_decide_eq_false c7
   refine k_st ?_
   refine k_sr ?_
   refine s_lt (t_loadA 2 #[.int .i64 v.kind, .int .i64 v.p, .int .i64 v.q, .string v.str, .int .i64 v.ref]) ?_
   refine s_vcall (fun _ h => rtype_s v) ?_
   rintro _ rfl
   refine s_lt (t_cat ⟨#[97, 116, 116, 101, 109, 112, 116, 32, 116, 111, 32, 103, 101, 116, 32, 108, 101, 110, 103, 116, 104, 32, 111, 102, 32, 97, 32]⟩ (typeB v.kind) (cat_ok (by decide : (⟨#[97, 116, 116, 101, 109, 112, 116, 32, 116, 111, 32, 103, 101, 116, 32, 108, 101, 110, 103, 116, 104, 32, 111, 102, 32, 97, 32]⟩ : ByteArray).size ≤ 27) (typeB_size _) (by decide))) ?_
   refine s_lt (t_cat (⟨#[97, 116, 116, 101, 109, 112, 116, 32, 116, 111, 32, 103, 101, 116, 32, 108, 101, 110, 103, 116, 104, 32, 111, 102, 32, 97, 32]⟩ ++ (typeB v.kind)) ⟨#[32, 118, 97, 108, 117, 101]⟩ (cat_ok (cat_le (by decide : (⟨#[97, 116, 116, 101, 109, 112, 116, 32, 116, 111, 32, 103, 101, 116, 32, 108, 101, 110, 103, 116, 104, 32, 111, 102, 32, 97, 32]⟩ : ByteArray).size ≤ 27) (typeB_size _)) (by decide : (⟨#[32, 118, 97, 108, 117, 101]⟩ : ByteArray).size ≤ 6) (by decide))) ?_
   refine s_vcall (fun _ h => fail_s ((⟨#[97, 116, 116, 101, 109, 112, 116, 32, 116, 111, 32, 103, 101, 116, 32, 108, 101, 110, 103, 116, 104, 32, 111, 102, 32, 97, 32]⟩ ++ (typeB v.kind)) ++ ⟨#[32, 118, 97, 108, 117, 101]⟩)) ?_
   rintro _ rfl
   refine s_store 1 #[.int .i64 3, .int .i64 0, .int .i64 0, .int .i64 0, .string ByteArray.empty, .int .i64 0, .int .i64 0, .int .i64 0, .int .i64 0, .string ByteArray.empty, .int .i64 0, (.slice none 0 0), .int .i64 0, .string ((⟨#[97, 116, 116, 101, 109, 112, 116, 32, 116, 111, 32, 103, 101, 116, 32, 108, 101, 110, 103, 116, 104, 32, 111, 102, 32, 97, 32]⟩ ++ (typeB v.kind)) ++ ⟨#[32, 118, 97, 108, 117, 101]⟩)] ?_
   refine s_nt ?_
   refine k_ret ?_
   refine xs_fin [.agg #[.int .i64 3, .int .i64 0, .int .i64 0, .int .i64 0, .string ByteArray.empty, .int .i64 0, .int .i64 0, .int .i64 0, .int .i64 0, .string ByteArray.empty, .int .i64 0, (.slice none 0 0), .int .i64 0, .string ((⟨#[97, 116, 116, 101, 109, 112, 116, 32, 116, 111, 32, 103, 101, 116, 32, 108, 101, 110, 103, 116, 104, 32, 111, 102, 32, 97, 32]⟩ ++ (typeB v.kind)) ++ ⟨#[32, 118, 97, 108, 117, 101]⟩)]] [] (SI.agg 4 41 1 SI.nil) (fun _ h => h.re [] [0, 0, 0]) ⟨?_, rfl⟩
   have hl : nlen v = _ := (if_neg (by omega)).trans (if_neg (by omega))
   rw [hl]; rfl
theorem nweak_s {Z : Zone}  (v : Vl): SF Tryz.prog 19 #[.pointer none, v.v] Z [] fun r Bs => r = .int .i64 0 ∧ Bs = [] := by
 refine sf_enter Tryz.func19 29 [(0, .pointer none), (1, .agg #[.int .i64 v.kind, .int .i64 v.p, .int .i64 v.q, .string v.str, .int .i64 v.ref])] (fun w0 => ?_)
 refine k_sr ?_
 refine s_box #[.int .i64 v.kind, .int .i64 v.p, .int .i64 v.q, .string v.str, .int .i64 v.ref] (fun g1 => ?_)
 refine sp (.int .i64 0) ?_
 refine s_nr ?_
 refine sp (.pointer none) ?_
 refine s_lt (t_loadA 0 #[.int .i64 v.kind, .int .i64 v.p, .int .i64 v.q, .string v.str, .int .i64 v.ref]) ?_
 refine s_vcall (fun _ h => nhdl_s v ⟨#[95, 95, 109, 111, 100, 101]⟩) ?_
 rintro _ rfl
 refine s_alloc (.agg #[.int .i64 0, .int .i64 0, .int .i64 0, .string ByteArray.empty, .int .i64 0]) #[.int .i64 0, .int .i64 0, .int .i64 0, .string ByteArray.empty, .int .i64 0] (fun g2 => ?_)
 refine s_store 0 #[.int .i64 0, .int .i64 0, .int .i64 0, .string ByteArray.empty, .int .i64 0] ?_
 refine s_nt ?_
 refine k_seq ?_
 refine k_sr ?_
 refine sp (pB g1 0) ?_
 refine s_lt (t_load 1 (.int .i64 v.kind)) ?_
 refine s_lt t_cmp ?_
 refine sp (.bool (decide (v.kind ≠ 4))) ?_
 refine s_fork 13 (decide (v.kind ≠ 4)) (fun c3 => ?_) (fun c3 => ?_)
 ·
  have p4 := of_decide_eq_true c3
  refine s_skip ?_
  refine s_skip ?_
  refine s_skip ?_
  refine sp (.bool true) ?_
  refine s_nt ?_
  refine k_true ?_
  refine k_sr ?_
  refine sp (.int .i64 0) ?_
  refine s_nt ?_
  refine k_ret ?_
  refine xs_ret ?_
  exact xs_fin [.int .i64 0] [] (SI.tmp 4 SI.nil) (fun _ h => h.re [] [0, 0]) ⟨rfl, rfl⟩
 ·
  have p5 := Decidable.not_not.1 (of_decide_eq_false c3)
  refine sp (pB g2 0) ?_
  refine s_lt (t_load 0 (.int .i64 0)) ?_
  refine s_lt (t_cmp (c := true)) ?_
  refine sp (.bool true) ?_
  refine s_nt ?_
  refine k_true ?_
  refine k_sr ?_
  refine sp (.int .i64 0) ?_
  refine s_nt ?_
  refine k_ret ?_
  refine xs_ret ?_
  exact xs_fin [.int .i64 0] [] (SI.tmp 4 SI.nil) (fun _ h => h.re [] [0, 0]) ⟨rfl, rfl⟩
theorem nvalues_s {Z : Zone} : SF Tryz.prog 33 #[.slice none 0 0, .slice none 0 0] Z [] fun r Bs => r = .bool true ∧ Bs = [] := by
 refine sf_enter Tryz.func33 26 [(0, (.slice none 0 0)), (1, (.slice none 0 0))] (fun w0 => ?_)
 refine k_sr ?_
 refine sp (.bool false) ?_
 refine s_nt ?_
 refine k_seq ?_
 refine k_sr ?_
 refine sp (.slice none 0 0) ?_
 refine s_lt (t_len VlT_ok Tryz.underlying33 .nil) ?_
 refine sp (.slice none 0 0) ?_
 refine s_lt (t_len VlT_ok Tryz.underlying33 .nil) ?_
 refine s_lt (Lt.to t_cmp (congrArg Value.bool (decide_eq_false (by simp) : (decide (([].length : Int) ≠ ([].length : Int))) = false))) ?_
 refine s_nt ?_
 refine k_false ?_
 refine k_st ?_
 refine k_seq ?_
 refine k_sr ?_
 refine sp (.int .i64 0) ?_
 refine s_nt ?_
 refine k_block ?_
 refine k_loop (ι := Nat) (fun i => i ≤ 0) (fun i => [(0, (.slice none 0 0)), (1, (.slice none 0 0)), (5, .int .i64 (i : Int))]) (fun i => []) (fun i => 0) 0 (Nat.le_refl _) (sub_of rfl ⟨⟨rfl, rfl⟩, ⟨⟨rfl, rfl⟩, ⟨⟨rfl, rfl⟩, trivial⟩⟩⟩) (fun _ h => h.re [] []) ?_
 rintro i hi1
 show SK _ _ _ _ _ [(0, (.slice none 0 0)), (1, (.slice none 0 0)), (5, .int .i64 (i : Int))] _ []
 refine k_seq ?_
 refine k_sr ?_
 refine sp (.int .i64 (i : Int)) ?_
 refine sp (.slice none 0 0) ?_
 refine s_lt (t_len VlT_ok Tryz.underlying33 .nil) ?_
 refine s_lt (Lt.to t_cmp (congrArg Value.bool (decide_eq_false (by simp) : (decide ((i : Int) < ([].length : Int))) = false))) ?_
 refine s_nt ?_
 refine k_false ?_
 refine k_exit ?_
 refine xs_exit ?_
 refine xs_exit ?_
 refine xs_here ?_
 refine xs_then ?_
 refine k_sr ?_
 refine sp (.bool true) ?_
 refine s_nt ?_
 refine k_ret ?_
 exact xs_fin [.bool true] [] (SI.tmp 4 SI.nil) (fun _ h => h.re [] []) ⟨rfl, rfl⟩
theorem nsame_s {Z : Zone} (x : Nd) : SF Tryz.prog 9 #[x.w (.slice none 0 0), x.w (.slice none 0 0)] Z [] fun r Bs => r = .bool true ∧ Bs = [] := by
 refine sf_enter Tryz.func9 45 [(0, .agg #[.int .i64 x.kind, .int .i64 x.val.kind, .int .i64 x.val.p, .int .i64 x.val.q, .string x.val.str, .int .i64 x.val.ref, .int .i64 x.fn.kind, .int .i64 x.fn.p, .int .i64 x.fn.q, .string x.fn.str, .int .i64 x.fn.ref, (.slice none 0 0), .int .i64 x.after, .string x.str]), (1, .agg #[.int .i64 x.kind, .int .i64 x.val.kind, .int .i64 x.val.p, .int .i64 x.val.q, .string x.val.str, .int .i64 x.val.ref, .int .i64 x.fn.kind, .int .i64 x.fn.p, .int .i64 x.fn.q, .string x.fn.str, .int .i64 x.fn.ref, (.slice none 0 0), .int .i64 x.after, .string x.str])] (fun w0 => ?_)
 refine k_sr ?_
 refine s_box #[.int .i64 x.kind, .int .i64 x.val.kind, .int .i64 x.val.p, .int .i64 x.val.q, .string x.val.str, .int .i64 x.val.ref, .int .i64 x.fn.kind, .int .i64 x.fn.p, .int .i64 x.fn.q, .string x.fn.str, .int .i64 x.fn.ref, (.slice none 0 0), .int .i64 x.after, .string x.str] (fun g1 => ?_)
 refine s_box #[.int .i64 x.kind, .int .i64 x.val.kind, .int .i64 x.val.p, .int .i64 x.val.q, .string x.val.str, .int .i64 x.val.ref, .int .i64 x.fn.kind, .int .i64 x.fn.p, .int .i64 x.fn.q, .string x.fn.str, .int .i64 x.fn.ref, (.slice none 0 0), .int .i64 x.after, .string x.str] (fun g2 => ?_)
 refine sp (.bool false) ?_
 refine s_nr ?_
 refine sp (pB g1 0) ?_
 refine s_lt (t_load 1 (.int .i64 x.kind)) ?_
 refine sp (pB g2 0) ?_
 refine s_lt (t_load 0 (.int .i64 x.kind)) ?_
 refine s_lt (Lt.to t_cmp (congrArg Value.bool (decide_eq_true rfl : (decide (x.kind = x.kind)) = true))) ?_
 refine sp (.bool true) ?_
 refine sp (pB g1 1) ?_
 refine s_lt (t_loadA 1 #[.int .i64 x.val.kind, .int .i64 x.val.p, .int .i64 x.val.q, .string x.val.str, .int .i64 x.val.ref]) ?_
 refine sp (pB g2 1) ?_
 refine s_lt (t_loadA 0 #[.int .i64 x.val.kind, .int .i64 x.val.p, .int .i64 x.val.q, .string x.val.str, .int .i64 x.val.ref]) ?_
 refine s_lt (Lt.to (t_eqS (fun w => (eqVlT x.val x.val w).1)) (congrArg Value.bool (decide_eq_true rfl : (decide (x.val = x.val)) = true))) ?_
 refine sp (.bool true) ?_
 refine sp (.bool true) ?_
 refine sp (pB g1 6) ?_
 refine s_lt (t_loadA 1 #[.int .i64 x.fn.kind, .int .i64 x.fn.p, .int .i64 x.fn.q, .string x.fn.str, .int .i64 x.fn.ref]) ?_
 refine sp (pB g2 6) ?_
 refine s_lt (t_loadA 0 #[.int .i64 x.fn.kind, .int .i64 x.fn.p, .int .i64 x.fn.q, .string x.fn.str, .int .i64 x.fn.ref]) ?_
 refine s_lt (Lt.to (t_eqS (fun w => (eqVlT x.fn x.fn w).1)) (congrArg Value.bool (decide_eq_true rfl : (decide (x.fn = x.fn)) = true))) ?_
 refine sp (.bool true) ?_
 refine sp (.bool true) ?_
 refine sp (pB g1 12) ?_
 refine s_lt (t_load 1 (.int .i64 x.after)) ?_
 refine sp (pB g2 12) ?_
 refine s_lt (t_load 0 (.int .i64 x.after)) ?_
 refine s_lt (Lt.to t_cmp (congrArg Value.bool (decide_eq_true rfl : (decide (x.after = x.after)) = true))) ?_
 refine sp (.bool true) ?_
 refine sp (.bool true) ?_
 refine sp (pB g1 13) ?_
 refine s_lt (t_load 1 (.string x.str)) ?_
 refine sp (pB g2 13) ?_
 refine s_lt (t_load 0 (.string x.str)) ?_
 refine s_lt (Lt.to t_cmpS (congrArg Value.bool (decide_eq_true rfl : (decide (x.str = x.str)) = true))) ?_
 refine sp (.bool true) ?_
 refine sp (.bool true) ?_
 refine sp (pB g1 11) ?_
 refine s_lt (t_load 1 (.slice none 0 0)) ?_
 refine sp (pB g2 11) ?_
 refine s_lt (t_load 0 (.slice none 0 0)) ?_
 refine s_vcall (fun _ h => nvalues_s) ?_
 rintro _ rfl
 refine sp (.bool true) ?_
 refine sp (.bool true) ?_
 refine s_nt ?_
 refine k_ret ?_
 exact xs_fin [.bool true] [] (SI.tmp 4 SI.nil) (fun _ h => h.re [] [0, 0]) ⟨rfl, rfl⟩
theorem nil_w {Z : Zone} (ht : KnTab Z) (v k x : Spc) (hr : -9223372036854775808 ≤ v.v.ref ∧ v.v.ref ≤ 9223372036854775807) : SF Tryz.prog 4 #[v.w, k.w, x.w] Z [] fun r Bs => r = .bool true ∧ Bs = [] := by
 refine sf_enter Tryz.func4 80 [(0, .agg #[.int .i64 v.v.kind, .int .i64 v.v.p, .int .i64 v.v.q, .string v.v.str, .int .i64 v.v.ref, .int .i64 v.obj]), (1, .agg #[.int .i64 k.v.kind, .int .i64 k.v.p, .int .i64 k.v.q, .string k.v.str, .int .i64 k.v.ref, .int .i64 k.obj]), (2, .agg #[.int .i64 x.v.kind, .int .i64 x.v.p, .int .i64 x.v.q, .string x.v.str, .int .i64 x.v.ref, .int .i64 x.obj])] (fun w0 => ?_)
 refine k_sr ?_
 refine s_box #[.int .i64 v.v.kind, .int .i64 v.v.p, .int .i64 v.v.q, .string v.v.str, .int .i64 v.v.ref, .int .i64 v.obj] (fun g1 => ?_)
 refine s_box #[.int .i64 k.v.kind, .int .i64 k.v.p, .int .i64 k.v.q, .string k.v.str, .int .i64 k.v.ref, .int .i64 k.obj] (fun g2 => ?_)
 refine s_box #[.int .i64 x.v.kind, .int .i64 x.v.p, .int .i64 x.v.q, .string x.v.str, .int .i64 x.v.ref, .int .i64 x.obj] (fun g3 => ?_)
 refine sp (.bool false) ?_
 refine s_nt ?_
 refine k_seq ?_
 refine k_sr ?_
 refine s_lt (t_loadA 2 #[.int .i64 v.v.kind, .int .i64 v.v.p, .int .i64 v.v.q, .string v.v.str, .int .i64 v.v.ref, .int .i64 v.obj]) ?_
 refine s_lt (t_loadA 1 #[.int .i64 k.v.kind, .int .i64 k.v.p, .int .i64 k.v.q, .string k.v.str, .int .i64 k.v.ref, .int .i64 k.obj]) ?_
 refine s_lt (t_loadA 0 #[.int .i64 x.v.kind, .int .i64 x.v.p, .int .i64 x.v.q, .string x.v.str, .int .i64 x.v.ref, .int .i64 x.obj]) ?_
 refine s_buildSlice (e := 28) [(0, .agg #[.int .i64 v.v.kind, .int .i64 v.v.p, .int .i64 v.v.q, .string v.v.str, .int .i64 v.v.ref, .int .i64 v.obj]), (1, .agg #[.int .i64 k.v.kind, .int .i64 k.v.p, .int .i64 k.v.q, .string k.v.str, .int .i64 k.v.ref, .int .i64 k.obj]), (2, .agg #[.int .i64 x.v.kind, .int .i64 x.v.p, .int .i64 x.v.q, .string x.v.str, .int .i64 x.v.ref, .int .i64 x.obj])] #[.int .i64 v.v.kind, .int .i64 v.v.p, .int .i64 v.v.q, .string v.v.str, .int .i64 v.v.ref, .int .i64 v.obj, .int .i64 k.v.kind, .int .i64 k.v.p, .int .i64 k.v.q, .string k.v.str, .int .i64 k.v.ref, .int .i64 k.obj, .int .i64 x.v.kind, .int .i64 x.v.p, .int .i64 x.v.q, .string x.v.str, .int .i64 x.v.ref, .int .i64 x.obj] (fun g4 => ?_) (hb := by kernel_rfl)
 refine s_pcall (fun _ h => large0_s ((Acc.lit 0 SpT_ok [v, k, x]).kn h) (by simp)) ?_
 rintro _ _ ⟨lg5, rfl, hlg6, rfl⟩
 refine s_nt ?_
 refine k_cond lg5 (fun c7 => ?_) (fun c7 => ?_)
 ·
  refine k_sr ?_
  refine s_vcall (fun _ h => lives_s) ?_
  rintro _ rfl
  refine sp (.bool true) ?_
  refine s_nt ?_
  refine k_ret ?_
  refine xs_ret ?_
  exact xs_fin [.bool true] [] (SI.tmp 6 SI.nil) (fun _ h => h.re [] [0, 0, 0, 0]) ⟨rfl, rfl⟩
 ·
  refine k_st ?_
  refine k_sr ?_
  refine sp (.pointer none) ?_
  refine s_nr ?_
  refine sp (.pointer none) ?_
  refine s_nt ?_
  refine k_seq ?_
  refine k_held [blkA g4 #[.int .i64 v.v.kind, .int .i64 v.v.p, .int .i64 v.v.q, .string v.v.str, .int .i64 v.v.ref, .int .i64 v.obj, .int .i64 k.v.kind, .int .i64 k.v.p, .int .i64 k.v.q, .string k.v.str, .int .i64 k.v.ref, .int .i64 k.obj, .int .i64 x.v.kind, .int .i64 x.v.p, .int .i64 x.v.q, .string x.v.str, .int .i64 x.v.ref, .int .i64 x.obj] 28, blkA g3 #[.int .i64 x.v.kind, .int .i64 x.v.p, .int .i64 x.v.q, .string x.v.str, .int .i64 x.v.ref, .int .i64 x.obj] 28, blkA g2 #[.int .i64 k.v.kind, .int .i64 k.v.p, .int .i64 k.v.q, .string k.v.str, .int .i64 k.v.ref, .int .i64 k.obj] 28, blkA g1 #[.int .i64 v.v.kind, .int .i64 v.v.p, .int .i64 v.v.q, .string v.v.str, .int .i64 v.v.ref, .int .i64 v.obj] 28] ?_
  refine hp_ 0 [0, 0, 0, 0] (pB g1 0) ?_
  refine h_l 1 rfl [0, 0, 0, 0] (fun _ => (t_loadA 3 #[.int .i64 v.v.kind, .int .i64 v.v.p, .int .i64 v.v.q, .string v.v.str, .int .i64 v.v.ref])) ?_
  refine hp_ 2 [0, 0, 0, 0] (pB g2 0) ?_
  refine h_l 3 rfl [0, 0, 0, 0] (fun _ => (t_loadA 2 #[.int .i64 k.v.kind, .int .i64 k.v.p, .int .i64 k.v.q, .string k.v.str, .int .i64 k.v.ref])) ?_
  refine hp_ 4 [0, 0, 0, 0] (pB g3 0) ?_
  refine h_l 5 rfl [0, 0, 0, 0] (fun _ => (t_loadA 1 #[.int .i64 x.v.kind, .int .i64 x.v.p, .int .i64 x.v.q, .string x.v.str, .int .i64 x.v.ref])) ?_
  refine h_join (ι := Nat × Nat × Nat) 3 #[true, true, true, true, true, true, true, true, true, false, false, false] (fun (g8, g9, g10) => [(7, .pointer none), (8, .pointer none), (9, pB g8 0), (10, pB g9 0), (11, pB g10 0), (19, .agg #[.int .i64 v.v.kind, .int .i64 v.v.p, .int .i64 v.v.q, .string v.v.str, .int .i64 v.v.ref]), (21, .agg #[.int .i64 k.v.kind, .int .i64 k.v.p, .int .i64 k.v.q, .string k.v.str, .int .i64 k.v.ref]), (23, .agg #[.int .i64 x.v.kind, .int .i64 x.v.p, .int .i64 x.v.q, .string x.v.str, .int .i64 x.v.ref])]) (fun (g8, g9, g10) => [blkA g10 #[.int .i64 0, .int .i64 0, .int .i64 0, .string ByteArray.empty, .int .i64 0] 26, blkA g9 #[.int .i64 0, .int .i64 0, .int .i64 0, .string ByteArray.empty, .int .i64 0] 26, blkA g8 #[.int .i64 0, .int .i64 0, .int .i64 0, .string ByteArray.empty, .int .i64 0] 26, blkA g4 #[.int .i64 v.v.kind, .int .i64 v.v.p, .int .i64 v.v.q, .string v.v.str, .int .i64 v.v.ref, .int .i64 v.obj, .int .i64 k.v.kind, .int .i64 k.v.p, .int .i64 k.v.q, .string k.v.str, .int .i64 k.v.ref, .int .i64 k.obj, .int .i64 x.v.kind, .int .i64 x.v.p, .int .i64 x.v.q, .string x.v.str, .int .i64 x.v.ref, .int .i64 x.obj] 28, blkA g3 #[.int .i64 x.v.kind, .int .i64 x.v.p, .int .i64 x.v.q, .string x.v.str, .int .i64 x.v.ref, .int .i64 x.obj] 28, blkA g2 #[.int .i64 k.v.kind, .int .i64 k.v.p, .int .i64 k.v.q, .string k.v.str, .int .i64 k.v.ref, .int .i64 k.obj] 28, blkA g1 #[.int .i64 v.v.kind, .int .i64 v.v.p, .int .i64 v.v.q, .string v.v.str, .int .i64 v.v.ref, .int .i64 v.obj] 28]) ?_ (fun hj20 => ?_)
  ·
   rintro ⟨g8, g9, g10⟩
   try dsimp only
   refine h_stepS 9 ?_
   refine s_store 2 #[.int .i64 v.v.kind, .int .i64 v.v.p, .int .i64 v.v.q, .string v.v.str, .int .i64 v.v.ref] ?_
   refine s_nil (xs_held [3, 3, 3, 3] ?_)
   refine h_stepS 10 ?_
   refine s_store 1 #[.int .i64 k.v.kind, .int .i64 k.v.p, .int .i64 k.v.q, .string k.v.str, .int .i64 k.v.ref] ?_
   refine s_nil (xs_held [3, 3, 3, 3] ?_)
   refine h_stepS 11 ?_
   refine s_store 0 #[.int .i64 x.v.kind, .int .i64 x.v.p, .int .i64 x.v.q, .string x.v.str, .int .i64 x.v.ref] ?_
   refine s_nil (xs_held [3, 3, 3, 3] ?_)
   refine h_doneS ?_
   refine xs_then ?_
   refine k_seq ?_
   refine k_held [blkA g10 #[.int .i64 x.v.kind, .int .i64 x.v.p, .int .i64 x.v.q, .string x.v.str, .int .i64 x.v.ref] 26, blkA g9 #[.int .i64 k.v.kind, .int .i64 k.v.p, .int .i64 k.v.q, .string k.v.str, .int .i64 k.v.ref] 26, blkA g8 #[.int .i64 v.v.kind, .int .i64 v.v.p, .int .i64 v.v.q, .string v.v.str, .int .i64 v.v.ref] 26, blkA g4 #[.int .i64 v.v.kind, .int .i64 v.v.p, .int .i64 v.v.q, .string v.v.str, .int .i64 v.v.ref, .int .i64 v.obj, .int .i64 k.v.kind, .int .i64 k.v.p, .int .i64 k.v.q, .string k.v.str, .int .i64 k.v.ref, .int .i64 k.obj, .int .i64 x.v.kind, .int .i64 x.v.p, .int .i64 x.v.q, .string x.v.str, .int .i64 x.v.ref, .int .i64 x.obj] 28, blkA g3 #[.int .i64 x.v.kind, .int .i64 x.v.p, .int .i64 x.v.q, .string x.v.str, .int .i64 x.v.ref, .int .i64 x.obj] 28, blkA g2 #[.int .i64 k.v.kind, .int .i64 k.v.p, .int .i64 k.v.q, .string k.v.str, .int .i64 k.v.ref, .int .i64 k.obj] 28, blkA g1 #[.int .i64 v.v.kind, .int .i64 v.v.p, .int .i64 v.v.q, .string v.v.str, .int .i64 v.v.ref, .int .i64 v.obj] 28] ?_
   refine hp_ 0 [0, 0, 0, 0, 0, 0, 0] (.pointer none) ?_
   refine h_l 1 rfl [0, 0, 0, 0, 0, 0, 0] (fun _ => (t_loadA 2 #[.int .i64 v.v.kind, .int .i64 v.v.p, .int .i64 v.v.q, .string v.v.str, .int .i64 v.v.ref])) ?_
   refine h_l 3 rfl [0, 0, 0, 0, 0, 0, 0] (fun _ => (t_kern (.agg #[.int .i64 0, .int .i64 0, .int .i64 0, .string ByteArray.empty, .int .i64 0]))) ?_
   refine h_stepS 2 ?_
   refine s_vcall (fun _ h => nhdl_s v.v ⟨#[95, 95, 105, 110, 100, 101, 120]⟩) ?_
   rintro _ rfl
   refine s_nil (xs_held [0, 0, 0, 0, 0, 0, 0] ?_)
   refine h_l 4 rfl [0, 0, 0, 0, 0, 0, 0] (fun _ => (Lt.to (t_eqS (fun w => (eqVlT zVl zVl w).1)) (congrArg Value.bool (decide_eq_true rfl : (decide (zVl = zVl)) = true)))) ?_
   refine hp_ 5 [0, 0, 0, 0, 0, 0, 0] (.bool true) ?_
   refine hp_ 6 [0, 0, 0, 0, 0, 0, 0] (.pointer none) ?_
   refine h_l 7 rfl [0, 0, 0, 0, 0, 0, 0] (fun _ => (t_loadA 2 #[.int .i64 v.v.kind, .int .i64 v.v.p, .int .i64 v.v.q, .string v.v.str, .int .i64 v.v.ref])) ?_
   refine h_l 8 rfl [0, 0, 0, 0, 0, 0, 0] (fun _ => (t_loadA 1 #[.int .i64 k.v.kind, .int .i64 k.v.p, .int .i64 k.v.q, .string k.v.str, .int .i64 k.v.ref])) ?_
   refine hp_ 10 [0, 0, 0, 0, 0, 0, 0] (.pointer none) ?_
   refine h_l 11 rfl [0, 0, 0, 0, 0, 0, 0] (fun _ => (t_loadA 2 #[.int .i64 v.v.kind, .int .i64 v.v.p, .int .i64 v.v.q, .string v.v.str, .int .i64 v.v.ref])) ?_
   refine h_l 12 rfl [0, 0, 0, 0, 0, 0, 0] (fun _ => (t_loadA 1 #[.int .i64 k.v.kind, .int .i64 k.v.p, .int .i64 k.v.q, .string k.v.str, .int .i64 k.v.ref])) ?_
   refine h_stepS 9 ?_
   refine s_vcall (fun _ h => nindex_s v.v k.v) ?_
   rintro _ rfl
   refine s_nil (xs_held [0, 0, 0, 0, 0, 0, 0] ?_)
   refine h_stepS 13 ?_
   refine s_vcall (fun _ h => nrindex_s v.v k.v) ?_
   rintro _ rfl
   refine s_nil (xs_held [0, 0, 0, 0, 0, 0, 0] ?_)
   refine h_stepS 14 ?_
   refine s_vcall (fun _ h => nsame_s (nix k.v v.v)) ?_
   rintro _ rfl
   refine s_nil (xs_held [0, 0, 0, 0, 0, 0, 0] ?_)
   refine hp_ 15 [0, 0, 0, 0, 0, 0, 0] (.bool true) ?_
   refine hp_ 16 [0, 0, 0, 0, 0, 0, 0] (.bool true) ?_
   refine hp_ 17 [0, 0, 0, 0, 0, 0, 0] (.pointer none) ?_
   refine h_l 18 rfl [0, 0, 0, 0, 0, 0, 0] (fun _ => (t_loadA 2 #[.int .i64 v.v.kind, .int .i64 v.v.p, .int .i64 v.v.q, .string v.v.str, .int .i64 v.v.ref])) ?_
   refine h_l 19 rfl [0, 0, 0, 0, 0, 0, 0] (fun _ => (t_loadA 1 #[.int .i64 k.v.kind, .int .i64 k.v.p, .int .i64 k.v.q, .string k.v.str, .int .i64 k.v.ref])) ?_
   refine h_l 20 rfl [0, 0, 0, 0, 0, 0, 0] (fun _ => (t_loadA 0 #[.int .i64 x.v.kind, .int .i64 x.v.p, .int .i64 x.v.q, .string x.v.str, .int .i64 x.v.ref])) ?_
   refine hp_ 22 [0, 0, 0, 0, 0, 0, 0] (.pointer none) ?_
   refine h_l 23 rfl [0, 0, 0, 0, 0, 0, 0] (fun _ => (t_loadA 2 #[.int .i64 v.v.kind, .int .i64 v.v.p, .int .i64 v.v.q, .string v.v.str, .int .i64 v.v.ref])) ?_
   refine h_l 24 rfl [0, 0, 0, 0, 0, 0, 0] (fun _ => (t_loadA 1 #[.int .i64 k.v.kind, .int .i64 k.v.p, .int .i64 k.v.q, .string k.v.str, .int .i64 k.v.ref])) ?_
   refine h_l 25 rfl [0, 0, 0, 0, 0, 0, 0] (fun _ => (t_loadA 0 #[.int .i64 x.v.kind, .int .i64 x.v.p, .int .i64 x.v.q, .string x.v.str, .int .i64 x.v.ref])) ?_
   refine h_stepS 21 ?_
   refine s_vcall (fun _ h => nassign_s v.v k.v x.v) ?_
   rintro _ rfl
   refine s_nil (xs_held [0, 0, 0, 0, 0, 0, 0] ?_)
   refine h_stepS 26 ?_
   refine s_vcall (fun _ h => nrassign_s v.v k.v x.v) ?_
   rintro _ rfl
   refine s_nil (xs_held [0, 0, 0, 0, 0, 0, 0] ?_)
   refine h_stepS 27 ?_
   refine s_vcall (fun _ h => nsame_s (failN (attB v.v.kind))) ?_
   rintro _ rfl
   refine s_nil (xs_held [0, 0, 0, 0, 0, 0, 0] ?_)
   refine hp_ 28 [0, 0, 0, 0, 0, 0, 0] (.bool true) ?_
   refine hp_ 29 [0, 0, 0, 0, 0, 0, 0] (.bool true) ?_
   refine hp_ 30 [0, 0, 0, 0, 0, 0, 0] (.pointer none) ?_
   refine h_l 31 rfl [0, 0, 0, 0, 0, 0, 0] (fun _ => (t_loadA 2 #[.int .i64 v.v.kind, .int .i64 v.v.p, .int .i64 v.v.q, .string v.v.str, .int .i64 v.v.ref])) ?_
   refine hp_ 33 [0, 0, 0, 0, 0, 0, 0] (.pointer none) ?_
   refine h_l 34 rfl [0, 0, 0, 0, 0, 0, 0] (fun _ => (t_loadA 2 #[.int .i64 v.v.kind, .int .i64 v.v.p, .int .i64 v.v.q, .string v.v.str, .int .i64 v.v.ref])) ?_
   refine h_stepS 32 ?_
   refine s_vcall (fun _ h => ntext15_s (ht.at h) v.v hr.1 hr.2 (have := hlg6 c7 v (List.mem_cons_self ..); by omega)) ?_
   rintro _ rfl
   refine s_nil (xs_held [0, 0, 0, 0, 0, 0, 0] ?_)
   refine h_stepS 35 ?_
   refine s_vcall (fun _ h => rntext15_s v.v hr.1 hr.2 (have := hlg6 c7 v (List.mem_cons_self ..); by omega)) ?_
   rintro _ rfl
   refine s_nil (xs_held [0, 0, 0, 0, 0, 0, 0] ?_)
   refine h_stepS 36 ?_
   refine s_vcall (fun _ h => nsame_s (giveN (strV (cutT (textT v.v))))) ?_
   rintro _ rfl
   refine s_nil (xs_held [0, 0, 0, 0, 0, 0, 0] ?_)
   refine hp_ 37 [0, 0, 0, 0, 0, 0, 0] (.bool true) ?_
   refine hp_ 38 [0, 0, 0, 0, 0, 0, 0] (.bool true) ?_
   refine hp_ 39 [0, 0, 0, 0, 0, 0, 0] (.pointer none) ?_
   refine h_l 40 rfl [0, 0, 0, 0, 0, 0, 0] (fun _ => (t_loadA 2 #[.int .i64 v.v.kind, .int .i64 v.v.p, .int .i64 v.v.q, .string v.v.str, .int .i64 v.v.ref])) ?_
   refine hp_ 42 [0, 0, 0, 0, 0, 0, 0] (.pointer none) ?_
   refine h_l 43 rfl [0, 0, 0, 0, 0, 0, 0] (fun _ => (t_loadA 2 #[.int .i64 v.v.kind, .int .i64 v.v.p, .int .i64 v.v.q, .string v.v.str, .int .i64 v.v.ref])) ?_
   refine h_stepS 41 ?_
   refine s_vcall (fun _ h => nlength_s v.v) ?_
   rintro _ rfl
   refine s_nil (xs_held [0, 0, 0, 0, 0, 0, 0] ?_)
   refine h_stepS 44 ?_
   refine s_vcall (fun _ h => rnlength_s v.v) ?_
   rintro _ rfl
   refine s_nil (xs_held [0, 0, 0, 0, 0, 0, 0] ?_)
   refine h_stepS 45 ?_
   refine s_vcall (fun _ h => nsame_s (nlen v.v)) ?_
   rintro _ rfl
   refine s_nil (xs_held [0, 0, 0, 0, 0, 0, 0] ?_)
   refine hp_ 46 [0, 0, 0, 0, 0, 0, 0] (.bool true) ?_
   refine hp_ 47 [0, 0, 0, 0, 0, 0, 0] (.bool true) ?_
   refine hp_ 48 [0, 0, 0, 0, 0, 0, 0] (.pointer none) ?_
   refine h_l 49 rfl [0, 0, 0, 0, 0, 0, 0] (fun _ => (t_loadA 2 #[.int .i64 v.v.kind, .int .i64 v.v.p, .int .i64 v.v.q, .string v.v.str, .int .i64 v.v.ref])) ?_
   refine h_stepS 50 ?_
   refine s_vcall (fun _ h => nweak_s v.v) ?_
   rintro _ rfl
   refine s_nil (xs_held [0, 0, 0, 0, 0, 0, 0] ?_)
   refine h_l 51 rfl [0, 0, 0, 0, 0, 0, 0] (fun _ => (t_cmp (c := true))) ?_
   refine hp_ 52 [0, 0, 0, 0, 0, 0, 0] (.bool true) ?_
   refine hp_ 53 [0, 0, 0, 0, 0, 0, 0] (.bool true) ?_
   refine h_stepS 54 ?_
   refine s_vcall (fun _ h => lives_s) ?_
   rintro _ rfl
   refine s_nil (xs_held [0, 0, 0, 0, 0, 0, 0] ?_)
   refine hp_ 55 [0, 0, 0, 0, 0, 0, 0] (.bool true) ?_
   refine hp_ 56 [0, 0, 0, 0, 0, 0, 0] (.bool true) ?_
   refine h_doneS ?_
   refine xs_then ?_
   refine k_ret ?_
   exact xs_fin [.bool true] [] (SI.tmp 6 SI.nil) (fun _ h => h.re [] [0, 0, 0, 0, 0, 0, 0]) ⟨rfl, rfl⟩
  refine h_join (ι := Nat × Nat) 4 #[true, true, true, true, true, true, true, true, false, false, false, false] (fun (g8, g9) => [(7, .pointer none), (8, .pointer none), (9, pB g8 0), (10, pB g9 0), (19, .agg #[.int .i64 v.v.kind, .int .i64 v.v.p, .int .i64 v.v.q, .string v.v.str, .int .i64 v.v.ref]), (21, .agg #[.int .i64 k.v.kind, .int .i64 k.v.p, .int .i64 k.v.q, .string k.v.str, .int .i64 k.v.ref]), (23, .agg #[.int .i64 x.v.kind, .int .i64 x.v.p, .int .i64 x.v.q, .string x.v.str, .int .i64 x.v.ref])]) (fun (g8, g9) => [blkA g9 #[.int .i64 0, .int .i64 0, .int .i64 0, .string ByteArray.empty, .int .i64 0] 26, blkA g8 #[.int .i64 0, .int .i64 0, .int .i64 0, .string ByteArray.empty, .int .i64 0] 26, blkA g4 #[.int .i64 v.v.kind, .int .i64 v.v.p, .int .i64 v.v.q, .string v.v.str, .int .i64 v.v.ref, .int .i64 v.obj, .int .i64 k.v.kind, .int .i64 k.v.p, .int .i64 k.v.q, .string k.v.str, .int .i64 k.v.ref, .int .i64 k.obj, .int .i64 x.v.kind, .int .i64 x.v.p, .int .i64 x.v.q, .string x.v.str, .int .i64 x.v.ref, .int .i64 x.obj] 28, blkA g3 #[.int .i64 x.v.kind, .int .i64 x.v.p, .int .i64 x.v.q, .string x.v.str, .int .i64 x.v.ref, .int .i64 x.obj] 28, blkA g2 #[.int .i64 k.v.kind, .int .i64 k.v.p, .int .i64 k.v.q, .string k.v.str, .int .i64 k.v.ref, .int .i64 k.obj] 28, blkA g1 #[.int .i64 v.v.kind, .int .i64 v.v.p, .int .i64 v.v.q, .string v.v.str, .int .i64 v.v.ref, .int .i64 v.obj] 28]) ?_ (fun hj21 => ?_)
  ·
   rintro ⟨g8, g9⟩
   try dsimp only
   refine h_stepS 8 ?_
   refine s_alloc (.agg #[.int .i64 0, .int .i64 0, .int .i64 0, .string ByteArray.empty, .int .i64 0]) #[.int .i64 0, .int .i64 0, .int .i64 0, .string ByteArray.empty, .int .i64 0] (fun g22 => ?_)
   refine s_nil (xs_held [3, 3, 3, 3] ?_)
   exact h_use hj20 (g8, g9, g22) (fun _ h => h.re [0, 0, 0, 0, 0, 0, 0] [])
  refine h_join (ι := Nat × Nat) 4 #[true, true, true, true, true, true, true, false, true, false, false, false] (fun (g8, g11) => [(7, .pointer none), (8, .pointer none), (9, pB g8 0), (11, pB g11 0), (19, .agg #[.int .i64 v.v.kind, .int .i64 v.v.p, .int .i64 v.v.q, .string v.v.str, .int .i64 v.v.ref]), (21, .agg #[.int .i64 k.v.kind, .int .i64 k.v.p, .int .i64 k.v.q, .string k.v.str, .int .i64 k.v.ref]), (23, .agg #[.int .i64 x.v.kind, .int .i64 x.v.p, .int .i64 x.v.q, .string x.v.str, .int .i64 x.v.ref])]) (fun (g8, g11) => [blkA g11 #[.int .i64 0, .int .i64 0, .int .i64 0, .string ByteArray.empty, .int .i64 0] 26, blkA g8 #[.int .i64 0, .int .i64 0, .int .i64 0, .string ByteArray.empty, .int .i64 0] 26, blkA g4 #[.int .i64 v.v.kind, .int .i64 v.v.p, .int .i64 v.v.q, .string v.v.str, .int .i64 v.v.ref, .int .i64 v.obj, .int .i64 k.v.kind, .int .i64 k.v.p, .int .i64 k.v.q, .string k.v.str, .int .i64 k.v.ref, .int .i64 k.obj, .int .i64 x.v.kind, .int .i64 x.v.p, .int .i64 x.v.q, .string x.v.str, .int .i64 x.v.ref, .int .i64 x.obj] 28, blkA g3 #[.int .i64 x.v.kind, .int .i64 x.v.p, .int .i64 x.v.q, .string x.v.str, .int .i64 x.v.ref, .int .i64 x.obj] 28, blkA g2 #[.int .i64 k.v.kind, .int .i64 k.v.p, .int .i64 k.v.q, .string k.v.str, .int .i64 k.v.ref, .int .i64 k.obj] 28, blkA g1 #[.int .i64 v.v.kind, .int .i64 v.v.p, .int .i64 v.v.q, .string v.v.str, .int .i64 v.v.ref, .int .i64 v.obj] 28]) ?_ (fun hj23 => ?_)
  ·
   rintro ⟨g8, g11⟩
   try dsimp only
   refine h_stepS 7 ?_
   refine s_alloc (.agg #[.int .i64 0, .int .i64 0, .int .i64 0, .string ByteArray.empty, .int .i64 0]) #[.int .i64 0, .int .i64 0, .int .i64 0, .string ByteArray.empty, .int .i64 0] (fun g24 => ?_)
   refine s_nil (xs_held [3, 3, 3, 3] ?_)
   exact h_use hj20 (g8, g24, g11) (fun _ h => h.re [1, 0, 0, 0, 0, 0, 0] [])
  refine h_join (ι := Nat × Nat) 4 #[true, true, true, true, true, true, false, true, true, false, false, false] (fun (g13, g15) => [(7, .pointer none), (8, .pointer none), (10, pB g13 0), (11, pB g15 0), (19, .agg #[.int .i64 v.v.kind, .int .i64 v.v.p, .int .i64 v.v.q, .string v.v.str, .int .i64 v.v.ref]), (21, .agg #[.int .i64 k.v.kind, .int .i64 k.v.p, .int .i64 k.v.q, .string k.v.str, .int .i64 k.v.ref]), (23, .agg #[.int .i64 x.v.kind, .int .i64 x.v.p, .int .i64 x.v.q, .string x.v.str, .int .i64 x.v.ref])]) (fun (g13, g15) => [blkA g15 #[.int .i64 0, .int .i64 0, .int .i64 0, .string ByteArray.empty, .int .i64 0] 26, blkA g13 #[.int .i64 0, .int .i64 0, .int .i64 0, .string ByteArray.empty, .int .i64 0] 26, blkA g4 #[.int .i64 v.v.kind, .int .i64 v.v.p, .int .i64 v.v.q, .string v.v.str, .int .i64 v.v.ref, .int .i64 v.obj, .int .i64 k.v.kind, .int .i64 k.v.p, .int .i64 k.v.q, .string k.v.str, .int .i64 k.v.ref, .int .i64 k.obj, .int .i64 x.v.kind, .int .i64 x.v.p, .int .i64 x.v.q, .string x.v.str, .int .i64 x.v.ref, .int .i64 x.obj] 28, blkA g3 #[.int .i64 x.v.kind, .int .i64 x.v.p, .int .i64 x.v.q, .string x.v.str, .int .i64 x.v.ref, .int .i64 x.obj] 28, blkA g2 #[.int .i64 k.v.kind, .int .i64 k.v.p, .int .i64 k.v.q, .string k.v.str, .int .i64 k.v.ref, .int .i64 k.obj] 28, blkA g1 #[.int .i64 v.v.kind, .int .i64 v.v.p, .int .i64 v.v.q, .string v.v.str, .int .i64 v.v.ref, .int .i64 v.obj] 28]) ?_ (fun hj25 => ?_)
  ·
   rintro ⟨g13, g15⟩
   try dsimp only
   refine h_stepS 6 ?_
   refine s_alloc (.agg #[.int .i64 0, .int .i64 0, .int .i64 0, .string ByteArray.empty, .int .i64 0]) #[.int .i64 0, .int .i64 0, .int .i64 0, .string ByteArray.empty, .int .i64 0] (fun g26 => ?_)
   refine s_nil (xs_held [3, 3, 3, 3] ?_)
   exact h_use hj20 (g26, g13, g15) (fun _ h => h.re [1, 1, 0, 0, 0, 0, 0] [])
  refine h_stepS3 6 7 8 ?_ ?_ ?_
  ·
   refine s_alloc (.agg #[.int .i64 0, .int .i64 0, .int .i64 0, .string ByteArray.empty, .int .i64 0]) #[.int .i64 0, .int .i64 0, .int .i64 0, .string ByteArray.empty, .int .i64 0] (fun g27 => ?_)
   refine s_nil (xs_held [1, 1, 1, 1] ?_)
   refine h_stepS2 7 8 ?_ ?_
   ·
    refine s_alloc (.agg #[.int .i64 0, .int .i64 0, .int .i64 0, .string ByteArray.empty, .int .i64 0]) #[.int .i64 0, .int .i64 0, .int .i64 0, .string ByteArray.empty, .int .i64 0] (fun g28 => ?_)
    refine s_nil (xs_held [2, 2, 2, 2] ?_)
    exact h_use hj21 (g27, g28) (fun _ h => h.re [0, 0, 0, 0, 0, 0] [])
   ·
    refine s_alloc (.agg #[.int .i64 0, .int .i64 0, .int .i64 0, .string ByteArray.empty, .int .i64 0]) #[.int .i64 0, .int .i64 0, .int .i64 0, .string ByteArray.empty, .int .i64 0] (fun g29 => ?_)
    refine s_nil (xs_held [2, 2, 2, 2] ?_)
    exact h_use hj23 (g27, g29) (fun _ h => h.re [0, 0, 0, 0, 0, 0] [])
  ·
   refine s_alloc (.agg #[.int .i64 0, .int .i64 0, .int .i64 0, .string ByteArray.empty, .int .i64 0]) #[.int .i64 0, .int .i64 0, .int .i64 0, .string ByteArray.empty, .int .i64 0] (fun g30 => ?_)
   refine s_nil (xs_held [1, 1, 1, 1] ?_)
   refine h_stepS2 6 8 ?_ ?_
   ·
    refine s_alloc (.agg #[.int .i64 0, .int .i64 0, .int .i64 0, .string ByteArray.empty, .int .i64 0]) #[.int .i64 0, .int .i64 0, .int .i64 0, .string ByteArray.empty, .int .i64 0] (fun g31 => ?_)
    refine s_nil (xs_held [2, 2, 2, 2] ?_)
    exact h_use hj21 (g31, g30) (fun _ h => h.re [1, 0, 0, 0, 0, 0] [])
   ·
    refine s_alloc (.agg #[.int .i64 0, .int .i64 0, .int .i64 0, .string ByteArray.empty, .int .i64 0]) #[.int .i64 0, .int .i64 0, .int .i64 0, .string ByteArray.empty, .int .i64 0] (fun g32 => ?_)
    refine s_nil (xs_held [2, 2, 2, 2] ?_)
    exact h_use hj25 (g30, g32) (fun _ h => h.re [0, 0, 0, 0, 0, 0] [])
  ·
   refine s_alloc (.agg #[.int .i64 0, .int .i64 0, .int .i64 0, .string ByteArray.empty, .int .i64 0]) #[.int .i64 0, .int .i64 0, .int .i64 0, .string ByteArray.empty, .int .i64 0] (fun g33 => ?_)
   refine s_nil (xs_held [1, 1, 1, 1] ?_)
   refine h_stepS2 6 7 ?_ ?_
   ·
    refine s_alloc (.agg #[.int .i64 0, .int .i64 0, .int .i64 0, .string ByteArray.empty, .int .i64 0]) #[.int .i64 0, .int .i64 0, .int .i64 0, .string ByteArray.empty, .int .i64 0] (fun g34 => ?_)
    refine s_nil (xs_held [2, 2, 2, 2] ?_)
    exact h_use hj23 (g34, g33) (fun _ h => h.re [1, 0, 0, 0, 0, 0] [])
   ·
    refine s_alloc (.agg #[.int .i64 0, .int .i64 0, .int .i64 0, .string ByteArray.empty, .int .i64 0]) #[.int .i64 0, .int .i64 0, .int .i64 0, .string ByteArray.empty, .int .i64 0] (fun g35 => ?_)
    refine s_nil (xs_held [2, 2, 2, 2] ?_)
    exact h_use hj25 (g35, g33) (fun _ h => h.re [1, 0, 0, 0, 0, 0] [])
end Go.Proofs.YtplkkhpokodbmaaGreatDoor
end
section
set_option linter.unusedSimpArgs false
set_option linter.unusedVariables false
namespace Go.J
open Go.ChangeShapes Go.WideShapes Go.RowKit Go.Hp
open Go.Mem (Ty)
section
variable {H : Type} {enc : TypeId × Value → H} {P : Program} {W : World}
abbrev Tr (enc : TypeId × Value → H) (P : Program) (W : World) (t : TypeId) (cs : List Value) : Prop := ∃ n x, DataW.trod enc P W 0 (fun _ => true) true n t cs = some x
theorem tr_len {t : TypeId} {fs : Array Field} {cs : List Value} (hu : P.underlying t = some (.struct fs)) (h : Tr enc P W t cs) : cs.length = P.cellsOf t := by
  obtain ⟨fuel, x, hx⟩ := h
  obtain ⟨xs, n, _, _, hlen, hxl, hall⟩ := DataW.trod_struct hu hx
  exact hlen
theorem tr_int {t : TypeId} {k : IntKind} {cs : List Value} (hu : P.underlying t = some (.int k)) (h : Tr enc P W t cs) : ∃ n, cs = [.int k n] ∧ (Lit.int k n).wf = true := by
  obtain ⟨fuel, x, hx⟩ := h
  obtain ⟨n, h1, _, h3⟩ := DataW.trod_int hu hx
  exact ⟨n, h1, h3⟩
end
end Go.J
end
section
set_option linter.unusedSimpArgs false
set_option linter.unusedVariables false
namespace Go.J
open Go.ChangeShapes Go.WideShapes Go.RowKit Go.Hp
open Go.Mem (Ty)
section
variable {H : Type} {enc : TypeId × Value → H} {P : Program} {W : World}
abbrev TrS (enc : TypeId × Value → H) (P : Program) (W : World) (t : TypeId) (cs : List Value) : Prop := ∃ n x, DataW.trod enc P W 0 (fun _ => true) true n t cs = some x ∧ (x.1.weights P t).all (· ≤ reachBytes) = true
theorem TrS.tr {t : TypeId} {cs : List Value} (h : TrS enc P W t cs) : Tr enc P W t cs := by obtain ⟨n, x, h, _⟩ := h; exact ⟨n, x, h⟩
theorem each_at {p : Nat → Bool} : ∀ {ts : List TypeId} {ds : List (DataW H)} {j : Nat} {t : TypeId} {d : DataW H}, (DataW.weightsEach P ts ds).all p = true → ts[j]? = some t → ds[j]? = some d → (d.weights P t).all p = true
  | t :: ts, d :: ds, 0, _, _, h, rfl, rfl => by
    rw [DataW.weightsEach, List.all_append, Bool.and_eq_true] at h; exact h.1
  | t :: ts, d :: ds, j + 1, _, _, h, h1, h2 => by
    rw [DataW.weightsEach, List.all_append, Bool.and_eq_true] at h; exact each_at h.2 h1 h2
  | [], _, _, _, _, _, h, _ => by simp at h
  | _ :: _, [], _, _, _, _, _, h => by simp at h
/-- An argument, as the row hands it. -/
theorem trs_arg {ts : List TypeId} {ds gs : List (DataW H)} {us : List TypeId} {j : Nat} {t : TypeId} {v : Value} {d : DataW H} {p : List MemPlace} (hw : (DataW.weightsEach P (ts ++ us) (ds ++ gs)).all (· ≤ reachBytes) = true) (ht : (ts ++ us)[j]? = some t) (hd : (ds ++ gs)[j]? = some d)
    (h : DataW.Trod enc P W 0 (fun _ => true) true t v d p) : TrS enc P W t v.cells.toList := by
  obtain ⟨n, h⟩ := h
  exact ⟨n, _, h, each_at hw ht hd⟩
theorem trs_field {t : TypeId} {fs : Array Field} {cs : List Value} (hu : P.underlying t = some (.struct fs)) (h : TrS enc P W t cs) (j : Nat) (u : TypeId) (off m : Nat) (hf : (fs[j]?).map (fun f => (f.type, f.offset)) = some (u, off) := by rfl) (hc : P.cellsOf u = m := by kernel_rfl) : TrS enc P W u ((cs.drop off).take m) := by
  obtain ⟨fuel, x, hx, hw⟩ := h
  obtain ⟨xs, n, _, rfl, hlen, hxl, hall⟩ := DataW.trod_struct hu hx
  cases hfj : fs[j]? with
  | none => rw [hfj] at hf; cases hf
  | some f =>
    rw [hfj] at hf
    injection hf with hf; injection hf with e1 e2
    subst e1 e2 hc
    have h2 := hall j f hfj
    have hj : j < xs.length := by rw [hxl]; exact (Array.getElem?_eq_some_iff.1 hfj).1
    rw [List.getElem?_eq_getElem hj] at h2
    refine ⟨n, _, h2, ?_⟩
    simp only [DataW.weights, hu] at hw
    exact each_at hw (by rw [List.getElem?_map, Array.getElem?_toList, hfj]; rfl) (by rw [List.getElem?_map, List.getElem?_eq_getElem hj]; rfl)
theorem trs_len {t : TypeId} {fs : Array Field} {cs : List Value} (hu : P.underlying t = some (.struct fs)) (h : TrS enc P W t cs) (m : Nat) (hc : P.cellsOf t = m := by kernel_rfl) : cs.length = m := (tr_len hu h.tr).trans hc
theorem wf64 {n : Int} (h : (Lit.int .i64 n).wf = true) : -9223372036854775808 ≤ n ∧ n ≤ 9223372036854775807 := by
  simp only [Lit.wf, Bool.and_eq_true, decide_eq_true_eq] at h
  have e1 : IntKind.i64.min = -9223372036854775808 := by decide
  have e2 : IntKind.i64.max = 9223372036854775807 := by decide
  omega
theorem trs_int {t : TypeId} {cs : List Value} (hu : P.underlying t = some (.int .i64)) (h : TrS enc P W t cs) : ∃ n, cs = [.int .i64 n] ∧ -9223372036854775808 ≤ n ∧ n ≤ 9223372036854775807 := by
  obtain ⟨n, h1, h2⟩ := tr_int hu h.tr
  exact ⟨n, h1, wf64 h2⟩
theorem trs_str {t : TypeId} {cs : List Value} (hu : P.underlying t = some .string) (h : TrS enc P W t cs) : ∃ s, cs = [.string s] ∧ (s.size : Int) ≤ 140737488351232 := by
  obtain ⟨fuel, x, hx, hw⟩ := h
  obtain ⟨s, h1, rfl, _⟩ := DataW.trod_string hu hx
  refine ⟨s, h1, ?_⟩
  simp only [DataW.weights, List.all_cons, List.all_nil, Bool.and_true, decide_eq_true_eq] at hw
  have e : reachBytes = 140737488351232 := rfl
  have e2 : s.data.toList.length = s.size := rfl
  omega
end
end Go.J
end
section
set_option linter.unusedSimpArgs false
set_option linter.unusedVariables false
set_option maxRecDepth 100000
namespace Go.Proofs.YtplkkhpokodbmaaGreatDoor
open Go.ChangeShapes Go.WideShapes Go.ChangeAt Go.RowKit Go.Hp Go.J Go.S
instance : Inhabited Spc := ⟨⟨zVl, 0⟩⟩
instance : Inhabited Opc := ⟨⟨0, ⟨zVl, 0⟩, ⟨zVl, 0⟩, ⟨zVl, 0⟩⟩⟩
def okS (x : Spc) : Prop := -9223372036854775808 ≤ x.v.ref ∧ x.v.ref ≤ 9223372036854775807
theorem openSp {H : Type} {enc : TypeId × Value → H} {W : World} {cs : List Value} (h : TrS enc Tryz.prog W 28 cs) : ∃ x, SpT.enc x = cs ∧ okS x := by
  have hl := trs_len Tryz.underlying28 h 6
  obtain ⟨x0, e0, b0⟩ := trs_int Tryz.underlying3 (trs_field Tryz.underlying26 (trs_field Tryz.underlying28 h 0 26 0 5) 0 3 0 1)
  obtain ⟨x1, e1, b1⟩ := trs_int Tryz.underlying3 (trs_field Tryz.underlying24 (trs_field Tryz.underlying26 (trs_field Tryz.underlying28 h 0 26 0 5) 1 24 1 2) 0 3 0 1)
  obtain ⟨x2, e2, b2⟩ := trs_int Tryz.underlying3 (trs_field Tryz.underlying24 (trs_field Tryz.underlying26 (trs_field Tryz.underlying28 h 0 26 0 5) 1 24 1 2) 1 3 1 1)
  obtain ⟨x3, e3, b3⟩ := trs_str Tryz.underlying9 (trs_field Tryz.underlying26 (trs_field Tryz.underlying28 h 0 26 0 5) 2 9 3 1)
  obtain ⟨x4, e4, b4⟩ := trs_int Tryz.underlying3 (trs_field Tryz.underlying26 (trs_field Tryz.underlying28 h 0 26 0 5) 3 3 4 1)
  obtain ⟨x5, e5, b5⟩ := trs_int Tryz.underlying3 (trs_field Tryz.underlying28 h 1 3 5 1)
  match cs, hl with
  | [c0, c1, c2, c3, c4, c5], _ =>
    obtain rfl : c0 = _ := (List.cons.inj (show [c0] = _ from e0)).1
    obtain rfl : c1 = _ := (List.cons.inj (show [c1] = _ from e1)).1
    obtain rfl : c2 = _ := (List.cons.inj (show [c2] = _ from e2)).1
    obtain rfl : c3 = _ := (List.cons.inj (show [c3] = _ from e3)).1
    obtain rfl : c4 = _ := (List.cons.inj (show [c4] = _ from e4)).1
    obtain rfl : c5 = _ := (List.cons.inj (show [c5] = _ from e5)).1
    exact ⟨⟨⟨x0, x1, x2, x3, x4⟩, x5⟩, rfl, ⟨b4.1, b4.2⟩⟩
theorem tab_of {W : World} (h : laidMetH Tryz.prog [("math/bits.deBruijn32tab", Rows.laid_math_bits_deBruijn32tab), ("math/bits.deBruijn64tab", Rows.laid_math_bits_deBruijn64tab), ("internal/strconv.uint64pow10", Rows.laid_internal_strconv_uint64pow10)] W) : KnTab (zoneOf W.heap) := by
  have h1 : Lib.TabIs Tryz.prog W "internal/strconv.uint64pow10" .u64 Lib.pow10Tab :=
    Lib.tabIs_of_head (rest := []) (g := 1) (t := 162) (e := 153) (n := 20) (by kernel_rfl) (by kernel_rfl) Tryz.underlying162 Tryz.underlying153 (by kernel_rfl) (by kernel_rfl) (laidMet.tail (laidMet.tail h))
  intro H hH w hw
  have hg : Tryz.prog.globalNamed "internal/strconv.uint64pow10" = some 1 := by kernel_rfl
  unfold Lib.TabIs World.var? at h1 ⊢
  rw [hg] at h1 ⊢
  simp only [Option.bind_some] at h1 ⊢
  have hlt : 1 < W.heap.size := by
    rcases Nat.lt_or_ge 1 W.heap.size with h | h
    · exact h
    · rw [Array.getElem?_eq_none h] at h1; cases h1
  rw [hw, (hH 1 hlt).1]
  exact h1
end Go.Proofs.YtplkkhpokodbmaaGreatDoor
end
section
set_option linter.unusedSimpArgs false
set_option linter.unusedVariables false
set_option maxRecDepth 100000
namespace Go.Proofs.YtplkkhpokodbmaaGreatDoor
open Go.ChangeShapes Go.WideShapes Go.ChangeAt Go.RowKit Go.Hp Go.J Go.S
theorem Tryz.own : ownKnob Tryz.prog.godebug = none := by kernel_rfl
theorem Tryz.laidOut : laidOutB Tryz.prog = true := by kernel_rfl
noncomputable def laidWorld (os : Os) : World :=
  { World.holding Tryz.prog os ⟨#[], #[], []⟩ with heap := ((((World.holding Tryz.prog os ⟨#[], #[], []⟩).heap.modify 1 fun
      | .cells _ t frozen => .cells #[.int .u64 1, .int .u64 10, .int .u64 100, .int .u64 1000, .int .u64 10000, .int .u64 100000, .int .u64 1000000, .int .u64 10000000, .int .u64 100000000, .int .u64 1000000000, .int .u64 10000000000, .int .u64 100000000000, .int .u64 1000000000000, .int .u64 10000000000000, .int .u64 100000000000000, .int .u64 1000000000000000, .int .u64 10000000000000000, .int .u64 100000000000000000, .int .u64 1000000000000000000, .int .u64 10000000000000000000] t frozen
      | o => o).modify 2 fun
      | .cells _ t frozen => .cells #[.int .u8 0, .int .u8 1, .int .u8 28, .int .u8 2, .int .u8 29, .int .u8 14, .int .u8 24, .int .u8 3, .int .u8 30, .int .u8 22, .int .u8 20, .int .u8 15, .int .u8 25, .int .u8 17, .int .u8 4, .int .u8 8, .int .u8 31, .int .u8 27, .int .u8 13, .int .u8 23, .int .u8 21, .int .u8 19, .int .u8 16, .int .u8 7, .int .u8 26, .int .u8 12, .int .u8 18, .int .u8 6, .int .u8 11, .int .u8 5, .int .u8 10, .int .u8 9] t frozen
      | o => o).modify 3 fun
      | .cells _ t frozen => .cells #[.int .u8 0, .int .u8 1, .int .u8 56, .int .u8 2, .int .u8 57, .int .u8 49, .int .u8 28, .int .u8 3, .int .u8 61, .int .u8 58, .int .u8 42, .int .u8 50, .int .u8 38, .int .u8 29, .int .u8 17, .int .u8 4, .int .u8 62, .int .u8 47, .int .u8 59, .int .u8 36, .int .u8 45, .int .u8 43, .int .u8 51, .int .u8 22, .int .u8 53, .int .u8 39, .int .u8 33, .int .u8 30, .int .u8 24, .int .u8 18, .int .u8 12, .int .u8 5, .int .u8 63, .int .u8 55, .int .u8 48, .int .u8 27, .int .u8 60, .int .u8 41, .int .u8 37, .int .u8 16, .int .u8 46, .int .u8 35, .int .u8 44, .int .u8 21, .int .u8 52, .int .u8 32, .int .u8 23, .int .u8 11, .int .u8 54, .int .u8 26, .int .u8 40, .int .u8 15, .int .u8 34, .int .u8 20, .int .u8 31, .int .u8 10, .int .u8 25, .int .u8 14, .int .u8 19, .int .u8 9, .int .u8 13, .int .u8 8, .int .u8 7, .int .u8 6] t frozen
      | o => o) }
end Go.Proofs.YtplkkhpokodbmaaGreatDoor
end
