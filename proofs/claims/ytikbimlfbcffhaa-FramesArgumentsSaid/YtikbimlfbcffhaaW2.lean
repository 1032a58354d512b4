/-
  New, Depth, Trace; the nil stack.
-/
import Derived.Test.YtikbimlfbcffhaaW1
set_option linter.unusedSimpArgs false
set_option linter.unusedVariables false
set_option maxRecDepth 100000
namespace Go.Proofs.Ytikbimlfbcffhaa
open Go.Hp Go.J
open Go.Mem (Ty KTy blk elemAt pre suf blk_pre blk_suf aget aset strK)

theorem depth_ok (H : Heap) (b : Nat) (L : List Fr) (fp : Nat → Prop) (hS : FS H b L fp) : HC Try.prog 13 #[.pointer (some ⟨b, 0, none⟩)] H fun v H' => v = .int .i64 L.length ∧ Chg (fun _ => False) H H' := by
  obtain ⟨sv, mb, m, hB, hV, hM, hbm, hne, hfp⟩ := hS
  have s0 : ∀ k, blk sv = some k → k ≠ b ∧ k ≠ mb ∧ k < H.size := fun k hk => ⟨(hne k hk).1, (hne k hk).2, hV.lt hk⟩
  have o0 : ∀ k, blk sv = some k → k < H.size → fp k := fun k hk _ => (hfp k).2 (.inr (.inr hk))
  have lb := lt_of_some hB
  have lm := hM.lt
  have lL : L.length ≤ 9223372036854775807 := hV.sl.len_le
  refine enter Try.func13 rfl 10 rfl rfl [(0, .pointer (some ⟨b, 0, none⟩))] rfl (fun w0 => ?_)
  have hT : Chg (fun _ => False) H H := Chg.refl _ _
  refine c_seq ?_
  refine c_reg ?_
  refine l_pure (.int .i64 0) rfl (fun _ => rfl) ?_
  refine l_nil ?_
  refine x_then ?_
  refine c_seq ?_
  refine c_seq ?_
  refine c_reg ?_
  refine l_pure (.pointer (some ⟨b, 0, none⟩)) rfl (fun _ => rfl) ?_
  refine l_pure (.bool false) rfl (fun _ => rfl) ?_
  refine l_nil ?_
  refine x_then ?_
  refine c_false rfl rfl ?_
  refine c_skip ?_
  refine x_then ?_
  refine c_seq ?_
  refine c_reg ?_
  refine l_pure (.pointer (some ⟨b, 0, none⟩)) rfl (fun _ => rfl) ?_
  refine l_pure (.pointer (some ⟨b, 0, none⟩)) rfl (fun _ => rfl) ?_
  refine l_pure (.pointer (some ⟨b, 0, none⟩)) rfl (fun _ => rfl) ?_
  refine l_loadC rfl b 0 #[sv, .map (some mb)] _ _ sv rfl rfl (by kernel_rfl) hB rfl ?_
  refine l_len rfl FrT_ok Try.underlying61 rfl rfl hV.sl ?_
  refine l_pure (.int .i64 (L.length : Int)) rfl (fun _ => rfl) ?_
  refine l_nil ?_
  refine x_then ?_
  refine c_ret ?_
  refine x_fin (.int .i64 (L.length : Int)) (res_of (vs := [.int .i64 (L.length : Int)]) rfl (.cons (.tmp _ (.int .i64 (L.length : Int)) rfl rfl) .nil)) ?_
  exact ⟨rfl, hT⟩
theorem trace_ok (H : Heap) (b : Nat) (L : List Fr) (fp : Nat → Prop) (hS : FS H b L fp) (hl : L.length ≤ 200) : HC Try.prog 16 #[.pointer (some ⟨b, 0, none⟩)] H fun v H' => Ow H' PlT v (trL L) ∧ Chg (fun _ => False) H H' ∧ ∀ k, blk v = some k → H.size ≤ k := by
  obtain ⟨sv, mb, m, hB, hV, hM, hbm, hne, hfp⟩ := hS
  have s0 : ∀ k, blk sv = some k → k ≠ b ∧ k ≠ mb ∧ k < H.size := fun k hk => ⟨(hne k hk).1, (hne k hk).2, hV.lt hk⟩
  have o0 : ∀ k, blk sv = some k → k < H.size → fp k := fun k hk _ => (hfp k).2 (.inr (.inr hk))
  have lb := lt_of_some hB
  have lm := hM.lt
  have lL : L.length ≤ 9223372036854775807 := hV.sl.len_le
  refine enter Try.func16 rfl 37 rfl rfl [(0, .pointer (some ⟨b, 0, none⟩))] rfl (fun w0 => ?_)
  have hT : Chg (fun _ => False) H H := Chg.refl _ _
  refine c_seq ?_
  refine c_reg ?_
  refine l_pure (.slice none 0 0) rfl (fun _ => rfl) ?_
  refine l_nil ?_
  refine x_then ?_
  refine c_seq ?_
  refine c_reg ?_
  refine l_pure (.slice none 0 0) rfl (fun _ => rfl) ?_
  refine l_nil ?_
  refine x_then ?_
  refine c_seq ?_
  refine c_seq ?_
  refine c_reg ?_
  refine l_pure (.pointer (some ⟨b, 0, none⟩)) rfl (fun _ => rfl) ?_
  refine l_pure (.bool false) rfl (fun _ => rfl) ?_
  refine l_nil ?_
  refine x_then ?_
  refine c_false rfl rfl ?_
  refine c_skip ?_
  refine x_then ?_
  refine c_seq ?_
  refine c_seq ?_
  refine c_reg ?_
  refine l_pure (.pointer (some ⟨b, 0, none⟩)) rfl (fun _ => rfl) ?_
  refine l_pure (.pointer (some ⟨b, 0, none⟩)) rfl (fun _ => rfl) ?_
  refine l_pure (.pointer (some ⟨b, 0, none⟩)) rfl (fun _ => rfl) ?_
  refine l_loadC rfl b 0 #[sv, .map (some mb)] _ _ sv rfl rfl (by kernel_rfl) hB rfl ?_
  refine l_len rfl FrT_ok Try.underlying61 rfl rfl hV.sl ?_
  refine l_sub rfl (L.length : Int) 1 rfl rfl rfl (by omega) ?_
  refine l_pure (.int .i64 ((L.length : Int) - 1)) rfl (fun _ => rfl) ?_
  refine l_nil ?_
  refine x_then ?_
  refine c_block ?_
  refine c_loop (ι := Int × Value) (fun (i, ov) => [(0, .pointer (some ⟨b, 0, none⟩)), (2, (.slice none 0 0)), (3, ov), (4, .int .i64 i)]) (fun (i, ov) Hh => -1 ≤ i ∧ i < L.length ∧ Chg (fun _ => False) H Hh ∧ Ow Hh PlT ov (trL (L.drop (i + 1).toNat)) ∧ ∀ k, blk ov = some k → H.size ≤ k) (fun (i, ov) => (i + 1).toNat) ((L.length : Int) - 1, .slice none 0 0) (sub_of rfl ⟨⟨rfl, rfl⟩, ⟨⟨rfl, rfl⟩, ⟨⟨rfl, rfl⟩, ⟨⟨rfl, rfl⟩, trivial⟩⟩⟩⟩) ⟨by show -1 ≤ (L.length : Int) - 1; omega, by show (L.length : Int) - 1 < _; omega, hT, by rw [show ((L.length : Int) - 1 + 1).toNat = L.length by omega, List.drop_length]; exact Ow.nil _ _, fun k hk => by simp [blk, Value.ownBlock] at hk⟩ ?_
  rintro ⟨i, ov⟩ H1 ⟨h0, h1, hC, hO, hlo⟩
  replace hB := hC.get hB (fun h => h)
  replace hV := hV.chg hC (fun _ _ h => h)
  have lO : (trL (L.drop (i + 1).toNat)).length ≤ L.length := by simp [trL]
  have eC := hC.size
  replace hT := hC
  have sO : ∀ k, blk ov = some k → k ≠ b ∧ H.size ≤ k ∧ k < H1.size := fun k hk => by have := hlo k hk; have := hO.lt hk; omega
  replace s0 : ∀ k, blk sv = some k → k ≠ b ∧ k < H.size := fun k hk => by have := s0 k hk; omega
  show JC _ _ _ _ _ [(0, .pointer (some ⟨b, 0, none⟩)), (2, (.slice none 0 0)), (3, ov), (4, .int .i64 i)] _
  refine c_seq ?_
  refine c_seq ?_
  refine c_reg ?_
  refine l_pure (.int .i64 i) rfl (fun _ => rfl) ?_
  refine l_cmp rfl .i64 i 0 (decide ((0 : Int) ≤ i)) rfl rfl rfl rfl ?_
  refine l_nil ?_
  refine x_then ?_
  refine c_cond (c := (decide ((0 : Int) ≤ i))) rfl rfl (fun c2 => ?_) (fun c2 => ?_)
  · have p3 := of_decide_eq_true c2
    first
    | (exfalso; omega)
    | (refine c_skip ?_
       refine x_then ?_
       refine c_seq ?_
       refine c_block ?_
       refine c_seq ?_
       refine c_reg ?_
       refine l_pure (.pointer (some ⟨b, 0, none⟩)) rfl (fun _ => rfl) ?_
       refine l_pure (.pointer (some ⟨b, 0, none⟩)) rfl (fun _ => rfl) ?_
       refine l_pure (.pointer (some ⟨b, 0, none⟩)) rfl (fun _ => rfl) ?_
       refine l_loadC rfl b 0 #[sv, .map (some mb)] _ _ sv rfl rfl (by kernel_rfl) hB rfl ?_
       refine l_pure (.int .i64 i) rfl (fun _ => rfl) ?_
       refine l_index rfl FrT_ok Try.underlying61 .i64 i rfl rfl rfl hV.sl (by omega) (by omega) ((i).toNat) (by omega) ?_
       obtain ⟨y4, hy5⟩ : ∃ y, L[(i).toNat]? = some y := ⟨_, List.getElem?_eq_getElem (by omega)⟩
       refine l_loadE rfl FrT_ok rfl sv ((i).toNat) y4 (.agg #[.string y4.name, .int .i64 y4.line, .int .i64 y4.base, .int .i64 y4.extra, .int .i64 y4.want, .bool y4.tail]) L rfl rfl hV.sl hy5 rfl ?_
       refine l_alloc rfl (.agg #[.string ByteArray.empty, .int .i64 0, .int .i64 0, .int .i64 0, .int .i64 0, .bool false]) #[.string ByteArray.empty, .int .i64 0, .int .i64 0, .int .i64 0, .int .i64 0, .bool false] rfl (fun _ => by kernel_rfl) rfl (fun g7 H8 n9 => ?_)
       have e10 := n9.at_; have e11 := n9.size
       replace hB := (n9.chg fun _ => False).get hB (fun h => h)
       replace hV := hV.chg (n9.chg fun _ => False) (fun _ _ h => h)
       replace hO := hO.chg (n9.chg fun _ => False) (fun _ _ h => h)
       replace hT := hT.trans' (n9.chg fun _ => False) (fun _ h _ => h.elim)
       have B6 := n9.is
       refine l_store rfl g7 0 6 #[.string ByteArray.empty, .int .i64 0, .int .i64 0, .int .i64 0, .int .i64 0, .bool false] #[.string y4.name, .int .i64 y4.line, .int .i64 y4.base, .int .i64 y4.extra, .int .i64 y4.want, .bool y4.tail] _ (.agg #[.string y4.name, .int .i64 y4.line, .int .i64 y4.base, .int .i64 y4.extra, .int .i64 y4.want, .bool y4.tail]) rfl rfl rfl (by kernel_rfl) B6 rfl rfl rfl rfl (fun H12 q13 => ?_)
       have e14 := q13.size
       replace hB := q13.chg.get hB (fun e => by omega)
       replace hV := hV.chg q13.chg (fun k hk e => by have := s0 k hk; omega)
       replace hO := hO.chg q13.chg (fun k hk e => by have := sO k hk; omega)
       replace hT := hT.trans' q13.chg (fun i (e : i = g7) hl => by exfalso; omega)
       have B15 := q13.is
       refine l_nil ?_
       refine x_then ?_
       refine c_reg ?_
       refine l_pure ov rfl (fun _ => rfl) ?_
       refine l_pure (.pointer (some ⟨g7, 0, none⟩)) rfl (fun _ => rfl) ?_
       refine l_loadC rfl g7 0 #[.string y4.name, .int .i64 y4.line, .int .i64 y4.base, .int .i64 y4.extra, .int .i64 y4.want, .bool y4.tail] _ _ (.string y4.name) rfl rfl (by kernel_rfl) B15 rfl ?_
       refine l_pure (.pointer (some ⟨g7, 1, none⟩)) rfl (fun _ => rfl) ?_
       refine l_loadC rfl g7 1 #[.string y4.name, .int .i64 y4.line, .int .i64 y4.base, .int .i64 y4.extra, .int .i64 y4.want, .bool y4.tail] _ _ (.int .i64 y4.line) rfl rfl (by kernel_rfl) B15 rfl ?_
       refine l_pure (.pointer (some ⟨g7, 5, none⟩)) rfl (fun _ => rfl) ?_
       refine l_loadC rfl g7 5 #[.string y4.name, .int .i64 y4.line, .int .i64 y4.base, .int .i64 y4.extra, .int .i64 y4.want, .bool y4.tail] _ _ (.bool y4.tail) rfl rfl (by kernel_rfl) B15 rfl ?_
       refine l_pure (.agg #[.string y4.name, .int .i64 y4.line, .bool y4.tail]) rfl (fun _ => by kernel_rfl) ?_
       refine l_buildSlice rfl [(0, .agg #[.string y4.name, .int .i64 y4.line, .bool y4.tail])] 58 #[.string y4.name, .int .i64 y4.line, .bool y4.tail] rfl rfl (by kernel_rfl) (fun g17 H18 n19 => ?_)
       have e20 := n19.at_; have e21 := n19.size
       replace hB := (n19.chg fun _ => False).get hB (fun h => h)
       replace hV := hV.chg (n19.chg fun _ => False) (fun _ _ h => h)
       replace hO := hO.chg (n19.chg fun _ => False) (fun _ _ h => h)
       replace B15 := (n19.chg fun _ => False).get B15 (fun h => h)
       replace hT := hT.trans' (n19.chg fun _ => False) (fun _ h _ => h.elim)
       have B16 := n19.is
       refine l_append (v := ov) (L := (trL (L.drop (i + 1).toNat))) rfl PlT_ok Try.underlying33 (.slice (some ⟨g17, 0, none⟩) 1 1) rfl rfl rfl hO (Ow.lit PlT_ok [(⟨y4.name, y4.line, y4.tail⟩ : Pl)] B16 rfl rfl (by simp)).sl (by simp only [List.length_nil, List.length_cons, List.length_append, List.length_drop, List.length_take]; show _ * 32 ≤ _; omega) (by simp only [List.length_nil, List.length_cons, List.length_append, List.length_drop, List.length_take]; omega) (fun v22 H23 a24 => ?_)
       have e25 := a24.chg.size
       replace hB := a24.chg.get hB (fun e => by have := sO _ e; omega)
       replace hV := hV.chg a24.chg (fun k hk e => by have := s0 k hk; have := sO k e; omega)
       replace B15 := a24.chg.get B15 (fun e => by have := sO _ e; omega)
       replace B16 := a24.chg.get B16 (fun e => by have := sO _ e; omega)
       replace hT := hT.trans' a24.chg (fun i e hl => by exfalso; have := sO i e; omega)
       have S26 := a24.ow
       have s27m := a24.moved
       have s27 : ∀ k, blk v22 = some k → k ≠ b ∧ k ≠ g7 ∧ k ≠ g17 ∧ k < H23.size := fun k hk => by
         rcases s27m k hk with h | h
         · have := sO k h; have := S26.lt hk; omega
         · have := S26.lt hk; omega
       refine l_pure v22 rfl (fun _ => rfl) ?_
       refine l_nil ?_
       refine x_block ?_
       refine x_then ?_
       refine c_reg ?_
       refine l_pure (.int .i64 i) rfl (fun _ => rfl) ?_
       refine l_sub rfl i 1 rfl rfl rfl (by omega) ?_
       refine l_pure (.int .i64 (i - 1)) rfl (fun _ => rfl) ?_
       refine l_nil ?_
       have hfin : ((trL (L.drop (i + 1).toNat)) ++ [(⟨y4.name, y4.line, y4.tail⟩ : Pl)]) = trL (L.drop (i - 1 + 1).toNat) := by
         have e1 : (i - 1 + 1).toNat = i.toNat := by omega
         have e2 : (i + 1).toNat = i.toNat + 1 := by omega
         rw [e1, e2, ← trL_step hy5]; rfl
       exact x_round (i - 1, v22) (by show (i - 1 + 1).toNat < (i + 1).toNat; omega) (sub_of rfl ⟨⟨rfl, rfl⟩, ⟨⟨rfl, rfl⟩, ⟨⟨rfl, rfl⟩, ⟨⟨rfl, rfl⟩, trivial⟩⟩⟩⟩) ⟨by show -1 ≤ i - 1; omega, by show i - 1 < _; omega, hT, hfin ▸ S26, fun k hk => (s27m k hk).elim (fun h => hlo k h) (fun h => by omega)⟩)
  · have p28 := of_decide_eq_false c2
    first
    | (exfalso; omega)
    | (refine c_exit ?_
       refine x_exit ?_
       refine x_exit ?_
       refine x_here ?_
       refine x_then ?_
       refine c_seq ?_
       refine c_reg ?_
       refine l_pure ov rfl (fun _ => rfl) ?_
       refine l_pure ov rfl (fun _ => rfl) ?_
       refine l_nil ?_
       refine x_then ?_
       refine c_ret ?_
       refine x_fin ov (res_of (vs := [ov]) rfl (.cons (.tmp _ ov rfl rfl) .nil)) ?_
       have hz : (i + 1).toNat = 0 := by omega
       rw [hz] at hO
       exact ⟨hO, hT, hlo⟩)
theorem new_ok (H : Heap) : HC Try.prog 10 #[] H fun v H' => ∃ b fp, v = .pointer (some ⟨b, 0, none⟩) ∧ FS H' b [] fp ∧ Chg (fun _ => False) H H' ∧ ∀ k, fp k → H.size ≤ k := by
  refine enter Try.func10 rfl 4 rfl rfl [] rfl (fun w0 => ?_)
  have hT : Chg (fun _ => False) H H := Chg.refl _ _
  refine c_seq ?_
  refine c_reg ?_
  refine l_pure (.pointer none) rfl (fun _ => rfl) ?_
  refine l_nil ?_
  refine x_then ?_
  refine c_seq ?_
  refine c_reg ?_
  refine l_makeMap rfl rfl (fun g3 H4 n5 => ?_)
  have e6 := n5.at_; have e7 := n5.size
  replace hT := hT.trans' (n5.chg fun _ => False) (fun _ h _ => h.elim)
  have M1 := Mp.made n5.is (strK 9) iV
  refine l_pure (.agg #[(.slice none 0 0), .map (some g3)]) rfl (fun _ => by kernel_rfl) ?_
  refine l_box rfl (.agg #[(.slice none 0 0), .map (some g3)]) #[(.slice none 0 0), .map (some g3)] rfl rfl rfl (fun g9 H10 n11 => ?_)
  have e12 := n11.at_; have e13 := n11.size
  replace M1 := M1.chg (n11.chg fun _ => False) (fun h => h)
  replace hT := hT.trans' (n11.chg fun _ => False) (fun _ h _ => h.elim)
  have B8 := n11.is
  refine l_pure (.pointer (some ⟨g9, 0, none⟩)) rfl (fun _ => rfl) ?_
  refine l_nil ?_
  refine x_then ?_
  refine c_ret ?_
  refine x_fin (.pointer (some ⟨g9, 0, none⟩)) (res_of (vs := [.pointer (some ⟨g9, 0, none⟩)]) rfl (.cons (.tmp _ (.pointer (some ⟨g9, 0, none⟩)) rfl rfl) .nil)) ?_
  exact ⟨g9, fun k => k = g9 ∨ k = g3, rfl, ⟨_, g3, _, B8, Ow.nil _ _, M1, by omega, fun g hg => by simp [blk, Value.ownBlock] at hg, fun k => by simp [blk, Value.ownBlock]⟩, hT, fun k hk => by omega⟩
theorem rdepth_ok (H : Heap) (b : Nat) (L : List Fr) (fp : Nat → Prop) (hS : RS H b L fp) : HC Try.prog 14 #[.pointer (some ⟨b, 0, none⟩)] H fun v H' => v = .int .i64 L.length ∧ Chg (fun _ => False) H H' := by
  obtain ⟨sv, hB, hV, hne, hfp⟩ := hS
  have s0 : ∀ k, blk sv = some k → k ≠ b ∧ k < H.size := fun k hk => ⟨hne k hk, hV.lt hk⟩
  have o0 : ∀ k, blk sv = some k → k < H.size → fp k := fun k hk _ => (hfp k).2 (.inr hk)
  have lb := lt_of_some hB
  have lL : L.length ≤ 9223372036854775807 := hV.sl.len_le
  refine enter Try.func14 rfl 10 rfl rfl [(0, .pointer (some ⟨b, 0, none⟩))] rfl (fun w0 => ?_)
  have hT : Chg (fun _ => False) H H := Chg.refl _ _
  refine c_seq ?_
  refine c_reg ?_
  refine l_pure (.int .i64 0) rfl (fun _ => rfl) ?_
  refine l_nil ?_
  refine x_then ?_
  refine c_seq ?_
  refine c_seq ?_
  refine c_reg ?_
  refine l_pure (.pointer (some ⟨b, 0, none⟩)) rfl (fun _ => rfl) ?_
  refine l_pure (.bool false) rfl (fun _ => rfl) ?_
  refine l_nil ?_
  refine x_then ?_
  refine c_false rfl rfl ?_
  refine c_skip ?_
  refine x_then ?_
  refine c_seq ?_
  refine c_reg ?_
  refine l_pure (.pointer (some ⟨b, 0, none⟩)) rfl (fun _ => rfl) ?_
  refine l_pure (.pointer (some ⟨b, 0, none⟩)) rfl (fun _ => rfl) ?_
  refine l_pure (.pointer (some ⟨b, 0, none⟩)) rfl (fun _ => rfl) ?_
  refine l_loadC rfl b 0 #[sv] _ _ sv rfl rfl (by kernel_rfl) hB rfl ?_
  refine l_len rfl RfT_ok Try.underlying64 rfl rfl hV.sl ?_
  refine l_pure (.int .i64 (L.length : Int)) rfl (fun _ => rfl) ?_
  refine l_nil ?_
  refine x_then ?_
  refine c_ret ?_
  refine x_fin (.int .i64 (L.length : Int)) (res_of (vs := [.int .i64 (L.length : Int)]) rfl (.cons (.tmp _ (.int .i64 (L.length : Int)) rfl rfl) .nil)) ?_
  exact ⟨rfl, hT⟩
theorem rtrace_ok (H : Heap) (b : Nat) (L : List Fr) (fp : Nat → Prop) (hS : RS H b L fp) (hl : L.length ≤ 200) : HC Try.prog 17 #[.pointer (some ⟨b, 0, none⟩)] H fun v H' => Ow H' PlT v (trL L) ∧ Chg (fun _ => False) H H' ∧ ∀ k, blk v = some k → H.size ≤ k := by
  obtain ⟨sv, hB, hV, hne, hfp⟩ := hS
  have s0 : ∀ k, blk sv = some k → k ≠ b ∧ k < H.size := fun k hk => ⟨hne k hk, hV.lt hk⟩
  have o0 : ∀ k, blk sv = some k → k < H.size → fp k := fun k hk _ => (hfp k).2 (.inr hk)
  have lb := lt_of_some hB
  have lL : L.length ≤ 9223372036854775807 := hV.sl.len_le
  refine enter Try.func17 rfl 47 rfl rfl [(0, .pointer (some ⟨b, 0, none⟩))] rfl (fun w0 => ?_)
  have hT : Chg (fun _ => False) H H := Chg.refl _ _
  refine c_seq ?_
  refine c_reg ?_
  refine l_pure (.slice none 0 0) rfl (fun _ => rfl) ?_
  refine l_nil ?_
  refine x_then ?_
  refine c_seq ?_
  refine c_reg ?_
  refine l_pure (.slice none 0 0) rfl (fun _ => rfl) ?_
  refine l_nil ?_
  refine x_then ?_
  refine c_seq ?_
  refine c_seq ?_
  refine c_reg ?_
  refine l_pure (.pointer (some ⟨b, 0, none⟩)) rfl (fun _ => rfl) ?_
  refine l_pure (.bool false) rfl (fun _ => rfl) ?_
  refine l_nil ?_
  refine x_then ?_
  refine c_false rfl rfl ?_
  refine c_skip ?_
  refine x_then ?_
  refine c_seq ?_
  refine c_seq ?_
  refine c_reg ?_
  refine l_pure (.pointer (some ⟨b, 0, none⟩)) rfl (fun _ => rfl) ?_
  refine l_pure (.pointer (some ⟨b, 0, none⟩)) rfl (fun _ => rfl) ?_
  refine l_pure (.pointer (some ⟨b, 0, none⟩)) rfl (fun _ => rfl) ?_
  refine l_loadC rfl b 0 #[sv] _ _ sv rfl rfl (by kernel_rfl) hB rfl ?_
  refine l_len rfl RfT_ok Try.underlying64 rfl rfl hV.sl ?_
  refine l_sub rfl (L.length : Int) 1 rfl rfl rfl (by omega) ?_
  refine l_pure (.int .i64 ((L.length : Int) - 1)) rfl (fun _ => rfl) ?_
  refine l_nil ?_
  refine x_then ?_
  refine c_block ?_
  refine c_loop (ι := Int × Value) (fun (i, ov) => [(0, .pointer (some ⟨b, 0, none⟩)), (2, (.slice none 0 0)), (3, ov), (4, .int .i64 i)]) (fun (i, ov) Hh => -1 ≤ i ∧ i < L.length ∧ Chg (fun _ => False) H Hh ∧ Ow Hh PlT ov (trL (L.drop (i + 1).toNat)) ∧ ∀ k, blk ov = some k → H.size ≤ k) (fun (i, ov) => (i + 1).toNat) ((L.length : Int) - 1, .slice none 0 0) (sub_of rfl ⟨⟨rfl, rfl⟩, ⟨⟨rfl, rfl⟩, ⟨⟨rfl, rfl⟩, ⟨⟨rfl, rfl⟩, trivial⟩⟩⟩⟩) ⟨by show -1 ≤ (L.length : Int) - 1; omega, by show (L.length : Int) - 1 < _; omega, hT, by rw [show ((L.length : Int) - 1 + 1).toNat = L.length by omega, List.drop_length]; exact Ow.nil _ _, fun k hk => by simp [blk, Value.ownBlock] at hk⟩ ?_
  rintro ⟨i, ov⟩ H1 ⟨h0, h1, hC, hO, hlo⟩
  replace hB := hC.get hB (fun h => h)
  replace hV := hV.chg hC (fun _ _ h => h)
  have lO : (trL (L.drop (i + 1).toNat)).length ≤ L.length := by simp [trL]
  have eC := hC.size
  replace hT := hC
  have sO : ∀ k, blk ov = some k → k ≠ b ∧ H.size ≤ k ∧ k < H1.size := fun k hk => by have := hlo k hk; have := hO.lt hk; omega
  replace s0 : ∀ k, blk sv = some k → k ≠ b ∧ k < H.size := fun k hk => by have := s0 k hk; omega
  show JC _ _ _ _ _ [(0, .pointer (some ⟨b, 0, none⟩)), (2, (.slice none 0 0)), (3, ov), (4, .int .i64 i)] _
  refine c_seq ?_
  refine c_seq ?_
  refine c_reg ?_
  refine l_pure (.int .i64 i) rfl (fun _ => rfl) ?_
  refine l_cmp rfl .i64 i 0 (decide ((0 : Int) ≤ i)) rfl rfl rfl rfl ?_
  refine l_nil ?_
  refine x_then ?_
  refine c_cond (c := (decide ((0 : Int) ≤ i))) rfl rfl (fun c2 => ?_) (fun c2 => ?_)
  · have p3 := of_decide_eq_true c2
    first
    | (exfalso; omega)
    | (refine c_skip ?_
       refine x_then ?_
       refine c_seq ?_
       refine c_block ?_
       refine c_draw Try.mixed (by kernel_rfl) ?_
       refine l_pure ov rfl (fun _ => rfl) ?_
       refine l_pure (.pointer (some ⟨b, 0, none⟩)) rfl (fun _ => rfl) ?_
       refine l_pure (.pointer (some ⟨b, 0, none⟩)) rfl (fun _ => rfl) ?_
       refine l_pure (.pointer (some ⟨b, 0, none⟩)) rfl (fun _ => rfl) ?_
       refine l_loadC rfl b 0 #[sv] _ _ sv rfl rfl (by kernel_rfl) hB rfl ?_
       refine l_pure (.int .i64 i) rfl (fun _ => rfl) ?_
       refine l_index rfl RfT_ok Try.underlying64 .i64 i rfl rfl rfl hV.sl (by omega) (by omega) ((i).toNat) (by omega) ?_
       refine l_pure (.pointer (some (elemAt RfT.size sv ((i).toNat)))) rfl (fun _ => rfl) ?_
       obtain ⟨y4, hy5⟩ : ∃ y, L[(i).toNat]? = some y := ⟨_, List.getElem?_eq_getElem (by omega)⟩
       refine l_loadF rfl RfT_ok sv ((i).toNat) 0 y4 (.string y4.name) L rfl rfl (by kernel_rfl) hV.sl hy5 rfl ?_
       refine l_pure (.pointer (some ⟨b, 0, none⟩)) rfl (fun _ => rfl) ?_
       refine l_pure (.pointer (some ⟨b, 0, none⟩)) rfl (fun _ => rfl) ?_
       refine l_pure (.pointer (some ⟨b, 0, none⟩)) rfl (fun _ => rfl) ?_
       refine l_loadC rfl b 0 #[sv] _ _ sv rfl rfl (by kernel_rfl) hB rfl ?_
       refine l_pure (.int .i64 i) rfl (fun _ => rfl) ?_
       refine l_index rfl RfT_ok Try.underlying64 .i64 i rfl rfl rfl hV.sl (by omega) (by omega) ((i).toNat) (by omega) ?_
       refine l_pure (.pointer (some ((elemAt RfT.size sv ((i).toNat)).add 1))) rfl (fun _ => rfl) ?_
       refine l_loadF rfl RfT_ok sv ((i).toNat) 1 y4 (.int .i64 y4.line) L rfl rfl (by kernel_rfl) hV.sl hy5 rfl ?_
       refine l_pure (.pointer (some ⟨b, 0, none⟩)) rfl (fun _ => rfl) ?_
       refine l_pure (.pointer (some ⟨b, 0, none⟩)) rfl (fun _ => rfl) ?_
       refine l_pure (.pointer (some ⟨b, 0, none⟩)) rfl (fun _ => rfl) ?_
       refine l_loadC rfl b 0 #[sv] _ _ sv rfl rfl (by kernel_rfl) hB rfl ?_
       refine l_pure (.int .i64 i) rfl (fun _ => rfl) ?_
       refine l_index rfl RfT_ok Try.underlying64 .i64 i rfl rfl rfl hV.sl (by omega) (by omega) ((i).toNat) (by omega) ?_
       refine l_pure (.pointer (some ((elemAt RfT.size sv ((i).toNat)).add 5))) rfl (fun _ => rfl) ?_
       refine l_loadF rfl RfT_ok sv ((i).toNat) 5 y4 (.bool y4.tail) L rfl rfl (by kernel_rfl) hV.sl hy5 rfl ?_
       refine l_pure (.agg #[.string y4.name, .int .i64 y4.line, .bool y4.tail]) rfl (fun _ => by kernel_rfl) ?_
       refine l_buildSlice rfl [(0, .agg #[.string y4.name, .int .i64 y4.line, .bool y4.tail])] 58 #[.string y4.name, .int .i64 y4.line, .bool y4.tail] rfl rfl (by kernel_rfl) (fun g7 H8 n9 => ?_)
       have e10 := n9.at_; have e11 := n9.size
       replace hB := (n9.chg fun _ => False).get hB (fun h => h)
       replace hV := hV.chg (n9.chg fun _ => False) (fun _ _ h => h)
       replace hO := hO.chg (n9.chg fun _ => False) (fun _ _ h => h)
       replace hT := hT.trans' (n9.chg fun _ => False) (fun _ h _ => h.elim)
       have B6 := n9.is
       refine l_append (v := ov) (L := (trL (L.drop (i + 1).toNat))) rfl PlT_ok Try.underlying33 (.slice (some ⟨g7, 0, none⟩) 1 1) rfl rfl rfl hO (Ow.lit PlT_ok [(⟨y4.name, y4.line, y4.tail⟩ : Pl)] B6 rfl rfl (by simp)).sl (by simp only [List.length_nil, List.length_cons, List.length_append, List.length_drop, List.length_take]; show _ * 32 ≤ _; omega) (by simp only [List.length_nil, List.length_cons, List.length_append, List.length_drop, List.length_take]; omega) (fun v12 H13 a14 => ?_)
       have e15 := a14.chg.size
       replace hB := a14.chg.get hB (fun e => by have := sO _ e; omega)
       replace hV := hV.chg a14.chg (fun k hk e => by have := s0 k hk; have := sO k e; omega)
       replace B6 := a14.chg.get B6 (fun e => by have := sO _ e; omega)
       replace hT := hT.trans' a14.chg (fun i e hl => by exfalso; have := sO i e; omega)
       have S16 := a14.ow
       have s17m := a14.moved
       have s17 : ∀ k, blk v12 = some k → k ≠ b ∧ k ≠ g7 ∧ k < H13.size := fun k hk => by
         rcases s17m k hk with h | h
         · have := sO k h; have := S16.lt hk; omega
         · have := S16.lt hk; omega
       refine l_pure v12 rfl (fun _ => rfl) ?_
       refine l_nil ?_
       refine x_dyn (by kernel_rfl) ?_
       refine x_block ?_
       refine x_then ?_
       refine c_reg ?_
       refine l_pure (.int .i64 i) rfl (fun _ => rfl) ?_
       refine l_sub rfl i 1 rfl rfl rfl (by omega) ?_
       refine l_pure (.int .i64 (i - 1)) rfl (fun _ => rfl) ?_
       refine l_nil ?_
       have hfin : ((trL (L.drop (i + 1).toNat)) ++ [(⟨y4.name, y4.line, y4.tail⟩ : Pl)]) = trL (L.drop (i - 1 + 1).toNat) := by
         have e1 : (i - 1 + 1).toNat = i.toNat := by omega
         have e2 : (i + 1).toNat = i.toNat + 1 := by omega
         rw [e1, e2, ← trL_step hy5]; rfl
       exact x_round (i - 1, v12) (by show (i - 1 + 1).toNat < (i + 1).toNat; omega) (sub_of rfl ⟨⟨rfl, rfl⟩, ⟨⟨rfl, rfl⟩, ⟨⟨rfl, rfl⟩, ⟨⟨rfl, rfl⟩, trivial⟩⟩⟩⟩) ⟨by show -1 ≤ i - 1; omega, by show i - 1 < _; omega, hT, hfin ▸ S16, fun k hk => (s17m k hk).elim (fun h => hlo k h) (fun h => by omega)⟩)
  · have p18 := of_decide_eq_false c2
    first
    | (exfalso; omega)
    | (refine c_exit ?_
       refine x_exit ?_
       refine x_exit ?_
       refine x_here ?_
       refine x_then ?_
       refine c_seq ?_
       refine c_reg ?_
       refine l_pure ov rfl (fun _ => rfl) ?_
       refine l_pure ov rfl (fun _ => rfl) ?_
       refine l_nil ?_
       refine x_then ?_
       refine c_ret ?_
       refine x_fin ov (res_of (vs := [ov]) rfl (.cons (.tmp _ ov rfl rfl) .nil)) ?_
       have hz : (i + 1).toNat = 0 := by omega
       rw [hz] at hO
       exact ⟨hO, hT, hlo⟩)
theorem rnew_ok (H : Heap) : HC Try.prog 11 #[] H fun v H' => ∃ b fp, v = .pointer (some ⟨b, 0, none⟩) ∧ RS H' b [] fp ∧ Chg (fun _ => False) H H' ∧ ∀ k, fp k → H.size ≤ k := by
  refine enter Try.func11 rfl 3 rfl rfl [] rfl (fun w0 => ?_)
  have hT : Chg (fun _ => False) H H := Chg.refl _ _
  refine c_seq ?_
  refine c_reg ?_
  refine l_pure (.pointer none) rfl (fun _ => rfl) ?_
  refine l_nil ?_
  refine x_then ?_
  refine c_seq ?_
  refine c_reg ?_
  refine l_pure (.agg #[(.slice none 0 0)]) rfl (fun _ => by kernel_rfl) ?_
  refine l_box rfl (.agg #[(.slice none 0 0)]) #[(.slice none 0 0)] rfl rfl rfl (fun g2 H3 n4 => ?_)
  have e5 := n4.at_; have e6 := n4.size
  replace hT := hT.trans' (n4.chg fun _ => False) (fun _ h _ => h.elim)
  have B1 := n4.is
  refine l_pure (.pointer (some ⟨g2, 0, none⟩)) rfl (fun _ => rfl) ?_
  refine l_nil ?_
  refine x_then ?_
  refine c_ret ?_
  refine x_fin (.pointer (some ⟨g2, 0, none⟩)) (res_of (vs := [.pointer (some ⟨g2, 0, none⟩)]) rfl (.cons (.tmp _ (.pointer (some ⟨g2, 0, none⟩)) rfl rfl) .nil)) ?_
  exact ⟨g2, fun k => k = g2, rfl, ⟨_, B1, Ow.nil _ _, fun g hg => by simp [blk, Value.ownBlock] at hg, fun k => by simp [blk, Value.ownBlock]⟩, hT, fun k hk => by omega⟩
theorem push_nil (f : Fr) (H : Heap) : HC Try.prog 23 #[.pointer none, f.v] H fun v H' => v = .int .i64 1 ∧ Chg (fun _ => False) H H' := by
  refine enter Try.func23 rfl 37 rfl rfl [(0, .pointer none), (1, .agg #[.string f.name, .int .i64 f.line, .int .i64 f.base, .int .i64 f.extra, .int .i64 f.want, .bool f.tail])] rfl (fun w0 => ?_)
  have hT : Chg (fun _ => False) H H := Chg.refl _ _
  refine c_seq ?_
  refine c_reg ?_
  refine l_box rfl (.agg #[.string f.name, .int .i64 f.line, .int .i64 f.base, .int .i64 f.extra, .int .i64 f.want, .bool f.tail]) #[.string f.name, .int .i64 f.line, .int .i64 f.base, .int .i64 f.extra, .int .i64 f.want, .bool f.tail] rfl rfl rfl (fun g2 H3 n4 => ?_)
  have e5 := n4.at_; have e6 := n4.size
  replace hT := hT.trans' (n4.chg fun _ => False) (fun _ h _ => h.elim)
  have B1 := n4.is
  refine l_pure (.int .i64 0) rfl (fun _ => rfl) ?_
  refine l_nil ?_
  refine x_then ?_
  refine c_seq ?_
  refine c_block ?_
  refine c_seq ?_
  refine c_reg ?_
  refine l_pure (.pointer none) rfl (fun _ => rfl) ?_
  refine l_pure (.bool true) rfl (fun _ => rfl) ?_
  refine l_pure (.bool true) rfl (fun _ => rfl) ?_
  refine l_nil ?_
  refine x_then ?_
  refine c_true rfl rfl ?_
  refine c_seq ?_
  refine c_reg ?_
  refine l_pure (.int .i64 1) rfl (fun _ => rfl) ?_
  refine l_nil ?_
  refine x_then ?_
  refine c_ret ?_
  refine x_retBlock ?_
  refine x_ret ?_
  refine x_fin (.int .i64 1) (res_of (vs := [.int .i64 1]) rfl (.cons (.tmp _ (.int .i64 1) rfl rfl) .nil)) ?_
  exact ⟨rfl, hT⟩
theorem repl_nil (f : Fr) (H : Heap) : HC Try.prog 26 #[.pointer none, f.v] H fun v H' => v = .int .i64 1 ∧ Chg (fun _ => False) H H' := by
  refine enter Try.func26 rfl 58 rfl rfl [(0, .pointer none), (1, .agg #[.string f.name, .int .i64 f.line, .int .i64 f.base, .int .i64 f.extra, .int .i64 f.want, .bool f.tail])] rfl (fun w0 => ?_)
  have hT : Chg (fun _ => False) H H := Chg.refl _ _
  refine c_seq ?_
  refine c_reg ?_
  refine l_box rfl (.agg #[.string f.name, .int .i64 f.line, .int .i64 f.base, .int .i64 f.extra, .int .i64 f.want, .bool f.tail]) #[.string f.name, .int .i64 f.line, .int .i64 f.base, .int .i64 f.extra, .int .i64 f.want, .bool f.tail] rfl rfl rfl (fun g2 H3 n4 => ?_)
  have e5 := n4.at_; have e6 := n4.size
  replace hT := hT.trans' (n4.chg fun _ => False) (fun _ h _ => h.elim)
  have B1 := n4.is
  refine l_pure (.int .i64 0) rfl (fun _ => rfl) ?_
  refine l_nil ?_
  refine x_then ?_
  refine c_seq ?_
  refine c_block ?_
  refine c_seq ?_
  refine c_reg ?_
  refine l_pure (.pointer none) rfl (fun _ => rfl) ?_
  refine l_pure (.bool true) rfl (fun _ => rfl) ?_
  refine l_pure (.bool true) rfl (fun _ => rfl) ?_
  refine l_nil ?_
  refine x_then ?_
  refine c_true rfl rfl ?_
  refine c_seq ?_
  refine c_reg ?_
  refine l_pure (.int .i64 1) rfl (fun _ => rfl) ?_
  refine l_nil ?_
  refine x_then ?_
  refine c_ret ?_
  refine x_retBlock ?_
  refine x_ret ?_
  refine x_fin (.int .i64 1) (res_of (vs := [.int .i64 1]) rfl (.cons (.tmp _ (.int .i64 1) rfl rfl) .nil)) ?_
  exact ⟨rfl, hT⟩
theorem at_nil (n : Int) (H : Heap) : HC Try.prog 27 #[.pointer none, .int .i64 n] H fun v H' => v = .int .i64 1 ∧ Chg (fun _ => False) H H' := by
  refine enter Try.func27 rfl 31 rfl rfl [(0, .pointer none), (1, .int .i64 n)] rfl (fun w0 => ?_)
  have hT : Chg (fun _ => False) H H := Chg.refl _ _
  refine c_seq ?_
  refine c_reg ?_
  refine l_pure (.int .i64 0) rfl (fun _ => rfl) ?_
  refine l_nil ?_
  refine x_then ?_
  refine c_seq ?_
  refine c_block ?_
  refine c_seq ?_
  refine c_reg ?_
  refine l_pure (.pointer none) rfl (fun _ => rfl) ?_
  refine l_pure (.bool true) rfl (fun _ => rfl) ?_
  refine l_pure (.bool true) rfl (fun _ => rfl) ?_
  refine l_nil ?_
  refine x_then ?_
  refine c_true rfl rfl ?_
  refine c_seq ?_
  refine c_reg ?_
  refine l_pure (.int .i64 1) rfl (fun _ => rfl) ?_
  refine l_nil ?_
  refine x_then ?_
  refine c_ret ?_
  refine x_retBlock ?_
  refine x_ret ?_
  refine x_fin (.int .i64 1) (res_of (vs := [.int .i64 1]) rfl (.cons (.tmp _ (.int .i64 1) rfl rfl) .nil)) ?_
  exact ⟨rfl, hT⟩
theorem pop_nil (H : Heap) : HC Try.prog 25 #[.pointer none] H fun v H' => v = .tuple #[zFr.v, .bool false] ∧ Chg (fun _ => False) H H' := by
  refine enter Try.func25 rfl 51 rfl rfl [(0, .pointer none)] rfl (fun w0 => ?_)
  have hT : Chg (fun _ => False) H H := Chg.refl _ _
  refine c_seq ?_
  refine c_reg ?_
  refine l_alloc rfl (.agg #[.string ByteArray.empty, .int .i64 0, .int .i64 0, .int .i64 0, .int .i64 0, .bool false]) #[.string ByteArray.empty, .int .i64 0, .int .i64 0, .int .i64 0, .int .i64 0, .bool false] rfl (fun _ => by kernel_rfl) rfl (fun g2 H3 n4 => ?_)
  have e5 := n4.at_; have e6 := n4.size
  replace hT := hT.trans' (n4.chg fun _ => False) (fun _ h _ => h.elim)
  have B1 := n4.is
  refine l_pure (.bool false) rfl (fun _ => rfl) ?_
  refine l_nil ?_
  refine x_then ?_
  refine c_seq ?_
  refine c_seq ?_
  refine c_reg ?_
  refine l_pure (.pointer none) rfl (fun _ => rfl) ?_
  refine l_pure (.bool true) rfl (fun _ => rfl) ?_
  refine l_pure (.bool true) rfl (fun _ => rfl) ?_
  refine l_skip rfl rfl ?_
  refine l_skip rfl rfl ?_
  refine l_skip rfl rfl ?_
  refine l_skip rfl rfl ?_
  refine l_skip rfl rfl ?_
  refine l_skip rfl rfl ?_
  refine l_pure (.bool true) rfl (fun _ => rfl) ?_
  refine l_nil ?_
  refine x_then ?_
  refine c_true rfl rfl ?_
  refine c_seq ?_
  refine c_reg ?_
  refine l_pure (.agg #[.string ByteArray.empty, .int .i64 0, .int .i64 0, .int .i64 0, .int .i64 0, .bool false]) rfl (fun _ => by kernel_rfl) ?_
  refine l_store rfl g2 0 6 #[.string ByteArray.empty, .int .i64 0, .int .i64 0, .int .i64 0, .int .i64 0, .bool false] #[.string ByteArray.empty, .int .i64 0, .int .i64 0, .int .i64 0, .int .i64 0, .bool false] _ (.agg #[.string ByteArray.empty, .int .i64 0, .int .i64 0, .int .i64 0, .int .i64 0, .bool false]) rfl rfl rfl (by kernel_rfl) B1 rfl rfl rfl rfl (fun H7 q8 => ?_)
  have e9 := q8.size
  replace hT := hT.trans' q8.chg (fun i (e : i = g2) hl => by exfalso; omega)
  have B10 := q8.is
  refine l_pure (.bool false) rfl (fun _ => rfl) ?_
  refine l_nil ?_
  refine x_then ?_
  refine c_ret ?_
  refine x_ret ?_
  refine x_fin (.tuple #[.agg #[.string ByteArray.empty, .int .i64 0, .int .i64 0, .int .i64 0, .int .i64 0, .bool false], .bool false]) (res_of (vs := [.agg #[.string ByteArray.empty, .int .i64 0, .int .i64 0, .int .i64 0, .int .i64 0, .bool false], .bool false]) rfl (.cons (.cell _ _ (.agg #[.string ByteArray.empty, .int .i64 0, .int .i64 0, .int .i64 0, .int .i64 0, .bool false]) _ rfl rfl (fun w hw => run_loadX (by kernel_rfl) hw B10 _ rfl rfl)) (.cons (.tmp _ (.bool false) rfl rfl) .nil))) ?_
  exact ⟨rfl, hT⟩
theorem depth_nil (H : Heap) : HC Try.prog 13 #[.pointer none] H fun v H' => v = .int .i64 0 ∧ Chg (fun _ => False) H H' := by
  refine enter Try.func13 rfl 10 rfl rfl [(0, .pointer none)] rfl (fun w0 => ?_)
  have hT : Chg (fun _ => False) H H := Chg.refl _ _
  refine c_seq ?_
  refine c_reg ?_
  refine l_pure (.int .i64 0) rfl (fun _ => rfl) ?_
  refine l_nil ?_
  refine x_then ?_
  refine c_seq ?_
  refine c_seq ?_
  refine c_reg ?_
  refine l_pure (.pointer none) rfl (fun _ => rfl) ?_
  refine l_pure (.bool true) rfl (fun _ => rfl) ?_
  refine l_nil ?_
  refine x_then ?_
  refine c_true rfl rfl ?_
  refine c_seq ?_
  refine c_reg ?_
  refine l_pure (.int .i64 0) rfl (fun _ => rfl) ?_
  refine l_nil ?_
  refine x_then ?_
  refine c_ret ?_
  refine x_ret ?_
  refine x_fin (.int .i64 0) (res_of (vs := [.int .i64 0]) rfl (.cons (.tmp _ (.int .i64 0) rfl rfl) .nil)) ?_
  exact ⟨rfl, hT⟩
theorem trace_nil (H : Heap) : HC Try.prog 16 #[.pointer none] H fun v H' => Ow H' PlT v [] ∧ Chg (fun _ => False) H H' ∧ ∀ k, blk v = some k → H.size ≤ k := by
  refine enter Try.func16 rfl 37 rfl rfl [(0, .pointer none)] rfl (fun w0 => ?_)
  have hT : Chg (fun _ => False) H H := Chg.refl _ _
  refine c_seq ?_
  refine c_reg ?_
  refine l_pure (.slice none 0 0) rfl (fun _ => rfl) ?_
  refine l_nil ?_
  refine x_then ?_
  refine c_seq ?_
  refine c_reg ?_
  refine l_pure (.slice none 0 0) rfl (fun _ => rfl) ?_
  refine l_nil ?_
  refine x_then ?_
  refine c_seq ?_
  refine c_seq ?_
  refine c_reg ?_
  refine l_pure (.pointer none) rfl (fun _ => rfl) ?_
  refine l_pure (.bool true) rfl (fun _ => rfl) ?_
  refine l_nil ?_
  refine x_then ?_
  refine c_true rfl rfl ?_
  refine c_seq ?_
  refine c_reg ?_
  refine l_pure (.slice none 0 0) rfl (fun _ => rfl) ?_
  refine l_pure (.slice none 0 0) rfl (fun _ => rfl) ?_
  refine l_nil ?_
  refine x_then ?_
  refine c_ret ?_
  refine x_ret ?_
  refine x_fin (.slice none 0 0) (res_of (vs := [(.slice none 0 0)]) rfl (.cons (.tmp _ (.slice none 0 0) rfl rfl) .nil)) ?_
  exact ⟨Ow.nil _ _, hT, fun k hk => by simp [blk, Value.ownBlock] at hk⟩
end Go.Proofs.Ytikbimlfbcffhaa
