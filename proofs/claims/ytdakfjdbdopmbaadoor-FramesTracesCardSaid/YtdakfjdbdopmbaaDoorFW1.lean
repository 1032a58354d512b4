/-
  The methods of the frames of a coroutine.
-/
import Derived.Test.YtdakfjdbdopmbaaDoorFD
set_option linter.unusedSimpArgs false
set_option linter.unusedVariables false
set_option maxRecDepth 100000
namespace Go.Proofs.YtdakfjdbdopmbaaDoor.Fs
open Go.Hp Go.J Go.S
open Go.Mem (Ty KTy blk elemAt pre suf blk_pre blk_suf aget aset strK aggDesc)
theorem right_s {Z : Zone} (f : Fr) : SF Tryd.prog 28 #[f.v] Z [] fun r Bs => r = .bool (rightB f) ∧ Bs = [] := by
  refine sf_enter Tryd.func28 21 [(0, .agg #[.string f.name, .int .i64 f.line, .int .i64 f.base, .int .i64 f.extra, .int .i64 f.want, .bool f.tail])] (fun w0 => ?_)
  refine k_seq ?_
  refine k_reg ?_
  refine s_box #[.string f.name, .int .i64 f.line, .int .i64 f.base, .int .i64 f.extra, .int .i64 f.want, .bool f.tail] (fun g1 => ?_)
  refine s_lt (t_pure (.bool false)) ?_
  refine s_nil ?_
  refine xs_then ?_
  refine k_cut (ι := Unit) (fun _ => True) (fun _ => [(2, .bool ((decide ((0 : Int) ≤ f.line)) && ((decide ((0 : Int) ≤ f.base)) && ((decide ((0 : Int) ≤ f.extra)) && (decide ((-1) ≤ f.want))))))]) (fun _ => [blkA g1 #[.string f.name, .int .i64 f.line, .int .i64 f.base, .int .i64 f.extra, .int .i64 f.want, .bool f.tail] 30]) ?_ (fun _ _ => ?_)
  ·
    refine k_reg ?_
    refine s_lt (t_pure (.pointer (some ⟨g1, 1, none⟩))) ?_
    refine s_lt (t_load 0 (.int .i64 f.line)) ?_
    refine s_lt t_cmp ?_
    refine s_lt (t_pure (.bool (decide ((0 : Int) ≤ f.line)))) ?_
    refine s_fork 6 (decide ((0 : Int) ≤ f.line)) (fun c2 => ?_) (fun c2 => ?_)
    ·
      have p3 := of_decide_eq_true c2
      refine s_lt (t_pure (.pointer (some ⟨g1, 2, none⟩))) ?_
      refine s_lt (t_load 0 (.int .i64 f.base)) ?_
      refine s_lt t_cmp ?_
      refine s_lt (t_pure (.bool (decide ((0 : Int) ≤ f.base)))) ?_
      refine s_lt (t_pure (.bool (decide ((0 : Int) ≤ f.base)))) ?_
      refine s_fork 11 (decide ((0 : Int) ≤ f.base)) (fun c4 => ?_) (fun c4 => ?_)
      ·
        have p5 := of_decide_eq_true c4
        refine s_lt (t_pure (.pointer (some ⟨g1, 3, none⟩))) ?_
        refine s_lt (t_load 0 (.int .i64 f.extra)) ?_
        refine s_lt t_cmp ?_
        refine s_lt (t_pure (.bool (decide ((0 : Int) ≤ f.extra)))) ?_
        refine s_lt (t_pure (.bool (decide ((0 : Int) ≤ f.extra)))) ?_
        refine s_fork 16 (decide ((0 : Int) ≤ f.extra)) (fun c6 => ?_) (fun c6 => ?_)
        ·
          have p7 := of_decide_eq_true c6
          refine s_lt (t_pure (.pointer (some ⟨g1, 4, none⟩))) ?_
          refine s_lt (t_load 0 (.int .i64 f.want)) ?_
          refine s_lt t_cmp ?_
          refine s_lt (t_pure (.bool (decide ((-1) ≤ f.want)))) ?_
          refine s_lt (t_pure (.bool (decide ((-1) ≤ f.want)))) ?_
          refine s_nil ?_
          exact xs_cut () trivial (sub_of rfl ⟨⟨rfl, show Value.bool (decide ((-1) ≤ f.want)) = Value.bool ((decide ((0 : Int) ≤ f.line)) && ((decide ((0 : Int) ≤ f.base)) && ((decide ((0 : Int) ≤ f.extra)) && (decide ((-1) ≤ f.want))))) by first | (simp only [c2, c4, c6, Bool.true_and, Bool.false_and, Bool.and_true, Bool.and_false, Bool.true_or, Bool.or_true, Bool.false_or, Bool.or_false, Bool.not_true, Bool.not_false]; done) | simp [c2, c4, c6]⟩, trivial⟩) (fun _ h => h.re [0] [])
        ·
          have p8 := of_decide_eq_false c6
          refine s_skip ?_
          refine s_skip ?_
          refine s_skip ?_
          refine s_lt (t_pure (.bool false)) ?_
          refine s_lt (t_pure (.bool false)) ?_
          refine s_nil ?_
          exact xs_cut () trivial (sub_of rfl ⟨⟨rfl, show Value.bool false = Value.bool ((decide ((0 : Int) ≤ f.line)) && ((decide ((0 : Int) ≤ f.base)) && ((decide ((0 : Int) ≤ f.extra)) && (decide ((-1) ≤ f.want))))) by first | (simp only [c2, c4, c6, Bool.true_and, Bool.false_and, Bool.and_true, Bool.and_false, Bool.true_or, Bool.or_true, Bool.false_or, Bool.or_false, Bool.not_true, Bool.not_false]; done) | simp [c2, c4, c6]⟩, trivial⟩) (fun _ h => h.re [0] [])
      ·
        have p9 := of_decide_eq_false c4
        refine s_skip ?_
        refine s_skip ?_
        refine s_skip ?_
        refine s_lt (t_pure (.bool false)) ?_
        refine s_lt (t_pure (.bool false)) ?_
        refine s_skip ?_
        refine s_skip ?_
        refine s_skip ?_
        refine s_lt (t_pure (.bool false)) ?_
        refine s_lt (t_pure (.bool false)) ?_
        refine s_nil ?_
        exact xs_cut () trivial (sub_of rfl ⟨⟨rfl, show Value.bool false = Value.bool ((decide ((0 : Int) ≤ f.line)) && ((decide ((0 : Int) ≤ f.base)) && ((decide ((0 : Int) ≤ f.extra)) && (decide ((-1) ≤ f.want))))) by first | (simp only [c2, c4, Bool.true_and, Bool.false_and, Bool.and_true, Bool.and_false, Bool.true_or, Bool.or_true, Bool.false_or, Bool.or_false, Bool.not_true, Bool.not_false]; done) | simp [c2, c4]⟩, trivial⟩) (fun _ h => h.re [0] [])
    ·
      have p10 := of_decide_eq_false c2
      refine s_skip ?_
      refine s_skip ?_
      refine s_skip ?_
      refine s_lt (t_pure (.bool false)) ?_
      refine s_lt (t_pure (.bool false)) ?_
      refine s_skip ?_
      refine s_skip ?_
      refine s_skip ?_
      refine s_lt (t_pure (.bool false)) ?_
      refine s_lt (t_pure (.bool false)) ?_
      refine s_skip ?_
      refine s_skip ?_
      refine s_skip ?_
      refine s_lt (t_pure (.bool false)) ?_
      refine s_lt (t_pure (.bool false)) ?_
      refine s_nil ?_
      exact xs_cut () trivial (sub_of rfl ⟨⟨rfl, show Value.bool false = Value.bool ((decide ((0 : Int) ≤ f.line)) && ((decide ((0 : Int) ≤ f.base)) && ((decide ((0 : Int) ≤ f.extra)) && (decide ((-1) ≤ f.want))))) by first | (simp only [c2, Bool.true_and, Bool.false_and, Bool.and_true, Bool.and_false, Bool.true_or, Bool.or_true, Bool.false_or, Bool.or_false, Bool.not_true, Bool.not_false]; done) | simp [c2]⟩, trivial⟩) (fun _ h => h.re [0] [])
  ·
    refine k_ret ?_
    refine xs_fin [.bool ((decide ((0 : Int) ≤ f.line)) && ((decide ((0 : Int) ≤ f.base)) && ((decide ((0 : Int) ≤ f.extra)) && (decide ((-1) ≤ f.want)))))] [] (SI.tmp 2 SI.nil) (fun _ h => h.re [] [0]) ⟨?_, rfl⟩
    refine congrArg Value.bool ?_; simp [rightB, Bool.and_assoc]
theorem frame_s {Z : Zone} (x : Opn) : SF Tryd.prog 8 #[x.v] Z [] fun r Bs => r = x.fr.v ∧ Bs = [] := by
  refine sf_enter Tryd.func8 16 [(0, .agg #[.int .i64 x.kind, .int .i64 x.n, .string x.name, .int .i64 x.line, .int .i64 x.base, .int .i64 x.extra, .int .i64 x.want, .bool x.tail])] (fun w0 => ?_)
  refine k_seq ?_
  refine k_reg ?_
  refine s_box #[.int .i64 x.kind, .int .i64 x.n, .string x.name, .int .i64 x.line, .int .i64 x.base, .int .i64 x.extra, .int .i64 x.want, .bool x.tail] (fun g1 => ?_)
  refine s_alloc (.agg #[.string ByteArray.empty, .int .i64 0, .int .i64 0, .int .i64 0, .int .i64 0, .bool false]) #[.string ByteArray.empty, .int .i64 0, .int .i64 0, .int .i64 0, .int .i64 0, .bool false] (fun g2 => ?_)
  refine s_nil ?_
  refine xs_then ?_
  refine k_seq ?_
  refine k_reg ?_
  refine s_lt (t_pure (.pointer (some ⟨g1, 2, none⟩))) ?_
  refine s_lt (t_load 1 (.string x.name)) ?_
  refine s_lt (t_pure (.pointer (some ⟨g1, 3, none⟩))) ?_
  refine s_lt (t_load 1 (.int .i64 x.line)) ?_
  refine s_lt (t_pure (.pointer (some ⟨g1, 4, none⟩))) ?_
  refine s_lt (t_load 1 (.int .i64 x.base)) ?_
  refine s_lt (t_pure (.pointer (some ⟨g1, 5, none⟩))) ?_
  refine s_lt (t_load 1 (.int .i64 x.extra)) ?_
  refine s_lt (t_pure (.pointer (some ⟨g1, 6, none⟩))) ?_
  refine s_lt (t_load 1 (.int .i64 x.want)) ?_
  refine s_lt (t_pure (.pointer (some ⟨g1, 7, none⟩))) ?_
  refine s_lt (t_load 1 (.bool x.tail)) ?_
  refine s_lt (t_kern (.agg #[.string x.name, .int .i64 x.line, .int .i64 x.base, .int .i64 x.extra, .int .i64 x.want, .bool x.tail])) ?_
  refine s_store 0 #[.string x.name, .int .i64 x.line, .int .i64 x.base, .int .i64 x.extra, .int .i64 x.want, .bool x.tail] ?_
  refine s_nil ?_
  refine xs_then ?_
  refine k_ret ?_
  refine xs_fin [.agg #[.string x.name, .int .i64 x.line, .int .i64 x.base, .int .i64 x.extra, .int .i64 x.want, .bool x.tail]] [] (SI.agg 2 30 0 SI.nil) (fun _ h => h.re [] [0, 0]) ⟨?_, rfl⟩
  rfl
theorem num_s {Z : Zone} (n : Int) : SF Tryd.prog 25 #[.int .i64 n] Z [] fun r Bs => r = (numV n).v ∧ Bs = [] := by
  refine sf_enter Tryd.func25 6 [(0, .int .i64 n)] (fun w0 => ?_)
  refine k_seq ?_
  refine k_reg ?_
  refine s_alloc (.agg #[.int .i64 0, .int .i64 0, .int .i64 0, .string ByteArray.empty, .int .i64 0]) #[.int .i64 0, .int .i64 0, .int .i64 0, .string ByteArray.empty, .int .i64 0] (fun g1 => ?_)
  refine s_nil ?_
  refine xs_then ?_
  refine k_seq ?_
  refine k_reg ?_
  refine s_lt (t_pure (.int .i64 n)) ?_
  refine s_lt (t_kern (.agg #[.int .i64 n, .int .i64 1])) ?_
  refine s_lt (t_kern (.agg #[.int .i64 2, .int .i64 n, .int .i64 1, .string ByteArray.empty, .int .i64 0])) ?_
  refine s_store 0 #[.int .i64 2, .int .i64 n, .int .i64 1, .string ByteArray.empty, .int .i64 0] ?_
  refine s_nil ?_
  refine xs_then ?_
  refine k_ret ?_
  refine xs_fin [.agg #[.int .i64 2, .int .i64 n, .int .i64 1, .string ByteArray.empty, .int .i64 0]] [] (SI.agg 2 39 0 SI.nil) (fun _ h => h.re [] [0]) ⟨?_, rfl⟩
  rfl
theorem new_s {Z : Zone} : SF Tryd.prog 6 #[] Z [] fun r Bs => ∃ b, r = .pointer (some ⟨b, 0, none⟩) ∧ Bs = [fsA 70 b []] := by
  refine sf_enter Tryd.func6 4 [] (fun w0 => ?_)
  refine k_seq ?_
  refine k_reg ?_
  refine s_lt (t_pure (.pointer none)) ?_
  refine s_nil ?_
  refine xs_then ?_
  refine k_seq ?_
  refine k_reg ?_
  refine s_makeMap (strK 9) iV (fun b1 => ?_)
  refine s_lt (t_kern (.agg #[(.slice none 0 0), .map (some b1)])) ?_
  refine s_box #[(.slice none 0 0), .map (some b1)] (fun g2 => ?_)
  refine s_lt (t_pure (.pointer (some ⟨g2, 0, none⟩))) ?_
  refine s_nil ?_
  refine xs_then ?_
  refine k_ret ?_
  exact xs_fin [.pointer (some ⟨g2, 0, none⟩)] [fsA 70 g2 []] (SI.tmp 0 SI.nil) (fun _ h => fs_shut (by simp) (h.nilS.re [1, 0, 1] [])) ⟨g2, rfl, rfl⟩
theorem push_s {Z : Zone} {F : List Asr} {b : Nat} {L : List Fr} (f : Fr) : SF Tryd.prog 7 #[.pointer (some ⟨b, 0, none⟩), .agg #[.string f.name, .int .i64 f.line, .int .i64 f.base, .int .i64 f.extra, .int .i64 f.want, .bool f.tail]] Z (fsA 70 b L :: F) fun r Bs => r = .int .i64 (pushR L f).1 ∧ Bs = fsA 70 b (pushR L f).2 :: F := by
  refine sf_enter Tryd.func7 37 [(0, .pointer (some ⟨b, 0, none⟩)), (1, .agg #[.string f.name, .int .i64 f.line, .int .i64 f.base, .int .i64 f.extra, .int .i64 f.want, .bool f.tail])] (fun w0 => ?_)
  refine k_mem3 (fun H h => fs_open (h.re [0] [])) (fun sv1 mb2 m3 hw => ?_)
  obtain hw4 := hw
  refine k_seq ?_
  refine k_reg ?_
  refine s_box #[.string f.name, .int .i64 f.line, .int .i64 f.base, .int .i64 f.extra, .int .i64 f.want, .bool f.tail] (fun g5 => ?_)
  refine s_lt (t_pure (.int .i64 0)) ?_
  refine s_nil ?_
  refine xs_then ?_
  refine k_seq ?_
  refine k_block ?_
  refine k_seq ?_
  refine k_reg ?_
  refine s_lt (t_pure (.pointer (some ⟨b, 0, none⟩))) ?_
  refine s_lt (t_pure (.bool false)) ?_
  refine s_lt (t_pure (.bool false)) ?_
  refine s_nil ?_
  refine xs_then ?_
  refine k_false ?_
  refine k_seq ?_
  refine k_reg ?_
  refine s_lt (t_loadA 0 #[.string f.name, .int .i64 f.line, .int .i64 f.base, .int .i64 f.extra, .int .i64 f.want, .bool f.tail]) ?_
  refine s_vcall (fun _ h => right_s f) ?_
  rintro _ rfl
  refine s_lt (t_pure (.bool (!(rightB f)))) ?_
  refine s_lt (t_pure (.bool (!(rightB f)))) ?_
  refine s_nil ?_
  refine xs_then ?_
  refine k_cond (!(rightB f)) (fun c6 => ?_) (fun c6 => ?_)
  ·
    have c7 := not_t c6
    refine k_seq ?_
    refine k_reg ?_
    refine s_lt (t_pure (.int .i64 2)) ?_
    refine s_nil ?_
    refine xs_then ?_
    refine k_ret ?_
    refine xs_retBlock ?_
    refine xs_ret ?_
    refine xs_mem (fun _ h => fs_shut (L := L) (by (try simp only [List.length_nil, List.length_cons, List.length_append, List.length_take, List.length_drop, List.length_set, List.length_replicate, List.length_reverse, ByteArray.size_append, sz_mk]); omega) (h.re [1, 1, 1] [])) ?_
    have hp : pushR L f = (2, L) := by
      first | (simp [pushR, c7]; done) | (simp [pushR, c7]; omega)
    refine xs_fin [.int .i64 2] (fsA 70 b L :: F) (SI.tmp 4 SI.nil) (fun _ h => h.re [0] [1]) ?_
    rw [hp]; exact ⟨rfl, rfl⟩
  ·
    have c8 := not_f c6
    refine k_seq ?_
    refine k_reg ?_
    refine s_lt (t_pure (.pointer (some ⟨b, 0, none⟩))) ?_
    refine s_lt (t_pure (.pointer (some ⟨b, 0, none⟩))) ?_
    refine s_lt (t_pure (.pointer (some ⟨b, 0, none⟩))) ?_
    refine s_lt (t_load 1 sv1) ?_
    refine s_lt (t_len FrT_ok Tryd.underlying68 (.own 2)) ?_
    refine s_lt t_cmp ?_
    refine s_lt (t_pure (.bool (decide ((150 : Int) ≤ (L.length : Int))))) ?_
    refine s_nil ?_
    refine xs_then ?_
    refine k_cond (decide ((150 : Int) ≤ (L.length : Int))) (fun c9 => ?_) (fun c9 => ?_)
    ·
      have p10 := of_decide_eq_true c9
      refine k_seq ?_
      refine k_reg ?_
      refine s_lt (t_pure (.int .i64 17)) ?_
      refine s_nil ?_
      refine xs_then ?_
      refine k_ret ?_
      refine xs_retBlock ?_
      refine xs_ret ?_
      refine xs_mem (fun _ h => fs_shut (L := L) (by (try simp only [List.length_nil, List.length_cons, List.length_append, List.length_take, List.length_drop, List.length_set, List.length_replicate, List.length_reverse, ByteArray.size_append, sz_mk]); omega) (h.re [1, 1, 1] [])) ?_
      have hp : pushR L f = (17, L) := by
        first | (simp [pushR, c8, p10]; done) | (simp [pushR, c8, p10]; omega)
      refine xs_fin [.int .i64 17] (fsA 70 b L :: F) (SI.tmp 4 SI.nil) (fun _ h => h.re [0] [1]) ?_
      rw [hp]; exact ⟨rfl, rfl⟩
    ·
      have p11 := of_decide_eq_false c9
      refine k_skip ?_
      refine xs_block ?_
      refine xs_then ?_
      refine k_seq ?_
      refine k_draw ?_
      refine s_lt (t_pure (.pointer (some ⟨b, 0, none⟩))) ?_
      refine s_lt (t_pure (.pointer (some ⟨b, 0, none⟩))) ?_
      refine s_lt (t_pure (.pointer (some ⟨b, 0, none⟩))) ?_
      refine s_lt (t_pure (.pointer (some ⟨b, 0, none⟩))) ?_
      refine s_lt (t_load 1 sv1) ?_
      refine s_lt (t_loadA 0 #[.string f.name, .int .i64 f.line, .int .i64 f.base, .int .i64 f.extra, .int .i64 f.want, .bool f.tail]) ?_
      refine s_buildSlice (e := 30) [(0, .agg #[.string f.name, .int .i64 f.line, .int .i64 f.base, .int .i64 f.extra, .int .i64 f.want, .bool f.tail])] #[.string f.name, .int .i64 f.line, .int .i64 f.base, .int .i64 f.extra, .int .i64 f.want, .bool f.tail] (fun g12 => ?_) (hb := by kernel_rfl)
      refine s_append (L := L) 3 FrT_ok Tryd.underlying68 (.lit 0 FrT_ok [f]) (by show _ * 56 ≤ _; (try simp only [List.length_nil, List.length_cons, List.length_append, List.length_take, List.length_drop, List.length_set, List.length_replicate, List.length_reverse, ByteArray.size_append, sz_mk]); omega) (by (try simp only [List.length_nil, List.length_cons, List.length_append, List.length_take, List.length_drop, List.length_set, List.length_replicate, List.length_reverse, ByteArray.size_append, sz_mk]); omega) (fun v13 => ?_)
      refine s_lt (t_pure (.pointer (some ⟨b, 0, none⟩))) ?_
      refine s_lt (t_pure (.pointer (some ⟨b, 0, none⟩))) ?_
      refine s_fact (fun H h => ((Acc.own (T := FrT) (L := (L ++ [f])) 3 rfl) H h).form) (fun hf14 => ?_)
      refine s_store (u := v13) (m := 1) 2 #[v13, .map (some mb2)] ?_ (hm := by (obtain ⟨_, _, e⟩ := hf14; rw [e]; rfl)) (h1 := by (obtain ⟨_, _, e⟩ := hf14; rw [e]; rfl)) (ha' := by (obtain ⟨_, _, e⟩ := hf14; rw [e]; rfl))
      refine s_nil ?_
      refine x_dynS (fun _ h => by kernel_rfl) ?_
      refine xs_then ?_
      refine k_seq ?_
      refine k_draw ?_
      refine s_lt (t_pure (.pointer (some ⟨b, 0, none⟩))) ?_
      refine s_lt (t_pure (.pointer (some ⟨b, 0, none⟩))) ?_
      refine s_lt (t_pure (.pointer (some ⟨b, 1, none⟩))) ?_
      refine s_lt (t_load 2 (.map (some mb2))) ?_
      refine s_lt (t_pure (.pointer (some ⟨g5, 0, none⟩))) ?_
      refine s_lt (t_load 1 (.string f.name)) ?_
      refine s_lt (Lt.to (v' := .int .i64 ((aget m3 f.name).getD 0)) (t_lookup 4 strOk Tryd.underlying67 (.int .i64 0) f.name) (got_int _)) ?_
      refine s_lt (t_addW ((aget m3 f.name).getD 0) 1) ?_
      refine s_update 4 strOk Tryd.underlying67 f.name (IntKind.i64.wrap (((aget m3 f.name).getD 0) + 1)) ?_
      refine s_nil ?_
      refine x_dynS (fun _ h => by kernel_rfl) ?_
      refine xs_then ?_
      refine k_seq ?_
      refine k_reg ?_
      refine s_lt (t_pure (.int .i64 0)) ?_
      refine s_nil ?_
      refine xs_then ?_
      refine k_ret ?_
      refine xs_mem (fun _ h => fs_shut (L := (L ++ [f])) (by (try simp only [List.length_nil, List.length_cons, List.length_append, List.length_take, List.length_drop, List.length_set, List.length_replicate, List.length_reverse, ByteArray.size_append, sz_mk]); omega) (h.re [2, 2, 2] [])) ?_
      have hp : pushR L f = (0, (L ++ [f])) := by
        first | (simp [pushR, c8, p11]; done) | (simp [pushR, c8, p11]; omega)
      refine xs_fin [.int .i64 0] (fsA 70 b (L ++ [f]) :: F) (SI.tmp 4 SI.nil) (fun _ h => h.re [0] [1, 1]) ?_
      rw [hp]; exact ⟨rfl, rfl⟩
theorem push_e {Z : Zone} {F : List Asr} {b : Nat} {L : List Fr} (f : Fr) {L' : List Fr} {e : Int} (hp : pushR L f = (e, L')) : SF Tryd.prog 7 #[.pointer (some ⟨b, 0, none⟩), .agg #[.string f.name, .int .i64 f.line, .int .i64 f.base, .int .i64 f.extra, .int .i64 f.want, .bool f.tail]] Z (fsA 70 b L :: F) fun r Bs => r = .int .i64 e ∧ Bs = fsA 70 b L' :: F := by
  have h := push_s (Z := Z) (F := F) (b := b) (L := L) f
  rw [hp] at h; exact h
theorem pop_s {Z : Zone} {F : List Asr} {b : Nat} {L : List Fr}  : SF Tryd.prog 23 #[.pointer (some ⟨b, 0, none⟩)] Z (fsA 70 b L :: F) fun r Bs => r = .tuple #[(popR L).1.1.v, .bool (popR L).1.2] ∧ Bs = fsA 70 b (popR L).2 :: F := by
  refine sf_enter Tryd.func23 51 [(0, .pointer (some ⟨b, 0, none⟩))] (fun w0 => ?_)
  refine k_mem3 (fun H h => fs_open (h.re [0] [])) (fun sv1 mb2 m3 hw => ?_)
  obtain hw4 := hw
  refine k_seq ?_
  refine k_reg ?_
  refine s_alloc (.agg #[.string ByteArray.empty, .int .i64 0, .int .i64 0, .int .i64 0, .int .i64 0, .bool false]) #[.string ByteArray.empty, .int .i64 0, .int .i64 0, .int .i64 0, .int .i64 0, .bool false] (fun g5 => ?_)
  refine s_lt (t_pure (.bool false)) ?_
  refine s_nil ?_
  refine xs_then ?_
  refine k_seq ?_
  refine k_seq ?_
  refine k_reg ?_
  refine s_lt (t_pure (.pointer (some ⟨b, 0, none⟩))) ?_
  refine s_lt (t_pure (.bool false)) ?_
  refine s_lt (t_pure (.bool false)) ?_
  refine s_lt (t_pure (.pointer (some ⟨b, 0, none⟩))) ?_
  refine s_lt (t_pure (.pointer (some ⟨b, 0, none⟩))) ?_
  refine s_lt (t_pure (.pointer (some ⟨b, 0, none⟩))) ?_
  refine s_lt (t_load 1 sv1) ?_
  refine s_lt (t_len FrT_ok Tryd.underlying68 (.own 2)) ?_
  refine s_lt t_cmp ?_
  refine s_lt (t_pure (.bool (decide ((L.length : Int) = 0)))) ?_
  refine s_nil ?_
  refine xs_then ?_
  refine k_cond (decide ((L.length : Int) = 0)) (fun c6 => ?_) (fun c6 => ?_)
  ·
    have p7 := of_decide_eq_true c6
    refine k_seq ?_
    refine k_reg ?_
    refine s_lt (t_kern (.agg #[.string ByteArray.empty, .int .i64 0, .int .i64 0, .int .i64 0, .int .i64 0, .bool false])) ?_
    refine s_store 0 #[.string ByteArray.empty, .int .i64 0, .int .i64 0, .int .i64 0, .int .i64 0, .bool false] ?_
    refine s_lt (t_pure (.bool false)) ?_
    refine s_nil ?_
    refine xs_then ?_
    refine k_ret ?_
    refine xs_ret ?_
    refine xs_mem (fun _ h => fs_shut (L := L) (by (try simp only [List.length_nil, List.length_cons, List.length_append, List.length_take, List.length_drop, List.length_set, List.length_replicate, List.length_reverse, ByteArray.size_append, sz_mk]); omega) (h.re [1, 1, 1] [])) ?_
    have hp : popR L = (((⟨ByteArray.empty, 0, 0, 0, 0, false⟩ : Fr), false), L) := by
      first | exact popR_nil (by omega) | exact popR_some rfl
    refine xs_fin [.agg #[.string ByteArray.empty, .int .i64 0, .int .i64 0, .int .i64 0, .int .i64 0, .bool false], .bool false] (fsA 70 b L :: F) (SI.agg 2 30 1 (SI.tmp 3 SI.nil)) (fun _ h => h.re [0] [1]) ?_
    rw [hp]; exact ⟨rfl, rfl⟩
  ·
    have p8 := of_decide_eq_false c6
    refine k_skip ?_
    refine xs_then ?_
    refine k_seq ?_
    refine k_draw ?_
    refine s_lt (t_pure (.pointer (some ⟨b, 0, none⟩))) ?_
    refine s_lt (t_pure (.pointer (some ⟨b, 0, none⟩))) ?_
    refine s_lt (t_pure (.pointer (some ⟨b, 0, none⟩))) ?_
    refine s_lt (t_load 1 sv1) ?_
    refine s_lt (t_pure (.pointer (some ⟨b, 0, none⟩))) ?_
    refine s_lt (t_pure (.pointer (some ⟨b, 0, none⟩))) ?_
    refine s_lt (t_pure (.pointer (some ⟨b, 0, none⟩))) ?_
    refine s_lt (t_load 1 sv1) ?_
    refine s_fact (fun H h => ((Acc.own (T := FrT) (L := L) 2 rfl) H h).form) (fun hf9 => ?_)
    refine s_lt (t_len FrT_ok Tryd.underlying68 (.own 2)) ?_
    refine s_lt (t_sub (L.length : Int) 1 (by (try simp only [List.length_nil, List.length_cons, List.length_append, List.length_take, List.length_drop, List.length_set, List.length_replicate, List.length_reverse, ByteArray.size_append, sz_mk]); omega)) ?_
    refine s_lt (t_index FrT_ok Tryd.underlying68 (.own 2) ((L.length : Int) - 1) (L.length - 1) (by omega) (by (try simp only [List.length_nil, List.length_cons, List.length_append, List.length_take, List.length_drop, List.length_set, List.length_replicate, List.length_reverse, ByteArray.size_append, sz_mk]); omega) (by omega)) ?_
    obtain ⟨y10, hy11⟩ : ∃ y, L[(L.length - 1)]? = some y := ⟨_, List.getElem?_eq_getElem (by (try simp only [List.length_nil, List.length_cons, List.length_append, List.length_take, List.length_drop, List.length_set, List.length_replicate, List.length_reverse, ByteArray.size_append, sz_mk]); omega)⟩
    refine s_lt (t_loadE FrT_ok (.own 2) hy11) ?_
    refine s_alloc (.agg #[.string ByteArray.empty, .int .i64 0, .int .i64 0, .int .i64 0, .int .i64 0, .bool false]) #[.string ByteArray.empty, .int .i64 0, .int .i64 0, .int .i64 0, .int .i64 0, .bool false] (fun g12 => ?_)
    refine s_store 0 #[.string y10.name, .int .i64 y10.line, .int .i64 y10.base, .int .i64 y10.extra, .int .i64 y10.want, .bool y10.tail] ?_
    refine s_nil ?_
    refine x_dynS (fun _ h => by obtain ⟨_, _, e⟩ := hf9; subst e; kernel_rfl) ?_
    refine xs_then ?_
    refine k_seq ?_
    refine k_draw ?_
    refine s_lt (t_pure (.pointer (some ⟨b, 0, none⟩))) ?_
    refine s_lt (t_pure (.pointer (some ⟨b, 0, none⟩))) ?_
    refine s_lt (t_pure (.pointer (some ⟨b, 0, none⟩))) ?_
    refine s_lt (t_pure (.pointer (some ⟨b, 0, none⟩))) ?_
    refine s_lt (t_load 2 sv1) ?_
    refine s_lt (t_pure (.pointer (some ⟨b, 0, none⟩))) ?_
    refine s_lt (t_pure (.pointer (some ⟨b, 0, none⟩))) ?_
    refine s_lt (t_pure (.pointer (some ⟨b, 0, none⟩))) ?_
    refine s_lt (t_load 2 sv1) ?_
    refine s_lt (t_len FrT_ok Tryd.underlying68 (.own 3)) ?_
    refine s_lt (t_sub (L.length : Int) 1 (by (try simp only [List.length_nil, List.length_cons, List.length_append, List.length_take, List.length_drop, List.length_set, List.length_replicate, List.length_reverse, ByteArray.size_append, sz_mk]); omega)) ?_
    refine s_lt (t_pre FrT_ok Tryd.underlying68 (.own 3) ((L.length : Int) - 1) (L.length - 1) (by omega) (by (try simp only [List.length_nil, List.length_cons, List.length_append, List.length_take, List.length_drop, List.length_set, List.length_replicate, List.length_reverse, ByteArray.size_append, sz_mk]); omega) (by omega)) ?_
    refine s_lt (t_pure (.pointer (some ⟨b, 0, none⟩))) ?_
    refine s_lt (t_pure (.pointer (some ⟨b, 0, none⟩))) ?_
    refine s_mem (fun _ h => Holds.pre (i := 3) h FrT_ok (L.length - 1) rfl (by (try simp only [List.length_nil, List.length_cons, List.length_append, List.length_take, List.length_drop, List.length_set, List.length_replicate, List.length_reverse, ByteArray.size_append, sz_mk]); omega)) ?_
    refine s_fact (fun H h => ((Acc.own (T := FrT) (L := (L.take (L.length - 1))) 3 rfl) H h).form) (fun hf13 => ?_)
    refine s_store (u := (pre sv1 (L.length - 1))) (m := 1) 2 #[(pre sv1 (L.length - 1)), .map (some mb2)] ?_ (hm := by (obtain ⟨_, _, e⟩ := hf13; rw [e]; rfl)) (h1 := by (obtain ⟨_, _, e⟩ := hf13; rw [e]; rfl)) (ha' := by (obtain ⟨_, _, e⟩ := hf13; rw [e]; rfl))
    refine s_nil ?_
    refine x_dynS (fun _ h => by obtain ⟨_, _, e⟩ := hf9; subst e; kernel_rfl) ?_
    refine xs_then ?_
    refine k_seq ?_
    refine k_draw ?_
    refine s_lt (t_pure (.pointer (some ⟨b, 0, none⟩))) ?_
    refine s_lt (t_pure (.pointer (some ⟨b, 0, none⟩))) ?_
    refine s_lt (t_pure (.pointer (some ⟨b, 1, none⟩))) ?_
    refine s_lt (t_load 2 (.map (some mb2))) ?_
    refine s_lt (t_pure (.pointer (some ⟨g12, 0, none⟩))) ?_
    refine s_lt (t_load 0 (.string y10.name)) ?_
    refine s_lt (Lt.to (v' := .int .i64 ((aget m3 y10.name).getD 0)) (t_lookup 4 strOk Tryd.underlying67 (.int .i64 0) y10.name) (got_int _)) ?_
    refine s_lt (t_subW ((aget m3 y10.name).getD 0) 1) ?_
    refine s_update 4 strOk Tryd.underlying67 y10.name (IntKind.i64.wrap (((aget m3 y10.name).getD 0) - 1)) ?_
    refine s_nil ?_
    refine x_dynS (fun _ h => by kernel_rfl) ?_
    refine xs_then ?_
    refine k_seq ?_
    refine k_reg ?_
    refine s_lt (t_loadA 0 #[.string y10.name, .int .i64 y10.line, .int .i64 y10.base, .int .i64 y10.extra, .int .i64 y10.want, .bool y10.tail]) ?_
    refine s_store 1 #[.string y10.name, .int .i64 y10.line, .int .i64 y10.base, .int .i64 y10.extra, .int .i64 y10.want, .bool y10.tail] ?_
    refine s_lt (t_pure (.bool true)) ?_
    refine s_nil ?_
    refine xs_then ?_
    refine k_ret ?_
    refine xs_mem (fun _ h => fs_shut (L := (L.take (L.length - 1))) (by (try simp only [List.length_nil, List.length_cons, List.length_append, List.length_take, List.length_drop, List.length_set, List.length_replicate, List.length_reverse, ByteArray.size_append, sz_mk]); omega) (h.re [2, 2, 2] [])) ?_
    have hp : popR L = ((y10, true), (L.take (L.length - 1))) := by
      first | exact popR_nil (by omega) | exact popR_some hy11
    refine xs_fin [.agg #[.string y10.name, .int .i64 y10.line, .int .i64 y10.base, .int .i64 y10.extra, .int .i64 y10.want, .bool y10.tail], .bool true] (fsA 70 b (L.take (L.length - 1)) :: F) (SI.agg 2 30 2 (SI.tmp 3 SI.nil)) (fun _ h => h.re [0] [1, 1]) ?_
    rw [hp]; exact ⟨rfl, rfl⟩
theorem pop_e {Z : Zone} {F : List Asr} {b : Nat} {L : List Fr}  {L' : List Fr} {y : Fr} {e : Bool} (hp : popR L = ((y, e), L')) : SF Tryd.prog 23 #[.pointer (some ⟨b, 0, none⟩)] Z (fsA 70 b L :: F) fun r Bs => r = .tuple #[y.v, .bool e] ∧ Bs = fsA 70 b L' :: F := by
  have h := pop_s (Z := Z) (F := F) (b := b) (L := L)
  rw [hp] at h; exact h
theorem repl_s {Z : Zone} {F : List Asr} {b : Nat} {L : List Fr} (f : Fr) : SF Tryd.prog 22 #[.pointer (some ⟨b, 0, none⟩), .agg #[.string f.name, .int .i64 f.line, .int .i64 f.base, .int .i64 f.extra, .int .i64 f.want, .bool f.tail]] Z (fsA 70 b L :: F) fun r Bs => r = .int .i64 (replR L f).1 ∧ Bs = fsA 70 b (replR L f).2 :: F := by
  refine sf_enter Tryd.func22 58 [(0, .pointer (some ⟨b, 0, none⟩)), (1, .agg #[.string f.name, .int .i64 f.line, .int .i64 f.base, .int .i64 f.extra, .int .i64 f.want, .bool f.tail])] (fun w0 => ?_)
  refine k_mem3 (fun H h => fs_open (h.re [0] [])) (fun sv1 mb2 m3 hw => ?_)
  obtain hw4 := hw
  refine k_seq ?_
  refine k_reg ?_
  refine s_box #[.string f.name, .int .i64 f.line, .int .i64 f.base, .int .i64 f.extra, .int .i64 f.want, .bool f.tail] (fun g5 => ?_)
  refine s_lt (t_pure (.int .i64 0)) ?_
  refine s_nil ?_
  refine xs_then ?_
  refine k_seq ?_
  refine k_block ?_
  refine k_seq ?_
  refine k_reg ?_
  refine s_lt (t_pure (.pointer (some ⟨b, 0, none⟩))) ?_
  refine s_lt (t_pure (.bool false)) ?_
  refine s_lt (t_pure (.bool false)) ?_
  refine s_nil ?_
  refine xs_then ?_
  refine k_false ?_
  refine k_seq ?_
  refine k_reg ?_
  refine s_lt (t_loadA 0 #[.string f.name, .int .i64 f.line, .int .i64 f.base, .int .i64 f.extra, .int .i64 f.want, .bool f.tail]) ?_
  refine s_vcall (fun _ h => right_s f) ?_
  rintro _ rfl
  refine s_lt (t_pure (.bool (!(rightB f)))) ?_
  refine s_lt (t_pure (.bool (!(rightB f)))) ?_
  refine s_nil ?_
  refine xs_then ?_
  refine k_cond (!(rightB f)) (fun c6 => ?_) (fun c6 => ?_)
  ·
    have c7 := not_t c6
    refine k_seq ?_
    refine k_reg ?_
    refine s_lt (t_pure (.int .i64 2)) ?_
    refine s_nil ?_
    refine xs_then ?_
    refine k_ret ?_
    refine xs_retBlock ?_
    refine xs_ret ?_
    refine xs_mem (fun _ h => fs_shut (L := L) (by (try simp only [List.length_nil, List.length_cons, List.length_append, List.length_take, List.length_drop, List.length_set, List.length_replicate, List.length_reverse, ByteArray.size_append, sz_mk]); omega) (h.re [1, 1, 1] [])) ?_
    have hp : replR L f = (2, L) := by
      simp [replR, c7]
    refine xs_fin [.int .i64 2] (fsA 70 b L :: F) (SI.tmp 4 SI.nil) (fun _ h => h.re [0] [1]) ?_
    rw [hp]; exact ⟨rfl, rfl⟩
  ·
    have c8 := not_f c6
    refine k_seq ?_
    refine k_reg ?_
    refine s_lt (t_pure (.pointer (some ⟨b, 0, none⟩))) ?_
    refine s_lt (t_pure (.pointer (some ⟨b, 0, none⟩))) ?_
    refine s_lt (t_pure (.pointer (some ⟨b, 0, none⟩))) ?_
    refine s_lt (t_load 1 sv1) ?_
    refine s_lt (t_len FrT_ok Tryd.underlying68 (.own 2)) ?_
    refine s_lt t_cmp ?_
    refine s_lt (t_pure (.bool (decide ((L.length : Int) = 0)))) ?_
    refine s_nil ?_
    refine xs_then ?_
    refine k_cond (decide ((L.length : Int) = 0)) (fun c9 => ?_) (fun c9 => ?_)
    ·
      have p10 := of_decide_eq_true c9
      refine k_seq ?_
      refine k_reg ?_
      refine s_lt (t_pure (.int .i64 18)) ?_
      refine s_nil ?_
      refine xs_then ?_
      refine k_ret ?_
      refine xs_retBlock ?_
      refine xs_ret ?_
      refine xs_mem (fun _ h => fs_shut (L := L) (by (try simp only [List.length_nil, List.length_cons, List.length_append, List.length_take, List.length_drop, List.length_set, List.length_replicate, List.length_reverse, ByteArray.size_append, sz_mk]); omega) (h.re [1, 1, 1] [])) ?_
      have hp : replR L f = (18, L) := by
        simp [replR, c8, p10]
      refine xs_fin [.int .i64 18] (fsA 70 b L :: F) (SI.tmp 4 SI.nil) (fun _ h => h.re [0] [1]) ?_
      rw [hp]; exact ⟨rfl, rfl⟩
    ·
      have p11 := of_decide_eq_false c9
      refine k_skip ?_
      refine xs_block ?_
      refine xs_then ?_
      refine k_seq ?_
      refine k_reg ?_
      refine s_lt (t_pure (.pointer (some ⟨g5, 5, none⟩))) ?_
      refine s_store 0 #[.string f.name, .int .i64 f.line, .int .i64 f.base, .int .i64 f.extra, .int .i64 f.want, .bool true] ?_
      refine s_nil ?_
      refine xs_then ?_
      refine k_seq ?_
      refine k_draw ?_
      refine s_lt (t_pure (.pointer (some ⟨b, 0, none⟩))) ?_
      refine s_lt (t_pure (.pointer (some ⟨b, 0, none⟩))) ?_
      refine s_lt (t_pure (.pointer (some ⟨b, 0, none⟩))) ?_
      refine s_lt (t_load 1 sv1) ?_
      refine s_lt (t_pure (.pointer (some ⟨b, 0, none⟩))) ?_
      refine s_lt (t_pure (.pointer (some ⟨b, 0, none⟩))) ?_
      refine s_lt (t_pure (.pointer (some ⟨b, 0, none⟩))) ?_
      refine s_lt (t_load 1 sv1) ?_
      refine s_fact (fun H h => ((Acc.own (T := FrT) (L := L) 2 rfl) H h).form) (fun hf12 => ?_)
      refine s_lt (t_len FrT_ok Tryd.underlying68 (.own 2)) ?_
      refine s_lt (t_sub (L.length : Int) 1 (by (try simp only [List.length_nil, List.length_cons, List.length_append, List.length_take, List.length_drop, List.length_set, List.length_replicate, List.length_reverse, ByteArray.size_append, sz_mk]); omega)) ?_
      refine s_lt (t_index FrT_ok Tryd.underlying68 (.own 2) ((L.length : Int) - 1) (L.length - 1) (by omega) (by (try simp only [List.length_nil, List.length_cons, List.length_append, List.length_take, List.length_drop, List.length_set, List.length_replicate, List.length_reverse, ByteArray.size_append, sz_mk]); omega) (by omega)) ?_
      refine s_lt (t_pure (.pointer (some (elemAt FrT.size sv1 (L.length - 1))))) ?_
      refine s_nil ?_
      refine x_dynS (fun _ h => by obtain ⟨_, _, e⟩ := hf12; subst e; kernel_rfl) ?_
      refine xs_then ?_
      refine k_seq ?_
      refine k_seq ?_
      refine k_draw ?_
      refine s_lt (t_pure (.pointer (some (elemAt FrT.size sv1 (L.length - 1))))) ?_
      refine s_lt (t_pure (.pointer (some (elemAt FrT.size sv1 (L.length - 1))))) ?_
      obtain ⟨y13, hy14⟩ : ∃ y, L[(L.length - 1)]? = some y := ⟨_, List.getElem?_eq_getElem (by (try simp only [List.length_nil, List.length_cons, List.length_append, List.length_take, List.length_drop, List.length_set, List.length_replicate, List.length_reverse, ByteArray.size_append, sz_mk]); omega)⟩
      refine s_lt (t_loadE FrT_ok (.own 2) hy14) ?_
      refine s_lt (t_loadA 0 #[.string f.name, .int .i64 f.line, .int .i64 f.base, .int .i64 f.extra, .int .i64 f.want, .bool true]) ?_
      refine s_lt (t_eqS (fun w => (eqFrT y13 (⟨f.name, f.line, f.base, f.extra, f.want, true⟩ : Fr) w).1)) ?_
      refine s_nil ?_
      refine x_dynS (fun _ h => by kernel_rfl) ?_
      refine xs_then ?_
      refine k_cond (decide (y13 = (⟨f.name, f.line, f.base, f.extra, f.want, true⟩ : Fr))) (fun c15 => ?_) (fun c15 => ?_)
      ·
        have p16 := of_decide_eq_true c15
        refine k_seq ?_
        refine k_reg ?_
        refine s_lt (t_pure (.int .i64 0)) ?_
        refine s_nil ?_
        refine xs_then ?_
        refine k_ret ?_
        refine xs_ret ?_
        refine xs_mem (fun _ h => fs_shut (L := L) (by (try simp only [List.length_nil, List.length_cons, List.length_append, List.length_take, List.length_drop, List.length_set, List.length_replicate, List.length_reverse, ByteArray.size_append, sz_mk]); omega) (h.re [1, 1, 1] [])) ?_
        have hp : replR L f = (0, L) := by
          first | exact replR_ok (by simp [c8, p11, p16]) (by omega) | exact replR_same (by simp [c8, p11, p16]) (by omega) (by rw [hy14]; exact congrArg some p16)
        refine xs_fin [.int .i64 0] (fsA 70 b L :: F) (SI.tmp 4 SI.nil) (fun _ h => h.re [0] [1]) ?_
        rw [hp]; exact ⟨rfl, rfl⟩
      ·
        have p17 := of_decide_eq_false c15
        refine k_skip ?_
        refine xs_then ?_
        refine k_seq ?_
        refine k_draw ?_
        refine s_lt (t_pure (.pointer (some ⟨b, 0, none⟩))) ?_
        refine s_lt (t_pure (.pointer (some ⟨b, 0, none⟩))) ?_
        refine s_lt (t_pure (.pointer (some ⟨b, 1, none⟩))) ?_
        refine s_lt (t_load 1 (.map (some mb2))) ?_
        refine s_lt (t_pure (.pointer (some (elemAt FrT.size sv1 (L.length - 1))))) ?_
        refine s_lt (t_pure (.pointer (some (elemAt FrT.size sv1 (L.length - 1))))) ?_
        refine s_lt (t_pure (.pointer (some (elemAt FrT.size sv1 (L.length - 1))))) ?_
        refine s_lt (t_loadF 0 FrT_ok (.own 2) hy14) ?_
        refine s_lt (Lt.to (v' := .int .i64 ((aget m3 y13.name).getD 0)) (t_lookup 3 strOk Tryd.underlying67 (.int .i64 0) y13.name) (got_int _)) ?_
        refine s_lt (t_subW ((aget m3 y13.name).getD 0) 1) ?_
        refine s_update 3 strOk Tryd.underlying67 y13.name (IntKind.i64.wrap (((aget m3 y13.name).getD 0) - 1)) ?_
        refine s_nil ?_
        refine x_dynS (fun _ h => by kernel_rfl) ?_
        refine xs_then ?_
        refine k_seq ?_
        refine k_draw ?_
        refine s_lt (t_pure (.pointer (some ⟨b, 0, none⟩))) ?_
        refine s_lt (t_pure (.pointer (some ⟨b, 0, none⟩))) ?_
        refine s_lt (t_pure (.pointer (some ⟨b, 1, none⟩))) ?_
        refine s_lt (t_load 1 (.map (some mb2))) ?_
        refine s_lt (t_pure (.pointer (some ⟨g5, 0, none⟩))) ?_
        refine s_lt (t_load 0 (.string f.name)) ?_
        refine s_lt (Lt.to (v' := .int .i64 ((aget (aset m3 y13.name (IntKind.i64.wrap (((aget m3 y13.name).getD 0) - 1))) f.name).getD 0)) (t_lookup 3 strOk Tryd.underlying67 (.int .i64 0) f.name) (got_int _)) ?_
        refine s_lt (t_addW ((aget (aset m3 y13.name (IntKind.i64.wrap (((aget m3 y13.name).getD 0) - 1))) f.name).getD 0) 1) ?_
        refine s_update 3 strOk Tryd.underlying67 f.name (IntKind.i64.wrap (((aget (aset m3 y13.name (IntKind.i64.wrap (((aget m3 y13.name).getD 0) - 1))) f.name).getD 0) + 1)) ?_
        refine s_nil ?_
        refine x_dynS (fun _ h => by kernel_rfl) ?_
        refine xs_then ?_
        refine k_seq ?_
        refine k_reg ?_
        refine s_lt (t_pure (.pointer (some (elemAt FrT.size sv1 (L.length - 1))))) ?_
        refine s_lt (t_loadA 0 #[.string f.name, .int .i64 f.line, .int .i64 f.base, .int .i64 f.extra, .int .i64 f.want, .bool true]) ?_
        refine s_lt (t_pure (.pointer (some (elemAt FrT.size sv1 (L.length - 1))))) ?_
        refine s_storeE 2 0 (⟨f.name, f.line, f.base, f.extra, f.want, true⟩ : Fr) FrT_ok hy14 ?_
        refine s_nil ?_
        refine xs_then ?_
        refine k_seq ?_
        refine k_reg ?_
        refine s_lt (t_pure (.int .i64 0)) ?_
        refine s_nil ?_
        refine xs_then ?_
        refine k_ret ?_
        refine xs_mem (fun _ h => fs_shut (L := (L.set (L.length - 1) (⟨f.name, f.line, f.base, f.extra, f.want, true⟩ : Fr))) (by (try simp only [List.length_nil, List.length_cons, List.length_append, List.length_take, List.length_drop, List.length_set, List.length_replicate, List.length_reverse, ByteArray.size_append, sz_mk]); omega) (h.re [1, 1, 1] [])) ?_
        have hp : replR L f = (0, (L.set (L.length - 1) (⟨f.name, f.line, f.base, f.extra, f.want, true⟩ : Fr))) := by
          first | exact replR_ok (by simp [c8, p11, p17]) (by omega) | exact replR_same (by simp [c8, p11, p17]) (by omega) (by rw [hy14]; exact congrArg some p17)
        refine xs_fin [.int .i64 0] (fsA 70 b (L.set (L.length - 1) (⟨f.name, f.line, f.base, f.extra, f.want, true⟩ : Fr)) :: F) (SI.tmp 4 SI.nil) (fun _ h => h.re [0] [1]) ?_
        rw [hp]; exact ⟨rfl, rfl⟩
theorem repl_e {Z : Zone} {F : List Asr} {b : Nat} {L : List Fr} (f : Fr) {L' : List Fr} {e : Int} (hp : replR L f = (e, L')) : SF Tryd.prog 22 #[.pointer (some ⟨b, 0, none⟩), .agg #[.string f.name, .int .i64 f.line, .int .i64 f.base, .int .i64 f.extra, .int .i64 f.want, .bool f.tail]] Z (fsA 70 b L :: F) fun r Bs => r = .int .i64 e ∧ Bs = fsA 70 b L' :: F := by
  have h := repl_s (Z := Z) (F := F) (b := b) (L := L) f
  rw [hp] at h; exact h
theorem at_s {Z : Zone} {F : List Asr} {b : Nat} {L : List Fr} (n : Int) : SF Tryd.prog 21 #[.pointer (some ⟨b, 0, none⟩), .int .i64 n] Z (fsA 70 b L :: F) fun r Bs => r = .int .i64 (atR L n).1 ∧ Bs = fsA 70 b (atR L n).2 :: F := by
  refine sf_enter Tryd.func21 31 [(0, .pointer (some ⟨b, 0, none⟩)), (1, .int .i64 n)] (fun w0 => ?_)
  refine k_mem3 (fun H h => fs_open (h.re [0] [])) (fun sv1 mb2 m3 hw => ?_)
  obtain hw4 := hw
  refine k_seq ?_
  refine k_reg ?_
  refine s_lt (t_pure (.int .i64 0)) ?_
  refine s_nil ?_
  refine xs_then ?_
  refine k_seq ?_
  refine k_block ?_
  refine k_seq ?_
  refine k_reg ?_
  refine s_lt (t_pure (.pointer (some ⟨b, 0, none⟩))) ?_
  refine s_lt (t_pure (.bool false)) ?_
  refine s_lt (t_pure (.bool false)) ?_
  refine s_nil ?_
  refine xs_then ?_
  refine k_false ?_
  refine k_seq ?_
  refine k_reg ?_
  refine s_lt (t_pure (.int .i64 n)) ?_
  refine s_lt t_cmp ?_
  refine s_lt (t_pure (.bool (decide (n < 0)))) ?_
  refine s_nil ?_
  refine xs_then ?_
  refine k_cond (decide (n < 0)) (fun c5 => ?_) (fun c5 => ?_)
  ·
    have p6 := of_decide_eq_true c5
    refine k_seq ?_
    refine k_reg ?_
    refine s_lt (t_pure (.int .i64 2)) ?_
    refine s_nil ?_
    refine xs_then ?_
    refine k_ret ?_
    refine xs_retBlock ?_
    refine xs_ret ?_
    refine xs_mem (fun _ h => fs_shut (L := L) (by (try simp only [List.length_nil, List.length_cons, List.length_append, List.length_take, List.length_drop, List.length_set, List.length_replicate, List.length_reverse, ByteArray.size_append, sz_mk]); omega) (h.re [0, 0, 0] [])) ?_
    have hp : atR L n = (2, L) := by
      first | exact atR_nil (by omega) (by omega) | (simp [atR, p6]; done) | exact atR_some (by omega) rfl
    refine xs_fin [.int .i64 2] (fsA 70 b L :: F) (SI.tmp 4 SI.nil) (fun _ h => h.re [0] []) ?_
    rw [hp]; exact ⟨rfl, rfl⟩
  ·
    have p7 := of_decide_eq_false c5
    refine k_seq ?_
    refine k_reg ?_
    refine s_lt (t_pure (.pointer (some ⟨b, 0, none⟩))) ?_
    refine s_lt (t_pure (.pointer (some ⟨b, 0, none⟩))) ?_
    refine s_lt (t_pure (.pointer (some ⟨b, 0, none⟩))) ?_
    refine s_lt (t_load 0 sv1) ?_
    refine s_lt (t_len FrT_ok Tryd.underlying68 (.own 1)) ?_
    refine s_lt t_cmp ?_
    refine s_lt (t_pure (.bool (decide ((L.length : Int) = 0)))) ?_
    refine s_nil ?_
    refine xs_then ?_
    refine k_cond (decide ((L.length : Int) = 0)) (fun c8 => ?_) (fun c8 => ?_)
    ·
      have p9 := of_decide_eq_true c8
      refine k_seq ?_
      refine k_reg ?_
      refine s_lt (t_pure (.int .i64 18)) ?_
      refine s_nil ?_
      refine xs_then ?_
      refine k_ret ?_
      refine xs_retBlock ?_
      refine xs_ret ?_
      refine xs_mem (fun _ h => fs_shut (L := L) (by (try simp only [List.length_nil, List.length_cons, List.length_append, List.length_take, List.length_drop, List.length_set, List.length_replicate, List.length_reverse, ByteArray.size_append, sz_mk]); omega) (h.re [0, 0, 0] [])) ?_
      have hp : atR L n = (18, L) := by
        first | exact atR_nil (by omega) (by omega) | (simp [atR, p7, p9]; done) | exact atR_some (by omega) rfl
      refine xs_fin [.int .i64 18] (fsA 70 b L :: F) (SI.tmp 4 SI.nil) (fun _ h => h.re [0] []) ?_
      rw [hp]; exact ⟨rfl, rfl⟩
    ·
      have p10 := of_decide_eq_false c8
      refine k_skip ?_
      refine xs_block ?_
      refine xs_then ?_
      refine k_seq ?_
      refine k_draw ?_
      refine s_lt (t_pure (.pointer (some ⟨b, 0, none⟩))) ?_
      refine s_lt (t_pure (.pointer (some ⟨b, 0, none⟩))) ?_
      refine s_lt (t_pure (.pointer (some ⟨b, 0, none⟩))) ?_
      refine s_lt (t_load 0 sv1) ?_
      refine s_lt (t_pure (.pointer (some ⟨b, 0, none⟩))) ?_
      refine s_lt (t_pure (.pointer (some ⟨b, 0, none⟩))) ?_
      refine s_lt (t_pure (.pointer (some ⟨b, 0, none⟩))) ?_
      refine s_lt (t_load 0 sv1) ?_
      refine s_fact (fun H h => ((Acc.own (T := FrT) (L := L) 1 rfl) H h).form) (fun hf11 => ?_)
      refine s_lt (t_len FrT_ok Tryd.underlying68 (.own 1)) ?_
      refine s_lt (t_sub (L.length : Int) 1 (by (try simp only [List.length_nil, List.length_cons, List.length_append, List.length_take, List.length_drop, List.length_set, List.length_replicate, List.length_reverse, ByteArray.size_append, sz_mk]); omega)) ?_
      refine s_lt (t_pure (.int .i64 n)) ?_
      refine s_lt (t_index FrT_ok Tryd.underlying68 (.own 1) ((L.length : Int) - 1) (L.length - 1) (by omega) (by (try simp only [List.length_nil, List.length_cons, List.length_append, List.length_take, List.length_drop, List.length_set, List.length_replicate, List.length_reverse, ByteArray.size_append, sz_mk]); omega) (by omega)) ?_
      refine s_lt (t_pure (.pointer (some ((elemAt FrT.size sv1 (L.length - 1)).add 1)))) ?_
      obtain ⟨y12, hy13⟩ : ∃ y, L[(L.length - 1)]? = some y := ⟨_, List.getElem?_eq_getElem (by (try simp only [List.length_nil, List.length_cons, List.length_append, List.length_take, List.length_drop, List.length_set, List.length_replicate, List.length_reverse, ByteArray.size_append, sz_mk]); omega)⟩
      refine s_storeE 1 1 (⟨y12.name, n, y12.base, y12.extra, y12.want, y12.tail⟩ : Fr) FrT_ok hy13 ?_
      refine s_nil ?_
      refine x_dynS (fun _ h => by obtain ⟨_, _, e⟩ := hf11; subst e; kernel_rfl) ?_
      refine xs_then ?_
      refine k_seq ?_
      refine k_reg ?_
      refine s_lt (t_pure (.int .i64 0)) ?_
      refine s_nil ?_
      refine xs_then ?_
      refine k_ret ?_
      refine xs_mem (fun _ h => fs_shut (L := (L.set (L.length - 1) (⟨y12.name, n, y12.base, y12.extra, y12.want, y12.tail⟩ : Fr))) (by (try simp only [List.length_nil, List.length_cons, List.length_append, List.length_take, List.length_drop, List.length_set, List.length_replicate, List.length_reverse, ByteArray.size_append, sz_mk]); omega) (h.re [0, 0, 0] [])) ?_
      have hp : atR L n = (0, (L.set (L.length - 1) (⟨y12.name, n, y12.base, y12.extra, y12.want, y12.tail⟩ : Fr))) := by
        first | exact atR_nil (by omega) (by omega) | (simp [atR, p7, p10]; done) | exact atR_some (by omega) hy13
      refine xs_fin [.int .i64 0] (fsA 70 b (L.set (L.length - 1) (⟨y12.name, n, y12.base, y12.extra, y12.want, y12.tail⟩ : Fr)) :: F) (SI.tmp 4 SI.nil) (fun _ h => h.re [0] []) ?_
      rw [hp]; exact ⟨rfl, rfl⟩
theorem at_e {Z : Zone} {F : List Asr} {b : Nat} {L : List Fr} (n : Int) {L' : List Fr} {e : Int} (hp : atR L n = (e, L')) : SF Tryd.prog 21 #[.pointer (some ⟨b, 0, none⟩), .int .i64 n] Z (fsA 70 b L :: F) fun r Bs => r = .int .i64 e ∧ Bs = fsA 70 b L' :: F := by
  have h := at_s (Z := Z) (F := F) (b := b) (L := L) n
  rw [hp] at h; exact h
theorem depth_s {Z : Zone} {F : List Asr} {b : Nat} {L : List Fr} : SF Tryd.prog 12 #[.pointer (some ⟨b, 0, none⟩)] Z (fsA 70 b L :: F) fun r Bs => r = .int .i64 ((L.length : Int), L).1 ∧ Bs = fsA 70 b ((L.length : Int), L).2 :: F := by
  refine sf_enter Tryd.func12 10 [(0, .pointer (some ⟨b, 0, none⟩))] (fun w0 => ?_)
  refine k_mem3 (fun H h => fs_open (h.re [0] [])) (fun sv1 mb2 m3 hw => ?_)
  obtain hw4 := hw
  refine k_seq ?_
  refine k_reg ?_
  refine s_lt (t_pure (.int .i64 0)) ?_
  refine s_nil ?_
  refine xs_then ?_
  refine k_seq ?_
  refine k_seq ?_
  refine k_reg ?_
  refine s_lt (t_pure (.pointer (some ⟨b, 0, none⟩))) ?_
  refine s_lt (t_pure (.bool false)) ?_
  refine s_nil ?_
  refine xs_then ?_
  refine k_false ?_
  refine k_skip ?_
  refine xs_then ?_
  refine k_seq ?_
  refine k_reg ?_
  refine s_lt (t_pure (.pointer (some ⟨b, 0, none⟩))) ?_
  refine s_lt (t_pure (.pointer (some ⟨b, 0, none⟩))) ?_
  refine s_lt (t_pure (.pointer (some ⟨b, 0, none⟩))) ?_
  refine s_lt (t_load 0 sv1) ?_
  refine s_lt (t_len FrT_ok Tryd.underlying68 (.own 1)) ?_
  refine s_lt (t_pure (.int .i64 (L.length : Int))) ?_
  refine s_nil ?_
  refine xs_then ?_
  refine k_ret ?_
  refine xs_mem (fun _ h => fs_shut (L := L) (by (try simp only [List.length_nil, List.length_cons, List.length_append, List.length_take, List.length_drop, List.length_set, List.length_replicate, List.length_reverse, ByteArray.size_append, sz_mk]); omega) (h.re [0, 0, 0] [])) ?_
  have hp : ((L.length : Int), L) = ((L.length : Int), L) := by
    rfl
  refine xs_fin [.int .i64 (L.length : Int)] (fsA 70 b L :: F) (SI.tmp 2 SI.nil) (fun _ h => h.re [0] []) ?_
  rw [hp]; exact ⟨rfl, rfl⟩
theorem trL_len (L : List Fr) : (trL L).length = L.length := by simp [trL]
theorem trace_s {Z : Zone} {F : List Asr} {b : Nat} {L : List Fr} : SF Tryd.prog 10 #[.pointer (some ⟨b, 0, none⟩)] Z (fsA 70 b L :: F) fun r Bs => Bs = own PlT r (trL L) :: fsA 70 b L :: F := by
  refine sf_enter Tryd.func10 37 [(0, .pointer (some ⟨b, 0, none⟩))] (fun w0 => ?_)
  refine k_mem3 (fun H h => fs_open (h.re [0] [])) (fun sv1 mb2 m3 hw => ?_)
  obtain hw4 := hw
  refine k_seq ?_
  refine k_reg ?_
  refine s_lt (t_pure (.slice none 0 0)) ?_
  refine s_nil ?_
  refine xs_then ?_
  refine k_seq ?_
  refine k_reg ?_
  refine s_lt (t_pure (.slice none 0 0)) ?_
  refine s_nil ?_
  refine xs_then ?_
  refine k_seq ?_
  refine k_seq ?_
  refine k_reg ?_
  refine s_lt (t_pure (.pointer (some ⟨b, 0, none⟩))) ?_
  refine s_lt (t_pure (.bool false)) ?_
  refine s_nil ?_
  refine xs_then ?_
  refine k_false ?_
  refine k_skip ?_
  refine xs_then ?_
  refine k_seq ?_
  refine k_seq ?_
  refine k_reg ?_
  refine s_lt (t_pure (.pointer (some ⟨b, 0, none⟩))) ?_
  refine s_lt (t_pure (.pointer (some ⟨b, 0, none⟩))) ?_
  refine s_lt (t_pure (.pointer (some ⟨b, 0, none⟩))) ?_
  refine s_lt (t_load 0 sv1) ?_
  refine s_lt (t_len FrT_ok Tryd.underlying68 (.own 1)) ?_
  refine s_lt (t_sub (L.length : Int) 1 (by (try simp only [List.length_nil, List.length_cons, List.length_append, List.length_take, List.length_drop, List.length_set, List.length_replicate, List.length_reverse, ByteArray.size_append, sz_mk]); omega)) ?_
  refine s_lt (t_pure (.int .i64 ((L.length : Int) - 1))) ?_
  refine s_nil ?_
  refine xs_then ?_
  refine k_block ?_
  refine k_mem (fun _ h => Holds.nilS (T := PlT) h) ?_
  rw [show ([] : List Pl) = trL (L.drop L.length) by rw [List.drop_length]; rfl]
  refine k_loop (ι := Value × Nat) (fun (sx, i) => i ≤ L.length) (fun (sx, i) => [(0, .pointer (some ⟨b, 0, none⟩)), (2, (.slice none 0 0)), (3, sx), (4, .int .i64 ((i : Int) - 1))]) (fun (sx, i) => own PlT sx (trL (L.drop i)) :: blkA b #[sv1, .map (some mb2)] 70 :: own FrT sv1 L :: mpA (strK 9) iV mb2 m3 :: F) (fun (sx, i) => i) (.slice none 0 0, L.length) (Nat.le_refl _) (sub_of rfl ⟨⟨rfl, rfl⟩, ⟨⟨rfl, rfl⟩, ⟨⟨rfl, rfl⟩, ⟨⟨rfl, rfl⟩, trivial⟩⟩⟩⟩) (fun _ h => h.re [0, 0, 0, 0] []) ?_
  rintro ⟨sx, i⟩ hi5
  replace hi5 : i ≤ L.length := hi5
  show SK _ _ _ _ _ [(0, .pointer (some ⟨b, 0, none⟩)), (2, (.slice none 0 0)), (3, sx), (4, .int .i64 ((i : Int) - 1))] _ (own PlT sx (trL (L.drop i)) :: blkA b #[sv1, .map (some mb2)] 70 :: own FrT sv1 L :: mpA (strK 9) iV mb2 m3 :: F)
  have htl := trL_len (L.drop i); rw [List.length_drop] at htl
  refine k_seq ?_
  refine k_seq ?_
  refine k_reg ?_
  refine s_lt (t_pure (.int .i64 ((i : Int) - 1))) ?_
  refine s_lt t_cmp ?_
  refine s_nil ?_
  refine xs_then ?_
  refine k_cond (decide ((0 : Int) ≤ ((i : Int) - 1))) (fun c6 => ?_) (fun c6 => ?_)
  ·
    have p7 := of_decide_eq_true c6
    refine k_skip ?_
    refine xs_then ?_
    refine k_seq ?_
    refine k_block ?_
    refine k_seq ?_
    refine k_reg ?_
    refine s_lt (t_pure (.pointer (some ⟨b, 0, none⟩))) ?_
    refine s_lt (t_pure (.pointer (some ⟨b, 0, none⟩))) ?_
    refine s_lt (t_pure (.pointer (some ⟨b, 0, none⟩))) ?_
    refine s_lt (t_load 1 sv1) ?_
    refine s_lt (t_pure (.int .i64 ((i : Int) - 1))) ?_
    refine s_lt (t_index FrT_ok Tryd.underlying68 (.own 2) ((i : Int) - 1) (i - 1) (by omega) (by (try simp only [List.length_nil, List.length_cons, List.length_append, List.length_take, List.length_drop, List.length_set, List.length_replicate, List.length_reverse, ByteArray.size_append, sz_mk]); omega) (by omega)) ?_
    obtain ⟨y8, hy9⟩ : ∃ y, L[(i - 1)]? = some y := ⟨_, List.getElem?_eq_getElem (by (try simp only [List.length_nil, List.length_cons, List.length_append, List.length_take, List.length_drop, List.length_set, List.length_replicate, List.length_reverse, ByteArray.size_append, sz_mk]); omega)⟩
    refine s_lt (t_loadE FrT_ok (.own 2) hy9) ?_
    refine s_alloc (.agg #[.string ByteArray.empty, .int .i64 0, .int .i64 0, .int .i64 0, .int .i64 0, .bool false]) #[.string ByteArray.empty, .int .i64 0, .int .i64 0, .int .i64 0, .int .i64 0, .bool false] (fun g10 => ?_)
    refine s_store 0 #[.string y8.name, .int .i64 y8.line, .int .i64 y8.base, .int .i64 y8.extra, .int .i64 y8.want, .bool y8.tail] ?_
    refine s_nil ?_
    refine xs_then ?_
    refine k_reg ?_
    refine s_lt (t_pure sx) ?_
    refine s_lt (t_pure (.pointer (some ⟨g10, 0, none⟩))) ?_
    refine s_lt (t_load 0 (.string y8.name)) ?_
    refine s_lt (t_pure (.pointer (some ⟨g10, 1, none⟩))) ?_
    refine s_lt (t_load 0 (.int .i64 y8.line)) ?_
    refine s_lt (t_pure (.pointer (some ⟨g10, 5, none⟩))) ?_
    refine s_lt (t_load 0 (.bool y8.tail)) ?_
    refine s_lt (t_kern (.agg #[.string y8.name, .int .i64 y8.line, .bool y8.tail])) ?_
    refine s_buildSlice (e := 35) [(0, .agg #[.string y8.name, .int .i64 y8.line, .bool y8.tail])] #[.string y8.name, .int .i64 y8.line, .bool y8.tail] (fun g11 => ?_) (hb := by kernel_rfl)
    refine s_append (L := (trL (L.drop i))) 2 PlT_ok Tryd.underlying26 (.lit 0 PlT_ok [(⟨y8.name, y8.line, y8.tail⟩ : Pl)]) (by show _ * 32 ≤ _; (try simp only [List.length_nil, List.length_cons, List.length_append, List.length_take, List.length_drop, List.length_set, List.length_replicate, List.length_reverse, ByteArray.size_append, sz_mk]); omega) (by (try simp only [List.length_nil, List.length_cons, List.length_append, List.length_take, List.length_drop, List.length_set, List.length_replicate, List.length_reverse, ByteArray.size_append, sz_mk]); omega) (fun v12 => ?_)
    refine s_lt (t_pure v12) ?_
    refine s_nil ?_
    refine xs_block ?_
    refine xs_then ?_
    refine k_reg ?_
    refine s_lt (t_pure (.int .i64 ((i : Int) - 1))) ?_
    refine s_lt (t_sub ((i : Int) - 1) 1 (by (try simp only [List.length_nil, List.length_cons, List.length_append, List.length_take, List.length_drop, List.length_set, List.length_replicate, List.length_reverse, ByteArray.size_append, sz_mk]); omega)) ?_
    refine s_lt (t_pure (.int .i64 (((i : Int) - 1) - 1))) ?_
    refine s_nil ?_
    rw [show (i : Int) - 1 - 1 = ((i - 1 : Nat) : Int) - 1 by omega]
    rw [show trL (L.drop i) ++ [(⟨y8.name, y8.line, y8.tail⟩ : Pl)] = trL (L.drop (i - 1)) from by have h := trL_step (i := i - 1) hy9; rw [show i - 1 + 1 = i by omega] at h; exact h]
    exact xs_round (v12, i - 1) (by show i - 1 < i; omega) (by show i - 1 ≤ L.length; omega) (sub_of rfl ⟨⟨rfl, rfl⟩, ⟨⟨rfl, rfl⟩, ⟨⟨rfl, rfl⟩, ⟨⟨rfl, rfl⟩, trivial⟩⟩⟩⟩) (fun _ h => h.re [2, 2, 2, 2] [4, 4])
  ·
    have p13 := of_decide_eq_false c6
    refine k_exit ?_
    refine xs_exit ?_
    refine xs_exit ?_
    refine xs_here ?_
    refine xs_then ?_
    refine k_seq ?_
    refine k_reg ?_
    refine s_lt (t_pure sx) ?_
    refine s_lt (t_pure sx) ?_
    refine s_nil ?_
    refine xs_then ?_
    refine k_ret ?_
    refine xs_mem (fun _ h => fs_shut (L := L) (by (try simp only [List.length_nil, List.length_cons, List.length_append, List.length_take, List.length_drop, List.length_set, List.length_replicate, List.length_reverse, ByteArray.size_append, sz_mk]); omega) (h.re [1, 1, 1] [])) ?_
    obtain rfl : i = 0 := by omega
    exact xs_fin [sx] (own PlT sx (trL L) :: fsA 70 b L :: F) (SI.tmp 2 SI.nil) (fun _ h => h.re [1, 0] []) rfl
end Go.Proofs.YtdakfjdbdopmbaaDoor.Fs
