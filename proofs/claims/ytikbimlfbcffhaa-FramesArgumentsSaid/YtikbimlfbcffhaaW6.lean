/-
  The contracts of layer 43 over memory in parts.
-/
import Derived.Test.YtikbimlfbcffhaaW4
import Derived.Test.YtikbimlfbcffhaaSC
set_option linter.unusedSimpArgs false
set_option linter.unusedVariables false
set_option maxRecDepth 100000
namespace Go.Proofs.Ytikbimlfbcffhaa
open Go.Hp Go.J Go.S
open Go.Mem (Ty KTy blk elemAt pre suf blk_pre blk_suf aget aset strK)
def fsA (b : Nat) (L : List Fr) : Asr where
  on H S := FS H b L S
  lt h k hk := h.lt hk
  keep h hk := by
    obtain ⟨sv, mb, m, hB, hV, hM, hbm, hne, hfp⟩ := h
    exact ⟨sv, mb, m, (hk b ((hfp b).2 (.inl rfl))).trans hB, hV.kept fun g hg => hk g ((hfp g).2 (.inr (.inr hg))), hM.kept (hk mb ((hfp mb).2 (.inr (.inl rfl)))), hbm, hne, hfp⟩
def rsA (b : Nat) (L : List Fr) : Asr where
  on H S := RS H b L S
  lt h k hk := h.lt hk
  keep h hk := by
    obtain ⟨sv, hB, hV, hne, hfp⟩ := h
    exact ⟨sv, (hk b ((hfp b).2 (.inl rfl))).trans hB, hV.kept fun g hg => hk g ((hfp g).2 (.inr hg)), hne, hfp⟩
section
variable {Z : Zone} {F : List Asr} {b c : Nat} {L : List Fr}
theorem push_s (f : Fr) : SF Try.prog 23 #[.pointer (some ⟨b, 0, none⟩), f.v] Z (fsA b L :: F) fun v Bs => v = .int .i64 (pushR L f).1 ∧ Bs = fsA b (pushR L f).2 :: F := sf_of fun H S hS => push_ok f H b L S hS
theorem pop_s : SF Try.prog 25 #[.pointer (some ⟨b, 0, none⟩)] Z (fsA b L :: F) fun v Bs => v = .tuple #[(popR L).1.1.v, .bool (popR L).1.2] ∧ Bs = fsA b (popR L).2 :: F := sf_of fun H S hS => pop_ok H b L S hS
theorem repl_s (f : Fr) : SF Try.prog 26 #[.pointer (some ⟨b, 0, none⟩), f.v] Z (fsA b L :: F) fun v Bs => v = .int .i64 (replR L f).1 ∧ Bs = fsA b (replR L f).2 :: F := sf_of fun H S hS => repl_ok f H b L S hS
theorem at_s (n : Int) : SF Try.prog 27 #[.pointer (some ⟨b, 0, none⟩), .int .i64 n] Z (fsA b L :: F) fun v Bs => v = .int .i64 (atR L n).1 ∧ Bs = fsA b (atR L n).2 :: F := sf_of fun H S hS => at_ok n H b L S hS
theorem depth_s (k : KnA Z (fsA b L)) : SF Try.prog 13 #[.pointer (some ⟨b, 0, none⟩)] Z [] fun v Bs => v = .int .i64 L.length ∧ Bs = [] := sf_val fun H hH => by
  obtain ⟨S, hS⟩ := k.get hH; exact depth_ok H b L S hS
theorem trace_s (k : KnA Z (fsA b L)) (hl : L.length ≤ 200) : SF Try.prog 16 #[.pointer (some ⟨b, 0, none⟩)] Z [] fun v Bs => Bs = [own PlT v (trL L)] := sf_own fun H hH => by
  obtain ⟨S, hS⟩ := k.get hH; exact trace_ok H b L S hS hl
theorem new_s : SF Try.prog 10 #[] Z [] fun v Bs => ∃ b, v = .pointer (some ⟨b, 0, none⟩) ∧ Bs = [fsA b []] := fun H hH =>
  (new_ok H).mono fun v H' ⟨b, fp, hv, hF, hc, hlo⟩ => ⟨_, ⟨b, hv, rfl⟩, hH.new (A := fsA b []) hc hF hlo⟩
theorem rnew_s : SF Try.prog 11 #[] Z [] fun v Bs => ∃ b, v = .pointer (some ⟨b, 0, none⟩) ∧ Bs = [rsA b []] := fun H hH =>
  (rnew_ok H).mono fun v H' ⟨b, fp, hv, hF, hc, hlo⟩ => ⟨_, ⟨b, hv, rfl⟩, hH.new (A := rsA b []) hc hF hlo⟩
theorem frame_s (x : Opn) : SF Try.prog 24 #[x.v] Z [] fun v Bs => v = x.fr.v ∧ Bs = [] := sf_val fun H _ => frame_ok x H
theorem num_s (n : Int) : SF Try.prog 28 #[.int .i64 n] Z [] fun v Bs => v = (numV n).v ∧ Bs = [] := sf_val fun H _ => num_ok n H
theorem values_s {va vb : Value} {A B : List Vl} (hA : Kn Z VlT va A) (hB : Kn Z VlT vb B) : SF Try.prog 18 #[va, vb] Z [] fun v Bs => v = .bool (decide (A = B)) ∧ Bs = [] := sf_val fun H h => values_ok H va vb A B (hA.get h) (hB.get h)
theorem places_s {va vb : Value} {A B : List Pl} (hA : Kn Z PlT va A) (hB : Kn Z PlT vb B) : SF Try.prog 15 #[va, vb] Z [] fun v Bs => v = .bool (decide (A = B)) ∧ Bs = [] := sf_val fun H h => places_ok H va vb A B (hA.get h) (hB.get h)
theorem fit_s {lv : Value} {l : List Vl} (n : Int) (hL : Kn Z VlT lv l) (hl : l.length ≤ 1000) : SF Try.prog 19 #[lv, .int .i64 n] Z [] fun v Bs => Bs = [own VlT v (fitL l n)] := sf_own fun H h => fit_ok H lv l n (hL.get h) hl
theorem awake_s : SF Try.prog 9 #[] Z [] fun v Bs => v = .bool true ∧ Bs = [] := sf_val fun H _ => awake_ok H
theorem push_n (f : Fr) : SF Try.prog 23 #[.pointer none, f.v] Z [] fun v Bs => v = .int .i64 1 ∧ Bs = [] := sf_val fun H _ => push_nil f H
theorem repl_n (f : Fr) : SF Try.prog 26 #[.pointer none, f.v] Z [] fun v Bs => v = .int .i64 1 ∧ Bs = [] := sf_val fun H _ => repl_nil f H
theorem at_n (n : Int) : SF Try.prog 27 #[.pointer none, .int .i64 n] Z [] fun v Bs => v = .int .i64 1 ∧ Bs = [] := sf_val fun H _ => at_nil n H
theorem pop_n : SF Try.prog 25 #[.pointer none] Z [] fun v Bs => v = .tuple #[zFr.v, .bool false] ∧ Bs = [] := sf_val fun H _ => pop_nil H
theorem depth_n : SF Try.prog 13 #[.pointer none] Z [] fun v Bs => v = .int .i64 0 ∧ Bs = [] := sf_val fun H _ => depth_nil H
theorem trace_n : SF Try.prog 16 #[.pointer none] Z [] fun v Bs => Bs = [own PlT v []] := sf_own fun H _ => trace_nil H
end
end Go.Proofs.Ytikbimlfbcffhaa
