/-
  CollectorFinalizes: what is registered is kept by incremental work, a full collection returns it once, the last first; for all operations, marks and roots.
-/
import Derived.Test.YtmhpcebiamkciaaGreatG6
set_option linter.unusedSimpArgs false
set_option linter.unusedVariables false
set_option maxRecDepth 100000
namespace Go.Proofs.YtmhpcebiamkciaaGreat
open Go.S Go.ChangeShapes Go.WideShapes Go.ChangeAt Go.RowKit Go.J
theorem cfinal_lifted(os:Os)(started:os.Started)(H:Type)(enc:TypeId×Value→H):
  ReturnsInHanded {} Tryz.checked os 3 .any (Rows.collectorFinalizesSpec.pre6 enc Tryz.prog Tryz.f3 Rows.collectorFinalizesRow.domain false) (Rows.collectorFinalizesSpec.post enc Tryz.prog Tryz.f3 false true false false):=by
 refine returnsInHanded_of_change (C:=Tryz.checked) Tryz.own started (by kernel_rfl) Tryz.func3
  (ChangeSpec.witness6 (enc:=enc) (C:=Tryz.checked) false ⟨#[],#[.slice none 0 0,nS,nS],[]⟩ 8 (by kernel_rfl) (by kernel_rfl) (by kernel_rfl) (by kernel_rfl)) ?_
 intro W base args ds gs before hval0 hW hcnd _;have hval:∀(j:Nat) t v,Tryz.f3.params[j]?=some t→args[j]?=some v→Value.okWide Tryz.prog W .any base t v:=hval0;have hW':=hW;obtain⟨p,q,hA0,hV,rfl,hfz,hnd⟩:=hW;have hA:DataW.TrodAll enc Tryz.prog W 0 (fun _=>true) true Tryz.f3.params.toList args.toList ds p:=hA0;rw[Tryz.params3]at hA hval;obtain⟨v0,v1,v2,d0,d1,d2,p0,p1,p2,rfl,rfl,rfl,h0,h1,h2⟩:=trodAll_three hA;obtain⟨rfl,rfl⟩:=trodVars_none hV;obtain⟨l,hL⟩:=open_sl OpT_ok Tryz.underlying22 [0,0,0,0,1,0,0,0,0,0,1,0,0,0,0,0,1,0,0] (by kernel_rfl) (by kernel_rfl) rfl decOpT (hval 0 22 v0 rfl rfl) h0;obtain⟨mv,ML,f1,hM⟩:=open_ints (show Tr _ _ _ _ (Value.cells v1).toList from by obtain⟨n,h⟩:=h1;exact⟨n,_,h⟩);obtain⟨a1,l1,c1,rfl⟩:=okWide_slice Tryz.underlying23 (hval 1 23 v1 rfl rfl);obtain rfl:=(List.cons.inj f1).1;obtain⟨rv,RL,f2,hR⟩:=open_ints (show Tr _ _ _ _ (Value.cells v2).toList from by obtain⟨n,h⟩:=h2;exact⟨n,_,h⟩);obtain⟨a2,l2,c2,rfl⟩:=okWide_slice Tryz.underlying23 (hval 2 23 v2 rfl rfl);obtain rfl:=(List.cons.inj f2).1;refine (calls_of_hc (((cfinal_w (.of hL) (.of hM) (.of hR)).hc).mono (fun v H' ⟨⟨_,hv,_⟩,hc⟩=>⟨hv,hc⟩))).mono fun e W' ⟨he,hb⟩=>?_
 subst he;exact⟨_,rfl,law_post (tb:=4) Tryz.laidOut (by kernel_rfl) rfl (by kernel_rfl) Tryz.underlying4 hb hW' rfl⟩
theorem cfinal_holds:Rows.CollectorFinalizesSaid:=
 OpenClaim.holds_of_wide 3 Tryz.f3 rfl rfl rfl rfl rfl rfl rfl ⟨rfl,rfl,rfl,rfl,rfl⟩ rfl rfl rfl rfl rfl (by kernel_rfl) Tryz.func3 (by kernel_rfl)
  (dY (by kernel_rfl)) (by unfold Func.isWrapper;first|(rw[if_pos (by decide +kernel)];kernel_rfl)|(rw[if_neg (by decide +kernel)];exact⟨rfl,rfl⟩))
  (fun os started H enc _=>cfinal_lifted os started H enc)
end Go.Proofs.YtmhpcebiamkciaaGreat
