/-
  CollectorPlays: any work, writes, births, registrations and full collections have the answers, and leave the objects, of the chapter; for all operations and calls.
-/
import Derived.Test.YtmhpcebiamkciaaGreatG10
set_option linter.unusedSimpArgs false
set_option linter.unusedVariables false
set_option maxRecDepth 100000
namespace Go.Proofs.YtmhpcebiamkciaaGreat
open Go.S Go.ChangeShapes Go.WideShapes Go.ChangeAt Go.RowKit Go.J
theorem zZ(os:Os)(started:os.Started)(H:Type)(enc:TypeId×Value→H):
  ReturnsInHanded {} Tryz.checked os 7 .any (Rows.collectorPlaysSpec.pre6 enc Tryz.prog Tryz.f7 Rows.collectorPlaysRow.domain false) (Rows.collectorPlaysSpec.post enc Tryz.prog Tryz.f7 false true false false):=by
 refine returnsInHanded_of_change (C:=Tryz.checked) Tryz.own started (by kernel_rfl) Tryz.func7
  (ChangeSpec.witness6 (enc:=enc) (C:=Tryz.checked) false ⟨#[],#[.slice none 0 0,.slice none 0 0],[]⟩ 8 (by kernel_rfl) (by kernel_rfl) (by kernel_rfl) (by kernel_rfl)) ?_
 intro W base args ds gs before adU hW amo _;have FO:∀(j:Nat) t v,Tryz.f7.params[j]?=some t→args[j]?=some v→Value.okWide Tryz.prog W .any base t v:=adU;have hW':=hW;obtain⟨p,q,tQ,hV,rfl,hfz,qW⟩:=hW;have hA:DataW.TrodAll enc Tryz.prog W 0 (fun _=>true) true Tryz.f7.params.toList args.toList ds p:=tQ;rw[Tryz.params7]at hA FO;obtain⟨v0,v1,d0,d1,p0,p1,rfl,rfl,rfl,h0,h1⟩:=trodAll_two hA;obtain⟨rfl,rfl⟩:=trodVars_none hV;obtain⟨l,hL⟩:=Sx fu Tryz.underlying22 [0,0,0,0,1,0,0,0,0,0,1,0,0,0,0,0,1,0,0] (by kernel_rfl) (by kernel_rfl) rfl Xm (FO 0 22 v0 rfl rfl) h0;obtain⟨sv,SL,f1,hS,hO⟩:=Jo (show Tr _ _ _ _ (Value.cells v1).toList from by obtain⟨n,h⟩:=h1;exact⟨n,_,h⟩);obtain⟨a1,l1,c1,rfl⟩:=okWide_slice Tryz.underlying67 (FO 1 67 v1 rfl rfl);obtain rfl:=(List.cons.inj f1).1;refine (Dr (((MM (.of hL) (.of hS) (fun x hx=>.of (hO x hx))).hc).mono (fun v H' ⟨⟨_,hv,_⟩,hc⟩=>⟨hv,hc⟩))).mono fun e W' ⟨he,hb⟩=>?_
 subst he;exact⟨_,rfl,Nf (tb:=4) Tryz.laidOut (by kernel_rfl) rfl (by kernel_rfl) Tryz.underlying4 hb hW' rfl⟩
theorem cplays_holds:Rows.CollectorPlaysSaid:=
 OpenClaim.holds_of_wide 7 Tryz.f7 rfl rfl rfl rfl rfl rfl rfl ⟨rfl,rfl,rfl,rfl,rfl⟩ rfl rfl rfl rfl rfl (by kernel_rfl) Tryz.func7 (by kernel_rfl)
  (dY (by kernel_rfl)) (by unfold Func.isWrapper;first|(rw[if_pos (by decide +kernel)];kernel_rfl)|(rw[if_neg (by decide +kernel)];exact⟨rfl,rfl⟩))
  (fun os started H enc _=>zZ os started H enc)
end Go.Proofs.YtmhpcebiamkciaaGreat
