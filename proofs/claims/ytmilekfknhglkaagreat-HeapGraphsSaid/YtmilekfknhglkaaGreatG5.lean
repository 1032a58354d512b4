/-
  Heaps of the reference: slots, references, Alive, Drop. Each law says its conditions.
-/
import Derived.Test.YtmilekfknhglkaaGreatG4
import Derived.Test.YtmilekfknhglkaaGreatG3
import Derived.Test.YtmilekfknhglkaaGreatG2
import Derived.Test.YtmilekfknhglkaaGreatRows
section
set_option linter.unusedSimpArgs false
set_option linter.unusedVariables false
set_option maxRecDepth 100000
set_option maxHeartbeats 2000000
namespace Go.Proofs.YtmilekfknhglkaaGreat
open Go.Hp Go.J Go.S
open Go.Mem (Ty KTy blk elemAt pre suf blk_pre blk_suf aget aset strK aggDesc)
open Go.Mem (adel apos aget_aset aget_adel)
section
variable{Z:Zone}{F:List Asr}{H:Heap}{b:Nat}{st:Hst}{L:List Rx}{id:Int}{o o':Hob}{i tp:Nat}{uv rv:Sv}
theorem usr_8(h8:o.kind=8):usr o=o.vals:=if_pos h8
theorem usr_n(h8:o.kind≠8):usr o=[]:=if_neg h8
theorem rfs_n(h8:o.kind≠8):rfs o=o.vals:=if_neg h8
theorem rfs_8(h8:o.kind=8):rfs o=[]:=if_pos h8
theorem ru_out(hy:L[i]?=some ⟨some o,tp,uv,rv⟩)(h8:o.kind=8)(h:Holds Z (rallP L::F) H):Holds Z (own VlT uv.v o.vals::own VlT rv.v (rfs o)::rtO tp o::rallP (L.eraseIdx i)::F) H:=by
 have:=rall_out hy h;rwa [usr_8 h8]at this
theorem ru_in(hy:L[i]?=some ⟨some o,tp,uv,rv⟩)(h8:o.kind=8){l:List Vl}(h:Holds Z (own VlT uv.v l::own VlT rv.v (rfs o)::rtO tp o::rallP (L.eraseIdx i)::F) H):Holds Z (rallP (L.set i ⟨some { o with vals:=l },tp,uv,rv⟩)::F) H:=by
 refine rall_in (o':={ o with vals:=l }) (uv':=uv) (rv':=rv) hy ?_;rw[usr_8 (o:={ o with vals:=l }) h8,rfs_8 (o:={ o with vals:=l }) h8];rw[rfs_8 h8]at h;exact h
theorem rr_set(hy:L[i]?=some ⟨some o,tp,uv,rv⟩)(h8:o.kind≠8){rv':Sv}{l:List Vl}(h:Holds Z (rallP L::own VlT rv'.v l::F) H):Holds Z (rallP (L.set i ⟨some { o with vals:=l },tp,uv,rv'⟩)::own VlT rv.v (rfs o)::F) H:=by
 refine rall_in (o':={ o with vals:=l }) (uv':=uv) (rv':=rv') hy ?_;rw[usr_n (o:={ o with vals:=l }) h8,rfs_n (o:={ o with vals:=l }) h8];have h1:=rall_out hy h;rw[usr_n h8]at h1;exact h1.re [0,3,1,1,0] []
theorem rall_drop{x:Rx}(hy:L[i]?=some x){uv' rv':Sv}(h:Holds Z (rallP L::F) H):Holds Z (rallP (L.set i ⟨none,tp,uv',rv'⟩)::F) H:=by
 have h1:Holds Z (star ((L.eraseIdx i).map roP)::F) H:=(h.star_get hy).re [1] [1];have h2:Holds Z (roP ⟨none,tp,uv',rv'⟩::star ((L.eraseIdx i).map roP)::F) H:=Holds.star_in (L:=[]) h1;have hi:=(List.getElem?_eq_some_iff.1 hy).1;unfold rallP;rw[List.map_set];rw[←erase_map,←del_eq]at h2;have:=Holds.star_push (i:=i) (A:=roP x) (by rw[gt_eq,List.getElem?_map,hy];rfl) h2;rwa [upd_eq]at this
theorem rx_drop{x:Rx}(hL:L.map Rx.o=st.objs)(ho:st.get id=some o)(hx:x.o=none):(L.set (id-1).toNat x).map Rx.o=(hdrop st id).objs:=by
 obtain⟨_,h1,h2,_⟩:=get_mem ho;rcases drop_cases st id with ⟨_,_,hn⟩|⟨_,_,_,e⟩
 .rw [ho]at hn;cases hn
 rw[e,List.map_set,hL,hx];show _=st.objs.set (id.toNat-1) none;rw[show id.toNat-1=(id-1).toNat by omega]
theorem rslot_cases(st:Hst)(v:Vl)(i:Int):hslotE st v i≠0∨∃o,hfind st v=some o∧st.get v.ref=some o∧o.kind=v.kind∧v.kind=8∧1≤i∧i≤16∧hslotE st v i=0:=by
 by_cases h:hslotE st v i=0
 .refine .inr ?_;have h0:=h;unfold hslotE at h;cases hf:hfind st v with
  | none=>rw[hf]at h;cases h
  | some o=>
   rw[hf]at h;obtain⟨h1,h2⟩:=hfind_some hf;by_cases h8:o.kind=8
   .by_cases h6:1≤i∧i≤16
    .exact ⟨o,rfl,h1,h2,by omega,h6.1,h6.2,h0⟩
    exfalso;simp[h8]at h;omega
   exfalso;simp[h8]at h
 exact .inl h
theorem rslotE_type{st:Hst}{v:Vl}{i:Int}(h:hfind st v=none∨v.kind≠8):hslotE st v i=8:=by
 unfold hslotE;cases hf:hfind st v with
 | none=>rfl
 | some o=>
  have hk:=(hfind_some hf).2;rw[hf]at h;simp at h;have h8:o.kind≠8:=by omega
  simp[h8]
theorem rslotE_range{st:Hst}{v:Vl}{o:Hob}{i:Int}(hf:hfind st v=some o)(h8:o.kind=8)(h:¬(1≤i∧i≤16)):hslotE st v i=6:=by
 unfold hslotE;rw[hf];simp[h8];omega
theorem rslotE_ok{st:Hst}{v:Vl}{o:Hob}{i:Int}(hf:hfind st v=some o)(h8:o.kind=8)(h1:1≤i)(h2:i≤16):hslotE st v i=0:=by
 unfold hslotE;rw[hf];simp[h8];omega
theorem risFT_no{st:Hst}{v:Vl}(h5:hfind st v=none∨v.kind≠5)(h7:hfind st v=none∨v.kind≠7):hisFT st v=false:=by
 cases hf:hfind st v with
 | none=>exact isFT_none hf
 | some o=>
  have hk:=(hfind_some hf).2;rw[hf]at h5 h7;simp at h5 h7;rw[isFT_some hf];simp;omega
end
theorem rhslot_s{Z:Zone}{F:List Asr}{b:Nat}{st:Hst}(hl:st.objs.length≤1000000)(hw:HW st)(v:Vl)(x:Int):SF Tryz.prog 53 #[.pointer (some ⟨b,0,none⟩),v.v,iw x] Z (rhA b st::F) fun r Bs=>r=pairV (hslotV st v x) (hslotE st v x)∧Bs=rhA b st::F:=by
 refine sf_enter Tryz.func53 37 [(0,pB b 0),(1,.agg (vc v)),(2,iw x)] (fun w0=>?_);refine k_fact (fun H h=>rh_inv (h.re [0] [])) (fun hi0=>?_);refine k_sr<|s_box (vc v) (fun g1=>?_)
 refine s_alloc (.agg zc) zc (fun g2=>?_);refine sP (iw 0)<|s_nt<|k_seq<|k_sr<|sP (pB b 0)<|sP (.bool false)<|s_nt<|k_false<|k_st<|k_seq<|k_sr<|sP (pB b 0)<|sL (t_loadA 1 (vc v))<|s_call [2] (ris_s (st:=st) om v 8) ?_
 rintro u3 _ ⟨e4,rfl⟩;rcases is_cases st v 8 with ⟨hb5,hn6⟩|⟨o7,hb8,hf9,ho10,hk11,hv12⟩
 .rw [hb5]at e4;subst e4;refine sP (.bool true)<|s_nt<|k_true<|k_sr<|sL (t_kern (.agg zc))<|s_store 1 zc ?_
  refine sP (iw 8)<|s_nt<|k_ret<|xs_ret ?_
  have he:=rslotE_type (i:=x) hn6;refine xs_fin [.agg zc,iw 8] (rhA b st::F) (SI.agg 6 32 1 (SI.tmp 7 SI.nil)) (rr [0] [1,1]) ⟨?_,?_⟩
  .rw [slot_err (by rw[he];decide),he];rfl
  rfl
 rw[hb8]at e4;subst e4;have hgm13:=get_mem ho10;refine sP (.bool false)<|s_nt<|k_false<|k_st<|k_seq<|k_cut (ι:=Unit) (fun _=>True) (fun _=>[(0,pB b 0),(2,iw x),(4,pB g1 0),(6,pB g2 0),(21,.bool ((decide (x<1))||(decide ((16:Int)<x))))]) (fun _=>rhA b st::blkA g2 zc 32::blkA g1 (vc v) 32::F) ?_ (fun _ _=>?_)
 .refine k_reg<|sP (iw x)<|sL t_cmp<|sP (.bool (decide (x<1)))<|s_fork 18 (decide (x<1)) (fun c14=>?_) (fun c14=>?_)
  .have p15:=dY c14;refine sK<|sK<|sP (.bool true)<|s_nil ?_
   exact xs_cut () trivial (sub_of rfl (rQ (rQ (rQ (rQ ⟨⟨rfl,show Value.bool true=Value.bool ((decide (x<1))||(decide ((16:Int)<x))) by first|(simp only[c14,bls];done)|simp[c14]⟩,trivial⟩))))) (rr [0,0,0] [])
  have p16:=dF c14;refine sP (iw x)<|sL t_cmp<|sP (.bool (decide ((16:Int)<x)))<|s_nil ?_
  exact xs_cut () trivial (sub_of rfl (rQ (rQ (rQ (rQ ⟨⟨rfl,show Value.bool (decide ((16:Int)<x))=Value.bool ((decide (x<1))||(decide ((16:Int)<x))) by first|(simp only[c14,bls];done)|simp[c14]⟩,trivial⟩))))) (rr [0,0,0] [])
 refine k_cond ((decide (x<1))||(decide ((16:Int)<x))) (fun c17=>?_) (fun c17=>?_)
 .have p18:=c17;simp only[Bool.and_eq_true,Bool.or_eq_true,Bool.and_eq_false_iff,Bool.or_eq_false_iff,Bool.not_eq_true',Bool.not_eq_false',decide_eq_true_eq,decide_eq_false_iff_not]at p18;refine k_sr<|sL (t_kern (.agg zc))<|s_store 1 zc ?_
  refine sP (iw 6)<|s_nt<|k_ret<|xs_ret ?_
  have he:=rslotE_range (i:=x) hf9 (hk11.trans hv12) (by grind);refine xs_fin [.agg zc,iw 6] (rhA b st::F) (SI.agg 6 32 1 (SI.tmp 7 SI.nil)) (rr [0] [1,1]) ⟨?_,?_⟩
  .rw [slot_err (by rw[he];decide),he];rfl
  rfl
 obtain⟨c19,c20⟩:=or_f c17;have p21:=dF c19;have p22:=dF c20;refine k_st<|k_seq<|k_draw<|sP3 (pB b 0)<|s_mem3 (fun H h=>rh_open (h.re [0] [])) (fun v23 tv24 L25 hw=>?_)
 obtain⟨hi26,hL27⟩:=hw;have hln28:=rx_len hL27;have htl29:=hi26.tch;refine sL (t_load 0 v23)<|sP (pB g1 4)<|sL (t_load 5 (iw v.ref))<|sL (t_sub v.ref 1 ol)<|sL (t_index RxT_ok Tryz.underlying65 (.own 1) (v.ref-1) (((v.ref-1)).toNat) om ol om)<|sP (.pointer (some ((elemAt RxT.size v23 (((v.ref-1)).toNat)).add 9))) ?_
 obtain⟨tp30,uv31,rv32,hy33⟩:=rx_get hL27 ho10;refine sL (t_loadF 9 RxT_ok (.own 1) hy33)<|sP (iw x)<|sL (t_sub x 1 ol)<|s_mem (fun _ h=>ru_out hy33 (hk11.trans hv12) (h.re [3] [])) ?_
 have hvl:=(hw.of ho10).data (hk11.trans hv12);refine sL (t_index VlT_ok Tryz.underlying37 (.own 0) (x-1) (((x-1)).toNat) om ol om) ?_;obtain⟨y34,hy35⟩:∃y,o7.vals[((x-1)).toNat]?=some y:=⟨_,List.getElem?_eq_getElem ol⟩;refine sL (t_loadE VlT_ok (.own 0) hy35)<|s_store 7 (vc y34) ?_
 refine sP (iw 0)<|s_nil<|x_dynS (fun _ h=>by kernel_rfl) ?_
 refine xs_then<|k_ret<|xs_mem (fun _ h=>ru_in hy33 (hk11.trans hv12) (h.re [0,0,0,0] [])) ?_
 refine xs_mem (fun _ h=>rall_same hy33 h) ?_;refine xs_mem (fun _ h=>rh_shut (st:=st) (n:=(st.count:Int)) (T:=st.tch) ⟨⟨⟨hi26,hL27⟩,rfl⟩,rfl⟩ (h.re [1,1,1,0] [])) ?_;have he:=rslotE_ok (i:=x) hf9 (hk11.trans hv12) (by grind) (by grind);refine xs_fin [.agg (vc y34),iw 0] (rhA b st::F) (SI.agg 6 32 1 (SI.tmp 7 SI.nil)) (rr [0] [1,1]) ⟨?_,?_⟩
 .rw [slot_val hf9 he hy35,he];rfl
 rfl
theorem rhsetslot_s{Z:Zone}{F:List Asr}{b:Nat}{st:Hst}(hl:st.objs.length≤1000000)(hw:HW st)(v:Vl)(x:Int)(y:Vl):SF Tryz.prog 54 #[.pointer (some ⟨b,0,none⟩),v.v,iw x,y.v] Z (rhA b st::F) fun r Bs=>r=iw (hsetSlotE st v x y)∧Bs=rhA b (hsetSlot st v x y)::F:=by
 refine sf_enter Tryz.func54 43 [(0,pB b 0),(1,.agg (vc v)),(2,iw x),(3,.agg (vc y))] (fun w0=>?_);refine k_fact (fun H h=>rh_inv (h.re [0] [])) (fun hi0=>?_);refine k_sr<|s_box (vc v) (fun g1=>?_)
 refine s_box (vc y) (fun g2=>?_);refine sP (iw 0)<|s_nr<|sP (pB b 0)<|sL (t_loadA 1 (vc v))<|sP (iw x)<|sC [2] (rhslot_s (st:=st) hl hw v x) ?_
 refine sP (.tuple #[.agg (vc (hslotV st v x)),iw (hslotE st v x)])<|sP (.agg (vc (hslotV st v x)))<|sP (iw (hslotE st v x))<|s_alloc (.agg zc) zc (fun g3=>?_)
 refine s_store 0 (vc (hslotV st v x)) ?_;refine sP (iw (hslotE st v x))<|s_nt<|k_seq<|k_sr<|sP (iw (hslotE st v x))<|sL t_cmp<|s_nt<|k_cond (decide ((hslotE st v x)≠0)) (fun c4=>?_) (fun c4=>?_)
 .have p5:=dY c4;refine k_sr<|sP2 (iw (hslotE st v x))<|s_nt<|k_ret<|xs_ret ?_
  have hp:=setSlot_err (x:=y) (dY c4);refine xs_fin [iw (hslotE st v x)] (rhA b st::F) (SI.tmp 8 SI.nil) (rr [1] [1,1,1]) ⟨?_,?_⟩
  .rw [hp.2];try rfl
  rw[hp.1];try rfl
 have p6:=Decidable.not_not.1 (dF c4);obtain⟨o14,hf7,ho8,hk9,hv10,hx11,hx12,he13⟩:=(rslot_cases st v x).resolve_left (dF c4);have hgm15:=get_mem ho8;refine k_st<|k_sr<|sL (t_loadA 2 (vc y))<|sV (fun _ h=>relem_s y)<|sP (iw (elemE y))<|s_nt<|k_seq<|k_sr<|sP (iw (elemE y))<|sL t_cmp<|s_nt<|k_cond (decide ((elemE y)≠0)) (fun c16=>?_) (fun c16=>?_)
 .have p17:=dY c16;refine k_sr<|sP2 (iw (elemE y))<|s_nt<|k_ret<|xs_ret ?_
  have hp:=setSlot_elem he13 (dY c16);refine xs_fin [iw (elemE y)] (rhA b st::F) (SI.tmp 8 SI.nil) (rr [1] [1,1,1]) ⟨?_,?_⟩
  .rw [hp.2];try rfl
  rw[hp.1];try rfl
 have p18:=Decidable.not_not.1 (dF c16);refine k_st<|k_seq<|k_draw<|sP3 (pB b 0)<|s_mem3 (fun H h=>rh_open (h.re [1] [])) (fun v19 tv20 L21 hw=>?_)
 obtain⟨hi22,hL23⟩:=hw;have hln24:=rx_len hL23;have htl25:=hi22.tch;refine sL (t_load 0 v19)<|sP (pB g1 4)<|sL (t_load 6 (iw v.ref))<|sL (t_sub v.ref 1 ol)<|sL (t_index RxT_ok Tryz.underlying65 (.own 1) (v.ref-1) (((v.ref-1)).toNat) om ol om)<|sP (.pointer (some ((elemAt RxT.size v19 (((v.ref-1)).toNat)).add 9))) ?_
 obtain⟨tp26,uv27,rv28,hy29⟩:=rx_get hL23 ho8;refine sL (t_loadF 9 RxT_ok (.own 1) hy29)<|sP (iw x)<|sL (t_sub x 1 ol)<|sL (t_loadA 5 (vc y))<|s_mem (fun _ h=>ru_out hy29 (hk9.trans hv10) (h.re [3] [])) ?_
 have hvl:=(hw.of ho8).data (hk9.trans hv10);refine sL (t_index VlT_ok Tryz.underlying37 (.own 0) (x-1) (((x-1)).toNat) om ol om) ?_;obtain⟨y30,hy31⟩:∃y,o14.vals[((x-1)).toNat]?=some y:=⟨_,List.getElem?_eq_getElem ol⟩;refine s_storeE 0 0 y VlT_ok hy31 ?_;refine s_nil<|x_dynS (fun _ h=>by kernel_rfl) ?_
 refine xs_then<|k_sr<|sP (pB b 0)<|sL (t_loadA 9 (vc v))<|s_call [4,5] (rtouch_s (vv:=v19) (m:=(st.count:Int)) (T:=st.tch) v om om om 0) ?_
 rw[if_pos (rfl)];rintro _ _ ⟨rfl,rfl⟩;refine sP (iw 0)<|s_nt<|k_ret<|xs_mem (fun _ h=>ru_in hy29 (hk9.trans hv10) (h.re [2,2,2,2] [])) ?_
 refine xs_mem (fun _ h=>own_set (y:=⟨some { o14 with vals:=(o14.vals.set (((x-1)).toNat) y) },tp26,uv27,rv28⟩) hy29 rfl (h.re [3] [])) ?_;have hob32:=hi22.obs o14 (get_mem ho8).1;refine xs_mem (fun _ h=>rh_shut (st:=((st.put v.ref { o14 with vals:=(o14.vals.set (((x-1)).toNat) y) }).touch v.ref)) (n:=(st.count:Int)) (T:=(st.tch.set ((v.ref-1)).toNat true)) ⟨⟨⟨touch_inv (put_inv (o:={ o14 with vals:=(o14.vals.set (((x-1)).toNat) y) }) hi22 ⟨hob32.kind,hob32.tab,hob32.mt⟩) v.ref,rx_set hL23 ho8 rfl⟩,(show (st.count:Int)=((Hst.count (st.put v.ref { o14 with vals:=(o14.vals.set (((x-1)).toNat) y) }):Nat):Int) by rw[count_put ho8])⟩,by show _=List.set _ _ _;congr 1;omega⟩ (h.re [2,0,1,0] [])) ?_;have hp:=setSlot_ok ho8 he13 (Decidable.not_not.1 (dF c16));refine xs_fin [iw 0] (rhA b ((st.put v.ref { o14 with vals:=(o14.vals.set (((x-1)).toNat) y) }).touch v.ref)::F) (SI.tmp 8 SI.nil) (rr [0] [1,1,1]) ⟨?_,?_⟩
 .rw [hp.2];try rfl
 rw[hp.1];try rfl
theorem ral_no{st:Hst}{id:Int}(h:st.get id=none):halive st id=false:=by unfold halive;rw[h];rfl
theorem ral_yes{st:Hst}{id:Int}{o:Hob}(h:st.get id=some o):halive st id=true:=by unfold halive;rw[h];rfl
theorem ob_nz{st:Hst}(hi:HInv st){id:Int}{o:Hob}(h:st.get id=some o):o.kind≠0:=fun e=>by
 have:=(hi.obs o (get_mem h).1).kind;rw[e]at this;cases this
theorem rhalive_s{Z:Zone}{F:List Asr}{b:Nat}{st:Hst}(hl:st.objs.length≤1000000)(id:Int):SF Tryz.prog 60 #[.pointer (some ⟨b,0,none⟩),iw id] Z (rhA b st::F) fun r Bs=>r=.bool (halive st id)∧Bs=rhA b st::F:=by
 refine sf_enter Tryz.func60 32 [(0,pB b 0),(1,iw id)] (fun w0=>?_);refine k_fact (fun H h=>rh_inv (h.re [0] [])) (fun hi0=>?_);refine k_sr<|sP (.bool false)<|s_nr<|sP (pB b 0)<|sP2 (.bool true)<|sP (iw id)<|sL t_cmp<|sP2 (.bool (decide ((1:Int)≤id)))<|s_fork 11 (decide ((1:Int)≤id)) (fun c1=>?_) (fun c1=>?_)
 .have p2:=dY c1;refine sP (iw id)<|sP3 (pB b 0)<|s_mem3 (fun H h=>rh_open (h.re [0] [])) (fun v3 tv4 L5 hw=>?_)
  obtain⟨hi6,hL7⟩:=hw;have hln8:=rx_len hL7;have htl9:=hi6.tch;refine sL (t_load 0 v3)<|sL (t_len RxT_ok Tryz.underlying65 (.own 1))<|sL t_cmp<|sP2 (.bool (decide (id≤(L5.length:Int))))<|s_fork 20 (decide (id≤(L5.length:Int))) (fun c10=>?_) (fun c10=>?_)
  .have p11:=dY c10;refine sP3 (pB b 0)<|sL (t_load 0 v3)<|sP (iw id)<|sL (t_sub id 1 ol)<|sL (t_index RxT_ok Tryz.underlying65 (.own 1) (id-1) (((id-1)).toNat) om ol om)<|sP (.pointer (some (elemAt RxT.size v3 (((id-1)).toNat)))) ?_
   rcases rx_cases hL7 (by omega:1≤id) om with ⟨tp12,uv13,rv14,hy15,hg16⟩|⟨o17,tp18,uv19,rv20,hy21,hg22⟩
   .refine sL (t_loadF 0 RxT_ok (.own 1) hy15)<|sL (t_cmp (c:=false))<|sP2 (.bool false)<|s_nt<|k_ret<|xs_mem (fun _ h=>rh_shut (st:=st) (n:=(st.count:Int)) (T:=st.tch) ⟨⟨⟨hi6,hL7⟩,rfl⟩,rfl⟩ (h.re [0,0,0,0] [])) ?_
    refine xs_fin [.bool false] (rhA b st::F) (SI.tmp 4 SI.nil) (rr [0] []) ⟨?_,?_⟩
    .rw [ral_no hg16];first|rfl|(exfalso;simp_all;done)|(exfalso;omega)
    rfl
   refine sL (t_loadF 0 RxT_ok (.own 1) hy21)<|sL t_cmp<|sP2 (.bool (decide (o17.kind≠0)))<|s_nt<|k_ret<|xs_mem (fun _ h=>rh_shut (st:=st) (n:=(st.count:Int)) (T:=st.tch) ⟨⟨⟨hi6,hL7⟩,rfl⟩,rfl⟩ (h.re [0,0,0,0] [])) ?_
   refine xs_fin [.bool (decide (o17.kind≠0))] (rhA b st::F) (SI.tmp 4 SI.nil) (rr [0] []) ⟨?_,?_⟩
   .exact cB (by simp[ral_yes hg22,ob_nz hi0 hg22])
   rfl
  have p23:=dF c10;refine sK<|sK<|sK<|sK<|sK<|sK<|sK<|sK<|sK<|sK<|sP2 (.bool false)<|s_nt<|k_ret<|xs_mem (fun _ h=>rh_shut (st:=st) (n:=(st.count:Int)) (T:=st.tch) ⟨⟨⟨hi6,hL7⟩,rfl⟩,rfl⟩ (h.re [0,0,0,0] [])) ?_
  refine xs_fin [.bool false] (rhA b st::F) (SI.tmp 4 SI.nil) (rr [0] []) ⟨?_,?_⟩
  .first|(rw[ral_no (get_low om)];rfl)|(rw[ral_no (get_high om)];rfl)
  rfl
 have p24:=dF c1;refine sK<|sK<|sK<|sK<|sK<|sK<|sK<|sP2 (.bool false)<|sK<|sK<|sK<|sK<|sK<|sK<|sK<|sK<|sK<|sK<|sP2 (.bool false)<|s_nt<|k_ret<|xs_fin [.bool false] (rhA b st::F) (SI.tmp 4 SI.nil) (rr [0] []) ⟨?_,?_⟩
 .first|(rw[ral_no (get_low om)];rfl)|(rw[ral_no (get_high om)];rfl)
 rfl
theorem rhdrop_s{Z:Zone}{F:List Asr}{b:Nat}{st:Hst}(hl:st.objs.length≤1000000)(id:Int):SF Tryz.prog 56 #[.pointer (some ⟨b,0,none⟩),iw id] Z (rhA b st::F) fun r Bs=>r=iw (hdropE st id)∧Bs=rhA b (hdrop st id)::F:=by
 refine sf_enter Tryz.func56 27 [(0,pB b 0),(1,iw id)] (fun w0=>?_);have hcl:st.count≤st.objs.length:=List.countP_le_length;refine k_sr<|sP (iw 0)<|s_nt<|k_seq<|k_sr<|sP (pB b 0)<|sP (.bool false)<|s_nt<|k_false<|k_st<|k_seq<|k_sr<|sP (pB b 0)<|sP (iw id)<|sC [0] (rhalive_s (st:=st) hl id) ?_
 refine sP (.bool (!(halive st id)))<|s_nt<|k_cond (!(halive st id)) (fun c1=>?_) (fun c1=>?_)
 .have c2:=not_t c1;have hal:halive st id=false:=by simpa using c2
  have hal:halive st id=false:=by simpa using c1
  refine k_sr<|sP (iw 19)<|s_nt<|k_ret<|xs_ret<|xs_fin [iw 19] (rhA b st::F) (SI.tmp 4 SI.nil) (rr [0] []) ⟨?_,?_⟩
  .unfold hdropE;rw[hal];rfl
  unfold hdrop;rw[hal];rfl
 have c3:=not_f c1;have hal:halive st id=true:=by simpa using c3
 obtain⟨o4,ho5⟩:=Option.isSome_iff_exists.1 hal;have hgm6:=get_mem ho5;have hal:halive st id=true:=by simpa using c1
 obtain⟨o7,ho8⟩:=Option.isSome_iff_exists.1 hal;have hgm9:=get_mem ho8;refine k_st<|k_sr<|sP3 (pB b 0)<|s_mem3 (fun H h=>rh_open (h.re [0] [])) (fun v10 tv11 L12 hw=>?_)
 obtain⟨hi13,hL14⟩:=hw;have hln15:=rx_len hL14;have htl16:=hi13.tch;refine sL (t_load 0 v10)<|sP (iw id)<|sL (t_sub id 1 ol)<|sL (t_kern (.agg #[iw 0,iw 0,sw eb,.pointer none,iw 0,iw 0,iw 0,sw eb,iw 0,(.slice none 0 0),(.slice none 0 0)]))<|sL (t_index RxT_ok Tryz.underlying65 (.own 1) (id-1) (((id-1)).toNat) om ol om) ?_
 obtain⟨tp17,uv18,rv19,hy20⟩:=rx_get hL14 ho8;refine s_storeE 1 0 (⟨none,0,⟨none,0,0⟩,⟨none,0,0⟩⟩:Rx) RxT_ok hy20 ?_;refine s_mem (fun _ h=>rall_drop (tp:=0) (uv':=⟨none,0,0⟩) (rv':=⟨none,0,0⟩) hy20 (h.re [3] [])) ?_;refine s_nr<|sP3 (pB b 0)<|sP (pB b 1)<|sL (t_load 1 (iw (st.count:Int)))<|sL (t_sub (st.count:Int) 1 ol)<|sP (pB b 0)<|sP (pB b 1)<|s_store 1 #[v10,iw ((st.count:Int)-1),tv11] ?_
 refine s_nr<|sP (iw 0)<|s_nt<|k_ret<|xs_mem (fun _ h=>rh_shut (st:=(hdrop st id)) (n:=((st.count:Int)-1)) (T:=st.tch) ⟨⟨⟨drop_inv hi13 id,rx_drop hL14 ho8 rfl⟩,(by have:=count_drop ho8;omega)⟩,drop_len.2.symm⟩ (h.re [1,1,1,0] [])) ?_
 refine xs_fin [iw 0] (rhA b (hdrop st id)::F) (SI.tmp 4 SI.nil) (rr [0] []) ⟨?_,?_⟩
 .unfold hdropE;rw[hal];rfl
 rfl
theorem rhsetrefs_s{Z:Zone}{F:List Asr}{b:Nat}{st:Hst}{rv:Value}{l:List Vl}(hk0:Kn Z VlT rv l)(hl0:l.length≤1000)(hl:st.objs.length≤1000000)(v:Vl):SF Tryz.prog 55 #[.pointer (some ⟨b,0,none⟩),v.v,rv] Z (rhA b st::F) fun r Bs=>r=iw (hsetRefsE st v l)∧Bs=rhA b (hsetRefs st v l)::F:=by
 refine sf_enter Tryz.func55 50 [(0,pB b 0),(1,.agg (vc v)),(2,rv)] (fun w0=>?_);refine k_fact (fun H h=>(hk0.get h).len_le) (fun lA=>?_);refine k_sr<|s_box (vc v) (fun g1=>?_)
 refine sP (iw 0)<|s_nt<|k_seq<|k_sr<|sP (pB b 0)<|sP (.bool false)<|s_nt<|k_false<|k_st<|k_seq<|k_sr<|sP (pB b 0)<|sL (t_loadA 0 (vc v))<|s_call [1] (ris_s (st:=st) om v 5) ?_
 rintro u2 _ ⟨e3,rfl⟩;rcases is_cases st v 5 with ⟨hb4,hn5⟩|⟨o6,hb7,hf8,ho9,hk10,hv11⟩
 .rw [hb4]at e3;subst e3;refine sP2 (.bool true)<|sP (pB b 0)<|sL (t_loadA 1 (vc v))<|s_call [0] (ris_s (st:=st) om v 7) ?_
  rintro u12 _ ⟨e13,rfl⟩;rcases is_cases st v 7 with ⟨hb14,hn15⟩|⟨o16,hb17,hf18,ho19,hk20,hv21⟩
  .rw [hb14]at e13;subst e13;refine sP2 (.bool true)<|s_nt<|k_true<|k_sr<|sP (iw 8)<|s_nt<|k_ret<|xs_ret ?_
   have hp:=setRefs_type (l:=l) (risFT_no hn5 hn15);refine xs_fin [iw 8] (rhA b st::F) (SI.tmp 6 SI.nil) (rr [0] [1]) ⟨?_,?_⟩
   .rw [hp.2];try rfl
   rw[hp.1];try rfl
  rw[hb17]at e13;subst e13;have hgm22:=get_mem ho19;refine sP2 (.bool false)<|s_nt<|k_false<|k_st<|k_seq<|k_sr<|sP (iw 0)<|s_nt<|k_block<|k_loop (ι:=Nat) (fun i=>i≤l.length∧refsE l=refsE (l.drop i)) (fun i=>[(0,pB b 0),(2,rv),(4,pB g1 0),(7,iw (i:Int))]) (fun i=>rhA b st::blkA g1 (vc v) 32::F) (fun i=>l.length-i) 0 ⟨Nat.zero_le _,rfl⟩ sA (rr [0,0] []) ?_
  rintro i hi23;show SK _ _ _ _ _ [(0,.pointer (some ⟨b,0,none⟩)),(2,rv),(4,.pointer (some ⟨g1,0,none⟩)),(7,iw (i:Int))] _ (rhA b st::blkA g1 (vc v) 32::F);refine k_seq<|k_sr<|sP (iw (i:Int))<|sP rv<|sL (t_len VlT_ok Tryz.underlying37 (.zn hk0))<|sL t_cmp<|s_nt<|k_cond (decide ((i:Int)<(l.length:Int))) (fun c24=>?_) (fun c24=>?_)
  .have p25:=dY c24;refine k_st<|k_seq<|k_block<|k_sr<|sP rv<|sP (iw (i:Int))<|sL (t_index VlT_ok Tryz.underlying37 (.zn hk0) (i:Int) i om ol om) ?_
   obtain⟨y26,hy27⟩:∃y,l[i]?=some y:=⟨_,List.getElem?_eq_getElem ol⟩;refine sL (t_loadE VlT_ok (.zn hk0) hy27)<|sV (fun _ h=>relem_s y26)<|sP (iw (elemE y26))<|s_nr<|sP (iw (elemE y26))<|sL t_cmp<|s_nt<|k_cond (decide ((elemE y26)≠0)) (fun c28=>?_) (fun c28=>?_)
   .have p29:=dY c28;refine k_sr<|sP2 (iw (elemE y26))<|s_nt<|k_ret<|xs_retBlock<|xs_ret<|xs_ret<|xs_retBlock<|xs_ret ?_
    have hft:hisFT st v=true:=by rw[isFT_some hf18];simp;omega
    have hne:=dY c28;have hre:=(refs_step hi23.2 hy27).1 hne;have hp:=setRefs_elem hft (by rw[hre];exact hne);refine xs_fin [iw (elemE y26)] (rhA b st::F) (SI.tmp 6 SI.nil) (rr [0] [1]) ⟨?_,?_⟩
    .rw [hp.2,hre];try rfl
    rw[hp.1];try rfl
   have p30:=Decidable.not_not.1 (dF c28);refine k_skip<|xs_block<|xs_then<|k_reg<|sP (iw (i:Int))<|sL (t_add (i:Int) 1 ol)<|sP (iw ((i:Int)+1))<|s_nil ?_
   exact xs_round (i+1) om ⟨by omega,(refs_step hi23.2 hy27).2 (Decidable.not_not.1 (dF c28))⟩ sA (rr [0,0] [])
  have p31:=dF c24;refine k_exit<|xs_exit<|xs_exit<|xs_here<|xs_then<|k_seq<|k_mem3 (fun H h=>rh_open (h.re [0] [])) (fun v32 tv33 L34 hw=>?_)
  obtain⟨hi35,hL36⟩:=hw;have hln37:=rx_len hL36;have htl38:=hi35.tch;refine k_held [blkA b #[v32,iw (st.count:Int),tv33] 68,blkA g1 (vc v) 32] ?_;refine hp_ 0 [0,3] (pB b 0) ?_;refine hp_ 1 [0,3] (pB b 0) ?_;refine hp_ 2 [0,3] (pB b 0) ?_;refine h_l 3 rfl [0,3] (fun _=>(t_load 0 v32)) ?_;refine hp_ 4 [0,3] (pB g1 4) ?_;refine h_l 5 rfl [0,3] (fun _=>(t_load 1 (iw v.ref))) ?_;refine h_l 6 rfl [0,3] (fun _=>(t_sub v.ref 1 ol)) ?_;refine hp_ 8 [0,3] rv ?_;refine h_stepS 7 ?_;refine s_buildSlice (e:=32) [] #[] (fun g39=>?_) (hb:=by kernel_rfl);refine nH [1,4]<|h_stepS 9 ?_
  refine s_mem (fun _ h=>Holds.slice 0 h VlT_ok []) ?_;refine s_append (L:=[]) 0 VlT_ok Tryz.underlying37 (.zn hk0) (by show _*48≤_;(try simp only[lnm]);omega) ol (fun v40=>?_);rw[List.nil_append];refine nH [1,4]<|h_stepS 10 ?_
  refine sL (t_index RxT_ok Tryz.underlying65 (.own 2) (v.ref-1) (((v.ref-1)).toNat) om ol om)<|nH [1,4]<|hp_ 11 [1,4] (.pointer (some ((elemAt RxT.size v32 (((v.ref-1)).toNat)).add 10))) ?_
  refine h_stepS 12 ?_;refine sF 0 (fun hfm=>?_);obtain⟨p41,cp42,hev⟩:=hfm;subst hev;obtain⟨tp43,uv44,rv45,hy46⟩:=rx_get hL36 ho19;refine s_storeE 2 10 (⟨some { o16 with vals:=l },tp43,uv44,⟨p41,l.length,cp42⟩⟩:Rx) RxT_ok hy46 ?_;refine s_mem (fun _ h=>rr_set (o:=o16) (rv':=⟨p41,l.length,cp42⟩) hy46 om (h.re [4,0] [])) ?_;have hob47:=hi35.obs o16 (get_mem ho19).1;refine nH [2,4]<|h_doneS ?_
  refine xs_then<|k_sr<|sP (pB b 0)<|sL (t_loadA 5 (vc v))<|s_call [2,3] (rtouch_s (vv:=v32) (m:=(st.count:Int)) (T:=st.tch) v om om om 0) ?_
  rw[if_pos (rfl)];rintro _ _ ⟨rfl,rfl⟩;refine sP (iw 0)<|s_nt<|k_ret<|xs_mem (fun _ h=>rh_shut (st:=((st.put v.ref { o16 with vals:=l }).touch v.ref)) (n:=(st.count:Int)) (T:=(st.tch.set ((v.ref-1)).toNat true)) ⟨⟨⟨touch_inv (put_inv (o:={ o16 with vals:=l }) hi35 ⟨hob47.kind,hob47.tab,hob47.mt⟩) v.ref,rx_set hL36 ho19 rfl⟩,(show (st.count:Int)=((Hst.count (st.put v.ref { o16 with vals:=l }):Nat):Int) by rw[count_put ho19])⟩,by show _=List.set _ _ _;congr 1;omega⟩ (h.re [0,3,0,0] [])) ?_
  have hft:hisFT st v=true:=by rw[isFT_some hf18];simp;omega
  have hp:=setRefs_ok ho19 hft (refs_end hi23.2 om);refine xs_fin [iw 0] (rhA b ((st.put v.ref { o16 with vals:=l }).touch v.ref)::F) (SI.tmp 6 SI.nil) (rr [0] [1,1]) ⟨?_,?_⟩
  .rw [hp.2];try rfl
  rw[hp.1];try rfl
 rw[hb7]at e3;subst e3;have hgm48:=get_mem ho9;refine sP2 (.bool false)<|sK<|sK<|sK<|sK<|sP (.bool false)<|s_nt<|k_false<|k_st<|k_seq<|k_sr<|sP (iw 0)<|s_nt<|k_block<|k_loop (ι:=Nat) (fun i=>i≤l.length∧refsE l=refsE (l.drop i)) (fun i=>[(0,pB b 0),(2,rv),(4,pB g1 0),(7,iw (i:Int))]) (fun i=>rhA b st::blkA g1 (vc v) 32::F) (fun i=>l.length-i) 0 ⟨Nat.zero_le _,rfl⟩ sA (rr [0,0] []) ?_
 rintro i hi49;show SK _ _ _ _ _ [(0,.pointer (some ⟨b,0,none⟩)),(2,rv),(4,.pointer (some ⟨g1,0,none⟩)),(7,iw (i:Int))] _ (rhA b st::blkA g1 (vc v) 32::F);refine k_seq<|k_sr<|sP (iw (i:Int))<|sP rv<|sL (t_len VlT_ok Tryz.underlying37 (.zn hk0))<|sL t_cmp<|s_nt<|k_cond (decide ((i:Int)<(l.length:Int))) (fun c50=>?_) (fun c50=>?_)
 .have p51:=dY c50;refine k_st<|k_seq<|k_block<|k_sr<|sP rv<|sP (iw (i:Int))<|sL (t_index VlT_ok Tryz.underlying37 (.zn hk0) (i:Int) i om ol om) ?_
  obtain⟨y52,hy53⟩:∃y,l[i]?=some y:=⟨_,List.getElem?_eq_getElem ol⟩;refine sL (t_loadE VlT_ok (.zn hk0) hy53)<|sV (fun _ h=>relem_s y52)<|sP (iw (elemE y52))<|s_nr<|sP (iw (elemE y52))<|sL t_cmp<|s_nt<|k_cond (decide ((elemE y52)≠0)) (fun c54=>?_) (fun c54=>?_)
  .have p55:=dY c54;refine k_sr<|sP2 (iw (elemE y52))<|s_nt<|k_ret<|xs_retBlock<|xs_ret<|xs_ret<|xs_retBlock<|xs_ret ?_
   have hft:hisFT st v=true:=by rw[isFT_some hf8];simp;omega
   have hne:=dY c54;have hre:=(refs_step hi49.2 hy53).1 hne;have hp:=setRefs_elem hft (by rw[hre];exact hne);refine xs_fin [iw (elemE y52)] (rhA b st::F) (SI.tmp 6 SI.nil) (rr [0] [1]) ⟨?_,?_⟩
   .rw [hp.2,hre];try rfl
   rw[hp.1];try rfl
  have p56:=Decidable.not_not.1 (dF c54);refine k_skip<|xs_block<|xs_then<|k_reg<|sP (iw (i:Int))<|sL (t_add (i:Int) 1 ol)<|sP (iw ((i:Int)+1))<|s_nil ?_
  exact xs_round (i+1) om ⟨by omega,(refs_step hi49.2 hy53).2 (Decidable.not_not.1 (dF c54))⟩ sA (rr [0,0] [])
 have p57:=dF c50;refine k_exit<|xs_exit<|xs_exit<|xs_here<|xs_then<|k_seq<|k_mem3 (fun H h=>rh_open (h.re [0] [])) (fun v58 tv59 L60 hw=>?_)
 obtain⟨hi61,hL62⟩:=hw;have hln63:=rx_len hL62;have htl64:=hi61.tch;refine k_held [blkA b #[v58,iw (st.count:Int),tv59] 68,blkA g1 (vc v) 32] ?_;refine hp_ 0 [0,3] (pB b 0) ?_;refine hp_ 1 [0,3] (pB b 0) ?_;refine hp_ 2 [0,3] (pB b 0) ?_;refine h_l 3 rfl [0,3] (fun _=>(t_load 0 v58)) ?_;refine hp_ 4 [0,3] (pB g1 4) ?_;refine h_l 5 rfl [0,3] (fun _=>(t_load 1 (iw v.ref))) ?_;refine h_l 6 rfl [0,3] (fun _=>(t_sub v.ref 1 ol)) ?_;refine hp_ 8 [0,3] rv ?_;refine h_stepS 7 ?_;refine s_buildSlice (e:=32) [] #[] (fun g65=>?_) (hb:=by kernel_rfl);refine nH [1,4]<|h_stepS 9 ?_
 refine s_mem (fun _ h=>Holds.slice 0 h VlT_ok []) ?_;refine s_append (L:=[]) 0 VlT_ok Tryz.underlying37 (.zn hk0) (by show _*48≤_;(try simp only[lnm]);omega) ol (fun v66=>?_);rw[List.nil_append];refine nH [1,4]<|h_stepS 10 ?_
 refine sL (t_index RxT_ok Tryz.underlying65 (.own 2) (v.ref-1) (((v.ref-1)).toNat) om ol om)<|nH [1,4]<|hp_ 11 [1,4] (.pointer (some ((elemAt RxT.size v58 (((v.ref-1)).toNat)).add 10))) ?_
 refine h_stepS 12 ?_;refine sF 0 (fun hfm=>?_);obtain⟨p67,cp68,hev⟩:=hfm;subst hev;obtain⟨tp69,uv70,rv71,hy72⟩:=rx_get hL62 ho9;refine s_storeE 2 10 (⟨some { o6 with vals:=l },tp69,uv70,⟨p67,l.length,cp68⟩⟩:Rx) RxT_ok hy72 ?_;refine s_mem (fun _ h=>rr_set (o:=o6) (rv':=⟨p67,l.length,cp68⟩) hy72 om (h.re [4,0] [])) ?_;have hob73:=hi61.obs o6 (get_mem ho9).1;refine nH [2,4]<|h_doneS ?_
 refine xs_then<|k_sr<|sP (pB b 0)<|sL (t_loadA 5 (vc v))<|s_call [2,3] (rtouch_s (vv:=v58) (m:=(st.count:Int)) (T:=st.tch) v om om om 0) ?_
 rw[if_pos (rfl)];rintro _ _ ⟨rfl,rfl⟩;refine sP (iw 0)<|s_nt<|k_ret<|xs_mem (fun _ h=>rh_shut (st:=((st.put v.ref { o6 with vals:=l }).touch v.ref)) (n:=(st.count:Int)) (T:=(st.tch.set ((v.ref-1)).toNat true)) ⟨⟨⟨touch_inv (put_inv (o:={ o6 with vals:=l }) hi61 ⟨hob73.kind,hob73.tab,hob73.mt⟩) v.ref,rx_set hL62 ho9 rfl⟩,(show (st.count:Int)=((Hst.count (st.put v.ref { o6 with vals:=l }):Nat):Int) by rw[count_put ho9])⟩,by show _=List.set _ _ _;congr 1;omega⟩ (h.re [0,3,0,0] [])) ?_
 have hft:hisFT st v=true:=by rw[isFT_some hf8];simp;omega
 have hp:=setRefs_ok ho9 hft (refs_end hi49.2 om);refine xs_fin [iw 0] (rhA b ((st.put v.ref { o6 with vals:=l }).touch v.ref)::F) (SI.tmp 6 SI.nil) (rr [0] [1,1]) ⟨?_,?_⟩
 .rw [hp.2];try rfl
 rw[hp.1];try rfl
end Go.Proofs.YtmilekfknhglkaaGreat
end
section
set_option linter.unusedSimpArgs false
set_option linter.unusedVariables false
namespace Go.Proofs.YtmilekfknhglkaaGreat
section
variable{st:Hst}{i:Nat}{o:Hob}{id:Int}
def hidsN(st:Hst)(i:Nat):List Int:=((List.range i).map fun k:Nat=>(k:Int)+1).filter fun id=>halive st id
theorem hidsN_step(st:Hst)(i:Nat):hidsN st (i+1)=if halive st ((i:Int)+1)=true then hidsN st i++[(i:Int)+1] else hidsN st i:=by
 unfold hidsN;rw[List.range_succ,List.map_append,List.filter_append];by_cases h:halive st ((i:Int)+1)=true<;>simp[h]
theorem hidsN_end(h:i=st.objs.length):hidsN st i=hids st:=by subst h;rfl
theorem hidsN_len(st:Hst)(i:Nat):(hidsN st i).length≤i:=by
 unfold hidsN;refine Nat.le_trans (List.length_filter_le _ _) ?_;rw[List.length_map,List.length_range];exact Nat.le_refl _
def tchN(st:Hst)(i:Nat):List Int:=(hidsN st i).filter fun id=>(st.tch[id.toNat-1]?).getD false
theorem tchN_step{x:Bool}(hx:st.tch[i]?=some x):tchN st (i+1)=if (x&&halive st ((i:Int)+1))=true then tchN st i++[(i:Int)+1] else tchN st i:=by
 unfold tchN;rw[hidsN_step];by_cases h:halive st ((i:Int)+1)=true
 .have e:(((i:Int)+1).toNat-1)=i:=by omega
  rw[if_pos h,List.filter_append,List.filter_cons,List.filter_nil,e,hx];cases x<;>simp[h]
 simp[h]
theorem tchN_end(h:i=st.objs.length):tchN st i=htchd st:=by unfold tchN htchd;rw[hidsN_end h]
theorem tchN_len(st:Hst)(i:Nat):(tchN st i).length≤i:=Nat.le_trans (List.length_filter_le _ _) (hidsN_len st i)
def untN(T:List Bool)(i:Nat):List Bool:=List.replicate i false++T.drop i
theorem untN_len{T:List Bool}(h:i≤T.length):(untN T i).length=T.length:=by unfold untN;simp;omega
theorem untN_get{T:List Bool}(h:i<T.length):(untN T i)[i]?=T[i]?:=by unfold untN;rw[List.getElem?_append_right (by simp)];simp
theorem untN_step{T:List Bool}(h:i<T.length):(untN T i).set i false=untN T (i+1):=by
 unfold untN;rw[List.set_append_right _ _ (by simp),List.length_replicate,Nat.sub_self,List.drop_eq_getElem_cons h,List.replicate_succ',List.set_cons_zero,List.append_assoc];rfl
theorem untN_zero(T:List Bool):untN T 0=T:=by unfold untN;simp
theorem untN_end{T:List Bool}(h:i=T.length):untN T i=T.map fun _=>false:=by
 subst h;unfold untN;rw[List.drop_length,List.append_nil];exact List.map_const'.symm
def sizeN(st:Hst)(i:Nat):Int:=((hidsN st i).map fun id=>obSize (st.ob id)).sum
theorem sizeN_yes(h:st.get ((i:Int)+1)=some o):sizeN st (i+1)=sizeN st i+obSize o:=by
 unfold sizeN;rw[hidsN_step,if_pos (by unfold halive;rw[h];rfl),List.map_append,List.sum_append];have:st.ob ((i:Int)+1)=o:=by unfold Hst.ob;rw[h];rfl
 simp[this]
theorem sizeN_no(h:st.get ((i:Int)+1)=none):sizeN st (i+1)=sizeN st i:=by
 unfold sizeN;rw[hidsN_step,if_neg (by unfold halive;rw[h];decide)]
theorem sizeN_end(h:i=st.objs.length):sizeN st i=hsize st:=by unfold sizeN hsize;rw[hidsN_end h]
end
def ridL(l:List Vl):List Int:=(l.filter fun v=>isRef v.kind).map Vl.ref
theorem ridL_step{l:List Vl}{i:Nat}{y:Vl}(h:l[i]?=some y):ridL (l.take (i+1))=if isRef y.kind=true then ridL (l.take i)++[y.ref] else ridL (l.take i):=by
 unfold ridL;rw[List.take_add_one,h];simp only[Option.toList_some,List.filter_append,List.map_append];by_cases hy:isRef y.kind=true<;>simp[hy]
theorem ridL_len(l:List Vl):(ridL l).length≤l.length:=by unfold ridL;rw[List.length_map];exact List.length_filter_le _ _
theorem ridL_app(A B:List Vl):ridL (A++B)=ridL A++ridL B:=by unfold ridL;rw[List.filter_append,List.map_append]
theorem ridL_ids{l:List Vl}(h:∀v∈l,isRef v.kind=true→1≤v.ref):ridL l=(l.map idn).filter fun n=>decide (n≠0):=by
 induction l with
 | nil=>rfl
 | cons v r ih=>
  have ih2:=ih fun x hx=>h x (List.mem_cons_of_mem _ hx)
  unfold ridL at ih2⊢;by_cases hr:isRef v.kind=true
  .have h1:=h v (by simp) hr;have hi:idn v=v.ref:=by unfold idn;rw[if_pos hr]
   rw[List.filter_cons,if_pos hr,List.map_cons,List.map_cons,hi,List.filter_cons_of_pos (by simp;omega),ih2]
  have hi:idn v=0:=by unfold idn;rw[if_neg hr]
  rw[List.filter_cons,if_neg hr,List.map_cons,hi,List.filter_cons_of_neg (by simp),ih2]
end Go.Proofs.YtmilekfknhglkaaGreat
end
section
set_option linter.unusedSimpArgs false
set_option linter.unusedVariables false
set_option maxRecDepth 100000
set_option maxHeartbeats 2000000
namespace Go.Proofs.YtmilekfknhglkaaGreat
open Go.Hp Go.J Go.S
open Go.Mem (Ty KTy blk elemAt pre suf blk_pre blk_suf aget aset strK aggDesc)
open Go.Mem (adel apos aget_aset aget_adel)
theorem rident_s{Z:Zone}(v:Vl):SF Tryz.prog 103 #[v.v] Z [] fun r Bs=>r=iw (idn v)∧Bs=[]:=by
 refine sf_enter Tryz.func103 7 [(0,.agg (vc v))] (fun w0=>?_);refine k_sr<|s_box (vc v) (fun g1=>?_)
 refine sP (iw 0)<|s_nt<|k_seq<|k_sr<|sL (t_loadA 0 (vc v))<|sV (fun _ h=>rref_s v)<|s_nt<|k_cond (isRef v.kind) (fun c2=>?_) (fun c2=>?_)
 .refine k_sr<|sP (pB g1 4)<|sL (t_load 0 (iw v.ref))<|sP (iw v.ref)<|s_nt<|k_ret<|xs_ret ?_
  have hp:idn v=v.ref:=by unfold idn;rw[if_pos c2]
  exact xs_fin [iw v.ref] [] (SI.tmp 2 SI.nil) (rr [] [0]) ⟨by rw[hp];rfl,rfl⟩
 refine k_st<|k_sr<|sP (iw 0)<|s_nt<|k_ret ?_
 have hp:idn v=0:=by unfold idn;rw[if_neg (by rw[c2];decide)]
 exact xs_fin [iw 0] [] (SI.tmp 2 SI.nil) (rr [] [0]) ⟨by rw[hp];rfl,rfl⟩
theorem ridents_s{Z:Zone}{F:List Asr}{ov lv:Value}{O:List Int}{l:List Vl}(hO:O.length≤100000)(hl:l.length≤100000):SF Tryz.prog 66 #[ov,lv] Z (own iTy ov O::own VlT lv l::F) fun r Bs=>Bs=own iTy r (O++ridL l)::own VlT lv l::F:=by
 refine sf_enter Tryz.func66 26 [(0,ov),(1,lv)] (fun w0=>?_);refine k_sr<|sP (.slice none 0 0)<|s_nt<|k_seq<|k_sr<|sP (iw 0)<|s_nt<|k_block<|k_mem (Bs:=own iTy ov (O++ridL (l.take 0))::own VlT lv l::F) (fun _ h=>by simpa [ridL]using h) ?_
 refine k_loop (ι:=Value×Nat) (fun (rx,i)=>i≤l.length) (fun (rx,i)=>[(0,rx),(1,lv),(5,iw (i:Int))]) (fun (rx,i)=>own iTy rx (O++ridL (l.take i))::own VlT lv l::F) (fun (rx,i)=>l.length-i) (ov,0) (Nat.zero_le _) sA (rr [0,0] []) ?_;rintro⟨rx,i⟩ hi1;replace hi1:i≤l.length:=hi1;show SK _ _ _ _ _ [(0,rx),(1,lv),(5,iw (i:Int))] _ (own iTy rx (O++ridL (l.take i))::own VlT lv l::F);have hrl:=ridL_len (l.take i);rw[List.length_take]at hrl;refine k_seq<|k_sr<|sP (iw (i:Int))<|sP lv<|sL (t_len VlT_ok Tryz.underlying37 (.own 1))<|sL t_cmp<|s_nt<|k_cond (decide ((i:Int)<(l.length:Int))) (fun c2=>?_) (fun c2=>?_)
 .have p3:=dY c2;refine k_st<|k_seq<|k_block<|k_sr<|sP lv<|sP (iw (i:Int))<|sL (t_index VlT_ok Tryz.underlying37 (.own 1) (i:Int) i om ol om) ?_
  obtain⟨y4,hy5⟩:∃y,l[i]?=some y:=⟨_,List.getElem?_eq_getElem ol⟩;refine sL (t_loadE VlT_ok (.own 1) hy5)<|sV (fun _ h=>rref_s y4)<|s_nt<|k_cond (isRef y4.kind) (fun c6=>?_) (fun c6=>?_)
  .refine k_reg<|sP rx<|sP lv<|sP (iw (i:Int))<|sL (t_index VlT_ok Tryz.underlying37 (.own 1) (i:Int) i om ol om)<|sP (.pointer (some ((elemAt VlT.size lv i).add 4)))<|sL (t_loadF 4 VlT_ok (.own 1) hy5)<|s_buildSlice (e:=3) [(0,iw y4.ref)] #[iw y4.ref] (fun g7=>?_) (hb:=by kernel_rfl)
   refine s_append (L:=(O++ridL (l.take i))) 1 iTy_ok Tryz.underlying42 (.lit 0 iTy_ok [y4.ref]) (by show _*8≤_;(try simp only[lnm]);omega) ol (fun v8=>?_);refine sP v8<|s_nil<|xs_block<|xs_then<|k_reg<|sP (iw (i:Int))<|sL (t_add (i:Int) 1 ol)<|sP (iw ((i:Int)+1))<|s_nil ?_
   have hst:((O++ridL (l.take i))++[y4.ref])=(O++ridL (l.take (i+1))):=by rw[ridL_step hy5,if_pos c6];exact List.append_assoc _ _ _
   refine xs_mem (Bs:=blkA g7 #[iw y4.ref] 3::own iTy v8 (O++ridL (l.take (i+1)))::own VlT lv l::F) (fun _ h=>by rw[hst]at h;exact h) ?_;exact xs_round (v8,i+1) (by show l.length-(i+1)<l.length-i;omega) (by show i+1≤l.length;omega) sA (rr [1,1] [2])
  refine k_skip<|xs_block<|xs_then<|k_reg<|sP (iw (i:Int))<|sL (t_add (i:Int) 1 ol)<|sP (iw ((i:Int)+1))<|s_nil ?_
  have hst:(O++ridL (l.take i))=(O++ridL (l.take (i+1))):=by rw[ridL_step hy5,if_neg (by rw[c6];decide)]
  refine xs_mem (Bs:=own iTy rx (O++ridL (l.take (i+1)))::own VlT lv l::F) (fun _ h=>by rw[hst]at h;exact h) ?_;exact xs_round (rx,i+1) (by show l.length-(i+1)<l.length-i;omega) (by show i+1≤l.length;omega) sA (rr [0,0] [])
 have p9:=dF c2;refine k_exit<|xs_exit<|xs_exit<|xs_here<|xs_then<|k_sr<|sP2 rx<|s_nt<|k_ret ?_
 have hend:ridL (l.take i)=ridL l:=by rw[List.take_of_length_le om]
 rw[hend];exact xs_fin [rx] (own iTy rx (O++ridL l)::own VlT lv l::F) (SI.tmp 4 SI.nil) (rr [0,0] []) rfl
theorem rent_zero{k v:Vl}(hk:validB k=true)(hv:validB v=true):((⟨idn k,idn v⟩:Ent)≠⟨0,0⟩)↔(isRef k.kind=true∨isRef v.kind=true):=by
 have key:∀{x:Vl},validB x=true→(idn x≠0↔isRef x.kind=true):=fun {x} hx=>by
  constructor
  .intro h;cases hr:isRef x.kind with
   | true=>rfl
   | false=>exact absurd (by unfold idn;rw[if_neg (by rw[hr];decide)]) h
  intro h;have:=idn_valid hx h;omega
 rw[←key hk,←key hv];constructor
 .intro h;by_cases h1:idn k=0
  .refine .inr fun h2=>h (by rw[h1,h2])
  exact .inl h1
 intro h e;injection e with e1 e2
 rcases h with h|h
 .exact h e1
 exact h e2
theorem rentries_s{Z:Zone}{F:List Asr}{b:Nat}{L:List Vl}{S:List Slt}(hti:TInv ⟨L,S⟩)(htw:TW ⟨L,S⟩)(hl:L.length≤100000)(hs:S.length≤100000):SF Tryz.prog 67 #[.pointer (some ⟨b,0,none⟩)] Z (rtA b L S::F) fun r Bs=>Bs=own EntT r (entsOf ⟨L,S⟩)::rtA b L S::F:=by
 refine sf_enter Tryz.func67 41 [(0,pB b 0)] (fun w0=>?_);have htl:=tents_len ⟨L,S⟩;refine k_sr<|sP (.slice none 0 0)<|s_nr<|s_buildSlice (e:=97) [] #[] (fun g1=>?_) (hb:=by kernel_rfl)
 refine sP (.slice (some ⟨g1,0,none⟩) 0 0)<|s_nr<|sP (pB b 0)<|sL (t_kern (.agg zc))<|sC [1] (rtnext_s (L:=L) (S:=S) ol ol zVl) ?_
 refine sP (.tuple #[.agg (vc ((tnext ⟨L,S⟩ zVl).1)),.agg (vc ((tnext ⟨L,S⟩ zVl).2.1)),.bool ((tnext ⟨L,S⟩ zVl).2.2.1),iw ((tnext ⟨L,S⟩ zVl).2.2.2)])<|sP (.agg (vc ((tnext ⟨L,S⟩ zVl).1)))<|sP (.agg (vc ((tnext ⟨L,S⟩ zVl).2.1)))<|sP (.bool ((tnext ⟨L,S⟩ zVl).2.2.1))<|sP (iw ((tnext ⟨L,S⟩ zVl).2.2.2))<|s_alloc (.agg zc) zc (fun g2=>?_)
 refine s_alloc (.agg zc) zc (fun g3=>?_);refine s_store 1 (vc ((tnext ⟨L,S⟩ zVl).1)) ?_;refine s_store 0 (vc ((tnext ⟨L,S⟩ zVl).2.1)) ?_;refine sP (.bool ((tnext ⟨L,S⟩ zVl).2.2.1))<|sP (iw ((tnext ⟨L,S⟩ zVl).2.2.2))<|s_nt<|k_seq<|k_block ?_
 rw[next_first];refine k_mem (fun _ h=>Holds.slice 3 h EntT_ok []) ?_;refine k_mem (Bs:=blkA g3 (vc ((hdE (tents ⟨L,S⟩)).2.1)) 32::blkA g2 (vc ((hdE (tents ⟨L,S⟩)).1)) 32::rtA b L S::own EntT (.slice (some ⟨g1,0,none⟩) 0 0) (entL [])::F) (fun _ h=>h) ?_;refine k_loop (ι:=Value×List (Vl×Vl)×List (Vl×Vl)) (fun (lx,dn,rem)=>tents ⟨L,S⟩=dn++rem) (fun (lx,dn,rem)=>[(0,pB b 0),(3,lx),(4,pB g2 0),(5,pB g3 0),(6,.bool ((hdE rem).2.2.1))]) (fun (lx,dn,rem)=>blkA g3 (vc ((hdE rem).2.1)) 32::blkA g2 (vc ((hdE rem).1)) 32::rtA b L S::own EntT lx (entL dn)::F) (fun (lx,dn,rem)=>rem.length) ((.slice (some ⟨g1,0,none⟩) 0 0),[],tents ⟨L,S⟩) rfl sA (rr [0,0,0,0] []) ?_;rintro⟨lx,dn,rem⟩ hi4;replace hi4:tents ⟨L,S⟩=dn++rem:=hi4;show SK _ _ _ _ _ [(0,.pointer (some ⟨b,0,none⟩)),(3,lx),(4,.pointer (some ⟨g2,0,none⟩)),(5,.pointer (some ⟨g3,0,none⟩)),(6,.bool ((hdE rem).2.2.1))] _ (blkA g3 (vc ((hdE rem).2.1)) 32::blkA g2 (vc ((hdE rem).1)) 32::rtA b L S::own EntT lx (entL dn)::F);have hel:=entL_len dn;have hdl:dn.length≤L.length+S.length:=by have h0:=congrArg List.length hi4;rw[List.length_append]at h0;have h1:(⟨L,S⟩:Tb).list.length=L.length:=rfl;have h2:(⟨L,S⟩:Tb).rest.length=S.length:=rfl;omega
 refine k_seq<|k_sr<|sP (.bool ((hdE rem).2.2.1))<|s_nt<|k_cond ((hdE rem).2.2.1) (fun c5=>?_) (fun c5=>?_)
 .obtain ⟨p,tl,hrem⟩:=hd_some c5;refine k_st<|k_block<|k_seq<|k_cut (ι:=Unit) (fun _=>True) (fun _=>[(0,pB b 0),(3,lx),(4,pB g2 0),(5,pB g3 0),(23,.bool ((isRef ((hdE rem).1).kind)||(isRef ((hdE rem).2.1).kind)))]) (fun _=>blkA g3 (vc ((hdE rem).2.1)) 32::blkA g2 (vc ((hdE rem).1)) 32::rtA b L S::own EntT lx (entL dn)::F) ?_ (fun _ _=>?_)
  .refine k_reg<|sL (t_loadA 1 (vc ((hdE rem).1)))<|sV (fun _ h=>rref_s ((hdE rem).1))<|sP (.bool (isRef ((hdE rem).1).kind))<|s_fork 20 (isRef ((hdE rem).1).kind) (fun c6=>?_) (fun c6=>?_)
   .refine sK<|sK<|sP (.bool true)<|s_nil ?_
    exact xs_cut () trivial (sub_of rfl (rQ (rQ (rQ (rQ ⟨⟨rfl,show Value.bool true=Value.bool ((isRef ((hdE rem).1).kind)||(isRef ((hdE rem).2.1).kind)) by first|(simp only[c6,bls];done)|simp[c6]⟩,trivial⟩))))) (rr [0,0,0,0] [])
   refine sL (t_loadA 0 (vc ((hdE rem).2.1)))<|sV (fun _ h=>rref_s ((hdE rem).2.1))<|sP (.bool (isRef ((hdE rem).2.1).kind))<|s_nil ?_
   exact xs_cut () trivial (sub_of rfl (rQ (rQ (rQ (rQ ⟨⟨rfl,show Value.bool (isRef ((hdE rem).2.1).kind)=Value.bool ((isRef ((hdE rem).1).kind)||(isRef ((hdE rem).2.1).kind)) by first|(simp only[c6,bls];done)|simp[c6]⟩,trivial⟩))))) (rr [0,0,0,0] [])
  refine k_cond ((isRef ((hdE rem).1).kind)||(isRef ((hdE rem).2.1).kind)) (fun c7=>?_) (fun c7=>?_)
  .have p8:=c7;simp only[Bool.and_eq_true,Bool.or_eq_true,Bool.and_eq_false_iff,Bool.or_eq_false_iff,Bool.not_eq_true',Bool.not_eq_false',decide_eq_true_eq,decide_eq_false_iff_not]at p8;refine k_held [blkA g3 (vc ((hdE rem).2.1)) 32,blkA g2 (vc ((hdE rem).1)) 32] ?_;refine hp_ 0 [0,0] lx ?_;refine h_l 1 rfl [0,0] (fun _=>(t_loadA 1 (vc ((hdE rem).1)))) ?_;refine h_l 3 rfl [0,0] (fun _=>(t_loadA 0 (vc ((hdE rem).2.1)))) ?_;refine h_stepS 2 ?_;refine sV (fun _ h=>rident_s ((hdE rem).1))<|nH [0,0]<|h_stepS 4 ?_
   refine sV (fun _ h=>rident_s ((hdE rem).2.1))<|nH [0,0]<|h_l 5 rfl [0,0] (fun _=>(t_kern (.agg #[iw (idn ((hdE rem).1)),iw (idn ((hdE rem).2.1))]))) ?_
   refine h_stepS 6 ?_;refine s_buildSlice (e:=97) [(0,.agg #[iw (idn ((hdE rem).1)),iw (idn ((hdE rem).2.1))])] #[iw (idn ((hdE rem).1)),iw (idn ((hdE rem).2.1))] (fun g9=>?_) (hb:=by kernel_rfl);refine nH [1,1]<|h_stepS 7 ?_
   refine s_append (L:=(entL dn)) 4 EntT_ok Tryz.underlying44 (.lit 0 EntT_ok [(⟨(idn ((hdE rem).1)),(idn ((hdE rem).2.1))⟩:Ent)]) (by show _*16≤_;(try simp only[lnm]);omega) ol (fun v10=>?_);refine nH [1,1]<|hp_ 8 [1,1] v10 ?_
   refine h_doneS ?_;refine xs_then<|k_reg<|sP (pB b 0)<|sL (t_loadA 2 (vc ((hdE rem).1)))<|sC [3] (rtnext_s (L:=L) (S:=S) ol ol ((hdE rem).1)) ?_
   refine sP (.tuple #[.agg (vc ((tnext ⟨L,S⟩ ((hdE rem).1)).1)),.agg (vc ((tnext ⟨L,S⟩ ((hdE rem).1)).2.1)),.bool ((tnext ⟨L,S⟩ ((hdE rem).1)).2.2.1),iw ((tnext ⟨L,S⟩ ((hdE rem).1)).2.2.2)])<|sP (.agg (vc ((tnext ⟨L,S⟩ ((hdE rem).1)).1)))<|sP (.agg (vc ((tnext ⟨L,S⟩ ((hdE rem).1)).2.1)))<|sP (.bool ((tnext ⟨L,S⟩ ((hdE rem).1)).2.2.1))<|sP (iw ((tnext ⟨L,S⟩ ((hdE rem).1)).2.2.2))<|s_store 3 (vc ((tnext ⟨L,S⟩ ((hdE rem).1)).1)) ?_
   refine s_store 2 (vc ((tnext ⟨L,S⟩ ((hdE rem).1)).2.1)) ?_;refine sP (.bool ((tnext ⟨L,S⟩ ((hdE rem).1)).2.2.1))<|s_nil<|xs_block ?_
   have hn:tnext ⟨L,S⟩ ((hdE rem).1)=hdE tl:=by rw[hrem];exact next_step hti htw (by show L.length≤_;omega) (pre:=dn) (by rw[hi4,hrem])
   rw[hn];have hva:=tents_valid hti p (by rw[hi4,hrem];simp);have hq1:(hdE rem).1=p.1:=by rw[hrem];rfl
   have hq2:(hdE rem).2.1=p.2:=by rw[hrem];rfl
   have hes:((entL dn)++[(⟨(idn ((hdE rem).1)),(idn ((hdE rem).2.1))⟩:Ent)])=(entL (dn++[p])):=by rw[entL_step,if_pos ((rent_zero hva.1 hva.2).2 (by rw[←hq1,←hq2];simp_all))];rw[hq1,hq2]
   refine xs_mem (Bs:=rtA b L S::blkA g9 #[iw (idn ((hdE rem).1)),iw (idn ((hdE rem).2.1))] 97::blkA g3 (vc ((hdE tl).2.1)) 32::blkA g2 (vc ((hdE tl).1)) 32::own EntT v10 (entL (dn++[p]))::F) (fun _ h=>by rw[hes]at h;exact h) ?_;exact xs_round (v10,dn++[p],tl) (by show tl.length<rem.length;rw[hrem];simp) (by show _=(dn++[p])++tl;rw[hi4,hrem];simp) sA (rr [2,2,0,1] [4])
  obtain⟨c11,c12⟩:=or_f c7;refine k_st<|k_reg<|sP (pB b 0)<|sL (t_loadA 1 (vc ((hdE rem).1)))<|sC [2] (rtnext_s (L:=L) (S:=S) ol ol ((hdE rem).1)) ?_
  refine sP (.tuple #[.agg (vc ((tnext ⟨L,S⟩ ((hdE rem).1)).1)),.agg (vc ((tnext ⟨L,S⟩ ((hdE rem).1)).2.1)),.bool ((tnext ⟨L,S⟩ ((hdE rem).1)).2.2.1),iw ((tnext ⟨L,S⟩ ((hdE rem).1)).2.2.2)])<|sP (.agg (vc ((tnext ⟨L,S⟩ ((hdE rem).1)).1)))<|sP (.agg (vc ((tnext ⟨L,S⟩ ((hdE rem).1)).2.1)))<|sP (.bool ((tnext ⟨L,S⟩ ((hdE rem).1)).2.2.1))<|sP (iw ((tnext ⟨L,S⟩ ((hdE rem).1)).2.2.2))<|s_store 2 (vc ((tnext ⟨L,S⟩ ((hdE rem).1)).1)) ?_
  refine s_store 1 (vc ((tnext ⟨L,S⟩ ((hdE rem).1)).2.1)) ?_;refine sP (.bool ((tnext ⟨L,S⟩ ((hdE rem).1)).2.2.1))<|s_nil<|xs_block ?_
  have hn:tnext ⟨L,S⟩ ((hdE rem).1)=hdE tl:=by rw[hrem];exact next_step hti htw (by show L.length≤_;omega) (pre:=dn) (by rw[hi4,hrem])
  rw[hn];have hva:=tents_valid hti p (by rw[hi4,hrem];simp);have hq1:(hdE rem).1=p.1:=by rw[hrem];rfl
  have hq2:(hdE rem).2.1=p.2:=by rw[hrem];rfl
  have hes:(entL dn)=(entL (dn++[p])):=by rw[entL_step,if_neg (fun hc=>absurd ((rent_zero hva.1 hva.2).1 hc) (by rw[←hq1,←hq2];simp_all))]
  refine xs_mem (Bs:=rtA b L S::blkA g3 (vc ((hdE tl).2.1)) 32::blkA g2 (vc ((hdE tl).1)) 32::own EntT lx (entL (dn++[p]))::F) (fun _ h=>by rw[hes]at h;exact h) ?_;exact xs_round (lx,dn++[p],tl) (by show tl.length<rem.length;rw[hrem];simp) (by show _=(dn++[p])++tl;rw[hi4,hrem];simp) sA (rr [1,1,0,0] [])
 have hrem:=hd_none c5;refine k_exit<|xs_exit<|xs_exit<|xs_here<|xs_then<|k_sr<|sP2 lx<|s_nt<|k_ret ?_
 have hend:entL dn=entsOf ⟨L,S⟩:=by unfold entsOf;rw[hi4,hrem,List.append_nil]
 rw[hend];exact xs_fin [lx] (own EntT lx (entsOf ⟨L,S⟩)::rtA b L S::F) (SI.tmp 2 SI.nil) (rr [3,2] [2,2]) rfl
theorem rsize_s{Z:Zone}{F:List Asr}{o:Hob}{tp:Nat}{uv rv:Sv}(hl:o.tab.list.length≤100000)(hs:o.tab.rest.length≤100000)(hv:o.vals.length≤100000):SF Tryz.prog 65 #[Rx.v ⟨some o,tp,uv,rv⟩] Z (own VlT uv.v (usr o)::own VlT rv.v (rfs o)::rtO tp o::F) fun r Bs=>r=iw (obSize o)∧Bs=own VlT uv.v (usr o)::own VlT rv.v (rfs o)::rtO tp o::F:=by
 refine sf_enter Tryz.func65 23 [(0,.agg #[iw o.kind,iw o.tag,sw o.name,(tabV (0,tp) o),iw o.mt.kind,iw o.mt.p,iw o.mt.q,sw o.mt.str,iw o.mt.ref,uv.v,rv.v])] (fun w0=>?_);have htz:0≤tabSize ⟨o.tab.list,o.tab.rest⟩∧tabSize ⟨o.tab.list,o.tab.rest⟩≤700000:=by unfold tabSize;dsimp only;omega
 have hrf:(rfs o).length≤o.vals.length:=by unfold rfs;split<;>simp
 refine k_sr<|s_box #[iw o.kind,iw o.tag,sw o.name,(tabV (0,tp) o),iw o.mt.kind,iw o.mt.p,iw o.mt.q,sw o.mt.str,iw o.mt.ref,uv.v,rv.v] (fun g1=>?_)
 refine sP (iw 0)<|s_nt<|k_seq<|k_sr<|sP (pB g1 0)<|sL (t_load 0 (iw o.kind))<|s_nt<|k_block<|k_sr<|sL t_cmp<|sP (.bool (decide (o.kind=4)))<|s_nt<|k_cond (decide (o.kind=4)) (fun c2=>?_) (fun c2=>?_)
 .have p3:=dY c2;refine k_sr<|sP (pB g1 3)<|sL (Lt.to (v':=ptrV tp) (t_load 0 (tabV (0,tp) o)) (tabV_tab (dY c2)))<|s_mem (fun _ h=>rtO_open (dY c2) (h.re [3] [])) ?_
  refine sC [0] (rtsize_s (L:=o.tab.list) (S:=o.tab.rest) ol ol) ?_;refine sL (t_add 8 (tabSize ⟨o.tab.list,o.tab.rest⟩) ol)<|sP (iw (8+(tabSize ⟨o.tab.list,o.tab.rest⟩)))<|s_nt<|k_ret<|xs_retBlock<|xs_ret<|xs_mem (fun _ h=>rtO_shut (T:=o.tab) (dY c2) (h.re [0] [])) ?_
  refine xs_mem (Bs:=rtO tp o::blkA g1 #[iw o.kind,iw o.tag,sw o.name,(tabV (0,tp) o),iw o.mt.kind,iw o.mt.p,iw o.mt.q,sw o.mt.str,iw o.mt.ref,uv.v,rv.v] 86::own VlT uv.v (usr o)::own VlT rv.v (rfs o)::F) (fun _ h=>h) ?_;have hp:obSize o=(8+(tabSize ⟨o.tab.list,o.tab.rest⟩)):=by unfold obSize;rw[if_pos (dY c2)]
  exact xs_fin [iw (8+(tabSize ⟨o.tab.list,o.tab.rest⟩))] (own VlT uv.v (usr o)::own VlT rv.v (rfs o)::rtO tp o::F) (SI.tmp 2 SI.nil) (rr [2,2,0] [3]) ⟨by rw[hp];rfl,rfl⟩
 have p4:=dF c2;refine k_sr<|sL t_cmp<|sP (.bool (decide (o.kind=5)))<|s_nt<|k_cond (decide (o.kind=5)) (fun c5=>?_) (fun c5=>?_)
 .have p6:=dY c5;refine k_sr<|sP (pB g1 10)<|sL (t_load 0 rv.v)<|sL (t_len VlT_ok Tryz.underlying37 (.own 2))<|sL (t_add 8 ((rfs o).length:Int) ol)<|sP (iw (8+((rfs o).length:Int)))<|s_nt<|k_ret<|xs_retBlock<|xs_ret ?_
  have hp:obSize o=(8+((rfs o).length:Int)):=by unfold obSize;rw[if_neg (dF c2),if_pos (dY c5)];rw[rfs_n om]
  exact xs_fin [iw (8+((rfs o).length:Int))] (own VlT uv.v (usr o)::own VlT rv.v (rfs o)::rtO tp o::F) (SI.tmp 2 SI.nil) (rr [1,1,1] [3]) ⟨by rw[hp];rfl,rfl⟩
 have p7:=dF c5;refine k_sr<|sL t_cmp<|sP (.bool (decide (o.kind=7)))<|s_nt<|k_cond (decide (o.kind=7)) (fun c8=>?_) (fun c8=>?_)
 .have p9:=dY c8;refine k_sr<|sP (pB g1 10)<|sL (t_load 0 rv.v)<|sL (t_len VlT_ok Tryz.underlying37 (.own 2))<|sL (t_add 16 ((rfs o).length:Int) ol)<|sP (iw (16+((rfs o).length:Int)))<|s_nt<|k_ret<|xs_retBlock<|xs_ret ?_
  have hp:obSize o=(16+((rfs o).length:Int)):=by unfold obSize;rw[if_neg (dF c2),if_neg (dF c5),if_pos (dY c8)];rw[rfs_n om]
  exact xs_fin [iw (16+((rfs o).length:Int))] (own VlT uv.v (usr o)::own VlT rv.v (rfs o)::rtO tp o::F) (SI.tmp 2 SI.nil) (rr [1,1,1] [3]) ⟨by rw[hp];rfl,rfl⟩
 have p10:=dF c8;refine k_skip<|xs_block<|xs_then<|k_sr<|sP (iw 12)<|s_nt<|k_ret ?_
 have hp:obSize o=12:=by unfold obSize;rw[if_neg (dF c2),if_neg (dF c5),if_neg (dF c8)]
 exact xs_fin [iw 12] (own VlT uv.v (usr o)::own VlT rv.v (rfs o)::rtO tp o::F) (SI.tmp 2 SI.nil) (rr [1,1,1] [3]) ⟨by rw[hp];rfl,rfl⟩
theorem rx_at{st:Hst}{L:List Rx}{i:Nat}(hL:L.map Rx.o=st.objs)(h:i<L.length):(∃tp uv rv,L[i]?=some ⟨none,tp,uv,rv⟩∧st.get ((i:Int)+1)=none)∨∃o tp uv rv,L[i]?=some ⟨some o,tp,uv,rv⟩∧st.get ((i:Int)+1)=some o:=by
 have:=rx_cases hL (id:=(i:Int)+1) om om;rwa [show ((i:Int)+1-1).toNat=i by omega]at this
theorem rhids_s{Z:Zone}{F:List Asr}{b:Nat}{st:Hst}{n:Nat}(hsm:HSm n st)(hn:n≤300):SF Tryz.prog 17 #[.pointer (some ⟨b,0,none⟩)] Z (rhA b st::F) fun r Bs=>Bs=own iTy r (hids st)::rhA b st::F:=by
 refine sf_enter Tryz.func17 33 [(0,pB b 0)] (fun w0=>?_);have hlen0:=hsm.len;refine k_sr<|sP (.slice none 0 0)<|s_nr<|s_buildSlice (e:=3) [] #[] (fun g1=>?_) (hb:=by kernel_rfl)
 refine sP (.slice (some ⟨g1,0,none⟩) 0 0)<|s_nt<|k_seq<|k_sr<|sP (pB b 0)<|sP (.bool false)<|s_nt<|k_false<|k_st<|k_seq<|k_sr<|sP (iw 0)<|s_nt<|k_block<|k_mem3 (fun H h=>rh_open (h.re [1] [])) (fun v2 tv3 L4 hw=>?_)
 obtain⟨hi5,hL6⟩:=hw;have hln7:=rx_len hL6;have htl8:=hi5.tch;refine k_mem (fun _ h=>Holds.slice 4 h iTy_ok []) ?_;refine k_mem (Bs:=blkA b #[v2,iw (st.count:Int),tv3] 68::own RxT v2 L4::own bTy tv3 st.tch::rallP L4::own iTy (.slice (some ⟨g1,0,none⟩) 0 0) (hidsN st 0)::F) (fun _ h=>h) ?_;refine k_loop (ι:=Value×Nat) (fun (sx,i)=>i≤st.objs.length) (fun (sx,i)=>[(0,pB b 0),(3,sx),(4,iw (i:Int))]) (fun (sx,i)=>blkA b #[v2,iw (st.count:Int),tv3] 68::own RxT v2 L4::own bTy tv3 st.tch::rallP L4::own iTy sx (hidsN st i)::F) (fun (sx,i)=>st.objs.length-i) ((.slice (some ⟨g1,0,none⟩) 0 0),0) (Nat.zero_le _) sA (rr [0,0,0,0,0] []) ?_;rintro⟨sx,i⟩ hi9;replace hi9:i≤st.objs.length:=hi9;show SK _ _ _ _ _ [(0,.pointer (some ⟨b,0,none⟩)),(3,sx),(4,iw (i:Int))] _ (blkA b #[v2,iw (st.count:Int),tv3] 68::own RxT v2 L4::own bTy tv3 st.tch::rallP L4::own iTy sx (hidsN st i)::F);have hnl:=hidsN_len st i;refine k_seq<|k_sr<|sP (iw (i:Int))<|sP3 (pB b 0)<|sL (t_load 0 v2)<|sL (t_len RxT_ok Tryz.underlying65 (.own 1))<|sL t_cmp<|s_nt<|k_cond (decide ((i:Int)<(L4.length:Int))) (fun c10=>?_) (fun c10=>?_)
 .have p11:=dY c10;refine k_st<|k_seq<|k_block<|k_sr<|sP3 (pB b 0)<|sL (t_load 0 v2)<|sP (iw (i:Int))<|sL (t_index RxT_ok Tryz.underlying65 (.own 1) (i:Int) i om ol om)<|sP (.pointer (some (elemAt RxT.size v2 i))) ?_
  rcases rx_at hL6 (by omega:i<L4.length) with ⟨tp12,uv13,rv14,hy15,hg16⟩|⟨o17,tp18,uv19,rv20,hy21,hg22⟩
  .refine sL (t_loadF 0 RxT_ok (.own 1) hy15)<|sL (t_cmp (c:=false))<|s_nt<|k_false<|k_skip<|xs_block<|xs_then<|k_reg<|sP (iw (i:Int))<|sL (t_add (i:Int) 1 ol)<|sP (iw ((i:Int)+1))<|s_nil ?_
   have hst:(hidsN st i)=(hidsN st (i+1)):=by rw[hidsN_step,if_neg (by rw[ral_no hg16];decide)]
   refine xs_mem (Bs:=blkA b #[v2,iw (st.count:Int),tv3] 68::own RxT v2 L4::own bTy tv3 st.tch::rallP L4::own iTy sx (hidsN st (i+1))::F) (fun _ h=>by rw[hst]at h;exact h) ?_;exact xs_round (sx,i+1) (by show st.objs.length-(i+1)<st.objs.length-i;omega) (by show i+1≤st.objs.length;omega) sA (rr [0,0,0,0,0] [])
  refine sL (t_loadF 0 RxT_ok (.own 1) hy21)<|sL (Lt.to t_cmp (cB (decide_eq_true (ob_nz hi5 hg22):(decide (o17.kind≠0))=true)))<|s_nt<|k_true<|k_reg<|sP sx<|sP (iw (i:Int))<|sL (t_add (i:Int) 1 ol)<|s_buildSlice (e:=3) [(0,iw ((i:Int)+1))] #[iw ((i:Int)+1)] (fun g23=>?_) (hb:=by kernel_rfl)
  refine s_append (L:=(hidsN st i)) 5 iTy_ok Tryz.underlying42 (.lit 0 iTy_ok [((i:Int)+1)]) (by show _*8≤_;(try simp only[lnm]);omega) ol (fun v24=>?_);refine sP v24<|s_nil<|xs_block<|xs_then<|k_reg<|sP (iw (i:Int))<|sL (t_add (i:Int) 1 ol)<|sP (iw ((i:Int)+1))<|s_nil ?_
  have hst:((hidsN st i)++[((i:Int)+1)])=(hidsN st (i+1)):=by rw[hidsN_step,if_pos (ral_yes hg22)]
  refine xs_mem (Bs:=blkA g23 #[iw ((i:Int)+1)] 3::blkA b #[v2,iw (st.count:Int),tv3] 68::own RxT v2 L4::own bTy tv3 st.tch::rallP L4::own iTy v24 (hidsN st (i+1))::F) (fun _ h=>by rw[hst]at h;exact h) ?_;exact xs_round (v24,i+1) (by show st.objs.length-(i+1)<st.objs.length-i;omega) (by show i+1≤st.objs.length;omega) sA (rr [1,1,1,1,1] [5])
 have p25:=dF c10;refine k_exit<|xs_exit<|xs_exit<|xs_here<|xs_then<|k_sr<|sP2 sx<|s_nt<|k_ret<|xs_mem (fun _ h=>rh_shut (st:=st) (n:=(st.count:Int)) (T:=st.tch) ⟨⟨⟨hi5,hL6⟩,rfl⟩,rfl⟩ (h.re [0,0,0,0] [])) ?_
 have hend:hidsN st i=hids st:=hidsN_end om;rw[hend];exact xs_fin [sx] (own iTy sx (hids st)::rhA b st::F) (SI.tmp 2 SI.nil) (rr [1,0] []) rfl
theorem rhtouched_s{Z:Zone}{F:List Asr}{b:Nat}{st:Hst}{n:Nat}(hsm:HSm n st)(hn:n≤300):SF Tryz.prog 12 #[.pointer (some ⟨b,0,none⟩)] Z (rhA b st::F) fun r Bs=>Bs=own iTy r (htchd st)::rhA b (huntch st)::F:=by
 refine sf_enter Tryz.func12 48 [(0,pB b 0)] (fun w0=>?_);have hlen0:=hsm.len;refine k_sr<|sP (.slice none 0 0)<|s_nr<|s_buildSlice (e:=3) [] #[] (fun g1=>?_) (hb:=by kernel_rfl)
 refine sP (.slice (some ⟨g1,0,none⟩) 0 0)<|s_nt<|k_seq<|k_sr<|sP (pB b 0)<|sP (.bool false)<|s_nt<|k_false<|k_st<|k_seq<|k_sr<|sP (iw 0)<|s_nt<|k_block<|k_mem3 (fun H h=>rh_open (h.re [1] [])) (fun v2 tv3 L4 hw=>?_)
 obtain⟨hi5,hL6⟩:=hw;have hln7:=rx_len hL6;have htl8:=hi5.tch;refine k_mem (fun _ h=>Holds.slice 4 h iTy_ok []) ?_;refine k_mem (Bs:=blkA b #[v2,iw (st.count:Int),tv3] 68::own RxT v2 L4::own bTy tv3 (untN st.tch 0)::rallP L4::own iTy (.slice (some ⟨g1,0,none⟩) 0 0) (tchN st 0)::F) (fun _ h=>by rw[untN_zero];exact h) ?_;refine k_loop (ι:=Value×Nat) (fun (sx,i)=>i≤st.objs.length) (fun (sx,i)=>[(0,pB b 0),(3,sx),(4,iw (i:Int))]) (fun (sx,i)=>blkA b #[v2,iw (st.count:Int),tv3] 68::own RxT v2 L4::own bTy tv3 (untN st.tch i)::rallP L4::own iTy sx (tchN st i)::F) (fun (sx,i)=>st.objs.length-i) ((.slice (some ⟨g1,0,none⟩) 0 0),0) (Nat.zero_le _) sA (rr [0,0,0,0,0] []) ?_;rintro⟨sx,i⟩ hi9;replace hi9:i≤st.objs.length:=hi9;show SK _ _ _ _ _ [(0,.pointer (some ⟨b,0,none⟩)),(3,sx),(4,iw (i:Int))] _ (blkA b #[v2,iw (st.count:Int),tv3] 68::own RxT v2 L4::own bTy tv3 (untN st.tch i)::rallP L4::own iTy sx (tchN st i)::F);have hnl:=tchN_len st i;have hul:=untN_len (T:=st.tch) (i:=i) om;refine k_seq<|k_sr<|sP (iw (i:Int))<|sP3 (pB b 0)<|sL (t_load 0 v2)<|sL (t_len RxT_ok Tryz.underlying65 (.own 1))<|sL t_cmp<|s_nt<|k_cond (decide ((i:Int)<(L4.length:Int))) (fun c10=>?_) (fun c10=>?_)
 .have p11:=dY c10;refine k_st<|k_seq<|k_block<|k_seq<|k_sr<|sP2 (pB b 0)<|sP (pB b 2)<|sL (t_load 0 tv3)<|sP (iw (i:Int))<|sL (t_index bTy_ok Tryz.underlying66 (.own 2) (i:Int) i om ol om) ?_
  obtain⟨y12,hy13⟩:∃y,(untN st.tch i)[i]?=some y:=⟨_,List.getElem?_eq_getElem ol⟩;have hx14:=(untN_get (T:=st.tch) (i:=i) om).symm.trans hy13;refine sL (t_loadE bTy_ok (.own 2) hy13)<|sP (.bool y12)<|s_fork 25 y12 (fun c15=>?_) (fun c15=>?_)
  .refine sP3 (pB b 0)<|sL (t_load 0 v2)<|sP (iw (i:Int))<|sL (t_index RxT_ok Tryz.underlying65 (.own 1) (i:Int) i om ol om)<|sP (.pointer (some (elemAt RxT.size v2 i))) ?_
   rcases rx_at hL6 (by omega:i<L4.length) with ⟨tp16,uv17,rv18,hy19,hg20⟩|⟨o21,tp22,uv23,rv24,hy25,hg26⟩
   .refine sL (t_loadF 0 RxT_ok (.own 1) hy19)<|sL (t_cmp (c:=false))<|sP (.bool false)<|s_nt<|k_false<|k_st<|k_reg<|sP2 (pB b 0)<|sP (pB b 2)<|sL (t_load 0 tv3)<|sP (iw (i:Int))<|sL (t_index bTy_ok Tryz.underlying66 (.own 2) (i:Int) i om ol om)<|s_storeE 2 0 false bTy_ok hy13 ?_
    refine s_nil<|xs_block<|xs_then<|k_reg<|sP (iw (i:Int))<|sL (t_add (i:Int) 1 ol)<|sP (iw ((i:Int)+1))<|s_nil ?_
    have hst:(tchN st i)=(tchN st (i+1)):=by rw[tchN_step hx14,if_neg (by rw[ral_no hg20,Bool.and_false];decide)]
    have hst2:((untN st.tch i).set i false)=untN st.tch (i+1):=untN_step om;refine xs_mem (Bs:=blkA b #[v2,iw (st.count:Int),tv3] 68::own RxT v2 L4::own bTy tv3 (untN st.tch (i+1))::rallP L4::own iTy sx (tchN st (i+1))::F) (fun _ h=>by rw[hst,hst2]at h;exact h) ?_;exact xs_round (sx,i+1) (by show st.objs.length-(i+1)<st.objs.length-i;omega) (by show i+1≤st.objs.length;omega) sA (rr [0,0,0,0,0] [])
   refine sL (t_loadF 0 RxT_ok (.own 1) hy25)<|sL (Lt.to t_cmp (cB (decide_eq_true (ob_nz hi5 hg26):(decide (o21.kind≠0))=true)))<|sP (.bool true)<|s_nt<|k_true<|k_reg<|sP sx<|sP (iw (i:Int))<|sL (t_add (i:Int) 1 ol)<|s_buildSlice (e:=3) [(0,iw ((i:Int)+1))] #[iw ((i:Int)+1)] (fun g27=>?_) (hb:=by kernel_rfl)
   refine s_append (L:=(tchN st i)) 5 iTy_ok Tryz.underlying42 (.lit 0 iTy_ok [((i:Int)+1)]) (by show _*8≤_;(try simp only[lnm]);omega) ol (fun v28=>?_);refine sP v28<|s_nt<|k_reg<|sP2 (pB b 0)<|sP (pB b 2)<|sL (t_load 1 tv3)<|sP (iw (i:Int))<|sL (t_index bTy_ok Tryz.underlying66 (.own 3) (i:Int) i om ol om)<|s_storeE 3 0 false bTy_ok hy13 ?_
   refine s_nil<|xs_block<|xs_then<|k_reg<|sP (iw (i:Int))<|sL (t_add (i:Int) 1 ol)<|sP (iw ((i:Int)+1))<|s_nil ?_
   have hst:((tchN st i)++[((i:Int)+1)])=(tchN st (i+1)):=by rw[tchN_step hx14,if_pos (by rw[c15,ral_yes hg26];rfl)]
   have hst2:((untN st.tch i).set i false)=untN st.tch (i+1):=untN_step om;refine xs_mem (Bs:=blkA g27 #[iw ((i:Int)+1)] 3::blkA b #[v2,iw (st.count:Int),tv3] 68::own RxT v2 L4::own bTy tv3 (untN st.tch (i+1))::rallP L4::own iTy v28 (tchN st (i+1))::F) (fun _ h=>by rw[hst,hst2]at h;exact h) ?_;exact xs_round (v28,i+1) (by show st.objs.length-(i+1)<st.objs.length-i;omega) (by show i+1≤st.objs.length;omega) sA (rr [1,1,1,1,1] [5])
  refine sK<|sK<|sK<|sK<|sK<|sK<|sK<|sK<|sK<|sP (.bool false)<|s_nt<|k_false<|k_st<|k_reg<|sP2 (pB b 0)<|sP (pB b 2)<|sL (t_load 0 tv3)<|sP (iw (i:Int))<|sL (t_index bTy_ok Tryz.underlying66 (.own 2) (i:Int) i om ol om)<|s_storeE 2 0 false bTy_ok hy13 ?_
  refine s_nil<|xs_block<|xs_then<|k_reg<|sP (iw (i:Int))<|sL (t_add (i:Int) 1 ol)<|sP (iw ((i:Int)+1))<|s_nil ?_
  have hst:(tchN st i)=(tchN st (i+1)):=by rw[tchN_step hx14,if_neg (by rw[c15];simp)]
  have hst2:((untN st.tch i).set i false)=untN st.tch (i+1):=untN_step om;refine xs_mem (Bs:=blkA b #[v2,iw (st.count:Int),tv3] 68::own RxT v2 L4::own bTy tv3 (untN st.tch (i+1))::rallP L4::own iTy sx (tchN st (i+1))::F) (fun _ h=>by rw[hst,hst2]at h;exact h) ?_;exact xs_round (sx,i+1) (by show st.objs.length-(i+1)<st.objs.length-i;omega) (by show i+1≤st.objs.length;omega) sA (rr [0,0,0,0,0] [])
 have p29:=dF c10;refine k_exit<|xs_exit<|xs_exit<|xs_here<|xs_then<|k_sr<|sP2 sx<|s_nt<|k_ret<|xs_mem (fun _ h=>rh_shut (st:=(huntch st)) (n:=(st.count:Int)) (T:=(untN st.tch i)) ⟨⟨⟨untch_inv hi5,hL6⟩,rfl⟩,untN_end om⟩ (h.re [0,0,0,0] [])) ?_
 have hend:tchN st i=htchd st:=tchN_end om;rw[hend];exact xs_fin [sx] (own iTy sx (htchd st)::rhA b (huntch st)::F) (SI.tmp 2 SI.nil) (rr [1,0] []) rfl
theorem rhsize_s{Z:Zone}{F:List Asr}{b:Nat}{st:Hst}{n:Nat}(hsm:HSm n st)(hn:n≤300):SF Tryz.prog 20 #[.pointer (some ⟨b,0,none⟩)] Z (rhA b st::F) fun r Bs=>r=iw (hsize st)∧Bs=rhA b st::F:=by
 refine sf_enter Tryz.func20 37 [(0,pB b 0)] (fun w0=>?_);have hlen0:=hsm.len;refine k_sr<|sP (iw 0)<|s_nr<|sP (iw 0)<|s_nt<|k_seq<|k_sr<|sP (pB b 0)<|sP (.bool false)<|s_nt<|k_false<|k_st<|k_seq<|k_sr<|sP (iw 0)<|s_nt<|k_block<|k_mem3 (fun H h=>rh_open (h.re [0] [])) (fun v1 tv2 L3 hw=>?_)
 obtain⟨hi4,hL5⟩:=hw;have hln6:=rx_len hL5;have htl7:=hi4.tch;refine k_loop (ι:=Nat) (fun i=>i≤st.objs.length∧0≤sizeN st i∧sizeN st i≤200000*(i:Int)) (fun i=>[(0,pB b 0),(3,iw (sizeN st i)),(4,iw (i:Int))]) (fun i=>blkA b #[v1,iw (st.count:Int),tv2] 68::own RxT v1 L3::own bTy tv2 st.tch::rallP L3::F) (fun i=>st.objs.length-i) 0 ⟨Nat.zero_le _,Int.le_refl _,Int.le_refl _⟩ sA (rr [0,0,0,0] []) ?_;rintro i hi8;show SK _ _ _ _ _ [(0,.pointer (some ⟨b,0,none⟩)),(3,iw (sizeN st i)),(4,iw (i:Int))] _ (blkA b #[v1,iw (st.count:Int),tv2] 68::own RxT v1 L3::own bTy tv2 st.tch::rallP L3::F);refine k_seq<|k_sr<|sP (iw (i:Int))<|sP3 (pB b 0)<|sL (t_load 0 v1)<|sL (t_len RxT_ok Tryz.underlying65 (.own 1))<|sL t_cmp<|s_nt<|k_cond (decide ((i:Int)<(L3.length:Int))) (fun c9=>?_) (fun c9=>?_)
 .have p10:=dY c9;refine k_st<|k_seq<|k_block<|k_sr<|sP3 (pB b 0)<|sL (t_load 0 v1)<|sP (iw (i:Int))<|sL (t_index RxT_ok Tryz.underlying65 (.own 1) (i:Int) i om ol om)<|sP (.pointer (some (elemAt RxT.size v1 i))) ?_
  rcases rx_at hL5 (by omega:i<L3.length) with ⟨tp11,uv12,rv13,hy14,hg15⟩|⟨o16,tp17,uv18,rv19,hy20,hg21⟩
  .refine sL (t_loadF 0 RxT_ok (.own 1) hy14)<|sL (t_cmp (c:=false))<|s_nt<|k_false<|k_skip<|xs_block<|xs_then<|k_reg<|sP (iw (i:Int))<|sL (t_add (i:Int) 1 ol)<|sP (iw ((i:Int)+1))<|s_nil ?_
   have hsu:=sizeN_no hg15;exact xs_round (i+1) om ⟨by omega,by omega,by omega⟩ (sub_of rfl (rQ ⟨⟨rfl,cI (sizeN_no hg15).symm⟩,(rQ trivial)⟩)) (rr [0,0,0,0] [])
  refine sL (t_loadF 0 RxT_ok (.own 1) hy20)<|sL (Lt.to t_cmp (cB (decide_eq_true (ob_nz hi4 hg21):(decide (o16.kind≠0))=true)))<|s_nt<|k_true<|k_reg<|sP (iw (sizeN st i))<|sP3 (pB b 0)<|sL (t_load 0 v1)<|sP (iw (i:Int))<|sL (t_index RxT_ok Tryz.underlying65 (.own 1) (i:Int) i om ol om)<|sL (t_loadE RxT_ok (.own 1) hy20)<|s_mem (fun _ h=>rall_out hy20 (h.re [3] [])) ?_
  obtain⟨hz1,hz2,hz3⟩:=ob_bound hsm hn hg21;refine sC [0,0,0] (rsize_s (o:=o16) (tp:=tp17) (uv:=uv18) (rv:=rv19) om om om) ?_;refine s_mem (fun _ h=>rall_same hy20 (rall_in (o':=o16) (uv':=uv18) (rv':=rv19) hy20 (h.re [0,0,0,0] []))) ?_;have hob:=obsize_bound hsm hn hg21;refine sL (t_add (sizeN st i) (obSize o16) ol)<|sP (iw ((sizeN st i)+(obSize o16)))<|s_nil<|xs_block<|xs_then<|k_reg<|sP (iw (i:Int))<|sL (t_add (i:Int) 1 ol)<|sP (iw ((i:Int)+1))<|s_nil ?_
  have hob:=obsize_bound hsm hn hg21;have hsu:=sizeN_yes hg21;exact xs_round (i+1) om ⟨by omega,by omega,by omega⟩ (sub_of rfl (rQ ⟨⟨rfl,cI (sizeN_yes hg21).symm⟩,(rQ trivial)⟩)) (rr [1,1,1,0] [])
 have p22:=dF c9;refine k_exit<|xs_exit<|xs_exit<|xs_here<|xs_then<|k_sr<|sP2 (iw (sizeN st i))<|s_nt<|k_ret<|xs_mem (fun _ h=>rh_shut (st:=st) (n:=(st.count:Int)) (T:=st.tch) ⟨⟨⟨hi4,hL5⟩,rfl⟩,rfl⟩ (h.re [0,0,0,0] [])) ?_
 have hend:sizeN st i=hsize st:=sizeN_end om;refine xs_fin [iw (sizeN st i)] (rhA b st::F) (SI.tmp 2 SI.nil) (rr [0] []) ⟨?_,?_⟩
 .rw [←hend];rfl
 rfl
end Go.Proofs.YtmilekfknhglkaaGreat
end
section
set_option linter.unusedSimpArgs false
set_option linter.unusedVariables false
set_option maxRecDepth 100000
set_option maxHeartbeats 2000000
namespace Go.Proofs.YtmilekfknhglkaaGreat
open Go.Hp Go.J Go.S
open Go.Mem (Ty KTy blk elemAt pre suf blk_pre blk_suf aget aset strK aggDesc)
open Go.Mem (adel apos aget_aset aget_adel)
theorem rx_one(x:Rx):((Rx.v x).cells.toList.all fun c=>c.oneCell')=true:=List.all_eq_true.2 (RxT_ok.one x)
theorem rrefs_eq{o:Hob}(h:ObW o):(([]++ridL [o.mt])++ridL (usr o))++ridL (rfs o)=refsOf o:=by
 have h1:∀v∈o.mt::o.vals,isRef v.kind=true→1≤v.ref:=fun v hv hr=>by
  rcases List.mem_cons.1 hv with rfl|hv
  .exact h.mt hr
  exact (idn_valid (h.vals v hv) hr).2
 unfold refsOf;rw[←ridL_ids h1,List.nil_append,List.append_assoc,←ridL_app,←ridL_app];congr 1;show o.mt::(usr o++rfs o)=_;congr 1;unfold usr rfs;split<;>simp
theorem rhobject_s{Z:Zone}{F:List Asr}{b:Nat}{st:Hst}{n:Nat}(hsm:HSm n st)(hn:n≤300)(hw:HW st)(id weak:Int):SF Tryz.prog 14 #[.pointer (some ⟨b,0,none⟩),iw id,iw weak] Z (rhA b st::F) fun r Bs=>∃rv ev,r=.tuple #[.agg #[iw (hoId st id),iw (hoSz st id),iw (hoWk st id weak),rv,ev],.bool (halive st id)]∧Bs=own iTy rv (hrefs st id)::own EntT ev (hents st id)::rhA b st::F:=by
 refine sf_enter Tryz.func14 62 [(0,pB b 0),(1,iw id),(2,iw weak)] (fun w0=>?_);have hlen0:=hsm.len;refine k_sr<|s_alloc (.agg #[iw 0,iw 0,iw 0,(.slice none 0 0),(.slice none 0 0)]) #[iw 0,iw 0,iw 0,(.slice none 0 0),(.slice none 0 0)] (fun g1=>?_)
 refine sP (.bool false)<|s_nt<|k_seq<|k_sr<|sP (pB b 0)<|sP (iw id)<|sC [1] (rhalive_s (st:=st) (by have:=hsm.len;omega) id) ?_
 refine sP (.bool (!(halive st id)))<|s_nt<|k_cond (!(halive st id)) (fun c2=>?_) (fun c2=>?_)
 .have c3:=not_t c2;have hal:halive st id=false:=by simpa using c3
  refine k_sr<|sL (t_kern (.agg #[iw 0,iw 0,iw 0,(.slice none 0 0),(.slice none 0 0)]))<|s_store 1 #[iw 0,iw 0,iw 0,(.slice none 0 0),(.slice none 0 0)] ?_
  refine sP (.bool false)<|s_nt<|k_ret<|xs_ret<|xs_mem (fun _ h=>Holds.nilS (T:=EntT) h) ?_
  refine xs_mem (fun _ h=>Holds.nilS (T:=iTy) h) ?_;have hg0:st.get id=none:=by have h0:=hal;unfold halive at h0;cases hg:st.get id with|none=>rfl|some o=>rw[hg]at h0;cases h0
  have hob:=obj_none hg0 weak;exact xs_fin [.agg #[iw 0,iw 0,iw 0,(.slice none 0 0),(.slice none 0 0)],.bool false] (own iTy (.slice none 0 0) []::own EntT (.slice none 0 0) []::rhA b st::F) (SI.agg 6 46 3 (SI.tmp 7 SI.nil)) (rr [0,0,0] [3]) ⟨(.slice none 0 0),(.slice none 0 0),by rw[hob.1,hob.2.1,hob.2.2.1,hob.2.2.2.1];rfl,by rw[hob.2.2.2.2.1,hob.2.2.2.2.2]⟩
 have c4:=not_f c2;have hal:halive st id=true:=by simpa using c4
 obtain⟨o5,ho6⟩:=Option.isSome_iff_exists.1 hal;have hgm7:=get_mem ho6;obtain⟨hb1,hb2,hb3⟩:=ob_bound hsm hn ho6;have hu1:(usr o5).length≤o5.vals.length∧(rfs o5).length≤o5.vals.length:=by unfold usr rfs;split<;>simp
 refine k_st<|k_sr<|sP3 (pB b 0)<|s_mem3 (fun H h=>rh_open (h.re [0] [])) (fun v8 tv9 L10 hw=>?_)
 obtain⟨hi11,hL12⟩:=hw;have hln13:=rx_len hL12;have htl14:=hi11.tch;refine sL (t_load 0 v8)<|sP (iw id)<|sL (t_sub id 1 ol)<|sL (t_index RxT_ok Tryz.underlying65 (.own 1) (id-1) (((id-1)).toNat) om ol om) ?_
 obtain⟨tp15,uv16,rv17,hy18⟩:=rx_get hL12 ho6;refine sL (t_loadE RxT_ok (.own 1) hy18)<|s_alloc (.agg #[iw 0,iw 0,sw eb,.pointer none,iw 0,iw 0,iw 0,sw eb,iw 0,(.slice none 0 0),(.slice none 0 0)]) #[iw 0,iw 0,sw eb,.pointer none,iw 0,iw 0,iw 0,sw eb,iw 0,(.slice none 0 0),(.slice none 0 0)] (fun g19=>?_)
 refine s_store 0 #[iw o5.kind,iw o5.tag,sw o5.name,(tabV (0,tp15) o5),iw o5.mt.kind,iw o5.mt.p,iw o5.mt.q,sw o5.mt.str,iw o5.mt.ref,uv16.v,rv17.v] ?_ (h1:=rx_one (⟨some o5,tp15,uv16,rv17⟩:Rx));refine s_nt<|k_seq<|k_mem (fun _ h=>rall_out hy18 (h.re [4] [])) ?_
 refine k_reg<|sP (iw id)<|sL (t_loadA 4 #[iw o5.kind,iw o5.tag,sw o5.name,(tabV (0,tp15) o5),iw o5.mt.kind,iw o5.mt.p,iw o5.mt.q,sw o5.mt.str,iw o5.mt.ref,uv16.v,rv17.v]) ?_
 obtain⟨hz1,hz2,hz3⟩:=ob_bound hsm hn ho6;refine sC [0,0,0] (rsize_s (o:=o5) (tp:=tp15) (uv:=uv16) (rv:=rv17) om om om) ?_;refine sL (t_kern (.agg #[iw id,iw (obSize o5),iw 0,(.slice none 0 0),(.slice none 0 0)]))<|s_alloc (.agg #[iw 0,iw 0,iw 0,(.slice none 0 0),(.slice none 0 0)]) #[iw 0,iw 0,iw 0,(.slice none 0 0),(.slice none 0 0)] (fun g20=>?_)
 refine s_store 0 #[iw id,iw (obSize o5),iw 0,(.slice none 0 0),(.slice none 0 0)] ?_;refine s_nr<|sP (pB g20 3)<|sL (t_load 0 (.slice none 0 0))<|sP (pB g19 4)<|sL (t_loadA 5 (vc o5.mt))<|s_buildSlice (e:=32) [(0,.agg (vc o5.mt))] (vc o5.mt) (fun g21=>?_) (hb:=by kernel_rfl)
 refine s_mem (fun _ h=>Holds.nilS (T:=iTy) h) ?_;refine s_mem (fun _ h=>Holds.slice 1 h VlT_ok [o5.mt]) ?_;refine s_call [0,0] (ridents_s (O:=[]) (l:=[o5.mt]) ol ol) ?_;rintro v22 _ rfl;have hrd23:(ridL [o5.mt]).length≤1:=ridL_len _;refine sF 0 (fun hf24=>?_);refine sP (pB g20 3)<|s_store (u:=v22) (m:=1) 2 #[iw id,iw (obSize o5),iw 0,v22,(.slice none 0 0)] ?_ (hm:=by (obtain⟨_,_,e⟩:=hf24;rw[e];rfl)) (h1:=by (obtain⟨_,_,e⟩:=hf24;rw[e];rfl)) (ha':=by (obtain⟨_,_,e⟩:=hf24;rw[e];rfl))
 refine s_nr<|sP (pB g20 3)<|sL (t_load 2 v22)<|sP (pB g19 9)<|sL (t_load 7 uv16.v)<|s_call [0,2] (ridents_s (O:=([]++ridL [o5.mt])) (l:=(usr o5)) ol ol) ?_
 rintro v25 _ rfl;have hrd26:=ridL_len (usr o5);refine sF 0 (fun hf27=>?_);refine sP (pB g20 3)<|s_store (u:=v25) (m:=1) 3 #[iw id,iw (obSize o5),iw 0,v25,(.slice none 0 0)] ?_ (hm:=by (obtain⟨_,_,e⟩:=hf27;rw[e];rfl)) (h1:=by (obtain⟨_,_,e⟩:=hf27;rw[e];rfl)) (ha':=by (obtain⟨_,_,e⟩:=hf27;rw[e];rfl))
 refine s_nr<|sP (pB g20 3)<|sL (t_load 3 v25)<|sP (pB g19 10)<|sL (t_load 7 rv17.v)<|s_call [0,3] (ridents_s (O:=(([]++ridL [o5.mt])++ridL (usr o5))) (l:=(rfs o5)) ol ol) ?_
 rintro v28 _ rfl;have hrd29:=ridL_len (rfs o5);refine sF 0 (fun hf30=>?_);refine sP (pB g20 3)<|s_store (u:=v28) (m:=1) 4 #[iw id,iw (obSize o5),iw 0,v28,(.slice none 0 0)] ?_ (hm:=by (obtain⟨_,_,e⟩:=hf30;rw[e];rfl)) (h1:=by (obtain⟨_,_,e⟩:=hf30;rw[e];rfl)) (ha':=by (obtain⟨_,_,e⟩:=hf30;rw[e];rfl))
 refine s_nt<|k_seq<|k_sr<|sP (pB g19 0)<|sL (t_load 7 (iw o5.kind))<|sL t_cmp<|s_nt<|k_cond (decide (o5.kind=4)) (fun c31=>?_) (fun c31=>?_)
 .have p32:=dY c31;refine k_sr<|sP (pB g19 3)<|sL (Lt.to (v':=ptrV tp15) (t_load 7 (tabV (0,tp15) o5)) (tabV_tab (dY c31)))<|s_mem (fun _ h=>rtO_open (dY c31) (h.re [5] [])) ?_
  refine s_call [0] (rentries_s (L:=o5.tab.list) (S:=o5.tab.rest) (hi11.obs o5 (get_mem ho6).1).tab (hw.of ho6).tw ol ol) ?_;rintro v33 _ rfl;refine sF 0 (fun hf34=>?_);refine sP (pB g20 4)<|s_store (u:=v33) (m:=1) 6 #[iw id,iw (obSize o5),iw 0,v28,v33] ?_ (hm:=by (obtain⟨_,_,e⟩:=hf34;rw[e];rfl)) (h1:=by (obtain⟨_,_,e⟩:=hf34;rw[e];rfl)) (ha':=by (obtain⟨_,_,e⟩:=hf34;rw[e];rfl))
  refine s_nt<|k_cut (ι:=Unit) (fun _=>True) (fun _=>[(2,iw weak),(6,pB g1 0),(9,pB g20 0),(58,.bool ((decide ((0:Int)≤weak))&&(decide (weak≤3))))]) (fun _=>own EntT v33 (entsOf ⟨o5.tab.list,o5.tab.rest⟩)::rtA tp15 o5.tab.list o5.tab.rest::own iTy v28 ((([]++ridL [o5.mt])++ridL (usr o5))++ridL (rfs o5))::own VlT rv17.v (rfs o5)::own VlT uv16.v (usr o5)::own VlT (.slice (some ⟨g21,0,none⟩) 1 1) [o5.mt]::blkA g20 #[iw id,iw (obSize o5),iw 0,v28,v33] 46::rallP (L10.eraseIdx ((id-1)).toNat)::blkA g19 #[iw o5.kind,iw o5.tag,sw o5.name,(tabV (0,tp15) o5),iw o5.mt.kind,iw o5.mt.p,iw o5.mt.q,sw o5.mt.str,iw o5.mt.ref,uv16.v,rv17.v] 86::blkA b #[v8,iw (st.count:Int),tv9] 68::own RxT v8 L10::own bTy tv9 st.tch::blkA g1 #[iw 0,iw 0,iw 0,(.slice none 0 0),(.slice none 0 0)] 46::F) ?_ (fun _ _=>?_)
  .refine k_reg<|sP (iw weak)<|sL t_cmp<|sP (.bool (decide ((0:Int)≤weak)))<|s_fork 55 (decide ((0:Int)≤weak)) (fun c35=>?_) (fun c35=>?_)
   .have p36:=dY c35;refine sP (iw weak)<|sL t_cmp<|sP (.bool (decide (weak≤3)))<|s_nil ?_
    exact xs_cut () trivial (sub_of rfl (rQ (rQ (rQ ⟨⟨rfl,show Value.bool (decide (weak≤3))=Value.bool ((decide ((0:Int)≤weak))&&(decide (weak≤3))) by first|(simp only[c35,bls];done)|simp[c35]⟩,trivial⟩)))) (rr [0,0,0,0,0,0,0,0,0,0,0,0,0] [])
   have p37:=dF c35;refine sK<|sK<|sP (.bool false)<|s_nil ?_
   exact xs_cut () trivial (sub_of rfl (rQ (rQ (rQ ⟨⟨rfl,show Value.bool false=Value.bool ((decide ((0:Int)≤weak))&&(decide (weak≤3))) by first|(simp only[c35,bls];done)|simp[c35]⟩,trivial⟩)))) (rr [0,0,0,0,0,0,0,0,0,0,0,0,0] [])
  refine k_cond ((decide ((0:Int)≤weak))&&(decide (weak≤3))) (fun c38=>?_) (fun c38=>?_)
  .obtain ⟨c39,c40⟩:=and_t c38;have p41:=dY c39;have p42:=dY c40;refine k_reg<|sP (iw weak)<|sP (pB g20 2)<|s_store 6 #[iw id,iw (obSize o5),iw weak,v28,v33] ?_
   refine s_nr<|sL (t_loadA 6 #[iw id,iw (obSize o5),iw weak,v28,v33])<|s_store (u:=.agg #[iw id,iw (obSize o5),iw weak,v28,v33]) (m:=5) 12 #[iw id,iw (obSize o5),iw weak,v28,v33] ?_ (hm:=by (obtain⟨_,_,e⟩:=hf30;rw[e];obtain⟨_,_,e⟩:=hf34;rw[e];rfl)) (h1:=by (obtain⟨_,_,e⟩:=hf30;rw[e];obtain⟨_,_,e⟩:=hf34;rw[e];rfl)) (ha':=by (obtain⟨_,_,e⟩:=hf30;rw[e];obtain⟨_,_,e⟩:=hf34;rw[e];rfl))
   refine sP (.bool true)<|s_nt<|k_ret<|xs_mem (fun _ h=>rtO_shut (T:=o5.tab) (dY c31) (h.re [1] [])) ?_
   refine xs_mem (Bs:=rtO tp15 o5::own EntT v33 (entsOf ⟨o5.tab.list,o5.tab.rest⟩)::own iTy v28 ((([]++ridL [o5.mt])++ridL (usr o5))++ridL (rfs o5))::own VlT rv17.v (rfs o5)::own VlT uv16.v (usr o5)::own VlT (.slice (some ⟨g21,0,none⟩) 1 1) [o5.mt]::blkA g20 #[iw id,iw (obSize o5),iw weak,v28,v33] 46::rallP (L10.eraseIdx ((id-1)).toNat)::blkA g19 #[iw o5.kind,iw o5.tag,sw o5.name,(tabV (0,tp15) o5),iw o5.mt.kind,iw o5.mt.p,iw o5.mt.q,sw o5.mt.str,iw o5.mt.ref,uv16.v,rv17.v] 86::blkA b #[v8,iw (st.count:Int),tv9] 68::own RxT v8 L10::own bTy tv9 st.tch::blkA g1 #[iw id,iw (obSize o5),iw weak,v28,v33] 46::F) (fun _ h=>h) ?_;refine xs_mem (fun _ h=>rall_same hy18 (rall_in (o':=o5) (uv':=uv16) (rv':=rv17) hy18 (h.re [4,3,0,4] []))) ?_;refine xs_mem (fun _ h=>rh_shut (st:=st) (n:=(st.count:Int)) (T:=st.tch) ⟨⟨⟨hi11,hL12⟩,rfl⟩,rfl⟩ (h.re [6,6,6,0] [])) ?_;have hob:=obj_some ho6 weak;have hwk:hweak o5 weak=weak:=by unfold hweak;rw[if_pos ⟨dY c31,by grind,by grind⟩]
   have hen:hents st id=(entsOf o5.tab):=by rw[hob.2.2.2.2.2];exact if_pos (dY c31)
   have hre:=rrefs_eq (hw.of ho6);exact xs_fin [.agg #[iw id,iw (obSize o5),iw weak,v28,v33],.bool true] (own iTy v28 ((([]++ridL [o5.mt])++ridL (usr o5))++ridL (rfs o5))::own EntT v33 (entsOf o5.tab)::rhA b st::F) (SI.agg 6 46 6 (SI.tmp 7 SI.nil)) (rr [2,1,0] [3,3,3,3]) ⟨v28,v33,by rw[hob.1,hob.2.1,hob.2.2.1,hob.2.2.2.1,hwk];rfl,by rw[hen,hob.2.2.2.2.1,hre]⟩
  have p43:=c38;simp only[Bool.and_eq_true,Bool.or_eq_true,Bool.and_eq_false_iff,Bool.or_eq_false_iff,Bool.not_eq_true',Bool.not_eq_false',decide_eq_true_eq,decide_eq_false_iff_not]at p43;refine k_st<|k_sr<|sL (t_loadA 6 #[iw id,iw (obSize o5),iw 0,v28,v33])<|s_store (u:=.agg #[iw id,iw (obSize o5),iw 0,v28,v33]) (m:=5) 12 #[iw id,iw (obSize o5),iw 0,v28,v33] ?_ (hm:=by (obtain⟨_,_,e⟩:=hf30;rw[e];obtain⟨_,_,e⟩:=hf34;rw[e];rfl)) (h1:=by (obtain⟨_,_,e⟩:=hf30;rw[e];obtain⟨_,_,e⟩:=hf34;rw[e];rfl)) (ha':=by (obtain⟨_,_,e⟩:=hf30;rw[e];obtain⟨_,_,e⟩:=hf34;rw[e];rfl))
  refine sP (.bool true)<|s_nt<|k_ret<|xs_mem (fun _ h=>rtO_shut (T:=o5.tab) (dY c31) (h.re [1] [])) ?_
  refine xs_mem (Bs:=rtO tp15 o5::own EntT v33 (entsOf ⟨o5.tab.list,o5.tab.rest⟩)::own iTy v28 ((([]++ridL [o5.mt])++ridL (usr o5))++ridL (rfs o5))::own VlT rv17.v (rfs o5)::own VlT uv16.v (usr o5)::own VlT (.slice (some ⟨g21,0,none⟩) 1 1) [o5.mt]::blkA g20 #[iw id,iw (obSize o5),iw 0,v28,v33] 46::rallP (L10.eraseIdx ((id-1)).toNat)::blkA g19 #[iw o5.kind,iw o5.tag,sw o5.name,(tabV (0,tp15) o5),iw o5.mt.kind,iw o5.mt.p,iw o5.mt.q,sw o5.mt.str,iw o5.mt.ref,uv16.v,rv17.v] 86::blkA b #[v8,iw (st.count:Int),tv9] 68::own RxT v8 L10::own bTy tv9 st.tch::blkA g1 #[iw id,iw (obSize o5),iw 0,v28,v33] 46::F) (fun _ h=>h) ?_;refine xs_mem (fun _ h=>rall_same hy18 (rall_in (o':=o5) (uv':=uv16) (rv':=rv17) hy18 (h.re [4,3,0,4] []))) ?_;refine xs_mem (fun _ h=>rh_shut (st:=st) (n:=(st.count:Int)) (T:=st.tch) ⟨⟨⟨hi11,hL12⟩,rfl⟩,rfl⟩ (h.re [6,6,6,0] [])) ?_;have hob:=obj_some ho6 weak;have hwk:hweak o5 weak=0:=by unfold hweak;rw[if_neg];rintro⟨h1,h2,h3⟩;grind
  have hen:hents st id=(entsOf o5.tab):=by rw[hob.2.2.2.2.2];exact if_pos (dY c31)
  have hre:=rrefs_eq (hw.of ho6);exact xs_fin [.agg #[iw id,iw (obSize o5),iw 0,v28,v33],.bool true] (own iTy v28 ((([]++ridL [o5.mt])++ridL (usr o5))++ridL (rfs o5))::own EntT v33 (entsOf o5.tab)::rhA b st::F) (SI.agg 6 46 6 (SI.tmp 7 SI.nil)) (rr [2,1,0] [3,3,3,3]) ⟨v28,v33,by rw[hob.1,hob.2.1,hob.2.2.1,hob.2.2.2.1,hwk];rfl,by rw[hen,hob.2.2.2.2.1,hre]⟩
 have p44:=dF c31;refine k_st<|k_sr<|sL (t_loadA 4 #[iw id,iw (obSize o5),iw 0,v28,(.slice none 0 0)])<|s_store (u:=.agg #[iw id,iw (obSize o5),iw 0,v28,(.slice none 0 0)]) (m:=5) 11 #[iw id,iw (obSize o5),iw 0,v28,(.slice none 0 0)] ?_ (hm:=by (obtain⟨_,_,e⟩:=hf30;rw[e];rfl)) (h1:=by (obtain⟨_,_,e⟩:=hf30;rw[e];rfl)) (ha':=by (obtain⟨_,_,e⟩:=hf30;rw[e];rfl))
 refine sP (.bool true)<|s_nt<|k_ret<|xs_mem (fun _ h=>rall_same hy18 (rall_in (o':=o5) (uv':=uv16) (rv':=rv17) hy18 (h.re [2,1,3,3] []))) ?_
 refine xs_mem (fun _ h=>rh_shut (st:=st) (n:=(st.count:Int)) (T:=st.tch) ⟨⟨⟨hi11,hL12⟩,rfl⟩,rfl⟩ (h.re [5,5,5,0] [])) ?_;refine xs_mem (fun _ h=>Holds.nilS (T:=EntT) h) ?_;have hob:=obj_some ho6 weak;have hwk:hweak o5 weak=0:=by unfold hweak;rw[if_neg];rintro⟨h1,h2,h3⟩;exact absurd h1 (dF c31)
 have hen:hents st id=[]:=by rw[hob.2.2.2.2.2];exact if_neg (dF c31)
 have hre:=rrefs_eq (hw.of ho6);exact xs_fin [.agg #[iw id,iw (obSize o5),iw 0,v28,(.slice none 0 0)],.bool true] (own iTy v28 ((([]++ridL [o5.mt])++ridL (usr o5))++ridL (rfs o5))::own EntT (.slice none 0 0) []::rhA b st::F) (SI.agg 6 46 6 (SI.tmp 7 SI.nil)) (rr [2,0,0] [3,3,3,3]) ⟨v28,(.slice none 0 0),by rw[hob.1,hob.2.1,hob.2.2.1,hob.2.2.2.1,hwk];rfl,by rw[hen,hob.2.2.2.2.1,hre]⟩
end Go.Proofs.YtmilekfknhglkaaGreat
end
section
set_option linter.unusedSimpArgs false
set_option linter.unusedVariables false
set_option maxRecDepth 100000
set_option maxHeartbeats 2000000
namespace Go.Proofs.YtmilekfknhglkaaGreat
open Go.Hp Go.J Go.S
open Go.Mem (Ty KTy blk elemAt pre suf blk_pre blk_suf aget aset strK aggDesc)
open Go.Mem (adel apos aget_aset aget_adel)
theorem document_s{Z:Zone}{F:List Asr}{b:Nat}{st:Hst}{n:Nat}(hsm:HSm n st)(hn:n≤300)(hw:HW st){c:Cl}(hc:KnC Z c)(hcl:c.l.length≤20):SF Tryz.prog 9 #[.pointer (some ⟨b,0,none⟩),c.w] Z (rhA b st::F) fun r Bs=>r=(hres st c).w_∧Bs=rhA b (hcall st c)::F:=by
 refine sf_enter Tryz.func9 246 [(0,pB b 0),(1,.agg #[iw c.kind,iw c.a.kind,iw c.a.p,iw c.a.q,sw c.a.str,iw c.a.ref,iw c.b.kind,iw c.b.p,iw c.b.q,sw c.b.str,iw c.b.ref,iw c.c.kind,iw c.c.p,iw c.c.q,sw c.c.str,iw c.c.ref,iw c.n,sw c.s,c.lv.v])] (fun w0=>?_);have hlen0:=hsm.len;refine k_sr<|s_box #[iw c.kind,iw c.a.kind,iw c.a.p,iw c.a.q,sw c.a.str,iw c.a.ref,iw c.b.kind,iw c.b.p,iw c.b.q,sw c.b.str,iw c.b.ref,iw c.c.kind,iw c.c.p,iw c.c.q,sw c.c.str,iw c.c.ref,iw c.n,sw c.s,c.lv.v] (fun g1=>?_)
 refine s_alloc (.agg #[iw 0,iw 0,iw 0,sw eb,iw 0,iw 0,iw 0,iw 0,sw eb,iw 0,iw 0,sw eb,.bool false,iw 0]) #[iw 0,iw 0,iw 0,sw eb,iw 0,iw 0,iw 0,iw 0,sw eb,iw 0,iw 0,sw eb,.bool false,iw 0] (fun g2=>?_);refine s_nr<|sL (t_kern (.agg #[iw 0,iw 0,iw 0,sw eb,iw 0,iw 0,iw 0,iw 0,sw eb,iw 0,iw 0,sw eb,.bool false,iw 0]))<|s_alloc (.agg #[iw 0,iw 0,iw 0,sw eb,iw 0,iw 0,iw 0,iw 0,sw eb,iw 0,iw 0,sw eb,.bool false,iw 0]) #[iw 0,iw 0,iw 0,sw eb,iw 0,iw 0,iw 0,iw 0,sw eb,iw 0,iw 0,sw eb,.bool false,iw 0] (fun g3=>?_)
 refine s_store 0 #[iw 0,iw 0,iw 0,sw eb,iw 0,iw 0,iw 0,iw 0,sw eb,iw 0,iw 0,sw eb,.bool false,iw 0] ?_;refine s_nt<|k_seq<|k_sr<|sP (pB g1 0)<|sL (t_load 2 (iw c.kind))<|s_nt<|k_block<|k_sr<|sL t_cmp<|sP (.bool (decide (c.kind=0)))<|s_nt<|k_cond (decide (c.kind=0)) (fun c4=>?_) (fun c4=>?_)
 .have p5:=dY c4;refine k_sr<|sP (pB b 0)<|sC [3] (rhnewtable_s (st:=st) (by have:=hsm.len;omega)) ?_
  refine sP (.tuple #[.agg (vc (hmakeV st 4)),iw (hmakeE st)])<|sP (.agg (vc (hmakeV st 4)))<|sP (iw (hmakeE st))<|s_alloc (.agg zc) zc (fun g6=>?_)
  refine s_store 0 (vc (hmakeV st 4)) ?_;refine sP (iw (hmakeE st))<|s_nt<|k_reg<|sL (t_loadA 0 (vc (hmakeV st 4)))<|sP (iw (hmakeE st))<|sL (t_kern (.agg #[iw ((hmakeV st 4).kind),iw ((hmakeV st 4).p),iw ((hmakeV st 4).q),sw ((hmakeV st 4).str),iw ((hmakeV st 4).ref),iw 0,iw 0,iw 0,sw eb,iw 0,iw 0,sw eb,.bool false,iw (hmakeE st)]))<|s_store 2 #[iw ((hmakeV st 4).kind),iw ((hmakeV st 4).p),iw ((hmakeV st 4).q),sw ((hmakeV st 4).str),iw ((hmakeV st 4).ref),iw 0,iw 0,iw 0,sw eb,iw 0,iw 0,sw eb,.bool false,iw (hmakeE st)] ?_
  refine s_nil<|xs_block<|xs_then<|k_sr<|sL (t_loadA 2 #[iw ((hmakeV st 4).kind),iw ((hmakeV st 4).p),iw ((hmakeV st 4).q),sw ((hmakeV st 4).str),iw ((hmakeV st 4).ref),iw 0,iw 0,iw 0,sw eb,iw 0,iw 0,sw eb,.bool false,iw (hmakeE st)])<|s_store 3 #[iw ((hmakeV st 4).kind),iw ((hmakeV st 4).p),iw ((hmakeV st 4).q),sw ((hmakeV st 4).str),iw ((hmakeV st 4).ref),iw 0,iw 0,iw 0,sw eb,iw 0,iw 0,sw eb,.bool false,iw (hmakeE st)] ?_
  refine s_nt<|k_ret ?_
  have h1:hcall st c=hmake st (newO 4 0 eb []):=hcall_0 om;have h2:hres st c=⟨hmakeV st 4,zVl,0,eb,false,hmakeE st⟩:=hres_0 om;refine xs_fin [.agg #[iw ((hmakeV st 4).kind),iw ((hmakeV st 4).p),iw ((hmakeV st 4).q),sw ((hmakeV st 4).str),iw ((hmakeV st 4).ref),iw 0,iw 0,iw 0,sw eb,iw 0,iw 0,sw eb,.bool false,iw (hmakeE st)]] (rhA b (hmake st (newO 4 0 eb []))::F) (SI.agg 4 35 3 SI.nil) (rr [1] [1,1,1,1]) ⟨?_,?_⟩
  .rw [h2];rfl
  rw[h1]
 have p7:=dF c4;refine k_sr<|sL t_cmp<|sP (.bool (decide (c.kind=1)))<|s_nt<|k_cond (decide (c.kind=1)) (fun c8=>?_) (fun c8=>?_)
 .have p9:=dY c8;refine k_sr<|sP (pB b 0)<|sP (pB g1 16)<|sL (t_load 2 (iw c.n))<|sC [3] (rhnewfunc_s (st:=st) (by have:=hsm.len;omega) c.n) ?_
  refine sP (.tuple #[.agg (vc (hmakeV st 5)),iw (hmakeE st)])<|sP (.agg (vc (hmakeV st 5)))<|sP (iw (hmakeE st))<|s_alloc (.agg zc) zc (fun g10=>?_)
  refine s_store 0 (vc (hmakeV st 5)) ?_;refine sP (iw (hmakeE st))<|s_nt<|k_reg<|sL (t_loadA 0 (vc (hmakeV st 5)))<|sP (iw (hmakeE st))<|sL (t_kern (.agg #[iw ((hmakeV st 5).kind),iw ((hmakeV st 5).p),iw ((hmakeV st 5).q),sw ((hmakeV st 5).str),iw ((hmakeV st 5).ref),iw 0,iw 0,iw 0,sw eb,iw 0,iw 0,sw eb,.bool false,iw (hmakeE st)]))<|s_store 2 #[iw ((hmakeV st 5).kind),iw ((hmakeV st 5).p),iw ((hmakeV st 5).q),sw ((hmakeV st 5).str),iw ((hmakeV st 5).ref),iw 0,iw 0,iw 0,sw eb,iw 0,iw 0,sw eb,.bool false,iw (hmakeE st)] ?_
  refine s_nil<|xs_block<|xs_then<|k_sr<|sL (t_loadA 2 #[iw ((hmakeV st 5).kind),iw ((hmakeV st 5).p),iw ((hmakeV st 5).q),sw ((hmakeV st 5).str),iw ((hmakeV st 5).ref),iw 0,iw 0,iw 0,sw eb,iw 0,iw 0,sw eb,.bool false,iw (hmakeE st)])<|s_store 3 #[iw ((hmakeV st 5).kind),iw ((hmakeV st 5).p),iw ((hmakeV st 5).q),sw ((hmakeV st 5).str),iw ((hmakeV st 5).ref),iw 0,iw 0,iw 0,sw eb,iw 0,iw 0,sw eb,.bool false,iw (hmakeE st)] ?_
  refine s_nt<|k_ret ?_
  have h1:hcall st c=hmake st (newO 5 c.n eb []):=hcall_1 om;have h2:hres st c=⟨hmakeV st 5,zVl,0,eb,false,hmakeE st⟩:=hres_1 om;refine xs_fin [.agg #[iw ((hmakeV st 5).kind),iw ((hmakeV st 5).p),iw ((hmakeV st 5).q),sw ((hmakeV st 5).str),iw ((hmakeV st 5).ref),iw 0,iw 0,iw 0,sw eb,iw 0,iw 0,sw eb,.bool false,iw (hmakeE st)]] (rhA b (hmake st (newO 5 c.n eb []))::F) (SI.agg 4 35 3 SI.nil) (rr [1] [1,1,1,1]) ⟨?_,?_⟩
  .rw [h2];rfl
  rw[h1]
 have p11:=dF c8;refine k_sr<|sL t_cmp<|sP (.bool (decide (c.kind=2)))<|s_nt<|k_cond (decide (c.kind=2)) (fun c12=>?_) (fun c12=>?_)
 .have p13:=dY c12;refine k_sr<|sP (pB b 0)<|sP (pB g1 16)<|sL (t_load 2 (iw c.n))<|sC [3] (rhnewthread_s (st:=st) (by have:=hsm.len;omega) c.n) ?_
  refine sP (.tuple #[.agg (vc (hmakeV st 7)),iw (hmakeE st)])<|sP (.agg (vc (hmakeV st 7)))<|sP (iw (hmakeE st))<|s_alloc (.agg zc) zc (fun g14=>?_)
  refine s_store 0 (vc (hmakeV st 7)) ?_;refine sP (iw (hmakeE st))<|s_nt<|k_reg<|sL (t_loadA 0 (vc (hmakeV st 7)))<|sP (iw (hmakeE st))<|sL (t_kern (.agg #[iw ((hmakeV st 7).kind),iw ((hmakeV st 7).p),iw ((hmakeV st 7).q),sw ((hmakeV st 7).str),iw ((hmakeV st 7).ref),iw 0,iw 0,iw 0,sw eb,iw 0,iw 0,sw eb,.bool false,iw (hmakeE st)]))<|s_store 2 #[iw ((hmakeV st 7).kind),iw ((hmakeV st 7).p),iw ((hmakeV st 7).q),sw ((hmakeV st 7).str),iw ((hmakeV st 7).ref),iw 0,iw 0,iw 0,sw eb,iw 0,iw 0,sw eb,.bool false,iw (hmakeE st)] ?_
  refine s_nil<|xs_block<|xs_then<|k_sr<|sL (t_loadA 2 #[iw ((hmakeV st 7).kind),iw ((hmakeV st 7).p),iw ((hmakeV st 7).q),sw ((hmakeV st 7).str),iw ((hmakeV st 7).ref),iw 0,iw 0,iw 0,sw eb,iw 0,iw 0,sw eb,.bool false,iw (hmakeE st)])<|s_store 3 #[iw ((hmakeV st 7).kind),iw ((hmakeV st 7).p),iw ((hmakeV st 7).q),sw ((hmakeV st 7).str),iw ((hmakeV st 7).ref),iw 0,iw 0,iw 0,sw eb,iw 0,iw 0,sw eb,.bool false,iw (hmakeE st)] ?_
  refine s_nt<|k_ret ?_
  have h1:hcall st c=hmake st (newO 7 c.n eb []):=hcall_2 om;have h2:hres st c=⟨hmakeV st 7,zVl,0,eb,false,hmakeE st⟩:=hres_2 om;refine xs_fin [.agg #[iw ((hmakeV st 7).kind),iw ((hmakeV st 7).p),iw ((hmakeV st 7).q),sw ((hmakeV st 7).str),iw ((hmakeV st 7).ref),iw 0,iw 0,iw 0,sw eb,iw 0,iw 0,sw eb,.bool false,iw (hmakeE st)]] (rhA b (hmake st (newO 7 c.n eb []))::F) (SI.agg 4 35 3 SI.nil) (rr [1] [1,1,1,1]) ⟨?_,?_⟩
  .rw [h2];rfl
  rw[h1]
 have p15:=dF c12;refine k_sr<|sL t_cmp<|sP (.bool (decide (c.kind=3)))<|s_nt<|k_cond (decide (c.kind=3)) (fun c16=>?_) (fun c16=>?_)
 .have p17:=dY c16;refine k_sr<|sP (pB b 0)<|sP (pB g1 17)<|sL (t_load 2 (sw c.s))<|sC [3] (rhnewdata_s (st:=st) (by have:=hsm.len;omega) c.s) ?_
  refine sP (.tuple #[.agg (vc (hdataV st c.s)),iw (hdataE st c.s)])<|sP (.agg (vc (hdataV st c.s)))<|sP (iw (hdataE st c.s))<|s_alloc (.agg zc) zc (fun g18=>?_)
  refine s_store 0 (vc (hdataV st c.s)) ?_;refine sP (iw (hdataE st c.s))<|s_nt<|k_reg<|sL (t_loadA 0 (vc (hdataV st c.s)))<|sP (iw (hdataE st c.s))<|sL (t_kern (.agg #[iw ((hdataV st c.s).kind),iw ((hdataV st c.s).p),iw ((hdataV st c.s).q),sw ((hdataV st c.s).str),iw ((hdataV st c.s).ref),iw 0,iw 0,iw 0,sw eb,iw 0,iw 0,sw eb,.bool false,iw (hdataE st c.s)]))<|s_store 2 #[iw ((hdataV st c.s).kind),iw ((hdataV st c.s).p),iw ((hdataV st c.s).q),sw ((hdataV st c.s).str),iw ((hdataV st c.s).ref),iw 0,iw 0,iw 0,sw eb,iw 0,iw 0,sw eb,.bool false,iw (hdataE st c.s)] ?_
  refine s_nil<|xs_block<|xs_then<|k_sr<|sL (t_loadA 2 #[iw ((hdataV st c.s).kind),iw ((hdataV st c.s).p),iw ((hdataV st c.s).q),sw ((hdataV st c.s).str),iw ((hdataV st c.s).ref),iw 0,iw 0,iw 0,sw eb,iw 0,iw 0,sw eb,.bool false,iw (hdataE st c.s)])<|s_store 3 #[iw ((hdataV st c.s).kind),iw ((hdataV st c.s).p),iw ((hdataV st c.s).q),sw ((hdataV st c.s).str),iw ((hdataV st c.s).ref),iw 0,iw 0,iw 0,sw eb,iw 0,iw 0,sw eb,.bool false,iw (hdataE st c.s)] ?_
  refine s_nt<|k_ret ?_
  have h1:hcall st c=hdata st c.s:=hcall_3 om;have h2:hres st c=⟨hdataV st c.s,zVl,0,eb,false,hdataE st c.s⟩:=hres_3 om;refine xs_fin [.agg #[iw ((hdataV st c.s).kind),iw ((hdataV st c.s).p),iw ((hdataV st c.s).q),sw ((hdataV st c.s).str),iw ((hdataV st c.s).ref),iw 0,iw 0,iw 0,sw eb,iw 0,iw 0,sw eb,.bool false,iw (hdataE st c.s)]] (rhA b (hdata st c.s)::F) (SI.agg 4 35 3 SI.nil) (rr [1] [1,1,1,1]) ⟨?_,?_⟩
  .rw [h2];rfl
  rw[h1]
 have p19:=dF c16;refine k_sr<|sL t_cmp<|sP (.bool (decide (c.kind=4)))<|s_nt<|k_cond (decide (c.kind=4)) (fun c20=>?_) (fun c20=>?_)
 .have p21:=dY c20;refine k_sr<|sP (pB b 0)<|sP (pB g1 1)<|sL (t_loadA 2 (vc c.a))<|sP (pB g1 6)<|sL (t_loadA 2 (vc c.b))<|sC [3] (rhget_s (st:=st) hsm om c.a c.b) ?_
  refine sP (.tuple #[.agg (vc (hgetV st c.a c.b)),iw (hgetE st c.a)])<|sP (.agg (vc (hgetV st c.a c.b)))<|sP (iw (hgetE st c.a))<|s_alloc (.agg zc) zc (fun g22=>?_)
  refine s_store 0 (vc (hgetV st c.a c.b)) ?_;refine sP (iw (hgetE st c.a))<|s_nt<|k_reg<|sL (t_loadA 0 (vc (hgetV st c.a c.b)))<|sP (iw (hgetE st c.a))<|sL (t_kern (.agg #[iw ((hgetV st c.a c.b).kind),iw ((hgetV st c.a c.b).p),iw ((hgetV st c.a c.b).q),sw ((hgetV st c.a c.b).str),iw ((hgetV st c.a c.b).ref),iw 0,iw 0,iw 0,sw eb,iw 0,iw 0,sw eb,.bool false,iw (hgetE st c.a)]))<|s_store 2 #[iw ((hgetV st c.a c.b).kind),iw ((hgetV st c.a c.b).p),iw ((hgetV st c.a c.b).q),sw ((hgetV st c.a c.b).str),iw ((hgetV st c.a c.b).ref),iw 0,iw 0,iw 0,sw eb,iw 0,iw 0,sw eb,.bool false,iw (hgetE st c.a)] ?_
  refine s_nil<|xs_block<|xs_then<|k_sr<|sL (t_loadA 2 #[iw ((hgetV st c.a c.b).kind),iw ((hgetV st c.a c.b).p),iw ((hgetV st c.a c.b).q),sw ((hgetV st c.a c.b).str),iw ((hgetV st c.a c.b).ref),iw 0,iw 0,iw 0,sw eb,iw 0,iw 0,sw eb,.bool false,iw (hgetE st c.a)])<|s_store 3 #[iw ((hgetV st c.a c.b).kind),iw ((hgetV st c.a c.b).p),iw ((hgetV st c.a c.b).q),sw ((hgetV st c.a c.b).str),iw ((hgetV st c.a c.b).ref),iw 0,iw 0,iw 0,sw eb,iw 0,iw 0,sw eb,.bool false,iw (hgetE st c.a)] ?_
  refine s_nt<|k_ret ?_
  have h1:hcall st c=st:=hcall_4 om;have h2:hres st c=⟨hgetV st c.a c.b,zVl,0,eb,false,hgetE st c.a⟩:=hres_4 om;refine xs_fin [.agg #[iw ((hgetV st c.a c.b).kind),iw ((hgetV st c.a c.b).p),iw ((hgetV st c.a c.b).q),sw ((hgetV st c.a c.b).str),iw ((hgetV st c.a c.b).ref),iw 0,iw 0,iw 0,sw eb,iw 0,iw 0,sw eb,.bool false,iw (hgetE st c.a)]] (rhA b st::F) (SI.agg 4 35 3 SI.nil) (rr [1] [1,1,1,1]) ⟨?_,?_⟩
  .rw [h2];rfl
  rw[h1]
 have p23:=dF c20;refine k_sr<|sL t_cmp<|sP (.bool (decide (c.kind=5)))<|s_nt<|k_cond (decide (c.kind=5)) (fun c24=>?_) (fun c24=>?_)
 .have p25:=dY c24;refine k_reg<|sP (pB b 0)<|sP (pB g1 1)<|sL (t_loadA 2 (vc c.a))<|sP (pB g1 6)<|sL (t_loadA 2 (vc c.b))<|sP (pB g1 11)<|sL (t_loadA 2 (vc c.c))<|sC [3] (rhset_s (st:=st) hsm om c.a c.b c.c) ?_
  refine sP (pB g3 13)<|s_store 1 #[iw 0,iw 0,iw 0,sw eb,iw 0,iw 0,iw 0,iw 0,sw eb,iw 0,iw 0,sw eb,.bool false,iw (hsetE st c.a c.b c.c)] ?_
  refine s_nil<|xs_block<|xs_then<|k_sr<|sL (t_loadA 1 #[iw 0,iw 0,iw 0,sw eb,iw 0,iw 0,iw 0,iw 0,sw eb,iw 0,iw 0,sw eb,.bool false,iw (hsetE st c.a c.b c.c)])<|s_store 2 #[iw 0,iw 0,iw 0,sw eb,iw 0,iw 0,iw 0,iw 0,sw eb,iw 0,iw 0,sw eb,.bool false,iw (hsetE st c.a c.b c.c)] ?_
  refine s_nt<|k_ret ?_
  have h1:hcall st c=hset st c.a c.b c.c:=hcall_5 om;have h2:hres st c=⟨zVl,zVl,0,eb,false,hsetE st c.a c.b c.c⟩:=hres_5 om;refine xs_fin [.agg #[iw 0,iw 0,iw 0,sw eb,iw 0,iw 0,iw 0,iw 0,sw eb,iw 0,iw 0,sw eb,.bool false,iw (hsetE st c.a c.b c.c)]] (rhA b (hset st c.a c.b c.c)::F) (SI.agg 4 35 2 SI.nil) (rr [0] [1,1,1]) ⟨?_,?_⟩
  .rw [h2];rfl
  rw[h1]
 have p26:=dF c24;refine k_sr<|sL t_cmp<|sP (.bool (decide (c.kind=6)))<|s_nt<|k_cond (decide (c.kind=6)) (fun c27=>?_) (fun c27=>?_)
 .have p28:=dY c27;refine k_sr<|sP (pB b 0)<|sP (pB g1 1)<|sL (t_loadA 2 (vc c.a))<|sC [3] (rhlen_s (st:=st) hsm om c.a) ?_
  refine sP (.tuple #[iw (hlenV st c.a),iw (hgetE st c.a)])<|sP (iw (hlenV st c.a))<|sP (iw (hgetE st c.a))<|sP (iw (hlenV st c.a))<|sP (iw (hgetE st c.a))<|s_nt<|k_reg<|sP (iw (hlenV st c.a))<|sP (iw (hgetE st c.a))<|sL (t_kern (.agg #[iw 0,iw 0,iw 0,sw eb,iw 0,iw 0,iw 0,iw 0,sw eb,iw 0,iw (hlenV st c.a),sw eb,.bool false,iw (hgetE st c.a)]))<|s_store 1 #[iw 0,iw 0,iw 0,sw eb,iw 0,iw 0,iw 0,iw 0,sw eb,iw 0,iw (hlenV st c.a),sw eb,.bool false,iw (hgetE st c.a)] ?_
  refine s_nil<|xs_block<|xs_then<|k_sr<|sL (t_loadA 1 #[iw 0,iw 0,iw 0,sw eb,iw 0,iw 0,iw 0,iw 0,sw eb,iw 0,iw (hlenV st c.a),sw eb,.bool false,iw (hgetE st c.a)])<|s_store 2 #[iw 0,iw 0,iw 0,sw eb,iw 0,iw 0,iw 0,iw 0,sw eb,iw 0,iw (hlenV st c.a),sw eb,.bool false,iw (hgetE st c.a)] ?_
  refine s_nt<|k_ret ?_
  have h1:hcall st c=st:=hcall_6 om;have h2:hres st c=⟨zVl,zVl,hlenV st c.a,eb,false,hgetE st c.a⟩:=hres_6 om;refine xs_fin [.agg #[iw 0,iw 0,iw 0,sw eb,iw 0,iw 0,iw 0,iw 0,sw eb,iw 0,iw (hlenV st c.a),sw eb,.bool false,iw (hgetE st c.a)]] (rhA b st::F) (SI.agg 4 35 2 SI.nil) (rr [0] [1,1,1]) ⟨?_,?_⟩
  .rw [h2];rfl
  rw[h1]
 have p29:=dF c27;refine k_sr<|sL t_cmp<|sP (.bool (decide (c.kind=7)))<|s_nt<|k_cond (decide (c.kind=7)) (fun c30=>?_) (fun c30=>?_)
 .have p31:=dY c30;refine k_sr<|sP (pB b 0)<|sP (pB g1 1)<|sL (t_loadA 2 (vc c.a))<|sP (pB g1 6)<|sL (t_loadA 2 (vc c.b))<|sC [3] (rhnext_s (st:=st) hsm om c.a c.b) ?_
  refine sP (.tuple #[.agg (vc ((hnext st c.a c.b).1)),.agg (vc ((hnext st c.a c.b).2.1)),.bool ((hnext st c.a c.b).2.2.1),iw ((hnext st c.a c.b).2.2.2)])<|sP (.agg (vc ((hnext st c.a c.b).1)))<|sP (.agg (vc ((hnext st c.a c.b).2.1)))<|sP (.bool ((hnext st c.a c.b).2.2.1))<|sP (iw ((hnext st c.a c.b).2.2.2))<|s_alloc (.agg zc) zc (fun g32=>?_)
  refine s_alloc (.agg zc) zc (fun g33=>?_);refine s_store 1 (vc ((hnext st c.a c.b).1)) ?_;refine s_store 0 (vc ((hnext st c.a c.b).2.1)) ?_;refine sP (.bool ((hnext st c.a c.b).2.2.1))<|sP (iw ((hnext st c.a c.b).2.2.2))<|s_nt<|k_reg<|sL (t_loadA 1 (vc ((hnext st c.a c.b).1)))<|sL (t_loadA 0 (vc ((hnext st c.a c.b).2.1)))<|sP (.bool ((hnext st c.a c.b).2.2.1))<|sP (iw ((hnext st c.a c.b).2.2.2))<|sL (t_kern (.agg #[iw (((hnext st c.a c.b).1).kind),iw (((hnext st c.a c.b).1).p),iw (((hnext st c.a c.b).1).q),sw (((hnext st c.a c.b).1).str),iw (((hnext st c.a c.b).1).ref),iw (((hnext st c.a c.b).2.1).kind),iw (((hnext st c.a c.b).2.1).p),iw (((hnext st c.a c.b).2.1).q),sw (((hnext st c.a c.b).2.1).str),iw (((hnext st c.a c.b).2.1).ref),iw 0,sw eb,.bool ((hnext st c.a c.b).2.2.1),iw ((hnext st c.a c.b).2.2.2)]))<|s_store 3 #[iw (((hnext st c.a c.b).1).kind),iw (((hnext st c.a c.b).1).p),iw (((hnext st c.a c.b).1).q),sw (((hnext st c.a c.b).1).str),iw (((hnext st c.a c.b).1).ref),iw (((hnext st c.a c.b).2.1).kind),iw (((hnext st c.a c.b).2.1).p),iw (((hnext st c.a c.b).2.1).q),sw (((hnext st c.a c.b).2.1).str),iw (((hnext st c.a c.b).2.1).ref),iw 0,sw eb,.bool ((hnext st c.a c.b).2.2.1),iw ((hnext st c.a c.b).2.2.2)] ?_
  refine s_nil<|xs_block<|xs_then<|k_sr<|sL (t_loadA 3 #[iw (((hnext st c.a c.b).1).kind),iw (((hnext st c.a c.b).1).p),iw (((hnext st c.a c.b).1).q),sw (((hnext st c.a c.b).1).str),iw (((hnext st c.a c.b).1).ref),iw (((hnext st c.a c.b).2.1).kind),iw (((hnext st c.a c.b).2.1).p),iw (((hnext st c.a c.b).2.1).q),sw (((hnext st c.a c.b).2.1).str),iw (((hnext st c.a c.b).2.1).ref),iw 0,sw eb,.bool ((hnext st c.a c.b).2.2.1),iw ((hnext st c.a c.b).2.2.2)])<|s_store 4 #[iw (((hnext st c.a c.b).1).kind),iw (((hnext st c.a c.b).1).p),iw (((hnext st c.a c.b).1).q),sw (((hnext st c.a c.b).1).str),iw (((hnext st c.a c.b).1).ref),iw (((hnext st c.a c.b).2.1).kind),iw (((hnext st c.a c.b).2.1).p),iw (((hnext st c.a c.b).2.1).q),sw (((hnext st c.a c.b).2.1).str),iw (((hnext st c.a c.b).2.1).ref),iw 0,sw eb,.bool ((hnext st c.a c.b).2.2.1),iw ((hnext st c.a c.b).2.2.2)] ?_
  refine s_nt<|k_ret ?_
  have h1:hcall st c=st:=hcall_7 om;have h2:hres st c=⟨(hnext st c.a c.b).1,(hnext st c.a c.b).2.1,0,eb,(hnext st c.a c.b).2.2.1,(hnext st c.a c.b).2.2.2⟩:=hres_7 om;refine xs_fin [.agg #[iw (((hnext st c.a c.b).1).kind),iw (((hnext st c.a c.b).1).p),iw (((hnext st c.a c.b).1).q),sw (((hnext st c.a c.b).1).str),iw (((hnext st c.a c.b).1).ref),iw (((hnext st c.a c.b).2.1).kind),iw (((hnext st c.a c.b).2.1).p),iw (((hnext st c.a c.b).2.1).q),sw (((hnext st c.a c.b).2.1).str),iw (((hnext st c.a c.b).2.1).ref),iw 0,sw eb,.bool ((hnext st c.a c.b).2.2.1),iw ((hnext st c.a c.b).2.2.2)]] (rhA b st::F) (SI.agg 4 35 4 SI.nil) (rr [2] [1,1,1,1,1]) ⟨?_,?_⟩
  .rw [h2];rfl
  rw[h1]
 have p34:=dF c30;refine k_sr<|sL t_cmp<|sP (.bool (decide (c.kind=8)))<|s_nt<|k_cond (decide (c.kind=8)) (fun c35=>?_) (fun c35=>?_)
 .have p36:=dY c35;refine k_reg<|sP (pB b 0)<|sP (pB g1 1)<|sL (t_loadA 2 (vc c.a))<|sP (pB g1 16)<|sL (t_load 2 (iw c.n))<|sP (pB g1 11)<|sL (t_loadA 2 (vc c.c))<|sC [3] (rhinsert_s (st:=st) hsm om c.a c.n c.c) ?_
  refine sP (pB g3 13)<|s_store 1 #[iw 0,iw 0,iw 0,sw eb,iw 0,iw 0,iw 0,iw 0,sw eb,iw 0,iw 0,sw eb,.bool false,iw (hinsE st c.a c.n c.c)] ?_
  refine s_nil<|xs_block<|xs_then<|k_sr<|sL (t_loadA 1 #[iw 0,iw 0,iw 0,sw eb,iw 0,iw 0,iw 0,iw 0,sw eb,iw 0,iw 0,sw eb,.bool false,iw (hinsE st c.a c.n c.c)])<|s_store 2 #[iw 0,iw 0,iw 0,sw eb,iw 0,iw 0,iw 0,iw 0,sw eb,iw 0,iw 0,sw eb,.bool false,iw (hinsE st c.a c.n c.c)] ?_
  refine s_nt<|k_ret ?_
  have h1:hcall st c=hins st c.a c.n c.c:=hcall_8 om;have h2:hres st c=⟨zVl,zVl,0,eb,false,hinsE st c.a c.n c.c⟩:=hres_8 om;refine xs_fin [.agg #[iw 0,iw 0,iw 0,sw eb,iw 0,iw 0,iw 0,iw 0,sw eb,iw 0,iw 0,sw eb,.bool false,iw (hinsE st c.a c.n c.c)]] (rhA b (hins st c.a c.n c.c)::F) (SI.agg 4 35 2 SI.nil) (rr [0] [1,1,1]) ⟨?_,?_⟩
  .rw [h2];rfl
  rw[h1]
 have p37:=dF c35;refine k_sr<|sL t_cmp<|sP (.bool (decide (c.kind=9)))<|s_nt<|k_cond (decide (c.kind=9)) (fun c38=>?_) (fun c38=>?_)
 .have p39:=dY c38;refine k_sr<|sP (pB b 0)<|sP (pB g1 1)<|sL (t_loadA 2 (vc c.a))<|sP (pB g1 16)<|sL (t_load 2 (iw c.n))<|sC [3] (rhremove_s (st:=st) hsm om c.a c.n) ?_
  refine sP (.tuple #[.agg (vc (hremV st c.a c.n)),iw (hremE st c.a c.n)])<|sP (.agg (vc (hremV st c.a c.n)))<|sP (iw (hremE st c.a c.n))<|s_alloc (.agg zc) zc (fun g40=>?_)
  refine s_store 0 (vc (hremV st c.a c.n)) ?_;refine sP (iw (hremE st c.a c.n))<|s_nt<|k_reg<|sL (t_loadA 0 (vc (hremV st c.a c.n)))<|sP (iw (hremE st c.a c.n))<|sL (t_kern (.agg #[iw ((hremV st c.a c.n).kind),iw ((hremV st c.a c.n).p),iw ((hremV st c.a c.n).q),sw ((hremV st c.a c.n).str),iw ((hremV st c.a c.n).ref),iw 0,iw 0,iw 0,sw eb,iw 0,iw 0,sw eb,.bool false,iw (hremE st c.a c.n)]))<|s_store 2 #[iw ((hremV st c.a c.n).kind),iw ((hremV st c.a c.n).p),iw ((hremV st c.a c.n).q),sw ((hremV st c.a c.n).str),iw ((hremV st c.a c.n).ref),iw 0,iw 0,iw 0,sw eb,iw 0,iw 0,sw eb,.bool false,iw (hremE st c.a c.n)] ?_
  refine s_nil<|xs_block<|xs_then<|k_sr<|sL (t_loadA 2 #[iw ((hremV st c.a c.n).kind),iw ((hremV st c.a c.n).p),iw ((hremV st c.a c.n).q),sw ((hremV st c.a c.n).str),iw ((hremV st c.a c.n).ref),iw 0,iw 0,iw 0,sw eb,iw 0,iw 0,sw eb,.bool false,iw (hremE st c.a c.n)])<|s_store 3 #[iw ((hremV st c.a c.n).kind),iw ((hremV st c.a c.n).p),iw ((hremV st c.a c.n).q),sw ((hremV st c.a c.n).str),iw ((hremV st c.a c.n).ref),iw 0,iw 0,iw 0,sw eb,iw 0,iw 0,sw eb,.bool false,iw (hremE st c.a c.n)] ?_
  refine s_nt<|k_ret ?_
  have h1:hcall st c=hrem st c.a c.n:=hcall_9 om;have h2:hres st c=⟨hremV st c.a c.n,zVl,0,eb,false,hremE st c.a c.n⟩:=hres_9 om;refine xs_fin [.agg #[iw ((hremV st c.a c.n).kind),iw ((hremV st c.a c.n).p),iw ((hremV st c.a c.n).q),sw ((hremV st c.a c.n).str),iw ((hremV st c.a c.n).ref),iw 0,iw 0,iw 0,sw eb,iw 0,iw 0,sw eb,.bool false,iw (hremE st c.a c.n)]] (rhA b (hrem st c.a c.n)::F) (SI.agg 4 35 3 SI.nil) (rr [1] [1,1,1,1]) ⟨?_,?_⟩
  .rw [h2];rfl
  rw[h1]
 have p41:=dF c38;refine k_sr<|sL t_cmp<|sP (.bool (decide (c.kind=10)))<|s_nt<|k_cond (decide (c.kind=10)) (fun c42=>?_) (fun c42=>?_)
 .have p43:=dY c42;refine k_reg<|sP (pB b 0)<|sP (pB g1 1)<|sL (t_loadA 2 (vc c.a))<|sP (pB g1 6)<|sL (t_loadA 2 (vc c.b))<|sC [3] (rhsetmeta_s (st:=st) (by have:=hsm.len;omega) c.a c.b) ?_
  refine sP (pB g3 13)<|s_store 1 #[iw 0,iw 0,iw 0,sw eb,iw 0,iw 0,iw 0,iw 0,sw eb,iw 0,iw 0,sw eb,.bool false,iw (hsetMetaE st c.a c.b)] ?_
  refine s_nil<|xs_block<|xs_then<|k_sr<|sL (t_loadA 1 #[iw 0,iw 0,iw 0,sw eb,iw 0,iw 0,iw 0,iw 0,sw eb,iw 0,iw 0,sw eb,.bool false,iw (hsetMetaE st c.a c.b)])<|s_store 2 #[iw 0,iw 0,iw 0,sw eb,iw 0,iw 0,iw 0,iw 0,sw eb,iw 0,iw 0,sw eb,.bool false,iw (hsetMetaE st c.a c.b)] ?_
  refine s_nt<|k_ret ?_
  have h1:hcall st c=hsetMeta st c.a c.b:=hcall_10 om;have h2:hres st c=⟨zVl,zVl,0,eb,false,hsetMetaE st c.a c.b⟩:=hres_10 om;refine xs_fin [.agg #[iw 0,iw 0,iw 0,sw eb,iw 0,iw 0,iw 0,iw 0,sw eb,iw 0,iw 0,sw eb,.bool false,iw (hsetMetaE st c.a c.b)]] (rhA b (hsetMeta st c.a c.b)::F) (SI.agg 4 35 2 SI.nil) (rr [0] [1,1,1]) ⟨?_,?_⟩
  .rw [h2];rfl
  rw[h1]
 have p44:=dF c42;refine k_sr<|sL t_cmp<|sP (.bool (decide (c.kind=11)))<|s_nt<|k_cond (decide (c.kind=11)) (fun c45=>?_) (fun c45=>?_)
 .have p46:=dY c45;refine k_sr<|sP (pB b 0)<|sP (pB g1 1)<|sL (t_loadA 2 (vc c.a))<|sP (pB g1 16)<|sL (t_load 2 (iw c.n))<|sC [3] (rhslot_s (st:=st) (by have:=hsm.len;omega) hw c.a c.n) ?_
  refine sP (.tuple #[.agg (vc (hslotV st c.a c.n)),iw (hslotE st c.a c.n)])<|sP (.agg (vc (hslotV st c.a c.n)))<|sP (iw (hslotE st c.a c.n))<|s_alloc (.agg zc) zc (fun g47=>?_)
  refine s_store 0 (vc (hslotV st c.a c.n)) ?_;refine sP (iw (hslotE st c.a c.n))<|s_nt<|k_reg<|sL (t_loadA 0 (vc (hslotV st c.a c.n)))<|sP (iw (hslotE st c.a c.n))<|sL (t_kern (.agg #[iw ((hslotV st c.a c.n).kind),iw ((hslotV st c.a c.n).p),iw ((hslotV st c.a c.n).q),sw ((hslotV st c.a c.n).str),iw ((hslotV st c.a c.n).ref),iw 0,iw 0,iw 0,sw eb,iw 0,iw 0,sw eb,.bool false,iw (hslotE st c.a c.n)]))<|s_store 2 #[iw ((hslotV st c.a c.n).kind),iw ((hslotV st c.a c.n).p),iw ((hslotV st c.a c.n).q),sw ((hslotV st c.a c.n).str),iw ((hslotV st c.a c.n).ref),iw 0,iw 0,iw 0,sw eb,iw 0,iw 0,sw eb,.bool false,iw (hslotE st c.a c.n)] ?_
  refine s_nil<|xs_block<|xs_then<|k_sr<|sL (t_loadA 2 #[iw ((hslotV st c.a c.n).kind),iw ((hslotV st c.a c.n).p),iw ((hslotV st c.a c.n).q),sw ((hslotV st c.a c.n).str),iw ((hslotV st c.a c.n).ref),iw 0,iw 0,iw 0,sw eb,iw 0,iw 0,sw eb,.bool false,iw (hslotE st c.a c.n)])<|s_store 3 #[iw ((hslotV st c.a c.n).kind),iw ((hslotV st c.a c.n).p),iw ((hslotV st c.a c.n).q),sw ((hslotV st c.a c.n).str),iw ((hslotV st c.a c.n).ref),iw 0,iw 0,iw 0,sw eb,iw 0,iw 0,sw eb,.bool false,iw (hslotE st c.a c.n)] ?_
  refine s_nt<|k_ret ?_
  have h1:hcall st c=st:=hcall_11 om;have h2:hres st c=⟨hslotV st c.a c.n,zVl,0,eb,false,hslotE st c.a c.n⟩:=hres_11 om;refine xs_fin [.agg #[iw ((hslotV st c.a c.n).kind),iw ((hslotV st c.a c.n).p),iw ((hslotV st c.a c.n).q),sw ((hslotV st c.a c.n).str),iw ((hslotV st c.a c.n).ref),iw 0,iw 0,iw 0,sw eb,iw 0,iw 0,sw eb,.bool false,iw (hslotE st c.a c.n)]] (rhA b st::F) (SI.agg 4 35 3 SI.nil) (rr [1] [1,1,1,1]) ⟨?_,?_⟩
  .rw [h2];rfl
  rw[h1]
 have p48:=dF c45;refine k_sr<|sL t_cmp<|sP (.bool (decide (c.kind=12)))<|s_nt<|k_cond (decide (c.kind=12)) (fun c49=>?_) (fun c49=>?_)
 .have p50:=dY c49;refine k_reg<|sP (pB b 0)<|sP (pB g1 1)<|sL (t_loadA 2 (vc c.a))<|sP (pB g1 16)<|sL (t_load 2 (iw c.n))<|sP (pB g1 11)<|sL (t_loadA 2 (vc c.c))<|sC [3] (rhsetslot_s (st:=st) (by have:=hsm.len;omega) hw c.a c.n c.c) ?_
  refine sP (pB g3 13)<|s_store 1 #[iw 0,iw 0,iw 0,sw eb,iw 0,iw 0,iw 0,iw 0,sw eb,iw 0,iw 0,sw eb,.bool false,iw (hsetSlotE st c.a c.n c.c)] ?_
  refine s_nil<|xs_block<|xs_then<|k_sr<|sL (t_loadA 1 #[iw 0,iw 0,iw 0,sw eb,iw 0,iw 0,iw 0,iw 0,sw eb,iw 0,iw 0,sw eb,.bool false,iw (hsetSlotE st c.a c.n c.c)])<|s_store 2 #[iw 0,iw 0,iw 0,sw eb,iw 0,iw 0,iw 0,iw 0,sw eb,iw 0,iw 0,sw eb,.bool false,iw (hsetSlotE st c.a c.n c.c)] ?_
  refine s_nt<|k_ret ?_
  have h1:hcall st c=hsetSlot st c.a c.n c.c:=hcall_12 om;have h2:hres st c=⟨zVl,zVl,0,eb,false,hsetSlotE st c.a c.n c.c⟩:=hres_12 om;refine xs_fin [.agg #[iw 0,iw 0,iw 0,sw eb,iw 0,iw 0,iw 0,iw 0,sw eb,iw 0,iw 0,sw eb,.bool false,iw (hsetSlotE st c.a c.n c.c)]] (rhA b (hsetSlot st c.a c.n c.c)::F) (SI.agg 4 35 2 SI.nil) (rr [0] [1,1,1]) ⟨?_,?_⟩
  .rw [h2];rfl
  rw[h1]
 have p51:=dF c49;refine k_sr<|sL t_cmp<|sP (.bool (decide (c.kind=13)))<|s_nt<|k_cond (decide (c.kind=13)) (fun c52=>?_) (fun c52=>?_)
 .have p53:=dY c52;refine k_reg<|sP (pB b 0)<|sP (pB g1 1)<|sL (t_loadA 2 (vc c.a))<|sP (pB g1 18)<|sL (t_load 2 c.lv.v)<|sC [3] (rhsetrefs_s (st:=st) hc ol (by have:=hsm.len;omega) c.a) ?_
  refine sP (pB g3 13)<|s_store 1 #[iw 0,iw 0,iw 0,sw eb,iw 0,iw 0,iw 0,iw 0,sw eb,iw 0,iw 0,sw eb,.bool false,iw (hsetRefsE st c.a c.l)] ?_
  refine s_nil<|xs_block<|xs_then<|k_sr<|sL (t_loadA 1 #[iw 0,iw 0,iw 0,sw eb,iw 0,iw 0,iw 0,iw 0,sw eb,iw 0,iw 0,sw eb,.bool false,iw (hsetRefsE st c.a c.l)])<|s_store 2 #[iw 0,iw 0,iw 0,sw eb,iw 0,iw 0,iw 0,iw 0,sw eb,iw 0,iw 0,sw eb,.bool false,iw (hsetRefsE st c.a c.l)] ?_
  refine s_nt<|k_ret ?_
  have h1:hcall st c=hsetRefs st c.a c.l:=hcall_13 om;have h2:hres st c=⟨zVl,zVl,0,eb,false,hsetRefsE st c.a c.l⟩:=hres_13 om;refine xs_fin [.agg #[iw 0,iw 0,iw 0,sw eb,iw 0,iw 0,iw 0,iw 0,sw eb,iw 0,iw 0,sw eb,.bool false,iw (hsetRefsE st c.a c.l)]] (rhA b (hsetRefs st c.a c.l)::F) (SI.agg 4 35 2 SI.nil) (rr [0] [1,1,1]) ⟨?_,?_⟩
  .rw [h2];rfl
  rw[h1]
 have p54:=dF c52;refine k_sr<|sL t_cmp<|sP (.bool (decide (c.kind=14)))<|s_nt<|k_cond (decide (c.kind=14)) (fun c55=>?_) (fun c55=>?_)
 .have p56:=dY c55;refine k_reg<|sP (pB b 0)<|sP (pB g1 16)<|sL (t_load 2 (iw c.n))<|sC [3] (rhdrop_s (st:=st) (by have:=hsm.len;omega) c.n) ?_
  refine sP (pB g3 13)<|s_store 1 #[iw 0,iw 0,iw 0,sw eb,iw 0,iw 0,iw 0,iw 0,sw eb,iw 0,iw 0,sw eb,.bool false,iw (hdropE st c.n)] ?_
  refine s_nil<|xs_block<|xs_then<|k_sr<|sL (t_loadA 1 #[iw 0,iw 0,iw 0,sw eb,iw 0,iw 0,iw 0,iw 0,sw eb,iw 0,iw 0,sw eb,.bool false,iw (hdropE st c.n)])<|s_store 2 #[iw 0,iw 0,iw 0,sw eb,iw 0,iw 0,iw 0,iw 0,sw eb,iw 0,iw 0,sw eb,.bool false,iw (hdropE st c.n)] ?_
  refine s_nt<|k_ret ?_
  have h1:hcall st c=hdrop st c.n:=hcall_14 om;have h2:hres st c=⟨zVl,zVl,0,eb,false,hdropE st c.n⟩:=hres_14 om;refine xs_fin [.agg #[iw 0,iw 0,iw 0,sw eb,iw 0,iw 0,iw 0,iw 0,sw eb,iw 0,iw 0,sw eb,.bool false,iw (hdropE st c.n)]] (rhA b (hdrop st c.n)::F) (SI.agg 4 35 2 SI.nil) (rr [0] [1,1,1]) ⟨?_,?_⟩
  .rw [h2];rfl
  rw[h1]
 have p57:=dF c55;refine k_sr<|sL t_cmp<|sP (.bool (decide (c.kind=15)))<|s_nt<|k_cond (decide (c.kind=15)) (fun c58=>?_) (fun c58=>?_)
 .have p59:=dY c58;refine k_sr<|sP (pB b 0)<|sP (pB g1 1)<|sL (t_loadA 2 (vc c.a))<|sC [3] (rhtag_s (st:=st) (by have:=hsm.len;omega) c.a) ?_
  refine sP (.tuple #[iw ((htagV st c.a).1),.bool ((htagV st c.a).2)])<|sP (iw ((htagV st c.a).1))<|sP (.bool ((htagV st c.a).2))<|sP (iw ((htagV st c.a).1))<|sP (.bool ((htagV st c.a).2))<|s_nt<|k_reg<|sP (iw ((htagV st c.a).1))<|sP (.bool ((htagV st c.a).2))<|sL (t_kern (.agg #[iw 0,iw 0,iw 0,sw eb,iw 0,iw 0,iw 0,iw 0,sw eb,iw 0,iw ((htagV st c.a).1),sw eb,.bool ((htagV st c.a).2),iw 0]))<|s_store 1 #[iw 0,iw 0,iw 0,sw eb,iw 0,iw 0,iw 0,iw 0,sw eb,iw 0,iw ((htagV st c.a).1),sw eb,.bool ((htagV st c.a).2),iw 0] ?_
  refine s_nil<|xs_block<|xs_then<|k_sr<|sL (t_loadA 1 #[iw 0,iw 0,iw 0,sw eb,iw 0,iw 0,iw 0,iw 0,sw eb,iw 0,iw ((htagV st c.a).1),sw eb,.bool ((htagV st c.a).2),iw 0])<|s_store 2 #[iw 0,iw 0,iw 0,sw eb,iw 0,iw 0,iw 0,iw 0,sw eb,iw 0,iw ((htagV st c.a).1),sw eb,.bool ((htagV st c.a).2),iw 0] ?_
  refine s_nt<|k_ret ?_
  have h1:hcall st c=st:=hcall_15 om;have h2:hres st c=⟨zVl,zVl,(htagV st c.a).1,eb,(htagV st c.a).2,0⟩:=hres_15 om;refine xs_fin [.agg #[iw 0,iw 0,iw 0,sw eb,iw 0,iw 0,iw 0,iw 0,sw eb,iw 0,iw ((htagV st c.a).1),sw eb,.bool ((htagV st c.a).2),iw 0]] (rhA b st::F) (SI.agg 4 35 2 SI.nil) (rr [0] [1,1,1]) ⟨?_,?_⟩
  .rw [h2];rfl
  rw[h1]
 have p60:=dF c58;refine k_sr<|sL t_cmp<|sP (.bool (decide (c.kind=16)))<|s_nt<|k_cond (decide (c.kind=16)) (fun c61=>?_) (fun c61=>?_)
 .have p62:=dY c61;refine k_sr<|sP (pB b 0)<|sP (pB g1 1)<|sL (t_loadA 2 (vc c.a))<|sC [3] (rhname_s (st:=st) (by have:=hsm.len;omega) c.a) ?_
  refine sP (.tuple #[sw ((hnameV st c.a).1),.bool ((hnameV st c.a).2)])<|sP (sw ((hnameV st c.a).1))<|sP (.bool ((hnameV st c.a).2))<|sP (sw ((hnameV st c.a).1))<|sP (.bool ((hnameV st c.a).2))<|s_nt<|k_reg<|sP (sw ((hnameV st c.a).1))<|sP (.bool ((hnameV st c.a).2))<|sL (t_kern (.agg #[iw 0,iw 0,iw 0,sw eb,iw 0,iw 0,iw 0,iw 0,sw eb,iw 0,iw 0,sw ((hnameV st c.a).1),.bool ((hnameV st c.a).2),iw 0]))<|s_store 1 #[iw 0,iw 0,iw 0,sw eb,iw 0,iw 0,iw 0,iw 0,sw eb,iw 0,iw 0,sw ((hnameV st c.a).1),.bool ((hnameV st c.a).2),iw 0] ?_
  refine s_nil<|xs_block<|xs_then<|k_sr<|sL (t_loadA 1 #[iw 0,iw 0,iw 0,sw eb,iw 0,iw 0,iw 0,iw 0,sw eb,iw 0,iw 0,sw ((hnameV st c.a).1),.bool ((hnameV st c.a).2),iw 0])<|s_store 2 #[iw 0,iw 0,iw 0,sw eb,iw 0,iw 0,iw 0,iw 0,sw eb,iw 0,iw 0,sw ((hnameV st c.a).1),.bool ((hnameV st c.a).2),iw 0] ?_
  refine s_nt<|k_ret ?_
  have h1:hcall st c=st:=hcall_16 om;have h2:hres st c=⟨zVl,zVl,0,(hnameV st c.a).1,(hnameV st c.a).2,0⟩:=hres_16 om;refine xs_fin [.agg #[iw 0,iw 0,iw 0,sw eb,iw 0,iw 0,iw 0,iw 0,sw eb,iw 0,iw 0,sw ((hnameV st c.a).1),.bool ((hnameV st c.a).2),iw 0]] (rhA b st::F) (SI.agg 4 35 2 SI.nil) (rr [0] [1,1,1]) ⟨?_,?_⟩
  .rw [h2];rfl
  rw[h1]
 have p63:=dF c61;refine k_sr<|sL t_cmp<|sP (.bool (decide (c.kind=17)))<|s_nt<|k_cond (decide (c.kind=17)) (fun c64=>?_) (fun c64=>?_)
 .have p65:=dY c64;refine k_reg<|sP (pB b 0)<|sP (pB g1 1)<|sL (t_loadA 2 (vc c.a))<|sC [3] (rhmeta_s (st:=st) (by have:=hsm.len;omega) c.a) ?_
  refine sP (pB g3 0)<|s_store 1 #[iw ((hmeta st c.a).kind),iw ((hmeta st c.a).p),iw ((hmeta st c.a).q),sw ((hmeta st c.a).str),iw ((hmeta st c.a).ref),iw 0,iw 0,iw 0,sw eb,iw 0,iw 0,sw eb,.bool false,iw 0] ?_
  refine s_nil<|xs_block<|xs_then<|k_sr<|sL (t_loadA 1 #[iw ((hmeta st c.a).kind),iw ((hmeta st c.a).p),iw ((hmeta st c.a).q),sw ((hmeta st c.a).str),iw ((hmeta st c.a).ref),iw 0,iw 0,iw 0,sw eb,iw 0,iw 0,sw eb,.bool false,iw 0])<|s_store 2 #[iw ((hmeta st c.a).kind),iw ((hmeta st c.a).p),iw ((hmeta st c.a).q),sw ((hmeta st c.a).str),iw ((hmeta st c.a).ref),iw 0,iw 0,iw 0,sw eb,iw 0,iw 0,sw eb,.bool false,iw 0] ?_
  refine s_nt<|k_ret ?_
  have h1:hcall st c=st:=hcall_17 om;have h2:hres st c=⟨hmeta st c.a,zVl,0,eb,false,0⟩:=hres_17 om;refine xs_fin [.agg #[iw ((hmeta st c.a).kind),iw ((hmeta st c.a).p),iw ((hmeta st c.a).q),sw ((hmeta st c.a).str),iw ((hmeta st c.a).ref),iw 0,iw 0,iw 0,sw eb,iw 0,iw 0,sw eb,.bool false,iw 0]] (rhA b st::F) (SI.agg 4 35 2 SI.nil) (rr [0] [1,1,1]) ⟨?_,?_⟩
  .rw [h2];rfl
  rw[h1]
 have p66:=dF c64;refine k_reg<|sP (pB b 0)<|sP (pB g1 16)<|sL (t_load 2 (iw c.n))<|sC [3] (rhalive_s (st:=st) (by have:=hsm.len;omega) c.n) ?_
 refine sP (pB g3 12)<|s_store 1 #[iw 0,iw 0,iw 0,sw eb,iw 0,iw 0,iw 0,iw 0,sw eb,iw 0,iw 0,sw eb,.bool (halive st c.n),iw 0] ?_
 refine s_nil<|xs_block<|xs_then<|k_sr<|sL (t_loadA 1 #[iw 0,iw 0,iw 0,sw eb,iw 0,iw 0,iw 0,iw 0,sw eb,iw 0,iw 0,sw eb,.bool (halive st c.n),iw 0])<|s_store 2 #[iw 0,iw 0,iw 0,sw eb,iw 0,iw 0,iw 0,iw 0,sw eb,iw 0,iw 0,sw eb,.bool (halive st c.n),iw 0] ?_
 refine s_nt<|k_ret ?_
 have h1:hcall st c=st:=hcall_x om;have h2:hres st c=⟨zVl,zVl,0,eb,halive st c.n,0⟩:=hres_x om;refine xs_fin [.agg #[iw 0,iw 0,iw 0,sw eb,iw 0,iw 0,iw 0,iw 0,sw eb,iw 0,iw 0,sw eb,.bool (halive st c.n),iw 0]] (rhA b st::F) (SI.agg 4 35 2 SI.nil) (rr [0] [1,1,1]) ⟨?_,?_⟩
 .rw [h2];rfl
 rw[h1]
end Go.Proofs.YtmilekfknhglkaaGreat
end
section
set_option linter.unusedSimpArgs false
set_option linter.unusedVariables false
set_option maxRecDepth 100000
set_option maxHeartbeats 2000000
namespace Go.Proofs.YtmilekfknhglkaaGreat
open Go.Hp Go.J Go.S
open Go.Mem (Ty KTy blk elemAt pre suf blk_pre blk_suf aget aset strK aggDesc)
open Go.Mem (adel apos aget_aset aget_adel)
theorem hsize_s{Z:Zone}{F:List Asr}{b:Nat}{st:Hst}{n:Nat}(hsm:HSm n st)(hn:n≤300):SF Tryz.prog 19 #[.pointer (some ⟨b,0,none⟩)] Z (hpA b st::F) fun r Bs=>r=iw (hsize st)∧Bs=hpA b st::F:=by
 refine sf_enter Tryz.func19 22 [(0,pB b 0)] (fun w0=>?_);refine k_memX (fun H h=>hpA_open (h.re [0] [])) (fun ps1 _=>?_);refine k_fact (fun H h=>hp_facts (h.re [0] [])) (fun hf2=>?_);obtain⟨hi3,ha4⟩:=hf2;refine k_mem3 (fun H h=>hp_open (h.re [0] [])) (fun mb5 tb6 tm7 hw=>?_);obtain⟨hi8,ha9,ht10⟩:=hw;refine k_fact (fun H h=>(h.mp (i:=1) rfl).nodup) (fun hnd0=>?_);refine k_sr<|sP (iw 0)<|s_nt<|k_seq<|k_sr<|sP (pB b 0)<|sP (.bool false)<|s_nt<|k_false<|k_st<|k_sr<|sP (iw 0)<|s_nt<|k_seq<|k_sr<|sP3 (pB b 0)<|sL (t_load 0 (.map (some mb5)))<|s_range 1 Tryz.underlying61 (fun r11=>?_)
 refine s_nt<|k_block<|k_loop (ι:=List (Int×(Nat×Nat))) (fun dn=>dn.length≤ps1.length∧0≤(dn.map fun p=>obSize (st.ob p.1)).sum∧(dn.map fun p=>obSize (st.ob p.1)).sum≤200000*(dn.length:Int)) (fun dn=>[(3,iw ((dn.map fun p=>obSize (st.ob p.1)).sum)),(12,pB r11 0)]) (fun dn=>blkA b #[.map (some mb5),iw (st.objs.length:Int),.map (some tb6)] 64::rgA iK oV mb5 r11 ps1 dn::mpA iK bV tb6 tm7::allP ps1 st::F) (fun dn=>ps1.length-dn.length) [] ⟨Nat.zero_le _,by simp,by simp⟩ sA (rr [0,0,0,0] []) ?_
 rintro dn hi12;show SK _ _ _ _ _ [(3,iw ((dn.map fun p=>obSize (st.ob p.1)).sum)),(12,.pointer (some ⟨r11,0,none⟩))] _ (blkA b #[.map (some mb5),iw (st.objs.length:Int),.map (some tb6)] 64::rgA iK oV mb5 r11 ps1 dn::mpA iK bV tb6 tm7::allP ps1 st::F);have hpl:ps1.length≤300:=by have:=ha9.len;have:=count_le st;have:=hsm.len;omega
 refine k_sr<|s_next 1 (fun hd13=>?_) (fun ky14 u15 hm16 hn17 hd18=>?_)
 .refine sP (.bool false)<|s_nt<|k_seq<|k_false<|k_exit<|xs_mem (fun _ h=>Holds.unrange 1 h) ?_
  refine xs_exit<|xs_exit<|xs_here<|xs_then<|k_sr<|sP2 (iw ((dn.map fun p=>obSize (st.ob p.1)).sum))<|s_nt<|k_ret<|xs_mem (fun _ h=>hp_shut (st:=st) (n:=(st.objs.length:Int)) ⟨⟨hi8,ha9,ht10⟩,rfl⟩ (h.re [0,0,0,0] [])) ?_
  have hz:(dn.map fun p=>obSize (st.ob p.1)).sum=hsize st:=by rw[←size_keys ha9 hnd0];exact sum_perm (hd13.map _)
  refine xs_mem (fun _ h=>hpA_shut (h.re [0] [])) ?_;refine xs_fin [iw ((dn.map fun p=>obSize (st.ob p.1)).sum)] (hpA b st::F) (SI.tmp 2 SI.nil) (rr [0] []) ⟨?_,?_⟩
  .rw [←hz];rfl
  rfl
 have hq21:=aget_mem hnd0 hm16;obtain⟨o19,ho20⟩:=halive_iff.1 ((mem_keys ha9).1 (List.mem_map.2 ⟨_,hm16,rfl⟩));have hob:=obsize_bound hsm hn ho20;refine sP (.bool true)<|s_nt<|k_seq<|k_true<|k_st<|k_block<|k_sr<|sL (t_entry 1)<|sP2 (pB u15.1 0)<|s_nt<|k_reg<|sP (iw ((dn.map fun p=>obSize (st.ob p.1)).sum))<|sP (pB u15.1 0) ?_
 have hnd22:=hnd0;obtain⟨hz1,hz2,hz3⟩:=ob_bound hsm hn ho20;refine s_mem (fun _ h=>all_take hq21 ho20 (h.re [3] [])) ?_;refine sC [0] (obsize_s (q:=u15) (o:=o19) om om om) ?_;refine s_mem (fun _ h=>all_back hnd22 hq21 ho20 h) ?_;refine sL (t_add ((dn.map fun p=>obSize (st.ob p.1)).sum) (obSize o19) ol)<|sP (iw ((dn.map fun p=>obSize (st.ob p.1)).sum+(obSize o19)))<|s_nil<|xs_block ?_
 have hsu:((dn++[(ky14,u15)]).map fun p=>obSize (st.ob p.1)).sum=(dn.map fun p=>obSize (st.ob p.1)).sum+obSize o19:=by rw[List.map_append,List.sum_append,List.map_cons,List.map_nil];show _+(obSize (st.ob ky14)+0)=_;rw[ob_get ho20,Int.add_zero]
 exact xs_round (dn++[(ky14,u15)]) (by show ps1.length-(dn++[(ky14,u15)]).length<ps1.length-dn.length;rw[List.length_append];have:=hd18;simp only[List.length_singleton];omega) (by show (dn++[(ky14,u15)]).length≤ps1.length∧_;rw[hsu,List.length_append];simp only[List.length_singleton];have:=hd18;omega) (sub_of rfl ⟨⟨rfl,cI hsu.symm⟩,(rQ trivial)⟩) (rr [1,1,1,0] [])
end Go.Proofs.YtmilekfknhglkaaGreat
end
section
set_option linter.unusedSimpArgs false
set_option linter.unusedVariables false
namespace Go.Proofs.YtmilekfknhglkaaGreat
section
variable{l:List Cl}{i:Nat}{y:Cl}
def gst(l:List Cl):Nat→Hst
 | 0=>hp0
 | i+1=>match l[i]? with
  | some c=>if i=l.length / 2 then huntch (hcall (gst l i) c) else hcall (gst l i) c
  | none=>gst l i
theorem gst_half(h:l[i]?=some y)(hi:(i:Int)=((l.length / 2:Nat):Int)):gst l (i+1)=huntch (hcall (gst l i) y):=by rw[gst,h];exact if_pos om
theorem gst_not(h:l[i]?=some y)(hi:¬(i:Int)=((l.length / 2:Nat):Int)):gst l (i+1)=hcall (gst l i) y:=by rw[gst,h];exact if_neg om
theorem gst_good(hl:∀x∈l,x.l.length≤20):∀i,HInv (gst l i)∧HSm i (gst l i)∧HW (gst l i)
 | 0=>⟨HInv.nil,HSm.nil,HW.nil⟩
 | i+1=>by
  obtain⟨h1,h2,h3⟩:=gst_good hl i;rw[gst];cases hc:l[i]? with
  | none=>exact⟨h1,h2.mono om,h3⟩
  | some c=>
   have hi:=hcall_inv h1 c;have hs:=hcall_sm h1 h2 c (hl c (List.mem_of_getElem? hc));have hw:=hcall_w h1 h3 c;show HInv (if _ then _ else _)∧HSm (i+1) (if _ then _ else _)∧HW (if _ then _ else _);split
   .exact ⟨untch_inv hi,untch_sm hs,untch_w hw⟩
   exact⟨hi,hs,hw⟩
end
theorem half_len(a:Nat):Int.tdiv (a:Int) 2=((a / 2:Nat):Int):=rfl
theorem hidsN_cnt(st:Hst):∀i,i≤st.objs.length→(hidsN st i).length=(st.objs.take i).countP Option.isSome
 | 0,_=>by simp[hidsN]
 | i+1,h=>by
  have hg:st.objs[i]?=some st.objs[i]:=List.getElem?_eq_getElem om;have ha:halive st ((i:Int)+1)=(st.objs[i]).isSome:=by
   unfold halive Hst.get;rw[if_pos om,show ((i:Int)+1).toNat-1=i by omega,hg];rfl
  rw[hidsN_step,ha,List.take_add_one,hg,List.countP_append];have ih:=hidsN_cnt st i om;cases hx:(st.objs[i]).isSome<;>simp[hx,ih]
theorem hids_cnt(st:Hst):(st.count:Int)=((hids st).length:Int):=by
 rw[←hidsN_end (st:=st) rfl,hidsN_cnt st _ (Nat.le_refl _),List.take_length];rfl
end Go.Proofs.YtmilekfknhglkaaGreat
end
section
set_option linter.unusedSimpArgs false
set_option linter.unusedVariables false
set_option maxRecDepth 100000
set_option maxHeartbeats 2000000
namespace Go.Proofs.YtmilekfknhglkaaGreat
open Go.Hp Go.J Go.S
open Go.Mem (Ty KTy blk elemAt pre suf blk_pre blk_suf aget aset strK aggDesc)
open Go.Mem (adel apos aget_aset aget_adel)
theorem ints_s{Z:Zone}{av bv:Value}{A:List Int}(hA:Kn Z iTy av A)(hB:Kn Z iTy bv A):SF Tryz.prog 10 #[av,bv] Z [] fun r Bs=>r=.bool true∧Bs=[]:=by
 refine sf_enter Tryz.func10 26 [(0,av),(1,bv)] (fun w0=>?_);refine k_fact (fun H h=>(hA.get h).len_le) (fun lA=>?_);refine k_sr<|sP (.bool false)<|s_nt<|k_seq<|k_sr<|sP av<|sL (t_len iTy_ok Tryz.underlying42 (.zn hA))<|sP bv<|sL (t_len iTy_ok Tryz.underlying42 (.zn hB))<|sL (Lt.to t_cmp (cB (decide_eq_false (fun h=>h rfl):(decide ((A.length:Int)≠(A.length:Int)))=false)))<|s_nt<|k_false<|k_st<|k_seq<|k_sr<|sP av<|sL (t_len iTy_ok Tryz.underlying42 (.zn hA))<|sP (iw 0)<|s_nt<|k_block<|k_loop (ι:=Nat) (fun i=>i≤A.length) (fun i=>[(0,av),(1,bv),(12,iw (A.length:Int)),(13,iw (i:Int))]) (fun i=>[]) (fun i=>A.length-i) 0 (Nat.zero_le _) sA (rr [] []) ?_
 rintro i hi1;show SK _ _ _ _ _ [(0,av),(1,bv),(12,iw (A.length:Int)),(13,iw (i:Int))] _ [];refine k_sr<|sL t_cmp<|s_nt<|k_seq<|k_cond (decide ((i:Int)<(A.length:Int))) (fun c2=>?_) (fun c2=>?_)
 .have p3:=dY c2;refine k_st<|k_seq<|k_block<|k_sr<|sP2 (iw (i:Int))<|s_nt<|k_seq<|k_draw<|sP av<|sP (iw (i:Int))<|sL (t_index iTy_ok Tryz.underlying42 (.zn hA) (i:Int) i om ol om) ?_
  obtain⟨y4,hy5⟩:∃y,A[i]?=some y:=⟨_,List.getElem?_eq_getElem ol⟩;refine sL (t_loadE iTy_ok (.zn hA) hy5)<|sP bv<|sP (iw (i:Int))<|sL (t_index iTy_ok Tryz.underlying42 (.zn hB) (i:Int) i om ol om)<|sL (t_loadE iTy_ok (.zn hB) hy5)<|sL (Lt.to t_cmp (cB (decide_eq_false (fun h=>h rfl):(decide (y4≠y4))=false)))<|s_nil<|x_dynS (fun _ h=>by kernel_rfl) ?_
  refine xs_then<|k_false<|k_skip<|xs_block<|xs_then<|k_reg<|sL (t_add (i:Int) 1 ol)<|sP (iw ((i:Int)+1))<|s_nil ?_
  exact xs_round (i+1) om om sA (rr [] [])
 have p6:=dF c2;refine k_exit<|xs_exit<|xs_exit<|xs_here<|xs_then<|k_sr<|sP (.bool true)<|s_nt<|k_ret ?_
 exact xs_fin [.bool true] [] (SI.tmp 4 SI.nil) (rr [] []) ⟨rfl,rfl⟩
theorem sameob_s{Z:Zone}{av bv ev fv:Value}{A:List Int}{E:List Ent}{x s k:Int}(hA:Kn Z iTy av A)(hB:Kn Z iTy bv A)(hE:Kn Z EntT ev E)(hF:Kn Z EntT fv E):SF Tryz.prog 15 #[.agg #[iw x,iw s,iw k,av,ev],.agg #[iw x,iw s,iw k,bv,fv]] Z [] fun r Bs=>r=.bool true∧Bs=[]:=by
 refine sf_enter Tryz.func15 60 [(0,.agg #[iw x,iw s,iw k,av,ev]),(1,.agg #[iw x,iw s,iw k,bv,fv])] (fun w0=>?_);refine k_fact (fun H h=>(hE.get h).len_le) (fun lE=>?_);refine k_sr<|s_box #[iw x,iw s,iw k,av,ev] (fun g1=>?_)
 refine s_box #[iw x,iw s,iw k,bv,fv] (fun g2=>?_);refine sP (.bool false)<|s_nt<|k_seq<|k_sr<|sP (pB g1 0)<|sL (t_load 1 (iw x))<|sP (pB g2 0)<|sL (t_load 0 (iw x))<|sL (Lt.to t_cmp (cB (decide_eq_false (fun h=>h rfl):(decide (x≠x))=false)))<|sP (.bool false)<|sP (pB g1 1)<|sL (t_load 1 (iw s))<|sP (pB g2 1)<|sL (t_load 0 (iw s))<|sL (Lt.to t_cmp (cB (decide_eq_false (fun h=>h rfl):(decide (s≠s))=false)))<|sP2 (.bool false)<|sP (pB g1 2)<|sL (t_load 1 (iw k))<|sP (pB g2 2)<|sL (t_load 0 (iw k))<|sL (Lt.to t_cmp (cB (decide_eq_false (fun h=>h rfl):(decide (k≠k))=false)))<|sP2 (.bool false)<|sP (pB g1 3)<|sL (t_load 1 av)<|sP (pB g2 3)<|sL (t_load 0 bv)<|sV (fun _ h=>ints_s (A:=A) (hA.up h) (hB.up h))<|sP2 (.bool false) ?_
 refine sP (.bool false)<|sP (pB g1 4)<|sL (t_load 1 ev)<|sL (t_len EntT_ok Tryz.underlying44 (.zn hE))<|sP (pB g2 4)<|sL (t_load 0 fv)<|sL (t_len EntT_ok Tryz.underlying44 (.zn hF))<|sL (Lt.to t_cmp (cB (decide_eq_false (fun h=>h rfl):(decide ((E.length:Int)≠(E.length:Int)))=false)))<|sP (.bool false)<|s_nt<|k_false<|k_st<|k_seq<|k_sr<|sP (pB g1 4)<|sL (t_load 1 ev)<|sL (t_len EntT_ok Tryz.underlying44 (.zn hE))<|sP (iw 0)<|s_nt<|k_block<|k_loop (ι:=Nat) (fun i=>i≤E.length) (fun i=>[(2,pB g1 0),(3,pB g2 0),(44,iw (E.length:Int)),(45,iw (i:Int))]) (fun i=>[blkA g2 #[iw x,iw s,iw k,bv,fv] 46,blkA g1 #[iw x,iw s,iw k,av,ev] 46]) (fun i=>E.length-i) 0 (Nat.zero_le _) sA (rr [0,0] []) ?_
 rintro i hi3;show SK _ _ _ _ _ [(2,.pointer (some ⟨g1,0,none⟩)),(3,.pointer (some ⟨g2,0,none⟩)),(44,iw (E.length:Int)),(45,iw (i:Int))] _ [blkA g2 #[iw x,iw s,iw k,bv,fv] 46,blkA g1 #[iw x,iw s,iw k,av,ev] 46];refine k_sr<|sL t_cmp<|s_nt<|k_seq<|k_cond (decide ((i:Int)<(E.length:Int))) (fun c4=>?_) (fun c4=>?_)
 .have p5:=dY c4;refine k_st<|k_seq<|k_block<|k_sr<|sP2 (iw (i:Int))<|s_nt<|k_seq<|k_draw<|sP (pB g1 4)<|sL (t_load 1 ev)<|sP (iw (i:Int))<|sL (t_index EntT_ok Tryz.underlying44 (.zn hE) (i:Int) i om ol om) ?_
  obtain⟨y6,hy7⟩:∃y,E[i]?=some y:=⟨_,List.getElem?_eq_getElem ol⟩;refine sL (t_loadE EntT_ok (.zn hE) hy7)<|sP (pB g2 4)<|sL (t_load 0 fv)<|sP (iw (i:Int))<|sL (t_index EntT_ok Tryz.underlying44 (.zn hF) (i:Int) i om ol om)<|sL (t_loadE EntT_ok (.zn hF) hy7)<|sL (Lt.to (t_eqS (fun w=>(eqEntT y6 y6 w).2)) (cB ((congrArg Bool.not (decide_eq_true rfl:(decide (y6=y6))=true)).trans rfl:(!(decide (y6=y6)))=false)))<|s_nil<|x_dynS (fun _ h=>by kernel_rfl) ?_
  refine xs_then<|k_false<|k_skip<|xs_block<|xs_then<|k_reg<|sL (t_add (i:Int) 1 ol)<|sP (iw ((i:Int)+1))<|s_nil ?_
  exact xs_round (i+1) om om sA (rr [0,0] [])
 have p8:=dF c4;refine k_exit<|xs_exit<|xs_exit<|xs_here<|xs_then<|k_sr<|sP (.bool true)<|s_nt<|k_ret ?_
 exact xs_fin [.bool true] [] (SI.tmp 4 SI.nil) (rr [] [0,0]) ⟨rfl,rfl⟩
theorem hoSz_bound{st:Hst}{n:Nat}(hsm:HSm n st)(hn:n≤300)(id:Int):0≤hoSz st id∧hoSz st id≤200000:=by
 unfold hoSz;cases hg:st.get id with
 | none=>exact⟨by decide,by decide⟩
 | some o=>exact obsize_bound hsm hn hg
def soN(st:Hst)(i:Nat):Int:=(((hids st).take i).map (hoSz st)).sum
theorem soN_step{st:Hst}{i:Nat}{x:Int}(h:(hids st)[i]?=some x):soN st (i+1)=soN st i+hoSz st x:=by
 unfold soN;rw[List.take_add_one,h,List.map_append,List.sum_append];simp
theorem soN_end{st:Hst}{i:Nat}(h:(hids st).length≤i):soN st i=hsize st:=by
 unfold soN hsize;rw[List.take_of_length_le h];congr 1;refine List.map_congr_left fun x hx=>?_
 obtain⟨o,ho⟩:=halive_iff.1 (mem_hids.1 hx);rw[(obj_some ho 0).2.2.1];unfold Hst.ob;rw[ho];rfl
theorem graphs_w{Z:Zone}{lv:Value}{l:List Cl}(hL:KnL Z lv l)(id weak:Int):SF Tryz.prog 3 #[lv,iw id,iw weak] Z [] fun r Bs=>r=.bool true∧Bs=[]:=by
 refine sf_enter Tryz.func3 153 [(0,lv),(1,iw id),(2,iw weak)] (fun w0=>?_);refine k_sr<|sP (.bool false)<|s_nt<|k_seq<|k_sr<|sP lv<|s_pcall (fun _ h=>long_s (KnL.up hL h)) ?_
 rintro _ _ ⟨lg1,rfl,hlg2,rfl⟩;refine s_nt<|k_cond lg1 (fun c3=>?_) (fun c3=>?_)
 .refine k_sr<|sV (fun _ h=>awake_s)<|sP (.bool true)<|s_nt<|k_ret<|xs_ret ?_
  exact xs_fin [.bool true] [] (SI.tmp 6 SI.nil) (rr [] []) ⟨rfl,rfl⟩
 have hsh:=hlg2 c3;refine k_st<|k_sr<|s_pcall (fun _ h=>hnew_s) ?_
 rintro _ _ ⟨hb4,rfl,rfl⟩;refine s_pcall (fun _ h=>rhnew_s) ?_;rintro _ _ ⟨hb5,rfl,rfl⟩;refine sP (pB hb4 0)<|sP (pB hb5 0)<|s_nt<|k_seq<|k_sr<|sP lv<|sL (t_len ClT_ok Tryz.underlying22 (.zn hL.obs))<|sP (iw 0)<|s_nt<|k_block ?_
 have hgood:=gst_good (l:=l) (fun x hx=>(hsh.2 x hx).2.2.2.2);refine k_mem (Bs:=[rhA hb5 (gst l 0),hpA hb4 (gst l 0)]) (fun _ h=>h) ?_;refine k_loop (ι:=Nat) (fun i=>i≤l.length) (fun i=>[(0,lv),(1,iw id),(2,iw weak),(7,pB hb4 0),(8,pB hb5 0),(27,iw (l.length:Int)),(28,iw (i:Int))]) (fun i=>[rhA hb5 (gst l i),hpA hb4 (gst l i)]) (fun i=>l.length-i) 0 (Nat.zero_le _) sA (rr [0,0] []) ?_;rintro i hi6;show SK _ _ _ _ _ [(0,lv),(1,iw id),(2,iw weak),(7,.pointer (some ⟨hb4,0,none⟩)),(8,.pointer (some ⟨hb5,0,none⟩)),(27,iw (l.length:Int)),(28,iw (i:Int))] _ [rhA hb5 (gst l i),hpA hb4 (gst l i)];obtain⟨hi,hsm,hw⟩:=hgood i;have hln:=hsm.len;refine k_sr<|sL t_cmp<|s_nt<|k_seq<|k_cond (decide ((i:Int)<(l.length:Int))) (fun c7=>?_) (fun c7=>?_)
 .have p8:=dY c7;refine k_st<|k_seq<|k_block<|k_sr<|sP2 (iw (i:Int))<|s_nr<|sP (pB hb4 0)<|sP lv<|sP (iw (i:Int))<|sL (t_index ClT_ok Tryz.underlying22 (.zn hL.obs) (i:Int) i om ol om) ?_
  obtain⟨y9,hy10⟩:∃y,l[i]?=some y:=⟨_,List.getElem?_eq_getElem ol⟩;have hcl11:=(hsh.2 y9 (List.mem_of_getElem? hy10)).2.2.2.2;refine sL (t_loadE ClT_ok (.zn hL.obs) hy10)<|sC [1] (program_s (st:=(gst l i)) hsm om hw (hL.each y9 (List.mem_of_getElem? hy10)) (by exact (hsh.2 y9 (List.mem_of_getElem? hy10)).2.2.2.2)) ?_
  have hi12:=hcall_inv hi y9;have hs13:=hcall_sm hi hsm y9 om;have hw14:=hcall_w hi hw y9;refine s_nr<|sP (pB hb5 0)<|sP lv<|sP (iw (i:Int))<|sL (t_index ClT_ok Tryz.underlying22 (.zn hL.obs) (i:Int) i om ol om)<|sL (t_loadE ClT_ok (.zn hL.obs) hy10)<|sC [1] (document_s (st:=(gst l i)) hsm om hw (hL.each y9 (List.mem_of_getElem? hy10)) (by exact (hsh.2 y9 (List.mem_of_getElem? hy10)).2.2.2.2)) ?_
  refine s_nr<|sP (iw (i:Int))<|sP lv<|sL (t_len ClT_ok Tryz.underlying22 (.zn hL.obs))<|sL (Lt.to (v':=iw ((l.length / 2:Nat):Int)) (t_quo (l.length:Int) 2 (by decide) (by rw[half_len];omega)) (cI (half_len _)))<|sL t_cmp<|sP (.bool (decide ((i:Int)=((l.length / 2:Nat):Int))))<|s_fork 48 (decide ((i:Int)=((l.length / 2:Nat):Int))) (fun c15=>?_) (fun c15=>?_)
  .have p16:=dY c15;refine sP (pB hb4 0)<|s_call [1] (htouched_s (st:=(hcall (gst l i) y9)) hs13 om) ?_
   rintro v17 _ rfl;refine sF 0 (fun hf18=>?_);have hi19:=untch_inv hi12;have hs20:=untch_sm hs13;have hw21:=untch_w hw14;refine sP (pB hb5 0)<|s_call [2] (rhtouched_s (st:=(hcall (gst l i) y9)) hs13 om) ?_
   rintro v22 _ rfl;refine sF 0 (fun hf23=>?_);refine sV (fun _ h=>ints_s (A:=(htchd (hcall (gst l i) y9))) (Acc.kn (T:=iTy) (v:=v17) (L:=(htchd (hcall (gst l i) y9))) (.own 2) h) (Acc.kn (T:=iTy) (v:=v22) (L:=(htchd (hcall (gst l i) y9))) (.own 0) h))<|sP2 (.bool false)<|s_nt<|k_false<|k_skip<|xs_block<|xs_then<|k_reg<|sL (t_add (i:Int) 1 ol)<|sP (iw ((i:Int)+1))<|s_nil ?_
   have hru:(gst l (i+1))=(huntch (hcall (gst l i) y9)):=gst_half hy10 (dY c15);refine xs_mem (Bs:=[own iTy v22 (htchd (hcall (gst l i) y9)),rhA hb5 (gst l (i+1)),own iTy v17 (htchd (hcall (gst l i) y9)),hpA hb4 (gst l (i+1))]) (fun _ h=>by rw[hru];exact h) ?_;exact xs_round (i+1) om om sA (rr [1,2] [2,2])
  have p24:=dF c15;refine sK<|sK<|sK<|sK<|sK<|sK<|sP (.bool false)<|s_nt<|k_false<|k_skip<|xs_block<|xs_then<|k_reg<|sL (t_add (i:Int) 1 ol)<|sP (iw ((i:Int)+1))<|s_nil ?_
  have hru:(gst l (i+1))=(hcall (gst l i) y9):=gst_not hy10 (dF c15);refine xs_mem (Bs:=[rhA hb5 (gst l (i+1)),hpA hb4 (gst l (i+1))]) (fun _ h=>by rw[hru];exact h) ?_;exact xs_round (i+1) om om sA (rr [0,0] [])
 have p25:=dF c7;refine k_exit<|xs_exit<|xs_exit<|xs_here<|xs_then<|k_sr<|sP (pB hb4 0)<|sP (iw id)<|sP (iw weak)<|s_call [1] (hobject_s (st:=(gst l i)) hsm om hw id weak) ?_
 rintro _ _ ⟨rv26,ev27,rfl,rfl⟩;refine sF 0 (fun hf28=>?_);refine sF 1 (fun hf29=>?_);refine sP (.tuple #[.agg #[iw (hoId (gst l i) id),iw (hoSz (gst l i) id),iw (hoWk (gst l i) id weak),rv26,ev27],.bool (halive (gst l i) id)])<|sP (.agg #[iw (hoId (gst l i) id),iw (hoSz (gst l i) id),iw (hoWk (gst l i) id weak),rv26,ev27])<|sP (.bool (halive (gst l i) id))<|s_alloc (.agg #[iw 0,iw 0,iw 0,(.slice none 0 0),(.slice none 0 0)]) #[iw 0,iw 0,iw 0,(.slice none 0 0),(.slice none 0 0)] (fun g30=>?_)
 refine s_store (u:=.agg #[iw (hoId (gst l i) id),iw (hoSz (gst l i) id),iw (hoWk (gst l i) id weak),rv26,ev27]) (m:=5) 0 #[iw (hoId (gst l i) id),iw (hoSz (gst l i) id),iw (hoWk (gst l i) id weak),rv26,ev27] ?_ (hm:=by (obtain⟨_,_,e⟩:=hf28;rw[e];obtain⟨_,_,e⟩:=hf29;rw[e];rfl)) (h1:=by (obtain⟨_,_,e⟩:=hf28;rw[e];obtain⟨_,_,e⟩:=hf29;rw[e];rfl)) (ha':=by (obtain⟨_,_,e⟩:=hf28;rw[e];obtain⟨_,_,e⟩:=hf29;rw[e];rfl));refine sP (.bool (halive (gst l i) id))<|s_nr<|sP (pB hb5 0)<|sP (iw id)<|sP (iw weak)<|s_call [4] (rhobject_s (st:=(gst l i)) hsm om hw id weak) ?_
 rintro _ _ ⟨rv31,ev32,rfl,rfl⟩;refine sF 0 (fun hf33=>?_);refine sF 1 (fun hf34=>?_);refine sP (.tuple #[.agg #[iw (hoId (gst l i) id),iw (hoSz (gst l i) id),iw (hoWk (gst l i) id weak),rv31,ev32],.bool (halive (gst l i) id)])<|sP (.agg #[iw (hoId (gst l i) id),iw (hoSz (gst l i) id),iw (hoWk (gst l i) id weak),rv31,ev32])<|sP (.bool (halive (gst l i) id))<|s_alloc (.agg #[iw 0,iw 0,iw 0,(.slice none 0 0),(.slice none 0 0)]) #[iw 0,iw 0,iw 0,(.slice none 0 0),(.slice none 0 0)] (fun g35=>?_)
 refine s_store (u:=.agg #[iw (hoId (gst l i) id),iw (hoSz (gst l i) id),iw (hoWk (gst l i) id weak),rv31,ev32]) (m:=5) 0 #[iw (hoId (gst l i) id),iw (hoSz (gst l i) id),iw (hoWk (gst l i) id weak),rv31,ev32] ?_ (hm:=by (obtain⟨_,_,e⟩:=hf33;rw[e];obtain⟨_,_,e⟩:=hf34;rw[e];rfl)) (h1:=by (obtain⟨_,_,e⟩:=hf33;rw[e];obtain⟨_,_,e⟩:=hf34;rw[e];rfl)) (ha':=by (obtain⟨_,_,e⟩:=hf33;rw[e];obtain⟨_,_,e⟩:=hf34;rw[e];rfl));refine sP (.bool (halive (gst l i) id))<|s_nt<|k_seq<|k_seq<|k_mem (Bs:=[blkA g35 #[iw (hoId (gst l i) id),iw (hoSz (gst l i) id),iw (hoWk (gst l i) id weak),rv31,ev32] 46,own iTy rv31 (hrefs (gst l i) id),own EntT ev32 (hents (gst l i) id),rhA hb5 (gst l i),blkA g30 #[iw (hoId (gst l i) id),iw (hoSz (gst l i) id),iw (hoWk (gst l i) id weak),rv26,ev27] 46,own iTy rv26 (hrefs (gst l i) id),own EntT ev27 (hents (gst l i) id),hpA hb4 (gst l i)]) (fun _ h=>h) ?_
 refine k_reg<|sP2 (.bool (halive (gst l i) id))<|sL (Lt.to (t_pure (.bool ((halive (gst l i) id) != (halive (gst l i) id)))) (cB ((by simp):((halive (gst l i) id) != (halive (gst l i) id))=false)))<|sP (.bool false)<|sL (t_loadA 4 #[iw (hoId (gst l i) id),iw (hoSz (gst l i) id),iw (hoWk (gst l i) id weak),rv26,ev27])<|sL (t_loadA 0 #[iw (hoId (gst l i) id),iw (hoSz (gst l i) id),iw (hoWk (gst l i) id weak),rv31,ev32])<|sV (fun _ h=>sameob_s (Acc.kn (T:=iTy) (v:=rv26) (L:=(hrefs (gst l i) id)) (.own 5) h) (Acc.kn (T:=iTy) (v:=rv31) (L:=(hrefs (gst l i) id)) (.own 1) h) (Acc.kn (T:=EntT) (v:=ev27) (L:=(hents (gst l i) id)) (.own 6) h) (Acc.kn (T:=EntT) (v:=ev32) (L:=(hents (gst l i) id)) (.own 2) h))<|sP3 (.bool false)<|sP (pB hb4 0)<|s_call [7] (hids_s (st:=(gst l i)) hsm om) ?_
 rintro v36 _ rfl;refine sF 0 (fun hf37=>?_);refine sP (pB hb5 0)<|s_call [5] (rhids_s (st:=(gst l i)) hsm om) ?_
 rintro v38 _ rfl;refine sF 0 (fun hf39=>?_);refine sV (fun _ h=>ints_s (A:=(hids (gst l i))) (Acc.kn (T:=iTy) (v:=v36) (L:=(hids (gst l i))) (.own 2) h) (Acc.kn (T:=iTy) (v:=v38) (L:=(hids (gst l i))) (.own 0) h))<|sP3 (.bool false)<|sP (pB hb4 0)<|s_call [3] (htouched_s (st:=(gst l i)) hsm om) ?_
 rintro v40 _ rfl;refine sF 0 (fun hf41=>?_);have hi42:=untch_inv hi;have hs43:=untch_sm hsm;have hw44:=untch_w hw;refine sP (pB hb5 0)<|s_call [3] (rhtouched_s (st:=(gst l i)) hsm om) ?_
 rintro v45 _ rfl;refine sF 0 (fun hf46=>?_);refine sV (fun _ h=>ints_s (A:=(htchd (gst l i))) (Acc.kn (T:=iTy) (v:=v40) (L:=(htchd (gst l i))) (.own 2) h) (Acc.kn (T:=iTy) (v:=v45) (L:=(htchd (gst l i))) (.own 0) h))<|sP2 (.bool false)<|s_nt<|k_false<|k_st<|k_sr<|sP (pB hb5 0)<|s_call [1] (rhids_s (st:=(huntch (gst l i))) hs43 om) ?_
 rintro v47 _ rfl;refine sF 0 (fun hf48=>?_);refine sP v47<|s_nr<|sP (iw 0)<|s_nt<|k_seq<|k_sr<|sP v47<|sL (t_len iTy_ok Tryz.underlying42 (.own 0))<|sP (iw 0)<|s_nt<|k_block ?_
 have hidl:=hids_len (huntch (gst l i));have hln2:=hs43.len;refine k_loop (ι:=Nat) (fun j=>j≤(hids (huntch (gst l i))).length∧0≤soN (huntch (gst l i)) j∧soN (huntch (gst l i)) j≤200000*(j:Int)) (fun j=>[(2,iw weak),(7,pB hb4 0),(8,pB hb5 0),(14,v47),(15,iw (soN (huntch (gst l i)) j)),(99,iw ((hids (huntch (gst l i))).length:Int)),(100,iw (j:Int))]) (fun j=>[own iTy v47 (hids (huntch (gst l i))),rhA hb5 (huntch (gst l i)),hpA hb4 (huntch (gst l i))]) (fun j=>(hids (huntch (gst l i))).length-j) 0 ⟨Nat.zero_le _,Int.le_refl _,Int.le_refl _⟩ sA (rr [0,0,2] [3,3,3,3,3,3,3,3,3,3]) ?_;rintro j hi49;show SK _ _ _ _ _ [(2,iw weak),(7,.pointer (some ⟨hb4,0,none⟩)),(8,.pointer (some ⟨hb5,0,none⟩)),(14,v47),(15,iw (soN (huntch (gst l i)) j)),(99,iw ((hids (huntch (gst l i))).length:Int)),(100,iw (j:Int))] _ [own iTy v47 (hids (huntch (gst l i))),rhA hb5 (huntch (gst l i)),hpA hb4 (huntch (gst l i))];refine k_sr<|sL t_cmp<|s_nt<|k_seq<|k_cond (decide ((j:Int)<((hids (huntch (gst l i))).length:Int))) (fun c50=>?_) (fun c50=>?_)
 .have p51:=dY c50;refine k_st<|k_seq<|k_block<|k_sr<|sP2 (iw (j:Int))<|s_nr<|sP (pB hb4 0)<|sP v47<|sP (iw (j:Int))<|sL (t_index iTy_ok Tryz.underlying42 (.own 0) (j:Int) j om ol om) ?_
  obtain⟨y52,hy53⟩:∃y,(hids (huntch (gst l i)))[j]?=some y:=⟨_,List.getElem?_eq_getElem ol⟩;refine sL (t_loadE iTy_ok (.own 0) hy53)<|sP (iw weak)<|s_call [2] (hobject_s (st:=(huntch (gst l i))) hs43 om hw44 y52 weak) ?_
  rintro _ _ ⟨rv54,ev55,rfl,rfl⟩;refine sF 0 (fun hf56=>?_);refine sF 1 (fun hf57=>?_);refine sP (.tuple #[.agg #[iw (hoId (huntch (gst l i)) y52),iw (hoSz (huntch (gst l i)) y52),iw (hoWk (huntch (gst l i)) y52 weak),rv54,ev55],.bool (halive (huntch (gst l i)) y52)])<|sP (.agg #[iw (hoId (huntch (gst l i)) y52),iw (hoSz (huntch (gst l i)) y52),iw (hoWk (huntch (gst l i)) y52 weak),rv54,ev55])<|sP (.bool (halive (huntch (gst l i)) y52))<|s_alloc (.agg #[iw 0,iw 0,iw 0,(.slice none 0 0),(.slice none 0 0)]) #[iw 0,iw 0,iw 0,(.slice none 0 0),(.slice none 0 0)] (fun g58=>?_)
  refine s_store (u:=.agg #[iw (hoId (huntch (gst l i)) y52),iw (hoSz (huntch (gst l i)) y52),iw (hoWk (huntch (gst l i)) y52 weak),rv54,ev55]) (m:=5) 0 #[iw (hoId (huntch (gst l i)) y52),iw (hoSz (huntch (gst l i)) y52),iw (hoWk (huntch (gst l i)) y52 weak),rv54,ev55] ?_ (hm:=by (obtain⟨_,_,e⟩:=hf56;rw[e];obtain⟨_,_,e⟩:=hf57;rw[e];rfl)) (h1:=by (obtain⟨_,_,e⟩:=hf56;rw[e];obtain⟨_,_,e⟩:=hf57;rw[e];rfl)) (ha':=by (obtain⟨_,_,e⟩:=hf56;rw[e];obtain⟨_,_,e⟩:=hf57;rw[e];rfl));refine sP (.bool (halive (huntch (gst l i)) y52))<|s_nt<|k_seq<|k_mem (Bs:=[blkA g58 #[iw (hoId (huntch (gst l i)) y52),iw (hoSz (huntch (gst l i)) y52),iw (hoWk (huntch (gst l i)) y52 weak),rv54,ev55] 46,own iTy rv54 (hrefs (huntch (gst l i)) y52),own EntT ev55 (hents (huntch (gst l i)) y52),hpA hb4 (huntch (gst l i)),own iTy v47 (hids (huntch (gst l i))),rhA hb5 (huntch (gst l i))]) (fun _ h=>h) ?_
  refine k_reg<|sP (pB hb5 0)<|sP v47<|sP (iw (j:Int))<|sL (t_index iTy_ok Tryz.underlying42 (.own 4) (j:Int) j om ol om)<|sL (t_loadE iTy_ok (.own 4) hy53)<|sP (iw weak)<|s_call [5] (rhobject_s (st:=(huntch (gst l i))) hs43 om hw44 y52 weak) ?_
  rintro _ _ ⟨rv59,ev60,rfl,rfl⟩;refine sF 0 (fun hf61=>?_);refine sF 1 (fun hf62=>?_);refine sP (.tuple #[.agg #[iw (hoId (huntch (gst l i)) y52),iw (hoSz (huntch (gst l i)) y52),iw (hoWk (huntch (gst l i)) y52 weak),rv59,ev60],.bool (halive (huntch (gst l i)) y52)])<|sP (.agg #[iw (hoId (huntch (gst l i)) y52),iw (hoSz (huntch (gst l i)) y52),iw (hoWk (huntch (gst l i)) y52 weak),rv59,ev60])<|sP (.bool (halive (huntch (gst l i)) y52))<|s_alloc (.agg #[iw 0,iw 0,iw 0,(.slice none 0 0),(.slice none 0 0)]) #[iw 0,iw 0,iw 0,(.slice none 0 0),(.slice none 0 0)] (fun g63=>?_)
  refine s_store (u:=.agg #[iw (hoId (huntch (gst l i)) y52),iw (hoSz (huntch (gst l i)) y52),iw (hoWk (huntch (gst l i)) y52 weak),rv59,ev60]) (m:=5) 0 #[iw (hoId (huntch (gst l i)) y52),iw (hoSz (huntch (gst l i)) y52),iw (hoWk (huntch (gst l i)) y52 weak),rv59,ev60] ?_ (hm:=by (obtain⟨_,_,e⟩:=hf61;rw[e];obtain⟨_,_,e⟩:=hf62;rw[e];rfl)) (h1:=by (obtain⟨_,_,e⟩:=hf61;rw[e];obtain⟨_,_,e⟩:=hf62;rw[e];rfl)) (ha':=by (obtain⟨_,_,e⟩:=hf61;rw[e];obtain⟨_,_,e⟩:=hf62;rw[e];rfl));refine sP (.bool (halive (huntch (gst l i)) y52))<|s_nt<|k_seq<|k_seq<|k_mem (Bs:=[blkA g63 #[iw (hoId (huntch (gst l i)) y52),iw (hoSz (huntch (gst l i)) y52),iw (hoWk (huntch (gst l i)) y52 weak),rv59,ev60] 46,own iTy rv59 (hrefs (huntch (gst l i)) y52),own EntT ev60 (hents (huntch (gst l i)) y52),rhA hb5 (huntch (gst l i)),blkA g58 #[iw (hoId (huntch (gst l i)) y52),iw (hoSz (huntch (gst l i)) y52),iw (hoWk (huntch (gst l i)) y52 weak),rv54,ev55] 46,own iTy rv54 (hrefs (huntch (gst l i)) y52),own EntT ev55 (hents (huntch (gst l i)) y52),hpA hb4 (huntch (gst l i)),own iTy v47 (hids (huntch (gst l i)))]) (fun _ h=>h) ?_
  refine k_reg<|sL (t_loadA 4 #[iw (hoId (huntch (gst l i)) y52),iw (hoSz (huntch (gst l i)) y52),iw (hoWk (huntch (gst l i)) y52 weak),rv54,ev55])<|sL (t_loadA 0 #[iw (hoId (huntch (gst l i)) y52),iw (hoSz (huntch (gst l i)) y52),iw (hoWk (huntch (gst l i)) y52 weak),rv59,ev60])<|sV (fun _ h=>sameob_s (Acc.kn (T:=iTy) (v:=rv54) (L:=(hrefs (huntch (gst l i)) y52)) (.own 5) h) (Acc.kn (T:=iTy) (v:=rv59) (L:=(hrefs (huntch (gst l i)) y52)) (.own 1) h) (Acc.kn (T:=EntT) (v:=ev55) (L:=(hents (huntch (gst l i)) y52)) (.own 6) h) (Acc.kn (T:=EntT) (v:=ev60) (L:=(hents (huntch (gst l i)) y52)) (.own 2) h))<|sP (.bool false)<|s_nt<|k_false<|k_st<|k_mem (Bs:=[blkA g63 #[iw (hoId (huntch (gst l i)) y52),iw (hoSz (huntch (gst l i)) y52),iw (hoWk (huntch (gst l i)) y52 weak),rv59,ev60] 46,own iTy rv59 (hrefs (huntch (gst l i)) y52),own EntT ev60 (hents (huntch (gst l i)) y52),rhA hb5 (huntch (gst l i)),blkA g58 #[iw (hoId (huntch (gst l i)) y52),iw (hoSz (huntch (gst l i)) y52),iw (hoWk (huntch (gst l i)) y52 weak),rv54,ev55] 46,own iTy rv54 (hrefs (huntch (gst l i)) y52),own EntT ev55 (hents (huntch (gst l i)) y52),hpA hb4 (huntch (gst l i)),own iTy v47 (hids (huntch (gst l i)))]) (fun _ h=>h) ?_
  have hsb:=hoSz_bound hs43 om y52;refine k_reg<|sP (iw (soN (huntch (gst l i)) j))<|sP (pB g58 1)<|sL (t_load 4 (iw (hoSz (huntch (gst l i)) y52)))<|sL (t_add (soN (huntch (gst l i)) j) (hoSz (huntch (gst l i)) y52) ol)<|sP (iw ((soN (huntch (gst l i)) j)+(hoSz (huntch (gst l i)) y52)))<|s_nil<|xs_block<|xs_then<|k_reg<|sL (t_add (j:Int) 1 ol)<|sP (iw ((j:Int)+1))<|s_nil ?_
  exact xs_round (j+1) om ⟨by omega,by rw[soN_step hy53];omega,by rw[soN_step hy53];omega⟩ (sub_of rfl (rQ (rQ (rQ (rQ ⟨⟨rfl,cI (soN_step hy53).symm⟩,(rQ (rQ trivial))⟩))))) (rr [8,3,6] [3,3,3,3,3,3])
 have p64:=dF c50;refine k_exit<|xs_exit<|xs_exit<|xs_here<|xs_then<|k_seq ?_
 have hse:soN (huntch (gst l i)) j=hsize (huntch (gst l i)):=soN_end om;have hcn:=hids_cnt (huntch (gst l i));refine k_reg<|sP (pB hb4 0)<|sC [2] (hcount_s (st:=(huntch (gst l i)))) ?_
 refine sP v47<|sL (t_len iTy_ok Tryz.underlying42 (.own 1))<|sL (Lt.to t_cmp (cB (decide_eq_true hcn:(decide (((huntch (gst l i)).count:Int)=((hids (huntch (gst l i))).length:Int)))=true)))<|sP (.bool true)<|sP (pB hb4 0)<|sC [0] (hsize_s (st:=(huntch (gst l i))) hs43 om) ?_
 refine sP (iw (soN (huntch (gst l i)) j))<|sL (Lt.to t_cmp (cB (decide_eq_true hse.symm:(decide ((hsize (huntch (gst l i)))=(soN (huntch (gst l i)) j)))=true)))<|sP2 (.bool true)<|sP (pB hb4 0)<|sC [0] (hsize_s (st:=(huntch (gst l i))) hs43 om) ?_
 refine sP (pB hb5 0)<|sC [2] (rhsize_s (st:=(huntch (gst l i))) hs43 om) ?_
 refine sL (Lt.to t_cmp (cB (decide_eq_true rfl:(decide ((hsize (huntch (gst l i)))=(hsize (huntch (gst l i)))))=true)))<|sP2 (.bool true)<|sV (fun _ h=>awake_s)<|sP2 (.bool true)<|s_nt<|k_ret ?_
 exact xs_fin [.bool true] [] (SI.tmp 6 SI.nil) (rr [] [0,0,0]) ⟨rfl,rfl⟩
end Go.Proofs.YtmilekfknhglkaaGreat
end
section
set_option linter.unusedSimpArgs false
set_option linter.unusedVariables false
namespace Go.J
open Go.ChangeShapes Go.WideShapes Go.RowKit Go.Hp
open Go.Mem (Ty)
section
variable{H:Type}{enc:TypeId×Value→H}{P:Program}{W:World}
abbrev Tr(enc:TypeId×Value→H)(P:Program)(W:World)(t:TypeId)(cs:List Value):Prop:=∃n x,DataW.trod enc P W 0 (fun _=>true) true n t cs=some x
theorem tr_field{t:TypeId}{fs:Array Field}{cs:List Value}(hu:P.underlying t=some (.struct fs))(h:Tr enc P W t cs)(j:Nat)(f:Field)(hf:fs[j]?=some f):Tr enc P W f.type ((cs.drop f.offset).take (P.cellsOf f.type)):=by
 obtain⟨fuel,x,hx⟩:=h;obtain⟨xs,n,_,_,hlen,hxl,hall⟩:=DataW.trod_struct hu hx;have h2:=hall j f hf;have hj:j<xs.length:=by rw[hxl];exact (Array.getElem?_eq_some_iff.1 hf).1
 rw[List.getElem?_eq_getElem hj]at h2;exact⟨n,_,h2⟩
theorem tr_len{t:TypeId}{fs:Array Field}{cs:List Value}(hu:P.underlying t=some (.struct fs))(h:Tr enc P W t cs):cs.length=P.cellsOf t:=by
 obtain⟨fuel,x,hx⟩:=h;obtain⟨xs,n,_,_,hlen,hxl,hall⟩:=DataW.trod_struct hu hx;exact hlen
theorem tr_int{t:TypeId}{k:IntKind}{cs:List Value}(hu:P.underlying t=some (.int k))(h:Tr enc P W t cs):∃n,cs=[.int k n]∧(Lit.int k n).wf=true:=by
 obtain⟨fuel,x,hx⟩:=h;obtain⟨n,h1,_,h3⟩:=DataW.trod_int hu hx;exact⟨n,h1,h3⟩
theorem tr_str{t:TypeId}{cs:List Value}(hu:P.underlying t=some .string)(h:Tr enc P W t cs):∃s,cs=[.string s]:=by
 obtain⟨fuel,x,hx⟩:=h;obtain⟨n,h1,_⟩:=DataW.trod_string hu hx;exact⟨n,h1⟩
end
end Go.J
end
section
set_option linter.unusedSimpArgs false
set_option linter.unusedVariables false
namespace Go.J
open Go.ChangeShapes Go.WideShapes Go.RowKit Go.Hp
open Go.Mem (Ty)
section
variable{H:Type}{enc:TypeId×Value→H}{P:Program}{W:World}
theorem tr_sliceQ {α : Type} [Inhabited α] {T : Ty α} (hT : T.Ok P) {t : TypeId} {cs : List Value} (ht : P.underlying t = some (.slice T.id)) (hc : P.cellsOf T.id = T.size)
    {Q : α → Prop} (hdec : ∀ cs, Tr enc P W T.id cs → ∃ x, T.enc x = cs ∧ Q x) (h : Tr enc P W t cs) : ∃ v L, cs = [v] ∧ Sl W.heap T v L ∧ ∀ y ∈ L, Q y := by
  obtain ⟨fuel, x, hf⟩ := h
  rcases Deep.open_slice ht hf with ⟨h0, _⟩ | ⟨a, len0, cap, m, n, D, Pl, h0, _, hl, hm, hmm, _, hx⟩
  · exact ⟨_, [], h0, .inl ⟨⟨none, rfl⟩, rfl⟩, by simp⟩
  simp only [if_true] at hmm
  subst hmm
  have hpos := hT.pos
  rw [hc] at hx
  by_cases hcap : m = 0
  · subst hcap
    obtain rfl : len0 = 0 := by omega
    exact ⟨_, [], h0, .inl ⟨⟨some a, rfl⟩, rfl⟩, by simp⟩
  obtain ⟨g, off, spot⟩ := a
  have key : spot = none ∧ ∃ arr e fr, W.heap[g]? = some (.cells arr e fr) := by
    obtain ⟨cs', h1, h2⟩ := hx 0 (by omega)
    obtain ⟨_, hlen, hcell⟩ := World.cells?_some h1
    have h3 := hcell 0 hpos
    simp only [Nat.zero_mul, Addr.add, if_true] at h3
    have hne : cs'[0]? ≠ none := by rw [List.getElem?_eq_getElem (by omega)]; exact fun h => nomatch h
    unfold World.cell? at h3
    simp only at h3
    cases hg : W.heap[g]? with
    | none => rw [hg] at h3; simp only at h3; exact absurd h3.symm hne
    | some ob =>
      rw [hg] at h3
      cases ob <;> simp only at h3 <;> first | (exact absurd h3.symm hne) | skip
      rename_i arr e fr
      cases spot with
      | none => exact ⟨rfl, arr, e, fr, rfl⟩
      | some s => simp only [Option.isSome_some, if_true] at h3; exact absurd h3.symm hne
  obtain ⟨rfl, arr, e, fr, hg⟩ := key
  obtain ⟨X, hX⟩ := Deep.choose_lt (α := α) (p := fun i x => (∀ j u, (T.enc x)[j]? = some u → arr[off + i * T.size + j]? = some u) ∧ Q x) (fun i hi => by
    obtain ⟨cs', h1, h2⟩ := hx i hi
    obtain ⟨_, hlen, hcell⟩ := World.cells?_some h1
    obtain ⟨x, hx', hQ⟩ := hdec cs' ⟨_, _, h2⟩
    refine ⟨x, fun j u hj => ?_, hQ⟩
    rw [hx'] at hj
    have hjl : j < T.size := by rw [← hlen]; exact (List.getElem?_eq_some_iff.1 hj).1
    have := hcell j hjl
    rw [Mem.addr_add, Mem.addr_add, cell_of_row W g _ arr e fr hg, hj] at this
    exact this)
  have hget : ∀ i j, i < m → j < T.size → ∃ u, (T.enc (X i))[j]? = some u ∧ arr[off + i * T.size + j]? = some u := fun i j hi hj => by
    have : j < (T.enc (X i)).length := by rw [hT.len]; exact hj
    exact ⟨_, List.getElem?_eq_getElem this, (hX i hi).1 j _ (List.getElem?_eq_getElem this)⟩
  refine ⟨_, (List.range len0).map X, h0, .inr ⟨g, off, m, arr, e, fr, by simp, hg, by simpa using hl, hm, ?_, ?_⟩, ?_⟩
  · intro hcp
    obtain ⟨u, _, hu⟩ := hget (m - 1) (T.size - 1) (by omega) (by omega)
    have hlt := (Array.getElem?_eq_some_iff.1 hu).1
    have : m * T.size = (m - 1) * T.size + T.size := by rw [Nat.sub_mul]; have : T.size ≤ m * T.size := Nat.le_mul_of_pos_left _ hcp; omega
    omega
  · apply List.ext_getElem?
    intro q
    have hfl := hT.flat_len ((List.range len0).map X)
    simp only [List.length_map, List.length_range] at hfl ⊢
    by_cases hq : q < len0 * T.size
    · have hi : q / T.size < len0 := Nat.div_lt_of_lt_mul (by rw [Nat.mul_comm]; exact hq)
      have hj : q % T.size < T.size := Nat.mod_lt _ hpos
      have e1 : q = q / T.size * T.size + q % T.size := by rw [Nat.mul_comm]; exact (Nat.div_add_mod _ _).symm
      obtain ⟨u, h1, h2⟩ := hget (q / T.size) (q % T.size) (by omega) hj
      have hL : ((List.range len0).map X)[q / T.size]? = some (X (q / T.size)) := by simp [hi]
      have h3 := hT.flat_get hL hj
      rw [← e1, h1] at h3
      rw [h3, List.getElem?_take, if_pos hq, List.getElem?_drop, Array.getElem?_toList]
      rw [← h2]
      congr 1
      omega
    · rw [List.getElem?_eq_none (by simp; omega), List.getElem?_eq_none (by rw [hfl]; omega)]
  · intro y hy
    simp only [List.mem_map, List.mem_range] at hy
    obtain ⟨i, hi, rfl⟩ := hy
    exact (hX i (by omega)).2
theorem tr_fieldC{t:TypeId}{fs:Array Field}{cs:List Value}(hu:P.underlying t=some (.struct fs))(h:Tr enc P W t cs)(j:Nat)(u:TypeId)(off m:Nat)(hf:(fs[j]?).map (fun f=>(f.type,f.offset))=some (u,off):=by rfl)(hc:P.cellsOf u=m:=by kernel_rfl):Tr enc P W u ((cs.drop off).take m):=by
 cases hfj:fs[j]? with
 | none=>rw[hfj]at hf;cases hf
 | some f=>
  rw[hfj]at hf;injection hf with hf;injection hf with e1 e2
  subst e1 e2 hc;exact tr_field hu h j f hfj
end
end Go.J
end
section
set_option linter.unusedSimpArgs false
set_option linter.unusedVariables false
namespace Go.Proofs.YtmilekfknhglkaaGreat
open Go.RowKit Go.J Go.S Go.Hp Go.ChangeShapes Go.WideShapes
theorem Tryz.own:ownKnob Tryz.prog.godebug=none:=by kernel_rfl
theorem Tryz.laidOut:laidOutB Tryz.prog=true:=by kernel_rfl
instance:Inhabited Vl:=⟨zVl⟩
instance:Inhabited Cl:=⟨ClT.zero⟩
section
variable{H:Type}{enc:TypeId×Value→H}{W:World}
theorem open_val{cs:List Value}(h:Tr enc Tryz.prog W 32 cs):∃x:Vl,cs=VlT.enc x:=by
 have hl:cs.length=5:=(tr_len Tryz.underlying32 h).trans (by kernel_rfl);obtain⟨a,ea,_⟩:=tr_int Tryz.underlying3 (tr_fieldC Tryz.underlying32 h 0 3 0 1);have hn:=tr_fieldC Tryz.underlying32 h 1 30 1 2;obtain⟨b,eb,_⟩:=tr_int Tryz.underlying3 (tr_fieldC Tryz.underlying30 hn 0 3 0 1);obtain⟨c,ec,_⟩:=tr_int Tryz.underlying3 (tr_fieldC Tryz.underlying30 hn 1 3 1 1);obtain⟨s,es⟩:=tr_str Tryz.underlying9 (tr_fieldC Tryz.underlying32 h 2 9 3 1);obtain⟨d,ed,_⟩:=tr_int Tryz.underlying3 (tr_fieldC Tryz.underlying32 h 3 3 4 1);match cs,hl with
 | [x0,x1,x2,x3,x4],_=>
  obtain rfl:x0=_:=(List.cons.inj (show[x0]=_ from ea)).1;obtain rfl:x1=_:=(List.cons.inj (show[x1]=_ from eb)).1;obtain rfl:x2=_:=(List.cons.inj (show[x2]=_ from ec)).1;obtain rfl:x3=_:=(List.cons.inj (show[x3]=_ from es)).1;obtain rfl:x4=_:=(List.cons.inj (show[x4]=_ from ed)).1;exact⟨⟨a,b,c,s,d⟩,rfl⟩
theorem open_vals{cs:List Value}(h:Tr enc Tryz.prog W 37 cs):∃v L,cs=[v]∧Sl W.heap VlT v L:=by
 obtain⟨v,L,h1,h2,_⟩:=tr_sliceQ (Q:=fun _=>True) VlT_ok Tryz.underlying37 (by kernel_rfl) (fun cs h=>by obtain⟨x,e⟩:=open_val h;exact⟨x,e.symm,trivial⟩) h;exact⟨v,L,h1,h2⟩
theorem open_cl{cs:List Value}(h:Tr enc Tryz.prog W 39 cs):∃x,ClT.enc x=cs∧Sl W.heap VlT x.lv.v x.l:=by
 have hl:cs.length=19:=(tr_len Tryz.underlying39 h).trans (by kernel_rfl);obtain⟨k,ek,_⟩:=tr_int Tryz.underlying3 (tr_fieldC Tryz.underlying39 h 0 3 0 1);obtain⟨a,ea⟩:=open_val (tr_fieldC Tryz.underlying39 h 1 32 1 5);obtain⟨b,eb⟩:=open_val (tr_fieldC Tryz.underlying39 h 2 32 6 5);obtain⟨c,ec⟩:=open_val (tr_fieldC Tryz.underlying39 h 3 32 11 5);obtain⟨n,en,_⟩:=tr_int Tryz.underlying3 (tr_fieldC Tryz.underlying39 h 4 3 16 1);obtain⟨s,es⟩:=tr_str Tryz.underlying9 (tr_fieldC Tryz.underlying39 h 5 9 17 1);obtain⟨v,L,ev,hv⟩:=open_vals (tr_fieldC Tryz.underlying39 h 6 37 18 1);obtain⟨p,q,rfl⟩:=hv.form;match cs,hl with
 | [x0,x1,x2,x3,x4,x5,x6,x7,x8,x9,x10,x11,x12,x13,x14,x15,x16,x17,x18],_=>
  obtain rfl:x0=_:=(List.cons.inj (show[x0]=_ from ek)).1;have fa:[x1,x2,x3,x4,x5]=VlT.enc a:=ea;have fb:[x6,x7,x8,x9,x10]=VlT.enc b:=eb;have fc:[x11,x12,x13,x14,x15]=VlT.enc c:=ec;simp only[VlT,Go.Mem.Ty.enc,Vl.v,Value.cells,List.cons.injEq,and_true]at fa fb fc;obtain⟨rfl,rfl,rfl,rfl,rfl⟩:=fa;obtain⟨rfl,rfl,rfl,rfl,rfl⟩:=fb;obtain⟨rfl,rfl,rfl,rfl,rfl⟩:=fc;obtain rfl:x16=_:=(List.cons.inj (show[x16]=_ from en)).1;obtain rfl:x17=_:=(List.cons.inj (show[x17]=_ from es)).1;obtain rfl:x18=_:=(List.cons.inj (show[x18]=_ from ev)).1;exact⟨⟨k,a,b,c,n,s,⟨p,L.length,q⟩,L⟩,rfl,hv⟩
theorem open_cls{cs:List Value}(h:Tr enc Tryz.prog W 22 cs):∃v L,cs=[v]∧KnL (zoneOf W.heap) v L:=by
 obtain⟨v,L,h1,h2,h3⟩:=tr_sliceQ (Q:=fun x:Cl=>Sl W.heap VlT x.lv.v x.l) ClT_ok Tryz.underlying22 (by kernel_rfl) (fun cs h=>open_cl h) h;exact⟨v,L,h1,.of h2,fun x hx=>.of (h3 x hx)⟩
end
end Go.Proofs.YtmilekfknhglkaaGreat
end
