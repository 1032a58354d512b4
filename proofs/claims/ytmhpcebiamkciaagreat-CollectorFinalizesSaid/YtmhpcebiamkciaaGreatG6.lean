/-
  Layer 45: Full. Each law says its conditions.
-/
import Derived.Test.YtmhpcebiamkciaaGreatG5
import Derived.Test.YtmhpcebiamkciaaGreatG3
import Derived.Test.YtmhpcebiamkciaaGreatG4
import Derived.Test.YtmhpcebiamkciaaGreatG1
import Derived.Test.YtmhpcebiamkciaaGreatG2
import Derived.Test.YtmhpcebiamkciaaGreatRows
section
set_option linter.unusedSimpArgs false
set_option linter.unusedVariables false
set_option maxRecDepth 100000
set_option maxHeartbeats 400000
namespace Go.Proofs.YtmhpcebiamkciaaGreat
open Go.Hp Go.J Go.S
open Go.Mem (Ty KTy blk elemAt pre suf blk_pre blk_suf aget aset strK aggDesc)
open Go.Mem (adel apos aget_aset aget_adel)
theorem fcyc_s{Z:Zone}{ov rv:Value}{l:List Ob}{R:List Int}(hg:KnG Z ov rv l R){F:List Asr}{qb:Nat}{reg pend:List Int}(hc:chk 0 l=true)(hl0:l.length≤200)(hr:R.length≤50000)(hsm:∀o∈l,o.refs.length≤400∧o.ents.length≤100000)(hq1:reg.length≤50000)(hq2:pend.length≤50000):SF Tryz.prog 53 #[.agg #[ov,rv],.pointer (some ⟨qb,0,none⟩)] Z (qA qb reg pend::F) fun r Bs=>∃ov' rv' fv l',r=.tuple #[.agg #[ov',rv'],fv,iw 0]∧l'.map Ob.c=cycO l R reg pend∧Bs=qA qb (cycR l R reg) (cycP l R reg pend)::frz (GrA ov' rv' l' R)::own iTy fv (cycF l R reg pend)::F:=
 (cycle_s hg hl0 om (by have:=pot_le l hsm [];omega) hr hsm hq1 hq2).mono fun r Bs ⟨ov',rv',fv,l',R',h1,h2,h3,h4⟩=>by
  simp only[hc,↓reduceIte]at h1 h2 h3 h4;subst h3;exact⟨ov',rv',fv,l',h1.trans rfl,h2,h4⟩
theorem gr_lend{Z':Zone}{ov rv:Value}{l:List Ob}{R:List Int}(h:∀H,ZOk Z' H→GrA ov rv l R H):KnG Z' ov rv l R:=⟨fun H hz=>(h H hz).1,fun H hz=>(h H hz).2.1,fun x hx=>⟨fun H hz=>((h H hz).2.2 x hx).1,fun H hz=>((h H hz).2.2 x hx).2⟩⟩
theorem fr_kind{st st':Hst}{x:Int}{o:Hob}(h:Fr st st')(hg:st.get x=some o)(h4:o.kind=4):∃o',st'.get x=some o'∧o'.kind=4:=by
 obtain⟨T,e⟩:=h x;rw[hg]at e;exact⟨_,e,h4⟩
theorem cobW_snoc{st:Hst}{X:List Int}{N:List Ob}{j:Nat}{y:Int}{z:Ob}(hy:X[j]?=some y)(h:N.map Ob.c=(X.take j).map (cobjW st))(hz:z.c=cobjW st y):(N++[z]).map Ob.c=(X.take (j+1)).map (cobjW st):=by
 rw[List.take_add_one,hy,List.map_append,List.map_append,h];simp[hz]
theorem cfull_s{Z:Zone}{F:List Asr}{b q hb:Nat}{ph:Int}{m:Int→Int}{Q L Fr G P:List Int}{st:Hst}{n:Nat}{rv:Value}{R:List Int}(ho:HOk n st)(hn:n≤190)(hR:R.length≤9000)(hGP:G.length+P.length≤300)(hFr:Fr.length≤5000):SF Tryz.prog 18 #[.pointer (some ⟨b,0,none⟩),rv] Z (own iTy rv R::coA b q hb ph m Q L Fr G P::hpA hb st::F) fun r Bs=>Bs=own iTy r (cycP (lW st) R G P)::own iTy rv R::coA b q hb 0 m [] [] (Fr++fulF st R G P) (cycR (lW st) R G) (cycP (lW st) R G P)::hpA hb (fulH st R G P)::F:=by
 refine sf_enter Tryz.func18 119 [(0,pB b 0),(1,rv)] (fun w0=>?_);have hil:=hids_len st;have hol:=ho.sm.len;refine k_sr<|sP (.slice none 0 0)<|s_nt<|k_seq<|k_sr<|sP (pB b 0)<|sP (.bool false)<|s_nt<|k_false<|k_st<|k_sr<|sP2 (pB b 0)<|sP (pB b 2)<|s_mem5 (fun H h=>co_open (h.re [1] [])) (fun mb1 qv2 lv3 fv4 cl5 hw=>?_)
 have hc6:=hw;refine s_store 0 #[pB q 0,pB hb 0,iw 0,.map (some mb1),qv2,lv3,fv4] ?_;refine s_nr<|sP (pB b 0)<|s_makeMap iK cV (fun b7=>?_)
 refine sP (pB b 0)<|sP (pB b 3)<|s_store 1 #[pB q 0,pB hb 0,iw 0,.map (some b7),qv2,lv3,fv4] ?_
 refine s_nr<|sP3 (pB b 0)<|sP (pB b 4)<|s_store 1 #[pB q 0,pB hb 0,iw 0,.map (some b7),(.slice none 0 0),lv3,fv4] ?_
 refine sP (pB b 0)<|sP (pB b 5)<|s_store 1 #[pB q 0,pB hb 0,iw 0,.map (some b7),(.slice none 0 0),(.slice none 0 0),fv4] ?_
 refine s_nr<|sP rv<|s_pcall (fun _ h=>clone_s (Acc.kn (.own 7) h) ol) ?_
 rintro v8 _ rfl;refine sF 0 (fun hf9=>?_);refine sL (show Lt _ _ _ _ _ (.agg #[(.slice none 0 0),v8]) from by obtain⟨_,_,e⟩:=hf9;rw[e];clear e;exact t_kern _)<|s_alloc (.agg #[(.slice none 0 0),(.slice none 0 0)]) #[(.slice none 0 0),(.slice none 0 0)] (fun g10=>?_)
 refine s_store (u:=.agg #[(.slice none 0 0),v8]) (m:=2) 0 #[(.slice none 0 0),v8] ?_ (hm:=by (obtain⟨_,_,e0⟩:=hf9;rw[e0];rfl)) (h1:=by (obtain⟨_,_,e0⟩:=hf9;rw[e0];rfl)) (ha':=by (obtain⟨_,_,e0⟩:=hf9;rw[e0];rfl));refine s_nt<|k_seq<|k_sr<|sP2 (pB b 0)<|sP (pB b 1)<|sL (t_load 3 (pB hb 0))<|s_call [10] (hids_s (st:=st) ho.sm om) ?_
 rintro v11 _ rfl;refine sF 0 (fun hf12=>?_);refine sL (t_len iTy_ok Tryz.underlying23 (.own 0))<|sP (iw 0)<|s_nt<|k_block<|k_mem (fun _ h=>mc_shut Col.nil (h.re [4] [])) ?_
 refine k_mem (fun _ h=>Holds.nilO (T:=iTy) h) ?_;refine k_mem (fun _ h=>Holds.nilO (T:=iTy) h) ?_;refine k_mem (fun _ h=>co_shut (c:=m) (.inl rfl) (h.re [7,7,2,0,0,7] [])) ?_;refine k_mem (fun _ h=>Holds.nilS (T:=ObT) (h.frz0 (F:=AllO []) (by intro _ x hx;cases hx))) ?_;refine k_loop (ι:=Value×List Ob×Nat) (fun (ox,N,j)=>j≤(hids st).length∧N.map Ob.c=((hids st).take j).map (cobjW st)) (fun (ox,N,j)=>[(0,pB b 0),(5,pB g10 0),(39,v11),(40,iw ((hids st).length:Int)),(41,iw (j:Int))]) (fun (ox,N,j)=>own ObT ox N::frz (AllO N)::coA b q hb 0 m ([]:List Int) ([]:List Int) Fr G P::own iTy v11 (hids st)::hpA hb st::blkA g10 #[ox,v8] 57::own iTy v8 R::own iTy rv R::F) (fun (ox,N,j)=>(hids st).length-j) ((.slice none 0 0),[],0) ⟨Nat.zero_le _,rfl⟩ sA (rr [0,0,0,0,0,0,0,3] [8,8,8]) ?_;rintro⟨ox,N,j⟩ hi13;replace hi13:j≤(hids st).length∧N.map Ob.c=((hids st).take j).map (cobjW st):=hi13;show SK _ _ _ _ _ [(0,pB b 0),(5,pB g10 0),(39,v11),(40,iw ((hids st).length:Int)),(41,iw (j:Int))] _ (own ObT ox N::frz (AllO N)::coA b q hb 0 m ([]:List Int) ([]:List Int) Fr G P::own iTy v11 (hids st)::hpA hb st::blkA g10 #[ox,v8] 57::own iTy v8 R::own iTy rv R::F);have hNl:N.length=j:=by have:=congrArg List.length hi13.2;simp only[List.length_map,List.length_take]at this;omega
 refine k_sr<|sL t_cmp<|s_nt<|k_seq<|k_cond (decide ((j:Int)<((hids st).length:Int))) (fun c14=>?_) (fun c14=>?_)
 .have p15:=dY c14;refine k_st<|k_seq<|k_block<|k_sr<|sL (t_index iTy_ok Tryz.underlying23 (.own 3) (j:Int) j om ol om) ?_
  obtain⟨y16,hy17⟩:∃y,(hids st)[j]?=some y:=⟨_,List.getElem?_eq_getElem ol⟩;refine sL (t_loadE iTy_ok (.own 3) hy17)<|sP (iw y16)<|s_nt<|k_mem5 (fun H h=>co_open (h.re [2] [])) (fun mb18 qv19 lv20 fv21 cl22 hw=>?_)
  have hc23:=hw;refine k_seq<|k_held [blkA b #[pB q 0,pB hb 0,iw 0,.map (some mb18),qv19,lv20,fv21] 91,blkA g10 #[ox,v8] 57] ?_
  refine hp_ 0 [0,9] (pB b 0) ?_;refine hp_ 1 [0,9] (pB b 0) ?_;refine hp_ 2 [0,9] (pB b 1) ?_;refine h_l 3 rfl [0,9] (fun _=>(t_load 0 (pB hb 0))) ?_;refine hp_ 4 [0,9] (iw y16) ?_;refine hp_ 5 [0,9] (pB b 0) ?_;refine hp_ 6 [0,9] (pB b 0) ?_;refine hp_ 7 [0,9] (pB b 1) ?_;refine h_l 8 rfl [0,9] (fun _=>(t_load 0 (pB hb 0))) ?_;refine hp_ 9 [0,9] (iw y16) ?_;refine h_l 10 rfl [0,9] (fun _=>(t_kern (.agg #[iw 4,iw 0,iw 0,sw eb,iw y16]))) ?_;refine h_stepS2 11 16 ?_ ?_
  .refine sC [9] (wkn_s (st:=st) ho.sm om (⟨4,0,0,eb,y16⟩:Vl)) ?_;refine nH [1,9]<|h_stepS2 12 16 ?_ ?_
   .refine s_call [0] (hobject_s (st:=st) ho.sm om ho.w y16 (wkn st (⟨4,0,0,eb,y16⟩:Vl))) ?_;rintro _ _ ⟨rv44,ev45,rfl,rfl⟩;refine sF 0 (fun hf46=>?_);refine sF 1 (fun hf47=>?_);refine nH [3,11]<|hp_ 13 [3,11] (.tuple #[.agg #[iw (hoId st y16),iw (hoSz st y16),iw (hoWk st y16 (wkn st (⟨4,0,0,eb,y16⟩:Vl))),rv44,ev45],.bool (halive st y16)]) ?_
    refine hp_ 14 [3,11] (.agg #[iw (hoId st y16),iw (hoSz st y16),iw (hoWk st y16 (wkn st (⟨4,0,0,eb,y16⟩:Vl))),rv44,ev45]) ?_;refine hp_ 15 [3,11] (.bool (halive st y16)) ?_;refine h_stepS 16 ?_;refine s_alloc (.agg #[iw 0,iw 0,iw 0,(.slice none 0 0),(.slice none 0 0)]) #[iw 0,iw 0,iw 0,(.slice none 0 0),(.slice none 0 0)] (fun g48=>?_);refine nH [4,12]<|h_stepS 17 ?_
    refine s_store (u:=.agg #[iw (hoId st y16),iw (hoSz st y16),iw (hoWk st y16 (wkn st (⟨4,0,0,eb,y16⟩:Vl))),rv44,ev45]) (m:=5) 0 #[iw (hoId st y16),iw (hoSz st y16),iw (hoWk st y16 (wkn st (⟨4,0,0,eb,y16⟩:Vl))),rv44,ev45] ?_ (hm:=by (obtain⟨_,_,e0⟩:=hf46;obtain⟨_,_,e1⟩:=hf47;rw[e0,e1];rfl)) (h1:=by (obtain⟨_,_,e0⟩:=hf46;obtain⟨_,_,e1⟩:=hf47;rw[e0,e1];rfl)) (ha':=by (obtain⟨_,_,e0⟩:=hf46;obtain⟨_,_,e1⟩:=hf47;rw[e0,e1];rfl));refine nH [4,12]<|hp_ 18 [4,12] (.bool (halive st y16)) ?_
    refine h_doneS ?_;refine xs_then<|k_reg<|sP (pB g10 0)<|sL (t_load 13 ox) ?_
    obtain⟨pp49,cc50,e⟩:=hf46;subst e;obtain⟨pp51,cc52,e⟩:=hf47;subst e;refine sL (t_loadA 0 #[iw (hoId st y16),iw (hoSz st y16),iw (hoWk st y16 (wkn st (⟨4,0,0,eb,y16⟩:Vl))),(.slice pp49 (hrefs st y16).length cc50),(.slice pp51 (hents st y16).length cc52)])<|s_buildSlice (e:=100) [(0,.agg #[iw (hoId st y16),iw (hoSz st y16),iw (hoWk st y16 (wkn st (⟨4,0,0,eb,y16⟩:Vl))),(.slice pp49 (hrefs st y16).length cc50),(.slice pp51 (hents st y16).length cc52)])] #[iw (hoId st y16),iw (hoSz st y16),iw (hoWk st y16 (wkn st (⟨4,0,0,eb,y16⟩:Vl))),(.slice pp49 (hrefs st y16).length cc50),(.slice pp51 (hents st y16).length cc52)] (fun g53=>?_) (hb:=by kernel_rfl)
    refine s_append (L:=N) 11 ObT_ok Tryz.underlying55 (.lit 0 ObT_ok [(⟨(hoId st y16),(hoSz st y16),(hoWk st y16 (wkn st (⟨4,0,0,eb,y16⟩:Vl))),⟨pp49,(hrefs st y16).length,cc50⟩,⟨pp51,(hents st y16).length,cc52⟩,(hrefs st y16),(hents st y16)⟩:Ob)]) (by show _*72≤_;(try simp only[lnm]);omega) ol (fun v54=>?_);refine s_fact (fun H h=>((Acc.own (T:=ObT) (L:=(N++[(⟨(hoId st y16),(hoSz st y16),(hoWk st y16 (wkn st (⟨4,0,0,eb,y16⟩:Vl))),⟨pp49,(hrefs st y16).length,cc50⟩,⟨pp51,(hents st y16).length,cc52⟩,(hrefs st y16),(hents st y16)⟩:Ob)])) 11 rfl) H h).form) (fun hf55=>?_);refine sP (pB g10 0)<|s_store (u:=v54) (m:=1) 14 #[v54,v8] ?_ (hm:=by (obtain⟨_,_,e0⟩:=hf55;rw[e0];rfl)) (h1:=by (obtain⟨_,_,e0⟩:=hf55;rw[e0];rfl)) (ha':=by (obtain⟨_,_,e0⟩:=hf55;rw[e0];rfl))
    refine s_nil<|xs_block<|xs_then<|k_reg<|sL (t_add (j:Int) 1 ol)<|sP (iw ((j:Int)+1))<|s_nil<|xs_mem (fun _ h=>co_shut (c:=m) (.inl rfl) (h.re [5,5,5,5,5,5] [])) ?_
    refine xs_mem (fun _ h=>frz_push (⟨(hoId st y16),(hoSz st y16),(hoWk st y16 (wkn st (⟨4,0,0,eb,y16⟩:Vl))),⟨pp49,(hrefs st y16).length,cc50⟩,⟨pp51,(hents st y16).length,cc52⟩,(hrefs st y16),(hents st y16)⟩:Ob) (h.re [3,3,5] [])) ?_;refine xs_mem (Bs:=frz (AllO (N++[(⟨(hoId st y16),(hoSz st y16),(hoWk st y16 (wkn st (⟨4,0,0,eb,y16⟩:Vl))),⟨pp49,(hrefs st y16).length,cc50⟩,⟨pp51,(hents st y16).length,cc52⟩,(hrefs st y16),(hents st y16)⟩:Ob)]))::coA b q hb 0 m ([]:List Int) ([]:List Int) Fr G P::blkA g53 #[iw (hoId st y16),iw (hoSz st y16),iw (hoWk st y16 (wkn st (⟨4,0,0,eb,y16⟩:Vl))),(.slice pp49 (hrefs st y16).length cc50),(.slice pp51 (hents st y16).length cc52)] 100::blkA g48 #[iw (hoId st y16),iw (hoSz st y16),iw (hoWk st y16 (wkn st (⟨4,0,0,eb,y16⟩:Vl))),(.slice pp49 (hrefs st y16).length cc50),(.slice pp51 (hents st y16).length cc52)] 100::hpA hb st::own ObT v54 (N++[(⟨(hoId st y16),(hoSz st y16),(hoWk st y16 (wkn st (⟨4,0,0,eb,y16⟩:Vl))),⟨pp49,(hrefs st y16).length,cc50⟩,⟨pp51,(hents st y16).length,cc52⟩,(hrefs st y16),(hents st y16)⟩:Ob)])::own iTy v11 (hids st)::blkA g10 #[v54,v8] 57::own iTy v8 R::own iTy rv R::F) (fun _ h=>h) ?_;exact xs_round (v54,N++[(⟨(hoId st y16),(hoSz st y16),(hoWk st y16 (wkn st (⟨4,0,0,eb,y16⟩:Vl))),⟨pp49,(hrefs st y16).length,cc50⟩,⟨pp51,(hents st y16).length,cc52⟩,(hrefs st y16),(hents st y16)⟩:Ob)],j+1) (by show (hids st).length-(j+1)<(hids st).length-j;omega) (by obtain⟨hk1,hk2⟩:=hi13;exact⟨by omega,cobW_snoc hy17 hk2 rfl⟩) sA (rr [5,0,0,3,2,2,2,2] [8,8])
   refine s_alloc (.agg #[iw 0,iw 0,iw 0,(.slice none 0 0),(.slice none 0 0)]) #[iw 0,iw 0,iw 0,(.slice none 0 0),(.slice none 0 0)] (fun g56=>?_);refine nH [2,10]<|h_stepS 12 ?_
   refine s_call [1] (hobject_s (st:=st) ho.sm om ho.w y16 (wkn st (⟨4,0,0,eb,y16⟩:Vl))) ?_;rintro _ _ ⟨rv57,ev58,rfl,rfl⟩;refine sF 0 (fun hf59=>?_);refine sF 1 (fun hf60=>?_);refine nH [4,12]<|hp_ 13 [4,12] (.tuple #[.agg #[iw (hoId st y16),iw (hoSz st y16),iw (hoWk st y16 (wkn st (⟨4,0,0,eb,y16⟩:Vl))),rv57,ev58],.bool (halive st y16)]) ?_
   refine hp_ 14 [4,12] (.agg #[iw (hoId st y16),iw (hoSz st y16),iw (hoWk st y16 (wkn st (⟨4,0,0,eb,y16⟩:Vl))),rv57,ev58]) ?_;refine hp_ 15 [4,12] (.bool (halive st y16)) ?_;refine h_stepS 17 ?_;refine s_store (u:=.agg #[iw (hoId st y16),iw (hoSz st y16),iw (hoWk st y16 (wkn st (⟨4,0,0,eb,y16⟩:Vl))),rv57,ev58]) (m:=5) 3 #[iw (hoId st y16),iw (hoSz st y16),iw (hoWk st y16 (wkn st (⟨4,0,0,eb,y16⟩:Vl))),rv57,ev58] ?_ (hm:=by (obtain⟨_,_,e0⟩:=hf59;obtain⟨_,_,e1⟩:=hf60;rw[e0,e1];rfl)) (h1:=by (obtain⟨_,_,e0⟩:=hf59;obtain⟨_,_,e1⟩:=hf60;rw[e0,e1];rfl)) (ha':=by (obtain⟨_,_,e0⟩:=hf59;obtain⟨_,_,e1⟩:=hf60;rw[e0,e1];rfl));refine nH [4,12]<|hp_ 18 [4,12] (.bool (halive st y16)) ?_
   refine h_doneS ?_;refine xs_then<|k_reg<|sP (pB g10 0)<|sL (t_load 13 ox) ?_
   obtain⟨pp61,cc62,e⟩:=hf59;subst e;obtain⟨pp63,cc64,e⟩:=hf60;subst e;refine sL (t_loadA 3 #[iw (hoId st y16),iw (hoSz st y16),iw (hoWk st y16 (wkn st (⟨4,0,0,eb,y16⟩:Vl))),(.slice pp61 (hrefs st y16).length cc62),(.slice pp63 (hents st y16).length cc64)])<|s_buildSlice (e:=100) [(0,.agg #[iw (hoId st y16),iw (hoSz st y16),iw (hoWk st y16 (wkn st (⟨4,0,0,eb,y16⟩:Vl))),(.slice pp61 (hrefs st y16).length cc62),(.slice pp63 (hents st y16).length cc64)])] #[iw (hoId st y16),iw (hoSz st y16),iw (hoWk st y16 (wkn st (⟨4,0,0,eb,y16⟩:Vl))),(.slice pp61 (hrefs st y16).length cc62),(.slice pp63 (hents st y16).length cc64)] (fun g65=>?_) (hb:=by kernel_rfl)
   refine s_append (L:=N) 11 ObT_ok Tryz.underlying55 (.lit 0 ObT_ok [(⟨(hoId st y16),(hoSz st y16),(hoWk st y16 (wkn st (⟨4,0,0,eb,y16⟩:Vl))),⟨pp61,(hrefs st y16).length,cc62⟩,⟨pp63,(hents st y16).length,cc64⟩,(hrefs st y16),(hents st y16)⟩:Ob)]) (by show _*72≤_;(try simp only[lnm]);omega) ol (fun v66=>?_);refine s_fact (fun H h=>((Acc.own (T:=ObT) (L:=(N++[(⟨(hoId st y16),(hoSz st y16),(hoWk st y16 (wkn st (⟨4,0,0,eb,y16⟩:Vl))),⟨pp61,(hrefs st y16).length,cc62⟩,⟨pp63,(hents st y16).length,cc64⟩,(hrefs st y16),(hents st y16)⟩:Ob)])) 11 rfl) H h).form) (fun hf67=>?_);refine sP (pB g10 0)<|s_store (u:=v66) (m:=1) 14 #[v66,v8] ?_ (hm:=by (obtain⟨_,_,e0⟩:=hf67;rw[e0];rfl)) (h1:=by (obtain⟨_,_,e0⟩:=hf67;rw[e0];rfl)) (ha':=by (obtain⟨_,_,e0⟩:=hf67;rw[e0];rfl))
   refine s_nil<|xs_block<|xs_then<|k_reg<|sL (t_add (j:Int) 1 ol)<|sP (iw ((j:Int)+1))<|s_nil<|xs_mem (fun _ h=>co_shut (c:=m) (.inl rfl) (h.re [5,5,5,5,5,5] [])) ?_
   refine xs_mem (fun _ h=>frz_push (⟨(hoId st y16),(hoSz st y16),(hoWk st y16 (wkn st (⟨4,0,0,eb,y16⟩:Vl))),⟨pp61,(hrefs st y16).length,cc62⟩,⟨pp63,(hents st y16).length,cc64⟩,(hrefs st y16),(hents st y16)⟩:Ob) (h.re [2,2,5] [])) ?_;refine xs_mem (Bs:=frz (AllO (N++[(⟨(hoId st y16),(hoSz st y16),(hoWk st y16 (wkn st (⟨4,0,0,eb,y16⟩:Vl))),⟨pp61,(hrefs st y16).length,cc62⟩,⟨pp63,(hents st y16).length,cc64⟩,(hrefs st y16),(hents st y16)⟩:Ob)]))::coA b q hb 0 m ([]:List Int) ([]:List Int) Fr G P::blkA g65 #[iw (hoId st y16),iw (hoSz st y16),iw (hoWk st y16 (wkn st (⟨4,0,0,eb,y16⟩:Vl))),(.slice pp61 (hrefs st y16).length cc62),(.slice pp63 (hents st y16).length cc64)] 100::hpA hb st::blkA g56 #[iw (hoId st y16),iw (hoSz st y16),iw (hoWk st y16 (wkn st (⟨4,0,0,eb,y16⟩:Vl))),(.slice pp61 (hrefs st y16).length cc62),(.slice pp63 (hents st y16).length cc64)] 100::own ObT v66 (N++[(⟨(hoId st y16),(hoSz st y16),(hoWk st y16 (wkn st (⟨4,0,0,eb,y16⟩:Vl))),⟨pp61,(hrefs st y16).length,cc62⟩,⟨pp63,(hents st y16).length,cc64⟩,(hrefs st y16),(hents st y16)⟩:Ob)])::own iTy v11 (hids st)::blkA g10 #[v66,v8] 57::own iTy v8 R::own iTy rv R::F) (fun _ h=>h) ?_;exact xs_round (v66,N++[(⟨(hoId st y16),(hoSz st y16),(hoWk st y16 (wkn st (⟨4,0,0,eb,y16⟩:Vl))),⟨pp61,(hrefs st y16).length,cc62⟩,⟨pp63,(hents st y16).length,cc64⟩,(hrefs st y16),(hents st y16)⟩:Ob)],j+1) (by show (hids st).length-(j+1)<(hids st).length-j;omega) (by obtain⟨hk1,hk2⟩:=hi13;exact⟨by omega,cobW_snoc hy17 hk2 rfl⟩) sA (rr [5,0,0,3,1,2,2,2] [8,8])
  refine s_alloc (.agg #[iw 0,iw 0,iw 0,(.slice none 0 0),(.slice none 0 0)]) #[iw 0,iw 0,iw 0,(.slice none 0 0),(.slice none 0 0)] (fun g68=>?_);refine nH [1,10]<|h_stepS 11 ?_
  refine sC [10] (wkn_s (st:=st) ho.sm om (⟨4,0,0,eb,y16⟩:Vl)) ?_;refine nH [2,10]<|h_stepS 12 ?_
  refine s_call [0] (hobject_s (st:=st) ho.sm om ho.w y16 (wkn st (⟨4,0,0,eb,y16⟩:Vl))) ?_;rintro _ _ ⟨rv69,ev70,rfl,rfl⟩;refine sF 0 (fun hf71=>?_);refine sF 1 (fun hf72=>?_);refine nH [4,12]<|hp_ 13 [4,12] (.tuple #[.agg #[iw (hoId st y16),iw (hoSz st y16),iw (hoWk st y16 (wkn st (⟨4,0,0,eb,y16⟩:Vl))),rv69,ev70],.bool (halive st y16)]) ?_
  refine hp_ 14 [4,12] (.agg #[iw (hoId st y16),iw (hoSz st y16),iw (hoWk st y16 (wkn st (⟨4,0,0,eb,y16⟩:Vl))),rv69,ev70]) ?_;refine hp_ 15 [4,12] (.bool (halive st y16)) ?_;refine h_stepS 17 ?_;refine s_store (u:=.agg #[iw (hoId st y16),iw (hoSz st y16),iw (hoWk st y16 (wkn st (⟨4,0,0,eb,y16⟩:Vl))),rv69,ev70]) (m:=5) 3 #[iw (hoId st y16),iw (hoSz st y16),iw (hoWk st y16 (wkn st (⟨4,0,0,eb,y16⟩:Vl))),rv69,ev70] ?_ (hm:=by (obtain⟨_,_,e0⟩:=hf71;obtain⟨_,_,e1⟩:=hf72;rw[e0,e1];rfl)) (h1:=by (obtain⟨_,_,e0⟩:=hf71;obtain⟨_,_,e1⟩:=hf72;rw[e0,e1];rfl)) (ha':=by (obtain⟨_,_,e0⟩:=hf71;obtain⟨_,_,e1⟩:=hf72;rw[e0,e1];rfl));refine nH [4,12]<|hp_ 18 [4,12] (.bool (halive st y16)) ?_
  refine h_doneS ?_;refine xs_then<|k_reg<|sP (pB g10 0)<|sL (t_load 13 ox) ?_
  obtain⟨pp73,cc74,e⟩:=hf71;subst e;obtain⟨pp75,cc76,e⟩:=hf72;subst e;refine sL (t_loadA 3 #[iw (hoId st y16),iw (hoSz st y16),iw (hoWk st y16 (wkn st (⟨4,0,0,eb,y16⟩:Vl))),(.slice pp73 (hrefs st y16).length cc74),(.slice pp75 (hents st y16).length cc76)])<|s_buildSlice (e:=100) [(0,.agg #[iw (hoId st y16),iw (hoSz st y16),iw (hoWk st y16 (wkn st (⟨4,0,0,eb,y16⟩:Vl))),(.slice pp73 (hrefs st y16).length cc74),(.slice pp75 (hents st y16).length cc76)])] #[iw (hoId st y16),iw (hoSz st y16),iw (hoWk st y16 (wkn st (⟨4,0,0,eb,y16⟩:Vl))),(.slice pp73 (hrefs st y16).length cc74),(.slice pp75 (hents st y16).length cc76)] (fun g77=>?_) (hb:=by kernel_rfl)
  refine s_append (L:=N) 11 ObT_ok Tryz.underlying55 (.lit 0 ObT_ok [(⟨(hoId st y16),(hoSz st y16),(hoWk st y16 (wkn st (⟨4,0,0,eb,y16⟩:Vl))),⟨pp73,(hrefs st y16).length,cc74⟩,⟨pp75,(hents st y16).length,cc76⟩,(hrefs st y16),(hents st y16)⟩:Ob)]) (by show _*72≤_;(try simp only[lnm]);omega) ol (fun v78=>?_);refine s_fact (fun H h=>((Acc.own (T:=ObT) (L:=(N++[(⟨(hoId st y16),(hoSz st y16),(hoWk st y16 (wkn st (⟨4,0,0,eb,y16⟩:Vl))),⟨pp73,(hrefs st y16).length,cc74⟩,⟨pp75,(hents st y16).length,cc76⟩,(hrefs st y16),(hents st y16)⟩:Ob)])) 11 rfl) H h).form) (fun hf79=>?_);refine sP (pB g10 0)<|s_store (u:=v78) (m:=1) 14 #[v78,v8] ?_ (hm:=by (obtain⟨_,_,e0⟩:=hf79;rw[e0];rfl)) (h1:=by (obtain⟨_,_,e0⟩:=hf79;rw[e0];rfl)) (ha':=by (obtain⟨_,_,e0⟩:=hf79;rw[e0];rfl))
  refine s_nil<|xs_block<|xs_then<|k_reg<|sL (t_add (j:Int) 1 ol)<|sP (iw ((j:Int)+1))<|s_nil<|xs_mem (fun _ h=>co_shut (c:=m) (.inl rfl) (h.re [5,5,5,5,5,5] [])) ?_
  refine xs_mem (fun _ h=>frz_push (⟨(hoId st y16),(hoSz st y16),(hoWk st y16 (wkn st (⟨4,0,0,eb,y16⟩:Vl))),⟨pp73,(hrefs st y16).length,cc74⟩,⟨pp75,(hents st y16).length,cc76⟩,(hrefs st y16),(hents st y16)⟩:Ob) (h.re [2,2,5] [])) ?_;refine xs_mem (Bs:=frz (AllO (N++[(⟨(hoId st y16),(hoSz st y16),(hoWk st y16 (wkn st (⟨4,0,0,eb,y16⟩:Vl))),⟨pp73,(hrefs st y16).length,cc74⟩,⟨pp75,(hents st y16).length,cc76⟩,(hrefs st y16),(hents st y16)⟩:Ob)]))::coA b q hb 0 m ([]:List Int) ([]:List Int) Fr G P::blkA g77 #[iw (hoId st y16),iw (hoSz st y16),iw (hoWk st y16 (wkn st (⟨4,0,0,eb,y16⟩:Vl))),(.slice pp73 (hrefs st y16).length cc74),(.slice pp75 (hents st y16).length cc76)] 100::hpA hb st::blkA g68 #[iw (hoId st y16),iw (hoSz st y16),iw (hoWk st y16 (wkn st (⟨4,0,0,eb,y16⟩:Vl))),(.slice pp73 (hrefs st y16).length cc74),(.slice pp75 (hents st y16).length cc76)] 100::own ObT v78 (N++[(⟨(hoId st y16),(hoSz st y16),(hoWk st y16 (wkn st (⟨4,0,0,eb,y16⟩:Vl))),⟨pp73,(hrefs st y16).length,cc74⟩,⟨pp75,(hents st y16).length,cc76⟩,(hrefs st y16),(hents st y16)⟩:Ob)])::own iTy v11 (hids st)::blkA g10 #[v78,v8] 57::own iTy v8 R::own iTy rv R::F) (fun _ h=>h) ?_;exact xs_round (v78,N++[(⟨(hoId st y16),(hoSz st y16),(hoWk st y16 (wkn st (⟨4,0,0,eb,y16⟩:Vl))),⟨pp73,(hrefs st y16).length,cc74⟩,⟨pp75,(hents st y16).length,cc76⟩,(hrefs st y16),(hents st y16)⟩:Ob)],j+1) (by show (hids st).length-(j+1)<(hids st).length-j;omega) (by obtain⟨hk1,hk2⟩:=hi13;exact⟨by omega,cobW_snoc hy17 hk2 rfl⟩) sA (rr [5,0,0,3,1,2,2,2] [8,8])
 have p80:=dF c14;refine k_exit<|xs_exit<|xs_exit<|xs_here<|xs_then<|k_mem5 (fun H h=>co_open (h.re [2] [])) (fun mb81 qv82 lv83 fv84 cl85 hw=>?_)
 have hc86:=hw;refine k_seq<|k_held [blkA b #[pB q 0,pB hb 0,iw 0,.map (some mb81),qv82,lv83,fv84] 91,blkA g10 #[ox,v8] 57] ?_
 refine h_l 0 rfl [0,9] (fun _=>(t_loadA 1 #[ox,v8])) ?_;refine hp_ 1 [0,9] (pB b 0) ?_;refine hp_ 2 [0,9] (pB b 0) ?_;refine hp_ 3 [0,9] (pB b 0) ?_;refine h_l 4 rfl [0,9] (fun _=>(t_load 0 (pB q 0))) ?_;refine h_stepS2 5 10 ?_ ?_
 .obtain ⟨hk1,hk2⟩:=hi13;rw[List.take_of_length_le om]at hk2;have hsh:=shw_of hk2;have hNl:N.length=(hids st).length:=by have:=congrArg List.length hk2;simpa using this
  have hNW:N.map Ob.c=(lW st).map Ob.c:=hk2.trans (lW_c st).symm;refine s_mem (fun _ h=>gr_shut (h.re [6,10,6] [])) ?_;refine s_lend 0 [1] (fun Z1 hz=>fcyc_s (l:=N) (R:=R) (reg:=G) (pend:=P) (gr_lend hz.frz) (hsh.chk ho.sm om) om om (hsh.small ho.sm om) om om) ?_;rintro _ _ ⟨o2,r2,fv,l2,rfl,hl2,rfl⟩;refine sF 3 (fun hf88=>?_);have hk4:∀c∈(l2.map Ob.c),c.2.2.1≠0→∀o,st.get c.1=some o→o.kind=4:=fun c hc hw o hg=>by obtain⟨o',h1,h2⟩:=cyc_kind hsh (by rw[←hl2];exact hc) hw;rw[hg]at h1;cases h1;exact h2
  have hFl:(cycF N R G P).length≤N.length:=by unfold cycF;refine Nat.le_trans (List.length_filter_le _ _) ?_;rw[List.length_map];exact Nat.le_refl _
  have hPl:(cycP N R G P).length≤P.length+G.length:=by unfold cycP;exact cycP_len N R G P
  have hl2l:l2.length≤N.length:=(cycO_small hl2 (hsh.small ho.sm om)).1;refine nH [4,10]<|hp_ 6 [4,10] (.tuple #[.agg #[o2,r2],fv,iw 0]) ?_
  refine hp_ 7 [4,10] (.agg #[o2,r2]) ?_;refine hp_ 8 [4,10] fv ?_;refine hp_ 9 [4,10] (iw 0) ?_;refine h_stepS 10 ?_;refine s_alloc (.agg #[(.slice none 0 0),(.slice none 0 0)]) #[(.slice none 0 0),(.slice none 0 0)] (fun g89=>?_);refine nH [5,11]<|h_stepS 11 ?_
  refine s_fact (fun H h=>((show Acc _ _ ObT _ _ from (accF 3)) H h).form) (fun hf90=>?_);refine s_fact (fun H h=>((show Acc _ _ iTy _ _ from (accR 3)) H h).form) (fun hf91=>?_);refine s_store (u:=.agg #[o2,r2]) (m:=2) 0 #[o2,r2] ?_ (hm:=by (obtain⟨_,_,e0⟩:=hf90;obtain⟨_,_,e1⟩:=hf91;rw[e0,e1];rfl)) (h1:=by (obtain⟨_,_,e0⟩:=hf90;obtain⟨_,_,e1⟩:=hf91;rw[e0,e1];rfl)) (ha':=by (obtain⟨_,_,e0⟩:=hf90;obtain⟨_,_,e1⟩:=hf91;rw[e0,e1];rfl));refine nH [5,11]<|hp_ 12 [5,11] fv ?_
  refine hp_ 13 [5,11] (iw 0) ?_;refine h_doneS ?_;refine xs_then<|k_seq<|k_sr<|sP (pB g89 0)<|sL (t_load 0 o2)<|sL (t_len ObT_ok Tryz.underlying55 (accF 3))<|sP (iw 0)<|s_nt<|k_block<|k_mem (fun _ h=>co_shut (c:=m) (.inl rfl) (h.re [5,2,4,4,4,4] [])) ?_
  refine k_mem (Bs:=coA b q hb 0 m ([]:List Int) ([]:List Int) Fr (cycR N R G) (cycP N R G P)::blkA g89 #[o2,r2] 57::frz (GrA ox v8 N R)::frz (GrA o2 r2 l2 R)::own iTy fv (cycF N R G P)::own iTy v11 (hids st)::hpA hb (hclrs st ((l2.map Ob.c).take 0))::blkA g10 #[ox,v8] 57::own iTy rv R::F) (fun _ h=>h) ?_;refine k_loop (ι:=Nat) (fun i=>i≤l2.length) (fun i=>[(0,pB b 0),(11,fv),(79,o2),(80,iw (l2.length:Int)),(81,iw (i:Int))]) (fun i=>coA b q hb 0 m ([]:List Int) ([]:List Int) Fr (cycR N R G) (cycP N R G P)::frz (GrA o2 r2 l2 R)::own iTy fv (cycF N R G P)::hpA hb (hclrs st ((l2.map Ob.c).take i))::own iTy rv R::F) (fun i=>l2.length-i) 0 (Nat.zero_le _) sA (rr [0,2,2,3,4] [5,5,5,5]) ?_;rintro i hi92;show SK _ _ _ _ _ [(0,pB b 0),(11,fv),(79,o2),(80,iw (l2.length:Int)),(81,iw (i:Int))] _ (coA b q hb 0 m ([]:List Int) ([]:List Int) Fr (cycR N R G) (cycP N R G P)::frz (GrA o2 r2 l2 R)::own iTy fv (cycF N R G P)::hpA hb (hclrs st ((l2.map Ob.c).take i))::own iTy rv R::F);refine k_sr<|sL t_cmp<|s_nt<|k_seq<|k_cond (decide ((i:Int)<(l2.length:Int))) (fun c93=>?_) (fun c93=>?_)
  .have p94:=dY c93;refine k_st<|k_seq<|k_block<|k_sr<|sL (t_index ObT_ok Tryz.underlying55 (accF 1) (i:Int) i om ol om) ?_
   obtain⟨y95,hy96⟩:∃y,l2[i]?=some y:=⟨_,List.getElem?_eq_getElem ol⟩;refine sL (t_loadE ObT_ok (accF 1) hy96)<|s_alloc (.agg #[iw 0,iw 0,iw 0,(.slice none 0 0),(.slice none 0 0)]) #[iw 0,iw 0,iw 0,(.slice none 0 0),(.slice none 0 0)] (fun g97=>?_)
   refine s_store 0 #[iw y95.id,iw y95.size,iw y95.weak,y95.rv.v,y95.ev.v] ?_;refine s_nr<|sP (pB g97 2)<|sL (t_load 0 (iw y95.weak))<|sL t_cmp<|s_nt<|k_cond (decide (y95.weak≠0)) (fun c98=>?_) (fun c98=>?_)
   .have p99:=dY c98;refine k_reg<|sP (pB b 0)<|sL (t_loadA 0 #[iw y95.id,iw y95.size,iw y95.weak,y95.rv.v,y95.ev.v]) ?_
    have hcj:(l2.map Ob.c)[i]?=some y95.c:=by rw[List.getElem?_map,hy96];rfl
    obtain⟨ho1,hcl1⟩:=hclrs_ok ho om (l2.map Ob.c) hk4 i;obtain⟨o0,hg0,h40⟩:=cyc_kind hsh (by rw[←hl2];exact List.mem_of_getElem? hcj) (show y95.c.2.2.1≠0 from dY c98);obtain⟨o1,hg1,h41⟩:=fr_kind hcl1.fr hg0 h40;refine s_lend 2 [1,2] (fun Z1 hz=>cclear_s (x:=y95) (st:=(hclrs st ((l2.map Ob.c).take i))) ((gr_lend (ov:=o2) (rv:=r2) (l:=l2) (R:=R) hz.frz).each y95 (List.mem_of_getElem? hy96)) ho1 om hg1 h41) ?_;rintro _ _ ⟨rfl,rfl⟩;refine s_nil<|xs_block<|xs_then<|k_reg<|sL (t_add (i:Int) 1 ol)<|sP (iw ((i:Int)+1))<|s_nil ?_
    have htk:=hclrs_take (st:=st) hcj;rw[if_pos (show y95.c.2.2.1≠0 from dY c98)]at htk;refine xs_mem (Bs:=frz (GrA o2 r2 l2 R)::coA b q hb 0 m ([]:List Int) ([]:List Int) Fr (cycR N R G) (cycP N R G P)::hpA hb (hclrs st ((l2.map Ob.c).take (i+1)))::blkA g97 #[iw y95.id,iw y95.size,iw y95.weak,y95.rv.v,y95.ev.v] 100::own iTy fv (cycF N R G P)::own iTy rv R::F) (fun _ h=>by rw[htk];exact h) ?_;exact xs_round (i+1) (by show l2.length-(i+1)<l2.length-i;omega) om sA (rr [1,0,2,0,1] [5])
   have p100:=Decidable.not_not.1 (dF c98);refine k_skip<|xs_block<|xs_then<|k_reg<|sL (t_add (i:Int) 1 ol)<|sP (iw ((i:Int)+1))<|s_nil ?_
   have hcj:(l2.map Ob.c)[i]?=some y95.c:=by rw[List.getElem?_map,hy96];rfl
   have htk:=hclrs_take (st:=st) hcj;rw[if_neg (show ¬y95.c.2.2.1≠0 from dF c98)]at htk;refine xs_mem (Bs:=blkA g97 #[iw y95.id,iw y95.size,iw y95.weak,y95.rv.v,y95.ev.v] 100::coA b q hb 0 m ([]:List Int) ([]:List Int) Fr (cycR N R G) (cycP N R G P)::frz (GrA o2 r2 l2 R)::own iTy fv (cycF N R G P)::hpA hb (hclrs st ((l2.map Ob.c).take (i+1)))::own iTy rv R::F) (fun _ h=>by rw[htk];exact h) ?_;exact xs_round (i+1) (by show l2.length-(i+1)<l2.length-i;omega) om sA (rr [1,1,1,1,1] [5])
  have p101:=dF c93;refine k_exit<|xs_exit<|xs_exit<|xs_here<|xs_then<|k_seq<|k_sr<|sP fv<|sL (t_len iTy_ok Tryz.underlying23 (.own 2))<|sP (iw 0)<|s_nt<|k_block<|k_mem (Bs:=coA b q hb 0 m ([]:List Int) ([]:List Int) Fr (cycR N R G) (cycP N R G P)::frz (GrA o2 r2 l2 R)::own iTy fv (cycF N R G P)::hpA hb (drps (hclrs st (l2.map Ob.c)) ((cycF N R G P).take 0))::own iTy rv R::F) (fun _ h=>by rw[List.take_of_length_le (by rw[List.length_map];omega)]at h;exact h) ?_
  refine k_loop (ι:=Nat) (fun i=>i≤(cycF N R G P).length) (fun i=>[(0,pB b 0),(11,fv),(92,fv),(93,iw ((cycF N R G P).length:Int)),(94,iw (i:Int))]) (fun i=>coA b q hb 0 m ([]:List Int) ([]:List Int) Fr (cycR N R G) (cycP N R G P)::own iTy fv (cycF N R G P)::hpA hb (drps (hclrs st (l2.map Ob.c)) ((cycF N R G P).take i))::own iTy rv R::F) (fun i=>(cycF N R G P).length-i) 0 (Nat.zero_le _) sA (rr [0,1,1,1] [4]) ?_;rintro i hi102;show SK _ _ _ _ _ [(0,pB b 0),(11,fv),(92,fv),(93,iw ((cycF N R G P).length:Int)),(94,iw (i:Int))] _ (coA b q hb 0 m ([]:List Int) ([]:List Int) Fr (cycR N R G) (cycP N R G P)::own iTy fv (cycF N R G P)::hpA hb (drps (hclrs st (l2.map Ob.c)) ((cycF N R G P).take i))::own iTy rv R::F);refine k_sr<|sL t_cmp<|s_nt<|k_seq<|k_cond (decide ((i:Int)<((cycF N R G P).length:Int))) (fun c103=>?_) (fun c103=>?_)
  .have p104:=dY c103;refine k_st<|k_seq<|k_block<|k_sr<|sL (t_index iTy_ok Tryz.underlying23 (.own 1) (i:Int) i om ol om) ?_
   obtain⟨y105,hy106⟩:∃y,(cycF N R G P)[i]?=some y:=⟨_,List.getElem?_eq_getElem ol⟩;refine sL (t_loadE iTy_ok (.own 1) hy106)<|sP (iw y105)<|s_nt<|k_reg<|sP2 (pB b 0)<|sP (pB b 1)<|s_mem5 (fun H h=>co_open (h.re [0] [])) (fun mb107 qv108 lv109 fv110 cl111 hw=>?_)
   have hc112:=hw;refine sL (t_load 0 (pB hb 0))<|sP (iw y105)<|sC [7] (hdrop_s (st:=(drps (hclrs st (l2.map Ob.c)) ((cycF N R G P).take i))) y105) ?_
   refine s_nil<|xs_block<|xs_then<|k_reg<|sL (t_add (i:Int) 1 ol)<|sP (iw ((i:Int)+1))<|s_nil<|xs_mem (fun _ h=>co_shut (c:=m) (.inl rfl) (h.re [1,1,1,1,1,1] [])) ?_
   refine xs_mem (Bs:=coA b q hb 0 m ([]:List Int) ([]:List Int) Fr (cycR N R G) (cycP N R G P)::hpA hb (drps (hclrs st (l2.map Ob.c)) ((cycF N R G P).take (i+1)))::own iTy fv (cycF N R G P)::own iTy rv R::F) (fun _ h=>by rw[drps_take hy106];exact h) ?_;exact xs_round (i+1) (by show (cycF N R G P).length-(i+1)<(cycF N R G P).length-i;omega) om sA (rr [0,1,0,0] [])
  have p113:=dF c103;refine k_exit<|xs_exit<|xs_exit<|xs_here<|xs_then<|k_sr<|sP3 (pB b 0)<|sP (pB b 6)<|s_mem5 (fun H h=>co_open (h.re [0] [])) (fun mb114 qv115 lv116 fv117 cl118 hw=>?_)
  have hc119:=hw;refine sL (t_load 0 fv117)<|sP fv<|s_appendO (L:=Fr) 5 iTy_ok Tryz.underlying23 (.own 6) (by show _*8≤_;(try simp only[lnm]);omega) ol (fun v120=>?_)
  refine s_fact (fun H h=>((Acc.ownO (T:=iTy) (L:=(Fr++(cycF N R G P))) 5 rfl) H h).form) (fun hf121=>?_);refine sP (pB b 0)<|sP (pB b 6)<|s_store (u:=v120) (m:=1) 0 #[pB q 0,pB hb 0,iw 0,.map (some mb114),qv115,lv116,v120] ?_ (hm:=by (obtain⟨_,_,e0⟩:=hf121;rw[e0];rfl)) (h1:=by (obtain⟨_,_,e0⟩:=hf121;rw[e0];rfl)) (ha':=by (obtain⟨_,_,e0⟩:=hf121;rw[e0];rfl))
  refine s_nr<|sP3 (pB b 0)<|sL (t_load 0 (pB q 0))<|s_call [1] (pending_s (pend:=(cycP N R G P)) om) ?_
  rintro v122 _ rfl;refine sF 0 (fun hf123=>?_);refine sP v122<|s_nt<|k_ret<|xs_mem (fun _ h=>co_shut (c:=m) (.inl rfl) (h.re [2,1,1,1,1,1] [])) ?_
  have hH:fulH st R G P=drps (hclrs st (l2.map Ob.c)) (cycF N R G P):=by unfold fulH fulO fulF;rw[←cycO_c R G P hNW,←cycF_c R G P hNW,hl2]
  have hF:fulF st R G P=(cycF N R G P):=(cycF_c R G P hNW).symm;refine xs_mem (Bs:=coA b q hb 0 m ([]:List Int) ([]:List Int) (Fr++(cycF N R G P)) (cycR N R G) (cycP N R G P)::own iTy v122 (cycP N R G P)::own iTy fv (cycF N R G P)::hpA hb (drps (hclrs st (l2.map Ob.c)) (cycF N R G P))::own iTy rv R::F) (fun _ h=>by rw[List.take_of_length_le om]at h;exact h) ?_;have hGW:=cycR_of R G hNW;have hPW:=cycP_of R G P hNW;refine xs_mem (Bs:=coA b q hb 0 m [] [] (Fr++fulF st R G P) (cycR (lW st) R G) (cycP (lW st) R G P)::own iTy v122 (cycP (lW st) R G P)::own iTy fv (cycF N R G P)::hpA hb (fulH st R G P)::own iTy rv R::F) (fun _ h=>by rw[hH,hF,←hGW,←hPW];exact h) ?_;exact xs_fin [v122] (own iTy v122 (cycP (lW st) R G P)::own iTy rv R::coA b q hb 0 m [] [] (Fr++fulF st R G P) (cycR (lW st) R G) (cycP (lW st) R G P)::hpA hb (fulH st R G P)::F) (SI.tmp 4 SI.nil) (rr [1,3,0,1] [4]) rfl
 refine s_alloc (.agg #[(.slice none 0 0),(.slice none 0 0)]) #[(.slice none 0 0),(.slice none 0 0)] (fun g124=>?_);refine nH [1,10]<|h_stepS 5 ?_
 obtain⟨hk1,hk2⟩:=hi13;rw[List.take_of_length_le om]at hk2;have hsh:=shw_of hk2;have hNl:N.length=(hids st).length:=by have:=congrArg List.length hk2;simpa using this
 have hNW:N.map Ob.c=(lW st).map Ob.c:=hk2.trans (lW_c st).symm;refine s_mem (fun _ h=>gr_shut (h.re [7,11,7] [])) ?_;refine s_lend 0 [2] (fun Z1 hz=>fcyc_s (l:=N) (R:=R) (reg:=G) (pend:=P) (gr_lend hz.frz) (hsh.chk ho.sm om) om om (hsh.small ho.sm om) om om) ?_;rintro _ _ ⟨o2,r2,fv,l2,rfl,hl2,rfl⟩;refine sF 3 (fun hf125=>?_);have hk4:∀c∈(l2.map Ob.c),c.2.2.1≠0→∀o,st.get c.1=some o→o.kind=4:=fun c hc hw o hg=>by obtain⟨o',h1,h2⟩:=cyc_kind hsh (by rw[←hl2];exact hc) hw;rw[hg]at h1;cases h1;exact h2
 have hFl:(cycF N R G P).length≤N.length:=by unfold cycF;refine Nat.le_trans (List.length_filter_le _ _) ?_;rw[List.length_map];exact Nat.le_refl _
 have hPl:(cycP N R G P).length≤P.length+G.length:=by unfold cycP;exact cycP_len N R G P
 have hl2l:l2.length≤N.length:=(cycO_small hl2 (hsh.small ho.sm om)).1;refine nH [5,11]<|hp_ 6 [5,11] (.tuple #[.agg #[o2,r2],fv,iw 0]) ?_
 refine hp_ 7 [5,11] (.agg #[o2,r2]) ?_;refine hp_ 8 [5,11] fv ?_;refine hp_ 9 [5,11] (iw 0) ?_;refine h_stepS 11 ?_;refine s_fact (fun H h=>((show Acc _ _ ObT _ _ from (accF 2)) H h).form) (fun hf126=>?_);refine s_fact (fun H h=>((show Acc _ _ iTy _ _ from (accR 2)) H h).form) (fun hf127=>?_);refine s_store (u:=.agg #[o2,r2]) (m:=2) 4 #[o2,r2] ?_ (hm:=by (obtain⟨_,_,e0⟩:=hf126;obtain⟨_,_,e1⟩:=hf127;rw[e0,e1];rfl)) (h1:=by (obtain⟨_,_,e0⟩:=hf126;obtain⟨_,_,e1⟩:=hf127;rw[e0,e1];rfl)) (ha':=by (obtain⟨_,_,e0⟩:=hf126;obtain⟨_,_,e1⟩:=hf127;rw[e0,e1];rfl));refine nH [5,11]<|hp_ 12 [5,11] fv ?_
 refine hp_ 13 [5,11] (iw 0) ?_;refine h_doneS ?_;refine xs_then<|k_seq<|k_sr<|sP (pB g124 0)<|sL (t_load 4 o2)<|sL (t_len ObT_ok Tryz.underlying55 (accF 2))<|sP (iw 0)<|s_nt<|k_block<|k_mem (fun _ h=>co_shut (c:=m) (.inl rfl) (h.re [5,1,4,4,4,4] [])) ?_
 refine k_mem (Bs:=coA b q hb 0 m ([]:List Int) ([]:List Int) Fr (cycR N R G) (cycP N R G P)::frz (GrA ox v8 N R)::frz (GrA o2 r2 l2 R)::own iTy fv (cycF N R G P)::blkA g124 #[o2,r2] 57::own iTy v11 (hids st)::hpA hb (hclrs st ((l2.map Ob.c).take 0))::blkA g10 #[ox,v8] 57::own iTy rv R::F) (fun _ h=>h) ?_;refine k_loop (ι:=Nat) (fun i=>i≤l2.length) (fun i=>[(0,pB b 0),(11,fv),(79,o2),(80,iw (l2.length:Int)),(81,iw (i:Int))]) (fun i=>coA b q hb 0 m ([]:List Int) ([]:List Int) Fr (cycR N R G) (cycP N R G P)::frz (GrA o2 r2 l2 R)::own iTy fv (cycF N R G P)::hpA hb (hclrs st ((l2.map Ob.c).take i))::own iTy rv R::F) (fun i=>l2.length-i) 0 (Nat.zero_le _) sA (rr [0,1,1,3,4] [5,5,5,5]) ?_;rintro i hi128;show SK _ _ _ _ _ [(0,pB b 0),(11,fv),(79,o2),(80,iw (l2.length:Int)),(81,iw (i:Int))] _ (coA b q hb 0 m ([]:List Int) ([]:List Int) Fr (cycR N R G) (cycP N R G P)::frz (GrA o2 r2 l2 R)::own iTy fv (cycF N R G P)::hpA hb (hclrs st ((l2.map Ob.c).take i))::own iTy rv R::F);refine k_sr<|sL t_cmp<|s_nt<|k_seq<|k_cond (decide ((i:Int)<(l2.length:Int))) (fun c129=>?_) (fun c129=>?_)
 .have p130:=dY c129;refine k_st<|k_seq<|k_block<|k_sr<|sL (t_index ObT_ok Tryz.underlying55 (accF 1) (i:Int) i om ol om) ?_
  obtain⟨y131,hy132⟩:∃y,l2[i]?=some y:=⟨_,List.getElem?_eq_getElem ol⟩;refine sL (t_loadE ObT_ok (accF 1) hy132)<|s_alloc (.agg #[iw 0,iw 0,iw 0,(.slice none 0 0),(.slice none 0 0)]) #[iw 0,iw 0,iw 0,(.slice none 0 0),(.slice none 0 0)] (fun g133=>?_)
  refine s_store 0 #[iw y131.id,iw y131.size,iw y131.weak,y131.rv.v,y131.ev.v] ?_;refine s_nr<|sP (pB g133 2)<|sL (t_load 0 (iw y131.weak))<|sL t_cmp<|s_nt<|k_cond (decide (y131.weak≠0)) (fun c134=>?_) (fun c134=>?_)
  .have p135:=dY c134;refine k_reg<|sP (pB b 0)<|sL (t_loadA 0 #[iw y131.id,iw y131.size,iw y131.weak,y131.rv.v,y131.ev.v]) ?_
   have hcj:(l2.map Ob.c)[i]?=some y131.c:=by rw[List.getElem?_map,hy132];rfl
   obtain⟨ho1,hcl1⟩:=hclrs_ok ho om (l2.map Ob.c) hk4 i;obtain⟨o0,hg0,h40⟩:=cyc_kind hsh (by rw[←hl2];exact List.mem_of_getElem? hcj) (show y131.c.2.2.1≠0 from dY c134);obtain⟨o1,hg1,h41⟩:=fr_kind hcl1.fr hg0 h40;refine s_lend 2 [1,2] (fun Z1 hz=>cclear_s (x:=y131) (st:=(hclrs st ((l2.map Ob.c).take i))) ((gr_lend (ov:=o2) (rv:=r2) (l:=l2) (R:=R) hz.frz).each y131 (List.mem_of_getElem? hy132)) ho1 om hg1 h41) ?_;rintro _ _ ⟨rfl,rfl⟩;refine s_nil<|xs_block<|xs_then<|k_reg<|sL (t_add (i:Int) 1 ol)<|sP (iw ((i:Int)+1))<|s_nil ?_
   have htk:=hclrs_take (st:=st) hcj;rw[if_pos (show y131.c.2.2.1≠0 from dY c134)]at htk;refine xs_mem (Bs:=frz (GrA o2 r2 l2 R)::coA b q hb 0 m ([]:List Int) ([]:List Int) Fr (cycR N R G) (cycP N R G P)::hpA hb (hclrs st ((l2.map Ob.c).take (i+1)))::blkA g133 #[iw y131.id,iw y131.size,iw y131.weak,y131.rv.v,y131.ev.v] 100::own iTy fv (cycF N R G P)::own iTy rv R::F) (fun _ h=>by rw[htk];exact h) ?_;exact xs_round (i+1) (by show l2.length-(i+1)<l2.length-i;omega) om sA (rr [1,0,2,0,1] [5])
  have p136:=Decidable.not_not.1 (dF c134);refine k_skip<|xs_block<|xs_then<|k_reg<|sL (t_add (i:Int) 1 ol)<|sP (iw ((i:Int)+1))<|s_nil ?_
  have hcj:(l2.map Ob.c)[i]?=some y131.c:=by rw[List.getElem?_map,hy132];rfl
  have htk:=hclrs_take (st:=st) hcj;rw[if_neg (show ¬y131.c.2.2.1≠0 from dF c134)]at htk;refine xs_mem (Bs:=blkA g133 #[iw y131.id,iw y131.size,iw y131.weak,y131.rv.v,y131.ev.v] 100::coA b q hb 0 m ([]:List Int) ([]:List Int) Fr (cycR N R G) (cycP N R G P)::frz (GrA o2 r2 l2 R)::own iTy fv (cycF N R G P)::hpA hb (hclrs st ((l2.map Ob.c).take (i+1)))::own iTy rv R::F) (fun _ h=>by rw[htk];exact h) ?_;exact xs_round (i+1) (by show l2.length-(i+1)<l2.length-i;omega) om sA (rr [1,1,1,1,1] [5])
 have p137:=dF c129;refine k_exit<|xs_exit<|xs_exit<|xs_here<|xs_then<|k_seq<|k_sr<|sP fv<|sL (t_len iTy_ok Tryz.underlying23 (.own 2))<|sP (iw 0)<|s_nt<|k_block<|k_mem (Bs:=coA b q hb 0 m ([]:List Int) ([]:List Int) Fr (cycR N R G) (cycP N R G P)::frz (GrA o2 r2 l2 R)::own iTy fv (cycF N R G P)::hpA hb (drps (hclrs st (l2.map Ob.c)) ((cycF N R G P).take 0))::own iTy rv R::F) (fun _ h=>by rw[List.take_of_length_le (by rw[List.length_map];omega)]at h;exact h) ?_
 refine k_loop (ι:=Nat) (fun i=>i≤(cycF N R G P).length) (fun i=>[(0,pB b 0),(11,fv),(92,fv),(93,iw ((cycF N R G P).length:Int)),(94,iw (i:Int))]) (fun i=>coA b q hb 0 m ([]:List Int) ([]:List Int) Fr (cycR N R G) (cycP N R G P)::own iTy fv (cycF N R G P)::hpA hb (drps (hclrs st (l2.map Ob.c)) ((cycF N R G P).take i))::own iTy rv R::F) (fun i=>(cycF N R G P).length-i) 0 (Nat.zero_le _) sA (rr [0,1,1,1] [4]) ?_;rintro i hi138;show SK _ _ _ _ _ [(0,pB b 0),(11,fv),(92,fv),(93,iw ((cycF N R G P).length:Int)),(94,iw (i:Int))] _ (coA b q hb 0 m ([]:List Int) ([]:List Int) Fr (cycR N R G) (cycP N R G P)::own iTy fv (cycF N R G P)::hpA hb (drps (hclrs st (l2.map Ob.c)) ((cycF N R G P).take i))::own iTy rv R::F);refine k_sr<|sL t_cmp<|s_nt<|k_seq<|k_cond (decide ((i:Int)<((cycF N R G P).length:Int))) (fun c139=>?_) (fun c139=>?_)
 .have p140:=dY c139;refine k_st<|k_seq<|k_block<|k_sr<|sL (t_index iTy_ok Tryz.underlying23 (.own 1) (i:Int) i om ol om) ?_
  obtain⟨y141,hy142⟩:∃y,(cycF N R G P)[i]?=some y:=⟨_,List.getElem?_eq_getElem ol⟩;refine sL (t_loadE iTy_ok (.own 1) hy142)<|sP (iw y141)<|s_nt<|k_reg<|sP2 (pB b 0)<|sP (pB b 1)<|s_mem5 (fun H h=>co_open (h.re [0] [])) (fun mb143 qv144 lv145 fv146 cl147 hw=>?_)
  have hc148:=hw;refine sL (t_load 0 (pB hb 0))<|sP (iw y141)<|sC [7] (hdrop_s (st:=(drps (hclrs st (l2.map Ob.c)) ((cycF N R G P).take i))) y141) ?_
  refine s_nil<|xs_block<|xs_then<|k_reg<|sL (t_add (i:Int) 1 ol)<|sP (iw ((i:Int)+1))<|s_nil<|xs_mem (fun _ h=>co_shut (c:=m) (.inl rfl) (h.re [1,1,1,1,1,1] [])) ?_
  refine xs_mem (Bs:=coA b q hb 0 m ([]:List Int) ([]:List Int) Fr (cycR N R G) (cycP N R G P)::hpA hb (drps (hclrs st (l2.map Ob.c)) ((cycF N R G P).take (i+1)))::own iTy fv (cycF N R G P)::own iTy rv R::F) (fun _ h=>by rw[drps_take hy142];exact h) ?_;exact xs_round (i+1) (by show (cycF N R G P).length-(i+1)<(cycF N R G P).length-i;omega) om sA (rr [0,1,0,0] [])
 have p149:=dF c139;refine k_exit<|xs_exit<|xs_exit<|xs_here<|xs_then<|k_sr<|sP3 (pB b 0)<|sP (pB b 6)<|s_mem5 (fun H h=>co_open (h.re [0] [])) (fun mb150 qv151 lv152 fv153 cl154 hw=>?_)
 have hc155:=hw;refine sL (t_load 0 fv153)<|sP fv<|s_appendO (L:=Fr) 5 iTy_ok Tryz.underlying23 (.own 6) (by show _*8≤_;(try simp only[lnm]);omega) ol (fun v156=>?_)
 refine s_fact (fun H h=>((Acc.ownO (T:=iTy) (L:=(Fr++(cycF N R G P))) 5 rfl) H h).form) (fun hf157=>?_);refine sP (pB b 0)<|sP (pB b 6)<|s_store (u:=v156) (m:=1) 0 #[pB q 0,pB hb 0,iw 0,.map (some mb150),qv151,lv152,v156] ?_ (hm:=by (obtain⟨_,_,e0⟩:=hf157;rw[e0];rfl)) (h1:=by (obtain⟨_,_,e0⟩:=hf157;rw[e0];rfl)) (ha':=by (obtain⟨_,_,e0⟩:=hf157;rw[e0];rfl))
 refine s_nr<|sP3 (pB b 0)<|sL (t_load 0 (pB q 0))<|s_call [1] (pending_s (pend:=(cycP N R G P)) om) ?_
 rintro v158 _ rfl;refine sF 0 (fun hf159=>?_);refine sP v158<|s_nt<|k_ret<|xs_mem (fun _ h=>co_shut (c:=m) (.inl rfl) (h.re [2,1,1,1,1,1] [])) ?_
 have hH:fulH st R G P=drps (hclrs st (l2.map Ob.c)) (cycF N R G P):=by unfold fulH fulO fulF;rw[←cycO_c R G P hNW,←cycF_c R G P hNW,hl2]
 have hF:fulF st R G P=(cycF N R G P):=(cycF_c R G P hNW).symm;refine xs_mem (Bs:=coA b q hb 0 m ([]:List Int) ([]:List Int) (Fr++(cycF N R G P)) (cycR N R G) (cycP N R G P)::own iTy v158 (cycP N R G P)::own iTy fv (cycF N R G P)::hpA hb (drps (hclrs st (l2.map Ob.c)) (cycF N R G P))::own iTy rv R::F) (fun _ h=>by rw[List.take_of_length_le om]at h;exact h) ?_;have hGW:=cycR_of R G hNW;have hPW:=cycP_of R G P hNW;refine xs_mem (Bs:=coA b q hb 0 m [] [] (Fr++fulF st R G P) (cycR (lW st) R G) (cycP (lW st) R G P)::own iTy v158 (cycP (lW st) R G P)::own iTy fv (cycF N R G P)::hpA hb (fulH st R G P)::own iTy rv R::F) (fun _ h=>by rw[hH,hF,←hGW,←hPW];exact h) ?_;exact xs_fin [v158] (own iTy v158 (cycP (lW st) R G P)::own iTy rv R::coA b q hb 0 m [] [] (Fr++fulF st R G P) (cycR (lW st) R G) (cycP (lW st) R G P)::hpA hb (fulH st R G P)::F) (SI.tmp 4 SI.nil) (rr [1,3,0,1] [4]) rfl
end Go.Proofs.YtmhpcebiamkciaaGreat
end
section
set_option linter.unusedSimpArgs false
set_option linter.unusedVariables false
namespace Go.Proofs.YtmhpcebiamkciaaGreat
section
variable{st:Hst}{n N:Nat}{R G P:List Int}{x g:Int}{s:Cst}
theorem ents_mem(ho:HOk n st)(hn:n≤300){o:Hob}(hg:st.get x=some o)(h4:o.kind=4){e:Ent}:e∈hents st x↔e≠⟨0,0⟩∧∃k,okKey k=true∧(hgetV st (refV 4 x) k).kind≠0∧e=⟨idn k,idn (hgetV st (refV 4 x) k)⟩:=by
 rw[(obj_some hg 0).2.2.2.2.2,if_pos h4];have hob:=ho.i.obs o (get_mem hg).1;have hwb:=ho.w o (get_mem hg).1;have hsm:=ob_small ho.sm hn hg;unfold entsOf entL;rw[List.mem_filter];constructor
 .rintro ⟨h1,h2⟩;obtain⟨p,hp,rfl⟩:=List.mem_map.1 h1;obtain⟨a1,a2,a3⟩:=(mem_tents (k:=p.1) (v:=p.2) hob.tab hwb.tw hsm).1 hp;rw[←hgV_of hg h4]at a2;exact⟨dY h2,p.1,a1,by rw[a2];exact a3,by rw[a2]⟩
 rintro⟨h1,k,a1,a2,rfl⟩;refine⟨List.mem_map.2 ⟨(k,hgetV st (refV 4 x) k),?_,rfl⟩,decide_eq_true h1⟩;exact (mem_tents hob.tab hwb.tw hsm).2 ⟨a1,(hgV_of hg h4 k).symm,a2⟩
theorem mem_fulF:x∈fulF st R G P↔halive st x=true∧x∉cycB (lW st) R G P:=by
 unfold fulF cycF;rw[List.mem_filter,(shW st).ids,mem_hids];simp
theorem ful_k4:∀c∈fulO st R G P,c.2.2.1≠0→∀o,st.get c.1=some o→o.kind=4:=fun c hc hw o hg=>by
 obtain⟨o',h1,h2⟩:=cyc_kind (shW st) hc hw;rw[hg]at h1;cases h1;exact h2
theorem ful_1(ho:HOk n st)(hn:n≤300):HOk n (hclrs st (fulO st R G P))∧Cl st (hclrs st (fulO st R G P)) (Dcs st (fulO st R G P)):=by
 have:=hclrs_ok ho hn (fulO st R G P) ful_k4 (fulO st R G P).length;rwa [List.take_length]at this
theorem ful_ok(ho:HOk n st)(hn:n≤300):HOk n (fulH st R G P):=(ful_1 ho hn).1.drps _
theorem ful_get:(fulH st R G P).get x=if x∈fulF st R G P then none else (hclrs st (fulO st R G P)).get x:=get_drps _ _ _
theorem ful_al(ho:HOk n st)(hn:n≤300):halive (fulH st R G P) x=true↔halive st x=true∧x∈cycB (lW st) R G P:=by
 have h1:=(ful_1 (R:=R) (G:=G) (P:=P) ho hn).2.fr.al x;have e:halive (fulH st R G P) x=if x∈fulF st R G P then false else halive st x:=by
  unfold halive at h1⊢;rw[ful_get];split
  .rfl
  exact h1
 rw[e];by_cases hf:x∈fulF st R G P
 .rw [if_pos hf];have:=mem_fulF.1 hf;simp[this.2]
 rw[if_neg hf];constructor
 .intro h;exact⟨h,Decidable.byContradiction fun hb=>hf (mem_fulF.2 ⟨h,hb⟩)⟩
 exact fun h=>h.1
theorem ful_refs(ho:HOk n st)(hn:n≤300)(hx:halive (fulH st R G P) x=true)(w:Int):hrefs (fulH st R G P) x=hrefs st x∧hoWk (fulH st R G P) x w=hoWk st x w∧hents (fulH st R G P) x=hents (hclrs st (fulO st R G P)) x:=by
 have hf:x∉fulF st R G P:=fun h=>(mem_fulF.1 h).2 ((ful_al ho hn).1 hx).2
 have hg:=ful_get (st:=st) (R:=R) (G:=G) (P:=P) (x:=x);rw[if_neg hf]at hg;have h1:=(ful_1 (R:=R) (G:=G) (P:=P) ho hn).2.fr;refine⟨?_,?_,?_⟩
 .rw [←h1.refs x];unfold hrefs;rw[hg]
 .rw [←h1.wk x w];unfold hoWk;rw[hg]
 unfold hents;rw[hg]
theorem ful_ents(ho:HOk n st)(hn:n≤300)(hx:halive (fulH st R G P) x=true){e:Ent}(he:e∈hents st x)(hw:hoWk st x (wkn st (refV 4 x))=0∨hoWk st x (wkn st (refV 4 x))=1∧(e.key=0∨e.key∈cycB (lW st) R G P)):e∈hents (fulH st R G P) x:=by
 obtain⟨ha,_⟩:=(ful_al ho hn).1 hx;rw[(ful_refs ho hn hx 0).2.2];obtain⟨o,hg⟩:=halive_iff.1 ha;obtain⟨ho1,hcl⟩:=ful_1 (R:=R) (G:=G) (P:=P) ho hn;have h4:o.kind=4:=by
  apply Decidable.byContradiction;intro q;rw[(obj_some hg 0).2.2.2.2.2,if_neg q]at he;cases he
 obtain⟨o1,hg1,h41⟩:∃o',(hclrs st (fulO st R G P)).get x=some o'∧o'.kind=4:=by
  obtain⟨T,e⟩:=hcl.fr x;rw[hg]at e;exact⟨_,e,h4⟩
 obtain⟨e0,k,k1,k2,ek⟩:=(ents_mem ho hn hg h4).1 he;have hge:hgetV (hclrs st (fulO st R G P)) (refV 4 x) k=hgetV st (refV 4 x) k:=by
  rcases hcl.get x k with q|⟨⟨c,hc,c1,c2,c3⟩,_⟩
  .exact q
  exfalso;obtain⟨ob,hob,i,hB,w,we⟩:=cyc_mem hc;obtain⟨hoc,_⟩:=(shW st).obj ob hob;have ix:ob.id=x:=by rw[←i,c1]
  rw[ix]at hoc;have ew:ob.weak=hoWk st x (wkn st (refV 4 x)):=congrArg (fun q:Core=>q.2.2.1) hoc;have ee:ob.ents=hents st x:=congrArg (fun q:Core=>q.2.2.2.2) hoc;rcases hw with hw|⟨hw,hk⟩
  .rw [w,ew,hw]at c2;exact c2 rfl
  have h5:=we (by rw[ew];exact hw);unfold gonP at c3;rw[Bool.and_eq_true]at c3;have h6:e∉c.2.2.2.2:=by have:=c3.2;rw[←ek]at this;simpa using this
  refine h6 ?_;rw[h5,List.mem_filter,ee];refine⟨he,?_⟩;unfold keepB lostB;rcases hk with hk|hk<;>simp[hk]
 exact (ents_mem ho1 hn hg1 h41).2 ⟨e0,k,k1,by rw[hge];exact k2,by rw[hge];exact ek⟩
theorem idn_str(b:ByteArray):idn (strV b)=0:=by unfold idn strV isRef;simp
theorem ful_hget(ho:HOk n st)(hn:n≤300){m:Vl}(hm:m.kind=4→m.ref∉fulF st R G P)(b:ByteArray):hgetV (fulH st R G P) m (strV b)=hgetV st m (strV b)∨((hgetV st m (strV b)).kind≠3∧hgetV (fulH st R G P) m (strV b)=zVl):=by
 by_cases h4:m.kind=4
 .have e1:hgetV (fulH st R G P) m (strV b)=hgetV (hclrs st (fulO st R G P)) (refV 4 m.ref) (strV b):=by
   rw[hgetV_tab _ m _ h4];unfold hgetV htab hfind;rw[show (refV 4 m.ref).ref=m.ref from rfl,ful_get,if_neg (hm h4)]
  rw[e1,hgetV_tab st m _ h4];rcases (ful_1 (R:=R) (G:=G) (P:=P) ho hn).2.get m.ref (strV b) with q|⟨⟨c,_,_,_,c3⟩,q⟩
  .exact .inl q
  refine .inr ⟨fun q3=>?_,q⟩;unfold gonP at c3;rw[Bool.and_eq_true]at c3;have h5:=dY c3.1;refine h5 ?_;show (⟨idn (strV b),idn (hgetV st (refV 4 m.ref) (strV b))⟩:Ent)=⟨0,0⟩;rw[idn_str,show idn (hgetV st (refV 4 m.ref) (strV b))=0 from by unfold idn isRef;rw[q3];simp]
 exact .inl (by rw[hgetV_kind _ m _ h4,hgetV_kind _ m _ h4])
theorem ful_wkn(ho:HOk n st)(hn:n≤300)(hx:halive (fulH st R G P) x=true)(hm:(hmeta st (refV 4 x)).kind=4→(hmeta st (refV 4 x)).ref∉fulF st R G P):wkn (fulH st R G P) (refV 4 x)=wkn st (refV 4 x):=by
 have hf:x∉fulF st R G P:=fun h=>(mem_fulF.1 h).2 ((ful_al ho hn).1 hx).2
 have em:hmeta (fulH st R G P) (refV 4 x)=hmeta st (refV 4 x):=by
  rw[←(ful_1 (R:=R) (G:=G) (P:=P) ho hn).2.fr.meta (refV 4 x)];unfold hmeta hfind;rw[show (refV 4 x).ref=x from rfl,ful_get,if_neg hf]
 unfold wkn hdl;rw[em];by_cases h0:(hmeta st (refV 4 x)).kind=0
 .rw [if_pos h0,if_pos h0]
 rw[if_neg h0,if_neg h0];rcases ful_hget (R:=R) (G:=G) (P:=P) ho hn hm ⟨#[95,95,109,111,100,101]⟩ with q|⟨q1,q2⟩
 .rw [q]
 rw[q2,if_neg (fun h=>absurd h.2 (by decide)),if_neg (fun h=>q1 h.2)]
theorem ful_keep (ho : HOk n st) (hn : n ≤ 300) (hv : ∀ x, halive st x = true → hoWk st x (wkn st (refV 4 x)) ≠ 2) : ∀ x ∈ aliveR (lW st) R, x ∈ aliveR (lW (fulH st R G P)) R := by
  have hc : chk 0 (lW st) = true := (shW st).chk ho.sm hn
  have ho2 := ful_ok (R := R) (G := G) (P := P) ho hn
  have hc2 : chk 0 (lW (fulH st R G P)) = true := (shW _).chk ho2.sm hn
  have hvN : ∀ o ∈ lW st, o.weak ≠ 2 := fun o hm => by
    obtain ⟨e, ha⟩ := (shW st).obj o hm
    have ew : o.weak = hoWk st o.id (wkn st (refV 4 o.id)) := congrArg (fun q : Core => q.2.2.1) e
    rw [ew]; exact hv _ ha
  have kA := all_closed (chk_asc hc) R
  have kB := all_closed (chk_asc hc2) R
  have inB : ∀ {z}, z ∈ (allR (lW st) R).1 → z ∈ cycB (lW st) R G P := fun {z} hz => alive_B hc hvN z ((mem_alive' hc z).2 hz)
  have is2 : ∀ {z}, z ∈ (allR (lW st) R).1 → Is (lW st) z → Is (lW (fulH st R G P)) z := fun {z} hz hi => (shW _).is.2 ((ful_al ho hn).2 ⟨(shW st).is.1 hi, inB hz⟩)
  have get2 : ∀ {z : Int} {o : Ob}, z ∈ (allR (lW st) R).1 → fnd (lW st) z = some o → ∃ o2, fnd (lW (fulH st R G P)) z = some o2 ∧ o2.refs = o.refs ∧ o2.weak = o.weak ∧ ∀ e ∈ o.ents, (o.weak = 0 ∨ o.weak = 1 ∧ (e.key = 0 ∨ e.key ∈ cycB (lW st) R G P)) → e ∈ o2.ents := fun {z o} hz hf => by
    obtain ⟨i1, hoc, ha⟩ := (shW st).fnd hf
    have hi2 := is2 hz (by rw [Is, hf]; rfl)
    have ha2 := (shW _).is.1 hi2
    obtain ⟨o2, h2⟩ := Option.isSome_iff_exists.1 hi2
    obtain ⟨_, hoc2, _⟩ := (shW (fulH st R G P)).fnd h2
    have er : o.refs = hrefs st z := congrArg (fun q : Core => q.2.2.2.1) hoc
    have ew : o.weak = hoWk st z (wkn st (refV 4 z)) := congrArg (fun q : Core => q.2.2.1) hoc
    have ee : o.ents = hents st z := congrArg (fun q : Core => q.2.2.2.2) hoc
    have er2 : o2.refs = hrefs (fulH st R G P) z := congrArg (fun q : Core => q.2.2.2.1) hoc2
    have ew2 : o2.weak = hoWk (fulH st R G P) z (wkn (fulH st R G P) (refV 4 z)) := congrArg (fun q : Core => q.2.2.1) hoc2
    have ee2 : o2.ents = hents (fulH st R G P) z := congrArg (fun q : Core => q.2.2.2.2) hoc2
    have hwk : hoWk (fulH st R G P) z (wkn (fulH st R G P) (refV 4 z)) = hoWk st z (wkn st (refV 4 z)) := by
      rw [(ful_refs ho hn ha2 _).2.1]
      have hm : ((hmeta st (refV 4 z)).kind = 4 → (hmeta st (refV 4 z)).ref ∉ fulF st R G P) ∨ hoWk st z (wkn (fulH st R G P) (refV 4 z)) = hoWk st z (wkn st (refV 4 z)) := by
        by_cases hmf : (hmeta st (refV 4 z)).kind = 4 ∧ (hmeta st (refV 4 z)).ref ∈ fulF st R G P
        · obtain ⟨hm4, hmf⟩ := hmf
          obtain ⟨a1, a2⟩ := mem_fulF.1 hmf
          obtain ⟨ob, hg⟩ := halive_iff.1 ha
          by_cases h4 : ob.kind = 4
          · exfalso
            have em : hmeta st (refV 4 z) = ob.mt := by
              unfold hmeta
              rw [hfind_is (v := refV 4 z) (o := ob) hg h4]
            rw [em] at a1 a2 hm4
            have hr : isRef ob.mt.kind = true := by rw [hm4]; rfl
            · have hin : ob.mt.ref ∈ hrefs st z := by
                rw [(obj_some hg 0).2.2.2.2.1]
                unfold refsOf
                have : idn ob.mt = ob.mt.ref := by unfold idn; rw [if_pos hr]
                refine List.mem_filter.2 ⟨List.mem_map.2 ⟨ob.mt, List.mem_cons_self, this⟩, ?_⟩
                have := alive_pos a1
                simpa using this
              refine a2 (inB (kA.kept z o hz hf ob.mt.ref ?_ ((shW st).is.2 a1)))
              unfold keptO; rw [er]; exact List.mem_append_left _ hin
          · refine .inr ?_
            rw [(obj_some hg _).2.2.2.1, (obj_some hg _).2.2.2.1]
            unfold hweak
            rw [if_neg fun q => h4 q.1, if_neg fun q => h4 q.1]
        · exact .inl fun q4 q => hmf ⟨q4, q⟩
      rcases hm with hm | hm
      · rw [ful_wkn ho hn ha2 hm]
      · exact hm
    exact ⟨o2, h2, by rw [er2, er]; exact (ful_refs ho hn ha2 0).1, by rw [ew2, ew]; exact hwk, fun e he hk => by
      rw [ee2]; rw [ee] at he; rw [ew] at hk
      exact ful_ents ho hn ha2 he hk⟩
  intro x hx
  rw [mem_alive' hc] at hx
  rw [mem_alive' hc2]
  refine (least_all (chk_asc hc) (R := R) (p := fun x => x ∈ (allR (lW (fulH st R G P)) R).1 ∧ x ∈ (allR (lW st) R).1) ⟨fun r hr hi => ⟨kB.roots r hr (is2 (kA.roots r hr hi) hi), kA.roots r hr hi⟩, fun x o hp hf z hz hi => ?_, fun x o hp hf hw e he hk hi => ?_⟩ x hx).1
  · have hzA := kA.kept x o hp.2 hf z hz hi
    obtain ⟨o2, h2, r2, w2, e2⟩ := get2 hp.2 hf
    refine ⟨kB.kept x o2 hp.1 h2 z ?_ (is2 hzA hi), hzA⟩
    unfold keptO at hz ⊢
    rw [r2, w2]
    rcases List.mem_append.1 hz with hz | hz
    · exact List.mem_append_left _ hz
    · refine List.mem_append_right _ ?_
      obtain ⟨en, hen, hz⟩ := List.mem_flatMap.1 hz
      refine List.mem_flatMap.2 ⟨en, e2 en hen ?_, hz⟩
      have hw2 := hvN o (fnd_id hf).2
      obtain ⟨w0, w3⟩ := chk_weak hc o (fnd_id hf).2
      unfold keptE at hz
      by_cases w1 : o.weak = 1
      · rw [if_pos w1] at hz
        by_cases k0 : en.key = 0
        · exact .inr ⟨w1, .inl k0⟩
        · rw [if_neg k0] at hz; cases hz
      · rw [if_neg w1, if_neg hw2] at hz
        by_cases w3 : o.weak = 3
        · rw [if_pos w3] at hz; cases hz
        · exact .inl om
  · have hzA := kA.eph x o hp.2 hf hw e he hk.2 hi
    obtain ⟨o2, h2, r2, w2, e2⟩ := get2 hp.2 hf
    exact ⟨kB.eph x o2 hp.1 h2 (w2.trans hw) e (e2 e he (.inr ⟨hw, .inr (inB hk.2)⟩)) hk.1 (is2 hzA hi), hzA⟩
/-! ### What a law sees -/
theorem ful_due(ho:HOk n st)(hn:n≤300)(hd:g∈cycP (lW st) R G P)(ha:halive st g=true):halive (fulH st R G P) g=true:=by
 have hc:chk 0 (lW st)=true:=(shW st).chk ho.sm hn;have h1:=cyc1_c (lW st) R;have hc1:chk 0 (cyc1 (lW st) R)=true:=(unv_chk h1).trans hc;refine (ful_al ho hn).2 ⟨ha,?_⟩;unfold cycB;rw[mem_alive' hc1];refine (all_closed (chk_asc hc1) _).roots g (List.mem_append_right _ hd) ?_;obtain⟨o,ho'⟩:=Option.isSome_iff_exists.1 ((shW st).is.2 ha);obtain⟨e1,hm⟩:=fnd_id ho';have:unv (aliveR (lW st) R) o∈(cyc1 (lW st) R).map Ob.c:=by rw[h1];exact List.mem_map.2 ⟨o,hm,rfl⟩
 obtain⟨o',ho2,e⟩:=List.mem_map.1 this;have e2:o'.id=g:=(congrArg (fun q:Core=>q.1) e).trans e1;rw[Is,←e2,fnd_mem (chk_asc hc1) ho2];rfl
theorem ful_root(ho:HOk n st)(hn:n≤300)(ha:halive st g=true)(hg:g∉aliveR (lW st) R):g∉R:=fun h=>by
 have hc:chk 0 (lW st)=true:=(shW st).chk ho.sm hn;rw[mem_alive' hc]at hg;exact hg ((all_closed (chk_asc hc) R).roots g h ((shW st).is.2 ha))
theorem sep_mem{A reg:List Int}:g∈sepL A reg↔g∈reg∧g∉A:=by unfold sepL lostL;simp
theorem ful_none(ho:HOk n st)(hn:n≤300)(hv:∀x,halive st x=true→hoWk st x (wkn st (refV 4 x))≠2):cycP (lW (fulH st R G P)) R (cycR (lW st) R G) []=[]:=by
 unfold cycP;rw[List.nil_append,List.eq_nil_iff_forall_not_mem];intro g hg;obtain⟨h1,h2⟩:=sep_mem.1 hg;unfold cycR stayL at h1;exact h2 (ful_keep ho hn hv g (dY (List.mem_filter.1 h1).2))
/-! ### Work keeps what is registered -/
theorem itr_gp:(itr st R s).2.1.G=s.G∧(itr st R s).2.1.P=s.P:=by
 have hs:(setl st R s).G=s.G∧(setl st R s).P=s.P:=by
  unfold setl;split
  .split<;>exact⟨rfl,rfl⟩
  exact⟨rfl,rfl⟩
 have hm:∀t:Cst,(mrk st t).G=t.G∧(mrk st t).P=t.P:=fun t=>by unfold mrk;split<;>exact⟨rfl,rfl⟩
 have hw:∀t:Cst,(swp st t).2.G=t.G∧(swp st t).2.P=t.P:=fun t=>by
  unfold swp;split
  .split<;>exact⟨rfl,rfl⟩
  exact⟨rfl,rfl⟩
 have hf:∀t:Cst,(cfin t).G=t.G∧(cfin t).P=t.P:=fun t=>by unfold cfin;split<;>exact⟨rfl,rfl⟩
 unfold itr;split
 .exact ⟨(hm _).1.trans hs.1,(hm _).2.trans hs.2⟩
 split
 .exact ⟨(hf _).1.trans hs.1,(hf _).2.trans hs.2⟩
 exact⟨(hf _).1.trans ((hw _).1.trans hs.1),(hf _).2.trans ((hw _).2.trans hs.2)⟩
theorem wrk_gp(R:List Int):∀(k:Nat) {st:Hst}{s:Cst},(wrk k st R s).2.1.G=s.G∧(wrk k st R s).2.1.P=s.P
 | 0,st,s=>⟨rfl,rfl⟩
 | k+1,st,s=>by
  by_cases h0:s.ph=0
  .rw [wrk_end h0];exact⟨rfl,rfl⟩
  have hi:=itr_gp (st:=st) (R:=R) (s:=s);rw[wrk_succ h0];split
  .have:=wrk_gp R k (st:=(itr st R s).1) (s:=(itr st R s).2.1);exact⟨this.1.trans hi.1,this.2.trans hi.2⟩
  exact hi
theorem work_gp(k:Nat):(work k st R s).2.1.G=s.G∧(work k st R s).2.1.P=s.P:=by
 unfold work;split
 .exact ⟨rfl,rfl⟩
 split
 .exact wrk_gp R k (s:=bgn st R s)
 exact wrk_gp R k
theorem wrk_ind{Pr:Hst→Prop}(hd:∀st x,Pr st→Pr (hdrop st x))(R:List Int):∀(k:Nat) {st:Hst}{s:Cst},CI N st s→KI st R s→Pr st→(∀g∈s.G,halive st g=true)→Pr (wrk k st R s).1∧∀g∈s.G,halive (wrk k st R s).1 g=true
 | 0,st,s,_,_,hp,hg=>⟨hp,hg⟩
 | k+1,st,s,hc,h,hp,hg=>by
  by_cases h0:s.ph=0
  .rw [wrk_end h0];exact⟨hp,hg⟩
  have step:(CI N (itr st R s).1 (itr st R s).2.1∧KI (itr st R s).1 R (itr st R s).2.1)∧Pr (itr st R s).1∧∀g∈s.G,halive (itr st R s).1 g=true:=by
   have hs:CI N st (setl st R s)∧KI st R (setl st R s):=by
    by_cases h1:s.ph=1
    .exact ⟨hc.setl h1 R,h.setl h1⟩
    rw[setl_two h1];exact⟨hc,h⟩
   have hsg:(setl st R s).G=s.G:=by
    unfold setl;split
    .split<;>rfl
    rfl
   unfold itr;split
   .rename_i h1;exact⟨⟨hs.1.mrk h1,hs.2.mrk h1⟩,hp,hg⟩
   rename_i h1
   have hz:(setl st R s).ph≠0:=by
    by_cases q:s.ph=1
    .rcases setl_ph (st:=st) (R:=R) q with e|e<;>omega
    rw[setl_two q];exact h0
   have h2:(setl st R s).ph=2:=by rcases hs.1.ph with e|e|e<;>omega
   split
   .exact ⟨⟨hs.1.fin h2,hs.2.fin⟩,hp,hg⟩
   rename_i hl
   obtain⟨x,L,hL⟩:=List.exists_cons_of_ne_nil hl;refine⟨⟨(hs.1.swp h2 hL).fin (swp_ph h2),(KI.swp hs.1 hs.2 h2 hL).fin⟩,?_,fun g hgm=>?_⟩
   .by_cases e:(setl st R s).col x=0
    .rw [swp_white hL e];exact hd _ _ hp
    rw[swp_black hL e];exact hp
   by_cases e:(setl st R s).col x=0
   .rw [swp_white hL e];show halive (hdrop st x) g=true;have hnd:=hs.2.rts h2 g (by unfold Cst.rts;rw[hsg];simp[hgm]) (hg g hgm);rw[halive_drop,if_neg fun q=>hnd (by rw[q];exact⟨h2,e,by rw[hL];simp⟩)];exact hg g hgm
   rw[swp_black hL e];exact hg g hgm
  have hi:=itr_gp (st:=st) (R:=R) (s:=s);rw[wrk_succ h0];split
  .obtain ⟨a1,a2⟩:=wrk_ind hd R k step.1.1 step.1.2 step.2.1 fun g hgm=>step.2.2 g (by rw[hi.1]at hgm;exact hgm)
   exact⟨a1,fun g hgm=>a2 g (by rw[hi.1];exact hgm)⟩
  exact step.2
theorem work_ind{Pr:Hst→Prop}(hd:∀st x,Pr st→Pr (hdrop st x))(hc:CI N st s)(h:KI st R s)(hp:Pr st)(hg:∀g∈s.G,halive st g=true)(k:Nat):Pr (work k st R s).1∧∀g∈s.G,halive (work k st R s).1 g=true:=by
 unfold work;split
 .exact ⟨hp,hg⟩
 split
 .rename_i h0;exact wrk_ind hd R k (s:=bgn st R s) (hc.bgn h0 R) KI.bgn hp hg
 exact wrk_ind hd R k hc h hp hg
def NoV(st:Hst):Prop:=∀x,halive st x=true→wkn st (refV 4 x)≠2
theorem NoV.drop(h:NoV st)(y:Int):NoV (hdrop st y):=fun x hx=>by
 rw[halive_drop]at hx;split at hx
 .cases hx
 rename_i q
 have hg:(hdrop st y).get x=st.get x:=by rw[get_drop,if_neg q]
 have em:hmeta (hdrop st y) (refV 4 x)=hmeta st (refV 4 x):=by
  unfold hmeta hfind;rw[show (refV 4 x).ref=x from rfl,hg]
 have hk:=h x hx;have hv:∀m k:Vl,hgetV (hdrop st y) m k=hgetV st m k∨hgetV (hdrop st y) m k=zVl:=fun m k=>by
  unfold hgetV htab hfind;rw[get_drop];by_cases e:m.ref=y
  .rw [if_pos e];exact .inr rfl
  rw[if_neg e];exact .inl rfl
 unfold wkn hdl at hk⊢;rw[em];by_cases h0:(hmeta st (refV 4 x)).kind=0
 .rw [if_pos h0]at hk ⊢;exact hk
 rw[if_neg h0]at hk⊢;rcases hv (hmeta st (refV 4 x)) (strV ⟨#[95,95,109,111,100,101]⟩) with q2|q2
 .rw [q2];exact hk
 rw[q2,if_neg (fun h=>absurd h.2 (by decide))];decide
theorem NoV.wk(h:NoV st):∀x,halive st x=true→hoWk st x (wkn st (refV 4 x))≠2:=fun x hx=>by
 obtain⟨o,hg⟩:=halive_iff.1 hx;rw[(obj_some hg _).2.2.2.1];unfold hweak;split
 .exact h x hx
 decide
end
end Go.Proofs.YtmhpcebiamkciaaGreat
end
section
set_option linter.unusedSimpArgs false
set_option linter.unusedVariables false
namespace Go.Proofs.YtmhpcebiamkciaaGreat
section
variable{S:List Slt}{X:List Vl}{w y:Vl}
end
section
variable{T:Tb}{L:List Vl}{S:List Slt}
end
section
variable{T:Tb}{L:List Vl}{S:List Slt}{p:Int}
end
end Go.Proofs.YtmhpcebiamkciaaGreat
end
section
set_option linter.unusedSimpArgs false
set_option linter.unusedVariables false
set_option maxRecDepth 100000
set_option maxHeartbeats 2000000
namespace Go.Proofs.YtmhpcebiamkciaaGreat
open Go.Hp Go.J Go.S
open Go.Mem (Ty KTy blk elemAt pre suf blk_pre blk_suf aget aset strK aggDesc)
open Go.Mem (adel apos aget_aset aget_adel)
end Go.Proofs.YtmhpcebiamkciaaGreat
end
section
set_option linter.unusedSimpArgs false
set_option linter.unusedVariables false
set_option maxRecDepth 100000
set_option maxHeartbeats 2000000
namespace Go.Proofs.YtmhpcebiamkciaaGreat
open Go.Hp Go.J Go.S
open Go.Mem (Ty KTy blk elemAt pre suf blk_pre blk_suf aget aset strK aggDesc)
open Go.Mem (adel apos aget_aset aget_adel)
end Go.Proofs.YtmhpcebiamkciaaGreat
end
section
set_option linter.unusedSimpArgs false
set_option linter.unusedVariables false
set_option maxRecDepth 100000
set_option maxHeartbeats 2000000
namespace Go.Proofs.YtmhpcebiamkciaaGreat
open Go.Hp Go.J Go.S
open Go.Mem (Ty KTy blk elemAt pre suf blk_pre blk_suf aget aset strK aggDesc)
open Go.Mem (adel apos aget_aset aget_adel)
section
variable{Z:Zone}{F:List Asr}{H:Heap}{b:Nat}{st:Hst}{L:List Rx}{id:Int}{o o':Hob}{i tp:Nat}{uv rv:Sv}
end
theorem ral_no{st:Hst}{id:Int}(h:st.get id=none):halive st id=false:=by unfold halive;rw[h];rfl
theorem ral_yes{st:Hst}{id:Int}{o:Hob}(h:st.get id=some o):halive st id=true:=by unfold halive;rw[h];rfl
theorem ob_nz{st:Hst}(hi:HInv st){id:Int}{o:Hob}(h:st.get id=some o):o.kind≠0:=fun e=>by
 have:=(hi.obs o (get_mem h).1).kind;rw[e]at this;cases this
end Go.Proofs.YtmhpcebiamkciaaGreat
end
section
set_option linter.unusedSimpArgs false
set_option linter.unusedVariables false
namespace Go.Proofs.YtmhpcebiamkciaaGreat
section
variable{st:Hst}{i:Nat}{o:Hob}{id:Int}
def hidsN(st:Hst)(i:Nat):List Int:=((List.range i).map fun k:Nat=>(k:Int)+1).filter fun id=>halive st id
theorem hidsN_step(st:Hst)(i:Nat):hidsN st (i+1)=if halive st ((i:Int)+1)=true then hidsN st i++[(i:Int)+1] else hidsN st i:=by
 unfold hidsN;rw[List.range_succ,List.map_append,List.filter_append];by_cases h:halive st ((i:Int)+1)=true<;>simp[h]
theorem hidsN_end(h:i=st.objs.length):hidsN st i=hids st:=by subst h;rfl
theorem hidsN_len(st:Hst)(i:Nat):(hidsN st i).length≤i:=by
 unfold hidsN;refine Nat.le_trans (List.length_filter_le _ _) ?_;rw[List.length_map,List.length_range];exact Nat.le_refl _
end
end Go.Proofs.YtmhpcebiamkciaaGreat
end
section
set_option linter.unusedSimpArgs false
set_option linter.unusedVariables false
set_option maxRecDepth 100000
set_option maxHeartbeats 2000000
namespace Go.Proofs.YtmhpcebiamkciaaGreat
open Go.Hp Go.J Go.S
open Go.Mem (Ty KTy blk elemAt pre suf blk_pre blk_suf aget aset strK aggDesc)
open Go.Mem (adel apos aget_aset aget_adel)
theorem rx_at{st:Hst}{L:List Rx}{i:Nat}(hL:L.map Rx.o=st.objs)(h:i<L.length):(∃tp uv rv,L[i]?=some ⟨none,tp,uv,rv⟩∧st.get ((i:Int)+1)=none)∨∃o tp uv rv,L[i]?=some ⟨some o,tp,uv,rv⟩∧st.get ((i:Int)+1)=some o:=by
 have:=rx_cases hL (id:=(i:Int)+1) om om;rwa [show ((i:Int)+1-1).toNat=i by omega]at this
theorem rhids_s{Z:Zone}{F:List Asr}{b:Nat}{st:Hst}{n:Nat}(hsm:HSm n st)(hn:n≤300):SF Tryz.prog 42 #[.pointer (some ⟨b,0,none⟩)] Z (rhA b st::F) fun r Bs=>Bs=own iTy r (hids st)::rhA b st::F:=by
 refine sf_enter Tryz.func42 33 [(0,pB b 0)] (fun w0=>?_);have hlen0:=hsm.len;refine k_sr<|sP (.slice none 0 0)<|s_nr<|s_buildSlice (e:=3) [] #[] (fun g1=>?_) (hb:=by kernel_rfl)
 refine sP (.slice (some ⟨g1,0,none⟩) 0 0)<|s_nt<|k_seq<|k_sr<|sP (pB b 0)<|sP (.bool false)<|s_nt<|k_false<|k_st<|k_seq<|k_sr<|sP (iw 0)<|s_nt<|k_block<|k_mem3 (fun H h=>rh_open (h.re [1] [])) (fun v2 tv3 L4 hw=>?_)
 obtain⟨hi5,hL6⟩:=hw;have hln7:=rx_len hL6;have htl8:=hi5.tch;refine k_mem (fun _ h=>Holds.slice 4 h iTy_ok []) ?_;refine k_mem (Bs:=blkA b #[v2,iw (st.count:Int),tv3] 142::own RxT v2 L4::own bTy tv3 st.tch::rallP L4::own iTy (.slice (some ⟨g1,0,none⟩) 0 0) (hidsN st 0)::F) (fun _ h=>h) ?_;refine k_loop (ι:=Value×Nat) (fun (sx,i)=>i≤st.objs.length) (fun (sx,i)=>[(0,pB b 0),(3,sx),(4,iw (i:Int))]) (fun (sx,i)=>blkA b #[v2,iw (st.count:Int),tv3] 142::own RxT v2 L4::own bTy tv3 st.tch::rallP L4::own iTy sx (hidsN st i)::F) (fun (sx,i)=>st.objs.length-i) ((.slice (some ⟨g1,0,none⟩) 0 0),0) (Nat.zero_le _) sA (rr [0,0,0,0,0] []) ?_;rintro⟨sx,i⟩ hi9;replace hi9:i≤st.objs.length:=hi9;show SK _ _ _ _ _ [(0,pB b 0),(3,sx),(4,iw (i:Int))] _ (blkA b #[v2,iw (st.count:Int),tv3] 142::own RxT v2 L4::own bTy tv3 st.tch::rallP L4::own iTy sx (hidsN st i)::F);have hnl:=hidsN_len st i;refine k_seq<|k_sr<|sP (iw (i:Int))<|sP3 (pB b 0)<|sL (t_load 0 v2)<|sL (t_len RxT_ok Tryz.underlying139 (.own 1))<|sL t_cmp<|s_nt<|k_cond (decide ((i:Int)<(L4.length:Int))) (fun c10=>?_) (fun c10=>?_)
 .have p11:=dY c10;refine k_st<|k_seq<|k_block<|k_sr<|sP3 (pB b 0)<|sL (t_load 0 v2)<|sP (iw (i:Int))<|sL (t_index RxT_ok Tryz.underlying139 (.own 1) (i:Int) i om ol om)<|sP (.pointer (some (elemAt RxT.size v2 i))) ?_
  rcases rx_at hL6 (by omega:i<L4.length) with ⟨tp12,uv13,rv14,hy15,hg16⟩|⟨o17,tp18,uv19,rv20,hy21,hg22⟩
  .refine sL (t_loadF 0 RxT_ok (.own 1) hy15)<|sL (t_cmp (c:=false))<|s_nt<|k_false<|k_skip<|xs_block<|xs_then<|k_reg<|sP (iw (i:Int))<|sL (t_add (i:Int) 1 ol)<|sP (iw ((i:Int)+1))<|s_nil ?_
   have hst:(hidsN st i)=(hidsN st (i+1)):=by rw[hidsN_step,if_neg (by rw[ral_no hg16];decide)]
   refine xs_mem (Bs:=blkA b #[v2,iw (st.count:Int),tv3] 142::own RxT v2 L4::own bTy tv3 st.tch::rallP L4::own iTy sx (hidsN st (i+1))::F) (fun _ h=>by rw[hst]at h;exact h) ?_;exact xs_round (sx,i+1) (by show st.objs.length-(i+1)<st.objs.length-i;omega) (by show i+1≤st.objs.length;omega) sA (rr [0,0,0,0,0] [])
  refine sL (t_loadF 0 RxT_ok (.own 1) hy21)<|sL (Lt.to t_cmp (cB (decide_eq_true (ob_nz hi5 hg22):(decide (o17.kind≠0))=true)))<|s_nt<|k_true<|k_reg<|sP sx<|sP (iw (i:Int))<|sL (t_add (i:Int) 1 ol)<|s_buildSlice (e:=3) [(0,iw ((i:Int)+1))] #[iw ((i:Int)+1)] (fun g23=>?_) (hb:=by kernel_rfl)
  refine s_append (L:=(hidsN st i)) 5 iTy_ok Tryz.underlying23 (.lit 0 iTy_ok [((i:Int)+1)]) (by show _*8≤_;(try simp only[lnm]);omega) ol (fun v24=>?_);refine sP v24<|s_nil<|xs_block<|xs_then<|k_reg<|sP (iw (i:Int))<|sL (t_add (i:Int) 1 ol)<|sP (iw ((i:Int)+1))<|s_nil ?_
  have hst:((hidsN st i)++[((i:Int)+1)])=(hidsN st (i+1)):=by rw[hidsN_step,if_pos (ral_yes hg22)]
  refine xs_mem (Bs:=blkA g23 #[iw ((i:Int)+1)] 3::blkA b #[v2,iw (st.count:Int),tv3] 142::own RxT v2 L4::own bTy tv3 st.tch::rallP L4::own iTy v24 (hidsN st (i+1))::F) (fun _ h=>by rw[hst]at h;exact h) ?_;exact xs_round (v24,i+1) (by show st.objs.length-(i+1)<st.objs.length-i;omega) (by show i+1≤st.objs.length;omega) sA (rr [1,1,1,1,1] [5])
 have p25:=dF c10;refine k_exit<|xs_exit<|xs_exit<|xs_here<|xs_then<|k_sr<|sP2 sx<|s_nt<|k_ret<|xs_mem (fun _ h=>rh_shut (st:=st) (n:=(st.count:Int)) (T:=st.tch) ⟨⟨⟨hi5,hL6⟩,rfl⟩,rfl⟩ (h.re [0,0,0,0] [])) ?_
 have hend:hidsN st i=hids st:=hidsN_end om;rw[hend];exact xs_fin _ _ (SI.tmp 2 SI.nil) (rr [1,0] []) rfl
end Go.Proofs.YtmhpcebiamkciaaGreat
end
section
set_option linter.unusedSimpArgs false
set_option linter.unusedVariables false
set_option maxRecDepth 100000
set_option maxHeartbeats 1000000
namespace Go.Proofs.YtmhpcebiamkciaaGreat
open Go.Hp Go.J Go.S
open Go.Mem (Ty KTy blk elemAt pre suf blk_pre blk_suf aget aset strK aggDesc)
open Go.Mem (adel apos aget_aset aget_adel)
def cst0:Cst:=⟨0,c0,[],[],[],[],[]⟩
theorem rq27_s{Z:Zone}:SF Tryz.prog 85 #[] Z [] fun r Bs=>∃q,r=.pointer (some ⟨q,0,none⟩)∧Bs=[]:=by
 refine sf_enter Tryz.func85 3 [] (fun w0=>?_);refine k_sr<|sP (.pointer none)<|s_nr<|sL (t_kern (.agg #[nS,nS]))<|s_box #[nS,nS] (fun g1=>?_)
 refine sP (pB g1 0)<|s_nt<|k_ret ?_
 exact xs_fin _ _ (SI.tmp 0 SI.nil) (rr [] [0]) ⟨g1,rfl,rfl⟩
theorem rcnew_s{Z:Zone}{gb:Nat}:SF Tryz.prog 35 #[.pointer (some ⟨gb,0,none⟩)] Z [] fun r Bs=>∃p,r=.tuple #[.pointer (some ⟨p,0,none⟩),iw 0]∧Bs=[]:=by
 refine sf_enter Tryz.func35 10 [(0,pB gb 0)] (fun w0=>?_);refine k_sr<|sP (.pointer none)<|sP (iw 0)<|s_nt<|k_seq<|k_sr<|sP (pB gb 0)<|sP (.bool false)<|s_nt<|k_false<|k_st<|k_sr<|sP (pB gb 0)<|s_pcall (fun _ h=>rq27_s) ?_
 rintro _ _ ⟨q1,rfl,rfl⟩;refine sL (t_kern (.agg #[pB gb 0,pB q1 0,iw 0,nS,nS,nS,nS]))<|s_box #[pB gb 0,pB q1 0,iw 0,nS,nS,nS,nS] (fun g2=>?_)
 refine sP (pB g2 0)<|sP (iw 0)<|s_nt<|k_ret ?_
 exact xs_fin _ _ (SI.tmp 2 (SI.tmp 3 SI.nil)) (rr [] [0]) ⟨g2,rfl,rfl⟩
theorem begun_s{Z:Zone}{F:List Asr}{lv:Value}{l:List Opc}(hl0:Kn Z OpT lv l):SF Tryz.prog 10 #[lv] Z F fun r Bs=>∃hb gb lx o p q,r=.tuple #[.agg #[ptrV hb,ptrV gb,lx,ptrV o,ptrV p,.slice none 0 0],.bool true]∧Bs=coS o q hb cst0::hpA hb (made l).1::rhA gb (made l).1::own VlT lx (made l).2::F:=by
 refine sf_enter Tryz.func10 44 [(0,lv)] (fun w0=>?_);refine k_sr<|s_alloc (.agg #[.pointer none,.pointer none,nS,.pointer none,.pointer none,nS]) #[.pointer none,.pointer none,nS,.pointer none,.pointer none,nS] (fun g1=>?_)
 refine sP (.bool false)<|s_nr<|sP lv<|s_call [] (made_s hl0) ?_
 rintro _ _ ⟨hb2,gb3,lx4,rfl,rfl⟩;refine sF 2 (fun hf5=>?_);obtain⟨hinv,hsm,hll⟩:=made_good l;refine sP (.tuple #[.agg #[pB hb2 0,pB gb3 0,lx4],.bool true])<|sP (.agg #[pB hb2 0,pB gb3 0,lx4])<|sP (.bool true)<|s_alloc (.agg #[.pointer none,.pointer none,nS]) #[.pointer none,.pointer none,nS] (fun g6=>?_)
 refine s_store (u:=.agg #[pB hb2 0,pB gb3 0,lx4]) (m:=3) 0 #[pB hb2 0,pB gb3 0,lx4] ?_ (hm:=by (obtain⟨_,_,e⟩:=hf5;rw[e];rfl)) (h1:=by (obtain⟨_,_,e⟩:=hf5;rw[e];rfl)) (ha':=by (obtain⟨_,_,e⟩:=hf5;rw[e];rfl));refine sP (.bool true)<|s_nt<|k_seq<|k_sr<|sP (.bool true)<|sP (.bool false)<|s_nt<|k_false<|k_st<|k_sr<|sP (pB g6 0)<|sL (t_load 0 (pB hb2 0))<|s_pcall (fun _ h=>cnew_s) ?_
 rintro _ _ ⟨b7,q8,rfl,rfl⟩;refine sP (.tuple #[pB b7 0,iw 0])<|sP (pB b7 0)<|sP (iw 0)<|sP (pB b7 0)<|sP (iw 0)<|s_nr<|sP (pB g6 1)<|sL (t_load 1 (pB gb3 0))<|s_pcall (fun _ h=>rcnew_s) ?_
 rintro _ _ ⟨p9,rfl,rfl⟩;refine sP (.tuple #[pB p9 0,iw 0])<|sP (pB p9 0)<|sP (iw 0)<|sP (pB p9 0)<|sP (iw 0)<|s_nr<|sL (t_loadA 1 #[pB hb2 0,pB gb3 0,lx4])<|sP (pB b7 0)<|sP (pB p9 0)<|sL (show Lt _ _ _ _ _ (.agg #[pB hb2 0,pB gb3 0,lx4,pB b7 0,pB p9 0,nS]) from by obtain⟨_,_,e⟩:=hf5;rw[e];clear e;exact t_kern _)<|sP (pB b7 0)<|sP2 (.bool true)<|sP (iw 0)<|sL (t_cmp (c:=true))<|sP2 (.bool true)<|sP (iw 0)<|sL (t_cmp (c:=true))<|sP (.bool true)<|s_store (u:=.agg #[pB hb2 0,pB gb3 0,lx4,pB b7 0,pB p9 0,nS]) (m:=6) 5 #[pB hb2 0,pB gb3 0,lx4,pB b7 0,pB p9 0,nS] ?_ (hm:=by (obtain⟨_,_,e⟩:=hf5;rw[e];rfl)) (h1:=by (obtain⟨_,_,e⟩:=hf5;rw[e];rfl)) (ha':=by (obtain⟨_,_,e⟩:=hf5;rw[e];rfl))
 refine sP (.bool true)<|s_nt<|k_ret ?_
 exact xs_fin _ _ (SI.agg 2 34 5 (SI.tmp 3 SI.nil)) (rr [0,1,1,1] [4,4]) ⟨hb2,gb3,lx4,b7,p9,q8,rfl,rfl⟩
theorem tmod_ge{a:Int}{n:Nat}(ha:0≤a)(hn:0<n):0≤Int.tmod a n∧Int.tmod a n<n:=⟨Int.tmod_nonneg _ ha,Int.tmod_lt_of_pos _ om⟩
theorem pid_s{Z:Zone}{F:List Asr}{p:Nat}{hv gv lx ov pv rv:Value}{L:List Vl}(hl:L.length≤100000)(at_:Int):SF Tryz.prog 13 #[.pointer (some ⟨p,0,none⟩),iw at_] Z (blkA p #[hv,gv,lx,ov,pv,rv] 34::own VlT lx L::F) fun r Bs=>∃x:Int,r=iw x∧Bs=blkA p #[hv,gv,lx,ov,pv,rv] 34::own VlT lx L::F:=by
 refine sf_enter Tryz.func13 32 [(0,pB p 0),(1,iw at_)] (fun w0=>?_);refine k_sr<|sP (iw 0)<|s_nt<|k_seq<|k_cut (ι:=Unit) (fun _=>True) (fun _=>[(0,pB p 0),(1,iw at_),(15,.bool ((decide ((L.length:Int)=0))||(decide (at_<0))))]) (fun _=>blkA p #[hv,gv,lx,ov,pv,rv] 34::own VlT lx L::F) ?_ (fun _ _=>?_)
 .refine k_reg<|sP3 (pB p 0)<|sP (pB p 2)<|sL (t_load 0 lx)<|sL (t_len VlT_ok Tryz.underlying28 (.own 1))<|sL t_cmp<|sP (.bool (decide ((L.length:Int)=0)))<|s_fork 12 (decide ((L.length:Int)=0)) (fun c1=>?_) (fun c1=>?_)
  .have p2:=dY c1;refine sK<|sK<|sP (.bool true)<|s_nil ?_
   exact xs_cut () trivial (sub_of rfl (rQ (rQ ⟨⟨rfl,show Value.bool true=Value.bool ((decide ((L.length:Int)=0))||(decide (at_<0))) by first|(simp only[c1,bls];done)|simp[c1]⟩,trivial⟩))) (rr [0,0] [])
  have p3:=dF c1;refine sP (iw at_)<|sL t_cmp<|sP (.bool (decide (at_<0)))<|s_nil ?_
  exact xs_cut () trivial (sub_of rfl (rQ (rQ ⟨⟨rfl,show Value.bool (decide (at_<0))=Value.bool ((decide ((L.length:Int)=0))||(decide (at_<0))) by first|(simp only[c1,bls];done)|simp[c1]⟩,trivial⟩))) (rr [0,0] [])
 refine k_cond ((decide ((L.length:Int)=0))||(decide (at_<0))) (fun c4=>?_) (fun c4=>?_)
 .have p5:=c4;simp only[Bool.and_eq_true,Bool.or_eq_true,Bool.and_eq_false_iff,Bool.or_eq_false_iff,Bool.not_eq_true',Bool.not_eq_false',decide_eq_true_eq,decide_eq_false_iff_not]at p5;refine k_sr<|sP (iw 0)<|s_nt<|k_ret<|xs_ret ?_
  exact xs_fin _ _ (SI.tmp 4 SI.nil) (rr [0,0] []) ⟨_,rfl,rfl⟩
 obtain⟨c6,c7⟩:=or_f c4;have p8:=dF c6;have p9:=dF c7;refine k_st<|k_seq<|k_draw<|sP3 (pB p 0)<|sP (pB p 2)<|sL (t_load 0 lx)<|sP (iw at_)<|sP3 (pB p 0)<|sP (pB p 2)<|sL (t_load 0 lx)<|sF 1 (fun hf10=>?_)
 refine sL (t_len VlT_ok Tryz.underlying28 (.own 1)) ?_;obtain⟨htm1,htm2⟩:=tmod_ge (a:=at_) (n:=L.length) om om;refine sL (t_rem at_ (L.length:Int) om)<|sL (t_index VlT_ok Tryz.underlying28 (.own 1) (Int.tmod at_ (L.length:Int)) (((Int.tmod at_ (L.length:Int))).toNat) om ol om)<|sP (.pointer (some ((elemAt VlT.size lx (((Int.tmod at_ (L.length:Int))).toNat)).add 4))) ?_
 obtain⟨y11,hy12⟩:∃y,L[((Int.tmod at_ (L.length:Int))).toNat]?=some y:=⟨_,List.getElem?_eq_getElem ol⟩;refine sL (t_loadF 4 VlT_ok (.own 1) hy12)<|sP (iw y11.ref)<|s_nil<|x_dynS (fun _ h=>by obtain⟨_,_,e⟩:=hf10;subst e;kernel_rfl) ?_
 refine xs_then<|k_ret ?_
 exact xs_fin _ _ (SI.tmp 4 SI.nil) (rr [0,0] []) ⟨_,rfl,rfl⟩
theorem pstep6_s{Z:Zone}{F:List Asr}{p:Nat}{hv gv lx ov pv sv:Value}{L:List Vl}{SL:List Int}(hS:Kn Z iTy sv SL)(hl:L.length≤100000):SF Tryz.prog 11 #[.pointer (some ⟨p,0,none⟩),.agg #[iw 6,iw 0,iw 0,iw 0,sv]] Z (blkA p #[hv,gv,lx,ov,pv,.slice none 0 0] 34::own VlT lx L::F) fun r Bs=>∃rx R,r=.bool true∧R.length≤30∧Bs=blkA p #[hv,gv,lx,ov,pv,rx] 34::own iTy rx R::own VlT lx L::F:=by
 refine sf_enter Tryz.func11 151 [(0,pB p 0),(1,.agg #[iw 6,iw 0,iw 0,iw 0,sv])] (fun w0=>?_);refine k_fact (fun H h=>(hS.get h).len_le) (fun lS=>?_);refine k_sr<|s_box #[iw 6,iw 0,iw 0,iw 0,sv] (fun g1=>?_)
 refine sP (.bool false)<|s_nt<|k_seq<|k_sr<|sP (pB g1 0)<|sL (t_load 0 (iw 6))<|s_nt<|k_block<|k_sr<|sL (t_cmp (c:=false))<|sP (.bool false)<|s_nt<|k_false<|k_sr<|sL (t_cmp (c:=false))<|sP (.bool false)<|s_nt<|k_false<|k_sr<|sL (t_cmp (c:=false))<|sP (.bool false)<|s_nt<|k_false<|k_sr<|sL (t_cmp (c:=false))<|sP (.bool false)<|s_nt<|k_false<|k_sr<|sL (t_cmp (c:=false))<|sP (.bool false) ?_
 refine s_nt<|k_false<|k_sr<|sL (t_cmp (c:=false))<|sP (.bool false)<|s_nt<|k_false<|k_skip<|xs_block<|xs_then<|k_sr<|sP2 (pB p 0)<|sP (pB p 5)<|s_store 1 #[hv,gv,lx,ov,pv,(.slice none 0 0)] ?_
 refine s_nt<|k_seq<|k_sr<|sP (iw 0)<|s_nt<|k_block<|k_mem (fun _ h=>Holds.nilS (T:=iTy) h) ?_
 refine k_loop (ι:=Value×List Int×Nat) (fun (rx,R,i)=>R.length=i∧i≤30) (fun (rx,R,i)=>[(0,pB p 0),(3,pB g1 0),(10,iw (i:Int))]) (fun (rx,R,i)=>own iTy rx R::blkA g1 #[iw 6,iw 0,iw 0,iw 0,sv] 39::blkA p #[hv,gv,lx,ov,pv,rx] 34::own VlT lx L::F) (fun (rx,R,i)=>30-i) ((.slice none 0 0),[],0) ⟨rfl,Nat.zero_le _⟩ sA (rr [0,0,0,0] []) ?_;rintro⟨rx,R,i⟩ hi2;replace hi2:R.length=i∧i≤30:=hi2;show SK _ _ _ _ _ [(0,.pointer (some ⟨p,0,none⟩)),(3,.pointer (some ⟨g1,0,none⟩)),(10,iw (i:Int))] _ (own iTy rx R::blkA g1 #[iw 6,iw 0,iw 0,iw 0,sv] 39::blkA p #[hv,gv,lx,ov,pv,rx] 34::own VlT lx L::F);refine k_seq<|k_cut (ι:=Unit) (fun _=>True) (fun _=>[(0,pB p 0),(3,pB g1 0),(10,iw (i:Int)),(132,.bool ((decide ((i:Int)<(SL.length:Int)))&&(decide ((i:Int)<30))))]) (fun _=>own iTy rx R::blkA g1 #[iw 6,iw 0,iw 0,iw 0,sv] 39::blkA p #[hv,gv,lx,ov,pv,rx] 34::own VlT lx L::F) ?_ (fun _ _=>?_)
 .refine k_reg<|sP (iw (i:Int))<|sP (pB g1 4)<|sL (t_load 1 sv)<|sL (t_len iTy_ok Tryz.underlying23 (.zn hS))<|sL t_cmp<|sP (.bool (decide ((i:Int)<(SL.length:Int))))<|s_fork 129 (decide ((i:Int)<(SL.length:Int))) (fun c3=>?_) (fun c3=>?_)
  .have p4:=dY c3;refine sP (iw (i:Int))<|sL t_cmp<|sP (.bool (decide ((i:Int)<30)))<|s_nil ?_
   exact xs_cut () trivial (sub_of rfl (rQ (rQ (rQ ⟨⟨rfl,show Value.bool (decide ((i:Int)<30))=Value.bool ((decide ((i:Int)<(SL.length:Int)))&&(decide ((i:Int)<30))) by first|(simp only[c3,bls];done)|simp[c3]⟩,trivial⟩)))) (rr [0,0,0,0] [])
  have p5:=dF c3;refine sK<|sK<|sP (.bool false)<|s_nil ?_
  exact xs_cut () trivial (sub_of rfl (rQ (rQ (rQ ⟨⟨rfl,show Value.bool false=Value.bool ((decide ((i:Int)<(SL.length:Int)))&&(decide ((i:Int)<30))) by first|(simp only[c3,bls];done)|simp[c3]⟩,trivial⟩)))) (rr [0,0,0,0] [])
 refine k_cond ((decide ((i:Int)<(SL.length:Int)))&&(decide ((i:Int)<30))) (fun c6=>?_) (fun c6=>?_)
 .obtain ⟨c7,c8⟩:=and_t c6;have p9:=dY c7;have p10:=dY c8;refine k_st<|k_seq<|k_block<|k_held [blkA g1 #[iw 6,iw 0,iw 0,iw 0,sv] 39,own VlT lx L] ?_
  refine hp_ 0 [1,2] (pB p 0) ?_;refine hp_ 1 [1,2] (pB p 0) ?_;refine hp_ 2 [1,2] (pB p 0) ?_;refine hp_ 3 [1,2] (pB p 5) ?_;refine hp_ 5 [1,2] (pB p 0) ?_;refine hp_ 6 [1,2] (pB g1 4) ?_;refine h_l 7 rfl [1,2] (fun _=>(t_load 0 sv)) ?_;refine hp_ 8 [1,2] (iw (i:Int)) ?_;refine h_l 9 rfl [1,2] (fun _=>(t_index iTy_ok Tryz.underlying23 (.zn hS) (i:Int) i om ol om)) ?_;obtain⟨y11,hy12⟩:∃y,SL[i]?=some y:=⟨_,List.getElem?_eq_getElem ol⟩;refine h_l 10 rfl [1,2] (fun _=>(t_loadE iTy_ok (.zn hS) hy12)) ?_;refine h_stepS2 4 11 ?_ ?_
  .refine sL (t_load 2 rx)<|nH [1,2]<|h_stepS 11 ?_
   refine s_call [2,2] (pid_s (L:=L) om y11) ?_;rintro _ _ ⟨x18,rfl,rfl⟩;refine nH [3,1]<|h_stepS 12 ?_
   refine s_buildSlice (e:=3) [(0,iw x18)] #[iw x18] (fun g19=>?_) (hb:=by kernel_rfl);refine nH [4,2]<|h_stepS 13 ?_
   refine s_append (L:=R) 3 iTy_ok Tryz.underlying23 (.lit 0 iTy_ok [x18]) (by show _*8≤_;(try simp only[lnm]);omega) ol (fun v20=>?_);refine nH [4,2]<|hp_ 14 [4,2] (pB p 0) ?_
   refine hp_ 15 [4,2] (pB p 5) ?_;refine h_stepS 16 ?_;refine sF 3 (fun hf21=>?_);refine s_store (u:=v20) (m:=1) 1 #[hv,gv,lx,ov,pv,v20] ?_ (hm:=by (obtain⟨_,_,e⟩:=hf21;rw[e];rfl)) (h1:=by (obtain⟨_,_,e⟩:=hf21;rw[e];rfl)) (ha':=by (obtain⟨_,_,e⟩:=hf21;rw[e];rfl));refine nH [4,2]<|h_doneS ?_
   refine xs_block<|xs_then<|k_reg<|sP (iw (i:Int))<|sL (t_add (i:Int) 1 ol)<|sP (iw ((i:Int)+1))<|s_nil ?_
   exact xs_round (v20,(R++[x18]),i+1) (by show 30-(i+1)<30-i;omega) (by show ((R++[x18])).length=i+1∧i+1≤30;rw[List.length_append];simp only[List.length_singleton];omega) sA (rr [3,3,1,1] [4])
  refine s_call [2,2] (pid_s (L:=L) om y11) ?_;rintro _ _ ⟨x22,rfl,rfl⟩;refine nH [3,1]<|h_stepS2 4 12 ?_ ?_
  .refine sL (t_load 0 rx)<|nH [3,1]<|h_stepS 12 ?_
   refine s_buildSlice (e:=3) [(0,iw x22)] #[iw x22] (fun g27=>?_) (hb:=by kernel_rfl);refine nH [4,2]<|h_stepS 13 ?_
   refine s_append (L:=R) 3 iTy_ok Tryz.underlying23 (.lit 0 iTy_ok [x22]) (by show _*8≤_;(try simp only[lnm]);omega) ol (fun v28=>?_);refine nH [4,2]<|hp_ 14 [4,2] (pB p 0) ?_
   refine hp_ 15 [4,2] (pB p 5) ?_;refine h_stepS 16 ?_;refine sF 3 (fun hf29=>?_);refine s_store (u:=v28) (m:=1) 1 #[hv,gv,lx,ov,pv,v28] ?_ (hm:=by (obtain⟨_,_,e⟩:=hf29;rw[e];rfl)) (h1:=by (obtain⟨_,_,e⟩:=hf29;rw[e];rfl)) (ha':=by (obtain⟨_,_,e⟩:=hf29;rw[e];rfl));refine nH [4,2]<|h_doneS ?_
   refine xs_block<|xs_then<|k_reg<|sP (iw (i:Int))<|sL (t_add (i:Int) 1 ol)<|sP (iw ((i:Int)+1))<|s_nil ?_
   exact xs_round (v28,(R++[x22]),i+1) (by show 30-(i+1)<30-i;omega) (by show ((R++[x22])).length=i+1∧i+1≤30;rw[List.length_append];simp only[List.length_singleton];omega) sA (rr [3,3,1,1] [4])
  refine s_buildSlice (e:=3) [(0,iw x22)] #[iw x22] (fun g30=>?_) (hb:=by kernel_rfl);refine nH [4,2]<|h_stepS 4 ?_
  refine sL (t_load 1 rx)<|nH [4,2]<|h_stepS 13 ?_
  refine s_append (L:=R) 3 iTy_ok Tryz.underlying23 (.lit 0 iTy_ok [x22]) (by show _*8≤_;(try simp only[lnm]);omega) ol (fun v31=>?_);refine nH [4,2]<|hp_ 14 [4,2] (pB p 0) ?_
  refine hp_ 15 [4,2] (pB p 5) ?_;refine h_stepS 16 ?_;refine sF 3 (fun hf32=>?_);refine s_store (u:=v31) (m:=1) 1 #[hv,gv,lx,ov,pv,v31] ?_ (hm:=by (obtain⟨_,_,e⟩:=hf32;rw[e];rfl)) (h1:=by (obtain⟨_,_,e⟩:=hf32;rw[e];rfl)) (ha':=by (obtain⟨_,_,e⟩:=hf32;rw[e];rfl));refine nH [4,2]<|h_doneS ?_
  refine xs_block<|xs_then<|k_reg<|sP (iw (i:Int))<|sL (t_add (i:Int) 1 ol)<|sP (iw ((i:Int)+1))<|s_nil ?_
  exact xs_round (v31,(R++[x22]),i+1) (by show 30-(i+1)<30-i;omega) (by show ((R++[x22])).length=i+1∧i+1≤30;rw[List.length_append];simp only[List.length_singleton];omega) sA (rr [3,3,1,1] [4])
 have p33:=c6;simp only[Bool.and_eq_true,Bool.or_eq_true,Bool.and_eq_false_iff,Bool.or_eq_false_iff,Bool.not_eq_true',Bool.not_eq_false',decide_eq_true_eq,decide_eq_false_iff_not]at p33;refine k_exit<|xs_exit<|xs_exit<|xs_here<|xs_then<|k_sr<|sP (.bool true)<|s_nt<|k_ret ?_
 exact xs_fin [.bool true] (blkA p #[hv,gv,lx,ov,pv,rx] 34::own iTy rx R::own VlT lx L::F) (SI.tmp 4 SI.nil) (rr [2,0,1] [3]) ⟨rx,R,rfl,by omega,rfl⟩
theorem valued_s{Z:Zone}{F:List Asr}{hb gb n:Nat}{lx:Value}{st:Hst}(hsm:HSm n st)(hn:n≤300):SF Tryz.prog 12 #[.agg #[ptrV hb,ptrV gb,lx]] Z (rhA gb st::F) fun r Bs=>∃b:Bool,r=.bool b∧(b=false→∀x∈hids st,wkn st (refV 4 x)≠2)∧Bs=rhA gb st::F:=by
 refine sf_enter Tryz.func12 23 [(0,.agg #[pB hb 0,pB gb 0,lx])] (fun w0=>?_);have hil:=hids_len st;have hol:=hsm.len;refine k_sr<|s_box #[pB hb 0,pB gb 0,lx] (fun g1=>?_)
 refine sP (.bool false)<|s_nr<|sP (pB g1 1)<|sL (t_load 0 (pB gb 0))<|s_call [1] (rhids_s (st:=st) hsm hn) ?_
 rintro v2 _ rfl;refine sF 0 (fun hf3=>?_);refine sP v2<|s_nt<|k_seq<|k_sr<|sP (iw 0)<|s_nt<|k_block<|k_loop (ι:=Nat) (fun i=>i≤(hids st).length∧∀x∈(hids st).take i,wkn st (refV 4 x)≠2) (fun i=>[(1,pB g1 0),(3,v2),(4,iw (i:Int))]) (fun i=>own iTy v2 (hids st)::rhA gb st::blkA g1 #[pB hb 0,pB gb 0,lx] 30::F) (fun i=>(hids st).length-i) 0 ⟨Nat.zero_le _,by simp⟩ sA (rr [0,0,0] []) ?_
 rintro i hi4;show SK _ _ _ _ _ [(1,pB g1 0),(3,v2),(4,iw (i:Int))] _ (own iTy v2 (hids st)::rhA gb st::blkA g1 #[pB hb 0,pB gb 0,lx] 30::F);refine k_seq<|k_sr<|sP (iw (i:Int))<|sP v2<|sL (t_len iTy_ok Tryz.underlying23 (.own 0))<|sL t_cmp<|s_nt<|k_cond (decide ((i:Int)<((hids st).length:Int))) (fun c5=>?_) (fun c5=>?_)
 .have p6:=dY c5;refine k_st<|k_seq<|k_block<|k_seq<|k_draw<|sP (pB g1 1)<|sL (t_load 2 (pB gb 0))<|sP v2<|sP (iw (i:Int))<|sL (t_index iTy_ok Tryz.underlying23 (.own 0) (i:Int) i om ol om) ?_
  obtain⟨y7,hy8⟩:∃y,(hids st)[i]?=some y:=⟨_,List.getElem?_eq_getElem ol⟩;refine sL (t_loadE iTy_ok (.own 0) hy8)<|sL (t_kern (.agg #[iw 4,iw 0,iw 0,sw eb,iw y7]))<|sC [1] (rwkn_s (st:=st) hsm hn (⟨4,0,0,eb,y7⟩:Vl)) ?_
  refine sL t_cmp<|s_nil<|x_dynS (fun _ h=>by kernel_rfl) ?_
  refine xs_then<|k_cond (decide ((wkn st (⟨4,0,0,eb,y7⟩:Vl))=2)) (fun c9=>?_) (fun c9=>?_)
  .have p10:=dY c9;refine k_sr<|sP (.bool true)<|s_nt<|k_ret<|xs_retBlock<|xs_ret<|xs_ret<|xs_retBlock<|xs_ret ?_
   exact xs_fin _ _ (SI.tmp 2 SI.nil) (rr [0] [1,1]) ⟨true,rfl,fun h=>absurd h (by decide),rfl⟩
  have p11:=dF c9;refine k_skip<|xs_block<|xs_then<|k_reg<|sP (iw (i:Int))<|sL (t_add (i:Int) 1 ol)<|sP (iw ((i:Int)+1))<|s_nil ?_
  exact xs_round (i+1) (by show (hids st).length-(i+1)<(hids st).length-i;omega) (by obtain⟨hi1,hi2⟩:=hi4;refine⟨by omega,fun x hx=>?_⟩;rw[←take_snoc hy8,List.mem_append,List.mem_singleton]at hx;rcases hx with h|h;exact hi2 x h;rw[h];exact dF c9) sA (rr [1,0,0] [])
 have p12:=dF c5;refine k_exit<|xs_exit<|xs_exit<|xs_here<|xs_then<|k_sr<|sP (.bool false)<|s_nt<|k_ret ?_
 exact xs_fin _ _ (SI.tmp 2 SI.nil) (rr [1] [1,1]) ⟨false,rfl,fun _=>by have h:=(hi4).2;rwa [List.take_of_length_le om]at h,rfl⟩
theorem cdue_s{Z:Zone}{F:List Asr}{b q hb:Nat}{ph:Int}{m:Int→Int}{Q L Fr G P:List Int}(hP:P.length≤1000000):SF Tryz.prog 19 #[.pointer (some ⟨b,0,none⟩)] Z (coA b q hb ph m Q L Fr G P::F) fun r Bs=>r=.tuple #[iw (nextI P),.bool (nextB P)]∧Bs=coA b q hb ph m Q L Fr G P.tail::F:=by
 refine sf_enter Tryz.func19 13 [(0,pB b 0)] (fun w0=>?_);refine k_sr<|sP (iw 0)<|sP (.bool false)<|s_nt<|k_seq<|k_sr<|sP (pB b 0)<|sP (.bool false)<|s_nt<|k_false<|k_st<|k_sr<|sP3 (pB b 0)<|s_mem5 (fun H h=>co_open (h.re [0] [])) (fun mb1 qv2 lv3 fv4 cl5 hw=>?_)
 have hc6:=hw;refine sL (t_load 0 (pB q 0))<|sC [1] (next_s (pend:=P) om) ?_
 refine sP (iw (nextI P))<|sP (.bool (nextB P))<|sP (iw (nextI P))<|sP (.bool (nextB P))<|s_nt<|k_ret<|xs_mem (fun _ h=>co_shut (c:=m) hc6 (h.re [1,0,0,0,0,0] [])) ?_
 exact xs_fin _ _ (SI.tmp 2 (SI.tmp 3 SI.nil)) (rr [0] []) ⟨rfl,rfl⟩
theorem phas_s{Z:Zone}{lv:Value}{L:List Int}(hL:Kn Z iTy lv L)(n:Int):SF Tryz.prog 20 #[lv,iw n] Z [] fun r Bs=>r=.bool (decide (n∈L))∧Bs=[]:=by
 refine sf_enter Tryz.func20 18 [(0,lv),(1,iw n)] (fun w0=>?_);refine k_fact (fun H h=>(hL.get h).len_le) (fun lA=>?_);refine k_sr<|sP (.bool false)<|s_nt<|k_seq<|k_sr<|sP (iw 0)<|s_nt<|k_block<|k_loop (ι:=Nat) (fun i=>i≤L.length∧n∉L.take i) (fun i=>[(0,lv),(1,iw n),(5,iw (i:Int))]) (fun i=>[]) (fun i=>L.length-i) 0 ⟨Nat.zero_le _,by simp⟩ sA (rr [] []) ?_
 rintro i hi1;show SK _ _ _ _ _ [(0,lv),(1,iw n),(5,iw (i:Int))] _ [];refine k_seq<|k_sr<|sP (iw (i:Int))<|sP lv<|sL (t_len iTy_ok Tryz.underlying23 (.zn hL))<|sL t_cmp<|s_nt<|k_cond (decide ((i:Int)<(L.length:Int))) (fun c2=>?_) (fun c2=>?_)
 .have p3:=dY c2;refine k_st<|k_seq<|k_block<|k_sr<|sP lv<|sP (iw (i:Int))<|sL (t_index iTy_ok Tryz.underlying23 (.zn hL) (i:Int) i om ol om) ?_
  obtain⟨y4,hy5⟩:∃y,L[i]?=some y:=⟨_,List.getElem?_eq_getElem ol⟩;refine sL (t_loadE iTy_ok (.zn hL) hy5)<|sP (iw n)<|sL t_cmp<|s_nt<|k_cond (decide (y4=n)) (fun c6=>?_) (fun c6=>?_)
  .have p7:=dY c6;refine k_sr<|sP (.bool true)<|s_nt<|k_ret<|xs_retBlock<|xs_ret<|xs_ret<|xs_retBlock<|xs_ret<|xs_fin _ _ (SI.tmp 4 SI.nil) (rr [] []) ⟨cB ?_,rfl⟩
   exact (decide_eq_true (by rw[←p7];exact List.mem_of_getElem? hy5)).symm
  have p8:=dF c6;refine k_skip<|xs_block<|xs_then<|k_reg<|sP (iw (i:Int))<|sL (t_add (i:Int) 1 ol)<|sP (iw ((i:Int)+1))<|s_nil ?_
  exact xs_round (i+1) om (by obtain⟨hi1,hi2⟩:=hi1;refine⟨by omega,?_⟩;rw[←take_snoc hy5,List.mem_append,List.mem_singleton];rintro (h|h);exact hi2 h;exact p8 h.symm) sA (rr [] [])
 have p9:=dF c2;refine k_exit<|xs_exit<|xs_exit<|xs_here<|xs_then<|k_sr<|sP (.bool false)<|s_nt<|k_ret<|xs_fin _ _ (SI.tmp 4 SI.nil) (rr [] []) ⟨cB ?_,rfl⟩
 exact (decide_eq_false (by have h:=hi1.2;rwa [List.take_of_length_le om]at h)).symm
def lvH:Hst:=hmake hp0 (newO 4 0 eb [])
theorem lv_v:hmakeV hp0 4=⟨4,0,0,eb,1⟩:=rfl
theorem lv_e:hmakeE hp0=0:=rfl
theorem lv_ci:CI 1 lvH cst0:=⟨.inl rfl,fun h=>absurd h (by decide),fun _=>rfl,fun h=>absurd h (by decide),fun _=>rfl,by decide,by decide,hmake_sm HSm.nil rfl (by decide),HW.make HW.nil (newO_w _ _ _ (fun _ hv=>(by cases hv)) (fun h8=>by cases h8)),hmake_inv HInv.nil (newO_inv _ _ _ (by decide))⟩
theorem lv_work:((work (9:Int).toNat lvH [1] cst0).2.2:Int)=2:=by kernel_rfl
theorem lv_ph:(work (9:Int).toNat lvH [1] cst0).2.1.ph=0:=by kernel_rfl
theorem lv_a:halive (work (9:Int).toNat lvH [1] cst0).1 1=true:=by kernel_rfl
theorem lives45_s{Z:Zone}:SF Tryz.prog 9 #[] Z [] fun r Bs=>r=.bool true∧Bs=[]:=by
 refine sf_enter Tryz.func9 44 [] (fun w0=>?_);refine k_sr<|sP (.bool false)<|s_nr<|s_pcall (fun _ h=>hnew_s) ?_
 rintro _ _ ⟨hb1,rfl,rfl⟩;refine sP (pB hb1 0)<|s_nt<|k_seq<|k_sr<|sP (pB hb1 0)<|sP (.bool false)<|s_nt<|k_false<|k_st<|k_sr<|sP (pB hb1 0)<|sC [0] (hnewtable_s (st:=hp0) (by decide)) ?_
 rw[lv_v,lv_e];refine s_mem (Bs:=[hpA hb1 lvH]) (fun _ h=>h) ?_;refine sP (.tuple #[.agg #[iw 4,iw 0,iw 0,sw eb,iw 1],iw 0])<|sP (.agg #[iw 4,iw 0,iw 0,sw eb,iw 1])<|sP (iw 0)<|s_alloc (.agg zc) zc (fun g2=>?_)
 refine s_store 0 #[iw 4,iw 0,iw 0,sw eb,iw 1] ?_;refine sP (iw 0)<|s_nr<|sP (pB hb1 0)<|s_pcall (fun _ h=>cnew_s) ?_
 rintro _ _ ⟨b3,q4,rfl,rfl⟩;refine sP (.tuple #[pB b3 0,iw 0])<|sP (pB b3 0)<|sP (iw 0)<|sP (pB b3 0)<|sP (iw 0)<|s_nr<|sP (pB b3 0)<|sP2 (.bool true)<|sP (iw 0)<|sL (t_cmp (c:=true))<|sP2 (.bool true)<|sP (pB b3 0)<|sP (pB g2 4)<|sL (t_load 1 (iw 1))<|s_buildSlice (e:=3) [(0,iw 1)] #[iw 1] (fun g5=>?_) (hb:=by kernel_rfl)
 refine s_mem (fun _ h=>Holds.slice 0 h iTy_ok [1]) ?_;refine sC [0,0,1] (cwork_s (st0:=lvH) (s0:=cst0) (R:=[1]) 9 (by decide) lv_ci (by decide) (by decide)) ?_;rw[lv_work];refine sL (t_cmp (c:=true))<|sP2 (.bool true)<|sP (pB b3 0)<|s_call [1] cphase_s ?_
 rintro _ _ ⟨rfl,rfl⟩;rw[lv_ph];refine sL (t_cmp (c:=true))<|sP2 (.bool true)<|sP (pB hb1 0)<|sP (pB g2 4)<|sL (t_load 3 (iw 1))<|sC [2] (halive_s (st:=(work (9:Int).toNat lvH [1] cst0).1) 1) ?_
 refine sP (.bool (halive ((work (9:Int).toNat lvH [1] cst0).1) 1))<|sP (.bool (halive ((work (9:Int).toNat lvH [1] cst0).1) 1))<|s_nt<|k_ret ?_
 exact xs_fin _ _ (SI.tmp 0 SI.nil) (rr [] [0,0,0,0]) ⟨cB lv_a,rfl⟩
end Go.Proofs.YtmhpcebiamkciaaGreat
end
section
set_option linter.unusedSimpArgs false
set_option linter.unusedVariables false
namespace Go.Proofs.YtmhpcebiamkciaaGreat
section
variable{st:Hst}{n:Nat}{R G P Fr D:List Int}{x y z:Int}{s:Cst}{i a:Nat}
theorem rgs_pp(h0:s.ph=0):(rgs st s x).ph=0∧(rgs st s x).P=s.P:=by
 unfold rgs;split
 .split
  .rename_i h;exact absurd h.2 om
  exact⟨h0,rfl⟩
 exact⟨h0,rfl⟩
theorem rgs_ok(he:regE st s x=0):(rgs st s x).G=s.G++[x]∧halive st x=true:=by
 have ha:halive st x=true:=by
  by_cases h:halive st x=true
  .exact h
  unfold regE at he;rw[if_neg h]at he;cases he
 unfold regE at he;rw[if_pos ha]at he;have hd:¬s.doom x:=fun h=>by rw[if_pos h]at he;exact absurd he (by decide)
 rw[if_neg hd]at he;have hl:addL s.G x=s.G++[x]:=by
  unfold addI at he;unfold addL;by_cases h1:x<1
  .rw [if_pos h1]at he;exact absurd he (by decide)
  rw[if_neg h1]at he⊢;by_cases h2:x∈s.G
  .rw [if_pos h2]at he;exact absurd he (by decide)
  rw[if_neg h2]
 refine⟨?_,ha⟩;unfold rgs;rw[if_pos ⟨ha,hd⟩];split
 .exact hl
 exact hl
theorem rgs_no(he:regE st s x≠0):(rgs st s x).G=s.G:=by
 unfold rgs;split
 .rename_i h;have hz:addI s.G x≠0:=by unfold regE at he;rwa [if_pos h.1,if_neg h.2]at he
  have hl:addL s.G x=s.G:=by
   unfold addI at hz;unfold addL;by_cases h1:x<1
   .rw [if_pos h1]
   rw[if_neg h1]at hz⊢;by_cases h2:x∈s.G
   .rw [if_pos h2]
   rw[if_neg h2]at hz;exact absurd rfl hz
  rw[if_neg (fun q=>hz q.1)];exact hl
 rfl
theorem sub_pos(h:(D.drop i).Sublist (G.take a).reverse)(hi:i<D.length):1≤a:=by
 cases a with
 | zero=>have:=h.length_le;simp at this;omega
 | succ a=>omega
theorem drop_at(hz:D[i]?=some z):D.drop i=z::D.drop (i+1):=by
 obtain⟨h,e⟩:=List.getElem?_eq_some_iff.1 hz;rw[List.drop_eq_getElem_cons h,e]
theorem take_rev(ha:1≤a)(hy:G[a-1]?=some y):(G.take a).reverse=y::(G.take (a-1)).reverse:=by
 obtain⟨b,rfl⟩:∃b,a=b+1:=⟨a-1,by omega⟩;rw[Nat.add_sub_cancel]at hy⊢;rw[List.take_add_one,hy];simp
theorem sub_no(h:(D.drop i).Sublist (G.take a).reverse)(ha:1≤a)(hy:G[a-1]?=some y)(hz:D[i]?=some z)(hne:y≠z):(D.drop i).Sublist (G.take (a-1)).reverse:=by
 rw[drop_at hz,take_rev ha hy]at h;rw[drop_at hz];cases h with
 | cons _ h=>exact h
 | cons_cons _ h=>exact absurd rfl hne
theorem sub_yes(h:(D.drop i).Sublist (G.take a).reverse)(ha:1≤a)(hy:G[a-1]?=some y)(hz:D[i]?=some z):(D.drop (i+1)).Sublist (G.take (a-1)).reverse:=by
 rw[drop_at hz,take_rev ha hy]at h;cases h with
 | cons _ h=>exact (List.sublist_cons_self _ _).trans h
 | cons_cons _ h=>exact h
theorem full_law(ho:HOk n st)(hn:n≤300)(hv:NoV st)(ha:∀g∈G,halive st g=true)(hF:Fr.length+(hids st).length≤n):∃st2 D G2 Fr2,fulH st R G []=st2∧cycP (lW st) R G []=D∧cycR (lW st) R G=G2∧Fr++fulF st R G []=Fr2∧HOk n st2∧D.Sublist G.reverse∧(∀g∈D,halive st2 g=true∧g∉R)∧cycP (lW st2) R G2 []=[]∧G2.length≤G.length∧Fr2.length≤n:=by
 refine⟨_,_,_,_,rfl,rfl,rfl,rfl,ful_ok ho hn,?_,fun g hg=>?_,ful_none ho hn hv.wk,?_,?_⟩
 .unfold cycP sepL lostL;rw[List.nil_append];exact List.Sublist.reverse List.filter_sublist
 .have h1:g∈sepL (aliveR (lW st) R) G:=hg;obtain⟨h2,h3⟩:=sep_mem.1 h1;exact⟨ful_due ho hn hg (ha g h2),ful_root ho hn (ha g h2) h3⟩
 .unfold cycR stayL;exact List.length_filter_le _ _
 have:(fulF st R G []).length≤(hids st).length:=by unfold fulF cycF;refine Nat.le_trans (List.length_filter_le _ _) ?_;rw[(shW st).ids];exact Nat.le_refl _
 rw[List.length_append];omega
end
end Go.Proofs.YtmhpcebiamkciaaGreat
end
section
set_option linter.unusedSimpArgs false
set_option linter.unusedVariables false
set_option maxRecDepth 100000
set_option maxHeartbeats 1000000
namespace Go.Proofs.YtmhpcebiamkciaaGreat
open Go.Hp Go.J Go.S
open Go.Mem (Ty KTy blk elemAt pre suf blk_pre blk_suf aget aset strK aggDesc)
open Go.Mem (adel apos aget_aset aget_adel)
theorem cst0_ci(l:List Opc):CI 100 (made l).1 cst0:=by
 obtain⟨h1,h2,h3⟩:=made_good l;have h4:=hids_len (made l).1;have h5:=h2.len;exact⟨.inl rfl,fun h=>absurd h (by decide),fun _=>rfl,fun h=>absurd h (by decide),fun _=>rfl,by show 0+_≤_;omega,by decide,h2,made_w l,h1⟩
structure LI(R G:List Int)(st:Hst)(s:Cst):Prop where
 ci:CI 130 st s
 ki:KI st R s
 nv:NoV st
 g:s.G=G
 p:s.P=[]
 al:∀x∈G,halive st x=true
theorem LI.work{R G:List Int}{st:Hst}{s:Cst}(h:LI R G st s)(k:Nat):LI R G (Go.Proofs.YtmhpcebiamkciaaGreat.work k st R s).1 (Go.Proofs.YtmhpcebiamkciaaGreat.work k st R s).2.1:=by
 obtain⟨h1,h2,_⟩:=ki_work h.ci h.ki k;obtain⟨h3,h4⟩:=work_ind (Pr:=NoV) (fun st x h=>h.drop x) h.ci h.ki h.nv (by rw[h.g];exact h.al) k;obtain⟨h5,h6⟩:=work_gp (st:=st) (R:=R) (s:=s) k;exact⟨h1,h2,h3,h5.trans h.g,h6.trans h.p,by rw[h.g]at h4;exact h4⟩
theorem LI.start{R:List Int}{st:Hst}{s:Cst}{n:Nat}(hc:CI n st s)(hn:n≤130)(h0:s.ph=0)(hp:s.P=[])(hv:NoV st)(ha:∀x∈s.G,halive st x=true):LI R s.G st s:=⟨hc.mono hn,.zero h0,hv,rfl,hp,ha⟩
theorem LI.ho{R G:List Int}{st:Hst}{s:Cst}(h:LI R G st s):HOk 130 st:=⟨h.ci.i,h.ci.sm,h.ci.w⟩
theorem cdue_z{Z:Zone}{F:List Asr}{b q hb:Nat}{ph:Int}{m:Int→Int}{Q L Fr G D:List Int}{i:Nat}{z:Int}(hz:D[i]?=some z)(hD:D.length≤1000000):SF Tryz.prog 19 #[.pointer (some ⟨b,0,none⟩)] Z (coA b q hb ph m Q L Fr G (D.drop i)::F) fun r Bs=>r=.tuple #[iw z,.bool true]∧Bs=coA b q hb ph m Q L Fr G (D.drop (i+1))::F:=
 (cdue_s (P:=D.drop i) (by rw[List.length_drop];omega)).mono fun r Bs h=>by rw[drop_at hz]at h;exact h
theorem cdue_n{Z:Zone}{F:List Asr}{b q hb:Nat}{ph:Int}{m:Int→Int}{Q L Fr G D:List Int}{i:Nat}(hD:D.length≤i):SF Tryz.prog 19 #[.pointer (some ⟨b,0,none⟩)] Z (coA b q hb ph m Q L Fr G (D.drop i)::F) fun r Bs=>r=.tuple #[iw 0,.bool false]∧Bs=coA b q hb ph m Q L Fr G []::F:=by
 rw[List.drop_eq_nil_of_le hD];exact (cdue_s (P:=[]) (Nat.zero_le _)).mono fun r Bs h=>h
theorem cfull_1{Z:Zone}{F:List Asr}{b q hb:Nat}{ph:Int}{m:Int→Int}{Q L Fr G:List Int}{st:Hst}{n:Nat}{rv:Value}{R:List Int}(ho:HOk n st)(hn:n≤190)(hR:R.length≤9000)(hG:G.length≤300)(hFr:Fr.length≤5000){st2:Hst}{D G2 Fr2:List Int}(e1:fulH st R G []=st2)(e2:cycP (lW st) R G []=D)(e3:cycR (lW st) R G=G2)(e4:Fr++fulF st R G []=Fr2):SF Tryz.prog 18 #[.pointer (some ⟨b,0,none⟩),rv] Z (own iTy rv R::coA b q hb ph m Q L Fr G []::hpA hb st::F) fun r Bs=>Bs=own iTy r D::own iTy rv R::coA b q hb 0 m [] [] Fr2 G2 D::hpA hb st2::F:=by
 subst e1 e2 e3 e4;exact cfull_s (P:=[]) ho hn hR hG hFr
theorem cfull_2{Z:Zone}{F:List Asr}{b q hb:Nat}{ph:Int}{m:Int→Int}{Q L Fr G:List Int}{st:Hst}{n:Nat}{rv:Value}{R:List Int}(ho:HOk n st)(hn:n≤190)(hR:R.length≤9000)(hG:G.length≤300)(hFr:Fr.length≤5000)(e2:cycP (lW st) R G []=[]):SF Tryz.prog 18 #[.pointer (some ⟨b,0,none⟩),rv] Z (own iTy rv R::coA b q hb ph m Q L Fr G []::hpA hb st::F) fun r Bs=>∃st3 Fr3 G3,Bs=own iTy r []::own iTy rv R::coA b q hb 0 m [] [] Fr3 G3 []::hpA hb st3::F:=
 (cfull_s (P:=[]) ho hn hR hG hFr).mono fun r Bs h=>by rw[e2]at h;exact⟨_,_,_,h⟩
theorem cfinal_w{Z:Zone}{lv mv rv:Value}{l:List Opc}{ML SL:List Int}(hl0:Kn Z OpT lv l)(hM:Kn Z iTy mv ML)(hS:Kn Z iTy rv SL):SF Tryz.prog 3 #[lv,mv,rv] Z [] fun r Bs=>r=.bool true∧Bs=[]:=by
 refine sf_enter Tryz.func3 186 [(0,lv),(1,mv),(2,rv)] (fun w0=>?_);obtain⟨hinv,hsm,hll0⟩:=made_good l;refine k_fact (fun H h=>(hS.get h).len_le) (fun lS=>?_);refine k_fact (fun H h=>(hM.get h).len_le) (fun lM=>?_);refine k_sr<|sP (.bool false)<|s_nt<|k_seq<|k_sr<|sP lv<|s_mem (fun _ h=>Holds.nilS (T:=SpT) h) ?_
 refine s_call [0] (large_s (M:=[]) hl0 ol) ?_;rintro _ _ ⟨lg1,rfl,hlg2,rfl⟩;refine sP (.bool lg1)<|s_fork 24 lg1 (fun c3=>?_) (fun c3=>?_)
 .refine sK<|sK<|sK<|sP (.bool true)<|s_nt<|k_true<|k_sr<|sV (fun _ h=>lives45_s)<|sP (.bool true)<|s_nt<|k_ret<|xs_ret ?_
  exact xs_fin [.bool true] [] (SI.tmp 6 SI.nil) (rr [] []) ⟨rfl,rfl⟩
 refine sP mv<|sL (t_len iTy_ok Tryz.underlying23 (.zn hM))<|sL t_cmp<|sP (.bool (decide ((30:Int)<(ML.length:Int))))<|s_nt<|k_cond (decide ((30:Int)<(ML.length:Int))) (fun c4=>?_) (fun c4=>?_)
 .have p5:=dY c4;refine k_sr<|sV (fun _ h=>lives45_s)<|sP (.bool true)<|s_nt<|k_ret<|xs_ret ?_
  exact xs_fin [.bool true] [] (SI.tmp 6 SI.nil) (rr [] []) ⟨rfl,rfl⟩
 have p6:=dF c4;refine k_st<|k_sr<|sP lv<|s_call [] (begun_s hl0) ?_
 rintro _ _ ⟨hb,gb,lx,b,p,q,rfl,rfl⟩;refine sF 3 (fun hf7=>?_);refine sP (.tuple #[.agg #[pB hb 0,pB gb 0,lx,pB b 0,pB p 0,(.slice none 0 0)],.bool true])<|sP (.agg #[pB hb 0,pB gb 0,lx,pB b 0,pB p 0,(.slice none 0 0)])<|sP (.bool true)<|s_alloc (.agg #[.pointer none,.pointer none,(.slice none 0 0),.pointer none,.pointer none,(.slice none 0 0)]) #[.pointer none,.pointer none,(.slice none 0 0),.pointer none,.pointer none,(.slice none 0 0)] (fun g8=>?_)
 refine s_store (u:=.agg #[pB hb 0,pB gb 0,lx,pB b 0,pB p 0,(.slice none 0 0)]) (m:=6) 0 #[pB hb 0,pB gb 0,lx,pB b 0,pB p 0,(.slice none 0 0)] ?_ (hm:=by (obtain⟨_,_,e⟩:=hf7;rw[e];rfl)) (h1:=by (obtain⟨_,_,e⟩:=hf7;rw[e];rfl)) (ha':=by (obtain⟨_,_,e⟩:=hf7;rw[e];rfl));refine sP (.bool true)<|s_nt<|k_seq<|k_sr<|sP (.bool true)<|sP2 (.bool false)<|sP rv<|s_fact (fun H h=>((Acc.zn hS) H h).form) (fun hf9=>?_)
 refine sL (show Lt _ _ _ _ _ (.agg #[iw 6,iw 0,iw 0,iw 0,rv]) from by obtain⟨_,_,e⟩:=hf9;rw[e];clear e;exact t_kern _)<|s_call [0,3] (pstep6_s (L:=(made l).2) hS om) ?_
 rintro _ _ ⟨rx,R,rfl,hR,rfl⟩;refine sF 1 (fun hf10=>?_);refine sP2 (.bool false)<|s_nt<|k_false<|k_st<|k_seq<|k_sr<|sP (pB g8 0)<|sL (t_loadA 0 #[pB hb 0,pB gb 0,lx])<|s_call [5] (valued_s hsm om) ?_
 rintro _ _ ⟨vb,rfl,hvb,rfl⟩;refine s_nt<|k_cond vb (fun c11=>?_) (fun c11=>?_)
 .refine k_sr<|sV (fun _ h=>lives45_s)<|sP (.bool true)<|s_nt<|k_ret<|xs_ret ?_
  exact xs_fin [.bool true] [] (SI.tmp 6 SI.nil) (rr [] [0,0,0,0,0,0]) ⟨rfl,rfl⟩
 have hNV:NoV (made l).1:=fun x hx=>hvb c11 x (mem_hids.2 hx)
 refine k_st<|k_sr<|sP (.slice none 0 0)<|s_nt<|k_seq<|k_sr<|sP (iw 0)<|s_nt<|k_block<|k_mem (fun _ h=>Holds.nilS (T:=iTy) h) ?_
 refine k_mem (Bs:=[own iTy (.slice none 0 0) cst0.G,rhA gb ((made l).1),blkA g8 #[pB hb 0,pB gb 0,lx,pB b 0,pB p 0,rx] 34,own iTy rx R,own VlT lx ((made l).2),coA b q hb cst0.ph cst0.col cst0.Q cst0.L cst0.Fr cst0.G cst0.P,hpA hb ((made l).1)]) (fun _ h=>h) ?_;refine k_loop (ι:=Value×Cst×Nat) (fun (va,s0,i)=>i≤ML.length∧i≤30∧CI (100+i) (made l).1 s0∧s0.ph=0∧s0.P=[]∧∀g∈s0.G,halive (made l).1 g=true) (fun (va,s0,i)=>[(1,mv),(7,pB g8 0),(9,va),(10,iw (i:Int))]) (fun (va,s0,i)=>[own iTy va s0.G,rhA gb ((made l).1),blkA g8 #[pB hb 0,pB gb 0,lx,pB b 0,pB p 0,rx] 34,own iTy rx R,own VlT lx ((made l).2),coA b q hb s0.ph s0.col s0.Q s0.L s0.Fr s0.G s0.P,hpA hb ((made l).1)]) (fun (va,s0,i)=>ML.length-i) ((.slice none 0 0),cst0,0) ⟨Nat.zero_le _,Nat.zero_le _,cst0_ci l,rfl,rfl,fun _ h=>by cases h⟩ sA (rr [0,0,0,0,0,0,0] []) ?_;rintro⟨va,s0,i⟩ hi12;replace hi12:i≤ML.length∧i≤30∧CI (100+i) (made l).1 s0∧s0.ph=0∧s0.P=[]∧∀g∈s0.G,halive (made l).1 g=true:=hi12;show SK _ _ _ _ _ [(1,mv),(7,pB g8 0),(9,va),(10,iw (i:Int))] _ [own iTy va s0.G,rhA gb ((made l).1),blkA g8 #[pB hb 0,pB gb 0,lx,pB b 0,pB p 0,rx] 34,own iTy rx R,own VlT lx ((made l).2),coA b q hb s0.ph s0.col s0.Q s0.L s0.Fr s0.G s0.P,hpA hb ((made l).1)];obtain⟨hi1,hi2,hci,hi4,hi5,hi6⟩:=id hi12;have hgl:=hci.gp;refine k_seq<|k_sr<|sP (iw (i:Int))<|sP mv<|sL (t_len iTy_ok Tryz.underlying23 (.zn hM))<|sL t_cmp<|s_nt<|k_cond (decide ((i:Int)<(ML.length:Int))) (fun c13=>?_) (fun c13=>?_)
 .have p14:=dY c13;refine k_st<|k_seq<|k_block<|k_sr<|sP mv<|sP (iw (i:Int))<|sL (t_index iTy_ok Tryz.underlying23 (.zn hM) (i:Int) i om ol om) ?_
  obtain⟨y15,hy16⟩:∃y,ML[i]?=some y:=⟨_,List.getElem?_eq_getElem ol⟩;refine sL (t_loadE iTy_ok (.zn hM) hy16)<|s_call [2,3] (pid_s (L:=(made l).2) om y15) ?_
  rintro _ _ ⟨x17,rfl,rfl⟩;refine sP (iw x17)<|s_nr<|sP (pB g8 3)<|sL (t_load 0 (pB b 0))<|sP (iw x17)<|sC [5,5] (creg_s (st:=((made l).1)) (s:=s0) hci om x17) ?_
  refine sL t_cmp<|s_nt<|k_cond (decide ((regE ((made l).1) s0 x17)=0)) (fun c18=>?_) (fun c18=>?_)
  .have p19:=dY c18;refine k_reg<|sP va<|sP (iw x17)<|s_buildSlice (e:=3) [(0,iw x17)] #[iw x17] (fun g20=>?_) (hb:=by kernel_rfl)
   refine s_append (L:=s0.G) 5 iTy_ok Tryz.underlying23 (.lit 0 iTy_ok [x17]) (by show _*8≤_;(try simp only[lnm]);omega) ol (fun v21=>?_);refine sF 5 (fun hf22=>?_);refine sP v21<|s_nil<|xs_block<|xs_then<|k_reg<|sP (iw (i:Int))<|sL (t_add (i:Int) 1 ol)<|sP (iw ((i:Int)+1))<|s_nil ?_
   have hrg:=rgs_ok (dY c18);refine xs_mem (Bs:=[blkA g20 #[iw x17] 3,coA b q hb ((rgs ((made l).1) s0 x17).ph) ((rgs ((made l).1) s0 x17).col) ((rgs ((made l).1) s0 x17).Q) ((rgs ((made l).1) s0 x17).L) ((rgs ((made l).1) s0 x17).Fr) ((rgs ((made l).1) s0 x17).G) ((rgs ((made l).1) s0 x17).P),hpA hb ((made l).1),blkA g8 #[pB hb 0,pB gb 0,lx,pB b 0,pB p 0,rx] 34,own VlT lx ((made l).2),own iTy v21 ((rgs ((made l).1) s0 x17).G),rhA gb ((made l).1),own iTy rx R]) (fun _ h=>by rw[←hrg.1]at h;exact h) ?_;exact xs_round (v21,(rgs ((made l).1) s0 x17),i+1) (by show ML.length-(i+1)<ML.length-i;omega) ⟨by omega,by omega,(hci.rgs _).mono om,(rgs_pp hi4).1,(rgs_pp hi4).2.trans hi5,fun g hg=>by rw[hrg.1]at hg;rcases List.mem_append.1 hg with h|h;exact hi6 g h;rw[List.mem_singleton.1 h];exact hrg.2⟩ sA (rr [5,5,3,4,3,1,1] [7])
  have p23:=dF c18;refine k_skip<|xs_block<|xs_then<|k_reg<|sP (iw (i:Int))<|sL (t_add (i:Int) 1 ol)<|sP (iw ((i:Int)+1))<|s_nil ?_
  have hrg:=rgs_no (dF c18);refine xs_mem (Bs:=[coA b q hb ((rgs ((made l).1) s0 x17).ph) ((rgs ((made l).1) s0 x17).col) ((rgs ((made l).1) s0 x17).Q) ((rgs ((made l).1) s0 x17).L) ((rgs ((made l).1) s0 x17).Fr) ((rgs ((made l).1) s0 x17).G) ((rgs ((made l).1) s0 x17).P),hpA hb ((made l).1),blkA g8 #[pB hb 0,pB gb 0,lx,pB b 0,pB p 0,rx] 34,own VlT lx ((made l).2),own iTy va ((rgs ((made l).1) s0 x17).G),rhA gb ((made l).1),own iTy rx R]) (fun _ h=>by rw[←hrg]at h;exact h) ?_;exact xs_round (va,(rgs ((made l).1) s0 x17),i+1) (by show ML.length-(i+1)<ML.length-i;omega) ⟨by omega,by omega,(hci.rgs _).mono om,(rgs_pp hi4).1,(rgs_pp hi4).2.trans hi5,fun g hg=>by rw[hrg]at hg;exact hi6 g hg⟩ sA (rr [4,4,2,3,2,0,0] [])
 have p24:=dF c13;refine k_exit<|xs_exit<|xs_exit<|xs_here<|xs_then<|k_cut (ι:=Hst×Cst) (fun (st,s)=>LI R s0.G st s) (fun (st,s)=>[(7,pB g8 0),(9,va)]) (fun (st,s)=>[own iTy va s0.G,rhA gb ((made l).1),blkA g8 #[pB hb 0,pB gb 0,lx,pB b 0,pB p 0,rx] 34,own iTy rx R,own VlT lx ((made l).2),coA b q hb s.ph s.col s.Q s.L s.Fr s.G s.P,hpA hb st]) ?_ ?_
 .refine k_sr<|sP (iw 0)<|s_nt<|k_block<|k_loop (ι:=Hst×Cst×Nat) (fun (st,s,i1)=>i1≤100∧LI R s0.G st s) (fun (st,s,i1)=>[(7,pB g8 0),(9,va),(12,iw (i1:Int))]) (fun (st,s,i1)=>[own iTy va s0.G,rhA gb ((made l).1),blkA g8 #[pB hb 0,pB gb 0,lx,pB b 0,pB p 0,rx] 34,own iTy rx R,own VlT lx ((made l).2),coA b q hb s.ph s.col s.Q s.L s.Fr s.G s.P,hpA hb st]) (fun (st,s,i1)=>100-i1) ((made l).1,s0,0) ⟨Nat.zero_le _,.start hci om hi4 hi5 hNV hi6⟩ sA (rr [0,0,0,0,0,0,0] []) ?_
  rintro⟨st,s,i1⟩ hi25;replace hi25:i1≤100∧LI R s0.G st s:=hi25;show SK _ _ _ _ _ [(7,pB g8 0),(9,va),(12,iw (i1:Int))] _ [own iTy va s0.G,rhA gb ((made l).1),blkA g8 #[pB hb 0,pB gb 0,lx,pB b 0,pB p 0,rx] 34,own iTy rx R,own VlT lx ((made l).2),coA b q hb s.ph s.col s.Q s.L s.Fr s.G s.P,hpA hb st];obtain⟨hj1,hLI⟩:=id hi25;refine k_seq<|k_sr<|sP (iw (i1:Int))<|sL t_cmp<|sP (.bool (decide ((i1:Int)<100)))<|s_fork 69 (decide ((i1:Int)<100)) (fun c26=>?_) (fun c26=>?_)
  .have p27:=dY c26;refine sP (iw (i1:Int))<|sL t_cmp<|sP (.bool (decide ((i1:Int)=0)))<|s_fork 72 (decide ((i1:Int)=0)) (fun c28=>?_) (fun c28=>?_)
   .have p29:=dY c28;refine sK<|sK<|sK<|sK<|sP2 (.bool true)<|s_nt<|k_true<|k_st<|k_seq<|k_block<|k_reg<|sP (pB g8 3)<|sL (t_load 2 (pB b 0))<|sP (pB g8 5)<|sL (t_load 2 rx)<|sC [3,4,4] (cwork_s (st0:=st) (s0:=s) (R:=R) 50 (by decide) hLI.ci om om) ?_
    refine s_nil<|xs_block<|xs_then<|k_reg<|sP (iw (i1:Int))<|sL (t_add (i1:Int) 1 ol)<|sP (iw ((i1:Int)+1))<|s_nil ?_
    exact xs_round ((work (50:Int).toNat st R s).1,(work (50:Int).toNat st R s).2.1,i1+1) (by show 100-(i1+1)<100-i1;omega) ⟨by omega,hLI.work _⟩ sA (rr [3,3,3,0,2,0,0] [])
   have p30:=dF c28;refine sP (pB g8 3)<|sL (t_load 2 (pB b 0))<|sC [5] (cphase_s) ?_
   refine sL t_cmp<|sP2 (.bool (decide (s.ph≠0)))<|s_nt<|k_cond (decide (s.ph≠0)) (fun c31=>?_) (fun c31=>?_)
   .have p32:=dY c31;refine k_st<|k_seq<|k_block<|k_reg<|sP (pB g8 3)<|sL (t_load 3 (pB b 0))<|sP (pB g8 5)<|sL (t_load 3 rx)<|sC [4,0,4] (cwork_s (st0:=st) (s0:=s) (R:=R) 50 (by decide) hLI.ci om om) ?_
    refine s_nil<|xs_block<|xs_then<|k_reg<|sP (iw (i1:Int))<|sL (t_add (i1:Int) 1 ol)<|sP (iw ((i1:Int)+1))<|s_nil ?_
    exact xs_round ((work (50:Int).toNat st R s).1,(work (50:Int).toNat st R s).2.1,i1+1) (by show 100-(i1+1)<100-i1;omega) ⟨by omega,hLI.work _⟩ sA (rr [3,3,3,0,2,0,0] [])
   have p33:=Decidable.not_not.1 (dF c31);refine k_exit<|xs_exit<|xs_exit<|xs_here ?_
   exact xs_cut (st,s) hLI sA (rr [1,1,1,1,1,0,0] [])
  have p34:=dF c26;refine sK<|sK<|sK<|sK<|sK<|sK<|sK<|sK<|sP (.bool false)<|s_nt<|k_false<|k_exit<|xs_exit<|xs_exit<|xs_here ?_
  exact xs_cut (st,s) hLI sA (rr [0,0,0,0,0,0,0] [])
 rintro⟨st,s⟩ hLI;replace hLI:LI R s0.G st s:=hLI;show SK _ _ _ _ _ [(7,pB g8 0),(9,va)] _ [own iTy va s0.G,rhA gb ((made l).1),blkA g8 #[pB hb 0,pB gb 0,lx,pB b 0,pB p 0,rx] 34,own iTy rx R,own VlT lx ((made l).2),coA b q hb s.ph s.col s.Q s.L s.Fr s.G s.P,hpA hb st];refine k_seq<|k_sr<|sP (iw 0)<|s_nt<|k_block<|k_loop (ι:=Nat) (fun i2=>i2≤s0.G.length) (fun i2=>[(7,pB g8 0),(9,va),(13,iw (i2:Int))]) (fun i2=>[own iTy va s0.G,rhA gb ((made l).1),blkA g8 #[pB hb 0,pB gb 0,lx,pB b 0,pB p 0,rx] 34,own iTy rx R,own VlT lx ((made l).2),coA b q hb s.ph s.col s.Q s.L s.Fr s.G s.P,hpA hb st]) (fun i2=>s0.G.length-i2) 0 (Nat.zero_le _) sA (rr [0,0,0,0,0,0,0] []) ?_
 rintro i2 hi35;show SK _ _ _ _ _ [(7,pB g8 0),(9,va),(13,iw (i2:Int))] _ [own iTy va s0.G,rhA gb ((made l).1),blkA g8 #[pB hb 0,pB gb 0,lx,pB b 0,pB p 0,rx] 34,own iTy rx R,own VlT lx ((made l).2),coA b q hb s.ph s.col s.Q s.L s.Fr s.G s.P,hpA hb st];have hgl:=hLI.ci.gp;rw[hLI.g]at hgl;refine k_seq<|k_sr<|sP (iw (i2:Int))<|sP va<|sL (t_len iTy_ok Tryz.underlying23 (.own 0))<|sL t_cmp<|s_nt<|k_cond (decide ((i2:Int)<(s0.G.length:Int))) (fun c36=>?_) (fun c36=>?_)
 .have p37:=dY c36;refine k_st<|k_seq<|k_block<|k_seq<|k_draw<|sP2 (pB g8 0)<|sL (t_load 2 (pB hb 0))<|sP va<|sP (iw (i2:Int))<|sL (t_index iTy_ok Tryz.underlying23 (.own 0) (i2:Int) i2 om ol om) ?_
  obtain⟨y38,hy39⟩:∃y,s0.G[i2]?=some y:=⟨_,List.getElem?_eq_getElem ol⟩;have hly:=hLI.al y38 (List.mem_of_getElem? hy39);refine sL (t_loadE iTy_ok (.own 0) hy39)<|sC [6] (halive_s (st:=st) y38) ?_
  refine sL (Lt.to (t_pure (.bool (!(halive st y38)))) (cB ((congrArg Bool.not (hly:(halive st y38)=true)).trans rfl:(!(halive st y38))=false)))<|s_nil<|x_dynS (fun _ h=>by kernel_rfl) ?_
  refine xs_then<|k_false<|k_skip<|xs_block<|xs_then<|k_reg<|sP (iw (i2:Int))<|sL (t_add (i2:Int) 1 ol)<|sP (iw ((i2:Int)+1))<|s_nil ?_
  exact xs_round (i2+1) (by show s0.G.length-(i2+1)<s0.G.length-i2;omega) om sA (rr [1,1,1,1,1,1,0] [])
 have p40:=dF c36;refine k_exit<|xs_exit<|xs_exit<|xs_here<|xs_then<|k_sr<|sP (pB g8 3)<|sL (t_load 2 (pB b 0))<|sP (pB g8 5)<|sL (t_load 2 rx)<|s_mem (Bs:=[own iTy va s0.G,rhA gb ((made l).1),blkA g8 #[pB hb 0,pB gb 0,lx,pB b 0,pB p 0,rx] 34,own iTy rx R,own VlT lx ((made l).2),coA b q hb s.ph s.col s.Q s.L s.Fr s0.G [],hpA hb st]) (fun _ h=>by rw[hLI.g,hLI.p]at h;exact h) ?_
 have hcf:=hLI.ci.fr;have hcg:=hLI.ci.gp;rw[hLI.g]at hcg;obtain⟨st2,D,G2,Fr2,e1,e2,e3,e4,ho2,hDs,hDa,hnone,hGl,hFl⟩:=full_law (R:=R) (G:=s0.G) (Fr:=s.Fr) hLI.ho om hLI.nv hLI.al hcf;have hDl:=hDs.length_le;rw[List.length_reverse]at hDl;refine s_call [3,4,4] (cfull_1 (Fr:=s.Fr) hLI.ho om om om om e1 e2 e3 e4) ?_;rintro v41 _ rfl;refine sF 0 (fun hf42=>?_);refine sP v41<|s_nr<|sP va<|sL (t_len iTy_ok Tryz.underlying23 (.own 4))<|sP (iw (s0.G.length:Int))<|s_nt<|k_seq<|k_sr<|sP (iw 0)<|s_nt<|k_block<|k_mem (Bs:=[own iTy v41 D,own iTy rx R,coA b q hb 0 s.col [] [] Fr2 G2 (D.drop 0),hpA hb st2,own iTy va s0.G,rhA gb ((made l).1),blkA g8 #[pB hb 0,pB gb 0,lx,pB b 0,pB p 0,rx] 34,own VlT lx ((made l).2)]) (fun _ h=>h) ?_
 refine k_loop (ι:=Nat×Nat) (fun (i3,mm)=>i3≤D.length∧mm≤s0.G.length∧(D.drop i3).Sublist (s0.G.take mm).reverse) (fun (i3,mm)=>[(7,pB g8 0),(9,va),(14,v41),(15,iw (mm:Int)),(16,iw (i3:Int))]) (fun (i3,mm)=>[own iTy v41 D,own iTy rx R,coA b q hb 0 s.col [] [] Fr2 G2 (D.drop i3),hpA hb st2,own iTy va s0.G,rhA gb ((made l).1),blkA g8 #[pB hb 0,pB gb 0,lx,pB b 0,pB p 0,rx] 34,own VlT lx ((made l).2)]) (fun (i3,mm)=>D.length-i3) (0,s0.G.length) ⟨Nat.zero_le _,Nat.le_refl _,by rw[List.take_length];exact hDs⟩ sA (rr [0,0,0,0,0,0,0,0] []) ?_;rintro⟨i3,mm⟩ hi43;replace hi43:i3≤D.length∧mm≤s0.G.length∧(D.drop i3).Sublist (s0.G.take mm).reverse:=hi43;show SK _ _ _ _ _ [(7,pB g8 0),(9,va),(14,v41),(15,iw (mm:Int)),(16,iw (i3:Int))] _ [own iTy v41 D,own iTy rx R,coA b q hb 0 s.col [] [] Fr2 G2 (D.drop i3),hpA hb st2,own iTy va s0.G,rhA gb ((made l).1),blkA g8 #[pB hb 0,pB gb 0,lx,pB b 0,pB p 0,rx] 34,own VlT lx ((made l).2)];obtain⟨hk1,hk2,hk3⟩:=id hi43;refine k_seq<|k_sr<|sP (iw (i3:Int))<|sP v41<|sL (t_len iTy_ok Tryz.underlying23 (.own 0))<|sL t_cmp<|s_nt<|k_cond (decide ((i3:Int)<(D.length:Int))) (fun c44=>?_) (fun c44=>?_)
 .have p45:=dY c44;refine k_st<|k_seq<|k_block<|k_seq<|k_sr<|sP (iw (mm:Int))<|sL (t_sub (mm:Int) 1 ol)<|sP (iw ((mm:Int)-1))<|s_nt<|k_block<|k_loop (ι:=Nat) (fun a=>a≤s0.G.length∧(D.drop i3).Sublist (s0.G.take a).reverse) (fun a=>[(7,pB g8 0),(9,va),(14,v41),(15,iw ((a:Int)-1)),(16,iw (i3:Int))]) (fun a=>[own iTy v41 D,own iTy rx R,coA b q hb 0 s.col [] [] Fr2 G2 (D.drop i3),hpA hb st2,own iTy va s0.G,rhA gb ((made l).1),blkA g8 #[pB hb 0,pB gb 0,lx,pB b 0,pB p 0,rx] 34,own VlT lx ((made l).2)]) (fun a=>a) mm ⟨hk2,hk3⟩ sA (rr [0,0,0,0,0,0,0,0] []) ?_
  rintro a hi46;show SK _ _ _ _ _ [(7,pB g8 0),(9,va),(14,v41),(15,iw ((a:Int)-1)),(16,iw (i3:Int))] _ [own iTy v41 D,own iTy rx R,coA b q hb 0 s.col [] [] Fr2 G2 (D.drop i3),hpA hb st2,own iTy va s0.G,rhA gb ((made l).1),blkA g8 #[pB hb 0,pB gb 0,lx,pB b 0,pB p 0,rx] 34,own VlT lx ((made l).2)];obtain⟨hia1,hia2⟩:=id hi46;have ha1:=sub_pos hia2 om;refine k_seq<|k_seq<|k_draw<|sP (iw ((a:Int)-1))<|sL (Lt.to t_cmp (cB (decide_eq_true om:(decide ((0:Int)≤((a:Int)-1)))=true)))<|sP (.bool true)<|sP va<|sP (iw ((a:Int)-1))<|sL (t_index iTy_ok Tryz.underlying23 (.own 4) ((a:Int)-1) (a-1) om ol om) ?_
  obtain⟨y47,hy48⟩:∃y,s0.G[(a-1)]?=some y:=⟨_,List.getElem?_eq_getElem ol⟩;refine sL (t_loadE iTy_ok (.own 4) hy48)<|sP v41<|sP (iw (i3:Int))<|sL (t_index iTy_ok Tryz.underlying23 (.own 0) (i3:Int) i3 om ol om) ?_
  obtain⟨y49,hy50⟩:∃y,D[i3]?=some y:=⟨_,List.getElem?_eq_getElem ol⟩;obtain⟨hza,hzr⟩:=hDa y49 (List.mem_of_getElem? hy50);refine sL (t_loadE iTy_ok (.own 0) hy50)<|sL t_cmp<|sP (.bool (decide (y47≠y49)))<|s_nil<|x_dynS (fun _ h=>by kernel_rfl) ?_
  refine xs_then<|k_cond (decide (y47≠y49)) (fun c51=>?_) (fun c51=>?_)
  .have p52:=dY c51;refine k_st<|k_seq<|k_block<|k_skip<|xs_block<|xs_then<|k_reg<|sP (iw ((a:Int)-1))<|sL (t_sub ((a:Int)-1) 1 ol)<|sP (iw (((a:Int)-1)-1))<|s_nil ?_
   exact xs_round (a-1) om ⟨by omega,sub_no hia2 ha1 hy48 hy50 (by first|exact p52|exact dY c51)⟩ (sub_of rfl (rQ (rQ (rQ ⟨⟨rfl,cI om⟩,(rQ trivial)⟩)))) (rr [0,0,0,0,0,0,0,0] [])
  have p53:=Decidable.not_not.1 (dF c51);refine k_exit<|xs_exit<|xs_exit<|xs_here<|xs_then<|k_sr<|sP (pB g8 3)<|sL (t_load 6 (pB b 0))<|sC [2] (cdue_z hy50 om) ?_
  refine sP (.tuple #[iw y49,.bool true])<|sP (iw y49)<|sP (.bool true)<|sP (iw y49)<|sP (.bool true)<|s_nr<|sP (iw ((a:Int)-1))<|sL (Lt.to t_cmp (cB (decide_eq_false om:(decide (((a:Int)-1)<0))=false)))<|sP (.bool false)<|sP (.bool true)<|sP3 (.bool false)<|sP (iw y49)<|sP v41<|sP (iw (i3:Int))<|sL (t_index iTy_ok Tryz.underlying23 (.own 1) (i3:Int) i3 om ol om)<|sL (t_loadE iTy_ok (.own 1) hy50)<|sL (Lt.to t_cmp (cB (decide_eq_false (fun h=>h rfl):(decide (y49≠y49))=false)))<|sP2 (.bool false)<|sP2 (pB g8 0)<|sL (t_load 6 (pB hb 0))<|sP (iw y49)<|sC [3] (halive_s (st:=st2) y49) ?_
  refine sL (Lt.to (t_pure (.bool (!(halive st2 y49)))) (cB ((congrArg Bool.not (hza:(halive st2 y49)=true)).trans rfl:(!(halive st2 y49))=false)))<|sP2 (.bool false)<|sP (pB g8 5)<|sL (t_load 6 rx)<|sP (iw y49)<|s_vcall (fun _ h=>phas_s (L:=R) (Acc.kn (.own 3) h) y49) ?_
  rintro u55 e54;obtain rfl:u55=.bool false:=e54.trans (cB ((decide_eq_false hzr)));refine sP (.bool false)<|s_nt<|k_false<|k_skip<|xs_block<|xs_then<|k_reg<|sP (iw (i3:Int))<|sL (t_add (i3:Int) 1 ol)<|sP (iw ((i3:Int)+1))<|s_nil ?_
  exact xs_round (i3+1,a-1) (by show D.length-(i3+1)<D.length-i3;omega) ⟨by omega,by omega,sub_yes hia2 ha1 hy48 hy50⟩ (sub_of rfl (rQ (rQ (rQ ⟨⟨rfl,cI om⟩,(rQ trivial)⟩)))) (rr [2,2,1,0,0,0,0,0] [])
 have p56:=dF c44;refine k_exit<|xs_exit<|xs_exit<|xs_here<|xs_then<|k_sr<|sP (pB g8 3)<|sL (t_load 6 (pB b 0))<|sC [2] (cdue_n (D:=D) (i:=i3) om) ?_
 refine sP (.tuple #[iw 0,.bool false])<|sP (iw 0)<|sP (.bool false)<|sP (iw 0)<|sP (.bool false)<|s_nr<|sP (pB g8 3)<|sL (t_load 6 (pB b 0))<|sP (pB g8 5)<|sL (t_load 6 rx)<|s_call [2,0,1] (cfull_2 (st:=st2) (G:=G2) (Fr:=Fr2) ho2 om om om om hnone) ?_
 rintro v57 _ ⟨st3,Fr3,G3,rfl⟩;refine sF 0 (fun hf58=>?_);refine sP v57<|s_nr<|sP (.bool false)<|sP2 (.bool true)<|sP v57<|sL (t_len iTy_ok Tryz.underlying23 (.own 0))<|sL (Lt.to t_cmp (cB (decide_eq_true rfl:(decide ((([]:List Int).length:Int)=0))=true)))<|sP2 (.bool true)<|sV (fun _ h=>lives45_s)<|sP2 (.bool true)<|s_nt<|k_ret ?_
 exact xs_fin [.bool true] [] (SI.tmp 6 SI.nil) (rr [] [0,0,0,0,0,0,0,0,0]) ⟨rfl,rfl⟩
end Go.Proofs.YtmhpcebiamkciaaGreat
end
section
set_option linter.unusedSimpArgs false
set_option linter.unusedVariables false
namespace Go.J
open Go.ChangeShapes Go.WideShapes Go.RowKit Go.Hp
open Go.Mem (Ty)
section
variable{H:Type}{enc:TypeId×Value→H}{P:Program}{W:World}
abbrev Tr(enc:TypeId×Value→H)(P:Program)(W:World)(t:TypeId)(cs:List Value):Prop:=∃n x,DataW.trod enc P W 0 (fun _=>true) true n t cs=some x
theorem tr_int{t:TypeId}{k:IntKind}{cs:List Value}(hu:P.underlying t=some (.int k))(h:Tr enc P W t cs):∃n,cs=[.int k n]∧(Lit.int k n).wf=true:=by
 obtain⟨fuel,x,hx⟩:=h;obtain⟨n,h1,_,h3⟩:=DataW.trod_int hu hx;exact⟨n,h1,h3⟩
end
end Go.J
end
section
set_option linter.unusedSimpArgs false
set_option linter.unusedVariables false
namespace Go.J
open Go.ChangeShapes Go.WideShapes Go.RowKit Go.Hp
open Go.Mem (Ty)
section
variable{H:Type}{enc:TypeId×Value→H}{P:Program}{W:World}
theorem tr_sliceQ {α : Type} [Inhabited α] {T : Ty α} (hT : T.Ok P) {t : TypeId} {cs : List Value} (ht : P.underlying t = some (.slice T.id)) (hc : P.cellsOf T.id = T.size)
    {Q : α → Prop} (hdec : ∀ cs, Tr enc P W T.id cs → ∃ x, T.enc x = cs ∧ Q x) (h : Tr enc P W t cs) : ∃ v L, cs = [v] ∧ Sl W.heap T v L ∧ ∀ y ∈ L, Q y := by
  obtain ⟨fuel, x, hf⟩ := h
  rcases Deep.open_slice ht hf with ⟨h0, _⟩ | ⟨a, len0, cap, m, n, D, Pl, h0, _, hl, hm, hmm, _, hx⟩
  · exact ⟨_, [], h0, .inl ⟨⟨none, rfl⟩, rfl⟩, by simp⟩
  simp only [if_true] at hmm
  subst hmm
  have hpos := hT.pos
  rw [hc] at hx
  by_cases hcap : m = 0
  · subst hcap
    obtain rfl : len0 = 0 := by omega
    exact ⟨_, [], h0, .inl ⟨⟨some a, rfl⟩, rfl⟩, by simp⟩
  obtain ⟨g, off, spot⟩ := a
  have key : spot = none ∧ ∃ arr e fr, W.heap[g]? = some (.cells arr e fr) := by
    obtain ⟨cs', h1, h2⟩ := hx 0 (by omega)
    obtain ⟨_, hlen, hcell⟩ := World.cells?_some h1
    have h3 := hcell 0 hpos
    simp only [Nat.zero_mul, Addr.add, if_true] at h3
    have hne : cs'[0]? ≠ none := by rw [List.getElem?_eq_getElem (by omega)]; exact fun h => nomatch h
    unfold World.cell? at h3
    simp only at h3
    cases hg : W.heap[g]? with
    | none => rw [hg] at h3; simp only at h3; exact absurd h3.symm hne
    | some ob =>
      rw [hg] at h3
      cases ob <;> simp only at h3 <;> first | (exact absurd h3.symm hne) | skip
      rename_i arr e fr
      cases spot with
      | none => exact ⟨rfl, arr, e, fr, rfl⟩
      | some s => simp only [Option.isSome_some, if_true] at h3; exact absurd h3.symm hne
  obtain ⟨rfl, arr, e, fr, hg⟩ := key
  obtain ⟨X, hX⟩ := Deep.choose_lt (α := α) (p := fun i x => (∀ j u, (T.enc x)[j]? = some u → arr[off + i * T.size + j]? = some u) ∧ Q x) (fun i hi => by
    obtain ⟨cs', h1, h2⟩ := hx i hi
    obtain ⟨_, hlen, hcell⟩ := World.cells?_some h1
    obtain ⟨x, hx', hQ⟩ := hdec cs' ⟨_, _, h2⟩
    refine ⟨x, fun j u hj => ?_, hQ⟩
    rw [hx'] at hj
    have hjl : j < T.size := by rw [← hlen]; exact (List.getElem?_eq_some_iff.1 hj).1
    have := hcell j hjl
    rw [Mem.addr_add, Mem.addr_add, cell_of_row W g _ arr e fr hg, hj] at this
    exact this)
  have hget : ∀ i j, i < m → j < T.size → ∃ u, (T.enc (X i))[j]? = some u ∧ arr[off + i * T.size + j]? = some u := fun i j hi hj => by
    have : j < (T.enc (X i)).length := by rw [hT.len]; exact hj
    exact ⟨_, List.getElem?_eq_getElem this, (hX i hi).1 j _ (List.getElem?_eq_getElem this)⟩
  refine ⟨_, (List.range len0).map X, h0, .inr ⟨g, off, m, arr, e, fr, by simp, hg, by simpa using hl, hm, ?_, ?_⟩, ?_⟩
  · intro hcp
    obtain ⟨u, _, hu⟩ := hget (m - 1) (T.size - 1) (by omega) (by omega)
    have hlt := (Array.getElem?_eq_some_iff.1 hu).1
    have : m * T.size = (m - 1) * T.size + T.size := by rw [Nat.sub_mul]; have : T.size ≤ m * T.size := Nat.le_mul_of_pos_left _ hcp; omega
    omega
  · apply List.ext_getElem?
    intro q
    have hfl := hT.flat_len ((List.range len0).map X)
    simp only [List.length_map, List.length_range] at hfl ⊢
    by_cases hq : q < len0 * T.size
    · have hi : q / T.size < len0 := Nat.div_lt_of_lt_mul (by rw [Nat.mul_comm]; exact hq)
      have hj : q % T.size < T.size := Nat.mod_lt _ hpos
      have e1 : q = q / T.size * T.size + q % T.size := by rw [Nat.mul_comm]; exact (Nat.div_add_mod _ _).symm
      obtain ⟨u, h1, h2⟩ := hget (q / T.size) (q % T.size) (by omega) hj
      have hL : ((List.range len0).map X)[q / T.size]? = some (X (q / T.size)) := by simp [hi]
      have h3 := hT.flat_get hL hj
      rw [← e1, h1] at h3
      rw [h3, List.getElem?_take, if_pos hq, List.getElem?_drop, Array.getElem?_toList]
      rw [← h2]
      congr 1
      omega
    · rw [List.getElem?_eq_none (by simp; omega), List.getElem?_eq_none (by rw [hfl]; omega)]
  · intro y hy
    simp only [List.mem_map, List.mem_range] at hy
    obtain ⟨i, hi, rfl⟩ := hy
    exact (hX i (by omega)).2
end
end Go.J
end
section
set_option linter.unusedSimpArgs false
set_option linter.unusedVariables false
set_option maxRecDepth 100000
namespace Go.Proofs.YtmhpcebiamkciaaGreat
open Go.RowKit Go.J Go.S Go.Hp Go.ChangeShapes Go.WideShapes
theorem Tryz.own:ownKnob Tryz.prog.godebug=none:=by kernel_rfl
theorem Tryz.laidOut:laidOutB Tryz.prog=true:=by kernel_rfl
instance:Inhabited Spc:=⟨⟨zVl,0⟩⟩
instance:Inhabited Opc:=⟨⟨0,⟨zVl,0⟩,⟨zVl,0⟩,⟨zVl,0⟩⟩⟩
section
variable{H:Type}{enc:TypeId×Value→H}{W:World}
theorem open_ints{cs:List Value}(h:Tr enc Tryz.prog W 23 cs):∃v L,cs=[v]∧Sl W.heap iTy v L:=by
 obtain⟨v,L,h1,h2,_⟩:=tr_sliceQ (Q:=fun _=>True) iTy_ok Tryz.underlying23 (by kernel_rfl) (fun cs h=>by obtain⟨n,e,_⟩:=tr_int Tryz.underlying3 h;exact⟨n,e.symm,trivial⟩) h;exact⟨v,L,h1,h2⟩
end
theorem decOpT(cs:List Value)(h:fitsL [0,0,0,0,1,0,0,0,0,0,1,0,0,0,0,0,1,0,0] cs=true):∃x,OpT.enc x=cs:=by
 have hl:=fitsL_len h;match cs,hl,h with
 | [c0,c1,c2,c3,c4,c5,c6,c7,c8,c9,c10,c11,c12,c13,c14,c15,c16,c17,c18],_,h=>
  simp only[fitsL,Bool.and_eq_true]at h;obtain⟨c0,rfl⟩:=fit_int h.1;obtain⟨c1,rfl⟩:=fit_int h.2.1;obtain⟨c2,rfl⟩:=fit_int h.2.2.1;obtain⟨c3,rfl⟩:=fit_int h.2.2.2.1;obtain⟨c4,rfl⟩:=fit_str h.2.2.2.2.1;obtain⟨c5,rfl⟩:=fit_int h.2.2.2.2.2.1;obtain⟨c6,rfl⟩:=fit_int h.2.2.2.2.2.2.1;obtain⟨c7,rfl⟩:=fit_int h.2.2.2.2.2.2.2.1;obtain⟨c8,rfl⟩:=fit_int h.2.2.2.2.2.2.2.2.1;obtain⟨c9,rfl⟩:=fit_int h.2.2.2.2.2.2.2.2.2.1;obtain⟨c10,rfl⟩:=fit_str h.2.2.2.2.2.2.2.2.2.2.1;obtain⟨c11,rfl⟩:=fit_int h.2.2.2.2.2.2.2.2.2.2.2.1;obtain⟨c12,rfl⟩:=fit_int h.2.2.2.2.2.2.2.2.2.2.2.2.1;obtain⟨c13,rfl⟩:=fit_int h.2.2.2.2.2.2.2.2.2.2.2.2.2.1;obtain⟨c14,rfl⟩:=fit_int h.2.2.2.2.2.2.2.2.2.2.2.2.2.2.1;obtain⟨c15,rfl⟩:=fit_int h.2.2.2.2.2.2.2.2.2.2.2.2.2.2.2.1;obtain⟨c16,rfl⟩:=fit_str h.2.2.2.2.2.2.2.2.2.2.2.2.2.2.2.2.1;obtain⟨c17,rfl⟩:=fit_int h.2.2.2.2.2.2.2.2.2.2.2.2.2.2.2.2.2.1;obtain⟨c18,rfl⟩:=fit_int h.2.2.2.2.2.2.2.2.2.2.2.2.2.2.2.2.2.2.1;exact⟨⟨c0,⟨⟨c1,c2,c3,c4,c5⟩,c6⟩,⟨⟨c7,c8,c9,c10,c11⟩,c12⟩,⟨⟨c13,c14,c15,c16,c17⟩,c18⟩⟩,rfl⟩
end Go.Proofs.YtmhpcebiamkciaaGreat
end
