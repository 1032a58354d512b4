/-
  Heaps of the reference: slots, references, Alive, Drop. Each law says its conditions.
-/
import Derived.Test.YtmhpcebiamkciaaGreatG4
import Derived.Test.YtmhpcebiamkciaaGreatG3
section
set_option linter.unusedSimpArgs false
set_option linter.unusedVariables false
set_option maxRecDepth 100000
set_option maxHeartbeats 2000000
namespace Go.Proofs.YtmhpcebiamkciaaGreat
open Go.Hp Go.J Go.S
open Go.Mem (Ty KTy blk elemAt pre suf blk_pre blk_suf aget aset strK aggDesc)
open Go.Mem (adel apos aget_aset aget_adel)
section
variable{Z:Zone}{F:List Asr}{H:Heap}{b:Nat}{st:Hst}{L:List Rx}{id:Int}{o o':Hob}{i tp:Nat}{uv rv:Sv}
theorem rfs_n(h8:o.kind≠8):rfs o=o.vals:=if_neg h8
theorem rall_drop{x:Rx}(hy:L[i]?=some x){uv' rv':Sv}(h:Holds Z (rallP L::F) H):Holds Z (rallP (L.set i ⟨none,tp,uv',rv'⟩)::F) H:=by
 have h1:Holds Z (star ((L.eraseIdx i).map roP)::F) H:=(h.star_get hy).re [1] [1];have h2:Holds Z (roP ⟨none,tp,uv',rv'⟩::star ((L.eraseIdx i).map roP)::F) H:=Holds.star_in (L:=[]) h1;have hi:=(List.getElem?_eq_some_iff.1 hy).1;unfold rallP;rw[List.map_set];rw[←erase_map,←del_eq]at h2;have:=Holds.star_push (i:=i) (A:=roP x) (by rw[gt_eq,List.getElem?_map,hy];rfl) h2;rwa [upd_eq]at this
theorem rx_drop{x:Rx}(hL:L.map Rx.o=st.objs)(ho:st.get id=some o)(hx:x.o=none):(L.set (id-1).toNat x).map Rx.o=(hdrop st id).objs:=by
 obtain⟨_,h1,h2,_⟩:=get_mem ho;rcases drop_cases st id with ⟨_,_,hn⟩|⟨_,_,_,e⟩
 .rw [ho]at hn;cases hn
 rw[e,List.map_set,hL,hx];show _=st.objs.set (id.toNat-1) none;rw[show id.toNat-1=(id-1).toNat by omega]
end
theorem ral_no{st:Hst}{id:Int}(h:st.get id=none):halive st id=false:=by unfold halive;rw[h];rfl
theorem ral_yes{st:Hst}{id:Int}{o:Hob}(h:st.get id=some o):halive st id=true:=by unfold halive;rw[h];rfl
theorem ob_nz{st:Hst}(hi:HInv st){id:Int}{o:Hob}(h:st.get id=some o):o.kind≠0:=fun e=>by
 have:=(hi.obs o (get_mem h).1).kind;rw[e]at this;cases this
theorem rhalive_s{Z:Zone}{F:List Asr}{b:Nat}{st:Hst}(hl:st.objs.length≤1000000)(id:Int):SF Tryz.prog 92 #[.pointer (some ⟨b,0,none⟩),iw id] Z (rhA b st::F) fun r Bs=>r=.bool (halive st id)∧Bs=rhA b st::F:=by
 refine sf_enter Tryz.func92 32 [(0,pB b 0),(1,iw id)] (fun w0=>?_);refine k_fact (fun H h=>rh_inv (h.re [0] [])) (fun hi0=>?_);refine k_sr<|sP (.bool false)<|s_nr<|sP (pB b 0)<|sP2 (.bool true)<|sP (iw id)<|sL t_cmp<|sP2 (.bool (decide ((1:Int)≤id)))<|s_fork 11 (decide ((1:Int)≤id)) (fun c1=>?_) (fun c1=>?_)
 .have p2:=dY c1;refine sP (iw id)<|sP3 (pB b 0)<|s_mem3 (fun H h=>rh_open (h.re [0] [])) (fun v3 tv4 L5 hw=>?_)
  obtain⟨hi6,hL7⟩:=hw;have hln8:=rx_len hL7;have htl9:=hi6.tch;refine sL (t_load 0 v3)<|sL (t_len RxT_ok Tryz.underlying139 (.own 1))<|sL t_cmp<|sP2 (.bool (decide (id≤(L5.length:Int))))<|s_fork 20 (decide (id≤(L5.length:Int))) (fun c10=>?_) (fun c10=>?_)
  .have p11:=dY c10;refine sP3 (pB b 0)<|sL (t_load 0 v3)<|sP (iw id)<|sL (t_sub id 1 ol)<|sL (t_index RxT_ok Tryz.underlying139 (.own 1) (id-1) (((id-1)).toNat) om ol om)<|sP (.pointer (some (elemAt RxT.size v3 (((id-1)).toNat)))) ?_
   rcases rx_cases hL7 (by omega:1≤id) om with ⟨tp12,uv13,rv14,hy15,hg16⟩|⟨o17,tp18,uv19,rv20,hy21,hg22⟩
   .refine sL (t_loadF 0 RxT_ok (.own 1) hy15)<|sL (t_cmp (c:=false))<|sP2 (.bool false)<|s_nt<|k_ret<|xs_mem (fun _ h=>rh_shut (st:=st) (n:=(st.count:Int)) (T:=st.tch) ⟨⟨⟨hi6,hL7⟩,rfl⟩,rfl⟩ (h.re [0,0,0,0] [])) ?_
    refine xs_fin [.bool false] (rhA b st::F) (SI.tmp 4 SI.nil) (rr [0] []) ⟨?_,?_⟩
    .rw [ral_no hg16];first|rfl|(exfalso;simp_all;done)|(exfalso;omega)
    rfl
   refine sL (t_loadF 0 RxT_ok (.own 1) hy21)<|sL t_cmp<|sP2 (.bool (decide (o17.kind≠0)))<|s_nt<|k_ret<|xs_mem (fun _ h=>rh_shut (st:=st) (n:=(st.count:Int)) (T:=st.tch) ⟨⟨⟨hi6,hL7⟩,rfl⟩,rfl⟩ (h.re [0,0,0,0] [])) ?_
   refine xs_fin [.bool (decide (o17.kind≠0))] (rhA b st::F) (SI.tmp 4 SI.nil) (rr [0] []) ⟨?_,?_⟩
   .exact cB (by simp[ral_yes hg22,ob_nz hi0 hg22])
   rfl
  have p23:=dF c10;refine sK<|sK<|sK<|sK<|sK<|sK<|sK<|sK<|sK<|sK<|sP2 (.bool false)<|s_nt<|k_ret<|xs_mem (fun _ h=>rh_shut (st:=st) (n:=(st.count:Int)) (T:=st.tch) ⟨⟨⟨hi6,hL7⟩,rfl⟩,rfl⟩ (h.re [0,0,0,0] [])) ?_
  refine xs_fin [.bool false] (rhA b st::F) (SI.tmp 4 SI.nil) (rr [0] []) ⟨?_,?_⟩
  .first|(rw[ral_no (get_low om)];rfl)|(rw[ral_no (get_high om)];rfl)
  rfl
 have p24:=dF c1;refine sK<|sK<|sK<|sK<|sK<|sK<|sK<|sP2 (.bool false)<|sK<|sK<|sK<|sK<|sK<|sK<|sK<|sK<|sK<|sK<|sP2 (.bool false)<|s_nt<|k_ret<|xs_fin [.bool false] (rhA b st::F) (SI.tmp 4 SI.nil) (rr [0] []) ⟨?_,?_⟩
 .first|(rw[ral_no (get_low om)];rfl)|(rw[ral_no (get_high om)];rfl)
 rfl
theorem rhdrop_s{Z:Zone}{F:List Asr}{b:Nat}{st:Hst}(hl:st.objs.length≤1000000)(id:Int):SF Tryz.prog 101 #[.pointer (some ⟨b,0,none⟩),iw id] Z (rhA b st::F) fun r Bs=>r=iw (hdropE st id)∧Bs=rhA b (hdrop st id)::F:=by
 refine sf_enter Tryz.func101 27 [(0,pB b 0),(1,iw id)] (fun w0=>?_);have hcl:st.count≤st.objs.length:=List.countP_le_length;refine k_sr<|sP (iw 0)<|s_nt<|k_seq<|k_sr<|sP (pB b 0)<|sP (.bool false)<|s_nt<|k_false<|k_st<|k_seq<|k_sr<|sP (pB b 0)<|sP (iw id)<|sC [0] (rhalive_s (st:=st) hl id) ?_
 refine sP (.bool (!(halive st id)))<|s_nt<|k_cond (!(halive st id)) (fun c1=>?_) (fun c1=>?_)
 .have c2:=not_t c1;have hal:halive st id=false:=by simpa using c2
  have hal:halive st id=false:=by simpa using c1
  refine k_sr<|sP (iw 19)<|s_nt<|k_ret<|xs_ret<|xs_fin [iw 19] (rhA b st::F) (SI.tmp 4 SI.nil) (rr [0] []) ⟨?_,?_⟩
  .unfold hdropE;rw[hal];rfl
  unfold hdrop;rw[hal];rfl
 have c3:=not_f c1;have hal:halive st id=true:=by simpa using c3
 obtain⟨o4,ho5⟩:=Option.isSome_iff_exists.1 hal;have hgm6:=get_mem ho5;have hal:halive st id=true:=by simpa using c1
 obtain⟨o7,ho8⟩:=Option.isSome_iff_exists.1 hal;have hgm9:=get_mem ho8;refine k_st<|k_sr<|sP3 (pB b 0)<|s_mem3 (fun H h=>rh_open (h.re [0] [])) (fun v10 tv11 L12 hw=>?_)
 obtain⟨hi13,hL14⟩:=hw;have hln15:=rx_len hL14;have htl16:=hi13.tch;refine sL (t_load 0 v10)<|sP (iw id)<|sL (t_sub id 1 ol)<|sL (t_kern (.agg #[iw 0,iw 0,sw eb,.pointer none,iw 0,iw 0,iw 0,sw eb,iw 0,(.slice none 0 0),(.slice none 0 0)]))<|sL (t_index RxT_ok Tryz.underlying139 (.own 1) (id-1) (((id-1)).toNat) om ol om) ?_
 obtain⟨tp17,uv18,rv19,hy20⟩:=rx_get hL14 ho8;refine s_storeE 1 0 (⟨none,0,⟨none,0,0⟩,⟨none,0,0⟩⟩:Rx) RxT_ok hy20 ?_;refine s_mem (fun _ h=>rall_drop (tp:=0) (uv':=⟨none,0,0⟩) (rv':=⟨none,0,0⟩) hy20 (h.re [3] [])) ?_;refine s_nr<|sP3 (pB b 0)<|sP (pB b 1)<|sL (t_load 1 (iw (st.count:Int)))<|sL (t_sub (st.count:Int) 1 ol)<|sP (pB b 0)<|sP (pB b 1)<|s_store 1 #[v10,iw ((st.count:Int)-1),tv11] ?_
 refine s_nr<|sP (iw 0)<|s_nt<|k_ret<|xs_mem (fun _ h=>rh_shut (st:=(hdrop st id)) (n:=((st.count:Int)-1)) (T:=st.tch) ⟨⟨⟨drop_inv hi13 id,rx_drop hL14 ho8 rfl⟩,(by have:=count_drop ho8;omega)⟩,drop_len.2.symm⟩ (h.re [1,1,1,0] [])) ?_
 refine xs_fin [iw 0] (rhA b (hdrop st id)::F) (SI.tmp 4 SI.nil) (rr [0] []) ⟨?_,?_⟩
 .unfold hdropE;rw[hal];rfl
 rfl
end Go.Proofs.YtmhpcebiamkciaaGreat
end
section
set_option linter.unusedSimpArgs false
set_option linter.unusedVariables false
namespace Go.Proofs.YtmhpcebiamkciaaGreat
section
variable{st:Hst}{i:Nat}{o:Hob}{id:Int}
def hidsN(st:Hst)(i:Nat):List Int:=((List.range i).map fun k:Nat=>(k:Int)+1).filter fun id=>halive st id
theorem hidsN_step(st:Hst)(i:Nat):hidsN st (i+1)=if halive st ((i:Int)+1)=true then hidsN st i++[(i:Int)+1] else hidsN st i:=by
 unfold hidsN;rw[List.range_succ,List.map_append,List.filter_append];by_cases h:halive st ((i:Int)+1)=true<;>simp[h]
theorem hidsN_end(h:i=st.objs.length):hidsN st i=hids st:=by subst h;rfl
theorem hidsN_len(st:Hst)(i:Nat):(hidsN st i).length≤i:=by
 unfold hidsN;refine Nat.le_trans (List.length_filter_le _ _) ?_;rw[List.length_map,List.length_range];exact Nat.le_refl _
end
def ridL(l:List Vl):List Int:=(l.filter fun v=>isRef v.kind).map Vl.ref
theorem ridL_step{l:List Vl}{i:Nat}{y:Vl}(h:l[i]?=some y):ridL (l.take (i+1))=if isRef y.kind=true then ridL (l.take i)++[y.ref] else ridL (l.take i):=by
 unfold ridL;rw[List.take_add_one,h];simp only[Option.toList_some,List.filter_append,List.map_append];by_cases hy:isRef y.kind=true<;>simp[hy]
theorem ridL_len(l:List Vl):(ridL l).length≤l.length:=by unfold ridL;rw[List.length_map];exact List.length_filter_le _ _
theorem ridL_app(A B:List Vl):ridL (A++B)=ridL A++ridL B:=by unfold ridL;rw[List.filter_append,List.map_append]
theorem ridL_ids{l:List Vl}(h:∀v∈l,isRef v.kind=true→1≤v.ref):ridL l=(l.map idn).filter fun n=>decide (n≠0):=by
 induction l with
 | nil=>rfl
 | cons v r ih=>
  have ih2:=ih fun x hx=>h x (List.mem_cons_of_mem _ hx)
  unfold ridL at ih2⊢;by_cases hr:isRef v.kind=true
  .have h1:=h v (by simp) hr;have hi:idn v=v.ref:=by unfold idn;rw[if_pos hr]
   rw[List.filter_cons,if_pos hr,List.map_cons,List.map_cons,hi,List.filter_cons_of_pos (by simp;omega),ih2]
  have hi:idn v=0:=by unfold idn;rw[if_neg hr]
  rw[List.filter_cons,if_neg hr,List.map_cons,hi,List.filter_cons_of_neg (by simp),ih2]
end Go.Proofs.YtmhpcebiamkciaaGreat
end
section
set_option linter.unusedSimpArgs false
set_option linter.unusedVariables false
set_option maxRecDepth 100000
set_option maxHeartbeats 2000000
namespace Go.Proofs.YtmhpcebiamkciaaGreat
open Go.Hp Go.J Go.S
open Go.Mem (Ty KTy blk elemAt pre suf blk_pre blk_suf aget aset strK aggDesc)
open Go.Mem (adel apos aget_aset aget_adel)
theorem rident_s{Z:Zone}(v:Vl):SF Tryz.prog 231 #[v.v] Z [] fun r Bs=>r=iw (idn v)∧Bs=[]:=by
 refine sf_enter Tryz.func231 7 [(0,.agg (vc v))] (fun w0=>?_);refine k_sr<|s_box (vc v) (fun g1=>?_)
 refine sP (iw 0)<|s_nt<|k_seq<|k_sr<|sL (t_loadA 0 (vc v))<|sV (fun _ h=>rref_s v)<|s_nt<|k_cond (isRef v.kind) (fun c2=>?_) (fun c2=>?_)
 .refine k_sr<|sP (pB g1 4)<|sL (t_load 0 (iw v.ref))<|sP (iw v.ref)<|s_nt<|k_ret<|xs_ret ?_
  have hp:idn v=v.ref:=by unfold idn;rw[if_pos c2]
  exact xs_fin [iw v.ref] [] (SI.tmp 2 SI.nil) (rr [] [0]) ⟨by rw[hp];rfl,rfl⟩
 refine k_st<|k_sr<|sP (iw 0)<|s_nt<|k_ret ?_
 have hp:idn v=0:=by unfold idn;rw[if_neg (by rw[c2];decide)]
 exact xs_fin [iw 0] [] (SI.tmp 2 SI.nil) (rr [] [0]) ⟨by rw[hp];rfl,rfl⟩
theorem ridents_s{Z:Zone}{F:List Asr}{ov lv:Value}{O:List Int}{l:List Vl}(hO:O.length≤100000)(hl:l.length≤100000):SF Tryz.prog 188 #[ov,lv] Z (own iTy ov O::own VlT lv l::F) fun r Bs=>Bs=own iTy r (O++ridL l)::own VlT lv l::F:=by
 refine sf_enter Tryz.func188 26 [(0,ov),(1,lv)] (fun w0=>?_);refine k_sr<|sP (.slice none 0 0)<|s_nt<|k_seq<|k_sr<|sP (iw 0)<|s_nt<|k_block<|k_mem (Bs:=own iTy ov (O++ridL (l.take 0))::own VlT lv l::F) (fun _ h=>by simpa [ridL]using h) ?_
 refine k_loop (ι:=Value×Nat) (fun (rx,i)=>i≤l.length) (fun (rx,i)=>[(0,rx),(1,lv),(5,iw (i:Int))]) (fun (rx,i)=>own iTy rx (O++ridL (l.take i))::own VlT lv l::F) (fun (rx,i)=>l.length-i) (ov,0) (Nat.zero_le _) sA (rr [0,0] []) ?_;rintro⟨rx,i⟩ hi1;replace hi1:i≤l.length:=hi1;show SK _ _ _ _ _ [(0,rx),(1,lv),(5,iw (i:Int))] _ (own iTy rx (O++ridL (l.take i))::own VlT lv l::F);have hrl:=ridL_len (l.take i);rw[List.length_take]at hrl;refine k_seq<|k_sr<|sP (iw (i:Int))<|sP lv<|sL (t_len VlT_ok Tryz.underlying28 (.own 1))<|sL t_cmp<|s_nt<|k_cond (decide ((i:Int)<(l.length:Int))) (fun c2=>?_) (fun c2=>?_)
 .have p3:=dY c2;refine k_st<|k_seq<|k_block<|k_sr<|sP lv<|sP (iw (i:Int))<|sL (t_index VlT_ok Tryz.underlying28 (.own 1) (i:Int) i om ol om) ?_
  obtain⟨y4,hy5⟩:∃y,l[i]?=some y:=⟨_,List.getElem?_eq_getElem ol⟩;refine sL (t_loadE VlT_ok (.own 1) hy5)<|sV (fun _ h=>rref_s y4)<|s_nt<|k_cond (isRef y4.kind) (fun c6=>?_) (fun c6=>?_)
  .refine k_reg<|sP rx<|sP lv<|sP (iw (i:Int))<|sL (t_index VlT_ok Tryz.underlying28 (.own 1) (i:Int) i om ol om)<|sP (.pointer (some ((elemAt VlT.size lv i).add 4)))<|sL (t_loadF 4 VlT_ok (.own 1) hy5)<|s_buildSlice (e:=3) [(0,iw y4.ref)] #[iw y4.ref] (fun g7=>?_) (hb:=by kernel_rfl)
   refine s_append (L:=(O++ridL (l.take i))) 1 iTy_ok Tryz.underlying23 (.lit 0 iTy_ok [y4.ref]) (by show _*8≤_;(try simp only[lnm]);omega) ol (fun v8=>?_);refine sP v8<|s_nil<|xs_block<|xs_then<|k_reg<|sP (iw (i:Int))<|sL (t_add (i:Int) 1 ol)<|sP (iw ((i:Int)+1))<|s_nil ?_
   have hst:((O++ridL (l.take i))++[y4.ref])=(O++ridL (l.take (i+1))):=by rw[ridL_step hy5,if_pos c6];exact List.append_assoc _ _ _
   refine xs_mem (Bs:=blkA g7 #[iw y4.ref] 3::own iTy v8 (O++ridL (l.take (i+1)))::own VlT lv l::F) (fun _ h=>by rw[hst]at h;exact h) ?_;exact xs_round (v8,i+1) (by show l.length-(i+1)<l.length-i;omega) (by show i+1≤l.length;omega) sA (rr [1,1] [2])
  refine k_skip<|xs_block<|xs_then<|k_reg<|sP (iw (i:Int))<|sL (t_add (i:Int) 1 ol)<|sP (iw ((i:Int)+1))<|s_nil ?_
  have hst:(O++ridL (l.take i))=(O++ridL (l.take (i+1))):=by rw[ridL_step hy5,if_neg (by rw[c6];decide)]
  refine xs_mem (Bs:=own iTy rx (O++ridL (l.take (i+1)))::own VlT lv l::F) (fun _ h=>by rw[hst]at h;exact h) ?_;exact xs_round (rx,i+1) (by show l.length-(i+1)<l.length-i;omega) (by show i+1≤l.length;omega) sA (rr [0,0] [])
 have p9:=dF c2;refine k_exit<|xs_exit<|xs_exit<|xs_here<|xs_then<|k_sr<|sP2 rx<|s_nt<|k_ret ?_
 have hend:ridL (l.take i)=ridL l:=by rw[List.take_of_length_le om]
 rw[hend];exact xs_fin [rx] (own iTy rx (O++ridL l)::own VlT lv l::F) (SI.tmp 4 SI.nil) (rr [0,0] []) rfl
theorem rent_zero{k v:Vl}(hk:validB k=true)(hv:validB v=true):((⟨idn k,idn v⟩:Ent)≠⟨0,0⟩)↔(isRef k.kind=true∨isRef v.kind=true):=by
 have key:∀{x:Vl},validB x=true→(idn x≠0↔isRef x.kind=true):=fun {x} hx=>by
  constructor
  .intro h;cases hr:isRef x.kind with
   | true=>rfl
   | false=>exact absurd (by unfold idn;rw[if_neg (by rw[hr];decide)]) h
  intro h;have:=idn_valid hx h;omega
 rw[←key hk,←key hv];constructor
 .intro h;by_cases h1:idn k=0
  .refine .inr fun h2=>h (by rw[h1,h2])
  exact .inl h1
 intro h e;injection e with e1 e2
 rcases h with h|h
 .exact h e1
 exact h e2
theorem rentries_s{Z:Zone}{F:List Asr}{b:Nat}{L:List Vl}{S:List Slt}(hti:TInv ⟨L,S⟩)(htw:TW ⟨L,S⟩)(hl:L.length≤100000)(hs:S.length≤100000):SF Tryz.prog 189 #[.pointer (some ⟨b,0,none⟩)] Z (rtA b L S::F) fun r Bs=>Bs=own EntT r (entsOf ⟨L,S⟩)::rtA b L S::F:=by
 refine sf_enter Tryz.func189 41 [(0,pB b 0)] (fun w0=>?_);have htl:=tents_len ⟨L,S⟩;refine k_sr<|sP (.slice none 0 0)<|s_nr<|s_buildSlice (e:=167) [] #[] (fun g1=>?_) (hb:=by kernel_rfl)
 refine sP (.slice (some ⟨g1,0,none⟩) 0 0)<|s_nr<|sP (pB b 0)<|sL (t_kern (.agg zc))<|sC [1] (rtnext_s (L:=L) (S:=S) ol ol zVl) ?_
 refine sP (.tuple #[.agg (vc ((tnext ⟨L,S⟩ zVl).1)),.agg (vc ((tnext ⟨L,S⟩ zVl).2.1)),.bool ((tnext ⟨L,S⟩ zVl).2.2.1),iw ((tnext ⟨L,S⟩ zVl).2.2.2)])<|sP (.agg (vc ((tnext ⟨L,S⟩ zVl).1)))<|sP (.agg (vc ((tnext ⟨L,S⟩ zVl).2.1)))<|sP (.bool ((tnext ⟨L,S⟩ zVl).2.2.1))<|sP (iw ((tnext ⟨L,S⟩ zVl).2.2.2))<|s_alloc (.agg zc) zc (fun g2=>?_)
 refine s_alloc (.agg zc) zc (fun g3=>?_);refine s_store 1 (vc ((tnext ⟨L,S⟩ zVl).1)) ?_;refine s_store 0 (vc ((tnext ⟨L,S⟩ zVl).2.1)) ?_;refine sP (.bool ((tnext ⟨L,S⟩ zVl).2.2.1))<|sP (iw ((tnext ⟨L,S⟩ zVl).2.2.2))<|s_nt<|k_seq<|k_block ?_
 rw[next_first];refine k_mem (fun _ h=>Holds.slice 3 h EntT_ok []) ?_;refine k_mem (Bs:=blkA g3 (vc ((hdE (tents ⟨L,S⟩)).2.1)) 71::blkA g2 (vc ((hdE (tents ⟨L,S⟩)).1)) 71::rtA b L S::own EntT (.slice (some ⟨g1,0,none⟩) 0 0) (entL [])::F) (fun _ h=>h) ?_;refine k_loop (ι:=Value×List (Vl×Vl)×List (Vl×Vl)) (fun (lx,dn,rem)=>tents ⟨L,S⟩=dn++rem) (fun (lx,dn,rem)=>[(0,pB b 0),(3,lx),(4,pB g2 0),(5,pB g3 0),(6,.bool ((hdE rem).2.2.1))]) (fun (lx,dn,rem)=>blkA g3 (vc ((hdE rem).2.1)) 71::blkA g2 (vc ((hdE rem).1)) 71::rtA b L S::own EntT lx (entL dn)::F) (fun (lx,dn,rem)=>rem.length) ((.slice (some ⟨g1,0,none⟩) 0 0),[],tents ⟨L,S⟩) rfl sA (rr [0,0,0,0] []) ?_;rintro⟨lx,dn,rem⟩ hi4;replace hi4:tents ⟨L,S⟩=dn++rem:=hi4;show SK _ _ _ _ _ [(0,.pointer (some ⟨b,0,none⟩)),(3,lx),(4,.pointer (some ⟨g2,0,none⟩)),(5,.pointer (some ⟨g3,0,none⟩)),(6,.bool ((hdE rem).2.2.1))] _ (blkA g3 (vc ((hdE rem).2.1)) 71::blkA g2 (vc ((hdE rem).1)) 71::rtA b L S::own EntT lx (entL dn)::F);have hel:=entL_len dn;have hdl:dn.length≤L.length+S.length:=by have h0:=congrArg List.length hi4;rw[List.length_append]at h0;have h1:(⟨L,S⟩:Tb).list.length=L.length:=rfl;have h2:(⟨L,S⟩:Tb).rest.length=S.length:=rfl;omega
 refine k_seq<|k_sr<|sP (.bool ((hdE rem).2.2.1))<|s_nt<|k_cond ((hdE rem).2.2.1) (fun c5=>?_) (fun c5=>?_)
 .obtain ⟨p,tl,hrem⟩:=hd_some c5;refine k_st<|k_block<|k_seq<|k_cut (ι:=Unit) (fun _=>True) (fun _=>[(0,pB b 0),(3,lx),(4,pB g2 0),(5,pB g3 0),(23,.bool ((isRef ((hdE rem).1).kind)||(isRef ((hdE rem).2.1).kind)))]) (fun _=>blkA g3 (vc ((hdE rem).2.1)) 71::blkA g2 (vc ((hdE rem).1)) 71::rtA b L S::own EntT lx (entL dn)::F) ?_ (fun _ _=>?_)
  .refine k_reg<|sL (t_loadA 1 (vc ((hdE rem).1)))<|sV (fun _ h=>rref_s ((hdE rem).1))<|sP (.bool (isRef ((hdE rem).1).kind))<|s_fork 20 (isRef ((hdE rem).1).kind) (fun c6=>?_) (fun c6=>?_)
   .refine sK<|sK<|sP (.bool true)<|s_nil ?_
    exact xs_cut () trivial (sub_of rfl (rQ (rQ (rQ (rQ ⟨⟨rfl,show Value.bool true=Value.bool ((isRef ((hdE rem).1).kind)||(isRef ((hdE rem).2.1).kind)) by first|(simp only[c6,bls];done)|simp[c6]⟩,trivial⟩))))) (rr [0,0,0,0] [])
   refine sL (t_loadA 0 (vc ((hdE rem).2.1)))<|sV (fun _ h=>rref_s ((hdE rem).2.1))<|sP (.bool (isRef ((hdE rem).2.1).kind))<|s_nil ?_
   exact xs_cut () trivial (sub_of rfl (rQ (rQ (rQ (rQ ⟨⟨rfl,show Value.bool (isRef ((hdE rem).2.1).kind)=Value.bool ((isRef ((hdE rem).1).kind)||(isRef ((hdE rem).2.1).kind)) by first|(simp only[c6,bls];done)|simp[c6]⟩,trivial⟩))))) (rr [0,0,0,0] [])
  refine k_cond ((isRef ((hdE rem).1).kind)||(isRef ((hdE rem).2.1).kind)) (fun c7=>?_) (fun c7=>?_)
  .have p8:=c7;simp only[Bool.and_eq_true,Bool.or_eq_true,Bool.and_eq_false_iff,Bool.or_eq_false_iff,Bool.not_eq_true',Bool.not_eq_false',decide_eq_true_eq,decide_eq_false_iff_not]at p8;refine k_held [blkA g3 (vc ((hdE rem).2.1)) 71,blkA g2 (vc ((hdE rem).1)) 71] ?_;refine hp_ 0 [0,0] lx ?_;refine h_l 1 rfl [0,0] (fun _=>(t_loadA 1 (vc ((hdE rem).1)))) ?_;refine h_l 3 rfl [0,0] (fun _=>(t_loadA 0 (vc ((hdE rem).2.1)))) ?_;refine h_stepS 2 ?_;refine sV (fun _ h=>rident_s ((hdE rem).1))<|nH [0,0]<|h_stepS 4 ?_
   refine sV (fun _ h=>rident_s ((hdE rem).2.1))<|nH [0,0]<|h_l 5 rfl [0,0] (fun _=>(t_kern (.agg #[iw (idn ((hdE rem).1)),iw (idn ((hdE rem).2.1))]))) ?_
   refine h_stepS 6 ?_;refine s_buildSlice (e:=167) [(0,.agg #[iw (idn ((hdE rem).1)),iw (idn ((hdE rem).2.1))])] #[iw (idn ((hdE rem).1)),iw (idn ((hdE rem).2.1))] (fun g9=>?_) (hb:=by kernel_rfl);refine nH [1,1]<|h_stepS 7 ?_
   refine s_append (L:=(entL dn)) 4 EntT_ok Tryz.underlying98 (.lit 0 EntT_ok [(⟨(idn ((hdE rem).1)),(idn ((hdE rem).2.1))⟩:Ent)]) (by show _*16≤_;(try simp only[lnm]);omega) ol (fun v10=>?_);refine nH [1,1]<|hp_ 8 [1,1] v10 ?_
   refine h_doneS ?_;refine xs_then<|k_reg<|sP (pB b 0)<|sL (t_loadA 2 (vc ((hdE rem).1)))<|sC [3] (rtnext_s (L:=L) (S:=S) ol ol ((hdE rem).1)) ?_
   refine sP (.tuple #[.agg (vc ((tnext ⟨L,S⟩ ((hdE rem).1)).1)),.agg (vc ((tnext ⟨L,S⟩ ((hdE rem).1)).2.1)),.bool ((tnext ⟨L,S⟩ ((hdE rem).1)).2.2.1),iw ((tnext ⟨L,S⟩ ((hdE rem).1)).2.2.2)])<|sP (.agg (vc ((tnext ⟨L,S⟩ ((hdE rem).1)).1)))<|sP (.agg (vc ((tnext ⟨L,S⟩ ((hdE rem).1)).2.1)))<|sP (.bool ((tnext ⟨L,S⟩ ((hdE rem).1)).2.2.1))<|sP (iw ((tnext ⟨L,S⟩ ((hdE rem).1)).2.2.2))<|s_store 3 (vc ((tnext ⟨L,S⟩ ((hdE rem).1)).1)) ?_
   refine s_store 2 (vc ((tnext ⟨L,S⟩ ((hdE rem).1)).2.1)) ?_;refine sP (.bool ((tnext ⟨L,S⟩ ((hdE rem).1)).2.2.1))<|s_nil<|xs_block ?_
   have hn:tnext ⟨L,S⟩ ((hdE rem).1)=hdE tl:=by rw[hrem];exact next_step hti htw (by show L.length≤_;omega) (pre:=dn) (by rw[hi4,hrem])
   rw[hn];have hva:=tents_valid hti p (by rw[hi4,hrem];simp);have hq1:(hdE rem).1=p.1:=by rw[hrem];rfl
   have hq2:(hdE rem).2.1=p.2:=by rw[hrem];rfl
   have hes:((entL dn)++[(⟨(idn ((hdE rem).1)),(idn ((hdE rem).2.1))⟩:Ent)])=(entL (dn++[p])):=by rw[entL_step,if_pos ((rent_zero hva.1 hva.2).2 (by rw[←hq1,←hq2];simp_all))];rw[hq1,hq2]
   refine xs_mem (Bs:=rtA b L S::blkA g9 #[iw (idn ((hdE rem).1)),iw (idn ((hdE rem).2.1))] 167::blkA g3 (vc ((hdE tl).2.1)) 71::blkA g2 (vc ((hdE tl).1)) 71::own EntT v10 (entL (dn++[p]))::F) (fun _ h=>by rw[hes]at h;exact h) ?_;exact xs_round (v10,dn++[p],tl) (by show tl.length<rem.length;rw[hrem];simp) (by show _=(dn++[p])++tl;rw[hi4,hrem];simp) sA (rr [2,2,0,1] [4])
  obtain⟨c11,c12⟩:=or_f c7;refine k_st<|k_reg<|sP (pB b 0)<|sL (t_loadA 1 (vc ((hdE rem).1)))<|sC [2] (rtnext_s (L:=L) (S:=S) ol ol ((hdE rem).1)) ?_
  refine sP (.tuple #[.agg (vc ((tnext ⟨L,S⟩ ((hdE rem).1)).1)),.agg (vc ((tnext ⟨L,S⟩ ((hdE rem).1)).2.1)),.bool ((tnext ⟨L,S⟩ ((hdE rem).1)).2.2.1),iw ((tnext ⟨L,S⟩ ((hdE rem).1)).2.2.2)])<|sP (.agg (vc ((tnext ⟨L,S⟩ ((hdE rem).1)).1)))<|sP (.agg (vc ((tnext ⟨L,S⟩ ((hdE rem).1)).2.1)))<|sP (.bool ((tnext ⟨L,S⟩ ((hdE rem).1)).2.2.1))<|sP (iw ((tnext ⟨L,S⟩ ((hdE rem).1)).2.2.2))<|s_store 2 (vc ((tnext ⟨L,S⟩ ((hdE rem).1)).1)) ?_
  refine s_store 1 (vc ((tnext ⟨L,S⟩ ((hdE rem).1)).2.1)) ?_;refine sP (.bool ((tnext ⟨L,S⟩ ((hdE rem).1)).2.2.1))<|s_nil<|xs_block ?_
  have hn:tnext ⟨L,S⟩ ((hdE rem).1)=hdE tl:=by rw[hrem];exact next_step hti htw (by show L.length≤_;omega) (pre:=dn) (by rw[hi4,hrem])
  rw[hn];have hva:=tents_valid hti p (by rw[hi4,hrem];simp);have hq1:(hdE rem).1=p.1:=by rw[hrem];rfl
  have hq2:(hdE rem).2.1=p.2:=by rw[hrem];rfl
  have hes:(entL dn)=(entL (dn++[p])):=by rw[entL_step,if_neg (fun hc=>absurd ((rent_zero hva.1 hva.2).1 hc) (by rw[←hq1,←hq2];simp_all))]
  refine xs_mem (Bs:=rtA b L S::blkA g3 (vc ((hdE tl).2.1)) 71::blkA g2 (vc ((hdE tl).1)) 71::own EntT lx (entL (dn++[p]))::F) (fun _ h=>by rw[hes]at h;exact h) ?_;exact xs_round (lx,dn++[p],tl) (by show tl.length<rem.length;rw[hrem];simp) (by show _=(dn++[p])++tl;rw[hi4,hrem];simp) sA (rr [1,1,0,0] [])
 have hrem:=hd_none c5;refine k_exit<|xs_exit<|xs_exit<|xs_here<|xs_then<|k_sr<|sP2 lx<|s_nt<|k_ret ?_
 have hend:entL dn=entsOf ⟨L,S⟩:=by unfold entsOf;rw[hi4,hrem,List.append_nil]
 rw[hend];exact xs_fin [lx] (own EntT lx (entsOf ⟨L,S⟩)::rtA b L S::F) (SI.tmp 2 SI.nil) (rr [3,2] [2,2]) rfl
theorem rsize_s{Z:Zone}{F:List Asr}{o:Hob}{tp:Nat}{uv rv:Sv}(hl:o.tab.list.length≤100000)(hs:o.tab.rest.length≤100000)(hv:o.vals.length≤100000):SF Tryz.prog 187 #[Rx.v ⟨some o,tp,uv,rv⟩] Z (own VlT uv.v (usr o)::own VlT rv.v (rfs o)::rtO tp o::F) fun r Bs=>r=iw (obSize o)∧Bs=own VlT uv.v (usr o)::own VlT rv.v (rfs o)::rtO tp o::F:=by
 refine sf_enter Tryz.func187 23 [(0,.agg #[iw o.kind,iw o.tag,sw o.name,(tabV (0,tp) o),iw o.mt.kind,iw o.mt.p,iw o.mt.q,sw o.mt.str,iw o.mt.ref,uv.v,rv.v])] (fun w0=>?_);have htz:0≤tabSize ⟨o.tab.list,o.tab.rest⟩∧tabSize ⟨o.tab.list,o.tab.rest⟩≤700000:=by unfold tabSize;dsimp only;omega
 have hrf:(rfs o).length≤o.vals.length:=by unfold rfs;split<;>simp
 refine k_sr<|s_box #[iw o.kind,iw o.tag,sw o.name,(tabV (0,tp) o),iw o.mt.kind,iw o.mt.p,iw o.mt.q,sw o.mt.str,iw o.mt.ref,uv.v,rv.v] (fun g1=>?_)
 refine sP (iw 0)<|s_nt<|k_seq<|k_sr<|sP (pB g1 0)<|sL (t_load 0 (iw o.kind))<|s_nt<|k_block<|k_sr<|sL t_cmp<|sP (.bool (decide (o.kind=4)))<|s_nt<|k_cond (decide (o.kind=4)) (fun c2=>?_) (fun c2=>?_)
 .have p3:=dY c2;refine k_sr<|sP (pB g1 3)<|sL (Lt.to (v':=ptrV tp) (t_load 0 (tabV (0,tp) o)) (tabV_tab (dY c2)))<|s_mem (fun _ h=>rtO_open (dY c2) (h.re [3] [])) ?_
  refine sC [0] (rtsize_s (L:=o.tab.list) (S:=o.tab.rest) ol ol) ?_;refine sL (t_add 8 (tabSize ⟨o.tab.list,o.tab.rest⟩) ol)<|sP (iw (8+(tabSize ⟨o.tab.list,o.tab.rest⟩)))<|s_nt<|k_ret<|xs_retBlock<|xs_ret<|xs_mem (fun _ h=>rtO_shut (T:=o.tab) (dY c2) (h.re [0] [])) ?_
  refine xs_mem (Bs:=rtO tp o::blkA g1 #[iw o.kind,iw o.tag,sw o.name,(tabV (0,tp) o),iw o.mt.kind,iw o.mt.p,iw o.mt.q,sw o.mt.str,iw o.mt.ref,uv.v,rv.v] 145::own VlT uv.v (usr o)::own VlT rv.v (rfs o)::F) (fun _ h=>h) ?_;have hp:obSize o=(8+(tabSize ⟨o.tab.list,o.tab.rest⟩)):=by unfold obSize;rw[if_pos (dY c2)]
  exact xs_fin [iw (8+(tabSize ⟨o.tab.list,o.tab.rest⟩))] (own VlT uv.v (usr o)::own VlT rv.v (rfs o)::rtO tp o::F) (SI.tmp 2 SI.nil) (rr [2,2,0] [3]) ⟨by rw[hp];rfl,rfl⟩
 have p4:=dF c2;refine k_sr<|sL t_cmp<|sP (.bool (decide (o.kind=5)))<|s_nt<|k_cond (decide (o.kind=5)) (fun c5=>?_) (fun c5=>?_)
 .have p6:=dY c5;refine k_sr<|sP (pB g1 10)<|sL (t_load 0 rv.v)<|sL (t_len VlT_ok Tryz.underlying28 (.own 2))<|sL (t_add 8 ((rfs o).length:Int) ol)<|sP (iw (8+((rfs o).length:Int)))<|s_nt<|k_ret<|xs_retBlock<|xs_ret ?_
  have hp:obSize o=(8+((rfs o).length:Int)):=by unfold obSize;rw[if_neg (dF c2),if_pos (dY c5)];rw[rfs_n om]
  exact xs_fin [iw (8+((rfs o).length:Int))] (own VlT uv.v (usr o)::own VlT rv.v (rfs o)::rtO tp o::F) (SI.tmp 2 SI.nil) (rr [1,1,1] [3]) ⟨by rw[hp];rfl,rfl⟩
 have p7:=dF c5;refine k_sr<|sL t_cmp<|sP (.bool (decide (o.kind=7)))<|s_nt<|k_cond (decide (o.kind=7)) (fun c8=>?_) (fun c8=>?_)
 .have p9:=dY c8;refine k_sr<|sP (pB g1 10)<|sL (t_load 0 rv.v)<|sL (t_len VlT_ok Tryz.underlying28 (.own 2))<|sL (t_add 16 ((rfs o).length:Int) ol)<|sP (iw (16+((rfs o).length:Int)))<|s_nt<|k_ret<|xs_retBlock<|xs_ret ?_
  have hp:obSize o=(16+((rfs o).length:Int)):=by unfold obSize;rw[if_neg (dF c2),if_neg (dF c5),if_pos (dY c8)];rw[rfs_n om]
  exact xs_fin [iw (16+((rfs o).length:Int))] (own VlT uv.v (usr o)::own VlT rv.v (rfs o)::rtO tp o::F) (SI.tmp 2 SI.nil) (rr [1,1,1] [3]) ⟨by rw[hp];rfl,rfl⟩
 have p10:=dF c8;refine k_skip<|xs_block<|xs_then<|k_sr<|sP (iw 12)<|s_nt<|k_ret ?_
 have hp:obSize o=12:=by unfold obSize;rw[if_neg (dF c2),if_neg (dF c5),if_neg (dF c8)]
 exact xs_fin [iw 12] (own VlT uv.v (usr o)::own VlT rv.v (rfs o)::rtO tp o::F) (SI.tmp 2 SI.nil) (rr [1,1,1] [3]) ⟨by rw[hp];rfl,rfl⟩
theorem rx_at{st:Hst}{L:List Rx}{i:Nat}(hL:L.map Rx.o=st.objs)(h:i<L.length):(∃tp uv rv,L[i]?=some ⟨none,tp,uv,rv⟩∧st.get ((i:Int)+1)=none)∨∃o tp uv rv,L[i]?=some ⟨some o,tp,uv,rv⟩∧st.get ((i:Int)+1)=some o:=by
 have:=rx_cases hL (id:=(i:Int)+1) om om;rwa [show ((i:Int)+1-1).toNat=i by omega]at this
theorem rhids_s{Z:Zone}{F:List Asr}{b:Nat}{st:Hst}{n:Nat}(hsm:HSm n st)(hn:n≤300):SF Tryz.prog 42 #[.pointer (some ⟨b,0,none⟩)] Z (rhA b st::F) fun r Bs=>Bs=own iTy r (hids st)::rhA b st::F:=by
 refine sf_enter Tryz.func42 33 [(0,pB b 0)] (fun w0=>?_);have hlen0:=hsm.len;refine k_sr<|sP (.slice none 0 0)<|s_nr<|s_buildSlice (e:=3) [] #[] (fun g1=>?_) (hb:=by kernel_rfl)
 refine sP (.slice (some ⟨g1,0,none⟩) 0 0)<|s_nt<|k_seq<|k_sr<|sP (pB b 0)<|sP (.bool false)<|s_nt<|k_false<|k_st<|k_seq<|k_sr<|sP (iw 0)<|s_nt<|k_block<|k_mem3 (fun H h=>rh_open (h.re [1] [])) (fun v2 tv3 L4 hw=>?_)
 obtain⟨hi5,hL6⟩:=hw;have hln7:=rx_len hL6;have htl8:=hi5.tch;refine k_mem (fun _ h=>Holds.slice 4 h iTy_ok []) ?_;refine k_mem (Bs:=blkA b #[v2,iw (st.count:Int),tv3] 142::own RxT v2 L4::own bTy tv3 st.tch::rallP L4::own iTy (.slice (some ⟨g1,0,none⟩) 0 0) (hidsN st 0)::F) (fun _ h=>h) ?_;refine k_loop (ι:=Value×Nat) (fun (sx,i)=>i≤st.objs.length) (fun (sx,i)=>[(0,pB b 0),(3,sx),(4,iw (i:Int))]) (fun (sx,i)=>blkA b #[v2,iw (st.count:Int),tv3] 142::own RxT v2 L4::own bTy tv3 st.tch::rallP L4::own iTy sx (hidsN st i)::F) (fun (sx,i)=>st.objs.length-i) ((.slice (some ⟨g1,0,none⟩) 0 0),0) (Nat.zero_le _) sA (rr [0,0,0,0,0] []) ?_;rintro⟨sx,i⟩ hi9;replace hi9:i≤st.objs.length:=hi9;show SK _ _ _ _ _ [(0,.pointer (some ⟨b,0,none⟩)),(3,sx),(4,iw (i:Int))] _ (blkA b #[v2,iw (st.count:Int),tv3] 142::own RxT v2 L4::own bTy tv3 st.tch::rallP L4::own iTy sx (hidsN st i)::F);have hnl:=hidsN_len st i;refine k_seq<|k_sr<|sP (iw (i:Int))<|sP3 (pB b 0)<|sL (t_load 0 v2)<|sL (t_len RxT_ok Tryz.underlying139 (.own 1))<|sL t_cmp<|s_nt<|k_cond (decide ((i:Int)<(L4.length:Int))) (fun c10=>?_) (fun c10=>?_)
 .have p11:=dY c10;refine k_st<|k_seq<|k_block<|k_sr<|sP3 (pB b 0)<|sL (t_load 0 v2)<|sP (iw (i:Int))<|sL (t_index RxT_ok Tryz.underlying139 (.own 1) (i:Int) i om ol om)<|sP (.pointer (some (elemAt RxT.size v2 i))) ?_
  rcases rx_at hL6 (by omega:i<L4.length) with ⟨tp12,uv13,rv14,hy15,hg16⟩|⟨o17,tp18,uv19,rv20,hy21,hg22⟩
  .refine sL (t_loadF 0 RxT_ok (.own 1) hy15)<|sL (t_cmp (c:=false))<|s_nt<|k_false<|k_skip<|xs_block<|xs_then<|k_reg<|sP (iw (i:Int))<|sL (t_add (i:Int) 1 ol)<|sP (iw ((i:Int)+1))<|s_nil ?_
   have hst:(hidsN st i)=(hidsN st (i+1)):=by rw[hidsN_step,if_neg (by rw[ral_no hg16];decide)]
   refine xs_mem (Bs:=blkA b #[v2,iw (st.count:Int),tv3] 142::own RxT v2 L4::own bTy tv3 st.tch::rallP L4::own iTy sx (hidsN st (i+1))::F) (fun _ h=>by rw[hst]at h;exact h) ?_;exact xs_round (sx,i+1) (by show st.objs.length-(i+1)<st.objs.length-i;omega) (by show i+1≤st.objs.length;omega) sA (rr [0,0,0,0,0] [])
  refine sL (t_loadF 0 RxT_ok (.own 1) hy21)<|sL (Lt.to t_cmp (cB (decide_eq_true (ob_nz hi5 hg22):(decide (o17.kind≠0))=true)))<|s_nt<|k_true<|k_reg<|sP sx<|sP (iw (i:Int))<|sL (t_add (i:Int) 1 ol)<|s_buildSlice (e:=3) [(0,iw ((i:Int)+1))] #[iw ((i:Int)+1)] (fun g23=>?_) (hb:=by kernel_rfl)
  refine s_append (L:=(hidsN st i)) 5 iTy_ok Tryz.underlying23 (.lit 0 iTy_ok [((i:Int)+1)]) (by show _*8≤_;(try simp only[lnm]);omega) ol (fun v24=>?_);refine sP v24<|s_nil<|xs_block<|xs_then<|k_reg<|sP (iw (i:Int))<|sL (t_add (i:Int) 1 ol)<|sP (iw ((i:Int)+1))<|s_nil ?_
  have hst:((hidsN st i)++[((i:Int)+1)])=(hidsN st (i+1)):=by rw[hidsN_step,if_pos (ral_yes hg22)]
  refine xs_mem (Bs:=blkA g23 #[iw ((i:Int)+1)] 3::blkA b #[v2,iw (st.count:Int),tv3] 142::own RxT v2 L4::own bTy tv3 st.tch::rallP L4::own iTy v24 (hidsN st (i+1))::F) (fun _ h=>by rw[hst]at h;exact h) ?_;exact xs_round (v24,i+1) (by show st.objs.length-(i+1)<st.objs.length-i;omega) (by show i+1≤st.objs.length;omega) sA (rr [1,1,1,1,1] [5])
 have p25:=dF c10;refine k_exit<|xs_exit<|xs_exit<|xs_here<|xs_then<|k_sr<|sP2 sx<|s_nt<|k_ret<|xs_mem (fun _ h=>rh_shut (st:=st) (n:=(st.count:Int)) (T:=st.tch) ⟨⟨⟨hi5,hL6⟩,rfl⟩,rfl⟩ (h.re [0,0,0,0] [])) ?_
 have hend:hidsN st i=hids st:=hidsN_end om;rw[hend];exact xs_fin [sx] (own iTy sx (hids st)::rhA b st::F) (SI.tmp 2 SI.nil) (rr [1,0] []) rfl
end Go.Proofs.YtmhpcebiamkciaaGreat
end
section
set_option linter.unusedSimpArgs false
set_option linter.unusedVariables false
set_option maxRecDepth 100000
set_option maxHeartbeats 2000000
namespace Go.Proofs.YtmhpcebiamkciaaGreat
open Go.Hp Go.J Go.S
open Go.Mem (Ty KTy blk elemAt pre suf blk_pre blk_suf aget aset strK aggDesc)
open Go.Mem (adel apos aget_aset aget_adel)
theorem rx_one(x:Rx):((Rx.v x).cells.toList.all fun c=>c.oneCell')=true:=List.all_eq_true.2 (RxT_ok.one x)
theorem rrefs_eq{o:Hob}(h:ObW o):(([]++ridL [o.mt])++ridL (usr o))++ridL (rfs o)=refsOf o:=by
 have h1:∀v∈o.mt::o.vals,isRef v.kind=true→1≤v.ref:=fun v hv hr=>by
  rcases List.mem_cons.1 hv with rfl|hv
  .exact h.mt hr
  exact (idn_valid (h.vals v hv) hr).2
 unfold refsOf;rw[←ridL_ids h1,List.nil_append,List.append_assoc,←ridL_app,←ridL_app];congr 1;show o.mt::(usr o++rfs o)=_;congr 1;unfold usr rfs;split<;>simp
theorem rhobject_s{Z:Zone}{F:List Asr}{b:Nat}{st:Hst}{n:Nat}(hsm:HSm n st)(hn:n≤300)(hw:HW st)(id weak:Int):SF Tryz.prog 135 #[.pointer (some ⟨b,0,none⟩),iw id,iw weak] Z (rhA b st::F) fun r Bs=>∃rv ev,r=.tuple #[.agg #[iw (hoId st id),iw (hoSz st id),iw (hoWk st id weak),rv,ev],.bool (halive st id)]∧Bs=own iTy rv (hrefs st id)::own EntT ev (hents st id)::rhA b st::F:=by
 refine sf_enter Tryz.func135 62 [(0,pB b 0),(1,iw id),(2,iw weak)] (fun w0=>?_);have hlen0:=hsm.len;refine k_sr<|s_alloc (.agg #[iw 0,iw 0,iw 0,(.slice none 0 0),(.slice none 0 0)]) #[iw 0,iw 0,iw 0,(.slice none 0 0),(.slice none 0 0)] (fun g1=>?_)
 refine sP (.bool false)<|s_nt<|k_seq<|k_sr<|sP (pB b 0)<|sP (iw id)<|sC [1] (rhalive_s (st:=st) (by have:=hsm.len;omega) id) ?_
 refine sP (.bool (!(halive st id)))<|s_nt<|k_cond (!(halive st id)) (fun c2=>?_) (fun c2=>?_)
 .have c3:=not_t c2;have hal:halive st id=false:=by simpa using c3
  refine k_sr<|sL (t_kern (.agg #[iw 0,iw 0,iw 0,(.slice none 0 0),(.slice none 0 0)]))<|s_store 1 #[iw 0,iw 0,iw 0,(.slice none 0 0),(.slice none 0 0)] ?_
  refine sP (.bool false)<|s_nt<|k_ret<|xs_ret<|xs_mem (fun _ h=>Holds.nilS (T:=EntT) h) ?_
  refine xs_mem (fun _ h=>Holds.nilS (T:=iTy) h) ?_;have hg0:st.get id=none:=by have h0:=hal;unfold halive at h0;cases hg:st.get id with|none=>rfl|some o=>rw[hg]at h0;cases h0
  have hob:=obj_none hg0 weak;exact xs_fin [.agg #[iw 0,iw 0,iw 0,(.slice none 0 0),(.slice none 0 0)],.bool false] (own iTy (.slice none 0 0) []::own EntT (.slice none 0 0) []::rhA b st::F) (SI.agg 6 100 3 (SI.tmp 7 SI.nil)) (rr [0,0,0] [3]) ⟨(.slice none 0 0),(.slice none 0 0),by rw[hob.1,hob.2.1,hob.2.2.1,hob.2.2.2.1];rfl,by rw[hob.2.2.2.2.1,hob.2.2.2.2.2]⟩
 have c4:=not_f c2;have hal:halive st id=true:=by simpa using c4
 obtain⟨o5,ho6⟩:=Option.isSome_iff_exists.1 hal;have hgm7:=get_mem ho6;obtain⟨hb1,hb2,hb3⟩:=ob_bound hsm hn ho6;have hu1:(usr o5).length≤o5.vals.length∧(rfs o5).length≤o5.vals.length:=by unfold usr rfs;split<;>simp
 refine k_st<|k_sr<|sP3 (pB b 0)<|s_mem3 (fun H h=>rh_open (h.re [0] [])) (fun v8 tv9 L10 hw=>?_)
 obtain⟨hi11,hL12⟩:=hw;have hln13:=rx_len hL12;have htl14:=hi11.tch;refine sL (t_load 0 v8)<|sP (iw id)<|sL (t_sub id 1 ol)<|sL (t_index RxT_ok Tryz.underlying139 (.own 1) (id-1) (((id-1)).toNat) om ol om) ?_
 obtain⟨tp15,uv16,rv17,hy18⟩:=rx_get hL12 ho6;refine sL (t_loadE RxT_ok (.own 1) hy18)<|s_alloc (.agg #[iw 0,iw 0,sw eb,.pointer none,iw 0,iw 0,iw 0,sw eb,iw 0,(.slice none 0 0),(.slice none 0 0)]) #[iw 0,iw 0,sw eb,.pointer none,iw 0,iw 0,iw 0,sw eb,iw 0,(.slice none 0 0),(.slice none 0 0)] (fun g19=>?_)
 refine s_store 0 #[iw o5.kind,iw o5.tag,sw o5.name,(tabV (0,tp15) o5),iw o5.mt.kind,iw o5.mt.p,iw o5.mt.q,sw o5.mt.str,iw o5.mt.ref,uv16.v,rv17.v] ?_ (h1:=rx_one (⟨some o5,tp15,uv16,rv17⟩:Rx));refine s_nt<|k_seq<|k_mem (fun _ h=>rall_out hy18 (h.re [4] [])) ?_
 refine k_reg<|sP (iw id)<|sL (t_loadA 4 #[iw o5.kind,iw o5.tag,sw o5.name,(tabV (0,tp15) o5),iw o5.mt.kind,iw o5.mt.p,iw o5.mt.q,sw o5.mt.str,iw o5.mt.ref,uv16.v,rv17.v]) ?_
 obtain⟨hz1,hz2,hz3⟩:=ob_bound hsm hn ho6;refine sC [0,0,0] (rsize_s (o:=o5) (tp:=tp15) (uv:=uv16) (rv:=rv17) om om om) ?_;refine sL (t_kern (.agg #[iw id,iw (obSize o5),iw 0,(.slice none 0 0),(.slice none 0 0)]))<|s_alloc (.agg #[iw 0,iw 0,iw 0,(.slice none 0 0),(.slice none 0 0)]) #[iw 0,iw 0,iw 0,(.slice none 0 0),(.slice none 0 0)] (fun g20=>?_)
 refine s_store 0 #[iw id,iw (obSize o5),iw 0,(.slice none 0 0),(.slice none 0 0)] ?_;refine s_nr<|sP (pB g20 3)<|sL (t_load 0 (.slice none 0 0))<|sP (pB g19 4)<|sL (t_loadA 5 (vc o5.mt))<|s_buildSlice (e:=71) [(0,.agg (vc o5.mt))] (vc o5.mt) (fun g21=>?_) (hb:=by kernel_rfl)
 refine s_mem (fun _ h=>Holds.nilS (T:=iTy) h) ?_;refine s_mem (fun _ h=>Holds.slice 1 h VlT_ok [o5.mt]) ?_;refine s_call [0,0] (ridents_s (O:=[]) (l:=[o5.mt]) ol ol) ?_;rintro v22 _ rfl;have hrd23:(ridL [o5.mt]).length≤1:=ridL_len _;refine sF 0 (fun hf24=>?_);refine sP (pB g20 3)<|s_store (u:=v22) (m:=1) 2 #[iw id,iw (obSize o5),iw 0,v22,(.slice none 0 0)] ?_ (hm:=by (obtain⟨_,_,e⟩:=hf24;rw[e];rfl)) (h1:=by (obtain⟨_,_,e⟩:=hf24;rw[e];rfl)) (ha':=by (obtain⟨_,_,e⟩:=hf24;rw[e];rfl))
 refine s_nr<|sP (pB g20 3)<|sL (t_load 2 v22)<|sP (pB g19 9)<|sL (t_load 7 uv16.v)<|s_call [0,2] (ridents_s (O:=([]++ridL [o5.mt])) (l:=(usr o5)) ol ol) ?_
 rintro v25 _ rfl;have hrd26:=ridL_len (usr o5);refine sF 0 (fun hf27=>?_);refine sP (pB g20 3)<|s_store (u:=v25) (m:=1) 3 #[iw id,iw (obSize o5),iw 0,v25,(.slice none 0 0)] ?_ (hm:=by (obtain⟨_,_,e⟩:=hf27;rw[e];rfl)) (h1:=by (obtain⟨_,_,e⟩:=hf27;rw[e];rfl)) (ha':=by (obtain⟨_,_,e⟩:=hf27;rw[e];rfl))
 refine s_nr<|sP (pB g20 3)<|sL (t_load 3 v25)<|sP (pB g19 10)<|sL (t_load 7 rv17.v)<|s_call [0,3] (ridents_s (O:=(([]++ridL [o5.mt])++ridL (usr o5))) (l:=(rfs o5)) ol ol) ?_
 rintro v28 _ rfl;have hrd29:=ridL_len (rfs o5);refine sF 0 (fun hf30=>?_);refine sP (pB g20 3)<|s_store (u:=v28) (m:=1) 4 #[iw id,iw (obSize o5),iw 0,v28,(.slice none 0 0)] ?_ (hm:=by (obtain⟨_,_,e⟩:=hf30;rw[e];rfl)) (h1:=by (obtain⟨_,_,e⟩:=hf30;rw[e];rfl)) (ha':=by (obtain⟨_,_,e⟩:=hf30;rw[e];rfl))
 refine s_nt<|k_seq<|k_sr<|sP (pB g19 0)<|sL (t_load 7 (iw o5.kind))<|sL t_cmp<|s_nt<|k_cond (decide (o5.kind=4)) (fun c31=>?_) (fun c31=>?_)
 .have p32:=dY c31;refine k_sr<|sP (pB g19 3)<|sL (Lt.to (v':=ptrV tp15) (t_load 7 (tabV (0,tp15) o5)) (tabV_tab (dY c31)))<|s_mem (fun _ h=>rtO_open (dY c31) (h.re [5] [])) ?_
  refine s_call [0] (rentries_s (L:=o5.tab.list) (S:=o5.tab.rest) (hi11.obs o5 (get_mem ho6).1).tab (hw.of ho6).tw ol ol) ?_;rintro v33 _ rfl;refine sF 0 (fun hf34=>?_);refine sP (pB g20 4)<|s_store (u:=v33) (m:=1) 6 #[iw id,iw (obSize o5),iw 0,v28,v33] ?_ (hm:=by (obtain⟨_,_,e⟩:=hf34;rw[e];rfl)) (h1:=by (obtain⟨_,_,e⟩:=hf34;rw[e];rfl)) (ha':=by (obtain⟨_,_,e⟩:=hf34;rw[e];rfl))
  refine s_nt<|k_cut (ι:=Unit) (fun _=>True) (fun _=>[(2,iw weak),(6,pB g1 0),(9,pB g20 0),(58,.bool ((decide ((0:Int)≤weak))&&(decide (weak≤3))))]) (fun _=>own EntT v33 (entsOf ⟨o5.tab.list,o5.tab.rest⟩)::rtA tp15 o5.tab.list o5.tab.rest::own iTy v28 ((([]++ridL [o5.mt])++ridL (usr o5))++ridL (rfs o5))::own VlT rv17.v (rfs o5)::own VlT uv16.v (usr o5)::own VlT (.slice (some ⟨g21,0,none⟩) 1 1) [o5.mt]::blkA g20 #[iw id,iw (obSize o5),iw 0,v28,v33] 100::rallP (L10.eraseIdx ((id-1)).toNat)::blkA g19 #[iw o5.kind,iw o5.tag,sw o5.name,(tabV (0,tp15) o5),iw o5.mt.kind,iw o5.mt.p,iw o5.mt.q,sw o5.mt.str,iw o5.mt.ref,uv16.v,rv17.v] 145::blkA b #[v8,iw (st.count:Int),tv9] 142::own RxT v8 L10::own bTy tv9 st.tch::blkA g1 #[iw 0,iw 0,iw 0,(.slice none 0 0),(.slice none 0 0)] 100::F) ?_ (fun _ _=>?_)
  .refine k_reg<|sP (iw weak)<|sL t_cmp<|sP (.bool (decide ((0:Int)≤weak)))<|s_fork 55 (decide ((0:Int)≤weak)) (fun c35=>?_) (fun c35=>?_)
   .have p36:=dY c35;refine sP (iw weak)<|sL t_cmp<|sP (.bool (decide (weak≤3)))<|s_nil ?_
    exact xs_cut () trivial (sub_of rfl (rQ (rQ (rQ ⟨⟨rfl,show Value.bool (decide (weak≤3))=Value.bool ((decide ((0:Int)≤weak))&&(decide (weak≤3))) by first|(simp only[c35,bls];done)|simp[c35]⟩,trivial⟩)))) (rr [0,0,0,0,0,0,0,0,0,0,0,0,0] [])
   have p37:=dF c35;refine sK<|sK<|sP (.bool false)<|s_nil ?_
   exact xs_cut () trivial (sub_of rfl (rQ (rQ (rQ ⟨⟨rfl,show Value.bool false=Value.bool ((decide ((0:Int)≤weak))&&(decide (weak≤3))) by first|(simp only[c35,bls];done)|simp[c35]⟩,trivial⟩)))) (rr [0,0,0,0,0,0,0,0,0,0,0,0,0] [])
  refine k_cond ((decide ((0:Int)≤weak))&&(decide (weak≤3))) (fun c38=>?_) (fun c38=>?_)
  .obtain ⟨c39,c40⟩:=and_t c38;have p41:=dY c39;have p42:=dY c40;refine k_reg<|sP (iw weak)<|sP (pB g20 2)<|s_store 6 #[iw id,iw (obSize o5),iw weak,v28,v33] ?_
   refine s_nr<|sL (t_loadA 6 #[iw id,iw (obSize o5),iw weak,v28,v33])<|s_store (u:=.agg #[iw id,iw (obSize o5),iw weak,v28,v33]) (m:=5) 12 #[iw id,iw (obSize o5),iw weak,v28,v33] ?_ (hm:=by (obtain⟨_,_,e⟩:=hf30;rw[e];obtain⟨_,_,e⟩:=hf34;rw[e];rfl)) (h1:=by (obtain⟨_,_,e⟩:=hf30;rw[e];obtain⟨_,_,e⟩:=hf34;rw[e];rfl)) (ha':=by (obtain⟨_,_,e⟩:=hf30;rw[e];obtain⟨_,_,e⟩:=hf34;rw[e];rfl))
   refine sP (.bool true)<|s_nt<|k_ret<|xs_mem (fun _ h=>rtO_shut (T:=o5.tab) (dY c31) (h.re [1] [])) ?_
   refine xs_mem (Bs:=rtO tp15 o5::own EntT v33 (entsOf ⟨o5.tab.list,o5.tab.rest⟩)::own iTy v28 ((([]++ridL [o5.mt])++ridL (usr o5))++ridL (rfs o5))::own VlT rv17.v (rfs o5)::own VlT uv16.v (usr o5)::own VlT (.slice (some ⟨g21,0,none⟩) 1 1) [o5.mt]::blkA g20 #[iw id,iw (obSize o5),iw weak,v28,v33] 100::rallP (L10.eraseIdx ((id-1)).toNat)::blkA g19 #[iw o5.kind,iw o5.tag,sw o5.name,(tabV (0,tp15) o5),iw o5.mt.kind,iw o5.mt.p,iw o5.mt.q,sw o5.mt.str,iw o5.mt.ref,uv16.v,rv17.v] 145::blkA b #[v8,iw (st.count:Int),tv9] 142::own RxT v8 L10::own bTy tv9 st.tch::blkA g1 #[iw id,iw (obSize o5),iw weak,v28,v33] 100::F) (fun _ h=>h) ?_;refine xs_mem (fun _ h=>rall_same hy18 (rall_in (o':=o5) (uv':=uv16) (rv':=rv17) hy18 (h.re [4,3,0,4] []))) ?_;refine xs_mem (fun _ h=>rh_shut (st:=st) (n:=(st.count:Int)) (T:=st.tch) ⟨⟨⟨hi11,hL12⟩,rfl⟩,rfl⟩ (h.re [6,6,6,0] [])) ?_;have hob:=obj_some ho6 weak;have hwk:hweak o5 weak=weak:=by unfold hweak;rw[if_pos ⟨dY c31,by grind,by grind⟩]
   have hen:hents st id=(entsOf o5.tab):=by rw[hob.2.2.2.2.2];exact if_pos (dY c31)
   have hre:=rrefs_eq (hw.of ho6);exact xs_fin [.agg #[iw id,iw (obSize o5),iw weak,v28,v33],.bool true] (own iTy v28 ((([]++ridL [o5.mt])++ridL (usr o5))++ridL (rfs o5))::own EntT v33 (entsOf o5.tab)::rhA b st::F) (SI.agg 6 100 6 (SI.tmp 7 SI.nil)) (rr [2,1,0] [3,3,3,3]) ⟨v28,v33,by rw[hob.1,hob.2.1,hob.2.2.1,hob.2.2.2.1,hwk];rfl,by rw[hen,hob.2.2.2.2.1,hre]⟩
  have p43:=c38;simp only[Bool.and_eq_true,Bool.or_eq_true,Bool.and_eq_false_iff,Bool.or_eq_false_iff,Bool.not_eq_true',Bool.not_eq_false',decide_eq_true_eq,decide_eq_false_iff_not]at p43;refine k_st<|k_sr<|sL (t_loadA 6 #[iw id,iw (obSize o5),iw 0,v28,v33])<|s_store (u:=.agg #[iw id,iw (obSize o5),iw 0,v28,v33]) (m:=5) 12 #[iw id,iw (obSize o5),iw 0,v28,v33] ?_ (hm:=by (obtain⟨_,_,e⟩:=hf30;rw[e];obtain⟨_,_,e⟩:=hf34;rw[e];rfl)) (h1:=by (obtain⟨_,_,e⟩:=hf30;rw[e];obtain⟨_,_,e⟩:=hf34;rw[e];rfl)) (ha':=by (obtain⟨_,_,e⟩:=hf30;rw[e];obtain⟨_,_,e⟩:=hf34;rw[e];rfl))
  refine sP (.bool true)<|s_nt<|k_ret<|xs_mem (fun _ h=>rtO_shut (T:=o5.tab) (dY c31) (h.re [1] [])) ?_
  refine xs_mem (Bs:=rtO tp15 o5::own EntT v33 (entsOf ⟨o5.tab.list,o5.tab.rest⟩)::own iTy v28 ((([]++ridL [o5.mt])++ridL (usr o5))++ridL (rfs o5))::own VlT rv17.v (rfs o5)::own VlT uv16.v (usr o5)::own VlT (.slice (some ⟨g21,0,none⟩) 1 1) [o5.mt]::blkA g20 #[iw id,iw (obSize o5),iw 0,v28,v33] 100::rallP (L10.eraseIdx ((id-1)).toNat)::blkA g19 #[iw o5.kind,iw o5.tag,sw o5.name,(tabV (0,tp15) o5),iw o5.mt.kind,iw o5.mt.p,iw o5.mt.q,sw o5.mt.str,iw o5.mt.ref,uv16.v,rv17.v] 145::blkA b #[v8,iw (st.count:Int),tv9] 142::own RxT v8 L10::own bTy tv9 st.tch::blkA g1 #[iw id,iw (obSize o5),iw 0,v28,v33] 100::F) (fun _ h=>h) ?_;refine xs_mem (fun _ h=>rall_same hy18 (rall_in (o':=o5) (uv':=uv16) (rv':=rv17) hy18 (h.re [4,3,0,4] []))) ?_;refine xs_mem (fun _ h=>rh_shut (st:=st) (n:=(st.count:Int)) (T:=st.tch) ⟨⟨⟨hi11,hL12⟩,rfl⟩,rfl⟩ (h.re [6,6,6,0] [])) ?_;have hob:=obj_some ho6 weak;have hwk:hweak o5 weak=0:=by unfold hweak;rw[if_neg];rintro⟨h1,h2,h3⟩;grind
  have hen:hents st id=(entsOf o5.tab):=by rw[hob.2.2.2.2.2];exact if_pos (dY c31)
  have hre:=rrefs_eq (hw.of ho6);exact xs_fin [.agg #[iw id,iw (obSize o5),iw 0,v28,v33],.bool true] (own iTy v28 ((([]++ridL [o5.mt])++ridL (usr o5))++ridL (rfs o5))::own EntT v33 (entsOf o5.tab)::rhA b st::F) (SI.agg 6 100 6 (SI.tmp 7 SI.nil)) (rr [2,1,0] [3,3,3,3]) ⟨v28,v33,by rw[hob.1,hob.2.1,hob.2.2.1,hob.2.2.2.1,hwk];rfl,by rw[hen,hob.2.2.2.2.1,hre]⟩
 have p44:=dF c31;refine k_st<|k_sr<|sL (t_loadA 4 #[iw id,iw (obSize o5),iw 0,v28,(.slice none 0 0)])<|s_store (u:=.agg #[iw id,iw (obSize o5),iw 0,v28,(.slice none 0 0)]) (m:=5) 11 #[iw id,iw (obSize o5),iw 0,v28,(.slice none 0 0)] ?_ (hm:=by (obtain⟨_,_,e⟩:=hf30;rw[e];rfl)) (h1:=by (obtain⟨_,_,e⟩:=hf30;rw[e];rfl)) (ha':=by (obtain⟨_,_,e⟩:=hf30;rw[e];rfl))
 refine sP (.bool true)<|s_nt<|k_ret<|xs_mem (fun _ h=>rall_same hy18 (rall_in (o':=o5) (uv':=uv16) (rv':=rv17) hy18 (h.re [2,1,3,3] []))) ?_
 refine xs_mem (fun _ h=>rh_shut (st:=st) (n:=(st.count:Int)) (T:=st.tch) ⟨⟨⟨hi11,hL12⟩,rfl⟩,rfl⟩ (h.re [5,5,5,0] [])) ?_;refine xs_mem (fun _ h=>Holds.nilS (T:=EntT) h) ?_;have hob:=obj_some ho6 weak;have hwk:hweak o5 weak=0:=by unfold hweak;rw[if_neg];rintro⟨h1,h2,h3⟩;exact absurd h1 (dF c31)
 have hen:hents st id=[]:=by rw[hob.2.2.2.2.2];exact if_neg (dF c31)
 have hre:=rrefs_eq (hw.of ho6);exact xs_fin [.agg #[iw id,iw (obSize o5),iw 0,v28,(.slice none 0 0)],.bool true] (own iTy v28 ((([]++ridL [o5.mt])++ridL (usr o5))++ridL (rfs o5))::own EntT (.slice none 0 0) []::rhA b st::F) (SI.agg 6 100 6 (SI.tmp 7 SI.nil)) (rr [2,0,0] [3,3,3,3]) ⟨v28,(.slice none 0 0),by rw[hob.1,hob.2.1,hob.2.2.1,hob.2.2.2.1,hwk];rfl,by rw[hen,hob.2.2.2.2.1,hre]⟩
end Go.Proofs.YtmhpcebiamkciaaGreat
end
section
set_option linter.unusedSimpArgs false
set_option linter.unusedVariables false
set_option maxRecDepth 100000
set_option maxHeartbeats 2000000
namespace Go.Proofs.YtmhpcebiamkciaaGreat
open Go.Hp Go.J Go.S
open Go.Mem (Ty KTy blk elemAt pre suf blk_pre blk_suf aget aset strK aggDesc)
open Go.Mem (adel apos aget_aset aget_adel)
def rqA(b:Nat)(reg pend:List Int):Asr:=exA fun rv=>exA fun pv=>stA True [blkA b #[rv,pv] 196,own iTy rv reg,own iTy pv pend]
theorem rq_open{b:Nat}{reg pend:List Int}{Z:Zone}{F:List Asr}{H:Heap}(h:Holds Z (rqA b reg pend::F) H):∃rv pv,True∧Holds Z (blkA b #[rv,pv] 196::own iTy rv reg::own iTy pv pend::F) H:=by
 obtain⟨a,h⟩:=h.open_ex;obtain⟨m,h⟩:=h.open_ex;exact⟨a,m,h.open_st⟩
theorem rq_shut{b:Nat}{reg pend:List Int}{Z:Zone}{F:List Asr}{H:Heap}{rv pv:Value}(h:Holds Z (blkA b #[rv,pv] 196::own iTy rv reg::own iTy pv pend::F) H):Holds Z (rqA b reg pend::F) H:=
 Holds.shut_ex rv (Holds.shut_ex pv (Holds.shut_st trivial h))
theorem rqnew_s{Z:Zone}:SF Tryz.prog 85 #[] Z [] fun r Bs=>∃b,r=.pointer (some ⟨b,0,none⟩)∧Bs=[rqA b [] []]:=by
 refine sf_enter Tryz.func85 3 [] (fun w0=>?_);refine k_sr<|sP (.pointer none)<|s_nr<|sL (t_kern (.agg #[(.slice none 0 0),(.slice none 0 0)]))<|s_box #[(.slice none 0 0),(.slice none 0 0)] (fun g1=>?_)
 refine sP (pB g1 0)<|s_nt<|k_ret<|xs_fin [pB g1 0] [rqA g1 [] []] (SI.tmp 0 SI.nil) (fun _ h=>rq_shut (b:=g1) (rv:=.slice none 0 0) (pv:=.slice none 0 0) ((Holds.nilS (T:=iTy) (Holds.nilS (T:=iTy) h)).re [2,0] [])) ⟨g1,rfl,rfl⟩
theorem rin_s{Z:Zone}{lv:Value}{L:List Int}(hL:Kn Z iTy lv L)(n:Int):SF Tryz.prog 156 #[lv,iw n] Z [] fun r Bs=>r=.bool (decide (n∈L))∧Bs=[]:=by
 refine sf_enter Tryz.func156 18 [(0,lv),(1,iw n)] (fun w0=>?_);refine k_fact (fun H h=>(hL.get h).len_le) (fun lA=>?_);refine k_sr<|sP (.bool false)<|s_nt<|k_seq<|k_sr<|sP (iw 0)<|s_nt<|k_block<|k_loop (ι:=Nat) (fun i=>i≤L.length∧n∉L.take i) (fun i=>[(0,lv),(1,iw n),(5,iw (i:Int))]) (fun i=>[]) (fun i=>L.length-i) 0 ⟨Nat.zero_le _,by simp⟩ sA (rr [] []) ?_
 rintro i hi1;show SK _ _ _ _ _ [(0,lv),(1,iw n),(5,iw (i:Int))] _ [];refine k_seq<|k_sr<|sP (iw (i:Int))<|sP lv<|sL (t_len iTy_ok Tryz.underlying23 (.zn hL))<|sL t_cmp<|s_nt<|k_cond (decide ((i:Int)<(L.length:Int))) (fun c2=>?_) (fun c2=>?_)
 .have p3:=dY c2;refine k_st<|k_seq<|k_block<|k_sr<|sP lv<|sP (iw (i:Int))<|sL (t_index iTy_ok Tryz.underlying23 (.zn hL) (i:Int) i om ol om) ?_
  obtain⟨y4,hy5⟩:∃y,L[i]?=some y:=⟨_,List.getElem?_eq_getElem ol⟩;refine sL (t_loadE iTy_ok (.zn hL) hy5)<|sP (iw n)<|sL t_cmp<|s_nt<|k_cond (decide (y4=n)) (fun c6=>?_) (fun c6=>?_)
  .have p7:=dY c6;refine k_sr<|sP (.bool true)<|s_nt<|k_ret<|xs_retBlock<|xs_ret<|xs_ret<|xs_retBlock<|xs_ret<|xs_fin [.bool true] [] (SI.tmp 4 SI.nil) (rr [] []) ⟨cB ?_,rfl⟩
   exact (decide_eq_true (by rw[←p7];exact List.mem_of_getElem? hy5)).symm
  have p8:=dF c6;refine k_skip<|xs_block<|xs_then<|k_reg<|sP (iw (i:Int))<|sL (t_add (i:Int) 1 ol)<|sP (iw ((i:Int)+1))<|s_nil ?_
  exact xs_round (i+1) om (by obtain⟨hi1,hi2⟩:=hi1;refine⟨by omega,?_⟩;rw[←take_snoc hy5,List.mem_append,List.mem_singleton];rintro (h|h);exact hi2 h;exact p8 h.symm) sA (rr [] [])
 have p9:=dF c2;refine k_exit<|xs_exit<|xs_exit<|xs_here<|xs_then<|k_sr<|sP (.bool false)<|s_nt<|k_ret<|xs_fin [.bool false] [] (SI.tmp 4 SI.nil) (rr [] []) ⟨cB ?_,rfl⟩
 exact (decide_eq_false (by have h:=hi1.2;rwa [List.take_of_length_le om]at h)).symm
theorem rqadd_s{Z:Zone}{F:List Asr}{b:Nat}{reg pend:List Int}(id:Int)(hr:reg.length≤90000):SF Tryz.prog 95 #[.pointer (some ⟨b,0,none⟩),iw id] Z (rqA b reg pend::F) fun r Bs=>r=iw (addI reg id)∧Bs=rqA b (addL reg id) pend::F:=by
 refine sf_enter Tryz.func95 25 [(0,pB b 0),(1,iw id)] (fun w0=>?_);refine k_sr<|sP (iw 0)<|s_nt<|k_seq<|k_sr<|sP (pB b 0)<|sP (.bool false)<|s_nt<|k_false<|k_st<|k_seq<|k_sr<|sP (iw id)<|sL t_cmp<|s_nt<|k_cond (decide (id<1)) (fun c1=>?_) (fun c1=>?_)
 .have p2:=dY c1;refine k_sr<|sP (iw 2)<|s_nt<|k_ret<|xs_ret ?_
  have h1:addI reg id=2:=by simp[addI,p2]
  have h2:addL reg id=reg:=by simp[addL,p2]
  refine xs_fin [iw 2] (rqA b reg pend::F) (SI.tmp 4 SI.nil) (rr [0] []) ?_;rw[h1,h2];exact⟨rfl,rfl⟩
 have p3:=dF c1;refine k_st<|k_seq<|k_sr<|sP3 (pB b 0)<|s_mem2 (fun H h=>rq_open (h.re [0] [])) (fun rq4 pq5 hw=>?_)
 refine sL (t_load 0 rq4)<|sP (iw id)<|sV (fun _ h=>rin_s (L:=reg) (Acc.kn (.own 1) h) id)<|s_nt<|k_cond (decide (id∈reg)) (fun c6=>?_) (fun c6=>?_)
 .have p7:=dY c6;refine k_sr<|sP (iw 10)<|s_nt<|k_ret<|xs_ret<|xs_mem (fun _ h=>rq_shut (h.re [0,0,0] [])) ?_
  have h1:addI reg id=10:=by simp[addI,p3,p7]
  have h2:addL reg id=reg:=by simp[addL,p3,p7]
  refine xs_fin [iw 10] (rqA b reg pend::F) (SI.tmp 4 SI.nil) (rr [0] []) ?_;rw[h1,h2];exact⟨rfl,rfl⟩
 have p8:=dF c6;refine k_st<|k_sr<|sP4 (pB b 0)<|sL (t_load 0 rq4)<|sP (iw id)<|s_buildSlice (e:=3) [(0,iw id)] #[iw id] (fun g9=>?_) (hb:=by kernel_rfl)
 refine s_append (L:=reg) 2 iTy_ok Tryz.underlying23 (.lit 0 iTy_ok [id]) (by show _*8≤_;(try simp only[lnm]);omega) ol (fun v10=>?_);refine sF 2 (fun hf11=>?_);refine sP2 (pB b 0)<|s_store (u:=v10) (m:=1) 1 #[v10,pq5] ?_ (hm:=by (obtain⟨_,_,e⟩:=hf11;rw[e];rfl)) (h1:=by (obtain⟨_,_,e⟩:=hf11;rw[e];rfl)) (ha':=by (obtain⟨_,_,e⟩:=hf11;rw[e];rfl))
 refine s_nr<|sP (iw 0)<|s_nt<|k_ret<|xs_mem (fun _ h=>rq_shut (h.re [1,1,1] [])) ?_
 have h1:addI reg id=0:=by simp[addI,p3,p8]
 have h2:addL reg id=(reg++[id]):=by simp[addL,p3,p8]
 refine xs_fin [iw 0] (rqA b (reg++[id]) pend::F) (SI.tmp 4 SI.nil) (rr [0] [1]) ?_;rw[h1,h2];exact⟨rfl,rfl⟩
theorem rpending_s{Z:Zone}{F:List Asr}{b:Nat}{reg pend:List Int}(hl:pend.length≤1000000):SF Tryz.prog 102 #[.pointer (some ⟨b,0,none⟩)] Z (rqA b reg pend::F) fun r Bs=>Bs=own iTy r pend::rqA b reg pend::F:=by
 refine sf_enter Tryz.func102 11 [(0,pB b 0)] (fun w0=>?_);refine k_sr<|sP (.slice none 0 0)<|s_nt<|k_seq<|k_sr<|sP (pB b 0)<|sP (.bool false)<|s_nt<|k_false<|k_st<|k_sr<|s_buildSlice (e:=3) [] #[] (fun g1=>?_) (hb:=by kernel_rfl)
 refine sP2 (pB b 0)<|sP (pB b 1)<|s_mem2 (fun H h=>rq_open (h.re [1] [])) (fun rq2 pq3 hw=>?_)
 refine sL (t_load 0 pq3)<|s_mem (fun _ h=>Holds.slice 3 h iTy_ok []) ?_
 refine s_append (L:=[]) 3 iTy_ok Tryz.underlying23 (.own 2) (by show _*8≤_;(try simp only[lnm]);omega) ol (fun v4=>?_);refine sF 3 (fun hf5=>?_);refine sP v4<|s_nt<|k_ret<|xs_mem (fun _ h=>rq_shut (h.re [0,0,0] [])) ?_
 exact xs_fin [v4] (own iTy v4 pend::rqA b reg pend::F) (SI.tmp 2 SI.nil) (rr [1,0] []) rfl
theorem rregistered_s{Z:Zone}{F:List Asr}{b:Nat}{reg pend:List Int}(hl:reg.length≤1000000):SF Tryz.prog 134 #[.pointer (some ⟨b,0,none⟩)] Z (rqA b reg pend::F) fun r Bs=>Bs=own iTy r reg::rqA b reg pend::F:=by
 refine sf_enter Tryz.func134 11 [(0,pB b 0)] (fun w0=>?_);refine k_sr<|sP (.slice none 0 0)<|s_nt<|k_seq<|k_sr<|sP (pB b 0)<|sP (.bool false)<|s_nt<|k_false<|k_st<|k_sr<|s_buildSlice (e:=3) [] #[] (fun g1=>?_) (hb:=by kernel_rfl)
 refine sP3 (pB b 0)<|s_mem2 (fun H h=>rq_open (h.re [1] [])) (fun rq2 pq3 hw=>?_)
 refine sL (t_load 0 rq2)<|s_mem (fun _ h=>Holds.slice 3 h iTy_ok []) ?_
 refine s_append (L:=[]) 3 iTy_ok Tryz.underlying23 (.own 1) (by show _*8≤_;(try simp only[lnm]);omega) ol (fun v4=>?_);refine sF 3 (fun hf5=>?_);refine sP v4<|s_nt<|k_ret<|xs_mem (fun _ h=>rq_shut (h.re [0,0,0] [])) ?_
 exact xs_fin [v4] (own iTy v4 reg::rqA b reg pend::F) (SI.tmp 2 SI.nil) (rr [1,0] []) rfl
abbrev Mk.v(x:Mk):Value:=.agg #[iw x.id,iw x.color]
def MkT:Ty Mk:=⟨200,2,16,true,Mk.v,⟨0,0⟩⟩
theorem MkT_ok:MkT.Ok Tryz.prog:=ok_of MkT _ Tryz.t200 (by decide) (fun _=>rfl) (fun x u hu=>by simp[Ty.enc,MkT,Value.cells]at hu;rcases hu with rfl|rfl<;>rfl) (fun _=>rfl) Tryz.underlying200 rfl (fun h=>by cases h) (by kernel_rfl) (by kernel_rfl) (by kernel_rfl) (by kernel_rfl)
def mkA(cv:Value)(c:Int→Int):Asr:=exA fun C=>stA (MkC C c) [own MkT cv C]
def rcA(p hb rq:Nat)(ph:Int)(c:Int→Int)(Q L Fr G P:List Int):Asr:=exA fun cv=>exA fun gv=>exA fun sv=>exA fun fv=>exA fun c'=>stA (ph=0∨c'=c) [blkA p #[.pointer (some ⟨hb,0,none⟩),.pointer (some ⟨rq,0,none⟩),iw ph,cv,gv,sv,fv] 134,rqA rq G P,mkA cv c',ownO iTy gv Q,ownO iTy sv L,ownO iTy fv Fr]
section
variable{Z:Zone}{F:List Asr}{H:Heap}{p rq hb:Nat}{ph:Int}{c c':Int→Int}{Q L Fr G P:List Int}{C:List Mk}{cv:Value}
theorem mk_open(h:Holds Z (mkA cv c::F) H):∃C,MkC C c∧Holds Z (own MkT cv C::F) H:=by
 obtain⟨C,h⟩:=h.open_ex;exact⟨C,h.open_st⟩
theorem mk_shut(hc:MkC C c)(h:Holds Z (own MkT cv C::F) H):Holds Z (mkA cv c::F) H:=Holds.shut_ex C (Holds.shut_st hc h)
theorem rc_open(h:Holds Z (rcA p hb rq ph c Q L Fr G P::F) H):∃cv gv sv fv c',(ph=0∨c'=c)∧Holds Z (blkA p #[.pointer (some ⟨hb,0,none⟩),.pointer (some ⟨rq,0,none⟩),iw ph,cv,gv,sv,fv] 134::rqA rq G P::mkA cv c'::ownO iTy gv Q::ownO iTy sv L::ownO iTy fv Fr::F) H:=by
 obtain⟨cv,h⟩:=h.open_ex;obtain⟨gv,h⟩:=h.open_ex;obtain⟨sv,h⟩:=h.open_ex;obtain⟨fv,h⟩:=h.open_ex;obtain⟨c',h⟩:=h.open_ex;exact⟨cv,gv,sv,fv,c',h.open_st⟩
theorem rc_open1(hp:ph≠0)(h:Holds Z (rcA p hb rq ph c Q L Fr G P::F) H):∃cv gv sv fv,True∧Holds Z (blkA p #[.pointer (some ⟨hb,0,none⟩),.pointer (some ⟨rq,0,none⟩),iw ph,cv,gv,sv,fv] 134::rqA rq G P::mkA cv c::ownO iTy gv Q::ownO iTy sv L::ownO iTy fv Fr::F) H:=by
 obtain⟨cv,gv,sv,fv,c',hc,h2⟩:=rc_open h;have e:=hc.resolve_left hp;rw[e]at h2;exact⟨cv,gv,sv,fv,trivial,h2⟩
theorem rc_shut{gv sv fv:Value}(hc:ph=0∨c'=c)(h:Holds Z (blkA p #[.pointer (some ⟨hb,0,none⟩),.pointer (some ⟨rq,0,none⟩),iw ph,cv,gv,sv,fv] 134::rqA rq G P::mkA cv c'::ownO iTy gv Q::ownO iTy sv L::ownO iTy fv Fr::F) H):Holds Z (rcA p hb rq ph c Q L Fr G P::F) H:=
 Holds.shut_ex cv (Holds.shut_ex gv (Holds.shut_ex sv (Holds.shut_ex fv (Holds.shut_ex c' (Holds.shut_st hc h)))))
end
abbrev rcS(p hb rq:Nat)(s:Cst):Asr:=rcA p hb rq s.ph s.col s.Q s.L s.Fr s.G s.P
theorem rplace_s{Z:Zone}{F:List Asr}{p:Nat}{x0 x1 x2 cv x4 x5 x6:Value}{C:List Mk}(hS:MkS C)(hl:C.length≤1000)(id:Int):SF Tryz.prog 155 #[.pointer (some ⟨p,0,none⟩),iw id] Z (blkA p #[x0,x1,x2,cv,x4,x5,x6] 134::own MkT cv C::F) fun r Bs=>∃k:Nat,r=iw (k:Int)∧PlI C id k∧Bs=blkA p #[x0,x1,x2,cv,x4,x5,x6] 134::own MkT cv C::F:=by
 refine sf_enter Tryz.func155 34 [(0,pB p 0),(1,iw id)] (fun w0=>?_);refine k_sr<|sP (iw 0)<|s_nt<|k_seq<|k_draw<|sP2 (pB p 0)<|sP (pB p 3)<|sL (t_load 0 cv)<|sF 1 (fun hf1=>?_)
 refine sL (t_len MkT_ok Tryz.underlying132 (.own 1))<|sP (iw 0)<|sP (iw (C.length:Int))<|s_nil<|x_dynS (fun _ h=>by obtain⟨_,_,e⟩:=hf1;subst e;kernel_rfl) ?_
 refine xs_then<|k_seq<|k_block<|k_loop (ι:=Nat×Nat) (fun (lo,hi)=>PlB C id lo hi) (fun (lo,hi)=>[(0,pB p 0),(1,iw id),(5,iw (lo:Int)),(6,iw (hi:Int))]) (fun (lo,hi)=>blkA p #[x0,x1,x2,cv,x4,x5,x6] 134::own MkT cv C::F) (fun (lo,hi)=>hi-lo) (0,C.length) (PlB.start C id) sA (rr [0,0] []) ?_
 rintro⟨lo,hi⟩ hi2;replace hi2:PlB C id lo hi:=hi2;show SK _ _ _ _ _ [(0,.pointer (some ⟨p,0,none⟩)),(1,iw id),(5,iw (lo:Int)),(6,iw (hi:Int))] _ (blkA p #[x0,x1,x2,cv,x4,x5,x6] 134::own MkT cv C::F);have h1:=hi2.lh;have h2:=hi2.le;refine k_seq<|k_sr<|sP (iw (lo:Int))<|sP (iw (hi:Int))<|sL t_cmp<|s_nt<|k_cond (decide ((lo:Int)<(hi:Int))) (fun c3=>?_) (fun c3=>?_)
 .have p4:=dY c3;refine k_st<|k_block<|k_sr<|sP (iw (lo:Int))<|sP (iw (hi:Int))<|sL (t_add (lo:Int) (hi:Int) ol) ?_
  obtain⟨md5,hmd6⟩:∃m:Nat,m=(lo+hi) / 2:=⟨_,rfl⟩;refine sL (Lt.to (v':=iw (md5:Int)) (t_quo ((lo:Int)+(hi:Int)) 2 (by decide) (by rw[half];omega)) (by rw[half,←hmd6]))<|sP (iw (md5:Int))<|s_nr<|sP2 (pB p 0)<|sP (pB p 3)<|sL (t_load 0 cv)<|sP (iw (md5:Int))<|sL (t_index MkT_ok Tryz.underlying132 (.own 1) (md5:Int) md5 om ol om)<|sP (.pointer (some (elemAt MkT.size cv md5))) ?_
  obtain⟨y7,hy8⟩:∃y,C[md5]?=some y:=⟨_,List.getElem?_eq_getElem ol⟩;refine sL (t_loadF 0 MkT_ok (.own 1) hy8)<|sP (iw id)<|sL t_cmp<|s_nt<|k_cond (decide (y7.id<id)) (fun c9=>?_) (fun c9=>?_)
  .have p10:=dY c9;refine k_reg<|sP (iw (md5:Int))<|sL (t_add (md5:Int) 1 ol)<|sP (iw ((md5:Int)+1))<|s_nil<|xs_block ?_
   exact xs_round (md5+1,hi) (by show hi-(md5+1)<hi-lo;omega) (hi2.up hS om om hy8 p10) sA (rr [0,0] [])
  have p11:=dF c9;refine k_reg<|sP2 (iw (md5:Int))<|s_nil<|xs_block ?_
  exact xs_round (lo,md5) (by show md5-lo<hi-lo;omega) (hi2.down hS om om hy8 p11) sA (rr [0,0] [])
 have p12:=dF c3;refine k_exit<|xs_exit<|xs_exit<|xs_here<|xs_then<|k_sr<|sP2 (iw (lo:Int))<|s_nt<|k_ret ?_
 exact xs_fin [iw (lo:Int)] (blkA p #[x0,x1,x2,cv,x4,x5,x6] 134::own MkT cv C::F) (SI.tmp 4 SI.nil) (rr [0,0] []) ⟨lo,rfl,hi2.fin om,rfl⟩
theorem rcolor_s{Z:Zone}{F:List Asr}{p hb rq:Nat}{ph:Int}{c:Int→Int}{Q L Fr G P:List Int}(hph:ph≠0)(id:Int):SF Tryz.prog 93 #[.pointer (some ⟨p,0,none⟩),iw id] Z (rcA p hb rq ph c Q L Fr G P::F) fun r Bs=>r=iw (c id)∧Bs=rcA p hb rq ph c Q L Fr G P::F:=by
 refine sf_enter Tryz.func93 36 [(0,pB p 0),(1,iw id)] (fun w0=>?_);refine k_mem4 (fun H h=>rc_open1 hph (h.re [0] [])) (fun cv1 gv2 sv3 fv4 hw=>?_);refine k_memX (fun H h=>mk_open (h.re [2] [])) (fun C5 hC6=>?_);have hCl:=hC6.len;refine k_sr<|sP (iw 0)<|s_nr<|sP (pB p 0)<|sP (iw id)<|s_call [1,0] (rplace_s hC6.srt hC6.len id) ?_
 rintro _ _ ⟨k7,rfl,hp8,rfl⟩;have hkl:=hp8.le;refine sP (iw (k7:Int))<|s_nt<|k_seq<|k_sr<|sP (iw (k7:Int))<|sP2 (pB p 0)<|sP (pB p 3)<|sL (t_load 0 cv1)<|sL (t_len MkT_ok Tryz.underlying132 (.own 1))<|sL t_cmp<|sP (.bool (decide ((k7:Int)<(C5.length:Int))))<|s_fork 16 (decide ((k7:Int)<(C5.length:Int))) (fun c9=>?_) (fun c9=>?_)
 .have p10:=dY c9;refine sP2 (pB p 0)<|sP (pB p 3)<|sL (t_load 0 cv1)<|sP (iw (k7:Int))<|sL (t_index MkT_ok Tryz.underlying132 (.own 1) (k7:Int) k7 om ol om)<|sP (.pointer (some (elemAt MkT.size cv1 k7))) ?_
  obtain⟨y11,hy12⟩:∃y,C5[k7]?=some y:=⟨_,List.getElem?_eq_getElem ol⟩;refine sL (t_loadF 0 MkT_ok (.own 1) hy12)<|sP (iw id)<|sL t_cmp<|sP (.bool (decide (y11.id=id)))<|s_nt<|k_cond (decide (y11.id=id)) (fun c13=>?_) (fun c13=>?_)
  .have p14:=dY c13;refine k_sr<|sP2 (pB p 0)<|sP (pB p 3)<|sL (t_load 0 cv1)<|sP (iw (k7:Int))<|sL (t_index MkT_ok Tryz.underlying132 (.own 1) (k7:Int) k7 om ol om)<|sP (.pointer (some ((elemAt MkT.size cv1 k7).add 1)))<|sL (t_loadF 1 MkT_ok (.own 1) hy12)<|sP (iw y11.color)<|s_nt<|k_ret<|xs_ret<|xs_mem (fun _ h=>mk_shut (c:=c) hC6 (h.re [1] [])) ?_
   refine xs_mem (fun _ h=>rc_shut (c:=c) (.inr rfl) (h.re [1,1,0,0,0,0] [])) ?_;refine xs_fin [iw y11.color] (rcA p hb rq ph c Q L Fr G P::F) (SI.tmp 4 SI.nil) (rr [0] []) ⟨cI ?_,rfl⟩;exact (pl_hit hC6 hy12 p14).symm
  have p15:=dF c13;refine k_st<|k_sr<|sP (iw 0)<|s_nt<|k_ret<|xs_mem (fun _ h=>mk_shut (c:=c) hC6 (h.re [1] [])) ?_
  refine xs_mem (fun _ h=>rc_shut (c:=c) (.inr rfl) (h.re [1,1,0,0,0,0] [])) ?_;refine xs_fin [iw 0] (rcA p hb rq ph c Q L Fr G P::F) (SI.tmp 4 SI.nil) (rr [0] []) ⟨cI ?_,rfl⟩;exact (pl_miss hC6 hp8 (fun m hm=>by rw[hy12]at hm;cases hm;exact p15)).symm
 have p16:=dF c9;refine sK<|sK<|sK<|sK<|sK<|sK<|sK<|sK<|sK<|sK<|sP (.bool false)<|s_nt<|k_false<|k_st<|k_sr<|sP (iw 0)<|s_nt<|k_ret<|xs_mem (fun _ h=>mk_shut (c:=c) hC6 (h.re [1] [])) ?_
 refine xs_mem (fun _ h=>rc_shut (c:=c) (.inr rfl) (h.re [1,1,0,0,0,0] [])) ?_;refine xs_fin [iw 0] (rcA p hb rq ph c Q L Fr G P::F) (SI.tmp 4 SI.nil) (rr [0] []) ⟨cI ?_,rfl⟩;exact (pl_miss hC6 hp8 (fun m hm=>by rw[List.getElem?_eq_none om]at hm;cases hm)).symm
theorem rpaint_s{Z:Zone}{F:List Asr}{p hb rq:Nat}{ph:Int}{c:Int→Int}{Q L Fr G P:List Int}(id v:Int)(hr:1≤id∧id≤1000):SF Tryz.prog 153 #[.pointer (some ⟨p,0,none⟩),iw id,iw v] Z (rcA p hb rq ph c Q L Fr G P::F) fun r Bs=>r=.tuple #[]∧Bs=rcA p hb rq ph (cset c id v) Q L Fr G P::F:=by
 refine sf_enter Tryz.func153 63 [(0,pB p 0),(1,iw id),(2,iw v)] (fun w0=>?_);refine k_mem5 (fun H h=>rc_open (h.re [0] [])) (fun cv1 gv2 sv3 fv4 cl5 hw=>?_);have hc6:=hw;refine k_memX (fun H h=>mk_open (h.re [2] [])) (fun C7 hC8=>?_);have hCl:=hC8.len;refine k_sr<|sP (pB p 0)<|sP (iw id)<|s_call [1,0] (rplace_s hC8.srt hC8.len id) ?_
 rintro _ _ ⟨k9,rfl,hp10,rfl⟩;have hkl:=hp10.le;refine sP (iw (k9:Int))<|s_nt<|k_seq<|k_sr<|sP (iw (k9:Int))<|sP2 (pB p 0)<|sP (pB p 3)<|sL (t_load 0 cv1)<|sL (t_len MkT_ok Tryz.underlying132 (.own 1))<|sL t_cmp<|sP (.bool (decide ((k9:Int)<(C7.length:Int))))<|s_fork 18 (decide ((k9:Int)<(C7.length:Int))) (fun c11=>?_) (fun c11=>?_)
 .have p12:=dY c11;refine sP2 (pB p 0)<|sP (pB p 3)<|sL (t_load 0 cv1)<|sP (iw (k9:Int))<|sL (t_index MkT_ok Tryz.underlying132 (.own 1) (k9:Int) k9 om ol om)<|sP (.pointer (some (elemAt MkT.size cv1 k9))) ?_
  obtain⟨y13,hy14⟩:∃y,C7[k9]?=some y:=⟨_,List.getElem?_eq_getElem ol⟩;refine sL (t_loadF 0 MkT_ok (.own 1) hy14)<|sP (iw id)<|sL t_cmp<|sP (.bool (decide (y13.id=id)))<|s_nt<|k_cond (decide (y13.id=id)) (fun c15=>?_) (fun c15=>?_)
  .have p16:=dY c15;refine k_sr<|sP2 (pB p 0)<|sP (pB p 3)<|sL (t_load 0 cv1)<|sP (iw (k9:Int))<|sP (iw v)<|sL (t_index MkT_ok Tryz.underlying132 (.own 1) (k9:Int) k9 om ol om)<|sP (.pointer (some ((elemAt MkT.size cv1 k9).add 1)))<|s_storeE 1 1 (⟨y13.id,v⟩:Mk) MkT_ok hy14 ?_
   refine s_nt<|k_ret<|xs_ret<|xs_mem (fun _ h=>mk_shut (c:=(cset cl5 id v)) (pl_set hC8 hy14 p16 v) (h.re [1] [])) ?_
   refine xs_mem (fun _ h=>rc_shut (c:=(cset c id v)) (hc6.imp (fun h=>h) (fun e=>congrArg (fun cl5=>(cset cl5 id v)) e)) (h.re [1,1,0,0,0,0] [])) ?_;exact xs_fin [] (rcA p hb rq ph (cset c id v) Q L Fr G P::F) SI.nil (rr [0] []) ⟨rfl,rfl⟩
  have p17:=dF c15;refine k_st<|k_sr<|s_buildSlice (e:=200) [] #[] (fun g18=>?_) (hb:=by kernel_rfl)
  refine sP2 (pB p 0)<|sP (pB p 3)<|sL (t_load 1 cv1)<|sP (iw (k9:Int))<|sL (t_pre MkT_ok Tryz.underlying132 (.own 2) (k9:Int) k9 om ol om)<|s_mem (fun _ h=>Holds.slice 0 h MkT_ok []) ?_
  refine s_append (L:=[]) 0 MkT_ok Tryz.underlying132 (Acc.pre (.own 2) MkT_ok k9 ol) (by show _*16≤_;(try simp only[lnm]);omega) ol (fun v19=>?_);refine sF 0 (fun hf20=>?_);refine sP v19<|s_nr<|sP v19<|sP (iw id)<|sP (iw v)<|sL (t_kern (.agg #[iw id,iw v]))<|s_buildSlice (e:=200) [(0,.agg #[iw id,iw v])] #[iw id,iw v] (fun g21=>?_) (hb:=by kernel_rfl)
  refine s_append (L:=([]++(C7.take k9))) 1 MkT_ok Tryz.underlying132 (.lit 0 MkT_ok [(⟨id,v⟩:Mk)]) (by show _*16≤_;(try simp only[lnm]);omega) ol (fun v22=>?_);refine sF 1 (fun hf23=>?_);refine sP v22<|s_nt<|k_reg<|sP (pB p 0)<|sP v22<|sP2 (pB p 0)<|sP (pB p 3)<|sL (t_load 2 cv1)<|sP (iw (k9:Int))<|sL (t_suf MkT_ok Tryz.underlying132 (.own 3) (k9:Int) k9 om ol om)<|s_append (L:=(([]++(C7.take k9))++[(⟨id,v⟩:Mk)])) 1 MkT_ok Tryz.underlying132 (Acc.suf (v:=cv1) (L:=C7) (.own 3) MkT_ok k9 ol) (by show _*16≤_;(try simp only[lnm]);omega) ol (fun v24=>?_)
  refine sF 1 (fun hf25=>?_);refine sP (pB p 0)<|sP (pB p 3)<|s_store (u:=v24) (m:=1) 2 #[pB hb 0,pB rq 0,iw ph,v24,gv2,sv3,fv4] ?_ (hm:=by (obtain⟨_,_,e⟩:=hf25;rw[e];rfl)) (h1:=by (obtain⟨_,_,e⟩:=hf25;rw[e];rfl)) (ha':=by (obtain⟨_,_,e⟩:=hf25;rw[e];rfl))
  refine s_nil<|xs_mem (fun _ h=>mk_shut (c:=(cset cl5 id v)) (pl_ins hr hC8 hp10 (fun m hm=>by rw[hy14]at hm;cases hm;exact p17) v) (h.re [1] [])) ?_
  refine xs_mem (fun _ h=>rc_shut (c:=(cset c id v)) (hc6.imp (fun h=>h) (fun e=>congrArg (fun cl5=>(cset cl5 id v)) e)) (h.re [2,3,0,2,2,2] [])) ?_;exact xs_finN [] (rcA p hb rq ph (cset c id v) Q L Fr G P::F) SI.nil (rr [0] [1,1]) ⟨rfl,rfl⟩
 have p26:=dF c11;refine sK<|sK<|sK<|sK<|sK<|sK<|sK<|sK<|sK<|sK<|sP (.bool false)<|s_nt<|k_false<|k_st<|k_sr<|s_buildSlice (e:=200) [] #[] (fun g27=>?_) (hb:=by kernel_rfl)
 refine sP2 (pB p 0)<|sP (pB p 3)<|sL (t_load 1 cv1)<|sP (iw (k9:Int))<|sL (t_pre MkT_ok Tryz.underlying132 (.own 2) (k9:Int) k9 om ol om)<|s_mem (fun _ h=>Holds.slice 0 h MkT_ok []) ?_
 refine s_append (L:=[]) 0 MkT_ok Tryz.underlying132 (Acc.pre (.own 2) MkT_ok k9 ol) (by show _*16≤_;(try simp only[lnm]);omega) ol (fun v28=>?_);refine sF 0 (fun hf29=>?_);refine sP v28<|s_nr<|sP v28<|sP (iw id)<|sP (iw v)<|sL (t_kern (.agg #[iw id,iw v]))<|s_buildSlice (e:=200) [(0,.agg #[iw id,iw v])] #[iw id,iw v] (fun g30=>?_) (hb:=by kernel_rfl)
 refine s_append (L:=([]++(C7.take k9))) 1 MkT_ok Tryz.underlying132 (.lit 0 MkT_ok [(⟨id,v⟩:Mk)]) (by show _*16≤_;(try simp only[lnm]);omega) ol (fun v31=>?_);refine sF 1 (fun hf32=>?_);refine sP v31<|s_nt<|k_reg<|sP (pB p 0)<|sP v31<|sP2 (pB p 0)<|sP (pB p 3)<|sL (t_load 2 cv1)<|sP (iw (k9:Int))<|sL (t_suf MkT_ok Tryz.underlying132 (.own 3) (k9:Int) k9 om ol om)<|s_append (L:=(([]++(C7.take k9))++[(⟨id,v⟩:Mk)])) 1 MkT_ok Tryz.underlying132 (Acc.suf (v:=cv1) (L:=C7) (.own 3) MkT_ok k9 ol) (by show _*16≤_;(try simp only[lnm]);omega) ol (fun v33=>?_)
 refine sF 1 (fun hf34=>?_);refine sP (pB p 0)<|sP (pB p 3)<|s_store (u:=v33) (m:=1) 2 #[pB hb 0,pB rq 0,iw ph,v33,gv2,sv3,fv4] ?_ (hm:=by (obtain⟨_,_,e⟩:=hf34;rw[e];rfl)) (h1:=by (obtain⟨_,_,e⟩:=hf34;rw[e];rfl)) (ha':=by (obtain⟨_,_,e⟩:=hf34;rw[e];rfl))
 refine s_nil<|xs_mem (fun _ h=>mk_shut (c:=(cset cl5 id v)) (pl_ins hr hC8 hp10 (fun m hm=>by rw[List.getElem?_eq_none om]at hm;cases hm) v) (h.re [1] [])) ?_
 refine xs_mem (fun _ h=>rc_shut (c:=(cset c id v)) (hc6.imp (fun h=>h) (fun e=>congrArg (fun cl5=>(cset cl5 id v)) e)) (h.re [2,3,0,2,2,2] [])) ?_;exact xs_finN [] (rcA p hb rq ph (cset c id v) Q L Fr G P::F) SI.nil (rr [0] [1,1]) ⟨rfl,rfl⟩
theorem live_rng{st:Hst}{id:Int}(hl:st.objs.length≤1000)(h:halive st id=true):1≤id∧id≤1000:=by
 obtain⟨o,ho⟩:=halive_iff.1 h;obtain⟨_,h2,h3,_⟩:=get_mem ho;omega
theorem rcreach_s{Z:Zone}{F:List Asr}{p hb rq:Nat}{c:Int→Int}{Q L Fr G P:List Int}{st:Hst}(hQ:Q.length≤1000000)(hl:st.objs.length≤1000)(id:Int):SF Tryz.prog 96 #[.pointer (some ⟨p,0,none⟩),iw id] Z (rcA p hb rq 1 c Q L Fr G P::rhA hb st::F) fun r Bs=>r=.tuple #[]∧Bs=rcA p hb rq 1 (rchM st c id) (rchQ st c Q id) L Fr G P::rhA hb st::F:=by
 refine sf_enter Tryz.func96 29 [(0,pB p 0),(1,iw id)] (fun w0=>?_);refine k_sr<|sP3 (pB p 0)<|s_mem4 (fun H h=>rc_open1 (show (1:Int)≠0 by decide) (h.re [0] [])) (fun cv1 gv2 sv3 fv4 hw=>?_)
 refine sL (t_load 0 (pB hb 0))<|sP (iw id)<|sC [6] (rhalive_s (st:=st) om id) ?_
 refine sP (.bool (halive st id))<|s_fork 10 (halive st id) (fun c5=>?_) (fun c5=>?_)
 .refine sP (pB p 0)<|sP (iw id)<|s_mem (fun _ h=>rc_shut (c:=c) (.inr rfl) (h.re [1,1,1,1,1,1] [])) ?_
  refine sC [0] (rcolor_s (ph:=1) (show (1:Int)≠0 by decide) id) ?_;refine sL t_cmp<|sP (.bool (decide ((c id)=0)))<|s_nt<|k_cond (decide ((c id)=0)) (fun c6=>?_) (fun c6=>?_)
  .have p7:=dY c6;refine k_sr<|sP (pB p 0)<|sP (iw id)<|sC [0] (rpaint_s id 1 (live_rng hl c5)) ?_
   refine s_nt<|k_reg<|sP3 (pB p 0)<|sP (pB p 4)<|s_mem4 (fun H h=>rc_open1 (show (1:Int)≠0 by decide) (h.re [0] [])) (fun cv8 gv9 sv10 fv11 hw=>?_)
   refine sL (t_load 0 gv9)<|sP (iw id)<|s_buildSlice (e:=3) [(0,iw id)] #[iw id] (fun g12=>?_) (hb:=by kernel_rfl)
   refine s_appendO (L:=Q) 4 iTy_ok Tryz.underlying23 (.lit 0 iTy_ok [id]) (by show _*8≤_;(try simp only[lnm]);omega) ol (fun v13=>?_);refine s_fact (fun H h=>((Acc.ownO (T:=iTy) (L:=(Q++[id])) 4 rfl) H h).form) (fun hf14=>?_);refine sP (pB p 0)<|sP (pB p 4)<|s_store (u:=v13) (m:=1) 1 #[pB hb 0,pB rq 0,iw 1,cv8,v13,sv10,fv11] ?_ (hm:=by (obtain⟨_,_,e⟩:=hf14;rw[e];rfl)) (h1:=by (obtain⟨_,_,e⟩:=hf14;rw[e];rfl)) (ha':=by (obtain⟨_,_,e⟩:=hf14;rw[e];rfl))
   refine s_nil<|xs_mem (fun _ h=>rc_shut (c:=(cset c id 1)) (.inr rfl) (h.re [1,1,1,1,1,1] [])) ?_
   refine xs_finN [] (rcA p hb rq 1 (cset c id 1) (Q++[id]) L Fr G P::rhA hb st::F) SI.nil (rr [0,1] [2]) ⟨rfl,?_⟩;unfold rchM rchQ;rw[if_pos ⟨c5,dY c6⟩,if_pos ⟨c5,dY c6⟩]
  have p15:=dF c6;refine k_skip<|xs_finN [] (rcA p hb rq 1 c Q L Fr G P::rhA hb st::F) SI.nil (rr [0,0] []) ⟨rfl,?_⟩
  unfold rchM rchQ;rw[if_neg (fun e=>dF c6 e.2),if_neg (fun e=>dF c6 e.2)]
 refine sK<|sK<|sK<|sK<|sP (.bool false)<|s_nt<|k_false<|k_skip<|xs_mem (fun _ h=>rc_shut (c:=c) (.inr rfl) (h.re [1,1,1,1,1,1] [])) ?_
 refine xs_finN [] (rcA p hb rq 1 c Q L Fr G P::rhA hb st::F) SI.nil (rr [0,0] []) ⟨rfl,?_⟩;unfold rchM rchQ;rw[if_neg (fun e=>by rw[c5]at e;exact absurd e.1 (by decide)),if_neg (fun e=>by rw[c5]at e;exact absurd e.1 (by decide))]
theorem rstart_s{Z:Zone}{F:List Asr}{p hb rq:Nat}{c:Int→Int}{Q L Fr G P:List Int}{st:Hst}{rv:Value}{R:List Int}(hR:R.length≤10000)(hG:G.length+P.length≤10000)(hQ:Q.length≤100000)(hl:st.objs.length≤1000):SF Tryz.prog 86 #[.pointer (some ⟨p,0,none⟩),rv] Z (own iTy rv R::rcA p hb rq 1 c Q L Fr G P::rhA hb st::F) fun r Bs=>r=.tuple #[]∧Bs=own iTy rv R::rcA p hb rq 1 ((rchA st (c,Q) (R++(G++P))).1) ((rchA st (c,Q) (R++(G++P))).2) L Fr G P::rhA hb st::F:=by
 refine sf_enter Tryz.func86 42 [(0,pB p 0),(1,rv)] (fun w0=>?_);refine k_seq<|k_sr<|sP (iw 0)<|s_nt<|k_block<|k_mem (Bs:=own iTy rv R::rcA p hb rq 1 ((rchA st (c,Q) (R.take 0)).1) ((rchA st (c,Q) (R.take 0)).2) L Fr G P::rhA hb st::F) (fun _ h=>h) ?_
 refine k_loop (ι:=Nat) (fun i=>i≤R.length) (fun i=>[(0,pB p 0),(1,rv),(4,iw (i:Int))]) (fun i=>own iTy rv R::rcA p hb rq 1 ((rchA st (c,Q) (R.take i)).1) ((rchA st (c,Q) (R.take i)).2) L Fr G P::rhA hb st::F) (fun i=>R.length-i) 0 (Nat.zero_le _) sA (rr [0,0,0] []) ?_;rintro i hi1;show SK _ _ _ _ _ [(0,.pointer (some ⟨p,0,none⟩)),(1,rv),(4,iw (i:Int))] _ (own iTy rv R::rcA p hb rq 1 ((rchA st (c,Q) (R.take i)).1) ((rchA st (c,Q) (R.take i)).2) L Fr G P::rhA hb st::F);have hql:=rchA_len st (R.take i) (c,Q);rw[List.length_take]at hql;dsimp only at hql;refine k_seq<|k_sr<|sP (iw (i:Int))<|sP rv<|sL (t_len iTy_ok Tryz.underlying23 (.own 0))<|sL t_cmp<|s_nt<|k_cond (decide ((i:Int)<(R.length:Int))) (fun c2=>?_) (fun c2=>?_)
 .have p3:=dY c2;refine k_st<|k_seq<|k_block<|k_reg<|sP (pB p 0)<|sP rv<|sP (iw (i:Int))<|sL (t_index iTy_ok Tryz.underlying23 (.own 0) (i:Int) i om ol om) ?_
  obtain⟨y4,hy5⟩:∃y,R[i]?=some y:=⟨_,List.getElem?_eq_getElem ol⟩;refine sL (t_loadE iTy_ok (.own 0) hy5)<|sC [1,1] (rcreach_s (st:=st) (Q:=(rchA st (c,Q) (R.take i)).2) om om y4) ?_
  refine s_nil<|xs_block<|xs_then<|k_reg<|sP (iw (i:Int))<|sL (t_add (i:Int) 1 ol)<|sP (iw ((i:Int)+1))<|s_nil<|xs_mem (Bs:=rcA p hb rq 1 ((rchA st (c,Q) (R.take (i+1))).1) ((rchA st (c,Q) (R.take (i+1))).2) L Fr G P::rhA hb st::own iTy rv R::F) (fun _ h=>by rw[rchA_take hy5];exact h) ?_
  exact xs_round (i+1) (by show R.length-(i+1)<R.length-i;omega) om sA (rr [2,0,0] [])
 have p6:=dF c2;refine k_exit ?_;obtain rfl:i=R.length:=by omega
 rw[List.take_length];refine xs_exit<|xs_exit<|xs_here<|xs_then<|k_seq<|k_mem4 (fun H h=>rc_open1 (show (1:Int)≠0 by decide) (h.re [1] [])) (fun cv7 gv8 sv9 fv10 hw=>?_)
 refine k_held [blkA p #[pB hb 0,pB rq 0,iw 1,cv7,gv8,sv9,fv10] 134,own iTy rv R] ?_;refine hp_ 0 [0,5] (pB p 0) ?_;refine hp_ 1 [0,5] (pB p 0) ?_;refine hp_ 2 [0,5] (pB p 1) ?_;refine h_l 3 rfl [0,5] (fun _=>(t_load 0 (pB rq 0))) ?_;refine hp_ 5 [0,5] (pB p 0) ?_;refine hp_ 6 [0,5] (pB p 0) ?_;refine hp_ 7 [0,5] (pB p 1) ?_;refine h_l 8 rfl [0,5] (fun _=>(t_load 0 (pB rq 0))) ?_;refine h_stepS 4 ?_;refine s_call [1] (rregistered_s (reg:=G) ol) ?_;rintro v11 _ rfl;refine sF 0 (fun hf12=>?_);refine nH [2,6]<|h_stepS 9 ?_
 refine s_call [1] (rpending_s (pend:=P) ol) ?_;rintro v13 _ rfl;refine sF 0 (fun hf14=>?_);refine nH [3,7]<|h_stepS 10 ?_
 refine s_append (L:=G) 2 iTy_ok Tryz.underlying23 (.own 0) (by show _*8≤_;(try simp only[lnm]);omega) ol (fun v15=>?_);refine sF 2 (fun hf16=>?_);refine nH [3,7]<|hp_ 11 [3,7] v15 ?_
 refine h_doneS ?_;refine xs_then<|k_sr<|sP (iw 0)<|s_nt<|k_block<|k_mem (fun _ h=>rc_shut (c:=(rchA st (c,Q) R).1) (.inr rfl) (h.re [3,1,2,2,2,2] [])) ?_
 have hq0:=rchA_len st R (c,Q);dsimp only at hq0;have hgl:(G++P).length=G.length+P.length:=List.length_append;refine k_mem (Bs:=rcA p hb rq 1 ((rchA st (rchA st (c,Q) R) ((G++P).take 0)).1) ((rchA st (rchA st (c,Q) R) ((G++P).take 0)).2) L Fr G P::own iTy v13 P::own iTy v15 (G++P)::own iTy rv R::rhA hb st::F) (fun _ h=>h) ?_;refine k_loop (ι:=Nat) (fun j=>j≤(G++P).length) (fun j=>[(0,pB p 0),(5,v15),(6,iw (j:Int))]) (fun j=>rcA p hb rq 1 ((rchA st (rchA st (c,Q) R) ((G++P).take j)).1) ((rchA st (rchA st (c,Q) R) ((G++P).take j)).2) L Fr G P::own iTy v13 P::own iTy v15 (G++P)::own iTy rv R::rhA hb st::F) (fun j=>(G++P).length-j) 0 (Nat.zero_le _) sA (rr [0,0,0,0,0] []) ?_;rintro j hi17;show SK _ _ _ _ _ [(0,.pointer (some ⟨p,0,none⟩)),(5,v15),(6,iw (j:Int))] _ (rcA p hb rq 1 ((rchA st (rchA st (c,Q) R) ((G++P).take j)).1) ((rchA st (rchA st (c,Q) R) ((G++P).take j)).2) L Fr G P::own iTy v13 P::own iTy v15 (G++P)::own iTy rv R::rhA hb st::F);have hql:=rchA_len st ((G++P).take j) (rchA st (c,Q) R);rw[List.length_take]at hql;refine k_seq<|k_sr<|sP (iw (j:Int))<|sP v15<|sL (t_len iTy_ok Tryz.underlying23 (.own 2))<|sL t_cmp<|s_nt<|k_cond (decide ((j:Int)<((G++P).length:Int))) (fun c18=>?_) (fun c18=>?_)
 .have p19:=dY c18;refine k_st<|k_seq<|k_block<|k_reg<|sP (pB p 0)<|sP v15<|sP (iw (j:Int))<|sL (t_index iTy_ok Tryz.underlying23 (.own 2) (j:Int) j om ol om) ?_
  obtain⟨y20,hy21⟩:∃y,(G++P)[j]?=some y:=⟨_,List.getElem?_eq_getElem ol⟩;refine sL (t_loadE iTy_ok (.own 2) hy21)<|sC [0,3] (rcreach_s (st:=st) (Q:=(rchA st (rchA st (c,Q) R) ((G++P).take j)).2) om om y20) ?_
  refine s_nil<|xs_block<|xs_then<|k_reg<|sP (iw (j:Int))<|sL (t_add (j:Int) 1 ol)<|sP (iw ((j:Int)+1))<|s_nil<|xs_mem (Bs:=rcA p hb rq 1 ((rchA st (rchA st (c,Q) R) ((G++P).take (j+1))).1) ((rchA st (rchA st (c,Q) R) ((G++P).take (j+1))).2) L Fr G P::rhA hb st::own iTy v13 P::own iTy v15 (G++P)::own iTy rv R::F) (fun _ h=>by rw[rchA_take hy21];exact h) ?_
  exact xs_round (j+1) (by show (G++P).length-(j+1)<(G++P).length-j;omega) om sA (rr [0,1,1,1,0] [])
 have p22:=dF c18;refine k_exit ?_;obtain rfl:j=(G++P).length:=by omega
 rw[List.take_length];refine xs_exit<|xs_exit<|xs_here ?_
 have happ:rchA st (c,Q) (R++(G++P))=rchA st (rchA st (c,Q) R) (G++P):=by unfold rchA;rw[List.foldl_append]
 rw[happ];exact xs_finN [] (own iTy rv R::rcA p hb rq 1 ((rchA st (rchA st (c,Q) R) (G++P)).1) ((rchA st (rchA st (c,Q) R) (G++P)).2) L Fr G P::rhA hb st::F) SI.nil (rr [3,0,2] [3,3]) ⟨rfl,rfl⟩
theorem rcrefs_s{Z:Zone}{F:List Asr}{p hb rq:Nat}{ph:Int}{c:Int→Int}{Q L Fr G P:List Int}{st:Hst}{x:Int}{n:Nat}(hsm:HSm n st)(hn:n≤300)(hW:HW st):SF Tryz.prog 152 #[.pointer (some ⟨p,0,none⟩),iw x] Z (rcA p hb rq ph c Q L Fr G P::rhA hb st::F) fun r Bs=>Bs=own iTy r (crf st x)::rcA p hb rq ph c Q L Fr G P::rhA hb st::F:=by
 refine sf_enter Tryz.func152 18 [(0,pB p 0),(1,iw x)] (fun w0=>?_);refine k_sr<|sP (.slice none 0 0)<|s_nr<|sP3 (pB p 0)<|s_mem5 (fun H h=>rc_open (h.re [0] [])) (fun cv1 gv2 sv3 fv4 cl5 hw=>?_)
 have hc6:=hw;refine sL (t_load 0 (pB hb 0))<|sP (iw x)<|s_call [6] (rhobject_s (st:=st) hsm om hW x 0) ?_
 rintro _ _ ⟨rv7,ev8,rfl,rfl⟩;refine sF 0 (fun hf9=>?_);refine sF 1 (fun hf10=>?_);refine sP (.tuple #[.agg #[iw (hoId st x),iw (hoSz st x),iw (hoWk st x 0),rv7,ev8],.bool (halive st x)])<|sP (.agg #[iw (hoId st x),iw (hoSz st x),iw (hoWk st x 0),rv7,ev8])<|sP (.bool (halive st x))<|s_alloc (.agg #[iw 0,iw 0,iw 0,(.slice none 0 0),(.slice none 0 0)]) #[iw 0,iw 0,iw 0,(.slice none 0 0),(.slice none 0 0)] (fun g11=>?_)
 refine s_store (u:=.agg #[iw (hoId st x),iw (hoSz st x),iw (hoWk st x 0),rv7,ev8]) (m:=5) 0 #[iw (hoId st x),iw (hoSz st x),iw (hoWk st x 0),rv7,ev8] ?_ (hm:=by (obtain⟨_,_,e⟩:=hf9;rw[e];obtain⟨_,_,e⟩:=hf10;rw[e];rfl)) (h1:=by (obtain⟨_,_,e⟩:=hf9;rw[e];obtain⟨_,_,e⟩:=hf10;rw[e];rfl)) (ha':=by (obtain⟨_,_,e⟩:=hf9;rw[e];obtain⟨_,_,e⟩:=hf10;rw[e];rfl));refine sP (.bool (halive st x))<|s_nr<|sL (t_loadA 0 #[iw (hoId st x),iw (hoSz st x),iw (hoWk st x 0),rv7,ev8]) ?_
 obtain⟨pp12,cc13,e⟩:=hf9;subst e;obtain⟨pp14,cc15,e⟩:=hf10;subst e;obtain⟨hrl,hel,hcl⟩:=crf_bound hsm hn x;refine s_pcall (fun _ h=>rrefs_s (x:=(⟨(hoId st x),(hoSz st x),(hoWk st x 0),⟨pp12,(hrefs st x).length,cc13⟩,⟨pp14,(hents st x).length,cc15⟩,(hrefs st x),(hents st x)⟩:Ob)) ⟨Acc.kn (T:=iTy) (.own 1) h,Acc.kn (T:=EntT) (.own 2) h⟩ (by show ((hrefs st x)).length≤_;omega) (by show ((hents st x)).length≤_;omega)) ?_;rintro v16 _ rfl;refine s_mem (Bs:=own iTy v16 (crf st x)::blkA g11 #[iw (hoId st x),iw (hoSz st x),iw (hoWk st x 0),(.slice pp12 (hrefs st x).length cc13),(.slice pp14 (hents st x).length cc15)] 100::own iTy (.slice pp12 (hrefs st x).length cc13) (hrefs st x)::own EntT (.slice pp14 (hents st x).length cc15) (hents st x)::rhA hb st::blkA p #[pB hb 0,pB rq 0,iw ph,cv1,gv2,sv3,fv4] 134::rqA rq G P::mkA cv1 cl5::ownO iTy gv2 Q::ownO iTy sv3 L::ownO iTy fv4 Fr::F) (fun _ h=>h) ?_;refine sF 0 (fun hf17=>?_);refine sP v16<|s_nt<|k_ret<|xs_mem (fun _ h=>rc_shut (c:=c) hc6 (h.re [5,5,5,5,5,5] [])) ?_
 exact xs_fin [v16] (own iTy v16 (crf st x)::rcA p hb rq ph c Q L Fr G P::rhA hb st::F) (SI.tmp 4 SI.nil) (rr [1,0,3] [3,3,3]) rfl
end Go.Proofs.YtmhpcebiamkciaaGreat
end
section
set_option linter.unusedSimpArgs false
set_option linter.unusedVariables false
set_option maxRecDepth 100000
set_option maxHeartbeats 2000000
namespace Go.Proofs.YtmhpcebiamkciaaGreat
open Go.Hp Go.J Go.S
open Go.Mem (Ty KTy blk elemAt pre suf blk_pre blk_suf aget aset strK aggDesc)
open Go.Mem (adel apos aget_aset aget_adel)
theorem rsettle_s{Z:Zone}{F:List Asr}{p hb rq N:Nat}{st:Hst}{s:Cst}{rv:Value}{R:List Int}(hci:CI N st s)(hN:N≤300)(hR:R.length≤9000):SF Tryz.prog 87 #[.pointer (some ⟨p,0,none⟩),rv] Z (own iTy rv R::rcS p hb rq s::rhA hb st::F) fun r Bs=>r=.tuple #[]∧Bs=own iTy rv R::rcS p hb rq (setl st R s)::rhA hb st::F:=by
 refine sf_enter Tryz.func87 37 [(0,pB p 0),(1,rv)] (fun w0=>?_);refine k_sr<|sP2 (pB p 0)<|sP (pB p 2)<|s_mem5 (fun H h=>rc_open (h.re [1] [])) (fun cv1 gv2 sv3 fv4 cl5 hw=>?_)
 have hc6:=hw;refine sL (t_load 0 (iw s.ph))<|sL t_cmp<|sP (.bool (decide (s.ph=1)))<|s_fork 9 (decide (s.ph=1)) (fun c7=>?_) (fun c7=>?_)
 .have p8:=dY c7;obtain rfl:=hc6.resolve_left om;refine sP2 (pB p 0)<|sP (pB p 4)<|sL (t_load 0 gv2)<|sL (t_len iTy_ok Tryz.underlying23 (.ownO 3))<|sL t_cmp<|sP (.bool (decide ((s.Q.length:Int)=0)))<|s_nt<|k_cond (decide ((s.Q.length:Int)=0)) (fun c9=>?_) (fun c9=>?_)
  .have p10:=dY c9;refine k_sr<|sP (pB p 0)<|sP rv<|s_mem (fun _ h=>rc_shut (c:=s.col) (.inr rfl) (h.re [0,0,0,0,0,0] [])) ?_
   refine s_mem (Bs:=rcA p hb rq 1 s.col s.Q s.L s.Fr s.G s.P::own iTy rv R::rhA hb st::F) (fun _ h=>by rw[show s.ph=1 by omega]at h;exact h) ?_;refine sC [1,0,0] (rstart_s (st:=st) (R:=R) (Q:=s.Q) (c:=s.col) (G:=s.G) (P:=s.P) om (by have:=hci.gp;omega) (by have:=hci.ql;omega) (by have:=hci.sm.len;omega)) ?_;refine s_nr<|sP2 (pB p 0)<|sP (pB p 4)<|s_mem4 (fun H h=>rc_open1 (show (1:Int)≠0 by decide) (h.re [1] [])) (fun cv11 gv12 sv13 fv14 hw=>?_)
   refine sL (t_load 0 gv12)<|sL (t_len iTy_ok Tryz.underlying23 (.ownO 3))<|sL t_cmp<|s_nt<|k_cond (decide ((((rchA st (s.col,s.Q) (R++(s.G++s.P))).2).length:Int)=0)) (fun c15=>?_) (fun c15=>?_)
   .have p16:=dY c15;refine k_sr<|sP2 (pB p 0)<|sP (pB p 2)<|s_store 0 #[pB hb 0,pB rq 0,iw 2,cv11,gv12,sv13,fv14] ?_
    refine s_nt<|k_reg<|sP4 (pB p 0)<|sL (t_load 0 (pB hb 0))<|s_call [7] (rhids_s (st:=st) hci.sm hN) ?_
    rintro v17 _ rfl;refine sF 0 (fun hf18=>?_);refine sP (pB p 0)<|sP (pB p 5)<|s_store (u:=v17) (m:=1) 2 #[pB hb 0,pB rq 0,iw 2,cv11,gv12,v17,fv14] ?_ (hm:=by (obtain⟨_,_,e⟩:=hf18;rw[e];rfl)) (h1:=by (obtain⟨_,_,e⟩:=hf18;rw[e];rfl)) (ha':=by (obtain⟨_,_,e⟩:=hf18;rw[e];rfl))
    refine s_nil<|xs_mem (fun _ h=>Holds.toO (h.re [0] [])) ?_
    refine xs_mem (fun _ h=>rc_shut (c:=(rchA st (s.col,s.Q) (R++(s.G++s.P))).1) (.inr rfl) (h.re [2,2,2,2,0,2] [])) ?_;have hst:rcS p hb rq (setl st R s)=rcA p hb rq 2 ((rchA st (s.col,s.Q) (R++(s.G++s.P))).1) ((rchA st (s.col,s.Q) (R++(s.G++s.P))).2) (hids st) s.Fr s.G s.P:=by unfold setl;first|(simp[rcS,Cst.rts,c7,c9,c15,p8,p10,p16];done)|(simp_all[rcS,Cst.rts];done)
    exact xs_finN [] (own iTy rv R::rcS p hb rq (setl st R s)::rhA hb st::F) SI.nil (fun _ h=>by rw[hst];exact h.re [3,0,0] [3]) ⟨rfl,rfl⟩
   have p19:=dF c15;refine k_skip<|xs_mem (fun _ h=>rc_shut (c:=(rchA st (s.col,s.Q) (R++(s.G++s.P))).1) (.inr rfl) (h.re [0,0,0,0,0,0] [])) ?_
   have hst:rcS p hb rq (setl st R s)=rcA p hb rq 1 ((rchA st (s.col,s.Q) (R++(s.G++s.P))).1) ((rchA st (s.col,s.Q) (R++(s.G++s.P))).2) s.L s.Fr s.G s.P:=by unfold setl;first|(simp[rcS,Cst.rts,c7,c9,c15,p8,p10,p19];done)|(simp_all[rcS,Cst.rts];done)
   exact xs_finN [] (own iTy rv R::rcS p hb rq (setl st R s)::rhA hb st::F) SI.nil (fun _ h=>by rw[hst];exact h.re [1,0,0] []) ⟨rfl,rfl⟩
  have p20:=dF c9;refine k_skip<|xs_mem (fun _ h=>rc_shut (c:=s.col) (.inr rfl) (h.re [0,0,0,0,0,0] [])) ?_
  have hst:rcS p hb rq (setl st R s)=rcA p hb rq s.ph s.col s.Q s.L s.Fr s.G s.P:=by unfold setl;first|(simp[rcS,Cst.rts,c7,c9,p8,p20];done)|(simp_all[rcS,Cst.rts];done)
  exact xs_finN [] (own iTy rv R::rcS p hb rq (setl st R s)::rhA hb st::F) SI.nil (fun _ h=>by rw[hst];exact h.re [1,0,0] []) ⟨rfl,rfl⟩
 have p21:=dF c7;refine sK<|sK<|sK<|sK<|sK<|sK<|sP (.bool false)<|s_nt<|k_false<|k_skip<|xs_mem (fun _ h=>rc_shut (c:=s.col) hc6 (h.re [0,0,0,0,0,0] [])) ?_
 have hst:rcS p hb rq (setl st R s)=rcA p hb rq s.ph s.col s.Q s.L s.Fr s.G s.P:=by unfold setl;first|(simp[rcS,Cst.rts,c7,p21];done)|(simp_all[rcS,Cst.rts];done)
 exact xs_finN [] (own iTy rv R::rcS p hb rq (setl st R s)::rhA hb st::F) SI.nil (fun _ h=>by rw[hst];exact h.re [1,0,0] []) ⟨rfl,rfl⟩
theorem runit1_s{Z:Zone}{F:List Asr}{p hb rq:Nat}{c:Int→Int}{Q L Fr G P:List Int}{st:Hst}{x:Int}(hQ:Q.length≤100000)(hx:halive st x=true){n:Nat}(hsm:HSm n st)(hn:n≤300)(hW:HW st):SF Tryz.prog 88 #[.pointer (some ⟨p,0,none⟩)] Z (rcA p hb rq 1 c (x::Q) L Fr G P::rhA hb st::F) fun r Bs=>r=.tuple #[]∧Bs=rcA p hb rq 1 (cset (rchA st (c,Q) (crf st x)).1 x 2) ((rchA st (c,Q) (crf st x)).2) L Fr G P::rhA hb st::F:=by
 refine sf_enter Tryz.func88 81 [(0,pB p 0)] (fun w0=>?_);refine k_seq<|k_sr<|sP2 (pB p 0)<|sP (pB p 2)<|s_mem4 (fun H h=>rc_open1 (show (1:Int)≠0 by decide) (h.re [0] [])) (fun cv1 gv2 sv3 fv4 hw=>?_)
 refine sL (t_load 0 (iw 1))<|sL (t_cmp (c:=true))<|s_nt<|k_true<|k_sr<|sP2 (pB p 0)<|sP (pB p 4)<|sL (t_load 0 gv2)<|sL (t_index iTy_ok Tryz.underlying23 (.ownO 3) 0 0 om ol om)<|sL (t_loadE iTy_ok (.ownO 3) (show ((x::Q))[0]?=some x from rfl))<|sP (iw x)<|s_nr<|sP3 (pB p 0)<|sP (pB p 4)<|sL (t_load 0 gv2)<|sL (t_suf iTy_ok Tryz.underlying23 (.ownO 3) 1 1 om ol om)<|sP (pB p 0)<|sP (pB p 4)<|s_mem (fun _ h=>Holds.sufO (i:=3) h iTy_ok 1 rfl ol) ?_
 refine s_fact (fun H h=>((Acc.ownO (T:=iTy) (L:=((x::Q).drop 1)) 3 rfl) H h).form) (fun hf5=>?_);refine s_store (u:=(suf iTy.size gv2 1)) (m:=1) 0 #[pB hb 0,pB rq 0,iw 1,cv1,(suf iTy.size gv2 1),sv3,fv4] ?_ (hm:=by (obtain⟨_,_,e⟩:=hf5;rw[e];rfl)) (h1:=by (obtain⟨_,_,e⟩:=hf5;rw[e];rfl)) (ha':=by (obtain⟨_,_,e⟩:=hf5;rw[e];rfl));refine s_nr<|sP (pB p 0)<|sP (iw x)<|s_mem (fun _ h=>rc_shut (c:=c) (.inr rfl) (h.re [0,0,0,0,0,0] [])) ?_
 refine s_call [0,0] (rcrefs_s (x:=x) hsm hn hW) ?_;rintro v6 _ rfl;refine sF 0 (fun hf7=>?_);refine sP v6<|s_nt<|k_seq<|k_sr<|sP (iw 0)<|s_nt<|k_block<|k_mem (Bs:=own iTy v6 (crf st x)::rcA p hb rq 1 ((rchA st (c,Q) ((crf st x).take 0)).1) ((rchA st (c,Q) ((crf st x).take 0)).2) L Fr G P::rhA hb st::F) (fun _ h=>h) ?_
 obtain⟨_,_,hcl⟩:=crf_bound hsm hn x;refine k_loop (ι:=Nat) (fun i=>i≤(crf st x).length) (fun i=>[(0,pB p 0),(2,iw x),(3,v6),(4,iw (i:Int))]) (fun i=>own iTy v6 (crf st x)::rcA p hb rq 1 ((rchA st (c,Q) ((crf st x).take i)).1) ((rchA st (c,Q) ((crf st x).take i)).2) L Fr G P::rhA hb st::F) (fun i=>(crf st x).length-i) 0 (Nat.zero_le _) sA (rr [0,0,0] []) ?_;rintro i hi8;show SK _ _ _ _ _ [(0,.pointer (some ⟨p,0,none⟩)),(2,iw x),(3,v6),(4,iw (i:Int))] _ (own iTy v6 (crf st x)::rcA p hb rq 1 ((rchA st (c,Q) ((crf st x).take i)).1) ((rchA st (c,Q) ((crf st x).take i)).2) L Fr G P::rhA hb st::F);have hql:=rchA_len st ((crf st x).take i) (c,Q);rw[List.length_take]at hql;dsimp only at hql;refine k_seq<|k_sr<|sP (iw (i:Int))<|sP v6<|sL (t_len iTy_ok Tryz.underlying23 (.own 0))<|sL t_cmp<|s_nt<|k_cond (decide ((i:Int)<((crf st x).length:Int))) (fun c9=>?_) (fun c9=>?_)
 .have p10:=dY c9;refine k_st<|k_seq<|k_block<|k_reg<|sP (pB p 0)<|sP v6<|sP (iw (i:Int))<|sL (t_index iTy_ok Tryz.underlying23 (.own 0) (i:Int) i om ol om) ?_
  obtain⟨y11,hy12⟩:∃y,(crf st x)[i]?=some y:=⟨_,List.getElem?_eq_getElem ol⟩;refine sL (t_loadE iTy_ok (.own 0) hy12)<|sC [1,1] (rcreach_s (st:=st) (Q:=(rchA st (c,Q) ((crf st x).take i)).2) om (by have:=hsm.len;omega) y11) ?_
  refine s_nil<|xs_block<|xs_then<|k_reg<|sP (iw (i:Int))<|sL (t_add (i:Int) 1 ol)<|sP (iw ((i:Int)+1))<|s_nil<|xs_mem (Bs:=rcA p hb rq 1 ((rchA st (c,Q) ((crf st x).take (i+1))).1) ((rchA st (c,Q) ((crf st x).take (i+1))).2) L Fr G P::rhA hb st::own iTy v6 (crf st x)::F) (fun _ h=>by rw[rchA_take hy12];exact h) ?_
  exact xs_round (i+1) (by show (crf st x).length-(i+1)<(crf st x).length-i;omega) om sA (rr [2,0,0] [])
 have p13:=dF c9;refine k_exit ?_;obtain rfl:i=(crf st x).length:=by omega
 rw[List.take_length];refine xs_exit<|xs_exit<|xs_here<|xs_then<|k_sr<|sP (pB p 0)<|sP (iw x)<|sC [1] (rpaint_s x 2 (live_rng (by have:=hsm.len;omega) hx)) ?_
 refine s_nt<|k_ret<|xs_ret ?_
 exact xs_fin [] (rcA p hb rq 1 (cset ((rchA st (c,Q) (crf st x)).1) x 2) ((rchA st (c,Q) (crf st x)).2) L Fr G P::rhA hb st::F) SI.nil (rr [0,1] [2]) ⟨rfl,rfl⟩
theorem runit2_s{Z:Zone}{F:List Asr}{p hb rq:Nat}{c:Int→Int}{Q L Fr G P:List Int}{st:Hst}{x:Int}{n:Nat}(hz:c x=0)(hx:halive st x=true)(hsm:HSm n st)(hn:n≤300)(hF:Fr.length≤100000):SF Tryz.prog 88 #[.pointer (some ⟨p,0,none⟩)] Z (rcA p hb rq 2 c Q (x::L) Fr G P::rhA hb st::F) fun r Bs=>r=.tuple #[]∧Bs=rcA p hb rq 2 c Q L (Fr++[x]) G P::rhA hb (hdrop st x)::F:=by
 refine sf_enter Tryz.func88 81 [(0,pB p 0)] (fun w0=>?_);refine k_seq<|k_sr<|sP2 (pB p 0)<|sP (pB p 2)<|s_mem4 (fun H h=>rc_open1 (show (2:Int)≠0 by decide) (h.re [0] [])) (fun cv1 gv2 sv3 fv4 hw=>?_)
 refine sL (t_load 0 (iw 2))<|sL (t_cmp (c:=false))<|s_nt<|k_false<|k_st<|k_sr<|sP2 (pB p 0)<|sP (pB p 5)<|sL (t_load 0 sv3)<|sL (t_index iTy_ok Tryz.underlying23 (.ownO 4) 0 0 om ol om)<|sL (t_loadE iTy_ok (.ownO 4) (show ((x::L))[0]?=some x from rfl))<|sP (iw x)<|s_nr<|sP3 (pB p 0)<|sP (pB p 5)<|sL (t_load 0 sv3)<|sL (t_suf iTy_ok Tryz.underlying23 (.ownO 4) 1 1 om ol om)<|sP (pB p 0)<|sP (pB p 5)<|s_mem (fun _ h=>Holds.sufO (i:=4) h iTy_ok 1 rfl ol) ?_
 refine s_fact (fun H h=>((Acc.ownO (T:=iTy) (L:=((x::L).drop 1)) 4 rfl) H h).form) (fun hf5=>?_);refine s_store (u:=(suf iTy.size sv3 1)) (m:=1) 0 #[pB hb 0,pB rq 0,iw 2,cv1,gv2,(suf iTy.size sv3 1),fv4] ?_ (hm:=by (obtain⟨_,_,e⟩:=hf5;rw[e];rfl)) (h1:=by (obtain⟨_,_,e⟩:=hf5;rw[e];rfl)) (ha':=by (obtain⟨_,_,e⟩:=hf5;rw[e];rfl));refine s_nt<|k_seq<|k_sr<|sP (pB p 0)<|sP (iw x)<|s_mem (fun _ h=>rc_shut (c:=c) (.inr rfl) (h.re [0,0,0,0,0,0] [])) ?_
 refine sC [0] (rcolor_s (ph:=2) (show (2:Int)≠0 by decide) x) ?_;refine sL (Lt.to t_cmp (cB (decide_eq_false (fun e=>e hz):(decide ((c x)≠0))=false)))<|s_nt<|k_false<|k_st<|k_sr<|sP3 (pB p 0)<|s_mem4 (fun H h=>rc_open1 (show (2:Int)≠0 by decide) (h.re [0] [])) (fun cv6 gv7 sv8 fv9 hw=>?_)
 refine sL (t_load 0 (pB hb 0))<|sP (iw x)<|sC [6] (rhdrop_s (st:=st) (by have:=hsm.len;omega) x) ?_
 refine sL (Lt.to t_cmp (cB (decide_eq_true (by unfold hdropE;rw[if_pos hx]):(decide ((hdropE st x)=0))=true)))<|s_nt<|k_true<|k_reg<|sP3 (pB p 0)<|sP (pB p 6)<|sL (t_load 1 fv9)<|sP (iw x)<|s_buildSlice (e:=3) [(0,iw x)] #[iw x] (fun g10=>?_) (hb:=by kernel_rfl)
 refine s_appendO (L:=Fr) 7 iTy_ok Tryz.underlying23 (.lit 0 iTy_ok [x]) (by show _*8≤_;(try simp only[lnm]);omega) ol (fun v11=>?_);refine s_fact (fun H h=>((Acc.ownO (T:=iTy) (L:=(Fr++[x])) 7 rfl) H h).form) (fun hf12=>?_);refine sP (pB p 0)<|sP (pB p 6)<|s_store (u:=v11) (m:=1) 2 #[pB hb 0,pB rq 0,iw 2,cv6,gv7,sv8,v11] ?_ (hm:=by (obtain⟨_,_,e⟩:=hf12;rw[e];rfl)) (h1:=by (obtain⟨_,_,e⟩:=hf12;rw[e];rfl)) (ha':=by (obtain⟨_,_,e⟩:=hf12;rw[e];rfl))
 refine s_nil<|xs_mem (fun _ h=>rc_shut (c:=c) (.inr rfl) (h.re [2,2,2,2,2,2] [])) ?_
 exact xs_finN [] (rcA p hb rq 2 c Q ((x::L).drop 1) (Fr++[x]) G P::rhA hb (hdrop st x)::F) SI.nil (rr [0,1] [2]) ⟨rfl,rfl⟩
theorem runit3_s{Z:Zone}{F:List Asr}{p hb rq:Nat}{c:Int→Int}{Q L Fr G P:List Int}{st:Hst}{x:Int}{n:Nat}(hz:¬c x=0)(hx:halive st x=true)(hsm:HSm n st)(hn:n≤300):SF Tryz.prog 88 #[.pointer (some ⟨p,0,none⟩)] Z (rcA p hb rq 2 c Q (x::L) Fr G P::rhA hb st::F) fun r Bs=>r=.tuple #[]∧Bs=rcA p hb rq 2 (cset c x 0) Q L Fr G P::rhA hb st::F:=by
 refine sf_enter Tryz.func88 81 [(0,pB p 0)] (fun w0=>?_);refine k_seq<|k_sr<|sP2 (pB p 0)<|sP (pB p 2)<|s_mem4 (fun H h=>rc_open1 (show (2:Int)≠0 by decide) (h.re [0] [])) (fun cv1 gv2 sv3 fv4 hw=>?_)
 refine sL (t_load 0 (iw 2))<|sL (t_cmp (c:=false))<|s_nt<|k_false<|k_st<|k_sr<|sP2 (pB p 0)<|sP (pB p 5)<|sL (t_load 0 sv3)<|sL (t_index iTy_ok Tryz.underlying23 (.ownO 4) 0 0 om ol om)<|sL (t_loadE iTy_ok (.ownO 4) (show ((x::L))[0]?=some x from rfl))<|sP (iw x)<|s_nr<|sP3 (pB p 0)<|sP (pB p 5)<|sL (t_load 0 sv3)<|sL (t_suf iTy_ok Tryz.underlying23 (.ownO 4) 1 1 om ol om)<|sP (pB p 0)<|sP (pB p 5)<|s_mem (fun _ h=>Holds.sufO (i:=4) h iTy_ok 1 rfl ol) ?_
 refine s_fact (fun H h=>((Acc.ownO (T:=iTy) (L:=((x::L).drop 1)) 4 rfl) H h).form) (fun hf5=>?_);refine s_store (u:=(suf iTy.size sv3 1)) (m:=1) 0 #[pB hb 0,pB rq 0,iw 2,cv1,gv2,(suf iTy.size sv3 1),fv4] ?_ (hm:=by (obtain⟨_,_,e⟩:=hf5;rw[e];rfl)) (h1:=by (obtain⟨_,_,e⟩:=hf5;rw[e];rfl)) (ha':=by (obtain⟨_,_,e⟩:=hf5;rw[e];rfl));refine s_nt<|k_seq<|k_sr<|sP (pB p 0)<|sP (iw x)<|s_mem (fun _ h=>rc_shut (c:=c) (.inr rfl) (h.re [0,0,0,0,0,0] [])) ?_
 refine sC [0] (rcolor_s (ph:=2) (show (2:Int)≠0 by decide) x) ?_;refine sL (Lt.to t_cmp (cB (decide_eq_true hz:(decide ((c x)≠0))=true)))<|s_nt<|k_true<|k_sr<|sP (pB p 0)<|sP (iw x)<|sC [0] (rpaint_s x 0 (live_rng (by have:=hsm.len;omega) hx)) ?_
 refine s_nt<|k_ret<|xs_ret ?_
 exact xs_fin [] (rcA p hb rq 2 (cset c x 0) Q ((x::L).drop 1) Fr G P::rhA hb st::F) SI.nil (rr [0,0] []) ⟨rfl,rfl⟩
def untS(st:Hst)(s:Cst):Hst×Cst:=if s.ph=1 then (st,mrk st s) else swp st s
theorem runit_s{Z:Zone}{F:List Asr}{p hb rq N:Nat}{st:Hst}{s:Cst}(hci:CI N st s)(hN:N≤300)(hq:s.ph=1→s.Q≠[])(hl:s.ph=2→s.L≠[])(h0:s.ph≠0):SF Tryz.prog 88 #[.pointer (some ⟨p,0,none⟩)] Z (rcS p hb rq s::rhA hb st::F) fun r Bs=>r=.tuple #[]∧Bs=rcS p hb rq (untS st s).2::rhA hb (untS st s).1::F:=by
 have hf:=hci.fr;have hql:=hci.ql;have hcq:=hci.q;have hcl:=hci.l;have hph:=hci.ph;obtain⟨ph,c,Q,L,Fr,G,P⟩:=s;rcases hph with h|h|h
 .exact absurd h h0
 .have h':ph=1:=h;subst h';cases Q with
  | nil=>exact absurd rfl (hq rfl)
  | cons x Q=>
   have hQ:Q.length≤100000:=by simp only[List.length_cons]at hql;omega
   exact runit1_s hQ ((hcq rfl).2 x (by simp)).1 hci.sm hN hci.w
 have h':ph=2:=h;subst h';cases L with
 | nil=>exact absurd rfl (hl rfl)
 | cons x L=>
  have hx:=(hcl rfl).2 x (by simp);unfold untS;rw[if_neg (show ¬(2:Int)=1 by decide)];by_cases e:c x=0
  .rw [swp_white (s:=⟨2,c,Q,x::L,Fr,G,P⟩) rfl e];exact runit2_s e hx hci.sm hN (by have:Fr.length+(hids st).length≤N:=hf;omega)
  rw[swp_black (s:=⟨2,c,Q,x::L,Fr,G,P⟩) rfl e];exact runit3_s e hx hci.sm hN
theorem setl_q{st:Hst}{R:List Int}{s:Cst}(h1:s.ph=1)(h2:(setl st R s).ph=1):(setl st R s).Q≠[]:=by
 unfold setl at h2⊢;by_cases q:s.ph=1∧s.Q=[]
 .rw [if_pos q]at h2⊢;by_cases e:(rchA st (s.col,[]) (s.rts R)).2=[]
  .rw [if_pos e]at h2;exact absurd h2 (show ¬(2:Int)=1 by decide)
  rw[if_neg e];exact e
 rw[if_neg q];exact fun e=>q ⟨h1,e⟩
theorem setl_zero{st:Hst}{R:List Int}{s:Cst}(h:s.ph≠0):(setl st R s).ph≠0:=by
 by_cases h1:s.ph=1
 .rcases setl_ph (st:=st) (R:=R) h1 with e|e<;>omega
 rw[setl_two h1];exact h
theorem CI.setl'{N:Nat}{st:Hst}{s:Cst}(h:CI N st s)(R:List Int):CI N st (Go.Proofs.YtmhpcebiamkciaaGreat.setl st R s):=by
 by_cases h1:s.ph=1
 .exact h.setl h1 R
 rw[setl_two h1];exact h
theorem itr_mark{st:Hst}{R:List Int}{s:Cst}(h:(setl st R s).ph=1):itr st R s=(st,(untS st (setl st R s)).2,true):=by
 unfold itr untS;rw[if_pos h,if_pos h]
theorem itr_sweep{st:Hst}{R:List Int}{s:Cst}(h:(setl st R s).ph≠1)(hl:(setl st R s).L≠[]):itr st R s=((untS st (setl st R s)).1,cfin (untS st (setl st R s)).2,true):=by
 unfold itr untS;rw[if_neg h,if_neg hl,if_neg h]
theorem itr_none{st:Hst}{R:List Int}{s:Cst}(h:(setl st R s).ph≠1)(hl:(setl st R s).L=[]):itr st R s=(st,cfin (setl st R s),false):=by
 unfold itr;rw[if_neg h,if_pos hl]
theorem wrk_one{k:Nat}{st:Hst}{R:List Int}{s:Cst}{a:Hst}{b:Cst}(h:s.ph≠0)(e:itr st R s=(a,b,true)):wrk (k+1) st R s=addw 1 (wrk k a R b):=by
 rw[wrk,if_neg h,e];rfl
theorem wrk_stop{k:Nat}{st:Hst}{R:List Int}{s:Cst}{a:Hst}{b:Cst}(h:s.ph≠0)(e:itr st R s=(a,b,false)):wrk (k+1) st R s=(a,b,0):=by
 rw[wrk,if_neg h,e];rfl
theorem CI.unt{N:Nat}{st:Hst}{s:Cst}(h:CI N st s)(h0:s.ph≠0)(hl:s.ph=2→s.L≠[]):CI N (untS st s).1 (untS st s).2∧(untS st s).2.ph=s.ph:=by
 unfold untS;by_cases h1:s.ph=1
 .rw [if_pos h1];refine⟨h.mrk h1,?_⟩;unfold Go.Proofs.YtmhpcebiamkciaaGreat.mrk;split<;>rfl
 have h2:s.ph=2:=by have:=h.ph;omega
 rw[if_neg h1];obtain⟨x,L,e⟩:=List.exists_cons_of_ne_nil (hl h2);exact⟨h.swp h2 e,(swp_ph h2).trans h2.symm⟩
theorem rwork_s{Z:Zone}{F:List Asr}{p hb rq N:Nat}{st0:Hst}{s0:Cst}{rv:Value}{R:List Int}(u:Int)(hu9:u≤1000)(h0:CI N st0 s0)(hN:N≤300)(hR:R.length≤9000):SF Tryz.prog 36 #[.pointer (some ⟨p,0,none⟩),iw u,rv] Z (own iTy rv R::rcS p hb rq s0::rhA hb st0::F) fun r Bs=>r=iw ((work u.toNat st0 R s0).2.2:Int)∧Bs=own iTy rv R::rcS p hb rq (work u.toNat st0 R s0).2.1::rhA hb (work u.toNat st0 R s0).1::F:=by
 refine sf_enter Tryz.func36 78 [(0,pB p 0),(1,iw u),(2,rv)] (fun w0=>?_);refine k_sr<|sP (iw 0)<|s_nt<|k_seq<|k_sr<|sP (pB p 0)<|sP2 (.bool false)<|sP (iw u)<|sL t_cmp<|sP (.bool (decide (u≤0)))<|s_nt<|k_cond (decide (u≤0)) (fun c1=>?_) (fun c1=>?_)
 .have p2:=dY c1;refine k_sr<|sP (iw 0)<|s_nt<|k_ret<|xs_ret ?_
  rw[work_zero om];exact xs_fin [iw 0] (own iTy rv R::rcA p hb rq s0.ph s0.col s0.Q s0.L s0.Fr s0.G s0.P::rhA hb st0::F) (SI.tmp 6 SI.nil) (rr [0,0,0] []) ⟨rfl,rfl⟩
 have p3:=dF c1;refine k_st<|k_cut (ι:=Unit) (fun _=>True) (fun _=>[(0,pB p 0),(1,iw u),(2,rv)]) (fun _=>rcA p hb rq ((if s0.ph=0 then bgn st0 R s0 else s0).ph) ((if s0.ph=0 then bgn st0 R s0 else s0).col) ((if s0.ph=0 then bgn st0 R s0 else s0).Q) ((if s0.ph=0 then bgn st0 R s0 else s0).L) ((if s0.ph=0 then bgn st0 R s0 else s0).Fr) ((if s0.ph=0 then bgn st0 R s0 else s0).G) ((if s0.ph=0 then bgn st0 R s0 else s0).P)::own iTy rv R::rhA hb st0::F) ?_ (fun _ _=>?_)
 .by_cases hp0:s0.ph=0
  .refine k_mem (Bs:=own iTy rv R::rcA p hb rq 0 s0.col [] s0.L s0.Fr s0.G s0.P::rhA hb st0::F) (fun _ h=>by unfold rcS at h;rw[show s0.Q=[] from h0.q0 om,hp0]at h;exact h) ?_;refine k_sr<|sP2 (pB p 0)<|sP (pB p 2)<|s_mem5 (fun H h=>rc_open (h.re [1] [])) (fun cv4 gv5 sv6 fv7 cl8 hw=>?_)
   have hc9:=hw;refine sL (t_load 0 (iw 0))<|sL (t_cmp (c:=true))<|s_nt<|k_true<|k_sr<|sP2 (pB p 0)<|sP (pB p 2)<|s_store 0 #[pB hb 0,pB rq 0,iw 1,cv4,gv5,sv6,fv7] ?_
   refine s_nr<|sP2 (pB p 0)<|sP (pB p 3)<|s_store 0 #[pB hb 0,pB rq 0,iw 1,(.slice none 0 0),gv5,sv6,fv7] ?_
   refine s_nt<|k_reg<|sP (pB p 0)<|sP rv<|s_mem (fun _ h=>mk_shut MkC.nil (Holds.nilS (T:=MkT) h)) ?_
   refine s_mem (fun _ h=>rc_shut (c:=c0) (.inr rfl) (h.re [1,1,0,1,1,1] [])) ?_;refine sC [2,0,1] (rstart_s (st:=st0) (R:=R) (Q:=[]) (c:=c0) (G:=s0.G) (P:=s0.P) om (by have:=h0.gp;omega) (by simp) (by have:=h0.sm.len;omega)) ?_;refine s_nil ?_;exact xcut () (fun _ h=>by rw[if_pos hp0];exact h.re [1,0,0] [3])
  refine k_sr<|sP2 (pB p 0)<|sP (pB p 2)<|s_mem5 (fun H h=>rc_open (h.re [1] [])) (fun cv10 gv11 sv12 fv13 cl14 hw=>?_)
  have hc15:=hw;refine sL (t_load 0 (iw s0.ph))<|sL (Lt.to t_cmp (cB ((decide_eq_false hp0):(decide (s0.ph=0))=false)))<|s_nt<|k_false<|k_skip<|xs_mem (fun _ h=>rc_shut (c:=s0.col) hc15 (h.re [0,0,0,0,0,0] [])) ?_
  exact xcut () (fun _ h=>by rw[if_neg hp0];exact h.re [0,0,0] [])
 obtain⟨s1,hs1⟩:∃z,z=(if s0.ph=0 then bgn st0 R s0 else s0):=⟨_,rfl⟩;have hc1:CI N st0 s1:=by rw[hs1];split;exact h0.bgn (by assumption) R;exact h0
 rw[←hs1];refine k_sr<|sP (iw 0)<|s_nt<|k_seq<|k_block<|k_loop (ι:=Hst×Cst×Nat) (fun (st,s,z)=>CI N st s∧z≤u.toNat∧wrk u.toNat st0 R s1=addw z (wrk (u.toNat-z) st R s)) (fun (st,s,z)=>[(0,pB p 0),(1,iw u),(2,rv),(7,iw (z:Int))]) (fun (st,s,z)=>rcA p hb rq s.ph s.col s.Q s.L s.Fr s.G s.P::own iTy rv R::rhA hb st::F) (fun (st,s,z)=>3*(u.toNat-z)+wtp s.ph) (st0,s1,0) ⟨hc1,Nat.zero_le _,rfl⟩ sA (rr [0,0,0] []) ?_
 rintro⟨st,s,z⟩ hi16;replace hi16:CI N st s∧z≤u.toNat∧wrk u.toNat st0 R s1=addw z (wrk (u.toNat-z) st R s):=hi16;show SK _ _ _ _ _ [(0,.pointer (some ⟨p,0,none⟩)),(1,iw u),(2,rv),(7,iw (z:Int))] _ (rcA p hb rq s.ph s.col s.Q s.L s.Fr s.G s.P::own iTy rv R::rhA hb st::F);obtain⟨hci,hzk,hwk⟩:=hi16;refine k_seq<|k_sr<|sP (iw (z:Int))<|sP (iw u)<|sL t_cmp<|sP (.bool (decide ((z:Int)<u)))<|s_fork 31 (decide ((z:Int)<u)) (fun c17=>?_) (fun c17=>?_)
 .have p18:=dY c17;refine sP2 (pB p 0)<|sP (pB p 2)<|s_mem5 (fun H h=>rc_open (h.re [0] [])) (fun cv19 gv20 sv21 fv22 cl23 hw=>?_)
  have hc24:=hw;refine sL (t_load 0 (iw s.ph))<|sL t_cmp<|sP (.bool (decide (s.ph≠0)))<|s_nt<|k_cond (decide (s.ph≠0)) (fun c25=>?_) (fun c25=>?_)
  .have p26:=dY c25;have hsz:s.ph≠0:=p26;refine k_st<|k_block<|k_sr<|sP (pB p 0)<|sP rv<|s_mem (fun _ h=>rc_shut (c:=s.col) hc24 (h.re [0,0,0,0,0,0] [])) ?_
   refine sC [1,0,0] (rsettle_s (s:=s) (R:=R) hci hN hR) ?_;have hs0:=setl_zero (st:=st) (R:=R) hsz;have hcs:=hci.setl' R;refine s_nt<|k_seq<|k_sr<|sP2 (pB p 0)<|sP (pB p 2)<|s_mem4 (fun H h=>rc_open1 hs0 (h.re [1] [])) (fun cv27 gv28 sv29 fv30 hw=>?_)
   refine sL (t_load 0 (iw ((setl st R s).ph)))<|sL t_cmp<|sP (.bool (decide ((setl st R s).ph=1)))<|s_fork 46 (decide ((setl st R s).ph=1)) (fun c31=>?_) (fun c31=>?_)
   .have p32:=dY c31;have hq1:(setl st R s).ph=1→(setl st R s).Q≠[]:=fun e=>setl_q (by by_cases q:s.ph=1;exact q;rw[setl_two q]at e;exact e) e
    have hl2:(setl st R s).ph=2→(setl st R s).L≠[]:=fun e=>by omega
    refine sK<|sK<|sK<|sK<|sK<|sK<|sP (.bool true)<|s_nt<|k_true<|k_sr<|sP (pB p 0)<|s_mem (fun _ h=>rc_shut (c:=(setl st R s).col) (.inr rfl) (h.re [0,0,0,0,0,0] [])) ?_
    refine sC [0,1] (runit_s (s:=(setl st R s)) hcs hN hq1 hl2 hs0) ?_;have hu:=hcs.unt hs0 hl2;refine s_nt<|k_reg<|sP (iw (z:Int))<|sL (t_add (z:Int) 1 ol)<|sP (iw ((z:Int)+1))<|s_nr<|sP2 (pB p 0)<|sP (pB p 2)<|s_mem4 (fun H h=>rc_open1 (show (untS st (setl st R s)).2.ph≠0 by rw[hu.2];exact hs0) (h.re [0] [])) (fun cv33 gv34 sv35 fv36 hw=>?_)
    refine sL (t_load 0 (iw ((untS st (setl st R s)).2.ph)))<|sL (Lt.to t_cmp (cB (decide_eq_false (by rw[hu.2];omega):(decide ((untS st (setl st R s)).2.ph=2))=false)))<|sP (.bool false)<|sK<|sK<|sK<|sK<|sK<|sK<|sP (.bool false)<|s_nt<|k_false<|k_skip<|xs_block<|xs_mem (fun _ h=>rc_shut (c:=(untS st (setl st R s)).2.col) (.inr rfl) (h.re [0,0,0,0,0,0] [])) ?_
    have hwn:=wrk_one (k:=u.toNat-(z+1)) hsz (itr_mark (dY c31));rw[show u.toNat-(z+1)+1=u.toNat-z by omega]at hwn;have hu1:(untS st (setl st R s)).1=st:=by unfold untS;rw[if_pos (dY c31)]
    refine xs_mem (Bs:=rcA p hb rq ((untS st (setl st R s)).2.ph) ((untS st (setl st R s)).2.col) ((untS st (setl st R s)).2.Q) ((untS st (setl st R s)).2.L) ((untS st (setl st R s)).2.Fr) ((untS st (setl st R s)).2.G) ((untS st (setl st R s)).2.P)::rhA hb st::own iTy rv R::F) (fun _ h=>by rw[hu1]at h;exact h) ?_;exact xs_round (st,(untS st (setl st R s)).2,z+1) (by show 3*(u.toNat-(z+1))+wtp (untS st (setl st R s)).2.ph<3*(u.toNat-z)+wtp s.ph;have w1:=wtp_le (untS st (setl st R s)).2.ph;omega) ⟨by have:=(hcs.unt hs0 hl2).1;rw[hu1]at this;exact this,by omega,by rw[hwk,hwn,addw_add]⟩ sA (rr [0,1,0] [])
   have p37:=dF c31;have hq1:(setl st R s).ph=1→(setl st R s).Q≠[]:=fun e=>setl_q (by by_cases q:s.ph=1;exact q;rw[setl_two q]at e;exact e) e
   have hp2:(setl st R s).ph=2:=by rcases hcs.ph with e|e|e<;>omega
   refine sP2 (pB p 0)<|sP (pB p 5)<|sL (t_load 0 sv29)<|sL (t_len iTy_ok Tryz.underlying23 (.ownO 4))<|sL t_cmp<|sP (.bool (decide ((0:Int)<(((setl st R s).L).length:Int))))<|s_nt<|k_cond (decide ((0:Int)<(((setl st R s).L).length:Int))) (fun c38=>?_) (fun c38=>?_)
   .have p39:=dY c38;have hLn:(setl st R s).L≠[]:=fun e=>by rw[e]at p39;simp at p39
    have hl2:(setl st R s).ph=2→(setl st R s).L≠[]:=fun _=>hLn
    refine k_sr<|sP (pB p 0)<|s_mem (fun _ h=>rc_shut (c:=(setl st R s).col) (.inr rfl) (h.re [0,0,0,0,0,0] [])) ?_
    refine sC [0,1] (runit_s (s:=(setl st R s)) hcs hN hq1 hl2 hs0) ?_;have hu:=hcs.unt hs0 hl2;refine s_nt<|k_reg<|sP (iw (z:Int))<|sL (t_add (z:Int) 1 ol)<|sP (iw ((z:Int)+1))<|s_nr<|sP2 (pB p 0)<|sP (pB p 2)<|s_mem4 (fun H h=>rc_open1 (show (untS st (setl st R s)).2.ph≠0 by rw[hu.2];exact hs0) (h.re [0] [])) (fun cv40 gv41 sv42 fv43 hw=>?_)
    refine sL (t_load 0 (iw ((untS st (setl st R s)).2.ph)))<|sL (Lt.to t_cmp (cB (decide_eq_true (by rw[hu.2];exact hp2):(decide ((untS st (setl st R s)).2.ph=2))=true)))<|sP (.bool true)<|sP2 (pB p 0)<|sP (pB p 5)<|sL (t_load 0 sv42)<|sL (t_len iTy_ok Tryz.underlying23 (.ownO 4))<|sL t_cmp<|sP (.bool (decide ((((untS st (setl st R s)).2.L).length:Int)=0)))<|s_nt<|k_cond (decide ((((untS st (setl st R s)).2.L).length:Int)=0)) (fun c44=>?_) (fun c44=>?_)
    .have p45:=dY c44;refine k_sr<|sP2 (pB p 0)<|sP (pB p 2)<|s_store 0 #[pB hb 0,pB rq 0,iw 0,cv40,gv41,sv42,fv43] ?_
     refine s_nt<|k_reg<|sP2 (pB p 0)<|sP (pB p 3)<|s_store 0 #[pB hb 0,pB rq 0,iw 0,(.slice none 0 0),gv41,sv42,fv43] ?_
     refine s_nil<|xs_block<|xs_mem (fun _ h=>mk_shut MkC.nil (Holds.nilS (T:=MkT) h)) ?_
     refine xs_mem (fun _ h=>rc_shut (c:=(untS st (setl st R s)).2.col) (.inl rfl) (h.re [1,1,0,1,1,1] [])) ?_;have hcl:rcS p hb rq (cfin (untS st (setl st R s)).2)=rcA p hb rq 0 ((untS st (setl st R s)).2.col) ((untS st (setl st R s)).2.Q) ((untS st (setl st R s)).2.L) ((untS st (setl st R s)).2.Fr) ((untS st (setl st R s)).2.G) ((untS st (setl st R s)).2.P):=by rw[cfin_nil (List.eq_nil_of_length_eq_zero om)]
     refine xs_mem (Bs:=rcA p hb rq ((cfin (untS st (setl st R s)).2).ph) ((cfin (untS st (setl st R s)).2).col) ((cfin (untS st (setl st R s)).2).Q) ((cfin (untS st (setl st R s)).2).L) ((cfin (untS st (setl st R s)).2).Fr) ((cfin (untS st (setl st R s)).2).G) ((cfin (untS st (setl st R s)).2).P)::mkA cv40 ((untS st (setl st R s)).2.col)::rhA hb ((untS st (setl st R s)).1)::own iTy rv R::F) (fun _ h=>by rw[←hcl]at h;exact h) ?_;have hwn:=wrk_one (k:=u.toNat-(z+1)) hsz (itr_sweep (dF c31) hLn);rw[show u.toNat-(z+1)+1=u.toNat-z by omega]at hwn;exact xs_round ((untS st (setl st R s)).1,cfin (untS st (setl st R s)).2,z+1) (by show 3*(u.toNat-(z+1))+wtp (cfin (untS st (setl st R s)).2).ph<3*(u.toNat-z)+wtp s.ph;have w1:=wtp_le (cfin (untS st (setl st R s)).2).ph;omega) ⟨(hu.1).fin (by rw[hu.2];exact hp2),by omega,by rw[hwk,hwn,addw_add]⟩ sA (rr [0,2,1] [3])
    have p46:=dF c44;refine k_skip<|xs_block<|xs_mem (fun _ h=>rc_shut (c:=(untS st (setl st R s)).2.col) (.inr rfl) (h.re [0,0,0,0,0,0] [])) ?_
    have hcl:rcS p hb rq (cfin (untS st (setl st R s)).2)=rcA p hb rq ((untS st (setl st R s)).2.ph) ((untS st (setl st R s)).2.col) ((untS st (setl st R s)).2.Q) ((untS st (setl st R s)).2.L) ((untS st (setl st R s)).2.Fr) ((untS st (setl st R s)).2.G) ((untS st (setl st R s)).2.P):=by rw[cfin_cons (fun e=>by rw[e]at p46;exact p46 rfl)]
    refine xs_mem (Bs:=rcA p hb rq ((cfin (untS st (setl st R s)).2).ph) ((cfin (untS st (setl st R s)).2).col) ((cfin (untS st (setl st R s)).2).Q) ((cfin (untS st (setl st R s)).2).L) ((cfin (untS st (setl st R s)).2).Fr) ((cfin (untS st (setl st R s)).2).G) ((cfin (untS st (setl st R s)).2).P)::rhA hb ((untS st (setl st R s)).1)::own iTy rv R::F) (fun _ h=>by rw[←hcl]at h;exact h) ?_;have hwn:=wrk_one (k:=u.toNat-(z+1)) hsz (itr_sweep (dF c31) hLn);rw[show u.toNat-(z+1)+1=u.toNat-z by omega]at hwn;exact xs_round ((untS st (setl st R s)).1,cfin (untS st (setl st R s)).2,z+1) (by show 3*(u.toNat-(z+1))+wtp (cfin (untS st (setl st R s)).2).ph<3*(u.toNat-z)+wtp s.ph;have w1:=wtp_le (cfin (untS st (setl st R s)).2).ph;omega) ⟨(hu.1).fin (by rw[hu.2];exact hp2),by omega,by rw[hwk,hwn,addw_add]⟩ sA (rr [0,1,0] [])
   have p47:=dF c38;have hL0:(setl st R s).L=[]:=List.eq_nil_of_length_eq_zero om;refine k_st<|k_sr<|sP2 (pB p 0)<|sP (pB p 2)<|sL (t_load 0 (iw ((setl st R s).ph)))<|sL (Lt.to t_cmp (cB (decide_eq_true hp2:(decide ((setl st R s).ph=2))=true)))<|sP (.bool true)<|sP2 (pB p 0)<|sP (pB p 5)<|sL (t_load 0 sv29)<|sL (t_len iTy_ok Tryz.underlying23 (.ownO 4))<|sL (Lt.to t_cmp (cB (decide_eq_true om:(decide ((((setl st R s).L).length:Int)=0))=true)))<|sP (.bool true)<|s_nt<|k_true<|k_sr<|sP2 (pB p 0)<|sP (pB p 2)<|s_store 0 #[pB hb 0,pB rq 0,iw 0,cv27,gv28,sv29,fv30] ?_
   refine s_nt<|k_reg<|sP2 (pB p 0)<|sP (pB p 3)<|s_store 0 #[pB hb 0,pB rq 0,iw 0,(.slice none 0 0),gv28,sv29,fv30] ?_
   refine s_nil<|xs_block<|xs_mem (fun _ h=>mk_shut MkC.nil (Holds.nilS (T:=MkT) h)) ?_
   refine xs_mem (fun _ h=>rc_shut (c:=(setl st R s).col) (.inl rfl) (h.re [1,1,0,1,1,1] [])) ?_;have hcl:rcS p hb rq (cfin (setl st R s))=rcA p hb rq 0 ((setl st R s).col) ((setl st R s).Q) ((setl st R s).L) ((setl st R s).Fr) ((setl st R s).G) ((setl st R s).P):=by rw[cfin_nil hL0]
   refine xs_mem (Bs:=rcA p hb rq ((cfin (setl st R s)).ph) ((cfin (setl st R s)).col) ((cfin (setl st R s)).Q) ((cfin (setl st R s)).L) ((cfin (setl st R s)).Fr) ((cfin (setl st R s)).G) ((cfin (setl st R s)).P)::mkA cv27 ((setl st R s).col)::own iTy rv R::rhA hb st::F) (fun _ h=>by rw[←hcl]at h;exact h) ?_;have hwn:=wrk_stop (k:=u.toNat-z-1) hsz (itr_none (dF c31) hL0);rw[show u.toNat-z-1+1=u.toNat-z by omega]at hwn;exact xs_round (st,cfin (setl st R s),z) (by show 3*(u.toNat-z)+wtp (cfin (setl st R s)).ph<3*(u.toNat-z)+wtp s.ph;rw[wtp0 (by rw[cfin_nil hL0])];have:0<wtp s.ph:=(by unfold wtp;split;decide;first|decide|(rw[if_neg hsz];decide));omega) ⟨hcs.fin hp2,by omega,by rw[hwk,hwn,wrk_end (s:=cfin (setl st R s)) (by rw[cfin_nil hL0])]⟩ sA (rr [0,1,1] [3])
  have p48:=Decidable.not_not.1 (dF c25);refine k_exit<|xs_exit<|xs_exit<|xs_here<|xs_then<|k_sr<|sP2 (iw (z:Int))<|s_nt<|k_ret<|xs_mem (fun _ h=>rc_shut (c:=s.col) hc24 (h.re [0,0,0,0,0,0] [])) ?_
  have hwe:wrk (u.toNat-z) st R s=(st,s,0):=by first|(rw[show u.toNat-z=0 by omega];rfl)|exact wrk_end om
  rw[work_eq (t:=(st,s,z)) om (by rw[←hs1,hwk,hwe];simp[addw])];exact xs_fin [iw (z:Int)] (own iTy rv R::rcA p hb rq s.ph s.col s.Q s.L s.Fr s.G s.P::rhA hb st::F) (SI.tmp 6 SI.nil) (rr [1,0,0] []) ⟨rfl,rfl⟩
 have p49:=dF c17;refine sK<|sK<|sK<|sK<|sK<|sP (.bool false)<|s_nt<|k_false<|k_exit<|xs_exit<|xs_exit<|xs_here<|xs_then<|k_sr<|sP2 (iw (z:Int))<|s_nt<|k_ret ?_
 have hwe:wrk (u.toNat-z) st R s=(st,s,0):=by first|(rw[show u.toNat-z=0 by omega];rfl)|exact wrk_end om
 rw[work_eq (t:=(st,s,z)) om (by rw[←hs1,hwk,hwe];simp[addw])];exact xs_fin [iw (z:Int)] (own iTy rv R::rcA p hb rq s.ph s.col s.Q s.L s.Fr s.G s.P::rhA hb st::F) (SI.tmp 6 SI.nil) (rr [1,0,0] []) ⟨rfl,rfl⟩
end Go.Proofs.YtmhpcebiamkciaaGreat
end
section
set_option linter.unusedSimpArgs false
set_option linter.unusedVariables false
set_option maxRecDepth 100000
set_option maxHeartbeats 2000000
namespace Go.Proofs.YtmhpcebiamkciaaGreat
open Go.Hp Go.J Go.S
open Go.Mem (Ty KTy blk elemAt pre suf blk_pre blk_suf aget aset strK aggDesc)
open Go.Mem (adel apos aget_aset aget_adel)
theorem wot_yes{L:List Int}{id y:Int}{i:Nat}(h:L[i]?=some y)(hn:y≠id):wot (L.take i) id++[y]=wot (L.take (i+1)) id:=by
 unfold wot;rw[List.take_add_one,h];simp[List.filter_append,hn]
theorem wot_no{L:List Int}{id y:Int}{i:Nat}(h:L[i]?=some y)(hn:¬y≠id):wot (L.take i) id=wot (L.take (i+1)) id:=by
 unfold wot;rw[List.take_add_one,h];simp[List.filter_append,Decidable.not_not.1 hn]
theorem wot_len(L:List Int)(id:Int):(wot L id).length≤L.length:=List.length_filter_le _ _
theorem without_s{Z:Zone}{lv:Value}{L:List Int}(hL:Kn Z iTy lv L)(hl:L.length≤1000000)(id:Int):SF Tryz.prog 154 #[lv,iw id] Z [] fun r Bs=>Bs=[own iTy r (wot L id)]:=by
 refine sf_enter Tryz.func154 27 [(0,lv),(1,iw id)] (fun w0=>?_);refine k_fact (fun H h=>(hL.get h).len_le) (fun lL=>?_);refine k_sr<|sP (.slice none 0 0)<|s_nr<|sP (.slice none 0 0)<|s_nt<|k_seq<|k_sr<|sP (iw 0)<|s_nt<|k_block<|k_mem (fun _ h=>Holds.nilS (T:=iTy) h) ?_
 refine k_mem (Bs:=[own iTy (.slice none 0 0) (wot (L.take 0) id)]) (fun _ h=>h) ?_;refine k_loop (ι:=Value×Nat) (fun (sx,i)=>i≤L.length) (fun (sx,i)=>[(0,lv),(1,iw id),(5,sx),(6,iw (i:Int))]) (fun (sx,i)=>[own iTy sx (wot (L.take i) id)]) (fun (sx,i)=>L.length-i) (.slice none 0 0,0) (Nat.zero_le _) sA (rr [0] []) ?_;rintro⟨sx,i⟩ hi1;replace hi1:i≤L.length:=hi1;show SK _ _ _ _ _ [(0,lv),(1,iw id),(5,sx),(6,iw (i:Int))] _ [own iTy sx (wot (L.take i) id)];have hwl:=wot_len (L.take i) id;rw[List.length_take]at hwl;refine k_seq<|k_sr<|sP (iw (i:Int))<|sP lv<|sL (t_len iTy_ok Tryz.underlying23 (.zn hL))<|sL t_cmp<|s_nt<|k_cond (decide ((i:Int)<(L.length:Int))) (fun c2=>?_) (fun c2=>?_)
 .have p3:=dY c2;refine k_st<|k_seq<|k_block<|k_sr<|sP lv<|sP (iw (i:Int))<|sL (t_index iTy_ok Tryz.underlying23 (.zn hL) (i:Int) i om ol om) ?_
  obtain⟨y4,hy5⟩:∃y,L[i]?=some y:=⟨_,List.getElem?_eq_getElem ol⟩;refine sL (t_loadE iTy_ok (.zn hL) hy5)<|sP (iw id)<|sL t_cmp<|s_nt<|k_cond (decide (y4≠id)) (fun c6=>?_) (fun c6=>?_)
  .have p7:=dY c6;refine k_reg<|sP sx<|sP lv<|sP (iw (i:Int))<|sL (t_index iTy_ok Tryz.underlying23 (.zn hL) (i:Int) i om ol om)<|sL (t_loadE iTy_ok (.zn hL) hy5)<|s_buildSlice (e:=3) [(0,iw y4)] #[iw y4] (fun g8=>?_) (hb:=by kernel_rfl)
   refine s_append (L:=(wot (L.take i) id)) 1 iTy_ok Tryz.underlying23 (.lit 0 iTy_ok [y4]) (by show _*8≤_;(try simp only[lnm]);omega) ol (fun v9=>?_);refine sF 1 (fun hf10=>?_);refine sP v9<|s_nil<|xs_block<|xs_then<|k_reg<|sP (iw (i:Int))<|sL (t_add (i:Int) 1 ol)<|sP (iw ((i:Int)+1))<|s_nil ?_
   have hwo:=wot_yes hy5 (p7);refine xs_mem (Bs:=[blkA g8 #[iw y4] 3,own iTy v9 (wot (L.take (i+1)) id)]) (fun _ h=>by rw[hwo]at h;exact h) ?_;exact xs_round (v9,i+1) (by show L.length-(i+1)<L.length-i;omega) (by show i+1≤L.length;omega) sA (rr [1] [1])
  have p11:=Decidable.not_not.1 (dF c6);refine k_skip<|xs_block<|xs_then<|k_reg<|sP (iw (i:Int))<|sL (t_add (i:Int) 1 ol)<|sP (iw ((i:Int)+1))<|s_nil ?_
  have hwo:=wot_no hy5 (fun q=>q p11);refine xs_mem (Bs:=[own iTy sx (wot (L.take (i+1)) id)]) (fun _ h=>by rw[hwo]at h;exact h) ?_;exact xs_round (sx,i+1) (by show L.length-(i+1)<L.length-i;omega) (by show i+1≤L.length;omega) sA (rr [0] [])
 have p12:=dF c2;refine k_exit<|xs_exit<|xs_exit<|xs_here<|xs_then<|k_sr<|sP2 sx<|s_nt<|k_ret ?_
 exact xs_fin [sx] [own iTy sx (wot L id)] (SI.tmp 4 SI.nil) (fun _ h=>by rw[List.take_of_length_le om]at h;exact h.re [0] []) rfl
theorem left_s{Z:Zone}{lv:Value}{L:List Int}(hL:Kn Z iTy lv L)(n:Int):SF Tryz.prog 94 #[lv,iw n] Z [] fun r Bs=>r=.bool (decide (n∈L))∧Bs=[]:=by
 refine sf_enter Tryz.func94 18 [(0,lv),(1,iw n)] (fun w0=>?_);refine k_fact (fun H h=>(hL.get h).len_le) (fun lA=>?_);refine k_sr<|sP (.bool false)<|s_nt<|k_seq<|k_sr<|sP (iw 0)<|s_nt<|k_block<|k_loop (ι:=Nat) (fun i=>i≤L.length∧n∉L.take i) (fun i=>[(0,lv),(1,iw n),(5,iw (i:Int))]) (fun i=>[]) (fun i=>L.length-i) 0 ⟨Nat.zero_le _,by simp⟩ sA (rr [] []) ?_
 rintro i hi1;show SK _ _ _ _ _ [(0,lv),(1,iw n),(5,iw (i:Int))] _ [];refine k_seq<|k_sr<|sP (iw (i:Int))<|sP lv<|sL (t_len iTy_ok Tryz.underlying23 (.zn hL))<|sL t_cmp<|s_nt<|k_cond (decide ((i:Int)<(L.length:Int))) (fun c2=>?_) (fun c2=>?_)
 .have p3:=dY c2;refine k_st<|k_seq<|k_block<|k_sr<|sP lv<|sP (iw (i:Int))<|sL (t_index iTy_ok Tryz.underlying23 (.zn hL) (i:Int) i om ol om) ?_
  obtain⟨y4,hy5⟩:∃y,L[i]?=some y:=⟨_,List.getElem?_eq_getElem ol⟩;refine sL (t_loadE iTy_ok (.zn hL) hy5)<|sP (iw n)<|sL t_cmp<|s_nt<|k_cond (decide (y4=n)) (fun c6=>?_) (fun c6=>?_)
  .have p7:=dY c6;refine k_sr<|sP (.bool true)<|s_nt<|k_ret<|xs_retBlock<|xs_ret<|xs_ret<|xs_retBlock<|xs_ret<|xs_fin [.bool true] [] (SI.tmp 4 SI.nil) (rr [] []) ⟨cB ?_,rfl⟩
   exact (decide_eq_true (by rw[←p7];exact List.mem_of_getElem? hy5)).symm
  have p8:=dF c6;refine k_skip<|xs_block<|xs_then<|k_reg<|sP (iw (i:Int))<|sL (t_add (i:Int) 1 ol)<|sP (iw ((i:Int)+1))<|s_nil ?_
  exact xs_round (i+1) om (by obtain⟨hi1,hi2⟩:=hi1;refine⟨by omega,?_⟩;rw[←take_snoc hy5,List.mem_append,List.mem_singleton];rintro (h|h);exact hi2 h;exact p8 h.symm) sA (rr [] [])
 have p9:=dF c2;refine k_exit<|xs_exit<|xs_exit<|xs_here<|xs_then<|k_sr<|sP (.bool false)<|s_nt<|k_ret<|xs_fin [.bool false] [] (SI.tmp 4 SI.nil) (rr [] []) ⟨cB ?_,rfl⟩
 exact (decide_eq_false (by have h:=hi1.2;rwa [List.take_of_length_le om]at h)).symm
theorem rwrite_s{Z:Zone}{F:List Asr}{p hb rq N:Nat}{st:Hst}{s:Cst}(hci:CI N st s)(hN:N≤300)(x y:Int):SF Tryz.prog 90 #[.pointer (some ⟨p,0,none⟩),iw x,iw y] Z (rcS p hb rq s::rhA hb st::F) fun r Bs=>r=iw (aliE st x)∧Bs=rcS p hb rq (wrt st s x y)::rhA hb st::F:=by
 refine sf_enter Tryz.func90 30 [(0,pB p 0),(1,iw x),(2,iw y)] (fun w0=>?_);refine k_sr<|sP (iw 0)<|s_nt<|k_seq<|k_sr<|sP (pB p 0)<|sP (.bool false)<|s_nt<|k_false<|k_st<|k_seq<|k_sr<|sP3 (pB p 0)<|s_mem5 (fun H h=>rc_open (h.re [0] [])) (fun cv1 gv2 sv3 fv4 cl5 hw=>?_)
 have hc6:=hw;refine sL (t_load 0 (pB hb 0))<|sP (iw x)<|sC [6] (rhalive_s (st:=st) (by have:=hci.sm.len;omega) x) ?_
 refine sP (.bool (!(halive st x)))<|s_nt<|k_cond (!(halive st x)) (fun c7=>?_) (fun c7=>?_)
 .have c8:=not_t c7;refine k_sr<|sP (iw 2)<|s_nt<|k_ret<|xs_ret<|xs_mem (fun _ h=>rc_shut (c:=s.col) hc6 (h.re [1,1,1,1,1,1] [])) ?_
  have hst:rcS p hb rq (wrt st s x y)=rcA p hb rq s.ph s.col s.Q s.L s.Fr s.G s.P:=by unfold wrt;simp[rcS,c7,c8,c8]
  refine xs_fin [iw 2] (rcS p hb rq (wrt st s x y)::rhA hb st::F) (SI.tmp 6 SI.nil) (fun _ h=>by rw[hst];exact h.re [0,0] []) ⟨?_,rfl⟩;exact cI (by unfold aliE;simp[c7,c8,c8])
 have c9:=not_f c7;refine k_st<|k_seq<|k_sr<|sP2 (pB p 0)<|sP (pB p 2)<|sL (t_load 1 (iw s.ph))<|sL t_cmp<|sP (.bool (decide (s.ph=1)))<|s_fork 21 (decide (s.ph=1)) (fun c10=>?_) (fun c10=>?_)
 .have p11:=dY c10;obtain rfl:=hc6.resolve_left om;refine sP (pB p 0)<|sP (iw x)<|s_mem (fun _ h=>rc_shut (c:=s.col) (.inr rfl) (h.re [1,1,1,1,1,1] [])) ?_
  refine sC [0] (rcolor_s (ph:=s.ph) om x) ?_;refine sL t_cmp<|sP (.bool (decide ((s.col x)=2)))<|s_nt<|k_cond (decide ((s.col x)=2)) (fun c12=>?_) (fun c12=>?_)
  .have p13:=dY c12;refine k_reg<|sP (pB p 0)<|sP (iw y)<|s_mem (Bs:=rcA p hb rq 1 s.col s.Q s.L s.Fr s.G s.P::rhA hb st::F) (fun _ h=>by rw[show s.ph=1 by omega]at h;exact h) ?_
   refine sC [0,0] (rcreach_s (st:=st) (Q:=s.Q) (by have:=hci.ql;omega) (by have:=hci.sm.len;omega) y) ?_;refine s_nr<|sP (iw 0)<|s_nt<|k_ret ?_
   have hst:rcS p hb rq (wrt st s x y)=rcA p hb rq 1 (rchM st s.col y) (rchQ st s.col s.Q y) s.L s.Fr s.G s.P:=by unfold wrt;simp[rcS,c7,c9,c10,c12,c9,p11,p13]
   refine xs_fin [iw 0] (rcS p hb rq (wrt st s x y)::rhA hb st::F) (SI.tmp 6 SI.nil) (fun _ h=>by rw[hst];exact h.re [0,0] []) ⟨?_,rfl⟩;exact cI (by unfold aliE;simp[c7,c9,c10,c12,c9,p11,p13])
  have p14:=dF c12;refine k_st<|k_sr<|sP (iw 0)<|s_nt<|k_ret ?_
  have hst:rcS p hb rq (wrt st s x y)=rcA p hb rq s.ph s.col s.Q s.L s.Fr s.G s.P:=by unfold wrt;simp[rcS,c7,c9,c10,c12,c9,p11,p14]
  refine xs_fin [iw 0] (rcS p hb rq (wrt st s x y)::rhA hb st::F) (SI.tmp 6 SI.nil) (fun _ h=>by rw[hst];exact h.re [0,0] []) ⟨?_,rfl⟩;exact cI (by unfold aliE;simp[c7,c9,c10,c12,c9,p11,p14])
 have p15:=dF c10;refine sK<|sK<|sK<|sK<|sP (.bool false)<|s_nt<|k_false<|k_st<|k_sr<|sP (iw 0)<|s_nt<|k_ret<|xs_mem (fun _ h=>rc_shut (c:=s.col) hc6 (h.re [1,1,1,1,1,1] [])) ?_
 have hst:rcS p hb rq (wrt st s x y)=rcA p hb rq s.ph s.col s.Q s.L s.Fr s.G s.P:=by unfold wrt;simp[rcS,c7,c9,c10,c9,p15]
 refine xs_fin [iw 0] (rcS p hb rq (wrt st s x y)::rhA hb st::F) (SI.tmp 6 SI.nil) (fun _ h=>by rw[hst];exact h.re [0,0] []) ⟨?_,rfl⟩;exact cI (by unfold aliE;simp[c7,c9,c10,c9,p15])
theorem rbirth_s{Z:Zone}{F:List Asr}{p hb rq N:Nat}{st:Hst}{s:Cst}(hci:CI N st s)(hN:N≤300)(x:Int):SF Tryz.prog 91 #[.pointer (some ⟨p,0,none⟩),iw x] Z (rcS p hb rq s::rhA hb st::F) fun r Bs=>r=iw (aliE st x)∧Bs=rcS p hb rq (brt st s x)::rhA hb st::F:=by
 refine sf_enter Tryz.func91 43 [(0,pB p 0),(1,iw x)] (fun w0=>?_);refine k_sr<|sP (iw 0)<|s_nt<|k_seq<|k_sr<|sP (pB p 0)<|sP (.bool false)<|s_nt<|k_false<|k_st<|k_seq<|k_sr<|sP3 (pB p 0)<|s_mem5 (fun H h=>rc_open (h.re [0] [])) (fun cv1 gv2 sv3 fv4 cl5 hw=>?_)
 have hc6:=hw;refine sL (t_load 0 (pB hb 0))<|sP (iw x)<|sC [6] (rhalive_s (st:=st) (by have:=hci.sm.len;omega) x) ?_
 refine sP (.bool (!(halive st x)))<|s_nt<|k_cond (!(halive st x)) (fun c7=>?_) (fun c7=>?_)
 .have c8:=not_t c7;refine k_sr<|sP (iw 2)<|s_nt<|k_ret<|xs_ret<|xs_mem (fun _ h=>rc_shut (c:=s.col) hc6 (h.re [1,1,1,1,1,1] [])) ?_
  have hst:rcS p hb rq (brt st s x)=rcA p hb rq s.ph s.col s.Q s.L s.Fr s.G s.P:=by unfold brt;have hq0:s.ph≠1→s.Q=[]:=hci.q0;simp[rcS,wot,c7,c8,c8];try simp_all[wot]
  refine xs_fin [iw 2] (rcS p hb rq (brt st s x)::rhA hb st::F) (SI.tmp 4 SI.nil) (fun _ h=>by rw[hst];exact h.re [0,0] []) ⟨?_,rfl⟩;exact cI (by unfold aliE;simp[c7,c8,c8])
 have c9:=not_f c7;refine k_st<|k_sr<|sP3 (pB p 0)<|sP (pB p 4)<|sL (t_load 1 gv2)<|sP (iw x)<|s_pcall (fun _ h=>without_s (L:=s.Q) (Acc.kn (.ownO 4) h) (by have:=hci.ql;have:=hci.ll;omega) x) ?_
 rintro v10 _ rfl;refine sF 0 (fun hf11=>?_);refine sP (pB p 0)<|sP (pB p 4)<|s_store (u:=v10) (m:=1) 2 #[pB hb 0,pB rq 0,iw s.ph,cv1,v10,sv3,fv4] ?_ (hm:=by (obtain⟨_,_,e⟩:=hf11;rw[e];rfl)) (h1:=by (obtain⟨_,_,e⟩:=hf11;rw[e];rfl)) (ha':=by (obtain⟨_,_,e⟩:=hf11;rw[e];rfl))
 refine s_nt<|k_seq<|k_sr<|sP2 (pB p 0)<|sP (pB p 2)<|sL (t_load 2 (iw s.ph))<|sL t_cmp<|s_nt<|k_cond (decide (s.ph=1)) (fun c12=>?_) (fun c12=>?_)
 .have p13:=dY c12;obtain rfl:=hc6.resolve_left om;refine k_sr<|sP (pB p 0)<|sP (iw x)<|s_mem (fun _ h=>Holds.toO (h.re [0] [])) ?_
  refine s_mem (fun _ h=>rc_shut (c:=s.col) (.inr rfl) (h.re [2,2,2,0,2,2] [])) ?_;refine sC [0] (rpaint_s x 2 (live_rng (by have:=hci.sm.len;omega) c9)) ?_;refine s_nr<|sP (iw 0)<|s_nt<|k_ret<|xs_ret ?_
  have hst:rcS p hb rq (brt st s x)=rcA p hb rq s.ph (cset s.col x 2) (wot s.Q x) s.L s.Fr s.G s.P:=by unfold brt;have hq0:s.ph≠1→s.Q=[]:=hci.q0;simp[rcS,wot,c7,c9,c12,c9,p13];try simp_all[wot]
  refine xs_fin [iw 0] (rcS p hb rq (brt st s x)::rhA hb st::F) (SI.tmp 4 SI.nil) (fun _ h=>by rw[hst];exact h.re [0,0] [2]) ⟨?_,rfl⟩;exact cI (by unfold aliE;simp[c7,c9,c12,c9,p13])
 have p14:=dF c12;refine k_st<|k_sr<|sP (pB p 0)<|sP (iw x)<|s_mem (fun _ h=>Holds.toO (h.re [0] [])) ?_
 refine s_mem (fun _ h=>rc_shut (c:=s.col) hc6 (h.re [2,2,2,0,2,2] [])) ?_;refine sC [0] (rpaint_s x 0 (live_rng (by have:=hci.sm.len;omega) c9)) ?_;refine s_nr<|sP3 (pB p 0)<|sP (pB p 5)<|s_mem5 (fun H h=>rc_open (h.re [0] [])) (fun cv15 gv16 sv17 fv18 cl19 hw=>?_)
 have hc20:=hw;refine sL (t_load 0 sv17)<|sP (iw x)<|s_pcall (fun _ h=>without_s (L:=s.L) (Acc.kn (.ownO 4) h) (by have:=hci.ql;have:=hci.ll;omega) x) ?_
 rintro v21 _ rfl;refine sF 0 (fun hf22=>?_);refine sP (pB p 0)<|sP (pB p 5)<|s_store (u:=v21) (m:=1) 1 #[pB hb 0,pB rq 0,iw s.ph,cv15,gv16,v21,fv18] ?_ (hm:=by (obtain⟨_,_,e⟩:=hf22;rw[e];rfl)) (h1:=by (obtain⟨_,_,e⟩:=hf22;rw[e];rfl)) (ha':=by (obtain⟨_,_,e⟩:=hf22;rw[e];rfl))
 refine s_nr<|sP (iw 0)<|s_nt<|k_ret<|xs_mem (fun _ h=>Holds.toO (h.re [0] [])) ?_
 refine xs_mem (fun _ h=>rc_shut (c:=(cset s.col x 0)) hc20 (h.re [1,1,1,1,0,1] [])) ?_;have hst:rcS p hb rq (brt st s x)=rcA p hb rq s.ph (cset s.col x 0) (wot s.Q x) (wot s.L x) s.Fr s.G s.P:=by unfold brt;have hq0:s.ph≠1→s.Q=[]:=hci.q0;simp[rcS,wot,c7,c9,c12,c9,p14];try simp_all[wot]
 refine xs_fin [iw 0] (rcS p hb rq (brt st s x)::rhA hb st::F) (SI.tmp 4 SI.nil) (fun _ h=>by rw[hst];exact h.re [0,1] [2,2]) ⟨?_,rfl⟩;exact cI (by unfold aliE;simp[c7,c9,c12,c9,p14])
theorem rreg_s{Z:Zone}{F:List Asr}{p hb rq N:Nat}{st:Hst}{s:Cst}(hci:CI N st s)(hN:N≤300)(x:Int):SF Tryz.prog 39 #[.pointer (some ⟨p,0,none⟩),iw x] Z (rcS p hb rq s::rhA hb st::F) fun r Bs=>r=iw (regE st s x)∧Bs=rcS p hb rq (rgs st s x)::rhA hb st::F:=by
 refine sf_enter Tryz.func39 53 [(0,pB p 0),(1,iw x)] (fun w0=>?_);refine k_sr<|sP (iw 0)<|s_nt<|k_seq<|k_sr<|sP (pB p 0)<|sP (.bool false)<|s_nt<|k_false<|k_st<|k_seq<|k_sr<|sP3 (pB p 0)<|s_mem5 (fun H h=>rc_open (h.re [0] [])) (fun cv1 gv2 sv3 fv4 cl5 hw=>?_)
 have hc6:=hw;refine sL (t_load 0 (pB hb 0))<|sP (iw x)<|sC [6] (rhalive_s (st:=st) (by have:=hci.sm.len;omega) x) ?_
 refine sP (.bool (!(halive st x)))<|s_nt<|k_cond (!(halive st x)) (fun c7=>?_) (fun c7=>?_)
 .have c8:=not_t c7;refine k_sr<|sP (iw 2)<|s_nt<|k_ret<|xs_ret<|xs_mem (fun _ h=>rc_shut (c:=s.col) hc6 (h.re [1,1,1,1,1,1] [])) ?_
  have hst:rcS p hb rq (rgs st s x)=rcA p hb rq s.ph s.col s.Q s.L s.Fr s.G s.P:=by unfold rgs Cst.doom;simp[rcS,c7,c8,c8]
  refine xs_fin [iw 2] (rcS p hb rq (rgs st s x)::rhA hb st::F) (SI.tmp 4 SI.nil) (fun _ h=>by rw[hst];exact h.re [0,0] []) ⟨?_,rfl⟩;exact cI (by unfold regE Cst.doom;simp[c7,c8,c8])
 have c9:=not_f c7;refine k_st<|k_seq<|k_sr<|sP2 (pB p 0)<|sP (pB p 2)<|sL (t_load 1 (iw s.ph))<|sL t_cmp<|sP (.bool (decide (s.ph=2)))<|s_fork 20 (decide (s.ph=2)) (fun c10=>?_) (fun c10=>?_)
 .have p11:=dY c10;obtain rfl:=hc6.resolve_left om;refine sP (pB p 0)<|sP (iw x)<|s_mem (fun _ h=>rc_shut (c:=s.col) (.inr rfl) (h.re [1,1,1,1,1,1] [])) ?_
  refine sC [0] (rcolor_s (ph:=s.ph) om x) ?_;refine sL t_cmp<|sP2 (.bool (decide ((s.col x)=0)))<|s_fork 26 (decide ((s.col x)=0)) (fun c12=>?_) (fun c12=>?_)
  .have p13:=dY c12;refine sP2 (pB p 0)<|sP (pB p 5)<|s_mem5 (fun H h=>rc_open (h.re [0] [])) (fun cv14 gv15 sv16 fv17 cl18 hw=>?_)
   have hc19:=hw;refine sL (t_load 0 sv16)<|sP (iw x)<|sV (fun _ h=>left_s (L:=s.L) (Acc.kn (.ownO 4) h) x)<|sP (.bool (decide (x∈s.L)))<|s_nt<|k_cond (decide (x∈s.L)) (fun c20=>?_) (fun c20=>?_)
   .have p21:=dY c20;refine k_sr<|sP (iw 19)<|s_nt<|k_ret<|xs_ret<|xs_mem (fun _ h=>rc_shut (c:=s.col) hc19 (h.re [0,0,0,0,0,0] [])) ?_
    have hst:rcS p hb rq (rgs st s x)=rcA p hb rq s.ph s.col s.Q s.L s.Fr s.G s.P:=by unfold rgs Cst.doom;simp[rcS,c7,c9,c10,c12,c20,c9,p11,p13,p21]
    refine xs_fin [iw 19] (rcS p hb rq (rgs st s x)::rhA hb st::F) (SI.tmp 4 SI.nil) (fun _ h=>by rw[hst];exact h.re [0,0] []) ⟨?_,rfl⟩;exact cI (by unfold regE Cst.doom;simp[c7,c9,c10,c12,c20,c9,p11,p13,p21])
   have p22:=dF c20;refine k_st<|k_sr<|sP2 (pB p 0)<|sP (pB p 1)<|sL (t_load 0 (pB rq 0))<|sP (iw x)<|sC [1] (rqadd_s (reg:=s.G) x (by have:=hci.gp;omega)) ?_
   refine sP (iw (addI s.G x))<|s_nt<|k_seq<|k_sr<|sP (iw (addI s.G x))<|sL t_cmp<|sP (.bool (decide ((addI s.G x)=0)))<|s_fork 42 (decide ((addI s.G x)=0)) (fun c23=>?_) (fun c23=>?_)
   .have p24:=dY c23;refine sP2 (pB p 0)<|sP (pB p 2)<|sL (t_load 1 (iw s.ph))<|sL (Lt.to t_cmp (cB (decide_eq_false om:(decide (s.ph=1))=false)))<|sP (.bool false)<|s_nt<|k_false<|k_st<|k_sr<|sP2 (iw (addI s.G x))<|s_nt<|k_ret<|xs_mem (fun _ h=>rc_shut (c:=s.col) hc19 (h.re [1,0,0,0,0,0] [])) ?_
    have hst:rcS p hb rq (rgs st s x)=rcA p hb rq s.ph s.col s.Q s.L s.Fr (addL s.G x) s.P:=by unfold rgs Cst.doom;simp[rcS,c7,c9,c10,c12,c20,c23,c9,p11,p13,p22,p24]
    refine xs_fin [iw (addI s.G x)] (rcS p hb rq (rgs st s x)::rhA hb st::F) (SI.tmp 4 SI.nil) (fun _ h=>by rw[hst];exact h.re [0,0] []) ⟨?_,rfl⟩;exact cI (by unfold regE Cst.doom;simp[c7,c9,c10,c12,c20,c23,c9,p11,p13,p22,p24])
   have p25:=dF c23;refine sK<|sK<|sK<|sK<|sK<|sP (.bool false)<|s_nt<|k_false<|k_st<|k_sr<|sP2 (iw (addI s.G x))<|s_nt<|k_ret<|xs_mem (fun _ h=>rc_shut (c:=s.col) hc19 (h.re [1,0,0,0,0,0] [])) ?_
   have hst:rcS p hb rq (rgs st s x)=rcA p hb rq s.ph s.col s.Q s.L s.Fr (addL s.G x) s.P:=by unfold rgs Cst.doom;simp[rcS,c7,c9,c10,c12,c20,c23,c9,p11,p13,p22,p25]
   refine xs_fin [iw (addI s.G x)] (rcS p hb rq (rgs st s x)::rhA hb st::F) (SI.tmp 4 SI.nil) (fun _ h=>by rw[hst];exact h.re [0,0] []) ⟨?_,rfl⟩;exact cI (by unfold regE Cst.doom;simp[c7,c9,c10,c12,c20,c23,c9,p11,p13,p22,p25])
  have p26:=dF c12;refine sK<|sK<|sK<|sK<|sK<|sK<|sP (.bool false)<|s_nt<|k_false<|k_st<|k_sr<|sP2 (pB p 0)<|sP (pB p 1)<|s_mem5 (fun H h=>rc_open (h.re [0] [])) (fun cv27 gv28 sv29 fv30 cl31 hw=>?_)
  have hc32:=hw;refine sL (t_load 0 (pB rq 0))<|sP (iw x)<|sC [1] (rqadd_s (reg:=s.G) x (by have:=hci.gp;omega)) ?_
  refine sP (iw (addI s.G x))<|s_nt<|k_seq<|k_sr<|sP (iw (addI s.G x))<|sL t_cmp<|sP (.bool (decide ((addI s.G x)=0)))<|s_fork 42 (decide ((addI s.G x)=0)) (fun c33=>?_) (fun c33=>?_)
  .have p34:=dY c33;refine sP2 (pB p 0)<|sP (pB p 2)<|sL (t_load 1 (iw s.ph))<|sL (Lt.to t_cmp (cB (decide_eq_false om:(decide (s.ph=1))=false)))<|sP (.bool false)<|s_nt<|k_false<|k_st<|k_sr<|sP2 (iw (addI s.G x))<|s_nt<|k_ret<|xs_mem (fun _ h=>rc_shut (c:=s.col) hc32 (h.re [1,0,0,0,0,0] [])) ?_
   have hst:rcS p hb rq (rgs st s x)=rcA p hb rq s.ph s.col s.Q s.L s.Fr (addL s.G x) s.P:=by unfold rgs Cst.doom;simp[rcS,c7,c9,c10,c12,c33,c9,p11,p26,p34]
   refine xs_fin [iw (addI s.G x)] (rcS p hb rq (rgs st s x)::rhA hb st::F) (SI.tmp 4 SI.nil) (fun _ h=>by rw[hst];exact h.re [0,0] []) ⟨?_,rfl⟩;exact cI (by unfold regE Cst.doom;simp[c7,c9,c10,c12,c33,c9,p11,p26,p34])
  have p35:=dF c33;refine sK<|sK<|sK<|sK<|sK<|sP (.bool false)<|s_nt<|k_false<|k_st<|k_sr<|sP2 (iw (addI s.G x))<|s_nt<|k_ret<|xs_mem (fun _ h=>rc_shut (c:=s.col) hc32 (h.re [1,0,0,0,0,0] [])) ?_
  have hst:rcS p hb rq (rgs st s x)=rcA p hb rq s.ph s.col s.Q s.L s.Fr (addL s.G x) s.P:=by unfold rgs Cst.doom;simp[rcS,c7,c9,c10,c12,c33,c9,p11,p26,p35]
  refine xs_fin [iw (addI s.G x)] (rcS p hb rq (rgs st s x)::rhA hb st::F) (SI.tmp 4 SI.nil) (fun _ h=>by rw[hst];exact h.re [0,0] []) ⟨?_,rfl⟩;exact cI (by unfold regE Cst.doom;simp[c7,c9,c10,c12,c33,c9,p11,p26,p35])
 have p36:=dF c10;refine sK<|sK<|sK<|sK<|sP2 (.bool false)<|sK<|sK<|sK<|sK<|sK<|sK<|sP (.bool false)<|s_nt<|k_false<|k_st<|k_sr<|sP2 (pB p 0)<|sP (pB p 1)<|sL (t_load 1 (pB rq 0))<|sP (iw x)<|sC [2] (rqadd_s (reg:=s.G) x (by have:=hci.gp;omega)) ?_
 refine sP (iw (addI s.G x))<|s_nt<|k_seq<|k_sr<|sP (iw (addI s.G x))<|sL t_cmp<|sP (.bool (decide ((addI s.G x)=0)))<|s_fork 42 (decide ((addI s.G x)=0)) (fun c37=>?_) (fun c37=>?_)
 .have p38:=dY c37;refine sP2 (pB p 0)<|sP (pB p 2)<|sL (t_load 2 (iw s.ph))<|sL t_cmp<|sP (.bool (decide (s.ph=1)))<|s_nt<|k_cond (decide (s.ph=1)) (fun c39=>?_) (fun c39=>?_)
  .have p40:=dY c39;obtain rfl:=hc6.resolve_left om;refine k_reg<|sP (pB p 0)<|sP (iw x)<|s_mem (fun _ h=>rc_shut (c:=s.col) (.inr rfl) (h.re [2,0,1,1,1,1] [])) ?_
   refine s_mem (Bs:=rcA p hb rq 1 s.col s.Q s.L s.Fr (addL s.G x) s.P::rhA hb st::F) (fun _ h=>by rw[show s.ph=1 by omega]at h;exact h) ?_;refine sC [0,0] (rcreach_s (st:=st) (Q:=s.Q) (by have:=hci.ql;omega) (by have:=hci.sm.len;omega) x) ?_;refine s_nr<|sP2 (iw (addI s.G x))<|s_nt<|k_ret ?_
   have hst:rcS p hb rq (rgs st s x)=rcA p hb rq 1 (rchM st s.col x) (rchQ st s.col s.Q x) s.L s.Fr (addL s.G x) s.P:=by unfold rgs Cst.doom;simp[rcS,c7,c9,c10,c37,c39,c9,p36,p38,p40]
   refine xs_fin [iw (addI s.G x)] (rcS p hb rq (rgs st s x)::rhA hb st::F) (SI.tmp 4 SI.nil) (fun _ h=>by rw[hst];exact h.re [0,0] []) ⟨?_,rfl⟩;exact cI (by unfold regE Cst.doom;simp[c7,c9,c10,c37,c39,c9,p36,p38,p40])
  have p41:=dF c39;refine k_st<|k_sr<|sP2 (iw (addI s.G x))<|s_nt<|k_ret<|xs_mem (fun _ h=>rc_shut (c:=s.col) hc6 (h.re [2,0,1,1,1,1] [])) ?_
  have hst:rcS p hb rq (rgs st s x)=rcA p hb rq s.ph s.col s.Q s.L s.Fr (addL s.G x) s.P:=by unfold rgs Cst.doom;simp[rcS,c7,c9,c10,c37,c39,c9,p36,p38,p41]
  refine xs_fin [iw (addI s.G x)] (rcS p hb rq (rgs st s x)::rhA hb st::F) (SI.tmp 4 SI.nil) (fun _ h=>by rw[hst];exact h.re [0,0] []) ⟨?_,rfl⟩;exact cI (by unfold regE Cst.doom;simp[c7,c9,c10,c37,c39,c9,p36,p38,p41])
 have p42:=dF c37;refine sK<|sK<|sK<|sK<|sK<|sP (.bool false)<|s_nt<|k_false<|k_st<|k_sr<|sP2 (iw (addI s.G x))<|s_nt<|k_ret<|xs_mem (fun _ h=>rc_shut (c:=s.col) hc6 (h.re [2,0,1,1,1,1] [])) ?_
 have hst:rcS p hb rq (rgs st s x)=rcA p hb rq s.ph s.col s.Q s.L s.Fr (addL s.G x) s.P:=by unfold rgs Cst.doom;simp[rcS,c7,c9,c10,c37,c9,p36,p42]
 refine xs_fin [iw (addI s.G x)] (rcS p hb rq (rgs st s x)::rhA hb st::F) (SI.tmp 4 SI.nil) (fun _ h=>by rw[hst];exact h.re [0,0] []) ⟨?_,rfl⟩;exact cI (by unfold regE Cst.doom;simp[c7,c9,c10,c37,c9,p36,p42])
theorem rcnew_s{Z:Zone}{hb:Nat}:SF Tryz.prog 35 #[.pointer (some ⟨hb,0,none⟩)] Z [] fun r Bs=>∃p rq,r=.tuple #[.pointer (some ⟨p,0,none⟩),iw 0]∧Bs=[rcA p hb rq 0 c0 [] [] [] [] []]:=by
 refine sf_enter Tryz.func35 10 [(0,pB hb 0)] (fun w0=>?_);refine k_sr<|sP (.pointer none)<|sP (iw 0)<|s_nt<|k_seq<|k_sr<|sP (pB hb 0)<|sP (.bool false)<|s_nt<|k_false<|k_st<|k_sr<|sP (pB hb 0)<|s_pcall (fun _ h=>rqnew_s) ?_
 rintro _ _ ⟨p1,rfl,rfl⟩;refine sL (t_kern (.agg #[pB hb 0,pB p1 0,iw 0,(.slice none 0 0),(.slice none 0 0),(.slice none 0 0),(.slice none 0 0)]))<|s_box #[pB hb 0,pB p1 0,iw 0,(.slice none 0 0),(.slice none 0 0),(.slice none 0 0),(.slice none 0 0)] (fun g2=>?_)
 refine sP (pB g2 0)<|sP (iw 0)<|s_nt<|k_ret<|xs_mem (fun _ h=>mk_shut MkC.nil (Holds.nilS (T:=MkT) h)) ?_
 refine xs_mem (fun _ h=>Holds.nilO (T:=iTy) h) ?_;refine xs_mem (fun _ h=>Holds.nilO (T:=iTy) h) ?_;refine xs_mem (fun _ h=>Holds.nilO (T:=iTy) h) ?_;refine xs_mem (fun _ h=>rc_shut (c:=c0) (.inl rfl) (h.re [4,4,3,0,0,0] [])) ?_;exact xs_fin [.pointer (some ⟨g2,0,none⟩),iw 0] [rcA g2 hb p1 0 c0 ([]:List Int) ([]:List Int) ([]:List Int) [] []] (SI.tmp 2 (SI.tmp 3 SI.nil)) (rr [0] []) ⟨g2,p1,rfl,rfl⟩
end Go.Proofs.YtmhpcebiamkciaaGreat
end
section
set_option linter.unusedSimpArgs false
set_option linter.unusedVariables false
set_option maxRecDepth 100000
set_option maxHeartbeats 2000000
namespace Go.Proofs.YtmhpcebiamkciaaGreat
open Go.Hp Go.J Go.S
open Go.Mem (Ty KTy blk elemAt pre suf blk_pre blk_suf aget aset strK aggDesc)
open Go.Mem (adel apos aget_aset aget_adel)
open Go.Mem (adel apos aget_aset aget_adel aset_new aget_none_iff)
theorem apos_none_of{β:Type}{m:List (Int×β)}{k:Int}(h:k∉m.map Prod.fst):apos m k=none:=by
 cases hp:apos m k with
 | none=>rfl
 | some i=>obtain⟨_,x,h1,_⟩:=Go.Mem.apos_lt hp;exact absurd (List.mem_map.2 ⟨_,List.mem_of_getElem? h1,rfl⟩) h
theorem mcheck_s{Z:Zone}{ov rv:Value}{l:List Ob}{R:List Int}(hg:KnG Z ov rv l R):SF Tryz.prog 114 #[.agg #[ov,rv]] Z [] fun r Bs=>r=iw (errI (chk 0 l))∧Bs=[]:=by
 refine sf_enter Tryz.func114 35 [(0,.agg #[ov,rv])] (fun w0=>?_);refine k_fact (fun H h=>(hg.obs.get h).len_le) (fun lA=>?_);refine k_seq<|k_reg<|s_box #[ov,rv] (fun g1=>?_)
 refine sL (t_pure (iw 0))<|s_nil<|xs_then<|k_seq<|k_reg<|sL (t_pure (iw 0))<|s_nil<|xs_then<|k_seq<|k_seq<|k_reg<|sL (t_pure (.pointer (some ⟨g1,0,none⟩)))<|sL (t_load 0 ov)<|sL (t_len ObT_ok Tryz.underlying55 (.zn hg.obs))<|sL (t_pure (iw 0))<|s_nil<|xs_then<|k_block<|k_loop (ι:=Int×Nat) (fun (last,i)=>i≤l.length∧chk 0 l=chk last (l.drop i)∧0≤last) (fun (last,i)=>[(2,iw 0),(3,iw last),(7,ov),(8,iw (l.length:Int)),(9,iw (i:Int))]) (fun (last,i)=>[blkA g1 #[ov,rv] 57]) (fun (last,i)=>l.length-i) (0,0) ⟨Nat.zero_le _,rfl,Int.le_refl _⟩ sA (rr [0] []) ?_
 rintro⟨last,i⟩ hi2;replace hi2:i≤l.length∧chk 0 l=chk last (l.drop i)∧0≤last:=hi2;show SK _ _ _ _ _ [(2,iw 0),(3,iw last),(7,ov),(8,iw (l.length:Int)),(9,iw (i:Int))] _ [blkA g1 #[ov,rv] 57];refine k_seq<|k_reg<|sL t_cmp<|s_nil<|xs_then<|k_seq<|k_cond (decide ((i:Int)<(l.length:Int))) (fun c3=>?_) (fun c3=>?_)
 .have p4:=dY c3;refine k_skip<|xs_then<|k_seq<|k_block<|k_seq<|k_reg<|sL (t_index ObT_ok Tryz.underlying55 (.zn hg.obs) (i:Int) i om (by (try simp only[List.length_nil,List.length_cons,List.length_append,List.length_take,List.length_drop,List.length_set,List.length_replicate,List.length_reverse]);omega) om) ?_
  obtain⟨y5,hy6⟩:∃y,l[i]?=some y:=⟨_,List.getElem?_eq_getElem (by (try simp only[List.length_nil,List.length_cons,List.length_append,List.length_take,List.length_drop,List.length_set,List.length_replicate,List.length_reverse]);omega)⟩;have hk7:=hg.each y5 (List.mem_of_getElem? hy6);refine sL (t_loadE ObT_ok (.zn hg.obs) hy6)<|s_alloc (.agg #[iw 0,iw 0,iw 0,(.slice none 0 0),(.slice none 0 0)]) #[iw 0,iw 0,iw 0,(.slice none 0 0),(.slice none 0 0)] (fun g8=>?_)
  refine s_store 0 #[iw y5.id,iw y5.size,iw y5.weak,y5.rv.v,y5.ev.v] ?_;refine s_nil<|xs_then<|k_seq<|k_cut (ι:=Unit) (fun _=>True) (fun _=>[(2,iw 0),(3,iw last),(5,.pointer (some ⟨g8,0,none⟩)),(7,ov),(8,iw (l.length:Int)),(9,iw (i:Int)),(10,.bool (decide ((i:Int)<(l.length:Int)))),(11,.pointer (some (elemAt ObT.size ov i))),(12,.agg #[iw y5.id,iw y5.size,iw y5.weak,y5.rv.v,y5.ev.v]),(13,.pointer (some ⟨g8,0,none⟩)),(14,iw y5.id),(15,iw last),(16,.bool (decide (y5.id≤last))),(17,.bool (decide (y5.id≤last))),(21,.bool ((decide (y5.id≤last))||(decide (y5.size<0)))),(22,.bool ((decide (y5.id≤last))||(decide (y5.size<0)))),(26,.bool ((decide (y5.id≤last))||((decide (y5.size<0))||(decide (y5.weak<0))))),(27,.bool ((decide (y5.id≤last))||((decide (y5.size<0))||(decide (y5.weak<0))))),(31,.bool ((decide (y5.id≤last))||((decide (y5.size<0))||((decide (y5.weak<0))||(decide ((3:Int)<y5.weak))))))]) (fun _=>[blkA g8 #[iw y5.id,iw y5.size,iw y5.weak,y5.rv.v,y5.ev.v] 100,blkA g1 #[ov,rv] 57]) ?_ (fun _ _=>?_)
  .refine k_reg<|sL (t_pure (.pointer (some ⟨g8,0,none⟩)))<|sL (t_load 0 (iw y5.id))<|sL (t_pure (iw last))<|sL t_cmp<|sL (t_pure (.bool (decide (y5.id≤last))))<|s_fork 17 (decide (y5.id≤last)) (fun c9=>?_) (fun c9=>?_)
   .have p10:=dY c9;refine sK<|sK<|sK<|sL (t_pure (.bool true))<|sL (t_pure (.bool true))<|sK<|sK<|sK<|sL (t_pure (.bool true))<|sL (t_pure (.bool true))<|sK<|sK<|sK<|sL (t_pure (.bool true))<|s_nil ?_
    exact xs_cut () trivial (sub_of rfl (rQ (rQ (rQ (rQ (rQ (rQ (rQ (rQ (rQ (rQ (rQ (rQ (rQ ⟨⟨rfl,show Value.bool true=Value.bool (decide (y5.id≤last)) by first|(simp only[c9,Bool.true_and,Bool.false_and,Bool.and_true,Bool.and_false,Bool.true_or,Bool.or_true,Bool.false_or,Bool.or_false,Bool.not_true,Bool.not_false];done)|simp[c9]⟩,⟨⟨rfl,show Value.bool true=Value.bool ((decide (y5.id≤last))||(decide (y5.size<0))) by first|(simp only[c9,Bool.true_and,Bool.false_and,Bool.and_true,Bool.and_false,Bool.true_or,Bool.or_true,Bool.false_or,Bool.or_false,Bool.not_true,Bool.not_false];done)|simp[c9]⟩,⟨⟨rfl,show Value.bool true=Value.bool ((decide (y5.id≤last))||(decide (y5.size<0))) by first|(simp only[c9,Bool.true_and,Bool.false_and,Bool.and_true,Bool.and_false,Bool.true_or,Bool.or_true,Bool.false_or,Bool.or_false,Bool.not_true,Bool.not_false];done)|simp[c9]⟩,⟨⟨rfl,show Value.bool true=Value.bool ((decide (y5.id≤last))||((decide (y5.size<0))||(decide (y5.weak<0)))) by first|(simp only[c9,Bool.true_and,Bool.false_and,Bool.and_true,Bool.and_false,Bool.true_or,Bool.or_true,Bool.false_or,Bool.or_false,Bool.not_true,Bool.not_false];done)|simp[c9]⟩,⟨⟨rfl,show Value.bool true=Value.bool ((decide (y5.id≤last))||((decide (y5.size<0))||(decide (y5.weak<0)))) by first|(simp only[c9,Bool.true_and,Bool.false_and,Bool.and_true,Bool.and_false,Bool.true_or,Bool.or_true,Bool.false_or,Bool.or_false,Bool.not_true,Bool.not_false];done)|simp[c9]⟩,⟨⟨rfl,show Value.bool true=Value.bool ((decide (y5.id≤last))||((decide (y5.size<0))||((decide (y5.weak<0))||(decide ((3:Int)<y5.weak))))) by first|(simp only[c9,Bool.true_and,Bool.false_and,Bool.and_true,Bool.and_false,Bool.true_or,Bool.or_true,Bool.false_or,Bool.or_false,Bool.not_true,Bool.not_false];done)|simp[c9]⟩,trivial⟩⟩⟩⟩⟩⟩)))))))))))))) (rr [0,0] [])
   have p11:=dF c9;refine sL (t_pure (.pointer (some ⟨g8,1,none⟩)))<|sL (t_load 0 (iw y5.size))<|sL t_cmp<|sL (t_pure (.bool (decide (y5.size<0))))<|sL (t_pure (.bool (decide (y5.size<0))))<|s_fork 22 (decide (y5.size<0)) (fun c12=>?_) (fun c12=>?_)
   .have p13:=dY c12;refine sK<|sK<|sK<|sL (t_pure (.bool true))<|sL (t_pure (.bool true))<|sK<|sK<|sK<|sL (t_pure (.bool true))<|s_nil ?_
    exact xs_cut () trivial (sub_of rfl (rQ (rQ (rQ (rQ (rQ (rQ (rQ (rQ (rQ (rQ (rQ (rQ (rQ ⟨⟨rfl,show Value.bool false=Value.bool (decide (y5.id≤last)) by first|(simp only[c9,c12,Bool.true_and,Bool.false_and,Bool.and_true,Bool.and_false,Bool.true_or,Bool.or_true,Bool.false_or,Bool.or_false,Bool.not_true,Bool.not_false];done)|simp[c9,c12]⟩,⟨⟨rfl,show Value.bool (decide (y5.size<0))=Value.bool ((decide (y5.id≤last))||(decide (y5.size<0))) by first|(simp only[c9,c12,Bool.true_and,Bool.false_and,Bool.and_true,Bool.and_false,Bool.true_or,Bool.or_true,Bool.false_or,Bool.or_false,Bool.not_true,Bool.not_false];done)|simp[c9,c12]⟩,⟨⟨rfl,show Value.bool true=Value.bool ((decide (y5.id≤last))||(decide (y5.size<0))) by first|(simp only[c9,c12,Bool.true_and,Bool.false_and,Bool.and_true,Bool.and_false,Bool.true_or,Bool.or_true,Bool.false_or,Bool.or_false,Bool.not_true,Bool.not_false];done)|simp[c9,c12]⟩,⟨⟨rfl,show Value.bool true=Value.bool ((decide (y5.id≤last))||((decide (y5.size<0))||(decide (y5.weak<0)))) by first|(simp only[c9,c12,Bool.true_and,Bool.false_and,Bool.and_true,Bool.and_false,Bool.true_or,Bool.or_true,Bool.false_or,Bool.or_false,Bool.not_true,Bool.not_false];done)|simp[c9,c12]⟩,⟨⟨rfl,show Value.bool true=Value.bool ((decide (y5.id≤last))||((decide (y5.size<0))||(decide (y5.weak<0)))) by first|(simp only[c9,c12,Bool.true_and,Bool.false_and,Bool.and_true,Bool.and_false,Bool.true_or,Bool.or_true,Bool.false_or,Bool.or_false,Bool.not_true,Bool.not_false];done)|simp[c9,c12]⟩,⟨⟨rfl,show Value.bool true=Value.bool ((decide (y5.id≤last))||((decide (y5.size<0))||((decide (y5.weak<0))||(decide ((3:Int)<y5.weak))))) by first|(simp only[c9,c12,Bool.true_and,Bool.false_and,Bool.and_true,Bool.and_false,Bool.true_or,Bool.or_true,Bool.false_or,Bool.or_false,Bool.not_true,Bool.not_false];done)|simp[c9,c12]⟩,trivial⟩⟩⟩⟩⟩⟩)))))))))))))) (rr [0,0] [])
   have p14:=dF c12;refine sL (t_pure (.pointer (some ⟨g8,2,none⟩)))<|sL (t_load 0 (iw y5.weak))<|sL t_cmp<|sL (t_pure (.bool (decide (y5.weak<0))))<|sL (t_pure (.bool (decide (y5.weak<0))))<|s_fork 27 (decide (y5.weak<0)) (fun c15=>?_) (fun c15=>?_)
   .have p16:=dY c15;refine sK<|sK<|sK<|sL (t_pure (.bool true))<|s_nil ?_
    exact xs_cut () trivial (sub_of rfl (rQ (rQ (rQ (rQ (rQ (rQ (rQ (rQ (rQ (rQ (rQ (rQ (rQ ⟨⟨rfl,show Value.bool false=Value.bool (decide (y5.id≤last)) by first|(simp only[c9,c12,c15,Bool.true_and,Bool.false_and,Bool.and_true,Bool.and_false,Bool.true_or,Bool.or_true,Bool.false_or,Bool.or_false,Bool.not_true,Bool.not_false];done)|simp[c9,c12,c15]⟩,⟨⟨rfl,show Value.bool (decide (y5.size<0))=Value.bool ((decide (y5.id≤last))||(decide (y5.size<0))) by first|(simp only[c9,c12,c15,Bool.true_and,Bool.false_and,Bool.and_true,Bool.and_false,Bool.true_or,Bool.or_true,Bool.false_or,Bool.or_false,Bool.not_true,Bool.not_false];done)|simp[c9,c12,c15]⟩,⟨⟨rfl,show Value.bool false=Value.bool ((decide (y5.id≤last))||(decide (y5.size<0))) by first|(simp only[c9,c12,c15,Bool.true_and,Bool.false_and,Bool.and_true,Bool.and_false,Bool.true_or,Bool.or_true,Bool.false_or,Bool.or_false,Bool.not_true,Bool.not_false];done)|simp[c9,c12,c15]⟩,⟨⟨rfl,show Value.bool (decide (y5.weak<0))=Value.bool ((decide (y5.id≤last))||((decide (y5.size<0))||(decide (y5.weak<0)))) by first|(simp only[c9,c12,c15,Bool.true_and,Bool.false_and,Bool.and_true,Bool.and_false,Bool.true_or,Bool.or_true,Bool.false_or,Bool.or_false,Bool.not_true,Bool.not_false];done)|simp[c9,c12,c15]⟩,⟨⟨rfl,show Value.bool true=Value.bool ((decide (y5.id≤last))||((decide (y5.size<0))||(decide (y5.weak<0)))) by first|(simp only[c9,c12,c15,Bool.true_and,Bool.false_and,Bool.and_true,Bool.and_false,Bool.true_or,Bool.or_true,Bool.false_or,Bool.or_false,Bool.not_true,Bool.not_false];done)|simp[c9,c12,c15]⟩,⟨⟨rfl,show Value.bool true=Value.bool ((decide (y5.id≤last))||((decide (y5.size<0))||((decide (y5.weak<0))||(decide ((3:Int)<y5.weak))))) by first|(simp only[c9,c12,c15,Bool.true_and,Bool.false_and,Bool.and_true,Bool.and_false,Bool.true_or,Bool.or_true,Bool.false_or,Bool.or_false,Bool.not_true,Bool.not_false];done)|simp[c9,c12,c15]⟩,trivial⟩⟩⟩⟩⟩⟩)))))))))))))) (rr [0,0] [])
   have p17:=dF c15;refine sL (t_pure (.pointer (some ⟨g8,2,none⟩)))<|sL (t_load 0 (iw y5.weak))<|sL t_cmp<|sL (t_pure (.bool (decide ((3:Int)<y5.weak))))<|s_nil ?_
   exact xs_cut () trivial (sub_of rfl (rQ (rQ (rQ (rQ (rQ (rQ (rQ (rQ (rQ (rQ (rQ (rQ (rQ ⟨⟨rfl,show Value.bool false=Value.bool (decide (y5.id≤last)) by first|(simp only[c9,c12,c15,Bool.true_and,Bool.false_and,Bool.and_true,Bool.and_false,Bool.true_or,Bool.or_true,Bool.false_or,Bool.or_false,Bool.not_true,Bool.not_false];done)|simp[c9,c12,c15]⟩,⟨⟨rfl,show Value.bool (decide (y5.size<0))=Value.bool ((decide (y5.id≤last))||(decide (y5.size<0))) by first|(simp only[c9,c12,c15,Bool.true_and,Bool.false_and,Bool.and_true,Bool.and_false,Bool.true_or,Bool.or_true,Bool.false_or,Bool.or_false,Bool.not_true,Bool.not_false];done)|simp[c9,c12,c15]⟩,⟨⟨rfl,show Value.bool false=Value.bool ((decide (y5.id≤last))||(decide (y5.size<0))) by first|(simp only[c9,c12,c15,Bool.true_and,Bool.false_and,Bool.and_true,Bool.and_false,Bool.true_or,Bool.or_true,Bool.false_or,Bool.or_false,Bool.not_true,Bool.not_false];done)|simp[c9,c12,c15]⟩,⟨⟨rfl,show Value.bool (decide (y5.weak<0))=Value.bool ((decide (y5.id≤last))||((decide (y5.size<0))||(decide (y5.weak<0)))) by first|(simp only[c9,c12,c15,Bool.true_and,Bool.false_and,Bool.and_true,Bool.and_false,Bool.true_or,Bool.or_true,Bool.false_or,Bool.or_false,Bool.not_true,Bool.not_false];done)|simp[c9,c12,c15]⟩,⟨⟨rfl,show Value.bool false=Value.bool ((decide (y5.id≤last))||((decide (y5.size<0))||(decide (y5.weak<0)))) by first|(simp only[c9,c12,c15,Bool.true_and,Bool.false_and,Bool.and_true,Bool.and_false,Bool.true_or,Bool.or_true,Bool.false_or,Bool.or_false,Bool.not_true,Bool.not_false];done)|simp[c9,c12,c15]⟩,⟨⟨rfl,show Value.bool (decide ((3:Int)<y5.weak))=Value.bool ((decide (y5.id≤last))||((decide (y5.size<0))||((decide (y5.weak<0))||(decide ((3:Int)<y5.weak))))) by first|(simp only[c9,c12,c15,Bool.true_and,Bool.false_and,Bool.and_true,Bool.and_false,Bool.true_or,Bool.or_true,Bool.false_or,Bool.or_false,Bool.not_true,Bool.not_false];done)|simp[c9,c12,c15]⟩,trivial⟩⟩⟩⟩⟩⟩)))))))))))))) (rr [0,0] [])
  refine k_cond ((decide (y5.id≤last))||((decide (y5.size<0))||((decide (y5.weak<0))||(decide ((3:Int)<y5.weak))))) (fun c18=>?_) (fun c18=>?_)
  .have p19:=c18;simp only[Bool.and_eq_true,Bool.or_eq_true,Bool.and_eq_false_iff,Bool.or_eq_false_iff,Bool.not_eq_true',Bool.not_eq_false',decide_eq_true_eq,decide_eq_false_iff_not]at p19;refine k_seq<|k_reg<|sL (t_pure (iw 2))<|s_nil<|xs_then<|k_ret<|xs_ret<|xs_retBlock<|xs_ret<|xs_ret<|xs_retBlock<|xs_ret<|xs_fin [iw 2] [] (SI.tmp 2 SI.nil) (rr [] [0,0]) ⟨cI ?_,rfl⟩
   rw[hi2.2.1,chk_drop hy6];simp only[errI];rw[if_neg];simp only[Bool.and_eq_true,Bool.not_eq_true',Bool.or_eq_false_iff,decide_eq_false_iff_not];omega
  obtain⟨c20,c21⟩:=or_f c18;have p22:=dF c20;obtain⟨c23,c24⟩:=or_f c21;have p25:=dF c23;obtain⟨c26,c27⟩:=or_f c24;have p28:=dF c26;have p29:=dF c27;refine k_skip<|xs_then<|k_reg<|sL (t_pure (.pointer (some ⟨g8,0,none⟩)))<|sL (t_load 0 (iw y5.id))<|sL (t_pure (iw y5.id))<|s_nil<|xs_block<|xs_then<|k_reg<|sL (t_add (i:Int) 1 (by (try simp only[List.length_nil,List.length_cons,List.length_append,List.length_take,List.length_drop,List.length_set,List.length_replicate,List.length_reverse]);omega))<|sL (t_pure (iw ((i:Int)+1)))<|s_nil ?_
  exact xs_round (y5.id,i+1) (by show l.length-(i+1)<l.length-i;omega) (by obtain⟨hi1,hi2,hi3⟩:=hi2;have hd:=chk_drop (last:=last) hy6;refine⟨by omega,?_,by omega⟩;rw[hi2,hd,decide_eq_false om,decide_eq_false om,decide_eq_false om,decide_eq_false om];rfl) sA (rr [1] [1])
 have p30:=dF c3;refine k_exit<|xs_exit<|xs_exit<|xs_here<|xs_then<|k_seq<|k_reg<|sL (t_pure (iw 0))<|s_nil<|xs_then<|k_ret<|xs_fin [iw 0] [] (SI.tmp 2 SI.nil) (rr [] [0]) ⟨cI ?_,rfl⟩
 rw[hi2.2.1,List.drop_of_length_le om];rfl
abbrev ndV(g:Nat):Value:=.pointer (some ⟨g,0,none⟩)
def nob(l:List Ob)(id:Int):Ob:=(fnd l id).getD ⟨0,0,0,⟨none,0,0⟩,⟨none,0,0⟩,[],[]⟩
theorem nob_is{l:List Ob}{id:Int}{o:Ob}(h:fnd l id=some o):nob l id=o:=by unfold nob;rw[h];rfl
def entI(o:Ob):List Int:=o.ents.flatMap allE
def ndA(g:Nat)(o:Ob)(c:Int):Asr:=exA fun rv=>exA fun ev=>stA True [blkA g #[rv,ev,iw c] 177,own iTy rv o.refs,own iTy ev (entI o)]
section
variable{Z:Zone}{F:List Asr}{H:Heap}{g b:Nat}{o:Ob}{c:Int}{l:List Ob}{G G':List Int}{k k' q:Nat}{ps:List (Int×Nat)}{id:Int}
theorem nd_open(h:Holds Z (ndA g o c::F) H):∃rv ev,True∧Holds Z (blkA g #[rv,ev,iw c] 177::own iTy rv o.refs::own iTy ev (entI o)::F) H:=by
 obtain⟨rv,h⟩:=h.open_ex;obtain⟨ev,h⟩:=h.open_ex;exact⟨rv,ev,h.open_st⟩
theorem nd_shut{rv ev:Value}(h:Holds Z (blkA g #[rv,ev,iw c] 177::own iTy rv o.refs::own iTy ev (entI o)::F) H):Holds Z (ndA g o c::F) H:=Holds.shut_ex rv (Holds.shut_ex ev (Holds.shut_st trivial h))
def ndsA(ps:List (Int×Nat))(l:List Ob)(G:List Int)(k:Nat):Asr:=star (ps.map fun p=>ndA p.2 (nob l p.1) (clI G k p.1))
def ndsH(ps:List (Int×Nat))(l:List Ob)(G:List Int)(k:Nat)(id:Int):Asr:=star ((adel ps id).map fun p=>ndA p.2 (nob l p.1) (clI G k p.1))
theorem nds_focus(hq:aget ps id=some g)(ho:fnd l id=some o)(h:Holds Z (ndsA ps l G k::F) H):∃rv ev,True∧Holds Z (blkA g #[rv,ev,iw (clI G k id)] 177::own iTy rv o.refs::own iTy ev (entI o)::ndsH ps l G k id::F) H:=by
 obtain⟨i,hp⟩:∃i,apos ps id=some i:=by
  cases hp:apos ps id with
  | none=>rw[Go.Mem.apos_none hp]at hq;cases hq
  | some i=>exact⟨i,rfl⟩
 obtain⟨hi,y,hy,hq'⟩:=Go.Mem.apos_lt hp;rw[hq]at hq';cases hq';have h1:Holds Z (ndA g (nob l id) (clI G k id)::star ((ps.eraseIdx i).map fun p=>ndA p.2 (nob l p.1) (clI G k p.1))::F) H:=h.star_get hy;unfold ndsH;rw[Go.Mem.adel_pos hp];rw[nob_is ho]at h1;exact nd_open h1
theorem nds_back {rv ev : Value} (hnd : (ps.map Prod.fst).Nodup) (hq : aget ps id = some g) (ho : fnd l id = some o) (hc : clI G' k' id = c) (hr : ∀ x, x ≠ id → clI G' k' x = clI G k x) (h : Holds Z (blkA g #[rv, ev, iw c] 177 :: own iTy rv o.refs :: own iTy ev (entI o) :: ndsH ps l G k id :: F) H) : Holds Z (ndsA ps l G' k' :: F) H := by
  have h := nd_shut h
  obtain ⟨i, hp⟩ : ∃ i, apos ps id = some i := by
    cases hp : apos ps id with
    | none => rw [Go.Mem.apos_none hp] at hq; cases hq
    | some i => exact ⟨i, rfl⟩
  obtain ⟨hi, y, hy, hq'⟩ := Go.Mem.apos_lt hp
  rw [hq] at hq'; cases hq'
  unfold ndsH at h
  rw [Go.Mem.adel_pos hp] at h
  refine Holds.star_set (f := fun p : Int × Nat => ndA p.2 (nob l p.1) (clI G k p.1)) (g := fun p => ndA p.2 (nob l p.1) (clI G' k' p.1)) hy (fun j p hj hp' => ?_) ?_
  · show ndA p.2 _ _ = ndA p.2 _ _
    have hne : p.1 ≠ id := fun e => hj (by
      obtain ⟨hj1, e1⟩ := List.getElem?_eq_some_iff.1 hp'
      refine (List.getElem_inj (h₀ := by rw [List.length_map]; exact hj1) (h₁ := by rw [List.length_map]; exact hi) hnd).1 ?_
      simp only [List.getElem_map]
      rw [e1, (List.getElem?_eq_some_iff.1 hy).2]; exact e)
    rw [hr _ hne]
  · show Holds Z (ndA g (nob l id) (clI G' k' id) :: _ :: F) H
    rw [nob_is ho, hc]; exact h
theorem nds_nil(h:Holds Z F H):Holds Z (ndsA [] l G k::F) H:=h.star_nil
theorem nds_new{rv ev:Value}(hn:id∉ps.map Prod.fst)(ho:fnd l id=some o)(h:Holds Z (blkA g #[rv,ev,iw 0] 177::own iTy rv o.refs::own iTy ev (entI o)::ndsA ps l [] 0::F) H):Holds Z (ndsA (aset ps id g) l [] 0::F) H:=by
 have h:=nd_shut h;rw[aset_new (apos_none_of hn)];unfold ndsA at h⊢;rw[List.map_append];refine Holds.star_add ?_;show Holds Z (ndA g (nob l id) (clI [] 0 id)::_::F) H;rw[nob_is ho];exact h
def mrA(b:Nat)(l:List Ob)(ps:List (Int×Nat))(G:List Int)(k q:Nat):Asr:=exA fun mb=>exA fun qv=>stA (ps.map Prod.fst=l.map Ob.id) [blkA b #[.map (some mb),qv] 181,mpA (Go.Mem.intK 3) ndV mb ps,ownO iTy qv (G.drop q),ndsA ps l G k]
theorem mr_open(h:Holds Z (mrA b l ps G k q::F) H):∃(mb:Nat) (qv:Value),ps.map Prod.fst=l.map Ob.id∧Holds Z (blkA b #[.map (some mb),qv] 181::mpA (Go.Mem.intK 3) ndV mb ps::ownO iTy qv (G.drop q)::ndsA ps l G k::F) H:=by
 obtain⟨mb,h⟩:=h.open_ex;obtain⟨qv,h⟩:=h.open_ex;exact⟨mb,qv,h.open_st⟩
theorem mr_shut{mb:Nat}{qv:Value}{L:List Int}(hp:ps.map Prod.fst=l.map Ob.id)(hL:L=G.drop q)(h:Holds Z (blkA b #[.map (some mb),qv] 181::mpA (Go.Mem.intK 3) ndV mb ps::ownO iTy qv L::ndsA ps l G k::F) H):Holds Z (mrA b l ps G k q::F) H:=by
 subst hL;exact Holds.shut_ex mb (Holds.shut_ex qv (Holds.shut_st hp h))
theorem nd_cases(hp:ps.map Prod.fst=l.map Ob.id)(id:Int):(fnd l id=none∧aget ps id=none)∨∃o g,fnd l id=some o∧aget ps id=some g:=by
 cases hf:fnd l id with
 | none=>
  refine .inl ⟨rfl,(aget_none_iff ps id).2 ?_⟩;rw[hp];intro hm;obtain⟨o,ho,e⟩:=List.mem_map.1 hm;exact fnd_none hf o ho e
 | some o=>
  obtain⟨h1,h2⟩:=fnd_id hf;cases hg:aget ps id with
  | none=>exact absurd (List.mem_map.2 ⟨o,h2,h1⟩) (by rw[←hp];exact (aget_none_iff ps id).1 hg)
  | some g=>exact .inr ⟨o,g,rfl,rfl⟩
def Ns(l:List Ob)(G:List Int):Prop:=G.Nodup∧∀x∈G,Is l x
theorem Ns.len(h:Ns l G):G.length≤l.length:=by
 have:=h.1.length_le_of_subset (l₂:=l.map Ob.id) fun x hx=>by
  obtain⟨o,ho⟩:=Option.isSome_iff_exists.1 (h.2 x hx);obtain⟨h1,h2⟩:=fnd_id ho;exact List.mem_map.2 ⟨o,h2,h1⟩
 rwa [List.length_map]at this
theorem Ns.srs(h:Ns l G)(X:List Int):Ns l (Go.Proofs.YtmhpcebiamkciaaGreat.srs (alO l) G X):=by
 have k:=srs_ok (alO l) X G;refine⟨k.nodup h.1,fun x hx=>?_⟩;rcases k.sound x hx with h1|⟨_,h1⟩
 .exact h.2 x h1
 exact h1
theorem ns_nil(l:List Ob):Ns l []:=⟨List.nodup_nil,by simp⟩
theorem Bq.ns{R:List Int}(h:Bq (alO l) (rfO l) R k G):Ns l G:=⟨h.nodup,fun x hx=>(h.snd x hx).1⟩
end
theorem nd_must{l:List Ob}{ps:List (Int×Nat)}{id:Int}(hp:ps.map Prod.fst=l.map Ob.id)(hi:Is l id):∃o g,fnd l id=some o∧aget ps id=some g:=by
 rcases nd_cases hp id with ⟨h,_⟩|h
 .rw [Is,h]at hi;cases hi
 exact h
theorem mreach_s{Z:Zone}{F:List Asr}{b:Nat}{l:List Ob}{ps:List (Int×Nat)}{G:List Int}{k q:Nat}(hk:k≤G.length)(hq:q≤G.length)(hG:G.length≤1000000)(id:Int):SF Tryz.prog 185 #[.pointer (some ⟨b,0,none⟩),iw id] Z (mrA b l ps G k q::F) fun r Bs=>r=.tuple #[]∧Bs=mrA b l ps (sr1 (alO l) G id) k q::F:=by
 refine sf_enter Tryz.func185 36 [(0,.pointer (some ⟨b,0,none⟩)),(1,iw id)] (fun w0=>?_);refine k_mem2 (fun H h=>mr_open (h.re [0] [])) (fun mb1 qv2 hw=>?_);have hps3:=hw;refine k_seq<|k_reg<|sL (t_pure (.pointer (some ⟨b,0,none⟩)))<|sL (t_pure (.pointer (some ⟨b,0,none⟩)))<|sL (t_pure (.pointer (some ⟨b,0,none⟩)))<|sL (t_load 0 (.map (some mb1)))<|sL (t_pure (iw id)) ?_
 rcases nd_cases hps3 id with ⟨hf4,hq5⟩|⟨ob6,g7,hf8,hq9⟩
 .refine sL (Lt.to (v':=.tuple #[.pointer none,.bool false]) (t_lookupOk 1 intOk Tryz.underlying179 (.pointer none) id) (by rw[hq5];rfl))<|sL (t_pure (.tuple #[.pointer none,.bool false]))<|sL (t_pure (.pointer none))<|sL (t_pure (.bool false))<|sL (t_pure (.pointer none))<|sL (t_pure (.bool false))<|s_nil<|xs_then<|k_seq<|k_reg<|sL (t_pure (.bool false))<|sL (t_pure (.bool false))<|sK<|sK<|sK<|sK<|sK<|sL (t_pure (.bool false))<|s_nil<|xs_then<|k_false<|k_skip<|xs_mem (fun _ h=>mr_shut (q:=q) hps3 rfl (h.re [0,0,0,0] [])) ?_
  refine xs_finN [] (mrA b l ps G k q::F) SI.nil (rr [0] []) ⟨rfl,?_⟩;rw[sr1_dead (alO_no hf4)]
 refine sL (Lt.to (v':=.tuple #[ndV g7,.bool true]) (t_lookupOk 1 intOk Tryz.underlying179 (.pointer none) id) (by rw[hq9];rfl))<|sL (t_pure (.tuple #[.pointer (some ⟨g7,0,none⟩),.bool true]))<|sL (t_pure (.pointer (some ⟨g7,0,none⟩)))<|sL (t_pure (.bool true))<|sL (t_pure (.pointer (some ⟨g7,0,none⟩)))<|sL (t_pure (.bool true))<|s_nil<|xs_then<|k_seq<|k_reg<|sL (t_pure (.bool true))<|sL (t_pure (.bool true))<|sL (t_pure (.pointer (some ⟨g7,0,none⟩)))<|sL (t_pure (.pointer (some ⟨g7,0,none⟩)))<|sL (t_pure (.pointer (some ⟨g7,2,none⟩)))<|s_mem2 (fun H h=>nds_focus hq9 hf8 (h.re [3] [])) (fun rv10 ev11 _=>?_)
 refine sL (t_load 0 (iw (clI G k id)))<|sL t_cmp<|sL (t_pure (.bool (decide ((clI G k id)=0))))<|s_nil<|xs_then<|k_cond (decide ((clI G k id)=0)) (fun c12=>?_) (fun c12=>?_)
 .have p13:=dY c12;have hz:=p13;refine k_seq<|k_reg<|sL (t_pure (.pointer (some ⟨g7,0,none⟩)))<|sL (t_pure (.pointer (some ⟨g7,0,none⟩)))<|sL (t_pure (.pointer (some ⟨g7,2,none⟩)))<|s_store 0 #[rv10,ev11,iw 1] ?_
  refine s_nil<|xs_then<|k_reg<|sL (t_pure (.pointer (some ⟨b,0,none⟩)))<|sL (t_pure (.pointer (some ⟨b,0,none⟩)))<|sL (t_pure (.pointer (some ⟨b,0,none⟩)))<|sL (t_pure (.pointer (some ⟨b,1,none⟩)))<|sL (t_load 4 qv2)<|sL (t_pure (iw id))<|s_buildSlice (e:=3) [(0,iw id)] #[iw id] (fun g14=>?_) (hb:=by kernel_rfl)
  refine s_appendO (L:=(G.drop q)) 7 iTy_ok Tryz.underlying23 (.lit 0 iTy_ok [id]) (by show _*8≤_;(try simp only[List.length_nil,List.length_cons,List.length_append,List.length_take,List.length_drop,List.length_set,List.length_replicate,List.length_reverse]);omega) (by (try simp only[List.length_nil,List.length_cons,List.length_append,List.length_take,List.length_drop,List.length_set,List.length_replicate,List.length_reverse]);omega) (fun v15=>?_);refine s_fact (fun H h=>((Acc.ownO (T:=iTy) (L:=((G.drop q)++[id])) 7 rfl) H h).form) (fun hf16=>?_);refine sL (t_pure (.pointer (some ⟨b,0,none⟩)))<|sL (t_pure (.pointer (some ⟨b,1,none⟩)))<|s_store (u:=v15) (m:=1) 5 #[.map (some mb1),v15] ?_ (hm:=by (obtain⟨_,_,e⟩:=hf16;rw[e];rfl)) (h1:=by (obtain⟨_,_,e⟩:=hf16;rw[e];rfl)) (ha':=by (obtain⟨_,_,e⟩:=hf16;rw[e];rfl))
  refine s_nil<|xs_fact (fun H h=>(h.mp (i:=6) rfl).nodup) (fun hnd17=>?_)
  refine xs_mem (fun _ h=>nds_back (G':=(G++[id])) (k':=k) hnd17 hq9 hf8 ((clI_new hk (clI_zero hz)).trans (if_pos rfl)) (fun x hx=>(clI_new hk (clI_zero hz)).trans (if_neg hx)) (h.re [1,1,1,1] [])) ?_;refine xs_mem (fun _ h=>mr_shut (q:=q) hps3 (List.drop_append_of_le_length hq).symm (h.re [2,2,2,0] [])) ?_;refine xs_finN [] (mrA b l ps (G++[id]) k q::F) SI.nil (rr [0] [1]) ⟨rfl,?_⟩;rw[sr1_yes (alO_is hf8) (clI_zero hz)]
 have p18:=dF c12;have hz0:=p18;refine k_skip<|xs_fact (fun H h=>(h.mp (i:=5) rfl).nodup) (fun hnd19=>?_)
 refine xs_mem (fun _ h=>nds_back (G':=G) (k':=k) hnd19 hq9 hf8 rfl (fun _ _=>rfl) (h.re [0,0,0,0] [])) ?_;refine xs_mem (fun _ h=>mr_shut (q:=q) hps3 rfl (h.re [1,1,1,0] [])) ?_;refine xs_finN [] (mrA b l ps G k q::F) SI.nil (rr [0] []) ⟨rfl,?_⟩;rw[sr1_in (clI_ne hz0)]
theorem mentries_s{Z:Zone}{x:Ob}(hx:KnO Z x)(hl:x.ents.length≤100000):SF Tryz.prog 184 #[x.v] Z [] fun r Bs=>Bs=[own iTy r (entI x)]:=by
 refine sf_enter Tryz.func184 22 [(0,.agg #[iw x.id,iw x.size,iw x.weak,x.rv.v,x.ev.v])] (fun w0=>?_);refine k_seq<|k_reg<|s_box #[iw x.id,iw x.size,iw x.weak,x.rv.v,x.ev.v] (fun g1=>?_)
 refine sL (t_pure (.slice none 0 0))<|s_nil<|xs_then<|k_seq<|k_reg<|sL (t_pure (.slice none 0 0))<|s_nil<|xs_then<|k_seq<|k_seq<|k_reg<|sL (t_pure (.pointer (some ⟨g1,4,none⟩)))<|sL (t_load 0 x.ev.v)<|sL (t_len EntT_ok Tryz.underlying98 (.zn hx.2))<|sL (t_pure (iw 0))<|s_nil<|xs_then<|k_block<|k_fact (fun H h=>(hx.2.get h).len_le) (fun le=>?_)
 refine k_mem (fun _ h=>Holds.nilS (T:=iTy) h) ?_;refine k_mem (Bs:=[own iTy (.slice none 0 0) ((x.ents.take 0).flatMap allE),blkA g1 #[iw x.id,iw x.size,iw x.weak,x.rv.v,x.ev.v] 100]) (fun _ h=>h) ?_;refine k_loop (ι:=Value×Nat) (fun (sx,i)=>i≤x.ents.length) (fun (sx,i)=>[(2,(.slice none 0 0)),(3,sx),(7,x.ev.v),(8,iw (x.ents.length:Int)),(9,iw (i:Int))]) (fun (sx,i)=>[own iTy sx ((x.ents.take i).flatMap allE),blkA g1 #[iw x.id,iw x.size,iw x.weak,x.rv.v,x.ev.v] 100]) (fun (sx,i)=>x.ents.length-i) (.slice none 0 0,0) (Nat.zero_le _) sA (rr [0,0] []) ?_;rintro⟨sx,i⟩ hi2;replace hi2:i≤x.ents.length:=hi2;show SK _ _ _ _ _ [(2,(.slice none 0 0)),(3,sx),(7,x.ev.v),(8,iw (x.ents.length:Int)),(9,iw (i:Int))] _ [own iTy sx ((x.ents.take i).flatMap allE),blkA g1 #[iw x.id,iw x.size,iw x.weak,x.rv.v,x.ev.v] 100];have hel:=ent_len (x.ents.take i);rw[List.length_take]at hel;refine k_seq<|k_reg<|sL t_cmp<|s_nil<|xs_then<|k_seq<|k_cond (decide ((i:Int)<(x.ents.length:Int))) (fun c3=>?_) (fun c3=>?_)
 .have p4:=dY c3;refine k_skip<|xs_then<|k_seq<|k_block<|k_seq<|k_reg<|sL (t_index EntT_ok Tryz.underlying98 (.zn hx.2) (i:Int) i om (by (try simp only[List.length_nil,List.length_cons,List.length_append,List.length_take,List.length_drop,List.length_set,List.length_replicate,List.length_reverse]);omega) om) ?_
  obtain⟨y5,hy6⟩:∃y,x.ents[i]?=some y:=⟨_,List.getElem?_eq_getElem (by (try simp only[List.length_nil,List.length_cons,List.length_append,List.length_take,List.length_drop,List.length_set,List.length_replicate,List.length_reverse]);omega)⟩;refine sL (t_loadE EntT_ok (.zn hx.2) hy6)<|s_alloc (.agg #[iw 0,iw 0]) #[iw 0,iw 0] (fun g7=>?_)
  refine s_store 0 #[iw y5.key,iw y5.val] ?_;refine s_nil<|xs_then<|k_reg<|sL (t_pure sx)<|sL (t_pure (.pointer (some ⟨g7,0,none⟩)))<|sL (t_load 0 (iw y5.key))<|sL (t_pure (.pointer (some ⟨g7,1,none⟩)))<|sL (t_load 0 (iw y5.val))<|s_buildSlice (e:=3) [(0,iw y5.key),(1,iw y5.val)] #[iw y5.key,iw y5.val] (fun g8=>?_) (hb:=by kernel_rfl)
  refine s_append (L:=((x.ents.take i).flatMap allE)) 2 iTy_ok Tryz.underlying23 (.lit 0 iTy_ok [y5.key,y5.val]) (by show _*8≤_;(try simp only[List.length_nil,List.length_cons,List.length_append,List.length_take,List.length_drop,List.length_set,List.length_replicate,List.length_reverse]);omega) (by (try simp only[List.length_nil,List.length_cons,List.length_append,List.length_take,List.length_drop,List.length_set,List.length_replicate,List.length_reverse]);omega) (fun v9=>?_);refine sF 2 (fun hf10=>?_);refine sL (t_pure v9)<|s_nil<|xs_block<|xs_then<|k_reg<|sL (t_add (i:Int) 1 (by (try simp only[List.length_nil,List.length_cons,List.length_append,List.length_take,List.length_drop,List.length_set,List.length_replicate,List.length_reverse]);omega))<|sL (t_pure (iw ((i:Int)+1)))<|s_nil ?_
  rw[ent_take hy6];exact xs_round (v9,i+1) (by show x.ents.length-(i+1)<x.ents.length-i;omega) (by show i+1≤x.ents.length;omega) sA (rr [2,2] [2,2])
 have p11:=dF c3;refine k_exit<|xs_exit<|xs_exit<|xs_here<|xs_then<|k_seq<|k_reg<|sL (t_pure sx)<|sL (t_pure sx)<|s_nil<|xs_then<|k_ret ?_
 exact xs_fin [sx] [own iTy sx (entI x)] (SI.tmp 2 SI.nil) (fun _ h=>by rw[List.take_of_length_le om]at h;exact h.re [0] [1]) rfl
theorem mall_s{Z:Zone}{F:List Asr}{g:Nat}{rv ev:Value}{cv:Int}{A B:List Int}(hA:A.length≤1000000)(hB:B.length≤1000000):SF Tryz.prog 186 #[ndV g] Z (blkA g #[rv,ev,iw cv] 177::own iTy rv A::own iTy ev B::F) fun r Bs=>Bs=own iTy r (A++B)::blkA g #[rv,ev,iw cv] 177::own iTy rv A::own iTy ev B::F:=by
 refine sf_enter Tryz.func186 13 [(0,.pointer (some ⟨g,0,none⟩))] (fun w0=>?_);refine k_seq<|k_reg<|sL (t_pure (.slice none 0 0))<|s_nil<|xs_then<|k_seq<|k_draw<|sL (t_pure (.pointer (some ⟨g,0,none⟩)))<|sL (t_pure (.pointer (some ⟨g,0,none⟩)))<|sL (t_pure (.pointer (some ⟨g,0,none⟩)))<|sL (t_load 0 rv)<|sL (t_pure (.pointer (some ⟨g,0,none⟩)))<|sL (t_pure (.pointer (some ⟨g,0,none⟩)))<|sL (t_pure (.pointer (some ⟨g,1,none⟩)))<|sL (t_load 0 ev)<|sF 1 (fun hf1=>?_)
 obtain⟨pp2,cc3,e⟩:=hf1;subst e;refine sF 2 (fun hf4=>?_);obtain⟨pp5,cc6,e⟩:=hf4;subst e;refine s_buildSlice (e:=23) [(0,(.slice pp2 A.length cc3)),(1,(.slice pp5 B.length cc6))] #[(.slice pp2 A.length cc3),(.slice pp5 B.length cc6)] (fun g7=>?_) (hb:=by kernel_rfl);refine s_pcall (fun _ h=>concat_s (S:=[⟨pp2,cc3,A⟩,⟨pp5,cc6,B⟩]) (Acc.kn (T:=SqT) (Acc.lit 0 SqT_ok [⟨pp2,cc3,A⟩,⟨pp5,cc6,B⟩]) h) (each_cons2 (Acc.kn (T:=iTy) (.own 2) h) (each_cons2 (Acc.kn (T:=iTy) (.own 3) h) each_nil2)) (by show 2≤100;decide) (each_cons2 (by show A.length≤_;(try simp only[List.length_nil,List.length_cons,List.length_append,List.length_take,List.length_drop,List.length_set,List.length_replicate,List.length_reverse]);omega) (each_cons2 (by show B.length≤_;(try simp only[List.length_nil,List.length_cons,List.length_append,List.length_take,List.length_drop,List.length_set,List.length_replicate,List.length_reverse]);omega) each_nil2))) ?_;rintro v8 _ rfl;have hcat:cat [⟨pp2,cc3,A⟩,⟨pp5,cc6,B⟩]=(A++B):=by simp[cat]
 refine s_mem (Bs:=own iTy v8 (A++B)::blkA g7 #[(.slice pp2 A.length cc3),(.slice pp5 B.length cc6)] 23::blkA g #[(.slice pp2 A.length cc3),(.slice pp5 B.length cc6),iw cv] 177::own iTy (.slice pp2 A.length cc3) A::own iTy (.slice pp5 B.length cc6) B::F) (fun _ h=>by rw[hcat]at h;exact h) ?_;refine sF 0 (fun hf9=>?_);refine sL (t_pure v8)<|s_nil<|x_dynS (fun _ h=>by kernel_rfl) ?_
 refine xs_then<|k_ret ?_
 exact xs_fin [v8] (own iTy v8 (A++B)::blkA g #[(.slice pp2 A.length cc3),(.slice pp5 B.length cc6),iw cv] 177::own iTy (.slice pp2 A.length cc3) A::own iTy (.slice pp5 B.length cc6) B::F) (SI.tmp 2 SI.nil) (rr [0,1,1,1] [4]) rfl
theorem ps_next{l:List Ob}(hs:Asc l){ps:List (Int×Nat)}{i g:Nat}{y:Ob}(hp:ps.map Prod.fst=(l.take i).map Ob.id)(hy:l[i]?=some y):y.id∉ps.map Prod.fst∧(aset ps y.id g).map Prod.fst=(l.take (i+1)).map Ob.id:=by
 have hn:y.id∉ps.map Prod.fst:=by
  rw[hp];intro hm;obtain⟨o,ho,e⟩:=List.mem_map.1 hm;obtain⟨j,hj⟩:=List.mem_iff_getElem?.1 ho;rw[List.getElem?_take]at hj;split at hj
  .rename_i hlt;have:=asc_lt hs hj hy hlt;omega
  cases hj
 refine⟨hn,?_⟩;rw[aset_new (apos_none_of hn),List.take_add_one,hy];simp[hp]
theorem ps_len{l:List Ob}{ps:List (Int×Nat)}(h:ps.map Prod.fst=l.map Ob.id):ps.length=l.length:=by
 have:=congrArg List.length h;simpa using this
theorem max_min{p a:Nat}(h:p=a):Value.int .i64 (if (0:Int)<(if (p:Int)<(a:Int) then (p:Int) else (a:Int)) then (if (p:Int)<(a:Int) then (p:Int) else (a:Int)) else 0)=iw (a:Int):=by
 subst h;have e:(if (p:Int)<(p:Int) then (p:Int) else (p:Int))=p:=by split<;>rfl
 rw[e];split
 .rfl
 exact congrArg _ om
theorem ns_len(l:List Ob)(X:List Int)(h:l.length≤100000):(srs (alO l) [] X).length≤1000000:=Nat.le_trans ((ns_nil l).srs X).len om
theorem bf_sml{l:List Ob}{o:Ob}{id:Int}(hsm:∀o∈l,o.refs.length≤100000∧o.ents.length≤100000)(h:fnd l id=some o):o.refs.length≤1000000∧(entI o).length≤1000000:=by
 have:=hsm o (fnd_id h).2;unfold entI;rw[ent_len];omega
theorem mnew_s{Z:Zone}{ov rv:Value}{l:List Ob}{R:List Int}(hg:KnG Z ov rv l R)(hc:chk 0 l=true)(hs:Asc l)(hl:l.length≤100000)(hsm:∀o∈l,o.refs.length≤100000∧o.ents.length≤100000):SF Tryz.prog 131 #[.agg #[ov,rv]] Z [] fun r Bs=>∃b ps,r=.tuple #[.pointer (some ⟨b,0,none⟩),iw 0]∧Bs=[mrA b l ps (srs (alO l) [] R) 0 0]:=by
 refine sf_enter Tryz.func131 51 [(0,.agg #[ov,rv])] (fun w0=>?_);refine k_fact (fun H h=>(hg.obs.get h).len_le) (fun lA=>?_);refine k_fact (fun H h=>(hg.roots.get h).len_le) (fun lR=>?_);refine k_seq<|k_reg<|s_box #[ov,rv] (fun g1=>?_)
 refine sL (t_pure (.pointer none))<|sL (t_pure (iw 0))<|s_nil<|xs_then<|k_seq<|k_seq<|k_reg<|sL (t_loadA 0 #[ov,rv])<|sV (fun _ h=>mcheck_s (hg.up h))<|sL (t_pure (iw (errI (chk 0 l))))<|s_nil<|xs_then<|k_seq<|k_reg<|sL (t_pure (iw (errI (chk 0 l))))<|sL (Lt.to t_cmp (cB (decide_eq_false (fun e=>e (by rw[hc];rfl)):(decide ((errI (chk 0 l))≠0))=false)))<|s_nil<|xs_then<|k_false<|k_skip<|xs_then<|k_seq<|k_reg<|s_makeMap (Go.Mem.intK 3) ndV (fun b2=>?_)
 refine sL (t_kern (.agg #[.map (some b2),(.slice none 0 0)]))<|s_box #[.map (some b2),(.slice none 0 0)] (fun g3=>?_)
 refine sL (t_pure (.pointer (some ⟨g3,0,none⟩)))<|s_nil<|xs_then<|k_seq<|k_seq<|k_reg<|sL (t_pure (.pointer (some ⟨g1,0,none⟩)))<|sL (t_load 2 ov)<|sL (t_len ObT_ok Tryz.underlying55 (.zn hg.obs))<|sL (t_pure (iw 0))<|s_nil<|xs_then<|k_block<|k_mem (fun _ h=>nds_nil (l:=l) (G:=[]) (k:=0) h) ?_
 refine k_loop (ι:=List (Int×Nat)×Nat) (fun (ps,i)=>i≤l.length∧ps.map Prod.fst=(l.take i).map Ob.id) (fun (ps,i)=>[(1,.pointer (some ⟨g1,0,none⟩)),(2,.pointer none),(3,iw 0),(5,.pointer (some ⟨g3,0,none⟩)),(19,ov),(20,iw (l.length:Int)),(21,iw (i:Int))]) (fun (ps,i)=>[ndsA ps l [] 0,blkA g3 #[.map (some b2),(.slice none 0 0)] 181,mpA (Go.Mem.intK 3) ndV b2 ps,blkA g1 #[ov,rv] 57]) (fun (ps,i)=>l.length-i) ([],0) ⟨Nat.zero_le _,rfl⟩ sA (rr [0,0,0,0] []) ?_;rintro⟨ps,i⟩ hi4;replace hi4:i≤l.length∧ps.map Prod.fst=(l.take i).map Ob.id:=hi4;show SK _ _ _ _ _ [(1,.pointer (some ⟨g1,0,none⟩)),(2,.pointer none),(3,iw 0),(5,.pointer (some ⟨g3,0,none⟩)),(19,ov),(20,iw (l.length:Int)),(21,iw (i:Int))] _ [ndsA ps l [] 0,blkA g3 #[.map (some b2),(.slice none 0 0)] 181,mpA (Go.Mem.intK 3) ndV b2 ps,blkA g1 #[ov,rv] 57];refine k_seq<|k_reg<|sL t_cmp<|s_nil<|xs_then<|k_seq<|k_cond (decide ((i:Int)<(l.length:Int))) (fun c5=>?_) (fun c5=>?_)
 .have p6:=dY c5;refine k_skip<|xs_then<|k_seq<|k_block<|k_seq<|k_reg<|sL (t_index ObT_ok Tryz.underlying55 (.zn hg.obs) (i:Int) i om (by (try simp only[List.length_nil,List.length_cons,List.length_append,List.length_take,List.length_drop,List.length_set,List.length_replicate,List.length_reverse]);omega) om) ?_
  obtain⟨y7,hy8⟩:∃y,l[i]?=some y:=⟨_,List.getElem?_eq_getElem (by (try simp only[List.length_nil,List.length_cons,List.length_append,List.length_take,List.length_drop,List.length_set,List.length_replicate,List.length_reverse]);omega)⟩;have hk9:=hg.each y7 (List.mem_of_getElem? hy8);have hsy:=hsm y7 (List.mem_of_getElem? hy8);refine sL (t_loadE ObT_ok (.zn hg.obs) hy8)<|s_alloc (.agg #[iw 0,iw 0,iw 0,(.slice none 0 0),(.slice none 0 0)]) #[iw 0,iw 0,iw 0,(.slice none 0 0),(.slice none 0 0)] (fun g10=>?_)
  refine s_store 0 #[iw y7.id,iw y7.size,iw y7.weak,y7.rv.v,y7.ev.v] ?_;refine s_nil<|xs_then<|k_held [blkA g10 #[iw y7.id,iw y7.size,iw y7.weak,y7.rv.v,y7.ev.v] 100,blkA g3 #[.map (some b2),(.slice none 0 0)] 181,blkA g1 #[ov,rv] 57] ?_
  refine h_lt 0 rfl (np_block (np_then (np_then (np_block (np_then np_finS))))) [0,1,2] (fun _=>(t_pure (.pointer (some ⟨g3,0,none⟩)))) ?_;refine h_lt 1 rfl (np_block (np_then (np_then (np_block (np_then np_finS))))) [0,1,2] (fun _=>(t_pure (.pointer (some ⟨g3,0,none⟩)))) ?_;refine h_lt 2 rfl (np_block (np_then (np_then (np_block (np_then np_finS))))) [0,1,2] (fun _=>(t_pure (.pointer (some ⟨g3,0,none⟩)))) ?_;refine h_lt 3 rfl (np_block (np_then (np_then (np_block (np_then np_finS))))) [0,1,2] (fun _=>(t_load 1 (.map (some b2)))) ?_;refine h_lt 4 rfl (np_block (np_then (np_then (np_block (np_then np_finS))))) [0,1,2] (fun _=>(t_pure (.pointer (some ⟨g10,0,none⟩)))) ?_;refine h_lt 5 rfl (np_block (np_then (np_then (np_block (np_then np_finS))))) [0,1,2] (fun _=>(t_load 0 (iw y7.id))) ?_;refine h_lt 6 rfl (np_block (np_then (np_then (np_block (np_then np_finS))))) [0,1,2] (fun _=>(t_pure (.pointer (some ⟨g10,3,none⟩)))) ?_;refine h_lt 7 rfl (np_block (np_then (np_then (np_block (np_then np_finS))))) [0,1,2] (fun _=>(t_load 0 y7.rv.v)) ?_;refine h_lt 9 rfl (np_block (np_then (np_then (np_block (np_then np_finS))))) [0,1,2] (fun _=>(t_loadA 0 #[iw y7.id,iw y7.size,iw y7.weak,y7.rv.v,y7.ev.v])) ?_;refine h_stepS 8 ?_;refine s_pcall (fun _ h=>clone_s (Acc.kn (.zn hk9.1) h) (by (try simp only[List.length_nil,List.length_cons,List.length_append,List.length_take,List.length_drop,List.length_set,List.length_replicate,List.length_reverse]);omega)) ?_;rintro v11 _ rfl;refine sF 0 (fun hf12=>?_);refine nH [1,2,3]<|h_stepS 10 ?_
  refine s_pcall (fun _ h=>mentries_s (x:=y7) ⟨Kn.up hk9.1 h,Kn.up hk9.2 h⟩ (by (try simp only[List.length_nil,List.length_cons,List.length_append,List.length_take,List.length_drop,List.length_set,List.length_replicate,List.length_reverse]);omega)) ?_;rintro v13 _ rfl;refine sF 0 (fun hf14=>?_);refine nH [2,3,4]<|h_lt 11 rfl (np_block (np_then (np_then (np_block (np_then np_finS))))) [2,3,4] (fun _=>(show Lt _ _ _ _ _ (.agg #[v11,v13,iw 0]) from by obtain⟨_,_,e⟩:=hf12;rw[e];clear e;obtain⟨_,_,e⟩:=hf14;rw[e];clear e;exact t_kern _)) ?_
  refine h_stepS 12 ?_;refine s_box #[v11,v13,iw 0] (fun g15=>?_);refine nH [3,4,5]<|h_stepS 13 ?_
  refine s_update 6 intOk Tryz.underlying179 y7.id g15 ?_;refine nH [3,4,5]<|h_doneS ?_
  refine xs_block<|xs_then<|k_reg<|sL (t_add (i:Int) 1 (by (try simp only[List.length_nil,List.length_cons,List.length_append,List.length_take,List.length_drop,List.length_set,List.length_replicate,List.length_reverse]);omega))<|sL (t_pure (iw ((i:Int)+1)))<|s_nil ?_
  obtain⟨hn,hq⟩:=ps_next (g:=g15) hs hi4.2 hy8;refine xs_mem (fun _ h=>nds_new hn (fnd_mem hs (List.mem_of_getElem? hy8)) (h.re [0,1,0,1] [])) ?_;exact xs_round (aset ps y7.id g15,i+1) (by show l.length-(i+1)<l.length-i;omega) ⟨by omega,hq⟩ sA (rr [0,1,1,1] [4])
 have p16:=dF c5;refine k_exit ?_;have hps:ps.map Prod.fst=l.map Ob.id:=by rw[hi4.2,List.take_of_length_le om]
 refine xs_mem (fun _ h=>Holds.nilO (T:=iTy) h) ?_;refine xs_mem (fun _ h=>mr_shut (q:=0) hps rfl (h.re [2,2,0,0] [])) ?_;have hRl:∀X:List Int,(srs (alO l) [] X).length≤1000000:=fun X=>ns_len l X hl
 refine xs_exit<|xs_exit<|xs_here<|xs_then<|k_seq<|k_seq<|k_reg<|sL (t_pure (.pointer (some ⟨g1,1,none⟩)))<|sL (t_load 1 rv)<|sL (t_len iTy_ok Tryz.underlying23 (.zn hg.roots))<|sL (t_pure (iw 0))<|s_nil<|xs_then<|k_block<|k_mem (Bs:=[mrA g3 l ps (srs (alO l) [] (R.take 0)) 0 0,blkA g1 #[ov,rv] 57]) (fun _ h=>h) ?_
 refine k_loop (ι:=Nat) (fun j=>j≤R.length) (fun j=>[(2,.pointer none),(3,iw 0),(5,.pointer (some ⟨g3,0,none⟩)),(40,rv),(41,iw (R.length:Int)),(42,iw (j:Int))]) (fun j=>[mrA g3 l ps (srs (alO l) [] (R.take j)) 0 0,blkA g1 #[ov,rv] 57]) (fun j=>R.length-j) 0 (Nat.zero_le _) sA (rr [0,0] []) ?_;rintro j hi17;show SK _ _ _ _ _ [(2,.pointer none),(3,iw 0),(5,.pointer (some ⟨g3,0,none⟩)),(40,rv),(41,iw (R.length:Int)),(42,iw (j:Int))] _ [mrA g3 l ps (srs (alO l) [] (R.take j)) 0 0,blkA g1 #[ov,rv] 57];refine k_seq<|k_reg<|sL t_cmp<|s_nil<|xs_then<|k_seq<|k_cond (decide ((j:Int)<(R.length:Int))) (fun c18=>?_) (fun c18=>?_)
 .have p19:=dY c18;refine k_skip<|xs_then<|k_seq<|k_block<|k_seq<|k_reg<|sL (t_index iTy_ok Tryz.underlying23 (.zn hg.roots) (j:Int) j om (by (try simp only[List.length_nil,List.length_cons,List.length_append,List.length_take,List.length_drop,List.length_set,List.length_replicate,List.length_reverse]);omega) om) ?_
  obtain⟨y20,hy21⟩:∃y,R[j]?=some y:=⟨_,List.getElem?_eq_getElem (by (try simp only[List.length_nil,List.length_cons,List.length_append,List.length_take,List.length_drop,List.length_set,List.length_replicate,List.length_reverse]);omega)⟩;refine sL (t_loadE iTy_ok (.zn hg.roots) hy21)<|sL (t_pure (iw y20))<|s_nil<|xs_then<|k_reg<|sL (t_pure (.pointer (some ⟨g3,0,none⟩)))<|sL (t_pure (iw y20))<|sC [0] (mreach_s (G:=(srs (alO l) [] (R.take j))) (k:=0) (q:=0) (Nat.zero_le _) (Nat.zero_le _) (hRl _) y20) ?_
  refine s_nil<|xs_block<|xs_then<|k_reg<|sL (t_add (j:Int) 1 (by (try simp only[List.length_nil,List.length_cons,List.length_append,List.length_take,List.length_drop,List.length_set,List.length_replicate,List.length_reverse]);omega))<|sL (t_pure (iw ((j:Int)+1)))<|s_nil ?_
  rw[←srs_take hy21];exact xs_round (j+1) (by show R.length-(j+1)<R.length-j;omega) om sA (rr [0,0] [])
 have p22:=dF c18;refine k_exit<|xs_exit<|xs_exit<|xs_here<|xs_then<|k_seq<|k_reg<|sL (t_pure (.pointer (some ⟨g3,0,none⟩)))<|sL (t_pure (.pointer (some ⟨g3,0,none⟩)))<|sL (t_pure (iw 0))<|s_nil<|xs_then<|k_ret ?_
 exact xs_fin [.pointer (some ⟨g3,0,none⟩),iw 0] [mrA g3 l ps (srs (alO l) [] R) 0 0] (SI.tmp 2 (SI.tmp 3 SI.nil)) (fun _ h=>by rw[List.take_of_length_le om]at h;exact h.re [0] [1]) ⟨g3,ps,rfl,rfl⟩
theorem mstep_s{Z:Zone}{F:List Asr}{b:Nat}{l:List Ob}{R G:List Int}{ps:List (Int×Nat)}(hl:l.length≤100000)(hsm:∀o∈l,o.refs.length≤100000∧o.ents.length≤100000)(hB:Bq (alO l) (rfO l) R 0 G):SF Tryz.prog 132 #[.pointer (some ⟨b,0,none⟩),iw (l.length:Int)] Z (mrA b l ps G 0 0::F) fun r Bs=>∃G1 k,Bq (alO l) (rfO l) R k G1∧G1.length≤k∧Bs=mrA b l ps G1 k k::F:=by
 refine sf_enter Tryz.func132 66 [(0,.pointer (some ⟨b,0,none⟩)),(1,iw (l.length:Int))] (fun w0=>?_);refine k_seq<|k_reg<|sL (t_pure (.bool false))<|s_nil<|xs_then<|k_seq<|k_seq<|k_reg<|sL (t_pure (.pointer (some ⟨b,0,none⟩)))<|sL (t_pure (.bool false))<|s_nil<|xs_then<|k_false<|k_skip<|xs_then<|k_seq<|k_seq<|k_reg<|sL (t_pure (iw (l.length:Int)))<|sL (t_pure (.pointer (some ⟨b,0,none⟩)))<|sL (t_pure (.pointer (some ⟨b,0,none⟩)))<|sL (t_pure (.pointer (some ⟨b,0,none⟩)))<|s_mem2 (fun H h=>mr_open (h.re [0] [])) (fun mb1 qv2 hw=>?_)
 have hps3:=hw;refine sL (t_load 0 (.map (some mb1)))<|sL (t_lenM 1 Tryz.underlying179)<|sL t_min<|sL (Lt.to (v':=iw (l.length:Int)) t_max (max_min (ps_len hps3)))<|sL (t_pure (iw 0))<|s_nil<|xs_then<|k_block<|k_mem (fun _ h=>mr_shut (q:=0) hps3 rfl (h.re [0,0,0,0] [])) ?_
 refine k_loop (ι:=List Int×Nat) (fun (G1,i)=>i≤l.length∧Bq (alO l) (rfO l) R i G1) (fun (G1,i)=>[(0,.pointer (some ⟨b,0,none⟩)),(4,.bool false),(17,iw (l.length:Int)),(18,iw (i:Int))]) (fun (G1,i)=>mrA b l ps G1 i i::F) (fun (G1,i)=>l.length-i) (G,0) ⟨Nat.zero_le _,hB⟩ sA (rr [0] []) ?_;rintro⟨G1,i⟩ hi4;replace hi4:i≤l.length∧Bq (alO l) (rfO l) R i G1:=hi4;show SK _ _ _ _ _ [(0,.pointer (some ⟨b,0,none⟩)),(4,.bool false),(17,iw (l.length:Int)),(18,iw (i:Int))] _ (mrA b l ps G1 i i::F);obtain⟨hj1,hj2⟩:=id hi4;have hGl:=hj2.len (fun x hx=>al_ids hx);rw[List.length_map]at hGl;have hdl:(G1.drop i).length=G1.length-i:=List.length_drop;refine k_seq<|k_reg<|sL t_cmp<|s_nil<|xs_then<|k_seq<|k_cond (decide ((i:Int)<(l.length:Int))) (fun c5=>?_) (fun c5=>?_)
 .have p6:=dY c5;refine k_skip<|xs_then<|k_seq<|k_block<|k_seq<|k_seq<|k_reg<|sL (t_pure (.pointer (some ⟨b,0,none⟩)))<|sL (t_pure (.pointer (some ⟨b,0,none⟩)))<|sL (t_pure (.pointer (some ⟨b,1,none⟩)))<|s_mem2 (fun H h=>mr_open (h.re [0] [])) (fun mb7 qv8 hw=>?_)
  have hps9:=hw;refine sL (t_load 0 qv8)<|sL (t_len iTy_ok Tryz.underlying23 (.ownO 2))<|sL t_cmp<|s_nil<|xs_then<|k_cond (decide (((G1.drop i).length:Int)=0)) (fun c10=>?_) (fun c10=>?_)
  .have p11:=dY c10;refine k_exit<|xs_exit<|xs_other<|xs_exit<|xs_exit<|xs_here<|xs_then<|k_seq<|k_reg<|sL (t_pure (.pointer (some ⟨b,0,none⟩)))<|sL (t_pure (.pointer (some ⟨b,0,none⟩)))<|sL (t_pure (.pointer (some ⟨b,1,none⟩)))<|sL (t_load 0 qv8)<|sL (t_len iTy_ok Tryz.underlying23 (.ownO 2))<|sL (Lt.to t_cmp (cB (c10:(decide (((G1.drop i).length:Int)=0))=true)))<|sL (t_pure (.bool true))<|s_nil<|xs_then<|k_ret<|xs_mem (fun _ h=>mr_shut (q:=i) hps9 rfl (h.re [0,0,0,0] [])) ?_
   refine xs_fin [.bool true] (mrA b l ps G1 i i::F) (SI.tmp 4 SI.nil) (rr [0] []) ⟨G1,i,hj2,by omega,rfl⟩
  have p12:=dF c10;refine k_skip<|xs_then<|k_seq<|k_draw<|sL (t_pure (.pointer (some ⟨b,0,none⟩)))<|sL (t_pure (.pointer (some ⟨b,0,none⟩)))<|sL (t_pure (.pointer (some ⟨b,0,none⟩)))<|sL (t_load 0 (.map (some mb7)))<|sL (t_pure (.pointer (some ⟨b,0,none⟩)))<|sL (t_pure (.pointer (some ⟨b,0,none⟩)))<|sL (t_pure (.pointer (some ⟨b,1,none⟩)))<|sL (t_load 0 qv8)<|sL (t_index iTy_ok Tryz.underlying23 (.ownO 2) 0 0 om (by (try simp only[List.length_nil,List.length_cons,List.length_append,List.length_take,List.length_drop,List.length_set,List.length_replicate,List.length_reverse]);omega) om) ?_
  obtain⟨y13,hy14⟩:∃y,(G1.drop i)[0]?=some y:=⟨_,List.getElem?_eq_getElem (by (try simp only[List.length_nil,List.length_cons,List.length_append,List.length_take,List.length_drop,List.length_set,List.length_replicate,List.length_reverse]);omega)⟩;refine sL (t_loadE iTy_ok (.ownO 2) hy14) ?_;have hGy:=get_drop0 hy14;obtain⟨ob17,g18,hf19,hq20⟩:=nd_must hps9 (hj2.snd y13 (List.mem_of_getElem? hGy)).1;refine sL (Lt.to (v':=ndV g18) (t_lookup 1 intOk Tryz.underlying179 (.pointer none) y13) (by rw[hq20];rfl))<|sL (t_pure (.pointer (some ⟨g18,0,none⟩)))<|s_nil<|x_dynS (fun _ h=>by kernel_rfl) ?_
  refine xs_then<|k_seq<|k_reg<|sL (t_pure (.pointer (some ⟨b,0,none⟩)))<|sL (t_pure (.pointer (some ⟨b,0,none⟩)))<|sL (t_pure (.pointer (some ⟨b,0,none⟩)))<|sL (t_pure (.pointer (some ⟨b,1,none⟩)))<|sL (t_load 0 qv8)<|sL (t_suf iTy_ok Tryz.underlying23 (.ownO 2) 1 1 om (by (try simp only[List.length_nil,List.length_cons,List.length_append,List.length_take,List.length_drop,List.length_set,List.length_replicate,List.length_reverse]);omega) om)<|sL (t_pure (.pointer (some ⟨b,0,none⟩)))<|sL (t_pure (.pointer (some ⟨b,1,none⟩)))<|s_mem (fun _ h=>Holds.sufO (i:=2) h iTy_ok 1 rfl (by (try simp only[List.length_nil,List.length_cons,List.length_append,List.length_take,List.length_drop,List.length_set,List.length_replicate,List.length_reverse]);omega)) ?_
  refine s_fact (fun H h=>((Acc.ownO (T:=iTy) (L:=((G1.drop i).drop 1)) 2 rfl) H h).form) (fun hf21=>?_);refine s_store (u:=(suf iTy.size qv8 1)) (m:=1) 0 #[.map (some mb7),(suf iTy.size qv8 1)] ?_ (hm:=by (obtain⟨_,_,e⟩:=hf21;rw[e];rfl)) (h1:=by (obtain⟨_,_,e⟩:=hf21;rw[e];rfl)) (ha':=by (obtain⟨_,_,e⟩:=hf21;rw[e];rfl));refine s_nil<|xs_then<|k_seq<|k_seq<|k_reg<|sL (t_pure (.pointer (some ⟨g18,0,none⟩)))<|s_mem2 (fun H h=>nds_focus hq20 hf19 (h.re [3] [])) (fun rv22 ev23 _=>?_)
  refine s_call [0,0,0] (mall_s (A:=ob17.refs) (B:=entI ob17) (bf_sml hsm hf19).1 (bf_sml hsm hf19).2) ?_;rintro v24 _ rfl;refine s_mem (Bs:=own iTy v24 (allO ob17)::blkA g18 #[rv22,ev23,iw (clI G1 i y13)] 177::own iTy rv22 ob17.refs::own iTy ev23 (entI ob17)::ndsH ps l G1 i y13::blkA b #[.map (some mb7),(suf iTy.size qv8 1)] 181::mpA (Go.Mem.intK 3) ndV mb7 ps::ownO iTy (suf iTy.size qv8 1) ((G1.drop i).drop 1)::F) (fun _ h=>h) ?_;refine sF 0 (fun hf25=>?_);refine sL (t_len iTy_ok Tryz.underlying23 (.own 0))<|sL (t_pure (iw 0))<|s_nil<|xs_then<|k_block<|k_fact (fun H h=>(h.mp (i:=6) rfl).nodup) (fun hnd26=>?_)
  refine k_mem (fun _ h=>nds_back (G':=G1) (k':=i) hnd26 hq20 hf19 rfl (fun _ _=>rfl) (h.re [1,1,1,1] [])) ?_;refine k_mem (fun _ h=>mr_shut (q:=(i+1)) hps9 (drop_one _ _) (h.re [2,2,2,0] [])) ?_;refine k_mem (Bs:=mrA b l ps (srs (alO l) G1 ((allO ob17).take 0)) i (i+1)::own iTy v24 (allO ob17)::F) (fun _ h=>h) ?_;refine k_loop (ι:=Nat) (fun j=>j≤(allO ob17).length) (fun j=>[(0,.pointer (some ⟨b,0,none⟩)),(4,.bool false),(5,.pointer (some ⟨g18,0,none⟩)),(17,iw (l.length:Int)),(18,iw (i:Int)),(19,.bool (decide ((i:Int)<(l.length:Int)))),(20,.pointer (some ⟨b,0,none⟩)),(21,.pointer (some ⟨b,0,none⟩)),(22,.pointer (some ⟨b,1,none⟩)),(23,qv8),(24,iw ((G1.drop i).length:Int)),(25,.bool (decide (((G1.drop i).length:Int)=0))),(26,.pointer (some ⟨b,0,none⟩)),(27,.pointer (some ⟨b,0,none⟩)),(28,.pointer (some ⟨b,0,none⟩)),(29,.map (some mb7)),(30,.pointer (some ⟨b,0,none⟩)),(31,.pointer (some ⟨b,0,none⟩)),(32,.pointer (some ⟨b,1,none⟩)),(33,qv8),(34,.pointer (some (elemAt iTy.size qv8 0))),(35,iw y13),(36,.pointer (some ⟨g18,0,none⟩)),(37,.pointer (some ⟨b,0,none⟩)),(38,.pointer (some ⟨b,0,none⟩)),(39,.pointer (some ⟨b,0,none⟩)),(40,.pointer (some ⟨b,1,none⟩)),(41,qv8),(42,(suf iTy.size qv8 1)),(43,.pointer (some ⟨b,0,none⟩)),(44,.pointer (some ⟨b,1,none⟩)),(45,.pointer (some ⟨g18,0,none⟩)),(46,v24),(47,iw ((allO ob17).length:Int)),(48,iw (j:Int))]) (fun j=>mrA b l ps (srs (alO l) G1 ((allO ob17).take j)) i (i+1)::own iTy v24 (allO ob17)::F) (fun j=>(allO ob17).length-j) 0 (Nat.zero_le _) sA (rr [0,0] []) ?_;rintro j hi27;show SK _ _ _ _ _ [(0,.pointer (some ⟨b,0,none⟩)),(4,.bool false),(5,.pointer (some ⟨g18,0,none⟩)),(17,iw (l.length:Int)),(18,iw (i:Int)),(19,.bool (decide ((i:Int)<(l.length:Int)))),(20,.pointer (some ⟨b,0,none⟩)),(21,.pointer (some ⟨b,0,none⟩)),(22,.pointer (some ⟨b,1,none⟩)),(23,qv8),(24,iw ((G1.drop i).length:Int)),(25,.bool (decide (((G1.drop i).length:Int)=0))),(26,.pointer (some ⟨b,0,none⟩)),(27,.pointer (some ⟨b,0,none⟩)),(28,.pointer (some ⟨b,0,none⟩)),(29,.map (some mb7)),(30,.pointer (some ⟨b,0,none⟩)),(31,.pointer (some ⟨b,0,none⟩)),(32,.pointer (some ⟨b,1,none⟩)),(33,qv8),(34,.pointer (some (elemAt iTy.size qv8 0))),(35,iw y13),(36,.pointer (some ⟨g18,0,none⟩)),(37,.pointer (some ⟨b,0,none⟩)),(38,.pointer (some ⟨b,0,none⟩)),(39,.pointer (some ⟨b,0,none⟩)),(40,.pointer (some ⟨b,1,none⟩)),(41,qv8),(42,(suf iTy.size qv8 1)),(43,.pointer (some ⟨b,0,none⟩)),(44,.pointer (some ⟨b,1,none⟩)),(45,.pointer (some ⟨g18,0,none⟩)),(46,v24),(47,iw ((allO ob17).length:Int)),(48,iw (j:Int))] _ (mrA b l ps (srs (alO l) G1 ((allO ob17).take j)) i (i+1)::own iTy v24 (allO ob17)::F);have hgl:=(srs_ok (alO l) ((allO ob17).take j) G1).pre.length_le;have hgt:=(hj2.ns.srs ((allO ob17).take j)).len;have hGi:=(List.getElem?_eq_some_iff.1 hGy).1;have hal:=bf_sml hsm hf19;have hao:(allO ob17).length=ob17.refs.length+(entI ob17).length:=List.length_append;refine k_seq<|k_reg<|sL t_cmp<|s_nil<|xs_then<|k_seq<|k_cond (decide ((j:Int)<((allO ob17).length:Int))) (fun c28=>?_) (fun c28=>?_)
  .have p29:=dY c28;refine k_skip<|xs_then<|k_seq<|k_block<|k_seq<|k_reg<|sL (t_index iTy_ok Tryz.underlying23 (.own 1) (j:Int) j om (by (try simp only[List.length_nil,List.length_cons,List.length_append,List.length_take,List.length_drop,List.length_set,List.length_replicate,List.length_reverse]);omega) om) ?_
   obtain⟨y30,hy31⟩:∃y,(allO ob17)[j]?=some y:=⟨_,List.getElem?_eq_getElem (by (try simp only[List.length_nil,List.length_cons,List.length_append,List.length_take,List.length_drop,List.length_set,List.length_replicate,List.length_reverse]);omega)⟩;refine sL (t_loadE iTy_ok (.own 1) hy31)<|sL (t_pure (iw y30))<|s_nil<|xs_then<|k_reg<|sL (t_pure (.pointer (some ⟨b,0,none⟩)))<|sL (t_pure (iw y30))<|sC [0] (mreach_s (G:=(srs (alO l) G1 ((allO ob17).take j))) (k:=i) (q:=(i+1)) om om om y30) ?_
   refine s_nil<|xs_block<|xs_then<|k_reg<|sL (t_add (j:Int) 1 (by (try simp only[List.length_nil,List.length_cons,List.length_append,List.length_take,List.length_drop,List.length_set,List.length_replicate,List.length_reverse]);omega))<|sL (t_pure (iw ((j:Int)+1)))<|s_nil ?_
   rw[←srs_take hy31];exact xs_round (j+1) (by show (allO ob17).length-(j+1)<(allO ob17).length-j;omega) om sA (rr [0,0] [])
  have p32:=dF c28;refine k_exit ?_;obtain rfl:j=(allO ob17).length:=by omega
  rw[List.take_length];refine xs_exit<|xs_exit<|xs_here<|xs_then<|k_reg<|sL (t_pure (.pointer (some ⟨g18,0,none⟩)))<|sL (t_pure (.pointer (some ⟨g18,0,none⟩)))<|sL (t_pure (.pointer (some ⟨g18,2,none⟩)))<|s_mem2 (fun H h=>mr_open (h.re [0] [])) (fun mb33 qv34 hw=>?_)
  have hps35:=hw;refine s_mem2 (fun H h=>nds_focus hq20 hf19 (h.re [3] [])) (fun rv36 ev37 _=>?_);refine s_store 0 #[rv36,ev37,iw 2] ?_;refine s_nil<|xs_block<|xs_then<|k_reg<|sL (t_add (i:Int) 1 (by (try simp only[List.length_nil,List.length_cons,List.length_append,List.length_take,List.length_drop,List.length_set,List.length_replicate,List.length_reverse]);omega))<|sL (t_pure (iw ((i:Int)+1)))<|s_nil ?_
  have hgy2:(srs (alO l) G1 (allO ob17))[i]?=some y13:=by rw[pre_at (srs_ok (alO l) (allO ob17) G1).pre om];exact hGy
  refine xs_fact (fun H h=>(h.mp (i:=5) rfl).nodup) (fun hnd38=>?_);refine xs_mem (fun _ h=>nds_back (G':=(srs (alO l) G1 (allO ob17))) (k':=(i+1)) hnd38 hq20 hf19 ((clI_black hgy2).trans (if_pos rfl)) (fun x hx=>(clI_black hgy2).trans (if_neg hx)) (h.re [0,0,0,0] [])) ?_;refine xs_mem (fun _ h=>mr_shut (q:=i+1) hps35 rfl (h.re [1,1,1,0] [])) ?_;exact xs_round (srs (alO l) G1 (allO ob17),i+1) (by show l.length-(i+1)<l.length-i;omega) ⟨by omega,(by have hst:=hj2.step hGy;rw[rfO_is hf19]at hst;exact hst)⟩ sA (rr [0] [1])
 have p39:=dF c5;refine k_exit<|xs_exit<|xs_exit<|xs_here<|xs_then<|k_seq<|k_reg<|sL (t_pure (.pointer (some ⟨b,0,none⟩)))<|sL (t_pure (.pointer (some ⟨b,0,none⟩)))<|sL (t_pure (.pointer (some ⟨b,1,none⟩)))<|s_mem2 (fun H h=>mr_open (h.re [0] [])) (fun mb40 qv41 hw=>?_)
 have hps42:=hw;refine sL (t_load 0 qv41)<|sL (t_len iTy_ok Tryz.underlying23 (.ownO 2))<|sL t_cmp<|sL (t_pure (.bool (decide (((G1.drop i).length:Int)=0))))<|s_nil<|xs_then<|k_ret<|xs_mem (fun _ h=>mr_shut (q:=i) hps42 rfl (h.re [0,0,0,0] [])) ?_
 refine xs_fin [.bool (decide (((G1.drop i).length:Int)=0))] (mrA b l ps G1 i i::F) (SI.tmp 4 SI.nil) (rr [0] []) ⟨G1,i,hj2,by omega,rfl⟩
theorem mgraph_s{Z:Zone}{ov rv:Value}{l:List Ob}{R:List Int}(hg:KnG Z ov rv l R)(hc:chk 0 l=true)(hs:Asc l)(hl:l.length≤100000)(hsm:∀o∈l,o.refs.length≤100000∧o.ents.length≤100000):SF Tryz.prog 68 #[.agg #[ov,rv]] Z [] fun r Bs=>∃v G k,r=.tuple #[v,iw 0]∧Bq (alO l) (rfO l) R k G∧G.length≤k∧Bs=[own iTy v (fil l G)]:=by
 refine sf_enter Tryz.func68 47 [(0,.agg #[ov,rv])] (fun w0=>?_);refine k_fact (fun H h=>(hg.obs.get h).len_le) (fun lA=>?_);refine k_seq<|k_reg<|s_box #[ov,rv] (fun g1=>?_)
 refine sL (t_pure (.slice none 0 0))<|sL (t_pure (iw 0))<|s_nil<|xs_then<|k_seq<|k_reg<|sL (t_loadA 0 #[ov,rv])<|s_pcall (fun _ h=>mnew_s (hg.up h) hc hs hl hsm) ?_
 rintro _ _ ⟨b2,ps3,rfl,rfl⟩;refine sL (t_pure (.tuple #[.pointer (some ⟨b2,0,none⟩),iw 0]))<|sL (t_pure (.pointer (some ⟨b2,0,none⟩)))<|sL (t_pure (iw 0))<|sL (t_pure (.pointer (some ⟨b2,0,none⟩)))<|sL (t_pure (iw 0))<|s_nil<|xs_then<|k_seq<|k_seq<|k_reg<|sL (t_pure (iw 0))<|sL (t_cmp (c:=false))<|s_nil<|xs_then<|k_false<|k_skip<|xs_then<|k_seq<|k_reg<|sL (t_pure (.pointer (some ⟨b2,0,none⟩)))<|sL (t_pure (.pointer (some ⟨g1,0,none⟩)))<|sL (t_load 1 ov)<|sL (t_len ObT_ok Tryz.underlying55 (.zn hg.obs))<|s_call [0] (mstep_s hl hsm (bq_start (alO l) (rfO l) R)) ?_
 rintro v6 _ ⟨G4,k5,hB,hGe,rfl⟩;refine s_nil<|xs_then<|k_seq<|k_reg<|sL (t_pure (.slice none 0 0))<|s_nil<|xs_then<|k_seq<|k_seq<|k_reg<|sL (t_pure (.pointer (some ⟨g1,0,none⟩)))<|sL (t_load 1 ov)<|sL (t_len ObT_ok Tryz.underlying55 (.zn hg.obs))<|sL (t_pure (iw 0))<|s_nil<|xs_then<|k_block<|k_mem (fun _ h=>Holds.nilS (T:=iTy) h) ?_
 refine k_mem (Bs:=[own iTy (.slice none 0 0) (fil (l.take 0) G4),mrA b2 l ps3 G4 k5 k5,blkA g1 #[ov,rv] 57]) (fun _ h=>h) ?_;refine k_loop (ι:=Value×Nat) (fun (sx,i)=>i≤l.length) (fun (sx,i)=>[(2,(.slice none 0 0)),(3,iw 0),(4,.pointer (some ⟨b2,0,none⟩)),(6,sx),(23,ov),(24,iw (l.length:Int)),(25,iw (i:Int))]) (fun (sx,i)=>[own iTy sx (fil (l.take i) G4),mrA b2 l ps3 G4 k5 k5,blkA g1 #[ov,rv] 57]) (fun (sx,i)=>l.length-i) (.slice none 0 0,0) (Nat.zero_le _) sA (rr [0,0,0] []) ?_;rintro⟨sx,i⟩ hi7;replace hi7:i≤l.length:=hi7;show SK _ _ _ _ _ [(2,(.slice none 0 0)),(3,iw 0),(4,.pointer (some ⟨b2,0,none⟩)),(6,sx),(23,ov),(24,iw (l.length:Int)),(25,iw (i:Int))] _ [own iTy sx (fil (l.take i) G4),mrA b2 l ps3 G4 k5 k5,blkA g1 #[ov,rv] 57];have hll:=fil_len (l.take i) G4;rw[List.length_take]at hll;refine k_seq<|k_reg<|sL t_cmp<|s_nil<|xs_then<|k_seq<|k_cond (decide ((i:Int)<(l.length:Int))) (fun c8=>?_) (fun c8=>?_)
 .have p9:=dY c8;refine k_skip<|xs_then<|k_seq<|k_block<|k_seq<|k_reg<|sL (t_index ObT_ok Tryz.underlying55 (.zn hg.obs) (i:Int) i om (by (try simp only[List.length_nil,List.length_cons,List.length_append,List.length_take,List.length_drop,List.length_set,List.length_replicate,List.length_reverse]);omega) om) ?_
  obtain⟨y10,hy11⟩:∃y,l[i]?=some y:=⟨_,List.getElem?_eq_getElem (by (try simp only[List.length_nil,List.length_cons,List.length_append,List.length_take,List.length_drop,List.length_set,List.length_replicate,List.length_reverse]);omega)⟩;have hk12:=hg.each y10 (List.mem_of_getElem? hy11);refine sL (t_loadE ObT_ok (.zn hg.obs) hy11)<|s_alloc (.agg #[iw 0,iw 0,iw 0,(.slice none 0 0),(.slice none 0 0)]) #[iw 0,iw 0,iw 0,(.slice none 0 0),(.slice none 0 0)] (fun g13=>?_)
  refine s_store 0 #[iw y10.id,iw y10.size,iw y10.weak,y10.rv.v,y10.ev.v] ?_;refine s_nil<|xs_then<|k_seq<|k_draw<|sL (t_pure (.pointer (some ⟨b2,0,none⟩)))<|sL (t_pure (.pointer (some ⟨b2,0,none⟩)))<|sL (t_pure (.pointer (some ⟨b2,0,none⟩)))<|s_mem2 (fun H h=>mr_open (h.re [2] [])) (fun mb14 qv15 hw=>?_)
  have hps16:=hw;refine sL (t_load 0 (.map (some mb14)))<|sL (t_pure (.pointer (some ⟨g13,0,none⟩)))<|sL (t_load 4 (iw y10.id)) ?_
  obtain⟨ob19,g20,hf21,hq22⟩:=nd_must hps16 (by rw[Is,fnd_mem hs (List.mem_of_getElem? hy11)];rfl);refine sL (Lt.to (v':=ndV g20) (t_lookup 1 intOk Tryz.underlying179 (.pointer none) y10.id) (by rw[hq22];rfl))<|sL (t_pure (.pointer (some ⟨g20,0,none⟩)))<|sL (t_pure (.pointer (some ⟨g20,2,none⟩)))<|s_mem2 (fun H h=>nds_focus hq22 hf21 (h.re [3] [])) (fun rv23 ev24 _=>?_)
  refine sL (t_load 0 (iw (clI G4 k5 y10.id)))<|sL t_cmp<|s_nil<|x_dynS (fun _ h=>by kernel_rfl) ?_
  refine xs_then<|k_cond (decide ((clI G4 k5 y10.id)=2)) (fun c25=>?_) (fun c25=>?_)
  .have p26:=dY c25;refine k_reg<|sL (t_pure sx)<|sL (t_pure (.pointer (some ⟨g13,0,none⟩)))<|sL (t_load 7 (iw y10.id))<|s_buildSlice (e:=3) [(0,iw y10.id)] #[iw y10.id] (fun g27=>?_) (hb:=by kernel_rfl)
   refine s_append (L:=(fil (l.take i) G4)) 9 iTy_ok Tryz.underlying23 (.lit 0 iTy_ok [y10.id]) (by show _*8≤_;(try simp only[List.length_nil,List.length_cons,List.length_append,List.length_take,List.length_drop,List.length_set,List.length_replicate,List.length_reverse]);omega) (by (try simp only[List.length_nil,List.length_cons,List.length_append,List.length_take,List.length_drop,List.length_set,List.length_replicate,List.length_reverse]);omega) (fun v28=>?_);refine sF 9 (fun hf29=>?_);refine sL (t_pure v28)<|s_nil<|xs_block<|xs_then<|k_reg<|sL (t_add (i:Int) 1 (by (try simp only[List.length_nil,List.length_cons,List.length_append,List.length_take,List.length_drop,List.length_set,List.length_replicate,List.length_reverse]);omega))<|sL (t_pure (iw ((i:Int)+1)))<|s_nil<|xs_fact (fun H h=>(h.mp (i:=6) rfl).nodup) (fun hnd30=>?_)
   refine xs_mem (fun _ h=>nds_back (G':=G4) (k':=k5) hnd30 hq22 hf21 rfl (fun _ _=>rfl) (h.re [1,1,1,1] [])) ?_;refine xs_mem (fun _ h=>mr_shut (q:=k5) hps16 rfl (h.re [2,2,2,0] [])) ?_;rw[fil_yes hy11 ((clI_end hGe).1 p26)];exact xs_round (v28,i+1) (by show l.length-(i+1)<l.length-i;omega) (by show i+1≤l.length;omega) sA (rr [3,0,2] [3,3])
  have p31:=dF c25;refine k_skip<|xs_block<|xs_then<|k_reg<|sL (t_add (i:Int) 1 (by (try simp only[List.length_nil,List.length_cons,List.length_append,List.length_take,List.length_drop,List.length_set,List.length_replicate,List.length_reverse]);omega))<|sL (t_pure (iw ((i:Int)+1)))<|s_nil<|xs_fact (fun H h=>(h.mp (i:=5) rfl).nodup) (fun hnd32=>?_)
  refine xs_mem (fun _ h=>nds_back (G':=G4) (k':=k5) hnd32 hq22 hf21 rfl (fun _ _=>rfl) (h.re [0,0,0,0] [])) ?_;refine xs_mem (fun _ h=>mr_shut (q:=k5) hps16 rfl (h.re [1,1,1,0] [])) ?_;rw[fil_no hy11 (fun q=>p31 ((clI_end hGe).2 q))];exact xs_round (sx,i+1) (by show l.length-(i+1)<l.length-i;omega) (by show i+1≤l.length;omega) sA (rr [2,0,1] [3])
 have p33:=dF c8;refine k_exit<|xs_exit<|xs_exit<|xs_here<|xs_then<|k_seq<|k_reg<|sL (t_pure sx)<|sL (t_pure sx)<|sL (t_pure (iw 0))<|s_nil<|xs_then<|k_ret ?_
 exact xs_fin [sx,iw 0] [own iTy sx (fil l G4)] (SI.tmp 2 (SI.tmp 3 SI.nil)) (fun _ h=>by rw[List.take_of_length_le om]at h;exact h.re [0] [1,1]) ⟨sx,G4,k5,rfl,hB,hGe,rfl⟩
end Go.Proofs.YtmhpcebiamkciaaGreat
end
section
set_option linter.unusedSimpArgs false
set_option linter.unusedVariables false
namespace Go.Proofs.YtmhpcebiamkciaaGreat
/-! ### What a table refers to after a write -/
def VA(A:Int→Prop)(v:Vl):Prop:=idn v=0∨A (idn v)
structure TA'(A:Int→Prop)(T:Tb):Prop where
 list:∀v∈T.list,VA A v
 rest:∀s∈T.rest,s.gone=false→VA A s.key∧VA A s.val
theorem va_zero{A:Int→Prop}{v:Vl}(h:v.kind=0):VA A v:=.inl (by unfold idn isRef;simp[h])
theorem va_num{A:Int→Prop}{v:Vl}(h:v.kind=2):VA A v:=.inl (by unfold idn isRef;simp[h])
theorem va_ofI(A:Int→Prop)(n:Int):VA A (ofI n):=by
 unfold ofI;split
 .exact va_zero rfl
 exact va_num rfl
theorem va_oget{A:Int→Prop}{S:List Slt}(hS:OInv S)(h:∀s∈S,s.gone=false→VA A s.key∧VA A s.val)(k:Vl):VA A (oget S k):=by
 cases hl:lastAt S k with
 | none=>rw[oget_none hl];exact va_zero rfl
 | some i=>
  cases hi:S[i]? with
  | none=>unfold oget;rw[hl];simp[hi];exact va_zero rfl
  | some s=>
   rw[oget_some hl hi];have hm:=List.mem_of_getElem? hi;cases hg:s.gone with
   | true=>rw[hS.zero s hm hg];exact va_zero rfl
   | false=>exact (h s hm hg).2
theorem va_grow{A:Int→Prop}{S:List Slt}(hS:OInv S)(h:∀s∈S,s.gone=false→VA A s.key∧VA A s.val):∀(f:Nat) (L:List Vl) (v:Vl),(∀x∈L,VA A x)→VA A v→∀x∈grow S f L v,VA A x
 | 0,L,v,hL,_=>hL
 | f+1,L,v,hL,hv=>by
  rw[grow];split
  .exact hL
  refine va_grow hS h f _ _ (fun x hx=>?_) (va_oget hS h _);rcases List.mem_append.1 hx with hx|hx
  .exact hL x hx
  rw[List.mem_singleton.1 hx];exact hv
theorem ta_tset{A:Int→Prop}{T:Tb}(hT:TInv T)(h:TA' A T){k v:Vl}(hk:VA A k)(hv:VA A v):TA' A (tset T k v):=by
 unfold tset;split
 .exact h
 split
 .exact h
 split
 .refine ⟨fun x hx=>?_,h.rest⟩;rcases List.mem_or_eq_of_mem_set (shr_mem hx) with hx|rfl
  .exact h.list x hx
  exact hv
 split
 .refine ⟨va_grow hT.rest h.rest _ _ _ h.list hv,fun s hs hg=>?_⟩;have:s∈T.rest:=by
   unfold tadd at hs;simp only at hs;split at hs
   .unfold purge at hs;exact (live_mem.1 (List.mem_filter.1 hs).1).1
   exact hs
  exact h.rest s this hg
 refine⟨h.list,fun s hs hg=>?_⟩;have hs:s∈osetL T.rest k v:=hs;have e1:¬okKey k=false:=by assumption
 have e2:¬validB v=false:=by assumption
 unfold osetL at hs;rw[if_neg e1,if_neg e2]at hs;by_cases h0:v.kind=0
 .rw [if_pos h0]at hs;cases ht:thereAt T.rest k with
  | none=>rw[ht]at hs;exact h.rest s hs hg
  | some i=>
   rw[ht]at hs;rcases List.mem_or_eq_of_mem_set hs with hs|rfl
   .exact h.rest s hs hg
   cases hg
 rw[if_neg h0]at hs;cases ht:thereAt T.rest k with
 | some i=>
  rw[ht]at hs;rcases List.mem_or_eq_of_mem_set hs with hs|rfl
  .exact h.rest s hs hg
  exact⟨hk,hv⟩
 | none=>
  rw[ht]at hs;have hs:s∈(if cnt T.rest+8<T.rest.length-cnt T.rest then live T.rest else T.rest)++[⟨k,v,false⟩]:=hs;rcases List.mem_append.1 hs with hs|hs
  .refine h.rest s ?_ hg;split at hs
   .exact (live_mem.1 hs).1
   exact hs
  rw[List.mem_singleton.1 hs];exact⟨hk,hv⟩
theorem ta_of{A:Int→Prop}{T:Tb}(h:∀e∈entsOf T,∀z∈allE e,z≠0→A z):TA' A T:=by
 have key:∀p∈tents T,VA A p.1∧VA A p.2:=by
  intro p hp;by_cases e:(⟨idn p.1,idn p.2⟩:Ent)=⟨0,0⟩
  .exact ⟨.inl (congrArg Ent.key e),.inl (congrArg Ent.val e)⟩
  have hm:(⟨idn p.1,idn p.2⟩:Ent)∈entsOf T:=by
   unfold entsOf entL;exact List.mem_filter.2 ⟨List.mem_map.2 ⟨p,hp,rfl⟩,decide_eq_true e⟩
  have h1:=h _ hm (idn p.1) (by simp[allE]);have h2:=h _ hm (idn p.2) (by simp[allE]);exact⟨(Classical.em _).imp (fun h=>h) h1,(Classical.em _).imp (fun h=>h) h2⟩
 refine⟨fun v hv=>?_,fun s hs hg=>?_⟩
 .by_cases h0:v.kind=0
  .exact va_zero h0
  have gen:∀(L:List Vl) (i:Nat),v∈L→∃q,(q,v)∈listE L i:=by
   intro L;induction L with
   | nil=>intro i h;cases h
   | cons a r ih=>
    intro i h;rw[listE];rcases List.mem_cons.1 h with rfl|h
    .rw [if_pos h0];exact⟨_,List.mem_cons_self⟩
    obtain⟨q,hq⟩:=ih (i+1) h;split
    .exact ⟨q,List.mem_cons_of_mem _ hq⟩
    exact⟨q,hq⟩
  obtain⟨q,hq⟩:=gen T.list 0 hv;exact (key (q,v) (by unfold tents;exact List.mem_append.2 (.inl hq))).2
 exact key (s.key,s.val) (by unfold tents liveE;exact List.mem_append.2 (.inr (List.mem_map.2 ⟨s,live_mem.2 ⟨hs,hg⟩,rfl⟩)))
theorem ta_is{A:Int→Prop}{T:Tb}(h:TA' A T):∀e∈entsOf T,∀z∈allE e,z≠0→A z:=by
 intro e he z hz h0;unfold entsOf entL at he;obtain⟨he,_⟩:=List.mem_filter.1 he;obtain⟨p,hp,rfl⟩:=List.mem_map.1 he;have key:VA A p.1∧VA A p.2:=by
  unfold tents at hp;rcases List.mem_append.1 hp with hp|hp
  .have gen:∀(L:List Vl) (i:Nat),(∀v∈L,VA A v)→∀p∈listE L i,VA A p.1∧VA A p.2:=by
    intro L;induction L with
    | nil=>intro i _ p hp;cases hp
    | cons a r ih=>
     intro i hL p hp;rw[listE]at hp;split at hp
     .rcases List.mem_cons.1 hp with rfl|hp
      .exact ⟨va_ofI A _,hL a (by simp)⟩
      exact ih _ (fun x hx=>hL x (List.mem_cons_of_mem _ hx)) p hp
     exact ih _ (fun x hx=>hL x (List.mem_cons_of_mem _ hx)) p hp
   exact gen _ _ h.list p hp
  unfold liveE at hp;obtain⟨s,hs,rfl⟩:=List.mem_map.1 hp;obtain⟨h1,h2⟩:=live_mem.1 hs;exact h.rest s h1 h2
 simp only[allE,List.mem_cons,List.not_mem_nil,or_false]at hz;rcases hz with rfl|rfl
 .exact key.1.resolve_left h0
 exact key.2.resolve_left h0
section
variable{st st':Hst}{R G:List Int}{s:Cst}{k N:Nat}{x y z a b:Int}{L:List Int}
theorem alive_pos(h:halive st x=true):x≠0:=by
 obtain⟨o,ho⟩:=halive_iff.1 h;have:=(get_mem ho).2.1;omega
theorem crf_some{o:Hob}(h:st.get x=some o):crf st x=refsOf o++(if o.kind=4 then entsOf o.tab else []).flatMap allE:=by
 have ho:=obj_some h 0;unfold crf;rw[ho.2.2.2.2.1,ho.2.2.2.2.2]
theorem crf_same(h:st'.get x=st.get x):crf st' x=crf st x:=by unfold crf hrefs hents;rw[h]
structure Wr(st st':Hst)(a b:Int):Prop where
 al:∀x,halive st' x=halive st x
 other:∀x,x≠a→crf st' x=crf st x
 it:∀z∈crf st' a,z≠0→z∈crf st a∨z=b
theorem Wr.refl(st:Hst)(a b:Int):Wr st st a b:=⟨fun _=>rfl,fun _ _=>rfl,fun z hz _=>.inl hz⟩
theorem hset_wr(hi:HInv st){t k v:Vl}(hk:k.kind=2):Wr st (hset st t k v) t.ref (idn v):=by
 rcases hset_cases st t k v with ⟨_,e,_⟩|⟨_,_,_,e,_⟩|⟨_,_,_,_,e,_⟩|⟨T,o,h1,h2,h3,hv,h4,h5,h6,h7,e,_⟩
 .rw [e];exact .refl _ _ _
 .rw [e];exact .refl _ _ _
 .rw [e];exact .refl _ _ _
 have hg:∀y,(hset st t k v).get y=if y=t.ref then some { o with tab:=tset T k v } else st.get y:=fun y=>by
  rw[e,get_touch];exact get_put h4 y
 refine⟨fun y=>?_,fun y hy=>crf_same (by rw[hg,if_neg hy]),fun z hz h0=>?_⟩
 .unfold halive;rw[hg];split
  .rename_i q;rw[q,h4];rfl
  rfl
 have hgt:=hg t.ref;rw[if_pos rfl]at hgt;rw[crf_some hgt]at hz;rw[crf_some h4];have h5':({ o with tab:=tset T k v }:Hob).kind=4:=h5;rw[if_pos h5']at hz;rw[if_pos h5];rcases List.mem_append.1 hz with hz|hz
 .exact .inl (List.mem_append.2 (.inl hz))
 obtain⟨en,hen,hzn⟩:=List.mem_flatMap.1 hz;have hA:TA' (fun z=>z∈(entsOf o.tab).flatMap allE∨z=idn v) (tset T k v):=by
  have hTI:TInv T:=by rw[←h7];exact (hi.obs o (get_mem h4).1).tab
  refine ta_tset hTI ?_ (va_num hk) (Classical.em _ |>.imp (fun h=>h) fun _=>.inr rfl);rw[←h7];exact ta_of fun e he z hz _=>.inl (List.mem_flatMap.2 ⟨e,he,hz⟩)
 rcases ta_is hA en hen z hzn h0 with h|h
 .exact .inl (List.mem_append.2 (.inr h))
 exact .inr h
/-! ### The invariant -/
structure KI(st:Hst)(R:List Int)(s:Cst):Prop where
 col:s.ph=1→∀x,s.col x=0∨s.col x=1∨s.col x=2
 gray:s.ph=1→∀x,s.col x=1→x∈s.Q
 mark:s.ph=1→∀x,halive st x=true→s.col x=2→∀z∈crf st x,halive st z=true→s.col z≠0
 swc:s.ph=2→∀x,halive st x=true→¬s.doom x→∀z∈crf st x,halive st z=true→¬s.doom z
 rts:s.ph=2→∀x∈s.rts R,halive st x=true→¬s.doom x
theorem KI.zero(h:s.ph=0):KI st R s:=by constructor<;>intro q<;>omega
structure RchI(st:Hst)(c:Int→Int)(Q:List Int)(c':Int→Int)(Q':List Int):Prop where
 keep:∀x,c x≠0→c' x=c x
 new:∀x,c x=0→c' x=0∨(c' x=1∧x∈Q')
 sub:∀x∈Q,x∈Q'
theorem rch1(st:Hst)(c:Int→Int)(Q:List Int)(id:Int):RchI st c Q (rchM st c id) (rchQ st c Q id):=by
 unfold rchM rchQ;by_cases q:halive st id=true∧c id=0
 .rw [if_pos q,if_pos q];refine⟨fun x hx=>cset_ne fun e=>hx (by rw[e];exact q.2),fun x hx=>?_,fun x hx=>List.mem_append.2 (.inl hx)⟩;by_cases e:x=id
  .subst e;exact .inr ⟨cset_self _ _ _,by simp⟩
  exact .inl (by rw[cset_ne e];exact hx)
 rw[if_neg q,if_neg q];exact⟨fun _ _=>rfl,fun x hx=>.inl hx,fun x hx=>hx⟩
theorem RchI.trans{c c1 c2:Int→Int}{Q Q1 Q2:List Int}(h1:RchI st c Q c1 Q1)(h2:RchI st c1 Q1 c2 Q2):RchI st c Q c2 Q2 where
 keep x hx:=by rw[h2.keep x (by rw[h1.keep x hx];exact hx)];exact h1.keep x hx
 new x hx:=by
  rcases h1.new x hx with e|⟨e,hq⟩
  .exact h2.new x e
  exact .inr ⟨by rw[h2.keep x om];exact e,h2.sub x hq⟩
 sub x hx:=h2.sub x (h1.sub x hx)
theorem rchA_i(st:Hst)(X:List Int):∀(c:Int→Int) (Q:List Int),RchI st c Q (rchA st (c,Q) X).1 (rchA st (c,Q) X).2:=by
 induction X with
 | nil=>exact fun c Q=>⟨fun _ _=>rfl,fun x hx=>.inl hx,fun x hx=>hx⟩
 | cons a r ih=>exact fun c Q=>(rch1 st c Q a).trans (ih (rchM st c a) (rchQ st c Q a))
theorem rchM_got{c:Int→Int}(ha:halive st x=true):rchM st c x x≠0:=by
 unfold rchM;split
 .rw [cset_self];decide
 rename_i q;exact fun e=>q ⟨ha,e⟩
theorem rchA_got(st:Hst)(X:List Int):∀(c:Int→Int) (Q:List Int),∀z∈X,halive st z=true→(rchA st (c,Q) X).1 z≠0:=by
 induction X with
 | nil=>intro c Q z hz;cases hz
 | cons a r ih=>
  intro c Q z hz ha;rcases List.mem_cons.1 hz with rfl|hz
  .have h1:=rchM_got (c:=c) ha;have h2:=(rchA_i st r (rchM st c z) (rchQ st c Q z)).keep z h1;show (rchA st (rchM st c z,rchQ st c Q z) r).1 z≠0;rw[h2];exact h1
  exact ih (rchM st c a) (rchQ st c Q a) z hz ha
theorem RchI.colp{c c':Int→Int}{Q Q':List Int}(h:RchI st c Q c' Q')(hc:∀x,c x=0∨c x=1∨c x=2)(hg:∀x,c x=1→x∈Q):(∀x,c' x=0∨c' x=1∨c' x=2)∧(∀x,c' x=1→x∈Q')∧(∀x,c' x=2→c x=2)∧(∀x,c x≠0→c' x≠0):=by
 refine⟨fun x=>?_,fun x hx=>?_,fun x hx=>?_,fun x hx=>by rw[h.keep x hx];exact hx⟩
 .rcases hc x with e|e|e
  .rcases h.new x e with e|⟨e,_⟩<;>omega
  .have:=h.keep x om;omega
  have:=h.keep x om;omega
 .rcases hc x with e|e|e
  .rcases h.new x e with e|⟨_,e⟩
   .omega
   exact e
  .exact h.sub x (hg x e)
  have:=h.keep x om;omega
 rcases hc x with e|e|e
 .rcases h.new x e with e|⟨e,_⟩<;>omega
 .have:=h.keep x om;omega
 exact e
theorem KI.bgn:KI st R (bgn st R s):=by
 have h:=rchA_i st (s.rts R) c0 [];obtain⟨h1,h2,h3,_⟩:=h.colp (fun x=>.inl rfl) (fun x hx=>absurd hx (show ¬(0:Int)=1 by decide));exact⟨fun _=>h1,fun _=>h2,fun _ x _ hx=>absurd (h3 x hx) (show ¬(0:Int)=2 by decide),fun q=>absurd q (show ¬(1:Int)=2 by decide),fun q=>absurd q (show ¬(1:Int)=2 by decide)⟩
theorem KI.setl(h:KI st R s)(h1:s.ph=1):KI st R (setl st R s):=by
 by_cases q:s.ph=1∧s.Q=[]
 .have hr:=rchA_i st (s.rts R) s.col [];have hgt:=rchA_got st (s.rts R) s.col [];obtain⟨k1,k2,k3,k4⟩:=hr.colp (h.col h1) (by have:=h.gray h1;rw[q.2]at this;exact this);have km:∀x,halive st x=true→(rchA st (s.col,[]) (s.rts R)).1 x=2→∀z∈crf st x,halive st z=true→(rchA st (s.col,[]) (s.rts R)).1 z≠0:=fun x hx h2 z hz hzl=>k4 z (h.mark h1 x hx (k3 x h2) z hz hzl)
  unfold Go.Proofs.YtmhpcebiamkciaaGreat.setl;rw[if_pos q];by_cases e:(rchA st (s.col,[]) (s.rts R)).2=[]
  .rw [if_pos e];refine⟨fun q=>absurd q (show ¬(2:Int)=1 by decide),fun q=>absurd q (show ¬(2:Int)=1 by decide),fun q=>absurd q (show ¬(2:Int)=1 by decide),fun _ x hx hd z hz hzl hdz=>?_,fun _ x hx hxl hd=>?_⟩
   .have hc:(rchA st (s.col,[]) (s.rts R)).1 x≠0:=fun e0=>hd ⟨rfl,e0,mem_hids.2 hx⟩
    have h2:(rchA st (s.col,[]) (s.rts R)).1 x=2:=by
     rcases k1 x with e0|e0|e0
     .exact absurd e0 hc
     .have:=k2 x e0;rw[e]at this;cases this
     exact e0
    exact km x hx h2 z hz hzl hdz.2.1
   exact hgt x hx hxl hd.2.1
  rw[if_neg e];have hp2:¬s.ph=2:=by omega
  exact⟨fun _=>k1,fun _=>k2,fun _=>km,fun q=>absurd q hp2,fun q=>absurd q hp2⟩
 have:Go.Proofs.YtmhpcebiamkciaaGreat.setl st R s=s:=by unfold Go.Proofs.YtmhpcebiamkciaaGreat.setl;rw[if_neg q]
 rw[this];exact h
theorem KI.mrk(h:KI st R s)(h1:s.ph=1):KI st R (mrk st s):=by
 unfold Go.Proofs.YtmhpcebiamkciaaGreat.mrk;split
 .rename_i x Q e;have hr:=rchA_i st (crf st x) s.col Q;have hgt:=rchA_got st (crf st x) s.col Q;have hc:=h.col h1;have hg:=h.gray h1;have hm:=h.mark h1;rw[e]at hg;have hp2:¬s.ph=2:=by omega
  have c3:∀y,y≠x→(rchA st (s.col,Q) (crf st x)).1 y=2→s.col y=2:=fun y hy h2=>by
   rcases hc y with e0|e0|e0
   .rcases hr.new y e0 with e1|⟨e1,_⟩<;>omega
   .have:=hr.keep y om;omega
   exact e0
  refine⟨fun _ y=>?_,fun _ y hy=>?_,fun _ y hy h2 z hz hzl=>?_,fun q=>absurd q hp2,fun q=>absurd q hp2⟩
  .show cset _ x 2 y=0∨cset _ x 2 y=1∨cset _ x 2 y=2;unfold cset;split
   .exact .inr (.inr rfl)
   rcases hc y with e0|e0|e0
   .rcases hr.new y e0 with e1|⟨e1,_⟩<;>omega
   .have:=hr.keep y om;omega
   have:=hr.keep y om;omega
  .have hy:cset (rchA st (s.col,Q) (crf st x)).1 x 2 y=1:=hy;unfold cset at hy;split at hy
   .exact absurd hy (by decide)
   rename_i hyx
   rcases hc y with e0|e0|e0
   .rcases hr.new y e0 with e1|⟨_,e1⟩
    .omega
    exact e1
   .rcases List.mem_cons.1 (hg y e0) with e1|e1
    .exact absurd e1 hyx
    exact hr.sub y e1
   have:=hr.keep y om;omega
  have h2:cset (rchA st (s.col,Q) (crf st x)).1 x 2 y=2:=h2;show cset (rchA st (s.col,Q) (crf st x)).1 x 2 z≠0;unfold cset;split
  .decide
  by_cases hyx:y=x
  .subst hyx;exact hgt z hz hzl
  rw[cset_ne hyx]at h2;have:=hm y hy (c3 y hyx h2) z hz hzl;rw[hr.keep z this];exact this
 exact h
theorem crf_drop(h:y≠x):crf (hdrop st x) y=crf st y:=crf_same (by rw[get_drop,if_neg h])
theorem KI.swp(hc:CI N st s)(h:KI st R s)(h2:s.ph=2)(hL:s.L=x::L):KI (swp st s).1 R (swp st s).2:=by
 obtain⟨hn,_⟩:=hc.l h2;rw[hL,List.nodup_cons]at hn;by_cases e:s.col x=0
 .rw [swp_white hL e];have hd:∀y,y≠x→(({ s with L:=L,Fr:=s.Fr++[x] }:Cst).doom y↔s.doom y):=fun y hy=>by
   unfold Cst.doom;rw[hL];simp[hy]
  have hne:∀y,halive (hdrop st x) y=true→y≠x∧halive st y=true:=fun y hy=>by
   rw[halive_drop]at hy;split at hy
   .cases hy
   exact⟨by assumption,hy⟩
  refine⟨fun q=>?_,fun q=>?_,fun q=>?_,fun _ y hy hdy z hz hzl hdz=>?_,fun _ y hy hyl hdy=>?_⟩
  .have:s.ph=1:=q;omega
  .have:s.ph=1:=q;omega
  .have:s.ph=1:=q;omega
  .obtain ⟨n1,a1⟩:=hne y hy;obtain⟨n2,a2⟩:=hne z hzl;rw[crf_drop n1]at hz;exact h.swc h2 y a1 (fun q=>hdy ((hd y n1).2 q)) z hz a2 ((hd z n2).1 hdz)
  obtain⟨n1,a1⟩:=hne y hyl;exact h.rts h2 y hy a1 ((hd y n1).1 hdy)
 rw[swp_black hL e];have hd:∀y,(({ s with L:=L,col:=cset s.col x 0 }:Cst).doom y↔s.doom y):=fun y=>by
  unfold Cst.doom;rw[hL];by_cases hy:y=x
  .subst hy;simp[e,hn.1]
  simp[cset_ne hy,hy]
 refine⟨fun q=>?_,fun q=>?_,fun q=>?_,fun _ y hy hdy z hz hzl hdz=>?_,fun _ y hy hyl hdy=>?_⟩
 .have:s.ph=1:=q;omega
 .have:s.ph=1:=q;omega
 .have:s.ph=1:=q;omega
 .exact h.swc h2 y hy (fun q=>hdy ((hd y).2 q)) z hz hzl ((hd z).1 hdz)
 exact h.rts h2 y hy hyl ((hd y).1 hdy)
theorem KI.fin(h:KI st R s):KI st R (cfin s):=by
 by_cases e:s.L=[]
 .rw [cfin_nil e];exact .zero rfl
 rw[cfin_cons e];exact h
def Keep(st:Hst)(R:List Int)(st':Hst):Prop:=∀x,Rq (halive st) (crf st) R x→Rq (halive st') (crf st') R x
theorem Keep.refl:Keep st R st:=fun _ h=>h
theorem Keep.trans{st2:Hst}(h1:Keep st R st')(h2:Keep st' R st2):Keep st R st2:=fun x h=>h2 x (h1 x h)
theorem reach_safe(h:KI st R s)(h2:s.ph=2)(hx:Rq (halive st) (crf st) (s.rts R) x):¬s.doom x:=by
 induction hx with
 | root h1 ha=>exact h.rts h2 _ h1 ha
 | step h1 hz ha ih=>exact h.swc h2 _ (rq_al h1) ih _ hz ha
theorem rq_sub{R':List Int}{al:Int→Bool}{rf:Int→List Int}(hs:∀x∈R,x∈R')(hx:Rq al rf R x):Rq al rf R' x:=by
 induction hx with
 | root h1 ha=>exact .root (hs _ h1) ha
 | step h1 hz ha ih=>exact .step ih hz ha
theorem rts_sub:∀x∈R,x∈s.rts R:=fun x hx=>List.mem_append.2 (.inl hx)
theorem keep_swp(h:KI st R s)(h2:s.ph=2)(hL:s.L=x::L):Keep st R (swp st s).1:=by
 by_cases e:s.col x=0
 .rw [swp_white hL e];have hne:∀y,Rq (halive st) (crf st) R y→y≠x:=fun y hy e1=>reach_safe h h2 (rq_sub (R':=s.rts R) rts_sub hy) (show s.doom y from by subst e1;exact⟨h2,e,by rw[hL];simp⟩)
  have hal:∀y,y≠x→halive st y=true→halive (hdrop st x) y=true:=fun y hy ha=>by rw[halive_drop,if_neg hy];exact ha
  intro y hy;induction hy with
  | root h1 ha=>exact .root h1 (hal _ (hne _ (.root h1 ha)) ha)
  | step h1 hz ha ih=>
   have n2:=hne _ (.step h1 hz ha);exact .step ih (by rw[crf_drop (hne _ h1)];exact hz) (hal _ n2 ha)
 rw[swp_black hL e];exact .refl
theorem ki_wrk(R:List Int):∀(k:Nat) {st:Hst}{s:Cst},CI N st s→KI st R s→CI N (wrk k st R s).1 (wrk k st R s).2.1∧KI (wrk k st R s).1 R (wrk k st R s).2.1∧Keep st R (wrk k st R s).1
 | 0,st,s,hc,h=>⟨hc,h,.refl⟩
 | k+1,st,s,hc,h=>by
  by_cases h0:s.ph=0
  .rw [wrk_end h0];exact⟨hc,h,.refl⟩
  have step:CI N (itr st R s).1 (itr st R s).2.1∧KI (itr st R s).1 R (itr st R s).2.1∧Keep st R (itr st R s).1:=by
   have hs:CI N st (setl st R s)∧KI st R (setl st R s):=by
    by_cases h1:s.ph=1
    .exact ⟨hc.setl h1 R,h.setl h1⟩
    rw[setl_two h1];exact⟨hc,h⟩
   unfold itr;split
   .rename_i h1;exact⟨hs.1.mrk h1,hs.2.mrk h1,.refl⟩
   rename_i h1
   have hz:(setl st R s).ph≠0:=by
    by_cases q:s.ph=1
    .rcases setl_ph (st:=st) (R:=R) q with e|e<;>omega
    rw[setl_two q];exact h0
   have h2:(setl st R s).ph=2:=by rcases hs.1.ph with e|e|e<;>omega
   split
   .exact ⟨hs.1.fin h2,hs.2.fin,.refl⟩
   rename_i hl
   obtain⟨x,L,hL⟩:=List.exists_cons_of_ne_nil hl;exact⟨(hs.1.swp h2 hL).fin (swp_ph h2),(KI.swp hs.1 hs.2 h2 hL).fin,keep_swp hs.2 h2 hL⟩
  rw[wrk_succ h0];split
  .obtain ⟨a1,a2,a3⟩:=ki_wrk R k step.1 step.2.1;exact⟨a1,a2,step.2.2.trans a3⟩
  exact step
theorem ki_work(hc:CI N st s)(h:KI st R s)(k:Nat):CI N (work k st R s).1 (work k st R s).2.1∧KI (work k st R s).1 R (work k st R s).2.1∧Keep st R (work k st R s).1:=by
 unfold work;split
 .exact ⟨hc,h,.refl⟩
 split
 .rename_i h0;exact ki_wrk R k (hc.bgn h0 R) KI.bgn
 exact ki_wrk R k hc h
/-! ### Writes -/
theorem CI.mono{M:Nat}(h:CI N st s)(hm:N≤M):CI M st s:=⟨h.ph,h.q,h.q0,h.l,h.l0,Nat.le_trans h.fr hm,Nat.le_trans h.gp hm,h.sm.mono hm,h.w,h.i⟩
theorem CI.heap{M:Nat}(h:CI N st s)(hal:∀x,halive st x=true→halive st' x=true)(hl:(hids st').length+N≤(hids st).length+M)(hm:N≤M)(hs:HSm M st')(hw:HW st')(hi:HInv st'):CI M st' s:=
 ⟨h.ph,fun q=>⟨(h.q q).1,fun x hx=>⟨hal x ((h.q q).2 x hx).1,((h.q q).2 x hx).2⟩⟩,h.q0,fun q=>⟨(h.l q).1,fun x hx=>hal x ((h.l q).2 x hx)⟩,h.l0,by have:=h.fr;omega,Nat.le_trans h.gp hm,hs,hw,hi⟩
theorem hids_same(h:∀x,halive st' x=halive st x):hids st'=hids st:=asc_same (hids_asc _) (hids_asc _) fun x=>by rw[mem_hids,mem_hids,h]
theorem CI.wrt(h:CI N st s)(a b:Int):CI N st (wrt st s a b):=by
 unfold Go.Proofs.YtmhpcebiamkciaaGreat.wrt;split
 .rename_i q;exact⟨h.ph,fun _=>(h.q q.2.1).rch b,fun e=>absurd q.2.1 e,h.l,h.l0,h.fr,h.gp,h.sm,h.w,h.i⟩
 exact h
theorem KI.wrt(h:KI st R s)(hw:Wr st st' a b)(ha:halive st a=true)(hab:s.ph=2→¬s.doom a→¬s.doom b)(hra:s.ph=2→¬s.doom a):KI st' R (wrt st' s a b):=by
 have hnd:∀y z,z∈crf st' y→halive st' z=true→z∈crf st y∨(y=a∧z=b):=fun y z hz hzl=>by
  by_cases e:y=a
  .subst e;rcases hw.it z hz (alive_pos hzl) with e|e
   .exact .inl e
   exact .inr ⟨rfl,e⟩
  rw[hw.other y e]at hz;exact .inl hz
 unfold Go.Proofs.YtmhpcebiamkciaaGreat.wrt;split
 .rename_i q;have h1:=q.2.1;obtain⟨k1,k2,k3,k4⟩:=(rch1 st' s.col s.Q b).colp (h.col h1) (h.gray h1);have hp2:¬s.ph=2:=by omega
  refine⟨fun _=>k1,fun _=>k2,fun _ y hy h2 z hz hzl=>?_,fun q=>absurd q hp2,fun q=>absurd q hp2⟩;rcases hnd y z hz hzl with e|⟨_,e⟩
  .exact k4 z (h.mark h1 y (by rw[←hw.al];exact hy) (k3 y h2) z e (by rw[←hw.al];exact hzl))
  subst e;exact rchM_got hzl
 rename_i q
 refine⟨h.col,h.gray,fun h1 y hy h2 z hz hzl=>?_,fun h2 y hy hd z hz hzl=>?_,fun h2 y hy hyl=>h.rts h2 y hy (by rw[←hw.al];exact hyl)⟩
 .rcases hnd y z hz hzl with e|⟨e,_⟩
  .exact h.mark h1 y (by rw[←hw.al];exact hy) h2 z e (by rw[←hw.al];exact hzl)
  subst e;exact absurd ⟨by rw[hw.al];exact ha,h1,h2⟩ q
 rcases hnd y z hz hzl with e|⟨_,e⟩
 .exact h.swc h2 y (by rw[←hw.al];exact hy) hd z e (by rw[←hw.al];exact hzl)
 subst e;exact hab h2 (hra h2)
/-! ### Births -/
theorem wot_mem{L:List Int}{id y:Int}:y∈wot L id↔y∈L∧y≠id:=by unfold wot;simp
theorem CI.brt(h:CI N st s)(id:Int):CI N st (brt st s id):=by
 unfold Go.Proofs.YtmhpcebiamkciaaGreat.brt;split
 .rename_i ha;split
  .rename_i h1;have hp2:¬s.ph=2:=by omega
   refine⟨h.ph,fun _=>⟨(h.q h1).1.filter _,fun y hy=>?_⟩,fun e=>absurd h1 e,fun e=>absurd e hp2,h.l0,h.fr,h.gp,h.sm,h.w,h.i⟩;obtain⟨y1,y2⟩:=wot_mem.1 hy;exact⟨((h.q h1).2 y y1).1,by show cset s.col id 2 y≠0;rw[cset_ne y2];exact ((h.q h1).2 y y1).2⟩
  rename_i h1
  refine⟨h.ph,fun e=>absurd e h1,h.q0,fun e=>⟨(h.l e).1.filter _,fun y hy=>(h.l e).2 y (wot_mem.1 hy).1⟩,fun e=>?_,h.fr,h.gp,h.sm,h.w,h.i⟩;show wot s.L id=[];rw[h.l0 e];rfl
 exact h
structure Brn(st st':Hst)(id:Int):Prop where
 al:∀x,x≠id→halive st' x=halive st x
 rf:∀x,x≠id→crf st' x=crf st x
 dead:halive st id=false
 new:crf st' id=[]
theorem Brn.keep(h:Brn st st' a):Keep st R st':=fun x hx=>by
 induction hx with
 | root h1 ha=>exact .root h1 (by rw[h.al _ fun e=>by rw[e,h.dead]at ha;cases ha];exact ha)
 | step h1 hz ha ih=>
  have n1:=rq_al h1;exact .step ih (by rw[h.rf _ fun e=>by rw[e,h.dead]at n1;cases n1];exact hz) (by rw[h.al _ fun e=>by rw[e,h.dead]at ha;cases ha];exact ha)
theorem KI.brt(h:KI st R s)(hb:Brn st st' a)(ha:halive st' a=true):KI st' (R++[a]) (brt st' s a):=by
 unfold Go.Proofs.YtmhpcebiamkciaaGreat.brt;rw[if_pos ha];split
 .rename_i h1;have hp2:¬s.ph=2:=by omega
  refine⟨fun _ y=>?_,fun _ y hy=>?_,fun _ y hy h2 z hz hzl=>?_,fun q=>absurd q hp2,fun q=>absurd q hp2⟩
  .show cset _ a 2 y=0∨cset _ a 2 y=1∨cset _ a 2 y=2;unfold cset;split
   .exact .inr (.inr rfl)
   exact h.col h1 y
  .have hy:cset s.col a 2 y=1:=hy;unfold cset at hy;split at hy
   .exact absurd hy (by decide)
   exact wot_mem.2 ⟨h.gray h1 y hy,by assumption⟩
  have h2:cset s.col a 2 y=2:=h2;show cset s.col a 2 z≠0;unfold cset;split
  .decide
  rename_i hza
  by_cases hya:y=a
  .subst hya;rw[hb.new]at hz;cases hz
  rw[cset_ne hya]at h2;rw[hb.rf y hya]at hz;exact h.mark h1 y (by rw[←hb.al y hya];exact hy) h2 z hz (by rw[←hb.al z hza];exact hzl)
 rename_i h1
 have hd:∀y,y≠a→(({ s with col:=cset s.col a 0,L:=wot s.L a }:Cst).doom y↔s.doom y):=fun y hy=>by
  unfold Cst.doom;simp only[wot_mem,cset_ne hy,hy,ne_eq,not_false_eq_true,and_true]
 have ha':¬({ s with col:=cset s.col a 0,L:=wot s.L a }:Cst).doom a:=fun q=>(wot_mem.1 q.2.2).2 rfl
 refine⟨fun q=>absurd q h1,fun q=>absurd q h1,fun q=>absurd q h1,fun h2 y hy hdy z hz hzl=>?_,fun h2 y hy hyl=>?_⟩
 .by_cases hza:z=a
  .rw [hza];exact ha'
  by_cases hya:y=a
  .subst hya;rw[hb.new]at hz;cases hz
  rw[hb.rf y hya]at hz;exact fun q=>h.swc h2 y (by rw[←hb.al y hya];exact hy) (fun q=>hdy ((hd y hya).2 q)) z hz (by rw[←hb.al z hza];exact hzl) ((hd z hza).1 q)
 by_cases hya:y=a
 .rw [hya];exact ha'
 have hy':y∈s.rts R:=by
  unfold Cst.rts at hy⊢;simp only[List.mem_append,List.mem_singleton,hya,or_false]at hy⊢;exact hy
 exact fun q=>h.rts h2 y hy' (by rw[←hb.al y hya];exact hyl) ((hd y hya).1 q)
theorem make_brn(hc:¬65536≤st.count):Brn st (hmake st (newO 4 0 eb [])) ((st.objs.length:Int)+1):=by
 have hg:∀y,(hmake st (newO 4 0 eb [])).get y=if y=(st.objs.length:Int)+1 then some (newO 4 0 eb []) else st.get y:=fun y=>by
  unfold hmake;rw[if_neg hc];exact get_snoc st _ _ y
 refine⟨fun y hy=>by unfold halive;rw[hg,if_neg hy],fun y hy=>crf_same (by rw[hg,if_neg hy]),by unfold halive;rw[get_end];rfl,?_⟩;rw[crf_some (by rw[hg,if_pos rfl])];rfl
theorem make_alive(hc:¬65536≤st.count):halive (hmake st (newO 4 0 eb [])) ((st.objs.length:Int)+1)=true:=by
 unfold halive hmake;rw[if_neg hc,get_snoc,if_pos rfl];rfl
/-! ### Registrations -/
theorem addL_len(reg:List Int)(id:Int):(addL reg id).length≤reg.length+1:=by
 unfold addL;split
 .omega
 split
 .omega
 simp
theorem CI.rgs(h:CI N st s)(id:Int):CI (N+1) st (rgs st s id):=by
 have hl:=addL_len s.G id;have hg:=h.gp;unfold Go.Proofs.YtmhpcebiamkciaaGreat.rgs;split
 .split
  .rename_i q;exact⟨h.ph,fun _=>(h.q q.2).rch id,fun e=>absurd q.2 e,h.l,h.l0,by have:=h.fr;show s.Fr.length+_≤_;omega,by show (addL s.G id).length+s.P.length≤_;omega,h.sm.mono (Nat.le_succ N),h.w,h.i⟩
  exact⟨h.ph,h.q,h.q0,h.l,h.l0,by have:=h.fr;show s.Fr.length+_≤_;omega,by show (addL s.G id).length+s.P.length≤_;omega,h.sm.mono (Nat.le_succ N),h.w,h.i⟩
 exact h.mono (Nat.le_succ N)
theorem addL_mem{reg:List Int}{id y:Int}(h:y∈addL reg id):y∈reg∨y=id:=by
 unfold addL at h;split at h
 .exact .inl h
 split at h
 .exact .inl h
 simpa using h
theorem KI.rgs(h:KI st R s)(id:Int):KI st R (rgs st s id):=by
 unfold Go.Proofs.YtmhpcebiamkciaaGreat.rgs;split
 .rename_i ha;split
  .rename_i q;have h1:=q.2;obtain⟨k1,k2,k3,k4⟩:=(rch1 st s.col s.Q id).colp (h.col h1) (h.gray h1);have hp2:¬s.ph=2:=by omega
   exact⟨fun _=>k1,fun _=>k2,fun _ y hy h2 z hz hzl=>k4 z (h.mark h1 y hy (k3 y h2) z hz hzl),fun q=>absurd q hp2,fun q=>absurd q hp2⟩
  refine⟨h.col,h.gray,h.mark,h.swc,fun h2 y hy hyl=>?_⟩;have hy:y∈R++(addL s.G id++s.P):=hy;have:y∈s.rts R∨y=id:=by
   unfold Cst.rts;simp only[List.mem_append]at hy⊢;rcases hy with hy|hy|hy
   .exact .inl (.inl hy)
   .rcases addL_mem hy with hy|hy
    .exact .inl (.inr (.inl hy))
    exact .inr hy
   exact .inl (.inr (.inr hy))
  rcases this with hy|hy
  .exact h.rts h2 y hy hyl
  rw[hy];exact ha.2
 exact h
end
end Go.Proofs.YtmhpcebiamkciaaGreat
end
section
set_option linter.unusedSimpArgs false
set_option linter.unusedVariables false
set_option maxRecDepth 100000
set_option maxHeartbeats 2000000
namespace Go.Proofs.YtmhpcebiamkciaaGreat
open Go.Hp Go.J Go.S
open Go.Mem (Ty KTy blk elemAt pre suf blk_pre blk_suf aget aset strK aggDesc)
open Go.Mem (adel apos aget_aset aget_adel)
abbrev Core:=Int×Int×Int×List Int×List Ent
def AllO(L:List Ob)(H:Heap):Prop:=∀x∈L,Sl H iTy x.rv.v x.refs∧Sl H EntT x.ev.v x.ents
theorem frz_push{Z:Zone}{As:List Asr}{H:Heap}{L:List Ob}(nb:Ob)(h:Holds Z (own iTy nb.rv.v nb.refs::own EntT nb.ev.v nb.ents::frz (AllO L)::As) H):Holds Z (frz (AllO (L++[nb]))::As) H:=by
 have h1:Holds Z (own EntT nb.ev.v nb.ents::frz (AllO L)::own iTy nb.rv.v nb.refs::As) H:=h.re [1,1] [];have h2:=h1.frzO;have h3:Holds Z (own iTy nb.rv.v nb.refs::frz (fun H=>Sl H EntT nb.ev.v nb.ents∧AllO L H)::As) H:=h2.re [1] [];refine h3.frzO.frzM fun H ⟨a,b,c⟩ x hx=>?_
 rcases List.mem_append.1 hx with hx|hx
 .exact c x hx
 simp at hx;subst hx;exact⟨a,b⟩
def cobj(st:Hst)(id:Int):Core:=(hoId st id,hoSz st id,hoWk st id 0,hrefs st id,hents st id)
theorem cob_snoc{st:Hst}{X:List Int}{N:List Ob}{j:Nat}{y:Int}{z:Ob}(hy:X[j]?=some y)(h:N.map Ob.c=(X.take j).map (cobj st))(hz:z.c=cobj st y):(N++[z]).map Ob.c=(X.take (j+1)).map (cobj st):=by
 rw[List.take_add_one,hy,List.map_append,List.map_append,h];simp[hz]
theorem graph_s{Z:Zone}{F:List Asr}{hb:Nat}{st:Hst}{rv:Value}{nn mm:Nat}(hrv:∃(p:Option Addr) (c:Nat),rv=.slice p mm c)(hsm:HSm nn st)(hn:nn≤300)(hW:HW st):SF Tryz.prog 22 #[.pointer (some ⟨hb,0,none⟩),rv] Z (hpA hb st::F) fun r Bs=>∃ov N,r=.agg #[ov,rv]∧N.map Ob.c=(hids st).map (cobj st)∧Bs=own ObT ov N::frz (AllO N)::hpA hb st::F:=by
 refine sf_enter Tryz.func22 36 [(0,pB hb 0),(1,rv)] (fun w0=>?_);have hil:=hids_len st;have hol:=hsm.len;refine k_sr<|s_alloc (.agg #[(.slice none 0 0),(.slice none 0 0)]) #[(.slice none 0 0),(.slice none 0 0)] (fun g1=>?_)
 refine s_nr<|sP rv<|sL (show Lt _ _ _ _ _ (.agg #[(.slice none 0 0),rv]) from by obtain⟨_,_,e⟩:=hrv;rw[e];clear e;exact t_kern _)<|s_alloc (.agg #[(.slice none 0 0),(.slice none 0 0)]) #[(.slice none 0 0),(.slice none 0 0)] (fun g2=>?_)
 refine s_store (u:=.agg #[(.slice none 0 0),rv]) (m:=2) 0 #[(.slice none 0 0),rv] ?_ (hm:=by (obtain⟨_,_,e0⟩:=hrv;rw[e0];rfl)) (h1:=by (obtain⟨_,_,e0⟩:=hrv;rw[e0];rfl)) (ha':=by (obtain⟨_,_,e0⟩:=hrv;rw[e0];rfl));refine s_nr<|sP (pB hb 0)<|s_call [2] (hids_s (st:=st) hsm hn) ?_
 rintro v3 _ rfl;refine sF 0 (fun hf4=>?_);refine sP v3<|s_nt<|k_seq<|k_sr<|sP (iw 0)<|s_nt<|k_block<|k_mem (fun _ h=>Holds.nilS (T:=ObT) (h.frz0 (F:=AllO []) (by intro _ x hx;cases hx))) ?_
 refine k_loop (ι:=Value×List Ob×Nat) (fun (ox,N,j)=>j≤(hids st).length∧N.map Ob.c=((hids st).take j).map (cobj st)) (fun (ox,N,j)=>[(0,pB hb 0),(4,pB g1 0),(5,pB g2 0),(6,v3),(7,iw (j:Int))]) (fun (ox,N,j)=>own ObT ox N::frz (AllO N)::own iTy v3 (hids st)::hpA hb st::blkA g2 #[ox,rv] 57::blkA g1 #[(.slice none 0 0),(.slice none 0 0)] 57::F) (fun (ox,N,j)=>(hids st).length-j) ((.slice none 0 0),[],0) ⟨Nat.zero_le _,rfl⟩ sA (rr [0,0,0,0,0,0] []) ?_;rintro⟨ox,N,j⟩ hi5;replace hi5:j≤(hids st).length∧N.map Ob.c=((hids st).take j).map (cobj st):=hi5;show SK _ _ _ _ _ [(0,.pointer (some ⟨hb,0,none⟩)),(4,.pointer (some ⟨g1,0,none⟩)),(5,.pointer (some ⟨g2,0,none⟩)),(6,v3),(7,iw (j:Int))] _ (own ObT ox N::frz (AllO N)::own iTy v3 (hids st)::hpA hb st::blkA g2 #[ox,rv] 57::blkA g1 #[(.slice none 0 0),(.slice none 0 0)] 57::F);have hNl:N.length=j:=by have:=congrArg List.length hi5.2;simp only[List.length_map,List.length_take]at this;omega
 refine k_seq<|k_sr<|sP (iw (j:Int))<|sP v3<|sL (t_len iTy_ok Tryz.underlying23 (.own 2))<|sL t_cmp<|s_nt<|k_cond (decide ((j:Int)<((hids st).length:Int))) (fun c6=>?_) (fun c6=>?_)
 .have p7:=dY c6;refine k_st<|k_seq<|k_block<|k_sr<|sP (pB hb 0)<|sP v3<|sP (iw (j:Int))<|sL (t_index iTy_ok Tryz.underlying23 (.own 2) (j:Int) j om ol om) ?_
  obtain⟨y8,hy9⟩:∃y,(hids st)[j]?=some y:=⟨_,List.getElem?_eq_getElem ol⟩;refine sL (t_loadE iTy_ok (.own 2) hy9)<|s_call [3] (hobject_s (st:=st) hsm hn hW y8 0) ?_
  rintro _ _ ⟨rv10,ev11,rfl,rfl⟩;refine sF 0 (fun hf12=>?_);refine sF 1 (fun hf13=>?_);refine sP (.tuple #[.agg #[iw (hoId st y8),iw (hoSz st y8),iw (hoWk st y8 0),rv10,ev11],.bool (halive st y8)])<|sP (.agg #[iw (hoId st y8),iw (hoSz st y8),iw (hoWk st y8 0),rv10,ev11])<|sP (.bool (halive st y8))<|s_alloc (.agg #[iw 0,iw 0,iw 0,(.slice none 0 0),(.slice none 0 0)]) #[iw 0,iw 0,iw 0,(.slice none 0 0),(.slice none 0 0)] (fun g14=>?_)
  refine s_store (u:=.agg #[iw (hoId st y8),iw (hoSz st y8),iw (hoWk st y8 0),rv10,ev11]) (m:=5) 0 #[iw (hoId st y8),iw (hoSz st y8),iw (hoWk st y8 0),rv10,ev11] ?_ (hm:=by (obtain⟨_,_,e0⟩:=hf12;obtain⟨_,_,e1⟩:=hf13;rw[e0,e1];rfl)) (h1:=by (obtain⟨_,_,e0⟩:=hf12;obtain⟨_,_,e1⟩:=hf13;rw[e0,e1];rfl)) (ha':=by (obtain⟨_,_,e0⟩:=hf12;obtain⟨_,_,e1⟩:=hf13;rw[e0,e1];rfl));refine sP (.bool (halive st y8))<|s_nt<|k_reg<|sP (pB g2 0)<|sL (t_load 7 ox) ?_
  obtain⟨pp15,cc16,e⟩:=hf12;subst e;obtain⟨pp17,cc18,e⟩:=hf13;subst e;refine sL (t_loadA 0 #[iw (hoId st y8),iw (hoSz st y8),iw (hoWk st y8 0),(.slice pp15 (hrefs st y8).length cc16),(.slice pp17 (hents st y8).length cc18)])<|s_buildSlice (e:=100) [(0,.agg #[iw (hoId st y8),iw (hoSz st y8),iw (hoWk st y8 0),(.slice pp15 (hrefs st y8).length cc16),(.slice pp17 (hents st y8).length cc18)])] #[iw (hoId st y8),iw (hoSz st y8),iw (hoWk st y8 0),(.slice pp15 (hrefs st y8).length cc16),(.slice pp17 (hents st y8).length cc18)] (fun g19=>?_) (hb:=by kernel_rfl)
  refine s_append (L:=N) 5 ObT_ok Tryz.underlying55 (.lit 0 ObT_ok [(⟨(hoId st y8),(hoSz st y8),(hoWk st y8 0),⟨pp15,(hrefs st y8).length,cc16⟩,⟨pp17,(hents st y8).length,cc18⟩,(hrefs st y8),(hents st y8)⟩:Ob)]) (by show _*72≤_;(try simp only[lnm]);omega) ol (fun v20=>?_);refine sF 5 (fun hf21=>?_);refine sP (pB g2 0)<|s_store (u:=v20) (m:=1) 8 #[v20,rv] ?_ (hm:=by (obtain⟨_,_,e0⟩:=hf21;rw[e0];rfl)) (h1:=by (obtain⟨_,_,e0⟩:=hf21;rw[e0];rfl)) (ha':=by (obtain⟨_,_,e0⟩:=hf21;rw[e0];rfl))
  refine s_nil<|xs_block<|xs_then<|k_reg<|sP (iw (j:Int))<|sL (t_add (j:Int) 1 ol)<|sP (iw ((j:Int)+1))<|s_nil<|xs_mem (fun _ h=>frz_push (⟨(hoId st y8),(hoSz st y8),(hoWk st y8 0),⟨pp15,(hrefs st y8).length,cc16⟩,⟨pp17,(hents st y8).length,cc18⟩,(hrefs st y8),(hents st y8)⟩:Ob) (h.re [2,2,4] [])) ?_
  exact xs_round (v20,N++[(⟨(hoId st y8),(hoSz st y8),(hoWk st y8 0),⟨pp15,(hrefs st y8).length,cc16⟩,⟨pp17,(hents st y8).length,cc18⟩,(hrefs st y8),(hents st y8)⟩:Ob)],j+1) (by show (hids st).length-(j+1)<(hids st).length-j;omega) (by obtain⟨hk1,hk2⟩:=hi5;exact⟨by omega,cob_snoc hy9 hk2 rfl⟩) sA (rr [4,0,3,2,2,2] [6,6])
 have p22:=dF c6;refine k_exit<|xs_exit<|xs_exit<|xs_here<|xs_then<|k_sr<|sL (t_loadA 4 #[ox,rv])<|sF 0 (fun hf23=>?_)
 refine s_store (u:=.agg #[ox,rv]) (m:=2) 5 #[ox,rv] ?_ (hm:=by (obtain⟨_,_,e0⟩:=hf23;obtain⟨_,_,e1⟩:=hrv;rw[e0,e1];rfl)) (h1:=by (obtain⟨_,_,e0⟩:=hf23;obtain⟨_,_,e1⟩:=hrv;rw[e0,e1];rfl)) (ha':=by (obtain⟨_,_,e0⟩:=hf23;obtain⟨_,_,e1⟩:=hrv;rw[e0,e1];rfl));refine s_nt<|k_ret ?_
 obtain⟨hk1,hk2⟩:=hi5;rw[List.take_of_length_le om]at hk2;exact xs_fin [.agg #[ox,rv]] (own ObT ox N::frz (AllO N)::hpA hb st::F) (SI.agg 4 57 5 SI.nil) (rr [0,0,1] [3,3,3]) ⟨ox,N,rfl,hk2,rfl⟩
end Go.Proofs.YtmhpcebiamkciaaGreat
end
section
set_option linter.unusedSimpArgs false
set_option linter.unusedVariables false
namespace Go.Proofs.YtmhpcebiamkciaaGreat
theorem made_dw{st:Hst}(h:HW st)(name:ByteArray):HW (hdata st name):=by
 unfold hdata;split
 .exact h
 exact h.make (data_w name)
theorem mstep_w{i:Nat}{o:Opc}{s:Hst×List Vl}(hi:HInv s.1)(h:HW s.1):HW (mstep i o s).1:=by
 unfold mstep;split
 .exact h.make (newO_w _ _ _ (fun _ hv=>(by cases hv)) (fun h8=>by cases h8))
 split
 .exact made_dw h _
 split
 .exact h.make (newO_w _ _ _ (fun _ hv=>(by cases hv)) (fun h8=>by cases h8))
 split
 .exact HW.set hi h _ _ _
 exact setMeta_w h _ _
theorem mst_w(l:List Opc):∀i,HW (mst l i).1
 | 0=>HW.nil
 | i+1=>by
  rw[mst];split
  .exact mstep_w (mst_good l i).1 (mst_w l i)
  exact mst_w l i
theorem made_w(l:List Opc):HW (made l).1:=mst_w l _
structure Shows(st:Hst)(N:List Ob):Prop where
 ids:N.map Ob.id=hids st
 obj:∀o∈N,o.c=cobj st o.id∧halive st o.id=true
theorem ho_id{st:Hst}{id:Int}(h:id∈hids st):hoId st id=id:=by unfold hoId;rw[if_pos (mem_hids.1 h)]
theorem shows_of{st:Hst}{N:List Ob}(hN:N.map Ob.c=(hids st).map (cobj st)):Shows st N:=by
 have h1:N.map Ob.id=hids st:=by
  have e:(N.map Ob.c).map (fun x=>x.1)=((hids st).map (cobj st)).map (fun x=>x.1):=by rw[hN]
  rw[List.map_map,List.map_map]at e;refine (show N.map Ob.id=N.map ((fun x=>x.1) ∘ Ob.c) from rfl).trans (e.trans ?_);refine (List.map_congr_left fun x hx=>?_).trans (List.map_id _);exact ho_id hx
 refine⟨h1,fun o ho=>?_⟩;have h2:o.c∈(hids st).map (cobj st):=by rw[←hN];exact List.mem_map.2 ⟨o,ho,rfl⟩
 obtain⟨id,hid,e⟩:=List.mem_map.1 h2;have e2:hoId st id=o.id:=congrArg (fun x:Core=>x.1) e;rw[ho_id hid]at e2;subst e2;exact⟨e.symm,mem_hids.1 hid⟩
theorem Shows.asc{st:Hst}{N:List Ob}(h:Shows st N):Asc N:=by
 have:=hids_asc st;rw[←h.ids,List.pairwise_map]at this;exact this
theorem chk_of:∀(N:List Ob) (last:Int),N.Pairwise (fun x y=>x.id<y.id)→(∀o∈N,last<o.id∧0≤o.size∧0≤o.weak∧o.weak≤3)→chk last N=true
 | [],_,_,_=>rfl
 | x::r,last,ha,h=>by
  obtain⟨h1,h2,h3,h4⟩:=h x (by simp);obtain⟨ha1,ha2⟩:=List.pairwise_cons.1 ha;have ih:=chk_of r x.id ha2 fun o ho=>⟨ha1 o ho,(h o (List.mem_cons_of_mem _ ho)).2⟩
  rw[chk,ih];simp only[Bool.and_true,Bool.not_eq_true',Bool.or_eq_false_iff,decide_eq_false_iff_not];omega
theorem Shows.chk{st:Hst}{N:List Ob}{n:Nat}(h:Shows st N)(hsm:HSm n st)(hn:n≤300):chk 0 N=true:=by
 refine chk_of N 0 h.asc fun o ho=>?_
 obtain⟨e,ha⟩:=h.obj o ho;obtain⟨ob,hg⟩:=halive_iff.1 ha;have hs:=obj_some hg 0;have e1:o.size=hoSz st o.id:=congrArg (fun x:Core=>x.2.1) e;have e2:o.weak=hoWk st o.id 0:=congrArg (fun x:Core=>x.2.2.1) e;have h1:=(get_mem hg).2.1;have h2:=(obsize_bound hsm hn hg).1;rw[hs.2.2.1]at e1;have h3:hoWk st o.id 0=0:=by rw[hs.2.2.2.1];unfold hweak;split<;>rfl
 rw[h3]at e2;exact⟨by omega,by omega,by omega,by omega⟩
theorem Shows.fnd{st:Hst}{N:List Ob}(h:Shows st N)(id:Int):alO N id=halive st id:=by
 rw[Bool.eq_iff_iff];constructor
 .intro hx;have:=al_ids hx;rw[h.ids]at this;exact mem_hids.1 this
 intro hx;have:=mem_hids.2 hx;rw[←h.ids]at this;obtain⟨o,ho,rfl⟩:=List.mem_map.1 this;exact alO_is (fnd_mem h.asc ho)
theorem Shows.refs{st:Hst}{N:List Ob}(h:Shows st N){id:Int}(hx:alO N id=true):rfO N id=crf st id:=by
 unfold alO at hx;obtain⟨o,ho⟩:=Option.isSome_iff_exists.1 hx;obtain⟨h1,h2⟩:=fnd_id ho;have e:=(h.obj o h2).1;rw[rfO_is ho,←h1];have e1:o.refs=hrefs st o.id:=congrArg (fun x:Core=>x.2.2.2.1) e;have e2:o.ents=hents st o.id:=congrArg (fun x:Core=>x.2.2.2.2) e;unfold allO crf;rw[e1,e2]
theorem Shows.rq{st:Hst}{N:List Ob}{R:List Int}{x:Int}(h:Shows st N):Rq (alO N) (rfO N) R x↔Rq (halive st) (crf st) R x:=
 ⟨rq_congr h.fnd (fun y hy=>h.refs hy),rq_congr (fun y=>(h.fnd y).symm) (fun y hy=>(h.refs (by rw[h.fnd];exact hy)).symm)⟩
theorem Shows.liv{st:Hst}{N:List Ob}{R G:List Int}{k:Nat}{x:Int}(h:Shows st N)(b:Bq (alO N) (rfO N) R k G)(hk:G.length≤k):x∈fil N G↔Rq (halive st) (crf st) R x:=by
 rw[←h.rq,←b.fin hk x];unfold fil;rw[List.mem_filter,decide_eq_true_iff];exact⟨fun q=>q.2,fun q=>⟨al_ids (b.snd x q).1,q⟩⟩
theorem Shows.small{st:Hst}{N:List Ob}{n:Nat}(h:Shows st N)(hsm:HSm n st)(hn:n≤300):∀o∈N,o.refs.length≤100000∧o.ents.length≤100000:=fun o ho=>by
 have e:=(h.obj o ho).1;have e1:o.refs=hrefs st o.id:=congrArg (fun x:Core=>x.2.2.2.1) e;have e2:o.ents=hents st o.id:=congrArg (fun x:Core=>x.2.2.2.2) e;have:=crf_bound hsm hn o.id;rw[e1,e2];omega
end Go.Proofs.YtmhpcebiamkciaaGreat
end
section
set_option linter.unusedSimpArgs false
set_option linter.unusedVariables false
set_option maxRecDepth 100000
set_option maxHeartbeats 2000000
namespace Go.Proofs.YtmhpcebiamkciaaGreat
open Go.Hp Go.J Go.S
open Go.Mem (Ty KTy blk elemAt pre suf blk_pre blk_suf aget aset strK aggDesc)
open Go.Mem (adel apos aget_aset aget_adel)
theorem csound0_s{Z:Zone}{F:List Asr}{b q hb:Nat}{m:Int→Int}{Q L Fr G P:List Int}{st:Hst}{rv:Value}{R:List Int}{n:Nat}(hsm:HSm n st)(hn:n≤300):SF Tryz.prog 29 #[.pointer (some ⟨b,0,none⟩),rv] Z (own iTy rv R::coA b q hb 0 m Q L Fr G P::hpA hb st::F) fun r Bs=>r=.bool true∧Bs=own iTy rv R::coA b q hb 0 m Q L Fr G P::hpA hb st::F:=by
 refine sf_enter Tryz.func29 125 [(0,pB b 0),(1,rv)] (fun w0=>?_);refine k_sr<|sP (.bool false)<|s_nt<|k_seq<|k_sr<|sP (pB b 0)<|sP (.bool false)<|s_nt<|k_false<|k_st<|k_sr<|sP2 (pB b 0)<|sP (pB b 1)<|s_mem5 (fun H h=>co_open (h.re [1] [])) (fun mb1 qv2 lv3 fv4 cl5 hw=>?_)
 have hc6:=hw;refine sL (t_load 0 (pB hb 0))<|s_call [7] (hids_s (st:=st) hsm om) ?_
 rintro v7 _ rfl;refine sF 0 (fun hf8=>?_);refine sP v7<|s_nt<|k_seq<|k_sr<|sP2 (pB b 0)<|sP (pB b 2)<|sL (t_load 2 (iw 0))<|s_nt<|k_block<|k_sr<|sL (t_cmp (c:=false))<|sP (.bool false)<|s_nt<|k_false<|k_sr<|sL (t_cmp (c:=false))<|sP (.bool false)<|s_nt<|k_false<|k_skip<|xs_block<|xs_then<|k_sr<|sP (.bool true)<|s_nt<|k_ret<|xs_mem (fun _ h=>co_shut (c:=m) (.inl rfl) (h.re [2,2,2,2,2,2] [])) ?_
 exact xs_fin [.bool true] (own iTy rv R::coA b q hb 0 m Q L Fr G P::hpA hb st::F) (SI.tmp 4 SI.nil) (rr [3,0,1] [3]) ⟨rfl,rfl⟩
theorem csound1_s{Z:Zone}{F:List Asr}{b q hb:Nat}{m:Int→Int}{Q L Fr G P:List Int}{st:Hst}{rv:Value}{R:List Int}{n:Nat}(hsm:HSm n st)(hn:n≤300)(hW:HW st)(hmk:∀x,halive st x=true→m x=2→∀z∈crf st x,halive st z=true→m z≠0):SF Tryz.prog 29 #[.pointer (some ⟨b,0,none⟩),rv] Z (own iTy rv R::coA b q hb 1 m Q L Fr G P::hpA hb st::F) fun r Bs=>r=.bool true∧Bs=own iTy rv R::coA b q hb 1 m Q L Fr G P::hpA hb st::F:=by
 have hil:=hids_len st;have hol:=hsm.len;refine sf_enter Tryz.func29 125 [(0,pB b 0),(1,rv)] (fun w0=>?_);refine k_sr<|sP (.bool false)<|s_nt<|k_seq<|k_sr<|sP (pB b 0)<|sP (.bool false)<|s_nt<|k_false<|k_st<|k_sr<|sP2 (pB b 0)<|sP (pB b 1)<|s_mem4 (fun H h=>co_open1 (show (1:Int)≠0 by decide) (h.re [1] [])) (fun mb1 qv2 lv3 fv4 hw=>?_)
 refine sL (t_load 0 (pB hb 0))<|s_call [7] (hids_s (st:=st) hsm om) ?_
 rintro v5 _ rfl;refine sF 0 (fun hf6=>?_);refine sP v5<|s_nt<|k_seq<|k_sr<|sP2 (pB b 0)<|sP (pB b 2)<|sL (t_load 2 (iw 1))<|s_nt<|k_block<|k_sr<|sL (t_cmp (c:=true))<|sP (.bool true)<|s_nt<|k_true<|k_sr<|sP v5<|sL (t_len iTy_ok Tryz.underlying23 (.own 0))<|sP (iw 0)<|s_nt<|k_block<|k_mem (fun _ h=>co_shut (c:=m) (.inr rfl) (h.re [2,2,2,2,2,2] [])) ?_
 refine k_loop (ι:=Nat) (fun i=>i≤(hids st).length) (fun i=>[(0,pB b 0),(32,v5),(33,iw ((hids st).length:Int)),(34,iw (i:Int))]) (fun i=>coA b q hb 1 m Q L Fr G P::own iTy v5 (hids st)::hpA hb st::own iTy rv R::F) (fun i=>(hids st).length-i) 0 (Nat.zero_le _) sA (rr [0,0,0,0] []) ?_;rintro i hi7;show SK _ _ _ _ _ [(0,.pointer (some ⟨b,0,none⟩)),(32,v5),(33,iw ((hids st).length:Int)),(34,iw (i:Int))] _ (coA b q hb 1 m Q L Fr G P::own iTy v5 (hids st)::hpA hb st::own iTy rv R::F);refine k_sr<|sL t_cmp<|s_nt<|k_seq<|k_cond (decide ((i:Int)<((hids st).length:Int))) (fun c8=>?_) (fun c8=>?_)
 .have p9:=dY c8;refine k_st<|k_seq<|k_block<|k_sr<|sL (t_index iTy_ok Tryz.underlying23 (.own 1) (i:Int) i om ol om) ?_
  obtain⟨y10,hy11⟩:∃y,(hids st)[i]?=some y:=⟨_,List.getElem?_eq_getElem ol⟩;refine sL (t_loadE iTy_ok (.own 1) hy11)<|sP (iw y10)<|s_nt<|k_seq<|k_sr<|sP2 (pB b 0)<|sP (pB b 3)<|s_mem4 (fun H h=>co_open1 (show (1:Int)≠0 by decide) (h.re [0] [])) (fun mb12 qv13 lv14 fv15 hw=>?_)
  refine sL (t_load 0 (.map (some mb12)))<|sP (iw y10)<|s_memX (fun H h=>mc_open (h.re [2] [])) (fun m16 hw=>?_)
  have hm17:=hw;refine sL (Lt.to (v':=iw (m y10)) (t_lookup 0 intOk Tryz.underlying89 (iw 0) y10) ((mgt_is _ _).trans (cI (hm17.1 y10))))<|sL t_cmp<|s_nt<|k_cond (decide ((m y10)≠2)) (fun c18=>?_) (fun c18=>?_)
  .have p19:=dY c18;refine k_exit<|xs_exit<|xs_here<|xs_then<|k_reg<|sL (t_add (i:Int) 1 ol)<|sP (iw ((i:Int)+1))<|s_nil<|xs_mem (fun _ h=>mc_shut hm17.1 (h.re [0] [])) ?_
   refine xs_mem (fun _ h=>co_shut (c:=m) (.inr rfl) (h.re [1,1,0,0,0,0] [])) ?_;exact xs_round (i+1) (by show (hids st).length-(i+1)<(hids st).length-i;omega) om sA (rr [0,0,0,0] [])
  have p20:=Decidable.not_not.1 (dF c18);refine k_st<|k_sr<|sP (pB b 0)<|sP (iw y10)<|s_mem (fun _ h=>mc_shut hm17.1 (h.re [0] [])) ?_
  refine s_mem (fun _ h=>co_shut (c:=m) (.inr rfl) (h.re [1,1,0,0,0,0] [])) ?_;refine s_call [0,1] (crefs_s (x:=y10) hsm hn hW) ?_;rintro v21 _ rfl;refine sF 0 (fun hf22=>?_);refine sL (t_len iTy_ok Tryz.underlying23 (.own 0))<|sP (iw 0)<|s_nt<|k_block ?_
  obtain⟨_,_,hcl⟩:=crf_bound hsm hn y10;refine k_loop (ι:=Nat) (fun j=>j≤(crf st y10).length) (fun j=>[(0,pB b 0),(32,v5),(33,iw ((hids st).length:Int)),(34,iw (i:Int)),(47,v21),(48,iw ((crf st y10).length:Int)),(49,iw (j:Int))]) (fun j=>own iTy v21 (crf st y10)::coA b q hb 1 m Q L Fr G P::hpA hb st::own iTy v5 (hids st)::own iTy rv R::F) (fun j=>(crf st y10).length-j) 0 (Nat.zero_le _) sA (rr [0,0,0,0,0] []) ?_;rintro j hi23;show SK _ _ _ _ _ [(0,.pointer (some ⟨b,0,none⟩)),(32,v5),(33,iw ((hids st).length:Int)),(34,iw (i:Int)),(47,v21),(48,iw ((crf st y10).length:Int)),(49,iw (j:Int))] _ (own iTy v21 (crf st y10)::coA b q hb 1 m Q L Fr G P::hpA hb st::own iTy v5 (hids st)::own iTy rv R::F);refine k_sr<|sL t_cmp<|s_nt<|k_seq<|k_cond (decide ((j:Int)<((crf st y10).length:Int))) (fun c24=>?_) (fun c24=>?_)
  .have p25:=dY c24;refine k_st<|k_seq<|k_block<|k_sr<|sL (t_index iTy_ok Tryz.underlying23 (.own 0) (j:Int) j om ol om) ?_
   obtain⟨y26,hy27⟩:∃y,(crf st y10)[j]?=some y:=⟨_,List.getElem?_eq_getElem ol⟩;refine sL (t_loadE iTy_ok (.own 0) hy27)<|sP (iw y26)<|s_nr<|sP2 (pB b 0)<|sP (pB b 1)<|s_mem4 (fun H h=>co_open1 (show (1:Int)≠0 by decide) (h.re [1] [])) (fun mb28 qv29 lv30 fv31 hw=>?_)
   refine sL (t_load 0 (pB hb 0))<|sP (iw y26)<|sC [7] (halive_s (st:=st) y26) ?_
   refine sP (.bool (halive st y26))<|s_fork 59 (halive st y26) (fun c32=>?_) (fun c32=>?_)
   .refine sP2 (pB b 0)<|sP (pB b 3)<|sL (t_load 1 (.map (some mb28)))<|sP (iw y26)<|s_memX (fun H h=>mc_open (h.re [3] [])) (fun m33 hw=>?_)
    have hm34:=hw;refine sL (Lt.to (v':=iw (m y26)) (t_lookup 0 intOk Tryz.underlying89 (iw 0) y26) ((mgt_is _ _).trans (cI (hm34.1 y26))))<|sL t_cmp<|sP (.bool (decide ((m y26)=0)))<|s_nt<|k_cond (decide ((m y26)=0)) (fun c35=>?_) (fun c35=>?_)
    .have p36:=dY c35;refine k_sr<|sP (.bool false)<|s_nt<|k_ret<|xs_retBlock<|xs_ret<|xs_ret<|xs_retBlock<|xs_retBlock<|xs_ret<|xs_ret<|xs_retBlock<|xs_retBlock<|xs_ret<|xs_mem (fun _ h=>mc_shut hm34.1 (h.re [0] [])) ?_
     refine xs_mem (fun _ h=>co_shut (c:=m) (.inr rfl) (h.re [2,2,0,1,1,1] [])) ?_;exfalso;exact hmk y10 (mem_hids.1 (List.mem_of_getElem? hy11)) (Decidable.not_not.1 (dF c18)) y26 (List.mem_of_getElem? hy27) c32 (dY c35)
    have p37:=dF c35;refine k_skip<|xs_block<|xs_then<|k_reg<|sL (t_add (j:Int) 1 ol)<|sP (iw ((j:Int)+1))<|s_nil<|xs_mem (fun _ h=>mc_shut hm34.1 (h.re [0] [])) ?_
    refine xs_mem (fun _ h=>co_shut (c:=m) (.inr rfl) (h.re [2,2,0,1,1,1] [])) ?_;exact xs_round (j+1) (by show (crf st y10).length-(j+1)<(crf st y10).length-j;omega) om sA (rr [2,0,0,0,0] [])
   refine sK<|sK<|sK<|sK<|sK<|sK<|sK<|sP (.bool false)<|s_nt<|k_false<|k_skip<|xs_block<|xs_then<|k_reg<|sL (t_add (j:Int) 1 ol)<|sP (iw ((j:Int)+1))<|s_nil<|xs_mem (fun _ h=>co_shut (c:=m) (.inr rfl) (h.re [1,1,1,1,1,1] [])) ?_
   exact xs_round (j+1) (by show (crf st y10).length-(j+1)<(crf st y10).length-j;omega) om sA (rr [2,0,0,0,0] [])
  have p38:=dF c24;refine k_exit<|xs_exit<|xs_exit<|xs_here<|xs_block<|xs_then<|k_reg<|sL (t_add (i:Int) 1 ol)<|sP (iw ((i:Int)+1))<|s_nil ?_
  exact xs_round (i+1) (by show (hids st).length-(i+1)<(hids st).length-i;omega) om sA (rr [1,2,1,1] [4])
 have p39:=dF c8;refine k_exit<|xs_exit<|xs_exit<|xs_here<|xs_block<|xs_then<|k_sr<|sP (.bool true)<|s_nt<|k_ret ?_
 exact xs_fin [.bool true] (own iTy rv R::coA b q hb 1 m Q L Fr G P::hpA hb st::F) (SI.tmp 4 SI.nil) (rr [3,0,1] [3]) ⟨rfl,rfl⟩
theorem csound2_s{Z:Zone}{F:List Asr}{b q hb:Nat}{m:Int→Int}{Q L Fr G P:List Int}{st:Hst}{rv:Value}{R:List Int}{n:Nat}(hsm:HSm n st)(hn:n≤300)(hW:HW st)(hR:R.length≤9000)(hG:G.length+P.length≤10000)(hsf:∀x,Rq (halive st) (crf st) (R++(G++P)) x→m x=0→x∈L→False):SF Tryz.prog 29 #[.pointer (some ⟨b,0,none⟩),rv] Z (own iTy rv R::coA b q hb 2 m Q L Fr G P::hpA hb st::F) fun r Bs=>r=.bool true∧Bs=own iTy rv R::coA b q hb 2 m Q L Fr G P::hpA hb st::F:=by
 have hil:=hids_len st;have hol:=hsm.len;refine sf_enter Tryz.func29 125 [(0,pB b 0),(1,rv)] (fun w0=>?_);refine k_sr<|sP (.bool false)<|s_nt<|k_seq<|k_sr<|sP (pB b 0)<|sP (.bool false)<|s_nt<|k_false<|k_st<|k_sr<|sP2 (pB b 0)<|sP (pB b 1)<|s_mem4 (fun H h=>co_open1 (show (2:Int)≠0 by decide) (h.re [1] [])) (fun mb1 qv2 lv3 fv4 hw=>?_)
 refine sL (t_load 0 (pB hb 0))<|s_call [7] (hids_s (st:=st) hsm hn) ?_
 rintro v5 _ rfl;refine sF 0 (fun hf6=>?_);refine sP v5<|s_nt<|k_seq<|k_sr<|sP2 (pB b 0)<|sP (pB b 2)<|sL (t_load 2 (iw 2))<|s_nt<|k_block<|k_sr<|sL (t_cmp (c:=false))<|sP (.bool false)<|s_nt<|k_false<|k_sr<|sL (t_cmp (c:=true))<|sP (.bool true)<|s_nt<|k_true<|k_sr<|sP (pB b 0)<|sP rv<|s_mem (fun _ h=>co_shut (c:=m) (.inr rfl) (h.re [2,2,2,2,2,2] [])) ?_
 refine s_call [3,0] (call_s (R:=R) (G:=G) (P:=P) om om) ?_;rintro v7 _ rfl;refine sF 0 (fun hf8=>?_);refine sL (show Lt _ _ _ _ _ (.agg #[(.slice none 0 0),v7]) from by obtain⟨_,_,e⟩:=hf8;rw[e];clear e;exact t_kern _)<|s_alloc (.agg #[(.slice none 0 0),(.slice none 0 0)]) #[(.slice none 0 0),(.slice none 0 0)] (fun g9=>?_)
 refine s_store (u:=.agg #[(.slice none 0 0),v7]) (m:=2) 0 #[(.slice none 0 0),v7] ?_ (hm:=by (obtain⟨_,_,e0⟩:=hf8;rw[e0];rfl)) (h1:=by (obtain⟨_,_,e0⟩:=hf8;rw[e0];rfl)) (ha':=by (obtain⟨_,_,e0⟩:=hf8;rw[e0];rfl));refine s_nt<|k_seq<|k_sr<|sP v5<|sL (t_len iTy_ok Tryz.underlying23 (.own 4))<|sP (iw 0)<|s_nt<|k_block<|k_mem (fun _ h=>Holds.nilS (T:=ObT) (h.frz0 (F:=AllO []) (by intro _ x hx;cases hx))) ?_
 refine k_loop (ι:=Value×List Ob×Nat) (fun (ox,N,j)=>j≤(hids st).length∧N.map Ob.c=((hids st).take j).map (cobj st)) (fun (ox,N,j)=>[(0,pB b 0),(10,pB g9 0),(76,v5),(77,iw ((hids st).length:Int)),(78,iw (j:Int))]) (fun (ox,N,j)=>own ObT ox N::frz (AllO N)::blkA g9 #[ox,v7] 57::own iTy v7 (R++(G++P))::own iTy rv R::coA b q hb 2 m Q L Fr G P::own iTy v5 (hids st)::hpA hb st::F) (fun (ox,N,j)=>(hids st).length-j) ((.slice none 0 0),[],0) ⟨Nat.zero_le _,rfl⟩ sA (rr [0,0,0,0,0,0,0,0] []) ?_;rintro⟨ox,N,j⟩ hi10;replace hi10:j≤(hids st).length∧N.map Ob.c=((hids st).take j).map (cobj st):=hi10;show SK _ _ _ _ _ [(0,.pointer (some ⟨b,0,none⟩)),(10,.pointer (some ⟨g9,0,none⟩)),(76,v5),(77,iw ((hids st).length:Int)),(78,iw (j:Int))] _ (own ObT ox N::frz (AllO N)::blkA g9 #[ox,v7] 57::own iTy v7 (R++(G++P))::own iTy rv R::coA b q hb 2 m Q L Fr G P::own iTy v5 (hids st)::hpA hb st::F);have hNl:N.length=j:=by have:=congrArg List.length hi10.2;simp only[List.length_map,List.length_take]at this;omega
 refine k_sr<|sL t_cmp<|s_nt<|k_seq<|k_cond (decide ((j:Int)<((hids st).length:Int))) (fun c11=>?_) (fun c11=>?_)
 .have p12:=dY c11;refine k_st<|k_seq<|k_block<|k_sr<|sL (t_index iTy_ok Tryz.underlying23 (.own 6) (j:Int) j om ol om) ?_
  obtain⟨y13,hy14⟩:∃y,(hids st)[j]?=some y:=⟨_,List.getElem?_eq_getElem ol⟩;refine sL (t_loadE iTy_ok (.own 6) hy14)<|sP (iw y13)<|s_nr<|sP2 (pB b 0)<|sP (pB b 1)<|s_mem4 (fun H h=>co_open1 (show (2:Int)≠0 by decide) (h.re [5] [])) (fun mb15 qv16 lv17 fv18 hw=>?_)
  refine sL (t_load 0 (pB hb 0))<|sP (iw y13)<|s_call [12] (hobject_s (st:=st) hsm hn hW y13 0) ?_
  rintro _ _ ⟨rv19,ev20,rfl,rfl⟩;refine sF 0 (fun hf21=>?_);refine sF 1 (fun hf22=>?_);refine sP (.tuple #[.agg #[iw (hoId st y13),iw (hoSz st y13),iw (hoWk st y13 0),rv19,ev20],.bool (halive st y13)])<|sP (.agg #[iw (hoId st y13),iw (hoSz st y13),iw (hoWk st y13 0),rv19,ev20])<|sP (.bool (halive st y13))<|s_alloc (.agg #[iw 0,iw 0,iw 0,(.slice none 0 0),(.slice none 0 0)]) #[iw 0,iw 0,iw 0,(.slice none 0 0),(.slice none 0 0)] (fun g23=>?_)
  refine s_store (u:=.agg #[iw (hoId st y13),iw (hoSz st y13),iw (hoWk st y13 0),rv19,ev20]) (m:=5) 0 #[iw (hoId st y13),iw (hoSz st y13),iw (hoWk st y13 0),rv19,ev20] ?_ (hm:=by (obtain⟨_,_,e0⟩:=hf21;obtain⟨_,_,e1⟩:=hf22;rw[e0,e1];rfl)) (h1:=by (obtain⟨_,_,e0⟩:=hf21;obtain⟨_,_,e1⟩:=hf22;rw[e0,e1];rfl)) (ha':=by (obtain⟨_,_,e0⟩:=hf21;obtain⟨_,_,e1⟩:=hf22;rw[e0,e1];rfl));refine sP (.bool (halive st y13))<|s_nt<|k_reg<|sP (pB g9 0)<|sL (t_load 12 ox) ?_
  obtain⟨pp24,cc25,e⟩:=hf21;subst e;obtain⟨pp26,cc27,e⟩:=hf22;subst e;refine sL (t_loadA 0 #[iw (hoId st y13),iw (hoSz st y13),iw (hoWk st y13 0),(.slice pp24 (hrefs st y13).length cc25),(.slice pp26 (hents st y13).length cc27)])<|s_buildSlice (e:=100) [(0,.agg #[iw (hoId st y13),iw (hoSz st y13),iw (hoWk st y13 0),(.slice pp24 (hrefs st y13).length cc25),(.slice pp26 (hents st y13).length cc27)])] #[iw (hoId st y13),iw (hoSz st y13),iw (hoWk st y13 0),(.slice pp24 (hrefs st y13).length cc25),(.slice pp26 (hents st y13).length cc27)] (fun g28=>?_) (hb:=by kernel_rfl)
  refine s_append (L:=N) 11 ObT_ok Tryz.underlying55 (.lit 0 ObT_ok [(⟨(hoId st y13),(hoSz st y13),(hoWk st y13 0),⟨pp24,(hrefs st y13).length,cc25⟩,⟨pp26,(hents st y13).length,cc27⟩,(hrefs st y13),(hents st y13)⟩:Ob)]) (by show _*72≤_;(try simp only[lnm]);omega) ol (fun v29=>?_);refine sF 11 (fun hf30=>?_);refine sP (pB g9 0)<|s_store (u:=v29) (m:=1) 13 #[v29,v7] ?_ (hm:=by (obtain⟨_,_,e0⟩:=hf30;rw[e0];rfl)) (h1:=by (obtain⟨_,_,e0⟩:=hf30;rw[e0];rfl)) (ha':=by (obtain⟨_,_,e0⟩:=hf30;rw[e0];rfl))
  refine s_nil<|xs_block<|xs_then<|k_reg<|sL (t_add (j:Int) 1 ol)<|sP (iw ((j:Int)+1))<|s_nil<|xs_mem (fun _ h=>co_shut (c:=m) (.inr rfl) (h.re [5,5,5,5,5,5] [])) ?_
  refine xs_mem (fun _ h=>frz_push (⟨(hoId st y13),(hoSz st y13),(hoWk st y13 0),⟨pp24,(hrefs st y13).length,cc25⟩,⟨pp26,(hents st y13).length,cc27⟩,(hrefs st y13),(hents st y13)⟩:Ob) (h.re [3,3,5] [])) ?_;refine xs_mem (Bs:=frz (AllO (N++[(⟨(hoId st y13),(hoSz st y13),(hoWk st y13 0),⟨pp24,(hrefs st y13).length,cc25⟩,⟨pp26,(hents st y13).length,cc27⟩,(hrefs st y13),(hents st y13)⟩:Ob)]))::coA b q hb 2 m Q L Fr G P::blkA g28 #[iw (hoId st y13),iw (hoSz st y13),iw (hoWk st y13 0),(.slice pp24 (hrefs st y13).length cc25),(.slice pp26 (hents st y13).length cc27)] 100::blkA g23 #[iw (hoId st y13),iw (hoSz st y13),iw (hoWk st y13 0),(.slice pp24 (hrefs st y13).length cc25),(.slice pp26 (hents st y13).length cc27)] 100::hpA hb st::own ObT v29 (N++[(⟨(hoId st y13),(hoSz st y13),(hoWk st y13 0),⟨pp24,(hrefs st y13).length,cc25⟩,⟨pp26,(hents st y13).length,cc27⟩,(hrefs st y13),(hents st y13)⟩:Ob)])::blkA g9 #[v29,v7] 57::own iTy v7 (R++(G++P))::own iTy rv R::own iTy v5 (hids st)::F) (fun _ h=>h) ?_;exact xs_round (v29,N++[(⟨(hoId st y13),(hoSz st y13),(hoWk st y13 0),⟨pp24,(hrefs st y13).length,cc25⟩,⟨pp26,(hents st y13).length,cc27⟩,(hrefs st y13),(hents st y13)⟩:Ob)],j+1) (by show (hids st).length-(j+1)<(hids st).length-j;omega) (by obtain⟨hk1,hk2⟩:=hi10;exact⟨by omega,cob_snoc hy14 hk2 rfl⟩) sA (rr [5,0,4,4,4,0,3,2] [8,8])
 have p31:=dF c11;refine k_exit<|xs_exit<|xs_exit<|xs_here<|xs_then<|k_sr<|sL (t_loadA 2 #[ox,v7]) ?_
 obtain⟨hk1,hk2⟩:=hi10;rw[List.take_of_length_le om]at hk2;have hsh:=shows_of hk2;have hNl:N.length=(hids st).length:=by have:=congrArg List.length hk2;simpa using this
 refine s_pcall (fun _ h=>mgraph_s (l:=N) (R:=(R++(G++P))) ⟨Acc.kn (T:=ObT) (.own 0) h,Acc.kn (T:=iTy) (.own 3) h,fun x hx=>⟨.of (h.frzF 1 rfl x hx).1,.of (h.frzF 1 rfl x hx).2⟩⟩ (hsh.chk hsm hn) hsh.asc om (hsh.small hsm hn)) ?_;rintro _ _ ⟨rl34,G32,kg33,rfl,hB,hGe,rfl⟩;refine sF 0 (fun hf35=>?_);have hfl:=fil_len N G32;refine sP (.tuple #[rl34,iw 0])<|sP rl34<|sP (iw 0)<|sP rl34<|sP (iw 0)<|s_nr<|sP rl34<|sL (t_len iTy_ok Tryz.underlying23 (.own 0))<|sP (iw 0)<|s_nt<|k_block<|k_loop (ι:=Nat) (fun i=>i≤(fil N G32).length) (fun i=>[(0,pB b 0),(103,rl34),(104,iw ((fil N G32).length:Int)),(105,iw (i:Int))]) (fun i=>own iTy rl34 (fil N G32)::own ObT ox N::frz (AllO N)::blkA g9 #[ox,v7] 57::own iTy v7 (R++(G++P))::own iTy rv R::coA b q hb 2 m Q L Fr G P::own iTy v5 (hids st)::hpA hb st::F) (fun i=>(fil N G32).length-i) 0 (Nat.zero_le _) sA (rr [0,0,0,0,0,0,0,0,0] []) ?_
 rintro i hi36;show SK _ _ _ _ _ [(0,.pointer (some ⟨b,0,none⟩)),(103,rl34),(104,iw ((fil N G32).length:Int)),(105,iw (i:Int))] _ (own iTy rl34 (fil N G32)::own ObT ox N::frz (AllO N)::blkA g9 #[ox,v7] 57::own iTy v7 (R++(G++P))::own iTy rv R::coA b q hb 2 m Q L Fr G P::own iTy v5 (hids st)::hpA hb st::F);refine k_sr<|sL t_cmp<|s_nt<|k_seq<|k_cond (decide ((i:Int)<((fil N G32).length:Int))) (fun c37=>?_) (fun c37=>?_)
 .have p38:=dY c37;refine k_st<|k_seq<|k_block<|k_sr<|sL (t_index iTy_ok Tryz.underlying23 (.own 0) (i:Int) i om ol om) ?_
  obtain⟨y39,hy40⟩:∃y,(fil N G32)[i]?=some y:=⟨_,List.getElem?_eq_getElem ol⟩;refine sL (t_loadE iTy_ok (.own 0) hy40)<|sP (iw y39)<|s_nr<|sP2 (pB b 0)<|sP (pB b 3)<|s_mem4 (fun H h=>co_open1 (show (2:Int)≠0 by decide) (h.re [6] [])) (fun mb41 qv42 lv43 fv44 hw=>?_)
  refine sL (t_load 0 (.map (some mb41)))<|sP (iw y39)<|s_memX (fun H h=>mc_open (h.re [2] [])) (fun m45 hw=>?_)
  have hm46:=hw;refine sL (Lt.to (v':=iw (m y39)) (t_lookup 0 intOk Tryz.underlying89 (iw 0) y39) ((mgt_is _ _).trans (cI (hm46.1 y39))))<|sL t_cmp<|sP (.bool (decide ((m y39)=0)))<|s_fork 116 (decide ((m y39)=0)) (fun c47=>?_) (fun c47=>?_)
  .have p48:=dY c47;refine sP2 (pB b 0)<|sP (pB b 5)<|sL (t_load 1 lv43)<|sP (iw y39)<|sV (fun _ h=>contains_s (L:=L) (Acc.kn (.ownO 4) h) y39)<|sP (.bool (decide (y39∈L)))<|s_nt<|k_cond (decide (y39∈L)) (fun c49=>?_) (fun c49=>?_)
   .have p50:=dY c49;refine k_sr<|sP (.bool false)<|s_nt<|k_ret<|xs_retBlock<|xs_ret<|xs_ret<|xs_retBlock<|xs_retBlock<|xs_ret<|xs_mem (fun _ h=>mc_shut hm46.1 (h.re [0] [])) ?_
    refine xs_mem (fun _ h=>co_shut (c:=m) (.inr rfl) (h.re [1,1,0,0,0,0] [])) ?_;exfalso;exact hsf y39 ((hsh.liv hB hGe).1 (List.mem_of_getElem? hy40)) (dY c47) (dY c49)
   have p51:=dF c49;refine k_skip<|xs_block<|xs_then<|k_reg<|sL (t_add (i:Int) 1 ol)<|sP (iw ((i:Int)+1))<|s_nil<|xs_mem (fun _ h=>mc_shut hm46.1 (h.re [0] [])) ?_
   refine xs_mem (fun _ h=>co_shut (c:=m) (.inr rfl) (h.re [1,1,0,0,0,0] [])) ?_;exact xs_round (i+1) (by show (fil N G32).length-(i+1)<(fil N G32).length-i;omega) om sA (rr [1,1,1,1,1,1,0,0,0] [])
  have p52:=dF c47;refine sK<|sK<|sK<|sK<|sK<|sK<|sP (.bool false)<|s_nt<|k_false<|k_skip<|xs_block<|xs_then<|k_reg<|sL (t_add (i:Int) 1 ol)<|sP (iw ((i:Int)+1))<|s_nil<|xs_mem (fun _ h=>mc_shut hm46.1 (h.re [0] [])) ?_
  refine xs_mem (fun _ h=>co_shut (c:=m) (.inr rfl) (h.re [1,1,0,0,0,0] [])) ?_;exact xs_round (i+1) (by show (fil N G32).length-(i+1)<(fil N G32).length-i;omega) om sA (rr [1,1,1,1,1,1,0,0,0] [])
 have p53:=dF c37;refine k_exit<|xs_exit<|xs_exit<|xs_here<|xs_block<|xs_then<|k_sr<|sP (.bool true)<|s_nt<|k_ret ?_
 exact xs_fin [.bool true] (own iTy rv R::coA b q hb 2 m Q L Fr G P::hpA hb st::F) (SI.tmp 4 SI.nil) (rr [5,5,6] [3,3,3,3,3,3]) ⟨rfl,rfl⟩
theorem csound_s{Z:Zone}{F:List Asr}{b q hb N:Nat}{st:Hst}{s:Cst}{rv:Value}{R:List Int}(hci:CI N st s)(hN:N≤300)(hk:KI st R s)(hR:R.length≤9000):SF Tryz.prog 29 #[.pointer (some ⟨b,0,none⟩),rv] Z (own iTy rv R::coS b q hb s::hpA hb st::F) fun r Bs=>r=.bool true∧Bs=own iTy rv R::coS b q hb s::hpA hb st::F:=by
 have hph:=hci.ph;have hgp:=hci.gp;obtain⟨ph,m,Q,L,Fr,G,P⟩:=s;have hgp:G.length+P.length≤N:=hgp;rcases hph with h|h|h
 .have h':ph=0:=h;subst h';exact csound0_s hci.sm hN
 .have h':ph=1:=h;subst h';exact csound1_s hci.sm hN hci.w (hk.mark rfl)
 have h':ph=2:=h;subst h';exact csound2_s hci.sm hN hci.w hR om fun x hx h0 hl=>reach_safe hk rfl hx ⟨rfl,h0,hl⟩
end Go.Proofs.YtmhpcebiamkciaaGreat
end
section
set_option linter.unusedSimpArgs false
set_option linter.unusedVariables false
namespace Go.Proofs.YtmhpcebiamkciaaGreat
def vat(L:List Vl)(i:Int):Vl:=(L[(Int.tmod i L.length).toNat]?).getD zVl
def vid(L:List Vl)(i:Int):Int:=if L.length=0∨i<0 then 0 else (vat L i).ref
def numV(n:Int):Vl:=⟨2,n,1,eb,0⟩
def tbN:Hob:=newO 4 0 eb []
def cl3(n:Int):Int:=if 200<(if n<(-3) then (-3) else n) then 200 else (if n<(-3) then (-3) else n)
def mx0(n:Int):Int:=if n<0 then 0 else n
theorem cl3_le(n:Int):cl3 n≤1000:=by unfold cl3;split<;>omega
def uns(n:Int):Nat:=(cl3 n).toNat
def pstH(k n a b:Int)(st:Hst)(L:List Vl)(R:List Int)(s:Cst):Hst:=
 if k=0 then (work (uns n) st R s).1 else
 if k=1 then hset st (refV 4 (vid L a)) (numV (Int.tmod (mx0 n) 3)) (vat L b) else
 if k=2 then hmake st tbN else st
def pstL(k:Int)(st:Hst)(L:List Vl):List Vl:=if k=2 then L++[refV 4 ((st.objs.length:Int)+1)] else L
def pstR(k:Int)(st:Hst)(R:List Int):List Int:=if k=2 then R++[(st.objs.length:Int)+1] else R
def pstC(k n a b:Int)(st:Hst)(L:List Vl)(R:List Int)(s:Cst):Cst:=
 if k=0 then (work (uns n) st R s).2.1 else
 if k=1 then wrt (pstH k n a b st L R s) s (vid L a) (vid L b) else
 if k=2 then brt (hmake st tbN) s ((st.objs.length:Int)+1) else rgs st s (vid L a)
structure PI(N:Nat)(st:Hst)(L:List Vl)(R:List Int)(s:Cst):Prop where
 ci:CI N st s
 ki:KI st R s
 ll:L.length≤N
 rl:R.length≤N
section
variable{N:Nat}{st:Hst}{L:List Vl}{R:List Int}{s:Cst}{k n a b:Int}
theorem no_full(h:CI N st s)(hN:N≤300):¬65536≤st.count:=by
 have h1:=h.sm.len;have h2:st.count≤st.objs.length:=List.countP_le_length;omega
theorem vid_pos(h:halive st (vid L a)=true):L.length≠0∧0≤a∧vid L a=(vat L a).ref:=by
 by_cases q:L.length=0∨a<0
 .unfold vid at h;rw[if_pos q]at h;exact absurd rfl (alive_pos h)
 unfold vid;rw[if_neg q];exact⟨fun e=>q (.inl e),by omega,rfl⟩
theorem vid_at{i:Int}{y:Vl}(h0:¬L.length=0)(h1:0≤i)(hy:L[(Int.tmod i L.length).toNat]?=some y):vat L i=y∧vid L i=y.ref:=by
 have:vat L i=y:=by unfold vat;rw[hy];rfl
 refine⟨this,?_⟩;unfold vid;rw[if_neg om,this]
theorem vid_no{i:Int}(h:L.length=0∨i<0):vid L i=0:=if_pos h
theorem CI.hset(h:CI N st s){t k v:Vl}(hk:k.kind=2):CI (N+1) (Go.Proofs.YtmhpcebiamkciaaGreat.hset st t k v) s:=h.heap (fun x hx=>by rw[(hset_wr h.i hk).al];exact hx) (by rw[hids_same (hset_wr h.i (t:=t) (v:=v) hk).al];omega) (Nat.le_succ N) (hset_sm h.i h.sm _ _ _) (HW.set h.i h.w _ _ _) (hset_inv h.i _ _ _)
theorem hids_make(st:Hst):(hids (hmake st tbN)).length≤(hids st).length+1:=by
 by_cases hc:65536≤st.count
 .unfold hmake;rw[if_pos hc];omega
 have hb:=make_brn hc;have h:=(hids_nodup (hmake st tbN)).length_le_of_subset (l₂:=((st.objs.length:Int)+1)::hids st) fun x hx=>by
  by_cases e:x=(st.objs.length:Int)+1
  .rw [e];exact List.mem_cons_self
  exact List.mem_cons_of_mem _ (mem_hids.2 (by rw[←hb.al x e];exact mem_hids.1 hx))
 simpa using h
theorem CI.make(hc:CI N st s)(hN:N≤300):CI (N+1) (hmake st tbN) s:=by
 have hf:=no_full hc hN;have hb:=make_brn hf;have ha:=make_alive hf;refine hc.heap (fun x hx=>?_) (by have:=hids_make st;omega) (Nat.le_succ N) (hmake_sm hc.sm rfl (by decide)) (hc.w.make (newO_w _ _ _ (fun _ hv=>(by cases hv)) (fun h8=>by cases h8))) (hmake_inv hc.i (newO_inv _ _ _ (by decide)));by_cases e:x=(st.objs.length:Int)+1
 .rw [e];exact ha
 exact (hb.al x e).trans hx
theorem make_v(hc:CI N st s)(hN:N≤300):hmakeV st 4=refV 4 ((st.objs.length:Int)+1)∧hmakeE st=0:=⟨if_neg (no_full hc hN),if_neg (no_full hc hN)⟩
theorem pst_ok (h : PI N st L R s) (hN : N ≤ 300) (hab : k = 1 → Rq (halive st) (crf st) R (vid L a) ∧ Rq (halive st) (crf st) R (vid L b)) : PI (N + 1) (pstH k n a b st L R s) (pstL k st L) (pstR k st R) (pstC k n a b st L R s) ∧ ∀ x, Rq (halive st) (crf st) R x → halive (pstH k n a b st L R s) x = true := by
  have hc := h.ci; have hk := h.ki; have h1 := h.ll; have h2 := h.rl
  by_cases k0 : k = 0
  · subst k0
    obtain ⟨w1, w2, w3⟩ := ki_work hc hk (uns n)
    exact ⟨⟨w1.mono (Nat.le_succ N), w2, by show L.length ≤ _; omega, by show R.length ≤ _; omega⟩, fun x hx => rq_al (w3 x hx)⟩
  by_cases k1 : k = 1
  · subst k1
    obtain ⟨ra, rb⟩ := hab rfl
    have e1 : pstH 1 n a b st L R s = hset st (refV 4 (vid L a)) (numV (Int.tmod (mx0 n) 3)) (vat L b) := rfl
    have e2 : pstC 1 n a b st L R s = wrt (pstH 1 n a b st L R s) s (vid L a) (vid L b) := rfl
    rw [e2, e1]
    have hw0 := hset_wr hc.i (t := refV 4 (vid L a)) (k := numV (Int.tmod (mx0 n) 3)) (v := vat L b) rfl
    have hb : idn (vat L b) = 0 ∨ idn (vat L b) = vid L b := by
      by_cases q : L.length = 0 ∨ b < 0
      · have := rq_al rb; unfold vid at this; rw [if_pos q] at this; exact absurd rfl (alive_pos this)
      · unfold vid; rw [if_neg q]; unfold idn; split
        · exact .inr rfl
        · exact .inl rfl
    have hw : Wr st (hset st (refV 4 (vid L a)) (numV (Int.tmod (mx0 n) 3)) (vat L b)) (vid L a) (vid L b) := ⟨hw0.al, hw0.other, fun z hz h0 => (hw0.it z hz h0).imp (fun h => h) fun e => by
      rcases hb with q | q
      · omega
      · rw [e, q]⟩
    have hci : CI (N + 1) (hset st (refV 4 (vid L a)) (numV (Int.tmod (mx0 n) 3)) (vat L b)) s := hc.hset rfl
    have sub : ∀ x ∈ R, x ∈ s.rts R := rts_sub
    refine ⟨⟨hci.wrt _ _, hk.wrt hw (rq_al ra) (fun h2 _ => reach_safe hk h2 (rq_sub sub rb)) (fun h2 => reach_safe hk h2 (rq_sub sub ra)), by show L.length ≤ _; omega, by show R.length ≤ _; omega⟩, fun x hx => by rw [hw.al]; exact rq_al hx⟩
  by_cases k2 : k = 2
  · subst k2
    have hf := no_full hc hN
    have hb := make_brn hf
    have ha := make_alive hf
    have hci : CI (N + 1) (hmake st tbN) s := hc.make hN
    exact ⟨⟨hci.brt _, hk.brt hb ha, by show (L ++ _).length ≤ _; simp; omega, by show (R ++ _).length ≤ _; simp; omega⟩, fun x hx => rq_al (hb.keep x hx)⟩
  · have e1 : pstH k n a b st L R s = st := by unfold pstH; rw [if_neg k0, if_neg k1, if_neg k2]
    have e2 : pstC k n a b st L R s = rgs st s (vid L a) := by unfold pstC; rw [if_neg k0, if_neg k1, if_neg k2]
    have e3 : pstL k st L = L := if_neg k2
    have e4 : pstR k st R = R := if_neg k2
    rw [e1, e2, e3, e4]
    exact ⟨⟨hc.rgs _, hk.rgs _, by omega, by omega⟩, fun x hx => rq_al hx⟩
theorem PI.mono(h:PI N st L R s):PI (N+1) st L R s:=⟨h.ci.mono (Nat.le_succ N),h.ki,Nat.le_succ_of_le h.ll,Nat.le_succ_of_le h.rl⟩
def drpR(R:List Int)(i ph:Int):List Int:=if 0<R.length∧0≤i∧ph=0 then ([]++R.take (Int.tmod i R.length).toNat)++R.drop (Int.tmod i R.length+1).toNat else R
theorem drp_ok(h:PI N st L R s)(i:Int):PI (N+1) st L (drpR R i s.ph) s:=by
 have h2:=h.rl;refine⟨h.ci.mono (Nat.le_succ N),?_,by have:=h.ll;omega,?_⟩
 .unfold drpR;split
  .rename_i q;exact .zero q.2.2
  exact h.ki
 unfold drpR;split
 .rw [List.nil_append,List.length_append,List.length_take,List.length_drop];omega
 omega
end
end Go.Proofs.YtmhpcebiamkciaaGreat
end
