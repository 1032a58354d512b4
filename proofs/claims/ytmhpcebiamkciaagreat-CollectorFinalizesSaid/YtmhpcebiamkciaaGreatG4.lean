/-
  Heaps of the reference. Each law says its conditions.
-/
import Derived.Test.YtmhpcebiamkciaaGreatG3
import Derived.Test.YtmhpcebiamkciaaGreatG1
import Derived.Test.YtmhpcebiamkciaaGreatG2
import Derived.Lib.AppendZeros
import Derived.Lib.SliceRun
section
set_option linter.unusedSimpArgs false
set_option linter.unusedVariables false
set_option maxRecDepth 100000
set_option maxHeartbeats 2000000
namespace Go.Proofs.YtmhpcebiamkciaaGreat
open Go.Hp Go.J Go.S
open Go.Mem (Ty KTy blk elemAt pre suf blk_pre blk_suf aget aset strK aggDesc)
open Go.Mem (adel apos aget_aset aget_adel)
structure Sv where
 p:Option Addr
 len:Nat
 cap:Nat
abbrev Sv.v(s:Sv):Value:=.slice s.p s.len s.cap
structure Rx where
 o:Option Hob
 tp:Nat
 uv:Sv
 rv:Sv
def Rx.v:Rx→Value
 | ⟨some o,tp,uv,rv⟩=>.agg #[.int .i64 o.kind,.int .i64 o.tag,.string o.name,tabV (0,tp) o,.int .i64 o.mt.kind,.int .i64 o.mt.p,.int .i64 o.mt.q,.string o.mt.str,.int .i64 o.mt.ref,uv.v,rv.v]
 | ⟨none,_,_,_⟩=>.agg #[.int .i64 0,.int .i64 0,.string ByteArray.empty,.pointer none,.int .i64 0,.int .i64 0,.int .i64 0,.string ByteArray.empty,.int .i64 0,.slice none 0 0,.slice none 0 0]
theorem tabV_one(q:Nat×Nat)(o:Hob):(tabV q o).oneCell'=true:=by unfold tabV;split<;>rfl
theorem tabV_tab{q:Nat×Nat}{o:Hob}(h:o.kind=4):tabV q o=ptrV q.2:=by unfold tabV;rw[if_pos h]
def RxT:Ty Rx:=⟨145,11,136,true,Rx.v,⟨none,0,⟨none,0,0⟩,⟨none,0,0⟩⟩⟩
theorem RxT_ok : RxT.Ok Tryz.prog := ok_of RxT _ Tryz.t145 (by decide) (fun x => by obtain ⟨o, _, _, _⟩ := x; cases o <;> rfl) (fun x u hu => by
  obtain ⟨o, tp, uv, rv⟩ := x
  cases o with
  | none => simp [Ty.enc, RxT, Rx.v, Value.cells] at hu; repeat (first | (rcases hu with rfl | hu; rfl) | (subst hu; rfl))
  | some o =>
    simp [Ty.enc, RxT, Rx.v, Value.cells] at hu
    rcases hu with rfl | rfl | rfl | rfl | rfl | rfl | rfl | rfl | rfl | rfl | rfl <;> first | rfl | exact tabV_one _ _) (fun x => by obtain ⟨o, _, _, _⟩ := x; cases o <;> rfl) Tryz.underlying145 rfl (fun h => by cases h) (by kernel_rfl) (by kernel_rfl) (by kernel_rfl) (by kernel_rfl)
def usr(o:Hob):List Vl:=if o.kind=8 then o.vals else []
def rfs(o:Hob):List Vl:=if o.kind=8 then [] else o.vals
def rtO(tp:Nat)(o:Hob):Asr:=star (if o.kind=4 then [rtA tp o.tab.list o.tab.rest] else [])
def roP:Rx→Asr
 | ⟨some o,tp,uv,rv⟩=>star [own VlT uv.v (usr o),own VlT rv.v (rfs o),rtO tp o]
 | ⟨none,_,_,_⟩=>star []
def rallP(L:List Rx):Asr:=star (L.map roP)
def rhA(b:Nat)(st:Hst):Asr:=exA fun v=>exA fun tv=>exA fun L=>stA (HInv st∧L.map Rx.o=st.objs) [blkA b #[v,iw (st.count:Int),tv] 142,own RxT v L,own bTy tv st.tch,rallP L]
section
variable{Z:Zone}{F:List Asr}{H:Heap}{b:Nat}{st:Hst}{L:List Rx}{id:Int}{o o':Hob}{i tp:Nat}{uv rv:Sv}
theorem rh_open(h:Holds Z (rhA b st::F) H):∃(v tv:Value) (L:List Rx),(HInv st∧L.map Rx.o=st.objs)∧Holds Z (blkA b #[v,iw (st.count:Int),tv] 142::own RxT v L::own bTy tv st.tch::rallP L::F) H:=by
 obtain⟨v,h⟩:=h.open_ex;obtain⟨tv,h⟩:=h.open_ex;obtain⟨L,h⟩:=h.open_ex;exact⟨v,tv,L,h.open_st⟩
theorem rh_shut{v tv:Value}{n:Int}{T:List Bool}(hp:((HInv st∧L.map Rx.o=st.objs)∧n=(st.count:Int))∧T=st.tch)(h:Holds Z (blkA b #[v,iw n,tv] 142::own RxT v L::own bTy tv T::rallP L::F) H):Holds Z (rhA b st::F) H:=by
 obtain⟨⟨h1,rfl⟩,rfl⟩:=hp;exact Holds.shut_ex v (Holds.shut_ex tv (Holds.shut_ex L (Holds.shut_st h1 h)))
theorem rh_inv(h:Holds Z (rhA b st::F) H):HInv st:=by
 obtain⟨_,_,_,h,_⟩:=rh_open h;exact h.1
theorem rx_len(hL:L.map Rx.o=st.objs):L.length=st.objs.length:=by rw[←hL,List.length_map]
theorem rx_get(hL:L.map Rx.o=st.objs)(ho:st.get id=some o):∃tp uv rv,L[(id-1).toNat]?=some ⟨some o,tp,uv,rv⟩:=by
 obtain⟨_,h1,h2,h3⟩:=get_mem ho;rw[←hL,List.getElem?_map,show id.toNat-1=(id-1).toNat by omega]at h3;cases hx:L[(id-1).toNat]? with
 | none=>rw[hx]at h3;cases h3
 | some x=>
  rw[hx]at h3;obtain⟨ox,tp,uv,rv⟩:=x;simp at h3;exact⟨tp,uv,rv,by rw[←h3]⟩
theorem rx_cases(hL:L.map Rx.o=st.objs)(h1:1≤id)(h2:id≤(L.length:Int)):(∃tp uv rv,L[(id-1).toNat]?=some ⟨none,tp,uv,rv⟩∧st.get id=none)∨∃o tp uv rv,L[(id-1).toNat]?=some ⟨some o,tp,uv,rv⟩∧st.get id=some o:=by
 have hlt:(id-1).toNat<L.length:=by omega
 obtain⟨x,hx⟩:∃x,L[(id-1).toNat]?=some x:=⟨_,List.getElem?_eq_getElem hlt⟩;have hg:st.get id=x.o:=by
  unfold Hst.get;rw[if_pos h1,←hL,List.getElem?_map,show id.toNat-1=(id-1).toNat by omega,hx];rfl
 obtain⟨o,tp,uv,rv⟩:=x;cases o with
 | none=>exact .inl ⟨tp,uv,rv,hx,hg⟩
 | some o=>exact .inr ⟨o,tp,uv,rv,hx,hg⟩
theorem rtO_open(h4:o.kind=4)(h:Holds Z (rtO tp o::F) H):Holds Z (rtA tp o.tab.list o.tab.rest::F) H:=by
 unfold rtO at h;rw[if_pos h4]at h;exact h.star_out
theorem rtO_shut{T:Tb}(h4:o.kind=4)(h:Holds Z (rtA tp T.list T.rest::F) H):Holds Z (rtO tp { o with tab:=T }::F) H:=by
 unfold rtO;rw[if_pos h4];exact Holds.star_in (L:=[_]) h
theorem rtO_none(h4:o.kind≠4)(h:Holds Z F H):Holds Z (rtO tp o::F) H:=by
 unfold rtO;rw[if_neg h4];exact h.star_nil
theorem rall_out(hy:L[i]?=some ⟨some o,tp,uv,rv⟩)(h:Holds Z (rallP L::F) H):Holds Z (own VlT uv.v (usr o)::own VlT rv.v (rfs o)::rtO tp o::rallP (L.eraseIdx i)::F) H:=(h.star_get hy).star_out
theorem rall_in(hy:L[i]?=some ⟨some o,tp,uv,rv⟩){uv' rv':Sv}(h:Holds Z (own VlT uv'.v (usr o')::own VlT rv'.v (rfs o')::rtO tp o'::rallP (L.eraseIdx i)::F) H):Holds Z (rallP (L.set i ⟨some o',tp,uv',rv'⟩)::F) H:=by
 have h1:Holds Z (roP ⟨some o',tp,uv',rv'⟩::star ((L.eraseIdx i).map roP)::F) H:=Holds.star_in (L:=[_,_,_]) h;have hi:=(List.getElem?_eq_some_iff.1 hy).1;unfold rallP;rw[List.map_set];rw[←erase_map,←del_eq]at h1;have:=Holds.star_push (i:=i) (A:=roP ⟨some o,tp,uv,rv⟩) (by rw[gt_eq,List.getElem?_map,hy];rfl) h1;rwa [upd_eq]at this
theorem own_flat {α : Type} {T : Ty α} {v : Value} {A B : List α} (hl : A.length = B.length) (hf : T.flat A = T.flat B) (h : Holds Z (own T v A :: F) H) : Holds Z (own T v B :: F) H := h.imp fun S ⟨S1, S2, h1, h2, hd, hS⟩ => ⟨S1, S2, ⟨by
  obtain ⟨hw, _⟩ := h1
  unfold Ow at hw ⊢
  rw [← hl, ← hf]
  rcases hw with ⟨a, b⟩ | hw
  · exact .inl ⟨a, List.eq_nil_of_length_eq_zero (by rw [← hl, b]; rfl)⟩
  · exact .inr hw, h1.2⟩, h2, hd, hS⟩
theorem flat_set{α:Type}{T:Ty α}{A:List α}{x y:α}(hx:A[i]?=some x)(he:T.enc y=T.enc x):T.flat (A.set i y)=T.flat A:=by
 obtain⟨hi,e⟩:=List.getElem?_eq_some_iff.1 hx;have h1:A.set i y=A.take i++([y]++A.drop (i+1)):=by rw[List.set_eq_take_append_cons_drop,if_pos hi];rfl
 have h2:A=A.take i++([x]++A.drop (i+1)):=by
  have:A.drop i=A[i]::A.drop (i+1):=List.drop_eq_getElem_cons hi;rw[←e];show A=A.take i++(A[i]::A.drop (i+1));rw[←this,List.take_append_drop]
 have hs:T.flat [y]=T.flat [x]:=by show T.enc y++T.flat []=T.enc x++T.flat [];rw[he]
 rw[h1];conv=>rhs;rw[h2]
 simp only[Ty.flat_append,hs]
theorem own_set{α:Type}{T:Ty α}{v:Value}{A:List α}{x y:α}(hx:A[i]?=some x)(he:T.enc y=T.enc x)(h:Holds Z (own T v A::F) H):Holds Z (own T v (A.set i y)::F) H:=own_flat (by simp) (flat_set hx he).symm h
theorem rx_set{x:Rx}(hL:L.map Rx.o=st.objs)(ho:st.get id=some o)(hx:x.o=some o'):(L.set (id-1).toNat x).map Rx.o=(st.put id o').objs:=by
 obtain⟨_,h1,h2,_⟩:=get_mem ho;unfold Hst.put;rw[List.map_set,hL,hx,show id.toNat-1=(id-1).toNat by omega]
theorem rx_snoc{x:Rx}(hL:L.map Rx.o=st.objs)(hx:x.o=some o')(tch:List Bool):(L++[x]).map Rx.o=(⟨st.objs++[some o'],tch⟩:Hst).objs:=by rw[List.map_append,hL];simp[hx]
theorem rall_same{x:Rx}(hy:L[i]?=some x)(h:Holds Z (rallP (L.set i x)::F) H):Holds Z (rallP L::F) H:=by
 rw[set_same hy]at h;exact h
theorem rall_add{x:Rx}(h:Holds Z (roP x::rallP L::F) H):Holds Z (rallP (L++[x])::F) H:=by
 unfold rallP;rw[List.map_append];exact Holds.star_add h
def denB(st:Hst)(v:Vl):Bool:=(hfind st v).isSome
theorem den_zero(hi:HInv st){v:Vl}(h:v.kind=0):denB st v=false:=by
 unfold denB;cases hf:hfind st v with
 | none=>rfl
 | some o=>
  obtain⟨h1,h2⟩:=hfind_some hf;have:=(hi.obs o (get_mem h1).1).kind;rw[h2,h]at this;cases this
theorem den_none{v:Vl}(h:st.get v.ref=none):denB st v=false:=by unfold denB;rw[hfind_none h];rfl
theorem get_low{id:Int}(h:¬1≤id):st.get id=none:=by unfold Hst.get;rw[if_neg h]
theorem get_high{id:Int}(h:(st.objs.length:Int)<id):st.get id=none:=by unfold Hst.get;rw[if_pos om,List.getElem?_eq_none om];rfl
theorem den_kind{v:Vl}(h:st.get v.ref=some o)(hk:o.kind≠v.kind):denB st v=false:=by unfold denB;rw[hfind_kind h hk];rfl
theorem den_yes(hi:HInv st){v:Vl}(h:st.get v.ref=some o)(hk:o.kind=v.kind):isRef v.kind=denB st v:=by
 unfold denB;rw[hfind_is h hk,←hk];exact (hi.obs o (get_mem h).1).kind
theorem is_cases(st:Hst)(v:Vl)(k:Int):((denB st v&&decide (v.kind=k))=false∧(hfind st v=none∨v.kind≠k))∨∃o,(denB st v&&decide (v.kind=k))=true∧hfind st v=some o∧st.get v.ref=some o∧o.kind=v.kind∧v.kind=k:=by
 unfold denB;cases hf:hfind st v with
 | none=>exact .inl ⟨rfl,.inl rfl⟩
 | some o=>
  obtain⟨h1,h2⟩:=hfind_some hf;by_cases hk:v.kind=k
  .exact .inr ⟨o,by simp[hk],rfl,h1,h2,hk⟩
  exact .inl ⟨by simp[hk],.inr hk⟩
theorem tabE_cases(st:Hst)(v:Vl):(htab st v=none∧hgetE st v=8)∨∃o,htab st v=some o.tab∧st.get v.ref=some o∧o.kind=4∧v.kind=4∧hgetE st v=0:=by
 cases ht:htab st v with
 | none=>exact .inl ⟨rfl,hgetE_none ht⟩
 | some T=>
  obtain⟨o,_,h1,h2,h3,h4⟩:=htab_some ht;exact .inr ⟨o,by rw[h4],h1,h2,h3,hgetE_some ht⟩
theorem tab_of_is{v:Vl}(h:(denB st v&&decide (v.kind=4))=false):hgetE st v=8:=by
 refine hgetE_none ?_;cases hf:hfind st v with
 | none=>exact htab_none hf
 | some o=>
  unfold denB at h;rw[hf]at h;simp at h;exact htab_not hf (by rw[(hfind_some hf).2];exact h)
theorem tab_of_is2{v:Vl}(h:hfind st v=some o)(hk:o.kind=v.kind)(h4:v.kind=4):hgetE st v=0:=hgetE_some (htab_is h om)
end
theorem rref_s{Z:Zone}(v:Vl):SF Tryz.prog 230 #[v.v] Z [] fun r Bs=>r=.bool (isRef v.kind)∧Bs=[]:=by
 refine sf_enter Tryz.func230 21 [(0,.agg (vc v))] (fun w0=>?_);refine k_sr<|s_box (vc v) (fun g1=>?_)
 refine sP (.bool false)<|s_nr<|sP (pB g1 0)<|sL (t_load 0 (iw v.kind))<|sL t_cmp<|sP (.bool (decide (v.kind=4)))<|s_fork 6 (decide (v.kind=4)) (fun c2=>?_) (fun c2=>?_)
 .have p3:=dY c2;refine sK<|sK<|sK<|sP2 (.bool true)<|sK<|sK<|sK<|sP2 (.bool true)<|sK<|sK<|sK<|sP2 (.bool true)<|s_nt<|k_ret<|xs_fin _ _ (SI.tmp 2 SI.nil) (rr [] [0]) ⟨cB ?_,rfl⟩
  unfold isRef;simp[c2,p3]
 have p4:=dF c2;refine sP (pB g1 0)<|sL (t_load 0 (iw v.kind))<|sL t_cmp<|sP2 (.bool (decide (v.kind=5)))<|s_fork 11 (decide (v.kind=5)) (fun c5=>?_) (fun c5=>?_)
 .have p6:=dY c5;refine sK<|sK<|sK<|sP2 (.bool true)<|sK<|sK<|sK<|sP2 (.bool true)<|s_nt<|k_ret<|xs_fin _ _ (SI.tmp 2 SI.nil) (rr [] [0]) ⟨cB ?_,rfl⟩
  unfold isRef;simp[c2,c5,p4,p6]
 have p7:=dF c5;refine sP (pB g1 0)<|sL (t_load 0 (iw v.kind))<|sL t_cmp<|sP2 (.bool (decide (v.kind=7)))<|s_fork 16 (decide (v.kind=7)) (fun c8=>?_) (fun c8=>?_)
 .have p9:=dY c8;refine sK<|sK<|sK<|sP2 (.bool true)<|s_nt<|k_ret<|xs_fin _ _ (SI.tmp 2 SI.nil) (rr [] [0]) ⟨cB ?_,rfl⟩
  unfold isRef;simp[c2,c5,c8,p4,p7,p9]
 have p10:=dF c8;refine sP (pB g1 0)<|sL (t_load 0 (iw v.kind))<|sL t_cmp<|sP2 (.bool (decide (v.kind=8)))<|s_nt<|k_ret<|xs_fin _ _ (SI.tmp 2 SI.nil) (rr [] [0]) ⟨cB ?_,rfl⟩
 unfold isRef;simp[c2,c5,c8,p4,p7,p10]
theorem rden_s{Z:Zone}{F:List Asr}{b:Nat}{st:Hst}(hl:st.objs.length≤1000000)(v:Vl):SF Tryz.prog 202 #[.pointer (some ⟨b,0,none⟩),v.v] Z (rhA b st::F) fun r Bs=>r=.bool (denB st v)∧Bs=rhA b st::F:=by
 refine sf_enter Tryz.func202 46 [(0,pB b 0),(1,.agg (vc v))] (fun w0=>?_);refine k_fact (fun H h=>rh_inv (h.re [0] [])) (fun hi0=>?_);refine k_sr<|s_box (vc v) (fun g1=>?_)
 refine sP (.bool false)<|s_nt<|k_seq<|k_draw<|sP (pB b 0)<|sP2 (.bool true)<|sP (pB g1 0)<|sL (t_load 0 (iw v.kind))<|sL t_cmp<|sP2 (.bool (decide (v.kind≠0)))<|s_fork 12 (decide (v.kind≠0)) (fun c2=>?_) (fun c2=>?_)
 .have p3:=dY c2;refine sP (pB g1 4)<|sL (t_load 0 (iw v.ref))<|sL t_cmp<|sP2 (.bool (decide ((1:Int)≤v.ref)))<|s_fork 17 (decide ((1:Int)≤v.ref)) (fun c4=>?_) (fun c4=>?_)
  .have p5:=dY c4;refine sP (pB g1 4)<|sL (t_load 0 (iw v.ref))<|sP3 (pB b 0)<|s_mem3 (fun H h=>rh_open (h.re [1] [])) (fun v6 tv7 L8 hw=>?_)
   obtain⟨hi9,hL10⟩:=hw;have hln11:=rx_len hL10;have htl12:=hi9.tch;refine sL (t_load 0 v6)<|sF 1 (fun hf13=>?_)
   refine sL (t_len RxT_ok Tryz.underlying139 (.own 1))<|sL t_cmp<|sP2 (.bool (decide (v.ref≤(L8.length:Int))))<|s_fork 27 (decide (v.ref≤(L8.length:Int))) (fun c14=>?_) (fun c14=>?_)
   .have p15:=dY c14;refine sP3 (pB b 0)<|sL (t_load 0 v6)<|sP (pB g1 4)<|sL (t_load 4 (iw v.ref))<|sL (t_sub v.ref 1 ol)<|sL (t_index RxT_ok Tryz.underlying139 (.own 1) (v.ref-1) (((v.ref-1)).toNat) om ol om)<|sP (.pointer (some (elemAt RxT.size v6 (((v.ref-1)).toNat)))) ?_
    rcases rx_cases hL10 (by omega:1≤v.ref) om with ⟨tp16,uv17,rv18,hy19,hg20⟩|⟨o21,tp22,uv23,rv24,hy25,hg26⟩
    .refine sL (t_loadF 0 RxT_ok (.own 1) hy19)<|sP (pB g1 0)<|sL (t_load 4 (iw v.kind))<|sL t_cmp<|sP2 (.bool (decide ((0:Int)=v.kind)))<|s_fork 42 (decide ((0:Int)=v.kind)) (fun c27=>?_) (fun c27=>?_)
     .have p28:=dY c27;refine sL (t_loadA 4 (vc v))<|sV (fun _ h=>rref_s v)<|sP2 (.bool (isRef v.kind))<|s_nil<|x_dynS (fun _ h=>by obtain⟨_,_,e⟩:=hf13;subst e;kernel_rfl) ?_
      refine xs_then<|k_ret<|xs_mem (fun _ h=>rh_shut (st:=st) (n:=(st.count:Int)) (T:=st.tch) ⟨⟨⟨hi9,hL10⟩,rfl⟩,rfl⟩ (h.re [0,0,0,0] [])) ?_
      refine xs_fin _ _ (SI.tmp 4 SI.nil) (rr [0] [1]) ⟨cB ?_,rfl⟩;exfalso;omega
     have p29:=dF c27;refine sK<|sK<|sP2 (.bool false)<|s_nil<|x_dynS (fun _ h=>by obtain⟨_,_,e⟩:=hf13;subst e;kernel_rfl) ?_
     refine xs_then<|k_ret<|xs_mem (fun _ h=>rh_shut (st:=st) (n:=(st.count:Int)) (T:=st.tch) ⟨⟨⟨hi9,hL10⟩,rfl⟩,rfl⟩ (h.re [0,0,0,0] [])) ?_
     refine xs_fin _ _ (SI.tmp 4 SI.nil) (rr [0] [1]) ⟨cB ?_,rfl⟩;exact (den_none hg20).symm
    refine sL (t_loadF 0 RxT_ok (.own 1) hy25)<|sP (pB g1 0)<|sL (t_load 4 (iw v.kind))<|sL t_cmp<|sP2 (.bool (decide (o21.kind=v.kind)))<|s_fork 42 (decide (o21.kind=v.kind)) (fun c30=>?_) (fun c30=>?_)
    .have p31:=dY c30;refine sL (t_loadA 4 (vc v))<|sV (fun _ h=>rref_s v)<|sP2 (.bool (isRef v.kind))<|s_nil<|x_dynS (fun _ h=>by obtain⟨_,_,e⟩:=hf13;subst e;kernel_rfl) ?_
     refine xs_then<|k_ret<|xs_mem (fun _ h=>rh_shut (st:=st) (n:=(st.count:Int)) (T:=st.tch) ⟨⟨⟨hi9,hL10⟩,rfl⟩,rfl⟩ (h.re [0,0,0,0] [])) ?_
     refine xs_fin _ _ (SI.tmp 4 SI.nil) (rr [0] [1]) ⟨cB ?_,rfl⟩;exact den_yes hi0 hg26 om
    have p32:=dF c30;refine sK<|sK<|sP2 (.bool false)<|s_nil<|x_dynS (fun _ h=>by obtain⟨_,_,e⟩:=hf13;subst e;kernel_rfl) ?_
    refine xs_then<|k_ret<|xs_mem (fun _ h=>rh_shut (st:=st) (n:=(st.count:Int)) (T:=st.tch) ⟨⟨⟨hi9,hL10⟩,rfl⟩,rfl⟩ (h.re [0,0,0,0] [])) ?_
    refine xs_fin _ _ (SI.tmp 4 SI.nil) (rr [0] [1]) ⟨cB ?_,rfl⟩;exact (den_kind hg26 om).symm
   have p33:=dF c14;refine sK<|sK<|sK<|sK<|sK<|sK<|sK<|sK<|sK<|sK<|sK<|sK<|sK<|sP2 (.bool false)<|sK<|sK<|sP2 (.bool false)<|s_nil<|x_dynS (fun _ h=>by obtain⟨_,_,e⟩:=hf13;subst e;kernel_rfl) ?_
   refine xs_then<|k_ret<|xs_mem (fun _ h=>rh_shut (st:=st) (n:=(st.count:Int)) (T:=st.tch) ⟨⟨⟨hi9,hL10⟩,rfl⟩,rfl⟩ (h.re [0,0,0,0] [])) ?_
   refine xs_fin _ _ (SI.tmp 4 SI.nil) (rr [0] [1]) ⟨cB ?_,rfl⟩;first|exact (den_zero hi0 om).symm|exact (den_none (get_low om)).symm|exact (den_none (get_high om)).symm
  have p34:=dF c4;refine sK<|sK<|sK<|sK<|sK<|sK<|sK<|sK<|sP2 (.bool false)<|sK<|sK<|sK<|sK<|sK<|sK<|sK<|sK<|sK<|sK<|sK<|sK<|sK<|sP2 (.bool false)<|sK<|sK<|sP2 (.bool false)<|s_nil<|x_dynS (fun _ h=>by kernel_rfl) ?_
  refine xs_then<|k_ret<|xs_fin _ _ (SI.tmp 4 SI.nil) (rr [1] [1]) ⟨cB ?_,rfl⟩
  first|exact (den_zero hi0 om).symm|exact (den_none (get_low om)).symm|exact (den_none (get_high om)).symm
 have p35:=Decidable.not_not.1 (dF c2);refine sK<|sK<|sK<|sP2 (.bool false)<|sK<|sK<|sK<|sK<|sK<|sK<|sK<|sK<|sP2 (.bool false)<|sK<|sK<|sK<|sK<|sK<|sK<|sK<|sK<|sK<|sK<|sK<|sK<|sK<|sP2 (.bool false)<|sK ?_
 refine sK<|sP2 (.bool false)<|s_nil<|x_dynS (fun _ h=>by kernel_rfl) ?_
 refine xs_then<|k_ret<|xs_fin _ _ (SI.tmp 4 SI.nil) (rr [1] [1]) ⟨cB ?_,rfl⟩
 first|exact (den_zero hi0 om).symm|exact (den_none (get_low om)).symm|exact (den_none (get_high om)).symm
theorem ris_s{Z:Zone}{F:List Asr}{b:Nat}{st:Hst}(hl:st.objs.length≤1000000)(v:Vl)(k:Int):SF Tryz.prog 151 #[.pointer (some ⟨b,0,none⟩),v.v,iw k] Z (rhA b st::F) fun r Bs=>r=.bool (denB st v&&decide (v.kind=k))∧Bs=rhA b st::F:=by
 refine sf_enter Tryz.func151 16 [(0,pB b 0),(1,.agg (vc v)),(2,iw k)] (fun w0=>?_);refine k_sr<|s_box (vc v) (fun g1=>?_)
 refine sP (.bool false)<|s_nt<|k_cut (ι:=Unit) (fun _=>True) (fun _=>[(6,.bool ((denB st v)&&(decide (v.kind=k))))]) (fun _=>blkA g1 (vc v) 71::rhA b st::F) ?_ (fun _ _=>?_)
 .refine k_reg<|sP (pB b 0)<|sL (t_loadA 0 (vc v))<|sC [1] (rden_s (st:=st) om v) ?_
  refine sP (.bool (denB st v))<|s_fork 10 (denB st v) (fun c2=>?_) (fun c2=>?_)
  .refine sP (pB g1 0)<|sL (t_load 1 (iw v.kind))<|sP (iw k)<|sL t_cmp<|sP2 (.bool (decide (v.kind=k)))<|s_nil ?_
   exact xs_cut () trivial (sub_of rfl ⟨⟨rfl,cB (by simp[c2])⟩,trivial⟩) (rr [1,0] [])
  refine sK<|sK<|sK<|sK<|sP2 (.bool false)<|s_nil ?_
  exact xs_cut () trivial (sub_of rfl ⟨⟨rfl,cB (by simp[c2])⟩,trivial⟩) (rr [1,0] [])
 refine k_ret ?_;exact xs_fin _ _ (SI.tmp 6 SI.nil) (rr [1] [1]) ⟨rfl,rfl⟩
theorem rtab_s{Z:Zone}{F:List Asr}{b:Nat}{st:Hst}(hl:st.objs.length≤1000000)(v:Vl):SF Tryz.prog 145 #[.pointer (some ⟨b,0,none⟩),v.v] Z (rhA b st::F) fun r Bs=>r=iw (hgetE st v)∧Bs=rhA b st::F:=by
 refine sf_enter Tryz.func145 11 [(0,pB b 0),(1,.agg (vc v))] (fun w0=>?_);refine k_sr<|s_box (vc v) (fun g1=>?_)
 refine sP (iw 0)<|s_nt<|k_seq<|k_sr<|sP (pB b 0)<|sP (.bool false)<|s_nt<|k_false<|k_st<|k_seq<|k_sr<|sP (pB b 0)<|sL (t_loadA 0 (vc v))<|s_call [1] (ris_s (st:=st) om v 4) ?_
 rintro u2 _ ⟨e3,rfl⟩;rcases is_cases st v 4 with ⟨hb4,hn5⟩|⟨o6,hb7,hf8,ho9,hk10,hv11⟩
 .rw [hb4]at e3;subst e3;refine sP (.bool true)<|s_nt<|k_true<|k_sr<|sP (iw 8)<|s_nt<|k_ret<|xs_ret<|xs_fin _ _ (SI.tmp 4 SI.nil) (rr [0] [1]) ⟨cI ?_,rfl⟩
  exact (tab_of_is hb4).symm
 rw[hb7]at e3;subst e3;have hgm12:=get_mem ho9;refine sP (.bool false)<|s_nt<|k_false<|k_st<|k_sr<|sP (iw 0)<|s_nt<|k_ret<|xs_fin _ _ (SI.tmp 4 SI.nil) (rr [0] [1]) ⟨cI ?_,rfl⟩
 exact (tab_of_is2 hf8 hk10 hv11).symm
theorem rhget_s{Z:Zone}{F:List Asr}{b:Nat}{st:Hst}{n:Nat}(hsm:HSm n st)(hn:n≤300)(t k:Vl):SF Tryz.prog 166 #[.pointer (some ⟨b,0,none⟩),t.v,k.v] Z (rhA b st::F) fun r Bs=>r=pairV (hgetV st t k) (hgetE st t)∧Bs=rhA b st::F:=by
 refine sf_enter Tryz.func166 28 [(0,pB b 0),(1,.agg (vc t)),(2,.agg (vc k))] (fun w0=>?_);have hlen0:=hsm.len;refine k_fact (fun H h=>rh_inv (h.re [0] [])) (fun hi0=>?_);refine k_sr<|s_box (vc t) (fun g1=>?_)
 refine s_box (vc k) (fun g2=>?_);refine s_alloc (.agg zc) zc (fun g3=>?_);refine sP (iw 0)<|s_nr<|sP (pB b 0)<|sL (t_loadA 2 (vc t))<|s_call [3] (rtab_s (st:=st) om t) ?_
 rintro u4 _ ⟨e5,rfl⟩;rcases tabE_cases st t with ⟨ht6,he7⟩|⟨o8,ht9,ho10,hk11,hv12,he13⟩
 .rw [he7]at e5;subst e5;refine sP (iw 8)<|s_nt<|k_seq<|k_sr<|sP (iw 8)<|sL (t_cmp (c:=true))<|s_nt<|k_true<|k_sr<|sL (t_kern (.agg zc))<|sP (iw 8)<|s_store 1 zc ?_
  refine sP (iw 8)<|s_nt<|k_ret<|xs_ret<|xs_fin [.agg zc,iw 8] (rhA b st::F) (SI.agg 6 71 1 (SI.tmp 7 SI.nil)) (rr [0] [1,1,1]) ⟨?_,rfl⟩
  rw[hgetV_none ht6,hgetE_none ht6];rfl
 rw[he13]at e5;subst e5;have hgm14:=get_mem ho10;refine sP (iw 0)<|s_nt<|k_seq<|k_sr<|sP (iw 0)<|sL (t_cmp (c:=false))<|s_nt<|k_false<|k_st<|k_seq<|k_draw<|sP3 (pB b 0)<|s_mem3 (fun H h=>rh_open (h.re [0] [])) (fun v15 tv16 L17 hw=>?_)
 obtain⟨hi18,hL19⟩:=hw;have hln20:=rx_len hL19;have htl21:=hi18.tch;refine sL (t_load 0 v15)<|sP (pB g1 4)<|sL (t_load 6 (iw t.ref))<|sL (t_sub t.ref 1 ol)<|sL (t_index RxT_ok Tryz.underlying139 (.own 1) (t.ref-1) (((t.ref-1)).toNat) om ol om)<|sP (.pointer (some ((elemAt RxT.size v15 (((t.ref-1)).toNat)).add 3))) ?_
 obtain⟨tp22,uv23,rv24,hy25⟩:=rx_get hL19 ho10;refine sL (Lt.to (v':=ptrV tp22) (t_loadF 3 RxT_ok (.own 1) hy25) (tabV_tab hk11))<|sL (t_loadA 5 (vc k))<|s_mem (fun _ h=>rall_out hy25 (h.re [3] [])) ?_
 refine s_mem (fun _ h=>rtO_open hk11 (h.re [2] [])) ?_;obtain⟨hl26,hl262,_⟩:=hsm.obs o8 (get_mem ho10).1;have hl263:n*(n+1)≤300*301:=Nat.mul_le_mul om om;refine sC [0] (rtget_s (L:=o8.tab.list) (S:=o8.tab.rest) ol ol k) ?_;refine s_store 7 (vc (tget ⟨o8.tab.list,o8.tab.rest⟩ k)) ?_;refine sP (iw 0)<|s_nil<|x_dynS (fun _ h=>by kernel_rfl) ?_
 refine xs_then<|k_ret<|xs_mem (fun _ h=>rtO_shut (o:=o8) (T:=o8.tab) hk11 (h.re [0] [])) ?_
 refine xs_mem (fun _ h=>rall_in (o':={ o8 with tab:=o8.tab }) (uv':=uv23) (rv':=rv24) hy25 (h.re [1,1,0,0] [])) ?_;refine xs_mem (fun _ h=>rall_same hy25 h) ?_;refine xs_mem (fun _ h=>rh_shut (st:=st) (n:=(st.count:Int)) (T:=st.tch) ⟨⟨⟨hi18,hL19⟩,rfl⟩,rfl⟩ (h.re [1,1,1,0] [])) ?_;refine xs_fin [.agg (vc (tget ⟨o8.tab.list,o8.tab.rest⟩ k)),iw 0] (rhA b st::F) (SI.agg 6 71 1 (SI.tmp 7 SI.nil)) (rr [0] [1,1,1]) ⟨?_,rfl⟩;rw[hgetV_some ht9,hgetE_some ht9];rfl
theorem relem_s{Z:Zone}(v:Vl):SF Tryz.prog 147 #[v.v] Z [] fun r Bs=>r=iw (elemE v)∧Bs=[]:=by
 refine sf_enter Tryz.func147 15 [(0,.agg (vc v))] (fun w0=>?_);refine k_sr<|s_box (vc v) (fun g1=>?_)
 refine sP (iw 0)<|s_nt<|k_seq<|k_sr<|sP (pB g1 0)<|sL (t_load 0 (iw v.kind))<|sL t_cmp<|sP (.bool (decide (v.kind=3)))<|s_fork 6 (decide (v.kind=3)) (fun c2=>?_) (fun c2=>?_)
 .have p3:=dY c2;refine sP (pB g1 3)<|sL (t_load 0 (sw v.str))<|sL (t_kern (iw (v.str.size:Int)))<|sL t_cmp<|sP (.bool (decide ((4096:Int)<(v.str.size:Int))))<|s_nt<|k_cond (decide ((4096:Int)<(v.str.size:Int))) (fun c4=>?_) (fun c4=>?_)
  .have p5:=dY c4;refine k_sr<|sP (iw 14)<|s_nt<|k_ret<|xs_ret<|xs_fin _ _ (SI.tmp 2 SI.nil) (rr [] [0]) ⟨cI ?_,rfl⟩
   unfold elemE;simp[c2,c4,p3,p5]
  have p6:=dF c4;refine k_st<|k_seq<|k_sr<|sL (t_loadA 0 (vc v))<|sV (fun _ h=>rvalid_s v)<|sP (.bool (!(validB v)))<|s_nt<|k_cond (!(validB v)) (fun c7=>?_) (fun c7=>?_)
  .have c8:=not_t c7;refine k_sr<|sP (iw 2)<|s_nt<|k_ret<|xs_ret<|xs_fin _ _ (SI.tmp 2 SI.nil) (rr [] [0]) ⟨cI ?_,rfl⟩
   unfold elemE;simp[c2,c4,c7,p3,p6,c8]
  have c9:=not_f c7;refine k_st<|k_sr<|sP (iw 0)<|s_nt<|k_ret<|xs_fin _ _ (SI.tmp 2 SI.nil) (rr [] [0]) ⟨cI ?_,rfl⟩
  unfold elemE;simp[c2,c4,c7,p3,p6,c9]
 have p10:=dF c2;refine sK<|sK<|sK<|sK<|sP (.bool false)<|s_nt<|k_false<|k_st<|k_seq<|k_sr<|sL (t_loadA 0 (vc v))<|sV (fun _ h=>rvalid_s v)<|sP (.bool (!(validB v)))<|s_nt<|k_cond (!(validB v)) (fun c11=>?_) (fun c11=>?_)
 .have c12:=not_t c11;refine k_sr<|sP (iw 2)<|s_nt<|k_ret<|xs_ret<|xs_fin _ _ (SI.tmp 2 SI.nil) (rr [] [0]) ⟨cI ?_,rfl⟩
  unfold elemE;simp[c2,c11,p10,c12]
 have c13:=not_f c11;refine k_st<|k_sr<|sP (iw 0)<|s_nt<|k_ret<|xs_fin _ _ (SI.tmp 2 SI.nil) (rr [] [0]) ⟨cI ?_,rfl⟩
 unfold elemE;simp[c2,c11,p10,c13]
theorem rtouch_s{Z:Zone}{F:List Asr}{b:Nat}{vv tv:Value}{m:Int}{T:List Bool}(v:Vl)(h1:1≤v.ref)(h2:v.ref≤(T.length:Int))(hl:T.length≤1000000)(e:Int):SF Tryz.prog 148 #[.pointer (some ⟨b,0,none⟩),v.v,iw e] Z (blkA b #[vv,iw m,tv] 142::own bTy tv T::F) fun r Bs=>r=iw e∧Bs=(if e=0 then blkA b #[vv,iw m,tv] 142::own bTy tv (T.set ((v.ref-1)).toNat true)::F else blkA b #[vv,iw m,tv] 142::own bTy tv T::F):=by
 refine sf_enter Tryz.func148 18 [(0,pB b 0),(1,.agg (vc v)),(2,iw e)] (fun w0=>?_);refine k_sr<|s_box (vc v) (fun g1=>?_)
 refine sP (iw 0)<|s_nt<|k_seq<|k_sr<|sP (iw e)<|sL t_cmp<|s_nt<|k_cond (decide (e=0)) (fun c2=>?_) (fun c2=>?_)
 .have p3:=dY c2;refine k_draw<|sP2 (pB b 0)<|sP (pB b 2)<|sL (t_load 1 tv)<|sP (pB g1 4)<|sL (t_load 0 (iw v.ref))<|sL (t_sub v.ref 1 ol)<|sL (t_index bTy_ok Tryz.underlying140 (.own 2) (v.ref-1) (((v.ref-1)).toNat) om ol om) ?_
  obtain⟨y4,hy5⟩:∃y,T[((v.ref-1)).toNat]?=some y:=⟨_,List.getElem?_eq_getElem ol⟩;refine s_storeE 2 0 true bTy_ok hy5 ?_;refine s_nil<|x_dynS (fun _ h=>by kernel_rfl) ?_
  refine xs_then<|k_sr<|sP2 (iw e)<|s_nt<|k_ret ?_
  rw[if_pos (dY c2)];exact xs_fin _ _ (SI.tmp 6 SI.nil) (rr [1,1] [2]) ⟨rfl,rfl⟩
 have p6:=dF c2;refine k_st<|k_sr<|sP2 (iw e)<|s_nt<|k_ret ?_
 rw[if_neg (dF c2)];exact xs_fin _ _ (SI.tmp 6 SI.nil) (rr [1,1] [2]) ⟨rfl,rfl⟩
theorem rhset_s{Z:Zone}{F:List Asr}{b:Nat}{st:Hst}{n:Nat}(hsm:HSm n st)(hn:n≤300)(t k x:Vl):SF Tryz.prog 82 #[.pointer (some ⟨b,0,none⟩),t.v,k.v,x.v] Z (rhA b st::F) fun r Bs=>r=iw (hsetE st t k x)∧Bs=rhA b (hset st t k x)::F:=by
 refine sf_enter Tryz.func82 45 [(0,pB b 0),(1,.agg (vc t)),(2,.agg (vc k)),(3,.agg (vc x))] (fun w0=>?_);have hlen0:=hsm.len;refine k_fact (fun H h=>rh_inv (h.re [0] [])) (fun hi0=>?_);refine k_sr<|s_box (vc t) (fun g1=>?_)
 refine s_box (vc k) (fun g2=>?_);refine s_box (vc x) (fun g3=>?_);refine sP (iw 0)<|s_nr<|sP (pB b 0)<|sL (t_loadA 2 (vc t))<|s_call [3] (rtab_s (st:=st) om t) ?_
 rintro u4 _ ⟨e5,rfl⟩;rcases tabE_cases st t with ⟨ht6,he7⟩|⟨o8,ht9,ho10,hk11,hv12,he13⟩
 .rw [he7]at e5;subst e5;refine sP (iw 8)<|s_nt<|k_seq<|k_sr<|sP (iw 8)<|sL (t_cmp (c:=true))<|s_nt<|k_true<|k_sr<|sP2 (iw 8)<|s_nt<|k_ret<|xs_ret ?_
  have hp:=hset_none (k:=k) (v:=x) ht6;refine xs_fin [iw 8] (rhA b st::F) (SI.tmp 8 SI.nil) (rr [0] [1,1,1]) ⟨?_,?_⟩
  .rw [hp.2];exact cI (by first|rfl|exact tsetE_ok hk hv0)
  rw[hp.1]
 rw[he13]at e5;subst e5;have hgm14:=get_mem ho10;refine sP (iw 0)<|s_nt<|k_seq<|k_sr<|sP (iw 0)<|sL (t_cmp (c:=false))<|s_nt<|k_false<|k_st<|k_seq<|k_cut (ι:=Unit) (fun _=>True) (fun _=>[(0,pB b 0),(5,pB g1 0),(6,pB g2 0),(7,pB g3 0),(23,.bool ((decide (k.kind=0))||(!(validB k))))]) (fun _=>rhA b st::blkA g3 (vc x) 71::blkA g2 (vc k) 71::blkA g1 (vc t) 71::F) ?_ (fun _ _=>?_)
 .refine k_reg<|sP (pB g2 0)<|sL (t_load 2 (iw k.kind))<|sL t_cmp<|sP (.bool (decide (k.kind=0)))<|s_fork 19 (decide (k.kind=0)) (fun c15=>?_) (fun c15=>?_)
  .have p16:=dY c15;refine sK<|sK<|sK<|sP (.bool true)<|s_nil ?_
   exact xs_cut () trivial (sub_of rfl (rQ (rQ (rQ (rQ ⟨⟨rfl,cB (by simp[c15])⟩,trivial⟩))))) (rr [0,0,0,0] [])
  have p17:=dF c15;refine sL (t_loadA 2 (vc k))<|sV (fun _ h=>rvalid_s k)<|sP2 (.bool (!(validB k)))<|s_nil ?_
  exact xs_cut () trivial (sub_of rfl (rQ (rQ (rQ (rQ ⟨⟨rfl,cB (by simp[c15])⟩,trivial⟩))))) (rr [0,0,0,0] [])
 refine k_cond ((decide (k.kind=0))||(!(validB k))) (fun c18=>?_) (fun c18=>?_)
 .have p19:=c18;simp only[Bool.and_eq_true,Bool.or_eq_true,Bool.and_eq_false_iff,Bool.or_eq_false_iff,Bool.not_eq_true',Bool.not_eq_false',decide_eq_true_eq,decide_eq_false_iff_not]at p19;refine k_sr<|sP (iw 13)<|s_nt<|k_ret<|xs_ret ?_
  have hk:okKey k=false:=okKey_bad (by first|exact p19|exact .inl p19|exact .inr p19);have hp:=hset_key (v:=x) ht9 hk;refine xs_fin [iw 13] (rhA b st::F) (SI.tmp 8 SI.nil) (rr [0] [1,1,1]) ⟨?_,?_⟩
  .rw [hp.2];exact cI (by first|rfl|exact tsetE_ok hk hv0)
  rw[hp.1]
 obtain⟨c20,c21⟩:=or_f c18;have p22:=dF c20;have c23:=not_f c21;refine k_st<|k_sr<|sL (t_loadA 1 (vc x))<|sV (fun _ h=>relem_s x)<|sP (iw (elemE x))<|s_nt<|k_seq<|k_sr<|sP (iw (elemE x))<|sL t_cmp<|s_nt<|k_cond (decide ((elemE x)≠0)) (fun c24=>?_) (fun c24=>?_)
 .have p25:=dY c24;refine k_sr<|sP2 (iw (elemE x))<|s_nt<|k_ret<|xs_ret ?_
  have hk:=okKey_good c20 c23;have hp:=hset_elem (v:=x) ht9 hk (dY c24);refine xs_fin [iw (elemE x)] (rhA b st::F) (SI.tmp 8 SI.nil) (rr [0] [1,1,1]) ⟨?_,?_⟩
  .rw [hp.2];exact cI (by first|rfl|exact tsetE_ok hk hv0)
  rw[hp.1]
 have p26:=Decidable.not_not.1 (dF c24);refine k_st<|k_seq<|k_mem3 (fun H h=>rh_open (h.re [0] [])) (fun v27 tv28 L29 hw=>?_)
 obtain⟨hi30,hL31⟩:=hw;have hln32:=rx_len hL31;have htl33:=hi30.tch;refine k_held [blkA b #[v27,iw (st.count:Int),tv28] 142,own RxT v27 L29,blkA g3 (vc x) 71,blkA g2 (vc k) 71,blkA g1 (vc t) 71] ?_;refine hp_ 0 [0,0,2,2,2] (pB b 0) ?_;refine h_l 1 rfl [0,0,2,2,2] (fun _=>(t_loadA 4 (vc t))) ?_;refine hp_ 2 [0,0,2,2,2] (pB b 0) ?_;refine hp_ 3 [0,0,2,2,2] (pB b 0) ?_;refine hp_ 4 [0,0,2,2,2] (pB b 0) ?_;refine h_l 5 rfl [0,0,2,2,2] (fun _=>(t_load 0 v27)) ?_;refine hp_ 6 [0,0,2,2,2] (pB g1 4) ?_;refine h_l 7 rfl [0,0,2,2,2] (fun _=>(t_load 4 (iw t.ref))) ?_;refine h_l 8 rfl [0,0,2,2,2] (fun _=>(t_sub t.ref 1 ol)) ?_;refine h_l 9 rfl [0,0,2,2,2] (fun _=>(t_index RxT_ok Tryz.underlying139 (.own 1) (t.ref-1) (((t.ref-1)).toNat) om ol om)) ?_;refine hp_ 10 [0,0,2,2,2] (.pointer (some ((elemAt RxT.size v27 (((t.ref-1)).toNat)).add 3))) ?_;obtain⟨tp34,uv35,rv36,hy37⟩:=rx_get hL31 ho10;refine h_l 11 rfl [0,0,2,2,2] (fun _=>(Lt.to (v':=ptrV tp34) (t_loadF 3 RxT_ok (.own 1) hy37) (tabV_tab hk11))) ?_;refine h_l 12 rfl [0,0,2,2,2] (fun _=>(t_loadA 3 (vc k))) ?_;refine h_l 13 rfl [0,0,2,2,2] (fun _=>(t_loadA 2 (vc x))) ?_;refine h_stepS 14 ?_;refine s_mem (fun _ h=>rall_out hy37 (h.re [3] [])) ?_;refine s_mem (fun _ h=>rtO_open hk11 (h.re [2] [])) ?_;obtain⟨hl38,hl382,_⟩:=hsm.obs o8 (get_mem ho10).1;have hl383:n*(n+1)≤300*301:=Nat.mul_le_mul om om;refine sC [0] (rtset_s (L:=o8.tab.list) (S:=o8.tab.rest) (hi30.obs o8 (get_mem ho10).1).tab ol ol k x) ?_;refine nH [4,4,5,5,5]<|h_stepS 15 ?_
 have hk:=okKey_good c20 c23;have he0:elemE x=0:=Decidable.not_not.1 (dF c24);have hv0:=elem_valid he0;refine s_call [4,5] (rtouch_s (vv:=v27) (m:=(st.count:Int)) (T:=st.tch) t om om om (tsetE k x)) ?_;rw[if_pos (tsetE_ok hk hv0)];rintro _ _ ⟨rfl,rfl⟩;refine nH [0,5,5,5,5]<|hp_ 16 [0,5,5,5,5] (iw (tsetE k x)) ?_
 refine h_doneS ?_;refine xs_then<|k_ret<|xs_mem (fun _ h=>rtO_shut (o:=o8) (T:=(tset ⟨o8.tab.list,o8.tab.rest⟩ k x)) hk11 (h.re [2] [])) ?_
 refine xs_mem (fun _ h=>rall_in (o':={ o8 with tab:=(tset ⟨o8.tab.list,o8.tab.rest⟩ k x) }) (uv':=uv35) (rv':=rv36) hy37 (h.re [3,3,0,2] [])) ?_;refine xs_mem (fun _ h=>own_set (y:=⟨some { o8 with tab:=(tset ⟨o8.tab.list,o8.tab.rest⟩ k x) },tp34,uv35,rv36⟩) hy37 rfl (h.re [3] [])) ?_;have hob39:=hi30.obs o8 (get_mem ho10).1;refine xs_mem (fun _ h=>rh_shut (st:=((st.put t.ref { o8 with tab:=(tset ⟨o8.tab.list,o8.tab.rest⟩ k x) }).touch t.ref)) (n:=(st.count:Int)) (T:=(st.tch.set ((t.ref-1)).toNat true)) ⟨⟨⟨touch_inv (put_inv (o:={ o8 with tab:=(tset ⟨o8.tab.list,o8.tab.rest⟩ k x) }) hi30 ⟨hob39.kind,(tset_inv hob39.tab _ _),hob39.mt⟩) t.ref,rx_set hL31 ho10 rfl⟩,(show (st.count:Int)=((Hst.count (st.put t.ref { o8 with tab:=(tset ⟨o8.tab.list,o8.tab.rest⟩ k x) }):Nat):Int) by rw[count_put ho10])⟩,by show _=List.set _ _ _;congr 1;omega⟩ (h.re [2,0,1,0] [])) ?_;have hp:=hset_ok ht9 ho10 hk he0;refine xs_fin [iw (tsetE k x)] (rhA b ((st.put t.ref { o8 with tab:=(tset ⟨o8.tab.list,o8.tab.rest⟩ k x) }).touch t.ref)::F) (SI.tmp 8 SI.nil) (rr [0] [1,1,1]) ⟨?_,?_⟩
 .rw [hp.2];exact cI (by first|rfl|exact tsetE_ok hk hv0)
 rw[hp.1]
theorem hmeta_no{st:Hst}(hi:HInv st){v:Vl}(h4:hfind st v=none∨v.kind≠4)(h8:hfind st v=none∨v.kind≠8):hmeta st v=zVl:=by
 unfold hmeta;cases hf:hfind st v with
 | none=>rfl
 | some o=>
  obtain⟨h1,h2⟩:=hfind_some hf;rw[hf]at h4 h8;simp at h4 h8;exact (hi.obs o (get_mem h1).1).mt om om
theorem rhmeta_s{Z:Zone}{F:List Asr}{b:Nat}{st:Hst}(hl:st.objs.length≤1000000)(v:Vl):SF Tryz.prog 165 #[.pointer (some ⟨b,0,none⟩),v.v] Z (rhA b st::F) fun r Bs=>r=(hmeta st v).v∧Bs=rhA b st::F:=by
 refine sf_enter Tryz.func165 24 [(0,pB b 0),(1,.agg (vc v))] (fun w0=>?_);refine k_fact (fun H h=>rh_inv (h.re [0] [])) (fun hi0=>?_);refine k_sr<|s_box (vc v) (fun g1=>?_)
 refine s_alloc (.agg zc) zc (fun g2=>?_);refine s_nt<|k_seq<|k_sr<|sP (pB b 0)<|sL (t_loadA 1 (vc v))<|s_call [2] (ris_s (st:=st) om v 4) ?_
 rintro u3 _ ⟨e4,rfl⟩;rcases is_cases st v 4 with ⟨hb5,hn6⟩|⟨o7,hb8,hf9,ho10,hk11,hv12⟩
 .rw [hb5]at e4;subst e4;refine sP (.bool false)<|sP (pB b 0)<|sL (t_loadA 2 (vc v))<|s_call [0] (ris_s (st:=st) om v 8) ?_
  rintro u13 _ ⟨e14,rfl⟩;rcases is_cases st v 8 with ⟨hb15,hn16⟩|⟨o17,hb18,hf19,ho20,hk21,hv22⟩
  .rw [hb15]at e14;subst e14;refine sP (.bool false)<|s_nt<|k_false<|k_st<|k_sr<|sL (t_kern (.agg zc))<|s_store 1 zc ?_
   refine s_nt<|k_ret<|xs_fin [.agg zc] (rhA b st::F) (SI.agg 4 71 1 SI.nil) (rr [0] [1,1]) ⟨?_,rfl⟩
   rw[hmeta_no hi0 hn6 hn16];rfl
  rw[hb18]at e14;subst e14;have hgm23:=get_mem ho20;refine sP (.bool true)<|s_nt<|k_true<|k_seq<|k_draw<|sP3 (pB b 0)<|s_mem3 (fun H h=>rh_open (h.re [0] [])) (fun v24 tv25 L26 hw=>?_)
  obtain⟨hi27,hL28⟩:=hw;have hln29:=rx_len hL28;have htl30:=hi27.tch;refine sL (t_load 0 v24)<|sP (pB g1 4)<|sL (t_load 5 (iw v.ref))<|sL (t_sub v.ref 1 ol)<|sL (t_index RxT_ok Tryz.underlying139 (.own 1) (v.ref-1) (((v.ref-1)).toNat) om ol om)<|sP (.pointer (some ((elemAt RxT.size v24 (((v.ref-1)).toNat)).add 4))) ?_
  obtain⟨tp31,uv32,rv33,hy34⟩:=rx_get hL28 ho20;refine sL (t_loadG 4 (vc o17.mt) RxT_ok (.own 1) hy34)<|s_store 4 (vc o17.mt) ?_
  refine s_nil<|x_dynS (fun _ h=>by kernel_rfl) ?_
  refine xs_then<|k_ret<|xs_ret<|xs_mem (fun _ h=>rh_shut (st:=st) (n:=(st.count:Int)) (T:=st.tch) ⟨⟨⟨hi27,hL28⟩,rfl⟩,rfl⟩ (h.re [0,0,0,0] [])) ?_
  refine xs_fin [.agg (vc o17.mt)] (rhA b st::F) (SI.agg 4 71 1 SI.nil) (rr [0] [1,1]) ⟨?_,rfl⟩;unfold hmeta;rw[hf19];rfl
 rw[hb8]at e4;subst e4;have hgm35:=get_mem ho10;refine sP (.bool true)<|sK<|sK<|sK<|sP (.bool true)<|s_nt<|k_true<|k_seq<|k_draw<|sP3 (pB b 0)<|s_mem3 (fun H h=>rh_open (h.re [0] [])) (fun v36 tv37 L38 hw=>?_)
 obtain⟨hi39,hL40⟩:=hw;have hln41:=rx_len hL40;have htl42:=hi39.tch;refine sL (t_load 0 v36)<|sP (pB g1 4)<|sL (t_load 5 (iw v.ref))<|sL (t_sub v.ref 1 ol)<|sL (t_index RxT_ok Tryz.underlying139 (.own 1) (v.ref-1) (((v.ref-1)).toNat) om ol om)<|sP (.pointer (some ((elemAt RxT.size v36 (((v.ref-1)).toNat)).add 4))) ?_
 obtain⟨tp43,uv44,rv45,hy46⟩:=rx_get hL40 ho10;refine sL (t_loadG 4 (vc o7.mt) RxT_ok (.own 1) hy46)<|s_store 4 (vc o7.mt) ?_
 refine s_nil<|x_dynS (fun _ h=>by kernel_rfl) ?_
 refine xs_then<|k_ret<|xs_ret<|xs_mem (fun _ h=>rh_shut (st:=st) (n:=(st.count:Int)) (T:=st.tch) ⟨⟨⟨hi39,hL40⟩,rfl⟩,rfl⟩ (h.re [0,0,0,0] [])) ?_
 refine xs_fin [.agg (vc o7.mt)] (rhA b st::F) (SI.agg 4 71 1 SI.nil) (rr [0] [1,1]) ⟨?_,rfl⟩;unfold hmeta;rw[hf9];rfl
theorem hmetaOk_no{st:Hst}{v m:Vl}(h4:hfind st v=none∨v.kind≠4)(h8:hfind st v=none∨v.kind≠8):hmetaOk st v m=false:=by
 unfold hmetaOk;cases hf:hfind st v with
 | none=>rfl
 | some o=>
  obtain⟨h1,h2⟩:=hfind_some hf;rw[hf]at h4 h8;simp at h4 h8;simp[h2,h4,h8]
theorem hmetaOk_zero{st:Hst}{v m:Vl}{o:Hob}(hf:hfind st v=some o)(hk:o.kind=4∨o.kind=8)(hz:m=zVl):hmetaOk st v m=true:=by
 unfold hmetaOk;rw[hf];rcases hk with h|h<;>simp[h,hz]
theorem hmetaOk_tab{st:Hst}{v m:Vl}{o:Hob}{T:Tb}(hf:hfind st v=some o)(hk:o.kind=4∨o.kind=8)(ht:htab st m=some T):hmetaOk st v m=true:=by
 unfold hmetaOk;rw[hf];rcases hk with h|h<;>simp[h,ht]
theorem hmetaOk_not{st:Hst}{v m:Vl}{o:Hob}(hf:hfind st v=some o)(hz:m≠zVl)(hm:hfind st m=none∨m.kind≠4):hmetaOk st v m=false:=by
 unfold hmetaOk;rw[hf];have ht:htab st m=none:=by
  rcases hm with h|h
  .exact htab_none h
  cases hx:hfind st m with
  | none=>exact htab_none hx
  | some x=>exact htab_not hx (by rw[(hfind_some hx).2];exact h)
 simp[hz,ht]
theorem rhsetmeta_s{Z:Zone}{F:List Asr}{b:Nat}{st:Hst}(hl:st.objs.length≤1000000)(v m:Vl):SF Tryz.prog 84 #[.pointer (some ⟨b,0,none⟩),v.v,m.v] Z (rhA b st::F) fun r Bs=>r=iw (hsetMetaE st v m)∧Bs=rhA b (hsetMeta st v m)::F:=by
 refine sf_enter Tryz.func84 43 [(0,pB b 0),(1,.agg (vc v)),(2,.agg (vc m))] (fun w0=>?_);refine k_fact (fun H h=>rh_inv (h.re [0] [])) (fun hi0=>?_);refine k_sr<|s_box (vc v) (fun g1=>?_)
 refine s_box (vc m) (fun g2=>?_);refine sP (iw 0)<|s_nt<|k_seq<|k_sr<|sP (pB b 0)<|sP (.bool false)<|s_nt<|k_false<|k_st<|k_seq<|k_sr<|sP (pB b 0)<|sL (t_loadA 1 (vc v))<|s_call [2] (ris_s (st:=st) om v 4) ?_
 rintro u3 _ ⟨e4,rfl⟩;rcases is_cases st v 4 with ⟨hb5,hn6⟩|⟨o7,hb8,hf9,ho10,hk11,hv12⟩
 .rw [hb5]at e4;subst e4;refine sP2 (.bool true)<|sP (pB b 0)<|sL (t_loadA 2 (vc v))<|s_call [0] (ris_s (st:=st) om v 8) ?_
  rintro u13 _ ⟨e14,rfl⟩;rcases is_cases st v 8 with ⟨hb15,hn16⟩|⟨o17,hb18,hf19,ho20,hk21,hv22⟩
  .rw [hb15]at e14;subst e14;refine sP3 (.bool true)<|sK<|sK<|sK<|sK<|sK<|sK<|sK<|sK<|sK<|sP (.bool true)<|s_nt<|k_true<|k_sr<|sP (iw 8)<|s_nt<|k_ret<|xs_ret ?_
   have hb:hmetaOk st v m=false:=hmetaOk_no hn6 hn16;refine xs_fin _ _ (SI.tmp 6 SI.nil) (rr [0] [1,1]) ⟨?_,?_⟩
   .unfold hsetMetaE;rw[hb];rfl
   unfold hsetMeta;rw[hb];rfl
  rw[hb18]at e14;subst e14;have hgm23:=get_mem ho20;refine sP3 (.bool false)<|sL (t_loadA 1 (vc m))<|sL (t_kern (.agg zc))<|sL (t_eqS (fun w=>(eqVlT m zVl w).2))<|sP (.bool (!(decide (m=zVl))))<|s_fork 23 (!(decide (m=zVl))) (fun c24=>?_) (fun c24=>?_)
  .have c25:=not_t c24;have p26:=dF c25;refine sP (pB b 0)<|sL (t_loadA 1 (vc m))<|s_call [0] (ris_s (st:=st) om m 4) ?_
   rintro u27 _ ⟨e28,rfl⟩;rcases is_cases st m 4 with ⟨hb29,hn30⟩|⟨o31,hb32,hf33,ho34,hk35,hv36⟩
   .rw [hb29]at e28;subst e28;refine sP3 (.bool true)<|s_nt<|k_true<|k_sr<|sP (iw 8)<|s_nt<|k_ret<|xs_ret ?_
    have hb:hmetaOk st v m=false:=hmetaOk_not hf19 (dF c25) hn30;refine xs_fin _ _ (SI.tmp 6 SI.nil) (rr [0] [1,1]) ⟨?_,?_⟩
    .unfold hsetMetaE;rw[hb];rfl
    unfold hsetMeta;rw[hb];rfl
   rw[hb32]at e28;subst e28;have hgm37:=get_mem ho34;refine sP3 (.bool false)<|s_nt<|k_false<|k_st<|k_seq<|k_draw<|sP3 (pB b 0)<|s_mem3 (fun H h=>rh_open (h.re [0] [])) (fun v38 tv39 L40 hw=>?_)
   obtain⟨hi41,hL42⟩:=hw;have hln43:=rx_len hL42;have htl44:=hi41.tch;refine sL (t_load 0 v38)<|sP (pB g1 4)<|sL (t_load 5 (iw v.ref))<|sL (t_sub v.ref 1 ol)<|sL (t_loadA 4 (vc m))<|sL (t_index RxT_ok Tryz.underlying139 (.own 1) (v.ref-1) (((v.ref-1)).toNat) om ol om)<|sP (.pointer (some ((elemAt RxT.size v38 (((v.ref-1)).toNat)).add 4))) ?_
   obtain⟨tp45,uv46,rv47,hy48⟩:=rx_get hL42 ho20;refine s_storeE 1 4 (⟨some { o17 with mt:=m },tp45,uv46,rv47⟩:Rx) RxT_ok hy48 ?_;refine s_mem (fun _ h=>rall_in (o':={ o17 with mt:=m }) (uv':=uv46) (rv':=rv47) hy48 (rall_out (o:=o17) hy48 (h.re [3] []))) ?_;have hob49:=hi41.obs o17 (get_mem ho20).1;refine s_nil<|x_dynS (fun _ h=>by kernel_rfl) ?_
   refine xs_then<|k_sr<|sP (pB b 0)<|sL (t_loadA 5 (vc v))<|s_call [1,2] (rtouch_s (vv:=v38) (m:=(st.count:Int)) (T:=st.tch) v om om om 0) ?_
   rw[if_pos (rfl)];rintro _ _ ⟨rfl,rfl⟩;refine sP (iw 0)<|s_nt<|k_ret<|xs_mem (fun _ h=>rh_shut (st:=((st.put v.ref { o17 with mt:=m }).touch v.ref)) (n:=(st.count:Int)) (T:=(st.tch.set ((v.ref-1)).toNat true)) ⟨⟨⟨touch_inv (put_inv (o:={ o17 with mt:=m }) hi41 ⟨hob49.kind,hob49.tab,(fun a b=>by exfalso;have a1:o17.kind≠4:=a;have b1:o17.kind≠8:=b;omega)⟩) v.ref,rx_set hL42 ho20 rfl⟩,(show (st.count:Int)=((Hst.count (st.put v.ref { o17 with mt:=m }):Nat):Int) by rw[count_put ho20])⟩,by show _=List.set _ _ _;congr 1;omega⟩ (h.re [0,2,0,0] [])) ?_
   have hb:hmetaOk st v m=true:=hmetaOk_tab hf19 (.inr om) (htab_is hf33 om);refine xs_fin _ _ (SI.tmp 6 SI.nil) (rr [0] [1,1]) ⟨?_,?_⟩
   .unfold hsetMetaE;rw[hb];rfl
   unfold hsetMeta;rw[hb];unfold Hst.setMt;rw[ho20];rfl
  have c50:=not_f c24;have p51:=dY c50;refine sK<|sK<|sK<|sK<|sP2 (.bool false)<|s_nt<|k_false<|k_st<|k_seq<|k_draw<|sP3 (pB b 0)<|s_mem3 (fun H h=>rh_open (h.re [0] [])) (fun v52 tv53 L54 hw=>?_)
  obtain⟨hi55,hL56⟩:=hw;have hln57:=rx_len hL56;have htl58:=hi55.tch;refine sL (t_load 0 v52)<|sP (pB g1 4)<|sL (t_load 5 (iw v.ref))<|sL (t_sub v.ref 1 ol)<|sL (t_loadA 4 (vc m))<|sL (t_index RxT_ok Tryz.underlying139 (.own 1) (v.ref-1) (((v.ref-1)).toNat) om ol om)<|sP (.pointer (some ((elemAt RxT.size v52 (((v.ref-1)).toNat)).add 4))) ?_
  obtain⟨tp59,uv60,rv61,hy62⟩:=rx_get hL56 ho20;refine s_storeE 1 4 (⟨some { o17 with mt:=m },tp59,uv60,rv61⟩:Rx) RxT_ok hy62 ?_;refine s_mem (fun _ h=>rall_in (o':={ o17 with mt:=m }) (uv':=uv60) (rv':=rv61) hy62 (rall_out (o:=o17) hy62 (h.re [3] []))) ?_;have hob63:=hi55.obs o17 (get_mem ho20).1;refine s_nil<|x_dynS (fun _ h=>by kernel_rfl) ?_
  refine xs_then<|k_sr<|sP (pB b 0)<|sL (t_loadA 5 (vc v))<|s_call [1,2] (rtouch_s (vv:=v52) (m:=(st.count:Int)) (T:=st.tch) v om om om 0) ?_
  rw[if_pos (rfl)];rintro _ _ ⟨rfl,rfl⟩;refine sP (iw 0)<|s_nt<|k_ret<|xs_mem (fun _ h=>rh_shut (st:=((st.put v.ref { o17 with mt:=m }).touch v.ref)) (n:=(st.count:Int)) (T:=(st.tch.set ((v.ref-1)).toNat true)) ⟨⟨⟨touch_inv (put_inv (o:={ o17 with mt:=m }) hi55 ⟨hob63.kind,hob63.tab,(fun a b=>by exfalso;have a1:o17.kind≠4:=a;have b1:o17.kind≠8:=b;omega)⟩) v.ref,rx_set hL56 ho20 rfl⟩,(show (st.count:Int)=((Hst.count (st.put v.ref { o17 with mt:=m }):Nat):Int) by rw[count_put ho20])⟩,by show _=List.set _ _ _;congr 1;omega⟩ (h.re [0,2,0,0] [])) ?_
  have hb:hmetaOk st v m=true:=hmetaOk_zero hf19 (.inr om) (dY c50);refine xs_fin _ _ (SI.tmp 6 SI.nil) (rr [0] [1,1]) ⟨?_,?_⟩
  .unfold hsetMetaE;rw[hb];rfl
  unfold hsetMeta;rw[hb];unfold Hst.setMt;rw[ho20];rfl
 rw[hb8]at e4;subst e4;have hgm64:=get_mem ho10;refine sP2 (.bool false)<|sK<|sK<|sK<|sK<|sP2 (.bool false)<|sL (t_loadA 1 (vc m))<|sL (t_kern (.agg zc))<|sL (t_eqS (fun w=>(eqVlT m zVl w).2))<|sP (.bool (!(decide (m=zVl))))<|s_fork 23 (!(decide (m=zVl))) (fun c65=>?_) (fun c65=>?_)
 .have c66:=not_t c65;have p67:=dF c66;refine sP (pB b 0)<|sL (t_loadA 1 (vc m))<|s_call [0] (ris_s (st:=st) om m 4) ?_
  rintro u68 _ ⟨e69,rfl⟩;rcases is_cases st m 4 with ⟨hb70,hn71⟩|⟨o72,hb73,hf74,ho75,hk76,hv77⟩
  .rw [hb70]at e69;subst e69;refine sP3 (.bool true)<|s_nt<|k_true<|k_sr<|sP (iw 8)<|s_nt<|k_ret<|xs_ret ?_
   have hb:hmetaOk st v m=false:=hmetaOk_not hf9 (dF c66) hn71;refine xs_fin _ _ (SI.tmp 6 SI.nil) (rr [0] [1,1]) ⟨?_,?_⟩
   .unfold hsetMetaE;rw[hb];rfl
   unfold hsetMeta;rw[hb];rfl
  rw[hb73]at e69;subst e69;have hgm78:=get_mem ho75;refine sP3 (.bool false)<|s_nt<|k_false<|k_st<|k_seq<|k_draw<|sP3 (pB b 0)<|s_mem3 (fun H h=>rh_open (h.re [0] [])) (fun v79 tv80 L81 hw=>?_)
  obtain⟨hi82,hL83⟩:=hw;have hln84:=rx_len hL83;have htl85:=hi82.tch;refine sL (t_load 0 v79)<|sP (pB g1 4)<|sL (t_load 5 (iw v.ref))<|sL (t_sub v.ref 1 ol)<|sL (t_loadA 4 (vc m))<|sL (t_index RxT_ok Tryz.underlying139 (.own 1) (v.ref-1) (((v.ref-1)).toNat) om ol om)<|sP (.pointer (some ((elemAt RxT.size v79 (((v.ref-1)).toNat)).add 4))) ?_
  obtain⟨tp86,uv87,rv88,hy89⟩:=rx_get hL83 ho10;refine s_storeE 1 4 (⟨some { o7 with mt:=m },tp86,uv87,rv88⟩:Rx) RxT_ok hy89 ?_;refine s_mem (fun _ h=>rall_in (o':={ o7 with mt:=m }) (uv':=uv87) (rv':=rv88) hy89 (rall_out (o:=o7) hy89 (h.re [3] []))) ?_;have hob90:=hi82.obs o7 (get_mem ho10).1;refine s_nil<|x_dynS (fun _ h=>by kernel_rfl) ?_
  refine xs_then<|k_sr<|sP (pB b 0)<|sL (t_loadA 5 (vc v))<|s_call [1,2] (rtouch_s (vv:=v79) (m:=(st.count:Int)) (T:=st.tch) v om om om 0) ?_
  rw[if_pos (rfl)];rintro _ _ ⟨rfl,rfl⟩;refine sP (iw 0)<|s_nt<|k_ret<|xs_mem (fun _ h=>rh_shut (st:=((st.put v.ref { o7 with mt:=m }).touch v.ref)) (n:=(st.count:Int)) (T:=(st.tch.set ((v.ref-1)).toNat true)) ⟨⟨⟨touch_inv (put_inv (o:={ o7 with mt:=m }) hi82 ⟨hob90.kind,hob90.tab,(fun a b=>by exfalso;have a1:o7.kind≠4:=a;have b1:o7.kind≠8:=b;omega)⟩) v.ref,rx_set hL83 ho10 rfl⟩,(show (st.count:Int)=((Hst.count (st.put v.ref { o7 with mt:=m }):Nat):Int) by rw[count_put ho10])⟩,by show _=List.set _ _ _;congr 1;omega⟩ (h.re [0,2,0,0] [])) ?_
  have hb:hmetaOk st v m=true:=hmetaOk_tab hf9 (.inl om) (htab_is hf74 om);refine xs_fin _ _ (SI.tmp 6 SI.nil) (rr [0] [1,1]) ⟨?_,?_⟩
  .unfold hsetMetaE;rw[hb];rfl
  unfold hsetMeta;rw[hb];unfold Hst.setMt;rw[ho10];rfl
 have c91:=not_f c65;have p92:=dY c91;refine sK<|sK<|sK<|sK<|sP2 (.bool false)<|s_nt<|k_false<|k_st<|k_seq<|k_draw<|sP3 (pB b 0)<|s_mem3 (fun H h=>rh_open (h.re [0] [])) (fun v93 tv94 L95 hw=>?_)
 obtain⟨hi96,hL97⟩:=hw;have hln98:=rx_len hL97;have htl99:=hi96.tch;refine sL (t_load 0 v93)<|sP (pB g1 4)<|sL (t_load 5 (iw v.ref))<|sL (t_sub v.ref 1 ol)<|sL (t_loadA 4 (vc m))<|sL (t_index RxT_ok Tryz.underlying139 (.own 1) (v.ref-1) (((v.ref-1)).toNat) om ol om)<|sP (.pointer (some ((elemAt RxT.size v93 (((v.ref-1)).toNat)).add 4))) ?_
 obtain⟨tp100,uv101,rv102,hy103⟩:=rx_get hL97 ho10;refine s_storeE 1 4 (⟨some { o7 with mt:=m },tp100,uv101,rv102⟩:Rx) RxT_ok hy103 ?_;refine s_mem (fun _ h=>rall_in (o':={ o7 with mt:=m }) (uv':=uv101) (rv':=rv102) hy103 (rall_out (o:=o7) hy103 (h.re [3] []))) ?_;have hob104:=hi96.obs o7 (get_mem ho10).1;refine s_nil<|x_dynS (fun _ h=>by kernel_rfl) ?_
 refine xs_then<|k_sr<|sP (pB b 0)<|sL (t_loadA 5 (vc v))<|s_call [1,2] (rtouch_s (vv:=v93) (m:=(st.count:Int)) (T:=st.tch) v om om om 0) ?_
 rw[if_pos (rfl)];rintro _ _ ⟨rfl,rfl⟩;refine sP (iw 0)<|s_nt<|k_ret<|xs_mem (fun _ h=>rh_shut (st:=((st.put v.ref { o7 with mt:=m }).touch v.ref)) (n:=(st.count:Int)) (T:=(st.tch.set ((v.ref-1)).toNat true)) ⟨⟨⟨touch_inv (put_inv (o:={ o7 with mt:=m }) hi96 ⟨hob104.kind,hob104.tab,(fun a b=>by exfalso;have a1:o7.kind≠4:=a;have b1:o7.kind≠8:=b;omega)⟩) v.ref,rx_set hL97 ho10 rfl⟩,(show (st.count:Int)=((Hst.count (st.put v.ref { o7 with mt:=m }):Nat):Int) by rw[count_put ho10])⟩,by show _=List.set _ _ _;congr 1;omega⟩ (h.re [0,2,0,0] [])) ?_
 have hb:hmetaOk st v m=true:=hmetaOk_zero hf9 (.inl om) (dY c91);refine xs_fin _ _ (SI.tmp 6 SI.nil) (rr [0] [1,1]) ⟨?_,?_⟩
 .unfold hsetMetaE;rw[hb];rfl
 unfold hsetMeta;rw[hb];unfold Hst.setMt;rw[ho10];rfl
theorem hmake_eq{st:Hst}{o:Hob}(hf:st.count<65536):hmake st o=⟨st.objs++[some o],st.tch++[true]⟩:=by unfold hmake;rw[if_neg om]
theorem radd_s{Z:Zone}{F:List Asr}{b:Nat}{st:Hst}{o:Hob}{tp:Nat}{uv rv:Sv}(hob:ObInv o)(hl:st.objs.length≤1000000):SF Tryz.prog 137 #[.pointer (some ⟨b,0,none⟩),Rx.v ⟨some o,tp,uv,rv⟩] Z (rhA b st::roP ⟨some o,tp,uv,rv⟩::F) fun r Bs=>r=pairV (hmakeV st o.kind) (hmakeE st)∧Bs=rhA b (hmake st o)::F:=by
 refine sf_enter Tryz.func137 47 [(0,pB b 0),(1,.agg #[iw o.kind,iw o.tag,sw o.name,(tabV (0,tp) o),iw o.mt.kind,iw o.mt.p,iw o.mt.q,sw o.mt.str,iw o.mt.ref,uv.v,rv.v])] (fun w0=>?_);refine k_sr<|s_box #[iw o.kind,iw o.tag,sw o.name,(tabV (0,tp) o),iw o.mt.kind,iw o.mt.p,iw o.mt.q,sw o.mt.str,iw o.mt.ref,uv.v,rv.v] (fun g1=>?_)
 refine s_alloc (.agg zc) zc (fun g2=>?_);refine sP (iw 0)<|s_nt<|k_seq<|k_sr<|sP2 (pB b 0)<|sP (pB b 1)<|s_mem3 (fun H h=>rh_open (h.re [2] [])) (fun v3 tv4 L5 hw=>?_)
 obtain⟨hi6,hL7⟩:=hw;have hln8:=rx_len hL7;have htl9:=hi6.tch;refine sL (t_load 0 (iw (st.count:Int)))<|sL t_cmp<|s_nt<|k_cond (decide ((65536:Int)≤(st.count:Int))) (fun c10=>?_) (fun c10=>?_)
 .have p11:=dY c10;refine k_sr<|sL (t_kern (.agg zc))<|s_store 4 zc ?_
  refine sP (iw 17)<|s_nt<|k_ret<|xs_ret<|xs_mem (fun _ h=>rh_shut (st:=st) (n:=(st.count:Int)) (T:=st.tch) ⟨⟨⟨hi6,hL7⟩,rfl⟩,rfl⟩ (h.re [0,0,0,0] [])) ?_
  have hf:65536≤st.count:=by omega
  refine xs_fin [.agg zc,iw 17] (rhA b st::F) (SI.agg 4 71 1 (SI.tmp 5 SI.nil)) (rr [0] [1,1,1]) ⟨?_,?_⟩
  .rw [(hmakeV_full hf).1,(hmakeV_full (k:=0) hf).2];rfl
  rw[hmake_full hf]
 have p12:=dF c10;refine k_st<|k_seq<|k_draw<|sP4 (pB b 0)<|sL (t_load 0 v3)<|sL (t_loadA 5 #[iw o.kind,iw o.tag,sw o.name,(tabV (0,tp) o),iw o.mt.kind,iw o.mt.p,iw o.mt.q,sw o.mt.str,iw o.mt.ref,uv.v,rv.v])<|s_buildSlice (e:=145) [(0,.agg #[iw o.kind,iw o.tag,sw o.name,(tabV (0,tp) o),iw o.mt.kind,iw o.mt.p,iw o.mt.q,sw o.mt.str,iw o.mt.ref,uv.v,rv.v])] #[iw o.kind,iw o.tag,sw o.name,(tabV (0,tp) o),iw o.mt.kind,iw o.mt.p,iw o.mt.q,sw o.mt.str,iw o.mt.ref,uv.v,rv.v] (fun g13=>?_) (hb:=by kernel_rfl)
 refine s_append (L:=L5) 2 RxT_ok Tryz.underlying139 (.lit 0 RxT_ok [(⟨some o,tp,uv,rv⟩:Rx)]) (by show _*136≤_;(try simp only[lnm]);omega) ol (fun v14=>?_);refine sP2 (pB b 0)<|sF 2 (fun hf15=>?_)
 refine s_store (u:=v14) (m:=1) 1 #[v14,iw (st.count:Int),tv4] ?_ (hm:=by (obtain⟨_,_,e⟩:=hf15;rw[e];rfl)) (h1:=by (obtain⟨_,_,e⟩:=hf15;rw[e];rfl)) (ha':=by (obtain⟨_,_,e⟩:=hf15;rw[e];rfl));refine s_nil<|x_dynS (fun _ h=>by kernel_rfl) ?_
 refine xs_then<|k_sr<|sP3 (pB b 0)<|sP (pB b 2)<|sL (t_load 1 tv4)<|s_buildSlice (e:=4) [(0,.bool true)] #[.bool true] (fun g16=>?_) (hb:=by kernel_rfl)
 refine s_append (L:=st.tch) 4 bTy_ok Tryz.underlying140 (.lit 0 bTy_ok [true]) (by show _*1≤_;(try simp only[lnm]);omega) ol (fun v17=>?_);refine sP (pB b 0)<|sP (pB b 2)<|sF 4 (fun hf18=>?_)
 refine s_store (u:=v17) (m:=1) 2 #[v14,iw (st.count:Int),v17] ?_ (hm:=by (obtain⟨_,_,e⟩:=hf18;rw[e];rfl)) (h1:=by (obtain⟨_,_,e⟩:=hf18;rw[e];rfl)) (ha':=by (obtain⟨_,_,e⟩:=hf18;rw[e];rfl));refine s_nr<|sP3 (pB b 0)<|sP (pB b 1)<|sL (t_load 2 (iw (st.count:Int)))<|sL (t_add (st.count:Int) 1 ol)<|sP (pB b 0)<|sP (pB b 1)<|s_store 2 #[v14,iw ((st.count:Int)+1),v17] ?_
 refine s_nt<|k_seq<|k_draw<|sP (pB g1 0)<|sL (t_load 7 (iw o.kind))<|sP3 (pB b 0)<|sL (t_load 2 v14)<|sL (t_len RxT_ok Tryz.underlying139 (.own 3))<|sL (t_kern (.agg #[iw o.kind,iw 0,iw 0,sw eb,iw ((L5++[(⟨some o,tp,uv,rv⟩:Rx)]).length:Int)]))<|s_store 6 #[iw o.kind,iw 0,iw 0,sw eb,iw ((L5++[(⟨some o,tp,uv,rv⟩:Rx)]).length:Int)] ?_
 refine sP (iw 0)<|s_nil<|x_dynS (fun _ h=>by obtain⟨_,_,e⟩:=hf15;subst e;kernel_rfl) ?_
 refine xs_then<|k_ret ?_
 have hf:st.count<65536:=by omega
 refine xs_mem (fun _ h=>rall_add (h.re [8,5] [])) ?_;refine xs_mem (fun _ h=>rh_shut (st:=(hmake st o)) (n:=((st.count:Int)+1)) (T:=(st.tch++[true])) ⟨⟨⟨hmake_inv hi6 hob,by rw[hmake_eq hf];exact rx_snoc (x:=⟨some o,tp,uv,rv⟩) hL7 rfl _⟩,by rw[hmake_eq hf,count_snoc];rfl⟩,by rw[hmake_eq hf]⟩ (h.re [3,3,3,0] [])) ?_;refine xs_fin [.agg #[iw o.kind,iw 0,iw 0,sw eb,iw ((L5++[(⟨some o,tp,uv,rv⟩:Rx)]).length:Int)],iw 0] (rhA b (hmake st o)::F) (SI.agg 4 71 3 (SI.tmp 5 SI.nil)) (rr [0] [1,1,1,1]) ⟨?_,rfl⟩;rw[(hmakeV_ok hf).1,(hmakeV_ok (k:=0) hf).2];exact congrArg (fun v:Vl=>pairV v 0) (congrArg (refV o.kind) (by have h5:=rx_len hL7;rw[List.length_append,h5];rfl))
theorem rhnewtable_s{Z:Zone}{F:List Asr}{b:Nat}{st:Hst}(hl:st.objs.length≤1000000):SF Tryz.prog 76 #[.pointer (some ⟨b,0,none⟩)] Z (rhA b st::F) fun r Bs=>r=pairV (hmakeV st 4) (hmakeE st)∧Bs=rhA b (hmake st (newO 4 0 eb []))::F:=by
 refine sf_enter Tryz.func76 13 [(0,pB b 0)] (fun w0=>?_);refine k_sr<|s_alloc (.agg zc) zc (fun g1=>?_)
 refine sP (iw 0)<|s_nt<|k_seq<|k_sr<|sP (pB b 0)<|sP (.bool false)<|s_nt<|k_false<|k_st<|k_sr<|sP (pB b 0)<|s_pcall (fun _ h=>rtnew_s) ?_
 rintro _ _ ⟨tg2,rfl,rfl⟩;refine sL (t_kern (.agg #[iw 4,iw 0,sw eb,pB tg2 0,iw 0,iw 0,iw 0,sw eb,iw 0,nS,nS]))<|s_mem (fun _ h=>Holds.nilS (T:=VlT) h) ?_
 refine s_mem (fun _ h=>Holds.nilS (T:=VlT) h) ?_;refine s_mem (fun _ h=>rtO_shut (tp:=tg2) (o:=(newO 4 0 eb [])) (T:=noTb) rfl (h.re [2] [])) ?_;refine s_mem (fun _ h=>show Holds _ (roP ⟨some (newO 4 0 eb []),tg2,⟨none,0,0⟩,⟨none,0,0⟩⟩::_) _ from Holds.star_in (L:=[own VlT (Sv.v ⟨none,0,0⟩) (usr (newO 4 0 eb [])),own VlT (Sv.v ⟨none,0,0⟩) (rfs (newO 4 0 eb [])),rtO tg2 (newO 4 0 eb [])]) (h.re [2,1,0] [])) ?_;refine sC [2,0] (radd_s (st:=st) (o:=(newO 4 0 eb [])) (tp:=tg2) (uv:=⟨none,0,0⟩) (rv:=⟨none,0,0⟩) (newO_inv _ _ _ (by decide)) om) ?_;refine sP (.agg (vc (hmakeV st 4)))<|sP (iw (hmakeE st))<|s_store 1 (vc (hmakeV st 4)) ?_
 refine sP (iw (hmakeE st))<|s_nt<|k_ret ?_
 exact xs_fin _ _ (SI.agg 2 71 1 (SI.tmp 3 SI.nil)) (rr [0] [1]) ⟨rfl,rfl⟩
theorem rhnewfunc_s{Z:Zone}{F:List Asr}{b:Nat}{st:Hst}(hl:st.objs.length≤1000000)(tag:Int):SF Tryz.prog 80 #[.pointer (some ⟨b,0,none⟩),iw tag] Z (rhA b st::F) fun r Bs=>r=pairV (hmakeV st 5) (hmakeE st)∧Bs=rhA b (hmake st (newO 5 tag eb []))::F:=by
 refine sf_enter Tryz.func80 15 [(0,pB b 0),(1,iw tag)] (fun w0=>?_);refine k_sr<|s_alloc (.agg zc) zc (fun g1=>?_)
 refine sP (iw 0)<|s_nt<|k_seq<|k_sr<|sP (pB b 0)<|sP (.bool false)<|s_nt<|k_false<|k_st<|k_sr<|sP (pB b 0)<|sP (iw tag)<|sL (t_kern (.agg #[iw 5,iw tag,sw eb,.pointer none,iw 0,iw 0,iw 0,sw eb,iw 0,nS,nS]))<|s_mem (fun _ h=>Holds.nilS (T:=VlT) h) ?_
 refine s_mem (fun _ h=>Holds.nilS (T:=VlT) h) ?_;refine s_mem (fun _ h=>rtO_none (tp:=0) (o:=(newO 5 tag eb [])) (show (5:Int)≠4 by decide) h) ?_;refine s_mem (fun _ h=>show Holds _ (roP ⟨some (newO 5 tag eb []),0,⟨none,0,0⟩,⟨none,0,0⟩⟩::_) _ from Holds.star_in (L:=[own VlT (Sv.v ⟨none,0,0⟩) (usr (newO 5 tag eb [])),own VlT (Sv.v ⟨none,0,0⟩) (rfs (newO 5 tag eb [])),rtO 0 (newO 5 tag eb [])]) (h.re [2,1,0] [])) ?_;refine sC [2,0] (radd_s (st:=st) (o:=(newO 5 tag eb [])) (tp:=0) (uv:=⟨none,0,0⟩) (rv:=⟨none,0,0⟩) (newO_inv _ _ _ (by decide)) om) ?_;refine sP (.agg (vc (hmakeV st 5)))<|sP (iw (hmakeE st))<|s_store 1 (vc (hmakeV st 5)) ?_
 refine sP (iw (hmakeE st))<|s_nt<|k_ret ?_
 exact xs_fin _ _ (SI.agg 4 71 1 (SI.tmp 5 SI.nil)) (rr [0] [1]) ⟨rfl,rfl⟩
theorem rhnewdata_s{Z:Zone}{F:List Asr}{b:Nat}{st:Hst}(hl:st.objs.length≤1000000)(name:ByteArray):SF Tryz.prog 78 #[.pointer (some ⟨b,0,none⟩),sw name] Z (rhA b st::F) fun r Bs=>r=pairV (hdataV st name) (hdataE st name)∧Bs=rhA b (hdata st name)::F:=by
 refine sf_enter Tryz.func78 31 [(0,pB b 0),(1,sw name)] (fun w0=>?_);refine k_sr<|s_alloc (.agg zc) zc (fun g1=>?_)
 refine sP (iw 0)<|s_nt<|k_seq<|k_sr<|sP (pB b 0)<|sP (.bool false)<|s_nt<|k_false<|k_st<|k_seq<|k_sr<|sP (sw name)<|sL (t_kern (iw (name.size:Int)))<|sL t_cmp<|s_nt<|k_cond (decide ((40:Int)<(name.size:Int))) (fun c2=>?_) (fun c2=>?_)
 .have p3:=dY c2;refine k_sr<|sL (t_kern (.agg zc))<|s_store 0 zc ?_
  refine sP (iw 14)<|s_nt<|k_ret<|xs_ret ?_
  have hp:=dY c2;refine xs_fin [.agg zc,iw 14] (rhA b st::F) (SI.agg 4 71 0 (SI.tmp 5 SI.nil)) (rr [1] [1]) ⟨?_,?_⟩
  .unfold hdataV hdataE;rw[if_pos hp,if_pos hp];rfl
  unfold hdata;rw[if_pos hp]
 have p4:=dF c2;refine k_st<|k_sr<|s_buildSlice (e:=71) [] #[] (fun g5=>?_) (hb:=by kernel_rfl)
 refine sP (.slice (some ⟨g5,0,none⟩) 0 0)<|s_nt<|k_seq<|k_sr<|sP (iw 0)<|s_nt<|k_block<|k_mem (fun _ h=>Holds.slice 0 h VlT_ok []) ?_
 refine k_mem (Bs:=own VlT (.slice (some ⟨g5,0,none⟩) 0 0) (List.replicate 0 zVl)::blkA g1 zc 71::rhA b st::F) (fun _ h=>h) ?_;refine k_loop (ι:=Value×Nat) (fun (lx,i)=>i≤16) (fun (lx,i)=>[(0,pB b 0),(1,sw name),(4,pB g1 0),(6,lx),(7,iw (i:Int))]) (fun (lx,i)=>own VlT lx (List.replicate i zVl)::blkA g1 zc 71::rhA b st::F) (fun (lx,i)=>16-i) ((.slice (some ⟨g5,0,none⟩) 0 0),0) (Nat.zero_le _) sA (rr [0,0,0] []) ?_;rintro⟨lx,i⟩ hi6;replace hi6:i≤16:=hi6;show SK _ _ _ _ _ [(0,pB b 0),(1,sw name),(4,pB g1 0),(6,lx),(7,iw (i:Int))] _ (own VlT lx (List.replicate i zVl)::blkA g1 zc 71::rhA b st::F);refine k_seq<|k_sr<|sP (iw (i:Int))<|sL t_cmp<|s_nt<|k_cond (decide ((i:Int)<16)) (fun c7=>?_) (fun c7=>?_)
 .have p8:=dY c7;refine k_st<|k_seq<|k_block<|k_reg<|sP lx<|sL (t_kern (.agg zc))<|s_buildSlice (e:=71) [(0,.agg zc)] zc (fun g9=>?_) (hb:=by kernel_rfl)
  refine s_append (L:=(List.replicate i zVl)) 1 VlT_ok Tryz.underlying28 (.lit 0 VlT_ok [zVl]) (by show _*48≤_;(try simp only[lnm]);omega) ol (fun v10=>?_);refine sP v10<|s_nil<|xs_block<|xs_then<|k_reg<|sP (iw (i:Int))<|sL (t_add (i:Int) 1 ol)<|sP (iw ((i:Int)+1))<|s_nil ?_
  rw[show List.replicate i zVl++[zVl]=List.replicate (i+1) zVl from List.replicate_succ'.symm];exact xs_round (v10,i+1) (by show 16-(i+1)<16-i;omega) (by show i+1≤16;omega) sA (rr [1,1,1] [3])
 have p11:=dF c7;refine k_exit ?_;obtain rfl:i=16:=by omega
 refine xs_exit<|xs_exit<|xs_here<|xs_then<|k_sr<|sP (pB b 0)<|sP (sw name)<|sP lx<|sF 0 (fun hf12=>?_)
 refine sL (show Lt _ _ _ _ _ (.agg #[iw 8,iw 0,sw name,.pointer none,iw 0,iw 0,iw 0,sw eb,iw 0,lx,nS]) from by obtain⟨_,_,e⟩:=hf12;rw[e];clear e;exact t_kern _)<|sF 0 (fun hfm=>?_)
 obtain⟨p13,cp14,hev⟩:=hfm;subst hev;refine s_mem (fun _ h=>Holds.nilS (T:=VlT) h) ?_;refine s_mem (fun _ h=>rtO_none (tp:=0) (o:=(newO 8 0 name (List.replicate 16 zVl))) (show (8:Int)≠4 by decide) h) ?_;refine s_mem (fun _ h=>show Holds _ (roP ⟨some (newO 8 0 name (List.replicate 16 zVl)),0,⟨p13,(List.replicate 16 zVl).length,cp14⟩,⟨none,0,0⟩⟩::_) _ from Holds.star_in (L:=[own VlT (Sv.v ⟨p13,(List.replicate 16 zVl).length,cp14⟩) (usr (newO 8 0 name (List.replicate 16 zVl))),own VlT (Sv.v ⟨none,0,0⟩) (rfs (newO 8 0 name (List.replicate 16 zVl))),rtO 0 (newO 8 0 name (List.replicate 16 zVl))]) (h.re [2,1,0] [])) ?_;refine sC [2,0] (radd_s (st:=st) (o:=(newO 8 0 name (List.replicate 16 zVl))) (tp:=0) (uv:=⟨p13,(List.replicate 16 zVl).length,cp14⟩) (rv:=⟨none,0,0⟩) (newO_inv _ _ _ (by decide)) om) ?_;refine sP (.agg (vc (hmakeV st 8)))<|sP (iw (hmakeE st))<|s_store 1 (vc (hmakeV st 8)) ?_
 refine sP (iw (hmakeE st))<|s_nt<|k_ret ?_
 have hp:=dF c2;refine xs_fin [.agg (vc (hmakeV st 8)),iw (hmakeE st)] (rhA b (hmake st (newO 8 0 name (List.replicate 16 zVl)))::F) (SI.agg 4 71 1 (SI.tmp 5 SI.nil)) (rr [0] [1]) ⟨?_,?_⟩
 .unfold hdataV hdataE;rw[if_neg hp,if_neg hp];rfl
 unfold hdata;rw[if_neg hp]<;>rfl
theorem rhnew_s{Z:Zone}:SF Tryz.prog 74 #[] Z [] fun r Bs=>∃b,r=.pointer (some ⟨b,0,none⟩)∧Bs=[rhA b hp0]:=by
 refine sf_enter Tryz.func74 3 [] (fun w0=>?_);refine k_sr<|sP (.pointer none)<|s_nr<|sL (t_kern (.agg #[nS,iw 0,nS]))<|s_box #[nS,iw 0,nS] (fun g1=>?_)
 refine sP (pB g1 0)<|s_nt<|k_ret<|xs_fin _ _ (SI.tmp 0 SI.nil) (fun _ h=>rh_shut (b:=g1) (st:=hp0) (L:=[]) (T:=[]) (v:=nS) (tv:=nS) ⟨⟨⟨HInv.nil,rfl⟩,rfl⟩,rfl⟩ ((Holds.nilS (T:=RxT) (Holds.nilS (T:=bTy) (Holds.star_nil h))).re [3,0,0,0] [])) ⟨g1,rfl,rfl⟩
end Go.Proofs.YtmhpcebiamkciaaGreat
end
section
set_option linter.unusedSimpArgs false
set_option linter.unusedVariables false
set_option maxRecDepth 100000
set_option maxHeartbeats 2000000
namespace Go.Proofs.YtmhpcebiamkciaaGreat
open Go.Hp Go.J Go.S
open Go.Mem (Ty KTy blk elemAt pre suf blk_pre blk_suf aget aset strK aggDesc)
open Go.Mem (adel apos aget_aset aget_adel)
structure Spc where
 v:Vl
 obj:Int
structure Opc where
 kind:Int
 a:Spc
 b:Spc
 c:Spc
def Spc.w(x:Spc):Value:=.agg #[iw x.v.kind,iw x.v.p,iw x.v.q,sw x.v.str,iw x.v.ref,iw x.obj]
def Opc.w(x:Opc):Value:=.agg #[iw x.kind,iw x.a.v.kind,iw x.a.v.p,iw x.a.v.q,sw x.a.v.str,iw x.a.v.ref,iw x.a.obj,iw x.b.v.kind,iw x.b.v.p,iw x.b.v.q,sw x.b.v.str,iw x.b.v.ref,iw x.b.obj,iw x.c.v.kind,iw x.c.v.p,iw x.c.v.q,sw x.c.v.str,iw x.c.v.ref,iw x.c.obj]
def SpT:Ty Spc:=⟨76,6,56,true,Spc.w,⟨zVl,0⟩⟩
theorem SpT_ok:SpT.Ok Tryz.prog:=ok_of SpT _ Tryz.t76 (by decide) (fun _=>rfl) (fun x u hu=>by simp[Ty.enc,SpT,Spc.w,Value.cells]at hu;rcases hu with rfl|rfl|rfl|rfl|rfl|rfl<;>rfl) (fun _=>rfl) Tryz.underlying76 rfl (fun h=>by cases h) (by kernel_rfl) (by kernel_rfl) (by kernel_rfl) (by kernel_rfl)
def OpT:Ty Opc:=⟨78,19,176,true,Opc.w,⟨0,⟨zVl,0⟩,⟨zVl,0⟩,⟨zVl,0⟩⟩⟩
theorem OpT_ok:OpT.Ok Tryz.prog:=ok_of OpT _ Tryz.t78 (by decide) (fun _=>rfl) (fun x u hu=>by simp[Ty.enc,OpT,Opc.w,Value.cells]at hu;rcases hu with rfl|rfl|rfl|rfl|rfl|rfl|rfl|rfl|rfl|rfl|rfl|rfl|rfl|rfl|rfl|rfl|rfl|rfl|rfl<;>rfl) (fun _=>rfl) Tryz.underlying78 rfl (fun h=>by cases h) (by kernel_rfl) (by kernel_rfl) (by kernel_rfl) (by kernel_rfl)
theorem ofstr_s{Z:Zone}(s:ByteArray):SF Tryz.prog 172 #[sw s] Z [] fun r Bs=>r=(strV s).v∧Bs=[]:=by
 refine sf_enter Tryz.func172 5 [(0,sw s)] (fun w0=>?_);refine k_sr<|s_alloc (.agg zc) zc (fun g1=>?_)
 refine s_nr<|sP (sw s)<|sL (t_kern (.agg #[iw 3,iw 0,iw 0,sw s,iw 0]))<|s_store 0 #[iw 3,iw 0,iw 0,sw s,iw 0] ?_
 refine s_nt<|k_ret ?_
 exact xs_fin _ _ (SI.agg 2 71 0 SI.nil) (rr [] [0]) ⟨rfl,rfl⟩
theorem rtext_s{Z:Zone}(s:ByteArray):SF Tryz.prog 167 #[sw s] Z [] fun r Bs=>r=(strV s).v∧Bs=[]:=by
 refine sf_enter Tryz.func167 5 [(0,sw s)] (fun w0=>?_);refine k_sr<|s_alloc (.agg zc) zc (fun g1=>?_)
 refine s_nr<|sP (sw s)<|sL (t_kern (.agg #[iw 3,iw 0,iw 0,sw s,iw 0]))<|s_store 0 #[iw 3,iw 0,iw 0,sw s,iw 0] ?_
 refine s_nt<|k_ret ?_
 exact xs_fin _ _ (SI.agg 2 71 0 SI.nil) (rr [] [0]) ⟨rfl,rfl⟩
def hdl(st:Hst)(v:Vl)(ev:ByteArray):Vl:=if (hmeta st v).kind=0 then zVl else hgetV st (hmeta st v) (strV ev)
theorem hget_kind{st:Hst}{m k:Vl}(h:m.kind≠4):hgetV st m k=zVl:=by
 refine hgetV_none ?_;cases hf:hfind st m with
 | none=>exact htab_none hf
 | some o=>exact htab_not hf (by rw[(hfind_some hf).2];exact h)
theorem hdl_s{Z:Zone}{F:List Asr}{b:Nat}{st:Hst}{n:Nat}(hsm:HSm n st)(hn:n≤300)(v:Vl)(ev:ByteArray):SF Tryz.prog 112 #[.pointer (some ⟨b,0,none⟩),v.v,sw ev] Z (hpA b st::F) fun r Bs=>r=(hdl st v ev).v∧Bs=hpA b st::F:=by
 refine sf_enter Tryz.func112 26 [(0,pB b 0),(1,.agg (vc v)),(2,sw ev)] (fun w0=>?_);have hlen0:=hsm.len;refine k_sr<|s_box (vc v) (fun g1=>?_)
 refine s_alloc (.agg zc) zc (fun g2=>?_);refine s_nr<|sP (pB b 0)<|sL (t_loadA 1 (vc v))<|sC [2] (hmeta_s (st:=st) v) ?_
 refine s_alloc (.agg zc) zc (fun g3=>?_);refine s_store 0 (vc (hmeta st v)) ?_;refine s_nt<|k_seq<|k_sr<|sP (pB g3 0)<|sL (t_load 0 (iw ((hmeta st v).kind)))<|sL t_cmp<|s_nt<|k_cond (decide ((hmeta st v).kind=0)) (fun c4=>?_) (fun c4=>?_)
 .have p5:=dY c4;refine k_sr<|sL (t_kern (.agg zc))<|s_store 2 zc ?_
  refine s_nt<|k_ret<|xs_ret<|xs_fin [.agg zc] (hpA b st::F) (SI.agg 6 71 2 SI.nil) (rr [1] [1,1,1]) ⟨?_,rfl⟩
  unfold hdl;rw[if_pos (dY c4)];rfl
 have p6:=dF c4;refine k_st<|k_seq<|k_held [blkA g3 (vc (hmeta st v)) 71,blkA g2 zc 71,blkA g1 (vc v) 71] ?_
 refine hp_ 0 [0,1,1] (pB b 0) ?_;refine h_l 1 rfl [0,1,1] (fun _=>(t_loadA 0 (vc (hmeta st v)))) ?_;refine hp_ 2 [0,1,1] (sw ev) ?_;refine h_join (ι:=Nat) 2 (tf [9,2]) (fun g7=>[(6,pB g2 0),(8,pB g7 0),(23,.agg (vc (hgetV st (hmeta st v) (strV ev)))),(24,iw (hgetE st (hmeta st v)))]) (fun g7=>blkA g7 zc 71::hpA b st::blkA g3 (vc (hmeta st v)) 71::blkA g2 zc 71::blkA g1 (vc v) 71::F) ?_ (fun hj10=>?_)
 .rintro g7;try dsimp only
  refine h_stepS 9 ?_;refine s_store 0 (vc (hgetV st (hmeta st v) (strV ev))) ?_;refine nH [2,2,2]<|hp_ 10 [2,2,2] (iw (hgetE st (hmeta st v))) ?_
  refine h_doneS ?_;refine xs_then<|k_sr<|sL (t_loadA 0 (vc (hgetV st (hmeta st v) (strV ev))))<|s_store 3 (vc (hgetV st (hmeta st v) (strV ev))) ?_
  refine s_nt<|k_ret<|xs_fin [.agg (vc (hgetV st (hmeta st v) (strV ev)))] (hpA b st::F) (SI.agg 6 71 3 SI.nil) (rr [1] [1,1,1,1]) ⟨?_,rfl⟩
  unfold hdl;rw[if_neg (dF c4)];rfl
 refine h_join (ι:=Nat) 6 (tf [4,4,1,2]) (fun g8=>[(6,pB g2 0),(8,pB g8 0),(18,pB b 0),(19,.agg (vc (hmeta st v))),(21,.agg (vc (strV ev)))]) (fun g8=>blkA g8 zc 71::blkA g3 (vc (hmeta st v)) 71::hpA b st::blkA g2 zc 71::blkA g1 (vc v) 71::F) ?_ (fun hj11=>?_)
 .rintro g8;try dsimp only
  refine h_stepS 4 ?_;refine sC [2] (hget_s (st:=st) hsm om (hmeta st v) (strV ev)) ?_;refine nH [2,2,2]<|hp_ 5 [2,2,2] (.tuple #[.agg (vc (hgetV st (hmeta st v) (strV ev))),iw (hgetE st (hmeta st v))]) ?_
  refine hp_ 6 [2,2,2] (.agg (vc (hgetV st (hmeta st v) (strV ev)))) ?_;refine hp_ 7 [2,2,2] (iw (hgetE st (hmeta st v))) ?_;exact h_use hj10 g8 (rr [1,0,0,0,0] [])
 refine h_stepS2 3 8 ?_ ?_
 .refine sV (fun _ h=>ofstr_s ev)<|nH [0,1,1]<|h_stepS2 4 8 ?_ ?_
  .refine sC [1] (hget_s (st:=st) hsm om (hmeta st v) (strV ev)) ?_;refine nH [1,1,1]<|hp_ 5 [1,1,1] (.tuple #[.agg (vc (hgetV st (hmeta st v) (strV ev))),iw (hgetE st (hmeta st v))]) ?_
   refine hp_ 6 [1,1,1] (.agg (vc (hgetV st (hmeta st v) (strV ev)))) ?_;refine hp_ 7 [1,1,1] (iw (hgetE st (hmeta st v))) ?_;refine h_stepS 8 ?_;refine s_alloc (.agg zc) zc (fun g12=>?_);refine nH [2,2,2] ?_;exact h_use hj10 g12 (rr [0,0,0,0,0] [])
  refine s_alloc (.agg zc) zc (fun g13=>?_);refine nH [1,2,2] ?_;exact h_use hj11 g13 (rr [0,0,0,0,0] [])
 refine s_alloc (.agg zc) zc (fun g14=>?_);refine nH [1,2,2]<|h_stepS 3 ?_
 refine sV (fun _ h=>ofstr_s ev)<|nH [1,2,2] ?_
 exact h_use hj11 g14 (rr [0,0,0,0,0] [])
theorem rhdl_s{Z:Zone}{F:List Asr}{b:Nat}{st:Hst}{n:Nat}(hsm:HSm n st)(hn:n≤300)(v:Vl)(ev:ByteArray):SF Tryz.prog 104 #[.pointer (some ⟨b,0,none⟩),v.v,sw ev] Z (rhA b st::F) fun r Bs=>r=(hdl st v ev).v∧Bs=rhA b st::F:=by
 refine sf_enter Tryz.func104 35 [(0,pB b 0),(1,.agg (vc v)),(2,sw ev)] (fun w0=>?_);have hlen0:=hsm.len;refine k_fact (fun H h=>rh_inv (h.re [0] [])) (fun hi0=>?_);refine k_sr<|s_box (vc v) (fun g1=>?_)
 refine s_alloc (.agg zc) zc (fun g2=>?_);refine s_nt<|k_seq<|k_cut (ι:=Unit) (fun _=>True) (fun _=>[(0,pB b 0),(2,sw ev),(4,pB g1 0),(6,pB g2 0),(17,.bool ((decide (v.kind≠4))&&(decide (v.kind≠8))))]) (fun _=>blkA g2 zc 71::blkA g1 (vc v) 71::rhA b st::F) ?_ (fun _ _=>?_)
 .refine k_reg<|sP (pB g1 0)<|sL (t_load 1 (iw v.kind))<|sL t_cmp<|sP (.bool (decide (v.kind≠4)))<|s_fork 13 (decide (v.kind≠4)) (fun c3=>?_) (fun c3=>?_)
  .have p4:=dY c3;refine sP (pB g1 0)<|sL (t_load 1 (iw v.kind))<|sL t_cmp<|sP (.bool (decide (v.kind≠8)))<|s_nil ?_
   exact xs_cut () trivial (sub_of rfl (rQ (rQ (rQ (rQ ⟨⟨rfl,cB (by simp[c3])⟩,trivial⟩))))) (rr [0,0,0] [])
  have p5:=Decidable.not_not.1 (dF c3);refine sK<|sK<|sK<|sP (.bool false)<|s_nil ?_
  exact xs_cut () trivial (sub_of rfl (rQ (rQ (rQ (rQ ⟨⟨rfl,cB (by simp[c3])⟩,trivial⟩))))) (rr [0,0,0] [])
 refine k_cond ((decide (v.kind≠4))&&(decide (v.kind≠8))) (fun c6=>?_) (fun c6=>?_)
 .obtain ⟨c7,c8⟩:=and_t c6;have p9:=dY c7;have p10:=dY c8;refine k_sr<|sL (t_kern (.agg zc))<|s_store 0 zc ?_
  refine s_nt<|k_ret<|xs_ret<|xs_fin [.agg zc] (rhA b st::F) (SI.agg 6 71 0 SI.nil) (rr [2] [1,1]) ⟨?_,rfl⟩
  have hm0:=hmeta_no hi0 (v:=v) (.inr om) (.inr om);unfold hdl;rw[hm0];rfl
 have p11:=c6;simp only[Bool.and_eq_true,Bool.or_eq_true,Bool.and_eq_false_iff,Bool.or_eq_false_iff,Bool.not_eq_true',Bool.not_eq_false',decide_eq_true_eq,decide_eq_false_iff_not]at p11;refine k_st<|k_sr<|sP (pB b 0)<|sL (t_loadA 1 (vc v))<|sC [2] (rhmeta_s (st:=st) (by have:=hsm.len;omega) v) ?_
 refine s_alloc (.agg zc) zc (fun g12=>?_);refine s_store 0 (vc (hmeta st v)) ?_;refine s_nt<|k_seq<|k_sr<|sP (pB g12 0)<|sL (t_load 0 (iw ((hmeta st v).kind)))<|sL t_cmp<|s_nt<|k_cond (decide ((hmeta st v).kind≠4)) (fun c13=>?_) (fun c13=>?_)
 .have p14:=dY c13;refine k_sr<|sL (t_kern (.agg zc))<|s_store 2 zc ?_
  refine s_nt<|k_ret<|xs_ret<|xs_fin [.agg zc] (rhA b st::F) (SI.agg 6 71 2 SI.nil) (rr [1] [1,1,1]) ⟨?_,rfl⟩
  have hk4:=dY c13;unfold hdl;rw[hget_kind hk4];split<;>rfl
 have p15:=Decidable.not_not.1 (dF c13);refine k_st<|k_cut (ι:=Nat) (fun _=>True) (fun jb8=>[(6,pB g2 0),(8,pB jb8 0)]) (fun jb8=>blkA jb8 (vc (hgetV st (hmeta st v) (strV ev))) 71::blkA g12 (vc (hmeta st v)) 71::rhA b st::blkA g2 zc 71::blkA g1 (vc v) 71::F) ?_ (fun ix _=>?_)
 .refine k_held [blkA g12 (vc (hmeta st v)) 71,blkA g2 zc 71,blkA g1 (vc v) 71] ?_;refine hp_ 0 [0,1,1] (pB b 0) ?_;refine h_l 1 rfl [0,1,1] (fun _=>(t_loadA 0 (vc (hmeta st v)))) ?_;refine hp_ 2 [0,1,1] (sw ev) ?_;refine h_stepS2 3 8 ?_ ?_
  .refine sV (fun _ h=>rtext_s ev)<|nH [0,1,1]<|h_stepS2 4 8 ?_ ?_
   .refine sC [1] (rhget_s (st:=st) hsm om (hmeta st v) (strV ev)) ?_;refine nH [1,1,1]<|hp_ 5 [1,1,1] (.tuple #[.agg (vc (hgetV st (hmeta st v) (strV ev))),iw (hgetE st (hmeta st v))]) ?_
    refine hp_ 6 [1,1,1] (.agg (vc (hgetV st (hmeta st v) (strV ev)))) ?_;refine hp_ 7 [1,1,1] (iw (hgetE st (hmeta st v))) ?_;refine h_stepS 8 ?_;refine s_alloc (.agg zc) zc (fun g16=>?_);refine nH [2,2,2]<|h_stepS 9 ?_
    refine s_store 0 (vc (hgetV st (hmeta st v) (strV ev))) ?_;refine nH [2,2,2]<|hp_ 10 [2,2,2] (iw (hgetE st (hmeta st v))) ?_
    refine h_doneS ?_;exact xcut g16 (rr [0,1,0,0,0] [])
   refine s_alloc (.agg zc) zc (fun g17=>?_);refine nH [1,2,2]<|h_stepS 4 ?_
   refine sC [2] (rhget_s (st:=st) hsm om (hmeta st v) (strV ev)) ?_;refine nH [2,2,2]<|hp_ 5 [2,2,2] (.tuple #[.agg (vc (hgetV st (hmeta st v) (strV ev))),iw (hgetE st (hmeta st v))]) ?_
   refine hp_ 6 [2,2,2] (.agg (vc (hgetV st (hmeta st v) (strV ev)))) ?_;refine hp_ 7 [2,2,2] (iw (hgetE st (hmeta st v))) ?_;refine h_stepS 9 ?_;refine s_store 1 (vc (hgetV st (hmeta st v) (strV ev))) ?_;refine nH [2,2,2]<|hp_ 10 [2,2,2] (iw (hgetE st (hmeta st v))) ?_
   refine h_doneS ?_;exact xcut g17 (rr [1,1,0,0,0] [])
  refine s_alloc (.agg zc) zc (fun g18=>?_);refine nH [1,2,2]<|h_stepS 3 ?_
  refine sV (fun _ h=>rtext_s ev)<|nH [1,2,2]<|h_stepS 4 ?_
  refine sC [2] (rhget_s (st:=st) hsm om (hmeta st v) (strV ev)) ?_;refine nH [2,2,2]<|hp_ 5 [2,2,2] (.tuple #[.agg (vc (hgetV st (hmeta st v) (strV ev))),iw (hgetE st (hmeta st v))]) ?_
  refine hp_ 6 [2,2,2] (.agg (vc (hgetV st (hmeta st v) (strV ev)))) ?_;refine hp_ 7 [2,2,2] (iw (hgetE st (hmeta st v))) ?_;refine h_stepS 9 ?_;refine s_store 1 (vc (hgetV st (hmeta st v) (strV ev))) ?_;refine nH [2,2,2]<|hp_ 10 [2,2,2] (iw (hgetE st (hmeta st v))) ?_
  refine h_doneS ?_;exact xcut g18 (rr [1,1,0,0,0] [])
 revert ix;intro jb8
 show SK _ _ _ _ _ [(6,pB g2 0),(8,pB jb8 0)] _ (blkA jb8 (vc (hgetV st (hmeta st v) (strV ev))) 71::blkA g12 (vc (hmeta st v)) 71::rhA b st::blkA g2 zc 71::blkA g1 (vc v) 71::F);refine k_sr<|sL (t_loadA 0 (vc (hgetV st (hmeta st v) (strV ev))))<|s_store 3 (vc (hgetV st (hmeta st v) (strV ev))) ?_
 refine s_nt<|k_ret<|xs_fin [.agg (vc (hgetV st (hmeta st v) (strV ev)))] (rhA b st::F) (SI.agg 6 71 3 SI.nil) (rr [2] [1,1,1,1]) ⟨?_,rfl⟩
 have hk4:=Decidable.not_not.1 (dF c13);unfold hdl;rw[if_neg om];rfl
def ofS(L:List Vl)(s:Spc):Vl:=if 0<s.obj∧0<L.length then (L[(Int.tmod s.obj (L.length:Int)).toNat]?).getD zVl else s.v
theorem ofS_in{L:List Vl}{s:Spc}{y:Vl}(h1:0<s.obj)(h2:0<L.length)(hy:L[(Int.tmod s.obj (L.length:Int)).toNat]?=some y):ofS L s=y:=by unfold ofS;rw[if_pos ⟨h1,h2⟩,hy];rfl
theorem ofS_out{L:List Vl}{s:Spc}(h:¬(0<s.obj∧0<L.length)):ofS L s=s.v:=by unfold ofS;rw[if_neg h]
theorem tmod_lt{a:Int}{n:Nat}(ha:0<a)(hn:0<n):0≤Int.tmod a n∧Int.tmod a n<n:=⟨Int.tmod_nonneg _ om,Int.tmod_lt_of_pos _ om⟩
theorem of_s{Z:Zone}{F:List Asr}{hv gv lv:Value}{L:List Vl}(hl:L.length≤100000)(s:Spc):SF Tryz.prog 75 #[.agg #[hv,gv,lv],s.w] Z (own VlT lv L::F) fun r Bs=>r=(ofS L s).v∧Bs=own VlT lv L::F:=by
 refine sf_enter Tryz.func75 26 [(0,.agg #[hv,gv,lv]),(1,.agg #[iw s.v.kind,iw s.v.p,iw s.v.q,sw s.v.str,iw s.v.ref,iw s.obj])] (fun w0=>?_);refine k_sr<|s_box #[hv,gv,lv] (fun g1=>?_)
 refine s_box #[iw s.v.kind,iw s.v.p,iw s.v.q,sw s.v.str,iw s.v.ref,iw s.obj] (fun g2=>?_);refine s_alloc (.agg zc) zc (fun g3=>?_);refine s_nt<|k_seq<|k_cut (ι:=Unit) (fun _=>True) (fun _=>[(2,pB g1 0),(3,pB g2 0),(4,pB g3 0),(13,.bool ((decide ((0:Int)<s.obj))&&(decide ((0:Int)<(L.length:Int)))))]) (fun _=>blkA g3 zc 71::blkA g2 #[iw s.v.kind,iw s.v.p,iw s.v.q,sw s.v.str,iw s.v.ref,iw s.obj] 76::blkA g1 #[hv,gv,lv] 30::own VlT lv L::F) ?_ (fun _ _=>?_)
 .refine k_reg<|sP (pB g2 5)<|sL (t_load 1 (iw s.obj))<|sL t_cmp<|sP (.bool (decide ((0:Int)<s.obj)))<|s_fork 8 (decide ((0:Int)<s.obj)) (fun c4=>?_) (fun c4=>?_)
  .have p5:=dY c4;refine sP (pB g1 2)<|sL (t_load 2 lv)<|sL (t_len VlT_ok Tryz.underlying28 (.own 3))<|sL t_cmp<|sP (.bool (decide ((0:Int)<(L.length:Int))))<|s_nil ?_
   exact xs_cut () trivial (sub_of rfl (rQ (rQ (rQ ⟨⟨rfl,cB (by simp[c4])⟩,trivial⟩)))) (rr [0,0,0,0] [])
  have p6:=dF c4;refine sK<|sK<|sK<|sK<|sP (.bool false)<|s_nil ?_
  exact xs_cut () trivial (sub_of rfl (rQ (rQ (rQ ⟨⟨rfl,cB (by simp[c4])⟩,trivial⟩)))) (rr [0,0,0,0] [])
 refine k_cond ((decide ((0:Int)<s.obj))&&(decide ((0:Int)<(L.length:Int)))) (fun c7=>?_) (fun c7=>?_)
 .obtain ⟨c8,c9⟩:=and_t c7;have p10:=dY c8;have p11:=dY c9;refine k_seq<|k_draw<|sP (pB g1 2)<|sL (t_load 2 lv)<|sP (pB g2 5)<|sL (t_load 1 (iw s.obj))<|sP (pB g1 2)<|sL (t_load 2 lv)<|sF 3 (fun hf12=>?_)
  refine sL (t_len VlT_ok Tryz.underlying28 (.own 3)) ?_;obtain⟨htm1,htm2⟩:=tmod_lt (a:=s.obj) (n:=L.length) om om;refine sL (t_rem s.obj (L.length:Int) om)<|sL (t_index VlT_ok Tryz.underlying28 (.own 3) (Int.tmod s.obj (L.length:Int)) (((Int.tmod s.obj (L.length:Int))).toNat) om ol om) ?_
  obtain⟨y13,hy14⟩:∃y,L[((Int.tmod s.obj (L.length:Int))).toNat]?=some y:=⟨_,List.getElem?_eq_getElem ol⟩;refine sL (t_loadE VlT_ok (.own 3) hy14)<|s_store 0 (vc y13) ?_
  refine s_nil<|x_dynS (fun _ h=>by obtain⟨_,_,e⟩:=hf12;subst e;kernel_rfl) ?_
  refine xs_then<|k_ret<|xs_ret<|xs_fin [.agg (vc y13)] (own VlT lv L::F) (SI.agg 4 71 0 SI.nil) (rr [3] [1,1,1]) ⟨?_,rfl⟩
  rw[ofS_in om om hy14];rfl
 have p15:=c7;simp only[Bool.and_eq_true,Bool.or_eq_true,Bool.and_eq_false_iff,Bool.or_eq_false_iff,Bool.not_eq_true',Bool.not_eq_false',decide_eq_true_eq,decide_eq_false_iff_not]at p15;refine k_st<|k_sr<|sP (pB g2 0)<|sL (t_loadA 1 (vc s.v))<|s_store 0 (vc s.v) ?_
 refine s_nt<|k_ret<|xs_fin [.agg (vc s.v)] (own VlT lv L::F) (SI.agg 4 71 0 SI.nil) (rr [3] [1,1,1]) ⟨?_,rfl⟩
 rw[ofS_out om];rfl
theorem large_pre{A X:List Spc}{P:Spc→Prop}(h:A <+: X)(hP:∀s∈X,P s):∀s∈A,P s:=fun s hs=>hP s (h.subset hs)
theorem large_step{X:List Spc}{i:Nat}{y:Spc}(h:∀s∈X.take i,(s.v.str.size:Int)≤5000)(hy:X[i]?=some y)(h2:(y.v.str.size:Int)≤5000):∀s∈X.take (i+1),(s.v.str.size:Int)≤5000:=fun s hs=>by
 rw[List.take_add_one,hy]at hs;rcases List.mem_append.1 hs with hs|hs
 .exact h s hs
 rw[Option.toList_some,List.mem_singleton]at hs;rw[hs];exact h2
theorem large_s{Z:Zone}{F:List Asr}{lv mv:Value}{l:List Opc}{M:List Spc}(hl0:Kn Z OpT lv l)(hM:M.length≤100000):SF Tryz.prog 8 #[lv,mv] Z (own SpT mv M::F) fun r Bs=>∃x,r=.bool x∧(x=false→∀s∈M,(s.v.str.size:Int)≤5000)∧Bs=F:=by
 refine sf_enter Tryz.func8 49 [(0,lv),(1,mv)] (fun w0=>?_);refine k_fact (fun H h=>(hl0.get h).len_le) (fun lA=>?_);refine k_sr<|sP (.bool false)<|s_nt<|k_seq<|k_sr<|sP (iw 0)<|s_nt<|k_block<|k_loop (ι:=Value×List Spc×Nat) (fun (xv,X,i)=>M <+: X∧i≤100∧X.length≤M.length+3*i) (fun (xv,X,i)=>[(0,lv),(1,xv),(5,iw (i:Int))]) (fun (xv,X,i)=>own SpT xv X::F) (fun (xv,X,i)=>100-i) (mv,M,0) ⟨List.prefix_refl _,by omega,by omega⟩ sA (rr [0] []) ?_
 rintro⟨xv,X,i⟩ hi1;replace hi1:M <+: X∧i≤100∧X.length≤M.length+3*i:=hi1;show SK _ _ _ _ _ [(0,lv),(1,xv),(5,iw (i:Int))] _ (own SpT xv X::F);refine k_seq<|k_cut (ι:=Unit) (fun _=>True) (fun _=>[(0,lv),(1,xv),(5,iw (i:Int)),(14,.bool ((decide ((i:Int)<(l.length:Int)))&&(decide ((i:Int)<100))))]) (fun _=>own SpT xv X::F) ?_ (fun _ _=>?_)
 .refine k_reg<|sP (iw (i:Int))<|sP lv<|sL (t_len OpT_ok Tryz.underlying22 (.zn hl0))<|sL t_cmp<|sP (.bool (decide ((i:Int)<(l.length:Int))))<|s_fork 11 (decide ((i:Int)<(l.length:Int))) (fun c2=>?_) (fun c2=>?_)
  .have p3:=dY c2;refine sP (iw (i:Int))<|sL t_cmp<|sP (.bool (decide ((i:Int)<100)))<|s_nil ?_
   exact xs_cut () trivial (sub_of rfl (rQ (rQ (rQ ⟨⟨rfl,show Value.bool (decide ((i:Int)<100))=Value.bool ((decide ((i:Int)<(l.length:Int)))&&(decide ((i:Int)<100))) by first|(simp only[c2,bls];done)|simp[c2]⟩,trivial⟩)))) (rr [0] [])
  have p4:=dF c2;refine sK<|sK<|sP (.bool false)<|s_nil ?_
  exact xs_cut () trivial (sub_of rfl (rQ (rQ (rQ ⟨⟨rfl,show Value.bool false=Value.bool ((decide ((i:Int)<(l.length:Int)))&&(decide ((i:Int)<100))) by first|(simp only[c2,bls];done)|simp[c2]⟩,trivial⟩)))) (rr [0] [])
 refine k_cond ((decide ((i:Int)<(l.length:Int)))&&(decide ((i:Int)<100))) (fun c5=>?_) (fun c5=>?_)
 .obtain ⟨c6,c7⟩:=and_t c5;have p8:=dY c6;have p9:=dY c7;refine k_st<|k_seq<|k_block<|k_draw<|sP xv<|sP lv<|sP (iw (i:Int))<|sL (t_index OpT_ok Tryz.underlying22 (.zn hl0) (i:Int) i om ol om)<|sP (.pointer (some ((elemAt OpT.size lv i).add 1))) ?_
  obtain⟨y10,hy11⟩:∃y,l[i]?=some y:=⟨_,List.getElem?_eq_getElem ol⟩;refine sL (t_loadG 1 #[iw y10.a.v.kind,iw y10.a.v.p,iw y10.a.v.q,sw y10.a.v.str,iw y10.a.v.ref,iw y10.a.obj] OpT_ok (.zn hl0) hy11)<|sP lv<|sP (iw (i:Int))<|sL (t_index OpT_ok Tryz.underlying22 (.zn hl0) (i:Int) i om ol om)<|sP (.pointer (some ((elemAt OpT.size lv i).add 7)))<|sL (t_loadG 7 #[iw y10.b.v.kind,iw y10.b.v.p,iw y10.b.v.q,sw y10.b.v.str,iw y10.b.v.ref,iw y10.b.obj] OpT_ok (.zn hl0) hy11)<|sP lv<|sP (iw (i:Int))<|sL (t_index OpT_ok Tryz.underlying22 (.zn hl0) (i:Int) i om ol om)<|sP (.pointer (some ((elemAt OpT.size lv i).add 13)))<|sL (t_loadG 13 #[iw y10.c.v.kind,iw y10.c.v.p,iw y10.c.v.q,sw y10.c.v.str,iw y10.c.v.ref,iw y10.c.obj] OpT_ok (.zn hl0) hy11)<|s_buildSlice (e:=76) [(0,.agg #[iw y10.a.v.kind,iw y10.a.v.p,iw y10.a.v.q,sw y10.a.v.str,iw y10.a.v.ref,iw y10.a.obj]),(1,.agg #[iw y10.b.v.kind,iw y10.b.v.p,iw y10.b.v.q,sw y10.b.v.str,iw y10.b.v.ref,iw y10.b.obj]),(2,.agg #[iw y10.c.v.kind,iw y10.c.v.p,iw y10.c.v.q,sw y10.c.v.str,iw y10.c.v.ref,iw y10.c.obj])] #[iw y10.a.v.kind,iw y10.a.v.p,iw y10.a.v.q,sw y10.a.v.str,iw y10.a.v.ref,iw y10.a.obj,iw y10.b.v.kind,iw y10.b.v.p,iw y10.b.v.q,sw y10.b.v.str,iw y10.b.v.ref,iw y10.b.obj,iw y10.c.v.kind,iw y10.c.v.p,iw y10.c.v.q,sw y10.c.v.str,iw y10.c.v.ref,iw y10.c.obj] (fun g12=>?_) (hb:=by kernel_rfl)
  refine s_append (L:=X) 1 SpT_ok Tryz.underlying74 (.lit 0 SpT_ok [y10.a,y10.b,y10.c]) (by show _*56≤_;(try simp only[lnm]);omega) ol (fun v13=>?_);refine sP v13<|s_nil<|x_dynS (fun _ h=>by kernel_rfl) ?_
  refine xs_block<|xs_then<|k_reg<|sP (iw (i:Int))<|sL (t_add (i:Int) 1 ol)<|sP (iw ((i:Int)+1))<|s_nil ?_
  exact xs_round (v13,(X++[y10.a,y10.b,y10.c]),i+1) (by show 100-(i+1)<100-i;omega) (by show _ <+: _∧_;exact⟨hi1.1.trans (List.prefix_append _ _),by show i+1≤100;omega,by simp only[lnm];omega⟩) sA (rr [1] [1])
 have p14:=c5;simp only[Bool.and_eq_true,Bool.or_eq_true,Bool.and_eq_false_iff,Bool.or_eq_false_iff,Bool.not_eq_true',Bool.not_eq_false',decide_eq_true_eq,decide_eq_false_iff_not]at p14;refine k_exit<|xs_exit<|xs_exit<|xs_here<|xs_then<|k_seq<|k_sr<|sP (iw 0)<|s_nt<|k_block<|k_loop (ι:=Nat) (fun j=>j≤X.length∧∀s∈X.take j,(s.v.str.size:Int)≤5000) (fun j=>[(1,xv),(6,iw (j:Int))]) (fun j=>own SpT xv X::F) (fun j=>X.length-j) 0 ⟨by omega,by simp⟩ sA (rr [0] []) ?_
 rintro j hi15;show SK _ _ _ _ _ [(1,xv),(6,iw (j:Int))] _ (own SpT xv X::F);refine k_seq<|k_sr<|sP (iw (j:Int))<|sP xv<|sL (t_len SpT_ok Tryz.underlying74 (.own 0))<|sL t_cmp<|s_nt<|k_cond (decide ((j:Int)<(X.length:Int))) (fun c16=>?_) (fun c16=>?_)
 .have p17:=dY c16;refine k_st<|k_seq<|k_block<|k_sr<|sP xv<|sP (iw (j:Int))<|sL (t_index SpT_ok Tryz.underlying74 (.own 0) (j:Int) j om ol om)<|sP (.pointer (some (elemAt SpT.size xv j)))<|sP (.pointer (some ((elemAt SpT.size xv j).add 3))) ?_
  obtain⟨y18,hy19⟩:∃y,X[j]?=some y:=⟨_,List.getElem?_eq_getElem ol⟩;refine sL (t_loadF 3 SpT_ok (.own 0) hy19)<|sL (t_kern (iw (y18.v.str.size:Int)))<|sL t_cmp<|s_nt<|k_cond (decide ((5000:Int)<(y18.v.str.size:Int))) (fun c20=>?_) (fun c20=>?_)
  .have p21:=dY c20;refine k_sr<|sP (.bool true)<|s_nt<|k_ret<|xs_retBlock<|xs_ret<|xs_ret<|xs_retBlock<|xs_ret ?_
   exact xs_fin [.bool true] F (SI.tmp 4 SI.nil) (rr [] [0]) ⟨true,rfl,(fun h=>by cases h),rfl⟩
  have p22:=dF c20;refine k_skip<|xs_block<|xs_then<|k_reg<|sP (iw (j:Int))<|sL (t_add (j:Int) 1 ol)<|sP (iw ((j:Int)+1))<|s_nil ?_
  exact xs_round (j+1) om ⟨by omega,large_step hi15.2 hy19 om⟩ sA (rr [0] [])
 have p23:=dF c16;refine k_exit<|xs_exit<|xs_exit<|xs_here<|xs_then<|k_sr<|sP (.bool false)<|s_nt<|k_ret<|xs_fin [.bool false] F (SI.tmp 4 SI.nil) (rr [] [0]) ⟨false,rfl,fun _=>?_,rfl⟩
 have hall:=hi15.2;rw[List.take_of_length_le om]at hall;exact large_pre hi1.1 hall
end Go.Proofs.YtmhpcebiamkciaaGreat
end
section
set_option linter.unusedSimpArgs false
set_option linter.unusedVariables false
set_option maxRecDepth 100000
set_option maxHeartbeats 2000000
namespace Go.Proofs.YtmhpcebiamkciaaGreat
open Go.Hp Go.J Go.S
open Go.Mem (Ty KTy blk elemAt pre suf blk_pre blk_suf aget aset strK aggDesc)
open Go.Mem (adel apos aget_aset aget_adel)
def boxB:ByteArray:=⟨#[98,111,120]⟩
def mstep(i:Nat)(o:Opc)(s:Hst×List Vl):Hst×List Vl:=
 if o.kind=0 then (hmake s.1 (newO 4 0 eb []),if hmakeE s.1=0 then s.2++[hmakeV s.1 4] else s.2) else
 if o.kind=1 then (hdata s.1 boxB,if hdataE s.1 boxB=0 then s.2++[hdataV s.1 boxB] else s.2) else
 if o.kind=2 then (hmake s.1 (newO 5 (i:Int) eb []),if hmakeE s.1=0 then s.2++[hmakeV s.1 5] else s.2) else
 if o.kind=3 then (hset s.1 (ofS s.2 o.a) (ofS s.2 o.b) (ofS s.2 o.c),s.2) else
 (hsetMeta s.1 (ofS s.2 o.a) (ofS s.2 o.b),if o.kind≤2∧hsetMetaE s.1 (ofS s.2 o.a) (ofS s.2 o.b)=0 then s.2++[zVl] else s.2)
def mst(l:List Opc):Nat→Hst×List Vl
 | 0=>(hp0,[])
 | i+1=>match l[i]? with
  | some o=>mstep i o (mst l i)
  | none=>mst l i
theorem mst_succ{l:List Opc}{i:Nat}{y:Opc}(h:l[i]?=some y):mst l (i+1)=mstep i y (mst l i):=by rw[mst,h]
theorem mstep_good{i:Nat}{o:Opc}{s:Hst×List Vl}(h1:HInv s.1)(h2:HSm i s.1)(h3:s.2.length≤i):HInv (mstep i o s).1∧HSm (i+1) (mstep i o s).1∧(mstep i o s).2.length≤i+1:=by
 have hl:∀(p:Prop) [Decidable p] (v:Vl),(if p then s.2++[v] else s.2).length≤i+1:=fun p _ v=>by
  by_cases hp:p
  .rw [if_pos hp,List.length_append];exact Nat.add_le_add_right h3 1
  rw[if_neg hp];exact Nat.le_succ_of_le h3
 unfold mstep;split
 .exact ⟨hmake_inv h1 (newO_inv _ _ _ (by decide)),hmake_sm h2 rfl (by simp[newO]),hl _ _⟩
 split
 .unfold hdata;split
  .exact ⟨h1,h2.mono om,hl _ _⟩
  exact⟨hmake_inv h1 (newO_inv _ _ _ (by decide)),hmake_sm h2 rfl (by simp[newO]),hl _ _⟩
 split
 .exact ⟨hmake_inv h1 (newO_inv _ _ _ (by decide)),hmake_sm h2 rfl (by simp[newO]),hl _ _⟩
 split
 .exact ⟨hset_inv h1 _ _ _,hset_sm h1 h2 _ _ _,by show s.2.length≤_;omega⟩
 exact⟨hsetMeta_inv h1 _ _,hsetMeta_sm h2 _ _,hl _ _⟩
theorem mst_good(l:List Opc):∀i,HInv (mst l i).1∧HSm i (mst l i).1∧(mst l i).2.length≤i
 | 0=>⟨HInv.nil,HSm.nil,Nat.le_refl _⟩
 | i+1=>by
  obtain⟨h1,h2,h3⟩:=mst_good l i;rw[mst];split
  .exact mstep_good h1 h2 h3
  exact⟨h1,h2.mono om,by omega⟩
def made(l:List Opc):Hst×List Vl:=mst l (min 100 l.length)
theorem made_good(l:List Opc):HInv (made l).1∧HSm 100 (made l).1∧(made l).2.length≤100:=by
 obtain⟨h1,h2,h3⟩:=mst_good l (min 100 l.length);exact⟨h1,h2.mono om,by unfold made;omega⟩
theorem made_s{Z:Zone}{F:List Asr}{lv:Value}{l:List Opc}(hl0:Kn Z OpT lv l):SF Tryz.prog 34 #[lv] Z F fun r Bs=>∃hb gb lx,r=.tuple #[.agg #[ptrV hb,ptrV gb,lx],.bool true]∧Bs=hpA hb (made l).1::rhA gb (made l).1::own VlT lx (made l).2::F:=by
 refine sf_enter Tryz.func34 152 [(0,lv)] (fun w0=>?_);refine k_fact (fun H h=>(hl0.get h).len_le) (fun lA=>?_);refine k_sr<|s_alloc (.agg #[.pointer none,.pointer none,(.slice none 0 0)]) #[.pointer none,.pointer none,(.slice none 0 0)] (fun g1=>?_)
 refine sP (.bool false)<|s_nr<|s_pcall (fun _ h=>hnew_s) ?_
 rintro _ _ ⟨hb2,rfl,rfl⟩;refine s_pcall (fun _ h=>rhnew_s) ?_;rintro _ _ ⟨hb3,rfl,rfl⟩;refine sL (t_kern (.agg #[pB hb2 0,pB hb3 0,(.slice none 0 0)]))<|s_alloc (.agg #[.pointer none,.pointer none,(.slice none 0 0)]) #[.pointer none,.pointer none,(.slice none 0 0)] (fun g4=>?_)
 refine s_store 0 #[pB hb2 0,pB hb3 0,(.slice none 0 0)] ?_;refine s_nt<|k_seq<|k_sr<|sP (pB g4 0)<|sL (t_load 0 (pB hb2 0))<|sP (.bool false)<|s_nt<|k_false<|k_st<|k_seq<|k_sr<|sP (iw 0)<|s_nt<|k_block<|k_mem (fun _ h=>Holds.nilS (T:=VlT) h) ?_
 refine k_mem (Bs:=own VlT (.slice none 0 0) ((mst l 0).2)::blkA g4 #[pB hb2 0,pB hb3 0,(.slice none 0 0)] 30::rhA hb3 ((mst l 0).1)::hpA hb2 ((mst l 0).1)::blkA g1 #[.pointer none,.pointer none,(.slice none 0 0)] 30::F) (fun _ h=>h) ?_;refine k_loop (ι:=Value×Nat) (fun (lx,i)=>i≤100∧i≤l.length) (fun (lx,i)=>[(0,lv),(2,pB g1 0),(4,pB g4 0),(5,iw (i:Int))]) (fun (lx,i)=>own VlT lx ((mst l i).2)::blkA g4 #[pB hb2 0,pB hb3 0,lx] 30::rhA hb3 ((mst l i).1)::hpA hb2 ((mst l i).1)::blkA g1 #[.pointer none,.pointer none,(.slice none 0 0)] 30::F) (fun (lx,i)=>100-i) ((.slice none 0 0),0) ⟨by omega,by omega⟩ sA (rr [0,0,0,0,0] []) ?_;rintro⟨lx,i⟩ hi5;replace hi5:i≤100∧i≤l.length:=hi5;show SK _ _ _ _ _ [(0,lv),(2,.pointer (some ⟨g1,0,none⟩)),(4,.pointer (some ⟨g4,0,none⟩)),(5,iw (i:Int))] _ (own VlT lx ((mst l i).2)::blkA g4 #[.pointer (some ⟨hb2,0,none⟩),.pointer (some ⟨hb3,0,none⟩),lx] 30::rhA hb3 ((mst l i).1)::hpA hb2 ((mst l i).1)::blkA g1 #[.pointer none,.pointer none,(.slice none 0 0)] 30::F);obtain⟨hinv,hsm,hll⟩:=mst_good l i;refine k_seq<|k_cut (ι:=Unit) (fun _=>True) (fun _=>[(0,lv),(2,pB g1 0),(4,pB g4 0),(5,iw (i:Int)),(27,.bool ((decide ((i:Int)<(l.length:Int)))&&(decide ((i:Int)<100))))]) (fun _=>own VlT lx ((mst l i).2)::blkA g4 #[pB hb2 0,pB hb3 0,lx] 30::rhA hb3 ((mst l i).1)::hpA hb2 ((mst l i).1)::blkA g1 #[.pointer none,.pointer none,(.slice none 0 0)] 30::F) ?_ (fun _ _=>?_)
 .refine k_reg<|sP (iw (i:Int))<|sP lv<|sL (t_len OpT_ok Tryz.underlying22 (.zn hl0))<|sL t_cmp<|sP (.bool (decide ((i:Int)<(l.length:Int))))<|s_fork 24 (decide ((i:Int)<(l.length:Int))) (fun c6=>?_) (fun c6=>?_)
  .have p7:=dY c6;refine sP (iw (i:Int))<|sL t_cmp<|sP (.bool (decide ((i:Int)<100)))<|s_nil ?_
   exact xs_cut () trivial (sub_of rfl (rQ (rQ (rQ (rQ ⟨⟨rfl,show Value.bool (decide ((i:Int)<100))=Value.bool ((decide ((i:Int)<(l.length:Int)))&&(decide ((i:Int)<100))) by first|(simp only[c6,bls];done)|simp[c6]⟩,trivial⟩))))) (rr [0,0,0,0,0] [])
  have p8:=dF c6;refine sK<|sK<|sP (.bool false)<|s_nil ?_
  exact xs_cut () trivial (sub_of rfl (rQ (rQ (rQ (rQ ⟨⟨rfl,show Value.bool false=Value.bool ((decide ((i:Int)<(l.length:Int)))&&(decide ((i:Int)<100))) by first|(simp only[c6,bls];done)|simp[c6]⟩,trivial⟩))))) (rr [0,0,0,0,0] [])
 refine k_cond ((decide ((i:Int)<(l.length:Int)))&&(decide ((i:Int)<100))) (fun c9=>?_) (fun c9=>?_)
 .obtain ⟨c10,c11⟩:=and_t c9;have p12:=dY c10;have p13:=dY c11;refine k_st<|k_seq<|k_block ?_
  obtain⟨y14,hy15⟩:∃y,l[i]?=some y:=⟨_,List.getElem?_eq_getElem ol⟩;refine k_seq<|k_held [own VlT lx ((mst l i).2),blkA g4 #[pB hb2 0,pB hb3 0,lx] 30,blkA g1 #[.pointer none,.pointer none,(.slice none 0 0)] 30] ?_
  refine h_l 0 rfl [0,0,2] (fun _=>(t_loadA 1 #[pB hb2 0,pB hb3 0,lx])) ?_;refine hp_ 1 [0,0,2] lv ?_;refine hp_ 2 [0,0,2] (iw (i:Int)) ?_;refine h_l 3 rfl [0,0,2] (fun _=>(t_index OpT_ok Tryz.underlying22 (.zn hl0) (i:Int) i om ol om)) ?_;refine hp_ 4 [0,0,2] (.pointer (some ((elemAt OpT.size lv i).add 1))) ?_;refine h_l 5 rfl [0,0,2] (fun _=>(t_loadG 1 #[iw y14.a.v.kind,iw y14.a.v.p,iw y14.a.v.q,sw y14.a.v.str,iw y14.a.v.ref,iw y14.a.obj] OpT_ok (.zn hl0) hy15)) ?_;refine h_l 7 rfl [0,0,2] (fun _=>(t_loadA 1 #[pB hb2 0,pB hb3 0,lx])) ?_;refine hp_ 8 [0,0,2] lv ?_;refine hp_ 9 [0,0,2] (iw (i:Int)) ?_;refine h_l 10 rfl [0,0,2] (fun _=>(t_index OpT_ok Tryz.underlying22 (.zn hl0) (i:Int) i om ol om)) ?_;refine hp_ 11 [0,0,2] (.pointer (some ((elemAt OpT.size lv i).add 7))) ?_;refine h_l 12 rfl [0,0,2] (fun _=>(t_loadG 7 #[iw y14.b.v.kind,iw y14.b.v.p,iw y14.b.v.q,sw y14.b.v.str,iw y14.b.v.ref,iw y14.b.obj] OpT_ok (.zn hl0) hy15)) ?_;refine h_l 14 rfl [0,0,2] (fun _=>(t_loadA 1 #[pB hb2 0,pB hb3 0,lx])) ?_;refine hp_ 15 [0,0,2] lv ?_;refine hp_ 16 [0,0,2] (iw (i:Int)) ?_;refine h_l 17 rfl [0,0,2] (fun _=>(t_index OpT_ok Tryz.underlying22 (.zn hl0) (i:Int) i om ol om)) ?_;refine hp_ 18 [0,0,2] (.pointer (some ((elemAt OpT.size lv i).add 13))) ?_;refine h_l 19 rfl [0,0,2] (fun _=>(t_loadG 13 #[iw y14.c.v.kind,iw y14.c.v.p,iw y14.c.v.q,sw y14.c.v.str,iw y14.c.v.ref,iw y14.c.obj] OpT_ok (.zn hl0) hy15)) ?_;refine h_join (ι:=Nat×Nat×Nat) 3 #[true,true,true,true,true,true,true,true,true,true,true,true,true,true,true,true,true,true,true,true,true,true,true,true,false,false,false] (fun (g16,g17,g18)=>[(0,lv),(2,pB g1 0),(4,pB g4 0),(5,iw (i:Int)),(6,pB g16 0),(7,pB g17 0),(8,pB g18 0),(36,.agg (vc (ofS ((mst l i).2) y14.a))),(43,.agg (vc (ofS ((mst l i).2) y14.b))),(50,.agg (vc (ofS ((mst l i).2) y14.c)))]) (fun (g16,g17,g18)=>blkA g18 zc 71::blkA g17 zc 71::blkA g16 zc 71::own VlT lx ((mst l i).2)::blkA g4 #[pB hb2 0,pB hb3 0,lx] 30::rhA hb3 ((mst l i).1)::hpA hb2 ((mst l i).1)::blkA g1 #[.pointer none,.pointer none,(.slice none 0 0)] 30::F) ?_ (fun hj64=>?_)
  .rintro ⟨g16,g17,g18⟩;try dsimp only
   refine h_stepS 24 ?_;refine s_store 2 (vc (ofS ((mst l i).2) y14.a)) ?_;refine nH [3,3,5]<|h_stepS 25 ?_
   refine s_store 1 (vc (ofS ((mst l i).2) y14.b)) ?_;refine nH [3,3,5]<|h_stepS 26 ?_
   refine s_store 0 (vc (ofS ((mst l i).2) y14.c)) ?_;refine nH [3,3,5]<|h_doneS ?_
   refine xs_then<|k_sr<|sL (t_kern (.agg zc))<|sL (t_kern (.agg zc))<|s_alloc (.agg zc) zc (fun g65=>?_)
   refine s_alloc (.agg zc) zc (fun g66=>?_);refine s_store 1 zc ?_;refine s_store 0 zc ?_;refine s_nr<|sP2 (iw 0)<|s_nt<|k_seq<|k_sr<|sP lv<|sP (iw (i:Int))<|sL (t_index OpT_ok Tryz.underlying22 (.zn hl0) (i:Int) i om ol om)<|sP (.pointer (some (elemAt OpT.size lv i)))<|sL (t_loadF 0 OpT_ok (.zn hl0) hy15)<|s_nt<|k_block<|k_sr<|sL t_cmp<|sP (.bool (decide (y14.kind=0)))<|s_nt<|k_cond (decide (y14.kind=0)) (fun c67=>?_) (fun c67=>?_)
   .have p68:=dY c67;refine k_sr<|sP (pB g4 0)<|sL (t_load 6 (pB hb2 0))<|sC [8] (hnewtable_s (st:=(mst l i).1) (by have:=hsm.len;omega)) ?_
    refine sP (.tuple #[.agg (vc (hmakeV ((mst l i).1) 4)),iw (hmakeE ((mst l i).1))])<|sP (.agg (vc (hmakeV ((mst l i).1) 4)))<|sP (iw (hmakeE ((mst l i).1)))<|s_store 2 (vc (hmakeV ((mst l i).1) 4)) ?_
    refine sP (iw (hmakeE ((mst l i).1)))<|s_nt<|k_reg<|sP (pB g4 1)<|sL (t_load 7 (pB hb3 0))<|sC [8] (rhnewtable_s (st:=(mst l i).1) (by have:=hsm.len;omega)) ?_
    refine sP (.tuple #[.agg (vc (hmakeV ((mst l i).1) 4)),iw (hmakeE ((mst l i).1))])<|sP (.agg (vc (hmakeV ((mst l i).1) 4)))<|sP (iw (hmakeE ((mst l i).1)))<|s_store 2 (vc (hmakeV ((mst l i).1) 4)) ?_
    refine sP (iw (hmakeE ((mst l i).1)))<|s_nil<|xs_block<|xs_then<|k_seq<|k_sr<|sL (t_loadA 3 (vc (hmakeV ((mst l i).1) 4)))<|sL (t_loadA 2 (vc (hmakeV ((mst l i).1) 4)))<|sL (Lt.to (t_eqS (fun w=>(eqVlT (hmakeV ((mst l i).1) 4) (hmakeV ((mst l i).1) 4) w).2)) (cB ((congrArg Bool.not (decide_eq_true rfl:(decide ((hmakeV ((mst l i).1) 4)=(hmakeV ((mst l i).1) 4)))=true)).trans rfl:(!(decide ((hmakeV ((mst l i).1) 4)=(hmakeV ((mst l i).1) 4))))=false)))<|sP (.bool false)<|sP2 (iw (hmakeE ((mst l i).1)))<|sL (Lt.to t_cmp (cB (decide_eq_false (fun h=>h rfl):(decide ((hmakeE ((mst l i).1))≠(hmakeE ((mst l i).1))))=false)))<|sP (.bool false)<|s_nt<|k_false<|k_st<|k_sr<|sP lv<|sP (iw (i:Int))<|sL (t_index OpT_ok Tryz.underlying22 (.zn hl0) (i:Int) i om ol om)<|sP (.pointer (some (elemAt OpT.size lv i)))<|sL (t_loadF 0 OpT_ok (.zn hl0) hy15)<|sL (Lt.to t_cmp (cB (decide_eq_true (by have:=dY c67;omega):(decide (y14.kind≤2))=true)))<|sP (.bool true)<|sP (iw (hmakeE ((mst l i).1)))<|sL t_cmp<|sP (.bool (decide ((hmakeE ((mst l i).1))=0)))<|s_nt<|k_cond (decide ((hmakeE ((mst l i).1))=0)) (fun c69=>?_) (fun c69=>?_)
    .have p70:=dY c69;refine k_reg<|sP (pB g4 2)<|sL (t_load 8 lx)<|sL (t_loadA 3 (vc (hmakeV ((mst l i).1) 4)))<|s_buildSlice (e:=71) [(0,.agg (vc (hmakeV ((mst l i).1) 4)))] (vc (hmakeV ((mst l i).1) 4)) (fun g71=>?_) (hb:=by kernel_rfl)
     refine s_append (L:=(mst l i).2) 8 VlT_ok Tryz.underlying28 (.lit 0 VlT_ok [(hmakeV ((mst l i).1) 4)]) (by show _*48≤_;(try simp only[lnm]);omega) ol (fun v72=>?_);refine sP (pB g4 2)<|sF 8 (fun hf73=>?_)
     refine s_store (u:=v72) (m:=1) 9 #[pB hb2 0,pB hb3 0,v72] ?_ (hm:=by (obtain⟨_,_,e⟩:=hf73;rw[e];rfl)) (h1:=by (obtain⟨_,_,e⟩:=hf73;rw[e];rfl)) (ha':=by (obtain⟨_,_,e⟩:=hf73;rw[e];rfl));refine s_nil<|xs_block<|xs_then<|k_reg<|sP (iw (i:Int))<|sL (t_add (i:Int) 1 ol)<|sP (iw ((i:Int)+1))<|s_nil ?_
     have hms:=mst_succ hy15;have h1:(hmake ((mst l i).1) (newO 4 0 eb []))=(mst l (i+1)).1:=by rw[hms];unfold mstep;simp[dY c67,boxB]
     have h2:((mst l i).2++[(hmakeV ((mst l i).1) 4)])=(mst l (i+1)).2:=by rw[hms];unfold mstep;simp_all[boxB]
     refine xs_mem (Bs:=blkA g71 (vc (hmakeV ((mst l i).1) 4)) 71::rhA hb3 ((mst l (i+1)).1)::hpA hb2 ((mst l (i+1)).1)::blkA g66 (vc (hmakeV ((mst l i).1) 4)) 71::blkA g65 (vc (hmakeV ((mst l i).1) 4)) 71::blkA g18 (vc (ofS ((mst l i).2) y14.c)) 71::blkA g17 (vc (ofS ((mst l i).2) y14.b)) 71::blkA g16 (vc (ofS ((mst l i).2) y14.a)) 71::own VlT v72 ((mst l (i+1)).2)::blkA g4 #[pB hb2 0,pB hb3 0,v72] 30::blkA g1 #[.pointer none,.pointer none,(.slice none 0 0)] 30::F) (fun _ h=>by rw[←h1,←h2];exact h) ?_;exact xs_round (v72,i+1) (by show 100-(i+1)<100-i;omega) (by show i+1≤100∧i+1≤l.length;omega) sA (rr [8,8,1,1,6] [5,5,5,5,5,5])
    have p74:=dF c69;refine k_skip<|xs_block<|xs_then<|k_reg<|sP (iw (i:Int))<|sL (t_add (i:Int) 1 ol)<|sP (iw ((i:Int)+1))<|s_nil ?_
    have hms:=mst_succ hy15;have h1:(hmake ((mst l i).1) (newO 4 0 eb []))=(mst l (i+1)).1:=by rw[hms];unfold mstep;simp[dY c67,boxB]
    have h2:(mst l i).2=(mst l (i+1)).2:=by rw[hms];unfold mstep;simp_all[boxB]
    refine xs_mem (Bs:=rhA hb3 ((mst l (i+1)).1)::hpA hb2 ((mst l (i+1)).1)::blkA g66 (vc (hmakeV ((mst l i).1) 4)) 71::blkA g65 (vc (hmakeV ((mst l i).1) 4)) 71::blkA g18 (vc (ofS ((mst l i).2) y14.c)) 71::blkA g17 (vc (ofS ((mst l i).2) y14.b)) 71::blkA g16 (vc (ofS ((mst l i).2) y14.a)) 71::own VlT lx ((mst l (i+1)).2)::blkA g4 #[pB hb2 0,pB hb3 0,lx] 30::blkA g1 #[.pointer none,.pointer none,(.slice none 0 0)] 30::F) (fun _ h=>by rw[←h1,←h2];exact h) ?_;exact xs_round (lx,i+1) (by show 100-(i+1)<100-i;omega) (by show i+1≤100∧i+1≤l.length;omega) sA (rr [7,7,0,0,5] [5,5,5,5,5])
   have p75:=dF c67;refine k_sr<|sL t_cmp<|sP (.bool (decide (y14.kind=1)))<|s_nt<|k_cond (decide (y14.kind=1)) (fun c76=>?_) (fun c76=>?_)
   .have p77:=dY c76;refine k_sr<|sP (pB g4 0)<|sL (t_load 6 (pB hb2 0))<|sC [8] (hnewdata_s (st:=(mst l i).1) (by have:=hsm.len;omega) ⟨#[98,111,120]⟩) ?_
    refine sP (.tuple #[.agg (vc (hdataV ((mst l i).1) ⟨#[98,111,120]⟩)),iw (hdataE ((mst l i).1) ⟨#[98,111,120]⟩)])<|sP (.agg (vc (hdataV ((mst l i).1) ⟨#[98,111,120]⟩)))<|sP (iw (hdataE ((mst l i).1) ⟨#[98,111,120]⟩))<|s_store 2 (vc (hdataV ((mst l i).1) ⟨#[98,111,120]⟩)) ?_
    refine sP (iw (hdataE ((mst l i).1) ⟨#[98,111,120]⟩))<|s_nt<|k_reg<|sP (pB g4 1)<|sL (t_load 7 (pB hb3 0))<|sC [8] (rhnewdata_s (st:=(mst l i).1) (by have:=hsm.len;omega) ⟨#[98,111,120]⟩) ?_
    refine sP (.tuple #[.agg (vc (hdataV ((mst l i).1) ⟨#[98,111,120]⟩)),iw (hdataE ((mst l i).1) ⟨#[98,111,120]⟩)])<|sP (.agg (vc (hdataV ((mst l i).1) ⟨#[98,111,120]⟩)))<|sP (iw (hdataE ((mst l i).1) ⟨#[98,111,120]⟩))<|s_store 2 (vc (hdataV ((mst l i).1) ⟨#[98,111,120]⟩)) ?_
    refine sP (iw (hdataE ((mst l i).1) ⟨#[98,111,120]⟩))<|s_nil<|xs_block<|xs_then<|k_seq<|k_sr<|sL (t_loadA 3 (vc (hdataV ((mst l i).1) ⟨#[98,111,120]⟩)))<|sL (t_loadA 2 (vc (hdataV ((mst l i).1) ⟨#[98,111,120]⟩)))<|sL (Lt.to (t_eqS (fun w=>(eqVlT (hdataV ((mst l i).1) ⟨#[98,111,120]⟩) (hdataV ((mst l i).1) ⟨#[98,111,120]⟩) w).2)) (cB ((congrArg Bool.not (decide_eq_true rfl:(decide ((hdataV ((mst l i).1) ⟨#[98,111,120]⟩)=(hdataV ((mst l i).1) ⟨#[98,111,120]⟩)))=true)).trans rfl:(!(decide ((hdataV ((mst l i).1) ⟨#[98,111,120]⟩)=(hdataV ((mst l i).1) ⟨#[98,111,120]⟩))))=false)))<|sP (.bool false)<|sP2 (iw (hdataE ((mst l i).1) ⟨#[98,111,120]⟩))<|sL (Lt.to t_cmp (cB (decide_eq_false (fun h=>h rfl):(decide ((hdataE ((mst l i).1) ⟨#[98,111,120]⟩)≠(hdataE ((mst l i).1) ⟨#[98,111,120]⟩)))=false)))<|sP (.bool false)<|s_nt<|k_false<|k_st<|k_sr<|sP lv<|sP (iw (i:Int))<|sL (t_index OpT_ok Tryz.underlying22 (.zn hl0) (i:Int) i om ol om)<|sP (.pointer (some (elemAt OpT.size lv i)))<|sL (t_loadF 0 OpT_ok (.zn hl0) hy15)<|sL (Lt.to t_cmp (cB (decide_eq_true (by have:=dY c76;omega):(decide (y14.kind≤2))=true)))<|sP (.bool true)<|sP (iw (hdataE ((mst l i).1) ⟨#[98,111,120]⟩))<|sL t_cmp<|sP (.bool (decide ((hdataE ((mst l i).1) ⟨#[98,111,120]⟩)=0)))<|s_nt<|k_cond (decide ((hdataE ((mst l i).1) ⟨#[98,111,120]⟩)=0)) (fun c78=>?_) (fun c78=>?_)
    .have p79:=dY c78;refine k_reg<|sP (pB g4 2)<|sL (t_load 8 lx)<|sL (t_loadA 3 (vc (hdataV ((mst l i).1) ⟨#[98,111,120]⟩)))<|s_buildSlice (e:=71) [(0,.agg (vc (hdataV ((mst l i).1) ⟨#[98,111,120]⟩)))] (vc (hdataV ((mst l i).1) ⟨#[98,111,120]⟩)) (fun g80=>?_) (hb:=by kernel_rfl)
     refine s_append (L:=(mst l i).2) 8 VlT_ok Tryz.underlying28 (.lit 0 VlT_ok [(hdataV ((mst l i).1) ⟨#[98,111,120]⟩)]) (by show _*48≤_;(try simp only[lnm]);omega) ol (fun v81=>?_);refine sP (pB g4 2)<|sF 8 (fun hf82=>?_)
     refine s_store (u:=v81) (m:=1) 9 #[pB hb2 0,pB hb3 0,v81] ?_ (hm:=by (obtain⟨_,_,e⟩:=hf82;rw[e];rfl)) (h1:=by (obtain⟨_,_,e⟩:=hf82;rw[e];rfl)) (ha':=by (obtain⟨_,_,e⟩:=hf82;rw[e];rfl));refine s_nil<|xs_block<|xs_then<|k_reg<|sP (iw (i:Int))<|sL (t_add (i:Int) 1 ol)<|sP (iw ((i:Int)+1))<|s_nil ?_
     have hms:=mst_succ hy15;have h1:(hdata ((mst l i).1) ⟨#[98,111,120]⟩)=(mst l (i+1)).1:=by rw[hms];unfold mstep;simp[dF c67,dY c76,boxB]
     have h2:((mst l i).2++[(hdataV ((mst l i).1) ⟨#[98,111,120]⟩)])=(mst l (i+1)).2:=by rw[hms];unfold mstep;simp_all[boxB]
     refine xs_mem (Bs:=blkA g80 (vc (hdataV ((mst l i).1) ⟨#[98,111,120]⟩)) 71::rhA hb3 ((mst l (i+1)).1)::hpA hb2 ((mst l (i+1)).1)::blkA g66 (vc (hdataV ((mst l i).1) ⟨#[98,111,120]⟩)) 71::blkA g65 (vc (hdataV ((mst l i).1) ⟨#[98,111,120]⟩)) 71::blkA g18 (vc (ofS ((mst l i).2) y14.c)) 71::blkA g17 (vc (ofS ((mst l i).2) y14.b)) 71::blkA g16 (vc (ofS ((mst l i).2) y14.a)) 71::own VlT v81 ((mst l (i+1)).2)::blkA g4 #[pB hb2 0,pB hb3 0,v81] 30::blkA g1 #[.pointer none,.pointer none,(.slice none 0 0)] 30::F) (fun _ h=>by rw[←h1,←h2];exact h) ?_;exact xs_round (v81,i+1) (by show 100-(i+1)<100-i;omega) (by show i+1≤100∧i+1≤l.length;omega) sA (rr [8,8,1,1,6] [5,5,5,5,5,5])
    have p83:=dF c78;refine k_skip<|xs_block<|xs_then<|k_reg<|sP (iw (i:Int))<|sL (t_add (i:Int) 1 ol)<|sP (iw ((i:Int)+1))<|s_nil ?_
    have hms:=mst_succ hy15;have h1:(hdata ((mst l i).1) ⟨#[98,111,120]⟩)=(mst l (i+1)).1:=by rw[hms];unfold mstep;simp[dF c67,dY c76,boxB]
    have h2:(mst l i).2=(mst l (i+1)).2:=by rw[hms];unfold mstep;simp_all[boxB]
    refine xs_mem (Bs:=rhA hb3 ((mst l (i+1)).1)::hpA hb2 ((mst l (i+1)).1)::blkA g66 (vc (hdataV ((mst l i).1) ⟨#[98,111,120]⟩)) 71::blkA g65 (vc (hdataV ((mst l i).1) ⟨#[98,111,120]⟩)) 71::blkA g18 (vc (ofS ((mst l i).2) y14.c)) 71::blkA g17 (vc (ofS ((mst l i).2) y14.b)) 71::blkA g16 (vc (ofS ((mst l i).2) y14.a)) 71::own VlT lx ((mst l (i+1)).2)::blkA g4 #[pB hb2 0,pB hb3 0,lx] 30::blkA g1 #[.pointer none,.pointer none,(.slice none 0 0)] 30::F) (fun _ h=>by rw[←h1,←h2];exact h) ?_;exact xs_round (lx,i+1) (by show 100-(i+1)<100-i;omega) (by show i+1≤100∧i+1≤l.length;omega) sA (rr [7,7,0,0,5] [5,5,5,5,5])
   have p84:=dF c76;refine k_sr<|sL t_cmp<|sP (.bool (decide (y14.kind=2)))<|s_nt<|k_cond (decide (y14.kind=2)) (fun c85=>?_) (fun c85=>?_)
   .have p86:=dY c85;refine k_sr<|sP (pB g4 0)<|sL (t_load 6 (pB hb2 0))<|sP (iw (i:Int))<|sC [8] (hnewfunc_s (st:=(mst l i).1) (by have:=hsm.len;omega) (i:Int)) ?_
    refine sP (.tuple #[.agg (vc (hmakeV ((mst l i).1) 5)),iw (hmakeE ((mst l i).1))])<|sP (.agg (vc (hmakeV ((mst l i).1) 5)))<|sP (iw (hmakeE ((mst l i).1)))<|s_store 2 (vc (hmakeV ((mst l i).1) 5)) ?_
    refine sP (iw (hmakeE ((mst l i).1)))<|s_nt<|k_reg<|sP (pB g4 1)<|sL (t_load 7 (pB hb3 0))<|sP (iw (i:Int))<|sC [8] (rhnewfunc_s (st:=(mst l i).1) (by have:=hsm.len;omega) (i:Int)) ?_
    refine sP (.tuple #[.agg (vc (hmakeV ((mst l i).1) 5)),iw (hmakeE ((mst l i).1))])<|sP (.agg (vc (hmakeV ((mst l i).1) 5)))<|sP (iw (hmakeE ((mst l i).1)))<|s_store 2 (vc (hmakeV ((mst l i).1) 5)) ?_
    refine sP (iw (hmakeE ((mst l i).1)))<|s_nil<|xs_block<|xs_then<|k_seq<|k_sr<|sL (t_loadA 3 (vc (hmakeV ((mst l i).1) 5)))<|sL (t_loadA 2 (vc (hmakeV ((mst l i).1) 5)))<|sL (Lt.to (t_eqS (fun w=>(eqVlT (hmakeV ((mst l i).1) 5) (hmakeV ((mst l i).1) 5) w).2)) (cB ((congrArg Bool.not (decide_eq_true rfl:(decide ((hmakeV ((mst l i).1) 5)=(hmakeV ((mst l i).1) 5)))=true)).trans rfl:(!(decide ((hmakeV ((mst l i).1) 5)=(hmakeV ((mst l i).1) 5))))=false)))<|sP (.bool false)<|sP2 (iw (hmakeE ((mst l i).1)))<|sL (Lt.to t_cmp (cB (decide_eq_false (fun h=>h rfl):(decide ((hmakeE ((mst l i).1))≠(hmakeE ((mst l i).1))))=false)))<|sP (.bool false)<|s_nt<|k_false<|k_st<|k_sr<|sP lv<|sP (iw (i:Int))<|sL (t_index OpT_ok Tryz.underlying22 (.zn hl0) (i:Int) i om ol om)<|sP (.pointer (some (elemAt OpT.size lv i)))<|sL (t_loadF 0 OpT_ok (.zn hl0) hy15)<|sL (Lt.to t_cmp (cB (decide_eq_true (by have:=dY c85;omega):(decide (y14.kind≤2))=true)))<|sP (.bool true)<|sP (iw (hmakeE ((mst l i).1)))<|sL t_cmp<|sP (.bool (decide ((hmakeE ((mst l i).1))=0)))<|s_nt<|k_cond (decide ((hmakeE ((mst l i).1))=0)) (fun c87=>?_) (fun c87=>?_)
    .have p88:=dY c87;refine k_reg<|sP (pB g4 2)<|sL (t_load 8 lx)<|sL (t_loadA 3 (vc (hmakeV ((mst l i).1) 5)))<|s_buildSlice (e:=71) [(0,.agg (vc (hmakeV ((mst l i).1) 5)))] (vc (hmakeV ((mst l i).1) 5)) (fun g89=>?_) (hb:=by kernel_rfl)
     refine s_append (L:=(mst l i).2) 8 VlT_ok Tryz.underlying28 (.lit 0 VlT_ok [(hmakeV ((mst l i).1) 5)]) (by show _*48≤_;(try simp only[lnm]);omega) ol (fun v90=>?_);refine sP (pB g4 2)<|sF 8 (fun hf91=>?_)
     refine s_store (u:=v90) (m:=1) 9 #[pB hb2 0,pB hb3 0,v90] ?_ (hm:=by (obtain⟨_,_,e⟩:=hf91;rw[e];rfl)) (h1:=by (obtain⟨_,_,e⟩:=hf91;rw[e];rfl)) (ha':=by (obtain⟨_,_,e⟩:=hf91;rw[e];rfl));refine s_nil<|xs_block<|xs_then<|k_reg<|sP (iw (i:Int))<|sL (t_add (i:Int) 1 ol)<|sP (iw ((i:Int)+1))<|s_nil ?_
     have hms:=mst_succ hy15;have h1:(hmake ((mst l i).1) (newO 5 (i:Int) eb []))=(mst l (i+1)).1:=by rw[hms];unfold mstep;simp[dF c67,dF c76,dY c85,boxB]
     have h2:((mst l i).2++[(hmakeV ((mst l i).1) 5)])=(mst l (i+1)).2:=by rw[hms];unfold mstep;simp_all[boxB]
     refine xs_mem (Bs:=blkA g89 (vc (hmakeV ((mst l i).1) 5)) 71::rhA hb3 ((mst l (i+1)).1)::hpA hb2 ((mst l (i+1)).1)::blkA g66 (vc (hmakeV ((mst l i).1) 5)) 71::blkA g65 (vc (hmakeV ((mst l i).1) 5)) 71::blkA g18 (vc (ofS ((mst l i).2) y14.c)) 71::blkA g17 (vc (ofS ((mst l i).2) y14.b)) 71::blkA g16 (vc (ofS ((mst l i).2) y14.a)) 71::own VlT v90 ((mst l (i+1)).2)::blkA g4 #[pB hb2 0,pB hb3 0,v90] 30::blkA g1 #[.pointer none,.pointer none,(.slice none 0 0)] 30::F) (fun _ h=>by rw[←h1,←h2];exact h) ?_;exact xs_round (v90,i+1) (by show 100-(i+1)<100-i;omega) (by show i+1≤100∧i+1≤l.length;omega) sA (rr [8,8,1,1,6] [5,5,5,5,5,5])
    have p92:=dF c87;refine k_skip<|xs_block<|xs_then<|k_reg<|sP (iw (i:Int))<|sL (t_add (i:Int) 1 ol)<|sP (iw ((i:Int)+1))<|s_nil ?_
    have hms:=mst_succ hy15;have h1:(hmake ((mst l i).1) (newO 5 (i:Int) eb []))=(mst l (i+1)).1:=by rw[hms];unfold mstep;simp[dF c67,dF c76,dY c85,boxB]
    have h2:(mst l i).2=(mst l (i+1)).2:=by rw[hms];unfold mstep;simp_all[boxB]
    refine xs_mem (Bs:=rhA hb3 ((mst l (i+1)).1)::hpA hb2 ((mst l (i+1)).1)::blkA g66 (vc (hmakeV ((mst l i).1) 5)) 71::blkA g65 (vc (hmakeV ((mst l i).1) 5)) 71::blkA g18 (vc (ofS ((mst l i).2) y14.c)) 71::blkA g17 (vc (ofS ((mst l i).2) y14.b)) 71::blkA g16 (vc (ofS ((mst l i).2) y14.a)) 71::own VlT lx ((mst l (i+1)).2)::blkA g4 #[pB hb2 0,pB hb3 0,lx] 30::blkA g1 #[.pointer none,.pointer none,(.slice none 0 0)] 30::F) (fun _ h=>by rw[←h1,←h2];exact h) ?_;exact xs_round (lx,i+1) (by show 100-(i+1)<100-i;omega) (by show i+1≤100∧i+1≤l.length;omega) sA (rr [7,7,0,0,5] [5,5,5,5,5])
   have p93:=dF c85;refine k_sr<|sL t_cmp<|sP (.bool (decide (y14.kind=3)))<|s_nt<|k_cond (decide (y14.kind=3)) (fun c94=>?_) (fun c94=>?_)
   .have p95:=dY c94;refine k_held [blkA g66 zc 71,blkA g65 zc 71,blkA g18 (vc (ofS ((mst l i).2) y14.c)) 71,blkA g17 (vc (ofS ((mst l i).2) y14.b)) 71,blkA g16 (vc (ofS ((mst l i).2) y14.a)) 71,own VlT lx ((mst l i).2),blkA g4 #[pB hb2 0,pB hb3 0,lx] 30,blkA g1 #[.pointer none,.pointer none,(.slice none 0 0)] 30] ?_;refine hp_ 0 [0,0,0,0,0,0,0,2] (pB g4 0) ?_;refine h_l 1 rfl [0,0,0,0,0,0,0,2] (fun _=>(t_load 6 (pB hb2 0))) ?_;refine h_l 2 rfl [0,0,0,0,0,0,0,2] (fun _=>(t_loadA 4 (vc (ofS ((mst l i).2) y14.a)))) ?_;refine h_l 3 rfl [0,0,0,0,0,0,0,2] (fun _=>(t_loadA 3 (vc (ofS ((mst l i).2) y14.b)))) ?_;refine h_l 4 rfl [0,0,0,0,0,0,0,2] (fun _=>(t_loadA 2 (vc (ofS ((mst l i).2) y14.c)))) ?_;refine hp_ 6 [0,0,0,0,0,0,0,2] (pB g4 1) ?_;refine h_l 7 rfl [0,0,0,0,0,0,0,2] (fun _=>(t_load 6 (pB hb3 0))) ?_;refine h_l 8 rfl [0,0,0,0,0,0,0,2] (fun _=>(t_loadA 4 (vc (ofS ((mst l i).2) y14.a)))) ?_;refine h_l 9 rfl [0,0,0,0,0,0,0,2] (fun _=>(t_loadA 3 (vc (ofS ((mst l i).2) y14.b)))) ?_;refine h_l 10 rfl [0,0,0,0,0,0,0,2] (fun _=>(t_loadA 2 (vc (ofS ((mst l i).2) y14.c)))) ?_;refine h_stepS 5 ?_;refine sC [8] (hset_s (st:=(mst l i).1) hsm om (ofS ((mst l i).2) y14.a) (ofS ((mst l i).2) y14.b) (ofS ((mst l i).2) y14.c)) ?_;refine nH [1,1,1,1,1,1,1,2]<|h_stepS 11 ?_
    refine sC [8] (rhset_s (st:=(mst l i).1) hsm om (ofS ((mst l i).2) y14.a) (ofS ((mst l i).2) y14.b) (ofS ((mst l i).2) y14.c)) ?_;refine nH [2,2,2,2,2,2,2,2]<|hp_ 12 [2,2,2,2,2,2,2,2] (iw (hsetE ((mst l i).1) (ofS ((mst l i).2) y14.a) (ofS ((mst l i).2) y14.b) (ofS ((mst l i).2) y14.c))) ?_
    refine hp_ 13 [2,2,2,2,2,2,2,2] (iw (hsetE ((mst l i).1) (ofS ((mst l i).2) y14.a) (ofS ((mst l i).2) y14.b) (ofS ((mst l i).2) y14.c))) ?_;refine h_doneS ?_;refine xs_block<|xs_then<|k_seq<|k_sr<|sL (t_loadA 3 zc)<|sL (t_loadA 2 zc)<|sL (Lt.to (t_eqS (fun w=>(eqVlT zVl zVl w).2)) (cB ((congrArg Bool.not (decide_eq_true rfl:(decide (zVl=zVl))=true)).trans rfl:(!(decide (zVl=zVl)))=false)))<|sP (.bool false)<|sP (iw (hsetE ((mst l i).1) (ofS ((mst l i).2) y14.a) (ofS ((mst l i).2) y14.b) (ofS ((mst l i).2) y14.c)))<|sP (iw (hsetE ((mst l i).1) (ofS ((mst l i).2) y14.a) (ofS ((mst l i).2) y14.b) (ofS ((mst l i).2) y14.c)))<|sL (Lt.to t_cmp (cB (decide_eq_false (fun h=>h rfl):(decide ((hsetE ((mst l i).1) (ofS ((mst l i).2) y14.a) (ofS ((mst l i).2) y14.b) (ofS ((mst l i).2) y14.c))≠(hsetE ((mst l i).1) (ofS ((mst l i).2) y14.a) (ofS ((mst l i).2) y14.b) (ofS ((mst l i).2) y14.c))))=false)))<|sP (.bool false)<|s_nt<|k_false<|k_st<|k_sr<|sP lv<|sP (iw (i:Int))<|sL (t_index OpT_ok Tryz.underlying22 (.zn hl0) (i:Int) i om ol om)<|sP (.pointer (some (elemAt OpT.size lv i)))<|sL (t_loadF 0 OpT_ok (.zn hl0) hy15)<|sL (Lt.to t_cmp (cB (decide_eq_false (by have:=dY c94;omega):(decide (y14.kind≤2))=false)))<|sP (.bool false)<|sK<|sK<|sP (.bool false)<|s_nt<|k_false<|k_skip<|xs_block<|xs_then ?_
    refine k_reg<|sP (iw (i:Int))<|sL (t_add (i:Int) 1 ol)<|sP (iw ((i:Int)+1))<|s_nil ?_
    have hms:=mst_succ hy15;have h1:(hset ((mst l i).1) (ofS ((mst l i).2) y14.a) (ofS ((mst l i).2) y14.b) (ofS ((mst l i).2) y14.c))=(mst l (i+1)).1:=by rw[hms];unfold mstep;simp[dF c67,dF c76,dF c85,dY c94,boxB]
    have h2:(mst l i).2=(mst l (i+1)).2:=by rw[hms];unfold mstep;simp_all[boxB]
    refine xs_mem (Bs:=rhA hb3 ((mst l (i+1)).1)::hpA hb2 ((mst l (i+1)).1)::blkA g66 zc 71::blkA g65 zc 71::blkA g18 (vc (ofS ((mst l i).2) y14.c)) 71::blkA g17 (vc (ofS ((mst l i).2) y14.b)) 71::blkA g16 (vc (ofS ((mst l i).2) y14.a)) 71::own VlT lx ((mst l (i+1)).2)::blkA g4 #[pB hb2 0,pB hb3 0,lx] 30::blkA g1 #[.pointer none,.pointer none,(.slice none 0 0)] 30::F) (fun _ h=>by rw[←h1,←h2];exact h) ?_;exact xs_round (lx,i+1) (by show 100-(i+1)<100-i;omega) (by show i+1≤100∧i+1≤l.length;omega) sA (rr [7,7,0,0,5] [5,5,5,5,5])
   have p96:=dF c94;refine k_held [blkA g66 zc 71,blkA g65 zc 71,blkA g18 (vc (ofS ((mst l i).2) y14.c)) 71,blkA g17 (vc (ofS ((mst l i).2) y14.b)) 71,blkA g16 (vc (ofS ((mst l i).2) y14.a)) 71,own VlT lx ((mst l i).2),blkA g4 #[pB hb2 0,pB hb3 0,lx] 30,blkA g1 #[.pointer none,.pointer none,(.slice none 0 0)] 30] ?_;refine hp_ 0 [0,0,0,0,0,0,0,2] (pB g4 0) ?_;refine h_l 1 rfl [0,0,0,0,0,0,0,2] (fun _=>(t_load 6 (pB hb2 0))) ?_;refine h_l 2 rfl [0,0,0,0,0,0,0,2] (fun _=>(t_loadA 4 (vc (ofS ((mst l i).2) y14.a)))) ?_;refine h_l 3 rfl [0,0,0,0,0,0,0,2] (fun _=>(t_loadA 3 (vc (ofS ((mst l i).2) y14.b)))) ?_;refine hp_ 5 [0,0,0,0,0,0,0,2] (pB g4 1) ?_;refine h_l 6 rfl [0,0,0,0,0,0,0,2] (fun _=>(t_load 6 (pB hb3 0))) ?_;refine h_l 7 rfl [0,0,0,0,0,0,0,2] (fun _=>(t_loadA 4 (vc (ofS ((mst l i).2) y14.a)))) ?_;refine h_l 8 rfl [0,0,0,0,0,0,0,2] (fun _=>(t_loadA 3 (vc (ofS ((mst l i).2) y14.b)))) ?_;refine h_stepS 4 ?_;refine sC [8] (hsetmeta_s (st:=(mst l i).1) (ofS ((mst l i).2) y14.a) (ofS ((mst l i).2) y14.b)) ?_;refine nH [1,1,1,1,1,1,1,2]<|h_stepS 9 ?_
   refine sC [8] (rhsetmeta_s (st:=(mst l i).1) (by have:=hsm.len;omega) (ofS ((mst l i).2) y14.a) (ofS ((mst l i).2) y14.b)) ?_;refine nH [2,2,2,2,2,2,2,2]<|hp_ 10 [2,2,2,2,2,2,2,2] (iw (hsetMetaE ((mst l i).1) (ofS ((mst l i).2) y14.a) (ofS ((mst l i).2) y14.b))) ?_
   refine hp_ 11 [2,2,2,2,2,2,2,2] (iw (hsetMetaE ((mst l i).1) (ofS ((mst l i).2) y14.a) (ofS ((mst l i).2) y14.b))) ?_;refine h_doneS ?_;refine xs_block<|xs_then<|k_seq<|k_sr<|sL (t_loadA 3 zc)<|sL (t_loadA 2 zc)<|sL (Lt.to (t_eqS (fun w=>(eqVlT zVl zVl w).2)) (cB ((congrArg Bool.not (decide_eq_true rfl:(decide (zVl=zVl))=true)).trans rfl:(!(decide (zVl=zVl)))=false)))<|sP (.bool false)<|sP (iw (hsetMetaE ((mst l i).1) (ofS ((mst l i).2) y14.a) (ofS ((mst l i).2) y14.b)))<|sP (iw (hsetMetaE ((mst l i).1) (ofS ((mst l i).2) y14.a) (ofS ((mst l i).2) y14.b)))<|sL (Lt.to t_cmp (cB (decide_eq_false (fun h=>h rfl):(decide ((hsetMetaE ((mst l i).1) (ofS ((mst l i).2) y14.a) (ofS ((mst l i).2) y14.b))≠(hsetMetaE ((mst l i).1) (ofS ((mst l i).2) y14.a) (ofS ((mst l i).2) y14.b))))=false)))<|sP (.bool false)<|s_nt<|k_false<|k_st<|k_cut (ι:=Unit) (fun _=>True) (fun _=>[(0,lv),(2,pB g1 0),(4,pB g4 0),(5,iw (i:Int)),(9,pB g65 0),(144,.bool ((decide (y14.kind≤2))&&(decide ((hsetMetaE ((mst l i).1) (ofS ((mst l i).2) y14.a) (ofS ((mst l i).2) y14.b))=0))))]) (fun _=>rhA hb3 (hsetMeta ((mst l i).1) (ofS ((mst l i).2) y14.a) (ofS ((mst l i).2) y14.b))::hpA hb2 (hsetMeta ((mst l i).1) (ofS ((mst l i).2) y14.a) (ofS ((mst l i).2) y14.b))::blkA g66 zc 71::blkA g65 zc 71::blkA g18 (vc (ofS ((mst l i).2) y14.c)) 71::blkA g17 (vc (ofS ((mst l i).2) y14.b)) 71::blkA g16 (vc (ofS ((mst l i).2) y14.a)) 71::own VlT lx ((mst l i).2)::blkA g4 #[pB hb2 0,pB hb3 0,lx] 30::blkA g1 #[.pointer none,.pointer none,(.slice none 0 0)] 30::F) ?_ (fun _ _=>?_)
   .refine k_reg<|sP lv<|sP (iw (i:Int))<|sL (t_index OpT_ok Tryz.underlying22 (.zn hl0) (i:Int) i om ol om)<|sP (.pointer (some (elemAt OpT.size lv i)))<|sL (t_loadF 0 OpT_ok (.zn hl0) hy15)<|sL t_cmp<|sP (.bool (decide (y14.kind≤2)))<|s_fork 141 (decide (y14.kind≤2)) (fun c97=>?_) (fun c97=>?_)
    .have p98:=dY c97;refine sP (iw (hsetMetaE ((mst l i).1) (ofS ((mst l i).2) y14.a) (ofS ((mst l i).2) y14.b)))<|sL t_cmp<|sP (.bool (decide ((hsetMetaE ((mst l i).1) (ofS ((mst l i).2) y14.a) (ofS ((mst l i).2) y14.b))=0)))<|s_nil ?_
     exact xs_cut () trivial (sub_of rfl (rQ (rQ (rQ (rQ (rQ ⟨⟨rfl,show Value.bool (decide ((hsetMetaE ((mst l i).1) (ofS ((mst l i).2) y14.a) (ofS ((mst l i).2) y14.b))=0))=Value.bool ((decide (y14.kind≤2))&&(decide ((hsetMetaE ((mst l i).1) (ofS ((mst l i).2) y14.a) (ofS ((mst l i).2) y14.b))=0))) by first|(simp only[c97,bls];done)|simp[c97]⟩,trivial⟩)))))) (rr [0,0,0,0,0,0,0,0,0,0] [])
    have p99:=dF c97;refine sK<|sK<|sP (.bool false)<|s_nil ?_
    exact xs_cut () trivial (sub_of rfl (rQ (rQ (rQ (rQ (rQ ⟨⟨rfl,show Value.bool false=Value.bool ((decide (y14.kind≤2))&&(decide ((hsetMetaE ((mst l i).1) (ofS ((mst l i).2) y14.a) (ofS ((mst l i).2) y14.b))=0))) by first|(simp only[c97,bls];done)|simp[c97]⟩,trivial⟩)))))) (rr [0,0,0,0,0,0,0,0,0,0] [])
   refine k_cond ((decide (y14.kind≤2))&&(decide ((hsetMetaE ((mst l i).1) (ofS ((mst l i).2) y14.a) (ofS ((mst l i).2) y14.b))=0))) (fun c100=>?_) (fun c100=>?_)
   .obtain ⟨c101,c102⟩:=and_t c100;have p103:=dY c101;have p104:=dY c102;refine k_reg<|sP (pB g4 2)<|sL (t_load 8 lx)<|sL (t_loadA 3 zc)<|s_buildSlice (e:=71) [(0,.agg zc)] zc (fun g105=>?_) (hb:=by kernel_rfl)
    refine s_append (L:=(mst l i).2) 8 VlT_ok Tryz.underlying28 (.lit 0 VlT_ok [zVl]) (by show _*48≤_;(try simp only[lnm]);omega) ol (fun v106=>?_);refine sP (pB g4 2)<|sF 8 (fun hf107=>?_)
    refine s_store (u:=v106) (m:=1) 9 #[pB hb2 0,pB hb3 0,v106] ?_ (hm:=by (obtain⟨_,_,e⟩:=hf107;rw[e];rfl)) (h1:=by (obtain⟨_,_,e⟩:=hf107;rw[e];rfl)) (ha':=by (obtain⟨_,_,e⟩:=hf107;rw[e];rfl));refine s_nil<|xs_block<|xs_then<|k_reg<|sP (iw (i:Int))<|sL (t_add (i:Int) 1 ol)<|sP (iw ((i:Int)+1))<|s_nil ?_
    have hms:=mst_succ hy15;have h1:(hsetMeta ((mst l i).1) (ofS ((mst l i).2) y14.a) (ofS ((mst l i).2) y14.b))=(mst l (i+1)).1:=by rw[hms];unfold mstep;simp[dF c67,dF c76,dF c85,dF c94,boxB]
    have h2:((mst l i).2++[zVl])=(mst l (i+1)).2:=by rw[hms];unfold mstep;simp_all[boxB]
    refine xs_mem (Bs:=blkA g105 zc 71::rhA hb3 ((mst l (i+1)).1)::hpA hb2 ((mst l (i+1)).1)::blkA g66 zc 71::blkA g65 zc 71::blkA g18 (vc (ofS ((mst l i).2) y14.c)) 71::blkA g17 (vc (ofS ((mst l i).2) y14.b)) 71::blkA g16 (vc (ofS ((mst l i).2) y14.a)) 71::own VlT v106 ((mst l (i+1)).2)::blkA g4 #[pB hb2 0,pB hb3 0,v106] 30::blkA g1 #[.pointer none,.pointer none,(.slice none 0 0)] 30::F) (fun _ h=>by rw[←h1,←h2];exact h) ?_;exact xs_round (v106,i+1) (by show 100-(i+1)<100-i;omega) (by show i+1≤100∧i+1≤l.length;omega) sA (rr [8,8,1,1,6] [5,5,5,5,5,5])
   have p108:=c100;simp only[Bool.and_eq_true,Bool.or_eq_true,Bool.and_eq_false_iff,Bool.or_eq_false_iff,Bool.not_eq_true',Bool.not_eq_false',decide_eq_true_eq,decide_eq_false_iff_not]at p108;refine k_skip<|xs_block<|xs_then<|k_reg<|sP (iw (i:Int))<|sL (t_add (i:Int) 1 ol)<|sP (iw ((i:Int)+1))<|s_nil ?_
   have hms:=mst_succ hy15;have h1:(hsetMeta ((mst l i).1) (ofS ((mst l i).2) y14.a) (ofS ((mst l i).2) y14.b))=(mst l (i+1)).1:=by rw[hms];unfold mstep;simp[dF c67,dF c76,dF c85,dF c94,boxB]
   have h2:(mst l i).2=(mst l (i+1)).2:=by rw[hms];unfold mstep;simp_all[boxB]
   refine xs_mem (Bs:=rhA hb3 ((mst l (i+1)).1)::hpA hb2 ((mst l (i+1)).1)::blkA g66 zc 71::blkA g65 zc 71::blkA g18 (vc (ofS ((mst l i).2) y14.c)) 71::blkA g17 (vc (ofS ((mst l i).2) y14.b)) 71::blkA g16 (vc (ofS ((mst l i).2) y14.a)) 71::own VlT lx ((mst l (i+1)).2)::blkA g4 #[pB hb2 0,pB hb3 0,lx] 30::blkA g1 #[.pointer none,.pointer none,(.slice none 0 0)] 30::F) (fun _ h=>by rw[←h1,←h2];exact h) ?_;exact xs_round (lx,i+1) (by show 100-(i+1)<100-i;omega) (by show i+1≤100∧i+1≤l.length;omega) sA (rr [7,7,0,0,5] [5,5,5,5,5])
  refine h_join (ι:=Nat×Nat) 4 #[true,true,true,true,true,true,true,true,true,true,true,true,true,true,true,true,true,true,true,true,true,true,true,false,false,false,false] (fun (g16,g17)=>[(0,lv),(2,pB g1 0),(4,pB g4 0),(5,iw (i:Int)),(6,pB g16 0),(7,pB g17 0),(36,.agg (vc (ofS ((mst l i).2) y14.a))),(43,.agg (vc (ofS ((mst l i).2) y14.b))),(50,.agg (vc (ofS ((mst l i).2) y14.c)))]) (fun (g16,g17)=>blkA g17 zc 71::blkA g16 zc 71::own VlT lx ((mst l i).2)::blkA g4 #[pB hb2 0,pB hb3 0,lx] 30::rhA hb3 ((mst l i).1)::hpA hb2 ((mst l i).1)::blkA g1 #[.pointer none,.pointer none,(.slice none 0 0)] 30::F) ?_ (fun hj109=>?_)
  .rintro ⟨g16,g17⟩;try dsimp only
   refine h_stepS 23 ?_;refine s_alloc (.agg zc) zc (fun g110=>?_);refine nH [3,3,5] ?_;exact h_use hj64 (g16,g17,g110) (rr [0,0,0,0,0,0,0,0] [])
  refine h_join (ι:=Nat×Nat) 4 #[true,true,true,true,true,true,true,true,true,true,true,true,true,true,true,true,true,true,true,true,true,true,false,true,false,false,false] (fun (g16,g19)=>[(0,lv),(2,pB g1 0),(4,pB g4 0),(5,iw (i:Int)),(6,pB g16 0),(8,pB g19 0),(36,.agg (vc (ofS ((mst l i).2) y14.a))),(43,.agg (vc (ofS ((mst l i).2) y14.b))),(50,.agg (vc (ofS ((mst l i).2) y14.c)))]) (fun (g16,g19)=>blkA g19 zc 71::blkA g16 zc 71::own VlT lx ((mst l i).2)::blkA g4 #[pB hb2 0,pB hb3 0,lx] 30::rhA hb3 ((mst l i).1)::hpA hb2 ((mst l i).1)::blkA g1 #[.pointer none,.pointer none,(.slice none 0 0)] 30::F) ?_ (fun hj111=>?_)
  .rintro ⟨g16,g19⟩;try dsimp only
   refine h_stepS 22 ?_;refine s_alloc (.agg zc) zc (fun g112=>?_);refine nH [3,3,5] ?_;exact h_use hj64 (g16,g112,g19) (rr [1,0,0,0,0,0,0,0] [])
  refine h_join (ι:=Nat×Nat) 4 #[true,true,true,true,true,true,true,true,true,true,true,true,true,true,true,true,true,true,true,true,true,false,true,true,false,false,false] (fun (g21,g23)=>[(0,lv),(2,pB g1 0),(4,pB g4 0),(5,iw (i:Int)),(7,pB g21 0),(8,pB g23 0),(36,.agg (vc (ofS ((mst l i).2) y14.a))),(43,.agg (vc (ofS ((mst l i).2) y14.b))),(50,.agg (vc (ofS ((mst l i).2) y14.c)))]) (fun (g21,g23)=>blkA g23 zc 71::blkA g21 zc 71::own VlT lx ((mst l i).2)::blkA g4 #[pB hb2 0,pB hb3 0,lx] 30::rhA hb3 ((mst l i).1)::hpA hb2 ((mst l i).1)::blkA g1 #[.pointer none,.pointer none,(.slice none 0 0)] 30::F) ?_ (fun hj113=>?_)
  .rintro ⟨g21,g23⟩;try dsimp only
   refine h_stepS 21 ?_;refine s_alloc (.agg zc) zc (fun g114=>?_);refine nH [3,3,5] ?_;exact h_use hj64 (g114,g21,g23) (rr [1,1,0,0,0,0,0,0] [])
  refine h_join (ι:=Nat×Nat×Nat) 4 #[true,true,true,true,true,true,true,true,true,true,true,true,true,true,true,true,true,true,true,true,false,true,true,true,false,false,false] (fun (g28,g29,g30)=>[(0,lv),(2,pB g1 0),(4,pB g4 0),(5,iw (i:Int)),(6,pB g28 0),(7,pB g29 0),(8,pB g30 0),(36,.agg (vc (ofS ((mst l i).2) y14.a))),(43,.agg (vc (ofS ((mst l i).2) y14.b))),(44,.agg #[pB hb2 0,pB hb3 0,lx]),(49,.agg #[iw y14.c.v.kind,iw y14.c.v.p,iw y14.c.v.q,sw y14.c.v.str,iw y14.c.v.ref,iw y14.c.obj])]) (fun (g28,g29,g30)=>blkA g30 zc 71::blkA g29 zc 71::blkA g28 zc 71::own VlT lx ((mst l i).2)::blkA g4 #[pB hb2 0,pB hb3 0,lx] 30::rhA hb3 ((mst l i).1)::hpA hb2 ((mst l i).1)::blkA g1 #[.pointer none,.pointer none,(.slice none 0 0)] 30::F) ?_ (fun hj115=>?_)
  .rintro ⟨g28,g29,g30⟩;try dsimp only
   refine h_stepS 20 ?_;refine sC [3] (of_s (L:=(mst l i).2) ol y14.c) ?_;refine nH [0,3,5] ?_;exact h_use hj64 (g28,g29,g30) (rr [1,1,1,0,0,0,0,0] [])
  refine h_join (ι:=Nat) 5 #[true,true,true,true,true,true,true,true,true,true,true,true,true,true,true,true,true,true,true,true,true,true,false,false,false,false,false] (fun g16=>[(0,lv),(2,pB g1 0),(4,pB g4 0),(5,iw (i:Int)),(6,pB g16 0),(36,.agg (vc (ofS ((mst l i).2) y14.a))),(43,.agg (vc (ofS ((mst l i).2) y14.b))),(50,.agg (vc (ofS ((mst l i).2) y14.c)))]) (fun g16=>blkA g16 zc 71::own VlT lx ((mst l i).2)::blkA g4 #[pB hb2 0,pB hb3 0,lx] 30::rhA hb3 ((mst l i).1)::hpA hb2 ((mst l i).1)::blkA g1 #[.pointer none,.pointer none,(.slice none 0 0)] 30::F) ?_ (fun hj116=>?_)
  .rintro g16;try dsimp only
   refine h_stepS2 22 23 ?_ ?_
   .refine s_alloc (.agg zc) zc (fun g117=>?_);refine nH [2,2,4] ?_;exact h_use hj109 (g16,g117) (rr [0,0,0,0,0,0,0] [])
   refine s_alloc (.agg zc) zc (fun g118=>?_);refine nH [2,2,4] ?_;exact h_use hj111 (g16,g118) (rr [0,0,0,0,0,0,0] [])
  refine h_join (ι:=Nat) 5 #[true,true,true,true,true,true,true,true,true,true,true,true,true,true,true,true,true,true,true,true,true,false,true,false,false,false,false] (fun g21=>[(0,lv),(2,pB g1 0),(4,pB g4 0),(5,iw (i:Int)),(7,pB g21 0),(36,.agg (vc (ofS ((mst l i).2) y14.a))),(43,.agg (vc (ofS ((mst l i).2) y14.b))),(50,.agg (vc (ofS ((mst l i).2) y14.c)))]) (fun g21=>blkA g21 zc 71::own VlT lx ((mst l i).2)::blkA g4 #[pB hb2 0,pB hb3 0,lx] 30::rhA hb3 ((mst l i).1)::hpA hb2 ((mst l i).1)::blkA g1 #[.pointer none,.pointer none,(.slice none 0 0)] 30::F) ?_ (fun hj119=>?_)
  .rintro g21;try dsimp only
   refine h_stepS2 21 23 ?_ ?_
   .refine s_alloc (.agg zc) zc (fun g120=>?_);refine nH [2,2,4] ?_;exact h_use hj109 (g120,g21) (rr [1,0,0,0,0,0,0] [])
   refine s_alloc (.agg zc) zc (fun g121=>?_);refine nH [2,2,4] ?_;exact h_use hj113 (g21,g121) (rr [0,0,0,0,0,0,0] [])
  refine h_join (ι:=Nat) 5 #[true,true,true,true,true,true,true,true,true,true,true,true,true,true,true,true,true,true,true,true,true,false,false,true,false,false,false] (fun g25=>[(0,lv),(2,pB g1 0),(4,pB g4 0),(5,iw (i:Int)),(8,pB g25 0),(36,.agg (vc (ofS ((mst l i).2) y14.a))),(43,.agg (vc (ofS ((mst l i).2) y14.b))),(50,.agg (vc (ofS ((mst l i).2) y14.c)))]) (fun g25=>blkA g25 zc 71::own VlT lx ((mst l i).2)::blkA g4 #[pB hb2 0,pB hb3 0,lx] 30::rhA hb3 ((mst l i).1)::hpA hb2 ((mst l i).1)::blkA g1 #[.pointer none,.pointer none,(.slice none 0 0)] 30::F) ?_ (fun hj122=>?_)
  .rintro g25;try dsimp only
   refine h_stepS2 21 22 ?_ ?_
   .refine s_alloc (.agg zc) zc (fun g123=>?_);refine nH [2,2,4] ?_;exact h_use hj111 (g123,g25) (rr [1,0,0,0,0,0,0] [])
   refine s_alloc (.agg zc) zc (fun g124=>?_);refine nH [2,2,4] ?_;exact h_use hj113 (g124,g25) (rr [1,0,0,0,0,0,0] [])
  refine h_join (ι:=Nat×Nat) 5 #[true,true,true,true,true,true,true,true,true,true,true,true,true,true,true,true,true,true,true,true,false,true,true,false,false,false,false] (fun (g28,g29)=>[(0,lv),(2,pB g1 0),(4,pB g4 0),(5,iw (i:Int)),(6,pB g28 0),(7,pB g29 0),(36,.agg (vc (ofS ((mst l i).2) y14.a))),(43,.agg (vc (ofS ((mst l i).2) y14.b))),(44,.agg #[pB hb2 0,pB hb3 0,lx]),(49,.agg #[iw y14.c.v.kind,iw y14.c.v.p,iw y14.c.v.q,sw y14.c.v.str,iw y14.c.v.ref,iw y14.c.obj])]) (fun (g28,g29)=>blkA g29 zc 71::blkA g28 zc 71::own VlT lx ((mst l i).2)::blkA g4 #[pB hb2 0,pB hb3 0,lx] 30::rhA hb3 ((mst l i).1)::hpA hb2 ((mst l i).1)::blkA g1 #[.pointer none,.pointer none,(.slice none 0 0)] 30::F) ?_ (fun hj125=>?_)
  .rintro ⟨g28,g29⟩;try dsimp only
   refine h_stepS2 20 23 ?_ ?_
   .refine sC [2] (of_s (L:=(mst l i).2) ol y14.c) ?_;refine nH [0,2,4] ?_;exact h_use hj109 (g28,g29) (rr [1,1,0,0,0,0,0] [])
   refine s_alloc (.agg zc) zc (fun g126=>?_);refine nH [3,3,5] ?_;exact h_use hj115 (g28,g29,g126) (rr [0,0,0,0,0,0,0,0] [])
  refine h_join (ι:=Nat×Nat) 5 #[true,true,true,true,true,true,true,true,true,true,true,true,true,true,true,true,true,true,true,true,false,true,false,true,false,false,false] (fun (g28,g31)=>[(0,lv),(2,pB g1 0),(4,pB g4 0),(5,iw (i:Int)),(6,pB g28 0),(8,pB g31 0),(36,.agg (vc (ofS ((mst l i).2) y14.a))),(43,.agg (vc (ofS ((mst l i).2) y14.b))),(44,.agg #[pB hb2 0,pB hb3 0,lx]),(49,.agg #[iw y14.c.v.kind,iw y14.c.v.p,iw y14.c.v.q,sw y14.c.v.str,iw y14.c.v.ref,iw y14.c.obj])]) (fun (g28,g31)=>blkA g31 zc 71::blkA g28 zc 71::own VlT lx ((mst l i).2)::blkA g4 #[pB hb2 0,pB hb3 0,lx] 30::rhA hb3 ((mst l i).1)::hpA hb2 ((mst l i).1)::blkA g1 #[.pointer none,.pointer none,(.slice none 0 0)] 30::F) ?_ (fun hj127=>?_)
  .rintro ⟨g28,g31⟩;try dsimp only
   refine h_stepS2 20 22 ?_ ?_
   .refine sC [2] (of_s (L:=(mst l i).2) ol y14.c) ?_;refine nH [0,2,4] ?_;exact h_use hj111 (g28,g31) (rr [1,1,0,0,0,0,0] [])
   refine s_alloc (.agg zc) zc (fun g128=>?_);refine nH [3,3,5] ?_;exact h_use hj115 (g28,g128,g31) (rr [1,0,0,0,0,0,0,0] [])
  refine h_join (ι:=Nat×Nat) 5 #[true,true,true,true,true,true,true,true,true,true,true,true,true,true,true,true,true,true,true,true,false,false,true,true,false,false,false] (fun (g33,g35)=>[(0,lv),(2,pB g1 0),(4,pB g4 0),(5,iw (i:Int)),(7,pB g33 0),(8,pB g35 0),(36,.agg (vc (ofS ((mst l i).2) y14.a))),(43,.agg (vc (ofS ((mst l i).2) y14.b))),(44,.agg #[pB hb2 0,pB hb3 0,lx]),(49,.agg #[iw y14.c.v.kind,iw y14.c.v.p,iw y14.c.v.q,sw y14.c.v.str,iw y14.c.v.ref,iw y14.c.obj])]) (fun (g33,g35)=>blkA g35 zc 71::blkA g33 zc 71::own VlT lx ((mst l i).2)::blkA g4 #[pB hb2 0,pB hb3 0,lx] 30::rhA hb3 ((mst l i).1)::hpA hb2 ((mst l i).1)::blkA g1 #[.pointer none,.pointer none,(.slice none 0 0)] 30::F) ?_ (fun hj129=>?_)
  .rintro ⟨g33,g35⟩;try dsimp only
   refine h_stepS2 20 21 ?_ ?_
   .refine sC [2] (of_s (L:=(mst l i).2) ol y14.c) ?_;refine nH [0,2,4] ?_;exact h_use hj113 (g33,g35) (rr [1,1,0,0,0,0,0] [])
   refine s_alloc (.agg zc) zc (fun g130=>?_);refine nH [3,3,5] ?_;exact h_use hj115 (g130,g33,g35) (rr [1,1,0,0,0,0,0,0] [])
  refine h_join (ι:=Nat×Nat×Nat) 5 #[true,true,true,true,true,true,true,true,true,true,true,true,true,false,true,true,true,true,true,true,false,true,true,true,false,false,false] (fun (g40,g41,g42)=>[(0,lv),(2,pB g1 0),(4,pB g4 0),(5,iw (i:Int)),(6,pB g40 0),(7,pB g41 0),(8,pB g42 0),(36,.agg (vc (ofS ((mst l i).2) y14.a))),(37,.agg #[pB hb2 0,pB hb3 0,lx]),(42,.agg #[iw y14.b.v.kind,iw y14.b.v.p,iw y14.b.v.q,sw y14.b.v.str,iw y14.b.v.ref,iw y14.b.obj]),(44,.agg #[pB hb2 0,pB hb3 0,lx]),(49,.agg #[iw y14.c.v.kind,iw y14.c.v.p,iw y14.c.v.q,sw y14.c.v.str,iw y14.c.v.ref,iw y14.c.obj])]) (fun (g40,g41,g42)=>blkA g42 zc 71::blkA g41 zc 71::blkA g40 zc 71::own VlT lx ((mst l i).2)::blkA g4 #[pB hb2 0,pB hb3 0,lx] 30::rhA hb3 ((mst l i).1)::hpA hb2 ((mst l i).1)::blkA g1 #[.pointer none,.pointer none,(.slice none 0 0)] 30::F) ?_ (fun hj131=>?_)
  .rintro ⟨g40,g41,g42⟩;try dsimp only
   refine h_stepS 13 ?_;refine sC [3] (of_s (L:=(mst l i).2) ol y14.b) ?_;refine nH [0,3,5] ?_;exact h_use hj115 (g40,g41,g42) (rr [1,1,1,0,0,0,0,0] [])
  refine h_join (ι:=Nat) 6 #[true,true,true,true,true,true,true,true,true,true,true,true,true,true,true,true,true,true,true,true,false,true,false,false,false,false,false] (fun g28=>[(0,lv),(2,pB g1 0),(4,pB g4 0),(5,iw (i:Int)),(6,pB g28 0),(36,.agg (vc (ofS ((mst l i).2) y14.a))),(43,.agg (vc (ofS ((mst l i).2) y14.b))),(44,.agg #[pB hb2 0,pB hb3 0,lx]),(49,.agg #[iw y14.c.v.kind,iw y14.c.v.p,iw y14.c.v.q,sw y14.c.v.str,iw y14.c.v.ref,iw y14.c.obj])]) (fun g28=>blkA g28 zc 71::own VlT lx ((mst l i).2)::blkA g4 #[pB hb2 0,pB hb3 0,lx] 30::rhA hb3 ((mst l i).1)::hpA hb2 ((mst l i).1)::blkA g1 #[.pointer none,.pointer none,(.slice none 0 0)] 30::F) ?_ (fun hj132=>?_)
  .rintro g28;try dsimp only
   refine h_stepS3 20 22 23 ?_ ?_ ?_
   .refine sC [1] (of_s (L:=(mst l i).2) ol y14.c) ?_;refine nH [0,1,3] ?_;exact h_use hj116 g28 (rr [1,0,0,0,0,0] [])
   .refine s_alloc (.agg zc) zc (fun g133=>?_);refine nH [2,2,4] ?_;exact h_use hj125 (g28,g133) (rr [0,0,0,0,0,0,0] [])
   refine s_alloc (.agg zc) zc (fun g134=>?_);refine nH [2,2,4] ?_;exact h_use hj127 (g28,g134) (rr [0,0,0,0,0,0,0] [])
  refine h_join (ι:=Nat) 6 #[true,true,true,true,true,true,true,true,true,true,true,true,true,true,true,true,true,true,true,true,false,false,true,false,false,false,false] (fun g33=>[(0,lv),(2,pB g1 0),(4,pB g4 0),(5,iw (i:Int)),(7,pB g33 0),(36,.agg (vc (ofS ((mst l i).2) y14.a))),(43,.agg (vc (ofS ((mst l i).2) y14.b))),(44,.agg #[pB hb2 0,pB hb3 0,lx]),(49,.agg #[iw y14.c.v.kind,iw y14.c.v.p,iw y14.c.v.q,sw y14.c.v.str,iw y14.c.v.ref,iw y14.c.obj])]) (fun g33=>blkA g33 zc 71::own VlT lx ((mst l i).2)::blkA g4 #[pB hb2 0,pB hb3 0,lx] 30::rhA hb3 ((mst l i).1)::hpA hb2 ((mst l i).1)::blkA g1 #[.pointer none,.pointer none,(.slice none 0 0)] 30::F) ?_ (fun hj135=>?_)
  .rintro g33;try dsimp only
   refine h_stepS3 20 21 23 ?_ ?_ ?_
   .refine sC [1] (of_s (L:=(mst l i).2) ol y14.c) ?_;refine nH [0,1,3] ?_;exact h_use hj119 g33 (rr [1,0,0,0,0,0] [])
   .refine s_alloc (.agg zc) zc (fun g136=>?_);refine nH [2,2,4] ?_;exact h_use hj125 (g136,g33) (rr [1,0,0,0,0,0,0] [])
   refine s_alloc (.agg zc) zc (fun g137=>?_);refine nH [2,2,4] ?_;exact h_use hj129 (g33,g137) (rr [0,0,0,0,0,0,0] [])
  refine h_join (ι:=Nat) 6 #[true,true,true,true,true,true,true,true,true,true,true,true,true,true,true,true,true,true,true,true,false,false,false,true,false,false,false] (fun g37=>[(0,lv),(2,pB g1 0),(4,pB g4 0),(5,iw (i:Int)),(8,pB g37 0),(36,.agg (vc (ofS ((mst l i).2) y14.a))),(43,.agg (vc (ofS ((mst l i).2) y14.b))),(44,.agg #[pB hb2 0,pB hb3 0,lx]),(49,.agg #[iw y14.c.v.kind,iw y14.c.v.p,iw y14.c.v.q,sw y14.c.v.str,iw y14.c.v.ref,iw y14.c.obj])]) (fun g37=>blkA g37 zc 71::own VlT lx ((mst l i).2)::blkA g4 #[pB hb2 0,pB hb3 0,lx] 30::rhA hb3 ((mst l i).1)::hpA hb2 ((mst l i).1)::blkA g1 #[.pointer none,.pointer none,(.slice none 0 0)] 30::F) ?_ (fun hj138=>?_)
  .rintro g37;try dsimp only
   refine h_stepS3 20 21 22 ?_ ?_ ?_
   .refine sC [1] (of_s (L:=(mst l i).2) ol y14.c) ?_;refine nH [0,1,3] ?_;exact h_use hj122 g37 (rr [1,0,0,0,0,0] [])
   .refine s_alloc (.agg zc) zc (fun g139=>?_);refine nH [2,2,4] ?_;exact h_use hj127 (g139,g37) (rr [1,0,0,0,0,0,0] [])
   refine s_alloc (.agg zc) zc (fun g140=>?_);refine nH [2,2,4] ?_;exact h_use hj129 (g140,g37) (rr [1,0,0,0,0,0,0] [])
  refine h_join (ι:=Nat×Nat) 6 #[true,true,true,true,true,true,true,true,true,true,true,true,true,false,true,true,true,true,true,true,false,true,true,false,false,false,false] (fun (g40,g41)=>[(0,lv),(2,pB g1 0),(4,pB g4 0),(5,iw (i:Int)),(6,pB g40 0),(7,pB g41 0),(36,.agg (vc (ofS ((mst l i).2) y14.a))),(37,.agg #[pB hb2 0,pB hb3 0,lx]),(42,.agg #[iw y14.b.v.kind,iw y14.b.v.p,iw y14.b.v.q,sw y14.b.v.str,iw y14.b.v.ref,iw y14.b.obj]),(44,.agg #[pB hb2 0,pB hb3 0,lx]),(49,.agg #[iw y14.c.v.kind,iw y14.c.v.p,iw y14.c.v.q,sw y14.c.v.str,iw y14.c.v.ref,iw y14.c.obj])]) (fun (g40,g41)=>blkA g41 zc 71::blkA g40 zc 71::own VlT lx ((mst l i).2)::blkA g4 #[pB hb2 0,pB hb3 0,lx] 30::rhA hb3 ((mst l i).1)::hpA hb2 ((mst l i).1)::blkA g1 #[.pointer none,.pointer none,(.slice none 0 0)] 30::F) ?_ (fun hj141=>?_)
  .rintro ⟨g40,g41⟩;try dsimp only
   refine h_stepS2 13 23 ?_ ?_
   .refine sC [2] (of_s (L:=(mst l i).2) ol y14.b) ?_;refine nH [0,2,4] ?_;exact h_use hj125 (g40,g41) (rr [1,1,0,0,0,0,0] [])
   refine s_alloc (.agg zc) zc (fun g142=>?_);refine nH [3,3,5] ?_;exact h_use hj131 (g40,g41,g142) (rr [0,0,0,0,0,0,0,0] [])
  refine h_join (ι:=Nat×Nat) 6 #[true,true,true,true,true,true,true,true,true,true,true,true,true,false,true,true,true,true,true,true,false,true,false,true,false,false,false] (fun (g40,g43)=>[(0,lv),(2,pB g1 0),(4,pB g4 0),(5,iw (i:Int)),(6,pB g40 0),(8,pB g43 0),(36,.agg (vc (ofS ((mst l i).2) y14.a))),(37,.agg #[pB hb2 0,pB hb3 0,lx]),(42,.agg #[iw y14.b.v.kind,iw y14.b.v.p,iw y14.b.v.q,sw y14.b.v.str,iw y14.b.v.ref,iw y14.b.obj]),(44,.agg #[pB hb2 0,pB hb3 0,lx]),(49,.agg #[iw y14.c.v.kind,iw y14.c.v.p,iw y14.c.v.q,sw y14.c.v.str,iw y14.c.v.ref,iw y14.c.obj])]) (fun (g40,g43)=>blkA g43 zc 71::blkA g40 zc 71::own VlT lx ((mst l i).2)::blkA g4 #[pB hb2 0,pB hb3 0,lx] 30::rhA hb3 ((mst l i).1)::hpA hb2 ((mst l i).1)::blkA g1 #[.pointer none,.pointer none,(.slice none 0 0)] 30::F) ?_ (fun hj143=>?_)
  .rintro ⟨g40,g43⟩;try dsimp only
   refine h_stepS2 13 22 ?_ ?_
   .refine sC [2] (of_s (L:=(mst l i).2) ol y14.b) ?_;refine nH [0,2,4] ?_;exact h_use hj127 (g40,g43) (rr [1,1,0,0,0,0,0] [])
   refine s_alloc (.agg zc) zc (fun g144=>?_);refine nH [3,3,5] ?_;exact h_use hj131 (g40,g144,g43) (rr [1,0,0,0,0,0,0,0] [])
  refine h_join (ι:=Nat×Nat) 6 #[true,true,true,true,true,true,true,true,true,true,true,true,true,false,true,true,true,true,true,true,false,false,true,true,false,false,false] (fun (g45,g47)=>[(0,lv),(2,pB g1 0),(4,pB g4 0),(5,iw (i:Int)),(7,pB g45 0),(8,pB g47 0),(36,.agg (vc (ofS ((mst l i).2) y14.a))),(37,.agg #[pB hb2 0,pB hb3 0,lx]),(42,.agg #[iw y14.b.v.kind,iw y14.b.v.p,iw y14.b.v.q,sw y14.b.v.str,iw y14.b.v.ref,iw y14.b.obj]),(44,.agg #[pB hb2 0,pB hb3 0,lx]),(49,.agg #[iw y14.c.v.kind,iw y14.c.v.p,iw y14.c.v.q,sw y14.c.v.str,iw y14.c.v.ref,iw y14.c.obj])]) (fun (g45,g47)=>blkA g47 zc 71::blkA g45 zc 71::own VlT lx ((mst l i).2)::blkA g4 #[pB hb2 0,pB hb3 0,lx] 30::rhA hb3 ((mst l i).1)::hpA hb2 ((mst l i).1)::blkA g1 #[.pointer none,.pointer none,(.slice none 0 0)] 30::F) ?_ (fun hj145=>?_)
  .rintro ⟨g45,g47⟩;try dsimp only
   refine h_stepS2 13 21 ?_ ?_
   .refine sC [2] (of_s (L:=(mst l i).2) ol y14.b) ?_;refine nH [0,2,4] ?_;exact h_use hj129 (g45,g47) (rr [1,1,0,0,0,0,0] [])
   refine s_alloc (.agg zc) zc (fun g146=>?_);refine nH [3,3,5] ?_;exact h_use hj131 (g146,g45,g47) (rr [1,1,0,0,0,0,0,0] [])
  refine h_join (ι:=Nat×Nat×Nat) 6 #[true,true,true,true,true,true,false,true,true,true,true,true,true,false,true,true,true,true,true,true,false,true,true,true,false,false,false] (fun (g52,g53,g54)=>[(0,lv),(2,pB g1 0),(4,pB g4 0),(5,iw (i:Int)),(6,pB g52 0),(7,pB g53 0),(8,pB g54 0),(30,.agg #[pB hb2 0,pB hb3 0,lx]),(35,.agg #[iw y14.a.v.kind,iw y14.a.v.p,iw y14.a.v.q,sw y14.a.v.str,iw y14.a.v.ref,iw y14.a.obj]),(37,.agg #[pB hb2 0,pB hb3 0,lx]),(42,.agg #[iw y14.b.v.kind,iw y14.b.v.p,iw y14.b.v.q,sw y14.b.v.str,iw y14.b.v.ref,iw y14.b.obj]),(44,.agg #[pB hb2 0,pB hb3 0,lx]),(49,.agg #[iw y14.c.v.kind,iw y14.c.v.p,iw y14.c.v.q,sw y14.c.v.str,iw y14.c.v.ref,iw y14.c.obj])]) (fun (g52,g53,g54)=>blkA g54 zc 71::blkA g53 zc 71::blkA g52 zc 71::own VlT lx ((mst l i).2)::blkA g4 #[pB hb2 0,pB hb3 0,lx] 30::rhA hb3 ((mst l i).1)::hpA hb2 ((mst l i).1)::blkA g1 #[.pointer none,.pointer none,(.slice none 0 0)] 30::F) ?_ (fun hj147=>?_)
  .rintro ⟨g52,g53,g54⟩;try dsimp only
   refine h_stepS 6 ?_;refine sC [3] (of_s (L:=(mst l i).2) ol y14.a) ?_;refine nH [0,3,5] ?_;exact h_use hj131 (g52,g53,g54) (rr [1,1,1,0,0,0,0,0] [])
  refine h_join (ι:=Nat) 7 #[true,true,true,true,true,true,true,true,true,true,true,true,true,false,true,true,true,true,true,true,false,true,false,false,false,false,false] (fun g40=>[(0,lv),(2,pB g1 0),(4,pB g4 0),(5,iw (i:Int)),(6,pB g40 0),(36,.agg (vc (ofS ((mst l i).2) y14.a))),(37,.agg #[pB hb2 0,pB hb3 0,lx]),(42,.agg #[iw y14.b.v.kind,iw y14.b.v.p,iw y14.b.v.q,sw y14.b.v.str,iw y14.b.v.ref,iw y14.b.obj]),(44,.agg #[pB hb2 0,pB hb3 0,lx]),(49,.agg #[iw y14.c.v.kind,iw y14.c.v.p,iw y14.c.v.q,sw y14.c.v.str,iw y14.c.v.ref,iw y14.c.obj])]) (fun g40=>blkA g40 zc 71::own VlT lx ((mst l i).2)::blkA g4 #[pB hb2 0,pB hb3 0,lx] 30::rhA hb3 ((mst l i).1)::hpA hb2 ((mst l i).1)::blkA g1 #[.pointer none,.pointer none,(.slice none 0 0)] 30::F) ?_ (fun hj148=>?_)
  .rintro g40;try dsimp only
   refine h_stepS3 13 22 23 ?_ ?_ ?_
   .refine sC [1] (of_s (L:=(mst l i).2) ol y14.b) ?_;refine nH [0,1,3] ?_;exact h_use hj132 g40 (rr [1,0,0,0,0,0] [])
   .refine s_alloc (.agg zc) zc (fun g149=>?_);refine nH [2,2,4] ?_;exact h_use hj141 (g40,g149) (rr [0,0,0,0,0,0,0] [])
   refine s_alloc (.agg zc) zc (fun g150=>?_);refine nH [2,2,4] ?_;exact h_use hj143 (g40,g150) (rr [0,0,0,0,0,0,0] [])
  refine h_join (ι:=Nat) 7 #[true,true,true,true,true,true,true,true,true,true,true,true,true,false,true,true,true,true,true,true,false,false,true,false,false,false,false] (fun g45=>[(0,lv),(2,pB g1 0),(4,pB g4 0),(5,iw (i:Int)),(7,pB g45 0),(36,.agg (vc (ofS ((mst l i).2) y14.a))),(37,.agg #[pB hb2 0,pB hb3 0,lx]),(42,.agg #[iw y14.b.v.kind,iw y14.b.v.p,iw y14.b.v.q,sw y14.b.v.str,iw y14.b.v.ref,iw y14.b.obj]),(44,.agg #[pB hb2 0,pB hb3 0,lx]),(49,.agg #[iw y14.c.v.kind,iw y14.c.v.p,iw y14.c.v.q,sw y14.c.v.str,iw y14.c.v.ref,iw y14.c.obj])]) (fun g45=>blkA g45 zc 71::own VlT lx ((mst l i).2)::blkA g4 #[pB hb2 0,pB hb3 0,lx] 30::rhA hb3 ((mst l i).1)::hpA hb2 ((mst l i).1)::blkA g1 #[.pointer none,.pointer none,(.slice none 0 0)] 30::F) ?_ (fun hj151=>?_)
  .rintro g45;try dsimp only
   refine h_stepS3 13 21 23 ?_ ?_ ?_
   .refine sC [1] (of_s (L:=(mst l i).2) ol y14.b) ?_;refine nH [0,1,3] ?_;exact h_use hj135 g45 (rr [1,0,0,0,0,0] [])
   .refine s_alloc (.agg zc) zc (fun g152=>?_);refine nH [2,2,4] ?_;exact h_use hj141 (g152,g45) (rr [1,0,0,0,0,0,0] [])
   refine s_alloc (.agg zc) zc (fun g153=>?_);refine nH [2,2,4] ?_;exact h_use hj145 (g45,g153) (rr [0,0,0,0,0,0,0] [])
  refine h_join (ι:=Nat) 7 #[true,true,true,true,true,true,true,true,true,true,true,true,true,false,true,true,true,true,true,true,false,false,false,true,false,false,false] (fun g49=>[(0,lv),(2,pB g1 0),(4,pB g4 0),(5,iw (i:Int)),(8,pB g49 0),(36,.agg (vc (ofS ((mst l i).2) y14.a))),(37,.agg #[pB hb2 0,pB hb3 0,lx]),(42,.agg #[iw y14.b.v.kind,iw y14.b.v.p,iw y14.b.v.q,sw y14.b.v.str,iw y14.b.v.ref,iw y14.b.obj]),(44,.agg #[pB hb2 0,pB hb3 0,lx]),(49,.agg #[iw y14.c.v.kind,iw y14.c.v.p,iw y14.c.v.q,sw y14.c.v.str,iw y14.c.v.ref,iw y14.c.obj])]) (fun g49=>blkA g49 zc 71::own VlT lx ((mst l i).2)::blkA g4 #[pB hb2 0,pB hb3 0,lx] 30::rhA hb3 ((mst l i).1)::hpA hb2 ((mst l i).1)::blkA g1 #[.pointer none,.pointer none,(.slice none 0 0)] 30::F) ?_ (fun hj154=>?_)
  .rintro g49;try dsimp only
   refine h_stepS3 13 21 22 ?_ ?_ ?_
   .refine sC [1] (of_s (L:=(mst l i).2) ol y14.b) ?_;refine nH [0,1,3] ?_;exact h_use hj138 g49 (rr [1,0,0,0,0,0] [])
   .refine s_alloc (.agg zc) zc (fun g155=>?_);refine nH [2,2,4] ?_;exact h_use hj143 (g155,g49) (rr [1,0,0,0,0,0,0] [])
   refine s_alloc (.agg zc) zc (fun g156=>?_);refine nH [2,2,4] ?_;exact h_use hj145 (g156,g49) (rr [1,0,0,0,0,0,0] [])
  refine h_join (ι:=Nat×Nat) 7 #[true,true,true,true,true,true,false,true,true,true,true,true,true,false,true,true,true,true,true,true,false,true,true,false,false,false,false] (fun (g52,g53)=>[(0,lv),(2,pB g1 0),(4,pB g4 0),(5,iw (i:Int)),(6,pB g52 0),(7,pB g53 0),(30,.agg #[pB hb2 0,pB hb3 0,lx]),(35,.agg #[iw y14.a.v.kind,iw y14.a.v.p,iw y14.a.v.q,sw y14.a.v.str,iw y14.a.v.ref,iw y14.a.obj]),(37,.agg #[pB hb2 0,pB hb3 0,lx]),(42,.agg #[iw y14.b.v.kind,iw y14.b.v.p,iw y14.b.v.q,sw y14.b.v.str,iw y14.b.v.ref,iw y14.b.obj]),(44,.agg #[pB hb2 0,pB hb3 0,lx]),(49,.agg #[iw y14.c.v.kind,iw y14.c.v.p,iw y14.c.v.q,sw y14.c.v.str,iw y14.c.v.ref,iw y14.c.obj])]) (fun (g52,g53)=>blkA g53 zc 71::blkA g52 zc 71::own VlT lx ((mst l i).2)::blkA g4 #[pB hb2 0,pB hb3 0,lx] 30::rhA hb3 ((mst l i).1)::hpA hb2 ((mst l i).1)::blkA g1 #[.pointer none,.pointer none,(.slice none 0 0)] 30::F) ?_ (fun hj157=>?_)
  .rintro ⟨g52,g53⟩;try dsimp only
   refine h_stepS2 6 23 ?_ ?_
   .refine sC [2] (of_s (L:=(mst l i).2) ol y14.a) ?_;refine nH [0,2,4] ?_;exact h_use hj141 (g52,g53) (rr [1,1,0,0,0,0,0] [])
   refine s_alloc (.agg zc) zc (fun g158=>?_);refine nH [3,3,5] ?_;exact h_use hj147 (g52,g53,g158) (rr [0,0,0,0,0,0,0,0] [])
  refine h_join (ι:=Nat×Nat) 7 #[true,true,true,true,true,true,false,true,true,true,true,true,true,false,true,true,true,true,true,true,false,true,false,true,false,false,false] (fun (g52,g55)=>[(0,lv),(2,pB g1 0),(4,pB g4 0),(5,iw (i:Int)),(6,pB g52 0),(8,pB g55 0),(30,.agg #[pB hb2 0,pB hb3 0,lx]),(35,.agg #[iw y14.a.v.kind,iw y14.a.v.p,iw y14.a.v.q,sw y14.a.v.str,iw y14.a.v.ref,iw y14.a.obj]),(37,.agg #[pB hb2 0,pB hb3 0,lx]),(42,.agg #[iw y14.b.v.kind,iw y14.b.v.p,iw y14.b.v.q,sw y14.b.v.str,iw y14.b.v.ref,iw y14.b.obj]),(44,.agg #[pB hb2 0,pB hb3 0,lx]),(49,.agg #[iw y14.c.v.kind,iw y14.c.v.p,iw y14.c.v.q,sw y14.c.v.str,iw y14.c.v.ref,iw y14.c.obj])]) (fun (g52,g55)=>blkA g55 zc 71::blkA g52 zc 71::own VlT lx ((mst l i).2)::blkA g4 #[pB hb2 0,pB hb3 0,lx] 30::rhA hb3 ((mst l i).1)::hpA hb2 ((mst l i).1)::blkA g1 #[.pointer none,.pointer none,(.slice none 0 0)] 30::F) ?_ (fun hj159=>?_)
  .rintro ⟨g52,g55⟩;try dsimp only
   refine h_stepS2 6 22 ?_ ?_
   .refine sC [2] (of_s (L:=(mst l i).2) ol y14.a) ?_;refine nH [0,2,4] ?_;exact h_use hj143 (g52,g55) (rr [1,1,0,0,0,0,0] [])
   refine s_alloc (.agg zc) zc (fun g160=>?_);refine nH [3,3,5] ?_;exact h_use hj147 (g52,g160,g55) (rr [1,0,0,0,0,0,0,0] [])
  refine h_join (ι:=Nat×Nat) 7 #[true,true,true,true,true,true,false,true,true,true,true,true,true,false,true,true,true,true,true,true,false,false,true,true,false,false,false] (fun (g57,g59)=>[(0,lv),(2,pB g1 0),(4,pB g4 0),(5,iw (i:Int)),(7,pB g57 0),(8,pB g59 0),(30,.agg #[pB hb2 0,pB hb3 0,lx]),(35,.agg #[iw y14.a.v.kind,iw y14.a.v.p,iw y14.a.v.q,sw y14.a.v.str,iw y14.a.v.ref,iw y14.a.obj]),(37,.agg #[pB hb2 0,pB hb3 0,lx]),(42,.agg #[iw y14.b.v.kind,iw y14.b.v.p,iw y14.b.v.q,sw y14.b.v.str,iw y14.b.v.ref,iw y14.b.obj]),(44,.agg #[pB hb2 0,pB hb3 0,lx]),(49,.agg #[iw y14.c.v.kind,iw y14.c.v.p,iw y14.c.v.q,sw y14.c.v.str,iw y14.c.v.ref,iw y14.c.obj])]) (fun (g57,g59)=>blkA g59 zc 71::blkA g57 zc 71::own VlT lx ((mst l i).2)::blkA g4 #[pB hb2 0,pB hb3 0,lx] 30::rhA hb3 ((mst l i).1)::hpA hb2 ((mst l i).1)::blkA g1 #[.pointer none,.pointer none,(.slice none 0 0)] 30::F) ?_ (fun hj161=>?_)
  .rintro ⟨g57,g59⟩;try dsimp only
   refine h_stepS2 6 21 ?_ ?_
   .refine sC [2] (of_s (L:=(mst l i).2) ol y14.a) ?_;refine nH [0,2,4] ?_;exact h_use hj145 (g57,g59) (rr [1,1,0,0,0,0,0] [])
   refine s_alloc (.agg zc) zc (fun g162=>?_);refine nH [3,3,5] ?_;exact h_use hj147 (g162,g57,g59) (rr [1,1,0,0,0,0,0,0] [])
  refine h_stepS4 6 21 22 23 ?_ ?_ ?_ ?_
  .refine sC [0] (of_s (L:=(mst l i).2) ol y14.a) ?_;refine nH [0,0,2]<|h_stepS4 13 21 22 23 ?_ ?_ ?_ ?_
   .refine sC [0] (of_s (L:=(mst l i).2) ol y14.b) ?_;refine nH [0,0,2]<|h_stepS4 20 21 22 23 ?_ ?_ ?_ ?_
    .refine sC [0] (of_s (L:=(mst l i).2) ol y14.c) ?_;refine nH [0,0,2]<|h_stepS3 21 22 23 ?_ ?_ ?_
     .refine s_alloc (.agg zc) zc (fun g163=>?_);refine nH [1,1,3] ?_;exact h_use hj116 g163 (rr [0,0,0,0,0,0] [])
     .refine s_alloc (.agg zc) zc (fun g164=>?_);refine nH [1,1,3] ?_;exact h_use hj119 g164 (rr [0,0,0,0,0,0] [])
     refine s_alloc (.agg zc) zc (fun g165=>?_);refine nH [1,1,3] ?_;exact h_use hj122 g165 (rr [0,0,0,0,0,0] [])
    .refine s_alloc (.agg zc) zc (fun g166=>?_);refine nH [1,1,3] ?_;exact h_use hj132 g166 (rr [0,0,0,0,0,0] [])
    .refine s_alloc (.agg zc) zc (fun g167=>?_);refine nH [1,1,3] ?_;exact h_use hj135 g167 (rr [0,0,0,0,0,0] [])
    refine s_alloc (.agg zc) zc (fun g168=>?_);refine nH [1,1,3] ?_;exact h_use hj138 g168 (rr [0,0,0,0,0,0] [])
   .refine s_alloc (.agg zc) zc (fun g169=>?_);refine nH [1,1,3] ?_;exact h_use hj148 g169 (rr [0,0,0,0,0,0] [])
   .refine s_alloc (.agg zc) zc (fun g170=>?_);refine nH [1,1,3] ?_;exact h_use hj151 g170 (rr [0,0,0,0,0,0] [])
   refine s_alloc (.agg zc) zc (fun g171=>?_);refine nH [1,1,3] ?_;exact h_use hj154 g171 (rr [0,0,0,0,0,0] [])
  .refine s_alloc (.agg zc) zc (fun g172=>?_);refine nH [1,1,3]<|h_stepS3 6 22 23 ?_ ?_ ?_
   .refine sC [1] (of_s (L:=(mst l i).2) ol y14.a) ?_;refine nH [0,1,3] ?_;exact h_use hj148 g172 (rr [1,0,0,0,0,0] [])
   .refine s_alloc (.agg zc) zc (fun g173=>?_);refine nH [2,2,4] ?_;exact h_use hj157 (g172,g173) (rr [0,0,0,0,0,0,0] [])
   refine s_alloc (.agg zc) zc (fun g174=>?_);refine nH [2,2,4] ?_;exact h_use hj159 (g172,g174) (rr [0,0,0,0,0,0,0] [])
  .refine s_alloc (.agg zc) zc (fun g175=>?_);refine nH [1,1,3]<|h_stepS3 6 21 23 ?_ ?_ ?_
   .refine sC [1] (of_s (L:=(mst l i).2) ol y14.a) ?_;refine nH [0,1,3] ?_;exact h_use hj151 g175 (rr [1,0,0,0,0,0] [])
   .refine s_alloc (.agg zc) zc (fun g176=>?_);refine nH [2,2,4] ?_;exact h_use hj157 (g176,g175) (rr [1,0,0,0,0,0,0] [])
   refine s_alloc (.agg zc) zc (fun g177=>?_);refine nH [2,2,4] ?_;exact h_use hj161 (g175,g177) (rr [0,0,0,0,0,0,0] [])
  refine s_alloc (.agg zc) zc (fun g178=>?_);refine nH [1,1,3]<|h_stepS3 6 21 22 ?_ ?_ ?_
  .refine sC [1] (of_s (L:=(mst l i).2) ol y14.a) ?_;refine nH [0,1,3] ?_;exact h_use hj154 g178 (rr [1,0,0,0,0,0] [])
  .refine s_alloc (.agg zc) zc (fun g179=>?_);refine nH [2,2,4] ?_;exact h_use hj159 (g179,g178) (rr [1,0,0,0,0,0,0] [])
  refine s_alloc (.agg zc) zc (fun g180=>?_);refine nH [2,2,4] ?_;exact h_use hj161 (g180,g178) (rr [1,0,0,0,0,0,0] [])
 have p181:=c9;simp only[Bool.and_eq_true,Bool.or_eq_true,Bool.and_eq_false_iff,Bool.or_eq_false_iff,Bool.not_eq_true',Bool.not_eq_false',decide_eq_true_eq,decide_eq_false_iff_not]at p181;refine k_exit<|xs_exit<|xs_exit<|xs_here<|xs_then<|k_sr<|sL (t_loadA 1 #[pB hb2 0,pB hb3 0,lx])<|sF 0 (fun hf182=>?_)
 refine s_store (u:=.agg #[pB hb2 0,pB hb3 0,lx]) (m:=3) 4 #[pB hb2 0,pB hb3 0,lx] ?_ (hm:=by (obtain⟨_,_,e⟩:=hf182;rw[e];rfl)) (h1:=by (obtain⟨_,_,e⟩:=hf182;rw[e];rfl)) (ha':=by (obtain⟨_,_,e⟩:=hf182;rw[e];rfl));refine sP (.bool true)<|s_nt<|k_ret ?_
 have hend:made l=mst l i:=by unfold made;congr 1;omega
 exact xs_fin [.agg #[.pointer (some ⟨hb2,0,none⟩),.pointer (some ⟨hb3,0,none⟩),lx],.bool true] (hpA hb2 (mst l i).1::rhA hb3 (mst l i).1::own VlT lx (mst l i).2::F) (SI.agg 2 30 4 (SI.tmp 3 SI.nil)) (rr [3,2,0] [3,3]) ⟨hb2,hb3,lx,rfl,by rw[hend]⟩
end Go.Proofs.YtmhpcebiamkciaaGreat
end
section
set_option linter.unusedSimpArgs false
set_option linter.unusedVariables false
set_option maxRecDepth 100000
set_option maxHeartbeats 2000000
namespace Go.Proofs.YtmhpcebiamkciaaGreat
open Go.Hp Go.J Go.S
open Go.Mem (Ty KTy blk elemAt pre suf blk_pre blk_suf aget aset strK aggDesc)
open Go.Mem (adel apos aget_aset aget_adel)
structure Ob where
 id:Int
 size:Int
 weak:Int
 rv:Sv
 ev:Sv
 refs:List Int
 ents:List Ent
abbrev Ob.v(x:Ob):Value:=.agg #[iw x.id,iw x.size,iw x.weak,x.rv.v,x.ev.v]
def ObT:Ty Ob:=⟨100,5,72,true,Ob.v,⟨0,0,0,⟨none,0,0⟩,⟨none,0,0⟩,[],[]⟩⟩
theorem ObT_ok:ObT.Ok Tryz.prog:=ok_of ObT _ Tryz.t100 (by decide) (fun _=>rfl) (fun x u hu=>by simp[Ty.enc,ObT,Value.cells]at hu;rcases hu with rfl|rfl|rfl|rfl|rfl<;>rfl) (fun _=>rfl) Tryz.underlying100 rfl (fun h=>by cases h) (by kernel_rfl) (by kernel_rfl) (by kernel_rfl) (by kernel_rfl)
def KnO(Z:Zone)(x:Ob):Prop:=Kn Z iTy x.rv.v x.refs∧Kn Z EntT x.ev.v x.ents
structure KnG(Z:Zone)(ov rv:Value)(l:List Ob)(R:List Int):Prop where
 obs:Kn Z ObT ov l
 roots:Kn Z iTy rv R
 each:∀x∈l,KnO Z x
theorem KnG.up{Z:Zone}{As:List Asr}{H:Heap}{ov rv:Value}{l:List Ob}{R:List Int}(k:KnG Z ov rv l R)(h:Holds Z As H):KnG (zoneOf H) ov rv l R:=
 ⟨k.obs.up h,k.roots.up h,fun x hx=>⟨(k.each x hx).1.up h,(k.each x hx).2.up h⟩⟩
def GrA(ov rv:Value)(l:List Ob)(R:List Int)(H:Heap):Prop:=Sl H ObT ov l∧Sl H iTy rv R∧∀x∈l,Sl H iTy x.rv.v x.refs∧Sl H EntT x.ev.v x.ents
theorem GrA.kn{ov rv:Value}{l:List Ob}{R:List Int}{H:Heap}(h:GrA ov rv l R H):KnG (zoneOf H) ov rv l R:=⟨.of h.1,.of h.2.1,fun x hx=>⟨.of (h.2.2 x hx).1,.of (h.2.2 x hx).2⟩⟩
abbrev Ob.c(x:Ob):Int×Int×Int×List Int×List Ent:=(x.id,x.size,x.weak,x.refs,x.ents)
def chk(last:Int):List Ob→Bool
 | []=>true
 | x::r=>!(decide (x.id≤last)||(decide (x.size<0)||(decide (x.weak<0)||decide (3<x.weak))))&&chk x.id r
theorem chk_cons{last:Int}{x:Ob}{r:List Ob}(h:chk last (x::r)=true):last<x.id∧0≤x.size∧0≤x.weak∧x.weak≤3∧chk x.id r=true:=by
 simp only[chk,Bool.and_eq_true,Bool.not_eq_true',Bool.or_eq_false_iff,decide_eq_false_iff_not]at h;obtain⟨⟨h1,h2,h3,h4⟩,h5⟩:=h;exact⟨by omega,by omega,by omega,by omega,h5⟩
theorem chk_lt{last:Int}{l:List Ob}(h:chk last l=true):∀x∈l,last<x.id:=by
 induction l generalizing last with
 | nil=>simp
 | cons x r ih=>
  obtain⟨h1,_,_,_,h5⟩:=chk_cons h;intro y hy;rcases List.mem_cons.1 hy with rfl|hy
  .exact h1
  have:=ih h5 y hy;omega
theorem chk_asc{last:Int}{l:List Ob}(h:chk last l=true):l.Pairwise (fun x y=>x.id<y.id):=by
 induction l generalizing last with
 | nil=>simp
 | cons x r ih=>
  obtain⟨h1,_,_,_,h5⟩:=chk_cons h;exact List.pairwise_cons.2 ⟨fun y hy=>chk_lt h5 y hy,ih h5⟩
theorem chk_weak{last:Int}{l:List Ob}(h:chk last l=true):∀x∈l,0≤x.weak∧x.weak≤3:=by
 induction l generalizing last with
 | nil=>simp
 | cons x r ih=>
  obtain⟨_,_,h3,h4,h5⟩:=chk_cons h;intro y hy;rcases List.mem_cons.1 hy with rfl|hy
  .exact ⟨h3,h4⟩
  exact ih h5 y hy
theorem chk_drop{last:Int}{l:List Ob}{i:Nat}{y:Ob}(hy:l[i]?=some y):chk last (l.drop i)=(!(decide (y.id≤last)||(decide (y.size<0)||(decide (y.weak<0)||decide (3<y.weak))))&&chk y.id (l.drop (i+1))):=by
 have h:l.drop i=y::l.drop (i+1):=by
  obtain⟨hi,e⟩:=List.getElem?_eq_some_iff.1 hy;rw[←e];exact List.drop_eq_getElem_cons hi
 rw[h];rfl
abbrev Asc(l:List Ob):Prop:=l.Pairwise (fun x y=>x.id<y.id)
theorem asc_lt{l:List Ob}(h:Asc l){i j:Nat}{x y:Ob}(hx:l[i]?=some x)(hy:l[j]?=some y)(hij:i<j):x.id<y.id:=by
 obtain⟨hi,e1⟩:=List.getElem?_eq_some_iff.1 hx;obtain⟨hj,e2⟩:=List.getElem?_eq_some_iff.1 hy;rw[←e1,←e2];exact List.pairwise_iff_getElem.1 h i j hi hj hij
theorem asc_inj{l:List Ob}(h:Asc l){i j:Nat}{x y:Ob}(hx:l[i]?=some x)(hy:l[j]?=some y)(e:x.id=y.id):i=j:=by
 rcases Nat.lt_trichotomy i j with hij|rfl|hij
 .have:=asc_lt h hx hy hij;omega
 .rfl
 have:=asc_lt h hy hx hij;omega
def fnd(l:List Ob)(id:Int):Option Ob:=l.find? fun o=>decide (o.id=id)
theorem fnd_id{l:List Ob}{id:Int}{o:Ob}(h:fnd l id=some o):o.id=id∧o∈l:=by
 have h1:=List.find?_some h;exact⟨by simpa using h1,List.mem_of_find?_eq_some h⟩
theorem fnd_none{l:List Ob}{id:Int}(h:fnd l id=none):∀o∈l,o.id≠id:=by
 intro o ho;have:=List.find?_eq_none.1 h o ho;simpa using this
theorem fnd_mem{l:List Ob}(h:Asc l){o:Ob}(ho:o∈l):fnd l o.id=some o:=by
 cases hf:fnd l o.id with
 | none=>exact absurd rfl (fnd_none hf o ho)
 | some p=>
  obtain⟨h1,h2⟩:=fnd_id hf;obtain⟨i,hi⟩:=List.mem_iff_getElem?.1 ho;obtain⟨j,hj⟩:=List.mem_iff_getElem?.1 h2;have:=asc_inj h hj hi h1;subst this;rw[hi]at hj;rw[hj]
abbrev Is(l:List Ob)(x:Int):Prop:=(fnd l x).isSome=true
structure Bis(ks:List Int)(n:Int)(lo hi:Nat):Prop where
 le:lo≤hi
 top:hi≤ks.length
 below:∀(j:Nat) y,j<lo→ks[j]?=some y→y<n
 above:∀(j:Nat) y,hi≤j→ks[j]?=some y→n≤y
theorem get_lt{ks:List Int}(h:ks.Pairwise (· < ·)){i j:Nat}{x y:Int}(hx:ks[i]?=some x)(hy:ks[j]?=some y)(hij:i<j):x<y:=by
 obtain⟨hi,e1⟩:=List.getElem?_eq_some_iff.1 hx;obtain⟨hj,e2⟩:=List.getElem?_eq_some_iff.1 hy;rw[←e1,←e2];exact List.pairwise_iff_getElem.1 h i j hi hj hij
theorem Bis.up {ks : List Int} (hs : ks.Pairwise (· < ·)) {n y : Int} {lo hi md : Nat} (h : Bis ks n lo hi) (hy : ks[md]? = some y) (hm : lo ≤ md ∧ md < hi) (hlt : y < n) : Bis ks n (md + 1) hi :=
  ⟨by omega, h.top, fun j z hj hz => by
    rcases Nat.lt_or_ge j md with h1 | h1
    · have := get_lt hs hz hy h1; omega
    · have : j = md := by omega
      subst this; rw [hy] at hz; cases hz; exact hlt, h.above⟩
theorem Bis.down {ks : List Int} (hs : ks.Pairwise (· < ·)) {n y : Int} {lo hi md : Nat} (h : Bis ks n lo hi) (hy : ks[md]? = some y) (hm : lo ≤ md ∧ md < hi) (hge : ¬ y < n) : Bis ks n lo md :=
  ⟨hm.1, by have := h.top; omega, h.below, fun j z hj hz => by
    rcases Nat.lt_or_ge md j with h1 | h1
    · have := get_lt hs hy hz h1; omega
    · have : j = md := by omega
      subst this; rw [hy] at hz; cases hz; omega⟩
theorem Bis.end_{ks:List Int}(hs:ks.Pairwise (· < ·)){n:Int}{lo hi:Nat}(h:Bis ks n lo hi)(he:¬lo<hi):n∈ks↔ks[lo]?=some n:=by
 have hl:lo=hi:=by have:=h.le;omega
 subst hl;constructor
 .intro hm;obtain⟨j,hj⟩:=List.mem_iff_getElem?.1 hm;rcases Nat.lt_trichotomy j lo with h1|rfl|h1
  .have:=h.below j n h1 hj;omega
  .exact hj
  have hjl:j<ks.length:=(List.getElem?_eq_some_iff.1 hj).1;obtain⟨y,hy⟩:∃y,ks[lo]?=some y:=⟨_,List.getElem?_eq_getElem om⟩;have h2:=h.above lo y (Nat.le_refl _) hy;have h3:=get_lt hs hy hj h1;omega
 exact fun h=>List.mem_of_getElem? h
theorem Bis.found{ks:List Int}(hs:ks.Pairwise (· < ·)){n y:Int}{lo hi:Nat}(h:Bis ks n lo hi)(he:¬lo<hi)(hy:ks[lo]?=some y):decide (y=n)=decide (n∈ks):=by
 rw[decide_eq_decide,h.end_ hs he,hy];exact⟨fun h=>by rw[h],fun h=>Option.some.inj h⟩
def errI(b:Bool):Int:=if b then 0 else 2
end Go.Proofs.YtmhpcebiamkciaaGreat
end
section
set_option linter.unusedSimpArgs false
set_option linter.unusedVariables false
set_option maxRecDepth 100000
namespace Go.Proofs.YtmhpcebiamkciaaGreat
open Go.Hp Go.J Go.S
open Go.Mem (Ty KTy blk elemAt pre suf blk_pre blk_suf aget aset strK aggDesc)
open Go.Mem (adel apos aget_aset aget_adel)
open Go.S
def keptE(weak:Int)(e:Ent):List Int:=if weak=1 then (if e.key=0 then [e.val] else []) else if weak=2 then [e.key] else if weak=3 then [] else [e.key,e.val]
theorem keptE_len(weak:Int)(e:Ent):(keptE weak e).length≤2:=by unfold keptE;split<;>(try split)<;>(try split)<;>simp
def keptO(o:Ob):List Int:=o.refs++o.ents.flatMap (keptE o.weak)
theorem kept_len(weak:Int):∀L:List Ent,(L.flatMap (keptE weak)).length≤2*L.length
 | []=>by simp
 | e::r=>by
  have h1:=kept_len weak r;have h2:=keptE_len weak e;simp only[List.flatMap_cons,List.length_append,List.length_cons];omega
theorem keptO_len(o:Ob):(keptO o).length≤o.refs.length+2*o.ents.length:=by
 unfold keptO;rw[List.length_append];have:=kept_len o.weak o.ents;omega
theorem kept_take{weak:Int}{L:List Ent}{k:Nat}{e:Ent}(h:L[k]?=some e):(L.take k).flatMap (keptE weak)++keptE weak e=(L.take (k+1)).flatMap (keptE weak):=by
 rw[List.take_add_one,h];simp[List.flatMap_append]
def pot:List Ob→List Int→Nat
 | [],_=>0
 | o::r,M=>(if o.id∈M then 0 else 1+(keptO o).length)+pot r M
theorem pot_mono{M N:List Int}(h:∀x∈M,x∈N):∀l,pot l N≤pot l M
 | []=>Nat.le_refl _
 | o::r=>by
  have:=pot_mono h r;simp only[pot];by_cases h1:o.id∈M
  .simp [h1,h _ h1];exact this
  by_cases h2:o.id∈N<;>simp[h1,h2]<;>omega
theorem pot_add{M:List Int}{id:Int}{o:Ob}(hn:id∉M):∀{l:List Ob},fnd l id=some o→pot l (M++[id])+1+(keptO o).length≤pot l M
 | [],h=>by simp[fnd]at h
 | p::r,h=>by
  unfold fnd at h;rw[List.find?_cons]at h;split at h
  .rename_i hp;injection h with h;subst h
   have hp:p.id=id:=by simpa using hp
   have:=pot_mono (M:=M) (N:=M++[id]) (fun x hx=>List.mem_append_left _ hx) r;simp only[pot,hp,List.mem_append,List.mem_singleton,or_true,if_true,hn,if_false];omega
  rename_i hp
  have hp:p.id≠id:=by simpa using hp
  have ih:=pot_add hn (l:=r) h;simp only[pot,List.mem_append,List.mem_singleton,hp,or_false];omega
theorem pot_le:∀l:List Ob,(∀o∈l,o.refs.length≤400∧o.ents.length≤100000)→∀M,pot l M≤200401*l.length
 | [],_,_=>by simp[pot]
 | o::r,h,M=>by
  have h1:=pot_le r (fun x hx=>h x (List.mem_cons_of_mem _ hx)) M;have h2:=h o (by simp);have h3:=keptO_len o;simp only[pot,List.length_cons];split<;>omega
theorem last_pos{W:List Int}{id:Int}(h:W.getLast?=some id):0<W.length:=by
 cases W with
 | nil=>simp at h
 | cons a r=>simp
def dfs(l:List Ob)(M W:List Int):List Int:=
 match hw:W.getLast? with
 | none=>M
 | some id=>
  match hf:fnd l id with
  | none=>dfs l M W.dropLast
  | some o=>if hm:id∈M then dfs l M W.dropLast else dfs l (M++[id]) (W.dropLast++keptO o)
termination_by pot l M+W.length
decreasing_by
  all_goals have hpos:=last_pos hw
  · simp only[List.length_dropLast];omega
  · simp only[List.length_dropLast];omega
  · have:=pot_add hm hf
    simp only[List.length_dropLast,List.length_append];omega
theorem dfs_nil(l:List Ob)(M:List Int):dfs l M []=M:=by
 rw[dfs];rfl
theorem dfs_none{l:List Ob}{M W:List Int}{id:Int}(hf:fnd l id=none):dfs l M (W++[id])=dfs l M W:=by
 rw[dfs];split
 .rename_i h;simp at h
 rename_i id' h
 simp at h;subst h;split
 .simp
 rename_i o h;rw[hf]at h;cases h
theorem dfs_in{l:List Ob}{M W:List Int}{id:Int}(hm:id∈M):dfs l M (W++[id])=dfs l M W:=by
 rw[dfs];split
 .rename_i h;simp at h
 rename_i id' h
 simp at h;subst h;split
 .simp
 rename_i o h;rw[dif_pos hm];simp
theorem dfs_new{l:List Ob}{M W:List Int}{id:Int}{o:Ob}(hf:fnd l id=some o)(hm:id∉M):dfs l M (W++[id])=dfs l (M++[id]) (W++keptO o):=by
 rw[dfs];split
 .rename_i h;simp at h
 rename_i id' h
 simp at h;subst h;split
 .rename_i h;rw[hf]at h;cases h
 rename_i o' h;rw[hf]at h;cases h;rw[dif_neg hm];simp
theorem dfs_ind{l:List Ob}{C:List Int→List Int→Prop}(h0:∀M,C M [])(h1:∀M W id,fnd l id=none∨id∈M→C M W→C M (W++[id]))
  (h2:∀M W id o,fnd l id=some o→id∉M→C (M++[id]) (W++keptO o)→C M (W++[id])) (M W:List Int):C M W:=by
 have key:∀n M W,pot l M+W.length≤n→C M W:=by
  intro n;induction n with
  | zero=>
   intro M W h;have:W=[]:=List.eq_nil_of_length_eq_zero om;subst this;exact h0 M
  | succ n ih=>
   intro M W h;rcases List.eq_nil_or_concat W with rfl|⟨W',id,rfl⟩
   .exact h0 M
   rw[List.concat_eq_append]at h⊢;simp only[List.length_append,List.length_singleton]at h;cases hf:fnd l id with
   | none=>exact h1 M W' id (.inl hf) (ih M W' om)
   | some o=>
    by_cases hm:id∈M
    .exact h1 M W' id (.inr hm) (ih M W' om)
    have:=pot_add hm hf;exact h2 M W' id o hf hm (ih _ _ (by simp only[List.length_append];omega))
 exact key _ M W (Nat.le_refl _)
theorem dfs_skip{l:List Ob}{M W:List Int}{id:Int}(h:fnd l id=none∨id∈M):dfs l M (W++[id])=dfs l M W:=by
 rcases h with h|h
 .exact dfs_none h
 exact dfs_in h
theorem snoc_of{W:List Int}{y:Int}(h:W[W.length-1]?=some y):W.take (W.length-1)++[y]=W:=by
 obtain⟨hi,e⟩:=List.getElem?_eq_some_iff.1 h;have h3:W.take (W.length-1+1)=W.take (W.length-1)++[y]:=by rw[List.take_add_one,h];rfl
 rw[←h3,show W.length-1+1=W.length by omega,List.take_length]
/-! ### What the search finds -/
inductive Rch(l:List Ob):Int→Int→Prop
 | self {w:Int}:Is l w→Rch l w w
 | step {w y z:Int}{o:Ob}:Is l w→fnd l w=some o→y∈keptO o→Rch l y z→Rch l w z
theorem Rch.is{l:List Ob}{w x:Int}(h:Rch l w x):Is l w∧Is l x:=by
 induction h with
 | self h=>exact⟨h,h⟩
 | step h _ _ _ ih=>exact⟨h,ih.2⟩
structure Found(l:List Ob)(M W N:List Int):Prop where
 old:∀x∈M,x∈N
 got:∀w∈W,Is l w→w∈N
 closed:∀x∈N,x∉M→∃o,fnd l x=some o∧∀z∈keptO o,Is l z→z∈N
 sound:∀x∈N,x∈M∨∃w∈W,Rch l w x
 nodup:M.Nodup→N.Nodup
 len:M.length≤N.length
theorem found(l:List Ob)(M W:List Int):Found l M W (dfs l M W):=by
 refine dfs_ind (l:=l) (C:=fun M W=>Found l M W (dfs l M W)) ?_ ?_ ?_ M W
 .intro M;rw[dfs_nil];exact⟨fun x h=>h,by simp,fun x h1 h2=>absurd h1 h2,fun x h=>.inl h,fun h=>h,Nat.le_refl _⟩
 .intro M W id hs ih;rw[dfs_skip hs];refine⟨ih.old,fun w hw hi=>?_,ih.closed,fun x hx=>?_,ih.nodup,ih.len⟩
  .rcases List.mem_append.1 hw with h|h
   .exact ih.got w h hi
   simp at h;subst h;rcases hs with h|h
   .rw [Is,h]at hi;cases hi
   exact ih.old _ h
  rcases ih.sound x hx with h|⟨w,h,r⟩
  .exact .inl h
  exact .inr ⟨w,List.mem_append_left _ h,r⟩
 intro M W id o hf hm ih;rw[dfs_new hf hm];have hid:Is l id:=by rw[Is,hf];rfl
 have hin:id∈dfs l (M++[id]) (W++keptO o):=ih.old _ (by simp);refine⟨fun x h=>ih.old x (List.mem_append_left _ h),fun w hw hi=>?_,fun x hx hn=>?_,fun x hx=>?_,fun h=>ih.nodup ?_,?_⟩
 .rcases List.mem_append.1 hw with h|h
  .exact ih.got w (List.mem_append_left _ h) hi
  simp at h;subst h;exact hin
 .by_cases e:x=id
  .subst e;exact⟨o,hf,fun z hz hi=>ih.got z (List.mem_append_right _ hz) hi⟩
  exact ih.closed x hx (by simp[hn,e])
 .rcases ih.sound x hx with h|⟨w,h,r⟩
  .rcases List.mem_append.1 h with h|h
   .exact .inl h
   simp at h;subst h;exact .inr ⟨x,by simp,.self hid⟩
  rcases List.mem_append.1 h with h|h
  .exact .inr ⟨w,List.mem_append_left _ h,r⟩
  exact .inr ⟨id,by simp,.step hid hf h r⟩
 .rw [List.nodup_append];exact⟨h,by simp,fun a ha b hb=>by simp at hb;subst hb;exact fun e=>hm (e▸ha)⟩
 have:=ih.len;simp only[List.length_append,List.length_singleton]at this;omega
def Clo(l:List Ob)(M:List Int):Prop:=(∀x∈M,Is l x)∧∀x∈M,∀o,fnd l x=some o→∀z∈keptO o,Is l z→z∈M
theorem clo_nil(l:List Ob):Clo l []:=⟨by simp,by simp⟩
theorem rch_in{l:List Ob}{N:List Int}(hc:Clo l N){w x:Int}(h:Rch l w x):w∈N→x∈N:=by
 induction h with
 | self _=>exact fun h=>h
 | step _ hf hy r ih=>exact fun h=>ih (hc.2 _ h _ hf _ hy r.is.1)
theorem clo_dfs{l:List Ob}{M W:List Int}(hc:Clo l M):Clo l (dfs l M W):=by
 have f:=found l M W;refine⟨fun x hx=>?_,fun x hx o hf z hz hi=>?_⟩
 .rcases f.sound x hx with h|⟨w,_,r⟩
  .exact hc.1 x h
  exact r.is.2
 by_cases hm:x∈M
 .exact f.old z (hc.2 x hm o hf z hz hi)
 obtain⟨o',h1,h2⟩:=f.closed x hx hm;rw[hf]at h1;cases h1;exact h2 z hz hi
theorem mem_dfs{l:List Ob}{M W:List Int}(hc:Clo l M)(x:Int):x∈dfs l M W↔x∈M∨∃w∈W,Rch l w x:=by
 have f:=found l M W;refine⟨f.sound x,?_⟩;rintro (h|⟨w,hw,r⟩)
 .exact f.old x h
 exact rch_in (clo_dfs hc) r (f.got w hw r.is.1)
theorem srt_perm{A B:List Int}(h:A.Perm B):srt A=srt B:=by
 have tr:∀a b c:Int,decide (a≤b)=true→decide (b≤c)=true→decide (a≤c)=true:=fun a b c h1 h2=>by simp at *;omega
 have to:∀a b:Int,(decide (a≤b)||decide (b≤a))=true:=fun a b=>by simp;omega
 refine List.Perm.eq_of_pairwise (le:=fun a b=>decide (a≤b)=true) (fun a b _ _ h1 h2=>by simp at *;omega) (List.pairwise_mergeSort tr to A) (List.pairwise_mergeSort tr to B) ?_;exact (List.mergeSort_perm A _).trans (h.trans (List.mergeSort_perm B _).symm)
theorem srt_asc{A:List Int}(h:A.Pairwise (· < ·)):srt A=A:=List.mergeSort_of_pairwise (h.imp fun h=>by simp;omega)
def tabs(l:List Ob):List Ob:=l.filter fun o=>decide (o.weak=1)
def stepE(l:List Ob)(s:List Int×Bool)(e:Ent):List Int×Bool:=if e.key∈s.1 then (dfs l s.1 [e.val],s.2||decide (s.1.length<(dfs l s.1 [e.val]).length)) else s
def stepT(l:List Ob)(s:List Int×Bool)(o:Ob):List Int×Bool:=if o.id∈s.1 then o.ents.foldl (stepE l) s else s
def rnd(l:List Ob)(M:List Int):List Int×Bool:=(tabs l).foldl (stepT l) (M,false)
def runs(l:List Ob):Nat→List Int×Nat→List Int×Nat
 | 0,s=>s
 | k+1,s=>if (rnd l s.1).2=true then runs l k ((rnd l s.1).1,s.2+1) else ((rnd l s.1).1,s.2)
def rootsP(l:List Ob)(M:List Int)(R:List Int):List Int:=R.foldl (fun M id=>dfs l M [id]) M
def allPG(l:List Ob)(R:List Int):List Int×Nat:=runs l (l.length+1) (rootsP l [] R,1)
def allR(l:List Ob)(R:List Int):List Int×Nat:=runs l (l.length+1) (dfs l [] R,1)
theorem fold_take{α β:Type}{f:β→α→β}{L:List α}{k:Nat}{e:α}{s:β}(h:L[k]?=some e):(L.take (k+1)).foldl f s=f ((L.take k).foldl f s) e:=by
 rw[List.take_add_one,h,List.foldl_append];rfl
theorem fold_end{α β:Type}{f:β→α→β}{L:List α}{k:Nat}{s:β}(h:L.length≤k):(L.take k).foldl f s=L.foldl f s:=by rw[List.take_of_length_le h]
structure Good(l:List Ob)(M:List Int):Prop where
 clo:Clo l M
 nodup:M.Nodup
theorem good_nil(l:List Ob):Good l []:=⟨clo_nil l,List.nodup_nil⟩
theorem Good.dfs{l:List Ob}{M:List Int}(h:Good l M)(W:List Int):Good l (dfs l M W):=⟨clo_dfs h.clo,(found l M W).nodup h.nodup⟩
theorem Good.len{l:List Ob}{M:List Int}(h:Good l M):M.length≤l.length:=by
 have:=h.nodup.length_le_of_subset (l₂:=l.map Ob.id) fun x hx=>by
  have:=h.clo.1 x hx;obtain⟨o,ho⟩:=Option.isSome_iff_exists.1 this;obtain⟨h1,h2⟩:=fnd_id ho;exact List.mem_map.2 ⟨o,h2,h1⟩
 rwa [List.length_map]at this
theorem Good.roots{l:List Ob}(R:List Int):∀{M:List Int},Good l M→Good l (rootsP l M R):=by
 induction R with
 | nil=>exact fun h=>h
 | cons a r ih=>exact fun h=>ih (h.dfs [a])
structure Step(l:List Ob)(s t:List Int×Bool):Prop where
 good:Good l s.1→Good l t.1
 sub:∀x∈s.1,x∈t.1
 len:s.1.length≤t.1.length
 flag:t.2=(s.2||decide (s.1.length<t.1.length))
theorem Step.refl{l:List Ob}(s:List Int×Bool):Step l s s:=⟨fun h=>h,fun x h=>h,Nat.le_refl _,by simp⟩
theorem Step.trans{l:List Ob}{s t u:List Int×Bool}(h:Step l s t)(k:Step l t u):Step l s u:=by
 refine⟨fun g=>k.good (h.good g),fun x hx=>k.sub x (h.sub x hx),Nat.le_trans h.len k.len,?_⟩;rw[k.flag,h.flag,Bool.or_assoc];congr 1;rw[←Bool.decide_or,decide_eq_decide];have:=h.len;have:=k.len;omega
theorem step_e(l:List Ob)(s:List Int×Bool)(e:Ent):Step l s (stepE l s e):=by
 unfold stepE;split
 .have f:=found l s.1 [e.val];exact⟨fun g=>g.dfs _,f.old,f.len,rfl⟩
 exact Step.refl s
theorem step_fold{α:Type}{l:List Ob}{f:List Int×Bool→α→List Int×Bool}(hf:∀s a,Step l s (f s a))(L:List α):∀s,Step l s (L.foldl f s):=by
 induction L with
 | nil=>exact fun s=>Step.refl s
 | cons a r ih=>exact fun s=>(hf s a).trans (ih _)
theorem step_t(l:List Ob)(s:List Int×Bool)(o:Ob):Step l s (stepT l s o):=by
 unfold stepT;split
 .exact step_fold (step_e l) o.ents s
 exact Step.refl s
theorem step_r(l:List Ob)(M:List Int):Step l (M,false) (rnd l M):=step_fold (step_t l) (tabs l) (M,false)
theorem rnd_flag(l:List Ob)(M:List Int):(rnd l M).2=decide (M.length<(rnd l M).1.length):=by rw[(step_r l M).flag];simp
theorem runs_step{l:List Ob}{k:Nat}{M:List Int}{n:Nat}(h:(rnd l M).2=true):runs l (k+1) (M,n)=runs l k ((rnd l M).1,n+1):=by simp[runs,h]
theorem runs_end{l:List Ob}{k:Nat}{M:List Int}{n:Nat}(h:(rnd l M).2=false):runs l (k+1) (M,n)=((rnd l M).1,n):=by simp[runs,h]
theorem good_runs{l:List Ob}:∀(k:Nat) (s:List Int×Nat),Good l s.1→Good l (runs l k s).1
 | 0,s,h=>h
 | k+1,s,h=>by
  unfold runs;have hg:=(step_r l s.1).good h;split
  .exact good_runs k _ hg
  exact hg
/-! ### Sets that are the same -/
def Eqv(M N:List Int):Prop:=∀x,x∈M↔x∈N
theorem Eqv.len{M N:List Int}(h:Eqv M N)(h1:M.Nodup)(h2:N.Nodup):M.length=N.length:=
 Nat.le_antisymm (h1.length_le_of_subset fun x hx=>(h x).1 hx) (h2.length_le_of_subset fun x hx=>(h x).2 hx)
theorem eqv_dfs{l:List Ob}{M N V W:List Int}(hM:Good l M)(hN:Good l N)(h:Eqv M N)(hw:Eqv V W):Eqv (dfs l M V) (dfs l N W):=fun x=>by
 rw[mem_dfs hM.clo,mem_dfs hN.clo,h x];constructor
 .rintro (h|⟨w,h1,h2⟩)
  .exact .inl h
  exact .inr ⟨w,(hw w).1 h1,h2⟩
 rintro (h|⟨w,h1,h2⟩)
 .exact .inl h
 exact .inr ⟨w,(hw w).2 h1,h2⟩
structure Same2(l:List Ob)(s t:List Int×Bool):Prop where
 g1:Good l s.1
 g2:Good l t.1
 eqv:Eqv s.1 t.1
 flag:s.2=t.2
theorem same_e{l:List Ob}{s t:List Int×Bool}(h:Same2 l s t)(e:Ent):Same2 l (stepE l s e) (stepE l t e):=by
 unfold stepE;by_cases h1:e.key∈s.1
 .rw [if_pos h1,if_pos ((h.eqv _).1 h1)];have hd:=eqv_dfs (V:=[e.val]) (W:=[e.val]) h.g1 h.g2 h.eqv (fun _=>Iff.rfl);refine⟨h.g1.dfs _,h.g2.dfs _,hd,?_⟩;show (s.2||_)=(t.2||_);rw[h.flag,h.eqv.len h.g1.nodup h.g2.nodup,hd.len (h.g1.dfs _).nodup (h.g2.dfs _).nodup]
 rw[if_neg h1,if_neg fun h2=>h1 ((h.eqv _).2 h2)];exact h
theorem same_fold{α:Type}{l:List Ob}{f:List Int×Bool→α→List Int×Bool}(hf:∀s t a,Same2 l s t→Same2 l (f s a) (f t a))(L:List α):∀{s t},Same2 l s t→Same2 l (L.foldl f s) (L.foldl f t):=by
 induction L with
 | nil=>exact fun h=>h
 | cons a r ih=>exact fun h=>ih (hf _ _ a h)
theorem same_t{l:List Ob}{s t:List Int×Bool}(o:Ob)(h:Same2 l s t):Same2 l (stepT l s o) (stepT l t o):=by
 unfold stepT;by_cases h1:o.id∈s.1
 .rw [if_pos h1,if_pos ((h.eqv _).1 h1)];exact same_fold (fun s t e h=>same_e h e) o.ents h
 rw[if_neg h1,if_neg fun h2=>h1 ((h.eqv _).2 h2)];exact h
theorem same_r{l:List Ob}{M N:List Int}(h1:Good l M)(h2:Good l N)(h:Eqv M N):Same2 l (rnd l M) (rnd l N):=same_fold (fun s t o h=>same_t o h) (tabs l) ⟨h1,h2,h,rfl⟩
theorem same_runs{l:List Ob}:∀(k:Nat) {M N:List Int} (n:Nat),Good l M→Good l N→Eqv M N→Eqv (runs l k (M,n)).1 (runs l k (N,n)).1∧(runs l k (M,n)).2=(runs l k (N,n)).2
 | 0,M,N,n,h1,h2,h=>⟨h,rfl⟩
 | k+1,M,N,n,h1,h2,h=>by
  have hs:=same_r h1 h2 h;by_cases hf:(rnd l M).2=true
  .rw [runs_step hf,runs_step (hs.flag▸hf)];exact same_runs k (n+1) hs.g1 hs.g2 hs.eqv
  have hf:(rnd l M).2=false:=by simpa using hf
  rw[runs_end hf,runs_end (hs.flag▸hf)];exact⟨hs.eqv,rfl⟩
theorem mem_roots{l:List Ob}(R:List Int):∀{M:List Int},Good l M→∀x,x∈rootsP l M R↔x∈M∨∃w∈R,Rch l w x:=by
 induction R with
 | nil=>intro M h x;simp[rootsP]
 | cons a r ih=>
  intro M h x;show x∈rootsP l (dfs l M [a]) r↔_;rw[ih (h.dfs [a]) x,mem_dfs h.clo];simp[or_assoc]
theorem all_same(l:List Ob)(R:List Int):Eqv (allPG l R).1 (allR l R).1∧(allPG l R).2=(allR l R).2:=
 same_runs _ 1 ((good_nil l).roots R) ((good_nil l).dfs R) fun x=>by rw[mem_roots R (good_nil l) x,mem_dfs (clo_nil l)]
def liveG(l:List Ob)(M:List Int):List Int:=(l.filter fun o=>decide (o.id∈M)).map Ob.id
theorem live_asc{l:List Ob}(h:Asc l)(M:List Int):(liveG l M).Pairwise (· < ·):=by
 unfold liveG;rw[List.pairwise_map];exact h.filter _
theorem mem_live{l:List Ob}{M:List Int}(hM:Clo l M)(x:Int):x∈liveG l M↔x∈M:=by
 simp only[liveG,List.mem_map,List.mem_filter,decide_eq_true_eq];constructor
 .rintro ⟨o,⟨_,h⟩,rfl⟩;exact h
 intro h;obtain⟨o,ho⟩:=Option.isSome_iff_exists.1 (hM.1 x h);obtain⟨h1,h2⟩:=fnd_id ho;exact⟨o,⟨h2,h1▸h⟩,h1⟩
theorem srt_live{l:List Ob}(h:Asc l){M:List Int}(hM:Good l M):srt M=liveG l M:=by
 have hp:M.Perm (liveG l M):=(List.perm_ext_iff_of_nodup hM.nodup ((live_asc h M).imp fun h=>by omega)).2 fun x=>(mem_live hM.clo x).symm
 rw[srt_perm hp,srt_asc (live_asc h M)]
theorem live_eqv{l:List Ob}{M N:List Int}(h:Eqv M N):liveG l M=liveG l N:=by
 unfold liveG;congr 1;apply List.filter_congr;intro o _;rw[decide_eq_decide];exact h o.id
/-! ### The least set -/
structure Closed(l:List Ob)(R:List Int)(p:Int→Prop):Prop where
 roots:∀r∈R,Is l r→p r
 kept:∀x o,p x→fnd l x=some o→∀z∈keptO o,Is l z→p z
 eph:∀x o,p x→fnd l x=some o→o.weak=1→∀e∈o.ents,p e.key→Is l e.val→p e.val
theorem rch_p{l:List Ob}{R:List Int}{p:Int→Prop}(h:Closed l R p){w x:Int}(r:Rch l w x):p w→p x:=by
 induction r with
 | self _=>exact fun h=>h
 | step _ hf hy r ih=>exact fun hp=>ih (h.kept _ _ hp hf _ hy r.is.1)
theorem least_dfs{l:List Ob}{R:List Int}{p:Int→Prop}(h:Closed l R p){M W:List Int}(hM:∀x∈M,p x)(hW:∀w∈W,Is l w→p w):∀x∈dfs l M W,p x:=fun x hx=>by
 rcases (found l M W).sound x hx with h1|⟨w,h1,r⟩
 .exact hM x h1
 exact rch_p h r (hW w h1 r.is.1)
theorem least_fold{α:Type}{p:Int→Prop}{f:List Int×Bool→α→List Int×Bool}{L:List α}(hf:∀s,∀a∈L,(∀x∈s.1,p x)→∀x∈(f s a).1,p x):∀{s:List Int×Bool},(∀x∈s.1,p x)→∀x∈(L.foldl f s).1,p x:=by
 induction L with
 | nil=>exact fun h=>h
 | cons a r ih=>exact fun {s} h=>ih (fun s b hb=>hf s b (List.mem_cons_of_mem _ hb)) (hf s a (by simp) h)
theorem least_rnd{l:List Ob}(hl:Asc l){R:List Int}{p:Int→Prop}(h:Closed l R p){M:List Int}(hM:∀x∈M,p x):∀x∈(rnd l M).1,p x:=by
 refine least_fold (fun s o ho hs=>?_) hM;unfold stepT;split
 .rename_i hin;have ho':o∈l∧o.weak=1:=by simpa [tabs]using ho
  refine least_fold (fun s' e he hs'=>?_) hs;unfold stepE;split
  .rename_i hk;refine least_dfs h hs' fun w hw hi=>?_
   simp at hw;subst hw;exact h.eph o.id o (hs _ hin) (fnd_mem hl ho'.1) ho'.2 e he (hs' _ hk) hi
  exact hs'
 exact hs
theorem least_runs{l:List Ob}(hl:Asc l){R:List Int}{p:Int→Prop}(h:Closed l R p):∀(k:Nat) (s:List Int×Nat),(∀x∈s.1,p x)→∀x∈(runs l k s).1,p x
 | 0,s,hs=>hs
 | k+1,s,hs=>by
  unfold runs;split
  .exact least_runs hl h k _ (least_rnd hl h hs)
  exact least_rnd hl h hs
theorem least_all{l:List Ob}(hl:Asc l){R:List Int}{p:Int→Prop}(h:Closed l R p):∀x∈(allR l R).1,p x:=
 least_runs hl h _ _ (least_dfs h (by simp) h.roots)
theorem still_fold{α:Type}{l:List Ob}{f:List Int×Bool→α→List Int×Bool}(hf:∀s a,Step l s (f s a))(hid:∀s a,s.1.length=(f s a).1.length→f s a=s){L:List α}:∀{s:List Int×Bool},(L.foldl f s).1.length=s.1.length→∀a∈L,f s a=s:=by
 induction L with
 | nil=>intro s _ a ha;cases ha
 | cons b r ih=>
  intro s h a ha;have h1:=(hf s b).len;have h2:=(step_fold hf r (f s b)).len;have h3:((b::r).foldl f s).1.length=s.1.length:=h;rw[List.foldl_cons]at h3;have hb:=hid s b om;rcases List.mem_cons.1 ha with rfl|ha
  .exact hb
  exact ih (by rw[hb]at h3;exact h3) a ha
theorem dfs_same_len{l:List Ob}{M:List Int}:∀(W:List Int),(dfs l M W).length=M.length→dfs l M W=M:=fun W h=>by
 have key:∀M W,(dfs l M W).length=M.length→dfs l M W=M:=by
  refine dfs_ind (l:=l) (C:=fun M W=>(dfs l M W).length=M.length→dfs l M W=M) ?_ ?_ ?_
  .intro M _;exact dfs_nil l M
  .intro M W id hs ih h;rw[dfs_skip hs]at h ⊢;exact ih h
  intro M W id o hf hm ih h;rw[dfs_new hf hm]at h;have:=(found l (M++[id]) (W++keptO o)).len;simp only[List.length_append,List.length_singleton]at this;omega
 exact key M W h
theorem stepE_id{l:List Ob}(s:List Int×Bool)(e:Ent)(h:s.1.length=(stepE l s e).1.length):stepE l s e=s:=by
 unfold stepE at h⊢;split
 .rename_i hk;rw[if_pos hk]at h;have:=dfs_same_len [e.val] h.symm;rw[this];simp
 rfl
theorem fold_id{α:Type}{l:List Ob}{f:List Int×Bool→α→List Int×Bool}(hf:∀s a,Step l s (f s a))(hid:∀s a,s.1.length=(f s a).1.length→f s a=s):∀(L:List α) (s:List Int×Bool),s.1.length=(L.foldl f s).1.length→L.foldl f s=s
 | [],s,_=>rfl
 | b::r,s,h=>by
  rw[List.foldl_cons]at h⊢;have h1:=(hf s b).len;have h2:=(step_fold hf r (f s b)).len;have hb:=hid s b om;rw[hb]at h⊢;exact fold_id hf hid r s h
theorem stepT_id{l:List Ob}(s:List Int×Bool)(o:Ob)(h:s.1.length=(stepT l s o).1.length):stepT l s o=s:=by
 unfold stepT at h⊢;split
 .rename_i hk;rw[if_pos hk]at h;exact fold_id (step_e l) stepE_id o.ents s h
 rfl
theorem rnd_still{l:List Ob}{M:List Int}(h:(rnd l M).2=false):(rnd l M).1=M:=by
 rw[rnd_flag,decide_eq_false_iff_not]at h;have h1:=(step_r l M).len;have:rnd l M=(M,false):=fold_id (step_t l) stepT_id (tabs l) (M,false) (by show M.length=(rnd l M).1.length;have:M.length≤(rnd l M).1.length:=h1;omega);rw[this]
theorem rnd_eph{l:List Ob}{M:List Int}(h:(rnd l M).2=false){o:Ob}(ho:o∈l)(hw:o.weak=1)(hin:o.id∈M){e:Ent}(he:e∈o.ents)(hk:e.key∈M)(hi:Is l e.val):e.val∈M:=by
 have hlen:((tabs l).foldl (stepT l) (M,false)).1.length=M.length:=by
  rw[show ((tabs l).foldl (stepT l) (M,false))=rnd l M from rfl,rnd_still h]
 have h1:=still_fold (step_t l) stepT_id hlen o (by simp[tabs,ho,hw]);unfold stepT at h1;rw[if_pos hin]at h1;have h2:=still_fold (step_e l) stepE_id (L:=o.ents) (s:=(M,false)) (by rw[h1]) e he;unfold stepE at h2;rw[if_pos hk]at h2;have h3:dfs l M [e.val]=M:=congrArg Prod.fst h2;rw[←h3];exact (found l M [e.val]).got _ (by simp) hi
theorem runs_closed{l:List Ob}:∀(k:Nat) (s:List Int×Nat),Good l s.1→l.length<k+s.1.length→(rnd l (runs l k s).1).2=false
 | 0,s,hg,h=>by have:=hg.len;omega
 | k+1,s,hg,h=>by
  have hs:=step_r l s.1;unfold runs;split
  .rename_i hf;rw[rnd_flag,decide_eq_true_eq]at hf;exact runs_closed k _ (hs.good hg) (by show l.length<k+(rnd l s.1).1.length;omega)
  rename_i hf
  have hf:(rnd l s.1).2=false:=by simpa using hf
  show (rnd l (rnd l s.1).1).2=false;rw[rnd_still hf];exact hf
theorem runs_sub{l:List Ob}:∀(k:Nat) (s:List Int×Nat),∀x∈s.1,x∈(runs l k s).1
 | 0,s,x,h=>h
 | k+1,s,x,h=>by
  unfold runs;have h1:=(step_r l s.1).sub x h;split
  .exact runs_sub k _ x h1
  exact h1
theorem all_good(l:List Ob)(R:List Int):Good l (allR l R).1:=good_runs _ _ ((good_nil l).dfs R)
theorem allP_good(l:List Ob)(R:List Int):Good l (allPG l R).1:=good_runs _ _ ((good_nil l).roots R)
theorem all_closed{l:List Ob}(hl:Asc l)(R:List Int):Closed l R (· ∈ (allR l R).1):=by
 have hg:=all_good l R;refine⟨fun r hr hi=>runs_sub _ _ r ((found l [] R).got r hr hi),fun x o hx hf z hz hi=>hg.clo.2 x hx o hf z hz hi,fun x o hx hf hw e he hk hi=>?_⟩;obtain⟨h1,h2⟩:=fnd_id hf;exact rnd_eph (runs_closed _ _ ((good_nil l).dfs R) (by show l.length<l.length+1+_;omega)) h2 hw (by rw[h1];exact hx) he hk hi
end Go.Proofs.YtmhpcebiamkciaaGreat
end
section
set_option linter.unusedSimpArgs false
set_option linter.unusedVariables false
set_option maxRecDepth 100000
set_option maxHeartbeats 2000000
namespace Go.Proofs.YtmhpcebiamkciaaGreat
open Go.Hp Go.J Go.S
open Go.Mem (Ty KTy blk elemAt pre suf blk_pre blk_suf aget aset strK aggDesc)
open Go.Mem (adel apos aget_aset aget_adel)
def allE(e:Ent):List Int:=[e.key,e.val]
def allO(o:Ob):List Int:=o.refs++o.ents.flatMap allE
def alO(l:List Ob)(id:Int):Bool:=(fnd l id).isSome
def rfO(l:List Ob)(id:Int):List Int:=match fnd l id with
 | some o=>allO o
 | none=>[]
theorem rfO_is{l:List Ob}{id:Int}{o:Ob}(h:fnd l id=some o):rfO l id=allO o:=by unfold rfO;rw[h]
theorem alO_is{l:List Ob}{id:Int}{o:Ob}(h:fnd l id=some o):alO l id=true:=by unfold alO;rw[h];rfl
theorem ent_take{L:List Ent}{i:Nat}{e:Ent}(h:L[i]?=some e):(L.take i).flatMap allE++[e.key,e.val]=(L.take (i+1)).flatMap allE:=by
 rw[List.take_add_one,h];simp[List.flatMap_append,allE]
theorem ent_len:∀L:List Ent,(L.flatMap allE).length=2*L.length
 | []=>rfl
 | e::r=>by simp only[List.flatMap_cons,List.length_append,List.length_cons,ent_len r];simp[allE];omega
theorem map_set{l:List Ob}{f g:Int→Int}{i:Nat}{o:Ob}(hs:Asc l)(ho:l[i]?=some o)(hn:∀x,x≠o.id→g x=f x):(l.map fun o=>f o.id).set i (g o.id)=l.map fun o=>g o.id:=by
 apply List.ext_getElem?;intro j;rw[List.getElem?_set,List.getElem?_map,List.getElem?_map];have hi:i<l.length:=(List.getElem?_eq_some_iff.1 ho).1;by_cases e:i=j
 .subst e;rw[if_pos rfl,if_pos (by rw[List.length_map];exact hi),ho];rfl
 rw[if_neg e];cases hj:l[j]? with
 | none=>rfl
 | some y=>
  show some (f y.id)=some (g y.id);rw[hn y.id fun q=>e (asc_inj hs ho hj q.symm)]
theorem al_ids{l:List Ob}{x:Int}(h:alO l x=true):x∈l.map Ob.id:=by
 unfold alO at h;obtain⟨o,ho⟩:=Option.isSome_iff_exists.1 h;obtain⟨h1,h2⟩:=fnd_id ho;exact List.mem_map.2 ⟨o,h2,h1⟩
section
variable{Z:Zone}{F:List Asr}{H:Heap}{b:Nat}{l:List Ob}{G:List Int}{k q:Nat}
end
end Go.Proofs.YtmhpcebiamkciaaGreat
end
section
set_option linter.unusedSimpArgs false
set_option linter.unusedVariables false
namespace Go.Proofs.YtmhpcebiamkciaaGreat
open Go.Hp Go.J Go.S
open Go.Mem (Ty KTy blk aget aset adel aget_aset aget_adel)
def cset(c:Int→Int)(k v:Int):Int→Int:=fun x=>if x=k then v else c x
def c0:Int→Int:=fun _=>0
theorem cset_self(c:Int→Int)(k v:Int):cset c k v k=v:=if_pos rfl
theorem cset_ne{c:Int→Int}{k v x:Int}(h:x≠k):cset c k v x=c x:=if_neg h
def mgt(m:List (Int×Int))(k:Int):Int:=(aget m k).getD 0
def Col(m:List (Int×Int))(c:Int→Int):Prop:=∀id,mgt m id=c id
theorem Col.nil:Col [] c0:=fun _=>rfl
theorem Col.set{m:List (Int×Int)}{c:Int→Int}(h:Col m c)(k v:Int):Col (aset m k v) (cset c k v):=fun id=>by
 unfold mgt cset;rw[aget_aset];by_cases e:id=k
 .rw [if_pos e,if_pos e];rfl
 rw[if_neg e,if_neg e];exact h id
theorem Col.del{m:List (Int×Int)}{c:Int→Int}(h:Col m c)(hn:(m.map Prod.fst).Nodup)(k:Int):Col (adel m k) (cset c k 0):=fun id=>by
 unfold mgt cset;rw[aget_adel hn];by_cases e:id=k
 .rw [if_pos e,if_pos e];rfl
 rw[if_neg e,if_neg e];exact h id
def crf(st:Hst)(id:Int):List Int:=hrefs st id++(hents st id).flatMap allE
theorem crf_bound{st:Hst}{n:Nat}(hsm:HSm n st)(hn:n≤300)(id:Int):(hrefs st id).length≤400∧(hents st id).length≤91000∧(crf st id).length≤190000:=by
 have key:(hrefs st id).length≤400∧(hents st id).length≤91000:=by
  cases hg:st.get id with
  | none=>have:=obj_none hg 0;rw[this.2.2.2.2.1,this.2.2.2.2.2];exact⟨Nat.zero_le _,Nat.zero_le _⟩
  | some o=>
   obtain⟨h1,h2,h3⟩:=ob_bound hsm hn hg;have ho:=obj_some hg 0;rw[ho.2.2.2.2.1,ho.2.2.2.2.2];refine⟨?_,?_⟩
   .have:=refsL_len (o.mt::o.vals) (o.vals.length+1);have e:refsL (o.mt::o.vals) (o.vals.length+1)=refsOf o:=refsL_end (by simp);rw[e]at this;omega
   split
   .unfold entsOf;have h4:=entL_len (tents o.tab);have h5:=tents_len o.tab;omega
   exact Nat.zero_le _
 refine⟨key.1,key.2,?_⟩;unfold crf;rw[List.length_append,ent_len];omega
def rchM(st:Hst)(m:Int→Int)(id:Int):Int→Int:=if halive st id=true∧m id=0 then cset m id 1 else m
def rchQ(st:Hst)(m:Int→Int)(Q:List Int)(id:Int):List Int:=if halive st id=true∧m id=0 then Q++[id] else Q
def rchS(st:Hst)(s:(Int→Int)×List Int)(id:Int):(Int→Int)×List Int:=(rchM st s.1 id,rchQ st s.1 s.2 id)
def rchA(st:Hst)(s:(Int→Int)×List Int)(X:List Int):(Int→Int)×List Int:=X.foldl (rchS st) s
theorem rchA_take{st:Hst}{s:(Int→Int)×List Int}{X:List Int}{i:Nat}{y:Int}(h:X[i]?=some y):rchA st s (X.take (i+1))=rchS st (rchA st s (X.take i)) y:=by
 unfold rchA;rw[List.take_add_one,h,List.foldl_append];rfl
theorem rchQ_len(st:Hst)(m:Int→Int)(Q:List Int)(id:Int):(rchQ st m Q id).length≤Q.length+1:=by
 unfold rchQ;split<;>simp
theorem rchA_len(st:Hst)(X:List Int):∀s:(Int→Int)×List Int,(rchA st s X).2.length≤s.2.length+X.length:=by
 induction X with
 | nil=>exact fun s=>Nat.le_refl _
 | cons a r ih=>exact fun s=>by have:=ih (rchS st s a);have h2:=rchQ_len st s.1 s.2 a;simp only[List.length_cons];unfold rchA at *;simp only[List.foldl_cons];unfold rchS at *;dsimp only at *;omega
structure Cst where
 ph:Int
 col:Int→Int
 Q:List Int
 L:List Int
 Fr:List Int
 G:List Int
 P:List Int
def Cst.rts(s:Cst)(R:List Int):List Int:=R++(s.G++s.P)
def bgn(st:Hst)(R:List Int)(s:Cst):Cst:={ s with ph:=1,col:=(rchA st (c0,[]) (s.rts R)).1,Q:=(rchA st (c0,[]) (s.rts R)).2 }
def setl(st:Hst)(R:List Int)(s:Cst):Cst:=
 if s.ph=1∧s.Q=[] then
  if (rchA st (s.col,[]) (s.rts R)).2=[] then { s with ph:=2,col:=(rchA st (s.col,[]) (s.rts R)).1,L:=hids st }
  else { s with col:=(rchA st (s.col,[]) (s.rts R)).1,Q:=(rchA st (s.col,[]) (s.rts R)).2 }
 else s
def mrk(st:Hst)(s:Cst):Cst:=match s.Q with
 | x::Q=>{ s with col:=cset (rchA st (s.col,Q) (crf st x)).1 x 2,Q:=(rchA st (s.col,Q) (crf st x)).2 }
 | []=>s
def swp(st:Hst)(s:Cst):Hst×Cst:=match s.L with
 | x::L=>if s.col x=0 then (hdrop st x,{ s with L:=L,Fr:=s.Fr++[x] }) else (st,{ s with L:=L,col:=cset s.col x 0 })
 | []=>(st,s)
def cfin(s:Cst):Cst:=if s.L=[] then { s with ph:=0 } else s
def itr(st:Hst)(R:List Int)(s:Cst):Hst×Cst×Bool:=
 if (setl st R s).ph=1 then (st,mrk st (setl st R s),true)
 else if (setl st R s).L=[] then (st,cfin (setl st R s),false)
 else ((swp st (setl st R s)).1,cfin (swp st (setl st R s)).2,true)
def wrk:Nat→Hst→List Int→Cst→Hst×Cst×Nat
 | 0,st,_,s=>(st,s,0)
 | k+1,st,R,s=>if s.ph=0 then (st,s,0) else
  if (itr st R s).2.2=true then ((wrk k (itr st R s).1 R (itr st R s).2.1).1,(wrk k (itr st R s).1 R (itr st R s).2.1).2.1,(wrk k (itr st R s).1 R (itr st R s).2.1).2.2+1)
  else ((itr st R s).1,(itr st R s).2.1,0)
def work(k:Nat)(st:Hst)(R:List Int)(s:Cst):Hst×Cst×Nat:=if k=0 then (st,s,0) else wrk k st R (if s.ph=0 then bgn st R s else s)
def addI(reg:List Int)(id:Int):Int:=if id<1 then 2 else if id∈reg then 10 else 0
def addL(reg:List Int)(id:Int):List Int:=if id<1 then reg else if id∈reg then reg else reg++[id]
def wot(L:List Int)(id:Int):List Int:=L.filter fun x=>!decide (x=id)
def Cst.doom(s:Cst)(id:Int):Prop:=s.ph=2∧s.col id=0∧id∈s.L
instance(s:Cst)(id:Int):Decidable (s.doom id):=by unfold Cst.doom;infer_instance
def regE(st:Hst)(s:Cst)(id:Int):Int:=if halive st id=true then (if s.doom id then 19 else addI s.G id) else 2
def rgs(st:Hst)(s:Cst)(id:Int):Cst:=if halive st id=true∧¬s.doom id then (if addI s.G id=0∧s.ph=1 then { s with G:=addL s.G id,col:=rchM st s.col id,Q:=rchQ st s.col s.Q id } else { s with G:=addL s.G id }) else s
/-! ### What every state keeps -/
def QI(st:Hst)(c:Int→Int)(Q:List Int):Prop:=Q.Nodup∧∀x∈Q,halive st x=true∧c x≠0
theorem QI.nil(st:Hst)(c:Int→Int):QI st c []:=⟨List.nodup_nil,fun x h=>by cases h⟩
theorem QI.len{st:Hst}{c:Int→Int}{Q:List Int}(h:QI st c Q):Q.length≤(hids st).length:=h.1.length_le_of_subset fun x hx=>mem_hids.2 (h.2 x hx).1
theorem rchM_ne{st:Hst}{c:Int→Int}{id x:Int}(h:c x≠0):rchM st c id x=c x:=by
 unfold rchM;split
 .rename_i q;exact cset_ne fun e=>h (by rw[e];exact q.2)
 rfl
theorem QI.rch{st:Hst}{c:Int→Int}{Q:List Int}(h:QI st c Q)(id:Int):QI st (rchM st c id) (rchQ st c Q id):=by
 unfold rchQ;by_cases q:halive st id=true∧c id=0
 .rw [if_pos q];refine⟨?_,fun x hx=>?_⟩
  .rw [List.nodup_append];refine⟨h.1,by simp,fun a ha b hb=>?_⟩;simp at hb;subst hb;exact fun e=>(h.2 a ha).2 (by rw[e];exact q.2)
  rcases List.mem_append.1 hx with hx|hx
  .exact ⟨(h.2 x hx).1,by rw[rchM_ne (h.2 x hx).2];exact (h.2 x hx).2⟩
  simp at hx;subst hx;exact⟨q.1,by unfold rchM;rw[if_pos q,cset_self];decide⟩
 rw[if_neg q];exact⟨h.1,fun x hx=>⟨(h.2 x hx).1,by rw[rchM_ne (h.2 x hx).2];exact (h.2 x hx).2⟩⟩
theorem QI.rchA{st:Hst}(X:List Int):∀{c:Int→Int}{Q:List Int},QI st c Q→QI st (rchA st (c,Q) X).1 (rchA st (c,Q) X).2:=by
 induction X with
 | nil=>exact fun h=>h
 | cons a r ih=>exact fun h=>ih (h.rch a)
structure CI(N:Nat)(st:Hst)(s:Cst):Prop where
 ph:s.ph=0∨s.ph=1∨s.ph=2
 q:s.ph=1→QI st s.col s.Q
 q0:s.ph≠1→s.Q=[]
 l:s.ph=2→s.L.Nodup∧∀x∈s.L,halive st x=true
 l0:s.ph≠2→s.L=[]
 fr:s.Fr.length+(hids st).length≤N
 gp:s.G.length+s.P.length≤N
 sm:HSm N st
 w:HW st
 i:HInv st
theorem CI.ql{N:Nat}{st:Hst}{s:Cst}(h:CI N st s):s.Q.length≤N:=by
 by_cases e:s.ph=1
 .have h1:=(h.q e).len;have h2:=h.fr;omega
 rw[h.q0 e];exact Nat.zero_le _
end Go.Proofs.YtmhpcebiamkciaaGreat
end
section
set_option linter.unusedSimpArgs false
set_option linter.unusedVariables false
namespace Go.S
open Go.Hp Go.J Go.RowKit
open Go.Mem (Ty KTy blk suf addr_add)
section
variable{P:Program}{w0:World}{ops:Array Oper}{Q:Exit→Act→World→Prop}{n:Nat}{E:Env}{Z:Zone}{As:List Asr}{o:Oper}{rest:List Oper}{α:Type}{T:Ty α}
theorem s_appendZ{s x:Operand}{t tn:TypeId}{d:Nat}{q kq:IntKind}{y:Int}(k:Nat)(hT:T.Ok P)(ht:P.underlying t=some (.slice T.id))(htn:P.underlying tn=some (.int kq))(hy:y=(k:Int))(h0:0<k)(hb:k*T.bytes≤140737488355328)(h63:k≤9223372036854775807)(h:∀v',SL P w0 ops Q n rest ((d,v')::E) Z (own T v' (List.replicate k T.zero)::As))(ho:o.op=.call { callee:=.builtin .append,args:=#[s,x],argTypes:=#[t,tn] }:=by rfl)(hs:ev E s=.slice none 0 0:=by rfl)(hx:ev E x=.int q y:=by rfl)(hd:o.dst=some d:=by rfl)(hk:okOp ops n E o=true:=by kernel_rfl):SL P w0 ops Q n (o::rest) E Z As:=fun H hH=>by
 subst hy;refine l_run (R:=fun v' H'=>Ow H' T v' (List.replicate k T.zero)∧Chg (fun _=>False) H H'∧blk v'=some H.size) hk (fun w ha=>?_) (fun v' H' ⟨a1,a2,a3⟩=>?_)
 .obtain ⟨i,hi,hsz,hby,hz⟩:=hT.info;rw[←hby]at hb;have hr:=Go.Lib.run_append_nil_zeros (P:=P) w t tn o.type T.id i _ q kq ht htn hi hz k h0 (by rw[hsz];exact hT.pos) (by omega) (by omega);have hge:=grownCap_ge w k 0 T.id;have hcm:=grownCap_le_maxLen w k 0 T.id (by simpa [maxLen]using h63);have hzs:(T.val T.zero).cells.size=T.size:=by have:=hT.len T.zero;simpa [Ty.enc]using this
  have hchg:=Chg.of_mem ((Mem.Chg.refl (fun _=>False) w).drew.alloc (.cells (Builtin.zeroCells (T.val T.zero).cells k++Builtin.zeroCells (T.val T.zero).cells (grownCap w k 0 T.id-k)) T.id));refine⟨.slice (some ⟨w.heap.size,0,none⟩) k (grownCap w k 0 T.id),w.drew.alloc (.cells (Builtin.zeroCells (T.val T.zero).cells k++Builtin.zeroCells (T.val T.zero).cells (grownCap w k 0 T.id-k)) T.id),?_,⟨rfl,ha.os,ha.tape,ha.output⟩,.inr ⟨w.heap.size,_,_,by rw[List.length_replicate],heap_alloc_new w.drew _,by simpa using hge,hcm,?_,?_⟩,by rw[←ha.heap];exact hchg,by rw[←ha.heap];rfl⟩
  .unfold execOp;simp only[ho,resolve,invoke,builtin,Sem.run_bind,Sem.run_pure,Result.andThen_ok,List.map_toArray,List.map_cons,List.map_nil,hs,hx,hr]
  .simp only[Array.size_append,size_zeroCells,hzs,←Nat.add_mul];exact Nat.le_of_eq (by congr 1;omega)
  have e:(Builtin.zeroCells (T.val T.zero).cells k).toList=T.flat (List.replicate k T.zero):=by
   rw[←Go.Mem.madeCells_flat hT,←hzs];rfl
  have hl:=hT.flat_len (List.replicate k T.zero);rw[Array.toList_append,e,←hl];exact List.take_left
 rw[hd];exact h v' H' (hH.new (a2.mono fun k _ hk=>hk.elim) (S':=fun k=>blk v'=some k) ⟨a1,fun k=>Iff.rfl⟩ fun k hk=>by rw[a3]at hk;cases hk;omega)
end
end Go.S
end
section
set_option linter.unusedSimpArgs false
set_option linter.unusedVariables false
namespace Go.S
open Go.Hp Go.J Go.RowKit
open Go.Mem (Ty KTy blk pre suf addr_add elemAt spliceAt)
section
variable{α:Type}{T:Ty α}{v:Value}{L M:List α}{H H':Heap}{S:Nat→Prop}{P:Program}{Z:Zone}{As:List Asr}
theorem OwO.pre(h:OwO H T v L S)(hT:T.Ok P)(n:Nat)(hn:n≤L.length):OwO H T (Go.Mem.pre v n) (L.take n) S:=by
 rcases h with ⟨⟨p,rfl⟩,rfl,h⟩|⟨g,off,cap,arr,rfl,h1,h2,h3,h4,h5,hS⟩
 .simp at hn;subst hn;exact .inl ⟨⟨p,rfl⟩,rfl,h⟩
 have hl:(L.take n).length=n:=by rw[List.length_take];omega
 have hm:n*T.size≤L.length*T.size:=Nat.mul_le_mul_right _ hn;refine .inr ⟨g,off,cap,arr,by rw[hl];rfl,h1,by omega,h3,h4,?_,hS⟩;rw[hl,←hT.flat_take,←h5,List.take_take,Nat.min_eq_left hm]
theorem splice_drop(l:List Value)(o p:Nat)(cs:List Value)(ho:o≤l.length):(spliceAt l (o+p) cs).drop o=spliceAt (l.drop o) p cs:=by
 have e:l=l.take o++l.drop o:=(List.take_append_drop o l).symm;have hl:(l.take o).length=o:=by rw[List.length_take];omega
 generalize l.take o=A at e hl
 generalize l.drop o=B at e
 subst e;subst hl;unfold spliceAt;rw[List.take_length_add_append,Nat.add_assoc,List.drop_length_add_append,List.append_assoc,List.append_assoc,List.drop_left,List.append_assoc]
theorem OwO.put{w:World}{g off cap p:Nat}{arr:Array Value}{cs:List Value}{L':List α}(hT:T.Ok P)(h1:w.heap[g]?=some (.cells arr T.id (0,0)))(h2:L.length≤cap)(h3:cap≤maxLen)(h4:off+cap*T.size≤arr.size)(h5:(arr.toList.drop off).take (L.length*T.size)=T.flat L)(hS:∀k,S k↔k=g)(hp:p+cs.length≤L.length*T.size)(hl:L'.length=L.length)(he:T.flat L'=spliceAt (T.flat L) p cs):
  OwO (w.setRow g (spliceAt arr.toList (off+p) cs).toArray).heap T (.slice (some ⟨g,off,none⟩) L.length cap) L' S∧Chg S w.heap (w.setRow g (spliceAt arr.toList (off+p) cs).toArray).heap:=by
 have hm:L.length*T.size≤cap*T.size:=Nat.mul_le_mul_right _ h2;have hsz:(spliceAt arr.toList (off+p) cs).length=arr.size:=by unfold spliceAt;simp;omega
 refine⟨.inr ⟨g,off,cap,_,by rw[hl],setRow_heap' w g _ arr T.id (0,0) h1,by omega,h3,by simp[hsz];omega,?_,hS⟩,⟨by simp,fun k _ hk=>setRow_other w g k _ fun e=>hk ((hS k).2 e)⟩⟩;rw[List.toList_toArray,splice_drop _ _ _ _ (by simp;omega),hl,he,←h5];have:=Go.Mem.take_splice (arr.toList.drop off) (L.length*T.size) p cs hp (by simp;omega);rw[←this];rfl
end
section
variable{P:Program}{w0:World}{ops:Array Oper}{Q:Exit→Act→World→Prop}{n:Nat}{E:Env}{Z:Zone}{As:List Asr}{o:Oper}{rest:List Oper}{α:Type}{T:Ty α}{v:Value}{L M:List α}
end
end Go.S
end
section
set_option linter.unusedSimpArgs false
set_option linter.unusedVariables false
set_option maxRecDepth 100000
set_option maxHeartbeats 2000000
namespace Go.Proofs.YtmhpcebiamkciaaGreat
open Go.Hp Go.J Go.S
open Go.Mem (Ty KTy blk elemAt pre suf blk_pre blk_suf aget aset strK aggDesc)
open Go.Mem (adel apos aget_aset aget_adel)
abbrev eV(n:Int):Value:=.agg #[iw n]
def eTy:Ty Int:=⟨153,1,8,true,eV,0⟩
theorem eTy_ok:eTy.Ok Tryz.prog:=ok_of eTy _ Tryz.t153 (by decide) (fun _=>rfl) (fun x u hu=>by simp[Ty.enc,eTy,Value.cells]at hu;subst hu;rfl) (fun _=>rfl) Tryz.underlying153 rfl (fun h=>by cases h) (by kernel_rfl) (by kernel_rfl) (by kernel_rfl) (by kernel_rfl)
theorem eqE(x y:Int)(w:World):(binOp .eql 153 (eV x) (eV y)).run Tryz.prog w=.ok (.bool (decide (x=y))) w∧(binOp .neq 153 (eV x) (eV y)).run Tryz.prog w=.ok (.bool (!decide (x=y))) w:=by
 have h:=J.run_eqS (P:=Tryz.prog) (t:=153) [0] (by kernel_rfl) (by kernel_rfl) #[iw x] #[iw y] rfl rfl w;have e:J.cellsEq [iw x] [iw y]=decide (x=y):=by rw[Bool.eq_iff_iff];simp[J.cellsEq,J.cellEq]
 rw[e]at h;exact h
theorem take_snoc{α:Type}{L:List α}{i:Nat}{y:α}(h:L[i]?=some y):L.take i++[y]=L.take (i+1):=by rw[List.take_add_one,h];rfl
def qA(b:Nat)(reg pend:List Int):Asr:=exA fun rv=>exA fun pv=>stA True [blkA b #[rv,pv] 151,own eTy rv reg,ownO eTy pv pend]
theorem q_open{b:Nat}{reg pend:List Int}{Z:Zone}{F:List Asr}{H:Heap}(h:Holds Z (qA b reg pend::F) H):∃rv pv,True∧Holds Z (blkA b #[rv,pv] 151::own eTy rv reg::ownO eTy pv pend::F) H:=by
 obtain⟨a,h⟩:=h.open_ex;obtain⟨m,h⟩:=h.open_ex;exact⟨a,m,h.open_st⟩
theorem q_shut{b:Nat}{reg pend:List Int}{Z:Zone}{F:List Asr}{H:Heap}{rv pv:Value}(h:Holds Z (blkA b #[rv,pv] 151::own eTy rv reg::ownO eTy pv pend::F) H):Holds Z (qA b reg pend::F) H:=
 Holds.shut_ex rv (Holds.shut_ex pv (Holds.shut_st trivial h))
theorem qnew_s{Z:Zone}:SF Tryz.prog 62 #[] Z [] fun r Bs=>∃b,r=.pointer (some ⟨b,0,none⟩)∧Bs=[qA b [] []]:=by
 refine sf_enter Tryz.func62 3 [] (fun w0=>?_);refine k_sr<|sP (.pointer none)<|s_nr<|sL (t_kern (.agg #[nS,nS]))<|s_box #[nS,nS] (fun g1=>?_)
 refine sP (pB g1 0)<|s_nt<|k_ret<|xs_fin _ _ (SI.tmp 0 SI.nil) (fun _ h=>q_shut (b:=g1) (rv:=nS) (pv:=nS) ((Holds.nilS (T:=eTy) (Holds.nilO (T:=eTy) h)).re [2,0] [])) ⟨g1,rfl,rfl⟩
theorem ids_s{Z:Zone}{lv:Value}{L:List Int}(hL:Kn Z eTy lv L)(hl:L.length≤1000000):SF Tryz.prog 121 #[lv] Z [] fun r Bs=>Bs=[own iTy r L]:=by
 refine sf_enter Tryz.func121 19 [(0,lv)] (fun w0=>?_);refine k_sr<|sP (.slice none 0 0)<|s_nr<|sP (.slice none 0 0)<|s_nt<|k_seq<|k_sr<|sP lv<|sL (t_len eTy_ok Tryz.underlying149 (.zn hL))<|sP (iw 0)<|s_nt<|k_block<|k_mem (fun _ h=>Holds.nilS (T:=iTy) h) ?_
 refine k_mem (Bs:=[own iTy (.slice none 0 0) (L.take 0)]) (fun _ h=>h) ?_;refine k_loop (ι:=Value×Nat) (fun (sx,i)=>i≤L.length) (fun (sx,i)=>[(3,sx),(6,lv),(7,iw (L.length:Int)),(8,iw (i:Int))]) (fun (sx,i)=>[own iTy sx (L.take i)]) (fun (sx,i)=>L.length-i) (.slice none 0 0,0) (Nat.zero_le _) sA (rr [0] []) ?_;rintro⟨sx,i⟩ hi1;replace hi1:i≤L.length:=hi1;show SK _ _ _ _ _ [(3,sx),(6,lv),(7,iw (L.length:Int)),(8,iw (i:Int))] _ [own iTy sx (L.take i)];refine k_sr<|sL t_cmp<|s_nt<|k_seq<|k_cond (decide ((i:Int)<(L.length:Int))) (fun c2=>?_) (fun c2=>?_)
 .have p3:=dY c2;refine k_st<|k_seq<|k_block<|k_sr<|sL (t_index eTy_ok Tryz.underlying149 (.zn hL) (i:Int) i om ol om) ?_
  obtain⟨y4,hy5⟩:∃y,L[i]?=some y:=⟨_,List.getElem?_eq_getElem ol⟩;refine sL (t_loadE eTy_ok (.zn hL) hy5)<|s_alloc (.agg #[iw 0]) #[iw 0] (fun g6=>?_)
  refine s_store 0 #[iw y4] ?_;refine s_nt<|k_reg<|sP sx<|sP (pB g6 0)<|sL (t_load 0 (iw y4))<|s_buildSlice (e:=3) [(0,iw y4)] #[iw y4] (fun g7=>?_) (hb:=by kernel_rfl)
  refine s_append (L:=(L.take i)) 2 iTy_ok Tryz.underlying23 (.lit 0 iTy_ok [y4]) (by show _*8≤_;(try simp only[lnm]);omega) ol (fun v8=>?_);refine sP v8<|s_nil<|xs_block<|xs_then<|k_reg<|sL (t_add (i:Int) 1 ol)<|sP (iw ((i:Int)+1))<|s_nil ?_
  rw[take_snoc hy5];exact xs_round (v8,i+1) (by show L.length-(i+1)<L.length-i;omega) (by show i+1≤L.length;omega) sA (rr [2] [1,1])
 have p9:=dF c2;refine k_exit<|xs_exit<|xs_exit<|xs_here<|xs_then<|k_sr<|sP2 sx<|s_nt<|k_ret ?_
 exact xs_fin _ _ (SI.tmp 2 SI.nil) (fun _ h=>by rw[List.take_of_length_le om]at h;exact h.re [0] []) rfl
theorem has_s{Z:Zone}{F:List Asr}{b:Nat}{reg pend:List Int}(id:Int)(hr:reg.length≤100000):SF Tryz.prog 107 #[.pointer (some ⟨b,0,none⟩),iw id] Z (qA b reg pend::F) fun r Bs=>r=.bool (decide (id∈reg))∧Bs=qA b reg pend::F:=by
 refine sf_enter Tryz.func107 23 [(0,pB b 0),(1,iw id)] (fun w0=>?_);refine k_mem2 (fun H h=>q_open (h.re [0] [])) (fun rq1 pq2 hw=>?_);refine k_sr<|sP (.bool false)<|s_nt<|k_seq<|k_sr<|sP (pB b 0)<|sP (.bool false)<|s_nt<|k_false<|k_st<|k_seq<|k_sr<|sP3 (pB b 0)<|sL (t_load 0 rq1)<|sL (t_len eTy_ok Tryz.underlying149 (.own 1))<|sP (iw 0)<|s_nt<|k_block<|k_loop (ι:=Nat) (fun i=>i≤reg.length∧id∉reg.take i) (fun i=>[(1,iw id),(12,rq1),(13,iw (reg.length:Int)),(14,iw (i:Int))]) (fun i=>blkA b #[rq1,pq2] 151::own eTy rq1 reg::ownO eTy pq2 pend::F) (fun i=>reg.length-i) 0 ⟨Nat.zero_le _,by simp⟩ sA (rr [0,0,0] []) ?_
 rintro i hi3;show SK _ _ _ _ _ [(1,iw id),(12,rq1),(13,iw (reg.length:Int)),(14,iw (i:Int))] _ (blkA b #[rq1,pq2] 151::own eTy rq1 reg::ownO eTy pq2 pend::F);refine k_sr<|sL t_cmp<|s_nt<|k_seq<|k_cond (decide ((i:Int)<(reg.length:Int))) (fun c4=>?_) (fun c4=>?_)
 .have p5:=dY c4;refine k_st<|k_seq<|k_block<|k_sr<|sL (t_index eTy_ok Tryz.underlying149 (.own 1) (i:Int) i om ol om) ?_
  obtain⟨y6,hy7⟩:∃y,reg[i]?=some y:=⟨_,List.getElem?_eq_getElem ol⟩;refine sL (t_loadE eTy_ok (.own 1) hy7)<|s_alloc (.agg #[iw 0]) #[iw 0] (fun g8=>?_)
  refine s_store 0 #[iw y6] ?_;refine s_nr<|sL (t_loadA 0 #[iw y6])<|sP (iw id)<|sL (t_kern (.agg #[iw id]))<|sL (t_eqS (fun w=>(eqE y6 id w).1))<|s_nt<|k_cond (decide (y6=id)) (fun c9=>?_) (fun c9=>?_)
  .have p10:=dY c9;refine k_sr<|sP (.bool true)<|s_nt<|k_ret<|xs_retBlock<|xs_ret<|xs_ret<|xs_retBlock<|xs_ret<|xs_mem (fun _ h=>q_shut (h.re [1,1,1] [])) ?_
   refine xs_fin _ _ (SI.tmp 4 SI.nil) (rr [0] [1]) ⟨cB ?_,rfl⟩;exact (decide_eq_true (by rw[←p10];exact List.mem_of_getElem? hy7)).symm
  have p11:=dF c9;refine k_skip<|xs_block<|xs_then<|k_reg<|sL (t_add (i:Int) 1 ol)<|sP (iw ((i:Int)+1))<|s_nil ?_
  exact xs_round (i+1) om (by obtain⟨hi1,hi2⟩:=hi3;refine⟨by omega,?_⟩;rw[←take_snoc hy7,List.mem_append,List.mem_singleton];rintro (h|h);exact hi2 h;exact p11 h.symm) sA (rr [1,1,1] [3])
 have p12:=dF c4;refine k_exit<|xs_exit<|xs_exit<|xs_here<|xs_then<|k_sr<|sP (.bool false)<|s_nt<|k_ret<|xs_mem (fun _ h=>q_shut (h.re [0,0,0] [])) ?_
 refine xs_fin _ _ (SI.tmp 4 SI.nil) (rr [0] []) ⟨cB ?_,rfl⟩;exact (decide_eq_false (by have h:=hi3.2;rwa [List.take_of_length_le om]at h)).symm
theorem add_s{Z:Zone}{F:List Asr}{b:Nat}{reg pend:List Int}(id:Int)(hr:reg.length≤90000):SF Tryz.prog 45 #[.pointer (some ⟨b,0,none⟩),iw id] Z (qA b reg pend::F) fun r Bs=>r=iw (addI reg id)∧Bs=qA b (addL reg id) pend::F:=by
 refine sf_enter Tryz.func45 26 [(0,pB b 0),(1,iw id)] (fun w0=>?_);refine k_sr<|sP (iw 0)<|s_nt<|k_seq<|k_block<|k_sr<|sP (pB b 0)<|sP2 (.bool false)<|s_nt<|k_false<|k_sr<|sP (iw id)<|sL t_cmp<|sP (.bool (decide (id<1)))<|s_nt<|k_cond (decide (id<1)) (fun c1=>?_) (fun c1=>?_)
 .have p2:=dY c1;refine k_sr<|sP (iw 2)<|s_nt<|k_ret<|xs_retBlock<|xs_ret ?_
  have h1:addI reg id=2:=by simp[addI,p2]
  have h2:addL reg id=reg:=by simp[addL,p2]
  refine xs_fin _ _ (SI.tmp 4 SI.nil) (rr [0] []) ?_;rw[h1,h2];exact⟨rfl,rfl⟩
 have p3:=dF c1;refine k_sr<|sP (pB b 0)<|sP (iw id)<|sC [0] (has_s (reg:=reg) id ol) ?_
 refine sP (.bool (decide (id∈reg)))<|s_nt<|k_cond (decide (id∈reg)) (fun c4=>?_) (fun c4=>?_)
 .have p5:=dY c4;refine k_sr<|sP (iw 10)<|s_nt<|k_ret<|xs_retBlock<|xs_ret ?_
  have h1:addI reg id=10:=by simp[addI,p3,p5]
  have h2:addL reg id=reg:=by simp[addL,p3,p5]
  refine xs_fin _ _ (SI.tmp 4 SI.nil) (rr [0] []) ?_;rw[h1,h2];exact⟨rfl,rfl⟩
 have p6:=dF c4;refine k_skip<|xs_block<|xs_then<|k_sr<|sP4 (pB b 0)<|s_mem2 (fun H h=>q_open (h.re [0] [])) (fun rq7 pq8 hw=>?_)
 refine sL (t_load 0 rq7)<|sP (iw id)<|sL (t_kern (.agg #[iw id]))<|s_buildSlice (e:=153) [(0,.agg #[iw id])] #[iw id] (fun g9=>?_) (hb:=by kernel_rfl)
 refine s_append (L:=reg) 2 eTy_ok Tryz.underlying149 (.lit 0 eTy_ok [id]) (by show _*8≤_;(try simp only[lnm]);omega) ol (fun v10=>?_);refine sP2 (pB b 0)<|sF 2 (fun hf11=>?_)
 refine s_store (u:=v10) (m:=1) 1 #[v10,pq8] ?_ (hm:=by (obtain⟨_,_,e⟩:=hf11;rw[e];rfl)) (h1:=by (obtain⟨_,_,e⟩:=hf11;rw[e];rfl)) (ha':=by (obtain⟨_,_,e⟩:=hf11;rw[e];rfl));refine s_nr<|sP (iw 0)<|s_nt<|k_ret<|xs_mem (fun _ h=>q_shut (h.re [1,1,1] [])) ?_
 have h1:addI reg id=0:=by simp[addI,p3,p6]
 have h2:addL reg id=(reg++[id]):=by simp[addL,p3,p6]
 refine xs_fin _ _ (SI.tmp 4 SI.nil) (rr [0] [1]) ?_;rw[h1,h2];exact⟨rfl,rfl⟩
def nextI(l:List Int):Int:=l.headD 0
def nextB(l:List Int):Bool:= !l.isEmpty
theorem next_some{l:List Int}{y:Int}(h:l[0]?=some y):nextI l=y∧nextB l=true∧l.drop 1=l.tail:=by
 cases l with
 | nil=>cases h
 | cons a r=>simp at h;subst h;exact⟨rfl,rfl,rfl⟩
theorem next_s{Z:Zone}{F:List Asr}{b:Nat}{reg pend:List Int}(hp:pend.length≤1000000):SF Tryz.prog 57 #[.pointer (some ⟨b,0,none⟩)] Z (qA b reg pend::F) fun r Bs=>r=.tuple #[iw (nextI pend),.bool (nextB pend)]∧Bs=qA b reg pend.tail::F:=by
 refine sf_enter Tryz.func57 31 [(0,pB b 0)] (fun w0=>?_);refine k_sr<|sP (iw 0)<|sP (.bool false)<|s_nt<|k_seq<|k_sr<|sP (pB b 0)<|sP2 (.bool false)<|sP2 (pB b 0)<|sP (pB b 1)<|s_mem2 (fun H h=>q_open (h.re [0] [])) (fun rq1 pq2 hw=>?_)
 refine sL (t_load 0 pq2)<|sL (t_len eTy_ok Tryz.underlying149 (.ownO 2))<|sL t_cmp<|sP (.bool (decide ((pend.length:Int)=0)))<|s_nt<|k_cond (decide ((pend.length:Int)=0)) (fun c3=>?_) (fun c3=>?_)
 .have p4:=dY c3;refine k_sr<|sP (iw 0)<|sP (.bool false)<|s_nt<|k_ret<|xs_ret<|xs_mem (fun _ h=>q_shut (h.re [0,0,0] [])) ?_
  obtain rfl:pend=[]:=List.eq_nil_of_length_eq_zero om;exact xs_fin _ _ (SI.tmp 2 (SI.tmp 3 SI.nil)) (rr [0] []) ⟨rfl,rfl⟩
 have p5:=dF c3;refine k_st<|k_sr<|sP2 (pB b 0)<|sP (pB b 1)<|sL (t_load 0 pq2)<|sL (t_index eTy_ok Tryz.underlying149 (.ownO 2) 0 0 om ol om) ?_
 obtain⟨y6,hy7⟩:∃y,pend[0]?=some y:=⟨_,List.getElem?_eq_getElem ol⟩;refine sL (t_loadE eTy_ok (.ownO 2) hy7)<|s_alloc (.agg #[iw 0]) #[iw 0] (fun g8=>?_)
 refine s_store 0 #[iw y6] ?_;refine s_nr<|sP3 (pB b 0)<|sP (pB b 1)<|sL (t_load 1 pq2)<|sL (t_suf eTy_ok Tryz.underlying149 (.ownO 3) 1 1 om ol om)<|sP (pB b 0)<|sP (pB b 1)<|s_mem (fun _ h=>Holds.sufO (i:=3) h eTy_ok 1 rfl ol) ?_
 refine s_fact (fun H h=>((Acc.ownO (T:=eTy) (L:=(pend.drop 1)) 3 rfl) H h).form) (fun hf9=>?_);refine s_store (u:=(suf eTy.size pq2 1)) (m:=1) 1 #[rq1,(suf eTy.size pq2 1)] ?_ (hm:=by (obtain⟨_,_,e⟩:=hf9;rw[e];rfl)) (h1:=by (obtain⟨_,_,e⟩:=hf9;rw[e];rfl)) (ha':=by (obtain⟨_,_,e⟩:=hf9;rw[e];rfl));refine s_nr<|sP (pB g8 0)<|sL (t_load 0 (iw y6))<|sP (iw y6)<|sP (.bool true)<|s_nt<|k_ret<|xs_mem (fun _ h=>q_shut (h.re [1,1,1] [])) ?_
 have hn:nextI pend=y6∧nextB pend=true∧pend.drop 1=pend.tail:=next_some hy7;rw[hn.1,hn.2.1,←hn.2.2];exact xs_fin _ _ (SI.tmp 2 (SI.tmp 3 SI.nil)) (rr [0] [1]) ⟨rfl,rfl⟩
theorem pending_s{Z:Zone}{F:List Asr}{b:Nat}{reg pend:List Int}(hl:pend.length≤1000000):SF Tryz.prog 56 #[.pointer (some ⟨b,0,none⟩)] Z (qA b reg pend::F) fun r Bs=>Bs=own iTy r pend::qA b reg pend::F:=by
 refine sf_enter Tryz.func56 10 [(0,pB b 0)] (fun w0=>?_);refine k_sr<|sP nS<|s_nt<|k_seq<|k_sr<|sP (pB b 0)<|sP (.bool false)<|s_nt<|k_false<|k_st<|k_sr<|sP2 (pB b 0)<|sP (pB b 1)<|s_mem2 (fun H h=>q_open (h.re [0] [])) (fun rq1 pq2 hw=>?_)
 refine sL (t_load 0 pq2)<|s_pcall (fun _ h=>ids_s (L:=pend) (Acc.kn (.ownO 2) h) ol) ?_
 rintro v3 _ rfl;refine sF 0 (fun hf4=>?_);refine sP v3<|s_nt<|k_ret<|xs_mem (fun _ h=>q_shut (h.re [1,1,1] [])) ?_
 exact xs_fin _ _ (SI.tmp 2 SI.nil) (rr [1,0] []) rfl
theorem registered_s{Z:Zone}{F:List Asr}{b:Nat}{reg pend:List Int}(hl:reg.length≤1000000):SF Tryz.prog 130 #[.pointer (some ⟨b,0,none⟩)] Z (qA b reg pend::F) fun r Bs=>Bs=own iTy r reg::qA b reg pend::F:=by
 refine sf_enter Tryz.func130 10 [(0,pB b 0)] (fun w0=>?_);refine k_sr<|sP nS<|s_nt<|k_seq<|k_sr<|sP (pB b 0)<|sP (.bool false)<|s_nt<|k_false<|k_st<|k_sr<|sP3 (pB b 0)<|s_mem2 (fun H h=>q_open (h.re [0] [])) (fun rq1 pq2 hw=>?_)
 refine sL (t_load 0 rq1)<|s_pcall (fun _ h=>ids_s (L:=reg) (Acc.kn (.own 1) h) ol) ?_
 rintro v3 _ rfl;refine sF 0 (fun hf4=>?_);refine sP v3<|s_nt<|k_ret<|xs_mem (fun _ h=>q_shut (h.re [1,1,1] [])) ?_
 exact xs_fin _ _ (SI.tmp 2 SI.nil) (rr [1,0] []) rfl
section
variable{P:Program}{w0:World}{Q:Exit→Act→World→Prop}{n:Nat}{E:Env}{Z:Zone}{As:List Asr}{ops:Array Oper}{α β γ δ ε:Type}
theorem k_mem5{c:Code}{p:α→β→γ→δ→ε→Prop}{Bs:α→β→γ→δ→ε→List Asr}(hA:∀H,Holds Z As H→∃x y z u v,p x y z u v∧Holds Z (Bs x y z u v) H)(h:∀x y z u v,p x y z u v→SK P w0 c Q n E Z (Bs x y z u v)):SK P w0 c Q n E Z As:=fun H hH=>by
 obtain⟨x,y,z,u,v,hp,hB⟩:=hA H hH;exact h x y z u v hp H hB
theorem s_mem5{l:List Oper}{p:α→β→γ→δ→ε→Prop}{Bs:α→β→γ→δ→ε→List Asr}(hA:∀H,Holds Z As H→∃x y z u v,p x y z u v∧Holds Z (Bs x y z u v) H)(h:∀x y z u v,p x y z u v→SL P w0 ops Q n l E Z (Bs x y z u v)):SL P w0 ops Q n l E Z As:=fun H hH=>by
 obtain⟨x,y,z,u,v,hp,hB⟩:=hA H hH;exact h x y z u v hp H hB
end
abbrev cV(n:Int):Value:=iw n
theorem mgt_is(m:List (Int×Int))(k:Int):((aget m k).map cV).getD (iw 0)=iw (mgt m k):=by
 unfold mgt;cases aget m k<;>rfl
def mcA(mb:Nat)(c:Int→Int):Asr:=exA fun m=>stA (Col m c) [mpA iK cV mb m]
def coA(b q hb:Nat)(ph:Int)(c:Int→Int)(Q L Fr G P:List Int):Asr:=exA fun mb=>exA fun qv=>exA fun lv=>exA fun fv=>exA fun c'=>stA (ph=0∨c'=c) [blkA b #[.pointer (some ⟨q,0,none⟩),.pointer (some ⟨hb,0,none⟩),iw ph,.map (some mb),qv,lv,fv] 91,qA q G P,mcA mb c',ownO iTy qv Q,ownO iTy lv L,ownO iTy fv Fr]
section
variable{Z:Zone}{F:List Asr}{H:Heap}{b q hb mb:Nat}{ph:Int}{c c':Int→Int}{Q L Fr G P:List Int}{m:List (Int×Int)}
theorem mc_open(h:Holds Z (mcA mb c::F) H):∃m,(Col m c∧(m.map Prod.fst).Nodup)∧Holds Z (mpA iK cV mb m::F) H:=by
 obtain⟨m,h⟩:=h.open_ex;obtain⟨hc,h⟩:=h.open_st;exact⟨m,⟨hc,(h.mp (i:=0) rfl).nodup⟩,h⟩
theorem mc_shut(hc:Col m c)(h:Holds Z (mpA iK cV mb m::F) H):Holds Z (mcA mb c::F) H:=Holds.shut_ex m (Holds.shut_st hc h)
theorem co_open(h:Holds Z (coA b q hb ph c Q L Fr G P::F) H):∃mb qv lv fv c',(ph=0∨c'=c)∧Holds Z (blkA b #[.pointer (some ⟨q,0,none⟩),.pointer (some ⟨hb,0,none⟩),iw ph,.map (some mb),qv,lv,fv] 91::qA q G P::mcA mb c'::ownO iTy qv Q::ownO iTy lv L::ownO iTy fv Fr::F) H:=by
 obtain⟨mb,h⟩:=h.open_ex;obtain⟨qv,h⟩:=h.open_ex;obtain⟨lv,h⟩:=h.open_ex;obtain⟨fv,h⟩:=h.open_ex;obtain⟨c',h⟩:=h.open_ex;exact⟨mb,qv,lv,fv,c',h.open_st⟩
theorem co_open1(hp:ph≠0)(h:Holds Z (coA b q hb ph c Q L Fr G P::F) H):∃mb qv lv fv,True∧Holds Z (blkA b #[.pointer (some ⟨q,0,none⟩),.pointer (some ⟨hb,0,none⟩),iw ph,.map (some mb),qv,lv,fv] 91::qA q G P::mcA mb c::ownO iTy qv Q::ownO iTy lv L::ownO iTy fv Fr::F) H:=by
 obtain⟨mb,qv,lv,fv,c',hc,h2⟩:=co_open h;have e:=hc.resolve_left hp;rw[e]at h2;exact⟨mb,qv,lv,fv,trivial,h2⟩
theorem co_shut{qv lv fv:Value}(hc:ph=0∨c'=c)(h:Holds Z (blkA b #[.pointer (some ⟨q,0,none⟩),.pointer (some ⟨hb,0,none⟩),iw ph,.map (some mb),qv,lv,fv] 91::qA q G P::mcA mb c'::ownO iTy qv Q::ownO iTy lv L::ownO iTy fv Fr::F) H):Holds Z (coA b q hb ph c Q L Fr G P::F) H:=
 Holds.shut_ex mb (Holds.shut_ex qv (Holds.shut_ex lv (Holds.shut_ex fv (Holds.shut_ex c' (Holds.shut_st hc h)))))
end
theorem creach_s{Z:Zone}{F:List Asr}{b q hb:Nat}{m:Int→Int}{Q L Fr G P:List Int}{st:Hst}(hQ:Q.length≤1000000)(id:Int):SF Tryz.prog 46 #[.pointer (some ⟨b,0,none⟩),iw id] Z (coA b q hb 1 m Q L Fr G P::hpA hb st::F) fun r Bs=>r=.tuple #[]∧Bs=coA b q hb 1 (rchM st m id) (rchQ st m Q id) L Fr G P::hpA hb st::F:=by
 refine sf_enter Tryz.func46 34 [(0,pB b 0),(1,iw id)] (fun w0=>?_);refine k_sr<|sP2 (pB b 0)<|sP (pB b 1)<|s_mem4 (fun H h=>co_open1 (show (1:Int)≠0 by decide) (h.re [0] [])) (fun mb1 qv2 lv3 fv4 hw=>?_)
 refine sL (t_load 0 (pB hb 0))<|sP (iw id)<|sC [6] (halive_s (st:=st) id) ?_
 refine sP (.bool (halive st id))<|s_fork 10 (halive st id) (fun c5=>?_) (fun c5=>?_)
 .refine sP2 (pB b 0)<|sP (pB b 3)<|sL (t_load 1 (.map (some mb1)))<|sP (iw id)<|s_memX (fun H h=>mc_open (h.re [3] [])) (fun m6 hw=>?_)
  have hm7:=hw;refine sL (Lt.to (v':=iw (m id)) (t_lookup 0 intOk Tryz.underlying89 (iw 0) id) ((mgt_is _ _).trans (cI (hm7.1 id))))<|sL t_cmp<|sP (.bool (decide ((m id)=0)))<|s_nt<|k_cond (decide ((m id)=0)) (fun c8=>?_) (fun c8=>?_)
  .have p9:=dY c8;refine k_sr<|sP2 (pB b 0)<|sP (pB b 3)<|sL (t_load 2 (.map (some mb1)))<|sP (iw id)<|s_update 0 intOk Tryz.underlying89 id (1:Int) ?_
   refine s_nt<|k_reg<|sP3 (pB b 0)<|sP (pB b 4)<|sL (t_load 2 qv2)<|sP (iw id)<|s_buildSlice (e:=3) [(0,iw id)] #[iw id] (fun g10=>?_) (hb:=by kernel_rfl)
   refine s_appendO (L:=Q) 5 iTy_ok Tryz.underlying23 (.lit 0 iTy_ok [id]) (by show _*8≤_;(try simp only[lnm]);omega) ol (fun v11=>?_);refine s_fact (fun H h=>((Acc.ownO (T:=iTy) (L:=(Q++[id])) 5 rfl) H h).form) (fun hf12=>?_);refine sP (pB b 0)<|sP (pB b 4)<|s_store (u:=v11) (m:=1) 3 #[pB q 0,pB hb 0,iw 1,.map (some mb1),v11,lv3,fv4] ?_ (hm:=by (obtain⟨_,_,e⟩:=hf12;rw[e];rfl)) (h1:=by (obtain⟨_,_,e⟩:=hf12;rw[e];rfl)) (ha':=by (obtain⟨_,_,e⟩:=hf12;rw[e];rfl))
   refine s_nil<|xs_mem (fun _ h=>mc_shut (hm7.1.set id (1:Int)) (h.re [1] [])) ?_
   refine xs_mem (fun _ h=>co_shut (c:=(cset m id (1:Int))) (.inr rfl) (h.re [3,3,0,2,2,2] [])) ?_;refine xs_finN [] (coA b q hb 1 (cset m id (1:Int)) (Q++[id]) L Fr G P::hpA hb st::F) SI.nil (rr [0,1] [2]) ⟨rfl,?_⟩;unfold rchM rchQ;rw[if_pos ⟨c5,dY c8⟩,if_pos ⟨c5,dY c8⟩]
  have p13:=dF c8;refine k_skip<|xs_mem (fun _ h=>mc_shut hm7.1 (h.re [0] [])) ?_
  refine xs_mem (fun _ h=>co_shut (c:=m) (.inr rfl) (h.re [2,2,0,1,1,1] [])) ?_;refine xs_finN [] (coA b q hb 1 m Q L Fr G P::hpA hb st::F) SI.nil (rr [0,0] []) ⟨rfl,?_⟩;unfold rchM rchQ;rw[if_neg (fun e=>dF c8 e.2),if_neg (fun e=>dF c8 e.2)]
 refine sK<|sK<|sK<|sK<|sK<|sK<|sK<|sP (.bool false)<|s_nt<|k_false<|k_skip<|xs_mem (fun _ h=>co_shut (c:=m) (.inr rfl) (h.re [1,1,1,1,1,1] [])) ?_
 refine xs_finN [] (coA b q hb 1 m Q L Fr G P::hpA hb st::F) SI.nil (rr [0,0] []) ⟨rfl,?_⟩;unfold rchM rchQ;rw[if_neg (fun e=>by rw[c5]at e;exact absurd e.1 (by decide)),if_neg (fun e=>by rw[c5]at e;exact absurd e.1 (by decide))]
theorem k_factH{P:Program}{w0:World}{Q:Exit→Act→World→Prop}{n:Nat}{E:Env}{Z:Zone}{As:List Asr}{c:Code}{p:Heap→Prop}(hA:∀H,Holds Z As H→p H)(h:∀H,p H→SK P w0 c Q n E Z As):SK P w0 c Q n E Z As:=fun H hH=>h H (hA H hH) H hH
theorem clone_s{Z:Zone}{lv:Value}{L:List Int}(hL:Kn Z iTy lv L)(hl:L.length≤1000000):SF Tryz.prog 50 #[lv] Z [] fun r Bs=>Bs=[own iTy r L]:=by
 refine sf_enter Tryz.func50 8 [(0,lv)] (fun w0=>?_);refine k_factH (fun H h=>hL.get h) (fun H0 hsl=>?_);refine k_sr<|sP nS<|s_nt<|k_seq<|k_sr<|sP lv<|sL (t_nilS Tryz.underlying23 (.zn hL))<|s_nt<|k_cond (nilS lv) (fun c1=>?_) (fun c1=>?_)
 .refine k_sr<|sP nS<|s_nt<|k_ret<|xs_ret ?_
  have hn:L=[]:=(nilS_spec hsl c1).2;exact xs_fin _ _ (SI.tmp 2 SI.nil) (fun _ h=>by rw[hn];exact h.nilS.re [0] []) rfl
 refine k_st<|k_sr<|s_buildSlice (e:=3) [] #[] (fun g2=>?_) (hb:=by kernel_rfl)
 refine sP lv<|s_mem (fun _ h=>Holds.slice 0 h iTy_ok []) ?_
 refine s_append (L:=[]) 0 iTy_ok Tryz.underlying23 (.zn hL) (by show _*8≤_;(try simp only[lnm]);omega) ol (fun v3=>?_);refine sF 0 (fun hf4=>?_);refine sP v3<|s_nt<|k_ret ?_
 exact xs_fin _ _ (SI.tmp 2 SI.nil) (rr [0] []) rfl
structure Sq where
 p:Option Addr
 c:Nat
 xs:List Int
abbrev Sq.v(s:Sq):Value:=.slice s.p s.xs.length s.c
def SqT:Ty Sq:=⟨23,1,24,false,Sq.v,⟨none,0,[]⟩⟩
theorem SqT_ok:SqT.Ok Tryz.prog:=⟨Nat.one_pos,fun _=>rfl,fun x u hu=>by simp[Ty.enc,SqT,Value.cells]at hu;subst hu;rfl,fun _=>rfl,⟨_,Tryz.underlying23,rfl⟩,fun _=>rfl,⟨Tryz.t23,by kernel_rfl,by kernel_rfl,by kernel_rfl,by kernel_rfl⟩⟩
def cat(S:List Sq):List Int:=S.flatMap Sq.xs
theorem cat_take{S:List Sq}{i:Nat}{y:Sq}(h:S[i]?=some y):cat (S.take i)++y.xs=cat (S.take (i+1)):=by
 unfold cat;rw[List.take_add_one,h];simp[List.flatMap_append]
theorem cat_len{S:List Sq}(h:∀s∈S,s.xs.length≤1000000):∀i:Nat,(cat (S.take i)).length≤1000000*i
 | 0=>by simp[cat]
 | i+1=>by
  cases hy:S[i]? with
  | none=>
   have e:S.take (i+1)=S.take i:=by rw[List.take_add_one,hy];simp
   rw[e];have:=cat_len h i;omega
  | some y=>rw[←cat_take hy,List.length_append];have:=cat_len h i;have:=h y (List.mem_of_getElem? hy);omega
theorem grow_s{Z:Zone}(n:Int)(h0:0≤n)(h1:n≤1000000000):SF Tryz.prog 183 #[.slice none 0 0,iw n] Z [] fun r Bs=>Bs=[own iTy r []]:=by
 refine sf_enter Tryz.func183 27 [(0,nS),(1,iw n)] (fun w0=>?_);refine k_sr<|sP nS<|s_nt<|k_seq<|k_sr<|sP (iw n)<|sL (Lt.to t_cmp (cB (decide_eq_false om:(decide (n<0))=false)))<|s_nt<|k_false<|k_st<|k_seq<|k_sr<|sP (iw n)<|sP nS<|sL (t_kern (iw 0))<|sP nS<|sL (t_kern (iw 0))<|sP (iw 0)<|sL (t_sub n 0 ol)<|sP (iw (n-0))<|s_nr<|sP (iw (n-0))<|sL t_cmp<|s_nt<|k_cond (decide ((0:Int)<(n-0))) (fun c1=>?_) (fun c1=>?_)
 .have p2:=dY c1;refine k_reg<|sP2 nS<|sL (t_kern (iw 0))<|sL (t_pre iTy_ok Tryz.underlying23 .nil 0 0 om ol om)<|sP (iw (n-0))<|s_appendZ (y:=(n-0)) (((n-0)).toNat) iTy_ok Tryz.underlying23 Tryz.underlying3 om om (by show _*8≤_;omega) om (fun v3=>?_)
  refine sF 0 (fun hf4=>?_);refine sP nS<|sL (t_kern (iw 0))<|sL (t_pre iTy_ok Tryz.underlying23 (.own 0) 0 0 om ol om)<|sP (pre v3 0)<|s_nr<|sP2 (pre v3 0)<|s_nt<|k_ret ?_
  exact xs_fin _ _ (SI.tmp 4 SI.nil) (fun _ h=>(Holds.pre (i:=0) h iTy_ok 0 rfl (Nat.zero_le _)).re [0] []) rfl
 have p5:=dF c1;refine k_st<|k_sr<|sP2 nS<|s_nt<|k_ret ?_
 exact xs_fin _ _ (SI.tmp 4 SI.nil) (fun _ h=>h.nilS.re [0] []) rfl
theorem concat_s{Z:Zone}{sv:Value}{S:List Sq}(hS:Kn Z SqT sv S)(hE:∀s∈S,Kn Z iTy s.v s.xs)(hl:S.length≤100)(hB:∀s∈S,s.xs.length≤1000000):SF Tryz.prog 129 #[sv] Z [] fun r Bs=>Bs=[own iTy r (cat S)]:=by
 refine sf_enter Tryz.func129 36 [(0,sv)] (fun w0=>?_);refine k_sr<|sP (.slice none 0 0)<|s_nr<|sP (iw 0)<|s_nt<|k_seq<|k_sr<|sP sv<|sL (t_len SqT_ok Tryz.underlying218 (.zn hS))<|sP (iw 0)<|s_nt<|k_block<|k_loop (ι:=Int×Nat) (fun (sz,i)=>i≤S.length∧sz=((cat (S.take i)).length:Int)) (fun (sz,i)=>[(0,sv),(3,iw sz),(9,sv),(10,iw (S.length:Int)),(11,iw (i:Int))]) (fun (sz,i)=>[]) (fun (sz,i)=>S.length-i) (0,0) ⟨Nat.zero_le _,rfl⟩ sA (rr [] []) ?_
 rintro⟨sz,i⟩ hi1;replace hi1:i≤S.length∧sz=((cat (S.take i)).length:Int):=hi1;show SK _ _ _ _ _ [(0,sv),(3,iw sz),(9,sv),(10,iw (S.length:Int)),(11,iw (i:Int))] _ [];have hcl:=cat_len hB i;obtain⟨hj1,hj2⟩:=id hi1;refine k_sr<|sL t_cmp<|s_nt<|k_seq<|k_cond (decide ((i:Int)<(S.length:Int))) (fun c2=>?_) (fun c2=>?_)
 .have p3:=dY c2;refine k_st<|k_seq<|k_block<|k_sr<|sL (t_index SqT_ok Tryz.underlying218 (.zn hS) (i:Int) i om ol om) ?_
  obtain⟨y4,hy5⟩:∃y,S[i]?=some y:=⟨_,List.getElem?_eq_getElem ol⟩;have hb6:=hB y4 (List.mem_of_getElem? hy5);refine sL (t_loadE SqT_ok (.zn hS) hy5)<|sP y4.v<|s_nr<|sP (iw sz)<|sP y4.v<|sL (t_len iTy_ok Tryz.underlying23 (.zn (hE y4 (List.mem_of_getElem? hy5))))<|sL (t_add sz (y4.xs.length:Int) ol)<|sP (iw (sz+(y4.xs.length:Int)))<|s_nr<|sP (iw (sz+(y4.xs.length:Int)))<|sL (Lt.to t_cmp (cB (decide_eq_false om:(decide ((sz+(y4.xs.length:Int))<0))=false)))<|s_nt<|k_false<|k_skip<|xs_block<|xs_then<|k_reg<|sL (t_add (i:Int) 1 ol)<|sP (iw ((i:Int)+1))<|s_nil ?_
  exact xs_round ((sz+(y4.xs.length:Int)),i+1) (by show S.length-(i+1)<S.length-i;omega) (by obtain⟨hi1,hi2⟩:=hi1;refine⟨by omega,?_⟩;rw[←cat_take hy5,List.length_append];omega) sA (rr [] [])
 have p7:=dF c2;refine k_exit<|xs_exit<|xs_exit<|xs_here<|xs_then<|k_sr<|sP (iw sz)<|s_pcall (fun _ h=>grow_s sz om om) ?_
 rintro v8 _ rfl;refine sF 0 (fun hf9=>?_);refine sP v8<|s_nt<|k_seq<|k_sr<|sP sv<|sL (t_len SqT_ok Tryz.underlying218 (.zn hS))<|sP (iw 0)<|s_nt<|k_block<|k_mem (Bs:=[own iTy v8 (cat (S.take 0))]) (fun _ h=>h) ?_
 refine k_loop (ι:=Value×Nat) (fun (sx,k)=>k≤S.length) (fun (sx,k)=>[(6,sx),(25,sv),(26,iw (S.length:Int)),(27,iw (k:Int))]) (fun (sx,k)=>[own iTy sx (cat (S.take k))]) (fun (sx,k)=>S.length-k) (v8,0) (Nat.zero_le _) sA (rr [0] []) ?_;rintro⟨sx,k⟩ hi10;replace hi10:k≤S.length:=hi10;show SK _ _ _ _ _ [(6,sx),(25,sv),(26,iw (S.length:Int)),(27,iw (k:Int))] _ [own iTy sx (cat (S.take k))];have hcl:=cat_len hB k;refine k_sr<|sL t_cmp<|s_nt<|k_seq<|k_cond (decide ((k:Int)<(S.length:Int))) (fun c11=>?_) (fun c11=>?_)
 .have p12:=dY c11;refine k_st<|k_seq<|k_block<|k_sr<|sL (t_index SqT_ok Tryz.underlying218 (.zn hS) (k:Int) k om ol om) ?_
  obtain⟨y13,hy14⟩:∃y,S[k]?=some y:=⟨_,List.getElem?_eq_getElem ol⟩;have hb15:=hB y13 (List.mem_of_getElem? hy14);refine sL (t_loadE SqT_ok (.zn hS) hy14)<|sP y13.v<|s_nt<|k_reg<|sP sx<|sP y13.v<|s_append (L:=(cat (S.take k))) 0 iTy_ok Tryz.underlying23 (.zn (hE y13 (List.mem_of_getElem? hy14))) (by show _*8≤_;(try simp only[lnm]);omega) ol (fun v16=>?_)
  refine sF 0 (fun hf17=>?_);refine sP v16<|s_nil<|xs_block<|xs_then<|k_reg<|sL (t_add (k:Int) 1 ol)<|sP (iw ((k:Int)+1))<|s_nil ?_
  rw[cat_take hy14];exact xs_round (v16,k+1) (by show S.length-(k+1)<S.length-k;omega) (by show k+1≤S.length;omega) sA (rr [0] [])
 have p18:=dF c11;refine k_exit<|xs_exit<|xs_exit<|xs_here<|xs_then<|k_sr<|sP2 sx<|s_nt<|k_ret ?_
 exact xs_fin _ _ (SI.tmp 2 SI.nil) (fun _ h=>by rw[List.take_of_length_le om]at h;exact h.re [0] []) rfl
theorem each_nil2{p:Sq→Prop}:∀x∈([]:List Sq),p x:=by simp
theorem each_cons2{p:Sq→Prop}{a:Sq}{r:List Sq}(h:p a)(hr:∀x∈r,p x):∀x∈a::r,p x:=by
 intro x hx;rcases List.mem_cons.1 hx with rfl|hx
 .exact h
 exact hr x hx
theorem cnew_s{Z:Zone}{hb:Nat}:SF Tryz.prog 26 #[.pointer (some ⟨hb,0,none⟩)] Z [] fun r Bs=>∃b q,r=.tuple #[.pointer (some ⟨b,0,none⟩),iw 0]∧Bs=[coA b q hb 0 c0 [] [] [] [] []]:=by
 refine sf_enter Tryz.func26 11 [(0,pB hb 0)] (fun w0=>?_);refine k_sr<|sP (.pointer none)<|sP (iw 0)<|s_nt<|k_seq<|k_sr<|sP (pB hb 0)<|sP (.bool false)<|s_nt<|k_false<|k_st<|k_sr<|s_pcall (fun _ h=>qnew_s) ?_
 rintro _ _ ⟨q1,rfl,rfl⟩;refine sP (pB hb 0)<|s_makeMap iK cV (fun b2=>?_)
 refine sL (t_kern (.agg #[pB q1 0,pB hb 0,iw 0,.map (some b2),nS,nS,nS]))<|s_box #[pB q1 0,pB hb 0,iw 0,.map (some b2),nS,nS,nS] (fun g3=>?_)
 refine sP (pB g3 0)<|sP (iw 0)<|s_nt<|k_ret<|xs_mem (fun _ h=>mc_shut Col.nil (h.re [1] [])) ?_
 refine xs_mem (fun _ h=>Holds.nilO (T:=iTy) h) ?_;refine xs_mem (fun _ h=>Holds.nilO (T:=iTy) h) ?_;refine xs_mem (fun _ h=>Holds.nilO (T:=iTy) h) ?_;refine xs_mem (fun _ h=>co_shut (c:=c0) (.inl rfl) (h.re [4,4,3,0,0,0] [])) ?_;exact xs_fin _ _ (SI.tmp 2 (SI.tmp 3 SI.nil)) (rr [0] []) ⟨g3,q1,rfl,rfl⟩
theorem crefs_s{Z:Zone}{F:List Asr}{b q hb:Nat}{ph:Int}{m:Int→Int}{Q L Fr G P:List Int}{st:Hst}{x:Int}{n:Nat}(hsm:HSm n st)(hn:n≤300)(hW:HW st):SF Tryz.prog 66 #[.pointer (some ⟨b,0,none⟩),iw x] Z (coA b q hb ph m Q L Fr G P::hpA hb st::F) fun r Bs=>Bs=own iTy r (crf st x)::coA b q hb ph m Q L Fr G P::hpA hb st::F:=by
 refine sf_enter Tryz.func66 38 [(0,pB b 0),(1,iw x)] (fun w0=>?_);refine k_sr<|sP (.slice none 0 0)<|s_nr<|sP2 (pB b 0)<|sP (pB b 1)<|s_mem5 (fun H h=>co_open (h.re [0] [])) (fun mb1 qv2 lv3 fv4 cl5 hw=>?_)
 have hc6:=hw;refine sL (t_load 0 (pB hb 0))<|sP (iw x)<|s_call [6] (hobject_s (st:=st) hsm om hW x 0) ?_
 rintro _ _ ⟨rv7,ev8,rfl,rfl⟩;refine sF 0 (fun hf9=>?_);refine sF 1 (fun hf10=>?_);obtain⟨hrl,hel,hcl⟩:=crf_bound hsm hn x;refine sP (.tuple #[.agg #[iw (hoId st x),iw (hoSz st x),iw (hoWk st x 0),rv7,ev8],.bool (halive st x)])<|sP (.agg #[iw (hoId st x),iw (hoSz st x),iw (hoWk st x 0),rv7,ev8])<|sP (.bool (halive st x))<|s_alloc (.agg #[iw 0,iw 0,iw 0,(.slice none 0 0),(.slice none 0 0)]) #[iw 0,iw 0,iw 0,(.slice none 0 0),(.slice none 0 0)] (fun g11=>?_)
 refine s_store (u:=.agg #[iw (hoId st x),iw (hoSz st x),iw (hoWk st x 0),rv7,ev8]) (m:=5) 0 #[iw (hoId st x),iw (hoSz st x),iw (hoWk st x 0),rv7,ev8] ?_ (hm:=by (obtain⟨_,_,e⟩:=hf9;rw[e];obtain⟨_,_,e⟩:=hf10;rw[e];rfl)) (h1:=by (obtain⟨_,_,e⟩:=hf9;rw[e];obtain⟨_,_,e⟩:=hf10;rw[e];rfl)) (ha':=by (obtain⟨_,_,e⟩:=hf9;rw[e];obtain⟨_,_,e⟩:=hf10;rw[e];rfl));refine sP (.bool (halive st x))<|s_nr<|sP (pB g11 3)<|sL (t_load 0 rv7)<|s_pcall (fun _ h=>clone_s (Acc.kn (.own 1) h) ol) ?_
 rintro v12 _ rfl;refine sF 0 (fun hf13=>?_);refine sP v12<|s_nt<|k_seq<|k_sr<|sP (pB g11 4)<|sL (t_load 1 ev8)<|sL (t_len EntT_ok Tryz.underlying98 (.own 3))<|sP (iw 0)<|s_nt<|k_block<|k_mem (fun _ h=>co_shut (c:=m) hc6 (h.re [5,5,5,5,5,5] [])) ?_
 refine k_mem (Bs:=coA b q hb ph m Q L Fr G P::own iTy v12 (hrefs st x++((hents st x).take 0).flatMap allE)::blkA g11 #[iw (hoId st x),iw (hoSz st x),iw (hoWk st x 0),rv7,ev8] 100::own iTy rv7 (hrefs st x)::own EntT ev8 (hents st x)::hpA hb st::F) (fun _ h=>by rw[show hrefs st x++((hents st x).take 0).flatMap allE=hrefs st x from List.append_nil _];exact h) ?_;refine k_loop (ι:=Value×Nat) (fun (sx,i)=>i≤(hents st x).length) (fun (sx,i)=>[(7,sx),(23,ev8),(24,iw ((hents st x).length:Int)),(25,iw (i:Int))]) (fun (sx,i)=>coA b q hb ph m Q L Fr G P::own iTy sx (hrefs st x++((hents st x).take i).flatMap allE)::blkA g11 #[iw (hoId st x),iw (hoSz st x),iw (hoWk st x 0),rv7,ev8] 100::own iTy rv7 (hrefs st x)::own EntT ev8 (hents st x)::hpA hb st::F) (fun (sx,i)=>(hents st x).length-i) (v12,0) (Nat.zero_le _) sA (rr [0,0,0,0,0,0] []) ?_;rintro⟨sx,i⟩ hi14;replace hi14:i≤(hents st x).length:=hi14;show SK _ _ _ _ _ [(7,sx),(23,ev8),(24,iw ((hents st x).length:Int)),(25,iw (i:Int))] _ (coA b q hb ph m Q L Fr G P::own iTy sx (hrefs st x++((hents st x).take i).flatMap allE)::blkA g11 #[iw (hoId st x),iw (hoSz st x),iw (hoWk st x 0),rv7,ev8] 100::own iTy rv7 (hrefs st x)::own EntT ev8 (hents st x)::hpA hb st::F);have hfl:=ent_len ((hents st x).take i);rw[List.length_take]at hfl;refine k_sr<|sL t_cmp<|s_nt<|k_seq<|k_cond (decide ((i:Int)<((hents st x).length:Int))) (fun c15=>?_) (fun c15=>?_)
 .have p16:=dY c15;refine k_st<|k_seq<|k_block<|k_sr<|sL (t_index EntT_ok Tryz.underlying98 (.own 4) (i:Int) i om ol om) ?_
  obtain⟨y17,hy18⟩:∃y,(hents st x)[i]?=some y:=⟨_,List.getElem?_eq_getElem ol⟩;refine sL (t_loadE EntT_ok (.own 4) hy18)<|s_alloc (.agg #[iw 0,iw 0]) #[iw 0,iw 0] (fun g19=>?_)
  refine s_store 0 #[iw y17.key,iw y17.val] ?_;refine s_nt<|k_reg<|sP sx<|sP (pB g19 0)<|sL (t_load 0 (iw y17.key))<|sP (pB g19 1)<|sL (t_load 0 (iw y17.val))<|s_buildSlice (e:=3) [(0,iw y17.key),(1,iw y17.val)] #[iw y17.key,iw y17.val] (fun g20=>?_) (hb:=by kernel_rfl)
  refine s_append (L:=(hrefs st x++((hents st x).take i).flatMap allE)) 3 iTy_ok Tryz.underlying23 (.lit 0 iTy_ok [y17.key,y17.val]) (by show _*8≤_;(try simp only[lnm]);omega) ol (fun v21=>?_);refine sF 3 (fun hf22=>?_);refine sP v21<|s_nil<|xs_block<|xs_then<|k_reg<|sL (t_add (i:Int) 1 ol)<|sP (iw ((i:Int)+1))<|s_nil ?_
  rw[List.append_assoc,ent_take hy18];exact xs_round (v21,i+1) (by show (hents st x).length-(i+1)<(hents st x).length-i;omega) (by show i+1≤(hents st x).length;omega) sA (rr [2,2,2,2,2,2] [6,6])
 have p23:=dF c15;refine k_exit<|xs_exit<|xs_exit<|xs_here<|xs_then<|k_sr<|sP2 sx<|s_nt<|k_ret ?_
 exact xs_fin _ _ (SI.tmp 4 SI.nil) (fun _ h=>by rw[List.take_of_length_le om]at h;exact h.re [1,0,3] [3,3,3]) rfl
theorem call_s{Z:Zone}{F:List Asr}{b q hb:Nat}{ph:Int}{m:Int→Int}{Q L Fr G P:List Int}{rv:Value}{R:List Int}(hR:R.length≤100000)(hG:G.length+P.length≤80000):SF Tryz.prog 67 #[.pointer (some ⟨b,0,none⟩),rv] Z (own iTy rv R::coA b q hb ph m Q L Fr G P::F) fun r Bs=>Bs=own iTy r (R++(G++P))::own iTy rv R::coA b q hb ph m Q L Fr G P::F:=by
 refine sf_enter Tryz.func67 18 [(0,pB b 0),(1,rv)] (fun w0=>?_);refine k_fact (fun H h=>((Acc.own (T:=iTy) (L:=R) 0 rfl) H h).form) (fun hf=>?_);obtain⟨pp,cc,e⟩:=hf;subst e;refine k_sr<|sP nS<|s_nt<|k_seq<|k_mem5 (fun H h=>co_open (h.re [1] [])) (fun mb1 qv2 lv3 fv4 cl5 hw=>?_)
 have hc6:=hw;refine k_held [blkA b #[pB q 0,pB hb 0,iw ph,.map (some mb1),qv2,lv3,fv4] 91,own iTy (.slice pp R.length cc) R] ?_;refine hp_ 0 [0,5] (.slice pp R.length cc) ?_;refine hp_ 1 [0,5] (pB b 0) ?_;refine hp_ 2 [0,5] (pB b 0) ?_;refine hp_ 3 [0,5] (pB b 0) ?_;refine h_l 4 rfl [0,5] (fun _=>(t_load 0 (pB q 0))) ?_;refine hp_ 6 [0,5] (pB b 0) ?_;refine hp_ 7 [0,5] (pB b 0) ?_;refine hp_ 8 [0,5] (pB b 0) ?_;refine h_l 9 rfl [0,5] (fun _=>(t_load 0 (pB q 0))) ?_;refine h_stepS 5 ?_;refine s_call [1] (registered_s (reg:=G) ol) ?_;rintro v7 _ rfl;refine sF 0 (fun hf8=>?_);refine nH [2,6]<|h_stepS 10 ?_
 refine s_call [1] (pending_s (pend:=P) ol) ?_;rintro v9 _ rfl;refine sF 0 (fun hf10=>?_);refine nH [3,7]<|h_stepS 11 ?_
 obtain⟨pp11,cc12,e⟩:=hf8;subst e;obtain⟨pp13,cc14,e⟩:=hf10;subst e;refine s_buildSlice (e:=23) [(0,(.slice pp R.length cc)),(1,(.slice pp11 G.length cc12)),(2,(.slice pp13 P.length cc14))] #[(.slice pp R.length cc),(.slice pp11 G.length cc12),(.slice pp13 P.length cc14)] (fun g15=>?_) (hb:=by kernel_rfl);refine nH [4,8]<|h_stepS 12 ?_
 refine s_pcall (fun _ h=>concat_s (S:=[⟨pp,cc,R⟩,⟨pp11,cc12,G⟩,⟨pp13,cc14,P⟩]) (Acc.kn (T:=SqT) (Acc.lit 0 SqT_ok [⟨pp,cc,R⟩,⟨pp11,cc12,G⟩,⟨pp13,cc14,P⟩]) h) (each_cons2 (Acc.kn (T:=iTy) (.own 9) h) (each_cons2 (Acc.kn (T:=iTy) (.own 3) h) (each_cons2 (Acc.kn (T:=iTy) (.own 1) h) each_nil2))) (by show 3≤100;decide) (each_cons2 (by show R.length≤_;(try simp only[lnm]);omega) (each_cons2 (by show G.length≤_;(try simp only[lnm]);omega) (each_cons2 (by show P.length≤_;(try simp only[lnm]);omega) each_nil2)))) ?_;rintro v16 _ rfl;have hcat:cat [⟨pp,cc,R⟩,⟨pp11,cc12,G⟩,⟨pp13,cc14,P⟩]=(R++(G++(P))):=by simp[cat]
 refine s_mem (Bs:=own iTy v16 (R++(G++(P)))::blkA g15 #[(.slice pp R.length cc),(.slice pp11 G.length cc12),(.slice pp13 P.length cc14)] 23::own iTy (.slice pp13 P.length cc14) P::qA q G P::own iTy (.slice pp11 G.length cc12) G::blkA b #[pB q 0,pB hb 0,iw ph,.map (some mb1),qv2,lv3,fv4] 91::mcA mb1 cl5::ownO iTy qv2 Q::ownO iTy lv3 L::ownO iTy fv4 Fr::own iTy (.slice pp R.length cc) R::F) (fun _ h=>by rw[hcat]at h;exact h) ?_;refine sF 0 (fun hf17=>?_);refine nH [5,9]<|hp_ 13 [5,9] v16 ?_
 refine h_doneS ?_;refine xs_then<|k_ret<|xs_mem (fun _ h=>co_shut (c:=m) hc6 (h.re [5,3,4,4,4,4] [])) ?_
 exact xs_fin _ _ (SI.tmp 4 SI.nil) (rr [1,4,0] [3,3,3]) rfl
theorem crooted_s{Z:Zone}{F:List Asr}{b q hb:Nat}{m:Int→Int}{Q L Fr G P:List Int}{st:Hst}{rv:Value}{R:List Int}(hR:R.length≤10000)(hG:G.length+P.length≤10000)(hQ:Q.length≤100000):SF Tryz.prog 108 #[.pointer (some ⟨b,0,none⟩),rv] Z (own iTy rv R::coA b q hb 1 m Q L Fr G P::hpA hb st::F) fun r Bs=>r=.tuple #[]∧Bs=own iTy rv R::coA b q hb 1 ((rchA st (m,Q) (R++(G++P))).1) ((rchA st (m,Q) (R++(G++P))).2) L Fr G P::hpA hb st::F:=by
 refine sf_enter Tryz.func108 18 [(0,pB b 0),(1,rv)] (fun w0=>?_);refine k_sr<|sP (pB b 0)<|sP rv<|s_call [0,0] (call_s (R:=R) (G:=G) (P:=P) om om) ?_
 rintro v1 _ rfl;refine sF 0 (fun hf2=>?_);refine sL (t_len iTy_ok Tryz.underlying23 (.own 0))<|sP (iw 0)<|s_nt<|k_block ?_
 have hRl:(R++(G++P)).length=R.length+(G.length+P.length):=by rw[List.length_append,List.length_append]
 refine k_mem (Bs:=own iTy v1 (R++(G++P))::own iTy rv R::coA b q hb 1 ((rchA st (m,Q) ((R++(G++P)).take 0)).1) ((rchA st (m,Q) ((R++(G++P)).take 0)).2) L Fr G P::hpA hb st::F) (fun _ h=>h) ?_;refine k_loop (ι:=Nat) (fun i=>i≤(R++(G++P)).length) (fun i=>[(0,pB b 0),(8,v1),(9,iw ((R++(G++P)).length:Int)),(10,iw (i:Int))]) (fun i=>own iTy v1 (R++(G++P))::own iTy rv R::coA b q hb 1 ((rchA st (m,Q) ((R++(G++P)).take i)).1) ((rchA st (m,Q) ((R++(G++P)).take i)).2) L Fr G P::hpA hb st::F) (fun i=>(R++(G++P)).length-i) 0 (Nat.zero_le _) sA (rr [0,0,0,0] []) ?_;rintro i hi3;show SK _ _ _ _ _ [(0,pB b 0),(8,v1),(9,iw ((R++(G++P)).length:Int)),(10,iw (i:Int))] _ (own iTy v1 (R++(G++P))::own iTy rv R::coA b q hb 1 ((rchA st (m,Q) ((R++(G++P)).take i)).1) ((rchA st (m,Q) ((R++(G++P)).take i)).2) L Fr G P::hpA hb st::F);have hql:=rchA_len st ((R++(G++P)).take i) (m,Q);rw[List.length_take]at hql;dsimp only at hql;refine k_sr<|sL t_cmp<|s_nt<|k_seq<|k_cond (decide ((i:Int)<((R++(G++P)).length:Int))) (fun c4=>?_) (fun c4=>?_)
 .have p5:=dY c4;refine k_st<|k_seq<|k_block<|k_sr<|sL (t_index iTy_ok Tryz.underlying23 (.own 0) (i:Int) i om ol om) ?_
  obtain⟨y6,hy7⟩:∃y,(R++(G++P))[i]?=some y:=⟨_,List.getElem?_eq_getElem ol⟩;refine sL (t_loadE iTy_ok (.own 0) hy7)<|sP (iw y6)<|s_nt<|k_reg<|sP (pB b 0)<|sP (iw y6)<|sC [2,2] (creach_s (Q:=(rchA st (m,Q) ((R++(G++P)).take i)).2) om y6) ?_
  refine s_nil<|xs_block<|xs_then<|k_reg<|sL (t_add (i:Int) 1 ol)<|sP (iw ((i:Int)+1))<|s_nil<|xs_mem (Bs:=coA b q hb 1 ((rchA st (m,Q) ((R++(G++P)).take (i+1))).1) ((rchA st (m,Q) ((R++(G++P)).take (i+1))).2) L Fr G P::hpA hb st::own iTy v1 (R++(G++P))::own iTy rv R::F) (fun _ h=>by rw[rchA_take hy7];exact h) ?_
  exact xs_round (i+1) (by show (R++(G++P)).length-(i+1)<(R++(G++P)).length-i;omega) om sA (rr [2,2,0,0] [])
 have p8:=dF c4;refine k_exit ?_;obtain rfl:i=(R++(G++P)).length:=by omega
 rw[List.take_length];refine xs_exit<|xs_exit<|xs_here ?_
 exact xs_finN _ _ SI.nil (rr [1,1,1] [3]) ⟨rfl,rfl⟩
theorem cbegin_s{Z:Zone}{F:List Asr}{b q hb:Nat}{m:Int→Int}{L Fr G P:List Int}{st:Hst}{rv:Value}{R:List Int}(hR:R.length≤10000)(hG:G.length+P.length≤10000):SF Tryz.prog 47 #[.pointer (some ⟨b,0,none⟩),rv] Z (own iTy rv R::coA b q hb 0 m [] L Fr G P::hpA hb st::F) fun r Bs=>r=.tuple #[]∧Bs=own iTy rv R::coA b q hb 1 ((rchA st (c0,[]) (R++(G++P))).1) ((rchA st (c0,[]) (R++(G++P))).2) L Fr G P::hpA hb st::F:=by
 refine sf_enter Tryz.func47 17 [(0,pB b 0),(1,rv)] (fun w0=>?_);refine k_sr<|sP (pB b 0)<|s_makeMap iK cV (fun b1=>?_)
 refine sP (pB b 0)<|sP (pB b 3)<|s_mem5 (fun H h=>co_open (h.re [2] [])) (fun mb2 qv3 lv4 fv5 cl6 hw=>?_)
 have hc7:=hw;refine s_store 0 #[pB q 0,pB hb 0,iw 0,.map (some b1),qv3,lv4,fv5] ?_;refine s_nr<|sP2 (pB b 0)<|sP (pB b 4)<|s_store 0 #[pB q 0,pB hb 0,iw 0,.map (some b1),nS,lv4,fv5] ?_
 refine s_nr<|sP2 (pB b 0)<|sP (pB b 2)<|s_store 0 #[pB q 0,pB hb 0,iw 1,.map (some b1),nS,lv4,fv5] ?_
 refine s_nt<|k_reg<|sP (pB b 0)<|sP rv<|s_mem (fun _ h=>mc_shut Col.nil (h.re [6] [])) ?_
 refine s_mem (fun _ h=>Holds.nilO (T:=iTy) h) ?_;refine s_mem (fun _ h=>co_shut (c:=c0) (.inr rfl) (h.re [2,2,1,0,2,2] [])) ?_;refine sC [3,0,2] (crooted_s (R:=R) (G:=G) (P:=P) (Q:=([]:List Int)) (m:=c0) om om (by first|omega|simp)) ?_;refine s_nil ?_;exact xs_finN _ _ SI.nil (rr [0,0,0] [3,3]) ⟨rfl,rfl⟩
end Go.Proofs.YtmhpcebiamkciaaGreat
end
section
set_option linter.unusedSimpArgs false
set_option linter.unusedVariables false
namespace Go.Proofs.YtmhpcebiamkciaaGreat
variable{st:Hst}{R:List Int}{s:Cst}{k N:Nat}{x:Int}{L:List Int}
def mks(st:Hst)(R:List Int)(s:Cst):Cst:=if (setl st R s).ph=1 then mrk st (setl st R s) else setl st R s
def addw(n:Nat)(t:Hst×Cst×Nat):Hst×Cst×Nat:=(t.1,t.2.1,t.2.2+n)
theorem setl_two(h:s.ph≠1):setl st R s=s:=by unfold setl;rw[if_neg fun q=>h q.1]
theorem setl_ne(h:s.Q≠[]):setl st R s=s:=by unfold setl;rw[if_neg fun q=>h q.2]
theorem wrk_succ(h:s.ph≠0):wrk (k+1) st R s=if (itr st R s).2.2=true then addw 1 (wrk k (itr st R s).1 R (itr st R s).2.1) else ((itr st R s).1,(itr st R s).2.1,0):=by
 rw[wrk,if_neg h];rfl
theorem setl_ph(h:s.ph=1):(setl st R s).ph=1∨(setl st R s).ph=2:=by
 unfold setl;split
 .split
  .exact .inr rfl
  exact .inl h
 exact .inl h
theorem setl_idem:setl st R (setl st R s)=setl st R s:=by
 by_cases h:s.ph=1∧s.Q=[]
 .have e:setl st R s=if (rchA st (s.col,[]) (s.rts R)).2=[] then { s with ph:=2,col:=(rchA st (s.col,[]) (s.rts R)).1,L:=hids st } else { s with col:=(rchA st (s.col,[]) (s.rts R)).1,Q:=(rchA st (s.col,[]) (s.rts R)).2 }:=by
   unfold setl;rw[if_pos h]
  by_cases q:(rchA st (s.col,[]) (s.rts R)).2=[]
  .rw [if_pos q]at e;have:(setl st R s).ph≠1:=by rw[e];show (2:Int)≠1;decide
   exact setl_two this
  rw[if_neg q]at e;have hq:(setl st R s).Q≠[]:=by rw[e];exact q
  exact setl_ne hq
 have:setl st R s=s:=by unfold setl;rw[if_neg h]
 rw[this,this]
theorem wrk_mark(h1:s.ph=1)(h2:(setl st R s).ph=1):wrk (k+1) st R s=addw 1 (wrk k st R (mks st R s)):=by
 have e:itr st R s=(st,mks st R s,true):=by unfold itr mks;rw[if_pos h2,if_pos h2]
 rw[wrk_succ om,e];rfl
theorem wrk_turn(h1:s.ph=1)(h2:(setl st R s).ph≠1):wrk (k+1) st R s=wrk (k+1) st R (mks st R s):=by
 have e1:mks st R s=setl st R s:=by unfold mks;rw[if_neg h2]
 have e2:itr st R (setl st R s)=itr st R s:=by unfold itr;rw[setl_idem]
 have h3:=setl_ph (st:=st) (R:=R) h1;rw[e1,wrk_succ om,wrk_succ (s:=setl st R s) om,e2]
theorem wrk_sweep(h1:s.ph=2)(h2:s.L≠[]):wrk (k+1) st R s=addw 1 (wrk k (swp st s).1 R (cfin (swp st s).2)):=by
 have h3:=setl_two (st:=st) (R:=R) (s:=s) om;have e:itr st R s=((swp st s).1,cfin (swp st s).2,true):=by unfold itr;rw[h3,if_neg om,if_neg h2]
 rw[wrk_succ om,e];rfl
theorem wrk_end(h:s.ph=0):wrk k st R s=(st,s,0):=by
 cases k with
 | zero=>rfl
 | succ k=>rw[wrk,if_pos h]
theorem cfin_nil(h:s.L=[]):cfin s={ s with ph:=0 }:=if_pos h
theorem cfin_cons(h:s.L≠[]):cfin s=s:=if_neg h
theorem wrk_none(h1:s.ph=2)(h2:s.L=[]):wrk (k+1) st R s=wrk k st R (cfin s):=by
 have h3:=setl_two (st:=st) (R:=R) (s:=s) om;have e:itr st R s=(st,cfin s,false):=by unfold itr;rw[h3,if_neg om,if_pos h2]
 rw[wrk_end (s:=cfin s) (by rw[cfin_nil h2]),wrk_succ om,e];rfl
theorem addw_add(a b:Nat)(t:Hst×Cst×Nat):addw a (addw b t)=addw (a+b) t:=by
 unfold addw;simp only[Prod.mk.injEq,true_and];omega
/-! ### What every state keeps -/
theorem swp_white(h:s.L=x::L)(hw:s.col x=0):swp st s=(hdrop st x,{ s with L:=L,Fr:=s.Fr++[x] }):=by unfold swp;rw[h];exact if_pos hw
theorem swp_black(h:s.L=x::L)(hw:s.col x≠0):swp st s=(st,{ s with L:=L,col:=cset s.col x 0 }):=by unfold swp;rw[h];exact if_neg hw
theorem halive_drop(st:Hst)(x y:Int):halive (hdrop st x) y=if y=x then false else halive st y:=by
 unfold halive;rw[get_drop];split<;>rfl
theorem asc_same{A B:List Int}(hA:A.Pairwise (· < ·))(hB:B.Pairwise (· < ·))(hm:∀x,x∈A↔x∈B):A=B:=by
 rw[←srt_asc' hA,←srt_asc' hB];exact srt_perm' (perm_of_mem (asc_nodup hA) (asc_nodup hB) hm)
theorem hids_drop(st:Hst)(x:Int):hids (hdrop st x)=(hids st).filter fun y=>!decide (y=x):=by
 refine asc_same (hids_asc _) ((hids_asc st).filter _) fun y=>?_
 rw[mem_hids,List.mem_filter,mem_hids,halive_drop];by_cases e:y=x<;>simp[e]
theorem hids_drop_len(h:halive st x=true):(hids (hdrop st x)).length+1≤(hids st).length:=by
 rw[hids_drop];have hm:=mem_hids.2 h;have:∀l:List Int,x∈l→(l.filter fun y=>!decide (y=x)).length+1≤l.length:=by
  intro l;induction l with
  | nil=>intro h;cases h
  | cons a r ih=>
   intro h;rw[List.filter_cons];by_cases e:a=x
   .subst e;have:=List.length_filter_le (fun y=>!decide (y=a)) r;simp;omega
   have:=ih ((List.mem_cons.1 h).resolve_left fun q=>e q.symm);simp[e];omega
 exact this _ hm
theorem drop_sm'{n:Nat}(h:HSm n st)(x:Int):HSm n (hdrop st x):=⟨by rw[drop_len.1];exact h.len,fun o ho=>h.obs o (mem_drop ho)⟩
theorem CI.bgn(h:CI N st s)(h0:s.ph=0)(R:List Int):CI N st (bgn st R s) where
 ph:=.inr (.inl rfl)
 q _:=(QI.nil st c0).rchA _
 q0 e:=absurd rfl e
 l e:=by exact absurd e (show (1:Int)≠2 by decide)
 l0 _:=h.l0 om
 fr:=h.fr
 gp:=h.gp
 sm:=h.sm
 w:=h.w
 i:=h.i
theorem hids_nodup(st:Hst):(hids st).Nodup:=asc_nodup (hids_asc st)
theorem CI.setl(h:CI N st s)(h1:s.ph=1)(R:List Int):CI N st (setl st R s):=by
 by_cases q:s.ph=1∧s.Q=[]
 .have hq:=(QI.nil st s.col).rchA (s.rts R);unfold Go.Proofs.YtmhpcebiamkciaaGreat.setl;rw[if_pos q];by_cases e:(rchA st (s.col,[]) (s.rts R)).2=[]
  .rw [if_pos e];exact⟨.inr (.inr rfl),fun e=>absurd e (show (2:Int)≠1 by decide),fun _=>q.2,fun _=>⟨hids_nodup st,fun x hx=>mem_hids.1 hx⟩,fun e=>absurd rfl e,h.fr,h.gp,h.sm,h.w,h.i⟩
  rw[if_neg e];exact⟨.inr (.inl h1),fun _=>hq,fun e=>absurd h1 e,fun e=>by have:s.ph=2:=e;omega,fun _=>h.l0 om,h.fr,h.gp,h.sm,h.w,h.i⟩
 have:Go.Proofs.YtmhpcebiamkciaaGreat.setl st R s=s:=by unfold Go.Proofs.YtmhpcebiamkciaaGreat.setl;rw[if_neg q]
 rw[this];exact h
theorem QI.pop{c:Int→Int}{Q:List Int}(h:QI st c (x::Q)):QI st c Q:=⟨(List.nodup_cons.1 h.1).2,fun y hy=>h.2 y (List.mem_cons_of_mem _ hy)⟩
theorem QI.black {c : Int → Int} {Q : List Int} (h : QI st c Q) (x : Int) : QI st (cset c x 2) Q := ⟨h.1, fun y hy => ⟨(h.2 y hy).1, by
  unfold cset; split
  · decide
  · exact (h.2 y hy).2⟩⟩
theorem CI.mrk(h:CI N st s)(h1:s.ph=1):CI N st (mrk st s):=by
 unfold Go.Proofs.YtmhpcebiamkciaaGreat.mrk;have hq:=h.q h1;split
 .rename_i x Q e;rw[e]at hq;exact⟨h.ph,fun _=>(hq.pop.rchA _).black x,fun q=>absurd h1 q,fun q=>by have:s.ph=2:=q;omega,h.l0,h.fr,h.gp,h.sm,h.w,h.i⟩
 exact h
theorem CI.mks(h:CI N st s)(h1:s.ph=1)(R:List Int):CI N st (mks st R s):=by
 unfold Go.Proofs.YtmhpcebiamkciaaGreat.mks;split
 .rename_i q;exact (h.setl h1 R).mrk q
 exact h.setl h1 R
theorem CI.swp(h:CI N st s)(h2:s.ph=2)(hL:s.L=x::L):CI N (swp st s).1 (swp st s).2:=by
 obtain⟨hn,ha⟩:=h.l h2;rw[hL]at hn ha;rw[List.nodup_cons]at hn;have hx:=ha x (by simp);by_cases e:s.col x=0
 .rw [swp_white hL e];have hl:=hids_drop_len hx;have hf:=h.fr;refine⟨.inr (.inr h2),fun q=>by have:s.ph=1:=q;omega,h.q0,fun _=>⟨hn.2,fun y hy=>?_⟩,fun q=>absurd h2 q,?_,h.gp,drop_sm' h.sm x,drop_w h.w x,drop_inv h.i x⟩
  .show halive (hdrop st x) y=true;rw[halive_drop,if_neg fun q=>hn.1 (by rw[←q];exact hy)];exact ha y (List.mem_cons_of_mem _ hy)
  show (s.Fr++[x]).length+(hids (hdrop st x)).length≤N;rw[List.length_append,List.length_singleton];omega
 rw[swp_black hL e];exact⟨.inr (.inr h2),fun q=>by have:s.ph=1:=q;omega,h.q0,fun _=>⟨hn.2,fun y hy=>ha y (List.mem_cons_of_mem _ hy)⟩,fun q=>absurd h2 q,h.fr,h.gp,h.sm,h.w,h.i⟩
theorem CI.fin(h:CI N st s)(h2:s.ph=2):CI N st (cfin s):=by
 by_cases e:s.L=[]
 .rw [cfin_nil e];exact⟨.inl rfl,fun q=>absurd q (show (0:Int)≠1 by decide),fun _=>h.q0 om,fun q=>absurd q (show (0:Int)≠2 by decide),fun _=>e,h.fr,h.gp,h.sm,h.w,h.i⟩
 rw[cfin_cons e];exact h
theorem swp_ph(h:s.ph=2):(swp st s).2.ph=2:=by
 unfold swp;split
 .split<;>exact h
 exact h
theorem work_eq{u:Int}{t:Hst×Cst×Nat}(hu:¬u≤0)(h:wrk u.toNat st R (if s.ph=0 then bgn st R s else s)=t):work u.toNat st R s=t:=by
 unfold work;rw[if_neg om];exact h
theorem work_zero{u:Int}(hu:u≤0):work u.toNat st R s=(st,s,0):=by
 unfold work;rw[if_pos om]
def wtp(ph:Int):Nat:=if ph=1 then 2 else if ph=0 then 0 else 1
theorem wtp1{p:Int}(h:p=1):wtp p=2:=if_pos h
theorem wtp2{p:Int}(h:p=2):wtp p=1:=by unfold wtp;rw[if_neg om,if_neg om]
theorem wtp0{p:Int}(h:p=0):wtp p=0:=by unfold wtp;rw[if_neg om,if_pos h]
theorem wtp_le(p:Int):wtp p≤2:=by unfold wtp;split<;>(try split)<;>omega
end Go.Proofs.YtmhpcebiamkciaaGreat
end
section
set_option linter.unusedSimpArgs false
set_option linter.unusedVariables false
set_option maxRecDepth 100000
set_option maxHeartbeats 2000000
namespace Go.Proofs.YtmhpcebiamkciaaGreat
open Go.Hp Go.J Go.S
open Go.Mem (Ty KTy blk elemAt pre suf blk_pre blk_suf aget aset strK aggDesc)
open Go.Mem (adel apos aget_aset aget_adel)
theorem cmark1_s{Z:Zone}{F:List Asr}{b q hb:Nat}{m:Int→Int}{Q L Fr G P:List Int}{st:Hst}{x:Int}{rv:Value}{R:List Int}(hQ:Q.length≤100000){n:Nat}(hsm:HSm n st)(hn:n≤300)(hW:HW st):SF Tryz.prog 48 #[.pointer (some ⟨b,0,none⟩),rv] Z (own iTy rv R::coA b q hb 1 m (x::Q) L Fr G P::hpA hb st::F) fun r Bs=>r=.bool true∧Bs=own iTy rv R::coA b q hb 1 (cset (rchA st (m,Q) (crf st x)).1 x 2) ((rchA st (m,Q) (crf st x)).2) L Fr G P::hpA hb st::F:=by
 refine sf_enter Tryz.func48 65 [(0,pB b 0),(1,rv)] (fun w0=>?_);refine k_sr<|sP (.bool false)<|s_nt<|k_seq<|k_sr<|sP2 (pB b 0)<|sP (pB b 4)<|s_mem4 (fun H h=>co_open1 (show (1:Int)≠0 by decide) (h.re [1] [])) (fun mb1 qv2 lv3 fv4 hw=>?_)
 refine sL (t_load 0 qv2)<|sL (t_len iTy_ok Tryz.underlying23 (.ownO 3))<|sL (Lt.to t_cmp (cB (decide_eq_false (by simp;omega):(decide (((x::Q).length:Int)=0))=false)))<|s_nt<|k_false<|k_st<|k_seq<|k_sr<|sP2 (pB b 0)<|sP (pB b 4)<|sL (t_load 0 qv2)<|sL (t_len iTy_ok Tryz.underlying23 (.ownO 3))<|sL (Lt.to t_cmp (cB (decide_eq_false (by simp;omega):(decide (((x::Q).length:Int)=0))=false)))<|s_nt<|k_false<|k_st<|k_sr<|sP2 (pB b 0)<|sP (pB b 4)<|sL (t_load 0 qv2)<|sL (t_index iTy_ok Tryz.underlying23 (.ownO 3) 0 0 om ol om)<|sL (t_loadE iTy_ok (.ownO 3) (show ((x::Q))[0]?=some x from rfl))<|sP (iw x)<|s_nr<|sP3 (pB b 0)<|sP (pB b 4)<|sL (t_load 0 qv2) ?_
 refine sL (t_suf iTy_ok Tryz.underlying23 (.ownO 3) 1 1 om ol om)<|sP (pB b 0)<|sP (pB b 4)<|s_mem (fun _ h=>Holds.sufO (i:=3) h iTy_ok 1 rfl ol) ?_
 refine s_fact (fun H h=>((Acc.ownO (T:=iTy) (L:=((x::Q).drop 1)) 3 rfl) H h).form) (fun hf5=>?_);refine s_store (u:=(suf iTy.size qv2 1)) (m:=1) 0 #[pB q 0,pB hb 0,iw 1,.map (some mb1),(suf iTy.size qv2 1),lv3,fv4] ?_ (hm:=by (obtain⟨_,_,e⟩:=hf5;rw[e];rfl)) (h1:=by (obtain⟨_,_,e⟩:=hf5;rw[e];rfl)) (ha':=by (obtain⟨_,_,e⟩:=hf5;rw[e];rfl));refine s_nt<|k_seq<|k_sr<|sP (pB b 0)<|sP (iw x)<|s_mem (fun _ h=>co_shut (c:=m) (.inr rfl) (h.re [0,0,0,0,0,0] [])) ?_
 refine s_call [0,1] (crefs_s (x:=x) hsm hn hW) ?_;rintro v6 _ rfl;refine sF 0 (fun hf7=>?_);refine sL (t_len iTy_ok Tryz.underlying23 (.own 0))<|sP (iw 0)<|s_nt<|k_block<|k_mem (Bs:=own iTy v6 (crf st x)::coA b q hb 1 ((rchA st (m,Q) ((crf st x).take 0)).1) ((rchA st (m,Q) ((crf st x).take 0)).2) L Fr G P::hpA hb st::own iTy rv R::F) (fun _ h=>h) ?_
 obtain⟨_,_,hcl⟩:=crf_bound hsm hn x;refine k_loop (ι:=Nat) (fun i=>i≤(crf st x).length) (fun i=>[(0,pB b 0),(5,iw x),(50,v6),(51,iw ((crf st x).length:Int)),(52,iw (i:Int))]) (fun i=>own iTy v6 (crf st x)::coA b q hb 1 ((rchA st (m,Q) ((crf st x).take i)).1) ((rchA st (m,Q) ((crf st x).take i)).2) L Fr G P::hpA hb st::own iTy rv R::F) (fun i=>(crf st x).length-i) 0 (Nat.zero_le _) sA (rr [0,0,0,0] []) ?_;rintro i hi8;show SK _ _ _ _ _ [(0,pB b 0),(5,iw x),(50,v6),(51,iw ((crf st x).length:Int)),(52,iw (i:Int))] _ (own iTy v6 (crf st x)::coA b q hb 1 ((rchA st (m,Q) ((crf st x).take i)).1) ((rchA st (m,Q) ((crf st x).take i)).2) L Fr G P::hpA hb st::own iTy rv R::F);have hql:=rchA_len st ((crf st x).take i) (m,Q);rw[List.length_take]at hql;dsimp only at hql;refine k_sr<|sL t_cmp<|s_nt<|k_seq<|k_cond (decide ((i:Int)<((crf st x).length:Int))) (fun c9=>?_) (fun c9=>?_)
 .have p10:=dY c9;refine k_st<|k_seq<|k_block<|k_sr<|sL (t_index iTy_ok Tryz.underlying23 (.own 0) (i:Int) i om ol om) ?_
  obtain⟨y11,hy12⟩:∃y,(crf st x)[i]?=some y:=⟨_,List.getElem?_eq_getElem ol⟩;refine sL (t_loadE iTy_ok (.own 0) hy12)<|sP (iw y11)<|s_nt<|k_reg<|sP (pB b 0)<|sP (iw y11)<|sC [1,1] (creach_s (Q:=(rchA st (m,Q) ((crf st x).take i)).2) om y11) ?_
  refine s_nil<|xs_block<|xs_then<|k_reg<|sL (t_add (i:Int) 1 ol)<|sP (iw ((i:Int)+1))<|s_nil<|xs_mem (Bs:=coA b q hb 1 ((rchA st (m,Q) ((crf st x).take (i+1))).1) ((rchA st (m,Q) ((crf st x).take (i+1))).2) L Fr G P::hpA hb st::own iTy v6 (crf st x)::own iTy rv R::F) (fun _ h=>by rw[rchA_take hy12];exact h) ?_
  exact xs_round (i+1) (by show (crf st x).length-(i+1)<(crf st x).length-i;omega) om sA (rr [2,0,0,0] [])
 have p13:=dF c9;refine k_exit ?_;obtain rfl:i=(crf st x).length:=by omega
 rw[List.take_length];refine xs_exit<|xs_exit<|xs_here<|xs_then<|k_sr<|sP2 (pB b 0)<|sP (pB b 3)<|s_mem4 (fun H h=>co_open1 (show (1:Int)≠0 by decide) (h.re [1] [])) (fun mb14 qv15 lv16 fv17 hw=>?_)
 refine sL (t_load 0 (.map (some mb14)))<|sP (iw x)<|s_memX (fun H h=>mc_open (h.re [2] [])) (fun m18 hw=>?_)
 have hm19:=hw;refine s_update 0 intOk Tryz.underlying89 x (2:Int) ?_;refine s_nr<|sP (.bool true)<|s_nt<|k_ret<|xs_mem (fun _ h=>mc_shut (hm19.1.set x (2:Int)) (h.re [0] [])) ?_
 refine xs_mem (fun _ h=>co_shut (c:=(cset ((rchA st (m,Q) (crf st x)).1) x (2:Int))) (.inr rfl) (h.re [1,1,0,0,0,0] [])) ?_;exact xs_fin _ _ (SI.tmp 4 SI.nil) (rr [3,0,1] [3]) ⟨rfl,rfl⟩
theorem cmark2_s{Z:Zone}{F:List Asr}{b q hb:Nat}{m:Int→Int}{L Fr G P:List Int}{st:Hst}{rv:Value}{R:List Int}{m2:Int→Int}(hR:R.length≤10000)(hG:G.length+P.length≤10000)(hz:rchA st (m,[]) (R++(G++P))=(m2,[])){n:Nat}(hsm:HSm n st)(hn:n≤300):SF Tryz.prog 48 #[.pointer (some ⟨b,0,none⟩),rv] Z (own iTy rv R::coA b q hb 1 m [] L Fr G P::hpA hb st::F) fun r Bs=>r=.bool false∧Bs=own iTy rv R::coA b q hb 2 m2 [] (hids st) Fr G P::hpA hb st::F:=by
 refine sf_enter Tryz.func48 65 [(0,pB b 0),(1,rv)] (fun w0=>?_);refine k_sr<|sP (.bool false)<|s_nt<|k_seq<|k_sr<|sP2 (pB b 0)<|sP (pB b 4)<|s_mem4 (fun H h=>co_open1 (show (1:Int)≠0 by decide) (h.re [1] [])) (fun mb1 qv2 lv3 fv4 hw=>?_)
 refine sL (t_load 0 qv2)<|sL (t_len iTy_ok Tryz.underlying23 (.ownO 3))<|sL (Lt.to t_cmp (cB (decide_eq_true rfl:(decide ((([]:List Int).length:Int)=0))=true)))<|s_nt<|k_true<|k_reg<|sP (pB b 0)<|sP rv<|s_mem (fun _ h=>co_shut (c:=m) (.inr rfl) (h.re [0,0,0,0,0,0] [])) ?_
 refine sC [1,0,0] (crooted_s (R:=R) (G:=G) (P:=P) (Q:=([]:List Int)) (m:=m) om om (by first|omega|simp)) ?_;refine s_mem (Bs:=own iTy rv R::coA b q hb 1 m2 ([]:List Int) L Fr G P::hpA hb st::F) (fun _ h=>by rw[hz]at h;exact h) ?_;refine s_nt<|k_seq<|k_sr<|sP2 (pB b 0)<|sP (pB b 4)<|s_mem4 (fun H h=>co_open1 (show (1:Int)≠0 by decide) (h.re [1] [])) (fun mb5 qv6 lv7 fv8 hw=>?_)
 refine sL (t_load 0 qv6)<|sL (t_len iTy_ok Tryz.underlying23 (.ownO 3))<|sL (Lt.to t_cmp (cB (decide_eq_true rfl:(decide ((([]:List Int).length:Int)=0))=true)))<|s_nt<|k_true<|k_sr<|sP2 (pB b 0)<|sP (pB b 2)<|s_store 0 #[pB q 0,pB hb 0,iw 2,.map (some mb5),qv6,lv7,fv8] ?_
 refine s_nr<|sP3 (pB b 0)<|sP (pB b 1)<|sL (t_load 0 (pB hb 0))<|s_call [7] (hids_s (st:=st) hsm om) ?_
 rintro v9 _ rfl;refine sF 0 (fun hf10=>?_);refine sP (pB b 0)<|sP (pB b 5)<|s_store (u:=v9) (m:=1) 2 #[pB q 0,pB hb 0,iw 2,.map (some mb5),qv6,v9,fv8] ?_ (hm:=by (obtain⟨_,_,e⟩:=hf10;rw[e];rfl)) (h1:=by (obtain⟨_,_,e⟩:=hf10;rw[e];rfl)) (ha':=by (obtain⟨_,_,e⟩:=hf10;rw[e];rfl))
 refine s_nr<|sP (.bool false)<|s_nt<|k_ret<|xs_ret<|xs_mem (fun _ h=>Holds.toO (h.re [0] [])) ?_
 refine xs_mem (fun _ h=>co_shut (c:=m2) (.inr rfl) (h.re [2,2,2,2,0,2] [])) ?_;exact xs_fin _ _ (SI.tmp 4 SI.nil) (rr [3,0,0] [3]) ⟨rfl,rfl⟩
theorem cmark3_s{Z:Zone}{F:List Asr}{b q hb:Nat}{m:Int→Int}{Q L Fr G P:List Int}{st:Hst}{rv:Value}{R:List Int}{m2:Int→Int}{x:Int}(hR:R.length≤10000)(hG:G.length+P.length≤10000)(hQ:Q.length≤100000)(hz:rchA st (m,[]) (R++(G++P))=(m2,x::Q)){n:Nat}(hsm:HSm n st)(hn:n≤300)(hW:HW st):SF Tryz.prog 48 #[.pointer (some ⟨b,0,none⟩),rv] Z (own iTy rv R::coA b q hb 1 m [] L Fr G P::hpA hb st::F) fun r Bs=>r=.bool true∧Bs=own iTy rv R::coA b q hb 1 (cset (rchA st (m2,Q) (crf st x)).1 x 2) ((rchA st (m2,Q) (crf st x)).2) L Fr G P::hpA hb st::F:=by
 refine sf_enter Tryz.func48 65 [(0,pB b 0),(1,rv)] (fun w0=>?_);refine k_sr<|sP (.bool false)<|s_nt<|k_seq<|k_sr<|sP2 (pB b 0)<|sP (pB b 4)<|s_mem4 (fun H h=>co_open1 (show (1:Int)≠0 by decide) (h.re [1] [])) (fun mb1 qv2 lv3 fv4 hw=>?_)
 refine sL (t_load 0 qv2)<|sL (t_len iTy_ok Tryz.underlying23 (.ownO 3))<|sL (Lt.to t_cmp (cB (decide_eq_true rfl:(decide ((([]:List Int).length:Int)=0))=true)))<|s_nt<|k_true<|k_reg<|sP (pB b 0)<|sP rv<|s_mem (fun _ h=>co_shut (c:=m) (.inr rfl) (h.re [0,0,0,0,0,0] [])) ?_
 refine sC [1,0,0] (crooted_s (R:=R) (G:=G) (P:=P) (Q:=([]:List Int)) (m:=m) om om (by first|omega|simp)) ?_;refine s_mem (Bs:=own iTy rv R::coA b q hb 1 m2 (x::Q) L Fr G P::hpA hb st::F) (fun _ h=>by rw[hz]at h;exact h) ?_;refine s_nt<|k_seq<|k_sr<|sP2 (pB b 0)<|sP (pB b 4)<|s_mem4 (fun H h=>co_open1 (show (1:Int)≠0 by decide) (h.re [1] [])) (fun mb5 qv6 lv7 fv8 hw=>?_)
 refine sL (t_load 0 qv6)<|sL (t_len iTy_ok Tryz.underlying23 (.ownO 3))<|sL (Lt.to t_cmp (cB (decide_eq_false (by simp;omega):(decide (((x::Q).length:Int)=0))=false)))<|s_nt<|k_false<|k_st<|k_sr<|sP2 (pB b 0)<|sP (pB b 4)<|sL (t_load 0 qv6)<|sL (t_index iTy_ok Tryz.underlying23 (.ownO 3) 0 0 om ol om)<|sL (t_loadE iTy_ok (.ownO 3) (show ((x::Q))[0]?=some x from rfl))<|sP (iw x)<|s_nr<|sP3 (pB b 0)<|sP (pB b 4)<|sL (t_load 0 qv6)<|sL (t_suf iTy_ok Tryz.underlying23 (.ownO 3) 1 1 om ol om)<|sP (pB b 0)<|sP (pB b 4)<|s_mem (fun _ h=>Holds.sufO (i:=3) h iTy_ok 1 rfl ol) ?_
 refine s_fact (fun H h=>((Acc.ownO (T:=iTy) (L:=((x::Q).drop 1)) 3 rfl) H h).form) (fun hf9=>?_);refine s_store (u:=(suf iTy.size qv6 1)) (m:=1) 0 #[pB q 0,pB hb 0,iw 1,.map (some mb5),(suf iTy.size qv6 1),lv7,fv8] ?_ (hm:=by (obtain⟨_,_,e⟩:=hf9;rw[e];rfl)) (h1:=by (obtain⟨_,_,e⟩:=hf9;rw[e];rfl)) (ha':=by (obtain⟨_,_,e⟩:=hf9;rw[e];rfl));refine s_nt<|k_seq<|k_sr<|sP (pB b 0)<|sP (iw x)<|s_mem (fun _ h=>co_shut (c:=m2) (.inr rfl) (h.re [0,0,0,0,0,0] [])) ?_
 refine s_call [0,1] (crefs_s (x:=x) hsm hn hW) ?_;rintro v10 _ rfl;refine sF 0 (fun hf11=>?_);refine sL (t_len iTy_ok Tryz.underlying23 (.own 0))<|sP (iw 0)<|s_nt<|k_block<|k_mem (Bs:=own iTy v10 (crf st x)::coA b q hb 1 ((rchA st (m2,Q) ((crf st x).take 0)).1) ((rchA st (m2,Q) ((crf st x).take 0)).2) L Fr G P::hpA hb st::own iTy rv R::F) (fun _ h=>h) ?_
 obtain⟨_,_,hcl⟩:=crf_bound hsm hn x;refine k_loop (ι:=Nat) (fun i=>i≤(crf st x).length) (fun i=>[(0,pB b 0),(5,iw x),(50,v10),(51,iw ((crf st x).length:Int)),(52,iw (i:Int))]) (fun i=>own iTy v10 (crf st x)::coA b q hb 1 ((rchA st (m2,Q) ((crf st x).take i)).1) ((rchA st (m2,Q) ((crf st x).take i)).2) L Fr G P::hpA hb st::own iTy rv R::F) (fun i=>(crf st x).length-i) 0 (Nat.zero_le _) sA (rr [0,0,0,0] []) ?_;rintro i hi12;show SK _ _ _ _ _ [(0,pB b 0),(5,iw x),(50,v10),(51,iw ((crf st x).length:Int)),(52,iw (i:Int))] _ (own iTy v10 (crf st x)::coA b q hb 1 ((rchA st (m2,Q) ((crf st x).take i)).1) ((rchA st (m2,Q) ((crf st x).take i)).2) L Fr G P::hpA hb st::own iTy rv R::F);have hql:=rchA_len st ((crf st x).take i) (m2,Q);rw[List.length_take]at hql;dsimp only at hql;refine k_sr<|sL t_cmp<|s_nt<|k_seq<|k_cond (decide ((i:Int)<((crf st x).length:Int))) (fun c13=>?_) (fun c13=>?_)
 .have p14:=dY c13;refine k_st<|k_seq<|k_block<|k_sr<|sL (t_index iTy_ok Tryz.underlying23 (.own 0) (i:Int) i om ol om) ?_
  obtain⟨y15,hy16⟩:∃y,(crf st x)[i]?=some y:=⟨_,List.getElem?_eq_getElem ol⟩;refine sL (t_loadE iTy_ok (.own 0) hy16)<|sP (iw y15)<|s_nt<|k_reg<|sP (pB b 0)<|sP (iw y15)<|sC [1,1] (creach_s (Q:=(rchA st (m2,Q) ((crf st x).take i)).2) om y15) ?_
  refine s_nil<|xs_block<|xs_then<|k_reg<|sL (t_add (i:Int) 1 ol)<|sP (iw ((i:Int)+1))<|s_nil<|xs_mem (Bs:=coA b q hb 1 ((rchA st (m2,Q) ((crf st x).take (i+1))).1) ((rchA st (m2,Q) ((crf st x).take (i+1))).2) L Fr G P::hpA hb st::own iTy v10 (crf st x)::own iTy rv R::F) (fun _ h=>by rw[rchA_take hy16];exact h) ?_
  exact xs_round (i+1) (by show (crf st x).length-(i+1)<(crf st x).length-i;omega) om sA (rr [2,0,0,0] [])
 have p17:=dF c13;refine k_exit ?_;obtain rfl:i=(crf st x).length:=by omega
 rw[List.take_length];refine xs_exit<|xs_exit<|xs_here<|xs_then<|k_sr<|sP2 (pB b 0)<|sP (pB b 3)<|s_mem4 (fun H h=>co_open1 (show (1:Int)≠0 by decide) (h.re [1] [])) (fun mb18 qv19 lv20 fv21 hw=>?_)
 refine sL (t_load 0 (.map (some mb18)))<|sP (iw x)<|s_memX (fun H h=>mc_open (h.re [2] [])) (fun m22 hw=>?_)
 have hm23:=hw;refine s_update 0 intOk Tryz.underlying89 x (2:Int) ?_;refine s_nr<|sP (.bool true)<|s_nt<|k_ret<|xs_mem (fun _ h=>mc_shut (hm23.1.set x (2:Int)) (h.re [0] [])) ?_
 refine xs_mem (fun _ h=>co_shut (c:=(cset ((rchA st (m2,Q) (crf st x)).1) x (2:Int))) (.inr rfl) (h.re [1,1,0,0,0,0] [])) ?_;exact xs_fin _ _ (SI.tmp 4 SI.nil) (rr [3,0,1] [3]) ⟨rfl,rfl⟩
abbrev coS(b q hb:Nat)(s:Cst):Asr:=coA b q hb s.ph s.col s.Q s.L s.Fr s.G s.P
theorem cmarks_s{Z:Zone}{F:List Asr}{b q hb N:Nat}{st:Hst}{s:Cst}{rv:Value}{R:List Int}(h:CI N st s)(hN:N≤300)(hR:R.length≤9000)(h1:s.ph=1):SF Tryz.prog 48 #[.pointer (some ⟨b,0,none⟩),rv] Z (own iTy rv R::coS b q hb s::hpA hb st::F) fun r Bs=>r=.bool (decide ((setl st R s).ph=1))∧Bs=own iTy rv R::coS b q hb (mks st R s)::hpA hb st::F:=by
 have hq:=h.ql;have hgp:=h.gp;obtain⟨ph,m,Q,L,Fr,G,P⟩:=s;have h1':ph=1:=h1;subst h1';cases Q with
 | cons x Q=>
  have hQ:Q.length≤100000:=by simp only[List.length_cons]at hq;omega
  exact cmark1_s (x:=x) (Q:=Q) hQ h.sm hN h.w
 | nil=>
  rcases hz:rchA st (m,[]) (R++(G++P)) with ⟨m2,Q2⟩
  have hz2:rchA st (m,[]) (Cst.rts ⟨1,m,[],L,Fr,G,P⟩ R)=(m2,Q2):=hz;have hqi:=((QI.nil st m).rchA (R++(G++P))).len;rw[hz]at hqi;have hil:=hids_len st;have hol:=h.sm.len;have hG:G.length+P.length≤10000:=by have:G.length+P.length≤N:=hgp;omega
  have e:setl st R ⟨1,m,[],L,Fr,G,P⟩=if Q2=[] then ⟨2,m2,[],hids st,Fr,G,P⟩ else ⟨1,m2,Q2,L,Fr,G,P⟩:=by
   unfold setl;rw[if_pos ⟨rfl,rfl⟩,hz2]
  cases Q2 with
  | nil=>
   rw[if_pos rfl]at e;unfold mks;rw[e];exact cmark2_s om hG hz h.sm hN
  | cons x Q=>
   rw[if_neg (by simp)]at e;unfold mks;rw[e];have hQ:Q.length≤100000:=by have:(x::Q).length≤(hids st).length:=hqi;simp only[List.length_cons]at this;omega
   exact cmark3_s (x:=x) om hG hQ hz h.sm hN h.w
theorem csweep2_s{Z:Zone}{F:List Asr}{b q hb:Nat}{m:Int→Int}{Q L Fr G P:List Int}{x:Int}(hz:¬m x=0):SF Tryz.prog 49 #[.pointer (some ⟨b,0,none⟩)] Z (coA b q hb 2 m Q (x::L) Fr G P::F) fun r Bs=>r=.tuple #[]∧Bs=coA b q hb 2 (cset m x 0) Q L Fr G P::F:=by
 refine sf_enter Tryz.func49 45 [(0,pB b 0)] (fun w0=>?_);refine k_sr<|sP2 (pB b 0)<|sP (pB b 5)<|s_mem4 (fun H h=>co_open1 (show (2:Int)≠0 by decide) (h.re [0] [])) (fun mb1 qv2 lv3 fv4 hw=>?_)
 refine sL (t_load 0 lv3)<|sL (t_index iTy_ok Tryz.underlying23 (.ownO 4) 0 0 om ol om)<|sL (t_loadE iTy_ok (.ownO 4) (show ((x::L))[0]?=some x from rfl))<|sP (iw x)<|s_nr<|sP3 (pB b 0)<|sP (pB b 5)<|sL (t_load 0 lv3)<|sL (t_suf iTy_ok Tryz.underlying23 (.ownO 4) 1 1 om ol om)<|sP (pB b 0)<|sP (pB b 5)<|s_mem (fun _ h=>Holds.sufO (i:=4) h iTy_ok 1 rfl ol) ?_
 refine s_fact (fun H h=>((Acc.ownO (T:=iTy) (L:=((x::L).drop 1)) 4 rfl) H h).form) (fun hf5=>?_);refine s_store (u:=(suf iTy.size lv3 1)) (m:=1) 0 #[pB q 0,pB hb 0,iw 2,.map (some mb1),qv2,(suf iTy.size lv3 1),fv4] ?_ (hm:=by (obtain⟨_,_,e⟩:=hf5;rw[e];rfl)) (h1:=by (obtain⟨_,_,e⟩:=hf5;rw[e];rfl)) (ha':=by (obtain⟨_,_,e⟩:=hf5;rw[e];rfl));refine s_nr<|sP2 (pB b 0)<|sP (pB b 3)<|sL (t_load 0 (.map (some mb1)))<|sP (iw x)<|s_memX (fun H h=>mc_open (h.re [2] [])) (fun m6 hw=>?_)
 have hm7:=hw;refine sL (Lt.to (v':=iw (m x)) (t_lookup 0 intOk Tryz.underlying89 (iw 0) x) ((mgt_is _ _).trans (cI (hm7.1 x))))<|sL (Lt.to t_cmp (cB (decide_eq_false hz:(decide ((m x)=0))=false)))<|s_nt<|k_false<|k_reg<|sP2 (pB b 0)<|sP (pB b 3)<|sL (t_load 1 (.map (some mb1)))<|sP (iw x)<|s_delete0 0 intOk Tryz.underlying89 x ?_
 refine s_nil<|xs_mem (fun _ h=>mc_shut (hm7.1.del hm7.2 x) (h.re [0] [])) ?_
 refine xs_mem (fun _ h=>co_shut (c:=(cset m x 0)) (.inr rfl) (h.re [1,1,0,0,0,0] [])) ?_;exact xs_finN _ _ SI.nil (rr [0] []) ⟨rfl,rfl⟩
theorem csweep1_s{Z:Zone}{F:List Asr}{b q hb:Nat}{m:Int→Int}{Q L Fr G P:List Int}{st:Hst}{x:Int}(hz:m x=0)(hF:Fr.length≤100000):SF Tryz.prog 49 #[.pointer (some ⟨b,0,none⟩)] Z (coA b q hb 2 m Q (x::L) Fr G P::hpA hb st::F) fun r Bs=>r=.tuple #[]∧Bs=coA b q hb 2 m Q L (Fr++[x]) G P::hpA hb (hdrop st x)::F:=by
 refine sf_enter Tryz.func49 45 [(0,pB b 0)] (fun w0=>?_);refine k_sr<|sP2 (pB b 0)<|sP (pB b 5)<|s_mem4 (fun H h=>co_open1 (show (2:Int)≠0 by decide) (h.re [0] [])) (fun mb1 qv2 lv3 fv4 hw=>?_)
 refine sL (t_load 0 lv3)<|sL (t_index iTy_ok Tryz.underlying23 (.ownO 4) 0 0 om ol om)<|sL (t_loadE iTy_ok (.ownO 4) (show ((x::L))[0]?=some x from rfl))<|sP (iw x)<|s_nr<|sP3 (pB b 0)<|sP (pB b 5)<|sL (t_load 0 lv3)<|sL (t_suf iTy_ok Tryz.underlying23 (.ownO 4) 1 1 om ol om)<|sP (pB b 0)<|sP (pB b 5)<|s_mem (fun _ h=>Holds.sufO (i:=4) h iTy_ok 1 rfl ol) ?_
 refine s_fact (fun H h=>((Acc.ownO (T:=iTy) (L:=((x::L).drop 1)) 4 rfl) H h).form) (fun hf5=>?_);refine s_store (u:=(suf iTy.size lv3 1)) (m:=1) 0 #[pB q 0,pB hb 0,iw 2,.map (some mb1),qv2,(suf iTy.size lv3 1),fv4] ?_ (hm:=by (obtain⟨_,_,e⟩:=hf5;rw[e];rfl)) (h1:=by (obtain⟨_,_,e⟩:=hf5;rw[e];rfl)) (ha':=by (obtain⟨_,_,e⟩:=hf5;rw[e];rfl));refine s_nr<|sP2 (pB b 0)<|sP (pB b 3)<|sL (t_load 0 (.map (some mb1)))<|sP (iw x)<|s_memX (fun H h=>mc_open (h.re [2] [])) (fun m6 hw=>?_)
 have hm7:=hw;refine sL (Lt.to (v':=iw (m x)) (t_lookup 0 intOk Tryz.underlying89 (iw 0) x) ((mgt_is _ _).trans (cI (hm7.1 x))))<|sL (Lt.to t_cmp (cB (decide_eq_true hz:(decide ((m x)=0))=true)))<|s_nt<|k_true<|k_sr<|sP2 (pB b 0)<|sP (pB b 1)<|sL (t_load 1 (pB hb 0))<|sP (iw x)<|sC [6] (hdrop_s (st:=st) x) ?_
 refine s_nt<|k_reg<|sP3 (pB b 0)<|sP (pB b 6)<|sL (t_load 2 fv4)<|sP (iw x)<|s_buildSlice (e:=3) [(0,iw x)] #[iw x] (fun g8=>?_) (hb:=by kernel_rfl)
 refine s_appendO (L:=Fr) 7 iTy_ok Tryz.underlying23 (.lit 0 iTy_ok [x]) (by show _*8≤_;(try simp only[lnm]);omega) ol (fun v9=>?_);refine s_fact (fun H h=>((Acc.ownO (T:=iTy) (L:=(Fr++[x])) 7 rfl) H h).form) (fun hf10=>?_);refine sP (pB b 0)<|sP (pB b 6)<|s_store (u:=v9) (m:=1) 3 #[pB q 0,pB hb 0,iw 2,.map (some mb1),qv2,(suf iTy.size lv3 1),v9] ?_ (hm:=by (obtain⟨_,_,e⟩:=hf10;rw[e];rfl)) (h1:=by (obtain⟨_,_,e⟩:=hf10;rw[e];rfl)) (ha':=by (obtain⟨_,_,e⟩:=hf10;rw[e];rfl))
 refine s_nil<|xs_mem (fun _ h=>mc_shut hm7.1 (h.re [2] [])) ?_
 refine xs_mem (fun _ h=>co_shut (c:=m) (.inr rfl) (h.re [3,3,0,2,2,2] [])) ?_;exact xs_finN _ _ SI.nil (rr [0,1] [2]) ⟨rfl,rfl⟩
theorem csweeps_s{Z:Zone}{F:List Asr}{b q hb N:Nat}{st:Hst}{s:Cst}(h:CI N st s)(hN:N≤300)(h2:s.ph=2)(hl:s.L≠[]):SF Tryz.prog 49 #[.pointer (some ⟨b,0,none⟩)] Z (coS b q hb s::hpA hb st::F) fun r Bs=>r=.tuple #[]∧Bs=coS b q hb (swp st s).2::hpA hb (swp st s).1::F:=by
 have hf:=h.fr;obtain⟨ph,m,Q,L,Fr,G,P⟩:=s;have h2':ph=2:=h2;subst h2';cases L with
 | nil=>exact absurd rfl hl
 | cons x L=>
  by_cases e:m x=0
  .rw [swp_white (s:=⟨2,m,Q,x::L,Fr,G,P⟩) rfl e];exact csweep1_s e (by have:Fr.length+(hids st).length≤N:=hf;omega)
  rw[swp_black (s:=⟨2,m,Q,x::L,Fr,G,P⟩) rfl e];exact csweep2_s (F:=hpA hb st::F) e
theorem cwork_s{Z:Zone}{F:List Asr}{b q hb N:Nat}{st0:Hst}{s0:Cst}{rv:Value}{R:List Int}(u:Int)(hu9:u≤1000)(h0:CI N st0 s0)(hN:N≤300)(hR:R.length≤9000):SF Tryz.prog 16 #[.pointer (some ⟨b,0,none⟩),iw u,rv] Z (own iTy rv R::coS b q hb s0::hpA hb st0::F) fun r Bs=>r=iw ((work u.toNat st0 R s0).2.2:Int)∧Bs=own iTy rv R::coS b q hb (work u.toNat st0 R s0).2.1::hpA hb (work u.toNat st0 R s0).1::F:=by
 refine sf_enter Tryz.func16 62 [(0,pB b 0),(1,iw u),(2,rv)] (fun w0=>?_);refine k_sr<|sP (iw 0)<|s_nt<|k_seq<|k_sr<|sP (pB b 0)<|sP2 (.bool false)<|sP (iw u)<|sL t_cmp<|sP (.bool (decide (u≤0)))<|s_nt<|k_cond (decide (u≤0)) (fun c1=>?_) (fun c1=>?_)
 .have p2:=dY c1;refine k_sr<|sP (iw 0)<|s_nt<|k_ret<|xs_ret ?_
  rw[work_zero om];exact xs_fin [iw 0] (own iTy rv R::coA b q hb s0.ph s0.col s0.Q s0.L s0.Fr s0.G s0.P::hpA hb st0::F) (SI.tmp 6 SI.nil) (rr [0,0,0] []) ⟨rfl,rfl⟩
 have p3:=dF c1;refine k_st<|k_cut (ι:=Unit) (fun _=>True) (fun _=>[(0,pB b 0),(1,iw u),(2,rv)]) (fun _=>coA b q hb ((if s0.ph=0 then bgn st0 R s0 else s0).ph) ((if s0.ph=0 then bgn st0 R s0 else s0).col) ((if s0.ph=0 then bgn st0 R s0 else s0).Q) ((if s0.ph=0 then bgn st0 R s0 else s0).L) ((if s0.ph=0 then bgn st0 R s0 else s0).Fr) ((if s0.ph=0 then bgn st0 R s0 else s0).G) ((if s0.ph=0 then bgn st0 R s0 else s0).P)::own iTy rv R::hpA hb st0::F) ?_ (fun _ _=>?_)
 .by_cases hp0:s0.ph=0
  .refine k_mem (Bs:=own iTy rv R::coA b q hb 0 s0.col [] s0.L s0.Fr s0.G s0.P::hpA hb st0::F) (fun _ h=>by unfold coS at h;rw[show s0.Q=[] from h0.q0 om,hp0]at h;exact h) ?_;refine k_sr<|sP2 (pB b 0)<|sP (pB b 2)<|s_mem5 (fun H h=>co_open (h.re [1] [])) (fun mb4 qv5 lv6 fv7 cl8 hw=>?_)
   have hc9:=hw;refine sL (t_load 0 (iw 0))<|sL (t_cmp (c:=true))<|s_nt<|k_true<|k_reg<|sP (pB b 0)<|sP rv<|s_mem (fun _ h=>co_shut (c:=s0.col) (.inl rfl) (h.re [0,0,0,0,0,0] [])) ?_
   refine sC [1,0,0] (cbegin_s (R:=R) (G:=s0.G) (P:=s0.P) om (by have:=h0.gp;omega)) ?_;refine s_nil ?_;exact xcut () (fun _ h=>by rw[if_pos hp0];exact h.re [1,0,0] [])
  refine k_sr<|sP2 (pB b 0)<|sP (pB b 2)<|s_mem5 (fun H h=>co_open (h.re [1] [])) (fun mb10 qv11 lv12 fv13 cl14 hw=>?_)
  have hc15:=hw;refine sL (t_load 0 (iw s0.ph))<|sL (Lt.to t_cmp (cB ((decide_eq_false hp0):(decide (s0.ph=0))=false)))<|s_nt<|k_false<|k_skip<|xs_mem (fun _ h=>co_shut (c:=s0.col) hc15 (h.re [0,0,0,0,0,0] [])) ?_
  exact xcut () (fun _ h=>by rw[if_neg hp0];exact h.re [0,0,0] [])
 obtain⟨s1,hs1⟩:∃z,z=(if s0.ph=0 then bgn st0 R s0 else s0):=⟨_,rfl⟩;have hc1:CI N st0 s1:=by rw[hs1];split;exact h0.bgn (by assumption) R;exact h0
 rw[←hs1];refine k_sr<|sP (iw 0)<|s_nt<|k_seq<|k_block<|k_loop (ι:=Hst×Cst×Nat) (fun (st,s,z)=>CI N st s∧z≤u.toNat∧wrk u.toNat st0 R s1=addw z (wrk (u.toNat-z) st R s)) (fun (st,s,z)=>[(0,pB b 0),(1,iw u),(2,rv),(7,iw (z:Int))]) (fun (st,s,z)=>coA b q hb s.ph s.col s.Q s.L s.Fr s.G s.P::own iTy rv R::hpA hb st::F) (fun (st,s,z)=>3*(u.toNat-z)+wtp s.ph) (st0,s1,0) ⟨hc1,Nat.zero_le _,rfl⟩ sA (rr [0,0,0] []) ?_
 rintro⟨st,s,z⟩ hi16;replace hi16:CI N st s∧z≤u.toNat∧wrk u.toNat st0 R s1=addw z (wrk (u.toNat-z) st R s):=hi16;show SK _ _ _ _ _ [(0,pB b 0),(1,iw u),(2,rv),(7,iw (z:Int))] _ (coA b q hb s.ph s.col s.Q s.L s.Fr s.G s.P::own iTy rv R::hpA hb st::F);obtain⟨hci,hzk,hwk⟩:=hi16;refine k_seq<|k_sr<|sP (iw (z:Int))<|sP (iw u)<|sL t_cmp<|sP (.bool (decide ((z:Int)<u)))<|s_fork 25 (decide ((z:Int)<u)) (fun c17=>?_) (fun c17=>?_)
 .have p18:=dY c17;refine sP2 (pB b 0)<|sP (pB b 2)<|s_mem5 (fun H h=>co_open (h.re [0] [])) (fun mb19 qv20 lv21 fv22 cl23 hw=>?_)
  have hc24:=hw;refine sL (t_load 0 (iw s.ph))<|sL t_cmp<|sP (.bool (decide (s.ph≠0)))<|s_nt<|k_cond (decide (s.ph≠0)) (fun c25=>?_) (fun c25=>?_)
  .have p26:=dY c25;refine k_st<|k_block<|k_seq<|k_sr<|sP2 (pB b 0)<|sP (pB b 2)<|sL (t_load 0 (iw s.ph))<|sL t_cmp<|s_nt<|k_cond (decide (s.ph=1)) (fun c27=>?_) (fun c27=>?_)
   .have p28:=dY c27;refine k_seq<|k_sr<|sP (pB b 0)<|sP rv<|s_mem (fun _ h=>co_shut (c:=s.col) hc24 (h.re [0,0,0,0,0,0] [])) ?_
    refine sC [1,0,0] (cmarks_s (s:=s) (R:=R) hci hN hR (dY c27)) ?_;refine s_nt<|k_cond (decide ((setl st R s).ph=1)) (fun c29=>?_) (fun c29=>?_)
    .have p30:=dY c29;refine k_reg<|sP (iw (z:Int))<|sL (t_add (z:Int) 1 ol)<|sP (iw ((z:Int)+1))<|s_nt<|k_exit<|xs_exit<|xs_here ?_
     have hwn:=wrk_mark (k:=u.toNat-(z+1)) (st:=st) (R:=R) (dY c27) (dY c29);rw[show u.toNat-(z+1)+1=u.toNat-z by omega]at hwn;exact xs_round (st,mks st R s,z+1) (by show 3*(u.toNat-(z+1))+wtp (mks st R s).ph<3*(u.toNat-z)+wtp s.ph;have w1:=wtp_le (mks st R s).ph;omega) ⟨hci.mks (dY c27) R,by omega,by rw[hwk,hwn,addw_add]⟩ sA (rr [1,0,0] [])
    have p31:=dF c29;refine k_st<|k_exit<|xs_exit<|xs_here ?_
    have hwn:=wrk_turn (k:=u.toNat-z-1) (st:=st) (R:=R) (dY c27) (dF c29);rw[show u.toNat-z-1+1=u.toNat-z by omega]at hwn;have hmp:(mks st R s).ph=2:=by unfold mks;rw[if_neg (dF c29)];exact (setl_ph (dY c27)).resolve_left (dF c29)
    exact xs_round (st,mks st R s,z) (by show 3*(u.toNat-z)+wtp (mks st R s).ph<3*(u.toNat-z)+wtp s.ph;rw[wtp1 (dY c27),wtp2 hmp];omega) ⟨hci.mks (dY c27) R,by omega,by rw[hwk,hwn]⟩ sA (rr [1,0,0] [])
   have p32:=dF c27;have hp2:s.ph=2:=by rcases hci.ph with e|e|e<;>omega
   refine k_st<|k_seq<|k_sr<|sP2 (pB b 0)<|sP (pB b 5)<|sL (t_load 0 lv21)<|sL (t_len iTy_ok Tryz.underlying23 (.ownO 4))<|sL t_cmp<|s_nt<|k_cond (decide ((0:Int)<(s.L.length:Int))) (fun c33=>?_) (fun c33=>?_)
   .have p34:=dY c33;have hLn:s.L≠[]:=fun e=>by rw[e]at p34;simp at p34
    refine k_sr<|sP (pB b 0)<|s_mem (fun _ h=>co_shut (c:=s.col) hc24 (h.re [0,0,0,0,0,0] [])) ?_
    refine sC [0,1] (csweeps_s (s:=s) hci hN hp2 hLn) ?_;refine s_nt<|k_reg<|sP (iw (z:Int))<|sL (t_add (z:Int) 1 ol)<|sP (iw ((z:Int)+1))<|s_nr<|sP2 (pB b 0)<|sP (pB b 5)<|s_mem4 (fun H h=>co_open1 (show (swp st s).2.ph≠0 by rw[swp_ph hp2];decide) (h.re [0] [])) (fun mb35 qv36 lv37 fv38 hw=>?_)
    refine sL (t_load 0 lv37)<|sL (t_len iTy_ok Tryz.underlying23 (.ownO 4))<|sL t_cmp<|s_nt<|k_cond (decide ((((swp st s).2.L).length:Int)=0)) (fun c39=>?_) (fun c39=>?_)
    .have p40:=dY c39;refine k_reg<|sP2 (pB b 0)<|sP (pB b 2)<|s_store 0 #[pB q 0,pB hb 0,iw 0,.map (some mb35),qv36,lv37,fv38] ?_
     refine s_nil<|xs_block<|xs_mem (fun _ h=>co_shut (c:=(swp st s).2.col) (.inl rfl) (h.re [0,0,0,0,0,0] [])) ?_
     have hcl:coS b q hb (cfin (swp st s).2)=coA b q hb 0 ((swp st s).2.col) ((swp st s).2.Q) ((swp st s).2.L) ((swp st s).2.Fr) ((swp st s).2.G) ((swp st s).2.P):=by rw[cfin_nil (List.eq_nil_of_length_eq_zero om)]
     refine xs_mem (Bs:=coA b q hb ((cfin (swp st s).2).ph) ((cfin (swp st s).2).col) ((cfin (swp st s).2).Q) ((cfin (swp st s).2).L) ((cfin (swp st s).2).Fr) ((cfin (swp st s).2).G) ((cfin (swp st s).2).P)::hpA hb ((swp st s).1)::own iTy rv R::F) (fun _ h=>by rw[←hcl]at h;exact h) ?_;have hwn:=wrk_sweep (k:=u.toNat-(z+1)) (st:=st) (R:=R) hp2 hLn;rw[show u.toNat-(z+1)+1=u.toNat-z by omega]at hwn;obtain⟨x,Lx,hLx⟩:=List.exists_cons_of_ne_nil hLn;exact xs_round ((swp st s).1,cfin (swp st s).2,z+1) (by show 3*(u.toNat-(z+1))+wtp (cfin (swp st s).2).ph<3*(u.toNat-z)+wtp s.ph;have w1:=wtp_le (cfin (swp st s).2).ph;omega) ⟨(hci.swp hp2 hLx).fin (swp_ph hp2),by omega,by rw[hwk,hwn,addw_add]⟩ sA (rr [0,1,0] [])
    have p41:=dF c39;refine k_skip<|xs_block<|xs_mem (fun _ h=>co_shut (c:=(swp st s).2.col) (.inr rfl) (h.re [0,0,0,0,0,0] [])) ?_
    have hcl:coS b q hb (cfin (swp st s).2)=coA b q hb ((swp st s).2.ph) ((swp st s).2.col) ((swp st s).2.Q) ((swp st s).2.L) ((swp st s).2.Fr) ((swp st s).2.G) ((swp st s).2.P):=by rw[cfin_cons (fun e=>by rw[e]at p41;exact p41 rfl)]
    refine xs_mem (Bs:=coA b q hb ((cfin (swp st s).2).ph) ((cfin (swp st s).2).col) ((cfin (swp st s).2).Q) ((cfin (swp st s).2).L) ((cfin (swp st s).2).Fr) ((cfin (swp st s).2).G) ((cfin (swp st s).2).P)::hpA hb ((swp st s).1)::own iTy rv R::F) (fun _ h=>by rw[←hcl]at h;exact h) ?_;have hwn:=wrk_sweep (k:=u.toNat-(z+1)) (st:=st) (R:=R) hp2 hLn;rw[show u.toNat-(z+1)+1=u.toNat-z by omega]at hwn;obtain⟨x,Lx,hLx⟩:=List.exists_cons_of_ne_nil hLn;exact xs_round ((swp st s).1,cfin (swp st s).2,z+1) (by show 3*(u.toNat-(z+1))+wtp (cfin (swp st s).2).ph<3*(u.toNat-z)+wtp s.ph;have w1:=wtp_le (cfin (swp st s).2).ph;omega) ⟨(hci.swp hp2 hLx).fin (swp_ph hp2),by omega,by rw[hwk,hwn,addw_add]⟩ sA (rr [0,1,0] [])
   have p42:=dF c33;have hL0:s.L=[]:=List.eq_nil_of_length_eq_zero om;refine k_st<|k_sr<|sP2 (pB b 0)<|sP (pB b 5)<|sL (t_load 0 lv21)<|sL (t_len iTy_ok Tryz.underlying23 (.ownO 4))<|sL (Lt.to t_cmp (cB (decide_eq_true om:(decide ((s.L.length:Int)=0))=true)))<|s_nt<|k_true<|k_reg<|sP2 (pB b 0)<|sP (pB b 2)<|s_store 0 #[pB q 0,pB hb 0,iw 0,.map (some mb19),qv20,lv21,fv22] ?_
   refine s_nil<|xs_block<|xs_mem (fun _ h=>co_shut (c:=s.col) (.inl rfl) (h.re [0,0,0,0,0,0] [])) ?_
   have hcl:coS b q hb (cfin s)=coA b q hb 0 s.col s.Q s.L s.Fr s.G s.P:=by rw[cfin_nil hL0]
   refine xs_mem (Bs:=coA b q hb ((cfin s).ph) ((cfin s).col) ((cfin s).Q) ((cfin s).L) ((cfin s).Fr) ((cfin s).G) ((cfin s).P)::own iTy rv R::hpA hb st::F) (fun _ h=>by rw[←hcl]at h;exact h) ?_;have hwn:=wrk_none (k:=u.toNat-z-1) (st:=st) (R:=R) hp2 hL0;rw[show u.toNat-z-1+1=u.toNat-z by omega,wrk_end (s:=cfin s) (by rw[cfin_nil hL0])]at hwn;exact xs_round (st,cfin s,z) (by show 3*(u.toNat-z)+wtp (cfin s).ph<3*(u.toNat-z)+wtp s.ph;rw[wtp2 hp2,wtp0 (by rw[cfin_nil hL0])];omega) ⟨hci.fin hp2,by omega,by rw[hwk,hwn,wrk_end (s:=cfin s) (by rw[cfin_nil hL0])]⟩ sA (rr [0,0,0] [])
  have p43:=Decidable.not_not.1 (dF c25);refine k_exit<|xs_exit<|xs_exit<|xs_here<|xs_then<|k_sr<|sP2 (iw (z:Int))<|s_nt<|k_ret<|xs_mem (fun _ h=>co_shut (c:=s.col) hc24 (h.re [0,0,0,0,0,0] [])) ?_
  have hwe:wrk (u.toNat-z) st R s=(st,s,0):=by first|(rw[show u.toNat-z=0 by omega];rfl)|exact wrk_end om
  rw[work_eq (t:=(st,s,z)) om (by rw[←hs1,hwk,hwe];simp[addw])];exact xs_fin _ _ (SI.tmp 6 SI.nil) (rr [1,0,0] []) ⟨rfl,rfl⟩
 have p44:=dF c17;refine sK<|sK<|sK<|sK<|sK<|sP (.bool false)<|s_nt<|k_false<|k_exit<|xs_exit<|xs_exit<|xs_here<|xs_then<|k_sr<|sP2 (iw (z:Int))<|s_nt<|k_ret ?_
 have hwe:wrk (u.toNat-z) st R s=(st,s,0):=by first|(rw[show u.toNat-z=0 by omega];rfl)|exact wrk_end om
 rw[work_eq (t:=(st,s,z)) om (by rw[←hs1,hwk,hwe];simp[addw])];exact xs_fin _ _ (SI.tmp 6 SI.nil) (rr [1,0,0] []) ⟨rfl,rfl⟩
end Go.Proofs.YtmhpcebiamkciaaGreat
end
section
set_option linter.unusedSimpArgs false
set_option linter.unusedVariables false
set_option maxRecDepth 100000
set_option maxHeartbeats 2000000
namespace Go.Proofs.YtmhpcebiamkciaaGreat
open Go.Hp Go.J Go.S
open Go.Mem (Ty KTy blk elemAt pre suf blk_pre blk_suf aget aset strK aggDesc)
open Go.Mem (adel apos aget_aset aget_adel)
theorem index_s{Z:Zone}{lv:Value}{L:List Int}(hL:Kn Z iTy lv L)(x:Int):SF Tryz.prog 106 #[lv,iw x] Z [] fun r Bs=>∃k:Int,r=iw k∧(0≤k↔x∈L)∧Bs=[]:=by
 refine sf_enter Tryz.func106 19 [(0,lv),(1,iw x)] (fun w0=>?_);refine k_fact (fun H h=>(hL.get h).len_le) (fun lL=>?_);refine k_sr<|sP (iw 0)<|s_nt<|k_seq<|k_sr<|sP lv<|sL (t_len iTy_ok Tryz.underlying23 (.zn hL))<|sP (iw 0)<|s_nt<|k_block<|k_loop (ι:=Nat) (fun i=>i≤L.length∧x∉L.take i) (fun i=>[(0,lv),(1,iw x),(7,iw (L.length:Int)),(8,iw (i:Int))]) (fun i=>[]) (fun i=>L.length-i) 0 ⟨Nat.zero_le _,by simp⟩ sA (rr [] []) ?_
 rintro i hi1;show SK _ _ _ _ _ [(0,lv),(1,iw x),(7,iw (L.length:Int)),(8,iw (i:Int))] _ [];refine k_sr<|sL t_cmp<|s_nt<|k_seq<|k_cond (decide ((i:Int)<(L.length:Int))) (fun c2=>?_) (fun c2=>?_)
 .have p3:=dY c2;refine k_st<|k_seq<|k_block<|k_sr<|sP2 (iw (i:Int))<|s_nr<|sP (iw x)<|sP lv<|sP (iw (i:Int))<|sL (t_index iTy_ok Tryz.underlying23 (.zn hL) (i:Int) i om ol om) ?_
  obtain⟨y4,hy5⟩:∃y,L[i]?=some y:=⟨_,List.getElem?_eq_getElem ol⟩;refine sL (t_loadE iTy_ok (.zn hL) hy5)<|sL t_cmp<|s_nt<|k_cond (decide (x=y4)) (fun c6=>?_) (fun c6=>?_)
  .have p7:=dY c6;refine k_sr<|sP2 (iw (i:Int))<|s_nt<|k_ret<|xs_retBlock<|xs_ret<|xs_ret<|xs_retBlock<|xs_ret<|xs_fin _ _ (SI.tmp 4 SI.nil) (rr [] []) ⟨(i:Int),rfl,?_,rfl⟩
   exact⟨fun _=>by rw[p7];exact List.mem_of_getElem? hy5,fun _=>by omega⟩
  have p8:=dF c6;refine k_skip<|xs_block<|xs_then<|k_reg<|sL (t_add (i:Int) 1 ol)<|sP (iw ((i:Int)+1))<|s_nil ?_
  exact xs_round (i+1) om (by obtain⟨hi1,hi2⟩:=hi1;refine⟨by omega,?_⟩;rw[←take_snoc hy5,List.mem_append,List.mem_singleton];rintro (h|h);exact hi2 h;exact p8 h) sA (rr [] [])
 have p9:=dF c2;refine k_exit<|xs_exit<|xs_exit<|xs_here<|xs_then<|k_sr<|sP (iw (-1))<|s_nt<|k_ret<|xs_fin _ _ (SI.tmp 4 SI.nil) (rr [] []) ⟨(-1),rfl,?_,rfl⟩
 exact⟨fun h=>absurd h (by decide),fun h=>absurd h (by have h:=hi1.2;rwa [List.take_of_length_le om]at h)⟩
theorem contains_s{Z:Zone}{lv:Value}{L:List Int}(hL:Kn Z iTy lv L)(x:Int):SF Tryz.prog 44 #[lv,iw x] Z [] fun r Bs=>r=.bool (decide (x∈L))∧Bs=[]:=by
 refine sf_enter Tryz.func44 9 [(0,lv),(1,iw x)] (fun w0=>?_);refine k_sr<|sP (.bool false)<|s_nr<|sP lv<|sP (iw x)<|s_pcall (fun _ h=>index_s (L:=L) (Acc.kn (.zn hL) h) x) ?_
 rintro _ _ ⟨k1,rfl,hk2,rfl⟩;refine sL t_cmp<|sP (.bool (decide ((0:Int)≤k1)))<|s_nt<|k_ret<|xs_fin _ _ (SI.tmp 4 SI.nil) (rr [] []) ⟨cB (decide_eq_decide.2 hk2),rfl⟩
theorem wot_none{L:List Int}{id:Int}(h:∀z∈L,z≠id):wot L id=L:=by
 unfold wot;rw[List.filter_eq_self];intro a ha;simp[h a ha]
structure DlI(L:List Int)(id:Int)(X:List Int)(i j:Nat):Prop where
 len:X.length=L.length
 lt:i<j
 le:j≤L.length
 pre:X.take i=wot (L.take j) id
 suf:X.drop j=L.drop j
theorem DlI.start{L:List Int}{id:Int}{i:Nat}(hi:i<L.length)(h:L[i]?=some id)(hn:∀z∈L.take i,z≠id):DlI L id L i (i+1) where
 len:=rfl
 lt:=Nat.lt_succ_self i
 le:=hi
 pre:=by
  have:=wot_none hn;unfold wot at this⊢;rw[List.take_add_one,h,List.filter_append,this];simp
 suf:=rfl
theorem DlI.at{L X:List Int}{id y:Int}{i j:Nat}(h:DlI L id X i j)(hy:X[j]?=some y):L[j]?=some y:=by
 have e:=congrArg (fun l=>l[0]?) h.suf;simp only[List.getElem?_drop,Nat.add_zero]at e;rw[←e];exact hy
theorem DlI.skip{L X:List Int}{id y:Int}{i j:Nat}(h:DlI L id X i j)(hj:j<L.length)(hy:X[j]?=some y)(e:y=id):DlI L id X i (j+1) where
 len:=h.len
 lt:=by have:=h.lt;omega
 le:=hj
 pre:=by
  have:=h.pre;unfold wot at this⊢;rw[List.take_add_one,h.at hy,List.filter_append,←this];simp[e]
 suf:=by have:=congrArg (List.drop 1) h.suf;rw[List.drop_drop,List.drop_drop]at this;exact this
theorem DlI.keep{L X:List Int}{id y:Int}{i j:Nat}(h:DlI L id X i j)(hj:j<L.length)(hy:X[j]?=some y)(e:¬y=id):DlI L id (X.set i y) (i+1) (j+1) where
 len:=by rw[List.length_set];exact h.len
 lt:=by have:=h.lt;omega
 le:=hj
 pre:=by
  have h1:=h.pre;have h2:=h.lt;have h3:=h.len;unfold wot at h1⊢;have h4:=h.at hy;rw[List.take_add_one,List.getElem?_set_self om,List.take_set_of_le (Nat.le_refl _),List.take_add_one,h4,List.filter_append,←h1];simp[e]
 suf:=by
  have:=congrArg (List.drop 1) h.suf;rw[List.drop_drop,List.drop_drop]at this;have h2:=h.lt;rw[List.drop_set_of_lt om];exact this
theorem DlI.fin{L X:List Int}{id:Int}{i j:Nat}{z:Int}{k:Nat}(h:DlI L id X i j)(hj:¬j<L.length):(X.take i++List.replicate k z).take i=wot L id:=by
 have h1:=h.pre;have h2:=h.lt;have h3:=h.len;have h4:=h.le;rw[List.take_append_of_le_length (by rw[List.length_take];omega),List.take_take,Nat.min_self,h1,List.take_of_length_le om]
theorem creg_s{Z:Zone}{F:List Asr}{b q hb N:Nat}{st:Hst}{s:Cst}(hci:CI N st s)(hN:N≤300)(x:Int):SF Tryz.prog 14 #[.pointer (some ⟨b,0,none⟩),iw x] Z (coS b q hb s::hpA hb st::F) fun r Bs=>r=iw (regE st s x)∧Bs=coS b q hb (rgs st s x)::hpA hb st::F:=by
 refine sf_enter Tryz.func14 56 [(0,pB b 0),(1,iw x)] (fun w0=>?_);refine k_sr<|sP (iw 0)<|s_nt<|k_seq<|k_sr<|sP (pB b 0)<|sP (.bool false)<|s_nt<|k_false<|k_st<|k_seq<|k_sr<|sP2 (pB b 0)<|sP (pB b 1)<|s_mem5 (fun H h=>co_open (h.re [0] [])) (fun mb1 qv2 lv3 fv4 cl5 hw=>?_)
 have hc6:=hw;refine sL (t_load 0 (pB hb 0))<|sP (iw x)<|sC [6] (halive_s (st:=st) x) ?_
 refine sP (.bool (!(halive st x)))<|s_nt<|k_cond (!(halive st x)) (fun c7=>?_) (fun c7=>?_)
 .have c8:=not_t c7;refine k_sr<|sP (iw 2)<|s_nt<|k_ret<|xs_ret<|xs_mem (fun _ h=>co_shut (c:=s.col) hc6 (h.re [1,1,1,1,1,1] [])) ?_
  have hst:coS b q hb (rgs st s x)=coA b q hb s.ph s.col s.Q s.L s.Fr s.G s.P:=by unfold rgs Cst.doom;simp[coS,c7,c8,c8]
  refine xs_fin _ _ (SI.tmp 4 SI.nil) (fun _ h=>by rw[hst];exact h.re [0,0] []) ⟨?_,rfl⟩;exact cI (by unfold regE Cst.doom;simp[c7,c8,c8])
 have c9:=not_f c7;refine k_st<|k_seq<|k_sr<|sP2 (pB b 0)<|sP (pB b 2)<|sL (t_load 1 (iw s.ph))<|sL t_cmp<|sP (.bool (decide (s.ph=2)))<|s_fork 20 (decide (s.ph=2)) (fun c10=>?_) (fun c10=>?_)
 .have p11:=dY c10;obtain rfl:=hc6.resolve_left om;refine sP2 (pB b 0)<|sP (pB b 3)<|sL (t_load 1 (.map (some mb1)))<|sP (iw x)<|s_memX (fun H h=>mc_open (h.re [3] [])) (fun m12 hw=>?_)
  have hm13:=hw;refine sL (Lt.to (v':=iw (s.col x)) (t_lookup 0 intOk Tryz.underlying89 (iw 0) x) ((mgt_is _ _).trans (cI (hm13.1 x))))<|sL t_cmp<|sP2 (.bool (decide ((s.col x)=0)))<|s_fork 29 (decide ((s.col x)=0)) (fun c14=>?_) (fun c14=>?_)
  .have p15:=dY c14;refine sP2 (pB b 0)<|sP (pB b 5)<|sL (t_load 2 lv3)<|sP (iw x)<|sV (fun _ h=>contains_s (L:=s.L) (Acc.kn (.ownO 5) h) x)<|sP (.bool (decide (x∈s.L)))<|s_nt<|k_cond (decide (x∈s.L)) (fun c16=>?_) (fun c16=>?_)
   .have p17:=dY c16;refine k_sr<|sP (iw 19)<|s_nt<|k_ret<|xs_ret<|xs_mem (fun _ h=>mc_shut hm13.1 (h.re [0] [])) ?_
    refine xs_mem (fun _ h=>co_shut (c:=s.col) (.inr rfl) (h.re [2,2,0,1,1,1] [])) ?_;have hst:coS b q hb (rgs st s x)=coA b q hb s.ph s.col s.Q s.L s.Fr s.G s.P:=by unfold rgs Cst.doom;simp[coS,c7,c9,c10,c14,c16,c9,p11,p15,p17]
    refine xs_fin _ _ (SI.tmp 4 SI.nil) (fun _ h=>by rw[hst];exact h.re [0,0] []) ⟨?_,rfl⟩;exact cI (by unfold regE Cst.doom;simp[c7,c9,c10,c14,c16,c9,p11,p15,p17])
   have p18:=dF c16;refine k_st<|k_sr<|sP3 (pB b 0)<|sL (t_load 2 (pB q 0))<|sP (iw x)<|sC [3] (add_s (reg:=s.G) x (by have:=hci.gp;omega)) ?_
   refine sP (iw (addI s.G x))<|s_nt<|k_seq<|k_sr<|sP (iw (addI s.G x))<|sL t_cmp<|sP (.bool (decide ((addI s.G x)=0)))<|s_fork 45 (decide ((addI s.G x)=0)) (fun c19=>?_) (fun c19=>?_)
   .have p20:=dY c19;refine sP2 (pB b 0)<|sP (pB b 2)<|sL (t_load 3 (iw s.ph))<|sL (Lt.to t_cmp (cB (decide_eq_false om:(decide (s.ph=1))=false)))<|sP (.bool false)<|s_nt<|k_false<|k_st<|k_sr<|sP2 (iw (addI s.G x))<|s_nt<|k_ret<|xs_mem (fun _ h=>mc_shut hm13.1 (h.re [1] [])) ?_
    refine xs_mem (fun _ h=>co_shut (c:=s.col) (.inr rfl) (h.re [3,1,0,1,1,1] [])) ?_;have hst:coS b q hb (rgs st s x)=coA b q hb s.ph s.col s.Q s.L s.Fr (addL s.G x) s.P:=by unfold rgs Cst.doom;simp[coS,c7,c9,c10,c14,c16,c19,c9,p11,p15,p18,p20]
    refine xs_fin _ _ (SI.tmp 4 SI.nil) (fun _ h=>by rw[hst];exact h.re [0,0] []) ⟨?_,rfl⟩;exact cI (by unfold regE Cst.doom;simp[c7,c9,c10,c14,c16,c19,c9,p11,p15,p18,p20])
   have p21:=dF c19;refine sK<|sK<|sK<|sK<|sK<|sP (.bool false)<|s_nt<|k_false<|k_st<|k_sr<|sP2 (iw (addI s.G x))<|s_nt<|k_ret<|xs_mem (fun _ h=>mc_shut hm13.1 (h.re [1] [])) ?_
   refine xs_mem (fun _ h=>co_shut (c:=s.col) (.inr rfl) (h.re [3,1,0,1,1,1] [])) ?_;have hst:coS b q hb (rgs st s x)=coA b q hb s.ph s.col s.Q s.L s.Fr (addL s.G x) s.P:=by unfold rgs Cst.doom;simp[coS,c7,c9,c10,c14,c16,c19,c9,p11,p15,p18,p21]
   refine xs_fin _ _ (SI.tmp 4 SI.nil) (fun _ h=>by rw[hst];exact h.re [0,0] []) ⟨?_,rfl⟩;exact cI (by unfold regE Cst.doom;simp[c7,c9,c10,c14,c16,c19,c9,p11,p15,p18,p21])
  have p22:=dF c14;refine sK<|sK<|sK<|sK<|sK<|sK<|sP (.bool false)<|s_nt<|k_false<|k_st<|k_sr<|sP3 (pB b 0)<|sL (t_load 2 (pB q 0))<|sP (iw x)<|sC [3] (add_s (reg:=s.G) x (by have:=hci.gp;omega)) ?_
  refine sP (iw (addI s.G x))<|s_nt<|k_seq<|k_sr<|sP (iw (addI s.G x))<|sL t_cmp<|sP (.bool (decide ((addI s.G x)=0)))<|s_fork 45 (decide ((addI s.G x)=0)) (fun c23=>?_) (fun c23=>?_)
  .have p24:=dY c23;refine sP2 (pB b 0)<|sP (pB b 2)<|sL (t_load 3 (iw s.ph))<|sL (Lt.to t_cmp (cB (decide_eq_false om:(decide (s.ph=1))=false)))<|sP (.bool false)<|s_nt<|k_false<|k_st<|k_sr<|sP2 (iw (addI s.G x))<|s_nt<|k_ret<|xs_mem (fun _ h=>mc_shut hm13.1 (h.re [1] [])) ?_
   refine xs_mem (fun _ h=>co_shut (c:=s.col) (.inr rfl) (h.re [3,1,0,1,1,1] [])) ?_;have hst:coS b q hb (rgs st s x)=coA b q hb s.ph s.col s.Q s.L s.Fr (addL s.G x) s.P:=by unfold rgs Cst.doom;simp[coS,c7,c9,c10,c14,c23,c9,p11,p22,p24]
   refine xs_fin _ _ (SI.tmp 4 SI.nil) (fun _ h=>by rw[hst];exact h.re [0,0] []) ⟨?_,rfl⟩;exact cI (by unfold regE Cst.doom;simp[c7,c9,c10,c14,c23,c9,p11,p22,p24])
  have p25:=dF c23;refine sK<|sK<|sK<|sK<|sK<|sP (.bool false)<|s_nt<|k_false<|k_st<|k_sr<|sP2 (iw (addI s.G x))<|s_nt<|k_ret<|xs_mem (fun _ h=>mc_shut hm13.1 (h.re [1] [])) ?_
  refine xs_mem (fun _ h=>co_shut (c:=s.col) (.inr rfl) (h.re [3,1,0,1,1,1] [])) ?_;have hst:coS b q hb (rgs st s x)=coA b q hb s.ph s.col s.Q s.L s.Fr (addL s.G x) s.P:=by unfold rgs Cst.doom;simp[coS,c7,c9,c10,c14,c23,c9,p11,p22,p25]
  refine xs_fin _ _ (SI.tmp 4 SI.nil) (fun _ h=>by rw[hst];exact h.re [0,0] []) ⟨?_,rfl⟩;exact cI (by unfold regE Cst.doom;simp[c7,c9,c10,c14,c23,c9,p11,p22,p25])
 have p26:=dF c10;refine sK<|sK<|sK<|sK<|sK<|sK<|sK<|sP2 (.bool false)<|sK<|sK<|sK<|sK<|sK<|sK<|sP (.bool false)<|s_nt<|k_false<|k_st<|k_sr<|sP3 (pB b 0)<|sL (t_load 1 (pB q 0))<|sP (iw x)<|sC [2] (add_s (reg:=s.G) x (by have:=hci.gp;omega)) ?_
 refine sP (iw (addI s.G x))<|s_nt<|k_seq<|k_sr<|sP (iw (addI s.G x))<|sL t_cmp<|sP (.bool (decide ((addI s.G x)=0)))<|s_fork 45 (decide ((addI s.G x)=0)) (fun c27=>?_) (fun c27=>?_)
 .have p28:=dY c27;refine sP2 (pB b 0)<|sP (pB b 2)<|sL (t_load 2 (iw s.ph))<|sL t_cmp<|sP (.bool (decide (s.ph=1)))<|s_nt<|k_cond (decide (s.ph=1)) (fun c29=>?_) (fun c29=>?_)
  .have p30:=dY c29;obtain rfl:=hc6.resolve_left om;refine k_reg<|sP (pB b 0)<|sP (iw x)<|s_mem (fun _ h=>co_shut (c:=s.col) (.inr rfl) (h.re [2,0,1,1,1,1] [])) ?_
   refine s_mem (Bs:=coA b q hb 1 s.col s.Q s.L s.Fr (addL s.G x) s.P::hpA hb st::F) (fun _ h=>by rw[show s.ph=1 by omega]at h;exact h) ?_;refine sC [0,0] (creach_s (Q:=s.Q) (by have:=hci.ql;omega) x) ?_;refine s_nr<|sP2 (iw (addI s.G x))<|s_nt<|k_ret ?_
   have hst:coS b q hb (rgs st s x)=coA b q hb 1 (rchM st s.col x) (rchQ st s.col s.Q x) s.L s.Fr (addL s.G x) s.P:=by unfold rgs Cst.doom;simp[coS,c7,c9,c10,c27,c29,c9,p26,p28,p30]
   refine xs_fin _ _ (SI.tmp 4 SI.nil) (fun _ h=>by rw[hst];exact h.re [0,0] []) ⟨?_,rfl⟩;exact cI (by unfold regE Cst.doom;simp[c7,c9,c10,c27,c29,c9,p26,p28,p30])
  have p31:=dF c29;refine k_st<|k_sr<|sP2 (iw (addI s.G x))<|s_nt<|k_ret<|xs_mem (fun _ h=>co_shut (c:=s.col) hc6 (h.re [2,0,1,1,1,1] [])) ?_
  have hst:coS b q hb (rgs st s x)=coA b q hb s.ph s.col s.Q s.L s.Fr (addL s.G x) s.P:=by unfold rgs Cst.doom;simp[coS,c7,c9,c10,c27,c29,c9,p26,p28,p31]
  refine xs_fin _ _ (SI.tmp 4 SI.nil) (fun _ h=>by rw[hst];exact h.re [0,0] []) ⟨?_,rfl⟩;exact cI (by unfold regE Cst.doom;simp[c7,c9,c10,c27,c29,c9,p26,p28,p31])
 have p32:=dF c27;refine sK<|sK<|sK<|sK<|sK<|sP (.bool false)<|s_nt<|k_false<|k_st<|k_sr<|sP2 (iw (addI s.G x))<|s_nt<|k_ret<|xs_mem (fun _ h=>co_shut (c:=s.col) hc6 (h.re [2,0,1,1,1,1] [])) ?_
 have hst:coS b q hb (rgs st s x)=coA b q hb s.ph s.col s.Q s.L s.Fr (addL s.G x) s.P:=by unfold rgs Cst.doom;simp[coS,c7,c9,c10,c27,c9,p26,p32]
 refine xs_fin _ _ (SI.tmp 4 SI.nil) (fun _ h=>by rw[hst];exact h.re [0,0] []) ⟨?_,rfl⟩;exact cI (by unfold regE Cst.doom;simp[c7,c9,c10,c27,c9,p26,p32])
theorem cphase_s{Z:Zone}{F:List Asr}{b q hb:Nat}{ph:Int}{m:Int→Int}{Q L Fr G P:List Int}:SF Tryz.prog 15 #[.pointer (some ⟨b,0,none⟩)] Z (coA b q hb ph m Q L Fr G P::F) fun r Bs=>r=iw ph∧Bs=coA b q hb ph m Q L Fr G P::F:=by
 refine sf_enter Tryz.func15 9 [(0,pB b 0)] (fun w0=>?_);refine k_sr<|sP (iw 0)<|s_nt<|k_seq<|k_sr<|sP (pB b 0)<|sP (.bool false)<|s_nt<|k_false<|k_st<|k_sr<|sP2 (pB b 0)<|sP (pB b 2)<|s_mem5 (fun H h=>co_open (h.re [0] [])) (fun mb1 qv2 lv3 fv4 cl5 hw=>?_)
 have hc6:=hw;refine sL (t_load 0 (iw ph))<|sP (iw ph)<|s_nt<|k_ret<|xs_mem (fun _ h=>co_shut (c:=m) hc6 (h.re [0,0,0,0,0,0] [])) ?_
 exact xs_fin _ _ (SI.tmp 2 SI.nil) (rr [0] []) ⟨rfl,rfl⟩
end Go.Proofs.YtmhpcebiamkciaaGreat
end
