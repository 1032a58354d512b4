/-
  Layer 45: the marker of layer 26. Each law says its conditions.
-/
import Derived.Test.YtmhpcebiamkciaaGreatG4
import Derived.Shelf.Slices.SearchI
import Derived.Shelf.Slices.Empties
import Derived.Test.YtmhpcebiamkciaaGreatG2
import Derived.Test.YtmhpcebiamkciaaGreatG3
import Derived.Test.YtmhpcebiamkciaaGreatG1
import Derived.Shelf.Strings.Search3
import Derived.Test.YtmhpcebiamkciaaGreatProg
import Derived.Lib.IndexAny
section
set_option linter.unusedSimpArgs false
set_option linter.unusedVariables false
set_option maxRecDepth 100000
set_option maxHeartbeats 2000000
namespace Go.Proofs.YtmhpcebiamkciaaGreat
open Go.Hp Go.J Go.S
open Go.Mem (Ty KTy blk elemAt pre suf blk_pre blk_suf aget aset strK aggDesc)
open Go.Mem (adel apos aget_aset aget_adel)
open Go.Mem (aget_aset aset_new apos aget_none_iff)
theorem wcheck_s{Z:Zone}{ov rv:Value}{l:List Ob}{R:List Int}(hg:KnG Z ov rv l R):SF Tryz.prog 114 #[.agg #[ov,rv]] Z [] fun r Bs=>r=iw (errI (chk 0 l))∧Bs=[]:=by
 refine sf_enter Tryz.func114 35 [(0,.agg #[ov,rv])] (fun w0=>?_);refine k_fact (fun H h=>(hg.obs.get h).len_le) (fun lA=>?_);refine k_seq<|k_reg<|s_box #[ov,rv] (fun g1=>?_)
 refine sL (t_pure (iw 0))<|s_nil<|xs_then<|k_seq<|k_reg<|sL (t_pure (iw 0))<|s_nil<|xs_then<|k_seq<|k_seq<|k_reg<|sL (t_pure (.pointer (some ⟨g1,0,none⟩)))<|sL (t_load 0 ov)<|sL (t_len ObT_ok Tryz.underlying55 (.zn hg.obs))<|sL (t_pure (iw 0))<|s_nil<|xs_then<|k_block<|k_loop (ι:=Int×Nat) (fun (last,i)=>i≤l.length∧chk 0 l=chk last (l.drop i)∧0≤last) (fun (last,i)=>[(2,iw 0),(3,iw last),(7,ov),(8,iw (l.length:Int)),(9,iw (i:Int))]) (fun (last,i)=>[blkA g1 #[ov,rv] 57]) (fun (last,i)=>l.length-i) (0,0) ⟨Nat.zero_le _,rfl,Int.le_refl _⟩ sA (rr [0] []) ?_
 rintro⟨last,i⟩ hi2;replace hi2:i≤l.length∧chk 0 l=chk last (l.drop i)∧0≤last:=hi2;show SK _ _ _ _ _ [(2,iw 0),(3,iw last),(7,ov),(8,iw (l.length:Int)),(9,iw (i:Int))] _ [blkA g1 #[ov,rv] 57];refine k_seq<|k_reg<|sL t_cmp<|s_nil<|xs_then<|k_seq<|k_cond (decide ((i:Int)<(l.length:Int))) (fun c3=>?_) (fun c3=>?_)
 .have p4:=dY c3;refine k_skip<|xs_then<|k_seq<|k_block<|k_seq<|k_reg<|sL (t_index ObT_ok Tryz.underlying55 (.zn hg.obs) (i:Int) i om ol om) ?_
  obtain⟨y5,hy6⟩:∃y,l[i]?=some y:=⟨_,List.getElem?_eq_getElem ol⟩;have hk7:=hg.each y5 (List.mem_of_getElem? hy6);refine sL (t_loadE ObT_ok (.zn hg.obs) hy6)<|s_alloc (.agg #[iw 0,iw 0,iw 0,nS,nS]) #[iw 0,iw 0,iw 0,nS,nS] (fun g8=>?_)
  refine s_store 0 #[iw y5.id,iw y5.size,iw y5.weak,y5.rv.v,y5.ev.v] ?_;refine s_nil<|xs_then<|k_seq<|k_cut (ι:=Unit) (fun _=>True) (fun _=>[(2,iw 0),(3,iw last),(5,pB g8 0),(7,ov),(8,iw (l.length:Int)),(9,iw (i:Int)),(10,.bool (decide ((i:Int)<(l.length:Int)))),(11,.pointer (some (elemAt ObT.size ov i))),(12,.agg #[iw y5.id,iw y5.size,iw y5.weak,y5.rv.v,y5.ev.v]),(13,pB g8 0),(14,iw y5.id),(15,iw last),(16,.bool (decide (y5.id≤last))),(17,.bool (decide (y5.id≤last))),(21,.bool ((decide (y5.id≤last))||(decide (y5.size<0)))),(22,.bool ((decide (y5.id≤last))||(decide (y5.size<0)))),(26,.bool ((decide (y5.id≤last))||((decide (y5.size<0))||(decide (y5.weak<0))))),(27,.bool ((decide (y5.id≤last))||((decide (y5.size<0))||(decide (y5.weak<0))))),(31,.bool ((decide (y5.id≤last))||((decide (y5.size<0))||((decide (y5.weak<0))||(decide ((3:Int)<y5.weak))))))]) (fun _=>[blkA g8 #[iw y5.id,iw y5.size,iw y5.weak,y5.rv.v,y5.ev.v] 100,blkA g1 #[ov,rv] 57]) ?_ (fun _ _=>?_)
  .refine k_reg<|sL (t_pure (pB g8 0))<|sL (t_load 0 (iw y5.id))<|sL (t_pure (iw last))<|sL t_cmp<|sL (t_pure (.bool (decide (y5.id≤last))))<|s_fork 17 (decide (y5.id≤last)) (fun c9=>?_) (fun c9=>?_)
   .have p10:=dY c9;refine sK<|sK<|sK<|sL (t_pure (.bool true))<|sL (t_pure (.bool true))<|sK<|sK<|sK<|sL (t_pure (.bool true))<|sL (t_pure (.bool true))<|sK<|sK<|sK<|sL (t_pure (.bool true))<|s_nil ?_
    exact xs_cut () trivial (sub_of rfl (rQ (rQ (rQ (rQ (rQ (rQ (rQ (rQ (rQ (rQ (rQ (rQ (rQ ⟨⟨rfl,cB (by simp[c9])⟩,⟨⟨rfl,cB (by simp[c9])⟩,⟨⟨rfl,cB (by simp[c9])⟩,⟨⟨rfl,cB (by simp[c9])⟩,⟨⟨rfl,cB (by simp[c9])⟩,⟨⟨rfl,cB (by simp[c9])⟩,trivial⟩⟩⟩⟩⟩⟩)))))))))))))) (rr [0,0] [])
   have p11:=dF c9;refine sL (t_pure (pB g8 1))<|sL (t_load 0 (iw y5.size))<|sL t_cmp<|sL (t_pure (.bool (decide (y5.size<0))))<|sL (t_pure (.bool (decide (y5.size<0))))<|s_fork 22 (decide (y5.size<0)) (fun c12=>?_) (fun c12=>?_)
   .have p13:=dY c12;refine sK<|sK<|sK<|sL (t_pure (.bool true))<|sL (t_pure (.bool true))<|sK<|sK<|sK<|sL (t_pure (.bool true))<|s_nil ?_
    exact xs_cut () trivial (sub_of rfl (rQ (rQ (rQ (rQ (rQ (rQ (rQ (rQ (rQ (rQ (rQ (rQ (rQ ⟨⟨rfl,cB (by simp[c9,c12])⟩,⟨⟨rfl,cB (by simp[c9,c12])⟩,⟨⟨rfl,cB (by simp[c9,c12])⟩,⟨⟨rfl,cB (by simp[c9,c12])⟩,⟨⟨rfl,cB (by simp[c9,c12])⟩,⟨⟨rfl,cB (by simp[c9,c12])⟩,trivial⟩⟩⟩⟩⟩⟩)))))))))))))) (rr [0,0] [])
   have p14:=dF c12;refine sL (t_pure (pB g8 2))<|sL (t_load 0 (iw y5.weak))<|sL t_cmp<|sL (t_pure (.bool (decide (y5.weak<0))))<|sL (t_pure (.bool (decide (y5.weak<0))))<|s_fork 27 (decide (y5.weak<0)) (fun c15=>?_) (fun c15=>?_)
   .have p16:=dY c15;refine sK<|sK<|sK<|sL (t_pure (.bool true))<|s_nil ?_
    exact xs_cut () trivial (sub_of rfl (rQ (rQ (rQ (rQ (rQ (rQ (rQ (rQ (rQ (rQ (rQ (rQ (rQ ⟨⟨rfl,cB (by simp[c9,c12,c15])⟩,⟨⟨rfl,cB (by simp[c9,c12,c15])⟩,⟨⟨rfl,cB (by simp[c9,c12,c15])⟩,⟨⟨rfl,cB (by simp[c9,c12,c15])⟩,⟨⟨rfl,cB (by simp[c9,c12,c15])⟩,⟨⟨rfl,cB (by simp[c9,c12,c15])⟩,trivial⟩⟩⟩⟩⟩⟩)))))))))))))) (rr [0,0] [])
   have p17:=dF c15;refine sL (t_pure (pB g8 2))<|sL (t_load 0 (iw y5.weak))<|sL t_cmp<|sL (t_pure (.bool (decide ((3:Int)<y5.weak))))<|s_nil ?_
   exact xs_cut () trivial (sub_of rfl (rQ (rQ (rQ (rQ (rQ (rQ (rQ (rQ (rQ (rQ (rQ (rQ (rQ ⟨⟨rfl,cB (by simp[c9,c12,c15])⟩,⟨⟨rfl,cB (by simp[c9,c12,c15])⟩,⟨⟨rfl,cB (by simp[c9,c12,c15])⟩,⟨⟨rfl,cB (by simp[c9,c12,c15])⟩,⟨⟨rfl,cB (by simp[c9,c12,c15])⟩,⟨⟨rfl,cB (by simp[c9,c12,c15])⟩,trivial⟩⟩⟩⟩⟩⟩)))))))))))))) (rr [0,0] [])
  refine k_cond ((decide (y5.id≤last))||((decide (y5.size<0))||((decide (y5.weak<0))||(decide ((3:Int)<y5.weak))))) (fun c18=>?_) (fun c18=>?_)
  .have p19:=c18;simp only[Bool.and_eq_true,Bool.or_eq_true,Bool.and_eq_false_iff,Bool.or_eq_false_iff,Bool.not_eq_true',Bool.not_eq_false',decide_eq_true_eq,decide_eq_false_iff_not]at p19;refine k_seq<|k_reg<|sL (t_pure (iw 2))<|s_nil<|xs_then<|k_ret<|xs_ret<|xs_retBlock<|xs_ret<|xs_ret<|xs_retBlock<|xs_ret<|xs_fin _ _ (SI.tmp 2 SI.nil) (rr [] [0,0]) ⟨cI ?_,rfl⟩
   rw[hi2.2.1,chk_drop hy6];simp only[errI];rw[if_neg];simp only[Bool.and_eq_true,Bool.not_eq_true',Bool.or_eq_false_iff,decide_eq_false_iff_not];omega
  obtain⟨c20,c21⟩:=or_f c18;have p22:=dF c20;obtain⟨c23,c24⟩:=or_f c21;have p25:=dF c23;obtain⟨c26,c27⟩:=or_f c24;have p28:=dF c26;have p29:=dF c27;refine k_skip<|xs_then<|k_reg<|sL (t_pure (pB g8 0))<|sL (t_load 0 (iw y5.id))<|sL (t_pure (iw y5.id))<|s_nil<|xs_block<|xs_then<|k_reg<|sL (t_add (i:Int) 1 ol)<|sL (t_pure (iw ((i:Int)+1)))<|s_nil ?_
  exact xs_round (y5.id,i+1) (by show l.length-(i+1)<l.length-i;omega) (by obtain⟨hi1,hi2,hi3⟩:=hi2;have hd:=chk_drop (last:=last) hy6;refine⟨by omega,?_,by omega⟩;rw[hi2,hd,decide_eq_false om,decide_eq_false om,decide_eq_false om,decide_eq_false om];rfl) sA (rr [1] [1])
 have p30:=dF c3;refine k_exit<|xs_exit<|xs_exit<|xs_here<|xs_then<|k_seq<|k_reg<|sL (t_pure (iw 0))<|s_nil<|xs_then<|k_ret<|xs_fin _ _ (SI.tmp 2 SI.nil) (rr [] [0]) ⟨cI ?_,rfl⟩
 rw[hi2.2.1,List.drop_of_length_le om];rfl
def keyed(l:List Ob):List Int:=(tabs l).map Ob.id
def atL(l:List Ob):List (Int×Ob):=l.map fun o=>(o.id,o)
def mkL(M:List Int):List (Int×Int):=M.map fun x=>(x,1)
def mkI(M:List Int)(k:Int):Int:=if k∈M then 1 else 0
theorem mkI_ne{M:List Int}{k:Int}(h:mkI M k≠0):k∈M:=by unfold mkI at h;split at h<;>simp_all
theorem mkI_eq{M:List Int}{k:Int}(h:mkI M k=0):k∉M:=by unfold mkI at h;split at h<;>simp_all
theorem aget_at(l:List Ob)(k:Int):aget (atL l) k=fnd l k:=by
 unfold atL fnd;induction l with
 | nil=>rfl
 | cons o r ih=>simp only[List.map_cons,aget,List.find?_cons,ih];by_cases h:o.id=k<;>simp[h]
theorem aget_mk(M:List Int)(k:Int):aget (mkL M) k=if k∈M then some 1 else none:=by
 unfold mkL;induction M with
 | nil=>rfl
 | cons x r ih=>
  simp only[List.map_cons,aget,ih,List.mem_cons];by_cases h:x=k
  .simp [h]
  have h2:¬k=x:=fun e=>h e.symm
  simp[h,h2]
theorem got_mk(M:List Int)(k:Int):((aget (mkL M) k).map cV).getD (iw 0)=iw (mkI M k):=by
 rw[aget_mk];unfold mkI;split<;>rfl
theorem apos_none_of{β:Type}{m:List (Int×β)}{k:Int}(h:k∉m.map Prod.fst):apos m k=none:=by
 cases hp:apos m k with
 | none=>rfl
 | some i=>obtain⟨_,x,h1,_⟩:=Go.Mem.apos_lt hp;exact absurd (List.mem_map.2 ⟨_,List.mem_of_getElem? h1,rfl⟩) h
theorem aset_mk{M:List Int}{k:Int}(h:k∉M):aset (mkL M) k 1=mkL (M++[k]):=by
 rw[aset_new (apos_none_of (by simpa [mkL,List.map_map,Function.comp_def]using h))];simp[mkL]
theorem aset_at{l:List Ob}(hl:Asc l){i:Nat}{y:Ob}(hy:l[i]?=some y):aset (atL (l.take i)) y.id y=atL (l.take (i+1)):=by
 rw[aset_new (apos_none_of ?_),List.take_add_one,hy]
 .simp [atL]
 intro hm;simp only[atL,List.map_map,List.mem_map,Function.comp_def]at hm;obtain⟨o,ho,e⟩:=hm;obtain⟨j,hj⟩:=List.mem_iff_getElem?.1 ho;rw[List.getElem?_take]at hj;split at hj
 .rename_i hlt;have:=asc_lt hl hj hy hlt;omega
 cases hj
theorem keyed_yes{l:List Ob}{i:Nat}{y:Ob}(hy:l[i]?=some y)(h:y.weak=1):keyed (l.take i)++[y.id]=keyed (l.take (i+1)):=by
 rw[List.take_add_one,hy];simp[keyed,tabs,List.filter_append,h]
theorem keyed_no{l:List Ob}{i:Nat}{y:Ob}(hy:l[i]?=some y)(h:¬y.weak=1):keyed (l.take i)=keyed (l.take (i+1)):=by
 rw[List.take_add_one,hy];simp[keyed,tabs,List.filter_append,h]
theorem keyed_asc{l:List Ob}(h:Asc l):(keyed l).Pairwise (· < ·):=by
 unfold keyed tabs;rw[List.pairwise_map];exact h.filter _
theorem keyed_len(l:List Ob):(keyed l).length≤l.length:=by
 unfold keyed tabs;rw[List.length_map];exact List.length_filter_le _ _
theorem keyed_get{l:List Ob}(hl:Asc l){i:Nat}{y:Int}(h:(keyed l)[i]?=some y):∃o,(tabs l)[i]?=some o∧o.id=y∧o.weak=1∧fnd l y=some o∧o∈l:=by
 unfold keyed at h;rw[List.getElem?_map,Option.map_eq_some_iff]at h;obtain⟨o,ho,rfl⟩:=h;have hm:=List.mem_of_getElem? ho;have hm':o∈l∧o.weak=1:=by simpa [tabs]using hm
 exact⟨o,ho,rfl,hm'.2,fnd_mem hl hm'.1,hm'.1⟩
theorem keyed_tabs(l:List Ob):(keyed l).length=(tabs l).length:=List.length_map _
theorem kept_all(W:List Int)(o:Ob):W++o.refs++o.ents.flatMap (keptE o.weak)=W++keptO o:=by rw[List.append_assoc];rfl
theorem kept_pre(o:Ob)(k:Nat):o.refs.length+((o.ents.take k).flatMap (keptE o.weak)).length≤(keptO o).length:=by
 have:o.ents.flatMap (keptE o.weak)=(o.ents.take k).flatMap (keptE o.weak)++(o.ents.drop k).flatMap (keptE o.weak):=by rw[←List.flatMap_append,List.take_append_drop]
 unfold keptO;rw[this];simp only[List.length_append];omega
theorem kept_pre1{o:Ob}{k:Nat}{e:Ent}(h:o.ents[k]?=some e):o.refs.length+((o.ents.take k).flatMap (keptE o.weak)).length+(keptE o.weak e).length≤(keptO o).length:=by
 have h1:=kept_pre o (k+1);rw[←kept_take h,List.length_append]at h1;omega
theorem kept_step{weak:Int}{L:List Ent}{k:Nat}{e:Ent}(A:List Int)(h:L[k]?=some e):A++(L.take k).flatMap (keptE weak)++keptE weak e=A++(L.take (k+1)).flatMap (keptE weak):=by rw[List.append_assoc,kept_take h]
def wmkA(t:TypeId)(b:Nat)(l:List Ob)(M:List Int):Asr:=exA fun a=>exA fun m=>exA fun kv=>stA True [blkA b #[.map (some a),.map (some m),kv] t,mpA (Go.Mem.intK 3) Ob.v a (atL l),mpA (Go.Mem.intK 3) cV m (mkL M),own iTy kv (keyed l)]
theorem wmk_open{t:TypeId}{b:Nat}{l:List Ob}{M:List Int}{Z:Zone}{F:List Asr}{H:Heap}(h:Holds Z (wmkA t b l M::F) H):∃a m kv,True∧Holds Z (blkA b #[.map (some a),.map (some m),kv] t::mpA (Go.Mem.intK 3) Ob.v a (atL l)::mpA (Go.Mem.intK 3) cV m (mkL M)::own iTy kv (keyed l)::F) H:=by
 obtain⟨a,h⟩:=h.open_ex;obtain⟨m,h⟩:=h.open_ex;obtain⟨kv,h⟩:=h.open_ex;exact⟨a,m,kv,h.open_st⟩
theorem wmk_shut{t:TypeId}{b:Nat}{l:List Ob}{M:List Int}{Z:Zone}{F:List Asr}{H:Heap}{a m:Nat}{kv:Value}(h:Holds Z (blkA b #[.map (some a),.map (some m),kv] t::mpA (Go.Mem.intK 3) Ob.v a (atL l)::mpA (Go.Mem.intK 3) cV m (mkL M)::own iTy kv (keyed l)::F) H):Holds Z (wmkA t b l M::F) H:=
 Holds.shut_ex a (Holds.shut_ex m (Holds.shut_ex kv (Holds.shut_st trivial h)))
theorem wkept_s{Z:Zone}(weak:Int)(e:Ent):SF Tryz.prog 267 #[iw weak,e.v] Z [] fun r Bs=>Bs=[own iTy r (keptE weak e)]:=by
 refine sf_enter Tryz.func267 26 [(0,iw weak),(1,.agg #[iw e.key,iw e.val])] (fun w0=>?_);refine k_seq<|k_reg<|s_box #[iw e.key,iw e.val] (fun g1=>?_)
 refine sL (t_pure nS)<|s_nil<|xs_then<|k_seq<|k_seq<|k_reg<|sL (t_pure (iw weak))<|s_nil<|xs_then<|k_block<|k_seq<|k_reg<|sL t_cmp<|sL (t_pure (.bool (decide (weak=1))))<|s_nil<|xs_then<|k_cond (decide (weak=1)) (fun c2=>?_) (fun c2=>?_)
 .have p3:=dY c2;refine k_seq<|k_seq<|k_reg<|sL (t_pure (pB g1 0))<|sL (t_load 0 (iw e.key))<|sL t_cmp<|s_nil<|xs_then<|k_cond (decide (e.key=0)) (fun c4=>?_) (fun c4=>?_)
  .have p5:=dY c4;refine k_seq<|k_reg<|sL (t_pure (pB g1 1))<|sL (t_load 0 (iw e.val))<|s_buildSlice (e:=3) [(0,iw e.val)] #[iw e.val] (fun g6=>?_) (hb:=by kernel_rfl)
   refine sL (t_pure (.slice (some ⟨g6,0,none⟩) 1 1))<|s_nil<|xs_then<|k_ret<|xs_ret<|xs_retBlock<|xs_ret ?_
   have hq:keptE weak e=[e.val]:=by simp[keptE,p3,p5]
   exact xs_fin _ _ (SI.tmp 4 SI.nil) (fun _ h=>by rw[hq];exact (Holds.slice 0 h iTy_ok [e.val]).re [0] [1]) rfl
  have p7:=dF c4;refine k_skip<|xs_then<|k_seq<|k_reg<|sL (t_pure nS)<|s_nil<|xs_then<|k_ret<|xs_retBlock<|xs_ret ?_
  have hq:keptE weak e=[]:=by simp[keptE,p3,p7]
  exact xs_fin _ _ (SI.tmp 4 SI.nil) (fun _ h=>by rw[hq];exact h.nilS.re [0] [1]) rfl
 have p8:=dF c2;refine k_seq<|k_reg<|sL t_cmp<|sL (t_pure (.bool (decide (weak=2))))<|s_nil<|xs_then<|k_cond (decide (weak=2)) (fun c9=>?_) (fun c9=>?_)
 .have p10:=dY c9;refine k_seq<|k_reg<|sL (t_pure (pB g1 0))<|sL (t_load 0 (iw e.key))<|s_buildSlice (e:=3) [(0,iw e.key)] #[iw e.key] (fun g11=>?_) (hb:=by kernel_rfl)
  refine sL (t_pure (.slice (some ⟨g11,0,none⟩) 1 1))<|s_nil<|xs_then<|k_ret<|xs_retBlock<|xs_ret ?_
  have hq:keptE weak e=[e.key]:=by simp[keptE,p8,p10]
  exact xs_fin _ _ (SI.tmp 4 SI.nil) (fun _ h=>by rw[hq];exact (Holds.slice 0 h iTy_ok [e.key]).re [0] [1]) rfl
 have p12:=dF c9;refine k_seq<|k_reg<|sL t_cmp<|sL (t_pure (.bool (decide (weak=3))))<|s_nil<|xs_then<|k_cond (decide (weak=3)) (fun c13=>?_) (fun c13=>?_)
 .have p14:=dY c13;refine k_seq<|k_reg<|sL (t_pure nS)<|s_nil<|xs_then<|k_ret<|xs_retBlock<|xs_ret ?_
  have hq:keptE weak e=[]:=by simp[keptE,p8,p12,p14]
  exact xs_fin _ _ (SI.tmp 4 SI.nil) (fun _ h=>by rw[hq];exact h.nilS.re [0] [1]) rfl
 have p15:=dF c13;refine k_skip<|xs_block<|xs_then<|k_seq<|k_reg<|sL (t_pure (pB g1 0))<|sL (t_load 0 (iw e.key))<|sL (t_pure (pB g1 1))<|sL (t_load 0 (iw e.val))<|s_buildSlice (e:=3) [(0,iw e.key),(1,iw e.val)] #[iw e.key,iw e.val] (fun g16=>?_) (hb:=by kernel_rfl)
 refine sL (t_pure (.slice (some ⟨g16,0,none⟩) 2 2))<|s_nil<|xs_then<|k_ret ?_
 have hq:keptE weak e=[e.key,e.val]:=by simp[keptE,p8,p12,p15]
 exact xs_fin _ _ (SI.tmp 4 SI.nil) (fun _ h=>by rw[hq];exact (Holds.slice 0 h iTy_ok [e.key,e.val]).re [0] [1]) rfl
theorem newMarker_s{Z:Zone}{ov rv:Value}{l:List Ob}{R:List Int}(hg:KnG Z ov rv l R)(hs:Asc l)(hl:l.length≤100000):SF Tryz.prog 213 #[.agg #[ov,rv]] Z [] fun r Bs=>∃b,r=.pointer (some ⟨b,0,none⟩)∧Bs=[wmkA 270 b l []]:=by
 refine sf_enter Tryz.func213 45 [(0,.agg #[ov,rv])] (fun w0=>?_);refine k_seq<|k_reg<|s_box #[ov,rv] (fun g1=>?_)
 refine sL (t_pure (.pointer none))<|s_nil<|xs_then<|k_seq<|k_reg<|s_makeMap (Go.Mem.intK 3) Ob.v (fun b2=>?_)
 refine s_makeMap (Go.Mem.intK 3) cV (fun b3=>?_);refine sL (t_kern (.agg #[.map (some b2),.map (some b3),(.slice none 0 0)]))<|s_box #[.map (some b2),.map (some b3),(.slice none 0 0)] (fun g4=>?_)
 refine sL (t_pure (.pointer (some ⟨g4,0,none⟩)))<|s_nil<|xs_then<|k_seq<|k_seq<|k_reg<|sL (t_pure (.pointer (some ⟨g1,0,none⟩)))<|sL (t_load 3 ov)<|sL (t_len ObT_ok Tryz.underlying55 (.zn hg.obs))<|sL (t_pure (iw 0))<|s_nil<|xs_then<|k_block<|k_mem (fun _ h=>Holds.nilS (T:=iTy) h) ?_
 rw[show ([]:List Int)=keyed (l.take 0) from rfl];rw[show mpA (Go.Mem.intK 3) Ob.v b2 []=mpA (Go.Mem.intK 3) Ob.v b2 (atL (l.take 0)) from rfl];refine k_loop (ι:=Value×Nat) (fun (kx,i)=>i≤l.length) (fun (kx,i)=>[(2,.pointer none),(3,.pointer (some ⟨g4,0,none⟩)),(11,ov),(12,iw (l.length:Int)),(13,iw (i:Int))]) (fun (kx,i)=>[own iTy kx (keyed (l.take i)),blkA g4 #[.map (some b2),.map (some b3),kx] 270,mpA (Go.Mem.intK 3) cV b3 [],mpA (Go.Mem.intK 3) Ob.v b2 (atL (l.take i)),blkA g1 #[ov,rv] 57]) (fun (kx,i)=>l.length-i) (.slice none 0 0,0) (Nat.zero_le _) sA (rr [0,0,0,0,0] []) ?_;rintro⟨kx,i⟩ hi5;replace hi5:i≤l.length:=hi5;show SK _ _ _ _ _ [(2,.pointer none),(3,pB g4 0),(11,ov),(12,iw (l.length:Int)),(13,iw (i:Int))] _ [own iTy kx (keyed (l.take i)),blkA g4 #[.map (some b2),.map (some b3),kx] 270,mpA (Go.Mem.intK 3) cV b3 [],mpA (Go.Mem.intK 3) Ob.v b2 (atL (l.take i)),blkA g1 #[ov,rv] 57];have hkl:=keyed_len (l.take i);rw[List.length_take]at hkl;refine k_seq<|k_reg<|sL t_cmp<|s_nil<|xs_then<|k_seq<|k_cond (decide ((i:Int)<(l.length:Int))) (fun c6=>?_) (fun c6=>?_)
 .have p7:=dY c6;refine k_skip<|xs_then<|k_seq<|k_block<|k_seq<|k_reg<|sL (t_index ObT_ok Tryz.underlying55 (.zn hg.obs) (i:Int) i om ol om) ?_
  obtain⟨y8,hy9⟩:∃y,l[i]?=some y:=⟨_,List.getElem?_eq_getElem ol⟩;have hk10:=hg.each y8 (List.mem_of_getElem? hy9);refine sL (t_loadE ObT_ok (.zn hg.obs) hy9)<|s_alloc (.agg #[iw 0,iw 0,iw 0,nS,nS]) #[iw 0,iw 0,iw 0,nS,nS] (fun g11=>?_)
  refine s_store 0 #[iw y8.id,iw y8.size,iw y8.weak,y8.rv.v,y8.ev.v] ?_;refine s_nil<|xs_then<|k_seq<|k_draw<|sL (t_pure (pB g4 0))<|sL (t_pure (pB g4 0))<|sL (t_pure (pB g4 0))<|sL (t_load 2 (.map (some b2)))<|sL (t_pure (pB g11 0))<|sL (t_load 0 (iw y8.id))<|sL (t_loadA 0 #[iw y8.id,iw y8.size,iw y8.weak,y8.rv.v,y8.ev.v])<|s_update 4 intOk Tryz.underlying268 y8.id y8 ?_
  refine s_nil<|x_dynS (fun _ h=>by kernel_rfl) ?_
  refine xs_then<|k_seq<|k_reg<|sL (t_pure (pB g11 2))<|sL (t_load 0 (iw y8.weak))<|sL t_cmp<|s_nil<|xs_then<|k_cond (decide (y8.weak=1)) (fun c12=>?_) (fun c12=>?_)
  .have p13:=dY c12;refine k_draw<|sL (t_pure (pB g4 0))<|sL (t_pure (pB g4 0))<|sL (t_pure (pB g4 0))<|sL (t_pure (pB g4 2))<|sL (t_load 2 kx)<|sL (t_pure (pB g11 0))<|sL (t_load 0 (iw y8.id))<|s_buildSlice (e:=3) [(0,iw y8.id)] #[iw y8.id] (fun g14=>?_) (hb:=by kernel_rfl)
   refine s_append (L:=(keyed (l.take i))) 2 iTy_ok Tryz.underlying23 (.lit 0 iTy_ok [y8.id]) (by show _*8≤_;(try simp only[lnm]);omega) ol (fun v15=>?_);refine sL (t_pure (pB g4 0))<|sL (t_pure (pB g4 2))<|sF 2 (fun hf16=>?_)
   refine s_store (u:=v15) (m:=1) 3 #[.map (some b2),.map (some b3),v15] ?_ (hm:=by (obtain⟨_,_,e⟩:=hf16;rw[e];rfl)) (h1:=by (obtain⟨_,_,e⟩:=hf16;rw[e];rfl)) (ha':=by (obtain⟨_,_,e⟩:=hf16;rw[e];rfl));refine s_nil<|x_dynS (fun _ h=>by kernel_rfl) ?_
   refine xs_block<|xs_then<|k_reg<|sL (t_add (i:Int) 1 ol)<|sL (t_pure (iw ((i:Int)+1)))<|s_nil ?_
   rw[aset_at hs hy9,keyed_yes hy9 p13];exact xs_round (v15,i+1) (by show l.length-(i+1)<l.length-i;omega) (by show i+1≤l.length;omega) sA (rr [2,2,2,2,2] [5,5])
  have p17:=dF c12;refine k_skip<|xs_block<|xs_then<|k_reg<|sL (t_add (i:Int) 1 ol)<|sL (t_pure (iw ((i:Int)+1)))<|s_nil ?_
  rw[aset_at hs hy9,keyed_no hy9 p17];exact xs_round (kx,i+1) (by show l.length-(i+1)<l.length-i;omega) (by show i+1≤l.length;omega) sA (rr [1,1,1,1,1] [5])
 have p18:=dF c6;refine k_exit ?_;obtain rfl:i=l.length:=by omega
 have hkl2:=keyed_len l;rw[List.take_length];refine xs_exit<|xs_exit<|xs_here<|xs_then<|k_seq<|k_reg<|sL (t_pure (pB g4 0))<|sL (t_pure (pB g4 0))<|sL (t_pure (pB g4 2))<|sL (t_load 1 kx)<|sC [0] (sort_s (L:=(keyed l)) ol) ?_
 refine s_nil<|xs_then<|k_seq<|k_reg<|sL (t_pure (pB g4 0))<|sL (t_pure (pB g4 0))<|s_nil<|xs_then<|k_ret ?_
 exact xs_fin _ _ (SI.tmp 2 SI.nil) (fun _ h=>wmk_shut (by rw[srt_asc (keyed_asc hs)]at h;exact h.re [1,2,1,0] [4])) ⟨g4,rfl,rfl⟩
theorem wmark_s{Z:Zone}{F:List Asr}{b:Nat}{l:List Ob}{M0:List Int}(hO:∀x∈l,KnO Z x)(hp:pot l []≤100000000)(id:Int):SF Tryz.prog 252 #[.pointer (some ⟨b,0,none⟩),iw id] Z (wmkA 270 b l M0::F) fun r Bs=>r=.bool (decide (M0.length<(dfs l M0 [id]).length))∧Bs=wmkA 270 b l (dfs l M0 [id])::F:=by
 refine sf_enter Tryz.func252 72 [(0,.pointer (some ⟨b,0,none⟩)),(1,iw id)] (fun w0=>?_);refine k_mem3 (fun H h=>wmk_open (h.re [0] [])) (fun at1 mb2 kv3 hw=>?_);refine k_seq<|k_reg<|sL (t_pure (.bool false))<|s_nil<|xs_then<|k_seq<|k_reg<|sL (t_pure (iw id))<|s_buildSlice (e:=3) [(0,iw id)] #[iw id] (fun g4=>?_) (hb:=by kernel_rfl)
 refine sL (t_pure (.slice (some ⟨g4,0,none⟩) 1 1))<|s_nil<|xs_then<|k_seq<|k_reg<|sL (t_pure (.bool false))<|s_nil<|xs_then<|k_seq<|k_block<|k_mem (fun _ h=>Holds.slice 0 h iTy_ok [id]) ?_
 refine k_loop (ι:=Value×List Int×List Int×Bool) (fun (sx,M,W,fr)=>dfs l M0 [id]=dfs l M W∧M0.length≤M.length∧pot l M+W.length≤100000001∧fr=decide (M0.length<M.length)) (fun (sx,M,W,fr)=>[(0,.pointer (some ⟨b,0,none⟩)),(4,.bool false),(5,sx),(6,.bool fr)]) (fun (sx,M,W,fr)=>own iTy sx W::blkA b #[.map (some at1),.map (some mb2),kv3] 270::mpA (Go.Mem.intK 3) Ob.v at1 (atL l)::mpA (Go.Mem.intK 3) cV mb2 (mkL M)::own iTy kv3 (keyed l)::F) (fun (sx,M,W,fr)=>pot l M+W.length) ((.slice (some ⟨g4,0,none⟩) 1 1),M0,[id],false) ⟨rfl,Nat.le_refl _,by have:=pot_mono (M:=[]) (N:=M0) (by simp) l;simp;omega,(decide_eq_false (Nat.lt_irrefl _)).symm⟩ sA (rr [0,0,0,0,0] []) ?_;rintro⟨sx,M,W,fr⟩ hi5;replace hi5:dfs l M0 [id]=dfs l M W∧M0.length≤M.length∧pot l M+W.length≤100000001∧fr=decide (M0.length<M.length):=hi5;show SK _ _ _ _ _ [(0,.pointer (some ⟨b,0,none⟩)),(4,.bool false),(5,sx),(6,.bool fr)] _ (own iTy sx W::blkA b #[.map (some at1),.map (some mb2),kv3] 270::mpA (Go.Mem.intK 3) Ob.v at1 (atL l)::mpA (Go.Mem.intK 3) cV mb2 (mkL M)::own iTy kv3 (keyed l)::F);have hbnd:=hi5.2.2.1;refine k_seq<|k_seq<|k_reg<|sL (t_pure sx)<|sL (t_len iTy_ok Tryz.underlying23 (.own 0))<|sL t_cmp<|s_nil<|xs_then<|k_cond (decide ((0:Int)<(W.length:Int))) (fun c6=>?_) (fun c6=>?_)
 .have p7:=dY c6;refine k_skip<|xs_then<|k_block<|k_seq<|k_reg<|sL (t_pure sx)<|sL (t_pure sx)<|sL (t_len iTy_ok Tryz.underlying23 (.own 0))<|sL (t_sub (W.length:Int) 1 (by (try simp only[List.length_nil,List.length_cons,List.length_append,List.length_take,List.length_drop,List.length_set,List.length_replicate,List.length_reverse]);omega))<|sL (t_index iTy_ok Tryz.underlying23 (.own 0) ((W.length:Int)-1) (W.length-1) om (by (try simp only[List.length_nil,List.length_cons,List.length_append,List.length_take,List.length_drop,List.length_set,List.length_replicate,List.length_reverse]);omega) om) ?_
  obtain⟨y8,hy9⟩:∃y,W[(W.length-1)]?=some y:=⟨_,List.getElem?_eq_getElem (by (try simp only[List.length_nil,List.length_cons,List.length_append,List.length_take,List.length_drop,List.length_set,List.length_replicate,List.length_reverse]);omega)⟩;refine sL (t_loadE iTy_ok (.own 0) hy9)<|sL (t_pure (iw y8))<|s_nil<|xs_then<|k_seq<|k_reg<|sL (t_pure sx)<|sL (t_pure sx)<|sL (t_len iTy_ok Tryz.underlying23 (.own 0))<|sL (t_sub (W.length:Int) 1 (by (try simp only[lnm]);omega))<|sL (t_pre iTy_ok Tryz.underlying23 (.own 0) ((W.length:Int)-1) (W.length-1) om (by (try simp only[lnm]);omega) om)<|sL (t_pure (pre sx (W.length-1)))<|s_nil<|xs_then<|k_seq<|k_reg<|sL (t_pure (.pointer (some ⟨b,0,none⟩)))<|sL (t_pure (.pointer (some ⟨b,0,none⟩)))<|sL (t_pure (.pointer (some ⟨b,0,none⟩)))<|sL (t_load 1 (.map (some at1)))<|sL (t_pure (iw y8)) ?_
  rcases hf10:fnd l y8 with _|ob11
  .refine sL (Lt.to (v':=.tuple #[.agg #[iw 0,iw 0,iw 0,(.slice none 0 0),(.slice none 0 0)],.bool false]) (t_lookupOk 2 intOk Tryz.underlying268 (.agg #[iw 0,iw 0,iw 0,(.slice none 0 0),(.slice none 0 0)]) y8) (by rw[aget_at,hf10];rfl))<|sL (t_pure (.tuple #[.agg #[iw 0,iw 0,iw 0,(.slice none 0 0),(.slice none 0 0)],.bool false]))<|sL (t_pure (.agg #[iw 0,iw 0,iw 0,(.slice none 0 0),(.slice none 0 0)]))<|sL (t_pure (.bool false))<|s_alloc (.agg #[iw 0,iw 0,iw 0,(.slice none 0 0),(.slice none 0 0)]) #[iw 0,iw 0,iw 0,(.slice none 0 0),(.slice none 0 0)] (fun g12=>?_)
   refine s_store 0 #[iw 0,iw 0,iw 0,(.slice none 0 0),(.slice none 0 0)] ?_;refine sL (t_pure (.bool false))<|s_nil<|xs_then<|k_seq<|k_seq<|k_reg<|sL (t_pure (.bool false))<|sL (t_pure (.bool true))<|sL (t_pure (.bool true))<|sK<|sK<|sK<|sK<|sK<|sK<|sK<|sL (t_pure (.bool true))<|s_nil<|xs_then<|k_true<|k_exit<|xs_exit<|xs_here<|xs_mem (fun _ h=>Holds.pre (i:=1) h iTy_ok (W.length-1) rfl (by (try simp only[lnm]);omega)) ?_
   exact xs_round ((pre sx (W.length-1)),M,(W.take (W.length-1)),fr) (by show pot l M+(W.take (W.length-1)).length<pot l M+W.length;rw[List.length_take];omega) (by obtain⟨hi1,hi2,hi3,hi4⟩:=hi5;refine⟨(by rw[←snoc_of hy9]at hi1;rw[hi1];exact dfs_skip (.inl hf10)),hi2,by rw[List.length_take];omega,hi4⟩) sA (rr [1,1,1,1,1] [5])
  refine sL (Lt.to (v':=.tuple #[ob11.v,.bool true]) (t_lookupOk 2 intOk Tryz.underlying268 (.agg #[iw 0,iw 0,iw 0,(.slice none 0 0),(.slice none 0 0)]) y8) (by rw[aget_at,hf10];rfl)) ?_;have hk13:=hO ob11 (fnd_id hf10).2;refine sL (t_pure (.tuple #[.agg #[iw ob11.id,iw ob11.size,iw ob11.weak,ob11.rv.v,ob11.ev.v],.bool true]))<|sL (t_pure (.agg #[iw ob11.id,iw ob11.size,iw ob11.weak,ob11.rv.v,ob11.ev.v]))<|sL (t_pure (.bool true))<|s_alloc (.agg #[iw 0,iw 0,iw 0,(.slice none 0 0),(.slice none 0 0)]) #[iw 0,iw 0,iw 0,(.slice none 0 0),(.slice none 0 0)] (fun g14=>?_)
  refine s_store 0 #[iw ob11.id,iw ob11.size,iw ob11.weak,ob11.rv.v,ob11.ev.v] ?_;refine sL (t_pure (.bool true))<|s_nil<|xs_then<|k_seq<|k_seq<|k_reg<|sL (t_pure (.bool true))<|sL (t_pure (.bool false))<|sL (t_pure (.bool false))<|sL (t_pure (pB b 0))<|sL (t_pure (pB b 0))<|sL (t_pure (pB b 1))<|sL (t_load 2 (.map (some mb2)))<|sL (t_pure (iw y8))<|sL (Lt.to (v':=iw (mkI M y8)) (t_lookup 4 intOk Tryz.underlying89 (iw 0) y8) (got_mk _ _))<|sL t_cmp<|sL (t_pure (.bool (decide ((mkI M y8)≠0))))<|s_nil<|xs_then<|k_cond (decide ((mkI M y8)≠0)) (fun c15=>?_) (fun c15=>?_)
  .have p16:=dY c15;refine k_exit<|xs_exit<|xs_here<|xs_mem (fun _ h=>Holds.pre (i:=1) h iTy_ok (W.length-1) rfl (by (try simp only[lnm]);omega)) ?_
   exact xs_round ((pre sx (W.length-1)),M,(W.take (W.length-1)),fr) (by show pot l M+(W.take (W.length-1)).length<pot l M+W.length;rw[List.length_take];omega) (by obtain⟨hi1,hi2,hi3,hi4⟩:=hi5;refine⟨(by rw[←snoc_of hy9]at hi1;rw[hi1];exact dfs_skip (.inr (mkI_ne p16))),hi2,by rw[List.length_take];omega,hi4⟩) sA (rr [1,1,1,1,1] [5])
  have p17:=Decidable.not_not.1 (dF c15);refine k_skip<|xs_then<|k_seq<|k_reg<|sL (t_pure (pB b 0))<|sL (t_pure (pB b 0))<|sL (t_pure (pB b 1))<|sL (t_load 2 (.map (some mb2)))<|sL (t_pure (iw y8))<|s_update 4 intOk Tryz.underlying89 y8 (1:Int) ?_
  rw[aset_mk (mkI_eq p17)];have hmk:=p17;have hpa:=pot_add (mkI_eq p17) hf10;have hk0:=kept_pre ob11 0;refine s_nil<|xs_then<|k_seq<|k_reg<|sL (t_pure (.bool true))<|s_nil<|xs_then<|k_seq<|k_reg<|sL (t_pure (pre sx (W.length-1)))<|sL (t_pure (pB g14 3))<|sL (t_load 0 ob11.rv.v)<|s_mem (fun _ h=>Holds.pre (i:=1) h iTy_ok (W.length-1) rfl (by (try simp only[lnm]);omega)) ?_
  refine s_append (L:=(W.take (W.length-1))) 1 iTy_ok Tryz.underlying23 (.zn hk13.1) (by show _*8≤_;(try simp only[lnm]);omega) (by (try simp only[lnm]);omega) (fun v18=>?_);refine sL (t_pure v18)<|s_nil<|xs_then<|k_seq<|k_reg<|sL (t_pure (pB g14 4))<|sL (t_load 0 ob11.ev.v)<|sL (t_len EntT_ok Tryz.underlying98 (.zn hk13.2))<|sL (t_pure (iw 0))<|s_nil<|xs_then<|k_block<|k_fact (fun H h=>(hk13.2.get h).len_le) (fun le=>?_)
  rw[show (W.take (W.length-1))++ob11.refs=(W.take (W.length-1))++ob11.refs++(ob11.ents.take 0).flatMap (keptE ob11.weak) from (List.append_nil _).symm];refine k_loop (ι:=Value×Nat) (fun (sy,k)=>k≤ob11.ents.length) (fun (sy,k)=>[(0,.pointer (some ⟨b,0,none⟩)),(4,.bool false),(5,sy),(6,.bool true),(7,iw y8),(8,.pointer (some ⟨g14,0,none⟩)),(9,.bool true),(14,sx),(15,iw (W.length:Int)),(16,.bool (decide ((0:Int)<(W.length:Int)))),(17,sx),(18,sx),(19,iw (W.length:Int)),(20,iw ((W.length:Int)-1)),(21,.pointer (some (elemAt iTy.size sx (W.length-1)))),(22,iw y8),(23,sx),(24,sx),(25,iw (W.length:Int)),(26,iw ((W.length:Int)-1)),(27,(pre sx (W.length-1))),(28,.tuple #[.agg #[iw ob11.id,iw ob11.size,iw ob11.weak,ob11.rv.v,ob11.ev.v],.bool true]),(29,.pointer (some ⟨b,0,none⟩)),(30,.pointer (some ⟨b,0,none⟩)),(31,.pointer (some ⟨b,0,none⟩)),(32,.map (some at1)),(33,iw y8),(34,.tuple #[.agg #[iw ob11.id,iw ob11.size,iw ob11.weak,ob11.rv.v,ob11.ev.v],.bool true]),(35,.agg #[iw ob11.id,iw ob11.size,iw ob11.weak,ob11.rv.v,ob11.ev.v]),(36,.bool true),(37,.bool true),(38,.bool false),(39,.bool false),(40,.pointer (some ⟨b,0,none⟩)),(41,.pointer (some ⟨b,0,none⟩)),(42,.pointer (some ⟨b,1,none⟩)),(43,.map (some mb2)),(44,iw y8),(45,iw (mkI M y8)),(46,.bool (decide ((mkI M y8)≠0))),(47,.bool (decide ((mkI M y8)≠0))),(48,.pointer (some ⟨b,0,none⟩)),(49,.pointer (some ⟨b,0,none⟩)),(50,.pointer (some ⟨b,1,none⟩)),(51,.map (some mb2)),(52,iw y8),(53,(pre sx (W.length-1))),(54,.pointer (some ⟨g14,3,none⟩)),(55,ob11.rv.v),(56,v18),(57,.pointer (some ⟨g14,4,none⟩)),(58,ob11.ev.v),(59,iw (ob11.ents.length:Int)),(60,iw (k:Int))]) (fun (sy,k)=>blkA g14 #[iw ob11.id,iw ob11.size,iw ob11.weak,ob11.rv.v,ob11.ev.v] 100::own iTy sy ((W.take (W.length-1))++ob11.refs++(ob11.ents.take k).flatMap (keptE ob11.weak))::blkA b #[.map (some at1),.map (some mb2),kv3] 270::mpA (Go.Mem.intK 3) Ob.v at1 (atL l)::mpA (Go.Mem.intK 3) cV mb2 (mkL (M++[y8]))::own iTy kv3 (keyed l)::F) (fun (sy,k)=>ob11.ents.length-k) (v18,0) (Nat.zero_le _) sA (rr [0,0,0,0,0,0] []) ?_;rintro⟨sy,k⟩ hi19;replace hi19:k≤ob11.ents.length:=hi19;show SK _ _ _ _ _ [(0,.pointer (some ⟨b,0,none⟩)),(4,.bool false),(5,sy),(6,.bool true),(7,iw y8),(8,pB g14 0),(9,.bool true),(14,sx),(15,iw (W.length:Int)),(16,.bool (decide ((0:Int)<(W.length:Int)))),(17,sx),(18,sx),(19,iw (W.length:Int)),(20,iw ((W.length:Int)-1)),(21,.pointer (some (elemAt iTy.size sx (W.length-1)))),(22,iw y8),(23,sx),(24,sx),(25,iw (W.length:Int)),(26,iw ((W.length:Int)-1)),(27,(pre sx (W.length-1))),(28,.tuple #[.agg #[iw ob11.id,iw ob11.size,iw ob11.weak,ob11.rv.v,ob11.ev.v],.bool true]),(29,pB b 0),(30,pB b 0),(31,pB b 0),(32,.map (some at1)),(33,iw y8),(34,.tuple #[.agg #[iw ob11.id,iw ob11.size,iw ob11.weak,ob11.rv.v,ob11.ev.v],.bool true]),(35,.agg #[iw ob11.id,iw ob11.size,iw ob11.weak,ob11.rv.v,ob11.ev.v]),(36,.bool true),(37,.bool true),(38,.bool false),(39,.bool false),(40,pB b 0),(41,pB b 0),(42,pB b 1),(43,.map (some mb2)),(44,iw y8),(45,iw (mkI M y8)),(46,.bool (decide ((mkI M y8)≠0))),(47,.bool (decide ((mkI M y8)≠0))),(48,pB b 0),(49,pB b 0),(50,pB b 1),(51,.map (some mb2)),(52,iw y8),(53,(pre sx (W.length-1))),(54,pB g14 3),(55,ob11.rv.v),(56,v18),(57,pB g14 4),(58,ob11.ev.v),(59,iw (ob11.ents.length:Int)),(60,iw (k:Int))] _ (blkA g14 #[iw ob11.id,iw ob11.size,iw ob11.weak,ob11.rv.v,ob11.ev.v] 100::own iTy sy ((W.take (W.length-1))++ob11.refs++(ob11.ents.take k).flatMap (keptE ob11.weak))::blkA b #[.map (some at1),.map (some mb2),kv3] 270::mpA (Go.Mem.intK 3) Ob.v at1 (atL l)::mpA (Go.Mem.intK 3) cV mb2 (mkL (M++[y8]))::own iTy kv3 (keyed l)::F);have hkp:=kept_pre ob11 k;refine k_seq<|k_reg<|sL t_cmp<|s_nil<|xs_then<|k_seq<|k_cond (decide ((k:Int)<(ob11.ents.length:Int))) (fun c20=>?_) (fun c20=>?_)
  .have p21:=dY c20;refine k_skip<|xs_then<|k_seq<|k_block<|k_seq<|k_reg<|sL (t_index EntT_ok Tryz.underlying98 (.zn hk13.2) (k:Int) k om (by (try simp only[lnm]);omega) om) ?_
   obtain⟨y22,hy23⟩:∃y,ob11.ents[k]?=some y:=⟨_,List.getElem?_eq_getElem (by (try simp only[lnm]);omega)⟩;have hkq:=kept_pre1 hy23;refine sL (t_loadE EntT_ok (.zn hk13.2) hy23)<|s_alloc (.agg #[iw 0,iw 0]) #[iw 0,iw 0] (fun g24=>?_)
   refine s_store 0 #[iw y22.key,iw y22.val] ?_;refine s_nil<|xs_then<|k_reg<|sL (t_pure sy)<|sL (t_pure (pB g14 2))<|sL (t_load 1 (iw ob11.weak))<|sL (t_loadA 0 #[iw y22.key,iw y22.val])<|s_pcall (fun _ h=>wkept_s ob11.weak y22) ?_
   rintro v25 _ rfl;refine s_append (L:=((W.take (W.length-1))++ob11.refs++(ob11.ents.take k).flatMap (keptE ob11.weak))) 3 iTy_ok Tryz.underlying23 (.own 0) (by show _*8≤_;(try simp only[lnm]);omega) (by (try simp only[lnm]);omega) (fun v26=>?_);refine sL (t_pure v26)<|s_nil<|xs_block<|xs_then<|k_reg<|sL (t_add (k:Int) 1 (by (try simp only[lnm]);omega))<|sL (t_pure (iw ((k:Int)+1)))<|s_nil ?_
   rw[kept_step _ hy23];exact xs_round (v26,k+1) (by show ob11.ents.length-(k+1)<ob11.ents.length-k;omega) (by show k+1≤ob11.ents.length;omega) sA (rr [2,2,2,2,2,2] [6,6])
  have p27:=dF c20;refine k_exit ?_;obtain rfl:k=ob11.ents.length:=by omega
  rw[List.take_length,kept_all];refine xs_exit<|xs_exit<|xs_here<|xs_block ?_
  exact xs_round (sy,M++[y8],(W.take (W.length-1))++keptO ob11,true) (by show pot l (M++[y8])+((W.take (W.length-1))++keptO ob11).length<pot l M+W.length;rw[List.length_append,List.length_take];omega) (by obtain⟨hi1,hi2,hi3,hi4⟩:=hi5;refine⟨(by rw[←snoc_of hy9]at hi1;rw[hi1];exact dfs_new hf10 (mkI_eq hmk)),by rw[List.length_append];omega,by rw[List.length_append,List.length_take];omega,(decide_eq_true (by rw[List.length_append];show M0.length<M.length+1;omega)).symm⟩) sA (rr [1,1,1,1,1] [5])
 have p28:=dF c6;refine k_exit<|xs_exit<|xs_exit<|xs_here<|xs_then<|k_seq<|k_reg<|sL (t_pure (.bool fr))<|sL (t_pure (.bool fr))<|s_nil<|xs_then<|k_ret<|xs_mem (fun _ h=>wmk_shut (h.re [1,1,1,1] [])) ?_
 obtain⟨hi1,hi2,hi3,hi4⟩:=hi5;obtain rfl:W=[]:=List.eq_nil_of_length_eq_zero om;rw[dfs_nil]at hi1;refine xs_fin [.bool fr] (wmkA 270 b l M::F) (SI.tmp 4 SI.nil) (rr [0] [1]) ?_;rw[hi1,←hi4];exact⟨rfl,rfl⟩
end Go.Proofs.YtmhpcebiamkciaaGreat
end
section
set_option linter.unusedSimpArgs false
set_option linter.unusedVariables false
set_option maxRecDepth 100000
set_option maxHeartbeats 2000000
namespace Go.Proofs.YtmhpcebiamkciaaGreat
open Go.Hp Go.J Go.S
open Go.Mem (Ty KTy blk elemAt pre suf blk_pre blk_suf aget aset strK aggDesc)
open Go.Mem (adel apos aget_aset aget_adel)
theorem stepE_in{l:List Ob}{s:List Int×Bool}{e:Ent}(h:e.key∈s.1):stepE l s e=(dfs l s.1 [e.val],s.2||decide (s.1.length<(dfs l s.1 [e.val]).length)):=if_pos h
theorem stepE_out{l:List Ob}{s:List Int×Bool}{e:Ent}(h:e.key∉s.1):stepE l s e=s:=if_neg h
theorem stepT_in{l:List Ob}{s:List Int×Bool}{o:Ob}(h:o.id∈s.1):stepT l s o=o.ents.foldl (stepE l) s:=if_pos h
theorem stepT_out{l:List Ob}{s:List Int×Bool}{o:Ob}(h:o.id∉s.1):stepT l s o=s:=if_neg h
theorem wround_s{Z:Zone}{F:List Asr}{b:Nat}{l:List Ob}{M0:List Int}(hO:∀x∈l,KnO Z x)(hs:Asc l)(hl:l.length≤100000)(hp:pot l []≤100000000):SF Tryz.prog 253 #[.pointer (some ⟨b,0,none⟩)] Z (wmkA 270 b l M0::F) fun r Bs=>r=.bool (rnd l M0).2∧Bs=wmkA 270 b l (rnd l M0).1::F:=by
 refine sf_enter Tryz.func253 59 [(0,.pointer (some ⟨b,0,none⟩))] (fun w0=>?_);refine k_mem3 (fun H h=>wmk_open (h.re [0] [])) (fun at1 mb2 kv3 hw=>?_);refine k_seq<|k_reg<|sL (t_pure (.bool false))<|s_nil<|xs_then<|k_seq<|k_reg<|sL (t_pure (.bool false))<|s_nil<|xs_then<|k_seq<|k_seq<|k_reg<|sL (t_pure (.pointer (some ⟨b,0,none⟩)))<|sL (t_pure (.pointer (some ⟨b,0,none⟩)))<|sL (t_pure (.pointer (some ⟨b,2,none⟩)))<|sL (t_load 0 kv3)<|sL (t_len iTy_ok Tryz.underlying23 (.own 3))<|sL (t_pure (iw 0))<|s_nil<|xs_then<|k_block<|k_mem (fun _ h=>wmk_shut (h.re [0,0,0,0] [])) ?_
 refine k_loop (ι:=List Int×Bool×Nat) (fun (M,ch,i)=>i≤(tabs l).length∧(M,ch)=((tabs l).take i).foldl (stepT l) (M0,false)) (fun (M,ch,i)=>[(0,.pointer (some ⟨b,0,none⟩)),(2,.bool false),(3,.bool ch),(12,iw ((keyed l).length:Int)),(13,iw (i:Int))]) (fun (M,ch,i)=>wmkA 270 b l M::F) (fun (M,ch,i)=>(tabs l).length-i) (M0,false,0) ⟨Nat.zero_le _,rfl⟩ sA (rr [0] []) ?_;rintro⟨M,ch,i⟩ hi4;replace hi4:i≤(tabs l).length∧(M,ch)=((tabs l).take i).foldl (stepT l) (M0,false):=hi4;show SK _ _ _ _ _ [(0,.pointer (some ⟨b,0,none⟩)),(2,.bool false),(3,.bool ch),(12,iw ((keyed l).length:Int)),(13,iw (i:Int))] _ (wmkA 270 b l M::F);have hkt:=keyed_tabs l;have hkl:=keyed_len l;refine k_seq<|k_reg<|sL t_cmp<|s_nil<|xs_then<|k_seq<|k_cond (decide ((i:Int)<((keyed l).length:Int))) (fun c5=>?_) (fun c5=>?_)
 .have p6:=dY c5;refine k_skip<|xs_then<|k_seq<|k_block<|k_seq<|k_reg<|sL (t_pure (iw (i:Int)))<|sL (t_pure (iw (i:Int)))<|s_nil<|xs_then<|k_seq<|k_reg<|sL (t_pure (.pointer (some ⟨b,0,none⟩)))<|sL (t_pure (pB b 0))<|sL (t_pure (pB b 2))<|s_mem3 (fun H h=>wmk_open (h.re [0] [])) (fun at7 mb8 kv9 hw=>?_)
  refine sL (t_load 0 kv9)<|sL (t_pure (iw (i:Int)))<|sL (t_index iTy_ok Tryz.underlying23 (.own 3) (i:Int) i om (by (try simp only[List.length_nil,List.length_cons,List.length_append,List.length_take,List.length_drop,List.length_set,List.length_replicate,List.length_reverse]);omega) om) ?_
  obtain⟨y10,hy11⟩:∃y,(keyed l)[i]?=some y:=⟨_,List.getElem?_eq_getElem (by (try simp only[lnm]);omega)⟩;obtain⟨ob12,ht13,ht14,ht15,ht16,ht17⟩:=keyed_get hs hy11;have hk18:=hO ob12 ht17;refine sL (t_loadE iTy_ok (.own 3) hy11)<|sL (t_pure (iw y10))<|s_nil<|xs_then<|k_seq<|k_seq<|k_reg<|sL (t_pure (pB b 0))<|sL (t_pure (pB b 0))<|sL (t_pure (pB b 1))<|sL (t_load 0 (.map (some mb8)))<|sL (t_pure (iw y10))<|sL (Lt.to (v':=iw (mkI M y10)) (t_lookup 2 intOk Tryz.underlying89 (iw 0) y10) (got_mk _ _))<|sL t_cmp<|s_nil<|xs_then<|k_cond (decide ((mkI M y10)=0)) (fun c19=>?_) (fun c19=>?_)
  .have p20:=dY c19;refine k_exit<|xs_exit<|xs_here<|xs_then<|k_reg<|sL (t_add (i:Int) 1 (by (try simp only[lnm]);omega))<|sL (t_pure (iw ((i:Int)+1)))<|s_nil<|xs_mem (fun _ h=>wmk_shut (h.re [0,0,0,0] [])) ?_
   exact xs_round (M,ch,i+1) (by show (tabs l).length-(i+1)<(tabs l).length-i;omega) (by obtain⟨hi1,hi2⟩:=hi4;refine⟨by omega,?_⟩;rw[fold_take ht13,←hi2];exact (stepT_out (by rw[ht14];exact mkI_eq p20)).symm) sA (rr [0] [])
  have p21:=dF c19;refine k_skip<|xs_then<|k_seq<|k_reg<|sL (t_pure (pB b 0))<|sL (t_pure (pB b 0))<|sL (t_pure (pB b 0))<|sL (t_load 0 (.map (some at7)))<|sL (t_pure (iw y10))<|sL (Lt.to (v':=ob12.v) (t_lookup 1 intOk Tryz.underlying268 (.agg #[iw 0,iw 0,iw 0,(.slice none 0 0),(.slice none 0 0)]) y10) (by rw[aget_at,ht16];rfl))<|sL (t_pure ob12.ev.v)<|sL (t_len EntT_ok Tryz.underlying98 (.zn hk18.2))<|sL (t_pure (iw 0))<|s_nil<|xs_then<|k_block<|k_mem (fun _ h=>wmk_shut (h.re [0,0,0,0] [])) ?_
  refine k_fact (fun H h=>(hk18.2.get h).len_le) (fun le=>?_);refine k_loop (ι:=List Int×Bool×Nat) (fun (N,ci,k)=>k≤ob12.ents.length∧(N,ci)=(ob12.ents.take k).foldl (stepE l) (M,ch)) (fun (N,ci,k)=>[(0,.pointer (some ⟨b,0,none⟩)),(2,.bool false),(3,.bool ci),(4,iw (i:Int)),(5,iw y10),(12,iw ((keyed l).length:Int)),(13,iw (i:Int)),(14,.bool (decide ((i:Int)<((keyed l).length:Int)))),(15,iw (i:Int)),(16,.pointer (some ⟨b,0,none⟩)),(17,.pointer (some ⟨b,0,none⟩)),(18,.pointer (some ⟨b,2,none⟩)),(19,kv9),(20,iw (i:Int)),(21,.pointer (some (elemAt iTy.size kv9 i))),(22,iw y10),(23,.pointer (some ⟨b,0,none⟩)),(24,.pointer (some ⟨b,0,none⟩)),(25,.pointer (some ⟨b,1,none⟩)),(26,.map (some mb8)),(27,iw y10),(28,iw (mkI M y10)),(29,.bool (decide ((mkI M y10)=0))),(30,.pointer (some ⟨b,0,none⟩)),(31,.pointer (some ⟨b,0,none⟩)),(32,.pointer (some ⟨b,0,none⟩)),(33,.map (some at7)),(34,iw y10),(35,.agg #[iw ob12.id,iw ob12.size,iw ob12.weak,ob12.rv.v,ob12.ev.v]),(36,ob12.ev.v),(37,iw (ob12.ents.length:Int)),(38,iw (k:Int))]) (fun (N,ci,k)=>wmkA 270 b l N::F) (fun (N,ci,k)=>ob12.ents.length-k) (M,ch,0) ⟨Nat.zero_le _,rfl⟩ sA (rr [0] []) ?_;rintro⟨N,ci,k⟩ hi24;replace hi24:k≤ob12.ents.length∧(N,ci)=(ob12.ents.take k).foldl (stepE l) (M,ch):=hi24;show SK _ _ _ _ _ [(0,.pointer (some ⟨b,0,none⟩)),(2,.bool false),(3,.bool ci),(4,iw (i:Int)),(5,iw y10),(12,iw ((keyed l).length:Int)),(13,iw (i:Int)),(14,.bool (decide ((i:Int)<((keyed l).length:Int)))),(15,iw (i:Int)),(16,.pointer (some ⟨b,0,none⟩)),(17,.pointer (some ⟨b,0,none⟩)),(18,.pointer (some ⟨b,2,none⟩)),(19,kv9),(20,iw (i:Int)),(21,.pointer (some (elemAt iTy.size kv9 i))),(22,iw y10),(23,.pointer (some ⟨b,0,none⟩)),(24,.pointer (some ⟨b,0,none⟩)),(25,pB b 1),(26,.map (some mb8)),(27,iw y10),(28,iw (mkI M y10)),(29,.bool (decide ((mkI M y10)=0))),(30,pB b 0),(31,pB b 0),(32,pB b 0),(33,.map (some at7)),(34,iw y10),(35,.agg #[iw ob12.id,iw ob12.size,iw ob12.weak,ob12.rv.v,ob12.ev.v]),(36,ob12.ev.v),(37,iw (ob12.ents.length:Int)),(38,iw (k:Int))] _ (wmkA 270 b l N::F);refine k_seq<|k_reg<|sL t_cmp<|s_nil<|xs_then<|k_seq<|k_cond (decide ((k:Int)<(ob12.ents.length:Int))) (fun c25=>?_) (fun c25=>?_)
  .have p26:=dY c25;refine k_skip<|xs_then<|k_seq<|k_block<|k_seq<|k_reg<|sL (t_index EntT_ok Tryz.underlying98 (.zn hk18.2) (k:Int) k om (by (try simp only[lnm]);omega) om) ?_
   obtain⟨y27,hy28⟩:∃y,ob12.ents[k]?=some y:=⟨_,List.getElem?_eq_getElem (by (try simp only[lnm]);omega)⟩;refine sL (t_loadE EntT_ok (.zn hk18.2) hy28)<|s_alloc (.agg #[iw 0,iw 0]) #[iw 0,iw 0] (fun g29=>?_)
   refine s_store 0 #[iw y27.key,iw y27.val] ?_;refine s_nil<|xs_then<|k_seq<|k_draw<|sL (t_pure (pB b 0))<|sL (t_pure (pB b 0))<|sL (t_pure (pB b 1))<|s_mem3 (fun H h=>wmk_open (h.re [1] [])) (fun at30 mb31 kv32 hw=>?_)
   refine sL (t_load 0 (.map (some mb31)))<|sL (t_pure (pB g29 0))<|sL (t_load 4 (iw y27.key))<|sL (Lt.to (v':=iw (mkI N y27.key)) (t_lookup 2 intOk Tryz.underlying89 (iw 0) y27.key) (got_mk _ _))<|sL t_cmp<|sL (t_pure (.bool (decide ((mkI N y27.key)≠0))))<|s_fork 50 (decide ((mkI N y27.key)≠0)) (fun c33=>?_) (fun c33=>?_)
   .have p34:=dY c33;refine sL (t_pure (pB b 0))<|sL (t_pure (pB g29 1))<|sL (t_load 4 (iw y27.val))<|s_mem (fun _ h=>wmk_shut (h.re [0,0,0,0] [])) ?_
    refine sC [0] (wmark_s hO hp y27.val) ?_;refine sL (t_pure (.bool (decide (N.length<(dfs l N [y27.val]).length))))<|s_nil<|x_dynS (fun _ h=>by kernel_rfl) ?_
    refine xs_then<|k_cond (decide (N.length<(dfs l N [y27.val]).length)) (fun c35=>?_) (fun c35=>?_)
    .have p36:=dY c35;refine k_reg<|sL (t_pure (.bool true))<|s_nil<|xs_block<|xs_then<|k_reg<|sL (t_add (k:Int) 1 (by (try simp only[lnm]);omega))<|sL (t_pure (iw ((k:Int)+1)))<|s_nil ?_
     exact xs_round ((dfs l N [y27.val]),true,k+1) (by show ob12.ents.length-(k+1)<ob12.ents.length-k;omega) (by obtain⟨hi1,hi2⟩:=hi24;refine⟨by omega,?_⟩;rw[fold_take hy28,←hi2];rw[stepE_in (mkI_ne p34)];rw[decide_eq_true p36,Bool.or_true]) sA (rr [0] [1])
    have p37:=dF c35;refine k_skip<|xs_block<|xs_then<|k_reg<|sL (t_add (k:Int) 1 (by (try simp only[lnm]);omega))<|sL (t_pure (iw ((k:Int)+1)))<|s_nil ?_
    exact xs_round ((dfs l N [y27.val]),ci,k+1) (by show ob12.ents.length-(k+1)<ob12.ents.length-k;omega) (by obtain⟨hi1,hi2⟩:=hi24;refine⟨by omega,?_⟩;rw[fold_take hy28,←hi2];rw[stepE_in (mkI_ne p34)];rw[decide_eq_false p37,Bool.or_false]) sA (rr [0] [1])
   have p38:=Decidable.not_not.1 (dF c33);refine sK<|sK<|sK<|sK<|sL (t_pure (.bool false))<|s_nil<|x_dynS (fun _ h=>by kernel_rfl) ?_
   refine xs_then<|k_false<|k_skip<|xs_block<|xs_then<|k_reg<|sL (t_add (k:Int) 1 (by (try simp only[lnm]);omega))<|sL (t_pure (iw ((k:Int)+1)))<|s_nil<|xs_mem (fun _ h=>wmk_shut (h.re [0,0,0,0] [])) ?_
   exact xs_round (N,ci,k+1) (by show ob12.ents.length-(k+1)<ob12.ents.length-k;omega) (by obtain⟨hi1,hi2⟩:=hi24;refine⟨by omega,?_⟩;rw[fold_take hy28,←hi2];exact (stepE_out (mkI_eq p38)).symm) sA (rr [0] [1])
  have p39:=dF c25;refine k_exit ?_;obtain rfl:k=ob12.ents.length:=by omega
  refine xs_exit<|xs_exit<|xs_here<|xs_block<|xs_then<|k_reg<|sL (t_add (i:Int) 1 (by (try simp only[lnm]);omega))<|sL (t_pure (iw ((i:Int)+1)))<|s_nil ?_
  exact xs_round (N,ci,i+1) (by show (tabs l).length-(i+1)<(tabs l).length-i;omega) (by obtain⟨hi1,hi2⟩:=hi4;refine⟨by omega,?_⟩;rw[fold_take ht13,←hi2];rw[stepT_in (by rw[ht14];exact mkI_ne p21)];rw[←fold_end (Nat.le_refl _)];exact hi24.2) sA (rr [0] [])
 have p40:=dF c5;refine k_exit<|xs_exit<|xs_exit<|xs_here<|xs_then<|k_seq<|k_reg<|sL (t_pure (.bool ch))<|sL (t_pure (.bool ch))<|s_nil<|xs_then<|k_ret ?_
 have hend:(M,ch)=rnd l M0:=by rw[hi4.2,fold_end om];rfl
 refine xs_fin [.bool ch] (wmkA 270 b l M::F) (SI.tmp 2 SI.nil) (rr [0] []) ?_;rw[←hend];exact⟨rfl,rfl⟩
theorem wrun_s{rv:Value}{R:List Int}{Z:Zone}{F:List Asr}{b:Nat}{l:List Ob}(hO:∀x∈l,KnO Z x)(hs:Asc l)(hl:l.length≤100000)(hp:pot l []≤100000000)(hR:Kn Z iTy rv R):SF Tryz.prog 214 #[.pointer (some ⟨b,0,none⟩),rv] Z (wmkA 270 b l []::F) fun r Bs=>r=iw ((allPG l R).2:Int)∧Bs=wmkA 270 b l (allPG l R).1::F:=by
 refine sf_enter Tryz.func214 23 [(0,.pointer (some ⟨b,0,none⟩)),(1,rv)] (fun w0=>?_);refine k_fact (fun H h=>(hR.get h).len_le) (fun lR=>?_);refine k_seq<|k_reg<|sL (t_pure (iw 0))<|s_nil<|xs_then<|k_seq<|k_seq<|k_reg<|sL (t_pure rv)<|sL (t_len iTy_ok Tryz.underlying23 (.zn hR))<|sL (t_pure (iw 0))<|s_nil<|xs_then<|k_block<|k_loop (ι:=Nat) (fun i=>i≤R.length) (fun i=>[(0,.pointer (some ⟨b,0,none⟩)),(4,iw 0),(8,rv),(9,iw (R.length:Int)),(10,iw (i:Int))]) (fun i=>wmkA 270 b l (rootsP l [] (R.take i))::F) (fun i=>R.length-i) 0 (Nat.zero_le _) sA (rr [0] []) ?_
 rintro i hi1;show SK _ _ _ _ _ [(0,.pointer (some ⟨b,0,none⟩)),(4,iw 0),(8,rv),(9,iw (R.length:Int)),(10,iw (i:Int))] _ (wmkA 270 b l (rootsP l [] (R.take i))::F);refine k_seq<|k_reg<|sL t_cmp<|s_nil<|xs_then<|k_seq<|k_cond (decide ((i:Int)<(R.length:Int))) (fun c2=>?_) (fun c2=>?_)
 .have p3:=dY c2;refine k_skip<|xs_then<|k_seq<|k_block<|k_seq<|k_reg<|sL (t_index iTy_ok Tryz.underlying23 (.zn hR) (i:Int) i om (by (try simp only[List.length_nil,List.length_cons,List.length_append,List.length_take,List.length_drop,List.length_set,List.length_replicate,List.length_reverse]);omega) om) ?_
  obtain⟨y4,hy5⟩:∃y,R[i]?=some y:=⟨_,List.getElem?_eq_getElem (by (try simp only[List.length_nil,List.length_cons,List.length_append,List.length_take,List.length_drop,List.length_set,List.length_replicate,List.length_reverse]);omega)⟩;refine sL (t_loadE iTy_ok (.zn hR) hy5)<|sL (t_pure (iw y4))<|s_nil<|xs_then<|k_reg<|sL (t_pure (.pointer (some ⟨b,0,none⟩)))<|sL (t_pure (iw y4))<|sC [0] (wmark_s hO hp y4) ?_
  refine s_nil<|xs_block<|xs_then<|k_reg<|sL (t_add (i:Int) 1 (by (try simp only[List.length_nil,List.length_cons,List.length_append,List.length_take,List.length_drop,List.length_set,List.length_replicate,List.length_reverse]);omega))<|sL (t_pure (iw ((i:Int)+1)))<|s_nil ?_
  rw[show dfs l (rootsP l [] (R.take i)) [y4]=rootsP l [] (R.take (i+1)) from (fold_take (f:=fun M id=>dfs l M [id]) hy5).symm];exact xs_round (i+1) om (by show i+1≤R.length;omega) sA (rr [0] [])
 have p6:=dF c2;refine k_exit<|xs_exit<|xs_exit<|xs_here<|xs_then<|k_seq<|k_reg<|sL (t_pure (iw 1))<|s_nil<|xs_then<|k_seq<|k_block ?_
 obtain rfl:i=R.length:=by omega
 rw[List.take_length];refine k_loop (ι:=Nat×List Int×Nat) (fun (k,M,n)=>allPG l R=runs l k (M,n)∧Good l M∧l.length+1≤k+M.length∧n+k=l.length+2) (fun (k,M,n)=>[(0,.pointer (some ⟨b,0,none⟩)),(4,iw 0),(7,iw (n:Int))]) (fun (k,M,n)=>wmkA 270 b l M::F) (fun (k,M,n)=>k) (l.length+1,rootsP l [] R,1) ⟨rfl,(good_nil l).roots R,by omega,by omega⟩ sA (rr [0] []) ?_;rintro⟨k,M,n⟩ hi7;replace hi7:allPG l R=runs l k (M,n)∧Good l M∧l.length+1≤k+M.length∧n+k=l.length+2:=hi7;show SK _ _ _ _ _ [(0,.pointer (some ⟨b,0,none⟩)),(4,iw 0),(7,iw (n:Int))] _ (wmkA 270 b l M::F);have hgl:=hi7.2.1.len;have hbk:=hi7.2.2;refine k_seq<|k_seq<|k_reg<|sL (t_pure (pB b 0))<|sC [0] (wround_s hO hs hl hp) ?_
 refine s_nil<|xs_then<|k_cond ((rnd l M).2) (fun c8=>?_) (fun c8=>?_)
 .refine k_skip<|xs_then<|k_block<|k_reg<|sL (t_pure (iw (n:Int)))<|sL (t_add (n:Int) 1 (by (try simp only[lnm]);omega))<|sL (t_pure (iw ((n:Int)+1)))<|s_nil<|xs_block ?_
  exact xs_round (k-1,(rnd l M).1,n+1) (by show k-1<k;omega) (by obtain⟨hi1,hi2,hi3,hi4⟩:=hi7;obtain⟨k,rfl⟩:∃j,k=j+1:=⟨k-1,by omega⟩;have hf:=c8;rw[rnd_flag,decide_eq_true_eq]at hf;refine⟨hi1.trans (runs_step c8),(step_r l M).good hi2,?_,?_⟩<;>simp only[Nat.add_sub_cancel]<;>omega) sA (rr [0] [])
 refine k_exit<|xs_exit<|xs_exit<|xs_here<|xs_then<|k_seq<|k_reg<|sL (t_pure (iw (n:Int)))<|sL (t_pure (iw (n:Int)))<|s_nil<|xs_then<|k_ret ?_
 have hend:allPG l R=((rnd l M).1,n):=by obtain⟨hi1,hi2,hi3,hi4⟩:=hi7;obtain⟨k,rfl⟩:∃j,k=j+1:=⟨k-1,by omega⟩;exact hi1.trans (runs_end c8)
 refine xs_fin [iw (n:Int)] (wmkA 270 b l ((rnd l M).1)::F) (SI.tmp 4 SI.nil) (rr [0] []) ?_;rw[hend];exact⟨rfl,rfl⟩
theorem walive_s{Z:Zone}{F:List Asr}{b:Nat}{l:List Ob}{M:List Int}(hlM:M.length≤1000000):SF Tryz.prog 215 #[.pointer (some ⟨b,0,none⟩)] Z (wmkA 270 b l M::F) fun r Bs=>Bs=own iTy r (srt M)::wmkA 270 b l M::F:=by
 refine sf_enter Tryz.func215 25 [(0,.pointer (some ⟨b,0,none⟩))] (fun w0=>?_);refine k_mem3 (fun H h=>wmk_open (h.re [0] [])) (fun at1 mb2 kv3 hw=>?_);refine k_seq<|k_reg<|sL (t_pure (.slice none 0 0))<|s_nil<|xs_then<|k_seq<|k_reg<|sL (t_pure (.slice none 0 0))<|s_nil<|xs_then<|k_seq<|k_seq<|k_reg<|sL (t_pure (.pointer (some ⟨b,0,none⟩)))<|sL (t_pure (.pointer (some ⟨b,0,none⟩)))<|sL (t_pure (.pointer (some ⟨b,1,none⟩)))<|sL (t_load 0 (.map (some mb2)))<|s_range 2 Tryz.underlying89 (fun r4=>?_)
 refine s_nil<|xs_then<|k_block<|k_mem (fun _ h=>Holds.nilS (T:=iTy) h) ?_
 rw[show ([]:List Int)=([]:List (Int×Int)).map Prod.fst from rfl];refine k_loop (ι:=Value×List (Int×Int)) (fun (sx,dn)=>dn.length≤(mkL M).length) (fun (sx,dn)=>[(2,(.slice none 0 0)),(3,sx),(10,.pointer (some ⟨r4,0,none⟩))]) (fun (sx,dn)=>own iTy sx (dn.map Prod.fst)::blkA b #[.map (some at1),.map (some mb2),kv3] 270::mpA (Go.Mem.intK 3) Ob.v at1 (atL l)::rgA (Go.Mem.intK 3) cV mb2 r4 (mkL M) dn::own iTy kv3 (keyed l)::F) (fun (sx,dn)=>(mkL M).length-dn.length) (.slice none 0 0,[]) (Nat.zero_le _) sA (rr [0,0,0,0,0] []) ?_;rintro⟨sx,dn⟩ hi5;replace hi5:dn.length≤(mkL M).length:=hi5;show SK _ _ _ _ _ [(2,nS),(3,sx),(10,pB r4 0)] _ (own iTy sx (dn.map Prod.fst)::blkA b #[.map (some at1),.map (some mb2),kv3] 270::mpA (Go.Mem.intK 3) Ob.v at1 (atL l)::rgA (Go.Mem.intK 3) cV mb2 r4 (mkL M) dn::own iTy kv3 (keyed l)::F);have hml:(mkL M).length=M.length:=List.length_map _;have hdl:(dn.map Prod.fst).length=dn.length:=List.length_map _;refine k_seq<|k_reg<|s_next 3 (fun hd6=>?_) (fun ky7 u8 hm9 hn10 hd11=>?_)
 .refine sL (t_pure (.bool false))<|s_nil<|xs_then<|k_seq<|k_false<|k_exit<|xs_mem (fun _ h=>Holds.unrange 3 h) ?_
  refine xs_exit<|xs_exit<|xs_here<|xs_then<|k_seq<|k_reg<|sL (t_pure sx)<|sC [0] (sort_s (L:=(dn.map Prod.fst)) ol) ?_
  refine s_nil<|xs_then<|k_seq<|k_reg<|sL (t_pure sx)<|sL (t_pure sx)<|s_nil<|xs_then<|k_ret<|xs_mem (fun _ h=>wmk_shut (h.re [1,1,1,1] [])) ?_
  have hsr:srt (dn.map Prod.fst)=srt M:=srt_perm (by have:=hd6.map Prod.fst;simpa [mkL,List.map_map,Function.comp_def]using this);rw[hsr];exact xs_fin _ _ (SI.tmp 2 SI.nil) (rr [1,0] []) rfl
 obtain rfl:u8=1:=by have:=hm9;simp only[mkL,List.mem_map]at this;obtain⟨_,_,e⟩:=this;exact (Prod.mk.inj e).2.symm
 refine sL (t_pure (.bool true))<|s_nil<|xs_then<|k_seq<|k_true<|k_skip<|xs_then<|k_block<|k_seq<|k_reg<|sL (t_entry 3)<|sL (t_pure (iw ky7))<|sL (t_pure (iw 1))<|sL (t_pure (iw ky7))<|sL (t_pure (iw 1))<|s_nil<|xs_then<|k_seq<|k_reg<|sL (t_pure (iw 1))<|sL (t_cmp (c:=true))<|s_nil<|xs_then<|k_true<|k_reg<|sL (t_pure sx)<|sL (t_pure (iw ky7))<|s_buildSlice (e:=3) [(0,iw ky7)] #[iw ky7] (fun g12=>?_) (hb:=by kernel_rfl)
 refine s_append (L:=(dn.map Prod.fst)) 1 iTy_ok Tryz.underlying23 (.lit 0 iTy_ok [ky7]) (by show _*8≤_;(try simp only[lnm]);omega) ol (fun v13=>?_);refine sL (t_pure v13)<|s_nil<|xs_block ?_
 rw[show dn.map Prod.fst++[ky7]=(dn++[(ky7,(1:Int))]).map Prod.fst by simp];exact xs_round (v13,dn++[(ky7,1)]) (by show (mkL M).length-(dn++[(ky7,(1:Int))]).length<(mkL M).length-dn.length;rw[List.length_append];have:=hd11;simp only[List.length_singleton];omega) (by show (dn++[(ky7,(1:Int))]).length≤(mkL M).length;rw[List.length_append];have:=hd11;simp only[List.length_singleton];omega) sA (rr [1,1,1,1,1] [5])
theorem errI_ok{b:Bool}(h:errI b=0):b=true:=by cases b<;>simp_all[errI]
theorem errI_bad{b:Bool}(h:errI b≠0):b=false:=by cases b<;>simp_all[errI]
def aliveP(l:List Ob)(R:List Int):List Int:=if chk 0 l=true then srt (allPG l R).1 else []
theorem aliveP_ok{l:List Ob}{R:List Int}(h:chk 0 l=true):aliveP l R=srt (allPG l R).1:=if_pos h
theorem aliveP_bad{l:List Ob}{R:List Int}(h:chk 0 l=false):aliveP l R=[]:=if_neg (by simp[h])
theorem Alive_s{Z:Zone}{ov rv:Value}{l:List Ob}{R:List Int}(hg:KnG Z ov rv l R)(hl:l.length≤100000)(hp:pot l []≤100000000):SF Tryz.prog 174 #[.agg #[ov,rv]] Z [] fun r Bs=>∃v,r=.tuple #[v,iw (errI (chk 0 l))]∧Bs=[own iTy v (aliveP l R)]:=by
 refine sf_enter Tryz.func174 19 [(0,.agg #[ov,rv])] (fun w0=>?_);refine k_seq<|k_reg<|s_box #[ov,rv] (fun g1=>?_)
 refine sL (t_pure nS)<|sL (t_pure (iw 0))<|s_nil<|xs_then<|k_seq<|k_seq<|k_reg<|sL (t_loadA 0 #[ov,rv])<|sV (fun _ h=>wcheck_s (hg.up h))<|sL (t_pure (iw (errI (chk 0 l))))<|s_nil<|xs_then<|k_seq<|k_reg<|sL (t_pure (iw (errI (chk 0 l))))<|sL t_cmp<|s_nil<|xs_then<|k_cond (decide ((errI (chk 0 l))≠0)) (fun c2=>?_) (fun c2=>?_)
 .have p3:=dY c2;have hc:=errI_bad p3;refine k_seq<|k_reg<|sL (t_pure (iw (errI (chk 0 l))))<|sL (t_pure nS)<|sL (t_pure (iw (errI (chk 0 l))))<|s_nil<|xs_then<|k_ret<|xs_ret ?_
  exact xs_fin [nS,iw (errI (chk 0 l))] [own iTy nS []] (SI.tmp 2 (SI.tmp 3 SI.nil)) (fun _ h=>h.nilS.re [0] [1]) ⟨_,rfl,by rw[aliveP_bad hc]⟩
 have p4:=Decidable.not_not.1 (dF c2);have hc:=errI_ok p4;have hs:=chk_asc hc;refine k_skip<|xs_then<|k_seq<|k_reg<|sL (t_loadA 0 #[ov,rv])<|s_pcall (fun _ h=>newMarker_s (hg.up h) hs hl) ?_
 rintro _ _ ⟨b5,rfl,rfl⟩;refine sL (t_pure (pB b5 0))<|s_nil<|xs_then<|k_seq<|k_reg<|sL (t_pure (pB b5 0))<|sL (t_pure (pB g1 1))<|sL (t_load 1 rv)<|sC [0] (wrun_s hg.each hs hl hp hg.roots) ?_
 refine s_nil<|xs_then<|k_seq<|k_reg<|sL (t_pure (pB b5 0))<|s_call [0] (walive_s (M:=(allPG l R).1) (by have:=(allP_good l R).len;omega)) ?_
 rintro v6 _ rfl;refine sF 0 (fun hf7=>?_);refine sL (t_pure v6)<|sL (t_pure (iw 0))<|s_nil<|xs_then<|k_ret<|xs_fin [v6,iw 0] [own iTy v6 (srt (allPG l R).1)] (SI.tmp 2 (SI.tmp 3 SI.nil)) (rr [0] [1,1]) ⟨v6,by rw[hc];rfl,by rw[aliveP_ok hc]⟩
end Go.Proofs.YtmhpcebiamkciaaGreat
end
section
namespace Go.Proofs
open Go.Shelf
def Tryz.laysFind_ren:Go.Shelf.Ren:=⟨fun|25=>255|31=>224|32=>268|37=>261|n=>n,fun|22=>23|3=>3|4=>4|40=>217|0=>0|n=>n,fun|n=>n⟩
theorem Tryz.laysFind : Go.Proofs.Lays2.n25 Tryz.prog Tryz.laysFind_ren := {
  mixed := by kernel_rfl
  f25 := Tryz.func255.trans (congrArg some (by kernel_rfl))
  f31 := Tryz.func224.trans (congrArg some (by kernel_rfl))
  f32 := Tryz.func268.trans (congrArg some (by kernel_rfl))
  f37 := Tryz.func261.trans (congrArg some (by kernel_rfl))
  t0 := Tryz.underlying0
  a0 := Tryz.isAgg0
  z0 := Tryz.sizeOf0
  v0 := Tryz.zeroValue0
  t3 := Tryz.underlying3
  a3 := Tryz.isAgg3
  z3 := Tryz.sizeOf3
  v3 := Tryz.zeroValue3
  t4 := Tryz.underlying4
  a4 := Tryz.isAgg4
  z4 := Tryz.sizeOf4
  v4 := Tryz.zeroValue4
  t22 := Tryz.underlying23
  a22 := Tryz.isAgg23
  z22 := Tryz.sizeOf23
  v22 := Tryz.zeroValue23
  t40 := Tryz.underlying217
  a40 := Tryz.isAgg217
  z40 := Tryz.sizeOf217
  v40 := Tryz.zeroValue217 }
namespace YtmhpcebiamkciaaGreat
open Go.Hp Go.J Go.S
theorem find_s{Z:Zone}{v:Value}{L:List Int}(x:Int)(hk:Kn Z iTy v L)(hl:L.length<4611686018427387904)(hp:L.Pairwise (· ≤ ·)):SF Tryz.prog 255 #[v,iw x] Z [] fun r Bs=>r=.tuple #[iw (L.countP (· < x):Nat),.bool (decide (x∈L))]∧Bs=[]:=
 sf_find x hk hl hp (fun b off n c zs x w h1 h2 h3 h4=>Any.slices_BinarySearch_int Tryz.laysFind b off n c zs x w h1 h2 h3 h4) (fun a c x w=>Any.slices_BinarySearch_int_empty Tryz.laysFind a c x w)
end YtmhpcebiamkciaaGreat
end Go.Proofs
end
section
set_option linter.unusedSimpArgs false
set_option linter.unusedVariables false
set_option maxRecDepth 100000
set_option maxHeartbeats 2000000
namespace Go.Proofs.YtmhpcebiamkciaaGreat
open Go.Hp Go.J Go.S
open Go.Mem (Ty KTy blk elemAt pre suf blk_pre blk_suf aget aset strK aggDesc)
open Go.Mem (adel apos aget_aset aget_adel)
abbrev Core:=Int×Int×Int×List Int×List Ent
def AllO(L:List Ob)(H:Heap):Prop:=∀x∈L,Sl H iTy x.rv.v x.refs∧Sl H EntT x.ev.v x.ents
theorem frz_push{Z:Zone}{As:List Asr}{H:Heap}{L:List Ob}(nb:Ob)(h:Holds Z (own iTy nb.rv.v nb.refs::own EntT nb.ev.v nb.ents::frz (AllO L)::As) H):Holds Z (frz (AllO (L++[nb]))::As) H:=by
 have h1:Holds Z (own EntT nb.ev.v nb.ents::frz (AllO L)::own iTy nb.rv.v nb.refs::As) H:=h.re [1,1] [];have h2:=h1.frzO;have h3:Holds Z (own iTy nb.rv.v nb.refs::frz (fun H=>Sl H EntT nb.ev.v nb.ents∧AllO L H)::As) H:=h2.re [1] [];refine h3.frzO.frzM fun H ⟨a,b,c⟩ x hx=>?_
 rcases List.mem_append.1 hx with hx|hx
 .exact c x hx
 simp at hx;subst hx;exact⟨a,b⟩
def cobj(st:Hst)(id:Int):Core:=(hoId st id,hoSz st id,hoWk st id 0,hrefs st id,hents st id)
end Go.Proofs.YtmhpcebiamkciaaGreat
end
section
set_option linter.unusedSimpArgs false
set_option linter.unusedVariables false
set_option maxRecDepth 100000
set_option maxHeartbeats 2000000
namespace Go.Proofs.YtmhpcebiamkciaaGreat
open Go.Hp Go.J Go.S
open Go.Mem (Ty KTy blk elemAt pre suf blk_pre blk_suf aget aset strK aggDesc)
open Go.Mem (adel apos aget_aset aget_adel)
theorem live_len(l:List Ob)(M:List Int):(liveG l M).length≤l.length:=by unfold liveG;rw[List.length_map];exact List.length_filter_le _ _
def aliveR(l:List Ob)(R:List Int):List Int:=if chk 0 l=true then liveG l (allR l R).1 else []
theorem aliveR_ok{l:List Ob}{R:List Int}(h:chk 0 l=true):aliveR l R=liveG l (allR l R).1:=if_pos h
theorem aliveR_bad{l:List Ob}{R:List Int}(h:chk 0 l=false):aliveR l R=[]:=if_neg (by simp[h])
theorem alive_eq(l:List Ob)(R:List Int):aliveP l R=aliveR l R:=by
 cases h:chk 0 l with
 | false=>rw[aliveP_bad h,aliveR_bad h]
 | true=>rw[aliveP_ok h,aliveR_ok h,srt_live (chk_asc h) (allP_good l R)];exact live_eqv (all_same l R).1
theorem alive_asc(l:List Ob)(R:List Int):(aliveR l R).Pairwise (· < ·):=by
 cases h:chk 0 l with
 | false=>rw[aliveR_bad h];exact List.Pairwise.nil
 | true=>rw[aliveR_ok h];exact live_asc (chk_asc h) _
theorem alive_len(l:List Ob)(R:List Int):(aliveR l R).length≤l.length:=by
 cases h:chk 0 l with
 | false=>rw[aliveR_bad h];exact Nat.zero_le _
 | true=>rw[aliveR_ok h];exact live_len l _
def lostB(A:List Int)(id:Int):Bool:=decide (id≠0)&&!decide (id∈A)
def keepB(A:List Int)(weak:Int)(e:Ent):Bool:= !(((decide (weak=1)||decide (weak=3))&&lostB A e.key)||((decide (weak=2)||decide (weak=3))&&lostB A e.val))
def ascA(last:Int):List Int→Bool
 | []=>true
 | a::r=>decide (last<a)&&ascA a r
theorem ascA_drop{last:Int}{L:List Int}{i:Nat}{y:Int}(hy:L[i]?=some y):ascA last (L.drop i)=(decide (last<y)&&ascA y (L.drop (i+1))):=by
 have h:L.drop i=y::L.drop (i+1):=by
  obtain⟨hi,e⟩:=List.getElem?_eq_some_iff.1 hy;rw[←e];exact List.drop_eq_getElem_cons hi
 rw[h];rfl
theorem ascA_lt{last:Int}{L:List Int}(h:ascA last L=true):∀x∈L,last<x:=by
 induction L generalizing last with
 | nil=>simp
 | cons a r ih=>
  simp only[ascA,Bool.and_eq_true,decide_eq_true_eq]at h;intro x hx;rcases List.mem_cons.1 hx with rfl|hx
  .exact h.1
  have:=ih h.2 x hx;omega
theorem ascA_asc{last:Int}{L:List Int}(h:ascA last L=true):L.Pairwise (· < ·):=by
 induction L generalizing last with
 | nil=>exact .nil
 | cons a r ih=>
  simp only[ascA,Bool.and_eq_true,decide_eq_true_eq]at h;exact List.pairwise_cons.2 ⟨ascA_lt h.2,ih h.2⟩
theorem ascA_of{last:Int}{L:List Int}(h:L.Pairwise (· < ·))(h0:∀x∈L,last<x):ascA last L=true:=by
 induction L generalizing last with
 | nil=>rfl
 | cons a r ih=>
  obtain⟨h1,h2⟩:=List.pairwise_cons.1 h;simp only[ascA,Bool.and_eq_true,decide_eq_true_eq];exact⟨h0 a (by simp),ih h2 h1⟩
def clr(A:List Int)(x:Ob):Core:=(x.id,x.size,x.weak,x.refs,x.ents.filter (keepB A x.weak))
theorem gr_shut{Z:Zone}{As:List Asr}{H:Heap}{ov rv:Value}{L:List Ob}{R:List Int}(h:Holds Z (own ObT ov L::own iTy rv R::frz (AllO L)::As) H):Holds Z (frz (GrA ov rv L R)::As) H:=by
 have h1:Holds Z (own iTy rv R::frz (AllO L)::own ObT ov L::As) H:=h.re [1,1] [];have h3:Holds Z (own ObT ov L::frz (fun H=>Sl H iTy rv R∧AllO L H)::As) H:=(h1.frzO).re [1] [];exact h3.frzO.frzM fun H ⟨a,b,c⟩=>⟨a,b,c⟩
theorem gr_nil{Z:Zone}{As:List Asr}{H:Heap}(h:Holds Z As H):Holds Z (frz (GrA (.slice none 0 0) (.slice none 0 0) [] [])::As) H:=
 h.frz0 fun H=>⟨Sl.nil _ _,Sl.nil _ _,fun x hx=>by cases hx⟩
theorem filt_yes{p:Ent→Bool}{L:List Ent}{k:Nat}{e:Ent}(h:L[k]?=some e)(hp:p e=true):(L.take k).filter p++[e]=(L.take (k+1)).filter p:=by
 rw[List.take_add_one,h];simp[List.filter_append,hp]
theorem filt_no{p:Ent→Bool}{L:List Ent}{k:Nat}{e:Ent}(h:L[k]?=some e)(hp:p e=false):(L.take k).filter p=(L.take (k+1)).filter p:=by
 rw[List.take_add_one,h];simp[List.filter_append,hp]
theorem map_snoc{α β γ:Type}{g:β→γ}{L:List α}{M:List β}{i:Nat}{y:α}{z:β}{γ':α→γ}(hy:L[i]?=some y)(h:M.map g=(L.take i).map γ')(hz:g z=γ' y):(M++[z]).map g=(L.take (i+1)).map γ':=by
 rw[List.take_add_one,hy,List.map_append,List.map_append,h];simp[hz]
theorem lost_s{Z:Zone}{av:Value}{A:List Int}(hA:Kn Z iTy av A)(hs:A.Pairwise (· < ·))(hl:A.length≤1000000)(id:Int):SF Tryz.prog 217 #[av,iw id] Z [] fun r Bs=>r=.bool (lostB A id)∧Bs=[]:=by
 refine sf_enter Tryz.func217 19 [(0,av),(1,iw id)] (fun w0=>?_);refine k_seq<|k_reg<|sL (t_pure (.bool false))<|s_nil<|xs_then<|k_seq<|k_reg<|sL (t_pure av)<|sL (t_pure (iw id))<|sV (fun _ h=>find_s id (Acc.kn (.zn hA) h) om (hs.imp fun h=>by omega))<|sL (t_pure (.tuple #[iw (A.countP (· < id):Nat),.bool (decide (id∈A))]))<|sL (t_pure (iw (A.countP (· < id):Nat)))<|sL (t_pure (.bool (decide (id∈A))))<|sL (t_pure (iw (A.countP (· < id):Nat)))<|sL (t_pure (.bool (decide (id∈A))))<|s_nil<|xs_then<|k_cut (ι:=Unit) (fun _=>True) (fun _=>[(4,.bool ((decide (id≠0))&&(!(decide (id∈A)))))]) (fun _=>[]) ?_ (fun _ _=>?_)
 .refine k_reg<|sL (t_pure (iw id))<|sL t_cmp<|sL (t_pure (.bool (decide (id≠0))))<|s_fork 15 (decide (id≠0)) (fun c1=>?_) (fun c1=>?_)
  .have p2:=dY c1;refine sL (t_pure (.bool (decide (id∈A))))<|sL (t_pure (.bool (!(decide (id∈A)))))<|sL (t_pure (.bool (!(decide (id∈A)))))<|sL (t_pure (.bool (!(decide (id∈A)))))<|s_nil ?_
   exact xs_cut () trivial (sub_of rfl ⟨⟨rfl,cB (by simp[c1])⟩,trivial⟩) (rr [] [])
  have p3:=Decidable.not_not.1 (dF c1);refine sK<|sK<|sL (t_pure (.bool false))<|sL (t_pure (.bool false))<|s_nil ?_
  exact xs_cut () trivial (sub_of rfl ⟨⟨rfl,cB (by simp[c1])⟩,trivial⟩) (rr [] [])
 refine k_ret ?_;exact xs_fin _ _ (SI.tmp 4 SI.nil) (rr [] []) ⟨cB (by unfold lostB;simp[]),rfl⟩
theorem Clear_s{Z:Zone}{ov rv:Value}{l:List Ob}{R:List Int}(hg:KnG Z ov rv l R){av:Value}{A:List Int}(hA:Kn Z iTy av A)(hlA:A.length≤100000)(hl:l.length≤100000)(hr:R.length≤100000)(hsm:∀o∈l,o.refs.length≤400∧o.ents.length≤100000):SF Tryz.prog 177 #[.agg #[ov,rv],av] Z [] fun r Bs=>∃ov' rv' l' R',r=.tuple #[.agg #[ov',rv'],iw (errI (chk 0 l&&ascA 0 A))]∧l'.map Ob.c=(if (chk 0 l&&ascA 0 A)=true then l.map (clr A) else [])∧R'=(if (chk 0 l&&ascA 0 A)=true then R else [])∧Bs=[frz (GrA ov' rv' l' R')]:=by
 refine sf_enter Tryz.func177 105 [(0,.agg #[ov,rv]),(1,av)] (fun w0=>?_);refine k_seq<|k_reg<|s_box #[ov,rv] (fun g1=>?_)
 refine s_alloc (.agg #[(.slice none 0 0),(.slice none 0 0)]) #[(.slice none 0 0),(.slice none 0 0)] (fun g2=>?_);refine sL (t_pure (iw 0))<|s_nil<|xs_then<|k_seq<|k_seq<|k_reg<|sL (t_loadA 1 #[ov,rv])<|sV (fun _ h=>wcheck_s (hg.up h))<|sL (t_pure (iw (errI (chk 0 l))))<|s_nil<|xs_then<|k_seq<|k_reg<|sL (t_pure (iw (errI (chk 0 l))))<|sL t_cmp<|s_nil<|xs_then<|k_cond (decide ((errI (chk 0 l))≠0)) (fun c3=>?_) (fun c3=>?_)
 .have p4:=dY c3;have hc:=errI_bad p4;refine k_seq<|k_reg<|sL (t_kern (.agg #[(.slice none 0 0),(.slice none 0 0)]))<|sL (t_pure (iw (errI (chk 0 l))))<|s_store 0 #[(.slice none 0 0),(.slice none 0 0)] ?_
  refine sL (t_pure (iw (errI (chk 0 l))))<|s_nil<|xs_then<|k_ret<|xs_ret ?_
  have hA0:(chk 0 l&&ascA 0 A)=false:=by rw[hc];rfl
  refine xs_fin [.agg #[(.slice none 0 0),(.slice none 0 0)],iw (errI (chk 0 l))] [frz (GrA (.slice none 0 0) (.slice none 0 0) [] [])] (SI.agg 4 57 0 (SI.tmp 5 SI.nil)) (fun _ h=>(gr_nil h).re [0] [1,1]) ⟨_,_,[],[],by rw[hA0,hc];rfl,by rw[hA0];rfl,by rw[hA0];rfl,rfl⟩
 have p5:=Decidable.not_not.1 (dF c3);have hc:=errI_ok p5;have hs:=chk_asc hc;refine k_skip<|xs_then<|k_seq<|k_reg<|sL (t_pure (iw 0))<|s_nil<|xs_then<|k_seq<|k_seq<|k_reg<|sL (t_pure av)<|sL (t_len iTy_ok Tryz.underlying23 (.zn hA))<|sL (t_pure (iw 0))<|s_nil<|xs_then<|k_block<|k_loop (ι:=Int×Nat) (fun (last,i)=>i≤A.length∧ascA 0 A=ascA last (A.drop i)∧0≤last) (fun (last,i)=>[(1,av),(2,.pointer (some ⟨g1,0,none⟩)),(4,.pointer (some ⟨g2,0,none⟩)),(5,iw 0),(7,iw last),(24,av),(25,iw (A.length:Int)),(26,iw (i:Int))]) (fun (last,i)=>[blkA g2 #[(.slice none 0 0),(.slice none 0 0)] 57,blkA g1 #[ov,rv] 57]) (fun (last,i)=>A.length-i) (0,0) ⟨Nat.zero_le _,rfl,Int.le_refl _⟩ sA (rr [0,0] []) ?_
 rintro⟨last,i⟩ hi6;replace hi6:i≤A.length∧ascA 0 A=ascA last (A.drop i)∧0≤last:=hi6;show SK _ _ _ _ _ [(1,av),(2,.pointer (some ⟨g1,0,none⟩)),(4,.pointer (some ⟨g2,0,none⟩)),(5,iw 0),(7,iw last),(24,av),(25,iw (A.length:Int)),(26,iw (i:Int))] _ [blkA g2 #[(.slice none 0 0),(.slice none 0 0)] 57,blkA g1 #[ov,rv] 57];refine k_seq<|k_reg<|sL t_cmp<|s_nil<|xs_then<|k_seq<|k_cond (decide ((i:Int)<(A.length:Int))) (fun c7=>?_) (fun c7=>?_)
 .have p8:=dY c7;refine k_skip<|xs_then<|k_seq<|k_block<|k_seq<|k_reg<|sL (t_index iTy_ok Tryz.underlying23 (.zn hA) (i:Int) i om (by (try simp only[List.length_nil,List.length_cons,List.length_append,List.length_take,List.length_drop,List.length_set,List.length_replicate,List.length_reverse]);omega) om) ?_
  obtain⟨y9,hy10⟩:∃y,A[i]?=some y:=⟨_,List.getElem?_eq_getElem (by (try simp only[List.length_nil,List.length_cons,List.length_append,List.length_take,List.length_drop,List.length_set,List.length_replicate,List.length_reverse]);omega)⟩;refine sL (t_loadE iTy_ok (.zn hA) hy10)<|sL (t_pure (iw y9))<|s_nil<|xs_then<|k_seq<|k_seq<|k_reg<|sL (t_pure (iw y9))<|sL (t_pure (iw last))<|sL t_cmp<|s_nil<|xs_then<|k_cond (decide (y9≤last)) (fun c11=>?_) (fun c11=>?_)
  .have p12:=dY c11;refine k_seq<|k_reg<|sL (t_kern (.agg #[(.slice none 0 0),(.slice none 0 0)]))<|s_store 0 #[(.slice none 0 0),(.slice none 0 0)] ?_
   refine sL (t_pure (iw 2))<|s_nil<|xs_then<|k_ret<|xs_ret<|xs_retBlock<|xs_ret<|xs_ret<|xs_retBlock<|xs_ret ?_
   have hA0:(chk 0 l&&ascA 0 A)=false:=by rw[hi6.2.1,ascA_drop hy10,decide_eq_false (p:=last<y9) om];simp
   refine xs_fin [.agg #[(.slice none 0 0),(.slice none 0 0)],iw 2] [frz (GrA (.slice none 0 0) (.slice none 0 0) [] [])] (SI.agg 4 57 0 (SI.tmp 5 SI.nil)) (fun _ h=>(gr_nil h).re [0] [1,1]) ⟨_,_,[],[],by rw[hA0];rfl,by rw[hA0];rfl,by rw[hA0];rfl,rfl⟩
  have p13:=dF c11;refine k_skip<|xs_then<|k_reg<|sL (t_pure (iw y9))<|sL (t_pure (iw y9))<|s_nil<|xs_block<|xs_then<|k_reg<|sL (t_add (i:Int) 1 (by (try simp only[lnm]);omega))<|sL (t_pure (iw ((i:Int)+1)))<|s_nil ?_
  exact xs_round (y9,i+1) (by show A.length-(i+1)<A.length-i;omega) (by obtain⟨hi1,hi2,hi3⟩:=hi6;have hd:=ascA_drop (last:=last) hy10;refine⟨by omega,?_,by omega⟩;rw[hi2,hd,decide_eq_true om];rfl) sA (rr [0,0] [])
 have p14:=dF c7;refine k_exit<|xs_exit<|xs_exit<|xs_here<|xs_then<|k_seq<|k_reg<|sL (t_pure (pB g1 1))<|sL (t_load 1 rv)<|s_pcall (fun _ h=>clone_s (Acc.kn (.zn hg.roots) h) (by (try simp only[lnm]);omega)) ?_
 rintro v15 _ rfl;refine sF 0 (fun hf16=>?_);refine sL (show Lt _ _ _ _ _ (.agg #[(.slice none 0 0),v15]) from by obtain⟨_,_,e⟩:=hf16;rw[e];clear e;exact t_kern _)<|s_alloc (.agg #[(.slice none 0 0),(.slice none 0 0)]) #[(.slice none 0 0),(.slice none 0 0)] (fun g17=>?_)
 refine s_store (u:=.agg #[(.slice none 0 0),v15]) (m:=2) 0 #[(.slice none 0 0),v15] ?_ (hm:=by (obtain⟨_,_,e0⟩:=hf16;rw[e0];rfl)) (h1:=by (obtain⟨_,_,e0⟩:=hf16;rw[e0];rfl)) (ha':=by (obtain⟨_,_,e0⟩:=hf16;rw[e0];rfl));refine s_nil<|xs_then<|k_seq<|k_seq<|k_reg<|sL (t_pure (pB g1 0))<|sL (t_load 3 ov)<|sL (t_len ObT_ok Tryz.underlying55 (.zn hg.obs))<|sL (t_pure (iw 0))<|s_nil<|xs_then<|k_block ?_
 have hA1:ascA 0 A=true:=by rw[hi6.2.1,List.drop_of_length_le om];rfl
 have hA2:=ascA_asc hA1;skip;refine k_mem (fun _ h=>Holds.nilS (T:=ObT) (h.frz0 (F:=AllO []) (by intro _ x hx;cases hx))) ?_;refine k_loop (ι:=Value×List Ob×Nat) (fun (ox,N,j)=>j≤l.length∧N.map Ob.c=(l.take j).map (clr A)) (fun (ox,N,j)=>[(1,av),(4,.pointer (some ⟨g2,0,none⟩)),(5,iw 0),(10,.pointer (some ⟨g17,0,none⟩)),(41,ov),(42,iw (l.length:Int)),(43,iw (j:Int))]) (fun (ox,N,j)=>[own ObT ox N,frz (AllO N),blkA g17 #[ox,v15] 57,own iTy v15 R,blkA g2 #[(.slice none 0 0),(.slice none 0 0)] 57,blkA g1 #[ov,rv] 57]) (fun (ox,N,j)=>l.length-j) (.slice none 0 0,[],0) ⟨Nat.zero_le _,rfl⟩ sA (rr [0,0,0,0,0,0] []) ?_;rintro⟨ox,N,j⟩ hi18;replace hi18:j≤l.length∧N.map Ob.c=(l.take j).map (clr A):=hi18;show SK _ _ _ _ _ [(1,av),(4,.pointer (some ⟨g2,0,none⟩)),(5,iw 0),(10,.pointer (some ⟨g17,0,none⟩)),(41,ov),(42,iw (l.length:Int)),(43,iw (j:Int))] _ [own ObT ox N,frz (AllO N),blkA g17 #[ox,v15] 57,own iTy v15 R,blkA g2 #[(.slice none 0 0),(.slice none 0 0)] 57,blkA g1 #[ov,rv] 57];have hNl:N.length=j:=by have:=congrArg List.length hi18.2;simp only[List.length_map,List.length_take]at this;omega
 refine k_seq<|k_reg<|sL t_cmp<|s_nil<|xs_then<|k_seq<|k_cond (decide ((j:Int)<(l.length:Int))) (fun c19=>?_) (fun c19=>?_)
 .have p20:=dY c19;refine k_skip<|xs_then<|k_seq<|k_block<|k_seq<|k_reg<|sL (t_index ObT_ok Tryz.underlying55 (.zn hg.obs) (j:Int) j om (by (try simp only[lnm]);omega) om) ?_
  obtain⟨y21,hy22⟩:∃y,l[j]?=some y:=⟨_,List.getElem?_eq_getElem (by (try simp only[lnm]);omega)⟩;have hk23:=hg.each y21 (List.mem_of_getElem? hy22);have hsy:=hsm y21 (List.mem_of_getElem? hy22);refine sL (t_loadE ObT_ok (.zn hg.obs) hy22)<|s_alloc (.agg #[iw 0,iw 0,iw 0,(.slice none 0 0),(.slice none 0 0)]) #[iw 0,iw 0,iw 0,(.slice none 0 0),(.slice none 0 0)] (fun g24=>?_)
  refine s_store 0 #[iw y21.id,iw y21.size,iw y21.weak,y21.rv.v,y21.ev.v] ?_;refine s_nil<|xs_then<|k_seq<|k_reg<|sL (t_pure (pB g24 3))<|sL (t_load 0 y21.rv.v)<|s_pcall (fun _ h=>clone_s (Acc.kn (.zn hk23.1) h) (by (try simp only[lnm]);omega)) ?_
  rintro v25 _ rfl;refine sF 0 (fun hf26=>?_);refine sL (t_pure (pB g24 3))<|s_store (u:=v25) (m:=1) 1 #[iw y21.id,iw y21.size,iw y21.weak,v25,y21.ev.v] ?_ (hm:=by (obtain⟨_,_,e0⟩:=hf26;rw[e0];rfl)) (h1:=by (obtain⟨_,_,e0⟩:=hf26;rw[e0];rfl)) (ha':=by (obtain⟨_,_,e0⟩:=hf26;rw[e0];rfl))
  refine s_nil<|xs_then<|k_seq<|k_reg<|sL (t_pure (.slice none 0 0))<|s_nil<|xs_then<|k_seq<|k_seq<|k_reg<|sL (t_pure (pB g24 4))<|sL (t_load 1 y21.ev.v)<|sL (t_len EntT_ok Tryz.underlying98 (.zn hk23.2))<|sL (t_pure (iw 0))<|s_nil<|xs_then<|k_block<|k_mem (fun _ h=>Holds.nilS (T:=EntT) h) ?_
  refine k_mem (Bs:=[own EntT nS ((y21.ents.take 0).filter (keepB A y21.weak)),own iTy v25 y21.refs,blkA g24 #[iw y21.id,iw y21.size,iw y21.weak,v25,y21.ev.v] 100,own ObT ox N,frz (AllO N),blkA g17 #[ox,v15] 57,own iTy v15 R,blkA g2 #[nS,nS] 57,blkA g1 #[ov,rv] 57]) (fun _ h=>h) ?_;refine k_loop (ι:=Value×Nat) (fun (sy,k)=>k≤y21.ents.length) (fun (sy,k)=>[(1,av),(4,.pointer (some ⟨g2,0,none⟩)),(5,iw 0),(10,.pointer (some ⟨g17,0,none⟩)),(12,.pointer (some ⟨g24,0,none⟩)),(13,sy),(41,ov),(42,iw (l.length:Int)),(43,iw (j:Int)),(44,.bool (decide ((j:Int)<(l.length:Int)))),(45,.pointer (some (elemAt ObT.size ov j))),(46,.agg #[iw y21.id,iw y21.size,iw y21.weak,y21.rv.v,y21.ev.v]),(47,.pointer (some ⟨g24,3,none⟩)),(48,y21.rv.v),(49,v25),(50,.pointer (some ⟨g24,3,none⟩)),(51,.pointer (some ⟨g24,4,none⟩)),(52,y21.ev.v),(53,iw (y21.ents.length:Int)),(54,iw (k:Int))]) (fun (sy,k)=>[own EntT sy ((y21.ents.take k).filter (keepB A y21.weak)),own iTy v25 y21.refs,blkA g24 #[iw y21.id,iw y21.size,iw y21.weak,v25,y21.ev.v] 100,own ObT ox N,frz (AllO N),blkA g17 #[ox,v15] 57,own iTy v15 R,blkA g2 #[nS,nS] 57,blkA g1 #[ov,rv] 57]) (fun (sy,k)=>y21.ents.length-k) (.slice none 0 0,0) (Nat.zero_le _) sA (rr [0,0,0,0,0,0,0,0,0] []) ?_;rintro⟨sy,k⟩ hi27;replace hi27:k≤y21.ents.length:=hi27;show SK _ _ _ _ _ [(1,av),(4,.pointer (some ⟨g2,0,none⟩)),(5,iw 0),(10,.pointer (some ⟨g17,0,none⟩)),(12,.pointer (some ⟨g24,0,none⟩)),(13,sy),(41,ov),(42,iw (l.length:Int)),(43,iw (j:Int)),(44,.bool (decide ((j:Int)<(l.length:Int)))),(45,.pointer (some (elemAt ObT.size ov j))),(46,.agg #[iw y21.id,iw y21.size,iw y21.weak,y21.rv.v,y21.ev.v]),(47,.pointer (some ⟨g24,3,none⟩)),(48,y21.rv.v),(49,v25),(50,.pointer (some ⟨g24,3,none⟩)),(51,.pointer (some ⟨g24,4,none⟩)),(52,y21.ev.v),(53,iw (y21.ents.length:Int)),(54,iw (k:Int))] _ [own EntT sy ((y21.ents.take k).filter (keepB A y21.weak)),own iTy v25 y21.refs,blkA g24 #[iw y21.id,iw y21.size,iw y21.weak,v25,y21.ev.v] 100,own ObT ox N,frz (AllO N),blkA g17 #[ox,v15] 57,own iTy v15 R,blkA g2 #[nS,nS] 57,blkA g1 #[ov,rv] 57];have hfl:=List.length_filter_le (keepB A y21.weak) (y21.ents.take k);rw[List.length_take]at hfl;refine k_seq<|k_reg<|sL t_cmp<|s_nil<|xs_then<|k_seq<|k_cond (decide ((k:Int)<(y21.ents.length:Int))) (fun c28=>?_) (fun c28=>?_)
  .have p29:=dY c28;refine k_skip<|xs_then<|k_seq<|k_block<|k_seq<|k_reg<|sL (t_index EntT_ok Tryz.underlying98 (.zn hk23.2) (k:Int) k om (by (try simp only[lnm]);omega) om) ?_
   obtain⟨y30,hy31⟩:∃y,y21.ents[k]?=some y:=⟨_,List.getElem?_eq_getElem (by (try simp only[lnm]);omega)⟩;refine sL (t_loadE EntT_ok (.zn hk23.2) hy31)<|s_alloc (.agg #[iw 0,iw 0]) #[iw 0,iw 0] (fun g32=>?_)
   refine s_store 0 #[iw y30.key,iw y30.val] ?_;refine s_nil<|xs_then<|k_cut (ι:=Unit) (fun _=>True) (fun _=>[(1,av),(4,.pointer (some ⟨g2,0,none⟩)),(5,iw 0),(10,.pointer (some ⟨g17,0,none⟩)),(12,.pointer (some ⟨g24,0,none⟩)),(13,sy),(15,.pointer (some ⟨g32,0,none⟩)),(16,.bool ((decide (y21.weak=1))||(decide (y21.weak=3)))),(41,ov),(42,iw (l.length:Int)),(43,iw (j:Int)),(44,.bool (decide ((j:Int)<(l.length:Int)))),(45,.pointer (some (elemAt ObT.size ov j))),(46,.agg #[iw y21.id,iw y21.size,iw y21.weak,y21.rv.v,y21.ev.v]),(47,.pointer (some ⟨g24,3,none⟩)),(48,y21.rv.v),(49,v25),(50,.pointer (some ⟨g24,3,none⟩)),(51,.pointer (some ⟨g24,4,none⟩)),(52,y21.ev.v),(53,iw (y21.ents.length:Int)),(54,iw (k:Int)),(55,.bool (decide ((k:Int)<(y21.ents.length:Int)))),(56,.pointer (some (elemAt EntT.size y21.ev.v k))),(57,.agg #[iw y30.key,iw y30.val]),(58,.pointer (some ⟨g24,2,none⟩)),(59,iw y21.weak),(60,.bool (decide (y21.weak=1))),(61,.bool (decide (y21.weak=1))),(65,.bool ((decide (y21.weak=1))||(decide (y21.weak=3))))]) (fun _=>[blkA g32 #[iw y30.key,iw y30.val] 167,own EntT sy ((y21.ents.take k).filter (keepB A y21.weak)),own iTy v25 y21.refs,blkA g24 #[iw y21.id,iw y21.size,iw y21.weak,v25,y21.ev.v] 100,own ObT ox N,frz (AllO N),blkA g17 #[ox,v15] 57,own iTy v15 R,blkA g2 #[nS,nS] 57,blkA g1 #[ov,rv] 57]) ?_ (fun _ _=>?_)
   .refine k_reg<|sL (t_pure (pB g24 2))<|sL (t_load 3 (iw y21.weak))<|sL t_cmp<|sL (t_pure (.bool (decide (y21.weak=1))))<|s_fork 61 (decide (y21.weak=1)) (fun c33=>?_) (fun c33=>?_)
    .have p34:=dY c33;refine sK<|sK<|sK<|sL (t_pure (.bool true))<|sL (t_pure (.bool true))<|s_nil ?_
     exact xs_cut () trivial (sub_of rfl (rQ (rQ (rQ (rQ (rQ (rQ (rQ ⟨⟨rfl,show Value.bool true=Value.bool ((decide (y21.weak=1))||(decide (y21.weak=3))) by first|(simp only[c33,bls];done)|simp[c33]⟩,(rQ (rQ (rQ (rQ (rQ (rQ (rQ (rQ (rQ (rQ (rQ (rQ (rQ (rQ (rQ (rQ (rQ (rQ (rQ (rQ ⟨⟨rfl,show Value.bool true=Value.bool (decide (y21.weak=1)) by first|(simp only[c33,bls];done)|simp[c33]⟩,⟨⟨rfl,show Value.bool true=Value.bool ((decide (y21.weak=1))||(decide (y21.weak=3))) by first|(simp only[c33,bls];done)|simp[c33]⟩,trivial⟩⟩))))))))))))))))))))⟩)))))))) (rr [0,0,0,0,0,0,0,0,0,0] [])
    have p35:=dF c33;refine sL (t_pure (pB g24 2))<|sL (t_load 3 (iw y21.weak))<|sL t_cmp<|sL (t_pure (.bool (decide (y21.weak=3))))<|sL (t_pure (.bool (decide (y21.weak=3))))<|s_nil ?_
    exact xs_cut () trivial (sub_of rfl (rQ (rQ (rQ (rQ (rQ (rQ (rQ ⟨⟨rfl,show Value.bool (decide (y21.weak=3))=Value.bool ((decide (y21.weak=1))||(decide (y21.weak=3))) by first|(simp only[c33,bls];done)|simp[c33]⟩,(rQ (rQ (rQ (rQ (rQ (rQ (rQ (rQ (rQ (rQ (rQ (rQ (rQ (rQ (rQ (rQ (rQ (rQ (rQ (rQ ⟨⟨rfl,show Value.bool false=Value.bool (decide (y21.weak=1)) by first|(simp only[c33,bls];done)|simp[c33]⟩,⟨⟨rfl,show Value.bool (decide (y21.weak=3))=Value.bool ((decide (y21.weak=1))||(decide (y21.weak=3))) by first|(simp only[c33,bls];done)|simp[c33]⟩,trivial⟩⟩))))))))))))))))))))⟩)))))))) (rr [0,0,0,0,0,0,0,0,0,0] [])
   refine k_cut (ι:=Unit) (fun _=>True) (fun _=>[(1,av),(4,.pointer (some ⟨g2,0,none⟩)),(5,iw 0),(10,.pointer (some ⟨g17,0,none⟩)),(12,.pointer (some ⟨g24,0,none⟩)),(13,sy),(15,.pointer (some ⟨g32,0,none⟩)),(16,.bool ((decide (y21.weak=1))||(decide (y21.weak=3)))),(17,.bool ((decide (y21.weak=2))||(decide (y21.weak=3)))),(41,ov),(42,iw (l.length:Int)),(43,iw (j:Int)),(44,.bool (decide ((j:Int)<(l.length:Int)))),(45,.pointer (some (elemAt ObT.size ov j))),(46,.agg #[iw y21.id,iw y21.size,iw y21.weak,y21.rv.v,y21.ev.v]),(47,.pointer (some ⟨g24,3,none⟩)),(48,y21.rv.v),(49,v25),(50,.pointer (some ⟨g24,3,none⟩)),(51,.pointer (some ⟨g24,4,none⟩)),(52,y21.ev.v),(53,iw (y21.ents.length:Int)),(54,iw (k:Int)),(55,.bool (decide ((k:Int)<(y21.ents.length:Int)))),(56,.pointer (some (elemAt EntT.size y21.ev.v k))),(57,.agg #[iw y30.key,iw y30.val]),(58,.pointer (some ⟨g24,2,none⟩)),(59,iw y21.weak),(60,.bool (decide (y21.weak=1))),(61,.bool (decide (y21.weak=1))),(65,.bool ((decide (y21.weak=1))||(decide (y21.weak=3)))),(66,.pointer (some ⟨g24,2,none⟩)),(67,iw y21.weak),(68,.bool (decide (y21.weak=2))),(69,.bool (decide (y21.weak=2))),(73,.bool ((decide (y21.weak=2))||(decide (y21.weak=3))))]) (fun _=>[blkA g32 #[iw y30.key,iw y30.val] 167,own EntT sy ((y21.ents.take k).filter (keepB A y21.weak)),own iTy v25 y21.refs,blkA g24 #[iw y21.id,iw y21.size,iw y21.weak,v25,y21.ev.v] 100,own ObT ox N,frz (AllO N),blkA g17 #[ox,v15] 57,own iTy v15 R,blkA g2 #[nS,nS] 57,blkA g1 #[ov,rv] 57]) ?_ (fun _ _=>?_)
   .refine k_reg<|sL (t_pure (pB g24 2))<|sL (t_load 3 (iw y21.weak))<|sL t_cmp<|sL (t_pure (.bool (decide (y21.weak=2))))<|s_fork 69 (decide (y21.weak=2)) (fun c36=>?_) (fun c36=>?_)
    .have p37:=dY c36;refine sK<|sK<|sK<|sL (t_pure (.bool true))<|sL (t_pure (.bool true))<|s_nil ?_
     exact xs_cut () trivial (sub_of rfl (rQ (rQ (rQ (rQ (rQ (rQ (rQ (rQ ⟨⟨rfl,show Value.bool true=Value.bool ((decide (y21.weak=2))||(decide (y21.weak=3))) by first|(simp only[c36,bls];done)|simp[c36]⟩,(rQ (rQ (rQ (rQ (rQ (rQ (rQ (rQ (rQ (rQ (rQ (rQ (rQ (rQ (rQ (rQ (rQ (rQ (rQ (rQ (rQ (rQ (rQ (rQ (rQ ⟨⟨rfl,show Value.bool true=Value.bool (decide (y21.weak=2)) by first|(simp only[c36,bls];done)|simp[c36]⟩,⟨⟨rfl,show Value.bool true=Value.bool ((decide (y21.weak=2))||(decide (y21.weak=3))) by first|(simp only[c36,bls];done)|simp[c36]⟩,trivial⟩⟩)))))))))))))))))))))))))⟩))))))))) (rr [0,0,0,0,0,0,0,0,0,0] [])
    have p38:=dF c36;refine sL (t_pure (pB g24 2))<|sL (t_load 3 (iw y21.weak))<|sL t_cmp<|sL (t_pure (.bool (decide (y21.weak=3))))<|sL (t_pure (.bool (decide (y21.weak=3))))<|s_nil ?_
    exact xs_cut () trivial (sub_of rfl (rQ (rQ (rQ (rQ (rQ (rQ (rQ (rQ ⟨⟨rfl,show Value.bool (decide (y21.weak=3))=Value.bool ((decide (y21.weak=2))||(decide (y21.weak=3))) by first|(simp only[c36,bls];done)|simp[c36]⟩,(rQ (rQ (rQ (rQ (rQ (rQ (rQ (rQ (rQ (rQ (rQ (rQ (rQ (rQ (rQ (rQ (rQ (rQ (rQ (rQ (rQ (rQ (rQ (rQ (rQ ⟨⟨rfl,show Value.bool false=Value.bool (decide (y21.weak=2)) by first|(simp only[c36,bls];done)|simp[c36]⟩,⟨⟨rfl,show Value.bool (decide (y21.weak=3))=Value.bool ((decide (y21.weak=2))||(decide (y21.weak=3))) by first|(simp only[c36,bls];done)|simp[c36]⟩,trivial⟩⟩)))))))))))))))))))))))))⟩))))))))) (rr [0,0,0,0,0,0,0,0,0,0] [])
   refine k_seq<|k_cut (ι:=Unit) (fun _=>True) (fun _=>[(1,av),(4,.pointer (some ⟨g2,0,none⟩)),(5,iw 0),(10,.pointer (some ⟨g17,0,none⟩)),(12,.pointer (some ⟨g24,0,none⟩)),(13,sy),(15,.pointer (some ⟨g32,0,none⟩)),(16,.bool ((decide (y21.weak=1))||(decide (y21.weak=3)))),(17,.bool ((decide (y21.weak=2))||(decide (y21.weak=3)))),(41,ov),(42,iw (l.length:Int)),(43,iw (j:Int)),(44,.bool (decide ((j:Int)<(l.length:Int)))),(45,.pointer (some (elemAt ObT.size ov j))),(46,.agg #[iw y21.id,iw y21.size,iw y21.weak,y21.rv.v,y21.ev.v]),(47,.pointer (some ⟨g24,3,none⟩)),(48,y21.rv.v),(49,v25),(50,pB g24 3),(51,pB g24 4),(52,y21.ev.v),(53,iw (y21.ents.length:Int)),(54,iw (k:Int)),(55,.bool (decide ((k:Int)<(y21.ents.length:Int)))),(56,.pointer (some (elemAt EntT.size y21.ev.v k))),(57,.agg #[iw y30.key,iw y30.val]),(58,pB g24 2),(59,iw y21.weak),(60,.bool (decide (y21.weak=1))),(61,.bool (decide (y21.weak=1))),(65,.bool ((decide (y21.weak=1))||(decide (y21.weak=3)))),(66,pB g24 2),(67,iw y21.weak),(68,.bool (decide (y21.weak=2))),(69,.bool (decide (y21.weak=2))),(73,.bool ((decide (y21.weak=2))||(decide (y21.weak=3)))),(74,.bool ((decide (y21.weak=1))||(decide (y21.weak=3)))),(75,.bool ((decide (y21.weak=1))||(decide (y21.weak=3)))),(80,.bool (((decide (y21.weak=1))||(decide (y21.weak=3)))&&(lostB A y30.key))),(81,.bool (((decide (y21.weak=1))||(decide (y21.weak=3)))&&(lostB A y30.key))),(89,.bool (bif ((decide (y21.weak=1))||(decide (y21.weak=3))) then ((lostB A y30.key)||(((decide (y21.weak=2))||(decide (y21.weak=3)))&&(lostB A y30.val))) else (((decide (y21.weak=2))||(decide (y21.weak=3)))&&(lostB A y30.val))))]) (fun _=>[blkA g32 #[iw y30.key,iw y30.val] 167,own EntT sy ((y21.ents.take k).filter (keepB A y21.weak)),own iTy v25 y21.refs,blkA g24 #[iw y21.id,iw y21.size,iw y21.weak,v25,y21.ev.v] 100,own ObT ox N,frz (AllO N),blkA g17 #[ox,v15] 57,own iTy v15 R,blkA g2 #[nS,nS] 57,blkA g1 #[ov,rv] 57]) ?_ (fun _ _=>?_)
   .refine k_reg<|sL (t_pure (.bool ((decide (y21.weak=1))||(decide (y21.weak=3)))))<|sL (t_pure (.bool ((decide (y21.weak=1))||(decide (y21.weak=3)))))<|s_fork 75 ((decide (y21.weak=1))||(decide (y21.weak=3))) (fun c39=>?_) (fun c39=>?_)
    .have p40:=c39;simp only[Bool.and_eq_true,Bool.or_eq_true,Bool.and_eq_false_iff,Bool.or_eq_false_iff,Bool.not_eq_true',Bool.not_eq_false',decide_eq_true_eq,decide_eq_false_iff_not]at p40;refine sL (t_pure av)<|sL (t_pure (pB g32 0))<|sL (t_load 0 (iw y30.key))<|sV (fun _ h=>lost_s (Acc.kn (.zn hA) h) hA2 om y30.key)<|sL (t_pure (.bool (lostB A y30.key)))<|sL (t_pure (.bool (lostB A y30.key)))<|s_fork 81 (lostB A y30.key) (fun c41=>?_) (fun c41=>?_)
     .refine sK<|sK<|sK<|sK<|sK<|sK<|sK<|sL (t_pure (.bool true))<|s_nil ?_
      exact xs_cut () trivial (sub_of rfl (rQ (rQ (rQ (rQ (rQ (rQ (rQ (rQ (rQ (rQ (rQ (rQ (rQ (rQ (rQ (rQ (rQ (rQ (rQ (rQ (rQ (rQ (rQ (rQ (rQ (rQ (rQ (rQ (rQ (rQ (rQ (rQ (rQ (rQ (rQ (rQ (rQ ⟨⟨rfl,show Value.bool true=Value.bool ((decide (y21.weak=1))||(decide (y21.weak=3))) by first|(simp only[c39,c41,bls];done)|simp[c39,c41]⟩,⟨⟨rfl,show Value.bool (lostB A y30.key)=Value.bool (((decide (y21.weak=1))||(decide (y21.weak=3)))&&(lostB A y30.key)) by first|(simp only[c39,c41,bls];done)|simp[c39,c41]⟩,⟨⟨rfl,show Value.bool true=Value.bool (((decide (y21.weak=1))||(decide (y21.weak=3)))&&(lostB A y30.key)) by first|(simp only[c39,c41,bls];done)|simp[c39,c41]⟩,⟨⟨rfl,show Value.bool true=Value.bool (bif ((decide (y21.weak=1))||(decide (y21.weak=3))) then ((lostB A y30.key)||(((decide (y21.weak=2))||(decide (y21.weak=3)))&&(lostB A y30.val))) else (((decide (y21.weak=2))||(decide (y21.weak=3)))&&(lostB A y30.val))) by first|(simp only[c39,c41,bls];done)|simp[c39,c41]⟩,trivial⟩⟩⟩⟩)))))))))))))))))))))))))))))))))))))) (rr [0,0,0,0,0,0,0,0,0,0] [])
     refine sL (t_pure (.bool ((decide (y21.weak=2))||(decide (y21.weak=3)))))<|sL (t_pure (.bool ((decide (y21.weak=2))||(decide (y21.weak=3)))))<|s_fork 83 ((decide (y21.weak=2))||(decide (y21.weak=3))) (fun c42=>?_) (fun c42=>?_)
     .have p43:=c42;simp only[Bool.and_eq_true,Bool.or_eq_true,Bool.and_eq_false_iff,Bool.or_eq_false_iff,Bool.not_eq_true',Bool.not_eq_false',decide_eq_true_eq,decide_eq_false_iff_not]at p43;refine sL (t_pure av)<|sL (t_pure (pB g32 1))<|sL (t_load 0 (iw y30.val))<|sV (fun _ h=>lost_s (Acc.kn (.zn hA) h) hA2 om y30.val)<|sL (t_pure (.bool (lostB A y30.val)))<|sL (t_pure (.bool (lostB A y30.val)))<|s_nil ?_
      exact xs_cut () trivial (sub_of rfl (rQ (rQ (rQ (rQ (rQ (rQ (rQ (rQ (rQ (rQ (rQ (rQ (rQ (rQ (rQ (rQ (rQ (rQ (rQ (rQ (rQ (rQ (rQ (rQ (rQ (rQ (rQ (rQ (rQ (rQ (rQ (rQ (rQ (rQ (rQ (rQ (rQ ⟨⟨rfl,show Value.bool true=Value.bool ((decide (y21.weak=1))||(decide (y21.weak=3))) by first|(simp only[c39,c41,c42,bls];done)|simp[c39,c41,c42]⟩,⟨⟨rfl,show Value.bool (lostB A y30.key)=Value.bool (((decide (y21.weak=1))||(decide (y21.weak=3)))&&(lostB A y30.key)) by first|(simp only[c39,c41,c42,bls];done)|simp[c39,c41,c42]⟩,⟨⟨rfl,show Value.bool false=Value.bool (((decide (y21.weak=1))||(decide (y21.weak=3)))&&(lostB A y30.key)) by first|(simp only[c39,c41,c42,bls];done)|simp[c39,c41,c42]⟩,⟨⟨rfl,show Value.bool (lostB A y30.val)=Value.bool (bif ((decide (y21.weak=1))||(decide (y21.weak=3))) then ((lostB A y30.key)||(((decide (y21.weak=2))||(decide (y21.weak=3)))&&(lostB A y30.val))) else (((decide (y21.weak=2))||(decide (y21.weak=3)))&&(lostB A y30.val))) by first|(simp only[c39,c41,c42,bls];done)|simp[c39,c41,c42]⟩,trivial⟩⟩⟩⟩)))))))))))))))))))))))))))))))))))))) (rr [0,0,0,0,0,0,0,0,0,0] [])
     obtain⟨c44,c45⟩:=or_f c42;have p46:=dF c44;have p47:=dF c45;refine sK<|sK<|sK<|sK<|sL (t_pure (.bool false))<|sL (t_pure (.bool false))<|s_nil ?_
     exact xs_cut () trivial (sub_of rfl (rQ (rQ (rQ (rQ (rQ (rQ (rQ (rQ (rQ (rQ (rQ (rQ (rQ (rQ (rQ (rQ (rQ (rQ (rQ (rQ (rQ (rQ (rQ (rQ (rQ (rQ (rQ (rQ (rQ (rQ (rQ (rQ (rQ (rQ (rQ (rQ (rQ ⟨⟨rfl,show Value.bool true=Value.bool ((decide (y21.weak=1))||(decide (y21.weak=3))) by first|(simp only[c39,c41,c42,bls];done)|simp[c39,c41,c42]⟩,⟨⟨rfl,show Value.bool (lostB A y30.key)=Value.bool (((decide (y21.weak=1))||(decide (y21.weak=3)))&&(lostB A y30.key)) by first|(simp only[c39,c41,c42,bls];done)|simp[c39,c41,c42]⟩,⟨⟨rfl,show Value.bool false=Value.bool (((decide (y21.weak=1))||(decide (y21.weak=3)))&&(lostB A y30.key)) by first|(simp only[c39,c41,c42,bls];done)|simp[c39,c41,c42]⟩,⟨⟨rfl,show Value.bool false=Value.bool (bif ((decide (y21.weak=1))||(decide (y21.weak=3))) then ((lostB A y30.key)||(((decide (y21.weak=2))||(decide (y21.weak=3)))&&(lostB A y30.val))) else (((decide (y21.weak=2))||(decide (y21.weak=3)))&&(lostB A y30.val))) by first|(simp only[c39,c41,c42,bls];done)|simp[c39,c41,c42]⟩,trivial⟩⟩⟩⟩)))))))))))))))))))))))))))))))))))))) (rr [0,0,0,0,0,0,0,0,0,0] [])
    obtain⟨c48,c49⟩:=or_f c39;have p50:=dF c48;have p51:=dF c49;refine sK<|sK<|sK<|sK<|sL (t_pure (.bool false))<|sL (t_pure (.bool false))<|sL (t_pure (.bool ((decide (y21.weak=2))||(decide (y21.weak=3)))))<|sL (t_pure (.bool ((decide (y21.weak=2))||(decide (y21.weak=3)))))<|s_fork 83 ((decide (y21.weak=2))||(decide (y21.weak=3))) (fun c52=>?_) (fun c52=>?_)
    .have p53:=c52;simp only[Bool.and_eq_true,Bool.or_eq_true,Bool.and_eq_false_iff,Bool.or_eq_false_iff,Bool.not_eq_true',Bool.not_eq_false',decide_eq_true_eq,decide_eq_false_iff_not]at p53;refine sL (t_pure av)<|sL (t_pure (pB g32 1))<|sL (t_load 0 (iw y30.val))<|sV (fun _ h=>lost_s (Acc.kn (.zn hA) h) hA2 om y30.val)<|sL (t_pure (.bool (lostB A y30.val)))<|sL (t_pure (.bool (lostB A y30.val)))<|s_nil ?_
     exact xs_cut () trivial (sub_of rfl (rQ (rQ (rQ (rQ (rQ (rQ (rQ (rQ (rQ (rQ (rQ (rQ (rQ (rQ (rQ (rQ (rQ (rQ (rQ (rQ (rQ (rQ (rQ (rQ (rQ (rQ (rQ (rQ (rQ (rQ (rQ (rQ (rQ (rQ (rQ (rQ (rQ ⟨⟨rfl,show Value.bool false=Value.bool ((decide (y21.weak=1))||(decide (y21.weak=3))) by first|(simp only[c39,c52,bls];done)|simp[c39,c52]⟩,⟨⟨rfl,show Value.bool false=Value.bool (((decide (y21.weak=1))||(decide (y21.weak=3)))&&(lostB A y30.key)) by first|(simp only[c39,c52,bls];done)|simp[c39,c52]⟩,⟨⟨rfl,show Value.bool false=Value.bool (((decide (y21.weak=1))||(decide (y21.weak=3)))&&(lostB A y30.key)) by first|(simp only[c39,c52,bls];done)|simp[c39,c52]⟩,⟨⟨rfl,show Value.bool (lostB A y30.val)=Value.bool (bif ((decide (y21.weak=1))||(decide (y21.weak=3))) then ((lostB A y30.key)||(((decide (y21.weak=2))||(decide (y21.weak=3)))&&(lostB A y30.val))) else (((decide (y21.weak=2))||(decide (y21.weak=3)))&&(lostB A y30.val))) by first|(simp only[c39,c52,bls];done)|simp[c39,c52]⟩,trivial⟩⟩⟩⟩)))))))))))))))))))))))))))))))))))))) (rr [0,0,0,0,0,0,0,0,0,0] [])
    obtain⟨c54,c55⟩:=or_f c52;have p56:=dF c54;have p57:=dF c55;refine sK<|sK<|sK<|sK<|sL (t_pure (.bool false))<|sL (t_pure (.bool false))<|s_nil ?_
    exact xs_cut () trivial (sub_of rfl (rQ (rQ (rQ (rQ (rQ (rQ (rQ (rQ (rQ (rQ (rQ (rQ (rQ (rQ (rQ (rQ (rQ (rQ (rQ (rQ (rQ (rQ (rQ (rQ (rQ (rQ (rQ (rQ (rQ (rQ (rQ (rQ (rQ (rQ (rQ (rQ (rQ ⟨⟨rfl,show Value.bool false=Value.bool ((decide (y21.weak=1))||(decide (y21.weak=3))) by first|(simp only[c39,c52,bls];done)|simp[c39,c52]⟩,⟨⟨rfl,show Value.bool false=Value.bool (((decide (y21.weak=1))||(decide (y21.weak=3)))&&(lostB A y30.key)) by first|(simp only[c39,c52,bls];done)|simp[c39,c52]⟩,⟨⟨rfl,show Value.bool false=Value.bool (((decide (y21.weak=1))||(decide (y21.weak=3)))&&(lostB A y30.key)) by first|(simp only[c39,c52,bls];done)|simp[c39,c52]⟩,⟨⟨rfl,show Value.bool false=Value.bool (bif ((decide (y21.weak=1))||(decide (y21.weak=3))) then ((lostB A y30.key)||(((decide (y21.weak=2))||(decide (y21.weak=3)))&&(lostB A y30.val))) else (((decide (y21.weak=2))||(decide (y21.weak=3)))&&(lostB A y30.val))) by first|(simp only[c39,c52,bls];done)|simp[c39,c52]⟩,trivial⟩⟩⟩⟩)))))))))))))))))))))))))))))))))))))) (rr [0,0,0,0,0,0,0,0,0,0] [])
   refine k_cond (bif ((decide (y21.weak=1))||(decide (y21.weak=3))) then ((lostB A y30.key)||(((decide (y21.weak=2))||(decide (y21.weak=3)))&&(lostB A y30.val))) else (((decide (y21.weak=2))||(decide (y21.weak=3)))&&(lostB A y30.val))) (fun c58=>?_) (fun c58=>?_)
   .refine k_exit<|xs_exit<|xs_here<|xs_then<|k_reg<|sL (t_add (k:Int) 1 (by (try simp only[lnm]);omega))<|sL (t_pure (iw ((k:Int)+1)))<|s_nil ?_
    rw[filt_no (p:=keepB A y21.weak) hy31 (by have h:=c58;unfold keepB;revert h;generalize (decide (y21.weak=1)||decide (y21.weak=3))=b1;generalize (decide (y21.weak=2)||decide (y21.weak=3))=b2;generalize lostB A y30.key=b3;generalize lostB A y30.val=b4;revert b1 b2 b3 b4;decide)];exact xs_round (sy,k+1) (by show y21.ents.length-(k+1)<y21.ents.length-k;omega) (by show k+1≤y21.ents.length;omega) sA (rr [1,1,1,1,1,1,1,1,1] [9])
   refine k_skip<|xs_then<|k_reg<|sL (t_pure sy)<|sL (t_loadA 0 #[iw y30.key,iw y30.val])<|s_buildSlice (e:=167) [(0,.agg #[iw y30.key,iw y30.val])] #[iw y30.key,iw y30.val] (fun g59=>?_) (hb:=by kernel_rfl)
   refine s_append (L:=((y21.ents.take k).filter (keepB A y21.weak))) 2 EntT_ok Tryz.underlying98 (.lit 0 EntT_ok [y30]) (by show _*16≤_;(try simp only[lnm]);omega) (by (try simp only[lnm]);omega) (fun v60=>?_);refine sF 2 (fun hf61=>?_);refine sL (t_pure v60)<|s_nil<|xs_block<|xs_then<|k_reg<|sL (t_add (k:Int) 1 (by (try simp only[lnm]);omega))<|sL (t_pure (iw ((k:Int)+1)))<|s_nil ?_
   rw[filt_yes (p:=keepB A y21.weak) hy31 (by have h:=c58;unfold keepB;revert h;generalize (decide (y21.weak=1)||decide (y21.weak=3))=b1;generalize (decide (y21.weak=2)||decide (y21.weak=3))=b2;generalize lostB A y30.key=b3;generalize lostB A y30.val=b4;revert b1 b2 b3 b4;decide)];exact xs_round (v60,k+1) (by show y21.ents.length-(k+1)<y21.ents.length-k;omega) (by show k+1≤y21.ents.length;omega) sA (rr [2,2,2,2,2,2,2,2,2] [9,9])
  have p62:=dF c28;refine k_exit ?_;obtain rfl:k=y21.ents.length:=by omega
  rw[List.take_length];have hfl:=List.length_filter_le (keepB A y21.weak) y21.ents;refine xs_exit<|xs_exit<|xs_here<|xs_then<|k_seq<|k_reg<|sL (t_pure sy)<|sL (t_pure (pB g24 4))<|sF 0 (fun hf63=>?_)
  refine s_store (u:=sy) (m:=1) 2 #[iw y21.id,iw y21.size,iw y21.weak,v25,sy] ?_ (hm:=by (obtain⟨_,_,e0⟩:=hf63;rw[e0];rfl)) (h1:=by (obtain⟨_,_,e0⟩:=hf63;rw[e0];rfl)) (ha':=by (obtain⟨_,_,e0⟩:=hf63;rw[e0];rfl));refine s_nil<|xs_then<|k_reg<|sL (t_pure (pB g17 0))<|sL (t_load 5 ox) ?_
  obtain⟨pp64,cc65,e⟩:=hf26;subst e;obtain⟨pp66,cc67,e⟩:=hf63;subst e;refine sL (t_loadA 2 #[iw y21.id,iw y21.size,iw y21.weak,(.slice pp64 y21.refs.length cc65),(.slice pp66 (y21.ents.filter (keepB A y21.weak)).length cc67)])<|s_buildSlice (e:=100) [(0,.agg #[iw y21.id,iw y21.size,iw y21.weak,(.slice pp64 y21.refs.length cc65),(.slice pp66 (y21.ents.filter (keepB A y21.weak)).length cc67)])] #[iw y21.id,iw y21.size,iw y21.weak,(.slice pp64 y21.refs.length cc65),(.slice pp66 (y21.ents.filter (keepB A y21.weak)).length cc67)] (fun g68=>?_) (hb:=by kernel_rfl)
  refine s_append (L:=N) 4 ObT_ok Tryz.underlying55 (.lit 0 ObT_ok [(⟨y21.id,y21.size,y21.weak,⟨pp64,y21.refs.length,cc65⟩,⟨pp66,(y21.ents.filter (keepB A y21.weak)).length,cc67⟩,y21.refs,(y21.ents.filter (keepB A y21.weak))⟩:Ob)]) (by show _*72≤_;(try simp only[lnm]);omega) (by (try simp only[lnm]);omega) (fun v69=>?_);refine sF 4 (fun hf70=>?_);refine sL (t_pure (pB g17 0))<|s_store (u:=v69) (m:=1) 6 #[v69,v15] ?_ (hm:=by (obtain⟨_,_,e0⟩:=hf70;rw[e0];rfl)) (h1:=by (obtain⟨_,_,e0⟩:=hf70;rw[e0];rfl)) (ha':=by (obtain⟨_,_,e0⟩:=hf70;rw[e0];rfl))
  refine s_nil<|xs_block<|xs_then<|k_reg<|sL (t_add (j:Int) 1 (by (try simp only[lnm]);omega))<|sL (t_pure (iw ((j:Int)+1)))<|s_nil<|xs_mem (fun _ h=>frz_push (⟨y21.id,y21.size,y21.weak,⟨pp64,y21.refs.length,cc65⟩,⟨pp66,(y21.ents.filter (keepB A y21.weak)).length,cc67⟩,y21.refs,(y21.ents.filter (keepB A y21.weak))⟩:Ob) (h.re [2,1,3] [])) ?_
  exact xs_round (v69,N++[(⟨y21.id,y21.size,y21.weak,⟨pp64,y21.refs.length,cc65⟩,⟨pp66,(y21.ents.filter (keepB A y21.weak)).length,cc67⟩,y21.refs,(y21.ents.filter (keepB A y21.weak))⟩:Ob)],j+1) (by show l.length-(j+1)<l.length-j;omega) (by obtain⟨hk1,hk2⟩:=hi18;exact⟨by omega,map_snoc hy22 hk2 rfl⟩) sA (rr [3,0,2,2,2,2] [6,6])
 have p71:=dF c19;refine k_exit<|xs_exit<|xs_exit<|xs_here<|xs_then<|k_seq<|k_reg<|sL (t_loadA 2 #[ox,v15])<|sF 0 (fun hf72=>?_)
 refine s_store (u:=.agg #[ox,v15]) (m:=2) 4 #[ox,v15] ?_ (hm:=by (obtain⟨_,_,e0⟩:=hf72;obtain⟨_,_,e1⟩:=hf16;rw[e0,e1];rfl)) (h1:=by (obtain⟨_,_,e0⟩:=hf72;obtain⟨_,_,e1⟩:=hf16;rw[e0,e1];rfl)) (ha':=by (obtain⟨_,_,e0⟩:=hf72;obtain⟨_,_,e1⟩:=hf16;rw[e0,e1];rfl));refine sL (t_pure (iw 0))<|s_nil<|xs_then<|k_ret ?_
 have hA0:(chk 0 l&&ascA 0 A)=true:=by rw[hc,hA1];rfl
 obtain⟨hk1,hk2⟩:=hi18;obtain rfl:j=l.length:=by omega
 rw[List.take_length]at hk2;exact xs_fin [.agg #[ox,v15],iw 0] [frz (GrA ox v15 N R)] (SI.agg 4 57 4 (SI.tmp 5 SI.nil)) (fun _ h=>gr_shut (h.re [0,2,0] [3,3,3])) ⟨_,_,N,R,by rw[hA0];rfl,by rw[hA0];exact hk2,by rw[hA0];rfl,rfl⟩
end Go.Proofs.YtmhpcebiamkciaaGreat
end
section
set_option linter.unusedSimpArgs false
set_option linter.unusedVariables false
set_option maxRecDepth 100000
set_option maxHeartbeats 2000000
namespace Go.Proofs.YtmhpcebiamkciaaGreat
open Go.Hp Go.J Go.S
open Go.Mem (Ty KTy blk elemAt pre suf blk_pre blk_suf aget aset strK aggDesc)
open Go.Mem (adel apos aget_aset aget_adel)
open Go.Mem (aget_aset)
theorem chk_pos{l:List Ob}(h:chk 0 l=true):∀x∈l,0<x.id:=chk_lt h
theorem live_pos{l:List Ob}(h:chk 0 l=true)(M:List Int):∀x∈liveG l M,0<x:=by
 intro x hx;simp only[liveG,List.mem_map,List.mem_filter]at hx;obtain⟨o,⟨ho,_⟩,rfl⟩:=hx;exact chk_pos h o ho
theorem ascA_alive{l:List Ob}(h:chk 0 l=true)(R:List Int):ascA 0 (aliveR l R)=true:=by
 rw[aliveR_ok h];exact ascA_of (live_asc (chk_asc h) _) (live_pos h _)
theorem accF{Z:Zone}{As:List Asr}{ov rv:Value}{l:List Ob}{R:List Int}(i:Nat)(hi:gt As i=some (frz (GrA ov rv l R)):=by rfl):Acc Z As ObT ov l:=fun H h=>(h.frzF i hi).1
theorem accR{Z:Zone}{As:List Asr}{ov rv:Value}{l:List Ob}{R:List Int}(i:Nat)(hi:gt As i=some (frz (GrA ov rv l R)):=by rfl):Acc Z As iTy rv R:=fun H h=>(h.frzF i hi).2.1
def lastL(A:List Int)(l:List Core):List Core:=l.filter fun x=>decide (x.1∈A)
theorem last_yes{A:List Int}{l N:List Ob}{i:Nat}{y:Ob}(hy:l[i]?=some y)(h:y.id∈A)(hN:N.map Ob.c=lastL A ((l.take i).map Ob.c)):(N++[y]).map Ob.c=lastL A ((l.take (i+1)).map Ob.c):=by
 rw[List.take_add_one,hy];simp[lastL,List.filter_append,h]at hN ⊢;rw[hN]
theorem last_no{A:List Int}{l N:List Ob}{i:Nat}{y:Ob}(hy:l[i]?=some y)(h:y.id∉A)(hN:N.map Ob.c=lastL A ((l.take i).map Ob.c)):N.map Ob.c=lastL A ((l.take (i+1)).map Ob.c):=by
 rw[List.take_add_one,hy];simp[lastL,List.filter_append,h]at hN ⊢;rw[hN]
theorem len_of_map{l l':List Ob}{A:List Int}(h:l'.map Ob.c=l.map (clr A)):l'.length=l.length:=by have:=congrArg List.length h;simpa using this
def eK:KTy Int:=⟨153,eV⟩
theorem eK_ok{β:Type}:KTy.Ok (β:=β) eK Tryz.prog:=by
 refine Go.Mem.structK_ok (K:=eK) Tryz.underlying153 (fun k=>⟨_,rfl⟩) (fun b k w=>by kernel_rfl) (fun k=>?_) (fun k k' w=>Go.Mem.equal_of_bin (eqE k k' w).1);show Instr.sameBits 10000 (eV k) (eV k)=true;unfold Instr.sameBits;simp[Instr.sameBits]
def setL(A:List Int):List (Int×Bool):=A.foldl (fun m x=>aset m x true) []
theorem aget_fold(A:List Int)(k:Int):∀m:List (Int×Bool),aget (A.foldl (fun m x=>aset m x true) m) k=if k∈A then some true else aget m k:=by
 induction A with
 | nil=>intro m;simp
 | cons a r ih=>
  intro m;rw[List.foldl_cons,ih,aget_aset];by_cases h1:k∈r<;>by_cases h2:k=a<;>simp[h1,h2]
theorem got_set(A:List Int)(k:Int):((aget (setL A) k).map bV).getD (.bool false)=.bool (decide (k∈A)):=by
 unfold setL;rw[aget_fold];by_cases h:k∈A<;>simp[h,aget]
theorem set_take{A:List Int}{i:Nat}{y:Int}(h:A[i]?=some y):aset (setL (A.take i)) y true=setL (A.take (i+1)):=(fold_take (f:=fun m x=>aset m x true) h).symm
def stayL(A reg:List Int):List Int:=reg.filter fun x=>decide (x∈A)
def lostL(A reg:List Int):List Int:=reg.filter fun x=>!decide (x∈A)
def sepL(A reg:List Int):List Int:=(lostL A reg).reverse
theorem stay_yes{A L:List Int}{i:Nat}{y:Int}(h:L[i]?=some y)(hp:y∈A):stayL A (L.take i)++[y]=stayL A (L.take (i+1))∧lostL A (L.take i)=lostL A (L.take (i+1)):=by
 rw[←take_snoc h];simp[stayL,lostL,List.filter_append,hp]
theorem stay_no{A L:List Int}{i:Nat}{y:Int}(h:L[i]?=some y)(hp:y∉A):stayL A (L.take i)=stayL A (L.take (i+1))∧lostL A (L.take i)++[y]=lostL A (L.take (i+1)):=by
 rw[←take_snoc h];simp[stayL,lostL,List.filter_append,hp]
theorem stay_len(A L:List Int):(stayL A L).length≤L.length:=List.length_filter_le _ _
theorem lost_len(A L:List Int):(lostL A L).length≤L.length:=List.length_filter_le _ _
theorem sep_len(A L:List Int):(sepL A L).length≤L.length:=by unfold sepL;rw[List.length_reverse];exact lost_len A L
def Rv{α:Type}(L X:List α)(i:Nat):Prop:=X.length=L.length∧2*i≤L.length+1∧∀k,k<L.length→X[k]?=if k<i∨L.length<k+i+1 then L[L.length-1-k]? else L[k]?
theorem rv0{α:Type}(L:List α):Rv L L 0:=⟨rfl,by omega,fun k hk=>by rw[if_neg om]⟩
theorem rv_step{α:Type}{L X:List α}{i:Nat}{x y:α}(h:Rv L X i)(hi:2*i+1<L.length)(hx:X[i]?=some x)(hy:X[L.length-1-i]?=some y):Rv L ((X.set i y).set (L.length-1-i) x) (i+1):=by
 obtain⟨h1,h2,h3⟩:=h;refine⟨by simp[h1],by omega,fun k hk=>?_⟩;have hxi:=h3 i om;have hyi:=h3 (L.length-1-i) om;rw[if_neg om]at hxi hyi;rw[hx]at hxi;rw[hy]at hyi;by_cases e1:k=L.length-1-i
 .subst e1;rw[List.getElem?_set_self (by simp[h1];omega),if_pos om,hxi];congr 1;omega
 rw[List.getElem?_set_ne (Ne.symm e1)];by_cases e2:k=i
 .subst e2;rw[List.getElem?_set_self om,if_pos om,hyi]
 rw[List.getElem?_set_ne (Ne.symm e2),h3 k hk];by_cases c:k<i∨L.length<k+i+1
 .rw [if_pos c,if_pos om]
 rw[if_neg c,if_neg om]
theorem rv_end{α:Type}{L X:List α}{i:Nat}(h:Rv L X i)(hi:¬2*i+1<L.length):X=L.reverse:=by
 obtain⟨h1,h2,h3⟩:=h;apply List.ext_getElem?;intro k;by_cases hk:k<L.length
 .rw [h3 k hk,List.getElem?_reverse hk];by_cases c:k<i∨L.length<k+i+1
  .rw [if_pos c]
  rw[if_neg c];congr 1;omega
 rw[List.getElem?_eq_none om,List.getElem?_eq_none (by simp;omega)]
theorem rev_s{Z:Zone}{F:List Asr}{v:Value}{L:List Int}(hl:L.length≤1000000):SF Tryz.prog 254 #[v] Z (own eTy v L::F) fun r Bs=>r=.tuple #[]∧Bs=own eTy v L.reverse::F:=by
 refine sf_enter Tryz.func254 28 [(0,v)] (fun w0=>?_);refine k_seq<|k_reg<|sL (t_pure v)<|sL (t_len eTy_ok Tryz.underlying149 (.own 0))<|sL (Lt.to (v':=iw ((L.length:Int)-1-((0:Nat):Int))) (t_sub (L.length:Int) 1 om) (cI om))<|sL (t_pure (iw 0))<|sL (t_pure (iw ((L.length:Int)-1-((0:Nat):Int))))<|s_nil<|xs_then<|k_block<|k_loop (ι:=List Int×Nat) (fun (X,i)=>Rv L X i) (fun (X,i)=>[(0,v),(2,iw (i:Int)),(3,iw ((L.length:Int)-1-(i:Int)))]) (fun (X,i)=>own eTy v X::F) (fun (X,i)=>L.length-i) (L,0) (rv0 L) sA (rr [0] []) ?_
 rintro⟨X,i⟩ hi1;replace hi1:Rv L X i:=hi1;show SK _ _ _ _ _ [(0,v),(2,iw (i:Int)),(3,iw ((L.length:Int)-1-(i:Int)))] _ (own eTy v X::F);have hXl:=hi1.1;have hX2:=hi1.2.1;refine k_seq<|k_seq<|k_reg<|sL (t_pure (iw (i:Int)))<|sL (t_pure (iw ((L.length:Int)-1-(i:Int))))<|sL t_cmp<|s_nil<|xs_then<|k_cond (decide ((i:Int)<((L.length:Int)-1-(i:Int)))) (fun c2=>?_) (fun c2=>?_)
 .have p3:=dY c2;refine k_skip<|xs_then<|k_seq<|k_block<|k_draw<|sL (t_pure v)<|sL (t_pure (iw (i:Int)))<|sL (t_pure v)<|sL (t_pure (iw ((L.length:Int)-1-(i:Int))))<|sL (t_pure v)<|sL (t_pure (iw ((L.length:Int)-1-(i:Int))))<|sL (t_index eTy_ok Tryz.underlying149 (.own 0) ((L.length:Int)-1-(i:Int)) (L.length-1-i) om ol om) ?_
  obtain⟨y4,hy5⟩:∃y,X[(L.length-1-i)]?=some y:=⟨_,List.getElem?_eq_getElem ol⟩;refine sL (t_loadE eTy_ok (.own 0) hy5)<|sL (t_pure v)<|sL (t_pure (iw (i:Int)))<|sL (t_index eTy_ok Tryz.underlying149 (.own 0) (i:Int) i om ol om) ?_
  obtain⟨y6,hy7⟩:∃y,X[i]?=some y:=⟨_,List.getElem?_eq_getElem ol⟩;refine sL (t_loadE eTy_ok (.own 0) hy7)<|sL (t_index eTy_ok Tryz.underlying149 (.own 0) (i:Int) i om ol om)<|s_storeE 0 0 y4 eTy_ok hy7 ?_
  refine sL (t_index eTy_ok Tryz.underlying149 (.own 0) ((L.length:Int)-1-(i:Int)) (L.length-1-i) om ol om) ?_;obtain⟨y8,hy9⟩:∃y,((X.set i y4))[(L.length-1-i)]?=some y:=⟨_,List.getElem?_eq_getElem ol⟩;refine s_storeE 0 0 y6 eTy_ok hy9 ?_;refine s_nil<|x_dynS (fun _ h=>by kernel_rfl) ?_
  refine xs_block<|xs_then<|k_reg<|sL (t_pure (iw (i:Int)))<|sL (t_add (i:Int) 1 ol)<|sL (t_pure (iw ((L.length:Int)-1-(i:Int))))<|sL (Lt.to (v':=iw ((L.length:Int)-1-((i+1:Nat):Int))) (t_sub ((L.length:Int)-1-(i:Int)) 1 om) (cI om))<|sL (t_pure (iw ((i:Int)+1)))<|sL (t_pure (iw ((L.length:Int)-1-((i+1:Nat):Int))))<|s_nil ?_
  exact xs_round (((X.set i y4).set (L.length-1-i) y6),i+1) (by show L.length-(i+1)<L.length-i;omega) (rv_step hi1 om hy7 hy5) sA (rr [0] [])
 have p10:=dF c2;refine k_exit<|xs_exit<|xs_exit<|xs_here ?_
 have hX:X=L.reverse:=rv_end hi1 om;subst hX;exact xs_finN _ _ SI.nil (rr [0] []) ⟨rfl,rfl⟩
theorem separate_s{Z:Zone}{F:List Asr}{b:Nat}{reg pend:List Int}{mb:Nat}{A:List Int}(hr:reg.length≤100000)(hp:pend.length≤100000):SF Tryz.prog 216 #[.pointer (some ⟨b,0,none⟩),.map (some mb)] Z (qA b reg pend::mpA eK bV mb (setL A)::F) fun r Bs=>Bs=qA b (stayL A reg) (pend++sepL A reg)::own iTy r (sepL A reg)::mpA eK bV mb (setL A)::F:=by
 refine sf_enter Tryz.func216 47 [(0,.pointer (some ⟨b,0,none⟩)),(1,.map (some mb))] (fun w0=>?_);refine k_mem2 (fun H h=>q_open (h.re [0] [])) (fun rq1 pq2 hw=>?_);refine k_seq<|k_reg<|sL (t_pure (.slice none 0 0))<|s_nil<|xs_then<|k_seq<|k_reg<|sL (t_pure (.slice none 0 0))<|sL (t_pure (.slice none 0 0))<|s_nil<|xs_then<|k_seq<|k_seq<|k_reg<|sL (t_pure (.pointer (some ⟨b,0,none⟩)))<|sL (t_pure (.pointer (some ⟨b,0,none⟩)))<|sL (t_pure (.pointer (some ⟨b,0,none⟩)))<|sL (t_load 0 rq1)<|sL (t_len eTy_ok Tryz.underlying149 (.own 1))<|sL (t_pure (iw 0))<|s_nil<|xs_then<|k_block<|k_mem (fun _ h=>Holds.nilS (T:=eTy) h) ?_
 refine k_mem (Bs:=own eTy (.slice none 0 0) (stayL A (reg.take 0))::blkA b #[rq1,pq2] 151::own eTy rq1 reg::ownO eTy pq2 pend::mpA eK bV mb (setL A)::F) (fun _ h=>h) ?_;refine k_mem (fun _ h=>Holds.nilS (T:=eTy) h) ?_;refine k_mem (Bs:=own eTy (.slice none 0 0) (lostL A (reg.take 0))::own eTy (.slice none 0 0) (stayL A (reg.take 0))::blkA b #[rq1,pq2] 151::own eTy rq1 reg::ownO eTy pq2 pend::mpA eK bV mb (setL A)::F) (fun _ h=>h) ?_;refine k_loop (ι:=Value×Value×Nat) (fun (sx,gx,i)=>i≤reg.length) (fun (sx,gx,i)=>[(0,.pointer (some ⟨b,0,none⟩)),(1,.map (some mb)),(4,(.slice none 0 0)),(5,sx),(6,gx),(12,rq1),(13,iw (reg.length:Int)),(14,iw (i:Int))]) (fun (sx,gx,i)=>own eTy gx (lostL A (reg.take i))::own eTy sx (stayL A (reg.take i))::blkA b #[rq1,pq2] 151::own eTy rq1 reg::ownO eTy pq2 pend::mpA eK bV mb (setL A)::F) (fun (sx,gx,i)=>reg.length-i) (.slice none 0 0,.slice none 0 0,0) (Nat.zero_le _) sA (rr [0,0,0,0,0,0] []) ?_;rintro⟨sx,gx,i⟩ hi3;replace hi3:i≤reg.length:=hi3;show SK _ _ _ _ _ [(0,.pointer (some ⟨b,0,none⟩)),(1,.map (some mb)),(4,nS),(5,sx),(6,gx),(12,rq1),(13,iw (reg.length:Int)),(14,iw (i:Int))] _ (own eTy gx (lostL A (reg.take i))::own eTy sx (stayL A (reg.take i))::blkA b #[rq1,pq2] 151::own eTy rq1 reg::ownO eTy pq2 pend::mpA eK bV mb (setL A)::F);have hs1:=stay_len A (reg.take i);have hs2:=lost_len A (reg.take i);rw[List.length_take]at hs1 hs2;refine k_seq<|k_reg<|sL t_cmp<|s_nil<|xs_then<|k_seq<|k_cond (decide ((i:Int)<(reg.length:Int))) (fun c4=>?_) (fun c4=>?_)
 .have p5:=dY c4;refine k_skip<|xs_then<|k_seq<|k_block<|k_seq<|k_reg<|sL (t_index eTy_ok Tryz.underlying149 (.own 3) (i:Int) i om (by (try simp only[List.length_nil,List.length_cons,List.length_append,List.length_take,List.length_drop,List.length_set,List.length_replicate,List.length_reverse]);omega) om) ?_
  obtain⟨y6,hy7⟩:∃y,reg[i]?=some y:=⟨_,List.getElem?_eq_getElem (by (try simp only[List.length_nil,List.length_cons,List.length_append,List.length_take,List.length_drop,List.length_set,List.length_replicate,List.length_reverse]);omega)⟩;refine sL (t_loadE eTy_ok (.own 3) hy7)<|s_alloc (.agg #[iw 0]) #[iw 0] (fun g8=>?_)
  refine s_store 0 #[iw y6] ?_;refine s_nil<|xs_then<|k_seq<|k_reg<|sL (t_pure (.map (some mb)))<|sL (t_loadA 0 #[iw y6])<|sL (Lt.to (v':=.bool (decide (y6∈A))) (t_lookup 6 eK_ok Tryz.underlying240 (.bool false) y6) (got_set _ _))<|s_nil<|xs_then<|k_cond (decide (y6∈A)) (fun c9=>?_) (fun c9=>?_)
  .have p10:=dY c9;refine k_reg<|sL (t_pure sx)<|sL (t_loadA 0 #[iw y6])<|s_buildSlice (e:=153) [(0,.agg #[iw y6])] #[iw y6] (fun g11=>?_) (hb:=by kernel_rfl)
   refine s_append (L:=(stayL A (reg.take i))) 3 eTy_ok Tryz.underlying149 (.lit 0 eTy_ok [y6]) (by show _*8≤_;(try simp only[List.length_nil,List.length_cons,List.length_append,List.length_take,List.length_drop,List.length_set,List.length_replicate,List.length_reverse]);omega) (by (try simp only[lnm]);omega) (fun v12=>?_);refine sF 3 (fun hf13=>?_);refine sL (t_pure v12)<|s_nil<|xs_block<|xs_then<|k_reg<|sL (t_add (i:Int) 1 (by (try simp only[lnm]);omega))<|sL (t_pure (iw ((i:Int)+1)))<|s_nil ?_
   have hq:=stay_yes (A:=A) hy7 p10;rw[hq.1,hq.2];exact xs_round (v12,gx,i+1) (by show reg.length-(i+1)<reg.length-i;omega) (by show i+1≤reg.length;omega) sA (rr [2,2,2,2,2,2] [6,6])
  have p14:=dF c9;refine k_reg<|sL (t_pure gx)<|sL (t_loadA 0 #[iw y6])<|s_buildSlice (e:=153) [(0,.agg #[iw y6])] #[iw y6] (fun g15=>?_) (hb:=by kernel_rfl)
  refine s_append (L:=(lostL A (reg.take i))) 2 eTy_ok Tryz.underlying149 (.lit 0 eTy_ok [y6]) (by show _*8≤_;(try simp only[lnm]);omega) (by (try simp only[lnm]);omega) (fun v16=>?_);refine sF 2 (fun hf17=>?_);refine sL (t_pure v16)<|s_nil<|xs_block<|xs_then<|k_reg<|sL (t_add (i:Int) 1 (by (try simp only[lnm]);omega))<|sL (t_pure (iw ((i:Int)+1)))<|s_nil ?_
  have hq:=stay_no (A:=A) hy7 p14;rw[hq.1,hq.2];exact xs_round (sx,v16,i+1) (by show reg.length-(i+1)<reg.length-i;omega) (by show i+1≤reg.length;omega) sA (rr [2,2,2,2,2,2] [6,6])
 have p18:=dF c4;refine k_exit ?_;obtain rfl:i=reg.length:=by omega
 rw[List.take_length];have hs3:=stay_len A reg;have hs4:=lost_len A reg;have hs5:=sep_len A reg;refine xs_exit<|xs_exit<|xs_here<|xs_then<|k_seq<|k_reg<|sL (t_pure gx)<|sC [0] (rev_s (L:=(lostL A reg)) (by (try simp only[lnm]);omega)) ?_
 refine s_nil<|xs_then<|k_seq<|k_reg<|sL (t_pure (pB b 0))<|sL (t_pure sx)<|sL (t_pure (pB b 0))<|sL (t_pure (pB b 0))<|sF 1 (fun hf19=>?_)
 refine s_store (u:=sx) (m:=1) 2 #[sx,pq2] ?_ (hm:=by (obtain⟨_,_,e0⟩:=hf19;rw[e0];rfl)) (h1:=by (obtain⟨_,_,e0⟩:=hf19;rw[e0];rfl)) (ha':=by (obtain⟨_,_,e0⟩:=hf19;rw[e0];rfl));refine s_nil<|xs_then<|k_seq<|k_reg<|sL (t_pure (pB b 0))<|sL (t_pure (pB b 0))<|sL (t_pure (pB b 0))<|sL (t_pure (pB b 1))<|sL (t_load 2 pq2)<|sL (t_pure gx)<|s_appendO (L:=pend) 4 eTy_ok Tryz.underlying149 (.own 0) (by show _*8≤_;(try simp only[lnm]);omega) (by (try simp only[lnm]);omega) (fun v20=>?_)
 refine s_fact (fun H h=>((Acc.ownO (T:=eTy) (L:=(pend++(lostL A reg).reverse)) 4 rfl) H h).form) (fun hf21=>?_);refine sL (t_pure (pB b 0))<|sL (t_pure (pB b 1))<|s_store (u:=v20) (m:=1) 2 #[sx,v20] ?_ (hm:=by (obtain⟨_,_,e0⟩:=hf21;rw[e0];rfl)) (h1:=by (obtain⟨_,_,e0⟩:=hf21;rw[e0];rfl)) (ha':=by (obtain⟨_,_,e0⟩:=hf21;rw[e0];rfl))
 refine s_nil<|xs_then<|k_seq<|k_reg<|sL (t_pure gx)<|s_pcall (fun _ h=>ids_s (L:=(lostL A reg).reverse) (Acc.kn (.own 0) h) (by (try simp only[lnm]);omega)) ?_
 rintro v22 _ rfl;refine sF 0 (fun hf23=>?_);refine sL (t_pure v22)<|s_nil<|xs_then<|k_ret<|xs_mem (fun _ h=>q_shut (h.re [3,2,3] [])) ?_
 exact xs_fin [v22] (qA b (stayL A reg) (pend++sepL A reg)::own iTy v22 (sepL A reg)::mpA eK bV mb (setL A)::F) (SI.tmp 4 SI.nil) (rr [0,0,2] [3,3]) rfl
theorem sepa_s{av:Value}{A:List Int}{Z:Zone}{F:List Asr}{b:Nat}{reg pend:List Int}(hA:Kn Z iTy av A)(hr:reg.length≤100000)(hp:pend.length≤100000):SF Tryz.prog 175 #[.pointer (some ⟨b,0,none⟩),av] Z (qA b reg pend::F) fun r Bs=>Bs=qA b (stayL A reg) (pend++sepL A reg)::own iTy r (sepL A reg)::F:=by
 refine sf_enter Tryz.func175 24 [(0,.pointer (some ⟨b,0,none⟩)),(1,av)] (fun w0=>?_);refine k_fact (fun H h=>(hA.get h).len_le) (fun lA=>?_);refine k_seq<|k_reg<|sL (t_pure (.slice none 0 0))<|s_nil<|xs_then<|k_seq<|k_seq<|k_reg<|sL (t_pure (.pointer (some ⟨b,0,none⟩)))<|sL (t_pure (.bool false))<|s_nil<|xs_then<|k_false<|k_skip<|xs_then<|k_seq<|k_reg<|s_makeMap eK bV (fun b1=>?_)
 refine sL (t_pure (.map (some b1)))<|s_nil<|xs_then<|k_seq<|k_seq<|k_reg<|sL (t_pure av)<|sL (t_len iTy_ok Tryz.underlying23 (.zn hA))<|sL (t_pure (iw 0))<|s_nil<|xs_then<|k_block<|k_mem (Bs:=mpA eK bV b1 (setL (A.take 0))::qA b reg pend::F) (fun _ h=>h) ?_
 refine k_loop (ι:=Nat) (fun i=>i≤A.length) (fun i=>[(0,.pointer (some ⟨b,0,none⟩)),(4,(.slice none 0 0)),(5,.map (some b1)),(11,av),(12,iw (A.length:Int)),(13,iw (i:Int))]) (fun i=>mpA eK bV b1 (setL (A.take i))::qA b reg pend::F) (fun i=>A.length-i) 0 (Nat.zero_le _) sA (rr [0,0] []) ?_;rintro i hi2;show SK _ _ _ _ _ [(0,pB b 0),(4,nS),(5,.map (some b1)),(11,av),(12,iw (A.length:Int)),(13,iw (i:Int))] _ (mpA eK bV b1 (setL (A.take i))::qA b reg pend::F);refine k_seq<|k_reg<|sL t_cmp<|s_nil<|xs_then<|k_seq<|k_cond (decide ((i:Int)<(A.length:Int))) (fun c3=>?_) (fun c3=>?_)
 .have p4:=dY c3;refine k_skip<|xs_then<|k_seq<|k_block<|k_seq<|k_reg<|sL (t_index iTy_ok Tryz.underlying23 (.zn hA) (i:Int) i om ol om) ?_
  obtain⟨y5,hy6⟩:∃y,A[i]?=some y:=⟨_,List.getElem?_eq_getElem ol⟩;refine sL (t_loadE iTy_ok (.zn hA) hy6)<|sL (t_pure (iw y5))<|s_nil<|xs_then<|k_reg<|sL (t_pure (.map (some b1)))<|sL (t_pure (iw y5))<|sL (t_kern (.agg #[iw y5]))<|s_update 0 eK_ok Tryz.underlying240 y5 true ?_
  refine s_nil<|xs_block<|xs_then<|k_reg<|sL (t_add (i:Int) 1 ol)<|sL (t_pure (iw ((i:Int)+1)))<|s_nil ?_
  rw[set_take hy6];exact xs_round (i+1) om (by show i+1≤A.length;omega) sA (rr [0,0] [])
 have p7:=dF c3;refine k_exit ?_;rw[List.take_of_length_le (show A.length≤i by omega)];refine xs_exit<|xs_exit<|xs_here<|xs_then<|k_seq<|k_reg<|sL (t_pure (pB b 0))<|sL (t_pure (.map (some b1)))<|s_call [1,0] (separate_s (A:=A) (reg:=reg) (pend:=pend) ol ol) ?_
 rintro v8 _ rfl;refine sF 1 (fun hf9=>?_);refine sL (t_pure v8)<|s_nil<|xs_then<|k_ret ?_
 exact xs_fin _ _ (SI.tmp 4 SI.nil) (rr [0,0] [2]) rfl
theorem set_s{Z:Zone}{lv:Value}{L:List Int}(hL:Kn Z iTy lv L):SF Tryz.prog 116 #[lv] Z [] fun r Bs=>∃b,r=.map (some b)∧Bs=[mpA (Go.Mem.intK 3) bV b (setL L)]:=by
 refine sf_enter Tryz.func116 17 [(0,lv)] (fun w0=>?_);refine k_fact (fun H h=>(hL.get h).len_le) (fun lA=>?_);refine k_seq<|k_reg<|sL (t_pure (.map none))<|s_nil<|xs_then<|k_seq<|k_reg<|s_makeMap (Go.Mem.intK 3) bV (fun b1=>?_)
 refine sL (t_pure (.map (some b1)))<|s_nil<|xs_then<|k_seq<|k_seq<|k_reg<|sL (t_pure lv)<|sL (t_len iTy_ok Tryz.underlying23 (.zn hL))<|sL (t_pure (iw 0))<|s_nil<|xs_then<|k_block<|k_mem (Bs:=[mpA (Go.Mem.intK 3) bV b1 (setL (L.take 0))]) (fun _ h=>h) ?_
 refine k_loop (ι:=Nat) (fun i=>i≤L.length) (fun i=>[(2,.map none),(3,.map (some b1)),(7,lv),(8,iw (L.length:Int)),(9,iw (i:Int))]) (fun i=>[mpA (Go.Mem.intK 3) bV b1 (setL (L.take i))]) (fun i=>L.length-i) 0 (Nat.zero_le _) sA (rr [0] []) ?_;rintro i hi2;show SK _ _ _ _ _ [(2,.map none),(3,.map (some b1)),(7,lv),(8,iw (L.length:Int)),(9,iw (i:Int))] _ [mpA (Go.Mem.intK 3) bV b1 (setL (L.take i))];refine k_seq<|k_reg<|sL t_cmp<|s_nil<|xs_then<|k_seq<|k_cond (decide ((i:Int)<(L.length:Int))) (fun c3=>?_) (fun c3=>?_)
 .have p4:=dY c3;refine k_skip<|xs_then<|k_seq<|k_block<|k_seq<|k_reg<|sL (t_index iTy_ok Tryz.underlying23 (.zn hL) (i:Int) i om ol om) ?_
  obtain⟨y5,hy6⟩:∃y,L[i]?=some y:=⟨_,List.getElem?_eq_getElem ol⟩;refine sL (t_loadE iTy_ok (.zn hL) hy6)<|sL (t_pure (iw y5))<|s_nil<|xs_then<|k_reg<|sL (t_pure (.map (some b1)))<|sL (t_pure (iw y5))<|s_update 0 intOk Tryz.underlying95 y5 true ?_
  refine s_nil<|xs_block<|xs_then<|k_reg<|sL (t_add (i:Int) 1 ol)<|sL (t_pure (iw ((i:Int)+1)))<|s_nil ?_
  rw[set_take hy6];exact xs_round (i+1) om (by show i+1≤L.length;omega) sA (rr [0] [])
 have p7:=dF c3;refine k_exit<|xs_exit<|xs_exit<|xs_here<|xs_then<|k_seq<|k_reg<|sL (t_pure (.map (some b1)))<|sL (t_pure (.map (some b1)))<|s_nil<|xs_then<|k_ret ?_
 exact xs_fin _ _ (SI.tmp 2 SI.nil) (fun _ h=>by rw[List.take_of_length_le (show L.length≤i by omega)]at h;exact h.re [0] []) ⟨b1,rfl,rfl⟩
end Go.Proofs.YtmhpcebiamkciaaGreat
end
section
set_option linter.unusedSimpArgs false
set_option linter.unusedVariables false
set_option maxRecDepth 100000
set_option maxHeartbeats 2000000
namespace Go.Proofs.YtmhpcebiamkciaaGreat
open Go.Hp Go.J Go.S
open Go.Mem (Ty KTy blk elemAt pre suf blk_pre blk_suf aget aset strK aggDesc)
open Go.Mem (adel apos aget_aset aget_adel)
def valB(A:List Int)(e:Ent):Bool:=decide (e.val=0)||decide (e.val∈A)
def unvB(A:List Int)(x:Ob):Bool:=decide (x.id∈A)&&(decide (x.weak=2)||decide (x.weak=3))
def unv(A:List Int)(x:Ob):Core:=(x.id,x.size,x.weak,x.refs,if unvB A x=true then x.ents.filter (valB A) else x.ents)
def SlO(x:Ob)(H:Heap):Prop:=Sl H iTy x.rv.v x.refs∧Sl H EntT x.ev.v x.ents
section
variable{Z:Zone}{As:List Asr}{H:Heap}{ov rv:Value}{l:List Ob}{R:List Int}
theorem zob_old{x:Ob}(hx:KnO Z x)(h:Holds Z As H):Holds Z (zfr Z (SlO x)::As) H:=h.zfr0 fun H hz=>⟨hx.1 H hz,hx.2 H hz⟩
theorem zob_new{x:Ob}(hx:KnO Z x)(nb:Ob)(h:Holds Z (own EntT nb.ev.v nb.ents::As) H)(e1:nb.rv=x.rv:=by rfl)(e2:nb.refs=x.refs:=by rfl):Holds Z (zfr Z (SlO nb)::As) H:=by
 have h1:=h.zfr0 (F:=fun H=>Sl H iTy x.rv.v x.refs) fun H hz=>hx.1 H hz
 have h2:Holds Z (own EntT nb.ev.v nb.ents::zfr Z (fun H=>Sl H iTy x.rv.v x.refs)::As) H:=h1.swap;exact h2.zfrO.zfrM fun H hz ⟨a,b⟩=>⟨by rw[e1,e2];exact b,a⟩
theorem zall_push{L:List Ob}(nb:Ob)(h:Holds Z (zfr Z (SlO nb)::zfr Z (AllO L)::As) H):Holds Z (zfr Z (AllO (L++[nb]))::As) H:=
 h.zfrJ.zfrM fun H _ ⟨a,b⟩ x hx=>by
  rcases List.mem_append.1 hx with hx|hx
  .exact b x hx
  simp at hx;subst hx;exact a
theorem zall_nil(h:Holds Z As H):Holds Z (zfr Z (AllO [])::As) H:=h.zfr0 fun H _ x hx=>by cases hx
theorem zgr_shut{L:List Ob}(hR:Kn Z iTy rv R)(h:Holds Z (own ObT ov L::zfr Z (AllO L)::As) H):Holds Z (zfr Z (GrA ov rv L R)::As) H:=
 h.zfrO.zfrM fun H hz ⟨a,b⟩=>⟨a,hR H hz,b⟩
theorem zgr_cut{N l1 l2:List Ob}{o1 o2 r2:Value}{R2:List Int}(hN:∀x∈N,x∈l2)(h:Holds Z (own ObT ov N::frz (GrA o2 r2 l2 R2)::zfr Z (GrA o1 rv l1 R)::As) H):Holds Z (zfr Z (GrA ov rv N R)::As) H:=by
 have h1:Holds Z (frz (GrA o2 r2 l2 R2)::zfr Z (GrA o1 rv l1 R)::own ObT ov N::As) H:=h.re [1,1] [];have h2:Holds Z (own ObT ov N::zfr Z (fun H=>GrA o2 r2 l2 R2 H∧GrA o1 rv l1 R H)::As) H:=(h1.toZ.zfrJ).swap;exact h2.zfrO.zfrM fun H _ ⟨a,b,c⟩=>⟨a,c.2.1,fun x hx=>b.2.2 x (hN x hx)⟩
theorem accZF(i:Nat)(hi:gt As i=some (zfr Z (GrA ov rv l R)):=by rfl):Acc Z As ObT ov l:=fun H h=>(h.zfrF i hi).1
theorem accZR(i:Nat)(hi:gt As i=some (zfr Z (GrA ov rv l R)):=by rfl):Acc Z As iTy rv R:=fun H h=>(h.zfrF i hi).2.1
theorem gr_more{v:Value}{M:List Int}(hG:GrA ov rv l R H)(hv:Kn (zoneOf H) iTy v M):KnG (zoneOf H) ov v l M:=⟨hG.kn.obs,hv,hG.kn.each⟩
end
theorem cleared_s{Z:Zone}{F:List Asr}{x:Ob}{mb:Nat}{A:List Int}(hx:KnO Z x)(hsm:x.refs.length≤400∧x.ents.length≤100000):SF Tryz.prog 176 #[x.v,.map (some mb)] Z (mpA (Go.Mem.intK 3) bV mb (setL A)::F) fun r Bs=>∃x',r=x'.v∧x'.c=unv A x∧Bs=zfr Z (SlO x')::mpA (Go.Mem.intK 3) bV mb (setL A)::F:=by
 refine sf_enter Tryz.func176 48 [(0,.agg #[iw x.id,iw x.size,iw x.weak,x.rv.v,x.ev.v]),(1,.map (some mb))] (fun w0=>?_);refine k_seq<|k_reg<|s_box #[iw x.id,iw x.size,iw x.weak,x.rv.v,x.ev.v] (fun g1=>?_)
 refine s_alloc (.agg #[iw 0,iw 0,iw 0,(.slice none 0 0),(.slice none 0 0)]) #[iw 0,iw 0,iw 0,(.slice none 0 0),(.slice none 0 0)] (fun g2=>?_);refine s_nil<|xs_then<|k_seq<|k_cut (ι:=Unit) (fun _=>True) (fun _=>[(1,.map (some mb)),(2,.pointer (some ⟨g1,0,none⟩)),(4,.pointer (some ⟨g2,0,none⟩)),(22,.bool ((!(decide (x.id∈A)))||((decide (x.weak≠2))&&(decide (x.weak≠3)))))]) (fun _=>blkA g2 #[iw 0,iw 0,iw 0,(.slice none 0 0),(.slice none 0 0)] 100::blkA g1 #[iw x.id,iw x.size,iw x.weak,x.rv.v,x.ev.v] 100::mpA (Go.Mem.intK 3) bV mb (setL A)::F) ?_ (fun _ _=>?_)
 .refine k_reg<|sL (t_pure (.map (some mb)))<|sL (t_pure (.pointer (some ⟨g1,0,none⟩)))<|sL (t_load 1 (iw x.id))<|sL (Lt.to (v':=.bool (decide (x.id∈A))) (t_lookup 2 intOk Tryz.underlying95 (.bool false) x.id) (got_set _ _))<|sL (t_pure (.bool (!(decide (x.id∈A)))))<|sL (t_pure (.bool (!(decide (x.id∈A)))))<|s_fork 13 (!(decide (x.id∈A))) (fun c3=>?_) (fun c3=>?_)
  .have c4:=not_t c3;have p5:=dF c4;refine sK<|sK<|sK<|sK<|sK<|sK<|sK<|sK<|sL (t_pure (.bool true))<|s_nil ?_
   exact xs_cut () trivial (sub_of rfl (rQ (rQ (rQ ⟨⟨rfl,show Value.bool true=Value.bool ((!(decide (x.id∈A)))||((decide (x.weak≠2))&&(decide (x.weak≠3)))) by first|(simp only[c3,Bool.true_and,Bool.false_and,Bool.and_true,Bool.and_false,Bool.true_or,Bool.or_true,Bool.false_or,Bool.or_false,Bool.not_true,Bool.not_false];done)|simp[c3]⟩,trivial⟩)))) (rr [0,0,0] [])
  have c6:=not_f c3;have p7:=dY c6;refine sL (t_pure (.pointer (some ⟨g1,2,none⟩)))<|sL (t_load 1 (iw x.weak))<|sL t_cmp<|sL (t_pure (.bool (decide (x.weak≠2))))<|s_fork 17 (decide (x.weak≠2)) (fun c8=>?_) (fun c8=>?_)
  .have p9:=dY c8;refine sL (t_pure (pB g1 2))<|sL (t_load 1 (iw x.weak))<|sL t_cmp<|sL (t_pure (.bool (decide (x.weak≠3))))<|sL (t_pure (.bool (decide (x.weak≠3))))<|s_nil ?_
   exact xs_cut () trivial (sub_of rfl (rQ (rQ (rQ ⟨⟨rfl,show Value.bool (decide (x.weak≠3))=Value.bool ((!(decide (x.id∈A)))||((decide (x.weak≠2))&&(decide (x.weak≠3)))) by first|(simp only[c3,c8,Bool.true_and,Bool.false_and,Bool.and_true,Bool.and_false,Bool.true_or,Bool.or_true,Bool.false_or,Bool.or_false,Bool.not_true,Bool.not_false];done)|simp[c3,c8]⟩,trivial⟩)))) (rr [0,0,0] [])
  have p10:=Decidable.not_not.1 (dF c8);refine sK<|sK<|sK<|sL (t_pure (.bool false))<|sL (t_pure (.bool false))<|s_nil ?_
  exact xs_cut () trivial (sub_of rfl (rQ (rQ (rQ ⟨⟨rfl,show Value.bool false=Value.bool ((!(decide (x.id∈A)))||((decide (x.weak≠2))&&(decide (x.weak≠3)))) by first|(simp only[c3,c8,Bool.true_and,Bool.false_and,Bool.and_true,Bool.and_false,Bool.true_or,Bool.or_true,Bool.false_or,Bool.or_false,Bool.not_true,Bool.not_false];done)|simp[c3,c8]⟩,trivial⟩)))) (rr [0,0,0] [])
 refine k_cond ((!(decide (x.id∈A)))||((decide (x.weak≠2))&&(decide (x.weak≠3)))) (fun c11=>?_) (fun c11=>?_)
 .have p12:=c11;simp only[Bool.and_eq_true,Bool.or_eq_true,Bool.and_eq_false_iff,Bool.or_eq_false_iff,Bool.not_eq_true',Bool.not_eq_false',decide_eq_true_eq,decide_eq_false_iff_not]at p12;refine k_seq<|k_reg<|sL (t_loadA 1 #[iw x.id,iw x.size,iw x.weak,x.rv.v,x.ev.v])<|s_store 0 #[iw x.id,iw x.size,iw x.weak,x.rv.v,x.ev.v] ?_
  refine s_nil<|xs_then<|k_ret<|xs_ret ?_
  have hu:unvB A x=false:=(by have h:=c11;revert h;unfold unvB;generalize decide (x.id∈A)=b1;rw[show decide (x.weak≠2)=!decide (x.weak=2) by simp,show decide (x.weak≠3)=!decide (x.weak=3) by simp];generalize decide (x.weak=2)=b2;generalize decide (x.weak=3)=b3;revert b1 b2 b3;decide);exact xs_fin [x.v] (zfr Z (SlO x)::mpA (Go.Mem.intK 3) bV mb (setL A)::F) (SI.agg 4 100 0 SI.nil) (fun _ h=>(zob_old hx h).re [0,2] [2,2]) ⟨x,rfl,by unfold unv;rw[hu];rfl,rfl⟩
 obtain⟨c13,c14⟩:=or_f c11;have c15:=not_f c13;have p16:=dY c15;have p17:=c14;simp only[Bool.and_eq_true,Bool.or_eq_true,Bool.and_eq_false_iff,Bool.or_eq_false_iff,Bool.not_eq_true',Bool.not_eq_false',decide_eq_true_eq,decide_eq_false_iff_not]at p17;refine k_skip<|xs_then<|k_seq<|k_reg<|sL (t_pure (.slice none 0 0))<|s_nil<|xs_then<|k_seq<|k_seq<|k_reg<|sL (t_pure (pB g1 4))<|sL (t_load 1 x.ev.v)<|sL (t_len EntT_ok Tryz.underlying98 (.zn hx.2))<|sL (t_pure (iw 0))<|s_nil<|xs_then<|k_block<|k_mem (fun _ h=>Holds.nilS (T:=EntT) h) ?_
 refine k_mem (Bs:=own EntT (.slice none 0 0) ((x.ents.take 0).filter (valB A))::blkA g2 #[iw 0,iw 0,iw 0,(.slice none 0 0),(.slice none 0 0)] 100::blkA g1 #[iw x.id,iw x.size,iw x.weak,x.rv.v,x.ev.v] 100::mpA (Go.Mem.intK 3) bV mb (setL A)::F) (fun _ h=>h) ?_;refine k_loop (ι:=Value×Nat) (fun (sy,k)=>k≤x.ents.length) (fun (sy,k)=>[(1,.map (some mb)),(2,.pointer (some ⟨g1,0,none⟩)),(4,.pointer (some ⟨g2,0,none⟩)),(5,sy),(25,x.ev.v),(26,iw (x.ents.length:Int)),(27,iw (k:Int))]) (fun (sy,k)=>own EntT sy ((x.ents.take k).filter (valB A))::blkA g2 #[iw 0,iw 0,iw 0,(.slice none 0 0),(.slice none 0 0)] 100::blkA g1 #[iw x.id,iw x.size,iw x.weak,x.rv.v,x.ev.v] 100::mpA (Go.Mem.intK 3) bV mb (setL A)::F) (fun (sy,k)=>x.ents.length-k) (.slice none 0 0,0) (Nat.zero_le _) sA (rr [0,0,0,0] []) ?_;rintro⟨sy,k⟩ hi18;replace hi18:k≤x.ents.length:=hi18;show SK _ _ _ _ _ [(1,.map (some mb)),(2,.pointer (some ⟨g1,0,none⟩)),(4,.pointer (some ⟨g2,0,none⟩)),(5,sy),(25,x.ev.v),(26,iw (x.ents.length:Int)),(27,iw (k:Int))] _ (own EntT sy ((x.ents.take k).filter (valB A))::blkA g2 #[iw 0,iw 0,iw 0,(.slice none 0 0),(.slice none 0 0)] 100::blkA g1 #[iw x.id,iw x.size,iw x.weak,x.rv.v,x.ev.v] 100::mpA (Go.Mem.intK 3) bV mb (setL A)::F);have hfl:=List.length_filter_le (valB A) (x.ents.take k);rw[List.length_take]at hfl;refine k_seq<|k_reg<|sL t_cmp<|s_nil<|xs_then<|k_seq<|k_cond (decide ((k:Int)<(x.ents.length:Int))) (fun c19=>?_) (fun c19=>?_)
 .have p20:=dY c19;refine k_skip<|xs_then<|k_seq<|k_block<|k_seq<|k_reg<|sL (t_index EntT_ok Tryz.underlying98 (.zn hx.2) (k:Int) k om (by (try simp only[List.length_nil,List.length_cons,List.length_append,List.length_take,List.length_drop,List.length_set,List.length_replicate,List.length_reverse]);omega) om) ?_
  obtain⟨y21,hy22⟩:∃y,x.ents[k]?=some y:=⟨_,List.getElem?_eq_getElem (by (try simp only[lnm]);omega)⟩;refine sL (t_loadE EntT_ok (.zn hx.2) hy22)<|s_alloc (.agg #[iw 0,iw 0]) #[iw 0,iw 0] (fun g23=>?_)
  refine s_store 0 #[iw y21.key,iw y21.val] ?_;refine s_nil<|xs_then<|k_cut (ι:=Unit) (fun _=>True) (fun _=>[(1,.map (some mb)),(2,.pointer (some ⟨g1,0,none⟩)),(4,.pointer (some ⟨g2,0,none⟩)),(5,sy),(7,.pointer (some ⟨g23,0,none⟩)),(25,x.ev.v),(26,iw (x.ents.length:Int)),(27,iw (k:Int)),(28,.bool (decide ((k:Int)<(x.ents.length:Int)))),(29,.pointer (some (elemAt EntT.size x.ev.v k))),(30,.agg #[iw y21.key,iw y21.val]),(31,.pointer (some ⟨g23,1,none⟩)),(32,iw y21.val),(33,.bool (decide (y21.val=0))),(34,.bool (decide (y21.val=0))),(39,.bool ((decide (y21.val=0))||(decide (y21.val∈A))))]) (fun _=>blkA g23 #[iw y21.key,iw y21.val] 167::own EntT sy ((x.ents.take k).filter (valB A))::blkA g2 #[iw 0,iw 0,iw 0,nS,nS] 100::blkA g1 #[iw x.id,iw x.size,iw x.weak,x.rv.v,x.ev.v] 100::mpA (Go.Mem.intK 3) bV mb (setL A)::F) ?_ (fun _ _=>?_)
  .refine k_reg<|sL (t_pure (pB g23 1))<|sL (t_load 0 (iw y21.val))<|sL t_cmp<|sL (t_pure (.bool (decide (y21.val=0))))<|s_fork 34 (decide (y21.val=0)) (fun c24=>?_) (fun c24=>?_)
   .have p25:=dY c24;refine sK<|sK<|sK<|sK<|sL (t_pure (.bool true))<|s_nil ?_
    exact xs_cut () trivial (sub_of rfl (rQ (rQ (rQ (rQ (rQ (rQ (rQ (rQ (rQ (rQ (rQ (rQ (rQ (rQ ⟨⟨rfl,show Value.bool true=Value.bool (decide (y21.val=0)) by first|(simp only[c24,bls];done)|simp[c24]⟩,⟨⟨rfl,show Value.bool true=Value.bool ((decide (y21.val=0))||(decide (y21.val∈A))) by first|(simp only[c24,bls];done)|simp[c24]⟩,trivial⟩⟩))))))))))))))) (rr [0,0,0,0,0] [])
   have p26:=dF c24;refine sL (t_pure (.map (some mb)))<|sL (t_pure (pB g23 1))<|sL (t_load 0 (iw y21.val))<|sL (Lt.to (v':=.bool (decide (y21.val∈A))) (t_lookup 4 intOk Tryz.underlying95 (.bool false) y21.val) (got_set _ _))<|sL (t_pure (.bool (decide (y21.val∈A))))<|s_nil ?_
   exact xs_cut () trivial (sub_of rfl (rQ (rQ (rQ (rQ (rQ (rQ (rQ (rQ (rQ (rQ (rQ (rQ (rQ (rQ ⟨⟨rfl,show Value.bool false=Value.bool (decide (y21.val=0)) by first|(simp only[c24,bls];done)|simp[c24]⟩,⟨⟨rfl,show Value.bool (decide (y21.val∈A))=Value.bool ((decide (y21.val=0))||(decide (y21.val∈A))) by first|(simp only[c24,bls];done)|simp[c24]⟩,trivial⟩⟩))))))))))))))) (rr [0,0,0,0,0] [])
  refine k_cond ((decide (y21.val=0))||(decide (y21.val∈A))) (fun c27=>?_) (fun c27=>?_)
  .have p28:=c27;simp only[Bool.and_eq_true,Bool.or_eq_true,Bool.and_eq_false_iff,Bool.or_eq_false_iff,Bool.not_eq_true',Bool.not_eq_false',decide_eq_true_eq,decide_eq_false_iff_not]at p28;refine k_reg<|sL (t_pure sy)<|sL (t_loadA 0 #[iw y21.key,iw y21.val])<|s_buildSlice (e:=167) [(0,.agg #[iw y21.key,iw y21.val])] #[iw y21.key,iw y21.val] (fun g29=>?_) (hb:=by kernel_rfl)
   refine s_append (L:=((x.ents.take k).filter (valB A))) 2 EntT_ok Tryz.underlying98 (.lit 0 EntT_ok [y21]) (by show _*16≤_;(try simp only[lnm]);omega) (by (try simp only[lnm]);omega) (fun v30=>?_);refine sF 2 (fun hf31=>?_);refine sL (t_pure v30)<|s_nil<|xs_block<|xs_then<|k_reg<|sL (t_add (k:Int) 1 (by (try simp only[lnm]);omega))<|sL (t_pure (iw ((k:Int)+1)))<|s_nil ?_
   rw[filt_yes (p:=valB A) hy22 (by have h:=c27;revert h;unfold valB;generalize decide (y21.val=0)=b1;generalize decide (y21.val∈A)=b2;revert b1 b2;decide)];exact xs_round (v30,k+1) (by show x.ents.length-(k+1)<x.ents.length-k;omega) (by show k+1≤x.ents.length;omega) sA (rr [2,2,2,2] [4,4])
  obtain⟨c32,c33⟩:=or_f c27;have p34:=dF c32;have p35:=dF c33;refine k_skip<|xs_block<|xs_then<|k_reg<|sL (t_add (k:Int) 1 (by (try simp only[lnm]);omega))<|sL (t_pure (iw ((k:Int)+1)))<|s_nil ?_
  rw[filt_no (p:=valB A) hy22 (by have h:=c27;revert h;unfold valB;generalize decide (y21.val=0)=b1;generalize decide (y21.val∈A)=b2;revert b1 b2;decide)];exact xs_round (sy,k+1) (by show x.ents.length-(k+1)<x.ents.length-k;omega) (by show k+1≤x.ents.length;omega) sA (rr [1,1,1,1] [4])
 have p36:=dF c19;refine k_exit ?_;obtain rfl:k=x.ents.length:=by omega
 rw[List.take_length];have hfl:=List.length_filter_le (valB A) x.ents;refine xs_exit<|xs_exit<|xs_here<|xs_then<|k_seq<|k_reg<|sL (t_pure sy)<|sL (t_pure (pB g1 4))<|sF 0 (fun hf37=>?_)
 refine s_store (u:=sy) (m:=1) 2 #[iw x.id,iw x.size,iw x.weak,x.rv.v,sy] ?_ (hm:=by (obtain⟨_,_,e0⟩:=hf37;rw[e0];rfl)) (h1:=by (obtain⟨_,_,e0⟩:=hf37;rw[e0];rfl)) (ha':=by (obtain⟨_,_,e0⟩:=hf37;rw[e0];rfl));refine s_nil<|xs_then<|k_seq<|k_reg ?_
 obtain⟨pp38,cc39,e⟩:=hf37;subst e;refine sL (t_loadA 2 #[iw x.id,iw x.size,iw x.weak,x.rv.v,(.slice pp38 (x.ents.filter (valB A)).length cc39)])<|s_store 1 #[iw x.id,iw x.size,iw x.weak,x.rv.v,(.slice pp38 (x.ents.filter (valB A)).length cc39)] ?_
 refine s_nil<|xs_then<|k_ret ?_
 have hu:unvB A x=true:=(by have h:=c11;revert h;unfold unvB;generalize decide (x.id∈A)=b1;rw[show decide (x.weak≠2)=!decide (x.weak=2) by simp,show decide (x.weak≠3)=!decide (x.weak=3) by simp];generalize decide (x.weak=2)=b2;generalize decide (x.weak=3)=b3;revert b1 b2 b3;decide);exact xs_fin [.agg #[iw x.id,iw x.size,iw x.weak,x.rv.v,(.slice pp38 (x.ents.filter (valB A)).length cc39)]] (zfr Z (SlO (⟨x.id,x.size,x.weak,x.rv,⟨pp38,(x.ents.filter (valB A)).length,cc39⟩,x.refs,(x.ents.filter (valB A))⟩:Ob))::mpA (Go.Mem.intK 3) bV mb (setL A)::F) (SI.agg 4 100 1 SI.nil) (fun _ h=>zob_new hx (⟨x.id,x.size,x.weak,x.rv,⟨pp38,(x.ents.filter (valB A)).length,cc39⟩,x.refs,(x.ents.filter (valB A))⟩:Ob) (h.re [0,2] [2,2])) ⟨(⟨x.id,x.size,x.weak,x.rv,⟨pp38,(x.ents.filter (valB A)).length,cc39⟩,x.refs,(x.ents.filter (valB A))⟩:Ob),rfl,by unfold unv;rw[hu];rfl,rfl⟩
theorem cloneE_s{Z:Zone}{lv:Value}{L:List Ent}(hL:Kn Z EntT lv L)(hl:L.length≤1000000):SF Tryz.prog 178 #[lv] Z [] fun r Bs=>Bs=[own EntT r L]:=by
 refine sf_enter Tryz.func178 8 [(0,lv)] (fun w0=>?_);refine k_factH (fun H h=>hL.get h) (fun H0 hsl=>?_);refine k_seq<|k_reg<|sL (t_pure nS)<|s_nil<|xs_then<|k_seq<|k_seq<|k_reg<|sL (t_pure lv)<|sL (t_nilS Tryz.underlying98 (.zn hL))<|s_nil<|xs_then<|k_cond (nilS lv) (fun c1=>?_) (fun c1=>?_)
 .refine k_seq<|k_reg<|sL (t_pure nS)<|s_nil<|xs_then<|k_ret<|xs_ret ?_
  have hn:L=[]:=(nilS_spec hsl c1).2;exact xs_fin _ _ (SI.tmp 2 SI.nil) (fun _ h=>by rw[hn];exact h.nilS.re [0] []) rfl
 refine k_skip<|xs_then<|k_seq<|k_reg<|s_buildSlice (e:=167) [] #[] (fun g2=>?_) (hb:=by kernel_rfl)
 refine sL (t_pure lv)<|s_mem (fun _ h=>Holds.slice 0 h EntT_ok []) ?_
 refine s_append (L:=[]) 0 EntT_ok Tryz.underlying98 (.zn hL) (by show _*16≤_;(try simp only[lnm]);omega) ol (fun v3=>?_);rw[List.nil_append];refine sF 0 (fun hf4=>?_);refine sL (t_pure v3)<|s_nil<|xs_then<|k_ret ?_
 exact xs_fin _ _ (SI.tmp 2 SI.nil) (rr [0] []) rfl
theorem gclone_g{Z:Zone}{ov rv:Value}{l:List Ob}{R:List Int}(hg:KnG Z ov rv l R)(hl:l.length≤100000)(hr:R.length≤100000)(hsm:∀o∈l,o.refs.length≤400∧o.ents.length≤100000):SF Tryz.prog 117 #[.agg #[ov,rv]] Z [] fun r Bs=>∃ov' rv' l',r=.agg #[ov',rv']∧l'.map Ob.c=l.map Ob.c∧Bs=[frz (GrA ov' rv' l' R)]:=by
 refine sf_enter Tryz.func117 33 [(0,.agg #[ov,rv])] (fun w0=>?_);refine k_seq<|k_reg<|s_box #[ov,rv] (fun g1=>?_)
 refine s_alloc (.agg #[(.slice none 0 0),(.slice none 0 0)]) #[(.slice none 0 0),(.slice none 0 0)] (fun g2=>?_);refine s_nil<|xs_then<|k_seq<|k_reg<|sL (t_pure (.pointer (some ⟨g1,1,none⟩)))<|sL (t_load 1 rv)<|s_pcall (fun _ h=>clone_s (Acc.kn (.zn hg.roots) h) (by (try simp only[List.length_nil,List.length_cons,List.length_append,List.length_take,List.length_drop,List.length_set,List.length_replicate,List.length_reverse]);omega)) ?_
 rintro v3 _ rfl;refine sF 0 (fun hf4=>?_);refine sL (show Lt _ _ _ _ _ (.agg #[(.slice none 0 0),v3]) from by obtain⟨_,_,e⟩:=hf4;rw[e];clear e;exact t_kern _)<|s_alloc (.agg #[(.slice none 0 0),(.slice none 0 0)]) #[(.slice none 0 0),(.slice none 0 0)] (fun g5=>?_)
 refine s_store (u:=.agg #[(.slice none 0 0),v3]) (m:=2) 0 #[(.slice none 0 0),v3] ?_ (hm:=by (obtain⟨_,_,e0⟩:=hf4;rw[e0];rfl)) (h1:=by (obtain⟨_,_,e0⟩:=hf4;rw[e0];rfl)) (ha':=by (obtain⟨_,_,e0⟩:=hf4;rw[e0];rfl));refine s_nil<|xs_then<|k_seq<|k_seq<|k_reg<|sL (t_pure (pB g1 0))<|sL (t_load 3 ov)<|sL (t_len ObT_ok Tryz.underlying55 (.zn hg.obs))<|sL (t_pure (iw 0))<|s_nil<|xs_then<|k_block<|k_mem (fun _ h=>Holds.nilS (T:=ObT) (h.frz0 (F:=AllO []) (by intro _ x hx;cases hx))) ?_
 refine k_loop (ι:=Value×List Ob×Nat) (fun (ox,N,j)=>j≤l.length∧N.map Ob.c=(l.take j).map Ob.c) (fun (ox,N,j)=>[(2,.pointer (some ⟨g2,0,none⟩)),(3,.pointer (some ⟨g5,0,none⟩)),(11,ov),(12,iw (l.length:Int)),(13,iw (j:Int))]) (fun (ox,N,j)=>[own ObT ox N,frz (AllO N),blkA g5 #[ox,v3] 57,own iTy v3 R,blkA g2 #[(.slice none 0 0),(.slice none 0 0)] 57,blkA g1 #[ov,rv] 57]) (fun (ox,N,j)=>l.length-j) (.slice none 0 0,[],0) ⟨Nat.zero_le _,rfl⟩ sA (rr [0,0,0,0,0,0] []) ?_;rintro⟨ox,N,j⟩ hi6;replace hi6:j≤l.length∧N.map Ob.c=(l.take j).map Ob.c:=hi6;show SK _ _ _ _ _ [(2,.pointer (some ⟨g2,0,none⟩)),(3,.pointer (some ⟨g5,0,none⟩)),(11,ov),(12,iw (l.length:Int)),(13,iw (j:Int))] _ [own ObT ox N,frz (AllO N),blkA g5 #[ox,v3] 57,own iTy v3 R,blkA g2 #[(.slice none 0 0),(.slice none 0 0)] 57,blkA g1 #[ov,rv] 57];have hNl:N.length=j:=by have:=congrArg List.length hi6.2;simp only[List.length_map,List.length_take]at this;omega
 refine k_seq<|k_reg<|sL t_cmp<|s_nil<|xs_then<|k_seq<|k_cond (decide ((j:Int)<(l.length:Int))) (fun c7=>?_) (fun c7=>?_)
 .have p8:=dY c7;refine k_skip<|xs_then<|k_seq<|k_block<|k_seq<|k_reg<|sL (t_index ObT_ok Tryz.underlying55 (.zn hg.obs) (j:Int) j om (by (try simp only[List.length_nil,List.length_cons,List.length_append,List.length_take,List.length_drop,List.length_set,List.length_replicate,List.length_reverse]);omega) om) ?_
  obtain⟨y9,hy10⟩:∃y,l[j]?=some y:=⟨_,List.getElem?_eq_getElem (by (try simp only[lnm]);omega)⟩;have hk11:=hg.each y9 (List.mem_of_getElem? hy10);have hsy:=hsm y9 (List.mem_of_getElem? hy10);refine sL (t_loadE ObT_ok (.zn hg.obs) hy10)<|s_alloc (.agg #[iw 0,iw 0,iw 0,(.slice none 0 0),(.slice none 0 0)]) #[iw 0,iw 0,iw 0,nS,nS] (fun g12=>?_)
  refine s_store 0 #[iw y9.id,iw y9.size,iw y9.weak,y9.rv.v,y9.ev.v] ?_;refine s_nil<|xs_then<|k_seq<|k_reg<|sL (t_pure (pB g12 3))<|sL (t_load 0 y9.rv.v)<|s_pcall (fun _ h=>clone_s (Acc.kn (.zn hk11.1) h) (by (try simp only[lnm]);omega)) ?_
  rintro v13 _ rfl;refine sF 0 (fun hf14=>?_);refine sL (t_pure (pB g12 3))<|s_store (u:=v13) (m:=1) 1 #[iw y9.id,iw y9.size,iw y9.weak,v13,y9.ev.v] ?_ (hm:=by (obtain⟨_,_,e0⟩:=hf14;rw[e0];rfl)) (h1:=by (obtain⟨_,_,e0⟩:=hf14;rw[e0];rfl)) (ha':=by (obtain⟨_,_,e0⟩:=hf14;rw[e0];rfl))
  refine s_nil<|xs_then<|k_seq<|k_reg<|sL (t_pure (pB g12 4))<|sL (t_load 1 y9.ev.v)<|s_pcall (fun _ h=>cloneE_s (L:=y9.ents) (Acc.kn (.zn hk11.2) h) (by (try simp only[lnm]);omega)) ?_
  rintro v15 _ rfl;refine sF 0 (fun hf16=>?_);refine sL (t_pure (pB g12 4))<|s_store (u:=v15) (m:=1) 2 #[iw y9.id,iw y9.size,iw y9.weak,v13,v15] ?_ (hm:=by (obtain⟨_,_,e0⟩:=hf16;rw[e0];rfl)) (h1:=by (obtain⟨_,_,e0⟩:=hf16;rw[e0];rfl)) (ha':=by (obtain⟨_,_,e0⟩:=hf16;rw[e0];rfl))
  refine s_nil<|xs_then<|k_reg<|sL (t_pure (pB g5 0))<|sL (t_load 5 ox) ?_
  obtain⟨pp17,cc18,e⟩:=hf14;subst e;obtain⟨pp19,cc20,e⟩:=hf16;subst e;refine sL (t_loadA 2 #[iw y9.id,iw y9.size,iw y9.weak,(.slice pp17 y9.refs.length cc18),(.slice pp19 y9.ents.length cc20)])<|s_buildSlice (e:=100) [(0,.agg #[iw y9.id,iw y9.size,iw y9.weak,(.slice pp17 y9.refs.length cc18),(.slice pp19 y9.ents.length cc20)])] #[iw y9.id,iw y9.size,iw y9.weak,(.slice pp17 y9.refs.length cc18),(.slice pp19 y9.ents.length cc20)] (fun g21=>?_) (hb:=by kernel_rfl)
  refine s_append (L:=N) 4 ObT_ok Tryz.underlying55 (.lit 0 ObT_ok [(⟨y9.id,y9.size,y9.weak,⟨pp17,y9.refs.length,cc18⟩,⟨pp19,y9.ents.length,cc20⟩,y9.refs,y9.ents⟩:Ob)]) (by show _*72≤_;(try simp only[lnm]);omega) (by (try simp only[lnm]);omega) (fun v22=>?_);refine sF 4 (fun hf23=>?_);refine sL (t_pure (pB g5 0))<|s_store (u:=v22) (m:=1) 6 #[v22,v3] ?_ (hm:=by (obtain⟨_,_,e0⟩:=hf23;rw[e0];rfl)) (h1:=by (obtain⟨_,_,e0⟩:=hf23;rw[e0];rfl)) (ha':=by (obtain⟨_,_,e0⟩:=hf23;rw[e0];rfl))
  refine s_nil<|xs_block<|xs_then<|k_reg<|sL (t_add (j:Int) 1 (by (try simp only[lnm]);omega))<|sL (t_pure (iw ((j:Int)+1)))<|s_nil<|xs_mem (fun _ h=>frz_push (⟨y9.id,y9.size,y9.weak,⟨pp17,y9.refs.length,cc18⟩,⟨pp19,y9.ents.length,cc20⟩,y9.refs,y9.ents⟩:Ob) (h.re [2,1,3] [])) ?_
  exact xs_round (v22,N++[(⟨y9.id,y9.size,y9.weak,⟨pp17,y9.refs.length,cc18⟩,⟨pp19,y9.ents.length,cc20⟩,y9.refs,y9.ents⟩:Ob)],j+1) (by show l.length-(j+1)<l.length-j;omega) (by obtain⟨hk1,hk2⟩:=hi6;exact⟨by omega,map_snoc hy10 hk2 rfl⟩) sA (rr [3,0,2,2,2,2] [6,6])
 have p24:=dF c7;refine k_exit<|xs_exit<|xs_exit<|xs_here<|xs_then<|k_seq<|k_reg<|sL (t_loadA 2 #[ox,v3])<|sF 0 (fun hf25=>?_)
 refine s_store (u:=.agg #[ox,v3]) (m:=2) 4 #[ox,v3] ?_ (hm:=by (obtain⟨_,_,e0⟩:=hf25;obtain⟨_,_,e1⟩:=hf4;rw[e0,e1];rfl)) (h1:=by (obtain⟨_,_,e0⟩:=hf25;obtain⟨_,_,e1⟩:=hf4;rw[e0,e1];rfl)) (ha':=by (obtain⟨_,_,e0⟩:=hf25;obtain⟨_,_,e1⟩:=hf4;rw[e0,e1];rfl));refine s_nil<|xs_then<|k_ret ?_
 obtain⟨hk1,hk2⟩:=hi6;obtain rfl:j=l.length:=by omega
 rw[List.take_length]at hk2;exact xs_fin [.agg #[ox,v3]] [frz (GrA ox v3 N R)] (SI.agg 2 57 4 SI.nil) (fun _ h=>gr_shut (h.re [0,2,0] [3,3,3])) ⟨_,_,N,rfl,hk2,rfl⟩
end Go.Proofs.YtmhpcebiamkciaaGreat
end
section
set_option linter.unusedSimpArgs false
set_option linter.unusedVariables false
set_option maxRecDepth 100000
set_option maxHeartbeats 2000000
namespace Go.Proofs.YtmhpcebiamkciaaGreat
open Go.Hp Go.J Go.S
open Go.Mem (Ty KTy blk elemAt pre suf blk_pre blk_suf aget aset strK aggDesc)
open Go.Mem (adel apos aget_aset aget_adel)
theorem step0_s{Z:Zone}{ov rv:Value}{l:List Ob}{R:List Int}(hg:KnG Z ov rv l R){F:List Asr}{cb qb:Nat}{reg pend:List Int}(hl:l.length≤100000)(hp:pot l []≤100000000)(hq1:reg.length≤90000)(hq2:pend.length≤90000):SF Tryz.prog 115 #[.pointer (some ⟨cb,0,none⟩),iw 0] Z (blkA cb #[ov,rv,.pointer (some ⟨qb,0,none⟩),.slice none 0 0] 161::qA qb reg pend::F) fun r Bs=>r=.tuple #[]∧∃av,Bs=blkA cb #[ov,rv,.pointer (some ⟨qb,0,none⟩),av] 161::qA qb (stayL (aliveR l R) reg) (pend++sepL (aliveR l R) reg)::own iTy av (aliveR l R)::F:=by
 refine sf_enter Tryz.func115 136 [(0,pB cb 0),(1,iw 0)] (fun w0=>?_);refine k_seq<|k_reg<|sL (t_pure (iw 0))<|s_nil<|xs_then<|k_block<|k_seq<|k_reg<|sL (t_cmp (c:=true))<|sL (t_pure (.bool true))<|s_nil<|xs_then<|k_true<|k_seq<|k_reg<|sL (t_pure (pB cb 0))<|sL (t_pure (pB cb 0))<|sL (t_pure (pB cb 0))<|sL (t_pure (pB cb 0))<|sL (t_loadA 0 #[ov,rv])<|s_pcall (fun _ h=>Alive_s (hg.up h) hl hp) ?_
 rintro _ _ ⟨v1,rfl,rfl⟩;rw[alive_eq];refine sF 0 (fun hf2=>?_);refine sL (t_pure (.tuple #[v1,iw (errI (chk 0 l))]))<|sL (t_pure v1)<|sL (t_pure (iw (errI (chk 0 l))))<|sL (t_pure (pB cb 0))<|sL (t_pure (pB cb 3))<|s_store (u:=v1) (m:=1) 1 #[ov,rv,pB qb 0,v1] ?_ (hm:=by (obtain⟨_,_,e0⟩:=hf2;rw[e0];rfl)) (h1:=by (obtain⟨_,_,e0⟩:=hf2;rw[e0];rfl)) (ha':=by (obtain⟨_,_,e0⟩:=hf2;rw[e0];rfl))
 refine s_nil<|xs_then<|k_draw<|sL (t_pure (pB cb 0))<|sL (t_pure (pB cb 0))<|sL (t_pure (pB cb 2))<|sL (t_load 1 (pB qb 0))<|sL (t_pure (pB cb 0))<|sL (t_pure (pB cb 0))<|sL (t_pure (pB cb 3))<|sL (t_load 1 v1)<|s_lend 0 [1] (fun _ hz=>sepa_s (A:=(aliveR l R)) (reg:=reg) (pend:=pend) hz.own ol ol) ?_
 rintro v3 _ rfl;refine sF 2 (fun hf4=>?_);refine s_nil<|x_dynS (fun _ h=>by kernel_rfl) ?_
 refine xs_block ?_;exact xs_finN _ _ SI.nil (rr [3,1,0] [3]) ⟨rfl,v1,rfl⟩
theorem step1_s{Z:Zone}{ov rv:Value}{l:List Ob}{R:List Int}(hg:KnG Z ov rv l R){F:List Asr}{cb qb:Nat}{av:Value}{A:List Int}(hl:l.length≤100000)(hsm:∀o∈l,o.refs.length≤400∧o.ents.length≤100000):SF Tryz.prog 115 #[.pointer (some ⟨cb,0,none⟩),iw 1] Z (blkA cb #[ov,rv,.pointer (some ⟨qb,0,none⟩),av] 161::own iTy av A::F) fun r Bs=>r=.tuple #[]∧∃ov' l',l'.map Ob.c=l.map (unv A)∧Bs=blkA cb #[ov',rv,.pointer (some ⟨qb,0,none⟩),av] 161::own iTy av A::zfr Z (GrA ov' rv l' R)::F:=by
 refine sf_enter Tryz.func115 136 [(0,.pointer (some ⟨cb,0,none⟩)),(1,iw 1)] (fun w0=>?_);refine k_seq<|k_reg<|sL (t_pure (iw 1))<|s_nil<|xs_then<|k_block<|k_seq<|k_reg<|sL (t_cmp (c:=false))<|sL (t_pure (.bool false))<|s_nil<|xs_then<|k_false<|k_seq<|k_reg<|sL (t_cmp (c:=true))<|sL (t_pure (.bool true))<|s_nil<|xs_then<|k_true<|k_seq<|k_reg<|sL (t_pure (.pointer (some ⟨cb,0,none⟩)))<|sL (t_pure (.pointer (some ⟨cb,0,none⟩)))<|sL (t_pure (.pointer (some ⟨cb,3,none⟩)))<|sL (t_load 0 av)<|s_pcall (fun _ h=>set_s (L:=A) (Acc.kn (.own 1) h)) ?_
 rintro _ _ ⟨mp1,rfl,rfl⟩;refine sL (t_pure (.map (some mp1)))<|s_nil<|xs_then<|k_seq<|k_reg<|sL (t_pure (.slice none 0 0))<|s_nil<|xs_then<|k_seq<|k_seq<|k_reg<|sL (t_pure (.pointer (some ⟨cb,0,none⟩)))<|sL (t_pure (.pointer (some ⟨cb,0,none⟩)))<|sL (t_pure (pB cb 0))<|sL (t_pure (pB cb 0))<|sL (t_load 1 ov)<|sL (t_len ObT_ok Tryz.underlying55 (.zn hg.obs))<|sL (t_pure (iw 0))<|s_nil<|xs_then<|k_block<|k_mem (fun _ h=>Holds.nilS (T:=ObT) (zall_nil h)) ?_
 refine k_loop (ι:=Value×List Ob×Nat) (fun (ox,N,j)=>j≤l.length∧N.map Ob.c=(l.take j).map (unv A)) (fun (ox,N,j)=>[(0,.pointer (some ⟨cb,0,none⟩)),(4,.map (some mp1)),(5,ox),(49,ov),(50,iw (l.length:Int)),(51,iw (j:Int))]) (fun (ox,N,j)=>own ObT ox N::zfr Z (AllO N)::mpA (Go.Mem.intK 3) bV mp1 (setL A)::blkA cb #[ov,rv,.pointer (some ⟨qb,0,none⟩),av] 161::own iTy av A::F) (fun (ox,N,j)=>l.length-j) (.slice none 0 0,[],0) ⟨Nat.zero_le _,rfl⟩ sA (rr [0,0,0,0,0] []) ?_;rintro⟨ox,N,j⟩ hi2;replace hi2:j≤l.length∧N.map Ob.c=(l.take j).map (unv A):=hi2;show SK _ _ _ _ _ [(0,.pointer (some ⟨cb,0,none⟩)),(4,.map (some mp1)),(5,ox),(49,ov),(50,iw (l.length:Int)),(51,iw (j:Int))] _ (own ObT ox N::zfr Z (AllO N)::mpA (Go.Mem.intK 3) bV mp1 (setL A)::blkA cb #[ov,rv,.pointer (some ⟨qb,0,none⟩),av] 161::own iTy av A::F);have hNl:N.length=j:=by have:=congrArg List.length hi2.2;simp only[List.length_map,List.length_take]at this;omega
 refine k_seq<|k_reg<|sL t_cmp<|s_nil<|xs_then<|k_seq<|k_cond (decide ((j:Int)<(l.length:Int))) (fun c3=>?_) (fun c3=>?_)
 .have p4:=dY c3;refine k_skip<|xs_then<|k_seq<|k_block<|k_seq<|k_reg<|sL (t_index ObT_ok Tryz.underlying55 (.zn hg.obs) (j:Int) j om (by (try simp only[List.length_nil,List.length_cons,List.length_append,List.length_take,List.length_drop,List.length_set,List.length_replicate,List.length_reverse]);omega) om) ?_
  obtain⟨y5,hy6⟩:∃y,l[j]?=some y:=⟨_,List.getElem?_eq_getElem (by (try simp only[lnm]);omega)⟩;have hk7:=hg.each y5 (List.mem_of_getElem? hy6);refine sL (t_loadE ObT_ok (.zn hg.obs) hy6)<|s_alloc (.agg #[iw 0,iw 0,iw 0,(.slice none 0 0),(.slice none 0 0)]) #[iw 0,iw 0,iw 0,(.slice none 0 0),(.slice none 0 0)] (fun g8=>?_)
  refine s_store 0 #[iw y5.id,iw y5.size,iw y5.weak,y5.rv.v,y5.ev.v] ?_;refine s_nil<|xs_then<|k_reg<|sL (t_pure ox)<|sL (t_loadA 0 #[iw y5.id,iw y5.size,iw y5.weak,y5.rv.v,y5.ev.v])<|sL (t_pure (.map (some mp1)))<|s_call [3] (cleared_s (A:=A) hk7 (hsm y5 (List.mem_of_getElem? hy6))) ?_
  rintro _ _ ⟨x9,rfl,hx10,rfl⟩;refine s_buildSlice (e:=100) [(0,.agg #[iw x9.id,iw x9.size,iw x9.weak,x9.rv.v,x9.ev.v])] #[iw x9.id,iw x9.size,iw x9.weak,x9.rv.v,x9.ev.v] (fun g11=>?_) (hb:=by kernel_rfl);refine s_append (L:=N) 4 ObT_ok Tryz.underlying55 (.lit 0 ObT_ok [x9]) (by show _*72≤_;(try simp only[lnm]);omega) (by (try simp only[lnm]);omega) (fun v12=>?_);refine sF 4 (fun hf13=>?_);refine sL (t_pure v12)<|s_nil<|xs_block<|xs_then<|k_reg<|sL (t_add (j:Int) 1 (by (try simp only[lnm]);omega))<|sL (t_pure (iw ((j:Int)+1)))<|s_nil<|xs_mem (fun _ h=>zall_push x9 (h.re [1,4] [])) ?_
  exact xs_round (v12,N++[x9],j+1) (by show l.length-(j+1)<l.length-j;omega) (by obtain⟨hk1,hk2⟩:=hi2;exact⟨by omega,map_snoc hy6 hk2 hx10⟩) sA (rr [4,0,1,2,2] [5,5])
 have p14:=dF c3;refine k_exit<|xs_exit<|xs_exit<|xs_here<|xs_then<|k_reg<|sL (t_pure (pB cb 0))<|sL (t_pure ox)<|sL (t_pure (pB cb 0))<|sL (t_pure (pB cb 0))<|sL (t_pure (pB cb 0))<|sF 0 (fun hf15=>?_)
 refine s_store (u:=ox) (m:=1) 3 #[ox,rv,pB qb 0,av] ?_ (hm:=by (obtain⟨_,_,e0⟩:=hf15;rw[e0];rfl)) (h1:=by (obtain⟨_,_,e0⟩:=hf15;rw[e0];rfl)) (ha':=by (obtain⟨_,_,e0⟩:=hf15;rw[e0];rfl));refine s_nil<|xs_block ?_
 obtain⟨hk1,hk2⟩:=hi2;obtain rfl:j=l.length:=by omega
 rw[List.take_length]at hk2;exact xs_finN [] (blkA cb #[ox,rv,pB qb 0,av] 161::own iTy av A::zfr Z (GrA ox rv N R)::F) SI.nil (fun _ h=>(zgr_shut hg.roots (h.re [0,0,1,1] [4])).re [1,1] []) ⟨rfl,_,N,hk2,rfl⟩
theorem step2_s{Z:Zone}{ov rv:Value}{l:List Ob}{R:List Int}{F:List Asr}{cb qb:Nat}{reg pend:List Int}{av:Value}{A:List Int}(hl:l.length≤100000)(hp:pot l []≤100000000)(hr:R.length≤100000)(hq2:pend.length≤200000):SF Tryz.prog 115 #[.pointer (some ⟨cb,0,none⟩),iw 2] Z (blkA cb #[ov,rv,.pointer (some ⟨qb,0,none⟩),av] 161::own iTy av A::zfr Z (GrA ov rv l R)::qA qb reg pend::F) fun r Bs=>r=.tuple #[]∧∃av,Bs=blkA cb #[ov,rv,.pointer (some ⟨qb,0,none⟩),av] 161::own iTy av (aliveR l (R++pend))::zfr Z (GrA ov rv l R)::qA qb reg pend::F:=by
 refine sf_enter Tryz.func115 136 [(0,pB cb 0),(1,iw 2)] (fun w0=>?_);refine k_seq<|k_reg<|sL (t_pure (iw 2))<|s_nil<|xs_then<|k_block<|k_seq<|k_reg<|sL (t_cmp (c:=false))<|sL (t_pure (.bool false))<|s_nil<|xs_then<|k_false<|k_seq<|k_reg<|sL (t_cmp (c:=false))<|sL (t_pure (.bool false))<|s_nil<|xs_then<|k_false<|k_seq<|k_reg<|sL (t_cmp (c:=true))<|sL (t_pure (.bool true))<|s_nil<|xs_then<|k_true<|k_seq<|k_reg<|sL (t_pure (pB cb 0))<|sL (t_pure (pB cb 0)) ?_
 refine sL (t_pure (pB cb 0))<|sL (t_loadA 0 #[ov,rv])<|s_alloc (.agg #[nS,nS]) #[nS,nS] (fun g1=>?_)
 refine s_fact (fun H h=>((show Acc _ _ ObT _ _ from (accZF 3)) H h).form) (fun hf2=>?_);refine s_fact (fun H h=>((show Acc _ _ iTy _ _ from (accZR 3)) H h).form) (fun hf3=>?_);refine s_store (u:=.agg #[ov,rv]) (m:=2) 0 #[ov,rv] ?_ (hm:=by (obtain⟨_,_,e0⟩:=hf2;obtain⟨_,_,e1⟩:=hf3;rw[e0,e1];rfl)) (h1:=by (obtain⟨_,_,e0⟩:=hf2;obtain⟨_,_,e1⟩:=hf3;rw[e0,e1];rfl)) (ha':=by (obtain⟨_,_,e0⟩:=hf2;obtain⟨_,_,e1⟩:=hf3;rw[e0,e1];rfl));refine s_nil<|xs_then<|k_seq<|k_held [blkA cb #[ov,rv,pB qb 0,av] 161,own iTy av A] ?_
 refine h_lt 0 rfl (np_then (np_block np_finS)) [1,1] (fun _=>(t_pure (pB g1 1))) ?_;refine h_lt 3 rfl (np_then (np_block np_finS)) [1,1] (fun _=>(t_pure (pB cb 0))) ?_;refine h_lt 4 rfl (np_then (np_block np_finS)) [1,1] (fun _=>(t_pure (pB cb 0))) ?_;refine h_lt 5 rfl (np_then (np_block np_finS)) [1,1] (fun _=>(t_pure (pB cb 2))) ?_;refine h_lt 6 rfl (np_then (np_block np_finS)) [1,1] (fun _=>(t_load 0 (pB qb 0))) ?_;refine h_stepS 1 ?_;refine sL (t_load 0 rv)<|nH [1,1]<|h_stepS 2 ?_
 refine s_pcall (fun _ h=>clone_s (Acc.kn (accZR 3) h) ol) ?_;rintro v4 _ rfl;refine sF 0 (fun hf5=>?_);refine nH [2,2]<|h_stepS 7 ?_
 refine s_call [5] (pending_s (pend:=pend) ol) ?_;rintro v6 _ rfl;refine sF 0 (fun hf7=>?_);refine nH [4,4]<|h_stepS 8 ?_
 refine s_append (L:=R) 2 iTy_ok Tryz.underlying23 (.own 0) (by show _*8≤_;(try simp only[lnm]);omega) ol (fun v8=>?_);refine sF 2 (fun hf9=>?_);refine nH [4,4]<|h_lt 9 rfl (np_then (np_block np_finS)) [4,4] (fun _=>(t_pure (pB g1 1))) ?_
 refine h_stepS 10 ?_;refine s_store (u:=v8) (m:=1) 3 #[ov,v8] ?_ (hm:=by (obtain⟨_,_,e0⟩:=hf9;rw[e0];rfl)) (h1:=by (obtain⟨_,_,e0⟩:=hf9;rw[e0];rfl)) (ha':=by (obtain⟨_,_,e0⟩:=hf9;rw[e0];rfl));refine nH [4,4]<|h_doneS ?_
 refine xs_then<|k_reg<|sL (t_pure (pB cb 0))<|sL (t_loadA 3 #[ov,v8])<|s_pcall (fun _ h=>Alive_s (gr_more (h.zfrF 6) (h.knS 2)) hl hp) ?_
 rintro _ _ ⟨v10,rfl,rfl⟩;rw[alive_eq];refine sF 0 (fun hf11=>?_);refine sL (t_pure (.tuple #[v10,iw (errI (chk 0 l))]))<|sL (t_pure v10)<|sL (t_pure (iw (errI (chk 0 l))))<|sL (t_pure (pB cb 0))<|sL (t_pure (pB cb 3))<|s_store (u:=v10) (m:=1) 5 #[ov,rv,pB qb 0,v10] ?_ (hm:=by (obtain⟨_,_,e0⟩:=hf11;rw[e0];rfl)) (h1:=by (obtain⟨_,_,e0⟩:=hf11;rw[e0];rfl)) (ha':=by (obtain⟨_,_,e0⟩:=hf11;rw[e0];rfl))
 refine s_nil<|xs_block ?_
 exact xs_finN _ _ SI.nil (rr [5,0,5,1] [4,4,4,4]) ⟨rfl,v10,rfl⟩
theorem step3_s{Z:Zone}{ov rv:Value}{l:List Ob}{R:List Int}{F:List Asr}{cb qb:Nat}{av:Value}{B:List Int}(hl:l.length≤100000)(hr:R.length≤100000)(hsm:∀o∈l,o.refs.length≤400∧o.ents.length≤100000)(hlB:B.length≤100000)(hok:(chk 0 l&&ascA 0 B)=true):SF Tryz.prog 115 #[.pointer (some ⟨cb,0,none⟩),iw 3] Z (blkA cb #[ov,rv,.pointer (some ⟨qb,0,none⟩),av] 161::own iTy av B::zfr Z (GrA ov rv l R)::F) fun r Bs=>r=.tuple #[]∧∃ov' l',l'.map Ob.c=lastL B (l.map (clr B))∧Bs=blkA cb #[ov',rv,.pointer (some ⟨qb,0,none⟩),av] 161::own iTy av B::zfr Z (GrA ov' rv l' R)::F:=by
 refine sf_enter Tryz.func115 136 [(0,.pointer (some ⟨cb,0,none⟩)),(1,iw 3)] (fun w0=>?_);refine k_seq<|k_reg<|sL (t_pure (iw 3))<|s_nil<|xs_then<|k_block<|k_seq<|k_reg<|sL (t_cmp (c:=false))<|sL (t_pure (.bool false))<|s_nil<|xs_then<|k_false<|k_seq<|k_reg<|sL (t_cmp (c:=false))<|sL (t_pure (.bool false))<|s_nil<|xs_then<|k_false<|k_seq<|k_reg<|sL (t_cmp (c:=false))<|sL (t_pure (.bool false))<|s_nil<|xs_then<|k_false<|k_seq<|k_reg<|sL (t_cmp (c:=true))<|sL (t_pure (.bool true)) ?_
 refine s_nil<|xs_then<|k_true<|k_seq<|k_held [blkA cb #[ov,rv,.pointer (some ⟨qb,0,none⟩),av] 161,own iTy av B] ?_
 refine h_lt 0 rfl (np_then (np_block np_finS)) [0,0] (fun _=>(t_pure (.pointer (some ⟨cb,0,none⟩)))) ?_;refine h_lt 1 rfl (np_then (np_block np_finS)) [0,0] (fun _=>(t_pure (.pointer (some ⟨cb,0,none⟩)))) ?_;refine h_lt 2 rfl (np_then (np_block np_finS)) [0,0] (fun _=>(t_pure (.pointer (some ⟨cb,0,none⟩)))) ?_;refine h_lt 3 rfl (np_then (np_block np_finS)) [0,0] (fun _=>(t_loadA 0 #[ov,rv])) ?_;refine h_lt 4 rfl (np_then (np_block np_finS)) [0,0] (fun _=>(t_pure (.pointer (some ⟨cb,0,none⟩)))) ?_;refine h_lt 5 rfl (np_then (np_block np_finS)) [0,0] (fun _=>(t_pure (.pointer (some ⟨cb,0,none⟩)))) ?_;refine h_lt 6 rfl (np_then (np_block np_finS)) [0,0] (fun _=>(t_pure (.pointer (some ⟨cb,3,none⟩)))) ?_;refine h_lt 7 rfl (np_then (np_block np_finS)) [0,0] (fun _=>(t_load 0 av)) ?_;refine h_stepS2 8 12 ?_ ?_
 .refine s_pcall (fun _ h=>Clear_s (GrA.kn (h.zfrF 2)) (Acc.kn (.own 1) h) hlB hl hr hsm) ?_;rintro _ _ ⟨ov1,rv2,l3,R4,rfl,hl5,hR6,rfl⟩;refine nH [1,1]<|h_lt 9 rfl (np_then (np_block np_finS)) [1,1] (fun _=>(t_pure (.tuple #[.agg #[ov1,rv2],iw (errI (chk 0 l&&ascA 0 B))]))) ?_
  refine h_lt 10 rfl (np_then (np_block np_finS)) [1,1] (fun _=>(t_pure (.agg #[ov1,rv2]))) ?_;refine h_lt 11 rfl (np_then (np_block np_finS)) [1,1] (fun _=>(t_pure (iw (errI (chk 0 l&&ascA 0 B))))) ?_;refine h_stepS 12 ?_;refine s_alloc (.agg #[(.slice none 0 0),(.slice none 0 0)]) #[(.slice none 0 0),(.slice none 0 0)] (fun g7=>?_);refine nH [2,2]<|h_stepS 13 ?_
  refine s_fact (fun H h=>((show Acc _ _ ObT _ _ from (accF 1)) H h).form) (fun hf8=>?_);refine s_fact (fun H h=>((show Acc _ _ iTy _ _ from (accR 1)) H h).form) (fun hf9=>?_);refine s_store (u:=.agg #[ov1,rv2]) (m:=2) 0 #[ov1,rv2] ?_ (hm:=by (obtain⟨_,_,e0⟩:=hf8;obtain⟨_,_,e1⟩:=hf9;rw[e0,e1];rfl)) (h1:=by (obtain⟨_,_,e0⟩:=hf8;obtain⟨_,_,e1⟩:=hf9;rw[e0,e1];rfl)) (ha':=by (obtain⟨_,_,e0⟩:=hf8;obtain⟨_,_,e1⟩:=hf9;rw[e0,e1];rfl));refine nH [2,2]<|h_lt 14 rfl (np_then (np_block np_finS)) [2,2] (fun _=>(t_pure (iw (errI (chk 0 l&&ascA 0 B))))) ?_
  refine h_doneS ?_;refine xs_then<|k_seq<|k_reg<|sL (t_pure (pB cb 0))<|sL (t_pure (pB cb 0))<|sL (t_pure (pB cb 3))<|sL (t_load 2 av)<|s_pcall (fun _ h=>set_s (L:=B) (Acc.kn (.own 3) h)) ?_
  rintro _ _ ⟨mp10,rfl,rfl⟩;refine sL (t_pure (.map (some mp10)))<|s_nil<|xs_then<|k_seq<|k_reg<|sL (t_pure (.slice none 0 0))<|s_nil<|xs_then<|k_seq<|k_seq<|k_reg<|sL (t_pure (pB g7 0))<|sL (t_load 1 ov1)<|sL (t_len ObT_ok Tryz.underlying55 (accF 2))<|sL (t_pure (iw 0))<|s_nil<|xs_then<|k_block ?_
  rw[hok,if_pos rfl]at hl5 hR6;have hlen:=len_of_map hl5;refine k_mem (fun _ h=>Holds.nilS (T:=ObT) h) ?_;refine k_loop (ι:=Value×List Ob×Nat) (fun (ox,N,i)=>i≤l3.length∧N.map Ob.c=lastL B ((l3.take i).map Ob.c)∧(∀x∈N,x∈l3)∧N.length≤i) (fun (ox,N,i)=>[(0,.pointer (some ⟨cb,0,none⟩)),(11,.map (some mp10)),(12,ox),(111,ov1),(112,iw (l3.length:Int)),(113,iw (i:Int))]) (fun (ox,N,i)=>own ObT ox N::mpA (Go.Mem.intK 3) bV mp10 (setL B)::blkA g7 #[ov1,rv2] 57::frz (GrA ov1 rv2 l3 R4)::blkA cb #[ov,rv,.pointer (some ⟨qb,0,none⟩),av] 161::own iTy av B::zfr Z (GrA ov rv l R)::F) (fun (ox,N,i)=>l3.length-i) (.slice none 0 0,[],0) ⟨Nat.zero_le _,rfl,by simp,Nat.le_refl _⟩ sA (rr [0,0,0,0,0,0,0] []) ?_;rintro⟨ox,N,i⟩ hi11;replace hi11:i≤l3.length∧N.map Ob.c=lastL B ((l3.take i).map Ob.c)∧(∀x∈N,x∈l3)∧N.length≤i:=hi11;show SK _ _ _ _ _ [(0,.pointer (some ⟨cb,0,none⟩)),(11,.map (some mp10)),(12,ox),(111,ov1),(112,iw (l3.length:Int)),(113,iw (i:Int))] _ (own ObT ox N::mpA (Go.Mem.intK 3) bV mp10 (setL B)::blkA g7 #[ov1,rv2] 57::frz (GrA ov1 rv2 l3 R4)::blkA cb #[ov,rv,.pointer (some ⟨qb,0,none⟩),av] 161::own iTy av B::zfr Z (GrA ov rv l R)::F);have hNl:=hi11.2.2.2;refine k_seq<|k_reg<|sL t_cmp<|s_nil<|xs_then<|k_seq<|k_cond (decide ((i:Int)<(l3.length:Int))) (fun c12=>?_) (fun c12=>?_)
  .have p13:=dY c12;refine k_skip<|xs_then<|k_seq<|k_block<|k_seq<|k_reg<|sL (t_index ObT_ok Tryz.underlying55 (accF 3) (i:Int) i om (by (try simp only[List.length_nil,List.length_cons,List.length_append,List.length_take,List.length_drop,List.length_set,List.length_replicate,List.length_reverse]);omega) om) ?_
   obtain⟨y14,hy15⟩:∃y,l3[i]?=some y:=⟨_,List.getElem?_eq_getElem (by (try simp only[List.length_nil,List.length_cons,List.length_append,List.length_take,List.length_drop,List.length_set,List.length_replicate,List.length_reverse]);omega)⟩;refine sL (t_loadE ObT_ok (accF 3) hy15)<|s_alloc (.agg #[iw 0,iw 0,iw 0,(.slice none 0 0),(.slice none 0 0)]) #[iw 0,iw 0,iw 0,(.slice none 0 0),(.slice none 0 0)] (fun g16=>?_)
   refine s_store 0 #[iw y14.id,iw y14.size,iw y14.weak,y14.rv.v,y14.ev.v] ?_;refine s_nil<|xs_then<|k_seq<|k_reg<|sL (t_pure (.map (some mp10)))<|sL (t_pure (pB g16 0))<|sL (t_load 0 (iw y14.id))<|sL (Lt.to (v':=.bool (decide (y14.id∈B))) (t_lookup 2 intOk Tryz.underlying95 (.bool false) y14.id) (got_set _ _))<|s_nil<|xs_then<|k_cond (decide (y14.id∈B)) (fun c17=>?_) (fun c17=>?_)
   .have p18:=dY c17;refine k_reg<|sL (t_pure ox)<|sL (t_loadA 0 #[iw y14.id,iw y14.size,iw y14.weak,y14.rv.v,y14.ev.v])<|s_buildSlice (e:=100) [(0,.agg #[iw y14.id,iw y14.size,iw y14.weak,y14.rv.v,y14.ev.v])] #[iw y14.id,iw y14.size,iw y14.weak,y14.rv.v,y14.ev.v] (fun g19=>?_) (hb:=by kernel_rfl)
    refine s_append (L:=N) 2 ObT_ok Tryz.underlying55 (.lit 0 ObT_ok [y14]) (by show _*72≤_;(try simp only[lnm]);omega) (by (try simp only[lnm]);omega) (fun v20=>?_);refine sF 2 (fun hf21=>?_);refine sL (t_pure v20)<|s_nil<|xs_block<|xs_then<|k_reg<|sL (t_add (i:Int) 1 (by (try simp only[lnm]);omega))<|sL (t_pure (iw ((i:Int)+1)))<|s_nil ?_
    exact xs_round (v20,N++[y14],i+1) (by show l3.length-(i+1)<l3.length-i;omega) (by obtain⟨hk1,hk2,hk3,hk4⟩:=hi11;exact⟨by omega,last_yes hy15 p18 hk2,fun x hx=>by rcases List.mem_append.1 hx with hx|hx;exact hk3 x hx;simp at hx;subst hx;exact List.mem_of_getElem? hy15,by rw[List.length_append];simp only[List.length_singleton];omega⟩) sA (rr [2,2,2,2,2,2,2] [7,7])
   have p22:=dF c17;refine k_skip<|xs_block<|xs_then<|k_reg<|sL (t_add (i:Int) 1 (by (try simp only[lnm]);omega))<|sL (t_pure (iw ((i:Int)+1)))<|s_nil ?_
   exact xs_round (ox,N,i+1) (by show l3.length-(i+1)<l3.length-i;omega) (by obtain⟨hk1,hk2,hk3,hk4⟩:=hi11;exact⟨by omega,last_no hy15 p22 hk2,hk3,by omega⟩) sA (rr [1,1,1,1,1,1,1] [7])
  have p23:=dF c12;refine k_exit<|xs_exit<|xs_exit<|xs_here<|xs_then<|k_reg<|sL (t_pure (pB cb 0))<|sL (t_pure ox)<|sL (t_pure (pB cb 0))<|sL (t_pure (pB cb 0))<|sL (t_pure (pB cb 0))<|sL (t_pure (pB cb 1))<|sL (t_load 4 rv)<|sF 0 (fun hf24=>?_)
  refine s_fact (fun H h=>((show Acc _ _ iTy _ _ from (accZR 6)) H h).form) (fun hf25=>?_);refine sL (show Lt _ _ _ _ _ (.agg #[ox,rv]) from by obtain⟨_,_,e⟩:=hf24;rw[e];clear e;obtain⟨_,_,e⟩:=hf25;rw[e];clear e;exact t_kern _)<|sL (t_pure (pB cb 0))<|sL (t_pure (pB cb 0))<|s_store (u:=.agg #[ox,rv]) (m:=2) 4 #[ox,rv,.pointer (some ⟨qb,0,none⟩),av] ?_ (hm:=by (obtain⟨_,_,e0⟩:=hf24;obtain⟨_,_,e1⟩:=hf25;rw[e0,e1];rfl)) (h1:=by (obtain⟨_,_,e0⟩:=hf24;obtain⟨_,_,e1⟩:=hf25;rw[e0,e1];rfl)) (ha':=by (obtain⟨_,_,e0⟩:=hf24;obtain⟨_,_,e1⟩:=hf25;rw[e0,e1];rfl))
  refine s_nil<|xs_block ?_
  obtain⟨hk1,hk2,hk3,hk4⟩:=hi11;obtain rfl:i=l3.length:=by omega
  rw[List.take_length,hl5]at hk2;exact xs_finN [] (blkA cb #[ox,rv,.pointer (some ⟨qb,0,none⟩),av] 161::own iTy av B::zfr Z (GrA ox rv N R)::F) SI.nil (fun _ h=>(zgr_cut hk3 (h.re [0,2,4,2,2] [5,5])).re [1,1] []) ⟨rfl,_,N,hk2,rfl⟩
 refine s_alloc (.agg #[(.slice none 0 0),(.slice none 0 0)]) #[(.slice none 0 0),(.slice none 0 0)] (fun g26=>?_);refine nH [1,1]<|h_stepS 8 ?_
 refine s_pcall (fun _ h=>Clear_s (GrA.kn (h.zfrF 3)) (Acc.kn (.own 2) h) hlB hl hr hsm) ?_;rintro _ _ ⟨ov27,rv28,l29,R30,rfl,hl31,hR32,rfl⟩;refine nH [2,2]<|h_lt 9 rfl (np_then (np_block np_finS)) [2,2] (fun _=>(t_pure (.tuple #[.agg #[ov27,rv28],iw (errI (chk 0 l&&ascA 0 B))]))) ?_
 refine h_lt 10 rfl (np_then (np_block np_finS)) [2,2] (fun _=>(t_pure (.agg #[ov27,rv28]))) ?_;refine h_lt 11 rfl (np_then (np_block np_finS)) [2,2] (fun _=>(t_pure (iw (errI (chk 0 l&&ascA 0 B))))) ?_;refine h_stepS 13 ?_;refine s_fact (fun H h=>((show Acc _ _ ObT _ _ from (accF 0)) H h).form) (fun hf33=>?_);refine s_fact (fun H h=>((show Acc _ _ iTy _ _ from (accR 0)) H h).form) (fun hf34=>?_);refine s_store (u:=.agg #[ov27,rv28]) (m:=2) 1 #[ov27,rv28] ?_ (hm:=by (obtain⟨_,_,e0⟩:=hf33;obtain⟨_,_,e1⟩:=hf34;rw[e0,e1];rfl)) (h1:=by (obtain⟨_,_,e0⟩:=hf33;obtain⟨_,_,e1⟩:=hf34;rw[e0,e1];rfl)) (ha':=by (obtain⟨_,_,e0⟩:=hf33;obtain⟨_,_,e1⟩:=hf34;rw[e0,e1];rfl));refine nH [2,2]<|h_lt 14 rfl (np_then (np_block np_finS)) [2,2] (fun _=>(t_pure (iw (errI (chk 0 l&&ascA 0 B))))) ?_
 refine h_doneS ?_;refine xs_then<|k_seq<|k_reg<|sL (t_pure (pB cb 0))<|sL (t_pure (pB cb 0))<|sL (t_pure (pB cb 3))<|sL (t_load 2 av)<|s_pcall (fun _ h=>set_s (L:=B) (Acc.kn (.own 3) h)) ?_
 rintro _ _ ⟨mp35,rfl,rfl⟩;refine sL (t_pure (.map (some mp35)))<|s_nil<|xs_then<|k_seq<|k_reg<|sL (t_pure (.slice none 0 0))<|s_nil<|xs_then<|k_seq<|k_seq<|k_reg<|sL (t_pure (pB g26 0))<|sL (t_load 2 ov27)<|sL (t_len ObT_ok Tryz.underlying55 (accF 1))<|sL (t_pure (iw 0))<|s_nil<|xs_then<|k_block ?_
 rw[hok,if_pos rfl]at hl31 hR32;have hlen:=len_of_map hl31;refine k_mem (fun _ h=>Holds.nilS (T:=ObT) h) ?_;refine k_loop (ι:=Value×List Ob×Nat) (fun (ox,N,i)=>i≤l29.length∧N.map Ob.c=lastL B ((l29.take i).map Ob.c)∧(∀x∈N,x∈l29)∧N.length≤i) (fun (ox,N,i)=>[(0,.pointer (some ⟨cb,0,none⟩)),(11,.map (some mp35)),(12,ox),(111,ov27),(112,iw (l29.length:Int)),(113,iw (i:Int))]) (fun (ox,N,i)=>own ObT ox N::mpA (Go.Mem.intK 3) bV mp35 (setL B)::frz (GrA ov27 rv28 l29 R30)::blkA g26 #[ov27,rv28] 57::blkA cb #[ov,rv,.pointer (some ⟨qb,0,none⟩),av] 161::own iTy av B::zfr Z (GrA ov rv l R)::F) (fun (ox,N,i)=>l29.length-i) (.slice none 0 0,[],0) ⟨Nat.zero_le _,rfl,by simp,Nat.le_refl _⟩ sA (rr [0,0,0,0,0,0,0] []) ?_;rintro⟨ox,N,i⟩ hi36;replace hi36:i≤l29.length∧N.map Ob.c=lastL B ((l29.take i).map Ob.c)∧(∀x∈N,x∈l29)∧N.length≤i:=hi36;show SK _ _ _ _ _ [(0,.pointer (some ⟨cb,0,none⟩)),(11,.map (some mp35)),(12,ox),(111,ov27),(112,iw (l29.length:Int)),(113,iw (i:Int))] _ (own ObT ox N::mpA (Go.Mem.intK 3) bV mp35 (setL B)::frz (GrA ov27 rv28 l29 R30)::blkA g26 #[ov27,rv28] 57::blkA cb #[ov,rv,.pointer (some ⟨qb,0,none⟩),av] 161::own iTy av B::zfr Z (GrA ov rv l R)::F);have hNl:=hi36.2.2.2;refine k_seq<|k_reg<|sL t_cmp<|s_nil<|xs_then<|k_seq<|k_cond (decide ((i:Int)<(l29.length:Int))) (fun c37=>?_) (fun c37=>?_)
 .have p38:=dY c37;refine k_skip<|xs_then<|k_seq<|k_block<|k_seq<|k_reg<|sL (t_index ObT_ok Tryz.underlying55 (accF 2) (i:Int) i om (by (try simp only[lnm]);omega) om) ?_
  obtain⟨y39,hy40⟩:∃y,l29[i]?=some y:=⟨_,List.getElem?_eq_getElem (by (try simp only[lnm]);omega)⟩;refine sL (t_loadE ObT_ok (accF 2) hy40)<|s_alloc (.agg #[iw 0,iw 0,iw 0,(.slice none 0 0),(.slice none 0 0)]) #[iw 0,iw 0,iw 0,(.slice none 0 0),(.slice none 0 0)] (fun g41=>?_)
  refine s_store 0 #[iw y39.id,iw y39.size,iw y39.weak,y39.rv.v,y39.ev.v] ?_;refine s_nil<|xs_then<|k_seq<|k_reg<|sL (t_pure (.map (some mp35)))<|sL (t_pure (pB g41 0))<|sL (t_load 0 (iw y39.id))<|sL (Lt.to (v':=.bool (decide (y39.id∈B))) (t_lookup 2 intOk Tryz.underlying95 (.bool false) y39.id) (got_set _ _))<|s_nil<|xs_then<|k_cond (decide (y39.id∈B)) (fun c42=>?_) (fun c42=>?_)
  .have p43:=dY c42;refine k_reg<|sL (t_pure ox)<|sL (t_loadA 0 #[iw y39.id,iw y39.size,iw y39.weak,y39.rv.v,y39.ev.v])<|s_buildSlice (e:=100) [(0,.agg #[iw y39.id,iw y39.size,iw y39.weak,y39.rv.v,y39.ev.v])] #[iw y39.id,iw y39.size,iw y39.weak,y39.rv.v,y39.ev.v] (fun g44=>?_) (hb:=by kernel_rfl)
   refine s_append (L:=N) 2 ObT_ok Tryz.underlying55 (.lit 0 ObT_ok [y39]) (by show _*72≤_;(try simp only[lnm]);omega) (by (try simp only[lnm]);omega) (fun v45=>?_);refine sF 2 (fun hf46=>?_);refine sL (t_pure v45)<|s_nil<|xs_block<|xs_then<|k_reg<|sL (t_add (i:Int) 1 (by (try simp only[lnm]);omega))<|sL (t_pure (iw ((i:Int)+1)))<|s_nil ?_
   exact xs_round (v45,N++[y39],i+1) (by show l29.length-(i+1)<l29.length-i;omega) (by obtain⟨hk1,hk2,hk3,hk4⟩:=hi36;exact⟨by omega,last_yes hy40 p43 hk2,fun x hx=>by rcases List.mem_append.1 hx with hx|hx;exact hk3 x hx;simp at hx;subst hx;exact List.mem_of_getElem? hy40,by rw[List.length_append];simp only[List.length_singleton];omega⟩) sA (rr [2,2,2,2,2,2,2] [7,7])
  have p47:=dF c42;refine k_skip<|xs_block<|xs_then<|k_reg<|sL (t_add (i:Int) 1 (by (try simp only[lnm]);omega))<|sL (t_pure (iw ((i:Int)+1)))<|s_nil ?_
  exact xs_round (ox,N,i+1) (by show l29.length-(i+1)<l29.length-i;omega) (by obtain⟨hk1,hk2,hk3,hk4⟩:=hi36;exact⟨by omega,last_no hy40 p47 hk2,hk3,by omega⟩) sA (rr [1,1,1,1,1,1,1] [7])
 have p48:=dF c37;refine k_exit<|xs_exit<|xs_exit<|xs_here<|xs_then<|k_reg<|sL (t_pure (pB cb 0))<|sL (t_pure ox)<|sL (t_pure (pB cb 0))<|sL (t_pure (pB cb 0))<|sL (t_pure (pB cb 0))<|sL (t_pure (pB cb 1))<|sL (t_load 4 rv)<|sF 0 (fun hf49=>?_)
 refine s_fact (fun H h=>((show Acc _ _ iTy _ _ from (accZR 6)) H h).form) (fun hf50=>?_);refine sL (show Lt _ _ _ _ _ (.agg #[ox,rv]) from by obtain⟨_,_,e⟩:=hf49;rw[e];clear e;obtain⟨_,_,e⟩:=hf50;rw[e];clear e;exact t_kern _)<|sL (t_pure (pB cb 0))<|sL (t_pure (pB cb 0))<|s_store (u:=.agg #[ox,rv]) (m:=2) 4 #[ox,rv,pB qb 0,av] ?_ (hm:=by (obtain⟨_,_,e0⟩:=hf49;obtain⟨_,_,e1⟩:=hf50;rw[e0,e1];rfl)) (h1:=by (obtain⟨_,_,e0⟩:=hf49;obtain⟨_,_,e1⟩:=hf50;rw[e0,e1];rfl)) (ha':=by (obtain⟨_,_,e0⟩:=hf49;obtain⟨_,_,e1⟩:=hf50;rw[e0,e1];rfl))
 refine s_nil<|xs_block ?_
 obtain⟨hk1,hk2,hk3,hk4⟩:=hi36;obtain rfl:i=l29.length:=by omega
 rw[List.take_length,hl31]at hk2;exact xs_finN [] (blkA cb #[ox,rv,pB qb 0,av] 161::own iTy av B::zfr Z (GrA ox rv N R)::F) SI.nil (fun _ h=>(zgr_cut hk3 (h.re [0,1,4,2,2] [5,5])).re [1,1] []) ⟨rfl,_,N,hk2,rfl⟩
end Go.Proofs.YtmhpcebiamkciaaGreat
end
section
set_option linter.unusedSimpArgs false
set_option linter.unusedVariables false
namespace Go.S
open Go.Hp Go.J
def orI(k:IntKind)(a b:Int):Int:=k.wrap ((BitVec.ofInt k.bits a ||| BitVec.ofInt k.bits b).toNat:Int)
section
variable{P:Program}{E:Env}{Z:Zone}{As:List Asr}{o:Oper}
theorem t_or{t u:TypeId}{x y:Operand}{k:IntKind}(a b:Int)(ho:o.op=.binOp .or t x y u:=by rfl)(hx:ev E x=.int k a:=by rfl)(hy:ev E y=.int k b:=by rfl):Lt P E o Z As (.int k (orI k a b)):=
 fun _ _=>r_pure _ (bin_run ho _ _ hx hy eqg_int fun w=>by simp[binOp,Op.intBits,orI,Sem.run_pure])
end
end Go.S
end
section
set_option linter.unusedSimpArgs false
set_option linter.unusedVariables false
set_option maxRecDepth 100000
namespace Go.Proofs.YtmhpcebiamkciaaGreat
open Go.Hp Go.J Go.S
open Go.Mem (Ty KTy blk elemAt pre suf blk_pre blk_suf aget aset strK aggDesc)
open Go.Mem (adel apos aget_aset aget_adel)
open Go.S
theorem map_c_cons{x:Ob}{r l':List Ob}(h:(x::r).map Ob.c=l'.map Ob.c):∃y r',l'=y::r'∧x.c=y.c∧r.map Ob.c=r'.map Ob.c:=by
 cases l' with
 | nil=>cases h
 | cons y r'=>exact⟨y,r',rfl,(List.cons.inj h).1,(List.cons.inj h).2⟩
section
variable{x y:Ob}
theorem c_id(h:x.c=y.c):x.id=y.id:=congrArg (fun q:Core=>q.1) h
theorem c_size(h:x.c=y.c):x.size=y.size:=congrArg (fun q:Core=>q.2.1) h
theorem c_weak(h:x.c=y.c):x.weak=y.weak:=congrArg (fun q:Core=>q.2.2.1) h
theorem c_refs(h:x.c=y.c):x.refs=y.refs:=congrArg (fun q:Core=>q.2.2.2.1) h
theorem c_ents(h:x.c=y.c):x.ents=y.ents:=congrArg (fun q:Core=>q.2.2.2.2) h
theorem kept_c(h:x.c=y.c):keptO x=keptO y:=by unfold keptO;rw[c_refs h,c_ents h,c_weak h]
theorem clr_c(A:List Int)(h:x.c=y.c):clr A x=clr A y:=by unfold clr;rw[c_id h,c_size h,c_weak h,c_refs h,c_ents h]
theorem unv_c(A:List Int)(h:x.c=y.c):unv A x=unv A y:=by unfold unv unvB;rw[c_id h,c_size h,c_weak h,c_refs h,c_ents h]
end
theorem map_of_c{β:Type}{f:Ob→β}(hf:∀x y:Ob,x.c=y.c→f x=f y):∀{l l':List Ob},l.map Ob.c=l'.map Ob.c→l.map f=l'.map f
 | [],l',h=>by rw[List.map_eq_nil_iff.1 h.symm]
 | x::r,l',h=>by
  obtain⟨y,r',rfl,h1,h2⟩:=map_c_cons h;rw[List.map_cons,List.map_cons,hf x y h1,map_of_c hf h2]
theorem chk_c:∀{l l':List Ob}{last:Int},l.map Ob.c=l'.map Ob.c→chk last l=chk last l'
 | [],l',last,h=>by rw[List.map_eq_nil_iff.1 h.symm]
 | x::r,l',last,h=>by
  obtain⟨y,r',rfl,h1,h2⟩:=map_c_cons h;simp only[chk];rw[c_id h1,c_size h1,c_weak h1,chk_c h2]
theorem fnd_c{z:Int}{o:Ob}:∀{l l':List Ob},l.map Ob.c=l'.map Ob.c→fnd l z=some o→∃o',fnd l' z=some o'∧o'.c=o.c
 | [],l',h,hf=>by cases hf
 | x::r,l',h,hf=>by
  obtain⟨y,r',rfl,h1,h2⟩:=map_c_cons h;unfold fnd at hf⊢;rw[List.find?_cons]at hf⊢;rw[←c_id h1];by_cases hz:x.id=z
  .rw [decide_eq_true hz]at hf⊢;injection hf with hf;subst hf;exact⟨y,rfl,h1.symm⟩
  rw[decide_eq_false hz]at hf⊢;exact fnd_c h2 hf
theorem is_c{l l':List Ob}{z:Int}(h:l.map Ob.c=l'.map Ob.c)(hi:Is l z):Is l' z:=by
 obtain⟨o,ho⟩:=Option.isSome_iff_exists.1 hi;obtain⟨o',h1,_⟩:=fnd_c h ho;rw[Is,h1];rfl
theorem closed_c{l l':List Ob}{R:List Int}{p:Int→Prop}(h:l.map Ob.c=l'.map Ob.c)(k:Closed l R p):Closed l' R p:=by
 refine⟨fun r hr hi=>k.roots r hr (is_c h.symm hi),fun x o hp hf z hz hi=>?_,fun x o hp hf hw e he hk hi=>?_⟩
 .obtain ⟨o',h1,h2⟩:=fnd_c h.symm hf;exact k.kept x o' hp h1 z (by rw[kept_c h2];exact hz) (is_c h.symm hi)
 obtain⟨o',h1,h2⟩:=fnd_c h.symm hf;exact k.eph x o' hp h1 ((c_weak h2).trans hw) e (by rw[c_ents h2];exact he) hk (is_c h.symm hi)
theorem mem_alive'{l:List Ob}{R:List Int}(hc:chk 0 l=true)(x:Int):x∈aliveR l R↔x∈(allR l R).1:=by
 rw[aliveR_ok hc];exact mem_live (all_good l R).clo x
theorem asc_ext{A B:List Int}(hA:A.Pairwise (· < ·))(hB:B.Pairwise (· < ·))(h:∀x,x∈A↔x∈B):A=B:=by
 have hp:A.Perm B:=(List.perm_ext_iff_of_nodup (hA.imp fun h=>by omega) (hB.imp fun h=>by omega)).2 h;rw[←srt_asc hA,←srt_asc hB];exact srt_perm hp
theorem alive_of{l l':List Ob}{R R':List Int}(hc:chk 0 l=chk 0 l')(h1:∀p,Closed l R p→Closed l' R' p)(h2:∀p,Closed l' R' p→Closed l R p):aliveR l R=aliveR l' R':=by
 cases hk:chk 0 l with
 | false=>rw[aliveR_bad hk,aliveR_bad (hc▸hk)]
 | true=>
  have hk':chk 0 l'=true:=hc▸hk;refine asc_ext (alive_asc _ _) (alive_asc _ _) fun x=>?_
  rw[mem_alive' hk,mem_alive' hk'];exact⟨least_all (chk_asc hk) (h2 _ (all_closed (chk_asc hk') R')) x,least_all (chk_asc hk') (h1 _ (all_closed (chk_asc hk) R)) x⟩
theorem alive_c{l l':List Ob}(R:List Int)(h:l.map Ob.c=l'.map Ob.c):aliveR l R=aliveR l' R:=alive_of (chk_c h) (fun _=>closed_c h) (fun _=>closed_c h.symm)
/-! ### A cycle -/
def mkOb(c:Core):Ob:=⟨c.1,c.2.1,c.2.2.1,⟨none,0,0⟩,⟨none,0,0⟩,c.2.2.2.1,c.2.2.2.2⟩
theorem mkOb_map(L:List Core):(L.map mkOb).map Ob.c=L:=by rw[List.map_map];exact List.map_id'' (fun _=>rfl) L
section
variable(l:List Ob)(R reg pend:List Int)
def cyc1:List Ob:=(l.map (unv (aliveR l R))).map mkOb
def cycR:List Int:=stayL (aliveR l R) reg
def cycP:List Int:=pend++sepL (aliveR l R) reg
def cycB:List Int:=aliveR (cyc1 l R) (R++cycP l R reg pend)
def cycO:List Core:=lastL (cycB l R reg pend) ((cyc1 l R).map (clr (cycB l R reg pend)))
def cycF:List Int:=(l.map Ob.id).filter fun x=>!decide (x∈cycB l R reg pend)
end
section
variable{l l1:List Ob}{A:List Int}
theorem unv_len(h:l1.map Ob.c=l.map (unv A)):l1.length=l.length:=by have:=congrArg List.length h;simpa using this
theorem unv_mem(h:l1.map Ob.c=l.map (unv A)){x:Ob}(hx:x∈l1):∃y∈l,x.c=unv A y:=by
 have h1:x.c∈l1.map Ob.c:=List.mem_map.2 ⟨x,hx,rfl⟩;rw[h]at h1;obtain⟨y,hy,e⟩:=List.mem_map.1 h1;exact⟨y,hy,e.symm⟩
theorem unv_small(h:l1.map Ob.c=l.map (unv A))(hs:∀o∈l,o.refs.length≤400∧o.ents.length≤100000):∀o∈l1,o.refs.length≤400∧o.ents.length≤100000:=fun x hx=>by
 obtain⟨y,hy,e⟩:=unv_mem h hx;have e1:x.refs=y.refs:=congrArg (fun q:Core=>q.2.2.2.1) e;have e2:x.ents=if unvB A y=true then y.ents.filter (valB A) else y.ents:=congrArg (fun q:Core=>q.2.2.2.2) e;have:=hs y hy;rw[e1,e2];split
 .have:=List.length_filter_le (valB A) y.ents;omega
 exact this
theorem unv_chk:∀{l l1:List Ob}{last:Int},l1.map Ob.c=l.map (unv A)→chk last l1=chk last l
 | [],l1,last,h=>by rw[List.map_eq_nil_iff.1 h]
 | x::r,l1,last,h=>by
  cases l1 with
  | nil=>cases h
  | cons y s=>
   have h1:=(List.cons.inj h).1;have e1:y.id=x.id:=congrArg (fun q:Core=>q.1) h1;have e2:y.size=x.size:=congrArg (fun q:Core=>q.2.1) h1;have e3:y.weak=x.weak:=congrArg (fun q:Core=>q.2.2.1) h1;simp only[chk];rw[e1,e2,e3,unv_chk (List.cons.inj h).2]
end
theorem cyc1_c(l:List Ob)(R:List Int):(cyc1 l R).map Ob.c=l.map (unv (aliveR l R)):=mkOb_map _
theorem cycB_of{l l1:List Ob}{R reg pend:List Int}(h:l1.map Ob.c=l.map (unv (aliveR l R))):aliveR l1 (R++(pend++sepL (aliveR l R) reg))=cycB l R reg pend:=
 alive_c _ (h.trans (cyc1_c l R).symm)
theorem cycO_of{l l1:List Ob}{R reg pend:List Int}(h:l1.map Ob.c=l.map (unv (aliveR l R))):lastL (cycB l R reg pend) (l1.map (clr (cycB l R reg pend)))=cycO l R reg pend:=by
 unfold cycO;rw[map_of_c (fun x y=>clr_c _) (h.trans (cyc1_c l R).symm)]
theorem cycB_asc{l:List Ob}(R reg pend:List Int)(hc:chk 0 l=true):ascA 0 (cycB l R reg pend)=true:=ascA_alive ((unv_chk (cyc1_c l R)).trans hc) _
theorem cycB_len(l:List Ob)(R reg pend:List Int):(cycB l R reg pend).length≤l.length:=by
 have:=alive_len (cyc1 l R) (R++cycP l R reg pend);have h2:=unv_len (cyc1_c l R);unfold cycB;omega
theorem cycP_len(l:List Ob)(R reg pend:List Int):(pend++sepL (aliveR l R) reg).length≤pend.length+reg.length:=by
 have:=sep_len (aliveR l R) reg;rw[List.length_append];omega
theorem fre_yes{B:List Int}{l:List Ob}{i:Nat}{y:Ob}(hy:l[i]?=some y)(h:y.id∉B):(((l.take i).map Ob.id).filter fun x=>!decide (x∈B))++[y.id]=((l.take (i+1)).map Ob.id).filter fun x=>!decide (x∈B):=by
 rw[List.take_add_one,hy];simp[List.filter_append,h]
theorem fre_no{B:List Int}{l:List Ob}{i:Nat}{y:Ob}(hy:l[i]?=some y)(h:y.id∈B):(((l.take i).map Ob.id).filter fun x=>!decide (x∈B))=((l.take (i+1)).map Ob.id).filter fun x=>!decide (x∈B):=by
 rw[List.take_add_one,hy];simp[List.filter_append,h]
end Go.Proofs.YtmhpcebiamkciaaGreat
end
section
set_option linter.unusedSimpArgs false
set_option linter.unusedVariables false
set_option maxRecDepth 100000
set_option maxHeartbeats 2000000
namespace Go.Proofs.YtmhpcebiamkciaaGreat
open Go.Hp Go.J Go.S
open Go.Mem (Ty KTy blk elemAt pre suf blk_pre blk_suf aget aset strK aggDesc)
open Go.Mem (adel apos aget_aset aget_adel)
theorem cycO_small{l l2:List Ob}{R reg pend:List Int}(h:l2.map Ob.c=cycO l R reg pend)(hs:∀o∈l,o.refs.length≤400∧o.ents.length≤100000):l2.length≤l.length∧∀o∈l2,o.refs.length≤400∧o.ents.length≤100000:=by
 constructor
 .have h1:=congrArg List.length h;rw[List.length_map]at h1;have h2:(cycO l R reg pend).length≤(cyc1 l R).length:=by
   unfold cycO lastL;have:=List.length_filter_le (fun x:Core=>decide (x.1∈cycB l R reg pend)) ((cyc1 l R).map (clr (cycB l R reg pend)));rwa [List.length_map]at this
  have h3:=unv_len (cyc1_c l R);omega
 intro x hx;have h1:x.c∈l2.map Ob.c:=List.mem_map.2 ⟨x,hx,rfl⟩;rw[h]at h1;obtain⟨y,hy,e⟩:=List.mem_map.1 (List.mem_filter.1 h1).1;have e1:y.refs=x.refs:=congrArg (fun q:Core=>q.2.2.2.1) e;have e2:y.ents.filter (keepB (cycB l R reg pend) y.weak)=x.ents:=congrArg (fun q:Core=>q.2.2.2.2) e;have:=unv_small (cyc1_c l R) hs y hy;rw[←e1,←e2];have:=List.length_filter_le (keepB (cycB l R reg pend) y.weak) y.ents;omega
theorem cycle_s{Z:Zone}{ov rv:Value}{l:List Ob}{R:List Int}(hg:KnG Z ov rv l R){F:List Asr}{qb:Nat}{reg pend:List Int}(hl0:l.length≤200)(hl:l.length≤100000)(hp:pot l []≤100000000)(hr:R.length≤50000)(hsm:∀o∈l,o.refs.length≤400∧o.ents.length≤100000)(hq1:reg.length≤50000)(hq2:pend.length≤50000):SF Tryz.prog 53 #[.agg #[ov,rv],.pointer (some ⟨qb,0,none⟩)] Z (qA qb reg pend::F) fun r Bs=>∃ov' rv' fv l' R',r=.tuple #[.agg #[ov',rv'],fv,iw (errI (chk 0 l))]∧l'.map Ob.c=(if chk 0 l=true then cycO l R reg pend else [])∧R'=(if chk 0 l=true then R else [])∧Bs=qA qb (if chk 0 l=true then cycR l R reg else reg) (if chk 0 l=true then cycP l R reg pend else pend)::frz (GrA ov' rv' l' R')::own iTy fv (if chk 0 l=true then cycF l R reg pend else [])::F:=by
 refine sf_enter Tryz.func53 63 [(0,.agg #[ov,rv]),(1,.pointer (some ⟨qb,0,none⟩))] (fun w0=>?_);refine k_seq<|k_reg<|s_box #[ov,rv] (fun g1=>?_)
 refine s_alloc (.agg #[(.slice none 0 0),(.slice none 0 0)]) #[(.slice none 0 0),(.slice none 0 0)] (fun g2=>?_);refine sL (t_pure (.slice none 0 0))<|sL (t_pure (iw 0))<|s_nil<|xs_then<|k_seq<|k_seq<|k_reg<|sL (t_pure (.pointer (some ⟨qb,0,none⟩)))<|sL (t_pure (.bool false))<|s_nil<|xs_then<|k_false<|k_skip<|xs_then<|k_seq<|k_seq<|k_reg<|sL (t_loadA 1 #[ov,rv])<|sV (fun _ h=>wcheck_s (hg.up h))<|sL (t_pure (iw (errI (chk 0 l))))<|s_nil<|xs_then<|k_seq<|k_reg<|sL (t_pure (iw (errI (chk 0 l))))<|sL t_cmp<|s_nil<|xs_then<|k_cond (decide ((errI (chk 0 l))≠0)) (fun c3=>?_) (fun c3=>?_)
 .have p4:=dY c3;have hc:=errI_bad p4;refine k_seq<|k_reg<|sL (t_kern (.agg #[(.slice none 0 0),(.slice none 0 0)]))<|sL (t_pure (iw (errI (chk 0 l))))<|s_store 0 #[(.slice none 0 0),(.slice none 0 0)] ?_
  refine sL (t_pure (.slice none 0 0))<|sL (t_pure (iw (errI (chk 0 l))))<|s_nil<|xs_then<|k_ret<|xs_ret ?_
  have hc:=errI_bad p4;exact xs_fin [.agg #[(.slice none 0 0),(.slice none 0 0)],(.slice none 0 0),iw (errI (chk 0 l))] (qA qb reg pend::frz (GrA (.slice none 0 0) (.slice none 0 0) [] [])::own iTy (.slice none 0 0) []::F) (SI.agg 4 57 0 (SI.tmp 5 (SI.tmp 6 SI.nil))) (fun _ h=>(Holds.nilS (T:=iTy) (gr_nil h)).re [4,1,0] [3,3]) ⟨_,_,_,[],[],rfl,by rw[hc];rfl,by rw[hc];rfl,by rw[hc];rfl⟩
 have p5:=Decidable.not_not.1 (dF c3);have hc:=errI_ok p5;have hs:=chk_asc hc;refine k_skip<|xs_then<|k_seq<|k_reg<|sL (t_loadA 1 #[ov,rv])<|sL (t_pure (pB qb 0))<|s_fact (fun H h=>((Acc.zn hg.obs) H h).form) (fun hf6=>?_)
 refine s_fact (fun H h=>((Acc.zn hg.roots) H h).form) (fun hf7=>?_);refine sL (show Lt _ _ _ _ _ (.agg #[ov,rv,.pointer (some ⟨qb,0,none⟩),(.slice none 0 0)]) from by obtain⟨_,_,e⟩:=hf6;rw[e];clear e;obtain⟨_,_,e⟩:=hf7;rw[e];clear e;exact t_kern _)<|s_box #[ov,rv,.pointer (some ⟨qb,0,none⟩),(.slice none 0 0)] (fun g8=>?_)
 refine sL (t_pure (pB g8 0))<|s_nil<|xs_then<|k_seq<|k_seq<|k_reg<|sL (t_pure (iw 0))<|s_nil<|xs_then<|k_block ?_
 have hc:=errI_ok p5;refine k_loop (ι:=List Asr×Nat) (fun i=>(i.2=0∧i.1=blkA g8 #[ov,rv,.pointer (some ⟨qb,0,none⟩),(.slice none 0 0)] 161::qA qb reg pend::blkA g2 #[(.slice none 0 0),(.slice none 0 0)] 57::blkA g1 #[ov,rv] 57::F)∨(i.2=1∧∃av,i.1=blkA g8 #[ov,rv,.pointer (some ⟨qb,0,none⟩),av] 161::qA qb (stayL (aliveR l R) reg) (pend++sepL (aliveR l R) reg)::own iTy av (aliveR l R)::blkA g2 #[(.slice none 0 0),(.slice none 0 0)] 57::blkA g1 #[ov,rv] 57::F)∨(i.2=2∧∃av o1 l1,l1.map Ob.c=l.map (unv (aliveR l R))∧i.1=blkA g8 #[o1,rv,.pointer (some ⟨qb,0,none⟩),av] 161::qA qb (stayL (aliveR l R) reg) (pend++sepL (aliveR l R) reg)::own iTy av (aliveR l R)::zfr Z (GrA o1 rv l1 R)::blkA g2 #[(.slice none 0 0),(.slice none 0 0)] 57::blkA g1 #[ov,rv] 57::F)∨(i.2=3∧∃av o1 l1,l1.map Ob.c=l.map (unv (aliveR l R))∧i.1=blkA g8 #[o1,rv,.pointer (some ⟨qb,0,none⟩),av] 161::qA qb (stayL (aliveR l R) reg) (pend++sepL (aliveR l R) reg)::own iTy av (cycB l R reg pend)::zfr Z (GrA o1 rv l1 R)::blkA g2 #[(.slice none 0 0),(.slice none 0 0)] 57::blkA g1 #[ov,rv] 57::F)∨(i.2=4∧∃av o2 l2,l2.map Ob.c=cycO l R reg pend∧i.1=blkA g8 #[o2,rv,.pointer (some ⟨qb,0,none⟩),av] 161::qA qb (stayL (aliveR l R) reg) (pend++sepL (aliveR l R) reg)::own iTy av (cycB l R reg pend)::zfr Z (GrA o2 rv l2 R)::blkA g2 #[(.slice none 0 0),(.slice none 0 0)] 57::blkA g1 #[ov,rv] 57::F)) (fun i=>[(2,.pointer (some ⟨g1,0,none⟩)),(4,.pointer (some ⟨g2,0,none⟩)),(5,(.slice none 0 0)),(6,iw 0),(8,.pointer (some ⟨g8,0,none⟩)),(27,iw (i.2:Int))]) (fun i=>i.1) (fun i=>4-i.2) (blkA g8 #[ov,rv,.pointer (some ⟨qb,0,none⟩),(.slice none 0 0)] 161::qA qb reg pend::blkA g2 #[(.slice none 0 0),(.slice none 0 0)] 57::blkA g1 #[ov,rv] 57::F,0) (.inl ⟨rfl,rfl⟩) sA (rr [0,2,0,0] []) ?_;rintro⟨As,n⟩ hi;replace hi:(n=0∧As=blkA g8 #[ov,rv,.pointer (some ⟨qb,0,none⟩),(.slice none 0 0)] 161::qA qb reg pend::blkA g2 #[(.slice none 0 0),(.slice none 0 0)] 57::blkA g1 #[ov,rv] 57::F)∨(n=1∧∃av,As=blkA g8 #[ov,rv,.pointer (some ⟨qb,0,none⟩),av] 161::qA qb (stayL (aliveR l R) reg) (pend++sepL (aliveR l R) reg)::own iTy av (aliveR l R)::blkA g2 #[(.slice none 0 0),(.slice none 0 0)] 57::blkA g1 #[ov,rv] 57::F)∨(n=2∧∃av o1 l1,l1.map Ob.c=l.map (unv (aliveR l R))∧As=blkA g8 #[o1,rv,.pointer (some ⟨qb,0,none⟩),av] 161::qA qb (stayL (aliveR l R) reg) (pend++sepL (aliveR l R) reg)::own iTy av (aliveR l R)::zfr Z (GrA o1 rv l1 R)::blkA g2 #[(.slice none 0 0),(.slice none 0 0)] 57::blkA g1 #[ov,rv] 57::F)∨(n=3∧∃av o1 l1,l1.map Ob.c=l.map (unv (aliveR l R))∧As=blkA g8 #[o1,rv,.pointer (some ⟨qb,0,none⟩),av] 161::qA qb (stayL (aliveR l R) reg) (pend++sepL (aliveR l R) reg)::own iTy av (cycB l R reg pend)::zfr Z (GrA o1 rv l1 R)::blkA g2 #[(.slice none 0 0),(.slice none 0 0)] 57::blkA g1 #[ov,rv] 57::F)∨(n=4∧∃av o2 l2,l2.map Ob.c=cycO l R reg pend∧As=blkA g8 #[o2,rv,.pointer (some ⟨qb,0,none⟩),av] 161::qA qb (stayL (aliveR l R) reg) (pend++sepL (aliveR l R) reg)::own iTy av (cycB l R reg pend)::zfr Z (GrA o2 rv l2 R)::blkA g2 #[(.slice none 0 0),(.slice none 0 0)] 57::blkA g1 #[ov,rv] 57::F):=hi;rcases hi with ⟨rfl,rfl⟩|⟨rfl,av,rfl⟩|⟨rfl,av,o1,l1,h1,rfl⟩|⟨rfl,av,o1,l1,h1,rfl⟩|⟨rfl,av,o2,l2,h2,rfl⟩
 .show SK _ _ _ _ _ [(2,.pointer (some ⟨g1,0,none⟩)),(4,.pointer (some ⟨g2,0,none⟩)),(5,(.slice none 0 0)),(6,iw 0),(8,.pointer (some ⟨g8,0,none⟩)),(27,iw 0)] _ (blkA g8 #[ov,rv,.pointer (some ⟨qb,0,none⟩),(.slice none 0 0)] 161::qA qb reg pend::blkA g2 #[(.slice none 0 0),(.slice none 0 0)] 57::blkA g1 #[ov,rv] 57::F);refine k_seq<|k_reg<|sL (t_cmp (c:=true))<|s_nil<|xs_then<|k_seq<|k_true<|k_skip<|xs_then<|k_seq<|k_block<|k_seq<|k_reg<|sL (t_pure (iw 0))<|sL (t_pure (iw 0))<|s_nil<|xs_then<|k_reg<|sL (t_pure (pB g8 0))<|sL (t_pure (iw 0))<|s_call [0,0] (step0_s (reg:=reg) (pend:=pend) hg hl hp om om) ?_
  rintro _ _ ⟨rfl,av9,rfl⟩;refine sF 2 (fun hf10=>?_);refine s_nil<|xs_block<|xs_then<|k_reg<|sL (t_pure (iw 1))<|sL (t_pure (iw 1))<|s_nil ?_
  exact xs_round (blkA g8 #[ov,rv,.pointer (some ⟨qb,0,none⟩),av9] 161::qA qb (stayL (aliveR l R) reg) (pend++sepL (aliveR l R) reg)::own iTy av9 (aliveR l R)::blkA g2 #[(.slice none 0 0),(.slice none 0 0)] 57::blkA g1 #[ov,rv] 57::F,1) (by show 4-1<4-0;omega) (.inr (.inl ⟨rfl,av9,rfl⟩)) sA (rr [0,0,0,0,0] [])
 .show SK _ _ _ _ _ [(2,.pointer (some ⟨g1,0,none⟩)),(4,.pointer (some ⟨g2,0,none⟩)),(5,(.slice none 0 0)),(6,iw 0),(8,.pointer (some ⟨g8,0,none⟩)),(27,iw 1)] _ (blkA g8 #[ov,rv,.pointer (some ⟨qb,0,none⟩),av] 161::qA qb (stayL (aliveR l R) reg) (pend++sepL (aliveR l R) reg)::own iTy av (aliveR l R)::blkA g2 #[(.slice none 0 0),(.slice none 0 0)] 57::blkA g1 #[ov,rv] 57::F);refine k_fact (fun H h=>(show Acc _ _ iTy av _ from Acc.own 2) H h |>.form) (fun hfa=>?_);refine k_seq<|k_reg<|sL (t_cmp (c:=true))<|s_nil<|xs_then<|k_seq<|k_true<|k_skip<|xs_then<|k_seq<|k_block<|k_seq<|k_reg<|sL (t_pure (iw 1))<|sL (t_pure (iw 1))<|s_nil<|xs_then<|k_reg<|sL (t_pure (pB g8 0))<|sL (t_pure (iw 1))<|s_call [0,1] (step1_s hg hl hsm) ?_
  rintro _ _ ⟨rfl,ov11,l12,hl13,rfl⟩;refine s_nil<|xs_block<|xs_then<|k_reg<|sL (t_pure (iw 2))<|sL (t_pure (iw 2))<|s_nil ?_
  exact xs_round (blkA g8 #[ov11,rv,.pointer (some ⟨qb,0,none⟩),av] 161::qA qb (stayL (aliveR l R) reg) (pend++sepL (aliveR l R) reg)::own iTy av (aliveR l R)::zfr Z (GrA ov11 rv l12 R)::blkA g2 #[(.slice none 0 0),(.slice none 0 0)] 57::blkA g1 #[ov,rv] 57::F,2) (by show 4-2<4-1;omega) (.inr (.inr (.inl ⟨rfl,av,ov11,l12,hl13,rfl⟩))) sA (rr [0,2,0,0,0,0] [])
 .show SK _ _ _ _ _ [(2,.pointer (some ⟨g1,0,none⟩)),(4,.pointer (some ⟨g2,0,none⟩)),(5,(.slice none 0 0)),(6,iw 0),(8,.pointer (some ⟨g8,0,none⟩)),(27,iw 2)] _ (blkA g8 #[o1,rv,.pointer (some ⟨qb,0,none⟩),av] 161::qA qb (stayL (aliveR l R) reg) (pend++sepL (aliveR l R) reg)::own iTy av (aliveR l R)::zfr Z (GrA o1 rv l1 R)::blkA g2 #[(.slice none 0 0),(.slice none 0 0)] 57::blkA g1 #[ov,rv] 57::F);refine k_fact (fun H h=>(show Acc _ _ iTy av _ from Acc.own 2) H h |>.form) (fun hfa=>?_);refine k_seq<|k_reg<|sL (t_cmp (c:=true))<|s_nil<|xs_then<|k_seq<|k_true<|k_skip<|xs_then<|k_seq<|k_block<|k_seq<|k_reg<|sL (t_pure (iw 2))<|sL (t_pure (iw 2))<|s_nil<|xs_then<|k_reg<|sL (t_pure (pB g8 0))<|sL (t_pure (iw 2))<|s_call [0,1,1,0] (step2_s (l:=l1) (R:=R) (pend:=(pend++sepL (aliveR l R) reg)) (by have:=unv_len h1;omega) (by have h0:=unv_len h1;have:=pot_le l1 (unv_small h1 hsm) [];omega) om (by have:=cycP_len l R reg pend;omega)) ?_
  rintro _ _ ⟨rfl,av14,rfl⟩;rw[cycB_of h1];refine sF 1 (fun hf15=>?_);refine s_nil<|xs_block<|xs_then<|k_reg<|sL (t_pure (iw 3))<|sL (t_pure (iw 3))<|s_nil ?_
  exact xs_round (blkA g8 #[o1,rv,.pointer (some ⟨qb,0,none⟩),av14] 161::qA qb (stayL (aliveR l R) reg) (pend++sepL (aliveR l R) reg)::own iTy av14 (cycB l R reg pend)::zfr Z (GrA o1 rv l1 R)::blkA g2 #[(.slice none 0 0),(.slice none 0 0)] 57::blkA g1 #[ov,rv] 57::F,3) (by show 4-3<4-2;omega) (.inr (.inr (.inr (.inl ⟨rfl,av14,o1,l1,h1,rfl⟩)))) sA (rr [0,2,0,0,0,0] [])
 .show SK _ _ _ _ _ [(2,.pointer (some ⟨g1,0,none⟩)),(4,.pointer (some ⟨g2,0,none⟩)),(5,(.slice none 0 0)),(6,iw 0),(8,.pointer (some ⟨g8,0,none⟩)),(27,iw 3)] _ (blkA g8 #[o1,rv,.pointer (some ⟨qb,0,none⟩),av] 161::qA qb (stayL (aliveR l R) reg) (pend++sepL (aliveR l R) reg)::own iTy av (cycB l R reg pend)::zfr Z (GrA o1 rv l1 R)::blkA g2 #[(.slice none 0 0),(.slice none 0 0)] 57::blkA g1 #[ov,rv] 57::F);refine k_fact (fun H h=>(show Acc _ _ iTy av _ from Acc.own 2) H h |>.form) (fun hfa=>?_);refine k_seq<|k_reg<|sL (t_cmp (c:=true))<|s_nil<|xs_then<|k_seq<|k_true<|k_skip<|xs_then<|k_seq<|k_block<|k_seq<|k_reg<|sL (t_pure (iw 3))<|sL (t_pure (iw 3))<|s_nil<|xs_then<|k_reg<|sL (t_pure (pB g8 0))<|sL (t_pure (iw 3))<|s_call [0,1,1] (step3_s (l:=l1) (R:=R) (B:=cycB l R reg pend) (by have:=unv_len h1;omega) om (unv_small h1 hsm) (by have:=cycB_len l R reg pend;omega) (by rw[unv_chk h1,hc,cycB_asc R reg pend hc];rfl)) ?_
  rintro _ _ ⟨rfl,ov16,l17,hl18,rfl⟩;rw[cycO_of h1]at hl18;refine s_nil<|xs_block<|xs_then<|k_reg<|sL (t_pure (iw 4))<|sL (t_pure (iw 4))<|s_nil ?_
  exact xs_round (blkA g8 #[ov16,rv,.pointer (some ⟨qb,0,none⟩),av] 161::qA qb (stayL (aliveR l R) reg) (pend++sepL (aliveR l R) reg)::own iTy av (cycB l R reg pend)::zfr Z (GrA ov16 rv l17 R)::blkA g2 #[(.slice none 0 0),(.slice none 0 0)] 57::blkA g1 #[ov,rv] 57::F,4) (by show 4-4<4-3;omega) (.inr (.inr (.inr (.inr ⟨rfl,av,ov16,l17,hl18,rfl⟩)))) sA (rr [0,2,0,0,0,0] [])
 show SK _ _ _ _ _ [(2,.pointer (some ⟨g1,0,none⟩)),(4,.pointer (some ⟨g2,0,none⟩)),(5,(.slice none 0 0)),(6,iw 0),(8,.pointer (some ⟨g8,0,none⟩)),(27,iw 4)] _ (blkA g8 #[o2,rv,.pointer (some ⟨qb,0,none⟩),av] 161::qA qb (stayL (aliveR l R) reg) (pend++sepL (aliveR l R) reg)::own iTy av (cycB l R reg pend)::zfr Z (GrA o2 rv l2 R)::blkA g2 #[(.slice none 0 0),(.slice none 0 0)] 57::blkA g1 #[ov,rv] 57::F);refine k_fact (fun H h=>(show Acc _ _ iTy av _ from Acc.own 2) H h |>.form) (fun hfa=>?_);refine k_seq<|k_reg<|sL (t_cmp (c:=false))<|s_nil<|xs_then<|k_seq<|k_false<|k_exit<|xs_exit<|xs_exit<|xs_here<|xs_then<|k_seq<|k_reg<|sL (t_pure (pB g8 0))<|sL (t_pure (pB g8 0))<|sL (t_pure (pB g8 3))<|sL (t_load 0 av)<|s_pcall (fun _ h=>set_s (L:=(cycB l R reg pend)) (Acc.kn (.own 2) h)) ?_
 rintro _ _ ⟨mp19,rfl,rfl⟩;refine sL (t_pure (.map (some mp19)))<|s_nil<|xs_then<|k_seq<|k_reg<|sL (t_pure (.slice none 0 0))<|s_nil<|xs_then<|k_seq<|k_seq<|k_reg<|sL (t_pure (pB g1 0))<|sL (t_load 6 ov)<|sL (t_len ObT_ok Tryz.underlying55 (.zn hg.obs))<|sL (t_pure (iw 0))<|s_nil<|xs_then<|k_block<|k_mem (fun _ h=>Holds.nilS (T:=iTy) h) ?_
 refine k_mem (Bs:=own iTy (.slice none 0 0) (((l.take 0).map Ob.id).filter fun x=>!decide (x∈cycB l R reg pend))::mpA (Go.Mem.intK 3) bV mp19 (setL (cycB l R reg pend))::blkA g8 #[o2,rv,.pointer (some ⟨qb,0,none⟩),av] 161::qA qb (stayL (aliveR l R) reg) (pend++sepL (aliveR l R) reg)::own iTy av (cycB l R reg pend)::zfr Z (GrA o2 rv l2 R)::blkA g2 #[(.slice none 0 0),(.slice none 0 0)] 57::blkA g1 #[ov,rv] 57::F) (fun _ h=>h) ?_;refine k_loop (ι:=Value×Nat) (fun (fx,i)=>i≤l.length) (fun (fx,i)=>[(4,.pointer (some ⟨g2,0,none⟩)),(5,(.slice none 0 0)),(6,iw 0),(8,.pointer (some ⟨g8,0,none⟩)),(10,.map (some mp19)),(11,fx),(40,ov),(41,iw (l.length:Int)),(42,iw (i:Int))]) (fun (fx,i)=>own iTy fx (((l.take i).map Ob.id).filter fun x=>!decide (x∈cycB l R reg pend))::mpA (Go.Mem.intK 3) bV mp19 (setL (cycB l R reg pend))::blkA g8 #[o2,rv,.pointer (some ⟨qb,0,none⟩),av] 161::qA qb (stayL (aliveR l R) reg) (pend++sepL (aliveR l R) reg)::own iTy av (cycB l R reg pend)::zfr Z (GrA o2 rv l2 R)::blkA g2 #[nS,nS] 57::blkA g1 #[ov,rv] 57::F) (fun (fx,i)=>l.length-i) (.slice none 0 0,0) (Nat.zero_le _) sA (rr [0,0,0,0,0,0,0,0] []) ?_;rintro⟨fx,i⟩ hi20;replace hi20:i≤l.length:=hi20;show SK _ _ _ _ _ [(4,.pointer (some ⟨g2,0,none⟩)),(5,nS),(6,iw 0),(8,.pointer (some ⟨g8,0,none⟩)),(10,.map (some mp19)),(11,fx),(40,ov),(41,iw (l.length:Int)),(42,iw (i:Int))] _ (own iTy fx (((l.take i).map Ob.id).filter fun x=>!decide (x∈cycB l R reg pend))::mpA (Go.Mem.intK 3) bV mp19 (setL (cycB l R reg pend))::blkA g8 #[o2,rv,.pointer (some ⟨qb,0,none⟩),av] 161::qA qb (stayL (aliveR l R) reg) (pend++sepL (aliveR l R) reg)::own iTy av (cycB l R reg pend)::zfr Z (GrA o2 rv l2 R)::blkA g2 #[nS,nS] 57::blkA g1 #[ov,rv] 57::F);have hfl:(((l.take i).map Ob.id).filter fun x=>!decide (x∈cycB l R reg pend)).length≤i:=by have h:=List.length_filter_le (fun x=>!decide (x∈cycB l R reg pend)) ((l.take i).map Ob.id);rw[List.length_map,List.length_take]at h;omega
 refine k_seq<|k_reg<|sL t_cmp<|s_nil<|xs_then<|k_seq<|k_cond (decide ((i:Int)<(l.length:Int))) (fun c21=>?_) (fun c21=>?_)
 .have p22:=dY c21;refine k_skip<|xs_then<|k_seq<|k_block<|k_seq<|k_reg<|sL (t_index ObT_ok Tryz.underlying55 (.zn hg.obs) (i:Int) i om (by (try simp only[List.length_nil,List.length_cons,List.length_append,List.length_take,List.length_drop,List.length_set,List.length_replicate,List.length_reverse]);omega) om) ?_
  obtain⟨y23,hy24⟩:∃y,l[i]?=some y:=⟨_,List.getElem?_eq_getElem (by (try simp only[lnm]);omega)⟩;have hk25:=hg.each y23 (List.mem_of_getElem? hy24);refine sL (t_loadE ObT_ok (.zn hg.obs) hy24)<|s_alloc (.agg #[iw 0,iw 0,iw 0,nS,nS]) #[iw 0,iw 0,iw 0,nS,nS] (fun g26=>?_)
  refine s_store 0 #[iw y23.id,iw y23.size,iw y23.weak,y23.rv.v,y23.ev.v] ?_;refine s_nil<|xs_then<|k_seq<|k_reg<|sL (t_pure (.map (some mp19)))<|sL (t_pure (pB g26 0))<|sL (t_load 0 (iw y23.id))<|sL (Lt.to (v':=.bool (decide (y23.id∈cycB l R reg pend))) (t_lookup 2 intOk Tryz.underlying95 (.bool false) y23.id) (got_set _ _))<|sL (t_pure (.bool (!(decide (y23.id∈cycB l R reg pend)))))<|s_nil<|xs_then<|k_cond (!(decide (y23.id∈cycB l R reg pend))) (fun c27=>?_) (fun c27=>?_)
  .have c28:=not_t c27;have p29:=dF c28;refine k_reg<|sL (t_pure fx)<|sL (t_pure (pB g26 0))<|sL (t_load 0 (iw y23.id))<|s_buildSlice (e:=3) [(0,iw y23.id)] #[iw y23.id] (fun g30=>?_) (hb:=by kernel_rfl)
   refine s_append (L:=(((l.take i).map Ob.id).filter fun x=>!decide (x∈cycB l R reg pend))) 2 iTy_ok Tryz.underlying23 (.lit 0 iTy_ok [y23.id]) (by show _*8≤_;(try simp only[lnm]);omega) (by (try simp only[lnm]);omega) (fun v31=>?_);refine sF 2 (fun hf32=>?_);refine sL (t_pure v31)<|s_nil<|xs_block<|xs_then<|k_reg<|sL (t_add (i:Int) 1 (by (try simp only[lnm]);omega))<|sL (t_pure (iw ((i:Int)+1)))<|s_nil ?_
   rw[fre_yes hy24 p29];exact xs_round (v31,i+1) (by show l.length-(i+1)<l.length-i;omega) (by show i+1≤l.length;omega) sA (rr [2,2,2,2,2,2,2,2] [8,8])
  have c33:=not_f c27;have p34:=dY c33;refine k_skip<|xs_block<|xs_then<|k_reg<|sL (t_add (i:Int) 1 (by (try simp only[lnm]);omega))<|sL (t_pure (iw ((i:Int)+1)))<|s_nil ?_
  rw[fre_no hy24 p34];exact xs_round (fx,i+1) (by show l.length-(i+1)<l.length-i;omega) (by show i+1≤l.length;omega) sA (rr [1,1,1,1,1,1,1,1] [8])
 have p35:=dF c21;refine k_exit ?_;obtain rfl:i=l.length:=by omega
 rw[List.take_length];refine xs_exit<|xs_exit<|xs_here<|xs_then<|k_seq<|k_reg<|sL (t_pure (pB g8 0))<|sL (t_pure (pB g8 0))<|sL (t_pure (pB g8 0))<|sL (t_loadA 2 #[o2,rv]) ?_
 have hs2:l2.length≤l.length∧∀o∈l2,o.refs.length≤400∧o.ents.length≤100000:=cycO_small h2 hsm;refine s_pcall (fun _ h=>gclone_g (GrA.kn (h.zfrF 5)) om om hs2.2) ?_;rintro _ _ ⟨ov36,rv37,l38,rfl,hl39,rfl⟩;refine sL (t_pure fx)<|s_fact (fun H h=>((show Acc _ _ ObT _ _ from (accF 0)) H h).form) (fun hf40=>?_)
 refine s_fact (fun H h=>((show Acc _ _ iTy _ _ from (accR 0)) H h).form) (fun hf41=>?_);refine s_store (u:=.agg #[ov36,rv37]) (m:=2) 7 #[ov36,rv37] ?_ (hm:=by (obtain⟨_,_,e0⟩:=hf40;obtain⟨_,_,e1⟩:=hf41;rw[e0,e1];rfl)) (h1:=by (obtain⟨_,_,e0⟩:=hf40;obtain⟨_,_,e1⟩:=hf41;rw[e0,e1];rfl)) (ha':=by (obtain⟨_,_,e0⟩:=hf40;obtain⟨_,_,e1⟩:=hf41;rw[e0,e1];rfl));refine sL (t_pure fx)<|sL (t_pure (iw 0))<|s_nil<|xs_then<|k_ret ?_
 exact xs_fin [.agg #[ov36,rv37],fx,iw 0] (qA qb (cycR l R reg) (cycP l R reg pend)::frz (GrA ov36 rv37 l38 R)::own iTy fx (cycF l R reg pend)::F) (SI.agg 4 57 7 (SI.tmp 5 (SI.tmp 6 SI.nil))) (rr [4,0,0] [3,3,3,3,3,3]) ⟨_,_,_,l38,R,by rw[hc];rfl,by rw[hc];exact hl39.trans h2,by rw[hc];rfl,by rw[hc];rfl⟩
end Go.Proofs.YtmhpcebiamkciaaGreat
end
section
set_option linter.unusedSimpArgs false
set_option linter.unusedVariables false
namespace Go.Proofs
open Go.Shelf
def Tryz.laysCt_ren:Go.Shelf.Ren:=⟨fun|144=>113|143=>173|219=>212|217=>248|225=>249|224=>250|267=>251|266=>265|314=>266|n=>n,fun|9=>9|4=>4|3=>3|5=>5|46=>217|146=>280|51=>251|n=>n,fun|1=>0|n=>n⟩
theorem Tryz.laysCt : Go.Proofs.Lays.n144 Tryz.prog Tryz.laysCt_ren := {
  mixed := by kernel_rfl
  f143 := Tryz.func173.trans (congrArg some (by kernel_rfl))
  f144 := Tryz.func113.trans (congrArg some (by kernel_rfl))
  f217 := Tryz.func248.trans (congrArg some (by kernel_rfl))
  f219 := Tryz.func212.trans (congrArg some (by kernel_rfl))
  f224 := Tryz.func250.trans (congrArg some (by kernel_rfl))
  f225 := Tryz.func249.trans (congrArg some (by kernel_rfl))
  f266 := Tryz.func265.trans (congrArg some (by kernel_rfl))
  f267 := Tryz.func251.trans (congrArg some (by kernel_rfl))
  f314 := Tryz.func266.trans (congrArg some (by kernel_rfl))
  t3 := Tryz.underlying3
  a3 := Tryz.isAgg3
  z3 := Tryz.sizeOf3
  v3 := Tryz.zeroValue3
  t4 := Tryz.underlying4
  a4 := Tryz.isAgg4
  z4 := Tryz.sizeOf4
  v4 := Tryz.zeroValue4
  t5 := Tryz.underlying5
  a5 := Tryz.isAgg5
  z5 := Tryz.sizeOf5
  v5 := Tryz.zeroValue5
  t9 := Tryz.underlying9
  a9 := Tryz.isAgg9
  z9 := Tryz.sizeOf9
  v9 := Tryz.zeroValue9
  t46 := Tryz.underlying217
  a46 := Tryz.isAgg217
  z46 := Tryz.sizeOf217
  v46 := Tryz.zeroValue217
  t51 := Tryz.underlying251
  a51 := Tryz.isAgg251
  z51 := Tryz.sizeOf251
  v51 := Tryz.zeroValue251
  t146 := Tryz.underlying280
  a146 := Tryz.isAgg280
  z146 := Tryz.sizeOf280
  v146 := Tryz.zeroValue280
  g1 := by kernel_rfl }
open Go.RowKit Go.Lib in
theorem Tryz.strings_Contains(s:ByteArray)(c:UInt8)(w:World):Calls Tryz.prog 113 #[.string s,.string ⟨#[c]⟩] w fun e w'=>e=.returned (.bool (decide (0≤Lib.indexByte s.data.toList c)))∧w'=w:=Any.strings_Contains_one Tryz.laysCt s c w
namespace YtmhpcebiamkciaaGreat
open Go.Hp Go.J Go.S
def hasB(s:ByteArray)(c:UInt8):Bool:=decide (0≤Lib.indexByte s.data.toList c)
theorem scont_s{Z:Zone}(s:ByteArray)(c:UInt8):SF Tryz.prog 113 #[.string s,.string ⟨#[c]⟩] Z [] fun v Bs=>v=.bool (hasB s c)∧Bs=[]:=
 sf_val fun H hH w hw=>(Tryz.strings_Contains s c w).mono fun e w' ⟨he,hw'⟩=>⟨_,he,by subst hw';exact⟨rfl,rfl,rfl,rfl⟩,rfl,by subst hw';rw[←hw];exact⟨Nat.le_refl _,fun _ _ _=>rfl⟩⟩
end YtmhpcebiamkciaaGreat
end Go.Proofs
end
section
set_option linter.unusedSimpArgs false
set_option linter.unusedVariables false
set_option maxRecDepth 100000
set_option maxHeartbeats 2000000
namespace Go.Proofs.YtmhpcebiamkciaaGreat
open Go.Hp Go.J Go.S
open Go.Mem (Ty KTy blk elemAt pre suf blk_pre blk_suf aget aset strK aggDesc)
open Go.Mem (adel apos aget_aset aget_adel)
def wkn(st:Hst)(v:Vl):Int:=if v.kind=4∧(hdl st v ⟨#[95,95,109,111,100,101]⟩).kind=3 then (if hasB (hdl st v ⟨#[95,95,109,111,100,101]⟩).str 107 then 1 else 0)+(if hasB (hdl st v ⟨#[95,95,109,111,100,101]⟩).str 118 then 2 else 0) else 0
theorem hasB_list(s:ByteArray)(c:UInt8):hasB s c=s.data.toList.contains c:=(Lib.contains_iff_indexByte _ _).symm
theorem byte_list{s:ByteArray}{i:Nat}(hi:i<s.size):s.data.toList[i]?=s[i]?:=by
 rw[getElem?_pos s i hi];exact (List.getElem?_eq_getElem (by simpa using hi)).trans (congrArg some (by simp[ByteArray.getElem_eq_getElem_data]))
theorem hasB_in{s:ByteArray}{c:UInt8}{i:Nat}(h:s[i]?=some c):hasB s c=true:=by
 rw[hasB_list,List.contains_iff_mem];have hi:i<s.size:=by
  by_cases hi:i<s.size
  .exact hi
  rw[getElem?_neg s i hi]at h;cases h
 exact List.mem_of_getElem? ((byte_list hi).trans h)
theorem hasB_out{s:ByteArray}{c:UInt8}(h:∀j:Nat,j<s.size→s[j]?≠some c):hasB s c=false:=by
 rw[hasB_list,Bool.eq_false_iff,Ne,List.contains_iff_mem];intro hm;obtain⟨j,hj,e⟩:=List.getElem_of_mem hm;have hj':j<s.size:=by simpa using hj
 exact h j hj' ((byte_list hj').symm.trans (by rw[List.getElem?_eq_getElem hj,e]))
theorem has_step{s:ByteArray}{c y:UInt8}{i:Nat}(h:∀j:Nat,j<i→s[j]?≠some c)(hy:s[i]?=some y)(hne:¬(y.toNat:Int)=(c.toNat:Int)):∀j:Nat,j<i+1→s[j]?≠some c:=fun j hj=>by
 rcases Nat.lt_succ_iff_lt_or_eq.1 hj with hj|rfl
 .exact h j hj
 rw[hy];intro e;injection e with e;subst e;exact hne rfl
theorem tget_valid{T:Tb}(h:TInv T)(k:Vl):validB (tget T k)=true:=by
 unfold tget;split
 .rfl
 split
 .cases hx:T.list[(whole k-1).toNat]? with
  | none=>rfl
  | some y=>exact h.list y (List.mem_of_getElem? hx)
 unfold oget;split
 .rename_i s hs;obtain⟨i,_,hi⟩:=Option.bind_eq_some_iff.1 hs;have hm:=List.mem_of_getElem? hi;by_cases hg:s.gone=true
  .rw [h.rest.zero s hm hg];rfl
  exact (h.rest.vals s hm (by simpa using hg)).1
 rfl
theorem hget_valid{st:Hst}(h:HInv st)(t k:Vl):validB (hgetV st t k)=true:=by
 unfold hgetV;split
 .rename_i T hT;obtain⟨o,_,hg,_,_,rfl⟩:=htab_some hT;exact tget_valid (h.obs o (get_mem hg).1).tab k
 rfl
theorem hdl_valid{st:Hst}(h:HInv st)(v:Vl)(ev:ByteArray):validB (hdl st v ev)=true:=by
 unfold hdl;split
 .rfl
 exact hget_valid h _ _
theorem valid_str{v:Vl}(h:validB v=true)(hk:v.kind=3):v.str.size≤4096:=by
 simp[validB,hk]at h;omega
theorem rhas_s{Z:Zone}(s:ByteArray)(c:UInt8)(hs:s.size≤4096):SF Tryz.prog 105 #[sw s,.int .u8 (c.toNat:Int)] Z [] fun r Bs=>r=.bool (hasB s c)∧Bs=[]:=by
 refine sf_enter Tryz.func105 17 [(0,sw s),(1,.int .u8 (c.toNat:Int))] (fun w0=>?_);refine k_sr<|sP (.bool false)<|s_nt<|k_seq<|k_sr<|sP (iw 0)<|s_nt<|k_block<|k_loop (ι:=Nat) (fun i=>i≤s.size∧∀j:Nat,j<i→s[j]?≠some c) (fun i=>[(0,sw s),(1,.int .u8 (c.toNat:Int)),(5,iw (i:Int))]) (fun i=>[]) (fun i=>s.size-i) 0 ⟨by omega,fun j hj=>by omega⟩ sA (rr [] []) ?_
 rintro i hi1;show SK _ _ _ _ _ [(0,sw s),(1,.int .u8 (c.toNat:Int)),(5,iw (i:Int))] _ [];refine k_seq<|k_sr<|sP (iw (i:Int))<|sP (sw s)<|sL (t_kern (iw (s.size:Int)))<|sL t_cmp<|s_nt<|k_cond (decide ((i:Int)<(s.size:Int))) (fun c2=>?_) (fun c2=>?_)
 .have p3:=dY c2;refine k_st<|k_seq<|k_block<|k_sr<|sP (sw s)<|sP (iw (i:Int)) ?_
  obtain⟨y4,hy5⟩:∃y,s[i]?=some y:=⟨_,getElem?_pos _ _ om⟩;refine sL (t_idxS Tryz.underlying9 s (i:Int) y4 om (by rw[show ((i:Int)).toNat=i by omega];exact hy5))<|sP (.int .u8 (c.toNat:Int))<|sL t_cmp<|s_nt<|k_cond (decide ((y4.toNat:Int)=(c.toNat:Int))) (fun c6=>?_) (fun c6=>?_)
  .have p7:=dY c6;refine k_sr<|sP (.bool true)<|s_nt<|k_ret<|xs_retBlock<|xs_ret<|xs_ret<|xs_retBlock<|xs_ret<|xs_fin _ _ (SI.tmp 4 SI.nil) (rr [] []) ⟨cB ?_,rfl⟩
   have e:=dY c6;have e2:y4=c:=UInt8.toNat_inj.1 om;subst e2;exact (hasB_in hy5).symm
  have p8:=dF c6;refine k_skip<|xs_block<|xs_then<|k_reg<|sP (iw (i:Int))<|sL (t_add (i:Int) 1 ol)<|sP (iw ((i:Int)+1))<|s_nil ?_
  exact xs_round (i+1) om ⟨by omega,has_step hi1.2 hy5 (dF c6)⟩ sA (rr [] [])
 have p9:=dF c2;refine k_exit<|xs_exit<|xs_exit<|xs_here<|xs_then<|k_sr<|sP (.bool false)<|s_nt<|k_ret<|xs_fin _ _ (SI.tmp 4 SI.nil) (rr [] []) ⟨cB ?_,rfl⟩
 exact (hasB_out fun j hj=>hi1.2 j om).symm
theorem wkn_s{Z:Zone}{F:List Asr}{b:Nat}{st:Hst}{n:Nat}(hsm:HSm n st)(hn:n≤300)(v:Vl):SF Tryz.prog 52 #[.pointer (some ⟨b,0,none⟩),v.v] Z (hpA b st::F) fun r Bs=>r=iw (wkn st v)∧Bs=hpA b st::F:=by
 refine sf_enter Tryz.func52 29 [(0,pB b 0),(1,.agg (vc v))] (fun w0=>?_);have hlen0:=hsm.len;refine k_sr<|s_box (vc v) (fun g1=>?_)
 refine sP (iw 0)<|s_nr<|sP (pB b 0)<|sL (t_loadA 0 (vc v))<|sC [1] (hdl_s (st:=st) hsm om v ⟨#[95,95,109,111,100,101]⟩) ?_
 refine s_alloc (.agg zc) zc (fun g2=>?_);refine s_store 0 (vc (hdl st v ⟨#[95,95,109,111,100,101]⟩)) ?_;refine s_nt<|k_seq<|k_sr<|sP (pB g1 0)<|sL (t_load 2 (iw v.kind))<|sL t_cmp<|sP (.bool (decide (v.kind≠4)))<|s_fork 13 (decide (v.kind≠4)) (fun c3=>?_) (fun c3=>?_)
 .have p4:=dY c3;refine sK<|sK<|sK<|sP (.bool true)<|s_nt<|k_true<|k_sr<|sP (iw 0)<|s_nt<|k_ret<|xs_ret<|xs_fin _ _ (SI.tmp 4 SI.nil) (rr [1] [1,1]) ⟨cI ?_,rfl⟩
  unfold wkn;simp_all
 have p5:=Decidable.not_not.1 (dF c3);refine sP (pB g2 0)<|sL (t_load 0 (iw ((hdl st v ⟨#[95,95,109,111,100,101]⟩).kind)))<|sL t_cmp<|sP (.bool (decide ((hdl st v ⟨#[95,95,109,111,100,101]⟩).kind≠3)))<|s_nt<|k_cond (decide ((hdl st v ⟨#[95,95,109,111,100,101]⟩).kind≠3)) (fun c6=>?_) (fun c6=>?_)
 .have p7:=dY c6;refine k_sr<|sP (iw 0)<|s_nt<|k_ret<|xs_ret<|xs_fin _ _ (SI.tmp 4 SI.nil) (rr [1] [1,1]) ⟨cI ?_,rfl⟩
  unfold wkn;simp_all
 have p8:=Decidable.not_not.1 (dF c6);refine k_st<|k_sr<|sP (iw 0)<|s_nt<|k_seq<|k_sr<|sP (pB g2 3)<|sL (t_load 0 (sw ((hdl st v ⟨#[95,95,109,111,100,101]⟩).str)))<|sV (fun _ h=>scont_s ((hdl st v ⟨#[95,95,109,111,100,101]⟩).str) 107)<|s_nt<|k_cond (hasB ((hdl st v ⟨#[95,95,109,111,100,101]⟩).str) 107) (fun c9=>?_) (fun c9=>?_)
 .refine k_reg<|sP (iw 0)<|sL (Lt.to (v':=iw 1) (t_or 0 1) (by kernel_rfl))<|sP (iw 1)<|s_nt<|k_seq<|k_sr<|sP (pB g2 3)<|sL (t_load 0 (sw ((hdl st v ⟨#[95,95,109,111,100,101]⟩).str)))<|sV (fun _ h=>scont_s ((hdl st v ⟨#[95,95,109,111,100,101]⟩).str) 118)<|s_nt<|k_cond (hasB ((hdl st v ⟨#[95,95,109,111,100,101]⟩).str) 118) (fun c10=>?_) (fun c10=>?_)
  .refine k_reg<|sP (iw 1)<|sL (Lt.to (v':=iw 3) (t_or 1 2) (by kernel_rfl))<|sP (iw 3)<|s_nr<|sP2 (iw 3)<|s_nt<|k_ret<|xs_fin _ _ (SI.tmp 4 SI.nil) (rr [1] [1,1]) ⟨cI ?_,rfl⟩
   unfold wkn;simp_all
  refine k_st<|k_sr<|sP2 (iw 1)<|s_nt<|k_ret<|xs_fin _ _ (SI.tmp 4 SI.nil) (rr [1] [1,1]) ⟨cI ?_,rfl⟩
  unfold wkn;simp_all
 refine k_st<|k_seq<|k_sr<|sP (pB g2 3)<|sL (t_load 0 (sw ((hdl st v ⟨#[95,95,109,111,100,101]⟩).str)))<|sV (fun _ h=>scont_s ((hdl st v ⟨#[95,95,109,111,100,101]⟩).str) 118)<|s_nt<|k_cond (hasB ((hdl st v ⟨#[95,95,109,111,100,101]⟩).str) 118) (fun c11=>?_) (fun c11=>?_)
 .refine k_reg<|sP (iw 0)<|sL (Lt.to (v':=iw 2) (t_or 0 2) (by kernel_rfl))<|sP (iw 2)<|s_nr<|sP2 (iw 2)<|s_nt<|k_ret<|xs_fin _ _ (SI.tmp 4 SI.nil) (rr [1] [1,1]) ⟨cI ?_,rfl⟩
  unfold wkn;simp_all
 refine k_st<|k_sr<|sP2 (iw 0)<|s_nt<|k_ret<|xs_fin _ _ (SI.tmp 4 SI.nil) (rr [1] [1,1]) ⟨cI ?_,rfl⟩
 unfold wkn;simp_all
theorem rwkn_s{Z:Zone}{F:List Asr}{b:Nat}{st:Hst}{n:Nat}(hsm:HSm n st)(hn:n≤300)(v:Vl):SF Tryz.prog 43 #[.pointer (some ⟨b,0,none⟩),v.v] Z (rhA b st::F) fun r Bs=>r=iw (wkn st v)∧Bs=rhA b st::F:=by
 refine sf_enter Tryz.func43 27 [(0,pB b 0),(1,.agg (vc v))] (fun w0=>?_);have hlen0:=hsm.len;refine k_fact (fun H h=>rh_inv (h.re [0] [])) (fun hi0=>?_);refine k_sr<|s_box (vc v) (fun g1=>?_)
 refine sP (iw 0)<|s_nt<|k_seq<|k_sr<|sP (pB g1 0)<|sL (t_load 0 (iw v.kind))<|sL t_cmp<|s_nt<|k_cond (decide (v.kind≠4)) (fun c2=>?_) (fun c2=>?_)
 .have p3:=dY c2;refine k_sr<|sP (iw 0)<|s_nt<|k_ret<|xs_ret<|xs_fin _ _ (SI.tmp 4 SI.nil) (rr [1] [1]) ⟨cI ?_,rfl⟩
  unfold wkn;simp_all
 have p4:=Decidable.not_not.1 (dF c2);refine k_st<|k_sr<|sP (pB b 0)<|sL (t_loadA 0 (vc v))<|sC [1] (rhdl_s (st:=st) hsm om v ⟨#[95,95,109,111,100,101]⟩) ?_
 refine s_alloc (.agg zc) zc (fun g5=>?_);refine s_store 0 (vc (hdl st v ⟨#[95,95,109,111,100,101]⟩)) ?_;refine s_nt<|k_seq<|k_sr<|sP (pB g5 0)<|sL (t_load 0 (iw ((hdl st v ⟨#[95,95,109,111,100,101]⟩).kind)))<|sL t_cmp<|s_nt<|k_cond (decide ((hdl st v ⟨#[95,95,109,111,100,101]⟩).kind≠3)) (fun c6=>?_) (fun c6=>?_)
 .have p7:=dY c6;refine k_sr<|sP (iw 0)<|s_nt<|k_ret<|xs_ret<|xs_fin _ _ (SI.tmp 4 SI.nil) (rr [1] [1,1]) ⟨cI ?_,rfl⟩
  unfold wkn;simp_all
 have p8:=Decidable.not_not.1 (dF c6);refine k_st<|k_sr<|sP (iw 0)<|s_nt<|k_seq<|k_sr<|sP (pB g5 3)<|sL (t_load 0 (sw ((hdl st v ⟨#[95,95,109,111,100,101]⟩).str)))<|sV (fun _ h=>rhas_s ((hdl st v ⟨#[95,95,109,111,100,101]⟩).str) 107 (valid_str (hdl_valid hi0 _ _) om))<|s_nt<|k_cond (hasB ((hdl st v ⟨#[95,95,109,111,100,101]⟩).str) 107) (fun c9=>?_) (fun c9=>?_)
 .refine k_reg<|sP (iw 0)<|sP2 (iw 1)<|s_nt<|k_seq<|k_sr<|sP (pB g5 3)<|sL (t_load 0 (sw ((hdl st v ⟨#[95,95,109,111,100,101]⟩).str)))<|sV (fun _ h=>rhas_s ((hdl st v ⟨#[95,95,109,111,100,101]⟩).str) 118 (valid_str (hdl_valid hi0 _ _) om))<|s_nt<|k_cond (hasB ((hdl st v ⟨#[95,95,109,111,100,101]⟩).str) 118) (fun c10=>?_) (fun c10=>?_)
  .refine k_reg<|sP (iw 1)<|sP2 (iw 3)<|s_nr<|sP2 (iw 3)<|s_nt<|k_ret<|xs_fin _ _ (SI.tmp 4 SI.nil) (rr [1] [1,1]) ⟨cI ?_,rfl⟩
   unfold wkn;simp_all
  refine k_st<|k_sr<|sP2 (iw 1)<|s_nt<|k_ret<|xs_fin _ _ (SI.tmp 4 SI.nil) (rr [1] [1,1]) ⟨cI ?_,rfl⟩
  unfold wkn;simp_all
 refine k_st<|k_seq<|k_sr<|sP (pB g5 3)<|sL (t_load 0 (sw ((hdl st v ⟨#[95,95,109,111,100,101]⟩).str)))<|sV (fun _ h=>rhas_s ((hdl st v ⟨#[95,95,109,111,100,101]⟩).str) 118 (valid_str (hdl_valid hi0 _ _) om))<|s_nt<|k_cond (hasB ((hdl st v ⟨#[95,95,109,111,100,101]⟩).str) 118) (fun c11=>?_) (fun c11=>?_)
 .refine k_reg<|sP (iw 0)<|sP2 (iw 2)<|s_nr<|sP2 (iw 2)<|s_nt<|k_ret<|xs_fin _ _ (SI.tmp 4 SI.nil) (rr [1] [1,1]) ⟨cI ?_,rfl⟩
  unfold wkn;simp_all
 refine k_st<|k_sr<|sP2 (iw 0)<|s_nt<|k_ret<|xs_fin _ _ (SI.tmp 4 SI.nil) (rr [1] [1,1]) ⟨cI ?_,rfl⟩
 unfold wkn;simp_all
end Go.Proofs.YtmhpcebiamkciaaGreat
end
section
set_option linter.unusedSimpArgs false
set_option linter.unusedVariables false
namespace Go.Proofs.YtmhpcebiamkciaaGreat
/-! ### What a table refers to after a write -/
def VA(A:Int→Prop)(v:Vl):Prop:=idn v=0∨A (idn v)
structure TA'(A:Int→Prop)(T:Tb):Prop where
 list:∀v∈T.list,VA A v
 rest:∀s∈T.rest,s.gone=false→VA A s.key∧VA A s.val
section
variable{st st':Hst}{R G:List Int}{s:Cst}{k N:Nat}{x y z a b:Int}{L:List Int}
theorem alive_pos(h:halive st x=true):x≠0:=by
 obtain⟨o,ho⟩:=halive_iff.1 h;have:=(get_mem ho).2.1;omega
theorem crf_same(h:st'.get x=st.get x):crf st' x=crf st x:=by unfold crf hrefs hents;rw[h]
structure Wr(st st':Hst)(a b:Int):Prop where
 al:∀x,halive st' x=halive st x
 other:∀x,x≠a→crf st' x=crf st x
 it:∀z∈crf st' a,z≠0→z∈crf st a∨z=b
theorem Wr.refl(st:Hst)(a b:Int):Wr st st a b:=⟨fun _=>rfl,fun _ _=>rfl,fun z hz _=>.inl hz⟩
/-! ### The invariant -/
structure KI(st:Hst)(R:List Int)(s:Cst):Prop where
 col:s.ph=1→∀x,s.col x=0∨s.col x=1∨s.col x=2
 gray:s.ph=1→∀x,s.col x=1→x∈s.Q
 mark:s.ph=1→∀x,halive st x=true→s.col x=2→∀z∈crf st x,halive st z=true→s.col z≠0
 swc:s.ph=2→∀x,halive st x=true→¬s.doom x→∀z∈crf st x,halive st z=true→¬s.doom z
 rts:s.ph=2→∀x∈s.rts R,halive st x=true→¬s.doom x
theorem KI.zero(h:s.ph=0):KI st R s:=by constructor<;>intro q<;>omega
structure RchI(st:Hst)(c:Int→Int)(Q:List Int)(c':Int→Int)(Q':List Int):Prop where
 keep:∀x,c x≠0→c' x=c x
 new:∀x,c x=0→c' x=0∨(c' x=1∧x∈Q')
 sub:∀x∈Q,x∈Q'
theorem rch1(st:Hst)(c:Int→Int)(Q:List Int)(id:Int):RchI st c Q (rchM st c id) (rchQ st c Q id):=by
 unfold rchM rchQ;by_cases q:halive st id=true∧c id=0
 .rw [if_pos q,if_pos q];refine⟨fun x hx=>cset_ne fun e=>hx (by rw[e];exact q.2),fun x hx=>?_,fun x hx=>List.mem_append.2 (.inl hx)⟩;by_cases e:x=id
  .subst e;exact .inr ⟨cset_self _ _ _,by simp⟩
  exact .inl (by rw[cset_ne e];exact hx)
 rw[if_neg q,if_neg q];exact⟨fun _ _=>rfl,fun x hx=>.inl hx,fun x hx=>hx⟩
theorem RchI.trans{c c1 c2:Int→Int}{Q Q1 Q2:List Int}(h1:RchI st c Q c1 Q1)(h2:RchI st c1 Q1 c2 Q2):RchI st c Q c2 Q2 where
 keep x hx:=by rw[h2.keep x (by rw[h1.keep x hx];exact hx)];exact h1.keep x hx
 new x hx:=by
  rcases h1.new x hx with e|⟨e,hq⟩
  .exact h2.new x e
  exact .inr ⟨by rw[h2.keep x om];exact e,h2.sub x hq⟩
 sub x hx:=h2.sub x (h1.sub x hx)
theorem rchA_i(st:Hst)(X:List Int):∀(c:Int→Int) (Q:List Int),RchI st c Q (rchA st (c,Q) X).1 (rchA st (c,Q) X).2:=by
 induction X with
 | nil=>exact fun c Q=>⟨fun _ _=>rfl,fun x hx=>.inl hx,fun x hx=>hx⟩
 | cons a r ih=>exact fun c Q=>(rch1 st c Q a).trans (ih (rchM st c a) (rchQ st c Q a))
theorem rchM_got{c:Int→Int}(ha:halive st x=true):rchM st c x x≠0:=by
 unfold rchM;split
 .rw [cset_self];decide
 rename_i q;exact fun e=>q ⟨ha,e⟩
theorem rchA_got(st:Hst)(X:List Int):∀(c:Int→Int) (Q:List Int),∀z∈X,halive st z=true→(rchA st (c,Q) X).1 z≠0:=by
 induction X with
 | nil=>intro c Q z hz;cases hz
 | cons a r ih=>
  intro c Q z hz ha;rcases List.mem_cons.1 hz with rfl|hz
  .have h1:=rchM_got (c:=c) ha;have h2:=(rchA_i st r (rchM st c z) (rchQ st c Q z)).keep z h1;show (rchA st (rchM st c z,rchQ st c Q z) r).1 z≠0;rw[h2];exact h1
  exact ih (rchM st c a) (rchQ st c Q a) z hz ha
theorem RchI.colp{c c':Int→Int}{Q Q':List Int}(h:RchI st c Q c' Q')(hc:∀x,c x=0∨c x=1∨c x=2)(hg:∀x,c x=1→x∈Q):(∀x,c' x=0∨c' x=1∨c' x=2)∧(∀x,c' x=1→x∈Q')∧(∀x,c' x=2→c x=2)∧(∀x,c x≠0→c' x≠0):=by
 refine⟨fun x=>?_,fun x hx=>?_,fun x hx=>?_,fun x hx=>by rw[h.keep x hx];exact hx⟩
 .rcases hc x with e|e|e
  .rcases h.new x e with e|⟨e,_⟩<;>omega
  .have:=h.keep x om;omega
  have:=h.keep x om;omega
 .rcases hc x with e|e|e
  .rcases h.new x e with e|⟨_,e⟩
   .omega
   exact e
  .exact h.sub x (hg x e)
  have:=h.keep x om;omega
 rcases hc x with e|e|e
 .rcases h.new x e with e|⟨e,_⟩<;>omega
 .have:=h.keep x om;omega
 exact e
theorem KI.bgn:KI st R (bgn st R s):=by
 have h:=rchA_i st (s.rts R) c0 [];obtain⟨h1,h2,h3,_⟩:=h.colp (fun x=>.inl rfl) (fun x hx=>absurd hx (show ¬(0:Int)=1 by decide));exact⟨fun _=>h1,fun _=>h2,fun _ x _ hx=>absurd (h3 x hx) (show ¬(0:Int)=2 by decide),fun q=>absurd q (show ¬(1:Int)=2 by decide),fun q=>absurd q (show ¬(1:Int)=2 by decide)⟩
theorem KI.setl(h:KI st R s)(h1:s.ph=1):KI st R (setl st R s):=by
 by_cases q:s.ph=1∧s.Q=[]
 .have hr:=rchA_i st (s.rts R) s.col [];have hgt:=rchA_got st (s.rts R) s.col [];obtain⟨k1,k2,k3,k4⟩:=hr.colp (h.col h1) (by have:=h.gray h1;rw[q.2]at this;exact this);have km:∀x,halive st x=true→(rchA st (s.col,[]) (s.rts R)).1 x=2→∀z∈crf st x,halive st z=true→(rchA st (s.col,[]) (s.rts R)).1 z≠0:=fun x hx h2 z hz hzl=>k4 z (h.mark h1 x hx (k3 x h2) z hz hzl)
  unfold Go.Proofs.YtmhpcebiamkciaaGreat.setl;rw[if_pos q];by_cases e:(rchA st (s.col,[]) (s.rts R)).2=[]
  .rw [if_pos e];refine⟨fun q=>absurd q (show ¬(2:Int)=1 by decide),fun q=>absurd q (show ¬(2:Int)=1 by decide),fun q=>absurd q (show ¬(2:Int)=1 by decide),fun _ x hx hd z hz hzl hdz=>?_,fun _ x hx hxl hd=>?_⟩
   .have hc:(rchA st (s.col,[]) (s.rts R)).1 x≠0:=fun e0=>hd ⟨rfl,e0,mem_hids.2 hx⟩
    have h2:(rchA st (s.col,[]) (s.rts R)).1 x=2:=by
     rcases k1 x with e0|e0|e0
     .exact absurd e0 hc
     .have:=k2 x e0;rw[e]at this;cases this
     exact e0
    exact km x hx h2 z hz hzl hdz.2.1
   exact hgt x hx hxl hd.2.1
  rw[if_neg e];have hp2:¬s.ph=2:=by omega
  exact⟨fun _=>k1,fun _=>k2,fun _=>km,fun q=>absurd q hp2,fun q=>absurd q hp2⟩
 have:Go.Proofs.YtmhpcebiamkciaaGreat.setl st R s=s:=by unfold Go.Proofs.YtmhpcebiamkciaaGreat.setl;rw[if_neg q]
 rw[this];exact h
theorem KI.mrk(h:KI st R s)(h1:s.ph=1):KI st R (mrk st s):=by
 unfold Go.Proofs.YtmhpcebiamkciaaGreat.mrk;split
 .rename_i x Q e;have hr:=rchA_i st (crf st x) s.col Q;have hgt:=rchA_got st (crf st x) s.col Q;have hc:=h.col h1;have hg:=h.gray h1;have hm:=h.mark h1;rw[e]at hg;have hp2:¬s.ph=2:=by omega
  have c3:∀y,y≠x→(rchA st (s.col,Q) (crf st x)).1 y=2→s.col y=2:=fun y hy h2=>by
   rcases hc y with e0|e0|e0
   .rcases hr.new y e0 with e1|⟨e1,_⟩<;>omega
   .have:=hr.keep y om;omega
   exact e0
  refine⟨fun _ y=>?_,fun _ y hy=>?_,fun _ y hy h2 z hz hzl=>?_,fun q=>absurd q hp2,fun q=>absurd q hp2⟩
  .show cset _ x 2 y=0∨cset _ x 2 y=1∨cset _ x 2 y=2;unfold cset;split
   .exact .inr (.inr rfl)
   rcases hc y with e0|e0|e0
   .rcases hr.new y e0 with e1|⟨e1,_⟩<;>omega
   .have:=hr.keep y om;omega
   have:=hr.keep y om;omega
  .have hy:cset (rchA st (s.col,Q) (crf st x)).1 x 2 y=1:=hy;unfold cset at hy;split at hy
   .exact absurd hy (by decide)
   rename_i hyx
   rcases hc y with e0|e0|e0
   .rcases hr.new y e0 with e1|⟨_,e1⟩
    .omega
    exact e1
   .rcases List.mem_cons.1 (hg y e0) with e1|e1
    .exact absurd e1 hyx
    exact hr.sub y e1
   have:=hr.keep y om;omega
  have h2:cset (rchA st (s.col,Q) (crf st x)).1 x 2 y=2:=h2;show cset (rchA st (s.col,Q) (crf st x)).1 x 2 z≠0;unfold cset;split
  .decide
  by_cases hyx:y=x
  .subst hyx;exact hgt z hz hzl
  rw[cset_ne hyx]at h2;have:=hm y hy (c3 y hyx h2) z hz hzl;rw[hr.keep z this];exact this
 exact h
theorem crf_drop(h:y≠x):crf (hdrop st x) y=crf st y:=crf_same (by rw[get_drop,if_neg h])
theorem KI.swp(hc:CI N st s)(h:KI st R s)(h2:s.ph=2)(hL:s.L=x::L):KI (swp st s).1 R (swp st s).2:=by
 obtain⟨hn,_⟩:=hc.l h2;rw[hL,List.nodup_cons]at hn;by_cases e:s.col x=0
 .rw [swp_white hL e];have hd:∀y,y≠x→(({ s with L:=L,Fr:=s.Fr++[x] }:Cst).doom y↔s.doom y):=fun y hy=>by
   unfold Cst.doom;rw[hL];simp[hy]
  have hne:∀y,halive (hdrop st x) y=true→y≠x∧halive st y=true:=fun y hy=>by
   rw[halive_drop]at hy;split at hy
   .cases hy
   exact⟨by assumption,hy⟩
  refine⟨fun q=>?_,fun q=>?_,fun q=>?_,fun _ y hy hdy z hz hzl hdz=>?_,fun _ y hy hyl hdy=>?_⟩
  .have:s.ph=1:=q;omega
  .have:s.ph=1:=q;omega
  .have:s.ph=1:=q;omega
  .obtain ⟨n1,a1⟩:=hne y hy;obtain⟨n2,a2⟩:=hne z hzl;rw[crf_drop n1]at hz;exact h.swc h2 y a1 (fun q=>hdy ((hd y n1).2 q)) z hz a2 ((hd z n2).1 hdz)
  obtain⟨n1,a1⟩:=hne y hyl;exact h.rts h2 y hy a1 ((hd y n1).1 hdy)
 rw[swp_black hL e];have hd:∀y,(({ s with L:=L,col:=cset s.col x 0 }:Cst).doom y↔s.doom y):=fun y=>by
  unfold Cst.doom;rw[hL];by_cases hy:y=x
  .subst hy;simp[e,hn.1]
  simp[cset_ne hy,hy]
 refine⟨fun q=>?_,fun q=>?_,fun q=>?_,fun _ y hy hdy z hz hzl hdz=>?_,fun _ y hy hyl hdy=>?_⟩
 .have:s.ph=1:=q;omega
 .have:s.ph=1:=q;omega
 .have:s.ph=1:=q;omega
 .exact h.swc h2 y hy (fun q=>hdy ((hd y).2 q)) z hz hzl ((hd z).1 hdz)
 exact h.rts h2 y hy hyl ((hd y).1 hdy)
theorem KI.fin(h:KI st R s):KI st R (cfin s):=by
 by_cases e:s.L=[]
 .rw [cfin_nil e];exact .zero rfl
 rw[cfin_cons e];exact h
def Keep(st:Hst)(R:List Int)(st':Hst):Prop:=∀x,Rq (halive st) (crf st) R x→Rq (halive st') (crf st') R x
theorem Keep.refl:Keep st R st:=fun _ h=>h
theorem Keep.trans{st2:Hst}(h1:Keep st R st')(h2:Keep st' R st2):Keep st R st2:=fun x h=>h2 x (h1 x h)
theorem reach_safe(h:KI st R s)(h2:s.ph=2)(hx:Rq (halive st) (crf st) (s.rts R) x):¬s.doom x:=by
 induction hx with
 | root h1 ha=>exact h.rts h2 _ h1 ha
 | step h1 hz ha ih=>exact h.swc h2 _ (rq_al h1) ih _ hz ha
theorem rq_sub{R':List Int}{al:Int→Bool}{rf:Int→List Int}(hs:∀x∈R,x∈R')(hx:Rq al rf R x):Rq al rf R' x:=by
 induction hx with
 | root h1 ha=>exact .root (hs _ h1) ha
 | step h1 hz ha ih=>exact .step ih hz ha
theorem rts_sub:∀x∈R,x∈s.rts R:=fun x hx=>List.mem_append.2 (.inl hx)
theorem keep_swp(h:KI st R s)(h2:s.ph=2)(hL:s.L=x::L):Keep st R (swp st s).1:=by
 by_cases e:s.col x=0
 .rw [swp_white hL e];have hne:∀y,Rq (halive st) (crf st) R y→y≠x:=fun y hy e1=>reach_safe h h2 (rq_sub (R':=s.rts R) rts_sub hy) (show s.doom y from by subst e1;exact⟨h2,e,by rw[hL];simp⟩)
  have hal:∀y,y≠x→halive st y=true→halive (hdrop st x) y=true:=fun y hy ha=>by rw[halive_drop,if_neg hy];exact ha
  intro y hy;induction hy with
  | root h1 ha=>exact .root h1 (hal _ (hne _ (.root h1 ha)) ha)
  | step h1 hz ha ih=>
   have n2:=hne _ (.step h1 hz ha);exact .step ih (by rw[crf_drop (hne _ h1)];exact hz) (hal _ n2 ha)
 rw[swp_black hL e];exact .refl
theorem ki_wrk(R:List Int):∀(k:Nat) {st:Hst}{s:Cst},CI N st s→KI st R s→CI N (wrk k st R s).1 (wrk k st R s).2.1∧KI (wrk k st R s).1 R (wrk k st R s).2.1∧Keep st R (wrk k st R s).1
 | 0,st,s,hc,h=>⟨hc,h,.refl⟩
 | k+1,st,s,hc,h=>by
  by_cases h0:s.ph=0
  .rw [wrk_end h0];exact⟨hc,h,.refl⟩
  have step:CI N (itr st R s).1 (itr st R s).2.1∧KI (itr st R s).1 R (itr st R s).2.1∧Keep st R (itr st R s).1:=by
   have hs:CI N st (setl st R s)∧KI st R (setl st R s):=by
    by_cases h1:s.ph=1
    .exact ⟨hc.setl h1 R,h.setl h1⟩
    rw[setl_two h1];exact⟨hc,h⟩
   unfold itr;split
   .rename_i h1;exact⟨hs.1.mrk h1,hs.2.mrk h1,.refl⟩
   rename_i h1
   have hz:(setl st R s).ph≠0:=by
    by_cases q:s.ph=1
    .rcases setl_ph (st:=st) (R:=R) q with e|e<;>omega
    rw[setl_two q];exact h0
   have h2:(setl st R s).ph=2:=by rcases hs.1.ph with e|e|e<;>omega
   split
   .exact ⟨hs.1.fin h2,hs.2.fin,.refl⟩
   rename_i hl
   obtain⟨x,L,hL⟩:=List.exists_cons_of_ne_nil hl;exact⟨(hs.1.swp h2 hL).fin (swp_ph h2),(KI.swp hs.1 hs.2 h2 hL).fin,keep_swp hs.2 h2 hL⟩
  rw[wrk_succ h0];split
  .obtain ⟨a1,a2,a3⟩:=ki_wrk R k step.1 step.2.1;exact⟨a1,a2,step.2.2.trans a3⟩
  exact step
theorem ki_work(hc:CI N st s)(h:KI st R s)(k:Nat):CI N (work k st R s).1 (work k st R s).2.1∧KI (work k st R s).1 R (work k st R s).2.1∧Keep st R (work k st R s).1:=by
 unfold work;split
 .exact ⟨hc,h,.refl⟩
 split
 .rename_i h0;exact ki_wrk R k (hc.bgn h0 R) KI.bgn
 exact ki_wrk R k hc h
/-! ### Writes -/
theorem CI.mono{M:Nat}(h:CI N st s)(hm:N≤M):CI M st s:=⟨h.ph,h.q,h.q0,h.l,h.l0,Nat.le_trans h.fr hm,Nat.le_trans h.gp hm,h.sm.mono hm,h.w,h.i⟩
theorem CI.heap{M:Nat}(h:CI N st s)(hal:∀x,halive st x=true→halive st' x=true)(hl:(hids st').length+N≤(hids st).length+M)(hm:N≤M)(hs:HSm M st')(hw:HW st')(hi:HInv st'):CI M st' s:=
 ⟨h.ph,fun q=>⟨(h.q q).1,fun x hx=>⟨hal x ((h.q q).2 x hx).1,((h.q q).2 x hx).2⟩⟩,h.q0,fun q=>⟨(h.l q).1,fun x hx=>hal x ((h.l q).2 x hx)⟩,h.l0,by have:=h.fr;omega,Nat.le_trans h.gp hm,hs,hw,hi⟩
/-! ### Births -/
structure Brn(st st':Hst)(id:Int):Prop where
 al:∀x,x≠id→halive st' x=halive st x
 rf:∀x,x≠id→crf st' x=crf st x
 dead:halive st id=false
 new:crf st' id=[]
theorem Brn.keep(h:Brn st st' a):Keep st R st':=fun x hx=>by
 induction hx with
 | root h1 ha=>exact .root h1 (by rw[h.al _ fun e=>by rw[e,h.dead]at ha;cases ha];exact ha)
 | step h1 hz ha ih=>
  have n1:=rq_al h1;exact .step ih (by rw[h.rf _ fun e=>by rw[e,h.dead]at n1;cases n1];exact hz) (by rw[h.al _ fun e=>by rw[e,h.dead]at ha;cases ha];exact ha)
/-! ### Registrations -/
theorem addL_len(reg:List Int)(id:Int):(addL reg id).length≤reg.length+1:=by
 unfold addL;split
 .omega
 split
 .omega
 simp
theorem CI.rgs(h:CI N st s)(id:Int):CI (N+1) st (rgs st s id):=by
 have hl:=addL_len s.G id;have hg:=h.gp;unfold Go.Proofs.YtmhpcebiamkciaaGreat.rgs;split
 .split
  .rename_i q;exact⟨h.ph,fun _=>(h.q q.2).rch id,fun e=>absurd q.2 e,h.l,h.l0,by have:=h.fr;show s.Fr.length+_≤_;omega,by show (addL s.G id).length+s.P.length≤_;omega,h.sm.mono (Nat.le_succ N),h.w,h.i⟩
  exact⟨h.ph,h.q,h.q0,h.l,h.l0,by have:=h.fr;show s.Fr.length+_≤_;omega,by show (addL s.G id).length+s.P.length≤_;omega,h.sm.mono (Nat.le_succ N),h.w,h.i⟩
 exact h.mono (Nat.le_succ N)
theorem addL_mem{reg:List Int}{id y:Int}(h:y∈addL reg id):y∈reg∨y=id:=by
 unfold addL at h;split at h
 .exact .inl h
 split at h
 .exact .inl h
 simpa using h
theorem KI.rgs(h:KI st R s)(id:Int):KI st R (rgs st s id):=by
 unfold Go.Proofs.YtmhpcebiamkciaaGreat.rgs;split
 .rename_i ha;split
  .rename_i q;have h1:=q.2;obtain⟨k1,k2,k3,k4⟩:=(rch1 st s.col s.Q id).colp (h.col h1) (h.gray h1);have hp2:¬s.ph=2:=by omega
   exact⟨fun _=>k1,fun _=>k2,fun _ y hy h2 z hz hzl=>k4 z (h.mark h1 y hy (k3 y h2) z hz hzl),fun q=>absurd q hp2,fun q=>absurd q hp2⟩
  refine⟨h.col,h.gray,h.mark,h.swc,fun h2 y hy hyl=>?_⟩;have hy:y∈R++(addL s.G id++s.P):=hy;have:y∈s.rts R∨y=id:=by
   unfold Cst.rts;simp only[List.mem_append]at hy⊢;rcases hy with hy|hy|hy
   .exact .inl (.inl hy)
   .rcases addL_mem hy with hy|hy
    .exact .inl (.inr (.inl hy))
    exact .inr hy
   exact .inl (.inr (.inr hy))
  rcases this with hy|hy
  .exact h.rts h2 y hy hyl
  rw[hy];exact ha.2
 exact h
end
end Go.Proofs.YtmhpcebiamkciaaGreat
end
section
set_option linter.unusedSimpArgs false
set_option linter.unusedVariables false
namespace Go.Proofs.YtmhpcebiamkciaaGreat
/-! ### Entries and values -/
theorem mem_listE{v:Vl}(h0:v.kind≠0):∀(L:List Vl) (n i:Nat),L[i]?=some v→(ofI (((n+i:Nat):Int)+1),v)∈listE L n
 | [],n,i,h=>by simp at h
 | a::r,n,0,h=>by
  simp at h;subst h;rw[listE,if_pos h0];exact List.mem_cons_self
 | a::r,n,i+1,h=>by
  have:=mem_listE h0 r (n+1) i (by simpa using h);rw[show n+1+i=n+(i+1) by omega]at this;rw[listE];split
  .exact List.mem_cons_of_mem _ this
  exact this
theorem listE_at{p:Vl×Vl}:∀(L:List Vl) (n:Nat),p∈listE L n→∃i:Nat,L[i]?=some p.2∧p.1=ofI (((n+i:Nat):Int)+1)∧p.2.kind≠0
 | [],n,h=>by cases h
 | a::r,n,h=>by
  rw[listE]at h;have go:p∈listE r (n+1)→∃i:Nat,(a::r)[i]?=some p.2∧p.1=ofI (((n+i:Nat):Int)+1)∧p.2.kind≠0:=fun h=>by
   obtain⟨i,h1,h2,h3⟩:=listE_at r (n+1) h;exact⟨i+1,by simpa using h1,by rw[h2,show n+1+i=n+(i+1) by omega],h3⟩
  split at h
  .rename_i q;rcases List.mem_cons.1 h with rfl|h
   .exact ⟨0,rfl,rfl,q⟩
   exact go h
  exact go h
theorem mem_tents{T:Tb}(h:TInv T)(hw:TW T)(hl:T.list.length≤2147483646){k v:Vl}:(k,v)∈tents T↔okKey k=true∧tget T k=v∧v.kind≠0:=by
 constructor
 .intro hm;unfold tents at hm;rcases List.mem_append.1 hm with hm|hm
  .obtain ⟨i,h1,h2,h3⟩:=listE_at _ _ hm;have hi:=(List.getElem?_eq_some_iff.1 h1).1;simp only[Nat.zero_add]at h2;obtain⟨w1,w2,_⟩:=whole_ofI (n:=(i:Int)+1) om om;have h2':k=ofI ((i:Int)+1):=h2;rw[h2'];refine⟨w2,tget_in (okKey_iff.1 w2).1 (by rw[w1];omega) (by rw[w1];omega) (by rw[w1,show ((i:Int)+1-1).toNat=i by omega];exact h1),h3⟩
  unfold liveE at hm;obtain⟨s,hs,e⟩:=List.mem_map.1 hm;obtain⟨rfl,rfl⟩:=Prod.mk.inj e;obtain⟨h1,h2⟩:=live_mem.1 hs;have hk:=h.rest.keys s h1;have hn:=hw s hs;refine⟨okKey_iff.2 ⟨hk.1,hk.2⟩,?_,(h.rest.vals s h1 h2).2⟩;rw[tget_out hk.1 (fun q=>by rw[inB_iff.2 q]at hn;cases hn),oget_mem h.rest hs]
 rintro⟨h1,h2,h3⟩;have hv:=(okKey_iff.1 h1).1;unfold tents;by_cases hb:1≤whole k∧whole k≤(T.list.length:Int)
 .have hlt:(whole k-1).toNat<T.list.length:=by omega
  have hy:=List.getElem?_eq_getElem hlt;rw[tget_in hv hb.1 hb.2 hy]at h2;rw[h2]at hy;have:=mem_listE h3 T.list 0 _ hy;obtain⟨ek,_⟩:=whole_key (k:=k) rfl hb.1;rw[Nat.zero_add,show (((whole k-1).toNat:Nat):Int)+1=whole k by omega,←ek]at this;exact List.mem_append.2 (.inl this)
 rw[tget_out hv hb]at h2;refine List.mem_append.2 (.inr ?_);by_cases hx:∃s∈live T.rest,s.key=k
 .obtain ⟨s,hs,e⟩:=hx;rw[←e,oget_mem h.rest hs]at h2;unfold liveE;exact List.mem_map.2 ⟨s,hs,by rw[e,h2]⟩
 rw[oget_not h.rest fun s hs he=>hx ⟨s,hs,he⟩]at h2;rw[←h2]at h3;exact absurd rfl h3
/-! ### Frames -/
def Fr(st st':Hst):Prop:=∀x,∃T,st'.get x=(st.get x).map fun o=>{ o with tab:=T }
theorem Fr.refl(st:Hst):Fr st st:=fun x=>by
 cases h:st.get x with
 | none=>exact⟨noTb,rfl⟩
 | some o=>exact⟨o.tab,rfl⟩
theorem Fr.trans{a b c:Hst}(h1:Fr a b)(h2:Fr b c):Fr a c:=fun x=>by
 obtain⟨T1,e1⟩:=h1 x;obtain⟨T2,e2⟩:=h2 x;refine⟨T2,?_⟩;rw[e2,e1];cases a.get x<;>rfl
section
variable{st st' st2:Hst}{n:Nat}{x:Int}{k m:Vl}{D:Int→Vl→Prop}
theorem Fr.al(h:Fr st st')(x:Int):halive st' x=halive st x:=by
 obtain⟨T,e⟩:=h x;unfold halive;rw[e];cases st.get x<;>rfl
theorem Fr.refs(h:Fr st st')(x:Int):hrefs st' x=hrefs st x:=by
 obtain⟨T,e⟩:=h x;unfold hrefs;rw[e];cases st.get x<;>rfl
theorem Fr.wk(h:Fr st st')(x w:Int):hoWk st' x w=hoWk st x w:=by
 obtain⟨T,e⟩:=h x;unfold hoWk;rw[e];cases st.get x<;>rfl
theorem Fr.meta(h:Fr st st')(v:Vl):hmeta st' v=hmeta st v:=by
 obtain⟨T,e⟩:=h v.ref;unfold hmeta hfind;rw[e];cases st.get v.ref with
 | none=>rfl
 | some o=>
  simp only[Option.map_some,Option.bind_some];by_cases q:o.kind=v.kind<;>simp[q]
structure Cl(st st':Hst)(D:Int→Vl→Prop):Prop where
 fr:Fr st st'
 get:∀id k,hgetV st' (refV 4 id) k=hgetV st (refV 4 id) k∨(D id k∧hgetV st' (refV 4 id) k=zVl)
theorem Cl.refl(st:Hst)(D:Int→Vl→Prop):Cl st st D:=⟨.refl st,fun _ _=>.inl rfl⟩
theorem Cl.trans (h1 : Cl st st' D) (h2 : Cl st' st2 D) : Cl st st2 D := ⟨h1.fr.trans h2.fr, fun id k => by
  rcases h2.get id k with e | e
  · rw [e]; exact h1.get id k
  · exact .inr e⟩
theorem hgV_of{o:Hob}(hg:st.get x=some o)(h4:o.kind=4)(k:Vl):hgetV st (refV 4 x) k=tget o.tab k:=by
 unfold hgetV;rw[htab_is (v:=refV 4 x) (hfind_is (v:=refV 4 x) hg h4) h4]
theorem rm_sm(h:HSm n st)(id:Int)(k:Vl):HSm n (hset st (refV 4 id) k zVl):=by
 rcases hset_cases st (refV 4 id) k zVl with ⟨_,e,_⟩|⟨_,_,_,e,_⟩|⟨_,_,_,_,e,_⟩|⟨T,o,h1,h2,h3,hv,h4,h5,h6,h7,e,_⟩
 .rw [e];exact h
 .rw [e];exact h
 .rw [e];exact h
 rw[e];have hob:=h.obs o (get_mem h4).1;refine⟨by show (st.put _ _).objs.length≤n;rw[put_len'];exact h.len,fun o' ho'=>?_⟩;rcases mem_put (show some o'∈(st.put (refV 4 id).ref _).objs from ho') with ho'|rfl
 .exact h.obs o' ho'
 have hl:(tset T k zVl).list.length≤T.list.length∧(tset T k zVl).rest.length≤T.rest.length:=by
  unfold tset;split
  .exact ⟨Nat.le_refl _,Nat.le_refl _⟩
  split
  .exact ⟨Nat.le_refl _,Nat.le_refl _⟩
  split
  .refine ⟨?_,Nat.le_refl _⟩;have:=shr_len (T.list.set (whole k-1).toNat zVl);rw[List.length_set]at this;exact this
  split
  .rename_i q;exact absurd rfl q.2
  refine⟨Nat.le_refl _,?_⟩;show (osetL T.rest k zVl).length≤_;have e1:¬okKey k=false:=by rw[h2];decide
  have e2:¬validB zVl=false:=by decide
  unfold osetL;rw[if_neg e1,if_neg e2,if_pos (show zVl.kind=0 from rfl)];cases thereAt T.rest k with
  | none=>exact Nat.le_refl _
  | some i=>show (T.rest.set i _).length≤_;rw[List.length_set];exact Nat.le_refl _
 rw[←h7]at hl;rw[←h7];exact⟨by show (tset o.tab k zVl).rest.length≤n;omega,by show (tset o.tab k zVl).list.length≤n*(n+1);omega,hob.2.2⟩
theorem rm_cl(hi:HInv st)(hw:HW st){id:Int}(hd:D id k):Cl st (hset st (refV 4 id) k zVl) D:=by
 rcases hset_cases st (refV 4 id) k zVl with ⟨_,e,_⟩|⟨_,_,_,e,_⟩|⟨_,_,_,_,e,_⟩|⟨T,o,h1,h2,h3,hv,h4,h5,h6,h7,e,_⟩
 .rw [e];exact .refl _ _
 .rw [e];exact .refl _ _
 .rw [e];exact .refl _ _
 have h4':st.get id=some o:=h4;have hg:∀y,(hset st (refV 4 id) k zVl).get y=if y=id then some { o with tab:=tset T k zVl } else st.get y:=fun y=>by
  rw[e,get_touch];exact get_put h4 y
 constructor
 .intro y;by_cases q:y=id
  .exact ⟨tset T k zVl,by rw[hg,if_pos q,q,h4'];rfl⟩
  obtain⟨T2,e2⟩:=Fr.refl st y;exact⟨T2,by rw[hg,if_neg q];exact e2⟩
 intro id' k';by_cases q:id'=id
 .subst q;have hgi:=hg id';rw[if_pos rfl]at hgi;rw[hgV_of hgi h5,hgV_of h4' h5];show tget (tset T k zVl) k'=_∨_∧tget (tset T k zVl) k'=_;have hTI:TInv T:=by rw[←h7];exact (hi.obs o (get_mem h4).1).tab
  have hTW:TW T:=by rw[←h7];exact (hw o (get_mem h4).1).tw
  rw[tget_tset hTI hTW h2 (by decide),h7];by_cases e2:k'=k
  .subst e2;rw[if_pos rfl];exact .inr ⟨hd,rfl⟩
  rw[if_neg e2];exact .inl rfl
 refine .inl ?_;unfold hgetV htab hfind;rw[show (refV 4 id').ref=id' from rfl,hg,if_neg q]
/-! ### A table cleared -/
def gonP(X:List Ent)(p:Vl×Vl):Bool:=decide ((⟨idn p.1,idn p.2⟩:Ent)≠⟨0,0⟩)&&!decide ((⟨idn p.1,idn p.2⟩:Ent)∈X)
def gonL(X:List Ent)(L:List (Vl×Vl)):List Vl:=(L.filter (gonP X)).map Prod.fst
theorem gon_yes{X:List Ent}{L:List (Vl×Vl)}{p:Vl×Vl}(h:gonP X p=true):gonL X L++[p.1]=gonL X (L++[p]):=by
 unfold gonL;rw[List.filter_append,List.map_append];simp[h]
theorem gon_no{X:List Ent}{L:List (Vl×Vl)}{p:Vl×Vl}(h:gonP X p=false):gonL X L=gonL X (L++[p]):=by
 unfold gonL;rw[List.filter_append,List.map_append];simp[h]
theorem gon_len(X:List Ent)(L:List (Vl×Vl)):(gonL X L).length≤L.length:=by
 unfold gonL;rw[List.length_map];exact List.length_filter_le _ _
def tbOf(st:Hst)(id:Int):Tb:=match st.get id with
 | some o=>o.tab
 | none=>noTb
def rmK(st:Hst)(id:Int)(ks:List Vl):Hst:=ks.foldl (fun st k=>hset st (refV 4 id) k zVl) st
theorem rmK_take{id:Int}{ks:List Vl}{i:Nat}{y:Vl}(h:ks[i]?=some y):rmK st id (ks.take (i+1))=hset (rmK st id (ks.take i)) (refV 4 id) y zVl:=by
 unfold rmK;rw[List.take_add_one,h,List.foldl_append];rfl
def hclr(st:Hst)(id:Int)(X:List Ent):Hst:=rmK st id (gonL X (tents (tbOf st id)))
structure HOk(n:Nat)(st:Hst):Prop where
 i:HInv st
 sm:HSm n st
 w:HW st
theorem HOk.rm(h:HOk n st)(id:Int)(k:Vl):HOk n (hset st (refV 4 id) k zVl):=⟨hset_inv h.i _ _ _,rm_sm h.sm id k,HW.set h.i h.w _ _ _⟩
theorem HOk.rmK(h:HOk n st)(id:Int)(ks:List Vl):HOk n (rmK st id ks):=by
 unfold Go.Proofs.YtmhpcebiamkciaaGreat.rmK;induction ks generalizing st with
 | nil=>exact h
 | cons a r ih=>exact ih (h.rm id a)
theorem rmK_cl(h:HOk n st){id:Int}{ks:List Vl}(hd:∀k∈ks,D id k):Cl st (rmK st id ks) D:=by
 unfold Go.Proofs.YtmhpcebiamkciaaGreat.rmK;induction ks generalizing st with
 | nil=>exact .refl _ _
 | cons a r ih=>exact (rm_cl h.i h.w (hd a (by simp))).trans (ih (h.rm id a) fun k hk=>hd k (List.mem_cons_of_mem _ hk))
def Dcs(st:Hst)(cs:List Core)(id:Int)(k:Vl):Prop:=∃c∈cs,c.1=id∧c.2.2.1≠0∧gonP c.2.2.2.2 (k,hgetV st (refV 4 id) k)=true
def hclrs(st:Hst)(cs:List Core):Hst:=cs.foldl (fun st c=>if c.2.2.1≠0 then hclr st c.1 c.2.2.2.2 else st) st
theorem hclrs_take{cs:List Core}{i:Nat}{c:Core}(h:cs[i]?=some c):hclrs st (cs.take (i+1))=if c.2.2.1≠0 then hclr (hclrs st (cs.take i)) c.1 c.2.2.2.2 else hclrs st (cs.take i):=by
 unfold hclrs;rw[List.take_add_one,h,List.foldl_append];rfl
theorem ob_small(h:HSm n st)(hn:n≤300){o:Hob}(hg:st.get x=some o):o.tab.list.length≤2147483646:=by
 have:=(h.obs o (get_mem hg).1).2.1;have h2:n*(n+1)≤300*301:=Nat.mul_le_mul hn om;omega
theorem hclr_cl{cs:List Core}{c:Core}(h0:HOk n st)(hn:n≤300)(h:HOk n st')(hc:Cl st st' (Dcs st cs))(hm:c∈cs)(hw:c.2.2.1≠0)(hk4:∀o,st.get c.1=some o→o.kind=4):Cl st (hclr st' c.1 c.2.2.2.2) (Dcs st cs):=by
 refine hc.trans (rmK_cl h fun k hk=>?_);unfold gonL at hk;obtain⟨p,hp,rfl⟩:=List.mem_map.1 hk;obtain⟨hp1,hp2⟩:=List.mem_filter.1 hp;refine⟨c,hm,rfl,hw,?_⟩;unfold tbOf at hp1;cases hg:st'.get c.1 with
 | none=>rw[hg]at hp1;cases hp1
 | some o=>
  rw[hg]at hp1;have hob:=h.i.obs o (get_mem hg).1;obtain⟨h1,h2,h3⟩:=(mem_tents (k:=p.1) (v:=p.2) hob.tab (h.w o (get_mem hg).1).tw (ob_small h.sm hn hg)).1 hp1;have h4:o.kind=4:=by
   obtain⟨T,e⟩:=hc.fr c.1;rw[hg]at e;cases hx:st.get c.1 with
   | none=>rw[hx]at e;cases e
   | some o'=>
    rw[hx]at e;have:=hk4 o' hx;simp only[Option.map_some,Option.some.injEq]at e;rw[e];exact this
  have e1:hgetV st' (refV 4 c.1) p.1=p.2:=(hgV_of hg h4 p.1).trans h2;rcases hc.get c.1 p.1 with e|⟨_,e⟩
  .rw [←e,e1];exact hp2
  rw[e1]at e;rw[e]at h3;exact absurd rfl h3
theorem hclrs_ok(h0:HOk n st)(hn:n≤300)(cs:List Core)(hk:∀c∈cs,c.2.2.1≠0→∀o,st.get c.1=some o→o.kind=4):∀i,HOk n (hclrs st (cs.take i))∧Cl st (hclrs st (cs.take i)) (Dcs st cs)
 | 0=>⟨h0,.refl _ _⟩
 | i+1=>by
  obtain⟨h1,h2⟩:=hclrs_ok h0 hn cs hk i;cases hc:cs[i]? with
  | none=>
   have e:cs.take (i+1)=cs.take i:=by rw[List.take_add_one,hc];simp
   rw[e];exact⟨h1,h2⟩
  | some c=>
   rw[hclrs_take hc];split
   .rename_i hw;exact⟨h1.rmK _ _,hclr_cl h0 hn h1 h2 (List.mem_of_getElem? hc) hw (hk c (List.mem_of_getElem? hc) hw)⟩
   exact⟨h1,h2⟩
/-! ### Objects freed -/
def drps(st:Hst)(F:List Int):Hst:=F.foldl (fun st x=>hdrop st x) st
theorem drps_take{F:List Int}{i:Nat}{y:Int}(h:F[i]?=some y):drps st (F.take (i+1))=hdrop (drps st (F.take i)) y:=by
 unfold drps;rw[List.take_add_one,h,List.foldl_append];rfl
theorem HOk.drop(h:HOk n st)(x:Int):HOk n (hdrop st x):=⟨drop_inv h.i x,drop_sm' h.sm x,drop_w h.w x⟩
theorem HOk.drps(h:HOk n st)(F:List Int):HOk n (drps st F):=by
 unfold Go.Proofs.YtmhpcebiamkciaaGreat.drps;induction F generalizing st with
 | nil=>exact h
 | cons a r ih=>exact ih (h.drop a)
theorem get_drps(F:List Int)(y:Int):∀st:Hst,(drps st F).get y=if y∈F then none else st.get y:=by
 unfold Go.Proofs.YtmhpcebiamkciaaGreat.drps;induction F with
 | nil=>intro st;simp
 | cons a r ih=>
  intro st;rw[List.foldl_cons,ih,get_drop];by_cases h1:y∈r<;>by_cases h2:y=a<;>simp[h1,h2]
/-! ### Weakness -/
theorem hgetV_tab(st:Hst)(m k:Vl)(h:m.kind=4):hgetV st m k=hgetV st (refV 4 m.ref) k:=by
 unfold hgetV htab hfind;rw[h];rfl
theorem hgetV_kind(st:Hst)(m k:Vl)(h:m.kind≠4):hgetV st m k=zVl:=by
 unfold hgetV;cases ht:htab st m with
 | none=>rfl
 | some T=>
  obtain⟨o,_,_,_,h4,_⟩:=htab_some ht;exact absurd h4 h
end
end Go.Proofs.YtmhpcebiamkciaaGreat
end
section
set_option linter.unusedSimpArgs false
set_option linter.unusedVariables false
set_option maxRecDepth 100000
set_option maxHeartbeats 400000
namespace Go.Proofs.YtmhpcebiamkciaaGreat
open Go.Hp Go.J Go.S
open Go.Mem (Ty KTy blk elemAt pre suf blk_pre blk_suf aget aset strK aggDesc)
open Go.Mem (adel apos aget_aset aget_adel)
theorem cident_s{Z:Zone}(v:Vl):SF Tryz.prog 119 #[v.v] Z [] fun r Bs=>r=iw (idn v)∧Bs=[]:=by
 refine sf_enter Tryz.func119 12 [(0,.agg (vc v))] (fun w0=>?_);refine k_sr<|s_box (vc v) (fun g1=>?_)
 refine sP (iw 0)<|s_nt<|k_seq<|k_sr<|sP (pB g1 0)<|sL (t_load 0 (iw v.kind))<|s_nt<|k_block<|k_seq<|k_sr<|sL t_cmp<|sP (.bool (decide (v.kind=4)))<|s_nt<|k_cond (decide (v.kind=4)) (fun c2=>?_) (fun c2=>?_)
 .have p3:=dY c2;refine k_st<|k_true (hv:=cB c2)<|k_sr<|sP (pB g1 4)<|sL (t_load 0 (iw v.ref))<|sP (iw v.ref)<|s_nt<|k_ret<|xs_retBlock<|xs_ret<|xs_fin _ _ (SI.tmp 2 SI.nil) (rr [] [0]) ⟨cI ?_,rfl⟩
  unfold idn isRef;simp[p3]
 have p4:=dF c2;refine k_sr<|sL t_cmp<|sP (.bool (decide (v.kind=5)))<|s_nt<|k_cond (decide (v.kind=5)) (fun c5=>?_) (fun c5=>?_)
 .have p6:=dY c5;refine k_st<|k_true (hv:=cB c5)<|k_sr<|sP (pB g1 4)<|sL (t_load 0 (iw v.ref))<|sP (iw v.ref)<|s_nt<|k_ret<|xs_retBlock<|xs_ret<|xs_fin _ _ (SI.tmp 2 SI.nil) (rr [] [0]) ⟨cI ?_,rfl⟩
  unfold idn isRef;simp[p4,p6]
 have p7:=dF c5;refine k_sr<|sL t_cmp<|sP (.bool (decide (v.kind=7)))<|s_nt<|k_cond (decide (v.kind=7)) (fun c8=>?_) (fun c8=>?_)
 .have p9:=dY c8;refine k_st<|k_true (hv:=cB c8)<|k_sr<|sP (pB g1 4)<|sL (t_load 0 (iw v.ref))<|sP (iw v.ref)<|s_nt<|k_ret<|xs_retBlock<|xs_ret<|xs_fin _ _ (SI.tmp 2 SI.nil) (rr [] [0]) ⟨cI ?_,rfl⟩
  unfold idn isRef;simp[p4,p7,p9]
 have p10:=dF c8;refine k_reg<|sL t_cmp<|sP (.bool (decide (v.kind=8)))<|s_nt<|k_cond (decide (v.kind=8)) (fun c11=>?_) (fun c11=>?_)
 .have p12:=dY c11;refine k_sr<|sP (pB g1 4)<|sL (t_load 0 (iw v.ref))<|sP (iw v.ref)<|s_nt<|k_ret<|xs_retBlock<|xs_ret<|xs_fin _ _ (SI.tmp 2 SI.nil) (rr [] [0]) ⟨cI ?_,rfl⟩
  unfold idn isRef;simp[p4,p7,p10,p12]
 have p13:=dF c11;refine k_skip<|xs_block<|xs_then<|k_sr<|sP (iw 0)<|s_nt<|k_ret<|xs_fin _ _ (SI.tmp 2 SI.nil) (rr [] [0]) ⟨cI ?_,rfl⟩
 unfold idn isRef;simp[p4,p7,p10,p13]
theorem eindex_s{Z:Zone}{lv:Value}{L:List Ent}(hL:Kn Z EntT lv L)(x:Ent):SF Tryz.prog 179 #[lv,x.v] Z [] fun r Bs=>∃k:Int,r=iw k∧(0≤k↔x∈L)∧Bs=[]:=by
 refine sf_enter Tryz.func179 19 [(0,lv),(1,.agg #[iw x.key,iw x.val])] (fun w0=>?_);refine k_fact (fun H h=>(hL.get h).len_le) (fun lL=>?_);refine k_sr<|s_box #[iw x.key,iw x.val] (fun g1=>?_)
 refine sP (iw 0)<|s_nt<|k_seq<|k_sr<|sP lv<|sL (t_len EntT_ok Tryz.underlying98 (.zn hL))<|sP (iw 0)<|s_nt<|k_block<|k_loop (ι:=Nat) (fun i=>i≤L.length∧x∉L.take i) (fun i=>[(0,lv),(3,pB g1 0),(7,iw (L.length:Int)),(8,iw (i:Int))]) (fun i=>[blkA g1 #[iw x.key,iw x.val] 167]) (fun i=>L.length-i) 0 ⟨Nat.zero_le _,by simp⟩ sA (rr [0] []) ?_
 rintro i hi2;show SK _ _ _ _ _ [(0,lv),(3,pB g1 0),(7,iw (L.length:Int)),(8,iw (i:Int))] _ [blkA g1 #[iw x.key,iw x.val] 167];refine k_sr<|sL t_cmp<|s_nt<|k_seq<|k_cond (decide ((i:Int)<(L.length:Int))) (fun c3=>?_) (fun c3=>?_)
 .have p4:=dY c3;refine k_st<|k_seq<|k_block<|k_sr<|sP2 (iw (i:Int))<|s_nt<|k_seq<|k_draw<|sL (t_loadA 0 #[iw x.key,iw x.val])<|sP lv<|sP (iw (i:Int))<|sL (t_index EntT_ok Tryz.underlying98 (.zn hL) (i:Int) i om ol om) ?_
  obtain⟨y5,hy6⟩:∃y,L[i]?=some y:=⟨_,List.getElem?_eq_getElem ol⟩;refine sL (t_loadE EntT_ok (.zn hL) hy6)<|sL (t_eqS (fun w=>(eqEntT x y5 w).1))<|s_nil<|x_dynS (fun _ h=>by kernel_rfl) ?_
  refine xs_then<|k_cond (decide (x=y5)) (fun c7=>?_) (fun c7=>?_)
  .have p8:=dY c7;refine k_sr<|sP2 (iw (i:Int))<|s_nt<|k_ret<|xs_retBlock<|xs_ret<|xs_ret<|xs_retBlock<|xs_ret<|xs_fin _ _ (SI.tmp 4 SI.nil) (rr [] [0]) ⟨(i:Int),rfl,?_,rfl⟩
   exact⟨fun _=>by rw[p8];exact List.mem_of_getElem? hy6,fun _=>by omega⟩
  have p9:=dF c7;refine k_skip<|xs_block<|xs_then<|k_reg<|sL (t_add (i:Int) 1 ol)<|sP (iw ((i:Int)+1))<|s_nil ?_
  exact xs_round (i+1) om (by obtain⟨hi1,hi2⟩:=hi2;refine⟨by omega,?_⟩;rw[←take_snoc hy6,List.mem_append,List.mem_singleton];rintro (h|h);exact hi2 h;exact p9 h) sA (rr [0] [])
 have p10:=dF c3;refine k_exit<|xs_exit<|xs_exit<|xs_here<|xs_then<|k_sr<|sP (iw (-1))<|s_nt<|k_ret<|xs_fin _ _ (SI.tmp 4 SI.nil) (rr [] [0]) ⟨(-1),rfl,?_,rfl⟩
 exact⟨fun h=>absurd h (by decide),fun h=>absurd h (by have h:=hi2.2;rwa [List.take_of_length_le om]at h)⟩
theorem econtains_s{Z:Zone}{lv:Value}{L:List Ent}(hL:Kn Z EntT lv L)(x:Ent):SF Tryz.prog 120 #[lv,x.v] Z [] fun r Bs=>r=.bool (decide (x∈L))∧Bs=[]:=by
 refine sf_enter Tryz.func120 9 [(0,lv),(1,.agg #[iw x.key,iw x.val])] (fun w0=>?_);refine k_sr<|s_box #[iw x.key,iw x.val] (fun g1=>?_)
 refine sP (.bool false)<|s_nr<|sP lv<|sL (t_loadA 0 #[iw x.key,iw x.val])<|s_pcall (fun _ h=>eindex_s (L:=L) (Acc.kn (.zn hL) h) x) ?_
 rintro _ _ ⟨k2,rfl,hk3,rfl⟩;refine sL t_cmp<|sP (.bool (decide ((0:Int)≤k2)))<|s_nt<|k_ret<|xs_fin _ _ (SI.tmp 4 SI.nil) (rr [] [0]) ⟨cB (decide_eq_decide.2 hk3),rfl⟩
theorem cclear_s{Z:Zone}{F:List Asr}{b q hb:Nat}{ph:Int}{m:Int→Int}{Q L Fr G P:List Int}{st:Hst}{n:Nat}{x:Ob}{o:Hob}(hx:KnO Z x)(ho:HOk n st)(hn:n≤300)(hg:st.get x.id=some o)(h4:o.kind=4):SF Tryz.prog 54 #[.pointer (some ⟨b,0,none⟩),x.v] Z (coA b q hb ph m Q L Fr G P::hpA hb st::F) fun r Bs=>r=.tuple #[]∧Bs=coA b q hb ph m Q L Fr G P::hpA hb (hclr st x.id x.ents)::F:=by
 refine sf_enter Tryz.func54 77 [(0,pB b 0),(1,.agg #[iw x.id,iw x.size,iw x.weak,x.rv.v,x.ev.v])] (fun w0=>?_);have hob:=ho.i.obs o (get_mem hg).1;have hwb:=ho.w o (get_mem hg).1;have htb:htab st (refV 4 x.id)=some o.tab:=htab_is (v:=refV 4 x.id) (hfind_is (v:=refV 4 x.id) hg h4) h4;have htl:(tents o.tab).length≤100000:=by have h1:=tents_len o.tab;have h2:=ho.sm.obs o (get_mem hg).1;have h3:n*(n+1)≤300*301:=Nat.mul_le_mul hn om;omega
 refine k_sr<|s_box #[iw x.id,iw x.size,iw x.weak,x.rv.v,x.ev.v] (fun g1=>?_)
 refine s_nr<|sP (pB g1 0)<|sL (t_load 0 (iw x.id))<|sL (t_kern (.agg #[iw 4,iw 0,iw 0,sw eb,iw x.id]))<|s_alloc (.agg zc) zc (fun g2=>?_)
 refine s_store 0 #[iw 4,iw 0,iw 0,sw eb,iw x.id] ?_;refine s_nr<|sP (.slice none 0 0)<|s_nt<|k_seq<|k_seq<|k_mem5 (fun H h=>co_open (h.re [2] [])) (fun mb3 qv4 lv5 fv6 cl7 hw=>?_)
 have hc8:=hw;refine k_held [blkA b #[pB q 0,pB hb 0,iw ph,.map (some mb3),qv4,lv5,fv6] 91,blkA g2 #[iw 4,iw 0,iw 0,sw eb,iw x.id] 71,blkA g1 #[iw x.id,iw x.size,iw x.weak,x.rv.v,x.ev.v] 100] ?_;refine hp_ 0 [0,5,5] (pB b 0) ?_;refine hp_ 1 [0,5,5] (pB b 0) ?_;refine hp_ 2 [0,5,5] (pB b 1) ?_;refine h_l 3 rfl [0,5,5] (fun _=>(t_load 0 (pB hb 0))) ?_;refine h_l 4 rfl [0,5,5] (fun _=>(t_loadA 1 #[iw 4,iw 0,iw 0,sw eb,iw x.id])) ?_;refine h_l 5 rfl [0,5,5] (fun _=>(t_kern (.agg zc))) ?_;refine h_join (ι:=Nat×Nat) 4 #[true,true,true,true,true,true,true,true,true,true,true,true,true,true,false,false,false,false] (fun (g9,g10)=>[(0,pB b 0),(3,pB g1 0),(4,pB g2 0),(5,(.slice none 0 0)),(6,pB g9 0),(7,pB g10 0),(24,.agg (vc ((hdE (tents o.tab)).1))),(25,.agg (vc ((hdE (tents o.tab)).2.1))),(26,.bool ((hdE (tents o.tab)).2.2.1)),(27,iw ((hdE (tents o.tab)).2.2.2))]) (fun (g9,g10)=>blkA g10 zc 71::blkA g9 zc 71::hpA hb st::blkA b #[pB q 0,pB hb 0,iw ph,.map (some mb3),qv4,lv5,fv6] 91::qA q G P::mcA mb3 cl7::ownO iTy qv4 Q::ownO iTy lv5 L::ownO iTy fv6 Fr::blkA g2 #[iw 4,iw 0,iw 0,sw eb,iw x.id] 71::blkA g1 #[iw x.id,iw x.size,iw x.weak,x.rv.v,x.ev.v] 100::F) ?_ (fun hj17=>?_)
 .rintro ⟨g9,g10⟩;try dsimp only
  refine h_stepS 14 ?_;refine s_store 1 (vc ((hdE (tents o.tab)).1)) ?_;refine nH [3,8,8]<|h_stepS 15 ?_
  refine s_store 0 (vc ((hdE (tents o.tab)).2.1)) ?_;refine nH [3,8,8]<|hp_ 16 [3,8,8] (.bool ((hdE (tents o.tab)).2.2.1)) ?_
  refine hp_ 17 [3,8,8] (iw ((hdE (tents o.tab)).2.2.2)) ?_;refine h_doneS ?_;refine xs_then<|k_block<|k_mem (fun _ h=>co_shut (c:=m) hc8 (h.re [3,3,3,3,3,3] [])) ?_
  refine k_mem (fun _ h=>Holds.nilS (T:=VlT) h) ?_;refine k_mem (Bs:=own VlT (.slice none 0 0) (gonL x.ents [])::coA b q hb ph m Q L Fr G P::blkA g10 (vc ((hdE (tents o.tab)).2.1)) 71::blkA g9 (vc ((hdE (tents o.tab)).1)) 71::hpA hb st::blkA g2 #[iw 4,iw 0,iw 0,sw eb,iw x.id] 71::blkA g1 #[iw x.id,iw x.size,iw x.weak,x.rv.v,x.ev.v] 100::F) (fun _ h=>h) ?_;refine k_loop (ι:=Nat×Nat×Value×List (Vl×Vl)×List (Vl×Vl)) (fun (gk,gv,sx,pre,rem)=>tents o.tab=pre++rem∧pre.length+rem.length≤200000) (fun (gk,gv,sx,pre,rem)=>[(0,pB b 0),(3,pB g1 0),(4,pB g2 0),(5,sx),(6,pB gk 0),(7,pB gv 0),(8,.bool ((hdE rem).2.2.1))]) (fun (gk,gv,sx,pre,rem)=>own VlT sx (gonL x.ents pre)::coA b q hb ph m Q L Fr G P::blkA gv (vc ((hdE rem).2.1)) 71::blkA gk (vc ((hdE rem).1)) 71::hpA hb st::blkA g2 #[iw 4,iw 0,iw 0,sw eb,iw x.id] 71::blkA g1 #[iw x.id,iw x.size,iw x.weak,x.rv.v,x.ev.v] 100::F) (fun (gk,gv,sx,pre,rem)=>rem.length) (g9,g10,(.slice none 0 0),[],tents o.tab) ⟨rfl,by show 0+_≤_;omega⟩ sA (rr [0,0,0,0,0,0,0] []) ?_;rintro⟨gk,gv,sx,pre,rem⟩ hi18;replace hi18:tents o.tab=pre++rem∧pre.length+rem.length≤200000:=hi18;show SK _ _ _ _ _ [(0,.pointer (some ⟨b,0,none⟩)),(3,.pointer (some ⟨g1,0,none⟩)),(4,.pointer (some ⟨g2,0,none⟩)),(5,sx),(6,.pointer (some ⟨gk,0,none⟩)),(7,.pointer (some ⟨gv,0,none⟩)),(8,.bool ((hdE rem).2.2.1))] _ (own VlT sx (gonL x.ents pre)::coA b q hb ph m Q L Fr G P::blkA gv (vc ((hdE rem).2.1)) 71::blkA gk (vc ((hdE rem).1)) 71::hpA hb st::blkA g2 #[iw 4,iw 0,iw 0,sw eb,iw x.id] 71::blkA g1 #[iw x.id,iw x.size,iw x.weak,x.rv.v,x.ev.v] 100::F);have hgl:=gon_len x.ents pre;have hpl:=hi18.2;refine k_seq<|k_sr<|sP (.bool ((hdE rem).2.2.1))<|s_nt<|k_cond ((hdE rem).2.2.1) (fun c19=>?_) (fun c19=>?_)
  .obtain ⟨p,tl,rfl⟩:=hd_some c19;refine k_st<|k_seq<|k_block<|k_seq<|k_held [own VlT sx (gonL x.ents pre),blkA gv (vc (p.2)) 71,blkA gk (vc (p.1)) 71,blkA g2 #[iw 4,iw 0,iw 0,sw eb,iw x.id] 71,blkA g1 #[iw x.id,iw x.size,iw x.weak,x.rv.v,x.ev.v] 100] ?_
   refine h_l 0 rfl [0,1,1,2,2] (fun _=>(t_loadA 2 (vc (p.1)))) ?_;refine h_l 2 rfl [0,1,1,2,2] (fun _=>(t_loadA 1 (vc (p.2)))) ?_;refine h_join (ι:=Nat) 1 #[true,true,true,true,true,true,false] (fun g20=>[(0,pB b 0),(3,pB g1 0),(4,pB g2 0),(5,sx),(6,pB gk 0),(7,pB gv 0),(10,pB g20 0),(45,.agg #[iw (idn (p.1)),iw (idn (p.2))])]) (fun g20=>blkA g20 #[iw 0,iw 0] 167::own VlT sx (gonL x.ents pre)::coA b q hb ph m Q L Fr G P::blkA gv (vc (p.2)) 71::blkA gk (vc (p.1)) 71::hpA hb st::blkA g2 #[iw 4,iw 0,iw 0,sw eb,iw x.id] 71::blkA g1 #[iw x.id,iw x.size,iw x.weak,x.rv.v,x.ev.v] 100::F) ?_ (fun hj23=>?_)
   .rintro g20;try dsimp only
    refine h_stepS 6 ?_;refine s_store 0 #[iw (idn (p.1)),iw (idn (p.2))] ?_;refine nH [1,2,2,3,3]<|h_doneS ?_
    refine xs_then<|k_sr<|sL (t_loadA 0 #[iw (idn (p.1)),iw (idn (p.2))])<|sL (t_kern (.agg #[iw 0,iw 0]))<|sL (t_eqS (fun w=>(eqEntT (⟨(idn (p.1)),(idn (p.2))⟩:Ent) (⟨0,0⟩:Ent) w).2))<|sP (.bool (!(decide ((⟨(idn (p.1)),(idn (p.2))⟩:Ent)=(⟨0,0⟩:Ent)))))<|s_fork 49 (!(decide ((⟨(idn (p.1)),(idn (p.2))⟩:Ent)=(⟨0,0⟩:Ent)))) (fun c24=>?_) (fun c24=>?_)
    .have c25:=not_t c24;have p26:=dF c25;refine sP (pB g1 4)<|sL (t_load 7 x.ev.v)<|sL (t_loadA 0 #[iw (idn (p.1)),iw (idn (p.2))])<|sV (fun _ h=>econtains_s (L:=x.ents) (Acc.kn (.zn hx.2) h) (⟨(idn (p.1)),(idn (p.2))⟩:Ent))<|sP (.bool (!(decide ((⟨(idn (p.1)),(idn (p.2))⟩:Ent)∈x.ents))))<|sP (.bool (!(decide ((⟨(idn (p.1)),(idn (p.2))⟩:Ent)∈x.ents))))<|s_nt<|k_cond (!(decide ((⟨(idn (p.1)),(idn (p.2))⟩:Ent)∈x.ents))) (fun c27=>?_) (fun c27=>?_)
     .have c28:=not_t c27;have p29:=dF c28;refine k_reg<|sP sx<|sL (t_loadA 4 (vc (p.1)))<|s_buildSlice (e:=71) [(0,.agg (vc (p.1)))] (vc (p.1)) (fun g30=>?_) (hb:=by kernel_rfl)
      refine s_append (L:=(gonL x.ents pre)) 2 VlT_ok Tryz.underlying28 (.lit 0 VlT_ok [(p.1)]) (by show _*48≤_;(try simp only[lnm]);omega) ol (fun v31=>?_);refine sF 2 (fun hf32=>?_);refine sP v31<|s_nil<|xs_block<|xs_then<|k_seq<|k_sr<|sL (t_loadA 5 (vc (p.1)))<|sL (t_loadA 4 (vc (p.2)))<|s_nt<|k_reg<|s_alloc (.agg zc) zc (fun g33=>?_)
      refine s_store 0 (vc (p.1)) ?_;refine s_alloc (.agg zc) zc (fun g34=>?_);refine s_store 0 (vc (p.2)) ?_;refine s_nt<|k_draw<|sP2 (pB b 0)<|sP (pB b 1)<|s_mem5 (fun H h=>co_open (h.re [5] [])) (fun mb35 qv36 lv37 fv38 cl39 hw=>?_)
      have hc40:=hw;refine sL (t_load 0 (pB hb 0))<|sL (t_loadA 14 #[iw 4,iw 0,iw 0,sw eb,iw x.id])<|sL (t_loadA 7 (vc (p.1)))<|sC [13] (hnext_s (st:=st) ho.sm hn (refV 4 x.id) (p.1)) ?_
      rw[(hnext_some htb).trans (next_step hob.tab hwb.tw (ob_small ho.sm hn hg) hi18.1)];refine sP (.tuple #[.agg (vc ((hdE tl).1)),.agg (vc ((hdE tl).2.1)),.bool ((hdE tl).2.2.1),iw ((hdE tl).2.2.2)])<|sP (.agg (vc ((hdE tl).1)))<|sP (.agg (vc ((hdE tl).2.1)))<|sP (.bool ((hdE tl).2.2.1))<|sP (iw ((hdE tl).2.2.2))<|s_store 8 (vc ((hdE tl).1)) ?_
      refine s_store 7 (vc ((hdE tl).2.1)) ?_;refine sP (.bool ((hdE tl).2.2.1))<|s_nil<|x_dynS (fun _ h=>by kernel_rfl) ?_
      refine xs_mem (fun _ h=>co_shut (c:=m) hc40 (h.re [1,1,1,1,1,1] [])) ?_;have hgp:gonP x.ents p=true:=by unfold gonP;simp[c19,p26,p29]
      rw[gon_yes hgp];refine xs_mem (Bs:=coA b q hb ph m Q L Fr G P::hpA hb st::blkA g34 (vc ((hdE tl).2.1)) 71::blkA g33 (vc ((hdE tl).1)) 71::blkA g30 (vc (p.1)) 71::blkA g20 #[iw (idn (p.1)),iw (idn (p.2))] 167::own VlT v31 (gonL x.ents (pre++[p]))::blkA gv (vc (p.2)) 71::blkA gk (vc (p.1)) 71::blkA g2 #[iw 4,iw 0,iw 0,sw eb,iw x.id] 71::blkA g1 #[iw x.id,iw x.size,iw x.weak,x.rv.v,x.ev.v] 100::F) (fun _ h=>h) ?_;exact xs_round (g33,g34,v31,pre++[p],tl) (by show tl.length<(p::tl).length;simp) (by rw[hi18.1,List.append_assoc];exact⟨rfl,by have:=hi18.2;simp only[List.length_cons,List.length_append,List.length_nil]at this ⊢;omega⟩) sA (rr [6,0,1,1,0,4,4] [7,7,7,7])
     have c41:=not_f c27;have p42:=dY c41;refine k_skip<|xs_block<|xs_then<|k_seq<|k_sr<|sL (t_loadA 4 (vc (p.1)))<|sL (t_loadA 3 (vc (p.2)))<|s_nt<|k_reg<|s_alloc (.agg zc) zc (fun g43=>?_)
     refine s_store 0 (vc (p.1)) ?_;refine s_alloc (.agg zc) zc (fun g44=>?_);refine s_store 0 (vc (p.2)) ?_;refine s_nt<|k_draw<|sP2 (pB b 0)<|sP (pB b 1)<|s_mem5 (fun H h=>co_open (h.re [4] [])) (fun mb45 qv46 lv47 fv48 cl49 hw=>?_)
     have hc50:=hw;refine sL (t_load 0 (pB hb 0))<|sL (t_loadA 13 #[iw 4,iw 0,iw 0,sw eb,iw x.id])<|sL (t_loadA 7 (vc (p.1)))<|sC [12] (hnext_s (st:=st) ho.sm hn (refV 4 x.id) (p.1)) ?_
     rw[(hnext_some htb).trans (next_step hob.tab hwb.tw (ob_small ho.sm hn hg) hi18.1)];refine sP (.tuple #[.agg (vc ((hdE tl).1)),.agg (vc ((hdE tl).2.1)),.bool ((hdE tl).2.2.1),iw ((hdE tl).2.2.2)])<|sP (.agg (vc ((hdE tl).1)))<|sP (.agg (vc ((hdE tl).2.1)))<|sP (.bool ((hdE tl).2.2.1))<|sP (iw ((hdE tl).2.2.2))<|s_store 8 (vc ((hdE tl).1)) ?_
     refine s_store 7 (vc ((hdE tl).2.1)) ?_;refine sP (.bool ((hdE tl).2.2.1))<|s_nil<|x_dynS (fun _ h=>by kernel_rfl) ?_
     refine xs_mem (fun _ h=>co_shut (c:=m) hc50 (h.re [1,1,1,1,1,1] [])) ?_;have hgp:gonP x.ents p=false:=by unfold gonP;simp[c19,p26,p42]
     rw[gon_no hgp];refine xs_mem (Bs:=coA b q hb ph m Q L Fr G P::hpA hb st::blkA g44 (vc ((hdE tl).2.1)) 71::blkA g43 (vc ((hdE tl).1)) 71::blkA g20 #[iw (idn (p.1)),iw (idn (p.2))] 167::own VlT sx (gonL x.ents (pre++[p]))::blkA gv (vc (p.2)) 71::blkA gk (vc (p.1)) 71::blkA g2 #[iw 4,iw 0,iw 0,sw eb,iw x.id] 71::blkA g1 #[iw x.id,iw x.size,iw x.weak,x.rv.v,x.ev.v] 100::F) (fun _ h=>h) ?_;exact xs_round (g43,g44,sx,pre++[p],tl) (by show tl.length<(p::tl).length;simp) (by rw[hi18.1,List.append_assoc];exact⟨rfl,by have:=hi18.2;simp only[List.length_cons,List.length_append,List.length_nil]at this ⊢;omega⟩) sA (rr [5,0,1,1,0,3,3] [7,7,7])
    have c51:=not_f c24;have p52:=dY c51;refine sK<|sK<|sK<|sK<|sK<|sP (.bool false)<|s_nt<|k_false<|k_skip<|xs_block<|xs_then<|k_seq<|k_sr<|sL (t_loadA 4 (vc (p.1)))<|sL (t_loadA 3 (vc (p.2)))<|s_nt<|k_reg<|s_alloc (.agg zc) zc (fun g53=>?_)
    refine s_store 0 (vc (p.1)) ?_;refine s_alloc (.agg zc) zc (fun g54=>?_);refine s_store 0 (vc (p.2)) ?_;refine s_nt<|k_draw<|sP2 (pB b 0)<|sP (pB b 1)<|s_mem5 (fun H h=>co_open (h.re [4] [])) (fun mb55 qv56 lv57 fv58 cl59 hw=>?_)
    have hc60:=hw;refine sL (t_load 0 (pB hb 0))<|sL (t_loadA 13 #[iw 4,iw 0,iw 0,sw eb,iw x.id])<|sL (t_loadA 7 (vc (p.1)))<|sC [12] (hnext_s (st:=st) ho.sm hn (refV 4 x.id) (p.1)) ?_
    rw[(hnext_some htb).trans (next_step hob.tab hwb.tw (ob_small ho.sm hn hg) hi18.1)];refine sP (.tuple #[.agg (vc ((hdE tl).1)),.agg (vc ((hdE tl).2.1)),.bool ((hdE tl).2.2.1),iw ((hdE tl).2.2.2)])<|sP (.agg (vc ((hdE tl).1)))<|sP (.agg (vc ((hdE tl).2.1)))<|sP (.bool ((hdE tl).2.2.1))<|sP (iw ((hdE tl).2.2.2))<|s_store 8 (vc ((hdE tl).1)) ?_
    refine s_store 7 (vc ((hdE tl).2.1)) ?_;refine sP (.bool ((hdE tl).2.2.1))<|s_nil<|x_dynS (fun _ h=>by kernel_rfl) ?_
    refine xs_mem (fun _ h=>co_shut (c:=m) hc60 (h.re [1,1,1,1,1,1] [])) ?_;have hgp:gonP x.ents p=false:=by unfold gonP;simp[c19,p52]
    rw[gon_no hgp];refine xs_mem (Bs:=coA b q hb ph m Q L Fr G P::hpA hb st::blkA g54 (vc ((hdE tl).2.1)) 71::blkA g53 (vc ((hdE tl).1)) 71::blkA g20 #[iw (idn (p.1)),iw (idn (p.2))] 167::own VlT sx (gonL x.ents (pre++[p]))::blkA gv (vc (p.2)) 71::blkA gk (vc (p.1)) 71::blkA g2 #[iw 4,iw 0,iw 0,sw eb,iw x.id] 71::blkA g1 #[iw x.id,iw x.size,iw x.weak,x.rv.v,x.ev.v] 100::F) (fun _ h=>h) ?_;exact xs_round (g53,g54,sx,pre++[p],tl) (by show tl.length<(p::tl).length;simp) (by rw[hi18.1,List.append_assoc];exact⟨rfl,by have:=hi18.2;simp only[List.length_cons,List.length_append,List.length_nil]at this ⊢;omega⟩) sA (rr [5,0,1,1,0,3,3] [7,7,7])
   refine h_join (ι:=Nat) 3 #[true,true,true,false,false,true,false] (fun g21=>[(0,pB b 0),(3,pB g1 0),(4,pB g2 0),(5,sx),(6,pB gk 0),(7,pB gv 0),(10,pB g21 0),(42,iw (idn (p.1))),(43,.agg (vc (p.2)))]) (fun g21=>blkA g21 #[iw 0,iw 0] 167::own VlT sx (gonL x.ents pre)::coA b q hb ph m Q L Fr G P::blkA gv (vc (p.2)) 71::blkA gk (vc (p.1)) 71::hpA hb st::blkA g2 #[iw 4,iw 0,iw 0,sw eb,iw x.id] 71::blkA g1 #[iw x.id,iw x.size,iw x.weak,x.rv.v,x.ev.v] 100::F) ?_ (fun hj61=>?_)
   .rintro g21;try dsimp only
    refine h_stepS 3 ?_;refine sV (fun _ h=>cident_s (p.2))<|nH [1,2,2,3,3]<|h_l 4 rfl [1,2,2,3,3] (fun _=>(t_kern (.agg #[iw (idn (p.1)),iw (idn (p.2))]))) ?_
    exact h_use hj23 g21 (rr [0,0,0,0,0,0,0,0] [])
   refine h_stepS2 1 5 ?_ ?_
   .refine sV (fun _ h=>cident_s (p.1))<|nH [0,1,1,2,2]<|h_stepS2 3 5 ?_ ?_
    .refine sV (fun _ h=>cident_s (p.2))<|nH [0,1,1,2,2]<|h_l 4 rfl [0,1,1,2,2] (fun _=>(t_kern (.agg #[iw (idn (p.1)),iw (idn (p.2))]))) ?_
     refine h_stepS 5 ?_;refine s_alloc (.agg #[iw 0,iw 0]) #[iw 0,iw 0] (fun g62=>?_);refine nH [1,2,2,3,3] ?_;exact h_use hj23 g62 (rr [0,0,0,0,0,0,0,0] [])
    refine s_alloc (.agg #[iw 0,iw 0]) #[iw 0,iw 0] (fun g63=>?_);refine nH [1,2,2,3,3] ?_;exact h_use hj61 g63 (rr [0,0,0,0,0,0,0,0] [])
   refine s_alloc (.agg #[iw 0,iw 0]) #[iw 0,iw 0] (fun g64=>?_);refine nH [1,2,2,3,3]<|h_stepS 1 ?_
   refine sV (fun _ h=>cident_s (p.1))<|nH [1,2,2,3,3] ?_
   exact h_use hj61 g64 (rr [0,0,0,0,0,0,0,0] [])
  obtain rfl:=hd_none c19;refine k_exit<|xs_exit<|xs_exit<|xs_here<|xs_then<|k_sr<|sP sx<|sL (t_len VlT_ok Tryz.underlying28 (.own 0))<|sP (iw 0)<|s_nt<|k_block ?_
  have hpre:tents o.tab=pre:=by rw[hi18.1,List.append_nil]
  refine k_mem (Bs:=own VlT sx (gonL x.ents pre)::coA b q hb ph m Q L Fr G P::blkA gv (vc ((hdE []).2.1)) 71::blkA gk (vc ((hdE []).1)) 71::hpA hb (rmK st x.id ((gonL x.ents pre).take 0))::blkA g2 #[iw 4,iw 0,iw 0,sw eb,iw x.id] 71::blkA g1 #[iw x.id,iw x.size,iw x.weak,x.rv.v,x.ev.v] 100::F) (fun _ h=>h) ?_;refine k_loop (ι:=Nat) (fun z=>z≤(gonL x.ents pre).length) (fun z=>[(0,pB b 0),(4,pB g2 0),(62,sx),(63,iw ((gonL x.ents pre).length:Int)),(64,iw (z:Int))]) (fun z=>own VlT sx (gonL x.ents pre)::coA b q hb ph m Q L Fr G P::blkA gv (vc ((hdE []).2.1)) 71::blkA gk (vc ((hdE []).1)) 71::hpA hb (rmK st x.id ((gonL x.ents pre).take z))::blkA g2 #[iw 4,iw 0,iw 0,sw eb,iw x.id] 71::blkA g1 #[iw x.id,iw x.size,iw x.weak,x.rv.v,x.ev.v] 100::F) (fun z=>(gonL x.ents pre).length-z) 0 (Nat.zero_le _) sA (rr [0,0,0,0,0,0,0] []) ?_;rintro z hi65;show SK _ _ _ _ _ [(0,pB b 0),(4,pB g2 0),(62,sx),(63,iw ((gonL x.ents pre).length:Int)),(64,iw (z:Int))] _ (own VlT sx (gonL x.ents pre)::coA b q hb ph m Q L Fr G P::blkA gv (vc ((hdE []).2.1)) 71::blkA gk (vc ((hdE []).1)) 71::hpA hb (rmK st x.id ((gonL x.ents pre).take z))::blkA g2 #[iw 4,iw 0,iw 0,sw eb,iw x.id] 71::blkA g1 #[iw x.id,iw x.size,iw x.weak,x.rv.v,x.ev.v] 100::F);refine k_sr<|sL t_cmp<|s_nt<|k_seq<|k_cond (decide ((z:Int)<((gonL x.ents pre).length:Int))) (fun c66=>?_) (fun c66=>?_)
  .have p67:=dY c66;refine k_st<|k_seq<|k_block<|k_sr<|sL (t_index VlT_ok Tryz.underlying28 (.own 0) (z:Int) z om ol om) ?_
   obtain⟨y68,hy69⟩:∃y,(gonL x.ents pre)[z]?=some y:=⟨_,List.getElem?_eq_getElem ol⟩;refine sL (t_loadE VlT_ok (.own 0) hy69)<|s_alloc (.agg zc) zc (fun g70=>?_)
   refine s_store 0 (vc y68) ?_;refine s_nt<|k_draw<|sP2 (pB b 0)<|sP (pB b 1)<|s_mem5 (fun H h=>co_open (h.re [2] [])) (fun mb71 qv72 lv73 fv74 cl75 hw=>?_)
   have hc76:=hw;refine sL (t_load 0 (pB hb 0))<|sL (t_loadA 11 #[iw 4,iw 0,iw 0,sw eb,iw x.id])<|sL (t_loadA 6 (vc y68))<|sL (t_kern (.agg zc))<|sC [10] (hset_s (st:=(rmK st x.id ((gonL x.ents pre).take z))) (ho.rmK _ _).sm hn (⟨4,0,0,eb,x.id⟩:Vl) y68 zVl) ?_
   refine s_nil<|x_dynS (fun _ h=>by kernel_rfl) ?_
   refine xs_block<|xs_then<|k_reg<|sL (t_add (z:Int) 1 ol)<|sP (iw ((z:Int)+1))<|s_nil<|xs_mem (fun _ h=>co_shut (c:=m) hc76 (h.re [1,1,1,1,1,1] [])) ?_
   refine xs_mem (Bs:=coA b q hb ph m Q L Fr G P::hpA hb (rmK st x.id ((gonL x.ents pre).take (z+1)))::blkA g70 (vc y68) 71::own VlT sx (gonL x.ents pre)::blkA gv (vc ((hdE []).2.1)) 71::blkA gk (vc ((hdE []).1)) 71::blkA g2 #[iw 4,iw 0,iw 0,sw eb,iw x.id] 71::blkA g1 #[iw x.id,iw x.size,iw x.weak,x.rv.v,x.ev.v] 100::F) (fun _ h=>by rw[rmK_take hy69];exact h) ?_;exact xs_round (z+1) (by show (gonL x.ents pre).length-(z+1)<(gonL x.ents pre).length-z;omega) om sA (rr [3,0,2,2,0,1,1] [7])
  have p77:=dF c66;refine k_exit<|xs_exit<|xs_exit<|xs_here ?_
  have hcl:hclr st x.id x.ents=rmK st x.id (gonL x.ents pre):=by unfold hclr tbOf;rw[hg];show rmK _ _ (gonL _ (tents o.tab))=_;rw[hpre]
  exact xs_finN [] (coA b q hb ph m Q L Fr G P::hpA hb (hclr st x.id x.ents)::F) SI.nil (fun _ h=>by rw[List.take_of_length_le om]at h;rw[hcl];exact h.re [1,3] [2,2,2,2,2]) ⟨rfl,rfl⟩
 refine h_join (ι:=Nat) 5 #[true,true,true,true,true,true,true,true,true,true,true,true,true,false,false,false,false,false] (fun g9=>[(0,pB b 0),(3,pB g1 0),(4,pB g2 0),(5,(.slice none 0 0)),(6,pB g9 0),(24,.agg (vc ((hdE (tents o.tab)).1))),(25,.agg (vc ((hdE (tents o.tab)).2.1))),(26,.bool ((hdE (tents o.tab)).2.2.1)),(27,iw ((hdE (tents o.tab)).2.2.2))]) (fun g9=>blkA g9 zc 71::hpA hb st::blkA b #[pB q 0,pB hb 0,iw ph,.map (some mb3),qv4,lv5,fv6] 91::qA q G P::mcA mb3 cl7::ownO iTy qv4 Q::ownO iTy lv5 L::ownO iTy fv6 Fr::blkA g2 #[iw 4,iw 0,iw 0,sw eb,iw x.id] 71::blkA g1 #[iw x.id,iw x.size,iw x.weak,x.rv.v,x.ev.v] 100::F) ?_ (fun hj78=>?_)
 .rintro g9;try dsimp only
  refine h_stepS 13 ?_;refine s_alloc (.agg zc) zc (fun g79=>?_);refine nH [3,8,8] ?_;exact h_use hj17 (g9,g79) (rr [0,0,0,0,0,0,0,0,0,0,0] [])
 refine h_join (ι:=Nat) 5 #[true,true,true,true,true,true,true,true,true,true,true,true,false,true,false,false,false,false] (fun g11=>[(0,pB b 0),(3,pB g1 0),(4,pB g2 0),(5,(.slice none 0 0)),(7,pB g11 0),(24,.agg (vc ((hdE (tents o.tab)).1))),(25,.agg (vc ((hdE (tents o.tab)).2.1))),(26,.bool ((hdE (tents o.tab)).2.2.1)),(27,iw ((hdE (tents o.tab)).2.2.2))]) (fun g11=>blkA g11 zc 71::hpA hb st::blkA b #[pB q 0,pB hb 0,iw ph,.map (some mb3),qv4,lv5,fv6] 91::qA q G P::mcA mb3 cl7::ownO iTy qv4 Q::ownO iTy lv5 L::ownO iTy fv6 Fr::blkA g2 #[iw 4,iw 0,iw 0,sw eb,iw x.id] 71::blkA g1 #[iw x.id,iw x.size,iw x.weak,x.rv.v,x.ev.v] 100::F) ?_ (fun hj80=>?_)
 .rintro g11;try dsimp only
  refine h_stepS 12 ?_;refine s_alloc (.agg zc) zc (fun g81=>?_);refine nH [3,8,8] ?_;exact h_use hj17 (g81,g11) (rr [1,0,0,0,0,0,0,0,0,0,0] [])
 refine h_join (ι:=Nat×Nat) 10 #[true,true,true,true,true,true,false,false,false,false,false,false,true,true,false,false,false,false] (fun (g13,g14)=>[(0,pB b 0),(3,pB g1 0),(4,pB g2 0),(5,(.slice none 0 0)),(6,pB g13 0),(7,pB g14 0),(20,pB hb 0),(21,.agg #[iw 4,iw 0,iw 0,sw eb,iw x.id]),(22,.agg zc)]) (fun (g13,g14)=>blkA g14 zc 71::blkA g13 zc 71::blkA b #[pB q 0,pB hb 0,iw ph,.map (some mb3),qv4,lv5,fv6] 91::qA q G P::mcA mb3 cl7::ownO iTy qv4 Q::ownO iTy lv5 L::ownO iTy fv6 Fr::blkA g2 #[iw 4,iw 0,iw 0,sw eb,iw x.id] 71::blkA g1 #[iw x.id,iw x.size,iw x.weak,x.rv.v,x.ev.v] 100::hpA hb st::F) ?_ (fun hj82=>?_)
 .rintro ⟨g13,g14⟩;try dsimp only
  refine h_stepS 6 ?_;refine sC [10] (hnext_s (st:=st) ho.sm hn (refV 4 x.id) zVl) ?_;rw[(hnext_some htb).trans (next_first o.tab)];refine nH [3,8,8]<|hp_ 7 [3,8,8] (.tuple #[.agg (vc ((hdE (tents o.tab)).1)),.agg (vc ((hdE (tents o.tab)).2.1)),.bool ((hdE (tents o.tab)).2.2.1),iw ((hdE (tents o.tab)).2.2.2)]) ?_
  refine hp_ 8 [3,8,8] (.agg (vc ((hdE (tents o.tab)).1))) ?_;refine hp_ 9 [3,8,8] (.agg (vc ((hdE (tents o.tab)).2.1))) ?_;refine hp_ 10 [3,8,8] (.bool ((hdE (tents o.tab)).2.2.1)) ?_;refine hp_ 11 [3,8,8] (iw ((hdE (tents o.tab)).2.2.2)) ?_;exact h_use hj17 (g13,g14) (rr [1,1,0,0,0,0,0,0,0,0,0] [])
 refine h_stepS3 6 12 13 ?_ ?_ ?_
 .refine sC [8] (hnext_s (st:=st) ho.sm hn (refV 4 x.id) zVl) ?_;rw[(hnext_some htb).trans (next_first o.tab)];refine nH [1,6,6]<|hp_ 7 [1,6,6] (.tuple #[.agg (vc ((hdE (tents o.tab)).1)),.agg (vc ((hdE (tents o.tab)).2.1)),.bool ((hdE (tents o.tab)).2.2.1),iw ((hdE (tents o.tab)).2.2.2)]) ?_
  refine hp_ 8 [1,6,6] (.agg (vc ((hdE (tents o.tab)).1))) ?_;refine hp_ 9 [1,6,6] (.agg (vc ((hdE (tents o.tab)).2.1))) ?_;refine hp_ 10 [1,6,6] (.bool ((hdE (tents o.tab)).2.2.1)) ?_;refine hp_ 11 [1,6,6] (iw ((hdE (tents o.tab)).2.2.2)) ?_;refine h_stepS2 12 13 ?_ ?_
  .refine s_alloc (.agg zc) zc (fun g83=>?_);refine nH [2,7,7] ?_;exact h_use hj78 g83 (rr [0,0,0,0,0,0,0,0,0,0] [])
  refine s_alloc (.agg zc) zc (fun g84=>?_);refine nH [2,7,7] ?_;exact h_use hj80 g84 (rr [0,0,0,0,0,0,0,0,0,0] [])
 .refine s_alloc (.agg zc) zc (fun g85=>?_);refine nH [1,6,6]<|h_stepS2 6 13 ?_ ?_
  .refine sC [9] (hnext_s (st:=st) ho.sm hn (refV 4 x.id) zVl) ?_;rw[(hnext_some htb).trans (next_first o.tab)];refine nH [2,7,7]<|hp_ 7 [2,7,7] (.tuple #[.agg (vc ((hdE (tents o.tab)).1)),.agg (vc ((hdE (tents o.tab)).2.1)),.bool ((hdE (tents o.tab)).2.2.1),iw ((hdE (tents o.tab)).2.2.2)]) ?_
   refine hp_ 8 [2,7,7] (.agg (vc ((hdE (tents o.tab)).1))) ?_;refine hp_ 9 [2,7,7] (.agg (vc ((hdE (tents o.tab)).2.1))) ?_;refine hp_ 10 [2,7,7] (.bool ((hdE (tents o.tab)).2.2.1)) ?_;refine hp_ 11 [2,7,7] (iw ((hdE (tents o.tab)).2.2.2)) ?_;exact h_use hj78 g85 (rr [1,0,0,0,0,0,0,0,0,0] [])
  refine s_alloc (.agg zc) zc (fun g86=>?_);refine nH [2,7,7] ?_;exact h_use hj82 (g85,g86) (rr [0,0,0,0,0,0,0,0,0,0,0] [])
 refine s_alloc (.agg zc) zc (fun g87=>?_);refine nH [1,6,6]<|h_stepS2 6 12 ?_ ?_
 .refine sC [9] (hnext_s (st:=st) ho.sm hn (refV 4 x.id) zVl) ?_;rw[(hnext_some htb).trans (next_first o.tab)];refine nH [2,7,7]<|hp_ 7 [2,7,7] (.tuple #[.agg (vc ((hdE (tents o.tab)).1)),.agg (vc ((hdE (tents o.tab)).2.1)),.bool ((hdE (tents o.tab)).2.2.1),iw ((hdE (tents o.tab)).2.2.2)]) ?_
  refine hp_ 8 [2,7,7] (.agg (vc ((hdE (tents o.tab)).1))) ?_;refine hp_ 9 [2,7,7] (.agg (vc ((hdE (tents o.tab)).2.1))) ?_;refine hp_ 10 [2,7,7] (.bool ((hdE (tents o.tab)).2.2.1)) ?_;refine hp_ 11 [2,7,7] (iw ((hdE (tents o.tab)).2.2.2)) ?_;exact h_use hj80 g87 (rr [1,0,0,0,0,0,0,0,0,0] [])
 refine s_alloc (.agg zc) zc (fun g88=>?_);refine nH [2,7,7] ?_;exact h_use hj82 (g88,g87) (rr [1,0,0,0,0,0,0,0,0,0,0] [])
end Go.Proofs.YtmhpcebiamkciaaGreat
end
section
set_option linter.unusedSimpArgs false
set_option linter.unusedVariables false
namespace Go.Proofs.YtmhpcebiamkciaaGreat
theorem made_dw{st:Hst}(h:HW st)(name:ByteArray):HW (hdata st name):=by
 unfold hdata;split
 .exact h
 exact h.make (data_w name)
theorem mstep_w{i:Nat}{o:Opc}{s:Hst×List Vl}(hi:HInv s.1)(h:HW s.1):HW (mstep i o s).1:=by
 unfold mstep;split
 .exact h.make (newO_w _ _ _ (fun _ hv=>(by cases hv)) (fun h8=>by cases h8))
 split
 .exact made_dw h _
 split
 .exact h.make (newO_w _ _ _ (fun _ hv=>(by cases hv)) (fun h8=>by cases h8))
 split
 .exact HW.set hi h _ _ _
 exact setMeta_w h _ _
theorem mst_w(l:List Opc):∀i,HW (mst l i).1
 | 0=>HW.nil
 | i+1=>by
  rw[mst];split
  .exact mstep_w (mst_good l i).1 (mst_w l i)
  exact mst_w l i
theorem made_w(l:List Opc):HW (made l).1:=mst_w l _
structure Shows(st:Hst)(N:List Ob):Prop where
 ids:N.map Ob.id=hids st
 obj:∀o∈N,o.c=cobj st o.id∧halive st o.id=true
theorem ho_id{st:Hst}{id:Int}(h:id∈hids st):hoId st id=id:=by unfold hoId;rw[if_pos (mem_hids.1 h)]
theorem Shows.asc{st:Hst}{N:List Ob}(h:Shows st N):Asc N:=by
 have:=hids_asc st;rw[←h.ids,List.pairwise_map]at this;exact this
theorem chk_of:∀(N:List Ob) (last:Int),N.Pairwise (fun x y=>x.id<y.id)→(∀o∈N,last<o.id∧0≤o.size∧0≤o.weak∧o.weak≤3)→chk last N=true
 | [],_,_,_=>rfl
 | x::r,last,ha,h=>by
  obtain⟨h1,h2,h3,h4⟩:=h x (by simp);obtain⟨ha1,ha2⟩:=List.pairwise_cons.1 ha;have ih:=chk_of r x.id ha2 fun o ho=>⟨ha1 o ho,(h o (List.mem_cons_of_mem _ ho)).2⟩
  rw[chk,ih];simp only[Bool.and_true,Bool.not_eq_true',Bool.or_eq_false_iff,decide_eq_false_iff_not];omega
theorem Shows.chk{st:Hst}{N:List Ob}{n:Nat}(h:Shows st N)(hsm:HSm n st)(hn:n≤300):chk 0 N=true:=by
 refine chk_of N 0 h.asc fun o ho=>?_
 obtain⟨e,ha⟩:=h.obj o ho;obtain⟨ob,hg⟩:=halive_iff.1 ha;have hs:=obj_some hg 0;have e1:o.size=hoSz st o.id:=congrArg (fun x:Core=>x.2.1) e;have e2:o.weak=hoWk st o.id 0:=congrArg (fun x:Core=>x.2.2.1) e;have h1:=(get_mem hg).2.1;have h2:=(obsize_bound hsm hn hg).1;rw[hs.2.2.1]at e1;have h3:hoWk st o.id 0=0:=by rw[hs.2.2.2.1];unfold hweak;split<;>rfl
 rw[h3]at e2;exact⟨by omega,by omega,by omega,by omega⟩
theorem Shows.fnd{st:Hst}{N:List Ob}(h:Shows st N)(id:Int):alO N id=halive st id:=by
 rw[Bool.eq_iff_iff];constructor
 .intro hx;have:=al_ids hx;rw[h.ids]at this;exact mem_hids.1 this
 intro hx;have:=mem_hids.2 hx;rw[←h.ids]at this;obtain⟨o,ho,rfl⟩:=List.mem_map.1 this;exact alO_is (fnd_mem h.asc ho)
theorem Shows.refs{st:Hst}{N:List Ob}(h:Shows st N){id:Int}(hx:alO N id=true):rfO N id=crf st id:=by
 unfold alO at hx;obtain⟨o,ho⟩:=Option.isSome_iff_exists.1 hx;obtain⟨h1,h2⟩:=fnd_id ho;have e:=(h.obj o h2).1;rw[rfO_is ho,←h1];have e1:o.refs=hrefs st o.id:=congrArg (fun x:Core=>x.2.2.2.1) e;have e2:o.ents=hents st o.id:=congrArg (fun x:Core=>x.2.2.2.2) e;unfold allO crf;rw[e1,e2]
theorem Shows.small{st:Hst}{N:List Ob}{n:Nat}(h:Shows st N)(hsm:HSm n st)(hn:n≤300):∀o∈N,o.refs.length≤100000∧o.ents.length≤100000:=fun o ho=>by
 have e:=(h.obj o ho).1;have e1:o.refs=hrefs st o.id:=congrArg (fun x:Core=>x.2.2.2.1) e;have e2:o.ents=hents st o.id:=congrArg (fun x:Core=>x.2.2.2.2) e;have:=crf_bound hsm hn o.id;rw[e1,e2];omega
end Go.Proofs.YtmhpcebiamkciaaGreat
end
section
set_option linter.unusedSimpArgs false
set_option linter.unusedVariables false
namespace Go.Proofs.YtmhpcebiamkciaaGreat
section
variable{l l':List Ob}(R reg pend:List Int)
theorem cyc1_of(h:l.map Ob.c=l'.map Ob.c):cyc1 l R=cyc1 l' R:=by unfold cyc1;rw[alive_c R h,map_of_c (fun x y=>unv_c _) h]
theorem cycR_of(h:l.map Ob.c=l'.map Ob.c):cycR l R reg=cycR l' R reg:=by unfold cycR;rw[alive_c R h]
theorem cycP_of(h:l.map Ob.c=l'.map Ob.c):cycP l R reg pend=cycP l' R reg pend:=by unfold cycP;rw[alive_c R h]
theorem cycB_c(h:l.map Ob.c=l'.map Ob.c):cycB l R reg pend=cycB l' R reg pend:=by unfold cycB;rw[cyc1_of R h,cycP_of R reg pend h]
theorem cycO_c(h:l.map Ob.c=l'.map Ob.c):cycO l R reg pend=cycO l' R reg pend:=by unfold cycO;rw[cyc1_of R h,cycB_c R reg pend h]
theorem cycF_c(h:l.map Ob.c=l'.map Ob.c):cycF l R reg pend=cycF l' R reg pend:=by unfold cycF;rw[cycB_c R reg pend h,map_of_c (fun x y=>c_id) h]
end
def cobjW(st:Hst)(id:Int):Core:=(hoId st id,hoSz st id,hoWk st id (wkn st (refV 4 id)),hrefs st id,hents st id)
def lW(st:Hst):List Ob:=((hids st).map (cobjW st)).map mkOb
def fulO(st:Hst)(R G P:List Int):List Core:=cycO (lW st) R G P
def fulF(st:Hst)(R G P:List Int):List Int:=cycF (lW st) R G P
def fulH(st:Hst)(R G P:List Int):Hst:=drps (hclrs st (fulO st R G P)) (fulF st R G P)
section
variable{st:Hst}{N l2:List Ob}{n:Nat}{R G P:List Int}{x:Int}
theorem lW_c(st:Hst):(lW st).map Ob.c=(hids st).map (cobjW st):=mkOb_map _
theorem wk_rng{o:Hob}(hg:st.get x=some o)(w:Int):0≤hoWk st x w∧hoWk st x w≤3∧(hoWk st x w≠0→o.kind=4):=by
 rw[(obj_some hg w).2.2.2.1];unfold hweak;split
 .rename_i q;exact⟨q.2.1,q.2.2,fun _=>q.1⟩
 exact⟨Int.le_refl _,by decide,fun q=>absurd rfl q⟩
structure ShW(st:Hst)(N:List Ob):Prop where
 ids:N.map Ob.id=hids st
 obj:∀o∈N,o.c=cobjW st o.id∧halive st o.id=true
theorem shw_of(hN:N.map Ob.c=(hids st).map (cobjW st)):ShW st N:=by
 have h1:N.map Ob.id=hids st:=by
  have e:(N.map Ob.c).map (fun x=>x.1)=((hids st).map (cobjW st)).map (fun x=>x.1):=by rw[hN]
  rw[List.map_map,List.map_map]at e;refine (show N.map Ob.id=N.map ((fun x=>x.1) ∘ Ob.c) from rfl).trans (e.trans ?_);refine (List.map_congr_left fun x hx=>?_).trans (List.map_id _);exact ho_id hx
 refine⟨h1,fun o ho=>?_⟩;have h2:o.c∈(hids st).map (cobjW st):=by rw[←hN];exact List.mem_map.2 ⟨o,ho,rfl⟩
 obtain⟨id,hid,e⟩:=List.mem_map.1 h2;have e2:hoId st id=o.id:=congrArg (fun x:Core=>x.1) e;rw[ho_id hid]at e2;subst e2;exact⟨e.symm,mem_hids.1 hid⟩
theorem ShW.asc(h:ShW st N):Asc N:=by
 have:=hids_asc st;rw[←h.ids,List.pairwise_map]at this;exact this
theorem ShW.chk(h:ShW st N)(hsm:HSm n st)(hn:n≤300):chk 0 N=true:=by
 refine chk_of N 0 h.asc fun o ho=>?_
 obtain⟨e,ha⟩:=h.obj o ho;obtain⟨ob,hg⟩:=halive_iff.1 ha;have hs:=obj_some hg 0;have e1:o.size=hoSz st o.id:=congrArg (fun x:Core=>x.2.1) e;have e2:o.weak=hoWk st o.id (wkn st (refV 4 o.id)):=congrArg (fun x:Core=>x.2.2.1) e;have h1:=(get_mem hg).2.1;have h2:=(obsize_bound hsm hn hg).1;rw[hs.2.2.1]at e1;have h3:=wk_rng hg (wkn st (refV 4 o.id));exact⟨by omega,by omega,by omega,by omega⟩
theorem ShW.fnd(h:ShW st N){o:Ob}(hf:fnd N x=some o):o.id=x∧o.c=cobjW st x∧halive st x=true:=by
 obtain⟨h1,h2⟩:=fnd_id hf;have:=h.obj o h2;rw[h1]at this;exact⟨h1,this.1,this.2⟩
theorem ShW.is(h:ShW st N):Is N x↔halive st x=true:=by
 constructor
 .intro hi;obtain⟨o,ho⟩:=Option.isSome_iff_exists.1 hi;exact (h.fnd ho).2.2
 intro ha;have:=mem_hids.2 ha;rw[←h.ids]at this;obtain⟨o,ho,rfl⟩:=List.mem_map.1 this;rw[Is,fnd_mem h.asc ho];rfl
theorem ShW.small(h:ShW st N)(hsm:HSm n st)(hn:n≤300):∀o∈N,o.refs.length≤400∧o.ents.length≤100000:=fun o ho=>by
 have e:=(h.obj o ho).1;have e1:o.refs=hrefs st o.id:=congrArg (fun x:Core=>x.2.2.2.1) e;have e2:o.ents=hents st o.id:=congrArg (fun x:Core=>x.2.2.2.2) e;have:=crf_bound hsm hn o.id;rw[e1,e2];omega
theorem shW(st:Hst):ShW st (lW st):=shw_of (lW_c st)
theorem cyc_mem{c:Core}(h:c∈cycO N R G P):∃o∈N,c.1=o.id∧o.id∈cycB N R G P∧c.2.2.1=o.weak∧(o.weak=1→c.2.2.2.2=o.ents.filter (keepB (cycB N R G P) 1)):=by
 unfold cycO lastL at h;obtain⟨h1,h2⟩:=List.mem_filter.1 h;obtain⟨y,hy,e⟩:=List.mem_map.1 h1;obtain⟨o,ho,e2⟩:=unv_mem (cyc1_c N R) hy;have i1:y.id=o.id:=congrArg (fun q:Core=>q.1) e2;have i2:c.1=y.id:=congrArg (fun q:Core=>q.1) e.symm;have w1:y.weak=o.weak:=congrArg (fun q:Core=>q.2.2.1) e2;have w2:c.2.2.1=y.weak:=congrArg (fun q:Core=>q.2.2.1) e.symm;refine⟨o,ho,i2.trans i1,by rw[←i1,←i2];exact dY h2,w2.trans w1,fun w=>?_⟩;have e3:y.ents=if unvB (aliveR N R) o=true then o.ents.filter (valB (aliveR N R)) else o.ents:=congrArg (fun q:Core=>q.2.2.2.2) e2;have e4:c.2.2.2.2=y.ents.filter (keepB (cycB N R G P) y.weak):=congrArg (fun q:Core=>q.2.2.2.2) e.symm;have hu:unvB (aliveR N R) o=false:=by unfold unvB;rw[w];simp
 rw[hu,if_neg (by decide)]at e3;rw[e4,e3,w1,w]
theorem cyc_kind(h:ShW st N){c:Core}(hc:c∈cycO N R G P)(hw:c.2.2.1≠0):∃o,st.get c.1=some o∧o.kind=4:=by
 obtain⟨o,ho,i,_,w,_⟩:=cyc_mem hc;obtain⟨e,ha⟩:=h.obj o ho;obtain⟨ob,hg⟩:=halive_iff.1 ha;have e2:o.weak=hoWk st o.id (wkn st (refV 4 o.id)):=congrArg (fun x:Core=>x.2.2.1) e;exact⟨ob,by rw[i];exact hg,(wk_rng hg _).2.2 (by rw[←e2,←w];exact hw)⟩
theorem alive_B(hc:chk 0 N=true)(hv:∀o∈N,o.weak≠2):∀x∈aliveR N R,x∈cycB N R G P:=by
 have h1:=cyc1_c N R;have hc1:chk 0 (cyc1 N R)=true:=(unv_chk h1).trans hc;have kB:=all_closed (chk_asc hc1) (R++cycP N R G P);intro x hx;rw[mem_alive' hc]at hx;unfold cycB;rw[mem_alive' hc1];have get:∀{z:Int}{o:Ob},fnd N z=some o→∃o',fnd (cyc1 N R) z=some o'∧o'.c=unv (aliveR N R) o:=fun {z o} hf=>by
  obtain⟨e1,hm⟩:=fnd_id hf;have:unv (aliveR N R) o∈(cyc1 N R).map Ob.c:=by rw[h1];exact List.mem_map.2 ⟨o,hm,rfl⟩
  obtain⟨o',ho',e⟩:=List.mem_map.1 this;have e2:o'.id=z:=(congrArg (fun q:Core=>q.1) e).trans e1;exact⟨o',by rw[←e2];exact fnd_mem (chk_asc hc1) ho',e⟩
 have isG:∀{z:Int},Is N z→Is (cyc1 N R) z:=fun {z} hi=>by
  obtain⟨o,ho⟩:=Option.isSome_iff_exists.1 hi;obtain⟨o',h2,_⟩:=get ho;rw[Is,h2];rfl
 refine least_all (chk_asc hc) (R:=R) (p:=fun x=>x∈(allR (cyc1 N R) (R++cycP N R G P)).1) ⟨fun r hr hi=>kB.roots r (List.mem_append_left _ hr) (isG hi),fun x o hp hf z hz hi=>?_,fun x o hp hf hw e he hk hi=>?_⟩ x hx
 .obtain ⟨o',h2,e⟩:=get hf;have er:o'.refs=o.refs:=congrArg (fun q:Core=>q.2.2.2.1) e;have ew:o'.weak=o.weak:=congrArg (fun q:Core=>q.2.2.1) e;have ee:o'.ents=if unvB (aliveR N R) o=true then o.ents.filter (valB (aliveR N R)) else o.ents:=congrArg (fun q:Core=>q.2.2.2.2) e;refine kB.kept x o' hp h2 z ?_ (isG hi);unfold keptO at hz⊢;rcases List.mem_append.1 hz with hz|hz
  .rw [er];exact List.mem_append_left _ hz
  refine List.mem_append_right _ ?_;obtain⟨en,hen,hz⟩:=List.mem_flatMap.1 hz;rw[ew];by_cases w3:o.weak=3
  .rw [w3]at hz;unfold keptE at hz;simp at hz
  have hu:unvB (aliveR N R) o=false:=by unfold unvB;simp[w3,hv o (fnd_id hf).2]
  rw[hu,if_neg (by decide)]at ee;exact List.mem_flatMap.2 ⟨en,by rw[ee];exact hen,hz⟩
 obtain⟨o',h2,e'⟩:=get hf;have ew:o'.weak=o.weak:=congrArg (fun q:Core=>q.2.2.1) e';have ee:o'.ents=if unvB (aliveR N R) o=true then o.ents.filter (valB (aliveR N R)) else o.ents:=congrArg (fun q:Core=>q.2.2.2.2) e';have hu:unvB (aliveR N R) o=false:=by unfold unvB;rw[hw];simp
 rw[hu,if_neg (by decide)]at ee;exact kB.eph x o' hp h2 (ew.trans hw) e (by rw[ee];exact he) hk (isG hi)
end
end Go.Proofs.YtmhpcebiamkciaaGreat
end
