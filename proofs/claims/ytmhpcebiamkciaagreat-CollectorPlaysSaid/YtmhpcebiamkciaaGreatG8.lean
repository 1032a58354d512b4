/-
  What the reference's loops over all objects gather (layer 14). No program in sight.
-/
import Derived.Test.YtmhpcebiamkciaaGreatG4
import Derived.Test.YtmhpcebiamkciaaGreatG7
import Derived.Test.YtmhpcebiamkciaaGreatG5
import Derived.Test.YtmhpcebiamkciaaGreatG6
import Derived.Shelf.Strings.Search3
import Derived.Test.YtmhpcebiamkciaaGreatProg
import Derived.Test.YtmhpcebiamkciaaGreatG2
import Derived.Lib.IndexAny
set_option linter.unusedSimpArgs false
set_option linter.unusedVariables false
set_option maxRecDepth 100000
set_option maxHeartbeats 2000000
namespace Go.Proofs.YtmhpcebiamkciaaGreat
open Go.Hp Go.J Go.S
open Go.Mem (fS Ty eB bN dg cL cm db dO blk blk_pre fM elemAt pre rF suf)
section
variable{Z:bK}{F As:List aW}{reg A pend L P R Q Fr G:List Int}{b i p hb rq n k:Nat}{l l1 l2:List Ob}{st:bp}{y ph x:Int}{ov rv lv av rr:Value}{c:Int→Int}{H:bb}{o:kX}
section
variable{st:bp}{i:Nat}{o:kX}{id:Int}
def jQ(st:bp)(i:Nat):List Int:=((List.range i).map fun k:Nat=>(k:Int)+1).filter fun id=>aw st id
theorem yY(st:bp)(i:Nat):jQ st (i+1)=if aw st ((i:Int)+1)=true then jQ st i++[(i:Int)+1] else jQ st i:=by
 unfold jQ;rw[List.range_succ,List.map_append,List.filter_append];by_cases h:aw st ((i:Int)+1)=true<;>simp[h]
theorem K5(h:i=st.objs.length):jQ st i=aQ st:=by subst h;rfl
theorem K6(st:bp)(i:Nat):(jQ st i).length≤i:=by
 unfold jQ;refine Nat.le_trans (List.length_filter_le _ _) ?_;rw[List.length_map,List.length_range];exact Nat.le_refl _
end
def eR(l:List Vl):List Int:=(l.filter fun v=>isRef v.kind).map Vl.ref
theorem Bf{l:List Vl}{y:Vl}(h:l[i]?=some y):eR (l.take (i+1))=if isRef y.kind=true then eR (l.take i)++[y.ref] else eR (l.take i):=by
 unfold eR;rw[List.take_add_one,h];simp only[Option.toList_some,List.filter_append,List.map_append];by_cases hy:isRef y.kind=true<;>simp[hy]
theorem tW(l:List Vl):(eR l).length≤l.length:=by unfold eR;rw[List.length_map];exact List.length_filter_le _ _
theorem EO(A B:List Vl):eR (A++B)=eR A++eR B:=by unfold eR;rw[List.filter_append,List.map_append]
theorem Qb{l:List Vl}(h:∀v∈l,isRef v.kind=true→1≤v.ref):eR l=(l.map cJ).filter fun n=>decide (n≠0):=by
 induction l with
 | nil=>rfl
 | cons v r ih=>
  have ih2:=ih fun x hx=>h x (List.mem_cons_of_mem _ hx)
  unfold eR at ih2⊢;by_cases hr:isRef v.kind=true
  .have h1:=h v (by simp) hr;have hi:cJ v=v.ref:=by unfold cJ;rw[if_pos hr]
   rw[List.filter_cons,if_pos hr,List.map_cons,List.map_cons,hi,List.filter_cons_of_pos (by simp;omega),ih2]
  have hi:cJ v=0:=by unfold cJ;rw[if_neg hr]
  rw[List.filter_cons,if_neg hr,List.map_cons,hi,List.filter_cons_of_neg (by simp),ih2]
theorem EP(v:Vl):NF 231 #[v.v] Z [] (iw (cJ v)):=by
 refine bO Tryz.func231 7 (fun w0=>?_);refine bn<|bj (vc v) (fun g1=>?_)
 refine go ?_;refine sV (fun _ h=>uT v)<|bH<|kd (fun c2=>?_) (fun c2=>?_)
 .refine go ?_;have hp:cJ v=v.ref:=by unfold cJ;rw[if_pos c2]
  refine gz ?_;exact fg ⟨by rw[hp];rfl,rfl⟩
 refine go ?_;have hp:cJ v=0:=by unfold cJ;rw[if_neg (by rw[c2];decide)]
 refine gz ?_;exact fg ⟨by rw[hp];rfl,rfl⟩
theorem vf{O:List Int}{l:List Vl}(hO:O.length≤100000)(hl:l.length≤100000):SF Tryz.prog 188 #[ov,lv] Z (own an ov O::own bq lv l::F) fun r Bs=>Bs=own an r (O++eR l)::own bq lv l::F:=by
 refine bO Tryz.func188 26 (fun w0=>?_);refine gy ?_;refine aK (Bs:=own an ov (O++eR (l.take 0))::own bq lv l::F) (fun _ h=>by simpa [eR]using h) ?_;refine aD (ι:=Value×Nat) (fun (rx,i)=>i≤l.length) (fun (rx,i)=>[(0,rx),(1,lv),(5,iw (i:Int))]) (fun (rx,i)=>own an rx (O++eR (l.take i))::own bq lv l::F) (fun (rx,i)=>l.length-i) (ov,0) (Nat.zero_le _) sA rA ?_;rintro⟨rx,i⟩ cQ;replace cQ:i≤l.length:=cQ;show SK _ _ _ _ _ [(0,rx),(1,lv),(5,iw (i:Int))] _ (own an rx (O++eR (l.take i))::own bq lv l::F);have hrl:=tW (l.take i);rw[List.length_take]at hrl;refine gy ?_;refine b9 (fun p3=>?_) (fun p9=>?_)
 .obtain ⟨y4,mN⟩:∃y,l[i]?=some y:=⟨_,List.getElem?_eq_getElem ol⟩;refine gy ?_;refine sV (fun _ h=>uT y4) ?_;refine bH ?_;refine kd (fun c6=>?_) (fun c6=>?_)
  .refine gy ?_;refine ah (e:=3) [(0,iw y4.ref)] #[iw y4.ref] (fun g7=>?_) (hb:=by kernel_rfl);refine aq (L:=(O++eR (l.take i))) 1 ak Tryz.underlying23 (.lit 0 ak [y4.ref]) (by show _*8≤_;(try simp only[cD]);omega) ol (fun v8=>?_);refine gy ?_;have dM:((O++eR (l.take i))++[y4.ref])=(O++eR (l.take (i+1))):=by rw[Bf mN,if_pos c6];exact List.append_assoc _ _ _
   refine ab (Bs:=aa g7 #[iw y4.ref] 3::own an v8 (O++eR (l.take (i+1)))::own bq lv l::F) (fun _ h=>by rw[dM]at h;exact h) ?_;exact xr (v8,i+1) mz
  refine gy ?_;have dM:(O++eR (l.take i))=(O++eR (l.take (i+1))):=by rw[Bf mN,if_neg (by rw[c6];decide)]
  refine ab (Bs:=own an rx (O++eR (l.take (i+1)))::own bq lv l::F) (fun _ h=>by rw[dM]at h;exact h) ?_;exact xr (rx,i+1) mz
 refine go ?_;have iA:eR (l.take i)=eR l:=by rw[List.take_of_length_le om]
 rw[iA];refine gz ?_;exact fg rfl
theorem Bg{k v:Vl}(hk:au k=true)(hv:au v=true):((⟨cJ k,cJ v⟩:iF)≠⟨0,0⟩)↔(isRef k.kind=true∨isRef v.kind=true):=by
 have key:∀{x:Vl},au x=true→(cJ x≠0↔isRef x.kind=true):=fun {x} hx=>by
  constructor
  .intro h;cases hr:isRef x.kind with
   | true=>rfl
   | false=>exact absurd (by unfold cJ;rw[if_neg (by rw[hr];decide)]) h
  intro h;have:=AR hx h;omega
 rw[←key hk,←key hv];constructor
 .intro h;by_cases h1:cJ k=0
  .refine .inr fun h2=>h (by rw[h1,h2])
  exact .inl h1
 intro h e;injection e with e1 e2
 rcases h with h|h
 .exact h e1
 exact h e2
theorem G8{L:List Vl}{S:List cY}(Rc:kM ⟨L,S⟩)(htw:TW ⟨L,S⟩)(hl:L.length≤100000)(hs:S.length≤100000):SF Tryz.prog 189 #[pB b 0] Z (kP b L S::F) fun r Bs=>Bs=own cq r (dC ⟨L,S⟩)::kP b L S::F:=by
 refine bx Tryz.func189 41 [(0,pB b 0)] (fun w0=>?_);have htl:=ni ⟨L,S⟩;refine gy ?_;refine ah (e:=167) [] #[] (fun g1=>?_) (hb:=by kernel_rfl);refine gy ?_;refine sC [1] (tV (L:=L) (S:=S) ol ol bw) ?_;refine gy ?_;refine ae (.agg zc) zc (fun g2=>?_);refine ae (.agg zc) zc (fun g3=>?_);refine gy ?_;rw[fH];refine aK (fun _ h=>Holds.slice 3 h dy []) ?_;refine aK (Bs:=aa g3 (vc ((bE (a7 ⟨L,S⟩)).2.1)) 71::aa g2 (vc ((bE (a7 ⟨L,S⟩)).1)) 71::kP b L S::own cq (.slice (some ⟨g1,0,none⟩) 0 0) (iB [])::F) (fun _ h=>h) ?_;refine aD (ι:=Value×List (Vl×Vl)×List (Vl×Vl)) (fun (lx,dn,rem)=>a7 ⟨L,S⟩=dn++rem) (fun (lx,dn,rem)=>[(0,pB b 0),(3,lx),(4,pB g2 0),(5,pB g3 0),(6,.bool ((bE rem).2.2.1))]) (fun (lx,dn,rem)=>aa g3 (vc ((bE rem).2.1)) 71::aa g2 (vc ((bE rem).1)) 71::kP b L S::own cq lx (iB dn)::F) (fun (lx,dn,rem)=>rem.length) ((.slice (some ⟨g1,0,none⟩) 0 0),[],a7 ⟨L,S⟩) rfl sA (rr [0,0,0,0] []) ?_;rintro⟨lx,dn,rem⟩ fA;replace fA:a7 ⟨L,S⟩=dn++rem:=fA;show SK _ _ _ _ _ [(0,pB b 0),(3,lx),(4,pB g2 0),(5,pB g3 0),(6,.bool ((bE rem).2.2.1))] _ (aa g3 (vc ((bE rem).2.1)) 71::aa g2 (vc ((bE rem).1)) 71::kP b L S::own cq lx (iB dn)::F);have VX:=yi dn;have ud:dn.length≤L.length+S.length:=by have h0:=congrArg List.length fA;rw[List.length_append]at h0;have h1:(⟨L,S⟩:Tb).list.length=L.length:=rfl;have h2:(⟨L,S⟩:Tb).rest.length=S.length:=rfl;omega
 refine go ?_;refine kd (fun c5=>?_) (fun c5=>?_)
 .obtain ⟨p,tl,jy⟩:=wP c5;refine eT<|cE<|aE<|b6 (ι:=Unit) (fun _=>True) (fun _=>[(0,pB b 0),(3,lx),(4,pB g2 0),(5,pB g3 0),(23,.bool ((isRef ((bE rem).1).kind)||(isRef ((bE rem).2.1).kind)))]) (fun _=>aa g3 (vc ((bE rem).2.1)) 71::aa g2 (vc ((bE rem).1)) 71::kP b L S::own cq lx (iB dn)::F) ?_ (fun _ _=>?_)
  .refine go ?_;refine sV (fun _ h=>uT ((bE rem).1)) ?_;refine go ?_;refine oW 20 (fun c6=>?_) (fun c6=>?_)
   .refine go ?_;exact bh () trivial (bc rfl (rQ (rQ (rQ (rQ ⟨⟨rfl,cB (by simp[c6])⟩,trivial⟩))))) rA
   refine go ?_;refine sV (fun _ h=>uT ((bE rem).2.1)) ?_;refine go ?_;exact bh () trivial (bc rfl (rQ (rQ (rQ (rQ ⟨⟨rfl,cB (by simp[c6])⟩,trivial⟩))))) rA
  refine kd (fun c7=>?_) (fun c7=>?_)
  .have p8:=c7;simp only[Bool.and_eq_true,Bool.or_eq_true,Bool.and_eq_false_iff,Bool.or_eq_false_iff,Bool.not_eq_true',Bool.not_eq_false',decide_eq_true_eq,decide_eq_false_iff_not]at p8;refine br [aa g3 (vc ((bE rem).2.1)) 71,aa g2 (vc ((bE rem).1)) 71] ?_;refine gH [0,1,3] [0,0] ?_;refine ag 2 ?_;refine sV (fun _ h=>EP ((bE rem).1))<|nH [0,0]<|ag 4 ?_
   refine sV (fun _ h=>EP ((bE rem).2.1))<|nH [0,0]<|fK 5 rfl [0,0] (fun _=>(ay (.agg #[iw (cJ ((bE rem).1)),iw (cJ ((bE rem).2.1))]))) ?_
   refine ag 6 ?_;refine ah (e:=167) [(0,.agg #[iw (cJ ((bE rem).1)),iw (cJ ((bE rem).2.1))])] #[iw (cJ ((bE rem).1)),iw (cJ ((bE rem).2.1))] (fun g9=>?_) (hb:=by kernel_rfl);refine nH [1,1]<|ag 7 ?_
   refine aq (L:=(iB dn)) 4 dy Tryz.underlying98 (.lit 0 dy [(⟨(cJ ((bE rem).1)),(cJ ((bE rem).2.1))⟩:iF)]) (by show _*16≤_;(try simp only[cD]);omega) ol (fun v10=>?_);refine nH [1,1]<|fq 8 [1,1] v10 ?_
   refine aI ?_;refine go ?_;refine sC [3] (tV (L:=L) (S:=S) ol ol ((bE rem).1)) ?_;refine go ?_;have hn:cX ⟨L,S⟩ ((bE rem).1)=bE tl:=by rw[jy];exact iE Rc htw (by show L.length≤_;omega) (pre:=dn) (by rw[fA,jy])
   rw[hn];have hva:=vG Rc p (by rw[fA,jy];simp);have CS:(bE rem).1=p.1:=by rw[jy];rfl
   have Iq:(bE rem).2.1=p.2:=by rw[jy];rfl
   have HQ:((iB dn)++[(⟨(cJ ((bE rem).1)),(cJ ((bE rem).2.1))⟩:iF)])=(iB (dn++[p])):=by rw[qG,if_pos ((Bg hva.1 hva.2).2 (by rw[←CS,←Iq];simp_all))];rw[CS,Iq]
   refine ab (Bs:=kP b L S::aa g9 #[iw (cJ ((bE rem).1)),iw (cJ ((bE rem).2.1))] 167::aa g3 (vc ((bE tl).2.1)) 71::aa g2 (vc ((bE tl).1)) 71::own cq v10 (iB (dn++[p]))::F) (fun _ h=>by rw[HQ]at h;exact h) ?_;exact az (v10,dn++[p],tl) (by show tl.length<rem.length;rw[jy];simp) (by show _=(dn++[p])++tl;rw[fA,jy];simp) sA rA
  obtain⟨ff,jS⟩:=l5 c7;refine go ?_;refine sC [2] (tV (L:=L) (S:=S) ol ol ((bE rem).1)) ?_;refine go ?_;have hn:cX ⟨L,S⟩ ((bE rem).1)=bE tl:=by rw[jy];exact iE Rc htw (by show L.length≤_;omega) (pre:=dn) (by rw[fA,jy])
  rw[hn];have hva:=vG Rc p (by rw[fA,jy];simp);have CS:(bE rem).1=p.1:=by rw[jy];rfl
  have Iq:(bE rem).2.1=p.2:=by rw[jy];rfl
  have HQ:(iB dn)=(iB (dn++[p])):=by rw[qG,if_neg (fun hc=>absurd ((Bg hva.1 hva.2).1 hc) (by rw[←CS,←Iq];simp_all))]
  refine ab (Bs:=kP b L S::aa g3 (vc ((bE tl).2.1)) 71::aa g2 (vc ((bE tl).1)) 71::own cq lx (iB (dn++[p]))::F) (fun _ h=>by rw[HQ]at h;exact h) ?_;exact az (lx,dn++[p],tl) (by show tl.length<rem.length;rw[jy];simp) (by show _=(dn++[p])++tl;rw[fA,jy];simp) sA rA
 have jy:=wQ c5;refine go ?_;have iA:iB dn=dC ⟨L,S⟩:=by unfold dC;rw[fA,jy,List.append_nil]
 rw[iA];exact ad [lx] (own cq lx (dC ⟨L,S⟩)::kP b L S::F) (SI.tmp 2 SI.nil) rA rfl
theorem Us{tp:Nat}{uv rv:Sv}(hl:o.tab.list.length≤100000)(hs:o.tab.rest.length≤100000)(hv:o.vals.length≤100000):NF 187 #[Rx.v ⟨some o,tp,uv,rv⟩] Z (own bq uv.v (wk o)::own bq rv.v (tx o)::Fj tp o::F) (iw (bf o)):=by
 refine bO Tryz.func187 23 (fun w0=>?_);have htz:0≤ja ⟨o.tab.list,o.tab.rest⟩∧ja ⟨o.tab.list,o.tab.rest⟩≤700000:=by unfold ja;dsimp only;omega
 have hrf:(tx o).length≤o.vals.length:=by unfold tx;split<;>simp
 refine bn ?_;refine bj #[iw o.kind,iw o.tag,sw o.name,(gS (0,tp) o),iw o.mt.kind,iw o.mt.p,iw o.mt.q,sw o.mt.str,iw o.mt.ref,uv.v,rv.v] (fun g1=>?_);refine gc ?_;refine b9 (fun q2=>?_) (fun q2=>?_)
 .refine bn<|sP (pB g1 3) ?_
  refine sL (Lt.to (v':=bu tp) (aJ 0 (gS (0,tp) o)) (pN q2))<|aC (fun _ h=>pO q2 (rB h)) ?_
  refine sC [0] (Qa (L:=o.tab.list) (S:=o.tab.rest) ol ol) ?_;refine gy ?_;refine ab (fun _ h=>lK (T:=o.tab) q2 (rB h)) ?_;refine ab (Bs:=Fj tp o::aa g1 #[iw o.kind,iw o.tag,sw o.name,(gS (0,tp) o),iw o.mt.kind,iw o.mt.p,iw o.mt.q,sw o.mt.str,iw o.mt.ref,uv.v,rv.v] 145::own bq uv.v (wk o)::own bq rv.v (tx o)::F) (fun _ h=>h) ?_;have hp:bf o=(8+(ja ⟨o.tab.list,o.tab.rest⟩)):=by unfold bf;rw[if_pos q2]
  refine gz ?_;exact fg ⟨by rw[hp];rfl,rfl⟩
 refine gc ?_;refine b9 (fun p6=>?_) (fun q5=>?_)
 .refine gy ?_;have hp:bf o=(8+((tx o).length:Int)):=by unfold bf;rw[if_neg q2,if_pos p6];rw[Ws om]
  refine gz ?_;exact fg ⟨by rw[hp];rfl,rfl⟩
 refine gc ?_;refine b9 (fun p9=>?_) (fun q8=>?_)
 .refine gy ?_;have hp:bf o=(16+((tx o).length:Int)):=by unfold bf;rw[if_neg q2,if_neg q5,if_pos p9];rw[Ws om]
  refine gz ?_;exact fg ⟨by rw[hp];rfl,rfl⟩
 refine go ?_;have hp:bf o=12:=by unfold bf;rw[if_neg q2,if_neg q5,if_neg q8]
 refine gz ?_;exact fg ⟨by rw[hp];rfl,rfl⟩
theorem adg{L:List Rx}(hL:L.map Rx.o=st.objs)(h:i<L.length):(∃tp uv rv,L[i]?=some ⟨none,tp,uv,rv⟩∧st.get ((i:Int)+1)=none)∨∃o tp uv rv,L[i]?=some ⟨some o,tp,uv,rv⟩∧st.get ((i:Int)+1)=some o:=by
 have:=yl hL (id:=(i:Int)+1) om om;rwa [show ((i:Int)+1-1).toNat=i by omega]at this
theorem sQ(ca:jv n st)(hn:n≤300):SF Tryz.prog 42 #[pB b 0] Z (bs b st::F) fun r Bs=>Bs=own an r (aQ st)::bs b st::F:=by
 refine bO Tryz.func42 33 (fun w0=>?_);have vJ:=ca.len;refine go ?_;refine ah (e:=3) [] #[] (fun g1=>?_) (hb:=by kernel_rfl);refine go ?_;refine kN (fun H h=>fP (rB h)) (fun v2 Ru L4 hw=>?_);obtain⟨wN,hL6⟩:=hw;have akl:=iN hL6;have akm:=wN.tch;refine aK (fun _ h=>Holds.slice 4 h ak []) ?_;refine aK (Bs:=aa b #[v2,iw (st.count:Int),Ru] 142::own CP v2 L4::own nA Ru st.tch::ij L4::own an (.slice (some ⟨g1,0,none⟩) 0 0) (jQ st 0)::F) (fun _ h=>h) ?_;refine aD (ι:=Value×Nat) (fun (sx,i)=>i≤st.objs.length) (fun (sx,i)=>[(0,pB b 0),(3,sx),(4,iw (i:Int))]) (fun (sx,i)=>aa b #[v2,iw (st.count:Int),Ru] 142::own CP v2 L4::own nA Ru st.tch::ij L4::own an sx (jQ st i)::F) (fun (sx,i)=>st.objs.length-i) ((.slice (some ⟨g1,0,none⟩) 0 0),0) (Nat.zero_le _) sA rA ?_;rintro⟨sx,i⟩ Oc;replace Oc:i≤st.objs.length:=Oc;show SK _ _ _ _ _ [(0,pB b 0),(3,sx),(4,iw (i:Int))] _ (aa b #[v2,iw (st.count:Int),Ru] 142::own CP v2 L4::own nA Ru st.tch::ij L4::own an sx (jQ st i)::F);have hnl:=K6 st i;refine gy ?_;refine b9 (fun im=>?_) (fun mE=>?_)
 .refine gy ?_;rcases adg hL6 (by omega:i<L4.length) with ⟨ag4,ag5,ag6,ji,ZC⟩|⟨bF,ag7,ag8,ag9,u1,JS⟩
  .refine gy ?_;have dM:(jQ st i)=(jQ st (i+1)):=by rw[yY,if_neg (by rw[ve ZC];decide)]
   refine ab (Bs:=aa b #[v2,iw (st.count:Int),Ru] 142::own CP v2 L4::own nA Ru st.tch::ij L4::own an sx (jQ st (i+1))::F) (fun _ h=>by rw[dM]at h;exact h) ?_;exact xr (sx,i+1) mz
  refine sL (cw 0 ft (.own 1) u1) ?_;refine sL (Lt.to aT (cB (decide_eq_true (Wt wN JS):(decide (bF.kind≠0))=true))) ?_;refine go ?_;refine gy ?_;refine ah (e:=3) [(0,iw ((i:Int)+1))] #[iw ((i:Int)+1)] (fun g23=>?_) (hb:=by kernel_rfl);refine aq (L:=(jQ st i)) 5 ak Tryz.underlying23 (.lit 0 ak [((i:Int)+1)]) (by show _*8≤_;(try simp only[cD]);omega) ol (fun v24=>?_);refine gy ?_;have dM:((jQ st i)++[((i:Int)+1)])=(jQ st (i+1)):=by rw[yY,if_pos (IP JS)]
  refine ab (Bs:=aa g23 #[iw ((i:Int)+1)] 3::aa b #[v2,iw (st.count:Int),Ru] 142::own CP v2 L4::own nA Ru st.tch::ij L4::own an v24 (jQ st (i+1))::F) (fun _ h=>by rw[dM]at h;exact h) ?_;exact xr (v24,i+1) mz
 refine go ?_;refine ab (fun _ h=>dI (st:=st) (n:=(st.count:Int)) (T:=st.tch) ⟨⟨⟨wN,hL6⟩,rfl⟩,rfl⟩ (rB h)) ?_;have iA:jQ st i=aQ st:=K5 om;rw[iA];exact ad _ _ (SI.tmp 2 SI.nil) (rr [1,0] []) rfl
theorem ZF(x:Rx):((Rx.v x).cells.toList.all fun c=>c.oneCell')=true:=List.all_eq_true.2 (ft.one x)
theorem yZ(h:Yn o):(([]++eR [o.mt])++eR (wk o))++eR (tx o)=n' o:=by
 have h1:∀v∈o.mt::o.vals,isRef v.kind=true→1≤v.ref:=fun v hv hr=>by
  rcases List.mem_cons.1 hv with rfl|hv
  .exact h.mt hr
  exact (AR (h.vals v hv) hr).2
 unfold n';rw[←Qb h1,List.nil_append,List.append_assoc,←EO,←EO];congr 1;show o.mt::(wk o++tx o)=_;congr 1;unfold wk tx;split<;>simp
theorem j9(ca:jv n st)(hn:n≤300)(hw:HW st)(id weak:Int):SF Tryz.prog 135 #[pB b 0,iw id,iw weak] Z (bs b st::F) fun r Bs=>∃rv ev,r=.tuple #[.agg #[iw (cR st id),iw (cT st id),iw (cG st id weak),rv,ev],.bool (aw st id)]∧Bs=own an rv (hrefs st id)::own cq ev (aY st id)::bs b st::F:=by
 refine bx Tryz.func135 62 [(0,pB b 0),(1,iw id),(2,iw weak)] (fun w0=>?_);have vJ:=ca.len;refine bn ?_;refine ae (.agg #[iw 0,iw 0,iw 0,nS,nS]) #[iw 0,iw 0,iw 0,nS,nS] (fun g1=>?_);refine gy ?_;refine sC [1] (ju (st:=st) (by have:=ca.len;omega) id) ?_;refine gy ?_;refine bg (!(aw st id)) (fun c2=>?_) (fun c2=>?_)
 .have c3:=cO c2;have wH:aw st id=false:=by simpa using c3
  refine bn<|sL (ay (.agg #[iw 0,iw 0,iw 0,nS,nS]))<|ar 1 #[iw 0,iw 0,iw 0,nS,nS] ?_
  refine sP (.bool false)<|bH<|eM<|lD ?_
  refine ab (fun _ h=>Holds.nilS (T:=cq) h) ?_;refine ab (fun _ h=>Holds.nilS (T:=an) h) ?_;have Tu:st.get id=none:=by have h0:=wH;unfold aw at h0;cases hg:st.get id with|none=>rfl|some o=>rw[hg]at h0;cases h0
  have iZ:=yj Tu weak;exact ad [.agg #[iw 0,iw 0,iw 0,nS,nS],.bool false] (own an nS []::own cq nS []::bs b st::F) (SI.agg 6 100 3 (SI.tmp 7 SI.nil)) (rr [0,0,0] [3]) ⟨nS,nS,by rw[iZ.1,iZ.2.1,iZ.2.2.1,iZ.2.2.2.1];rfl,by rw[iZ.2.2.2.2.1,iZ.2.2.2.2.2]⟩
 have c4:=cu c2;have wH:aw st id=true:=by simpa using c4
 obtain⟨o5,LU⟩:=Option.isSome_iff_exists.1 wH;have akn:=get_mem LU;obtain⟨hb1,de,dN⟩:=nj ca hn LU;have hu1:(wk o5).length≤o5.vals.length∧(tx o5).length≤o5.vals.length:=by unfold wk tx;split<;>simp
 refine gy ?_;refine dc (fun H h=>fP (h.re [0] [])) (fun v8 tv9 L10 hw=>?_);obtain⟨ta,Qc⟩:=hw;have aiJ:=iN Qc;have aiK:=ta.tch;refine gy ?_;obtain⟨y0,wq,wu,pS⟩:=lJ Qc LU;refine gy ?_;refine ae (.agg #[iw 0,iw 0,sw eb,.pointer none,iw 0,iw 0,iw 0,sw eb,iw 0,nS,nS]) #[iw 0,iw 0,sw eb,.pointer none,iw 0,iw 0,iw 0,sw eb,iw 0,nS,nS] (fun g19=>?_);refine ar 0 #[iw o5.kind,iw o5.tag,sw o5.name,(gS (0,y0) o5),iw o5.mt.kind,iw o5.mt.p,iw o5.mt.q,sw o5.mt.str,iw o5.mt.ref,wq.v,wu.v] ?_ (h1:=ZF (⟨some o5,y0,wq,wu⟩:Rx));refine bH<|aE ?_
 refine aK (fun _ h=>kA pS (h.re [4] [])) ?_;refine gy ?_;obtain⟨hz1,hz2,hz3⟩:=nj ca hn LU;refine sC [0,0,0] (Us (o:=o5) (tp:=y0) (uv:=wq) (rv:=wu) om om om) ?_;refine sL (ay (.agg #[iw id,iw (bf o5),iw 0,nS,nS])) ?_;refine ae (.agg #[iw 0,iw 0,iw 0,nS,nS]) #[iw 0,iw 0,iw 0,nS,nS] (fun g20=>?_);refine gy ?_;refine ah (e:=71) [(0,.agg (vc o5.mt))] (vc o5.mt) (fun g21=>?_) (hb:=by kernel_rfl);refine aC (fun _ h=>Holds.nilS (T:=an) h) ?_;refine aC (fun _ h=>Holds.slice 1 h aZ [o5.mt]) ?_;refine aH [0,0] (vf (O:=[]) (l:=[o5.mt]) ol ol) ?_;rintro v22 _ rfl;have aiL:(eR [o5.mt]).length≤1:=tW _;refine sF 0 (fun K0=>?_);refine gy ?_;refine aH [0,2] (vf (O:=([]++eR [o5.mt])) (l:=(wk o5)) ol ol) ?_;rintro v25 _ rfl;have aiM:=tW (wk o5);refine sF 0 (fun Qd=>?_);refine gy ?_;refine aH [0,3] (vf (O:=(([]++eR [o5.mt])++eR (wk o5))) (l:=(tx o5)) ol ol) ?_;rintro v28 _ rfl;have aiN:=tW (tx o5);refine sF 0 (fun zQ=>?_);refine gy ?_;refine bg (decide (o5.kind=4)) (fun nR=>?_) (fun nR=>?_)
 .have uI:=dY nR;refine bn<|sP (pB g19 3) ?_
  refine sL (Lt.to (v':=bu y0) (aJ 7 (gS (0,y0) o5)) (pN (dY nR)))<|aC (fun _ h=>pO (dY nR) (h.re [5] [])) ?_
  refine aH [0] (G8 (L:=o5.tab.list) (S:=o5.tab.rest) (ta.obs o5 (get_mem LU).1).tab (hw.of LU).tw ol ol) ?_;rintro v33 _ rfl;refine sF 0 (fun rh=>?_);refine sP (pB g20 4)<|ar (u:=v33) (m:=1) 6 #[iw id,iw (bf o5),iw 0,v28,v33] ?_ (hm:=by (obtain⟨_,_,e⟩:=rh;rw[e];rfl)) (h1:=by (obtain⟨_,_,e⟩:=rh;rw[e];rfl)) (ha':=by (obtain⟨_,_,e⟩:=rh;rw[e];rfl))
  refine bH<|b6 (ι:=Unit) (fun _=>True) (fun _=>[(2,iw weak),(6,pB g1 0),(9,pB g20 0),(58,.bool ((decide ((0:Int)≤weak))&&(decide (weak≤3))))]) (fun _=>own cq v33 (dC ⟨o5.tab.list,o5.tab.rest⟩)::kP y0 o5.tab.list o5.tab.rest::own an v28 ((([]++eR [o5.mt])++eR (wk o5))++eR (tx o5))::own bq wu.v (tx o5)::own bq wq.v (wk o5)::own bq (.slice (some ⟨g21,0,none⟩) 1 1) [o5.mt]::aa g20 #[iw id,iw (bf o5),iw 0,v28,v33] 100::ij (L10.eraseIdx ((id-1)).toNat)::aa g19 #[iw o5.kind,iw o5.tag,sw o5.name,(gS (0,y0) o5),iw o5.mt.kind,iw o5.mt.p,iw o5.mt.q,sw o5.mt.str,iw o5.mt.ref,wq.v,wu.v] 145::aa b #[v8,iw (st.count:Int),tv9] 142::own CP v8 L10::own nA tv9 st.tch::aa g1 #[iw 0,iw 0,iw 0,nS,nS] 100::F) ?_ (fun _ _=>?_)
  .refine gy ?_;refine dW 55 (decide ((0:Int)≤weak)) (fun Az=>?_) (fun Az=>?_)
   .have jr:=dY Az;refine gy ?_;exact bh () trivial (bc rfl (rQ (rQ (rQ ⟨⟨rfl,show Value.bool (decide (weak≤3))=Value.bool ((decide ((0:Int)≤weak))&&(decide (weak≤3))) by first|(simp only[Az,jK];done)|simp[Az]⟩,trivial⟩)))) (rr [0,0,0,0,0,0,0,0,0,0,0,0,0] [])
   have zB:=dF Az;refine gy ?_;exact bh () trivial (bc rfl (rQ (rQ (rQ ⟨⟨rfl,show Value.bool false=Value.bool ((decide ((0:Int)≤weak))&&(decide (weak≤3))) by first|(simp only[Az,jK];done)|simp[Az]⟩,trivial⟩)))) (rr [0,0,0,0,0,0,0,0,0,0,0,0,0] [])
  refine bg ((decide ((0:Int)≤weak))&&(decide (weak≤3))) (fun c38=>?_) (fun c38=>?_)
  .obtain ⟨kz,c40⟩:=kk c38;have Ni:=dY kz;have uJ:=dY c40;refine gy ?_;refine ar (u:=.agg #[iw id,iw (bf o5),iw weak,v28,v33]) (m:=5) 12 #[iw id,iw (bf o5),iw weak,v28,v33] ?_ (hm:=by (obtain⟨_,_,e⟩:=zQ;rw[e];obtain⟨_,_,e⟩:=rh;rw[e];rfl)) (h1:=by (obtain⟨_,_,e⟩:=zQ;rw[e];obtain⟨_,_,e⟩:=rh;rw[e];rfl)) (ha':=by (obtain⟨_,_,e⟩:=zQ;rw[e];obtain⟨_,_,e⟩:=rh;rw[e];rfl));refine sP (.bool true)<|bH<|eM ?_
   refine ab (fun _ h=>lK (T:=o5.tab) (dY nR) (h.re [1] [])) ?_;refine ab (Bs:=Fj y0 o5::own cq v33 (dC ⟨o5.tab.list,o5.tab.rest⟩)::own an v28 ((([]++eR [o5.mt])++eR (wk o5))++eR (tx o5))::own bq wu.v (tx o5)::own bq wq.v (wk o5)::own bq (.slice (some ⟨g21,0,none⟩) 1 1) [o5.mt]::aa g20 #[iw id,iw (bf o5),iw weak,v28,v33] 100::ij (L10.eraseIdx ((id-1)).toNat)::aa g19 #[iw o5.kind,iw o5.tag,sw o5.name,(gS (0,y0) o5),iw o5.mt.kind,iw o5.mt.p,iw o5.mt.q,sw o5.mt.str,iw o5.mt.ref,wq.v,wu.v] 145::aa b #[v8,iw (st.count:Int),tv9] 142::own CP v8 L10::own nA tv9 st.tch::aa g1 #[iw id,iw (bf o5),iw weak,v28,v33] 100::F) (fun _ h=>h) ?_;refine ab (fun _ h=>nk pS (ke (o':=o5) (uv':=wq) (rv':=wu) pS (h.re [4,3,0,4] []))) ?_;refine ab (fun _ h=>dI (st:=st) (n:=(st.count:Int)) (T:=st.tch) ⟨⟨⟨ta,Qc⟩,rfl⟩,rfl⟩ (h.re [6,6,6,0] [])) ?_;have iZ:=iC LU weak;have vI:kY o5 weak=weak:=by unfold kY;rw[if_pos ⟨dY nR,by grind,by grind⟩]
   have Gs:aY st id=(dC o5.tab):=by rw[iZ.2.2.2.2.2];exact if_pos (dY nR)
   have hre:=yZ (hw.of LU);exact ad [.agg #[iw id,iw (bf o5),iw weak,v28,v33],.bool true] (own an v28 ((([]++eR [o5.mt])++eR (wk o5))++eR (tx o5))::own cq v33 (dC o5.tab)::bs b st::F) (SI.agg 6 100 6 (SI.tmp 7 SI.nil)) (rr [2,1,0] [3,3,3,3]) ⟨v28,v33,by rw[iZ.1,iZ.2.1,iZ.2.2.1,iZ.2.2.2.1,vI];rfl,by rw[Gs,iZ.2.2.2.2.1,hre]⟩
  have NQ:=c38;simp only[Bool.and_eq_true,Bool.or_eq_true,Bool.and_eq_false_iff,Bool.or_eq_false_iff,Bool.not_eq_true',Bool.not_eq_false',decide_eq_true_eq,decide_eq_false_iff_not]at NQ;refine eT<|bn<|sL (dE 6 #[iw id,iw (bf o5),iw 0,v28,v33])<|ar (u:=.agg #[iw id,iw (bf o5),iw 0,v28,v33]) (m:=5) 12 #[iw id,iw (bf o5),iw 0,v28,v33] ?_ (hm:=by (obtain⟨_,_,e⟩:=zQ;rw[e];obtain⟨_,_,e⟩:=rh;rw[e];rfl)) (h1:=by (obtain⟨_,_,e⟩:=zQ;rw[e];obtain⟨_,_,e⟩:=rh;rw[e];rfl)) (ha':=by (obtain⟨_,_,e⟩:=zQ;rw[e];obtain⟨_,_,e⟩:=rh;rw[e];rfl))
  refine sP (.bool true)<|bH<|eM ?_
  refine ab (fun _ h=>lK (T:=o5.tab) (dY nR) (h.re [1] [])) ?_;refine ab (Bs:=Fj y0 o5::own cq v33 (dC ⟨o5.tab.list,o5.tab.rest⟩)::own an v28 ((([]++eR [o5.mt])++eR (wk o5))++eR (tx o5))::own bq wu.v (tx o5)::own bq wq.v (wk o5)::own bq (.slice (some ⟨g21,0,none⟩) 1 1) [o5.mt]::aa g20 #[iw id,iw (bf o5),iw 0,v28,v33] 100::ij (L10.eraseIdx ((id-1)).toNat)::aa g19 #[iw o5.kind,iw o5.tag,sw o5.name,(gS (0,y0) o5),iw o5.mt.kind,iw o5.mt.p,iw o5.mt.q,sw o5.mt.str,iw o5.mt.ref,wq.v,wu.v] 145::aa b #[v8,iw (st.count:Int),tv9] 142::own CP v8 L10::own nA tv9 st.tch::aa g1 #[iw id,iw (bf o5),iw 0,v28,v33] 100::F) (fun _ h=>h) ?_;refine ab (fun _ h=>nk pS (ke (o':=o5) (uv':=wq) (rv':=wu) pS (h.re [4,3,0,4] []))) ?_;refine ab (fun _ h=>dI (st:=st) (n:=(st.count:Int)) (T:=st.tch) ⟨⟨⟨ta,Qc⟩,rfl⟩,rfl⟩ (h.re [6,6,6,0] [])) ?_;have iZ:=iC LU weak;have vI:kY o5 weak=0:=by unfold kY;rw[if_neg];rintro⟨h1,h2,h3⟩;grind
  have Gs:aY st id=(dC o5.tab):=by rw[iZ.2.2.2.2.2];exact if_pos (dY nR)
  have hre:=yZ (hw.of LU);exact ad [.agg #[iw id,iw (bf o5),iw 0,v28,v33],.bool true] (own an v28 ((([]++eR [o5.mt])++eR (wk o5))++eR (tx o5))::own cq v33 (dC o5.tab)::bs b st::F) (SI.agg 6 100 6 (SI.tmp 7 SI.nil)) (rr [2,1,0] [3,3,3,3]) ⟨v28,v33,by rw[iZ.1,iZ.2.1,iZ.2.2.1,iZ.2.2.2.1,vI];rfl,by rw[Gs,iZ.2.2.2.2.1,hre]⟩
 have LJ:=dF nR;refine eT<|bn<|sL (dE 4 #[iw id,iw (bf o5),iw 0,v28,nS])<|ar (u:=.agg #[iw id,iw (bf o5),iw 0,v28,nS]) (m:=5) 11 #[iw id,iw (bf o5),iw 0,v28,nS] ?_ (hm:=by (obtain⟨_,_,e⟩:=zQ;rw[e];rfl)) (h1:=by (obtain⟨_,_,e⟩:=zQ;rw[e];rfl)) (ha':=by (obtain⟨_,_,e⟩:=zQ;rw[e];rfl))
 refine sP (.bool true)<|bH<|eM ?_
 refine ab (fun _ h=>nk pS (ke (o':=o5) (uv':=wq) (rv':=wu) pS (h.re [2,1,3,3] []))) ?_;refine ab (fun _ h=>dI (st:=st) (n:=(st.count:Int)) (T:=st.tch) ⟨⟨⟨ta,Qc⟩,rfl⟩,rfl⟩ (h.re [5,5,5,0] [])) ?_;refine ab (fun _ h=>Holds.nilS (T:=cq) h) ?_;have iZ:=iC LU weak;have vI:kY o5 weak=0:=by unfold kY;rw[if_neg];rintro⟨h1,h2,h3⟩;exact absurd h1 (dF nR)
 have Gs:aY st id=[]:=by rw[iZ.2.2.2.2.2];exact if_neg (dF nR)
 have hre:=yZ (hw.of LU);exact ad [.agg #[iw id,iw (bf o5),iw 0,v28,nS],.bool true] (own an v28 ((([]++eR [o5.mt])++eR (wk o5))++eR (tx o5))::own cq nS []::bs b st::F) (SI.agg 6 100 6 (SI.tmp 7 SI.nil)) (rr [2,0,0] [3,3,3,3]) ⟨v28,nS,by rw[iZ.1,iZ.2.1,iZ.2.2.1,iZ.2.2.2.1,vI];rfl,by rw[Gs,iZ.2.2.2.2.1,hre]⟩
def lY(b:Nat)(reg pend:List Int):aW:=lj fun rv=>lj fun pv=>zr True [aa b #[rv,pv] 196,own an rv reg,own an pv pend]
theorem mj(h:Holds Z (lY b reg pend::F) H):∃rv pv,True∧Holds Z (aa b #[rv,pv] 196::own an rv reg::own an pv pend::F) H:=by
 obtain⟨a,h⟩:=h.open_ex;obtain⟨m,h⟩:=h.open_ex;exact⟨a,m,h.open_st⟩
theorem fR{pv:Value}(h:Holds Z (aa b #[rv,pv] 196::own an rv reg::own an pv pend::F) H):Holds Z (lY b reg pend::F) H:=
 Holds.shut_ex rv (Holds.shut_ex pv (Holds.shut_st trivial h))
theorem Ut:SF Tryz.prog 85 #[] Z [] fun r Bs=>∃b,r=pB b 0∧Bs=[lY b [] []]:=by
 refine sfe Tryz.func85 3 (fun w0=>?_);refine go ?_;refine sL (ay (.agg #[nS,nS]))<|bj #[nS,nS] (fun g1=>?_)
 refine go ?_;refine ad _ _ (SI.tmp 0 SI.nil) (fun _ h=>fR (b:=g1) (rv:=nS) (pv:=nS) ((Holds.nilS (T:=an) (Holds.nilS (T:=an) h)).re [2,0] [])) ⟨g1,rfl,rfl⟩
theorem Bh(hL:Kn Z an lv L)(n:Int):NF 156 #[lv,iw n] Z [] (.bool (decide (n∈L))):=by
 refine bO Tryz.func156 18 (fun w0=>?_);refine bk (fun H h=>(hL.get h).len_le) (fun lA=>?_);refine gy ?_;refine Q6 0 (fun i=>i≤L.length∧n∉L.take i) (fun i=>[(5,iw (i:Int))]) (fun i=>[]) (fun i=>L.length-i) ⟨Nat.zero_le _,by simp⟩ ?_;intro i cQ;refine gy ?_;refine b9 (fun p3=>?_) (fun p9=>?_)
 .obtain ⟨y4,mN⟩:∃y,L[i]?=some y:=⟨_,List.getElem?_eq_getElem ol⟩;refine gy ?_;refine b9 (fun p7=>?_) (fun p8=>?_)
  .refine go ?_;refine ad _ _ (SI.tmp 4 SI.nil) rA ⟨cB ?_,rfl⟩;exact (decide_eq_true (by rw[←p7];exact List.mem_of_getElem? mN)).symm
  refine gy ?_;exact xr (i+1) (by obtain⟨cQ,cg⟩:=cQ;refine⟨by omega,?_⟩;rw[←bA mN,List.mem_append,List.mem_singleton];rintro (h|h);exact cg h;exact p8 h.symm)
 refine go ?_;refine ad _ _ (SI.tmp 4 SI.nil) rA ⟨cB ?_,rfl⟩;exact (decide_eq_false (by have h:=cQ.2;rwa [List.take_of_length_le om]at h)).symm
theorem Ci(id:Int)(hr:reg.length≤90000):MF 95 #[pB b 0,iw id] Z (lY b reg pend::F) (iw (lP reg id)) (lY b (gO reg id) pend::F):=by
 refine bx Tryz.func95 25 [(0,pB b 0),(1,iw id)] (fun w0=>?_);refine gy ?_;refine b9 (fun p2=>?_) (fun p3=>?_)
 .refine gy ?_;have h1:lP reg id=2:=by simp[lP,p2]
  have h2:gO reg id=reg:=by simp[gO,p2]
  refine ad [iw 2] (lY b reg pend::F) (SI.tmp 4 SI.nil) rA ?_;rw[h1,h2];exact⟨rfl,rfl⟩
 refine gy ?_;refine cF (fun H h=>mj (rB h)) (fun rq4 pq5 hw=>?_);refine gy ?_;refine sV (fun _ h=>Bh (L:=reg) (Acc.kn (.own 1) h) id) ?_;refine bH ?_;refine b9 (fun p7=>?_) (fun p8=>?_)
 .refine gy ?_;refine ab (fun _ h=>fR (rB h)) ?_;have h1:lP reg id=10:=by simp[lP,p3,p7]
  have h2:gO reg id=reg:=by simp[gO,p3,p7]
  refine ad [iw 10] (lY b reg pend::F) (SI.tmp 4 SI.nil) rA ?_;rw[h1,h2];exact⟨rfl,rfl⟩
 refine gy ?_;refine gA fun g9=>?_
 refine aq (L:=reg) 2 ak Tryz.underlying23 (.lit 0 ak [id]) (by show _*8≤_;(try simp only[cD]);omega) ol (fun v10=>?_);skip;refine gy ?_;refine ab (fun _ h=>fR (rB h)) ?_;have h1:lP reg id=0:=by simp[lP,p3,p8]
 have h2:gO reg id=(reg++[id]):=by simp[gO,p3,p8]
 refine ad _ _ (SI.tmp 4 SI.nil) (rr [0] [1]) ?_;rw[h1,h2];exact⟨rfl,rfl⟩
theorem sj(hl:pend.length≤1000000):SF Tryz.prog 102 #[pB b 0] Z (lY b reg pend::F) fun r Bs=>Bs=own an r pend::lY b reg pend::F:=by
 refine bO Tryz.func102 11 (fun w0=>?_);refine gy ?_;refine ah (e:=3) [] #[] (fun g1=>?_) (hb:=by kernel_rfl);refine go ?_;refine cF (fun H h=>mj (rB h)) (fun rq2 pq3 hw=>?_);refine gy ?_;refine aC (fun _ h=>Holds.slice 3 h ak []) ?_;refine aq (L:=[]) 3 ak Tryz.underlying23 (.own 2) (by show _*8≤_;(try simp only[cD]);omega) ol (fun v4=>?_);refine sF 3 (fun rS=>?_);refine gy ?_;refine ab (fun _ h=>fR (rB h)) ?_;exact ad _ _ (SI.tmp 2 SI.nil) (rr [1,0] []) rfl
theorem rD(hl:reg.length≤1000000):SF Tryz.prog 134 #[pB b 0] Z (lY b reg pend::F) fun r Bs=>Bs=own an r reg::lY b reg pend::F:=by
 refine bO Tryz.func134 11 (fun w0=>?_);refine gy ?_;refine ah (e:=3) [] #[] (fun g1=>?_) (hb:=by kernel_rfl);refine gy ?_;refine cF (fun H h=>mj (rB h)) (fun rq2 pq3 hw=>?_);refine gy ?_;refine aC (fun _ h=>Holds.slice 3 h ak []) ?_;refine aq (L:=[]) 3 ak Tryz.underlying23 (.own 1) (by show _*8≤_;(try simp only[cD]);omega) ol (fun v4=>?_);refine sF 3 (fun rS=>?_);refine gy ?_;refine ab (fun _ h=>fR (rB h)) ?_;exact ad _ _ (SI.tmp 2 SI.nil) (rr [1,0] []) rfl
abbrev Mk.v(x:Mk):Value:=.agg #[iw x.id,iw x.color]
def vg:Ty Mk:=⟨200,2,16,true,Mk.v,⟨0,0⟩⟩
theorem eO:vg.Ok Tryz.prog:=pg vg _ Tryz.t200 (by decide) (fun _=>rfl) (fun x u hu=>by simp[Ty.enc,vg,Value.cells]at hu;rcases hu with rfl|rfl<;>rfl) (fun _=>rfl) Tryz.underlying200 rfl (fun h=>by cases h) (by kernel_rfl) (by kernel_rfl) (by kernel_rfl) (by kernel_rfl)
def IQ(cv:Value)(c:Int→Int):aW:=lj fun C=>zr (zm C c) [own vg cv C]
def dV(p hb rq:Nat)(ph:Int)(c:Int→Int)(Q L Fr G P:List Int):aW:=lj fun cv=>lj fun gv=>lj fun sv=>lj fun fv=>lj fun c'=>zr (ph=0∨c'=c) [aa p #[.pointer (some ⟨hb,0,none⟩),.pointer (some ⟨rq,0,none⟩),iw ph,cv,gv,sv,fv] 134,lY rq G P,IQ cv c',ownO an gv Q,ownO an sv L,ownO an fv Fr]
section
variable{Z:bK}{F:List aW}{H:bb}{p rq hb:Nat}{ph:Int}{c c':Int→Int}{Q L Fr G P:List Int}{C:List Mk}{cv:Value}
theorem Cj(h:Holds Z (IQ cv c::F) H):∃C,zm C c∧Holds Z (own vg cv C::F) H:=by
 obtain⟨C,h⟩:=h.open_ex;exact⟨C,h.open_st⟩
theorem jc(hc:zm C c)(h:Holds Z (own vg cv C::F) H):Holds Z (IQ cv c::F) H:=Holds.shut_ex C (Holds.shut_st hc h)
theorem dt(h:Holds Z (dV p hb rq ph c Q L Fr G P::F) H):∃cv gv sv fv c',(ph=0∨c'=c)∧Holds Z (aa p #[.pointer (some ⟨hb,0,none⟩),.pointer (some ⟨rq,0,none⟩),iw ph,cv,gv,sv,fv] 134::lY rq G P::IQ cv c'::ownO an gv Q::ownO an sv L::ownO an fv Fr::F) H:=by
 obtain⟨cv,h⟩:=h.open_ex;obtain⟨gv,h⟩:=h.open_ex;obtain⟨sv,h⟩:=h.open_ex;obtain⟨fv,h⟩:=h.open_ex;obtain⟨c',h⟩:=h.open_ex;exact⟨cv,gv,sv,fv,c',h.open_st⟩
theorem eH(hp:ph≠0)(h:Holds Z (dV p hb rq ph c Q L Fr G P::F) H):∃cv gv sv fv,True∧Holds Z (aa p #[.pointer (some ⟨hb,0,none⟩),.pointer (some ⟨rq,0,none⟩),iw ph,cv,gv,sv,fv] 134::lY rq G P::IQ cv c::ownO an gv Q::ownO an sv L::ownO an fv Fr::F) H:=by
 obtain⟨cv,gv,sv,fv,c',hc,h2⟩:=dt h;have e:=hc.resolve_left hp;rw[e]at h2;exact⟨cv,gv,sv,fv,trivial,h2⟩
theorem aS{gv sv fv:Value}(hc:ph=0∨c'=c)(h:Holds Z (aa p #[.pointer (some ⟨hb,0,none⟩),.pointer (some ⟨rq,0,none⟩),iw ph,cv,gv,sv,fv] 134::lY rq G P::IQ cv c'::ownO an gv Q::ownO an sv L::ownO an fv Fr::F) H):Holds Z (dV p hb rq ph c Q L Fr G P::F) H:=
 Holds.shut_ex cv (Holds.shut_ex gv (Holds.shut_ex sv (Holds.shut_ex fv (Holds.shut_ex c' (Holds.shut_st hc h)))))
end
abbrev eL(p hb rq:Nat)(s:dU):aW:=dV p hb rq s.ph s.col s.Q s.L s.Fr s.G s.P
theorem y3{x0 x1 x2 cv x4 x5 x6:Value}{C:List Mk}(hS:P8 C)(hl:C.length≤1000)(id:Int):SF Tryz.prog 155 #[pB p 0,iw id] Z (aa p #[x0,x1,x2,cv,x4,x5,x6] 134::own vg cv C::F) fun r Bs=>∃k:Nat,r=iw (k:Int)∧PlI C id k∧Bs=aa p #[x0,x1,x2,cv,x4,x5,x6] 134::own vg cv C::F:=by
 refine bO Tryz.func155 34 (fun w0=>?_);refine bn<|sP (iw 0)<|bH<|aE<|rK<|oN (pB p 0)<|sP (pB p 3)<|sL (aJ 0 cv)<|sF 1 (fun NI=>?_)
 refine sL (bL eO Tryz.underlying132 (.own 1))<|sP (iw 0)<|sP (iw (C.length:Int))<|a8 ?_
 refine dB (fun _ h=>by obtain⟨_,_,e⟩:=NI;subst e;kernel_rfl) ?_;refine ax<|aE<|cE ?_
 refine aD (ι:=Nat×Nat) (fun (lo,hi)=>K2 C id lo hi) (fun (lo,hi)=>[(0,pB p 0),(1,iw id),(5,iw (lo:Int)),(6,iw (hi:Int))]) (fun (lo,hi)=>aa p #[x0,x1,x2,cv,x4,x5,x6] 134::own vg cv C::F) (fun (lo,hi)=>hi-lo) (0,C.length) (K2.start C id) sA rA ?_;rintro⟨lo,hi⟩ cg;replace cg:K2 C id lo hi:=cg;show SK _ _ _ _ _ [(0,pB p 0),(1,iw id),(5,iw (lo:Int)),(6,iw (hi:Int))] _ (aa p #[x0,x1,x2,cv,x4,x5,x6] 134::own vg cv C::F);have h1:=cg.lh;have h2:=cg.le;refine gc ?_;refine b9 (fun p4=>?_) (fun my=>?_)
 .refine gy ?_;obtain⟨md5,aha⟩:∃m:Nat,m=(lo+hi) / 2:=⟨_,rfl⟩;refine sL (Lt.to (v':=iw (md5:Int)) (MT ((lo:Int)+(hi:Int)) 2 (by decide) (by rw[half];omega)) (by rw[half,←aha])) ?_;refine gy ?_;obtain⟨y7,wC⟩:∃y,C[md5]?=some y:=⟨_,List.getElem?_eq_getElem ol⟩;refine sL (cw 0 eO (.own 1) wC) ?_;refine gc ?_;refine b9 (fun gQ=>?_) (fun im=>?_)
  .refine gy ?_;exact xr (md5+1,hi) (cg.up hS om om wC gQ)
  refine go ?_;exact xr (lo,md5) (cg.down hS om om wC im)
 refine gz ?_;exact fg ⟨lo,rfl,cg.fin om,rfl⟩
theorem nv(ZG:ph≠0)(id:Int):NF 93 #[pB p 0,iw id] Z (dV p hb rq ph c Q L Fr G P::F) (iw (c id)):=by
 refine bx Tryz.func93 36 [(0,pB p 0),(1,iw id)] (fun w0=>?_);refine FP (fun H h=>eH ZG (h.re [0] [])) (fun uu zu vT mr hw=>?_);refine po (fun H h=>Cj (h.re [2] [])) (fun C5 K7=>?_);have hCl:=K7.len;refine bn<|sP (iw 0)<|pA<|sP (pB p 0)<|sP (iw id)<|aH [1,0] (y3 K7.srt K7.len id) ?_
 rintro _ _ ⟨k7,rfl,hp8,rfl⟩;have Fo:=hp8.le;refine sP (iw (k7:Int))<|bH<|aE<|bn<|sP (iw (k7:Int))<|oN (pB p 0)<|sP (pB p 3)<|sL (aJ 0 uu)<|sL (bL eO Tryz.underlying132 (.own 1))<|sL aT<|sP (.bool (decide ((k7:Int)<(C5.length:Int))))<|dW 16 (decide ((k7:Int)<(C5.length:Int))) (fun c9=>?_) (fun c9=>?_)
 .have gQ:=dY c9;refine oN (pB p 0)<|sP (pB p 3)<|sL (aJ 0 uu)<|sP (iw (k7:Int))<|sL (aF eO Tryz.underlying132 (.own 1) (k7:Int) k7 om ol om)<|sP (.pointer (some (elemAt vg.size uu k7))) ?_
  obtain⟨dp,jC⟩:∃y,C5[k7]?=some y:=⟨_,List.getElem?_eq_getElem ol⟩;refine sL (cw 0 eO (.own 1) jC)<|sP (iw id)<|sL aT<|sP (.bool (decide (dp.id=id)))<|bH<|bg (decide (dp.id=id)) (fun ux=>?_) (fun ux=>?_)
  .have iU:=dY ux;refine bn<|oN (pB p 0)<|sP (pB p 3)<|sL (aJ 0 uu)<|sP (iw (k7:Int))<|sL (aF eO Tryz.underlying132 (.own 1) (k7:Int) k7 om ol om)<|sP (.pointer (some ((elemAt vg.size uu k7).add 1)))<|sL (cw 1 eO (.own 1) jC)<|sP (iw dp.color)<|bH<|eM<|lD<|ab (fun _ h=>jc (c:=c) K7 (h.re [1] [])) ?_
   refine ab (fun _ h=>aS (c:=c) (.inr rfl) (h.re [1,1,0,0,0,0] [])) ?_;refine ad [iw dp.color] (dV p hb rq ph c Q L Fr G P::F) (SI.tmp 4 SI.nil) (rr [0] []) ⟨cI ?_,rfl⟩;exact (P9 K7 jC iU).symm
  have kO:=dF ux;refine go ?_;refine ab (fun _ h=>jc (c:=c) K7 (h.re [1] [])) ?_;refine ab (fun _ h=>aS (c:=c) (.inr rfl) (h.re [1,1,0,0,0,0] [])) ?_;refine ad _ _ (SI.tmp 4 SI.nil) (rr [0] []) ⟨cI ?_,rfl⟩;exact (w8 K7 hp8 (fun m hm=>by rw[jC]at hm;cases hm;exact kO)).symm
 have so:=dF c9;refine go ?_;refine ab (fun _ h=>jc (c:=c) K7 (h.re [1] [])) ?_;refine ab (fun _ h=>aS (c:=c) (.inr rfl) (h.re [1,1,0,0,0,0] [])) ?_;refine ad _ _ (SI.tmp 4 SI.nil) (rr [0] []) ⟨cI ?_,rfl⟩;exact (w8 K7 hp8 (fun m hm=>by rw[List.getElem?_eq_none om]at hm;cases hm)).symm
theorem qa(id v:Int)(hr:1≤id∧id≤1000):MF 153 #[pB p 0,iw id,iw v] Z (dV p hb rq ph c Q L Fr G P::F) (.tuple #[]) (dV p hb rq ph (dh c id v) Q L Fr G P::F):=by
 refine bO Tryz.func153 63 (fun w0=>?_);refine r9 (fun H h=>dt (rB h)) (fun uu zu vT mr sM hw=>?_);have kT:=hw;refine po (fun H h=>Cj (rB h)) (fun C7 hC8=>?_);have hCl:=hC8.len;refine gy ?_;refine aH [1,0] (y3 hC8.srt hC8.len id) ?_;rintro _ _ ⟨k9,rfl,Od,rfl⟩;have Fo:=Od.le;refine gy ?_;refine dW 18 (decide ((k9:Int)<(C7.length:Int))) (fun ff=>?_) (fun ff=>?_)
 .have my:=dY ff;refine gy ?_;obtain⟨fQ,oe⟩:∃y,C7[k9]?=some y:=⟨_,List.getElem?_eq_getElem ol⟩;refine sL (cw 0 eO (.own 1) oe)<|sP (iw id)<|sL aT<|sP (.bool (decide (fQ.id=id)))<|bH ?_
  refine bg (decide (fQ.id=id)) (fun CJ=>?_) (fun CJ=>?_)
  .have so:=dY CJ;refine gy ?_;refine dX 1 1 (⟨fQ.id,v⟩:Mk) eO oe ?_;refine gy ?_;refine ab (fun _ h=>jc (c:=(dh sM id v)) (Zy hC8 oe so v) (rB h)) ?_;refine ab (fun _ h=>aS (c:=(dh c id v)) (kT.imp (fun h=>h) (fun e=>congrArg (fun sM=>(dh sM id v)) e)) (rB h)) ?_;refine gz ?_;exact fg ⟨rfl,rfl⟩
  have mM:=dF CJ;refine gy ?_;refine ah (e:=200) [] #[] (fun g18=>?_) (hb:=by kernel_rfl);refine gy ?_;refine aC (fun _ h=>Holds.slice 0 h eO []) ?_;refine aq (L:=[]) 0 eO Tryz.underlying132 (Acc.pre (.own 2) eO k9 ol) (by show _*16≤_;(try simp only[cD]);omega) ol (fun v19=>?_);refine sF 0 (fun Y6=>?_);refine sP v19<|pA<|sP v19<|sP (iw id)<|sP (iw v)<|sL (ay (.agg #[iw id,iw v])) ?_
  refine ah (e:=200) [(0,.agg #[iw id,iw v])] #[iw id,iw v] (fun g21=>?_) (hb:=by kernel_rfl);refine aq (L:=([]++(C7.take k9))) 1 eO Tryz.underlying132 (.lit 0 eO [(⟨id,v⟩:Mk)]) (by show _*16≤_;(try simp only[cD]);omega) ol (fun v22=>?_);refine sF 1 (fun FY=>?_);refine gy ?_;refine aq (L:=(([]++(C7.take k9))++[(⟨id,v⟩:Mk)])) 1 eO Tryz.underlying132 (Acc.suf (v:=uu) (L:=C7) (.own 3) eO k9 ol) (by show _*16≤_;(try simp only[cD]);omega) ol (fun v24=>?_);refine sF 1 (fun mK=>?_);refine gy ?_;refine ab (fun _ h=>jc (c:=(dh sM id v)) (P' hr hC8 Od (fun m hm=>by rw[oe]at hm;cases hm;exact mM) v) (h.re [1] [])) ?_;refine ab (fun _ h=>aS (c:=(dh c id v)) (kT.imp (fun h=>h) (fun e=>congrArg (fun sM=>(dh sM id v)) e)) (rB h)) ?_;refine gz ?_;exact fg ⟨rfl,rfl⟩
 have oP:=dF ff;refine gy ?_;refine ah (e:=200) [] #[] (fun g27=>?_) (hb:=by kernel_rfl);refine gy ?_;refine aC (fun _ h=>Holds.slice 0 h eO []) ?_;refine aq (L:=[]) 0 eO Tryz.underlying132 (Acc.pre (.own 2) eO k9 ol) (by show _*16≤_;(try simp only[cD]);omega) ol (fun v28=>?_);refine sF 0 (fun MB=>?_);refine sP v28<|pA<|sP v28<|sP (iw id)<|sP (iw v)<|sL (ay (.agg #[iw id,iw v])) ?_
 refine ah (e:=200) [(0,.agg #[iw id,iw v])] #[iw id,iw v] (fun JT=>?_) (hb:=by kernel_rfl);refine aq (L:=([]++(C7.take k9))) 1 eO Tryz.underlying132 (.lit 0 eO [(⟨id,v⟩:Mk)]) (by show _*16≤_;(try simp only[cD]);omega) ol (fun v31=>?_);refine sF 1 (fun G7=>?_);refine gy ?_;refine aq (L:=(([]++(C7.take k9))++[(⟨id,v⟩:Mk)])) 1 eO Tryz.underlying132 (Acc.suf (v:=uu) (L:=C7) (.own 3) eO k9 ol) (by show _*16≤_;(try simp only[cD]);omega) ol (fun v33=>?_);refine sF 1 (fun rh=>?_);refine gy ?_;refine ab (fun _ h=>jc (c:=(dh sM id v)) (P' hr hC8 Od (fun m hm=>by rw[List.getElem?_eq_none om]at hm;cases hm) v) (h.re [1] [])) ?_;refine ab (fun _ h=>aS (c:=(dh c id v)) (kT.imp (fun h=>h) (fun e=>congrArg (fun sM=>(dh sM id v)) e)) (rB h)) ?_;refine gz ?_;exact fg ⟨rfl,rfl⟩
theorem qc{id:Int}(hl:st.objs.length≤1000)(h:aw st id=true):1≤id∧id≤1000:=by
 obtain⟨o,ho⟩:=jh.1 h;obtain⟨_,h2,h3,_⟩:=get_mem ho;omega
theorem nw(hQ:Q.length≤1000000)(hl:st.objs.length≤1000)(id:Int):MF 96 #[pB p 0,iw id] Z (dV p hb rq 1 c Q L Fr G P::bs hb st::F) (.tuple #[]) (dV p hb rq 1 (j6 st c id) (kR st c Q id) L Fr G P::bs hb st::F):=by
 refine bO Tryz.func96 29 (fun w0=>?_);refine gy ?_;refine dL (fun H h=>eH (show (1:Int)≠0 by decide) (rB h)) (fun uu zu vT mr hw=>?_);refine gy ?_;refine sC [6] (ju (st:=st) om id) ?_;refine gy ?_;refine dW 10 (aw st id) (fun c5=>?_) (fun c5=>?_)
 .refine gy ?_;refine aC (fun _ h=>aS (c:=c) (.inr rfl) (rB h)) ?_;refine sC [0] (nv (ph:=1) (show (1:Int)≠0 by decide) id) ?_;refine gy ?_;refine bg (decide ((c id)=0)) (fun c6=>?_) (fun c6=>?_)
  .have p7:=dY c6;refine gy ?_;refine sC [0] (qa id 1 (qc hl c5)) ?_;refine gy ?_;refine dL (fun H h=>eH (show (1:Int)≠0 by decide) (rB h)) (fun cv8 gv9 ako akp hw=>?_);refine gy ?_;refine ah (e:=3) [(0,iw id)] #[iw id] (fun g12=>?_) (hb:=by kernel_rfl);refine gX (L:=Q) 4 ak Tryz.underlying23 (.lit 0 ak [id]) (by show _*8≤_;(try simp only[cD]);omega) ol (fun CO=>?_);refine bl (fun H h=>((Acc.ownO (T:=an) (L:=(Q++[id])) 4 rfl) H h).form) (fun KN=>?_);refine gy ?_;refine ab (fun _ h=>aS (c:=(dh c id 1)) (.inr rfl) (rB h)) ?_;refine eN [] (dV p hb rq 1 (dh c id 1) (Q++[id]) L Fr G P::bs hb st::F) SI.nil rA ⟨rfl,?_⟩;unfold j6 kR;rw[if_pos ⟨c5,dY c6⟩,if_pos ⟨c5,dY c6⟩]
  have kO:=dF c6;refine gy ?_;refine eN [] (dV p hb rq 1 c Q L Fr G P::bs hb st::F) SI.nil rA ⟨rfl,?_⟩;unfold j6 kR;rw[if_neg (fun e=>dF c6 e.2),if_neg (fun e=>dF c6 e.2)]
 refine gy ?_;refine ab (fun _ h=>aS (c:=c) (.inr rfl) (rB h)) ?_;refine eN [] (dV p hb rq 1 c Q L Fr G P::bs hb st::F) SI.nil rA ⟨rfl,?_⟩;unfold j6 kR;rw[if_neg (fun e=>by rw[c5]at e;exact absurd e.1 (by decide)),if_neg (fun e=>by rw[c5]at e;exact absurd e.1 (by decide))]
theorem ER(hR:R.length≤10000)(hG:G.length+P.length≤10000)(hQ:Q.length≤100000)(hl:st.objs.length≤1000):MF 86 #[pB p 0,rv] Z (own an rv R::dV p hb rq 1 c Q L Fr G P::bs hb st::F) (.tuple #[]) (own an rv R::dV p hb rq 1 ((rchA st (c,Q) (R++(G++P))).1) ((rchA st (c,Q) (R++(G++P))).2) L Fr G P::bs hb st::F):=by
 refine bO Tryz.func86 42 (fun w0=>?_);refine aE<|bn<|sP (iw 0)<|bH<|cE<|aK (Bs:=own an rv R::dV p hb rq 1 ((rchA st (c,Q) (R.take 0)).1) ((rchA st (c,Q) (R.take 0)).2) L Fr G P::bs hb st::F) (fun _ h=>h) ?_
 refine Q6 0 (fun i=>i≤R.length) (fun i=>[(4,iw (i:Int))]) (fun i=>[(1,dV p hb rq 1 ((rchA st (c,Q) (R.take i)).1) ((rchA st (c,Q) (R.take i)).2) L Fr G P)]) (fun i=>R.length-i) (Nat.zero_le _) ?_;intro i cQ;have CT:=lO st (R.take i) (c,Q);rw[List.length_take]at CT;dsimp only at CT;refine aE<|bn<|sP (iw (i:Int))<|sP rv<|sL (bL ak Tryz.underlying23 (.own 0))<|sL aT<|bH<|b9 (fun p3=>?_) (fun p6=>?_)
 .refine eT<|aE<|cE<|bd<|sP (pB p 0)<|sP rv<|sP (iw (i:Int))<|sL (aF ak Tryz.underlying23 (.own 0) (i:Int) i om ol om) ?_
  obtain⟨y4,mN⟩:∃y,R[i]?=some y:=⟨_,List.getElem?_eq_getElem ol⟩;refine sL (bC ak (.own 0) mN)<|sC [1,1] (nw (st:=st) (Q:=(rchA st (c,Q) (R.take i)).2) om om y4) ?_
  refine a8<|eU<|ax<|bd<|sP (iw (i:Int))<|sL (bX (i:Int) 1 ol)<|sP (iw ((i:Int)+1))<|a8<|ab (Bs:=dV p hb rq 1 ((rchA st (c,Q) (R.take (i+1))).1) ((rchA st (c,Q) (R.take (i+1))).2) L Fr G P::bs hb st::own an rv R::F) (fun _ h=>by rw[lu mN];exact h) ?_
  exact xr (i+1) om
 refine cW ?_;obtain rfl:i=R.length:=by omega
 rw[List.take_length];refine cM<|cM<|gL<|ax<|aE<|FP (fun H h=>eH (show (1:Int)≠0 by decide) (rB h)) (fun cv7 gv8 sv9 ZH hw=>?_)
 refine br [aa p #[pB hb 0,pB rq 0,iw 1,cv7,gv8,sv9,ZH] 134,own an rv R] ?_;refine fq 0 [0,5] (pB p 0) ?_;refine fq 1 [0,5] (pB p 0) ?_;refine fq 2 [0,5] (pB p 1) ?_;refine fK 3 rfl [0,5] (fun _=>(aJ 0 (pB rq 0))) ?_;refine fq 5 [0,5] (pB p 0) ?_;refine fq 6 [0,5] (pB p 0) ?_;refine fq 7 [0,5] (pB p 1) ?_;refine fK 8 rfl [0,5] (fun _=>(aJ 0 (pB rq 0))) ?_;refine ag 4 ?_;refine aH [1] (rD (reg:=G) ol) ?_;rintro v11 _ rfl;skip;refine nH [2,6]<|ag 9 ?_
 refine aH [1] (sj (pend:=P) ol) ?_;rintro CO _ rfl;skip;refine nH [3,7]<|ag 10 ?_
 refine aq (L:=G) 2 ak Tryz.underlying23 (.own 0) (by show _*8≤_;(try simp only[cD]);omega) ol (fun m0=>?_);skip;refine nH [3,7]<|fq 11 [3,7] m0 ?_
 refine aI ?_;refine ax<|bn<|sP (iw 0)<|bH<|cE<|aK (fun _ h=>aS (c:=(rchA st (c,Q) R).1) (.inr rfl) (rB h)) ?_
 have hq0:=lO st R (c,Q);dsimp only at hq0;have hgl:(G++P).length=G.length+P.length:=List.length_append;refine aK (Bs:=dV p hb rq 1 ((rchA st (rchA st (c,Q) R) ((G++P).take 0)).1) ((rchA st (rchA st (c,Q) R) ((G++P).take 0)).2) L Fr G P::own an CO P::own an m0 (G++P)::own an rv R::bs hb st::F) (fun _ h=>h) ?_;refine Q6 0 (fun j=>j≤(G++P).length) (fun j=>[(6,iw (j:Int))]) (fun j=>[(0,dV p hb rq 1 ((rchA st (rchA st (c,Q) R) ((G++P).take j)).1) ((rchA st (rchA st (c,Q) R) ((G++P).take j)).2) L Fr G P)]) (fun j=>(G++P).length-j) (Nat.zero_le _) ?_;intro j td;have CT:=lO st ((G++P).take j) (rchA st (c,Q) R);rw[List.length_take]at CT;refine aE<|bn<|sP (iw (j:Int))<|sP m0<|sL (bL ak Tryz.underlying23 (.own 2))<|sL aT<|bH<|b9 (fun lp=>?_) (fun nQ=>?_)
 .refine eT<|aE<|cE<|bd<|sP (pB p 0)<|sP m0<|sP (iw (j:Int))<|sL (aF ak Tryz.underlying23 (.own 2) (j:Int) j om ol om) ?_
  obtain⟨KX,u1⟩:∃y,(G++P)[j]?=some y:=⟨_,List.getElem?_eq_getElem ol⟩;refine sL (bC ak (.own 2) u1)<|sC [0,3] (nw (st:=st) (Q:=(rchA st (rchA st (c,Q) R) ((G++P).take j)).2) om om KX) ?_
  refine a8<|eU<|ax<|bd<|sP (iw (j:Int))<|sL (bX (j:Int) 1 ol)<|sP (iw ((j:Int)+1))<|a8<|ab (Bs:=dV p hb rq 1 ((rchA st (rchA st (c,Q) R) ((G++P).take (j+1))).1) ((rchA st (rchA st (c,Q) R) ((G++P).take (j+1))).2) L Fr G P::bs hb st::own an CO P::own an m0 (G++P)::own an rv R::F) (fun _ h=>by rw[lu u1];exact h) ?_
  exact xr (j+1) om
 refine cW ?_;obtain rfl:j=(G++P).length:=by omega
 rw[List.take_length];refine cM<|cM<|gL ?_
 have ahb:rchA st (c,Q) (R++(G++P))=rchA st (rchA st (c,Q) R) (G++P):=by unfold rchA;rw[List.foldl_append]
 rw[ahb];refine gz ?_;exact fg ⟨rfl,rfl⟩
theorem Qe(ca:jv n st)(hn:n≤300)(hW:HW st):SF Tryz.prog 152 #[pB p 0,iw x] Z (dV p hb rq ph c Q L Fr G P::bs hb st::F) fun r Bs=>Bs=own an r (eJ st x)::dV p hb rq ph c Q L Fr G P::bs hb st::F:=by
 refine bO Tryz.func152 18 (fun w0=>?_);refine gy ?_;refine cC (fun H h=>dt (rB h)) (fun uu zu vT mr sM hw=>?_);have kT:=hw;refine go ?_;refine aH [6] (j9 (st:=st) ca om hW x 0) ?_;rintro _ _ ⟨TS,Rs,rfl,rfl⟩;refine sF 0 (fun mw=>?_);refine sF 1 (fun kK=>?_);refine go ?_;refine ae (.agg #[iw 0,iw 0,iw 0,nS,nS]) #[iw 0,iw 0,iw 0,nS,nS] (fun g11=>?_);refine ar (u:=.agg #[iw (cR st x),iw (cT st x),iw (cG st x 0),TS,Rs]) (m:=5) 0 #[iw (cR st x),iw (cT st x),iw (cG st x 0),TS,Rs] ?_ (hm:=by (obtain⟨_,_,e⟩:=mw;rw[e];obtain⟨_,_,e⟩:=kK;rw[e];rfl)) (h1:=by (obtain⟨_,_,e⟩:=mw;rw[e];obtain⟨_,_,e⟩:=kK;rw[e];rfl)) (ha':=by (obtain⟨_,_,e⟩:=mw;rw[e];obtain⟨_,_,e⟩:=kK;rw[e];rfl));refine go ?_;obtain⟨ZI,ZJ,e⟩:=mw;subst e;obtain⟨ZK,ZM,e⟩:=kK;subst e;obtain⟨hrl,VX,nF⟩:=hJ ca hn x;refine a6 (fun _ h=>B3 (x:=(⟨(cR st x),(cT st x),(cG st x 0),⟨ZI,(hrefs st x).length,ZJ⟩,⟨ZK,(aY st x).length,ZM⟩,(hrefs st x),(aY st x)⟩:Ob)) ⟨Acc.kn (T:=an) (.own 1) h,Acc.kn (T:=cq) (.own 2) h⟩ (by show ((hrefs st x)).length≤_;omega) (by show ((aY st x)).length≤_;omega)) ?_;rintro Pg _ rfl;refine aC (Bs:=own an Pg (eJ st x)::aa g11 #[iw (cR st x),iw (cT st x),iw (cG st x 0),(.slice ZI (hrefs st x).length ZJ),(.slice ZK (aY st x).length ZM)] 100::own an (.slice ZI (hrefs st x).length ZJ) (hrefs st x)::own cq (.slice ZK (aY st x).length ZM) (aY st x)::bs hb st::aa p #[pB hb 0,pB rq 0,iw ph,uu,zu,vT,mr] 134::lY rq G P::IQ uu sM::ownO an zu Q::ownO an vT L::ownO an mr Fr::F) (fun _ h=>h) ?_;refine sF 0 (fun zD=>?_);refine gy ?_;refine ab (fun _ h=>aS (c:=c) kT (rB h)) ?_;exact ad _ _ (SI.tmp 4 SI.nil) (rr [1,0,3] [3,3,3]) rfl
theorem drop_cons(h:reg[k-1]?=some y)(hk:0<k):reg.drop (k-1)=y::reg.drop k:=by
 obtain⟨hi,e⟩:=List.getElem?_eq_some_iff.1 h;have h1:reg.drop (k-1)=reg[k-1]::reg.drop (k-1+1):=List.drop_eq_getElem_cons hi;rw[h1,e,show k-1+1=k by omega]
theorem Qf(h:reg[k-1]?=some y)(hk:0<k)(hy:y∉A):(fV A (reg.drop k)).reverse++[y]=(fV A (reg.drop (k-1))).reverse:=by
 rw[drop_cons h hk];simp[fV,hy]
theorem Uu(h:reg[k-1]?=some y)(hk:0<k)(hy:y∈A):(fV A (reg.drop k)).reverse=(fV A (reg.drop (k-1))).reverse:=by
 rw[drop_cons h hk];simp[fV,hy]
theorem K8(h:L[i]?=some y)(hp:y∈A):b' A (L.take i)++[y]=b' A (L.take (i+1)):=(EA h hp).1
theorem Qg(h:L[i]?=some y)(hp:y∉A):b' A (L.take i)=b' A (L.take (i+1)):=(ID h hp).1
theorem Uv(hA:Kn Z an av A)(hr:reg.length≤100000)(hp:pend.length≤100000):SF Tryz.prog 158 #[pB b 0,av] Z (lY b reg pend::F) fun r Bs=>Bs=lY b (b' A reg) (pend++fU A reg)::own an r (fU A reg)::F:=by
 refine bO Tryz.func158 86 (fun w0=>?_);refine bk (fun H h=>(hA.get h).len_le) (fun lA=>?_);refine gy ?_;refine ah (e:=3) [] #[] (fun g1=>?_) (hb:=by kernel_rfl);refine gy ?_;refine ah (e:=3) [] #[] (fun g2=>?_) (hb:=by kernel_rfl);refine gy ?_;refine aK (fun _ h=>Holds.slice 0 h ak []) ?_;refine aK (Bs:=own an (.slice (some ⟨g2,0,none⟩) 0 0) (b' A (reg.take 0))::aa g1 #[] 3::lY b reg pend::F) (fun _ h=>h) ?_;refine aD (ι:=Value×Nat) (fun (sx,i)=>i≤reg.length) (fun (sx,i)=>[(0,pB b 0),(1,av),(4,nS),(5,(.slice (some ⟨g1,0,none⟩) 0 0)),(6,sx),(7,iw (i:Int))]) (fun (sx,i)=>own an sx (b' A (reg.take i))::aa g1 #[] 3::lY b reg pend::F) (fun (sx,i)=>reg.length-i) ((.slice (some ⟨g2,0,none⟩) 0 0),0) (Nat.zero_le _) sA rA ?_;rintro⟨sx,i⟩ gE;replace gE:i≤reg.length:=gE;show SK _ _ _ _ _ [(0,pB b 0),(1,av),(4,nS),(5,(.slice (some ⟨g1,0,none⟩) 0 0)),(6,sx),(7,iw (i:Int))] _ (own an sx (b' A (reg.take i))::aa g1 #[] 3::lY b reg pend::F);have GR:=tR A (reg.take i);rw[List.length_take]at GR;refine gy ?_;refine cF (fun H h=>mj (rB h)) (fun rq4 pq5 hw=>?_);refine gy ?_;refine bg (decide ((i:Int)<(reg.length:Int))) (fun c6=>?_) (fun c6=>?_)
 .have p7:=dY c6;obtain⟨y8,oH⟩:∃y,reg[i]?=some y:=⟨_,List.getElem?_eq_getElem ol⟩;refine gy ?_;refine sV (fun _ h=>Bh (L:=A) (Acc.kn (.zn hA) h) y8) ?_;refine gy ?_;refine bg (decide (y8∈A)) (fun l4=>?_) (fun l4=>?_)
  .have im:=dY l4;refine gy ?_;refine ah (e:=3) [(0,iw y8)] #[iw y8] (fun g12=>?_) (hb:=by kernel_rfl);refine aq (L:=(b' A (reg.take i))) 4 ak Tryz.underlying23 (.lit 0 ak [y8]) (by show _*8≤_;(try simp only[cD]);omega) ol (fun CO=>?_);refine sF 4 (fun KN=>?_);refine gy ?_;refine ab (fun _ h=>fR (rB h)) ?_;rw[K8 (A:=A) oH im];exact xr (CO,i+1) (by show i+1≤reg.length;omega)
  have kO:=dF l4;refine gy ?_;refine ab (fun _ h=>fR (rB h)) ?_;rw[Qg (A:=A) oH kO];exact xr (sx,i+1) (by show i+1≤reg.length;omega)
 have so:=dF c6;refine cW ?_;obtain rfl:i=reg.length:=by omega
 rw[List.take_length];have hs3:=tR A reg;refine gy ?_;have hz0:(fV A (reg.drop reg.length)).reverse=[]:=by rw[List.drop_length];rfl
 refine aK (fun _ h=>Holds.slice 4 h ak []) ?_;refine aK (Bs:=aa b #[rq4,pq5] 196::own an rq4 reg::own an pq5 pend::own an sx (b' A reg)::own an (.slice (some ⟨g1,0,none⟩) 0 0) ((fV A (reg.drop reg.length)).reverse)::F) (fun _ h=>by rw[hz0];exact h) ?_;refine aK (fun _ h=>fR (rB h)) ?_;refine aD (ι:=Value×Nat) (fun (ox,k)=>k≤reg.length) (fun (ox,k)=>[(0,pB b 0),(1,av),(4,nS),(5,ox),(6,sx),(8,iw ((k:Int)-1))]) (fun (ox,k)=>lY b reg pend::own an sx (b' A reg)::own an ox ((fV A (reg.drop k)).reverse)::F) (fun (ox,k)=>k) ((.slice (some ⟨g1,0,none⟩) 0 0),reg.length) (Nat.le_refl _) sA rA ?_;rintro⟨ox,k⟩ td;replace td:k≤reg.length:=td;show SK _ _ _ _ _ [(0,pB b 0),(1,av),(4,nS),(5,ox),(6,sx),(8,iw ((k:Int)-1))] _ (lY b reg pend::own an sx (b' A reg)::own an ox ((fV A (reg.drop k)).reverse)::F);have GR:=tS A (reg.drop k);rw[List.length_drop]at GR;refine gy ?_;refine bg (decide ((0:Int)≤((k:Int)-1))) (fun wE=>?_) (fun wE=>?_)
 .have lp:=dY wE;refine gy ?_;refine cF (fun H h=>mj (rB h)) (fun adh akq hw=>?_);refine sL (aJ 0 adh)<|sL (ai (iw ((k:Int)-1)))<|sL (aF ak Tryz.underlying23 (.own 1) ((k:Int)-1) (k-1) om ol om) ?_
  obtain⟨Zd,KU⟩:∃y,reg[(k-1)]?=some y:=⟨_,List.getElem?_eq_getElem ol⟩;refine gy ?_;refine sV (fun _ h=>Bh (L:=A) (Acc.kn (.zn hA) h) Zd) ?_;refine gy ?_;refine bg (!(decide (Zd∈A))) (fun BU=>?_) (fun BU=>?_)
  .have xI:=cO BU;have oP:=dF xI;refine bd<|sL (ai ox)<|sL (ai (pB b 0))<|sL (ai (pB b 0))<|sL (ai (pB b 0))<|sL (aJ 0 adh)<|sL (ai (iw ((k:Int)-1)))<|sL (aF ak Tryz.underlying23 (.own 1) ((k:Int)-1) (k-1) om ol om) ?_
   refine gy ?_;refine ah (e:=3) [(0,iw Zd)] #[iw Zd] (fun g27=>?_) (hb:=by kernel_rfl);refine aq (L:=(fV A (reg.drop k)).reverse) 5 ak Tryz.underlying23 (.lit 0 ak [Zd]) (by show _*8≤_;(try simp only[cD]);omega) ol (fun v28=>?_);refine sF 5 (fun MB=>?_);refine sL (ai v28)<|a8<|eU<|ax<|bd<|sL (ai (iw ((k:Int)-1))) ?_
   refine sL (Lt.to (v':=iw (((k-1:Nat):Int)-1)) (fX ((k:Int)-1) 1 om) (cI om)) ?_;refine gy ?_;refine ab (fun _ h=>fR (rB h)) ?_;rw[Qf (A:=A) KU om oP];exact xr (v28,k-1) (by show k-1≤reg.length;omega)
  have SB:=cu BU;have vA:=dY SB;refine jB<|eU<|ax<|bd<|sL (ai (iw ((k:Int)-1))) ?_
  refine sL (Lt.to (v':=iw (((k-1:Nat):Int)-1)) (fX ((k:Int)-1) 1 om) (cI om)) ?_;refine gy ?_;refine ab (fun _ h=>fR (rB h)) ?_;rw[Uu (A:=A) KU om vA];exact xr (ox,k-1) (by show k-1≤reg.length;omega)
 have uI:=dF wE;refine cW ?_;obtain rfl:k=0:=by omega
 rw[show (fV A (reg.drop 0)).reverse=fU A reg from rfl];have hs5:=Ce A reg;refine gy ?_;refine cF (fun H h=>mj (rB h)) (fun akr aks hw=>?_);refine sF 3 (fun ahc=>?_);refine gy ?_;refine aq (L:=pend) 2 ak Tryz.underlying23 (.own 4) (by show _*8≤_;(try simp only[cD]);omega) ol (fun v36=>?_);refine sF 2 (fun yk=>?_);refine gy ?_;refine ab (fun _ h=>fR (rB h)) ?_;exact ad [ox] (lY b (b' A reg) (pend++fU A reg)::own an ox (fU A reg)::F) (SI.tmp 4 SI.nil) (rr [0,1] [2]) rfl
theorem R3(hp:pend.length≤1000000):MF 103 #[pB b 0] Z (lY b reg pend::F) (.tuple #[iw (sN pend),.bool (sO pend)]) (lY b reg pend.tail::F):=by
 refine bO Tryz.func103 32 (fun w0=>?_);refine gy ?_;refine cF (fun H h=>mj (rB h)) (fun GM Iu hw=>?_);refine gy ?_;refine bg (decide ((pend.length:Int)=0)) (fun c3=>?_) (fun c3=>?_)
 .have p4:=dY c3;refine gy ?_;refine ab (fun _ h=>fR (rB h)) ?_;obtain rfl:pend=[]:=List.eq_nil_of_length_eq_zero om;refine gz ?_;exact fg ⟨rfl,rfl⟩
 have p5:=dF c3;obtain⟨y6,s9⟩:∃y,pend[0]?=some y:=⟨_,List.getElem?_eq_getElem ol⟩;refine gy ?_;refine ah (e:=3) [] #[] (fun g8=>?_) (hb:=by kernel_rfl);refine gy ?_;refine aC (fun _ h=>Holds.slice 0 h ak []) ?_;refine aq (L:=[]) 0 ak Tryz.underlying23 (Acc.suf (v:=Iu) (L:=pend) (.own 3) ak 1 ol) (by show _*8≤_;(try simp only[cD]);omega) ol (fun v9=>?_);rw[List.nil_append];refine sF 0 (fun kK=>?_);refine gy ?_;refine ab (fun _ h=>fR (rB h)) ?_;have hn:sN pend=y6∧sO pend=true∧pend.drop 1=pend.tail:=A5 s9;rw[hn.1,hn.2.1,←hn.2.2];refine gz ?_;exact fg ⟨rfl,rfl⟩
theorem Uw{L:List Ob}(h:Holds Z (own dT ov L::own an rr R::iD Z (dD L)::As) H):Holds Z (iD Z (eP ov rr L R)::As) H:=by
 have h1:Holds Z (own an rr R::iD Z (dD L)::own dT ov L::As) H:=h.re [1,1] [];have h3:Holds Z (own dT ov L::iD Z (fun H=>Sl H an rr R∧dD L H)::As) H:=(h1.zfrO).re [1] [];exact h3.zfrO.zfrM fun H _ ⟨a,b,c⟩=>⟨a,b,c⟩
theorem Qh{o2 r2:Value}{N:List Ob}{R2:List Int}(hN:∀x∈N,x∈l2)(h:Holds Z (own dT ov N::own an rr R::frz (eP o2 r2 l2 R2)::As) H):Holds Z (frz (eP ov rr N R)::As) H:=by
 have h1:Holds Z (own an rr R::frz (eP o2 r2 l2 R2)::own dT ov N::As) H:=h.re [1,1] [];have h3:Holds Z (own dT ov N::frz (fun H=>Sl H an rr R∧eP o2 r2 l2 R2 H)::As) H:=(h1.frzO).re [1] [];exact h3.frzO.frzM fun H ⟨a,b,c⟩=>⟨a,b,fun x hx=>c.2.2 x (hN x hx)⟩
def tX(l:List Ob)(P:List Int):List Int:=P.filter fun x=>decide (x∈l.map Ob.id)
theorem Ux(h:P[i]?=some y)(hy:y∈l.map Ob.id):tX l (P.take i)++[y]=tX l (P.take (i+1)):=by
 unfold tX;rw[←bA h,List.filter_append];simp at hy;simp[hy]
theorem ZN(h:P[i]?=some y)(hy:y∉l.map Ob.id):tX l (P.take i)=tX l (P.take (i+1)):=by
 unfold tX;rw[←bA h,List.filter_append];simp at hy;simp;exact hy
theorem IS(l:List Ob)(P:List Int):(tX l P).length≤P.length:=List.length_filter_le _ _
theorem ZO(h:Is l x):x∈l.map Ob.id:=by
 obtain⟨o,ho⟩:=Option.isSome_iff_exists.1 h;obtain⟨h1,h2⟩:=j2 ho;exact List.mem_map.2 ⟨o,h2,h1⟩
theorem ES(h:l1.map Ob.c=l.map (sq A)):l1.map Ob.id=l.map Ob.id:=by
 have:=congrArg (List.map fun q:Core=>q.1) h;rw[List.map_map,List.map_map]at this;exact this
theorem K9(h:l1.map Ob.c=l.map (sq A)):aM l1 (R++tX l P)=aM l1 (R++P):=by
 refine EF (fun r hr hi=>?_) (fun r hr hi=>?_)
 .rcases List.mem_append.1 hr with hr|hr
  .exact List.mem_append_left _ hr
  exact List.mem_append_right _ (List.mem_filter.1 hr).1
 rcases List.mem_append.1 hr with hr|hr
 .exact List.mem_append_left _ hr
 refine List.mem_append_right _ (List.mem_filter.2 ⟨hr,decide_eq_true ?_⟩);rw[←ES h];exact ZO hi
theorem Qi{B:List Int}(h1:l1.map Ob.c=l.map (sq A))(h2:l2.map Ob.c=l1.map (GW B)):lV B (l2.map Ob.c)=(l.map Ob.id).filter fun x=>!decide (x∈B):=by
 have e:l2.map Ob.id=l.map Ob.id:=by
  rw[←ES h1];have:=congrArg (List.map fun q:Core=>q.1) h2;rw[List.map_map,List.map_map]at this;exact this
 unfold lV;rw[←e,List.filter_map,List.filter_map,List.map_map];rfl
theorem Uy(hg:oO Z ov rv l R)(id:Int):NF 160 #[.agg #[ov,rv],iw id] Z [] (.bool (decide (id∈l.map Ob.id))):=by
 refine bO Tryz.func160 21 (fun w0=>?_);refine bk (fun H h=>(hg.obs.get h).len_le) (fun lA=>?_);refine gA fun g1=>?_
 refine aD (ι:=Nat) (fun i=>i≤l.length∧∀o∈l.take i,o.id≠id) (fun i=>[(1,iw id),(2,pB g1 0),(4,.bool false),(5,iw (i:Int))]) (fun i=>[aa g1 #[ov,rv] 57]) (fun i=>l.length-i) 0 ⟨Nat.zero_le _,by simp⟩ sA rA ?_;rintro i cg;show SK _ _ _ _ _ [(1,iw id),(2,pB g1 0),(4,.bool false),(5,iw (i:Int))] _ [aa g1 #[ov,rv] 57];refine fk (fun p4=>?_) (fun im=>?_)
 .refine gy ?_;obtain⟨y5,kJ⟩:∃y,l[i]?=some y:=⟨_,List.getElem?_eq_getElem ol⟩;have YV:=hg.each y5 (List.mem_of_getElem? kJ);refine fk (fun p9=>?_) (fun gQ=>?_)
  .refine gy ?_;refine ad _ _ (SI.tmp 4 SI.nil) rA ⟨cB ?_,rfl⟩;exact (decide_eq_true (List.mem_map.2 ⟨y5,List.mem_of_getElem? kJ,p9⟩)).symm
  refine gy ?_;exact xr (i+1) (by obtain⟨cQ,cg⟩:=cg;refine⟨by omega,fun o ho=>?_⟩;rw[←bA kJ]at ho;rcases List.mem_append.1 ho with ho|ho;exact cg o ho;simp at ho;subst ho;exact gQ)
 refine gy ?_;refine ad _ _ (SI.tmp 4 SI.nil) rA ⟨cB ?_,rfl⟩;exact (decide_eq_false fun h=>by obtain⟨o,ho,e⟩:=List.mem_map.1 h;exact cg.2 o (by rw[List.take_of_length_le om];exact ho) e).symm
theorem G9(hg:oO Z ov rv l R)(hl:l.length≤100000)(hr:R.length≤100000)(ca:∀o∈l,o.refs.length≤400∧o.ents.length≤100000):SF Tryz.prog 159 #[.agg #[ov,rv],av] Z (own an av A::F) fun r Bs=>∃rb rv' l',r=.agg #[rb,rv']∧l'.map Ob.c=l.map (sq A)∧Bs=iD Z (eP rb rv' l' R)::own an av A::F:=by
 refine bx Tryz.func159 83 [(0,.agg #[ov,rv]),(1,av)] (fun w0=>?_);refine gy ?_;refine bj #[ov,rv] (fun g1=>?_);refine ae (.agg #[nS,nS]) #[nS,nS] (fun g2=>?_);refine gy ?_;refine ah (e:=3) [] #[] (fun g3=>?_) (hb:=by kernel_rfl);refine gy ?_;refine aC (fun _ h=>Holds.slice 0 h ak []) ?_;refine aq (L:=[]) 0 ak Tryz.underlying23 (.zn hg.roots) (by show _*8≤_;(try simp only[cD]);omega) ol (fun v4=>?_);rw[List.nil_append];refine sF 0 (fun rS=>?_);refine sL (show Lt _ _ _ _ _ (.agg #[nS,v4]) from by obtain⟨_,_,e⟩:=rS;rw[e];clear e;exact ay _)<|ae (.agg #[nS,nS]) #[nS,nS] (fun g6=>?_)
 refine ar (u:=.agg #[nS,v4]) (m:=2) 0 #[nS,v4] ?_ (hm:=by (obtain⟨_,_,e0⟩:=rS;rw[e0];rfl)) (h1:=by (obtain⟨_,_,e0⟩:=rS;rw[e0];rfl)) (ha':=by (obtain⟨_,_,e0⟩:=rS;rw[e0];rfl));refine a8<|ax<|aE<|aE<|bd<|sL (ai (iw 0))<|a8<|ax<|cE ?_
 refine aK (fun _ h=>Holds.nilS (T:=dT) (EB h)) ?_;refine aD (ι:=Value×List Ob×Nat) (fun (ox,N,j)=>j≤l.length∧N.map Ob.c=(l.take j).map (sq A)) (fun (ox,N,j)=>[(1,av),(2,pB g1 0),(4,pB g2 0),(5,pB g6 0),(6,iw (j:Int))]) (fun (ox,N,j)=>own dT ox N::iD Z (dD N)::aa g6 #[ox,v4] 57::own an v4 R::aa g2 #[nS,nS] 57::aa g1 #[ov,rv] 57::own an av A::F) (fun (ox,N,j)=>l.length-j) (nS,[],0) ⟨Nat.zero_le _,rfl⟩ sA (rr [0,0,0,0,0,0,0] []) ?_;rintro⟨ox,N,j⟩ wM;replace wM:j≤l.length∧N.map Ob.c=(l.take j).map (sq A):=wM;show SK _ _ _ _ _ [(1,av),(2,pB g1 0),(4,pB g2 0),(5,pB g6 0),(6,iw (j:Int))] _ (own dT ox N::iD Z (dD N)::aa g6 #[ox,v4] 57::own an v4 R::aa g2 #[nS,nS] 57::aa g1 #[ov,rv] 57::own an av A::F);have Bd:N.length=j:=by have:=congrArg List.length wM.2;simp only[List.length_map,List.length_take]at this;omega
 refine gy ?_;refine bg (decide ((j:Int)<(l.length:Int))) (fun c8=>?_) (fun c8=>?_)
 .have p9:=dY c8;refine gy ?_;obtain⟨bB,nm⟩:∃y,l[j]?=some y:=⟨_,List.getElem?_eq_getElem ol⟩;have Kw:=hg.each bB (List.mem_of_getElem? nm);have LB:=ca bB (List.mem_of_getElem? nm);refine gy ?_;refine ae (.agg #[iw 0,iw 0,iw 0,nS,nS]) #[iw 0,iw 0,iw 0,nS,nS] (fun g13=>?_);refine ar 0 #[iw bB.id,iw bB.size,iw bB.weak,bB.rv.v,bB.ev.v] ?_;refine a8<|ax<|aE<|b6 (ι:=Unit) (fun _=>True) (fun _=>[(1,av),(2,pB g1 0),(4,pB g2 0),(5,pB g6 0),(6,iw (j:Int)),(7,pB g13 0),(15,iw (j:Int)),(16,pB g1 0),(17,ov),(18,iw (l.length:Int)),(19,.bool (decide ((j:Int)<(l.length:Int)))),(22,pB g1 0),(23,ov),(24,iw (j:Int)),(25,.pointer (some (elemAt dT.size ov j))),(26,.agg #[iw bB.id,iw bB.size,iw bB.weak,bB.rv.v,bB.ev.v]),(27,av),(28,pB g13 0),(29,iw bB.id),(30,.bool (decide (bB.id∈A))),(31,.bool (decide (bB.id∈A))),(40,.bool ((decide (bB.id∈A))&&((decide (bB.weak=2))||(decide (bB.weak=3)))))]) (fun _=>aa g13 #[iw bB.id,iw bB.size,iw bB.weak,bB.rv.v,bB.ev.v] 100::own dT ox N::iD Z (dD N)::aa g6 #[ox,v4] 57::own an v4 R::aa g2 #[nS,nS] 57::aa g1 #[ov,rv] 57::own an av A::F) ?_ (fun _ _=>?_)
  .refine gV ?_ (c:=fun _ h=>Bh (L:=A) (Acc.kn (.own 7) h) bB.id);refine dW 31 (decide (bB.id∈A)) (fun kj=>?_) (fun kj=>?_)
   .have kO:=dY kj;refine gy ?_;refine dW 35 (decide (bB.weak=2)) (fun vV=>?_) (fun vV=>?_)
    .have mM:=dY vV;refine gy ?_;exact xC
    have jW:=dF vV;refine gy ?_;exact xC
   have lp:=dF kj;refine gy ?_;exact xC
  refine bg ((decide (bB.id∈A))&&((decide (bB.weak=2))||(decide (bB.weak=3)))) (fun oD=>?_) (fun oD=>?_)
  .obtain ⟨Mx,Vp⟩:=kk oD;have zA:=dY Mx;have kU:=Vp;simp only[Bool.and_eq_true,Bool.or_eq_true,Bool.and_eq_false_iff,Bool.or_eq_false_iff,Bool.not_eq_true',Bool.not_eq_false',decide_eq_true_eq,decide_eq_false_iff_not]at kU;refine gy ?_;refine ah (e:=167) [] #[] (fun DQ=>?_) (hb:=by kernel_rfl);refine gy ?_;refine aK (fun _ h=>Holds.slice 0 h dy []) ?_;refine aK (Bs:=own cq (.slice (some ⟨DQ,0,none⟩) 0 0) ((bB.ents.take 0).filter (fC A))::aa g13 #[iw bB.id,iw bB.size,iw bB.weak,bB.rv.v,bB.ev.v] 100::own dT ox N::iD Z (dD N)::aa g6 #[ox,v4] 57::own an v4 R::aa g2 #[nS,nS] 57::aa g1 #[ov,rv] 57::own an av A::F) (fun _ h=>h) ?_;refine aD (ι:=Value×Nat) (fun (sy,k)=>k≤bB.ents.length) (fun (sy,k)=>[(1,av),(2,pB g1 0),(4,pB g2 0),(5,pB g6 0),(6,iw (j:Int)),(7,pB g13 0),(8,sy),(9,iw (k:Int)),(15,iw (j:Int)),(16,pB g1 0),(17,ov),(18,iw (l.length:Int)),(19,.bool (decide ((j:Int)<(l.length:Int)))),(22,pB g1 0),(23,ov),(24,iw (j:Int)),(25,.pointer (some (elemAt dT.size ov j))),(26,.agg #[iw bB.id,iw bB.size,iw bB.weak,bB.rv.v,bB.ev.v]),(27,av),(28,pB g13 0),(29,iw bB.id),(30,.bool (decide (bB.id∈A))),(31,.bool (decide (bB.id∈A))),(40,.bool ((decide (bB.id∈A))&&((decide (bB.weak=2))||(decide (bB.weak=3))))),(41,(.slice (some ⟨DQ,0,none⟩) 0 0))]) (fun (sy,k)=>own cq sy ((bB.ents.take k).filter (fC A))::aa g13 #[iw bB.id,iw bB.size,iw bB.weak,bB.rv.v,bB.ev.v] 100::own dT ox N::iD Z (dD N)::aa g6 #[ox,v4] 57::own an v4 R::aa g2 #[nS,nS] 57::aa g1 #[ov,rv] 57::own an av A::F) (fun (sy,k)=>bB.ents.length-k) ((.slice (some ⟨DQ,0,none⟩) 0 0),0) (Nat.zero_le _) sA (rr [0,0,0,0,0,0,0,0,0] []) ?_;rintro⟨sy,k⟩ adi;replace adi:k≤bB.ents.length:=adi;show SK _ _ _ _ _ [(1,av),(2,pB g1 0),(4,pB g2 0),(5,pB g6 0),(6,iw (j:Int)),(7,pB g13 0),(8,sy),(9,iw (k:Int)),(15,iw (j:Int)),(16,pB g1 0),(17,ov),(18,iw (l.length:Int)),(19,.bool (decide ((j:Int)<(l.length:Int)))),(22,pB g1 0),(23,ov),(24,iw (j:Int)),(25,.pointer (some (elemAt dT.size ov j))),(26,.agg #[iw bB.id,iw bB.size,iw bB.weak,bB.rv.v,bB.ev.v]),(27,av),(28,pB g13 0),(29,iw bB.id),(30,.bool (decide (bB.id∈A))),(31,.bool (decide (bB.id∈A))),(40,.bool ((decide (bB.id∈A))&&((decide (bB.weak=2))||(decide (bB.weak=3))))),(41,(.slice (some ⟨DQ,0,none⟩) 0 0))] _ (own cq sy ((bB.ents.take k).filter (fC A))::aa g13 #[iw bB.id,iw bB.size,iw bB.weak,bB.rv.v,bB.ev.v] 100::own dT ox N::iD Z (dD N)::aa g6 #[ox,v4] 57::own an v4 R::aa g2 #[nS,nS] 57::aa g1 #[ov,rv] 57::own an av A::F);have vq:=List.length_filter_le (fC A) (bB.ents.take k);rw[List.length_take]at vq;refine gy ?_;refine bg (decide ((k:Int)<(bB.ents.length:Int))) (fun En=>?_) (fun En=>?_)
   .have pD:=dY En;obtain⟨EI,EJ⟩:∃y,bB.ents[k]?=some y:=⟨_,List.getElem?_eq_getElem ol⟩;refine gy ?_;refine dW 56 (decide (EI.val=0)) (fun nR=>?_) (fun nR=>?_)
    .have uI:=dY nR;refine gy ?_;refine ah (e:=167) [(0,.agg #[iw EI.key,iw EI.val])] #[iw EI.key,iw EI.val] (fun m4=>?_) (hb:=by kernel_rfl);refine aq (L:=((bB.ents.take k).filter (fC A))) 1 dy Tryz.underlying98 (.lit 0 dy [EI]) (by show _*16≤_;(try simp only[cD]);omega) ol (fun v34=>?_);skip;refine gy ?_;rw[p' (p:=fC A) EJ (by unfold fC;simp[pD,uI])];exact az (v34,k+1) (by show bB.ents.length-(k+1)<bB.ents.length-k;omega) (by show k+1≤bB.ents.length;omega) sA (rr [1,1,1,1,1,1,1,1,1] [9])
    have jr:=dF nR;refine gV ?_ (c:=fun _ h=>Bh (L:=A) (Acc.kn (.own 8) h) EI.val);refine bg (decide (EI.val∈A)) (fun HX=>?_) (fun HX=>?_)
    .have mD:=dY HX;refine gy ?_;refine ah (e:=167) [(0,.agg #[iw EI.key,iw EI.val])] #[iw EI.key,iw EI.val] (fun Fi=>?_) (hb:=by kernel_rfl);refine aq (L:=((bB.ents.take k).filter (fC A))) 1 dy Tryz.underlying98 (.lit 0 dy [EI]) (by show _*16≤_;(try simp only[cD]);omega) ol (fun v40=>?_);skip;refine gy ?_;rw[p' (p:=fC A) EJ (by unfold fC;simp[jr,mD])];exact az (v40,k+1) (by show bB.ents.length-(k+1)<bB.ents.length-k;omega) (by show k+1≤bB.ents.length;omega) sA (rr [1,1,1,1,1,1,1,1,1] [9])
    have uJ:=dF HX;refine gy ?_;rw[w4 (p:=fC A) EJ (by unfold fC;simp[jr,uJ])];exact az (sy,k+1) (by show bB.ents.length-(k+1)<bB.ents.length-k;omega) (by show k+1≤bB.ents.length;omega) sA (rr [0,0,0,0,0,0,0,0,0] [])
   have NQ:=dF En;refine cW ?_;obtain rfl:k=bB.ents.length:=by omega
   rw[List.take_length];have akt:=List.length_filter_le (fC A) bB.ents;refine cM<|cM<|gL<|ax<|bd<|sL (ai sy)<|sL (ai (pB g13 4))<|sF 0 (fun K'=>?_)
   refine ar (u:=sy) (m:=1) 1 #[iw bB.id,iw bB.size,iw bB.weak,bB.rv.v,sy] ?_ (hm:=by (obtain⟨_,_,e0⟩:=K';rw[e0];rfl)) (h1:=by (obtain⟨_,_,e0⟩:=K';rw[e0];rfl)) (ha':=by (obtain⟨_,_,e0⟩:=K';rw[e0];rfl));refine a8<|ax<|bd<|sL (ai (pB g6 0))<|sL (aJ 4 ox) ?_
   obtain⟨La,Lb,e⟩:=K';subst e;refine gy ?_;refine ah (e:=100) [(0,.agg #[iw bB.id,iw bB.size,iw bB.weak,bB.rv.v,(.slice La (bB.ents.filter (fC A)).length Lb)])] #[iw bB.id,iw bB.size,iw bB.weak,bB.rv.v,(.slice La (bB.ents.filter (fC A)).length Lb)] (fun wc=>?_) (hb:=by kernel_rfl);refine aq (L:=N) 3 bt Tryz.underlying55 (.lit 0 bt [(⟨bB.id,bB.size,bB.weak,bB.rv,⟨La,(bB.ents.filter (fC A)).length,Lb⟩,bB.refs,(bB.ents.filter (fC A))⟩:Ob)]) (by show _*72≤_;(try simp only[cD]);omega) ol (fun v48=>?_);skip;refine gy ?_;have hu:u' A bB=true:=(by have h:=oD;revert h;unfold u';generalize decide (bB.id∈A)=b1;generalize decide (bB.weak=2)=b2;generalize decide (bB.weak=3)=b3;revert b1 b2 b3;decide);refine ab (fun _ h=>IG (hg.each bB (List.mem_of_getElem? nm)) (⟨bB.id,bB.size,bB.weak,bB.rv,⟨La,(bB.ents.filter (fC A)).length,Lb⟩,bB.refs,(bB.ents.filter (fC A))⟩:Ob) (h.re [1] [])) ?_;refine ab (fun _ h=>vd (⟨bB.id,bB.size,bB.weak,bB.rv,⟨La,(bB.ents.filter (fC A)).length,Lb⟩,bB.refs,(bB.ents.filter (fC A))⟩:Ob) (h.re [0,3] [])) ?_;exact az (v48,N++[(⟨bB.id,bB.size,bB.weak,bB.rv,⟨La,(bB.ents.filter (fC A)).length,Lb⟩,bB.refs,(bB.ents.filter (fC A))⟩:Ob)],j+1) (by show l.length-(j+1)<l.length-j;omega) (by obtain⟨qY,eW⟩:=wM;exact⟨by omega,nt nm eW (by unfold sq;rw[hu];rfl)⟩) sA (rr [3,0,2,2,2,2,2] [7,7])
  have Du:=oD;simp only[Bool.and_eq_true,Bool.or_eq_true,Bool.and_eq_false_iff,Bool.or_eq_false_iff,Bool.not_eq_true',Bool.not_eq_false',decide_eq_true_eq,decide_eq_false_iff_not]at Du;refine gy ?_;refine ah (e:=100) [(0,.agg #[iw bB.id,iw bB.size,iw bB.weak,bB.rv.v,bB.ev.v])] #[iw bB.id,iw bB.size,iw bB.weak,bB.rv.v,bB.ev.v] (fun SW=>?_) (hb:=by kernel_rfl);refine aq (L:=N) 2 bt Tryz.underlying55 (.lit 0 bt [bB]) (by show _*72≤_;(try simp only[cD]);omega) ol (fun Ff=>?_);skip;refine gy ?_;have hu:u' A bB=false:=(by have h:=oD;revert h;unfold u';generalize decide (bB.id∈A)=b1;generalize decide (bB.weak=2)=b2;generalize decide (bB.weak=3)=b3;revert b1 b2 b3;decide);refine ab (fun _ h=>IF (hg.each bB (List.mem_of_getElem? nm)) h) ?_;refine ab (fun _ h=>vd bB (h.re [0,3] [])) ?_;exact az (Ff,N++[bB],j+1) (by show l.length-(j+1)<l.length-j;omega) (by obtain⟨qY,eW⟩:=wM;exact⟨by omega,nt nm eW (by unfold sq;rw[hu];rfl)⟩) sA (rr [3,0,2,2,2,2,2] [7,7])
 have zk:=dF c8;refine cW<|cM<|cM<|gL<|ax<|aE<|bd<|sL (dE 2 #[ox,v4])<|sF 0 (fun ZP=>?_)
 refine ar (u:=.agg #[ox,v4]) (m:=2) 4 #[ox,v4] ?_ (hm:=by (obtain⟨_,_,e0⟩:=ZP;obtain⟨_,_,e1⟩:=rS;rw[e0,e1];rfl)) (h1:=by (obtain⟨_,_,e0⟩:=ZP;obtain⟨_,_,e1⟩:=rS;rw[e0,e1];rfl)) (ha':=by (obtain⟨_,_,e0⟩:=ZP;obtain⟨_,_,e1⟩:=rS;rw[e0,e1];rfl));refine a8<|ax<|eM ?_
 obtain⟨qY,eW⟩:=wM;obtain rfl:j=l.length:=by omega
 rw[List.take_length]at eW;exact ad [.agg #[ox,v4]] (iD Z (eP ox v4 N R)::own an av A::F) (SI.agg 4 57 4 SI.nil) (fun _ h=>Uw (h.re [0,2,0,3] [4,4,4])) ⟨_,_,N,rfl,eW,rfl⟩
theorem Qj(hg:oO Z ov rv l R){qb:Nat}(qX:l.length≤200)(hl:l.length≤100000)(hp:kC l []≤100000000)(hr:R.length≤50000)(ca:∀o∈l,o.refs.length≤400∧o.ents.length≤100000)(CS:reg.length≤50000)(Iq:pend.length≤50000):SF Tryz.prog 97 #[.agg #[ov,rv],pB qb 0] Z (lY qb reg pend::F) fun r Bs=>∃rb rv' fv l' R',r=.tuple #[.agg #[rb,rv'],fv,iw (fa (chk 0 l))]∧l'.map Ob.c=(if chk 0 l=true then lg l R reg pend else [])∧R'=(if chk 0 l=true then R else [])∧Bs=lY qb (if chk 0 l=true then il l R reg else reg) (if chk 0 l=true then eD l R reg pend else pend)::frz (eP rb rv' l' R')::own an fv (if chk 0 l=true then fD l R reg pend else [])::F:=by
 refine bO Tryz.func97 130 (fun w0=>?_);refine gy ?_;refine bj #[ov,rv] (fun g1=>?_);refine ae (.agg #[nS,nS]) #[nS,nS] (fun g2=>?_);refine gV ?_ (c:=fun _ h=>tE (hg.up h));refine bg (decide ((fa (chk 0 l))≠0)) (fun c3=>?_) (fun c3=>?_)
 .have p4:=dY c3;have hc:=kG p4;refine aE<|bd<|sL (ay (.agg #[nS,nS]))<|sL (ai (iw (fa (chk 0 l))))<|ar 0 #[nS,nS] ?_
  refine sL (ai nS)<|sL (ai (iw (fa (chk 0 l))))<|a8<|ax<|eM<|lD ?_
  have hc:=kG p4;exact ad [.agg #[nS,nS],nS,iw (fa (chk 0 l))] (lY qb reg pend::frz (eP nS nS [] [])::own an nS []::F) (SI.agg 4 57 0 (SI.tmp 5 (SI.tmp 6 SI.nil))) (fun _ h=>(Holds.nilS (T:=an) (sa h)).re [4,1,0] [3,3]) ⟨_,_,_,[],[],rfl,by rw[hc];rfl,by rw[hc];rfl,by rw[hc];rfl⟩
 have p5:=Decidable.not_not.1 (dF c3);have hc:=mh p5;have hs:=iH hc;have hc:=mh p5;refine gy ?_;refine a6 (fun _ h=>Ey (hg.up h) hl hp ca om) ?_;rintro _ _ ⟨v6,rfl,rfl⟩;skip;refine gy ?_;refine nO 0 [2] (fun _ hz=>Uv (A:=(aM l R)) (reg:=reg) (pend:=pend) hz.own ol ol) ?_;rintro v8 _ rfl;skip;obtain⟨P,hP⟩:∃P,P=pend++fU (aM l R) reg:=⟨_,rfl⟩;rw[←hP];have hPl:=tU l R reg pend;rw[←hP]at hPl;refine gy ?_;refine aH [0] (G9 hg hl om ca) ?_;rintro _ _ ⟨jL,tY,LS,rfl,zP,rfl⟩;refine ae (.agg #[nS,nS]) #[nS,nS] (fun g14=>?_);refine bl (fun H h=>((show Acc _ _ dT _ _ from (Wn 1)) H h).form) (fun fp=>?_);refine bl (fun H h=>((show Acc _ _ an _ _ from (vQ 1)) H h).form) (fun mJ=>?_);refine ar (u:=.agg #[jL,tY]) (m:=2) 0 #[jL,tY] ?_ (hm:=by (obtain⟨_,_,e0⟩:=fp;obtain⟨_,_,e1⟩:=mJ;rw[e0,e1];rfl)) (h1:=by (obtain⟨_,_,e0⟩:=fp;obtain⟨_,_,e1⟩:=mJ;rw[e0,e1];rfl)) (ha':=by (obtain⟨_,_,e0⟩:=fp;obtain⟨_,_,e1⟩:=mJ;rw[e0,e1];rfl));refine a8<|ax<|b6 (ι:=Nat×Value) (fun (gm,vm)=>True) (fun (gm,vm)=>[(1,pB qb 0),(2,pB g1 0),(4,pB g2 0),(5,nS),(6,iw 0),(10,pB g14 0),(11,pB gm 0)]) (fun (gm,vm)=>aa gm #[jL,vm] 57::own an vm R::aa g14 #[jL,tY] 57::iD Z (eP jL tY LS R)::own an v6 (aM l R)::lY qb (b' (aM l R) reg) P::aa g2 #[nS,nS] 57::aa g1 #[ov,rv] 57::F) ?_ ?_
 .refine br [aa g14 #[jL,tY] 57,own an v6 (aM l R),own an v8 (fU (aM l R) reg),aa g2 #[nS,nS] 57,aa g1 #[ov,rv] 57] ?_;refine bR 0 rfl (aj ao) [0,1,2,2,2] (fun _=>(ai (pB g14 0))) ?_;refine bR 1 rfl (aj ao) [0,1,2,2,2] (fun _=>(aJ 0 jL)) ?_;refine bR 3 rfl (aj ao) [0,1,2,2,2] (fun _=>(ai (pB g14 1))) ?_;refine bR 4 rfl (aj ao) [0,1,2,2,2] (fun _=>(aJ 0 tY)) ?_;refine aN 2 7 ?_ ?_
  .refine ah (e:=3) [] #[] (fun g24=>?_) (hb:=by kernel_rfl);refine nH [1,2,3,3,3]<|aN 5 7 ?_ ?_
   .refine aC (fun _ h=>Holds.slice 0 h ak []) ?_;refine aq (L:=[]) 0 ak Tryz.underlying23 (vQ 2) (by show _*8≤_;(try simp only[cD]);omega) ol (fun v31=>?_);rw[List.nil_append];refine sF 0 (fun G7=>?_);refine nH [1,2,3,3,3]<|bR 6 rfl (aj ao) [1,2,3,3,3] (fun _=>(show Lt _ _ _ _ _ (.agg #[jL,v31]) from by obtain⟨_,_,e⟩:=fp;rw[e];clear e;obtain⟨_,_,e⟩:=G7;rw[e];clear e;exact ay _)) ?_
    refine ag 7 ?_;refine ae (.agg #[nS,nS]) #[nS,nS] (fun m4=>?_);refine nH [2,3,4,4,4]<|ag 8 ?_
    refine ar (u:=.agg #[jL,v31]) (m:=2) 0 #[jL,v31] ?_ (hm:=by (obtain⟨_,_,e0⟩:=fp;obtain⟨_,_,e1⟩:=G7;rw[e0,e1];rfl)) (h1:=by (obtain⟨_,_,e0⟩:=fp;obtain⟨_,_,e1⟩:=G7;rw[e0,e1];rfl)) (ha':=by (obtain⟨_,_,e0⟩:=fp;obtain⟨_,_,e1⟩:=G7;rw[e0,e1];rfl));refine nH [2,3,4,4,4]<|aI ?_
    exact bh (m4,v31) trivial sA rA
   refine ae (.agg #[nS,nS]) #[nS,nS] (fun Td=>?_);refine nH [2,3,4,4,4]<|ag 5 ?_
   refine aC (fun _ h=>Holds.slice 1 h ak []) ?_;refine aq (L:=[]) 1 ak Tryz.underlying23 (vQ 3) (by show _*8≤_;(try simp only[cD]);omega) ol (fun v35=>?_);rw[List.nil_append];refine sF 1 (fun Ck=>?_);refine nH [2,3,4,4,4]<|bR 6 rfl (aj ao) [2,3,4,4,4] (fun _=>(show Lt _ _ _ _ _ (.agg #[jL,v35]) from by obtain⟨_,_,e⟩:=fp;rw[e];clear e;obtain⟨_,_,e⟩:=Ck;rw[e];clear e;exact ay _)) ?_
   refine ag 8 ?_;refine ar (u:=.agg #[jL,v35]) (m:=2) 0 #[jL,v35] ?_ (hm:=by (obtain⟨_,_,e0⟩:=fp;obtain⟨_,_,e1⟩:=Ck;rw[e0,e1];rfl)) (h1:=by (obtain⟨_,_,e0⟩:=fp;obtain⟨_,_,e1⟩:=Ck;rw[e0,e1];rfl)) (ha':=by (obtain⟨_,_,e0⟩:=fp;obtain⟨_,_,e1⟩:=Ck;rw[e0,e1];rfl));refine nH [2,3,4,4,4]<|aI ?_
   exact bh (Td,v35) trivial sA rA
  refine ae (.agg #[nS,nS]) #[nS,nS] (fun NT=>?_);refine nH [1,2,3,3,3]<|ag 2 ?_
  refine ah (e:=3) [] #[] (fun g38=>?_) (hb:=by kernel_rfl);refine nH [2,3,4,4,4]<|ag 5 ?_
  refine aC (fun _ h=>Holds.slice 0 h ak []) ?_;refine aq (L:=[]) 0 ak Tryz.underlying23 (vQ 3) (by show _*8≤_;(try simp only[cD]);omega) ol (fun VY=>?_);rw[List.nil_append];refine sF 0 (fun pM=>?_);refine nH [2,3,4,4,4]<|bR 6 rfl (aj ao) [2,3,4,4,4] (fun _=>(show Lt _ _ _ _ _ (.agg #[jL,VY]) from by obtain⟨_,_,e⟩:=fp;rw[e];clear e;obtain⟨_,_,e⟩:=pM;rw[e];clear e;exact ay _)) ?_
  refine ag 8 ?_;refine ar (u:=.agg #[jL,VY]) (m:=2) 1 #[jL,VY] ?_ (hm:=by (obtain⟨_,_,e0⟩:=fp;obtain⟨_,_,e1⟩:=pM;rw[e0,e1];rfl)) (h1:=by (obtain⟨_,_,e0⟩:=fp;obtain⟨_,_,e1⟩:=pM;rw[e0,e1];rfl)) (ha':=by (obtain⟨_,_,e0⟩:=fp;obtain⟨_,_,e1⟩:=pM;rw[e0,e1];rfl));refine nH [2,3,4,4,4]<|aI ?_
  exact bh (NT,VY) trivial sA rA
 rintro⟨gm,vm⟩ sc;try dsimp only at sc⊢
 refine gy ?_;refine aK (Bs:=aa gm #[jL,vm] 57::own an vm R::aa g14 #[jL,tY] 57::iD Z (eP jL tY LS R)::lY qb (b' (aM l R) reg) P::aa g2 #[nS,nS] 57::aa g1 #[ov,rv] 57::F) rA ?_;have hz0:R++tX l (P.take 0)=R:=List.append_nil R;refine aK (Bs:=aa gm #[jL,vm] 57::own an vm (R++tX l (P.take 0))::aa g14 #[jL,tY] 57::iD Z (eP jL tY LS R)::lY qb (b' (aM l R) reg) P::aa g2 #[nS,nS] 57::aa g1 #[ov,rv] 57::F) (fun _ h=>by rw[hz0];exact h) ?_;refine aD (ι:=Value×Nat) (fun (mx,i)=>i≤P.length) (fun (mx,i)=>[(1,pB qb 0),(2,pB g1 0),(4,pB g2 0),(5,nS),(6,iw 0),(10,pB g14 0),(11,pB gm 0),(12,iw (i:Int))]) (fun (mx,i)=>aa gm #[jL,mx] 57::own an mx (R++tX l (P.take i))::aa g14 #[jL,tY] 57::iD Z (eP jL tY LS R)::lY qb (b' (aM l R) reg) P::aa g2 #[nS,nS] 57::aa g1 #[ov,rv] 57::F) (fun (mx,i)=>P.length-i) (vm,0) (Nat.zero_le _) sA rA ?_;rintro⟨mx,i⟩ Km;replace Km:i≤P.length:=Km;show SK _ _ _ _ _ [(1,pB qb 0),(2,pB g1 0),(4,pB g2 0),(5,nS),(6,iw 0),(10,pB g14 0),(11,pB gm 0),(12,iw (i:Int))] _ (aa gm #[jL,mx] 57::own an mx (R++tX l (P.take i))::aa g14 #[jL,tY] 57::iD Z (eP jL tY LS R)::lY qb (b' (aM l R) reg) P::aa g2 #[nS,nS] 57::aa g1 #[ov,rv] 57::F);have hhl:=IS l (P.take i);rw[List.length_take]at hhl;refine gy ?_;refine cF (fun H h=>mj (rB h)) (fun aku akv hw=>?_);refine gy ?_;refine bg (decide ((i:Int)<(P.length:Int))) (fun NA=>?_) (fun NA=>?_)
 .have JK:=dY NA;obtain⟨y46,adj⟩:∃y,P[i]?=some y:=⟨_,List.getElem?_eq_getElem ol⟩;refine gV ?_ (c:=fun _ h=>Uy (hg.up h) y46);refine bg (decide (y46∈l.map Ob.id)) (fun Nt=>?_) (fun Nt=>?_)
  .have LN:=dY Nt;refine gy ?_;refine ah (e:=3) [(0,iw y46)] #[iw y46] (fun g50=>?_) (hb:=by kernel_rfl);refine aq (L:=(R++tX l (P.take i))) 5 ak Tryz.underlying23 (.lit 0 ak [y46]) (by show _*8≤_;(try simp only[cD]);omega) ol (fun v51=>?_);skip;refine gy ?_;refine ab (fun _ h=>fR (rB h)) ?_;rw[List.append_assoc,Ux (l:=l) adj LN];exact xr (v51,i+1) (by show i+1≤P.length;omega)
  have No:=dF Nt;refine gy ?_;refine ab (fun _ h=>fR (rB h)) ?_;rw[ZN (l:=l) adj No];exact xr (mx,i+1) (by show i+1≤P.length;omega)
 have zk:=dF NA;refine cW ?_;rw[List.take_of_length_le (show P.length≤i by omega)];have hhl:=IS l P;refine gy ?_;have hu1:=oA zP;have hu2:=qS zP ca;have hu3:=yu LS hu2 [];refine a6 (fun _ h=>Ey (II (h.zfrF 6) (h.knS 4)) om om hu2 (by rw[List.length_append];omega)) ?_;rintro _ _ ⟨Q8,rfl,rfl⟩;skip;have hbb:(aM LS (R++tX l P))=cA l R reg pend:=by rw[K9 zP,hP];exact IL zP
 rw[hbb];have hbl:=yX l R reg pend;refine gy ?_;refine a6 (fun _ h=>PN (eP.kn (h.zfrF 7)) (Acc.kn (.own 0) h) (by have:=yX l R reg pend;omega) om om hu2) ?_;rintro _ _ ⟨sk,zR,zS,R60,rfl,Uz,ahd,rfl⟩;refine gy ?_;refine ae (.agg #[nS,nS]) #[nS,nS] (fun K3=>?_);refine bl (fun H h=>((show Acc _ _ dT _ _ from (j8 1)) H h).form) (fun zL=>?_);refine bl (fun H h=>((show Acc _ _ an _ _ from (Cc 1)) H h).form) (fun Gr=>?_);refine ar (u:=.agg #[sk,zR]) (m:=2) 0 #[sk,zR] ?_ (hm:=by (obtain⟨_,_,e0⟩:=zL;obtain⟨_,_,e1⟩:=Gr;rw[e0,e1];rfl)) (h1:=by (obtain⟨_,_,e0⟩:=zL;obtain⟨_,_,e1⟩:=Gr;rw[e0,e1];rfl)) (ha':=by (obtain⟨_,_,e0⟩:=zL;obtain⟨_,_,e1⟩:=Gr;rw[e0,e1];rfl));refine sL (ai (iw (fa (chk 0 LS&&gD 0 (cA l R reg pend)))))<|a8<|ax<|aE<|bd ?_
 refine ah (e:=3) [] #[] (fun zI=>?_) (hb:=by kernel_rfl);refine gy ?_;refine aC (fun _ h=>Holds.slice 0 h ak []) ?_;refine aq (L:=[]) 0 ak Tryz.underlying23 (.zn hg.roots) (by show _*8≤_;(try simp only[cD]);omega) ol (fun Fm=>?_);rw[List.nil_append];refine sF 0 (fun y'=>?_);refine sL (show Lt _ _ _ _ _ (.agg #[nS,Fm]) from by obtain⟨_,_,e⟩:=y';rw[e];clear e;exact ay _)<|ae (.agg #[nS,nS]) #[nS,nS] (fun Oh=>?_)
 refine ar (u:=.agg #[nS,Fm]) (m:=2) 0 #[nS,Fm] ?_ (hm:=by (obtain⟨_,_,e0⟩:=y';rw[e0];rfl)) (h1:=by (obtain⟨_,_,e0⟩:=y';rw[e0];rfl)) (ha':=by (obtain⟨_,_,e0⟩:=y';rw[e0];rfl));refine a8<|ax<|aE<|bd ?_
 refine ah (e:=3) [] #[] (fun g70=>?_) (hb:=by kernel_rfl);refine gy ?_;refine aK (fun _ h=>fR (rB h)) ?_;refine aK (Bs:=lY qb (b' (aM l R) reg) P::aa g70 #[] 3::aa Oh #[nS,Fm] 57::own an Fm R::aa K3 #[sk,zR] 57::frz (eP sk zR zS R60)::own an Q8 (cA l R reg pend)::aa g2 #[nS,nS] 57::F) rA ?_;have HB:(chk 0 LS&&gD 0 (cA l R reg pend))=true:=by rw[w6 zP,hc,EH R reg pend hc];rfl
 rw[HB,if_pos rfl]at Uz ahd;have hlen:=sd Uz;have akw:=oA zP;refine aK (fun _ h=>Holds.slice 1 h ak []) ?_;refine aK (Bs:=lY qb (b' (aM l R) reg) P::own an (.slice (some ⟨g70,0,none⟩) 0 0) (lV (cA l R reg pend) ((zS.take 0).map Ob.c))::aa Oh #[nS,Fm] 57::own an Fm R::aa K3 #[sk,zR] 57::frz (eP sk zR zS R60)::own an Q8 (cA l R reg pend)::aa g2 #[nS,nS] 57::F) (fun _ h=>h) ?_;refine aK (fun _ h=>Holds.nilS (T:=dT) h) ?_;refine aD (ι:=Value×List Ob×Value×Nat) (fun (ox,N,fx,k)=>k≤zS.length∧N.map Ob.c=jP (cA l R reg pend) ((zS.take k).map Ob.c)∧(∀x∈N,x∈zS)∧N.length≤k) (fun (ox,N,fx,k)=>[(4,pB g2 0),(5,nS),(6,iw 0),(13,Q8),(15,pB K3 0),(17,pB Oh 0),(18,fx),(19,iw (k:Int))]) (fun (ox,N,fx,k)=>own dT ox N::lY qb (b' (aM l R) reg) P::own an fx (lV (cA l R reg pend) ((zS.take k).map Ob.c))::aa Oh #[ox,Fm] 57::own an Fm R::aa K3 #[sk,zR] 57::frz (eP sk zR zS R60)::own an Q8 (cA l R reg pend)::aa g2 #[nS,nS] 57::F) (fun (ox,N,fx,k)=>zS.length-k) (nS,[],(.slice (some ⟨g70,0,none⟩) 0 0),0) ⟨Nat.zero_le _,rfl,by simp,Nat.le_refl _⟩ sA rA ?_;rintro⟨ox,N,fx,k⟩ Lc;replace Lc:k≤zS.length∧N.map Ob.c=jP (cA l R reg pend) ((zS.take k).map Ob.c)∧(∀x∈N,x∈zS)∧N.length≤k:=Lc;show SK _ _ _ _ _ [(4,pB g2 0),(5,nS),(6,iw 0),(13,Q8),(15,pB K3 0),(17,pB Oh 0),(18,fx),(19,iw (k:Int))] _ (own dT ox N::lY qb (b' (aM l R) reg) P::own an fx (lV (cA l R reg pend) ((zS.take k).map Ob.c))::aa Oh #[ox,Fm] 57::own an Fm R::aa K3 #[sk,zR] 57::frz (eP sk zR zS R60)::own an Q8 (cA l R reg pend)::aa g2 #[nS,nS] 57::F);have Bd:=Lc.2.2.2;have vq:=PW (cA l R reg pend) ((zS.take k).map Ob.c);rw[List.length_map,List.length_take]at vq;refine aE<|aE<|bd<|sL (ai (iw (k:Int)))<|sL (ai (pB K3 0))<|sL (aJ 5 sk)<|sL (bL bt Tryz.underlying55 (j8 6))<|sL aT<|a8<|ax ?_
 refine bg (decide ((k:Int)<(zS.length:Int))) (fun LL=>?_) (fun LL=>?_)
 .have XY:=dY LL;refine jB<|ax<|aE<|cE<|aE<|bd<|sL (ai Q8)<|sL (ai (pB K3 0))<|sL (aJ 5 sk)<|sL (ai (iw (k:Int)))<|sL (aF bt Tryz.underlying55 (j8 6) (k:Int) k om ol om)<|sL (ai (.pointer (some (elemAt dT.size sk k)))) ?_
  obtain⟨ET,EU⟩:∃y,zS[k]?=some y:=⟨_,List.getElem?_eq_getElem ol⟩;refine sL (cw 0 bt (j8 6) EU) ?_;refine gV ?_ (c:=fun _ h=>Bh (L:=(cA l R reg pend)) (Acc.kn (.own 7) h) ET.id);refine bg (decide (ET.id∈(cA l R reg pend))) (fun ZQ=>?_) (fun ZQ=>?_)
  .have V3:=dY ZQ;refine rK<|sL (ai (pB Oh 0))<|sL (aJ 3 ox)<|sL (ai (pB K3 0))<|sL (aJ 5 sk)<|sL (ai (iw (k:Int)))<|sL (aF bt Tryz.underlying55 (j8 6) (k:Int) k om ol om) ?_
   refine sL (bC bt (j8 6) EU) ?_;refine ah (e:=100) [(0,.agg #[iw ET.id,iw ET.size,iw ET.weak,ET.rv.v,ET.ev.v])] #[iw ET.id,iw ET.size,iw ET.weak,ET.rv.v,ET.ev.v] (fun g78=>?_) (hb:=by kernel_rfl);refine aq (L:=N) 1 bt Tryz.underlying55 (.lit 0 bt [ET]) (by show _*72≤_;(try simp only[cD]);omega) ol (fun v79=>?_);skip;refine gy ?_;rw[Uc EU V3];exact xr (v79,N++[ET],fx,k+1) (by obtain⟨qY,eW,Cf,D3⟩:=Lc;exact⟨by omega,yR EU V3 eW,fun x hx=>by rcases List.mem_append.1 hx with hx|hx;exact Cf x hx;simp at hx;subst hx;exact List.mem_of_getElem? EU,by rw[List.length_append];simp only[List.length_singleton];omega⟩)
  have p81:=dF ZQ;refine go ?_;refine sL (aF bt Tryz.underlying55 (j8 6) (k:Int) k om ol om)<|sL (ai (.pointer (some (elemAt dT.size sk k)))) ?_
  refine sL (cw 0 bt (j8 6) EU) ?_;refine ah (e:=3) [(0,iw ET.id)] #[iw ET.id] (fun g82=>?_) (hb:=by kernel_rfl);refine aq (L:=(lV (cA l R reg pend) ((zS.take k).map Ob.c))) 3 ak Tryz.underlying23 (.lit 0 ak [ET.id]) (by show _*8≤_;(try simp only[cD]);omega) ol (fun v83=>?_);skip;refine gy ?_;rw[PV EU p81];exact xr (ox,N,v83,k+1) (by obtain⟨qY,eW,Cf,D3⟩:=Lc;exact⟨by omega,Cd EU p81 eW,Cf,by omega⟩)
 have p85:=dF LL;refine cW<|cM<|cM<|gL<|ax<|aE<|bd<|sL (dE 3 #[ox,Fm])<|sL (ai fx)<|sF 0 (fun ZR=>?_)
 refine ar (u:=.agg #[ox,Fm]) (m:=2) 8 #[ox,Fm] ?_ (hm:=by (obtain⟨_,_,e0⟩:=ZR;obtain⟨_,_,e1⟩:=y';rw[e0,e1];rfl)) (h1:=by (obtain⟨_,_,e0⟩:=ZR;obtain⟨_,_,e1⟩:=y';rw[e0,e1];rfl)) (ha':=by (obtain⟨_,_,e0⟩:=ZR;obtain⟨_,_,e1⟩:=y';rw[e0,e1];rfl));refine sL (ai fx)<|sL (ai (iw 0))<|a8<|ax<|eM ?_
 obtain⟨qY,eW,Cf,D3⟩:=Lc;obtain rfl:k=zS.length:=by omega
 rw[List.take_length,Uz]at eW;have hff:lV (cA l R reg pend) ((zS.take zS.length).map Ob.c)=fD l R reg pend:=by rw[List.take_length];exact Qi zP Uz
 rw[hff];subst hP;exact ad [.agg #[ox,Fm],fx,iw 0] (lY qb (il l R reg) (eD l R reg pend)::frz (eP ox Fm N R)::own an fx (fD l R reg pend)::F) (SI.agg 4 57 8 (SI.tmp 5 (SI.tmp 6 SI.nil))) (fun _ h=>(Qh Cf (h.re [0,3,4,0,0] [5,5,5,5])).re [1,0] []) ⟨_,_,_,N,R,by rw[hc];rfl,by rw[hc];exact eW.trans (IM zP),by rw[hc];rfl,by rw[hc];rfl⟩
end
end Go.Proofs.YtmhpcebiamkciaaGreat
section
namespace Go.Proofs
open Go.Shelf
def Tryz.laysCt_ren:Go.Shelf.Ren:=⟨fun|144=>113|143=>173|219=>212|217=>248|225=>249|224=>250|267=>251|266=>265|314=>266|n=>n,fun|9=>9|4=>4|3=>3|5=>5|46=>217|146=>280|51=>251|n=>n,fun|1=>0|n=>n⟩
theorem Tryz.laysCt : Go.Proofs.Lays.n144 Tryz.prog Tryz.laysCt_ren := {
  mixed := by kernel_rfl
  f143 := Tryz.func173.trans (congrArg some (by kernel_rfl))
  f144 := Tryz.func113.trans (congrArg some (by kernel_rfl))
  f217 := Tryz.func248.trans (congrArg some (by kernel_rfl))
  f219 := Tryz.func212.trans (congrArg some (by kernel_rfl))
  f224 := Tryz.func250.trans (congrArg some (by kernel_rfl))
  f225 := Tryz.func249.trans (congrArg some (by kernel_rfl))
  f266 := Tryz.func265.trans (congrArg some (by kernel_rfl))
  f267 := Tryz.func251.trans (congrArg some (by kernel_rfl))
  f314 := Tryz.func266.trans (congrArg some (by kernel_rfl))
  t3 := Tryz.underlying3
  a3 := Tryz.isAgg3
  z3 := Tryz.sizeOf3
  v3 := Tryz.zeroValue3
  t4 := Tryz.underlying4
  a4 := Tryz.isAgg4
  z4 := Tryz.sizeOf4
  v4 := Tryz.zeroValue4
  t5 := Tryz.underlying5
  a5 := Tryz.isAgg5
  z5 := Tryz.sizeOf5
  v5 := Tryz.zeroValue5
  t9 := Tryz.underlying9
  a9 := Tryz.isAgg9
  z9 := Tryz.sizeOf9
  v9 := Tryz.zeroValue9
  t46 := Tryz.underlying217
  a46 := Tryz.isAgg217
  z46 := Tryz.sizeOf217
  v46 := Tryz.zeroValue217
  t51 := Tryz.underlying251
  a51 := Tryz.isAgg251
  z51 := Tryz.sizeOf251
  v51 := Tryz.zeroValue251
  t146 := Tryz.underlying280
  a146 := Tryz.isAgg280
  z146 := Tryz.sizeOf280
  v146 := Tryz.zeroValue280
  g1 := by kernel_rfl }
open Go.RowKit Go.Lib in
theorem Tryz.strings_Contains(s:ByteArray)(c:UInt8)(w:World):Calls Tryz.prog 113 #[.string s,.string ⟨#[c]⟩] w fun e w'=>e=.returned (.bool (decide (0≤Lib.indexByte s.data.toList c)))∧w'=w:=Any.strings_Contains_one Tryz.laysCt s c w
namespace YtmhpcebiamkciaaGreat
open Go.Hp Go.J Go.S
def hasB(s:ByteArray)(c:UInt8):Bool:=decide (0≤Lib.indexByte s.data.toList c)
theorem Cm{Z:bK}(s:ByteArray)(c:UInt8):SF Tryz.prog 113 #[.string s,.string ⟨#[c]⟩] Z [] fun v Bs=>v=.bool (hasB s c)∧Bs=[]:=
 MS fun H hH w hw=>(Tryz.strings_Contains s c w).mono fun e w' ⟨he,xk⟩=>⟨_,he,by subst xk;exact⟨rfl,rfl,rfl,rfl⟩,rfl,by subst xk;rw[←hw];exact⟨Nat.le_refl _,fun _ _ _=>rfl⟩⟩
end YtmhpcebiamkciaaGreat
end Go.Proofs
end
namespace Go.Proofs.YtmhpcebiamkciaaGreat
open Go.Hp Go.J Go.S
open Go.Mem (fS Ty eB bN dg cL cm db dO blk blk_pre fM elemAt pre rF suf)
section
variable{st:bp}{Z:bK}{N l:List Ob}{i n b M q hb:Nat}{v k:Vl}{A:Int→Prop}{id y x ph:Int}{o:kX}{T:Tb}{F:List aW}{R Q L G reg P:List Int}{s:ByteArray}{c:Core}{p:Vl×Vl}{rv lv ov:Value}{S:List cY}{X:List iF}{ks:List Vl}{cs:List Core}{m:Int→Int}
def kH(st:bp)(v:Vl):Int:=if v.kind=4∧(ud st v ⟨#[95,95,109,111,100,101]⟩).kind=3 then (if hasB (ud st v ⟨#[95,95,109,111,100,101]⟩).str 107 then 1 else 0)+(if hasB (ud st v ⟨#[95,95,109,111,100,101]⟩).str 118 then 2 else 0) else 0
theorem Bi(s:ByteArray)(c:UInt8):hasB s c=s.data.toList.contains c:=(Lib.contains_iff_indexByte _ _).symm
theorem Bj(hi:i<s.size):s.data.toList[i]?=s[i]?:=by
 rw[getElem?_pos s i hi];exact (List.getElem?_eq_getElem (by simpa using hi)).trans (congrArg some (by simp[ByteArray.getElem_eq_getElem_data]))
theorem UB{c:UInt8}(h:s[i]?=some c):hasB s c=true:=by
 rw[Bi,List.contains_iff_mem];have hi:i<s.size:=by
  by_cases hi:i<s.size
  .exact hi
  rw[getElem?_neg s i hi]at h;cases h
 exact List.mem_of_getElem? ((Bj hi).trans h)
theorem Qk{c:UInt8}(h:∀j:Nat,j<s.size→s[j]?≠some c):hasB s c=false:=by
 rw[Bi,Bool.eq_false_iff,Ne,List.contains_iff_mem];intro hm;obtain⟨j,hj,e⟩:=List.getElem_of_mem hm;have LC:j<s.size:=by simpa using hj
 exact h j LC ((Bj LC).symm.trans (by rw[List.getElem?_eq_getElem hj,e]))
theorem Ql{c y:UInt8}(h:∀j:Nat,j<i→s[j]?≠some c)(hy:s[i]?=some y)(l7:¬(y.toNat:Int)=(c.toNat:Int)):∀j:Nat,j<i+1→s[j]?≠some c:=fun j hj=>by
 rcases Nat.lt_succ_iff_lt_or_eq.1 hj with hj|rfl
 .exact h j hj
 rw[hy];intro e;injection e with e;subst e;exact l7 rfl
theorem Ha(h:kM T)(k:Vl):au (kp T k)=true:=by
 unfold kp;split
 .rfl
 split
 .cases hx:T.list[(whole k-1).toNat]? with
  | none=>rfl
  | some y=>exact h.list y (List.mem_of_getElem? hx)
 unfold ei;split
 .rename_i s hs;obtain⟨i,_,hi⟩:=Option.bind_eq_some_iff.1 hs;have hm:=List.mem_of_getElem? hi;by_cases hg:s.gone=true
  .rw [h.rest.zero s hm hg];rfl
  exact (h.rest.vals s hm (by simpa using hg)).1
 rfl
theorem Hb(h:fe st)(t k:Vl):au (fT st t k)=true:=by
 unfold fT;split
 .rename_i T hT;obtain⟨o,_,hg,_,_,rfl⟩:=qy hT;exact Ha (h.obs o (get_mem hg).1).tab k
 rfl
theorem vh(h:fe st)(v:Vl)(ev:ByteArray):au (ud st v ev)=true:=by
 unfold ud;split
 .rfl
 exact Hb h _ _
theorem vi(h:au v=true)(hk:v.kind=3):v.str.size≤4096:=by
 simp[au,hk]at h;omega
theorem Hc(s:ByteArray)(c:UInt8)(hs:s.size≤4096):NF 105 #[sw s,.int .u8 (c.toNat:Int)] Z [] (.bool (hasB s c)):=by
 refine bO Tryz.func105 17 (fun w0=>?_);refine go ?_;refine aD (ι:=Nat) (fun i=>i≤s.size∧∀j:Nat,j<i→s[j]?≠some c) (fun i=>[(0,sw s),(1,.int .u8 (c.toNat:Int)),(5,iw (i:Int))]) (fun i=>[]) (fun i=>s.size-i) 0 ⟨by omega,fun j hj=>by omega⟩ sA rA ?_;rintro i cQ;show SK _ _ _ _ _ [(0,sw s),(1,.int .u8 (c.toNat:Int)),(5,iw (i:Int))] _ [];refine gy ?_;refine b9 (fun p3=>?_) (fun p9=>?_)
 .refine go ?_;obtain⟨y4,mN⟩:∃y,s[i]?=some y:=⟨_,getElem?_pos _ _ om⟩;refine sL (Xp Tryz.underlying9 s (i:Int) y4 om (by rw[show ((i:Int)).toNat=i by omega];exact mN)) ?_;refine gc ?_;refine b9 (fun p7=>?_) (fun p8=>?_)
  .refine go ?_;refine ad _ _ (SI.tmp 4 SI.nil) rA ⟨cB ?_,rfl⟩;have e:=p7;have e2:y4=c:=UInt8.toNat_inj.1 om;subst e2;exact (UB mN).symm
  refine gy ?_;exact xr (i+1) ⟨by omega,Ql cQ.2 mN p8⟩
 refine go ?_;refine ad _ _ (SI.tmp 4 SI.nil) rA ⟨cB ?_,rfl⟩;exact (Qk fun j hj=>cQ.2 j om).symm
theorem Wu(ca:jv n st)(hn:n≤300)(v:Vl):NF 52 #[pB b 0,v.v] Z (bJ b st::F) (iw (kH st v)):=by
 refine bO Tryz.func52 29 (fun w0=>?_);have vJ:=ca.len;refine bn<|bj (vc v) (fun g1=>?_)
 refine go ?_;refine sC [1] (acU (st:=st) ca om v ⟨#[95,95,109,111,100,101]⟩) ?_;refine ae (.agg zc) zc (fun g2=>?_);refine gc ?_;refine eF 13 (fun p4=>?_) (fun q3=>?_)
 .refine go ?_;refine ad _ _ (SI.tmp 4 SI.nil) rA ⟨cI ?_,rfl⟩;unfold kH;simp_all
 have p5:=Decidable.not_not.1 q3;refine gc ?_;refine b9 (fun p7=>?_) (fun q6=>?_)
 .refine go ?_;refine ad _ _ (SI.tmp 4 SI.nil) rA ⟨cI ?_,rfl⟩;unfold kH;simp_all
 have p8:=Decidable.not_not.1 q6;refine go ?_;refine sV (fun _ h=>Cm ((ud st v ⟨#[95,95,109,111,100,101]⟩).str) 107)<|bH<|kd (fun c9=>?_) (fun c9=>?_)
 .refine bd<|sP (iw 0)<|sL (Lt.to (v':=iw 1) (Zn 0 1) (by kernel_rfl)) ?_
  refine go ?_;refine sV (fun _ h=>Cm ((ud st v ⟨#[95,95,109,111,100,101]⟩).str) 118)<|bH<|kd (fun l4=>?_) (fun l4=>?_)
  .refine bd<|sP (iw 1)<|sL (Lt.to (v':=iw 3) (Zn 1 2) (by kernel_rfl)) ?_
   refine go ?_;refine ad _ _ (SI.tmp 4 SI.nil) rA ⟨cI ?_,rfl⟩;unfold kH;simp_all
  refine go ?_;refine ad _ _ (SI.tmp 4 SI.nil) rA ⟨cI ?_,rfl⟩;unfold kH;simp_all
 refine go ?_;refine sV (fun _ h=>Cm ((ud st v ⟨#[95,95,109,111,100,101]⟩).str) 118)<|bH<|kd (fun ff=>?_) (fun ff=>?_)
 .refine bd<|sP (iw 0)<|sL (Lt.to (v':=iw 2) (Zn 0 2) (by kernel_rfl)) ?_
  refine go ?_;refine ad _ _ (SI.tmp 4 SI.nil) rA ⟨cI ?_,rfl⟩;unfold kH;simp_all
 refine go ?_;refine ad _ _ (SI.tmp 4 SI.nil) rA ⟨cI ?_,rfl⟩;unfold kH;simp_all
theorem Qm(ca:jv n st)(hn:n≤300)(v:Vl):NF 43 #[pB b 0,v.v] Z (bs b st::F) (iw (kH st v)):=by
 refine bO Tryz.func43 27 (fun w0=>?_);have vJ:=ca.len;refine bk (fun H h=>od (rB h)) (fun AU=>?_);refine bn ?_;refine bj (vc v) (fun g1=>?_);refine gc ?_;refine b9 (fun p3=>?_) (fun q2=>?_)
 .refine go ?_;refine ad _ _ (SI.tmp 4 SI.nil) rA ⟨cI ?_,rfl⟩;unfold kH;simp_all
 have p4:=Decidable.not_not.1 q2;refine go ?_;refine sC [1] (YN (st:=st) ca om v ⟨#[95,95,109,111,100,101]⟩) ?_;refine ae (.agg zc) zc (fun g5=>?_);refine gc ?_;refine b9 (fun p7=>?_) (fun q6=>?_)
 .refine go ?_;refine ad _ _ (SI.tmp 4 SI.nil) rA ⟨cI ?_,rfl⟩;unfold kH;simp_all
 have p8:=Decidable.not_not.1 q6;refine go ?_;refine sV (fun _ h=>Hc ((ud st v ⟨#[95,95,109,111,100,101]⟩).str) 107 (vi (vh AU _ _) om)) ?_;refine bH ?_;refine kd (fun c9=>?_) (fun c9=>?_)
 .refine gy ?_;refine sV (fun _ h=>Hc ((ud st v ⟨#[95,95,109,111,100,101]⟩).str) 118 (vi (vh AU _ _) om)) ?_;refine bH ?_;refine kd (fun l4=>?_) (fun l4=>?_)
  .refine gy ?_;refine ad _ _ (SI.tmp 4 SI.nil) rA ⟨cI ?_,rfl⟩;unfold kH;simp_all
  refine go ?_;refine ad _ _ (SI.tmp 4 SI.nil) rA ⟨cI ?_,rfl⟩;unfold kH;simp_all
 refine go ?_;refine sV (fun _ h=>Hc ((ud st v ⟨#[95,95,109,111,100,101]⟩).str) 118 (vi (vh AU _ _) om)) ?_;refine bH ?_;refine kd (fun ff=>?_) (fun ff=>?_)
 .refine gy ?_;refine ad _ _ (SI.tmp 4 SI.nil) rA ⟨cI ?_,rfl⟩;unfold kH;simp_all
 refine go ?_;refine ad _ _ (SI.tmp 4 SI.nil) rA ⟨cI ?_,rfl⟩;unfold kH;simp_all
/-! ### What a table refers to after a write -/
def VA(A:Int→Prop)(v:Vl):Prop:=cJ v=0∨A (cJ v)
structure TA'(A:Int→Prop)(T:Tb):Prop where
 list:∀v∈T.list,VA A v
 rest:∀s∈T.rest,s.gone=false→VA A s.key∧VA A s.val
theorem tZ(h:v.kind=0):VA A v:=.inl (by unfold cJ isRef;simp[h])
theorem Qn(h:v.kind=2):VA A v:=.inl (by unfold cJ isRef;simp[h])
theorem ZS(A:Int→Prop)(n:Int):VA A (ey n):=by
 unfold ey;split
 .exact tZ rfl
 grind[Qn]
theorem UC(hS:dG S)(h:∀s∈S,s.gone=false→VA A s.key∧VA A s.val)(k:Vl):VA A (ei S k):=by
 cases hl:bz S k with
 | none=>rw[jU hl];exact tZ rfl
 | some i=>
  cases hi:S[i]? with
  | none=>unfold ei;rw[hl];simp[hi];exact tZ rfl
  | some s=>
   rw[jn hl hi];have hm:=List.mem_of_getElem? hi;cases hg:s.gone with
   | true=>rw[hS.zero s hm hg];exact tZ rfl
   | false=>exact (h s hm hg).2
theorem IT(hS:dG S)(h:∀s∈S,s.gone=false→VA A s.key∧VA A s.val):∀(f:Nat) (L:List Vl) (v:Vl),(∀x∈L,VA A x)→VA A v→∀x∈grow S f L v,VA A x
 | 0,L,v,hL,_=>hL
 | f+1,L,v,hL,hv=>by
  rw[grow];split
  .omega
  refine IT hS h f _ _ (fun x hx=>?_) (UC hS h _);grind
theorem UD(hT:kM T)(h:TA' A T)(hk:VA A k)(hv:VA A v):TA' A (ez T k v):=by
 unfold ez;split
 .omega
 split
 .omega
 split
 .refine ⟨fun x hx=>?_,h.rest⟩;rcases List.mem_or_eq_of_mem_set (HN hx) with hx|rfl
  .exact h.list x hx
  omega
 split
 .refine ⟨IT hT.rest h.rest _ _ _ h.list hv,fun s hs hg=>?_⟩;have:s∈T.rest:=by grind[pt,iJ,dq]
  exact h.rest s this hg
 refine⟨h.list,fun s hs hg=>?_⟩;have hs:s∈cZ T.rest k v:=hs;have e1:¬cS k=false:=by assumption
 have e2:¬au v=false:=by assumption
 unfold cZ at hs;rw[if_neg e1,if_neg e2]at hs;by_cases h0:v.kind=0
 .rw [if_pos h0]at hs;cases ht:dw T.rest k with
  | none=>rw[ht]at hs;exact h.rest s hs hg
  | some i=>
   rw[ht]at hs;rcases List.mem_or_eq_of_mem_set hs with hs|rfl
   .exact h.rest s hs hg
   grind
 rw[if_neg h0]at hs;cases ht:dw T.rest k with
 | some i=>
  rw[ht]at hs;rcases List.mem_or_eq_of_mem_set hs with hs|rfl
  .exact h.rest s hs hg
  grind
 | none=>
  rw[ht]at hs;have hs:s∈(if fo T.rest+8<T.rest.length-fo T.rest then live T.rest else T.rest)++[⟨k,v,false⟩]:=hs;rcases List.mem_append.1 hs with hs|hs
  .refine h.rest s ?_ hg;grind[dq]
  grind
theorem adk(h:∀e∈dC T,∀z∈j5 e,z≠0→A z):TA' A T:=by
 have key:∀p∈a7 T,VA A p.1∧VA A p.2:=by
  intro p hp;by_cases e:(⟨cJ p.1,cJ p.2⟩:iF)=⟨0,0⟩
  .exact ⟨.inl (congrArg iF.key e),.inl (congrArg iF.val e)⟩
  have hm:(⟨cJ p.1,cJ p.2⟩:iF)∈dC T:=by
   unfold dC iB;grind
  have h1:=h _ hm (cJ p.1) (by simp[j5]);have h2:=h _ hm (cJ p.2) (by simp[j5]);exact⟨(Classical.em _).imp (fun h=>h) h1,(Classical.em _).imp (fun h=>h) h2⟩
 refine⟨fun v hv=>?_,fun s hs hg=>?_⟩
 .by_cases h0:v.kind=0
  .grind[tZ]
  have gen:∀(L:List Vl) (i:Nat),v∈L→∃q,(q,v)∈gF L i:=by
   intro L;induction L with
   | nil=>intro i h;cases h
   | cons a r ih=>
    intro i h;rw[gF];rcases List.mem_cons.1 h with rfl|h
    .grind
    obtain⟨q,hq⟩:=ih (i+1) h;grind
  obtain⟨q,hq⟩:=gen T.list 0 hv;exact (key (q,v) (by unfold a7;exact List.mem_append.2 (.inl hq))).2
 exact key (s.key,s.val) (by unfold a7 pL;exact List.mem_append.2 (.inr (List.mem_map.2 ⟨s,dq.2 ⟨hs,hg⟩,rfl⟩)))
theorem adl(h:TA' A T):∀e∈dC T,∀z∈j5 e,z≠0→A z:=by
 intro e he z hz h0;unfold dC iB at he;obtain⟨he,_⟩:=List.mem_filter.1 he;obtain⟨p,hp,rfl⟩:=List.mem_map.1 he;have key:VA A p.1∧VA A p.2:=by
  unfold a7 at hp;rcases List.mem_append.1 hp with hp|hp
  .have gen:∀(L:List Vl) (i:Nat),(∀v∈L,VA A v)→∀p∈gF L i,VA A p.1∧VA A p.2:=by
    intro L;induction L with
    | nil=>intro i _ p hp;cases hp
    | cons a r ih=>
     intro i hL p hp;rw[gF]at hp;split at hp
     .rcases List.mem_cons.1 hp with rfl|hp
      .grind[ZS]
      exact ih _ (fun x hx=>hL x (List.mem_cons_of_mem _ hx)) p hp
     exact ih _ (fun x hx=>hL x (List.mem_cons_of_mem _ hx)) p hp
   exact gen _ _ h.list p hp
  unfold pL at hp;obtain⟨s,hs,rfl⟩:=List.mem_map.1 hp;obtain⟨h1,h2⟩:=dq.1 hs;exact h.rest s h1 h2
 simp only[j5,List.mem_cons,List.not_mem_nil,or_false]at hz;rcases hz with rfl|rfl
 .exact key.1.resolve_left h0
 exact key.2.resolve_left h0
section
variable{st jx:bp}{R G:List Int}{s:dU}{k N:Nat}{x y z a b:Int}{L:List Int}
theorem Bk(h:aw st x=true):x≠0:=by
 obtain⟨o,ho⟩:=jh.1 h;have:=(get_mem ho).2.1;omega
theorem za(h:st.get x=some o):eJ st x=n' o++(if o.kind=4 then dC o.tab else []).flatMap j5:=by
 have ho:=iC h 0;grind[eJ]
theorem zb(h:jx.get x=st.get x):eJ jx x=eJ st x:=by grind[eJ,hrefs,aY]
structure Wr(st jx:bp)(a b:Int):Prop where
 al:∀x,aw jx x=aw st x
 other:∀x,x≠a→eJ jx x=eJ st x
 it:∀z∈eJ jx a,z≠0→z∈eJ st a∨z=b
theorem Wr.refl(st:bp)(a b:Int):Wr st st a b:=⟨fun _=>rfl,fun _ _=>rfl,fun z hz _=>.inl hz⟩
theorem IU(hi:fe st){t k:Vl}(hk:k.kind=2):Wr st (hset st t k v) t.ref (cJ v):=by
 rcases jY st t k v with ⟨_,e,_⟩|⟨_,_,_,e,_⟩|⟨_,_,_,_,e,_⟩|⟨T,o,h1,h2,h3,hv,h4,h5,h6,h7,e,_⟩
 .rw [e];exact .refl _ _ _
 .rw [e];exact .refl _ _ _
 .rw [e];exact .refl _ _ _
 have hg:∀y,(hset st t k v).get y=if y=t.ref then some { o with tab:=ez T k v } else st.get y:=fun y=>by grind[AH,jG]
 refine⟨fun y=>?_,fun y hy=>zb (by grind),fun z hz h0=>?_⟩
 .grind[aw]
 have Wh:=hg t.ref;rw[if_pos rfl]at Wh;rw[za Wh]at hz;rw[za h4];have h5':({ o with tab:=ez T k v }:kX).kind=4:=h5;rw[if_pos h5']at hz;rw[if_pos h5];rcases List.mem_append.1 hz with hz|hz
 .exact .inl (List.mem_append.2 (.inl hz))
 obtain⟨en,Gs,hzn⟩:=List.mem_flatMap.1 hz;have hA:TA' (fun z=>z∈(dC o.tab).flatMap j5∨z=cJ v) (ez T k v):=by
  have hTI:kM T:=by rw[←h7];exact (hi.obs o (get_mem h4).1).tab
  refine UD hTI ?_ (Qn hk) (Classical.em _ |>.imp (fun h=>h) fun _=>.inr rfl);grind[adk]
 grind[adl]
/-! ### The invariant -/
structure KI(st:bp)(R:List Int)(s:dU):Prop where
 col:s.ph=1→∀x,s.col x=0∨s.col x=1∨s.col x=2
 gray:s.ph=1→∀x,s.col x=1→x∈s.Q
 mark:s.ph=1→∀x,aw st x=true→s.col x=2→∀z∈eJ st x,aw st z=true→s.col z≠0
 swc:s.ph=2→∀x,aw st x=true→¬s.doom x→∀z∈eJ st x,aw st z=true→¬s.doom z
 rts:s.ph=2→∀x∈s.rts R,aw st x=true→¬s.doom x
theorem KI.zero(h:s.ph=0):KI st R s:=by constructor<;>intro q<;>omega
structure EV(st:bp)(c:Int→Int)(Q:List Int)(c':Int→Int)(Q':List Int):Prop where
 keep:∀x,c x≠0→c' x=c x
 new:∀x,c x=0→c' x=0∨(c' x=1∧x∈Q')
 sub:∀x∈Q,x∈Q'
theorem ZT(st:bp)(c:Int→Int)(Q:List Int)(id:Int):EV st c Q (j6 st c id) (kR st c Q id):=by
 unfold j6 kR;by_cases q:aw st id=true∧c id=0
 .rw [if_pos q,if_pos q];refine⟨fun x hx=>iI fun e=>hx (by grind),fun x hx=>?_,fun x hx=>List.mem_append.2 (.inl hx)⟩;grind[np,iI]
 rw[if_neg q,if_neg q];exact⟨fun _ _=>rfl,fun x hx=>.inl hx,fun x hx=>hx⟩
theorem EV.trans{c c1 c2:Int→Int}{Q1 Q2:List Int}(h1:EV st c Q c1 Q1)(h2:EV st c1 Q1 c2 Q2):EV st c Q c2 Q2 where
 keep x hx:=by rw[h2.keep x (by rw[h1.keep x hx];exact hx)];exact h1.keep x hx
 new x hx:=by
  rcases h1.new x hx with e|⟨e,hq⟩
  .exact h2.new x e
  exact .inr ⟨by rw[h2.keep x om];exact e,h2.sub x hq⟩
 sub x hx:=h2.sub x (h1.sub x hx)
theorem Cn(st:bp)(X:List Int):∀(c:Int→Int) (Q:List Int),EV st c Q (rchA st (c,Q) X).1 (rchA st (c,Q) X).2:=by
 induction X with
 | nil=>exact fun c Q=>⟨fun _ _=>rfl,fun x hx=>.inl hx,fun x hx=>hx⟩
 | cons a r ih=>exact fun c Q=>(ZT st c Q a).trans (ih (j6 st c a) (kR st c Q a))
theorem EW{c:Int→Int}(ha:aw st x=true):j6 st c x x≠0:=by
 unfold j6;grind[np]
theorem EX(st:bp)(X:List Int):∀(c:Int→Int) (Q:List Int),∀z∈X,aw st z=true→(rchA st (c,Q) X).1 z≠0:=by
 induction X with
 | nil=>intro c Q z hz;cases hz
 | cons a r ih=>
  intro c Q z hz ha;rcases List.mem_cons.1 hz with rfl|hz
  .have h1:=EW (c:=c) ha;have h2:=(Cn st r (j6 st c z) (kR st c Q z)).keep z h1;show (rchA st (j6 st c z,kR st c Q z) r).1 z≠0;omega
  exact ih (j6 st c a) (kR st c Q a) z hz ha
theorem EV.colp{c c':Int→Int}{Q':List Int}(h:EV st c Q c' Q')(hc:∀x,c x=0∨c x=1∨c x=2)(hg:∀x,c x=1→x∈Q):(∀x,c' x=0∨c' x=1∨c' x=2)∧(∀x,c' x=1→x∈Q')∧(∀x,c' x=2→c x=2)∧(∀x,c x≠0→c' x≠0):=by
 refine⟨fun x=>?_,fun x hx=>?_,fun x hx=>?_,fun x hx=>by rw[h.keep x hx];exact hx⟩
 .rcases hc x with e|e|e
  .rcases h.new x e with e|⟨e,_⟩<;>omega
  .have:=h.keep x om;omega
  have:=h.keep x om;omega
 .rcases hc x with e|e|e
  .rcases h.new x e with e|⟨_,e⟩
   all_goals omega
  .exact h.sub x (hg x e)
  have:=h.keep x om;omega
 rcases hc x with e|e|e
 .rcases h.new x e with e|⟨e,_⟩<;>omega
 .have:=h.keep x om;omega
 omega
theorem KI.bgn:KI st R (bgn st R s):=by
 have h:=Cn st (s.rts R) c0 [];obtain⟨h1,h2,h3,_⟩:=h.colp (fun x=>.inl rfl) (fun x hx=>absurd hx (show ¬(0:Int)=1 by decide));exact⟨fun _=>h1,fun _=>h2,fun _ x _ hx=>absurd (h3 x hx) (show ¬(0:Int)=2 by decide),fun q=>absurd q (show ¬(1:Int)=2 by decide),fun q=>absurd q (show ¬(1:Int)=2 by decide)⟩
theorem KI.setl(h:KI st R s)(h1:s.ph=1):KI st R (setl st R s):=by
 by_cases q:s.ph=1∧s.Q=[]
 .have hr:=Cn st (s.rts R) s.col [];have Wh:=EX st (s.rts R) s.col [];obtain⟨k1,k2,k3,k4⟩:=hr.colp (h.col h1) (by have:=h.gray h1;rw[q.2]at this;exact this);have km:∀x,aw st x=true→(rchA st (s.col,[]) (s.rts R)).1 x=2→∀z∈eJ st x,aw st z=true→(rchA st (s.col,[]) (s.rts R)).1 z≠0:=fun x hx h2 z hz vR=>k4 z (h.mark h1 x hx (k3 x h2) z hz vR)
  unfold Go.Proofs.YtmhpcebiamkciaaGreat.setl;rw[if_pos q];by_cases e:(rchA st (s.col,[]) (s.rts R)).2=[]
  .rw [if_pos e];refine⟨fun q=>absurd q (show ¬(2:Int)=1 by decide),fun q=>absurd q (show ¬(2:Int)=1 by decide),fun q=>absurd q (show ¬(2:Int)=1 by decide),fun _ x hx hd z hz vR hdz=>?_,fun _ x hx hxl hd=>?_⟩
   .have hc:(rchA st (s.col,[]) (s.rts R)).1 x≠0:=fun e0=>hd ⟨rfl,e0,dj.2 hx⟩
    have h2:(rchA st (s.col,[]) (s.rts R)).1 x=2:=by grind
    exact km x hx h2 z hz vR hdz.2.1
   exact Wh x hx hxl hd.2.1
  rw[if_neg e];have mL:¬s.ph=2:=by omega
  exact⟨fun _=>k1,fun _=>k2,fun _=>km,fun q=>absurd q mL,fun q=>absurd q mL⟩
 grind[Go.Proofs.YtmhpcebiamkciaaGreat.setl]
theorem KI.mrk(h:KI st R s)(h1:s.ph=1):KI st R (mrk st s):=by
 unfold Go.Proofs.YtmhpcebiamkciaaGreat.mrk;split
 .rename_i x Q e;have hr:=Cn st (eJ st x) s.col Q;have Wh:=EX st (eJ st x) s.col Q;have hc:=h.col h1;have hg:=h.gray h1;have hm:=h.mark h1;rw[e]at hg;have mL:¬s.ph=2:=by omega
  have c3:∀y,y≠x→(rchA st (s.col,Q) (eJ st x)).1 y=2→s.col y=2:=fun y hy h2=>by
   rcases hc y with e0|e0|e0
   .rcases hr.new y e0 with e1|⟨e1,_⟩<;>omega
   .have:=hr.keep y om;omega
   omega
  refine⟨fun _ y=>?_,fun _ y hy=>?_,fun _ y hy h2 z hz vR=>?_,fun q=>absurd q mL,fun q=>absurd q mL⟩
  .show dh _ x 2 y=0∨dh _ x 2 y=1∨dh _ x 2 y=2;unfold dh;split
   .omega
   rcases hc y with e0|e0|e0
   .rcases hr.new y e0 with e1|⟨e1,_⟩<;>omega
   .have:=hr.keep y om;omega
   have:=hr.keep y om;omega
  .have hy:dh (rchA st (s.col,Q) (eJ st x)).1 x 2 y=1:=hy;unfold dh at hy;split at hy
   .omega
   rename_i hyx
   rcases hc y with e0|e0|e0
   .rcases hr.new y e0 with e1|⟨_,e1⟩
    all_goals omega
   .rcases List.mem_cons.1 (hg y e0) with e1|e1
    .omega
    exact hr.sub y e1
   have:=hr.keep y om;omega
  have h2:dh (rchA st (s.col,Q) (eJ st x)).1 x 2 y=2:=h2;show dh (rchA st (s.col,Q) (eJ st x)).1 x 2 z≠0;unfold dh;split
  .decide
  by_cases hyx:y=x
  .grind
  rw[iI hyx]at h2;have:=hm y hy (c3 y hyx h2) z hz vR;rw[hr.keep z this];exact this
 omega
theorem Qo(h:y≠x):eJ (dA st x) y=eJ st y:=by grind[zb,kg]
theorem KI.swp(hc:CI N st s)(h:KI st R s)(h2:s.ph=2)(hL:s.L=x::L):KI (swp st s).1 R (swp st s).2:=by
 obtain⟨hn,_⟩:=hc.l h2;rw[hL,List.nodup_cons]at hn;by_cases e:s.col x=0
 .rw [qO hL e];have hd:∀y,y≠x→(({ s with L:=L,Fr:=s.Fr++[x] }:dU).doom y↔s.doom y):=fun y hy=>by grind[dU.doom]
  have l7:∀y,aw (dA st x) y=true→y≠x∧aw st y=true:=fun y hy=>by grind[ma]
  refine⟨fun q=>?_,fun q=>?_,fun q=>?_,fun _ y hy IV z hz vR hdz=>?_,fun _ y hy UE IV=>?_⟩
  .grind
  .grind
  .grind
  .obtain ⟨n1,a1⟩:=l7 y hy;obtain⟨n2,a2⟩:=l7 z vR;rw[Qo n1]at hz;exact h.swc h2 y a1 (fun q=>IV ((hd y n1).2 q)) z hz a2 ((hd z n2).1 hdz)
  obtain⟨n1,a1⟩:=l7 y UE;exact h.rts h2 y hy a1 ((hd y n1).1 IV)
 rw[qP hL e];have hd:∀y,(({ s with L:=L,col:=dh s.col x 0 }:dU).doom y↔s.doom y):=fun y=>by grind[dU.doom,iI]
 refine⟨fun q=>?_,fun q=>?_,fun q=>?_,fun _ y hy IV z hz vR hdz=>?_,fun _ y hy UE IV=>?_⟩
 .grind
 .grind
 .grind
 .exact h.swc h2 y hy (fun q=>IV ((hd y).2 q)) z hz vR ((hd z).1 hdz)
 exact h.rts h2 y hy UE ((hd y).1 IV)
theorem KI.fin(h:KI st R s):KI st R (cK s):=by
 by_cases e:s.L=[]
 .rw [gU e];exact .zero rfl
 grind[qN]
def Hd(st:bp)(R:List Int)(jx:bp):Prop:=∀x,Rq (aw st) (eJ st) R x→Rq (aw jx) (eJ jx) R x
theorem Hd.refl:Hd st R st:=fun _ h=>h
theorem Hd.trans{LF:bp}(h1:Hd st R jx)(h2:Hd jx R LF):Hd st R LF:=fun x h=>h2 x (h1 x h)
/-! ### Writes -/
theorem CI.mono(h:CI N st s)(hm:N≤M):CI M st s:=⟨h.ph,h.q,h.q0,h.l,h.l0,Nat.le_trans h.fr hm,Nat.le_trans h.gp hm,h.sm.mono hm,h.w,h.i⟩
theorem CI.heap(h:CI N st s)(wH:∀x,aw st x=true→aw jx x=true)(hl:(aQ jx).length+N≤(aQ st).length+M)(hm:N≤M)(hs:jv M jx)(hw:HW jx)(hi:fe jx):CI M jx s:=
 ⟨h.ph,fun q=>⟨(h.q q).1,fun x hx=>⟨wH x ((h.q q).2 x hx).1,((h.q q).2 x hx).2⟩⟩,h.q0,fun q=>⟨(h.l q).1,fun x hx=>wH x ((h.l q).2 x hx)⟩,h.l0,by have:=h.fr;omega,Nat.le_trans h.gp hm,hs,hw,hi⟩
theorem Ld(h:∀x,aw jx x=aw st x):aQ jx=aQ st:=by grind[Ej,iR,dj]
theorem CI.wrt(h:CI N st s)(a b:Int):CI N st (wrt st s a b):=by
 unfold Go.Proofs.YtmhpcebiamkciaaGreat.wrt;split
 .rename_i q;exact⟨h.ph,fun _=>(h.q q.2.1).rch b,fun e=>absurd q.2.1 e,h.l,h.l0,h.fr,h.gp,h.sm,h.w,h.i⟩
 omega
theorem KI.wrt(h:KI st R s)(hw:Wr st jx a b)(ha:aw st a=true)(hab:s.ph=2→¬s.doom a→¬s.doom b)(hra:s.ph=2→¬s.doom a):KI jx R (wrt jx s a b):=by
 have qW:∀y z,z∈eJ jx y→aw jx z=true→z∈eJ st y∨(y=a∧z=b):=fun y z hz vR=>by
  by_cases e:y=a
  .subst e;rcases hw.it z hz (Bk vR) with e|e
   all_goals grind
  rw[hw.other y e]at hz;exact .inl hz
 unfold Go.Proofs.YtmhpcebiamkciaaGreat.wrt;split
 .rename_i q;have h1:=q.2.1;obtain⟨k1,k2,k3,k4⟩:=(ZT jx s.col s.Q b).colp (h.col h1) (h.gray h1);have mL:¬s.ph=2:=by omega
  refine⟨fun _=>k1,fun _=>k2,fun _ y hy h2 z hz vR=>?_,fun q=>absurd q mL,fun q=>absurd q mL⟩;rcases qW y z hz vR with e|⟨_,e⟩
  .exact k4 z (h.mark h1 y (by rw[←hw.al];exact hy) (k3 y h2) z e (by rw[←hw.al];exact vR))
  grind[EW]
 rename_i q
 refine⟨h.col,h.gray,fun h1 y hy h2 z hz vR=>?_,fun h2 y hy hd z hz vR=>?_,fun h2 y hy UE=>h.rts h2 y hy (by rw[←hw.al];exact UE)⟩
 .rcases qW y z hz vR with e|⟨e,_⟩
  .exact h.mark h1 y (by rw[←hw.al];exact hy) h2 z e (by rw[←hw.al];exact vR)
  grind
 rcases qW y z hz vR with e|⟨_,e⟩
 .exact h.swc h2 y (by rw[←hw.al];exact hy) hd z e (by rw[←hw.al];exact vR)
 grind
/-! ### Births -/
theorem ua:y∈mO L id↔y∈L∧y≠id:=by grind[mO]
theorem CI.brt(h:CI N st s)(id:Int):CI N st (brt st s id):=by
 unfold Go.Proofs.YtmhpcebiamkciaaGreat.brt;split
 .rename_i ha;split
  .rename_i h1;have mL:¬s.ph=2:=by omega
   refine⟨h.ph,fun _=>⟨(h.q h1).1.filter _,fun y hy=>?_⟩,fun e=>absurd h1 e,fun e=>absurd e mL,h.l0,h.fr,h.gp,h.sm,h.w,h.i⟩;obtain⟨y1,y2⟩:=ua.1 hy;exact⟨((h.q h1).2 y y1).1,by show dh s.col id 2 y≠0;rw[iI y2];exact ((h.q h1).2 y y1).2⟩
  rename_i h1
  refine⟨h.ph,fun e=>absurd e h1,h.q0,fun e=>⟨(h.l e).1.filter _,fun y hy=>(h.l e).2 y (ua.1 hy).1⟩,fun e=>?_,h.fr,h.gp,h.sm,h.w,h.i⟩;show mO s.L id=[];rw[h.l0 e];rfl
 omega
structure Brn(st jx:bp)(id:Int):Prop where
 al:∀x,x≠id→aw jx x=aw st x
 rf:∀x,x≠id→eJ jx x=eJ st x
 dead:aw st id=false
 new:eJ jx id=[]
theorem Brn.keep(h:Brn st jx a):Hd st R jx:=fun x hx=>by
 induction hx with
 | root h1 ha=>exact .root h1 (by rw[h.al _ fun e=>by rw[e,h.dead]at ha;cases ha];exact ha)
 | step h1 hz ha ih=>
  have n1:=VZ h1;exact .step ih (by rw[h.rf _ fun e=>by rw[e,h.dead]at n1;cases n1];exact hz) (by rw[h.al _ fun e=>by rw[e,h.dead]at ha;cases ha];exact ha)
theorem KI.brt(h:KI st R s)(hb:Brn st jx a)(ha:aw jx a=true):KI jx (R++[a]) (brt jx s a):=by
 unfold Go.Proofs.YtmhpcebiamkciaaGreat.brt;rw[if_pos ha];split
 .rename_i h1;have mL:¬s.ph=2:=by omega
  refine⟨fun _ y=>?_,fun _ y hy=>?_,fun _ y hy h2 z hz vR=>?_,fun q=>absurd q mL,fun q=>absurd q mL⟩
  .show dh _ a 2 y=0∨dh _ a 2 y=1∨dh _ a 2 y=2;unfold dh;split
   .omega
   exact h.col h1 y
  .have hy:dh s.col a 2 y=1:=hy;unfold dh at hy;split at hy
   .omega
   exact ua.2 ⟨h.gray h1 y hy,by assumption⟩
  have h2:dh s.col a 2 y=2:=h2;show dh s.col a 2 z≠0;unfold dh;split
  .decide
  rename_i hza
  by_cases LV:y=a
  .subst LV;rw[hb.new]at hz;cases hz
  rw[iI LV]at h2;rw[hb.rf y LV]at hz;exact h.mark h1 y (by rw[←hb.al y LV];exact hy) h2 z hz (by rw[←hb.al z hza];exact vR)
 rename_i h1
 have hd:∀y,y≠a→(({ s with col:=dh s.col a 0,L:=mO s.L a }:dU).doom y↔s.doom y):=fun y hy=>by grind[dU.doom,ua,iI]
 have ha':¬({ s with col:=dh s.col a 0,L:=mO s.L a }:dU).doom a:=fun q=>(ua.1 q.2.2).2 rfl
 refine⟨fun q=>absurd q h1,fun q=>absurd q h1,fun q=>absurd q h1,fun h2 y hy IV z hz vR=>?_,fun h2 y hy UE=>?_⟩
 .by_cases hza:z=a
  .grind
  by_cases LV:y=a
  .subst LV;rw[hb.new]at hz;cases hz
  rw[hb.rf y LV]at hz;exact fun q=>h.swc h2 y (by rw[←hb.al y LV];exact hy) (fun q=>IV ((hd y LV).2 q)) z hz (by rw[←hb.al z hza];exact vR) ((hd z hza).1 q)
 by_cases LV:y=a
 .grind
 have hy':y∈s.rts R:=by grind[dU.rts]
 exact fun q=>h.rts h2 y hy' (by rw[←hb.al y LV];exact UE) ((hd y LV).1 q)
theorem EY(hc:¬65536≤st.count):Brn st (bY st (eg 4 0 eb [])) ((st.objs.length:Int)+1):=by
 have hg:∀y,(bY st (eg 4 0 eb [])).get y=if y=(st.objs.length:Int)+1 then some (eg 4 0 eb []) else st.get y:=fun y=>by grind[bY,m8]
 refine⟨fun y hy=>by unfold aw;rw[hg,if_neg hy],fun y hy=>zb (by grind),by unfold aw;rw[BG];rfl,?_⟩;rw[za (by rw[hg,if_pos rfl])];rfl
theorem He(hc:¬65536≤st.count):aw (bY st (eg 4 0 eb [])) ((st.objs.length:Int)+1)=true:=by grind[aw,bY,m8]
/-! ### Registrations -/
theorem Qp(reg:List Int)(id:Int):(gO reg id).length≤reg.length+1:=by grind[gO]
theorem CI.rgs(h:CI N st s)(id:Int):CI (N+1) st (rgs st s id):=by
 have hl:=Qp s.G id;have hg:=h.gp;unfold Go.Proofs.YtmhpcebiamkciaaGreat.rgs;split
 .split
  .rename_i q;exact⟨h.ph,fun _=>(h.q q.2).rch id,fun e=>absurd q.2 e,h.l,h.l0,by have:=h.fr;show s.Fr.length+_≤_;omega,by show (gO s.G id).length+s.P.length≤_;omega,h.sm.mono (Nat.le_succ N),h.w,h.i⟩
  exact⟨h.ph,h.q,h.q0,h.l,h.l0,by have:=h.fr;show s.Fr.length+_≤_;omega,by show (gO s.G id).length+s.P.length≤_;omega,h.sm.mono (Nat.le_succ N),h.w,h.i⟩
 exact h.mono (Nat.le_succ N)
theorem Qq(h:y∈gO reg id):y∈reg∨y=id:=by grind[gO]
theorem KI.rgs(h:KI st R s)(id:Int):KI st R (rgs st s id):=by
 unfold Go.Proofs.YtmhpcebiamkciaaGreat.rgs;split
 .rename_i ha;split
  .rename_i q;have h1:=q.2;obtain⟨k1,k2,k3,k4⟩:=(ZT st s.col s.Q id).colp (h.col h1) (h.gray h1);have mL:¬s.ph=2:=by omega
   exact⟨fun _=>k1,fun _=>k2,fun _ y hy h2 z hz vR=>k4 z (h.mark h1 y hy (k3 y h2) z hz vR),fun q=>absurd q mL,fun q=>absurd q mL⟩
  refine⟨h.col,h.gray,h.mark,h.swc,fun h2 y hy UE=>?_⟩;have hy:y∈R++(gO s.G id++s.P):=hy;have:y∈s.rts R∨y=id:=by grind[dU.rts,Qq]
  rcases this with hy|hy
  .exact h.rts h2 y hy UE
  rw[hy];exact ha.2
 omega
end
/-! ### Entries and values -/
theorem Le(h0:v.kind≠0):∀(L:List Vl) (n i:Nat),L[i]?=some v→(ey (((n+i:Nat):Int)+1),v)∈gF L n:= by intro L;induction L<;>grind[gF]
theorem EZ:∀(L:List Vl) (n:Nat),p∈gF L n→∃i:Nat,L[i]?=some p.2∧p.1=ey (((n+i:Nat):Int)+1)∧p.2.kind≠0
 | [],n,h=>by cases h
 | a::r,n,h=>by
  rw[gF]at h;have go:p∈gF r (n+1)→∃i:Nat,(a::r)[i]?=some p.2∧p.1=ey (((n+i:Nat):Int)+1)∧p.2.kind≠0:=fun h=>by
   obtain⟨i,h1,h2,h3⟩:=EZ r (n+1) h;exact⟨i+1,by simpa using h1,by rw[h2,show n+1+i=n+(i+1) by omega],h3⟩
  grind
theorem Lf(h:kM T)(hw:TW T)(hl:T.list.length≤2147483646):(k,v)∈a7 T↔cS k=true∧kp T k=v∧v.kind≠0:=by
 constructor
 .intro hm;unfold a7 at hm;rcases List.mem_append.1 hm with hm|hm
  .obtain ⟨i,h1,h2,h3⟩:=EZ _ _ hm;have hi:=(List.getElem?_eq_some_iff.1 h1).1;simp only[Nat.zero_add]at h2;obtain⟨w1,w2,_⟩:=uB (n:=(i:Int)+1) om om;have WZ:k=ey ((i:Int)+1):=h2;rw[WZ];refine⟨w2,wG (jo.1 w2).1 (by rw[w1];omega) (by rw[w1];omega) (by rw[w1,show ((i:Int)+1-1).toNat=i by omega];exact h1),h3⟩
  unfold pL at hm;obtain⟨s,hs,e⟩:=List.mem_map.1 hm;obtain⟨rfl,rfl⟩:=Prod.mk.inj e;obtain⟨h1,h2⟩:=dq.1 hs;have hk:=h.rest.keys s h1;have hn:=hw s hs;refine⟨jo.2 ⟨hk.1,hk.2⟩,?_,(h.rest.vals s h1 h2).2⟩;rw[mW hk.1 (fun q=>by rw[eY.2 q]at hn;cases hn),nf h.rest hs]
 rintro⟨h1,h2,h3⟩;have hv:=(jo.1 h1).1;unfold a7;by_cases hb:1≤whole k∧whole k≤(T.list.length:Int)
 .have nC:(whole k-1).toNat<T.list.length:=by omega
  have hy:=List.getElem?_eq_getElem nC;rw[wG hv hb.1 hb.2 hy]at h2;rw[h2]at hy;have:=Le h3 T.list 0 _ hy;obtain⟨ek,_⟩:=ln (k:=k) rfl hb.1;rw[Nat.zero_add,show (((whole k-1).toNat:Nat):Int)+1=whole k by omega,←ek]at this;exact List.mem_append.2 (.inl this)
 rw[mW hv hb]at h2;refine List.mem_append.2 (.inr ?_);by_cases hx:∃s∈live T.rest,s.key=k
 .obtain ⟨s,hs,e⟩:=hx;rw[←e,nf h.rest hs]at h2;unfold pL;exact List.mem_map.2 ⟨s,hs,by rw[e,h2]⟩
 rw[ng h.rest fun s hs he=>hx ⟨s,hs,he⟩]at h2;rw[←h2]at h3;exact absurd rfl h3
/-! ### Frames -/
def Fr(st jx:bp):Prop:=∀x,∃T,jx.get x=(st.get x).map fun o=>{ o with tab:=T }
theorem Fr.refl(st:bp):Fr st st:=fun x=>by
 cases h:st.get x with
 | none=>exact⟨F8,rfl⟩
 | some o=>exact⟨o.tab,rfl⟩
theorem Fr.trans{a b c:bp}(h1:Fr a b)(h2:Fr b c):Fr a c:=fun x=>by
 obtain⟨T1,e1⟩:=h1 x;obtain⟨T2,e2⟩:=h2 x;refine⟨T2,?_⟩;rw[e2,e1];cases a.get x<;>rfl
section
variable{st jx LF:bp}{n:Nat}{x:Int}{k m:Vl}{D:Int→Vl→Prop}
theorem Fr.al(h:Fr st jx)(x:Int):aw jx x=aw st x:=by
 obtain⟨T,e⟩:=h x;grind[aw]
theorem Fr.refs(h:Fr st jx)(x:Int):hrefs jx x=hrefs st x:=by
 obtain⟨T,e⟩:=h x;unfold hrefs;rw[e];cases st.get x<;>rfl
structure Cl(st jx:bp)(D:Int→Vl→Prop):Prop where
 fr:Fr st jx
 get:∀id k,fT jx (bQ 4 id) k=fT st (bQ 4 id) k∨(D id k∧fT jx (bQ 4 id) k=bw)
theorem Cl.refl(st:bp)(D:Int→Vl→Prop):Cl st st D:=⟨.refl st,fun _ _=>.inl rfl⟩
theorem Cl.trans(h1 : Cl st jx D)(h2 : Cl jx LF D) : Cl st LF D := ⟨h1.fr.trans h2.fr, fun id k => by
  rcases h2.get id k with e | e
  · rw [e]; exact h1.get id k
  · exact .inr e⟩
theorem Hf(hg:st.get x=some o)(h4:o.kind=4)(k:Vl):fT st (bQ 4 x) k=kp o.tab k:=by grind[fT,nW,bQ,pG]
theorem adm(h:jv n st)(id:Int)(k:Vl):jv n (hset st (bQ 4 id) k bw):=by
 rcases jY st (bQ 4 id) k bw with ⟨_,e,_⟩|⟨_,_,_,e,_⟩|⟨_,_,_,_,e,_⟩|⟨T,o,h1,h2,h3,hv,h4,h5,h6,h7,e,_⟩
 .grind
 .grind
 .grind
 rw[e];have iZ:=h.obs o (get_mem h4).1;refine⟨by show (st.put _ _).objs.length≤n;rw[Ol];exact h.len,fun o' QZ=>?_⟩;rcases tg (show some o'∈(st.put (bQ 4 id).ref _).objs from QZ) with QZ|rfl
 .exact h.obs o' QZ
 have hl:(ez T k bw).list.length≤T.list.length∧(ez T k bw).rest.length≤T.rest.length:=by
  unfold ez;split
  .omega
  split
  .omega
  split
  .refine ⟨?_,Nat.le_refl _⟩;have:=wF (T.list.set (whole k-1).toNat bw);grind
  split
  .rename_i q;exact absurd rfl q.2
  refine⟨Nat.le_refl _,?_⟩;show (cZ T.rest k bw).length≤_;have e1:¬cS k=false:=by rw[h2];decide
  have e2:¬au bw=false:=by decide
  unfold cZ;rw[if_neg e1,if_neg e2,if_pos (show bw.kind=0 from rfl)];cases dw T.rest k with
  | none=>exact Nat.le_refl _
  | some i=>show (T.rest.set i _).length≤_;rw[List.length_set];exact Nat.le_refl _
 grind
theorem adn(hi:fe st)(hw:HW st)(hd:D id k):Cl st (hset st (bQ 4 id) k bw) D:=by
 rcases jY st (bQ 4 id) k bw with ⟨_,e,_⟩|⟨_,_,_,e,_⟩|⟨_,_,_,_,e,_⟩|⟨T,o,h1,h2,h3,hv,h4,h5,h6,h7,e,_⟩
 .rw [e];exact .refl _ _
 .rw [e];exact .refl _ _
 .rw [e];exact .refl _ _
 have h4':st.get id=some o:=h4;have hg:∀y,(hset st (bQ 4 id) k bw).get y=if y=id then some { o with tab:=ez T k bw } else st.get y:=fun y=>by
  rw[e,AH];exact jG h4 y
 constructor
 .intro y;by_cases q:y=id
  .exact ⟨ez T k bw,by rw[hg,if_pos q,q,h4'];rfl⟩
  obtain⟨T2,e2⟩:=Fr.refl st y;exact⟨T2,by rw[hg,if_neg q];exact e2⟩
 intro oM k';by_cases q:oM=id
 .subst q;have hgi:=hg oM;rw[if_pos rfl]at hgi;rw[Hf hgi h5,Hf h4' h5];show kp (ez T k bw) k'=_∨_∧kp (ez T k bw) k'=_;have hTI:kM T:=by rw[←h7];exact (hi.obs o (get_mem h4).1).tab
  have hTW:TW T:=by rw[←h7];exact (hw o (get_mem h4).1).tw
  rw[Kc hTI hTW h2 (by decide),h7];by_cases e2:k'=k
  .subst e2;rw[if_pos rfl];exact .inr ⟨hd,rfl⟩
  rw[if_neg e2];exact .inl rfl
 refine .inl ?_;unfold fT fm dm;rw[show (bQ 4 oM).ref=oM from rfl,hg,if_neg q]
/-! ### A table cleared -/
def oT(X:List iF)(p:Vl×Vl):Bool:=decide ((⟨cJ p.1,cJ p.2⟩:iF)≠⟨0,0⟩)&&!decide ((⟨cJ p.1,cJ p.2⟩:iF)∈X)
def eI(X:List iF)(L:List (Vl×Vl)):List Vl:=(L.filter (oT X)).map Prod.fst
theorem IW{L:List (Vl×Vl)}(h:oT X p=true):eI X L++[p.1]=eI X (L++[p]):=by grind[eI]
theorem Hg{L:List (Vl×Vl)}(h:oT X p=false):eI X L=eI X (L++[p]):=by grind[eI]
theorem IX(X:List iF)(L:List (Vl×Vl)):(eI X L).length≤L.length:=by grind[eI]
def UF(st:bp)(id:Int):Tb:=match st.get id with
 | some o=>o.tab
 | none=>F8
def rmK(st:bp)(id:Int)(ks:List Vl):bp:=ks.foldl (fun st k=>hset st (bQ 4 id) k bw) st
theorem E0{y:Vl}(h:ks[i]?=some y):rmK st id (ks.take (i+1))=hset (rmK st id (ks.take i)) (bQ 4 id) y bw:=by
 unfold rmK;rw[List.take_add_one,h,List.foldl_append];rfl
def zd(st:bp)(id:Int)(X:List iF):bp:=rmK st id (eI X (a7 (UF st id)))
structure rn(n:Nat)(st:bp):Prop where
 i:fe st
 sm:jv n st
 w:HW st
theorem rn.rm(h:rn n st)(id:Int)(k:Vl):rn n (hset st (bQ 4 id) k bw):=⟨xV h.i _ _ _,adm h.sm id k,HW.set h.i h.w _ _ _⟩
theorem rn.rmK(h:rn n st)(id:Int)(ks:List Vl):rn n (rmK st id ks):=by
 unfold Go.Proofs.YtmhpcebiamkciaaGreat.rmK;induction ks generalizing st with
 | nil=>exact h
 | cons a r ih=>exact ih (h.rm id a)
theorem ZU(h:rn n st)(hd:∀k∈ks,D id k):Cl st (rmK st id ks) D:=by
 unfold Go.Proofs.YtmhpcebiamkciaaGreat.rmK;induction ks generalizing st with
 | nil=>exact .refl _ _
 | cons a r ih=>exact (adn h.i h.w (hd a (by simp))).trans (ih (h.rm id a) fun k hk=>hd k (List.mem_cons_of_mem _ hk))
def Dcs(st:bp)(cs:List Core)(id:Int)(k:Vl):Prop:=∃c∈cs,c.1=id∧c.2.2.1≠0∧oT c.2.2.2.2 (k,fT st (bQ 4 id) k)=true
def dk(st:bp)(cs:List Core):bp:=cs.foldl (fun st c=>if c.2.2.1≠0 then zd st c.1 c.2.2.2.2 else st) st
theorem sn(h:cs[i]?=some c):dk st (cs.take (i+1))=if c.2.2.1≠0 then zd (dk st (cs.take i)) c.1 c.2.2.2.2 else dk st (cs.take i):=by
 unfold dk;rw[List.take_add_one,h,List.foldl_append];rfl
theorem nx(h:jv n st)(hn:n≤300)(hg:st.get x=some o):o.tab.list.length≤2147483646:=by
 have:=(h.obs o (get_mem hg).1).2.1;have h2:n*(n+1)≤300*301:=Nat.mul_le_mul hn om;omega
theorem UG(h0:rn n st)(hn:n≤300)(h:rn n jx)(hc:Cl st jx (Dcs st cs))(hm:c∈cs)(hw:c.2.2.1≠0)(D3:∀o,st.get c.1=some o→o.kind=4):Cl st (zd jx c.1 c.2.2.2.2) (Dcs st cs):=by
 refine hc.trans (ZU h fun k hk=>?_);unfold eI at hk;obtain⟨p,hp,rfl⟩:=List.mem_map.1 hk;obtain⟨hp1,mL⟩:=List.mem_filter.1 hp;refine⟨c,hm,rfl,hw,?_⟩;unfold UF at hp1;cases hg:jx.get c.1 with
 | none=>rw[hg]at hp1;cases hp1
 | some o=>
  rw[hg]at hp1;have iZ:=h.i.obs o (get_mem hg).1;obtain⟨h1,h2,h3⟩:=(Lf (k:=p.1) (v:=p.2) iZ.tab (h.w o (get_mem hg).1).tw (nx h.sm hn hg)).1 hp1;have h4:o.kind=4:=by
   obtain⟨T,e⟩:=hc.fr c.1;rw[hg]at e;cases hx:st.get c.1 with
   | none=>rw[hx]at e;cases e
   | some o'=>grind
  have e1:fT jx (bQ 4 c.1) p.1=p.2:=(Hf hg h4 p.1).trans h2;rcases hc.get c.1 p.1 with e|⟨_,e⟩
  .grind
  rw[e1]at e;rw[e]at h3;exact absurd rfl h3
theorem sJ(h0:rn n st)(hn:n≤300)(cs:List Core)(hk:∀c∈cs,c.2.2.1≠0→∀o,st.get c.1=some o→o.kind=4):∀i,rn n (dk st (cs.take i))∧Cl st (dk st (cs.take i)) (Dcs st cs)
 | 0=>⟨h0,.refl _ _⟩
 | i+1=>by
  obtain⟨h1,h2⟩:=sJ h0 hn cs hk i;cases hc:cs[i]? with
  | none=>
   have e:cs.take (i+1)=cs.take i:=by rw[List.take_add_one,hc];simp
   grind
  | some c=>
   rw[sn hc];split
   .rename_i hw;exact⟨h1.rmK _ _,UG h0 hn h1 h2 (List.mem_of_getElem? hc) hw (hk c (List.mem_of_getElem? hc) hw)⟩
   grind
/-! ### Objects freed -/
def drps(st:bp)(F:List Int):bp:=F.foldl (fun st x=>dA st x) st
theorem Lg{F:List Int}(h:F[i]?=some y):drps st (F.take (i+1))=dA (drps st (F.take i)) y:=by
 unfold drps;rw[List.take_add_one,h,List.foldl_append];rfl
theorem rn.drop(h:rn n st)(x:Int):rn n (dA st x):=⟨tj h.i x,Ek h.sm x,Om h.w x⟩
theorem rn.drps(h:rn n st)(F:List Int):rn n (drps st F):=by
 unfold Go.Proofs.YtmhpcebiamkciaaGreat.drps;induction F generalizing st with
 | nil=>exact h
 | cons a r ih=>exact ih (h.drop a)
theorem C'(F:List Int)(y:Int):∀st:bp,(drps st F).get y=if y∈F then none else st.get y:=by
 unfold Go.Proofs.YtmhpcebiamkciaaGreat.drps;induction F with
 | nil=>intro st;simp
 | cons a r ih=>grind[kg]
/-! ### Weakness -/
end
theorem ub(v:Vl):NF 119 #[v.v] Z [] (iw (cJ v)):=by
 refine bO Tryz.func119 12 (fun w0=>?_);refine bn<|bj (vc v) (fun g1=>?_)
 refine gc ?_;refine kd (fun c2=>?_) (fun c2=>?_)
 .have p3:=dY c2;refine eT<|iy (hv:=cB c2) ?_
  refine go ?_;refine ad _ _ (SI.tmp 2 SI.nil) rA ⟨cI ?_,rfl⟩;unfold cJ isRef;simp[p3]
 have p4:=dF c2;refine gc ?_;refine kd (fun c5=>?_) (fun c5=>?_)
 .have p6:=dY c5;refine eT<|iy (hv:=cB c5) ?_
  refine go ?_;refine ad _ _ (SI.tmp 2 SI.nil) rA ⟨cI ?_,rfl⟩;unfold cJ isRef;simp[p4,p6]
 have p7:=dF c5;refine gc ?_;refine kd (fun c8=>?_) (fun c8=>?_)
 .have p9:=dY c8;refine eT<|iy (hv:=cB c8) ?_
  refine go ?_;refine ad _ _ (SI.tmp 2 SI.nil) rA ⟨cI ?_,rfl⟩;unfold cJ isRef;simp[p4,p7,p9]
 have gQ:=dF c8;refine gc ?_;refine b9 (fun my=>?_) (fun fL=>?_)
 .refine go ?_;refine ad _ _ (SI.tmp 2 SI.nil) rA ⟨cI ?_,rfl⟩;unfold cJ isRef;simp[p4,p7,gQ,my]
 refine go ?_;refine ad _ _ (SI.tmp 2 SI.nil) rA ⟨cI ?_,rfl⟩;unfold cJ isRef;simp[p4,p7,gQ,fL]
theorem Qr{L:List iF}(hL:Kn Z cq lv L)(x:iF):SF Tryz.prog 179 #[lv,x.v] Z [] fun r Bs=>∃k:Int,r=iw k∧(0≤k↔x∈L)∧Bs=[]:=by
 refine bO Tryz.func179 19 (fun w0=>?_);refine bk (fun H h=>(hL.get h).len_le) (fun lL=>?_);refine bn ?_;refine bj #[iw x.key,iw x.val] (fun g1=>?_);refine gy ?_;refine aD (ι:=Nat) (fun i=>i≤L.length∧x∉L.take i) (fun i=>[(0,lv),(3,pB g1 0),(7,iw (L.length:Int)),(8,iw (i:Int))]) (fun i=>[aa g1 #[iw x.key,iw x.val] 167]) (fun i=>L.length-i) 0 ⟨Nat.zero_le _,by simp⟩ sA rA ?_;rintro i cg;try dsimp only at cg⊢
 refine gc ?_;refine b9 (fun p4=>?_) (fun gQ=>?_)
 .refine gy ?_;obtain⟨y5,kJ⟩:∃y,L[i]?=some y:=⟨_,List.getElem?_eq_getElem ol⟩;refine gy ?_;refine sL (fY (fun w=>(Gp x y5 w).1)) ?_;refine go ?_;refine b9 (fun p8=>?_) (fun p9=>?_)
  .refine go ?_;refine ad _ _ (SI.tmp 4 SI.nil) rA ⟨(i:Int),rfl,?_,rfl⟩;exact⟨fun _=>by rw[p8];exact List.mem_of_getElem? kJ,fun _=>by omega⟩
  refine gy ?_;exact xr (i+1) (by obtain⟨cQ,cg⟩:=cg;refine⟨by omega,?_⟩;rw[←bA kJ,List.mem_append,List.mem_singleton];rintro (h|h);exact cg h;exact p9 h)
 refine go ?_;refine ad _ _ (SI.tmp 4 SI.nil) rA ⟨(-1),rfl,?_,rfl⟩;exact⟨fun h=>absurd h (by decide),fun h=>absurd h (by have h:=cg.2;rwa [List.take_of_length_le om]at h)⟩
theorem E1{L:List iF}(hL:Kn Z cq lv L)(x:iF):NF 120 #[lv,x.v] Z [] (.bool (decide (x∈L))):=by
 refine bO Tryz.func120 9 (fun w0=>?_);refine bn<|bj #[iw x.key,iw x.val] (fun g1=>?_)
 refine go ?_;refine a6 (fun _ h=>Qr (L:=L) (Acc.kn (.zn hL) h) x) ?_;rintro _ _ ⟨k2,rfl,Cf,rfl⟩;refine gc ?_;refine ad _ _ (SI.tmp 4 SI.nil) rA ⟨cB (decide_eq_decide.2 Cf),rfl⟩
theorem Qs{Fr:List Int}{x:Ob}(hx:Fk Z x)(ho:rn n st)(hn:n≤300)(hg:st.get x.id=some o)(h4:o.kind=4):MF 54 #[pB b 0,x.v] Z (ef b q hb ph m Q L Fr G P::bJ hb st::F) (.tuple #[]) (ef b q hb ph m Q L Fr G P::bJ hb (zd st x.id x.ents)::F):=by
 refine bO Tryz.func54 77 (fun w0=>?_);have iZ:=ho.i.obs o (get_mem hg).1;have hwb:=ho.w o (get_mem hg).1;have Fa:fm st (bQ 4 x.id)=some o.tab:=nW (v:=bQ 4 x.id) (pG (v:=bQ 4 x.id) hg h4) h4;have htl:(a7 o.tab).length≤100000:=by have h1:=ni o.tab;have h2:=ho.sm.obs o (get_mem hg).1;have h3:n*(n+1)≤300*301:=Nat.mul_le_mul hn om;omega
 refine bn ?_;refine bj #[iw x.id,iw x.size,iw x.weak,x.rv.v,x.ev.v] (fun g1=>?_);refine go ?_;refine sL (ay (.agg #[iw 4,iw 0,iw 0,sw eb,iw x.id])) ?_;refine ae (.agg zc) zc (fun g2=>?_);refine go ?_;refine r9 (fun H h=>dS (rB h)) (fun UH UI Re Co UJ hw=>?_);have hc8:=hw;refine br [aa b #[pB q 0,pB hb 0,iw ph,.map (some UH),UI,Re,Co] 91,aa g2 #[iw 4,iw 0,iw 0,sw eb,iw x.id] 71,aa g1 #[iw x.id,iw x.size,iw x.weak,x.rv.v,x.ev.v] 100] ?_;refine gH [0,1,2,3,4] [0,5,5] ?_;refine fK 5 rfl [0,5,5] (fun _=>(ay (.agg zc))) ?_;refine ba (ι:=Nat×Nat) 4 (tf [14,4]) (fun (g9,g10)=>[(0,pB b 0),(3,pB g1 0),(4,pB g2 0),(5,nS),(6,pB g9 0),(7,pB g10 0),(24,.agg (vc ((bE (a7 o.tab)).1))),(25,.agg (vc ((bE (a7 o.tab)).2.1))),(26,.bool ((bE (a7 o.tab)).2.2.1)),(27,iw ((bE (a7 o.tab)).2.2.2))]) (fun (g9,g10)=>aa g10 zc 71::aa g9 zc 71::bJ hb st::aa b #[pB q 0,pB hb 0,iw ph,.map (some UH),UI,Re,Co] 91::qA q G P::KB UH UJ::ownO an UI Q::ownO an Re L::ownO an Co Fr::aa g2 #[iw 4,iw 0,iw 0,sw eb,iw x.id] 71::aa g1 #[iw x.id,iw x.size,iw x.weak,x.rv.v,x.ev.v] 100::F) ?_ (fun Hj=>?_)
 .rintro ⟨g9,g10⟩;try dsimp only
  refine ag 14 ?_;refine gh ?_;refine nH [3,8,8]<|ag 15 ?_
  refine gh ?_;refine nH [3,8,8] ?_;refine gH [16,17] [3,8,8] ?_;refine aI ?_;refine gy ?_;refine aK (fun _ h=>aV (c:=m) hc8 (rB h)) ?_;refine aK (fun _ h=>Holds.nilS (T:=bq) h) ?_;refine aK (Bs:=own bq nS (eI x.ents [])::ef b q hb ph m Q L Fr G P::aa g10 (vc ((bE (a7 o.tab)).2.1)) 71::aa g9 (vc ((bE (a7 o.tab)).1)) 71::bJ hb st::aa g2 #[iw 4,iw 0,iw 0,sw eb,iw x.id] 71::aa g1 #[iw x.id,iw x.size,iw x.weak,x.rv.v,x.ev.v] 100::F) (fun _ h=>h) ?_;refine aD (ι:=Nat×Nat×Value×List (Vl×Vl)×List (Vl×Vl)) (fun (gk,gv,sx,pre,rem)=>a7 o.tab=pre++rem∧pre.length+rem.length≤200000) (fun (gk,gv,sx,pre,rem)=>[(0,pB b 0),(3,pB g1 0),(4,pB g2 0),(5,sx),(6,pB gk 0),(7,pB gv 0),(8,.bool ((bE rem).2.2.1))]) (fun (gk,gv,sx,pre,rem)=>own bq sx (eI x.ents pre)::ef b q hb ph m Q L Fr G P::aa gv (vc ((bE rem).2.1)) 71::aa gk (vc ((bE rem).1)) 71::bJ hb st::aa g2 #[iw 4,iw 0,iw 0,sw eb,iw x.id] 71::aa g1 #[iw x.id,iw x.size,iw x.weak,x.rv.v,x.ev.v] 100::F) (fun (gk,gv,sx,pre,rem)=>rem.length) (g9,g10,nS,[],a7 o.tab) ⟨rfl,by show 0+_≤_;omega⟩ sA rA ?_;rintro⟨gk,gv,sx,pre,rem⟩ iG;try dsimp only at iG⊢
  have hgl:=IX x.ents pre;have WY:=iG.2;refine go ?_;refine kd (fun zw=>?_) (fun zw=>?_)
  .obtain ⟨p,tl,rfl⟩:=wP zw;refine go ?_;refine br [own bq sx (eI x.ents pre),aa gv (vc (p.2)) 71,aa gk (vc (p.1)) 71,aa g2 #[iw 4,iw 0,iw 0,sw eb,iw x.id] 71,aa g1 #[iw x.id,iw x.size,iw x.weak,x.rv.v,x.ev.v] 100] ?_;refine gH [0,2] [0,1,1,2,2] ?_;refine ba (ι:=Nat) 1 #[true,true,true,true,true,true,false] (fun g20=>[(0,pB b 0),(3,pB g1 0),(4,pB g2 0),(5,sx),(6,pB gk 0),(7,pB gv 0),(10,pB g20 0),(45,.agg #[iw (cJ (p.1)),iw (cJ (p.2))])]) (fun g20=>aa g20 #[iw 0,iw 0] 167::own bq sx (eI x.ents pre)::ef b q hb ph m Q L Fr G P::aa gv (vc (p.2)) 71::aa gk (vc (p.1)) 71::bJ hb st::aa g2 #[iw 4,iw 0,iw 0,sw eb,iw x.id] 71::aa g1 #[iw x.id,iw x.size,iw x.weak,x.rv.v,x.ev.v] 100::F) ?_ (fun ado=>?_)
   .rintro g20;try dsimp only
    refine ag 6 ?_;refine gh ?_;refine nH [1,2,2,3,3]<|aI ?_
    refine go ?_;refine sL (ay (.agg #[iw 0,iw 0]))<|sL (fY (fun w=>(Gp (⟨(cJ (p.1)),(cJ (p.2))⟩:iF) (⟨0,0⟩:iF) w).2)) ?_
    refine go ?_;refine oW 49 (fun BU=>?_) (fun BU=>?_)
    .have xI:=cO BU;have oP:=dF xI;refine go ?_;refine sV (fun _ h=>E1 (L:=x.ents) (Acc.kn (.zn hx.2) h) (⟨(cJ (p.1)),(cJ (p.2))⟩:iF)) ?_;refine go ?_;refine kd (fun En=>?_) (fun En=>?_)
     .have FW:=cO En;have Dt:=dF FW;refine go ?_;refine ah (e:=71) [(0,.agg (vc (p.1)))] (vc (p.1)) (fun JT=>?_) (hb:=by kernel_rfl);refine aq (L:=(eI x.ents pre)) 2 aZ Tryz.underlying28 (.lit 0 aZ [(p.1)]) (by show _*48≤_;(try simp only[cD]);omega) ol (fun v31=>?_);refine sF 2 (fun G7=>?_);refine go ?_;refine ae (.agg zc) zc (fun m4=>?_);refine gy ?_;refine ae (.agg zc) zc (fun Td=>?_);refine go ?_;refine cC (fun H h=>dS (rB h)) (fun agL agM agN agO akx hw=>?_);have ahe:=hw;refine go ?_;refine sC [13] (oa (st:=st) ho.sm hn (bQ 4 x.id) (p.1)) ?_;rw[(d' Fa).trans (iE iZ.tab hwb.tw (nx ho.sm hn hg) iG.1)];refine go ?_;refine ab (fun _ h=>aV (c:=m) ahe (rB h)) ?_;have El:oT x.ents p=true:=by unfold oT;simp[zw,oP,Dt]
      rw[IW El];refine ab (Bs:=ef b q hb ph m Q L Fr G P::bJ hb st::aa Td (vc ((bE tl).2.1)) 71::aa m4 (vc ((bE tl).1)) 71::aa JT (vc (p.1)) 71::aa g20 #[iw (cJ (p.1)),iw (cJ (p.2))] 167::own bq v31 (eI x.ents (pre++[p]))::aa gv (vc (p.2)) 71::aa gk (vc (p.1)) 71::aa g2 #[iw 4,iw 0,iw 0,sw eb,iw x.id] 71::aa g1 #[iw x.id,iw x.size,iw x.weak,x.rv.v,x.ev.v] 100::F) (fun _ h=>h) ?_;exact az (m4,Td,v31,pre++[p],tl) (by show tl.length<(p::tl).length;simp) (by rw[iG.1,List.append_assoc];exact⟨rfl,by have:=iG.2;simp only[List.length_cons,List.length_append,List.length_nil]at this ⊢;omega⟩) sA (rr [6,0,1,1,0,4,4] [7,7,7,7])
     have qo:=cu En;have uJ:=dY qo;refine go ?_;refine ae (.agg zc) zc (fun BL=>?_);refine gy ?_;refine ae (.agg zc) zc (fun Ui=>?_);refine go ?_;refine cC (fun H h=>dS (rB h)) (fun abM aky akz akA akB hw=>?_);have ahf:=hw;refine go ?_;refine sC [12] (oa (st:=st) ho.sm hn (bQ 4 x.id) (p.1)) ?_;rw[(d' Fa).trans (iE iZ.tab hwb.tw (nx ho.sm hn hg) iG.1)];refine go ?_;refine ab (fun _ h=>aV (c:=m) ahf (rB h)) ?_;have El:oT x.ents p=false:=by unfold oT;simp[zw,oP,uJ]
     rw[Hg El];refine ab (Bs:=ef b q hb ph m Q L Fr G P::bJ hb st::aa Ui (vc ((bE tl).2.1)) 71::aa BL (vc ((bE tl).1)) 71::aa g20 #[iw (cJ (p.1)),iw (cJ (p.2))] 167::own bq sx (eI x.ents (pre++[p]))::aa gv (vc (p.2)) 71::aa gk (vc (p.1)) 71::aa g2 #[iw 4,iw 0,iw 0,sw eb,iw x.id] 71::aa g1 #[iw x.id,iw x.size,iw x.weak,x.rv.v,x.ev.v] 100::F) (fun _ h=>h) ?_;exact az (BL,Ui,sx,pre++[p],tl) (by show tl.length<(p::tl).length;simp) (by rw[iG.1,List.append_assoc];exact⟨rfl,by have:=iG.2;simp only[List.length_cons,List.length_append,List.length_nil]at this ⊢;omega⟩) sA (rr [5,0,1,1,0,3,3] [7,7,7])
    have c51:=cu BU;have CL:=dY c51;refine go ?_;refine ae (.agg zc) zc (fun zE=>?_);refine gy ?_;refine ae (.agg zc) zc (fun Fe=>?_);refine go ?_;refine cC (fun H h=>dS (rB h)) (fun akC akD Ye akE akF hw=>?_);have ahg:=hw;refine go ?_;refine sC [12] (oa (st:=st) ho.sm hn (bQ 4 x.id) (p.1)) ?_;rw[(d' Fa).trans (iE iZ.tab hwb.tw (nx ho.sm hn hg) iG.1)];refine go ?_;refine ab (fun _ h=>aV (c:=m) ahg (rB h)) ?_;have El:oT x.ents p=false:=by unfold oT;simp[zw,CL]
    rw[Hg El];refine ab (Bs:=ef b q hb ph m Q L Fr G P::bJ hb st::aa Fe (vc ((bE tl).2.1)) 71::aa zE (vc ((bE tl).1)) 71::aa g20 #[iw (cJ (p.1)),iw (cJ (p.2))] 167::own bq sx (eI x.ents (pre++[p]))::aa gv (vc (p.2)) 71::aa gk (vc (p.1)) 71::aa g2 #[iw 4,iw 0,iw 0,sw eb,iw x.id] 71::aa g1 #[iw x.id,iw x.size,iw x.weak,x.rv.v,x.ev.v] 100::F) (fun _ h=>h) ?_;exact az (zE,Fe,sx,pre++[p],tl) (by show tl.length<(p::tl).length;simp) (by rw[iG.1,List.append_assoc];exact⟨rfl,by have:=iG.2;simp only[List.length_cons,List.length_append,List.length_nil]at this ⊢;omega⟩) sA (rr [5,0,1,1,0,3,3] [7,7,7])
   refine ba (ι:=Nat) 3 #[true,true,true,false,false,true,false] (fun g21=>[(0,pB b 0),(3,pB g1 0),(4,pB g2 0),(5,sx),(6,pB gk 0),(7,pB gv 0),(10,pB g21 0),(42,iw (cJ (p.1))),(43,.agg (vc (p.2)))]) (fun g21=>aa g21 #[iw 0,iw 0] 167::own bq sx (eI x.ents pre)::ef b q hb ph m Q L Fr G P::aa gv (vc (p.2)) 71::aa gk (vc (p.1)) 71::bJ hb st::aa g2 #[iw 4,iw 0,iw 0,sw eb,iw x.id] 71::aa g1 #[iw x.id,iw x.size,iw x.weak,x.rv.v,x.ev.v] 100::F) ?_ (fun DR=>?_)
   .rintro g21;try dsimp only
    refine ag 3 ?_;refine sV (fun _ h=>ub (p.2))<|nH [1,2,2,3,3]<|fK 4 rfl [1,2,2,3,3] (fun _=>(ay (.agg #[iw (cJ (p.1)),iw (cJ (p.2))]))) ?_
    exact aB ado g21 rA
   refine aN 1 5 ?_ ?_
   .refine sV (fun _ h=>ub (p.1))<|nH [0,1,1,2,2]<|aN 3 5 ?_ ?_
    .refine sV (fun _ h=>ub (p.2))<|nH [0,1,1,2,2]<|fK 4 rfl [0,1,1,2,2] (fun _=>(ay (.agg #[iw (cJ (p.1)),iw (cJ (p.2))]))) ?_
     refine ag 5 ?_;refine ae (.agg #[iw 0,iw 0]) #[iw 0,iw 0] (fun g62=>?_);refine nH [1,2,2,3,3] ?_;exact aB ado g62 rA
    refine ae (.agg #[iw 0,iw 0]) #[iw 0,iw 0] (fun K3=>?_);refine nH [1,2,2,3,3] ?_;exact aB DR K3 rA
   refine ae (.agg #[iw 0,iw 0]) #[iw 0,iw 0] (fun g64=>?_);refine nH [1,2,2,3,3]<|ag 1 ?_
   refine sV (fun _ h=>ub (p.1))<|nH [1,2,2,3,3] ?_
   exact aB DR g64 rA
  obtain rfl:=wQ zw;refine gy ?_;have ZW:a7 o.tab=pre:=by rw[iG.1,List.append_nil]
  refine aK (Bs:=own bq sx (eI x.ents pre)::ef b q hb ph m Q L Fr G P::aa gv (vc ((bE []).2.1)) 71::aa gk (vc ((bE []).1)) 71::bJ hb (rmK st x.id ((eI x.ents pre).take 0))::aa g2 #[iw 4,iw 0,iw 0,sw eb,iw x.id] 71::aa g1 #[iw x.id,iw x.size,iw x.weak,x.rv.v,x.ev.v] 100::F) (fun _ h=>h) ?_;refine aD (ι:=Nat) (fun z=>z≤(eI x.ents pre).length) (fun z=>[(0,pB b 0),(4,pB g2 0),(62,sx),(63,iw ((eI x.ents pre).length:Int)),(64,iw (z:Int))]) (fun z=>own bq sx (eI x.ents pre)::ef b q hb ph m Q L Fr G P::aa gv (vc ((bE []).2.1)) 71::aa gk (vc ((bE []).1)) 71::bJ hb (rmK st x.id ((eI x.ents pre).take z))::aa g2 #[iw 4,iw 0,iw 0,sw eb,iw x.id] 71::aa g1 #[iw x.id,iw x.size,iw x.weak,x.rv.v,x.ev.v] 100::F) (fun z=>(eI x.ents pre).length-z) 0 (Nat.zero_le _) sA rA ?_;rintro z X5;try dsimp only at X5⊢
  refine gc ?_;refine b9 (fun X6=>?_) (fun V3=>?_)
  .obtain ⟨y68,X7⟩:∃y,(eI x.ents pre)[z]?=some y:=⟨_,List.getElem?_eq_getElem ol⟩;refine gy ?_;refine ae (.agg zc) zc (fun g70=>?_);refine go ?_;refine cC (fun H h=>dS (rB h)) (fun akG akH akI akJ akK hw=>?_);have ahh:=hw;refine gy ?_;refine sC [10] (Gb (st:=(rmK st x.id ((eI x.ents pre).take z))) (ho.rmK _ _).sm hn (⟨4,0,0,eb,x.id⟩:Vl) y68 bw) ?_;refine gy ?_;refine ab (fun _ h=>aV (c:=m) ahh (rB h)) ?_;refine ab (Bs:=ef b q hb ph m Q L Fr G P::bJ hb (rmK st x.id ((eI x.ents pre).take (z+1)))::aa g70 (vc y68) 71::own bq sx (eI x.ents pre)::aa gv (vc ((bE []).2.1)) 71::aa gk (vc ((bE []).1)) 71::aa g2 #[iw 4,iw 0,iw 0,sw eb,iw x.id] 71::aa g1 #[iw x.id,iw x.size,iw x.weak,x.rv.v,x.ev.v] 100::F) (fun _ h=>by rw[E0 X7];exact h) ?_;exact xr (z+1) om
  refine go ?_;have nF:zd st x.id x.ents=rmK st x.id (eI x.ents pre):=by unfold zd UF;rw[hg];show rmK _ _ (eI _ (a7 o.tab))=_;rw[ZW]
  refine gz ?_;exact fg ⟨rfl,rfl⟩ (fun _ h=>by rw[List.take_of_length_le om]at h;rw[nF];exact h.re [1,3] [2,2,2,2,2])
 refine ba (ι:=Nat) 5 (tf [13,5]) (fun g9=>[(0,pB b 0),(3,pB g1 0),(4,pB g2 0),(5,nS),(6,pB g9 0),(24,.agg (vc ((bE (a7 o.tab)).1))),(25,.agg (vc ((bE (a7 o.tab)).2.1))),(26,.bool ((bE (a7 o.tab)).2.2.1)),(27,iw ((bE (a7 o.tab)).2.2.2))]) (fun g9=>aa g9 zc 71::bJ hb st::aa b #[pB q 0,pB hb 0,iw ph,.map (some UH),UI,Re,Co] 91::qA q G P::KB UH UJ::ownO an UI Q::ownO an Re L::ownO an Co Fr::aa g2 #[iw 4,iw 0,iw 0,sw eb,iw x.id] 71::aa g1 #[iw x.id,iw x.size,iw x.weak,x.rv.v,x.ev.v] 100::F) ?_ (fun adp=>?_)
 .rintro g9;try dsimp only
  refine ag 13 ?_;refine ae (.agg zc) zc (fun g79=>?_);refine nH [3,8,8] ?_;exact aB Hj (g9,g79) rA
 refine ba (ι:=Nat) 5 (tf [12,1,1,4]) (fun g11=>[(0,pB b 0),(3,pB g1 0),(4,pB g2 0),(5,nS),(7,pB g11 0),(24,.agg (vc ((bE (a7 o.tab)).1))),(25,.agg (vc ((bE (a7 o.tab)).2.1))),(26,.bool ((bE (a7 o.tab)).2.2.1)),(27,iw ((bE (a7 o.tab)).2.2.2))]) (fun g11=>aa g11 zc 71::bJ hb st::aa b #[pB q 0,pB hb 0,iw ph,.map (some UH),UI,Re,Co] 91::qA q G P::KB UH UJ::ownO an UI Q::ownO an Re L::ownO an Co Fr::aa g2 #[iw 4,iw 0,iw 0,sw eb,iw x.id] 71::aa g1 #[iw x.id,iw x.size,iw x.weak,x.rv.v,x.ev.v] 100::F) ?_ (fun Ke=>?_)
 .rintro g11;try dsimp only
  refine ag 12 ?_;refine ae (.agg zc) zc (fun g81=>?_);refine nH [3,8,8] ?_;exact aB Hj (g81,g11) rA
 refine ba (ι:=Nat×Nat) 10 (tf [6,6,2,4]) (fun (g13,g14)=>[(0,pB b 0),(3,pB g1 0),(4,pB g2 0),(5,nS),(6,pB g13 0),(7,pB g14 0),(20,pB hb 0),(21,.agg #[iw 4,iw 0,iw 0,sw eb,iw x.id]),(22,.agg zc)]) (fun (g13,g14)=>aa g14 zc 71::aa g13 zc 71::aa b #[pB q 0,pB hb 0,iw ph,.map (some UH),UI,Re,Co] 91::qA q G P::KB UH UJ::ownO an UI Q::ownO an Re L::ownO an Co Fr::aa g2 #[iw 4,iw 0,iw 0,sw eb,iw x.id] 71::aa g1 #[iw x.id,iw x.size,iw x.weak,x.rv.v,x.ev.v] 100::bJ hb st::F) ?_ (fun adq=>?_)
 .rintro ⟨g13,g14⟩;try dsimp only
  refine ag 6 ?_;refine sC [10] (oa (st:=st) ho.sm hn (bQ 4 x.id) bw) ?_;rw[(d' Fa).trans (fH o.tab)];refine nH [3,8,8] ?_;refine gH [7,8,9,10,11] [3,8,8] ?_;exact aB Hj (g13,g14) rA
 refine dR 6 12 13 ?_ ?_ ?_
 .refine sC [8] (oa (st:=st) ho.sm hn (bQ 4 x.id) bw) ?_;rw[(d' Fa).trans (fH o.tab)];refine nH [1,6,6] ?_;refine gH [7,8,9,10,11] [1,6,6] ?_;refine aN 12 13 ?_ ?_
  .refine ae (.agg zc) zc (fun g83=>?_);refine nH [2,7,7] ?_;exact aB adp g83 rA
  refine ae (.agg zc) zc (fun g84=>?_);refine nH [2,7,7] ?_;exact aB Ke g84 rA
 .refine ae (.agg zc) zc (fun g85=>?_);refine nH [1,6,6]<|aN 6 13 ?_ ?_
  .refine sC [9] (oa (st:=st) ho.sm hn (bQ 4 x.id) bw) ?_;rw[(d' Fa).trans (fH o.tab)];refine nH [2,7,7] ?_;refine gH [7,8,9,10,11] [2,7,7] ?_;exact aB adp g85 rA
  refine ae (.agg zc) zc (fun g86=>?_);refine nH [2,7,7] ?_;exact aB adq (g85,g86) rA
 refine ae (.agg zc) zc (fun g87=>?_);refine nH [1,6,6]<|aN 6 12 ?_ ?_
 .refine sC [9] (oa (st:=st) ho.sm hn (bQ 4 x.id) bw) ?_;rw[(d' Fa).trans (fH o.tab)];refine nH [2,7,7] ?_;refine gH [7,8,9,10,11] [2,7,7] ?_;exact aB Ke g87 rA
 refine ae (.agg zc) zc (fun g88=>?_);refine nH [2,7,7] ?_;exact aB adq (g88,g87) rA
theorem UK(h:HW st)(name:ByteArray):HW (oJ st name):=by
 unfold oJ;split
 .omega
 exact h.make (Yo name)
theorem UL{o:Af}{s:bp×List Vl}(hi:fe s.1)(h:HW s.1):HW (gI i o s).1:=by
 unfold gI;split
 .exact h.make (xx _ _ _ (fun _ hv=>(by cases hv)) (fun h8=>by cases h8))
 split
 .grind[UK]
 split
 .exact h.make (xx _ _ _ (fun _ hv=>(by cases hv)) (fun h8=>by cases h8))
 grind[HW.set,Kf]
theorem adr(l:List Af):∀i,HW (aO l i).1:= by intro i;induction i<;>grind[HW.nil,aO,UL,tD]
theorem Xc(l:List Af):HW (made l).1:=adr l _
structure lX(st:bp)(N:List Ob):Prop where
 ids:N.map Ob.id=aQ st
 obj:∀o∈N,o.c=yO st o.id∧aw st o.id=true
theorem IY(h:id∈aQ st):cR st id=id:=by grind[cR,dj]
theorem E2(hN:N.map Ob.c=(aQ st).map (yO st)):lX st N:=by
 have h1:N.map Ob.id=aQ st:=by
  have e:(N.map Ob.c).map (fun x=>x.1)=((aQ st).map (yO st)).map (fun x=>x.1):=by rw[hN]
  rw[List.map_map,List.map_map]at e;refine (show N.map Ob.id=N.map ((fun x=>x.1) ∘ Ob.c) from rfl).trans (e.trans ?_);refine (List.map_congr_left fun x hx=>?_).trans (List.map_id _);exact IY hx
 refine⟨h1,fun o ho=>?_⟩;have h2:o.c∈(aQ st).map (yO st):=by grind
 obtain⟨id,hid,e⟩:=List.mem_map.1 h2;have e2:cR st id=o.id:=congrArg (fun x:Core=>x.1) e;grind[IY,dj]
theorem lX.asc(h:lX st N):oK N:=by
 have:=iR st;rw[←h.ids,List.pairwise_map]at this;exact this
theorem Hk:∀(N:List Ob) (last:Int),N.Pairwise (fun x y=>x.id<y.id)→(∀o∈N,last<o.id∧0≤o.size∧0≤o.weak∧o.weak≤3)→chk last N=true
 | [],_,_,_=>rfl
 | x::r,last,ha,h=>by
  obtain⟨h1,h2,h3,h4⟩:=h x (by simp);obtain⟨ha1,ha2⟩:=List.pairwise_cons.1 ha;have ih:=Hk r x.id ha2 fun o ho=>⟨ha1 o ho,(h o (List.mem_cons_of_mem _ ho)).2⟩
  grind[chk]
theorem lX.chk(h:lX st N)(ca:jv n st)(hn:n≤300):chk 0 N=true:=by
 refine Hk N 0 h.asc fun o ho=>?_
 obtain⟨e,ha⟩:=h.obj o ho;obtain⟨ob,hg⟩:=jh.1 ha;have hs:=iC hg 0;have e1:o.size=cT st o.id:=congrArg (fun x:Core=>x.2.1) e;have e2:o.weak=cG st o.id 0:=congrArg (fun x:Core=>x.2.2.1) e;have h1:=(get_mem hg).2.1;have h2:=(tk ca hn hg).1;grind[cG,kY]
theorem lX.fnd(h:lX st N)(id:Int):iO N id=aw st id:=by
 rw[Bool.eq_iff_iff];constructor
 .intro hx;have:=B2 hx;rw[h.ids]at this;exact dj.1 this
 intro hx;have:=dj.2 hx;rw[←h.ids]at this;obtain⟨o,ho,rfl⟩:=List.mem_map.1 this;exact GK (qJ h.asc ho)
theorem lX.refs(h:lX st N)(hx:iO N id=true):CR N id=eJ st id:=by
 unfold iO at hx;obtain⟨o,ho⟩:=Option.isSome_iff_exists.1 hx;obtain⟨h1,h2⟩:=j2 ho;have e:=(h.obj o h2).1;rw[GJ ho,←h1];have e1:o.refs=hrefs st o.id:=congrArg (fun x:Core=>x.2.2.2.1) e;have e2:o.ents=aY st o.id:=congrArg (fun x:Core=>x.2.2.2.2) e;grind[eQ,eJ]
theorem lX.rq(h:lX st N):Rq (iO N) (CR N) R x↔Rq (aw st) (eJ st) R x:=
 ⟨DW h.fnd (fun y hy=>h.refs hy),DW (fun y=>(h.fnd y).symm) (fun y hy=>(h.refs (by rw[h.fnd];exact hy)).symm)⟩
theorem lX.liv{k:Nat}(h:lX st N)(b:Bq (iO N) (CR N) R k G)(hk:G.length≤k):x∈pV N G↔Rq (aw st) (eJ st) R x:=by
 rw[←h.rq,←b.fin hk x];unfold pV;rw[List.mem_filter,decide_eq_true_iff];exact⟨fun q=>q.2,fun q=>⟨B2 (b.snd x q).1,q⟩⟩
theorem lX.small(h:lX st N)(ca:jv n st)(hn:n≤300):∀o∈N,o.refs.length≤100000∧o.ents.length≤100000:=fun o ho=>by
 have e:=(h.obj o ho).1;have e1:o.refs=hrefs st o.id:=congrArg (fun x:Core=>x.2.2.2.1) e;have e2:o.ents=aY st o.id:=congrArg (fun x:Core=>x.2.2.2.2) e;have:=hJ ca hn o.id;rw[e1,e2];omega
section
variable{l l':List Ob}(R reg pend:List Int)
theorem IZ(h:l.map Ob.c=l'.map Ob.c):yW l R=yW l' R:=by grind[yW,w5,tT,ade]
theorem I0(h:l.map Ob.c=l'.map Ob.c):il l R reg=il l' R reg:=by grind[il,w5]
theorem Cp(h:l.map Ob.c=l'.map Ob.c):eD l R reg pend=eD l' R reg pend:=by grind[eD,w5]
theorem Qt(h:l.map Ob.c=l'.map Ob.c):cA l R reg pend=cA l' R reg pend:=by grind[cA,IZ,Cp]
theorem Qu(h:l.map Ob.c=l'.map Ob.c):lg l R reg pend=lg l' R reg pend:=by grind[lg,IZ,Qt]
theorem Cq(h:l.map Ob.c=l'.map Ob.c):fD l R reg pend=fD l' R reg pend:=by grind[fD,Qt,tT,P7]
end
def ml(st:bp)(id:Int):Core:=(cR st id,cT st id,cG st id (kH st (bQ 4 id)),hrefs st id,aY st id)
def lW(st:bp):List Ob:=((aQ st).map (ml st)).map Zq
def zt(st:bp)(R G P:List Int):List Core:=lg (lW st) R G P
def mR(st:bp)(R G P:List Int):List Int:=fD (lW st) R G P
def nK(st:bp)(R G P:List Int):bp:=drps (dk st (zt st R G P)) (mR st R G P)
section
variable{st:bp}{N l2:List Ob}{n:Nat}{R G P:List Int}{x:Int}
theorem ZX(st:bp):(lW st).map Ob.c=(aQ st).map (ml st):=EG _
theorem Qv(hg:st.get x=some o)(w:Int):0≤cG st x w∧cG st x w≤3∧(cG st x w≠0→o.kind=4):=by
 rw[(iC hg w).2.2.2.1];grind[kY]
structure Hl(st:bp)(N:List Ob):Prop where
 ids:N.map Ob.id=aQ st
 obj:∀o∈N,o.c=ml st o.id∧aw st o.id=true
theorem qd(hN:N.map Ob.c=(aQ st).map (ml st)):Hl st N:=by
 have h1:N.map Ob.id=aQ st:=by
  have e:(N.map Ob.c).map (fun x=>x.1)=((aQ st).map (ml st)).map (fun x=>x.1):=by rw[hN]
  rw[List.map_map,List.map_map]at e;refine (show N.map Ob.id=N.map ((fun x=>x.1) ∘ Ob.c) from rfl).trans (e.trans ?_);refine (List.map_congr_left fun x hx=>?_).trans (List.map_id _);exact IY hx
 refine⟨h1,fun o ho=>?_⟩;have h2:o.c∈(aQ st).map (ml st):=by grind
 obtain⟨id,hid,e⟩:=List.mem_map.1 h2;have e2:cR st id=o.id:=congrArg (fun x:Core=>x.1) e;grind[IY,dj]
theorem Hl.asc(h:Hl st N):oK N:=by
 have:=iR st;rw[←h.ids,List.pairwise_map]at this;exact this
theorem Hl.chk(h:Hl st N)(ca:jv n st)(hn:n≤300):chk 0 N=true:=by
 refine Hk N 0 h.asc fun o ho=>?_
 obtain⟨e,ha⟩:=h.obj o ho;obtain⟨ob,hg⟩:=jh.1 ha;have hs:=iC hg 0;have e1:o.size=cT st o.id:=congrArg (fun x:Core=>x.2.1) e;have e2:o.weak=cG st o.id (kH st (bQ 4 o.id)):=congrArg (fun x:Core=>x.2.2.1) e;have h1:=(get_mem hg).2.1;have h2:=(tk ca hn hg).1;rw[hs.2.2.1]at e1;have h3:=Qv hg (kH st (bQ 4 o.id));omega
theorem Hl.fnd(h:Hl st N){o:Ob}(hf:fnd N x=some o):o.id=x∧o.c=ml st x∧aw st x=true:=by
 obtain⟨h1,h2⟩:=j2 hf;have:=h.obj o h2;grind
theorem Hl.is(h:Hl st N):Is N x↔aw st x=true:=by
 constructor
 .intro hi;obtain⟨o,ho⟩:=Option.isSome_iff_exists.1 hi;exact (h.fnd ho).2.2
 intro ha;have:=dj.2 ha;rw[←h.ids]at this;obtain⟨o,ho,rfl⟩:=List.mem_map.1 this;rw[Is,qJ h.asc ho];rfl
theorem Hl.small(h:Hl st N)(ca:jv n st)(hn:n≤300):∀o∈N,o.refs.length≤400∧o.ents.length≤100000:=fun o ho=>by
 have e:=(h.obj o ho).1;have e1:o.refs=hrefs st o.id:=congrArg (fun x:Core=>x.2.2.2.1) e;have e2:o.ents=aY st o.id:=congrArg (fun x:Core=>x.2.2.2.2) e;have:=hJ ca hn o.id;rw[e1,e2];omega
theorem shW(st:bp):Hl st (lW st):=qd (ZX st)
theorem Cr(h:c∈lg N R G P):∃o∈N,c.1=o.id∧o.id∈cA N R G P∧c.2.2.1=o.weak∧(o.weak=1→c.2.2.2.2=o.ents.filter (bM (cA N R G P) 1)):=by
 unfold lg jP at h;obtain⟨h1,h2⟩:=List.mem_filter.1 h;obtain⟨y,hy,e⟩:=List.mem_map.1 h1;obtain⟨o,ho,e2⟩:=IK (oB N R) hy;have i1:y.id=o.id:=congrArg (fun q:Core=>q.1) e2;have i2:c.1=y.id:=congrArg (fun q:Core=>q.1) e.symm;have w1:y.weak=o.weak:=congrArg (fun q:Core=>q.2.2.1) e2;have w2:c.2.2.1=y.weak:=congrArg (fun q:Core=>q.2.2.1) e.symm;refine⟨o,ho,i2.trans i1,by rw[←i1,←i2];exact dY h2,w2.trans w1,fun w=>?_⟩;have e3:y.ents=if u' (aM N R) o=true then o.ents.filter (fC (aM N R)) else o.ents:=congrArg (fun q:Core=>q.2.2.2.2) e2;have e4:c.2.2.2.2=y.ents.filter (bM (cA N R G P) y.weak):=congrArg (fun q:Core=>q.2.2.2.2) e.symm;grind[u',aM]
theorem pe(h:Hl st N)(hc:c∈lg N R G P)(hw:c.2.2.1≠0):∃o,st.get c.1=some o∧o.kind=4:=by
 obtain⟨o,ho,i,_,w,_⟩:=Cr hc;obtain⟨e,ha⟩:=h.obj o ho;obtain⟨ob,hg⟩:=jh.1 ha;have e2:o.weak=cG st o.id (kH st (bQ 4 o.id)):=congrArg (fun x:Core=>x.2.2.1) e;exact⟨ob,by rw[i];exact hg,(Qv hg _).2.2 (by rw[←e2,←w];exact hw)⟩
end
theorem Qw(hg:oO Z ov rv l R){qb:Nat}{pend:List Int}(hc:chk 0 l=true)(qX:l.length≤200)(hr:R.length≤50000)(ca:∀o∈l,o.refs.length≤400∧o.ents.length≤100000)(CS:reg.length≤50000)(Iq:pend.length≤50000):SF Tryz.prog 53 #[.agg #[ov,rv],.pointer (some ⟨qb,0,none⟩)] Z (qA qb reg pend::F) fun r Bs=>∃rb rv' fv l',r=.tuple #[.agg #[rb,rv'],fv,iw 0]∧l'.map Ob.c=lg l R reg pend∧Bs=qA qb (il l R reg) (eD l R reg pend)::frz (eP rb rv' l' R)::own an fv (fD l R reg pend)::F:=
 (Ul hg qX om (by have:=yu l ca [];omega) hr ca CS Iq).mono fun r Bs ⟨rb,rv',fv,l',R',h1,h2,h3,h4⟩=>by
  simp only[hc,↓reduceIte]at h1 h2 h3 h4;subst h3;exact⟨rb,rv',fv,l',h1.trans rfl,h2,h4⟩
theorem oC{Z':bK}(h:∀H,VB Z' H→eP ov rv l R H):oO Z' ov rv l R:=⟨fun H hz=>(h H hz).1,fun H hz=>(h H hz).2.1,fun x hx=>⟨fun H hz=>((h H hz).2.2 x hx).1,fun H hz=>((h H hz).2.2 x hx).2⟩⟩
theorem I1{jx:bp}(h:Fr st jx)(hg:st.get x=some o)(h4:o.kind=4):∃o',jx.get x=some o'∧o'.kind=4:=by
 obtain⟨T,e⟩:=h x;rw[hg]at e;exact⟨_,e,h4⟩
theorem Bl{X:List Int}{j:Nat}{z:Ob}(hy:X[j]?=some y)(h:N.map Ob.c=(X.take j).map (ml st))(hz:z.c=ml st y):(N++[z]).map Ob.c=(X.take (j+1)).map (ml st):=by
 rw[List.take_add_one,hy,List.map_append,List.map_append,h];simp[hz]
theorem R5{Fr:List Int}(ho:rn n st)(hn:n≤200)(hR:R.length≤9000)(hGP:G.length+P.length≤300)(hFr:Fr.length≤5000):SF Tryz.prog 18 #[pB b 0,rv] Z (own an rv R::ef b q hb ph m Q L Fr G P::bJ hb st::F) fun r Bs=>Bs=own an r (eD (lW st) R G P)::own an rv R::ef b q hb 0 m [] [] (Fr++mR st R G P) (il (lW st) R G) (eD (lW st) R G P)::bJ hb (nK st R G P)::F:=by
 refine bx Tryz.func18 119 [(0,pB b 0),(1,rv)] (fun w0=>?_);have hil:=kh st;have LO:=ho.sm.len;refine go ?_;refine cC (fun H h=>dS (h.re [1] [])) (fun uw zv Bw mr sM hw=>?_);have kT:=hw;refine go ?_;refine fZ iK cV (fun b7=>?_);refine go ?_;refine a6 (fun _ h=>k6 (Acc.kn (.own 7) h) ol) ?_;rintro v8 _ rfl;refine sF 0 (fun mw=>?_);refine sL (show Lt _ _ _ _ _ (.agg #[nS,v8]) from by obtain⟨_,_,e⟩:=mw;rw[e];clear e;exact ay _)<|ae (.agg #[nS,nS]) #[nS,nS] (fun g10=>?_)
 refine ar (u:=.agg #[nS,v8]) (m:=2) 0 #[nS,v8] ?_ (hm:=by (obtain⟨_,_,e0⟩:=mw;rw[e0];rfl)) (h1:=by (obtain⟨_,_,e0⟩:=mw;rw[e0];rfl)) (ha':=by (obtain⟨_,_,e0⟩:=mw;rw[e0];rfl));refine go ?_;refine aH [10] (uy (st:=st) ho.sm om) ?_;rintro v11 _ rfl;skip;refine gy ?_;refine aK (fun _ h=>dK Ir.nil (h.re [4] [])) ?_;refine aK (fun _ h=>Holds.nilO (T:=an) h) ?_;refine aK (fun _ h=>Holds.nilO (T:=an) h) ?_;refine aK (fun _ h=>aV (c:=m) (.inl rfl) (h.re [7,7,2,0,0,7] [])) ?_;refine aK (fun _ h=>Holds.nilS (T:=dT) (h.frz0 (F:=dD []) (by intro _ x hx;cases hx))) ?_;refine aD (ι:=Value×List Ob×Nat) (fun (ox,N,j)=>j≤(aQ st).length∧N.map Ob.c=((aQ st).take j).map (ml st)) (fun (ox,N,j)=>[(0,pB b 0),(5,pB g10 0),(39,v11),(40,iw ((aQ st).length:Int)),(41,iw (j:Int))]) (fun (ox,N,j)=>own dT ox N::frz (dD N)::ef b q hb 0 m ([]:List Int) ([]:List Int) Fr G P::own an v11 (aQ st)::bJ hb st::aa g10 #[ox,v8] 57::own an v8 R::own an rv R::F) (fun (ox,N,j)=>(aQ st).length-j) (nS,[],0) ⟨Nat.zero_le _,rfl⟩ sA (rr [0,0,0,0,0,0,0,3] [8,8,8]) ?_;rintro⟨ox,N,j⟩ Ch;try dsimp only at Ch⊢
 have Bd:N.length=j:=by have:=congrArg List.length Ch.2;simp only[List.length_map,List.length_take]at this;omega
 refine gc ?_;refine b9 (fun kO=>?_) (fun JJ=>?_)
 .refine gy ?_;obtain⟨fb,Ua⟩:∃y,(aQ st)[j]?=some y:=⟨_,List.getElem?_eq_getElem ol⟩;refine sL (bC ak (.own 3) Ua)<|sP (iw fb)<|bH ?_
  refine r9 (fun H h=>dS (h.re [2] [])) (fun KE KF KG KH ads hw=>?_);have akL:=hw;refine aE<|br [aa b #[pB q 0,pB hb 0,iw 0,.map (some KE),KF,KG,KH] 91,aa g10 #[ox,v8] 57] ?_
  refine gH [0,1,2,3,4,5,6,7,8,9] [0,9] ?_;refine fK 10 rfl [0,9] (fun _=>(ay (.agg #[iw 4,iw 0,iw 0,sw eb,iw fb]))) ?_;refine ba (ι:=Value×Value×Nat) 2 (tf [17,2]) (fun (BR,Lh,oR)=>[(0,pB b 0),(5,pB g10 0),(8,pB oR 0),(39,v11),(40,iw ((aQ st).length:Int)),(41,iw (j:Int)),(59,.agg #[iw (cR st fb),iw (cT st fb),iw (cG st fb (kH st (⟨4,0,0,eb,fb⟩:Vl))),BR,Lh]),(60,.bool (aw st fb))]) (fun (BR,Lh,oR)=>aa oR #[iw 0,iw 0,iw 0,nS,nS] 100::own an BR (hrefs st fb)::own cq Lh (aY st fb)::bJ hb st::aa b #[pB q 0,pB hb 0,iw 0,.map (some KE),KF,KG,KH] 91::qA q G P::KB KE ads::ownO an KF ([]:List Int)::ownO an KG ([]:List Int)::ownO an KH Fr::own dT ox N::frz (dD N)::own an v11 (aQ st)::aa g10 #[ox,v8] 57::own an v8 R::own an rv R::F) ?_ (fun DP=>?_)
  .rintro ⟨BR,Lh,oR⟩;try dsimp only
   refine ag 17 ?_;refine sF 1 (fun Ck=>?_);refine sF 2 (fun yk=>?_);refine ar (u:=.agg #[iw (cR st fb),iw (cT st fb),iw (cG st fb (kH st (⟨4,0,0,eb,fb⟩:Vl))),BR,Lh]) (m:=5) 0 #[iw (cR st fb),iw (cT st fb),iw (cG st fb (kH st (⟨4,0,0,eb,fb⟩:Vl))),BR,Lh] ?_ (hm:=by (obtain⟨_,_,e0⟩:=Ck;obtain⟨_,_,e1⟩:=yk;rw[e0,e1];rfl)) (h1:=by (obtain⟨_,_,e0⟩:=Ck;obtain⟨_,_,e1⟩:=yk;rw[e0,e1];rfl)) (ha':=by (obtain⟨_,_,e0⟩:=Ck;obtain⟨_,_,e1⟩:=yk;rw[e0,e1];rfl));refine nH [4,12] ?_;refine gH [18] [4,12] ?_;refine aI ?_;refine go ?_;obtain⟨se,sf,e⟩:=Ck;subst e;obtain⟨zT,zU,e⟩:=yk;subst e;refine go ?_;refine ah (e:=100) [(0,.agg #[iw (cR st fb),iw (cT st fb),iw (cG st fb (kH st (⟨4,0,0,eb,fb⟩:Vl))),(.slice se (hrefs st fb).length sf),(.slice zT (aY st fb).length zU)])] #[iw (cR st fb),iw (cT st fb),iw (cG st fb (kH st (⟨4,0,0,eb,fb⟩:Vl))),(.slice se (hrefs st fb).length sf),(.slice zT (aY st fb).length zU)] (fun Rl=>?_) (hb:=by kernel_rfl);refine aq (L:=N) 11 bt Tryz.underlying55 (.lit 0 bt [(⟨(cR st fb),(cT st fb),(cG st fb (kH st (⟨4,0,0,eb,fb⟩:Vl))),⟨se,(hrefs st fb).length,sf⟩,⟨zT,(aY st fb).length,zU⟩,(hrefs st fb),(aY st fb)⟩:Ob)]) (by show _*72≤_;(try simp only[cD]);omega) ol (fun Rf=>?_);refine bl (fun H h=>((Acc.own (T:=dT) (L:=(N++[(⟨(cR st fb),(cT st fb),(cG st fb (kH st (⟨4,0,0,eb,fb⟩:Vl))),⟨se,(hrefs st fb).length,sf⟩,⟨zT,(aY st fb).length,zU⟩,(hrefs st fb),(aY st fb)⟩:Ob)])) 11 rfl) H h).form) (fun K'=>?_);refine gy ?_;refine ab (fun _ h=>aV (c:=m) (.inl rfl) (h.re [5,5,5,5,5,5] [])) ?_;refine ab (fun _ h=>lU (⟨(cR st fb),(cT st fb),(cG st fb (kH st (⟨4,0,0,eb,fb⟩:Vl))),⟨se,(hrefs st fb).length,sf⟩,⟨zT,(aY st fb).length,zU⟩,(hrefs st fb),(aY st fb)⟩:Ob) (h.re [3,3,5] [])) ?_;refine ab (Bs:=frz (dD (N++[(⟨(cR st fb),(cT st fb),(cG st fb (kH st (⟨4,0,0,eb,fb⟩:Vl))),⟨se,(hrefs st fb).length,sf⟩,⟨zT,(aY st fb).length,zU⟩,(hrefs st fb),(aY st fb)⟩:Ob)]))::ef b q hb 0 m ([]:List Int) ([]:List Int) Fr G P::aa Rl #[iw (cR st fb),iw (cT st fb),iw (cG st fb (kH st (⟨4,0,0,eb,fb⟩:Vl))),(.slice se (hrefs st fb).length sf),(.slice zT (aY st fb).length zU)] 100::aa oR #[iw (cR st fb),iw (cT st fb),iw (cG st fb (kH st (⟨4,0,0,eb,fb⟩:Vl))),(.slice se (hrefs st fb).length sf),(.slice zT (aY st fb).length zU)] 100::bJ hb st::own dT Rf (N++[(⟨(cR st fb),(cT st fb),(cG st fb (kH st (⟨4,0,0,eb,fb⟩:Vl))),⟨se,(hrefs st fb).length,sf⟩,⟨zT,(aY st fb).length,zU⟩,(hrefs st fb),(aY st fb)⟩:Ob)])::own an v11 (aQ st)::aa g10 #[Rf,v8] 57::own an v8 R::own an rv R::F) (fun _ h=>h) ?_;exact az (Rf,N++[(⟨(cR st fb),(cT st fb),(cG st fb (kH st (⟨4,0,0,eb,fb⟩:Vl))),⟨se,(hrefs st fb).length,sf⟩,⟨zT,(aY st fb).length,zU⟩,(hrefs st fb),(aY st fb)⟩:Ob)],j+1) (by show (aQ st).length-(j+1)<(aQ st).length-j;omega) (by obtain⟨qY,eW⟩:=Ch;exact⟨by (try dsimp only);omega,Bl Ua eW rfl⟩) sA (rr [5,0,0,3,2,2,2,2] [8,8])
  refine ba (ι:=Nat) 6 (tf [12,4,1,2]) (fun AW=>[(0,pB b 0),(5,pB g10 0),(8,pB AW 0),(39,v11),(40,iw ((aQ st).length:Int)),(41,iw (j:Int)),(49,pB hb 0),(50,iw fb),(57,iw (kH st (⟨4,0,0,eb,fb⟩:Vl)))]) (fun AW=>aa AW #[iw 0,iw 0,iw 0,nS,nS] 100::bJ hb st::aa b #[pB q 0,pB hb 0,iw 0,.map (some KE),KF,KG,KH] 91::qA q G P::KB KE ads::ownO an KF ([]:List Int)::ownO an KG ([]:List Int)::ownO an KH Fr::own dT ox N::frz (dD N)::own an v11 (aQ st)::aa g10 #[ox,v8] 57::own an v8 R::own an rv R::F) ?_ (fun adt=>?_)
  .rintro AW;try dsimp only
   refine ag 12 ?_;refine aH [1] (qH (st:=st) ho.sm om ho.w fb (kH st (⟨4,0,0,eb,fb⟩:Vl))) ?_;rintro _ _ ⟨ahi,ahj,rfl,rfl⟩;skip;skip;refine nH [4,12] ?_;refine gH [13,14,15] [4,12] ?_;exact aB DP (ahi,ahj,AW) (rr [3,0,0,0,0,0,0,0,0,0,0,0,0,0,0,0] [])
  refine aN 11 16 ?_ ?_
  .refine sC [9] (Wu (st:=st) ho.sm om (⟨4,0,0,eb,fb⟩:Vl)) ?_;refine nH [1,9]<|aN 12 16 ?_ ?_
   .refine aH [0] (qH (st:=st) ho.sm om ho.w fb (kH st (⟨4,0,0,eb,fb⟩:Vl))) ?_;rintro _ _ ⟨ahk,ahl,rfl,rfl⟩;skip;skip;refine nH [3,11] ?_;refine gH [13,14,15] [3,11] ?_;refine ag 16 ?_;refine ae (.agg #[iw 0,iw 0,iw 0,nS,nS]) #[iw 0,iw 0,iw 0,nS,nS] (fun Fe=>?_);refine nH [4,12] ?_;exact aB DP (ahk,ahl,Fe) (rr [0,0,0,0,0,0,0,0,0,0,0,0,0,0,0,0] [])
   refine ae (.agg #[iw 0,iw 0,iw 0,nS,nS]) #[iw 0,iw 0,iw 0,nS,nS] (fun JY=>?_);refine nH [2,10] ?_;exact aB adt JY (rr [0,0,0,0,0,0,0,0,0,0,0,0,0,0] [])
  refine ae (.agg #[iw 0,iw 0,iw 0,nS,nS]) #[iw 0,iw 0,iw 0,nS,nS] (fun g56=>?_);refine nH [1,10]<|ag 11 ?_
  refine sC [10] (Wu (st:=st) ho.sm om (⟨4,0,0,eb,fb⟩:Vl)) ?_;refine nH [2,10] ?_;exact aB adt g56 (rr [1,0,0,0,0,0,0,0,0,0,0,0,0,0] [])
 refine cW ?_;refine gs ?_;refine b6 (ι:=Nat×Value×Value×Value×List Ob) (fun (ga,o2,r2,fv,l2)=>l2.map Ob.c=lg N R G P) (fun (ga,o2,r2,fv,l2)=>[(0,pB b 0),(10,pB ga 0),(11,fv)]) (fun (ga,o2,r2,fv,l2)=>ef b q hb 0 m ([]:List Int) ([]:List Int) Fr (il N R G) (eD N R G P)::frz (eP o2 r2 l2 R)::own an fv (fD N R G P)::own an rv R::bJ hb st::aa ga #[o2,r2] 57::F) ?_ ?_
 .refine r9 (fun H h=>dS (h.re [2] [])) (fun ahm ahn aho ahp akM hw=>?_);have akN:=hw;refine br [aa b #[pB q 0,pB hb 0,iw 0,.map (some ahm),ahn,aho,ahp] 91,aa g10 #[ox,v8] 57] ?_;refine gH [0,1,2,3,4] [0,9] ?_;refine aN 5 10 ?_ ?_
  .obtain ⟨qY,eW⟩:=Ch;rw[List.take_of_length_le om]at eW;have mc:=qd eW;have Bd:N.length=(aQ st).length:=by have:=congrArg List.length eW;simpa using this
   refine aC (fun _ h=>qQ (h.re [6,10,6] [])) ?_;refine nO 0 [1] (fun Z1 hz=>Qw (l:=N) (R:=R) (reg:=G) (pend:=P) (oC hz.frz) (mc.chk ho.sm om) om om (mc.small ho.sm om) om om) ?_;rintro _ _ ⟨o2,r2,fv,l2,rfl,nz,rfl⟩;skip;refine nH [4,10] ?_;refine gH [6,7,8,9] [4,10] ?_;refine ag 10 ?_;refine ae (.agg #[nS,nS]) #[nS,nS] (fun zI=>?_);refine nH [5,11]<|ag 11 ?_
   refine bl (fun H h=>((show Acc _ _ dT _ _ from (j8 3)) H h).form) (fun ZY=>?_);refine bl (fun H h=>((show Acc _ _ an _ _ from (Cc 3)) H h).form) (fun y'=>?_);refine ar (u:=.agg #[o2,r2]) (m:=2) 0 #[o2,r2] ?_ (hm:=by (obtain⟨_,_,e0⟩:=ZY;obtain⟨_,_,e1⟩:=y';rw[e0,e1];rfl)) (h1:=by (obtain⟨_,_,e0⟩:=ZY;obtain⟨_,_,e1⟩:=y';rw[e0,e1];rfl)) (ha':=by (obtain⟨_,_,e0⟩:=ZY;obtain⟨_,_,e1⟩:=y';rw[e0,e1];rfl));refine nH [5,11] ?_;refine gH [12,13] [5,11] ?_;refine aI ?_;refine ab (fun _ h=>aV (c:=m) (.inl rfl) (h.re [5,2,4,4,4,4] [])) ?_;exact bh (zI,o2,r2,fv,l2) nz sA (rr [0,2,2,5,3,0] [6,6,6])
  refine ae (.agg #[nS,nS]) #[nS,nS] (fun Oh=>?_);refine nH [1,10]<|ag 5 ?_
  obtain⟨qY,eW⟩:=Ch;rw[List.take_of_length_le om]at eW;have mc:=qd eW;have Bd:N.length=(aQ st).length:=by have:=congrArg List.length eW;simpa using this
  refine aC (fun _ h=>qQ (h.re [7,11,7] [])) ?_;refine nO 0 [2] (fun Z1 hz=>Qw (l:=N) (R:=R) (reg:=G) (pend:=P) (oC hz.frz) (mc.chk ho.sm om) om om (mc.small ho.sm om) om om) ?_;rintro _ _ ⟨o2,r2,fv,l2,rfl,nz,rfl⟩;skip;refine nH [5,11] ?_;refine gH [6,7,8,9] [5,11] ?_;refine ag 11 ?_;refine bl (fun H h=>((show Acc _ _ dT _ _ from (j8 2)) H h).form) (fun ZZ=>?_);refine bl (fun H h=>((show Acc _ _ an _ _ from (Cc 2)) H h).form) (fun Cb=>?_);refine ar (u:=.agg #[o2,r2]) (m:=2) 4 #[o2,r2] ?_ (hm:=by (obtain⟨_,_,e0⟩:=ZZ;obtain⟨_,_,e1⟩:=Cb;rw[e0,e1];rfl)) (h1:=by (obtain⟨_,_,e0⟩:=ZZ;obtain⟨_,_,e1⟩:=Cb;rw[e0,e1];rfl)) (ha':=by (obtain⟨_,_,e0⟩:=ZZ;obtain⟨_,_,e1⟩:=Cb;rw[e0,e1];rfl));refine nH [5,11] ?_;refine gH [12,13] [5,11] ?_;refine aI ?_;refine ab (fun _ h=>aV (c:=m) (.inl rfl) (h.re [5,1,4,4,4,4] [])) ?_;exact bh (Oh,o2,r2,fv,l2) nz sA (rr [0,1,1,5,3,1] [6,6,6])
 rintro⟨ga,o2,r2,fv,l2⟩ sc;try dsimp only at sc⊢
 have nz:=sc;obtain⟨qY,eW⟩:=Ch;rw[List.take_of_length_le om]at eW;have mc:=qd eW;have Bd:N.length=(aQ st).length:=(by have:=congrArg List.length eW;simpa using this);have Qx:N.map Ob.c=(lW st).map Ob.c:=eW.trans (ZX st).symm;have D3:∀c∈(l2.map Ob.c),c.2.2.1≠0→∀o,st.get c.1=some o→o.kind=4:=fun c hc hw o hg=>by obtain⟨o',h1,h2⟩:=pe mc (by rw[←nz];exact hc) hw;rw[hg]at h1;cases h1;exact h2
 have hFl:(fD N R G P).length≤N.length:=by unfold fD;refine Nat.le_trans (List.length_filter_le _ _) ?_;rw[List.length_map];exact Nat.le_refl _
 have hPl:(eD N R G P).length≤P.length+G.length:=by unfold eD;exact tU N R G P
 have ahq:l2.length≤N.length:=(si nz (mc.small ho.sm om)).1;refine go ?_;refine sL (bL bt Tryz.underlying55 (j8 1)) ?_;refine go ?_;refine aK (Bs:=ef b q hb 0 m ([]:List Int) ([]:List Int) Fr (il N R G) (eD N R G P)::frz (eP o2 r2 l2 R)::own an fv (fD N R G P)::own an rv R::bJ hb (dk st ((l2.map Ob.c).take 0))::aa ga #[o2,r2] 57::F) (fun _ h=>h) ?_;refine aD (ι:=Nat) (fun i=>i≤l2.length) (fun i=>[(0,pB b 0),(11,fv),(79,o2),(80,iw (l2.length:Int)),(81,iw (i:Int))]) (fun i=>ef b q hb 0 m ([]:List Int) ([]:List Int) Fr (il N R G) (eD N R G P)::frz (eP o2 r2 l2 R)::own an fv (fD N R G P)::own an rv R::bJ hb (dk st ((l2.map Ob.c).take i))::F) (fun i=>l2.length-i) 0 (Nat.zero_le _) sA (rr [0,0,0,0,0] [5]) ?_;rintro i ahr;try dsimp only at ahr⊢
 refine gc ?_;refine b9 (fun LM=>?_) (fun p82=>?_)
 .refine go ?_;refine sL (aF bt Tryz.underlying55 (j8 1) (i:Int) i om ol om) ?_;obtain⟨E3,UM⟩:∃y,l2[i]?=some y:=⟨_,List.getElem?_eq_getElem ol⟩;refine sL (bC bt (j8 1) UM) ?_;refine ae (.agg #[iw 0,iw 0,iw 0,nS,nS]) #[iw 0,iw 0,iw 0,nS,nS] (fun g78=>?_);refine gc ?_;refine b9 (fun p80=>?_) (fun q79=>?_)
  .refine go ?_;have Z0:(l2.map Ob.c)[i]?=some E3.c:=by rw[List.getElem?_map,UM];rfl
   obtain⟨ho1,ahs⟩:=sJ ho om (l2.map Ob.c) D3 i;obtain⟨o0,Tu,h40⟩:=pe mc (by rw[←nz];exact List.mem_of_getElem? Z0) (show E3.c.2.2.1≠0 from p80);obtain⟨o1,X2,h41⟩:=I1 ahs.fr Tu h40;refine nO 2 [1,3] (fun Z1 hz=>Qs (x:=E3) (st:=(dk st ((l2.map Ob.c).take i))) ((oC (ov:=o2) (rv:=r2) (l:=l2) (R:=R) hz.frz).each E3 (List.mem_of_getElem? UM)) ho1 om X2 h41) ?_;rintro _ _ ⟨rfl,rfl⟩;refine gy ?_;have Ka:=sn (st:=st) Z0;rw[if_pos (show E3.c.2.2.1≠0 from p80)]at Ka;refine ab (Bs:=frz (eP o2 r2 l2 R)::ef b q hb 0 m ([]:List Int) ([]:List Int) Fr (il N R G) (eD N R G P)::bJ hb (dk st ((l2.map Ob.c).take (i+1)))::aa g78 #[iw E3.id,iw E3.size,iw E3.weak,E3.rv.v,E3.ev.v] 100::own an fv (fD N R G P)::own an rv R::F) (fun _ h=>by rw[Ka];exact h) ?_;exact az (i+1) (by show l2.length-(i+1)<l2.length-i;omega) om sA (rr [1,0,2,2,0] [5])
  have p81:=Decidable.not_not.1 q79;refine gy ?_;have Z0:(l2.map Ob.c)[i]?=some E3.c:=by rw[List.getElem?_map,UM];rfl
  have Ka:=sn (st:=st) Z0;rw[if_neg (show ¬E3.c.2.2.1≠0 from q79)]at Ka;refine ab (Bs:=aa g78 #[iw E3.id,iw E3.size,iw E3.weak,E3.rv.v,E3.ev.v] 100::ef b q hb 0 m ([]:List Int) ([]:List Int) Fr (il N R G) (eD N R G P)::frz (eP o2 r2 l2 R)::own an fv (fD N R G P)::own an rv R::bJ hb (dk st ((l2.map Ob.c).take (i+1)))::F) (fun _ h=>by rw[Ka];exact h) ?_;exact az (i+1) (by show l2.length-(i+1)<l2.length-i;omega) om sA (rr [1,1,1,1,1] [5])
 refine gy ?_;refine aK (Bs:=ef b q hb 0 m ([]:List Int) ([]:List Int) Fr (il N R G) (eD N R G P)::frz (eP o2 r2 l2 R)::own an fv (fD N R G P)::own an rv R::bJ hb (drps (dk st (l2.map Ob.c)) ((fD N R G P).take 0))::F) (fun _ h=>by rw[List.take_of_length_le (by rw[List.length_map];omega)]at h;exact h) ?_;refine aD (ι:=Nat) (fun i=>i≤(fD N R G P).length) (fun i=>[(0,pB b 0),(11,fv),(92,fv),(93,iw ((fD N R G P).length:Int)),(94,iw (i:Int))]) (fun i=>ef b q hb 0 m ([]:List Int) ([]:List Int) Fr (il N R G) (eD N R G P)::own an fv (fD N R G P)::own an rv R::bJ hb (drps (dk st (l2.map Ob.c)) ((fD N R G P).take i))::F) (fun i=>(fD N R G P).length-i) 0 (Nat.zero_le _) sA (rr [0,1,1,1] [4]) ?_;rintro i aht;try dsimp only at aht⊢
 refine gc ?_;refine b9 (fun p85=>?_) (fun p94=>?_)
 .obtain ⟨y86,ahu⟩:∃y,(fD N R G P)[i]?=some y:=⟨_,List.getElem?_eq_getElem ol⟩;refine gy ?_;refine cC (fun H h=>dS (h.re [0] [])) (fun akO akP akQ akR akS hw=>?_);have akT:=hw;refine gC [8] ?_ (c:=Ib (st:=(drps (dk st (l2.map Ob.c)) ((fD N R G P).take i))) y86);refine ab (fun _ h=>aV (c:=m) (.inl rfl) (h.re [1,1,1,1,1,1] [])) ?_;refine ab (Bs:=ef b q hb 0 m ([]:List Int) ([]:List Int) Fr (il N R G) (eD N R G P)::bJ hb (drps (dk st (l2.map Ob.c)) ((fD N R G P).take (i+1)))::own an fv (fD N R G P)::own an rv R::F) (fun _ h=>by rw[Lg ahu];exact h) ?_;exact az (i+1) (by show (fD N R G P).length-(i+1)<(fD N R G P).length-i;omega) om sA (rr [0,1,1,0] [])
 refine go ?_;refine cC (fun H h=>dS (h.re [0] [])) (fun akU akV akW akX akY hw=>?_);have aiO:=hw;refine go ?_;refine gX (L:=Fr) 5 ak Tryz.underlying23 (.own 6) (by show _*8≤_;(try simp only[cD]);omega) ol (fun akZ=>?_);refine bl (fun H h=>((Acc.ownO (T:=an) (L:=(Fr++(fD N R G P))) 5 rfl) H h).form) (fun aiP=>?_);refine gy ?_;refine aH [1] (uX (pend:=(eD N R G P)) om) ?_;rintro UO _ rfl;skip;refine gy ?_;refine ab (fun _ h=>aV (c:=m) (.inl rfl) (h.re [2,1,1,1,1,1] [])) ?_;have hH:nK st R G P=drps (dk st (l2.map Ob.c)) (fD N R G P):=by unfold nK zt mR;rw[←Qu R G P Qx,←Cq R G P Qx,nz]
 have hF:mR st R G P=(fD N R G P):=(Cq R G P Qx).symm;refine ab (Bs:=ef b q hb 0 m ([]:List Int) ([]:List Int) (Fr++(fD N R G P)) (il N R G) (eD N R G P)::own an UO (eD N R G P)::own an fv (fD N R G P)::own an rv R::bJ hb (drps (dk st (l2.map Ob.c)) (fD N R G P))::F) (fun _ h=>by rw[List.take_of_length_le om]at h;exact h) ?_;have hGW:=I0 R G Qx;have hPW:=Cp R G P Qx;refine ab (Bs:=ef b q hb 0 m [] [] (Fr++mR st R G P) (il (lW st) R G) (eD (lW st) R G P)::own an UO (eD (lW st) R G P)::own an fv (fD N R G P)::own an rv R::bJ hb (nK st R G P)::F) (fun _ h=>by rw[hH,hF,←hGW,←hPW];exact h) ?_;exact ad [UO] (own an UO (eD (lW st) R G P)::own an rv R::ef b q hb 0 m [] [] (Fr++mR st R G P) (il (lW st) R G) (eD (lW st) R G P)::bJ hb (nK st R G P)::F) (SI.tmp 4 SI.nil) (rr [1,2,0,1] [4]) rfl
end
end Go.Proofs.YtmhpcebiamkciaaGreat
