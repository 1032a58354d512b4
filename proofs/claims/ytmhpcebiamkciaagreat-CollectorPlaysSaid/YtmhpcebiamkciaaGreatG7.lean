/-
  Layer 45: Clear of layer 26. Each law says its conditions.
-/
import Derived.Test.YtmhpcebiamkciaaGreatG6
import Derived.Test.YtmhpcebiamkciaaGreatG2
import Derived.Test.YtmhpcebiamkciaaGreatG4
import Derived.Test.YtmhpcebiamkciaaGreatG5
set_option linter.unusedSimpArgs false
set_option linter.unusedVariables false
set_option maxRecDepth 100000
set_option maxHeartbeats 2000000
namespace Go.Proofs.YtmhpcebiamkciaaGreat
open Go.Hp Go.J Go.S
open Go.Mem (fS Ty eB bN dg cL aget_none_iff cm db dO aset_new blk blk_pre fM elemAt pre rF suf)
section
variable{l N:List Ob}{Z:bK}{R A L M reg pend M0 I:List Int}{i cb qb k b mb:Nat}{ov rv av mv lv iv v:Value}{F As:List aW}{y x o:Ob}{last:Int}{α β:Type}{H:bb}{p:iF→Bool}{e:iF}
theorem Es(hy:l[i]?=some y)(h:y.weak=1):jz (l.take (i+1))=jz (l.take i)++[y]:=by
 rw[List.take_add_one,hy];simp[jz,List.filter_append,h]
theorem T4(hy:l[i]?=some y)(h:y.weak≠1):jz (l.take (i+1))=jz (l.take i):=by
 rw[List.take_add_one,hy];simp[jz,List.filter_append,h]
theorem PB(hy:l[i]?=some y)(h:y.id∈M):ik (l.take i) M++[y.id]=ik (l.take (i+1)) M:=by
 rw[List.take_add_one,hy];simp[ik,List.filter_append,h]
theorem T5(hy:l[i]?=some y)(h:y.id∉M):ik (l.take i) M=ik (l.take (i+1)) M:=by
 rw[List.take_add_one,hy];simp[ik,List.filter_append,h]
theorem Et(l:List Ob)(M:List Int):(ik l M).length≤l.length:=by unfold ik;rw[List.length_map];exact List.length_filter_le _ _
def aM(l:List Ob)(R:List Int):List Int:=if chk 0 l=true then ik l (ot l R).1 else []
theorem ly(h:chk 0 l=true):aM l R=ik l (ot l R).1:=if_pos h
theorem j7(h:chk 0 l=false):aM l R=[]:=if_neg (by simp[h])
theorem Eu(l:List Ob)(R:List Int):Ca l R=aM l R:=by
 cases h:chk 0 l with
 | false=>rw[yN h,j7 h]
 | true=>rw[Bb h,ly h,O7 (iH h) (A3 l R)];exact O8 (O6 l R).1
theorem Bc(l:List Ob)(R:List Int):(aM l R).Pairwise (· < ·):=by
 cases h:chk 0 l with
 | false=>rw[j7 h];exact List.Pairwise.nil
 | true=>rw[ly h];exact tL (iH h) _
theorem KV(l:List Ob)(R:List Int):(aM l R).length≤l.length:=by
 cases h:chk 0 l with
 | false=>rw[j7 h];exact Nat.zero_le _
 | true=>rw[ly h];exact Et l _
def bG(A:List Int)(id:Int):Bool:=decide (id≠0)&&!decide (id∈A)
def bM(A:List Int)(weak:Int)(e:iF):Bool:= !(((decide (weak=1)||decide (weak=3))&&bG A e.key)||((decide (weak=2)||decide (weak=3))&&bG A e.val))
def gD(last:Int):List Int→Bool
 | []=>true
 | a::r=>decide (last<a)&&gD a r
theorem lz{y:Int}(hy:L[i]?=some y):gD last (L.drop i)=(decide (last<y)&&gD y (L.drop (i+1))):=by
 have h:L.drop i=y::L.drop (i+1):=by
  obtain⟨hi,e⟩:=List.getElem?_eq_some_iff.1 hy;rw[←e];exact List.drop_eq_getElem_cons hi
 rw[h];rfl
theorem T6(h:gD last L=true):∀x∈L,last<x:=by
 induction L generalizing last with
 | nil=>simp
 | cons a r ih=>
  simp only[gD,Bool.and_eq_true,decide_eq_true_eq]at h;intro x hx;rcases List.mem_cons.1 hx with rfl|hx
  .exact h.1
  have:=ih h.2 x hx;omega
theorem Ev(h:gD last L=true):L.Pairwise (· < ·):=by
 induction L generalizing last with
 | nil=>exact .nil
 | cons a r ih=>
  simp only[gD,Bool.and_eq_true,decide_eq_true_eq]at h;exact List.pairwise_cons.2 ⟨T6 h.2,ih h.2⟩
theorem T7(h:L.Pairwise (· < ·))(h0:∀x∈L,last<x):gD last L=true:=by
 induction L generalizing last with
 | nil=>rfl
 | cons a r ih=>
  obtain⟨h1,h2⟩:=List.pairwise_cons.1 h;simp only[gD,Bool.and_eq_true,decide_eq_true_eq];exact⟨h0 a (by simp),ih h2 h1⟩
def GW(A:List Int)(x:Ob):Core:=(x.id,x.size,x.weak,x.refs,x.ents.filter (bM A x.weak))
theorem qQ{L:List Ob}(h:Holds Z (own dT ov L::own an rv R::frz (dD L)::As) H):Holds Z (frz (eP ov rv L R)::As) H:=by
 have h1:Holds Z (own an rv R::frz (dD L)::own dT ov L::As) H:=h.re [1,1] [];have h3:Holds Z (own dT ov L::frz (fun H=>Sl H an rv R∧dD L H)::As) H:=(h1.frzO).re [1] [];exact h3.frzO.frzM fun H ⟨a,b,c⟩=>⟨a,b,c⟩
theorem sa(h:Holds Z As H):Holds Z (frz (eP (.slice none 0 0) (.slice none 0 0) [] [])::As) H:=
 h.frz0 fun H=>⟨Sl.nil _ _,Sl.nil _ _,fun x hx=>by cases hx⟩
theorem p'{L:List iF}(h:L[k]?=some e)(hp:p e=true):(L.take k).filter p++[e]=(L.take (k+1)).filter p:=by
 rw[List.take_add_one,h];simp[List.filter_append,hp]
theorem w4{L:List iF}(h:L[k]?=some e)(hp:p e=false):(L.take k).filter p=(L.take (k+1)).filter p:=by
 rw[List.take_add_one,h];simp[List.filter_append,hp]
theorem nt{γ:Type}{g:β→γ}{L:List α}{M:List β}{y:α}{z:β}{γ':α→γ}(hy:L[i]?=some y)(h:M.map g=(L.take i).map γ')(hz:g z=γ' y):(M++[z]).map g=(L.take (i+1)).map γ':=by
 rw[List.take_add_one,hy,List.map_append,List.map_append,h];simp[hz]
theorem GX(hA:Kn Z an av A)(hs:A.Pairwise (· < ·))(hl:A.length≤1000000)(id:Int):NF 217 #[av,iw id] Z [] (.bool (bG A id)):=by
 refine bO Tryz.func217 19 (fun w0=>?_);refine go ?_;refine sV (fun _ h=>Zf id (Acc.kn (.zn hA) h) om (hs.imp fun h=>by omega)) ?_;refine gs ?_;refine b6 (ι:=Unit) (fun _=>True) (fun _=>[(4,.bool ((decide (id≠0))&&(!(decide (id∈A)))))]) (fun _=>[]) ?_ (fun _ _=>?_)
 .refine gc ?_;refine eF 15 (fun p2=>?_) (fun q1=>?_)
  .refine go ?_;exact xc
  have p3:=Decidable.not_not.1 q1;refine go ?_;exact xc
 refine gz ?_;exact fg ⟨cB (by unfold bG;simp[]),rfl⟩
theorem IB(hg:oO Z ov rv l R)(hA:Kn Z an av A)(hlA:A.length≤100000)(hl:l.length≤100000)(hr:R.length≤100000)(ca:∀o∈l,o.refs.length≤400∧o.ents.length≤100000):SF Tryz.prog 177 #[.agg #[ov,rv],av] Z [] fun r Bs=>∃rb rv' l' R',r=.tuple #[.agg #[rb,rv'],iw (fa (chk 0 l&&gD 0 A))]∧l'.map Ob.c=(if (chk 0 l&&gD 0 A)=true then l.map (GW A) else [])∧R'=(if (chk 0 l&&gD 0 A)=true then R else [])∧Bs=[frz (eP rb rv' l' R')]:=by
 refine bx Tryz.func177 105 [(0,.agg #[ov,rv]),(1,av)] (fun w0=>?_);refine aE<|bd<|bj #[ov,rv] (fun g1=>?_)
 refine ae (.agg #[nS,nS]) #[nS,nS] (fun g2=>?_);refine sL (ai (iw 0)) ?_;refine go ?_;refine sV (fun _ h=>yI (hg.up h))<|sL (ai (iw (fa (chk 0 l))))<|a8<|ax<|aE<|bd<|sL (ai (iw (fa (chk 0 l)))) ?_
 refine gc ?_;refine b9 (fun p4=>?_) (fun q3=>?_)
 .have hc:=kG p4;refine aE<|bd<|sL (ay (.agg #[nS,nS]))<|sL (ai (iw (fa (chk 0 l))))<|ar 0 #[nS,nS] ?_
  refine sL (ai (iw (fa (chk 0 l)))) ?_;refine go ?_;have tQ:(chk 0 l&&gD 0 A)=false:=by rw[hc];rfl
  refine ad [.agg #[nS,nS],iw (fa (chk 0 l))] [frz (eP nS nS [] [])] (SI.agg 4 57 0 (SI.tmp 5 SI.nil)) (fun _ h=>(sa h).re [0] [1,1]) ⟨_,_,[],[],by rw[tQ,hc];rfl,by rw[tQ];rfl,by rw[tQ];rfl,rfl⟩
 have p5:=Decidable.not_not.1 q3;have hc:=mh p5;have hs:=iH hc;refine jB<|ax<|aE<|bd<|sL (ai (iw 0))<|a8<|ax<|aE<|aE<|bd<|sL (ai av)<|sL (bL ak Tryz.underlying23 (.zn hA))<|sL (ai (iw 0)) ?_
 refine go ?_;refine aD (ι:=Int×Nat) (fun (last,i)=>i≤A.length∧gD 0 A=gD last (A.drop i)∧0≤last) (fun (last,i)=>[(1,av),(2,pB g1 0),(4,pB g2 0),(5,iw 0),(7,iw last),(24,av),(25,iw (A.length:Int)),(26,iw (i:Int))]) (fun (last,i)=>[aa g2 #[nS,nS] 57,aa g1 #[ov,rv] 57]) (fun (last,i)=>A.length-i) (0,0) ⟨Nat.zero_le _,rfl,Int.le_refl _⟩ sA (rr [0,0] []) ?_;rintro⟨last,i⟩ kV;replace kV:i≤A.length∧gD 0 A=gD last (A.drop i)∧0≤last:=kV;show SK _ _ _ _ _ [(1,av),(2,pB g1 0),(4,pB g2 0),(5,iw 0),(7,iw last),(24,av),(25,iw (A.length:Int)),(26,iw (i:Int))] _ [aa g2 #[nS,nS] 57,aa g1 #[ov,rv] 57];refine gc ?_;refine b9 (fun p8=>?_) (fun iU=>?_)
 .refine go ?_;refine sL (aF ak Tryz.underlying23 (.zn hA) (i:Int) i om ol om) ?_;obtain⟨y9,jA⟩:∃y,A[i]?=some y:=⟨_,List.getElem?_eq_getElem ol⟩;refine sL (bC ak (.zn hA) jA)<|sL (ai (iw y9))<|a8<|ax<|aE<|aE<|bd<|sL (ai (iw y9))<|sL (ai (iw last)) ?_
  refine gc ?_;refine b9 (fun my=>?_) (fun fL=>?_)
  .refine aE<|bd<|sL (ay (.agg #[nS,nS]))<|ar 0 #[nS,nS] ?_
   refine sL (ai (iw 2)) ?_;refine go ?_;have tQ:(chk 0 l&&gD 0 A)=false:=by rw[kV.2.1,lz jA,decide_eq_false (p:=last<y9) om];simp
   refine ad [.agg #[nS,nS],iw 2] [frz (eP nS nS [] [])] (SI.agg 4 57 0 (SI.tmp 5 SI.nil)) (fun _ h=>(sa h).re [0] [1,1]) ⟨_,_,[],[],by rw[tQ];rfl,by rw[tQ];rfl,by rw[tQ];rfl,rfl⟩
  refine jB<|ax<|bd<|sL (ai (iw y9))<|sL (ai (iw y9)) ?_
  refine go ?_;refine sL (bX (i:Int) 1 ol)<|sL (ai (iw ((i:Int)+1)))<|a8 ?_
  exact az (y9,i+1) (by show A.length-(i+1)<A.length-i;omega) (by obtain⟨cQ,cg,gE⟩:=kV;have hd:=lz (last:=last) jA;refine⟨by omega,?_,by omega⟩;rw[cg,hd,decide_eq_true om];rfl) sA (rr [0,0] [])
 refine cW<|cM<|cM<|gL<|ax<|aE<|bd<|sL (ai (pB g1 1))<|sL (aJ 1 rv)<|a6 (fun _ h=>k6 (Acc.kn (.zn hg.roots) h) ol) ?_
 rintro m0 _ rfl;refine sF 0 (fun mJ=>?_);refine sL (show Lt _ _ _ _ _ (.agg #[nS,m0]) from by obtain⟨_,_,e⟩:=mJ;rw[e];clear e;exact ay _)<|ae (.agg #[nS,nS]) #[nS,nS] (fun g17=>?_)
 refine ar (u:=.agg #[nS,m0]) (m:=2) 0 #[nS,m0] ?_ (hm:=by (obtain⟨_,_,e0⟩:=mJ;rw[e0];rfl)) (h1:=by (obtain⟨_,_,e0⟩:=mJ;rw[e0];rfl)) (ha':=by (obtain⟨_,_,e0⟩:=mJ;rw[e0];rfl));refine a8<|ax<|aE<|aE<|bd<|sL (ai (pB g1 0))<|sL (aJ 3 ov)<|sL (bL bt Tryz.underlying55 (.zn hg.obs))<|sL (ai (iw 0)) ?_
 refine go ?_;have hA1:gD 0 A=true:=by rw[kV.2.1,List.drop_of_length_le om];rfl
 have hA2:=Ev hA1;skip;refine aK (fun _ h=>Holds.nilS (T:=dT) (h.frz0 (F:=dD []) (by intro _ x hx;cases hx))) ?_;refine aD (ι:=Value×List Ob×Nat) (fun (ox,N,j)=>j≤l.length∧N.map Ob.c=(l.take j).map (GW A)) (fun (ox,N,j)=>[(1,av),(4,pB g2 0),(5,iw 0),(10,pB g17 0),(41,ov),(42,iw (l.length:Int)),(43,iw (j:Int))]) (fun (ox,N,j)=>[own dT ox N,frz (dD N),aa g17 #[ox,m0] 57,own an m0 R,aa g2 #[nS,nS] 57,aa g1 #[ov,rv] 57]) (fun (ox,N,j)=>l.length-j) (nS,[],0) ⟨Nat.zero_le _,rfl⟩ sA (rr [0,0,0,0,0,0] []) ?_;rintro⟨ox,N,j⟩ iG;replace iG:j≤l.length∧N.map Ob.c=(l.take j).map (GW A):=iG;show SK _ _ _ _ _ [(1,av),(4,pB g2 0),(5,iw 0),(10,pB g17 0),(41,ov),(42,iw (l.length:Int)),(43,iw (j:Int))] _ [own dT ox N,frz (dD N),aa g17 #[ox,m0] 57,own an m0 R,aa g2 #[nS,nS] 57,aa g1 #[ov,rv] 57];have Bd:N.length=j:=by have:=congrArg List.length iG.2;simp only[List.length_map,List.length_take]at this;omega
 refine gc ?_;refine b9 (fun zj=>?_) (fun Wl=>?_)
 .refine go ?_;refine sL (aF bt Tryz.underlying55 (.zn hg.obs) (j:Int) j om ol om) ?_;obtain⟨aU,GY⟩:∃y,l[j]?=some y:=⟨_,List.getElem?_eq_getElem ol⟩;have T8:=hg.each aU (List.mem_of_getElem? GY);have LB:=ca aU (List.mem_of_getElem? GY);refine sL (bC bt (.zn hg.obs) GY)<|ae (.agg #[iw 0,iw 0,iw 0,nS,nS]) #[iw 0,iw 0,iw 0,nS,nS] (fun g24=>?_)
  refine ar 0 #[iw aU.id,iw aU.size,iw aU.weak,aU.rv.v,aU.ev.v] ?_;refine a8<|ax<|aE<|bd<|sL (ai (pB g24 3))<|sL (aJ 0 aU.rv.v)<|a6 (fun _ h=>k6 (Acc.kn (.zn T8.1) h) ol) ?_
  rintro v25 _ rfl;refine sF 0 (fun pf=>?_);refine sL (ai (pB g24 3))<|ar (u:=v25) (m:=1) 1 #[iw aU.id,iw aU.size,iw aU.weak,v25,aU.ev.v] ?_ (hm:=by (obtain⟨_,_,e0⟩:=pf;rw[e0];rfl)) (h1:=by (obtain⟨_,_,e0⟩:=pf;rw[e0];rfl)) (ha':=by (obtain⟨_,_,e0⟩:=pf;rw[e0];rfl))
  refine a8<|ax<|aE<|bd<|sL (ai nS)<|a8<|ax<|aE<|aE<|bd<|sL (ai (pB g24 4))<|sL (aJ 1 aU.ev.v)<|sL (bL dy Tryz.underlying98 (.zn T8.2))<|sL (ai (iw 0)) ?_
  refine go ?_;refine aK (fun _ h=>Holds.nilS (T:=cq) h) ?_;refine aK (Bs:=[own cq nS ((aU.ents.take 0).filter (bM A aU.weak)),own an v25 aU.refs,aa g24 #[iw aU.id,iw aU.size,iw aU.weak,v25,aU.ev.v] 100,own dT ox N,frz (dD N),aa g17 #[ox,m0] 57,own an m0 R,aa g2 #[nS,nS] 57,aa g1 #[ov,rv] 57]) (fun _ h=>h) ?_;refine aD (ι:=Value×Nat) (fun (sy,k)=>k≤aU.ents.length) (fun (sy,k)=>[(1,av),(4,pB g2 0),(5,iw 0),(10,pB g17 0),(12,pB g24 0),(13,sy),(41,ov),(42,iw (l.length:Int)),(43,iw (j:Int)),(44,.bool (decide ((j:Int)<(l.length:Int)))),(45,.pointer (some (elemAt dT.size ov j))),(46,.agg #[iw aU.id,iw aU.size,iw aU.weak,aU.rv.v,aU.ev.v]),(47,pB g24 3),(48,aU.rv.v),(49,v25),(50,pB g24 3),(51,pB g24 4),(52,aU.ev.v),(53,iw (aU.ents.length:Int)),(54,iw (k:Int))]) (fun (sy,k)=>[own cq sy ((aU.ents.take k).filter (bM A aU.weak)),own an v25 aU.refs,aa g24 #[iw aU.id,iw aU.size,iw aU.weak,v25,aU.ev.v] 100,own dT ox N,frz (dD N),aa g17 #[ox,m0] 57,own an m0 R,aa g2 #[nS,nS] 57,aa g1 #[ov,rv] 57]) (fun (sy,k)=>aU.ents.length-k) (nS,0) (Nat.zero_le _) sA (rr [0,0,0,0,0,0,0,0,0] []) ?_;rintro⟨sy,k⟩ uS;replace uS:k≤aU.ents.length:=uS;show SK _ _ _ _ _ [(1,av),(4,pB g2 0),(5,iw 0),(10,pB g17 0),(12,pB g24 0),(13,sy),(41,ov),(42,iw (l.length:Int)),(43,iw (j:Int)),(44,.bool (decide ((j:Int)<(l.length:Int)))),(45,.pointer (some (elemAt dT.size ov j))),(46,.agg #[iw aU.id,iw aU.size,iw aU.weak,aU.rv.v,aU.ev.v]),(47,pB g24 3),(48,aU.rv.v),(49,v25),(50,pB g24 3),(51,pB g24 4),(52,aU.ev.v),(53,iw (aU.ents.length:Int)),(54,iw (k:Int))] _ [own cq sy ((aU.ents.take k).filter (bM A aU.weak)),own an v25 aU.refs,aa g24 #[iw aU.id,iw aU.size,iw aU.weak,v25,aU.ev.v] 100,own dT ox N,frz (dD N),aa g17 #[ox,m0] 57,own an m0 R,aa g2 #[nS,nS] 57,aa g1 #[ov,rv] 57];have vq:=List.length_filter_le (bM A aU.weak) (aU.ents.take k);rw[List.length_take]at vq;refine gc ?_;refine b9 (fun Dt=>?_) (fun p62=>?_)
  .refine go ?_;refine sL (aF dy Tryz.underlying98 (.zn T8.2) (k:Int) k om ol om) ?_;obtain⟨bI,rY⟩:∃y,aU.ents[k]?=some y:=⟨_,List.getElem?_eq_getElem ol⟩;refine sL (bC dy (.zn T8.2) rY)<|ae (.agg #[iw 0,iw 0]) #[iw 0,iw 0] (fun zF=>?_)
   refine gs ?_;refine b6 (ι:=Unit) (fun _=>True) (fun _=>[(1,av),(4,pB g2 0),(5,iw 0),(10,pB g17 0),(12,pB g24 0),(13,sy),(15,pB zF 0),(16,.bool ((decide (aU.weak=1))||(decide (aU.weak=3)))),(41,ov),(42,iw (l.length:Int)),(43,iw (j:Int)),(44,.bool (decide ((j:Int)<(l.length:Int)))),(45,.pointer (some (elemAt dT.size ov j))),(46,.agg #[iw aU.id,iw aU.size,iw aU.weak,aU.rv.v,aU.ev.v]),(47,pB g24 3),(48,aU.rv.v),(49,v25),(50,pB g24 3),(51,pB g24 4),(52,aU.ev.v),(53,iw (aU.ents.length:Int)),(54,iw (k:Int)),(55,.bool (decide ((k:Int)<(aU.ents.length:Int)))),(56,.pointer (some (elemAt cq.size aU.ev.v k))),(57,.agg #[iw bI.key,iw bI.val]),(58,pB g24 2),(59,iw aU.weak),(60,.bool (decide (aU.weak=1))),(61,.bool (decide (aU.weak=1))),(65,.bool ((decide (aU.weak=1))||(decide (aU.weak=3))))]) (fun _=>[aa zF #[iw bI.key,iw bI.val] 167,own cq sy ((aU.ents.take k).filter (bM A aU.weak)),own an v25 aU.refs,aa g24 #[iw aU.id,iw aU.size,iw aU.weak,v25,aU.ev.v] 100,own dT ox N,frz (dD N),aa g17 #[ox,m0] 57,own an m0 R,aa g2 #[nS,nS] 57,aa g1 #[ov,rv] 57]) ?_ (fun _ _=>?_)
   .refine bd<|sL (ai (pB g24 2))<|sL (aJ 3 (iw aU.weak))<|sL aT<|sL (ai (.bool (decide (aU.weak=1))))<|eF 61 (fun kt=>?_) (fun Ay=>?_)
    .refine sK<|sK<|sK<|sL (ai (.bool true))<|sL (ai (.bool true))<|a8 ?_
     exact bh () trivial (bc rfl (rQ (rQ (rQ (rQ (rQ (rQ (rQ ⟨⟨rfl,show Value.bool true=Value.bool ((decide (aU.weak=1))||(decide (aU.weak=3))) by first|(simp only[kt,jK];done)|simp[kt]⟩,(rQ (rQ (rQ (rQ (rQ (rQ (rQ (rQ (rQ (rQ (rQ (rQ (rQ (rQ (rQ (rQ (rQ (rQ (rQ (rQ ⟨⟨rfl,show Value.bool true=Value.bool (decide (aU.weak=1)) by first|(simp only[kt,jK];done)|simp[kt]⟩,⟨⟨rfl,show Value.bool true=Value.bool ((decide (aU.weak=1))||(decide (aU.weak=3))) by first|(simp only[kt,jK];done)|simp[kt]⟩,trivial⟩⟩))))))))))))))))))))⟩)))))))) (rr [0,0,0,0,0,0,0,0,0,0] [])
    refine sL (ai (pB g24 2))<|sL (aJ 3 (iw aU.weak))<|sL aT<|sL (ai (.bool (decide (aU.weak=3))))<|sL (ai (.bool (decide (aU.weak=3))))<|a8 ?_
    exact bh () trivial (bc rfl (rQ (rQ (rQ (rQ (rQ (rQ (rQ ⟨⟨rfl,show Value.bool (decide (aU.weak=3))=Value.bool ((decide (aU.weak=1))||(decide (aU.weak=3))) by first|(simp only[Ay,jK];done)|simp[Ay]⟩,(rQ (rQ (rQ (rQ (rQ (rQ (rQ (rQ (rQ (rQ (rQ (rQ (rQ (rQ (rQ (rQ (rQ (rQ (rQ (rQ ⟨⟨rfl,show Value.bool false=Value.bool (decide (aU.weak=1)) by first|(simp only[Ay,jK];done)|simp[Ay]⟩,⟨⟨rfl,show Value.bool (decide (aU.weak=3))=Value.bool ((decide (aU.weak=1))||(decide (aU.weak=3))) by first|(simp only[Ay,jK];done)|simp[Ay]⟩,trivial⟩⟩))))))))))))))))))))⟩)))))))) (rr [0,0,0,0,0,0,0,0,0,0] [])
   refine b6 (ι:=Unit) (fun _=>True) (fun _=>[(1,av),(4,pB g2 0),(5,iw 0),(10,pB g17 0),(12,pB g24 0),(13,sy),(15,pB zF 0),(16,.bool ((decide (aU.weak=1))||(decide (aU.weak=3)))),(17,.bool ((decide (aU.weak=2))||(decide (aU.weak=3)))),(41,ov),(42,iw (l.length:Int)),(43,iw (j:Int)),(44,.bool (decide ((j:Int)<(l.length:Int)))),(45,.pointer (some (elemAt dT.size ov j))),(46,.agg #[iw aU.id,iw aU.size,iw aU.weak,aU.rv.v,aU.ev.v]),(47,pB g24 3),(48,aU.rv.v),(49,v25),(50,pB g24 3),(51,pB g24 4),(52,aU.ev.v),(53,iw (aU.ents.length:Int)),(54,iw (k:Int)),(55,.bool (decide ((k:Int)<(aU.ents.length:Int)))),(56,.pointer (some (elemAt cq.size aU.ev.v k))),(57,.agg #[iw bI.key,iw bI.val]),(58,pB g24 2),(59,iw aU.weak),(60,.bool (decide (aU.weak=1))),(61,.bool (decide (aU.weak=1))),(65,.bool ((decide (aU.weak=1))||(decide (aU.weak=3)))),(66,pB g24 2),(67,iw aU.weak),(68,.bool (decide (aU.weak=2))),(69,.bool (decide (aU.weak=2))),(73,.bool ((decide (aU.weak=2))||(decide (aU.weak=3))))]) (fun _=>[aa zF #[iw bI.key,iw bI.val] 167,own cq sy ((aU.ents.take k).filter (bM A aU.weak)),own an v25 aU.refs,aa g24 #[iw aU.id,iw aU.size,iw aU.weak,v25,aU.ev.v] 100,own dT ox N,frz (dD N),aa g17 #[ox,m0] 57,own an m0 R,aa g2 #[nS,nS] 57,aa g1 #[ov,rv] 57]) ?_ (fun _ _=>?_)
   .refine bd<|sL (ai (pB g24 2))<|sL (aJ 3 (iw aU.weak))<|sL aT<|sL (ai (.bool (decide (aU.weak=2))))<|eF 69 (fun zB=>?_) (fun mD=>?_)
    .refine sK<|sK<|sK<|sL (ai (.bool true))<|sL (ai (.bool true))<|a8 ?_
     exact bh () trivial (bc rfl (rQ (rQ (rQ (rQ (rQ (rQ (rQ (rQ ⟨⟨rfl,show Value.bool true=Value.bool ((decide (aU.weak=2))||(decide (aU.weak=3))) by first|(simp only[zB,jK];done)|simp[zB]⟩,(rQ (rQ (rQ (rQ (rQ (rQ (rQ (rQ (rQ (rQ (rQ (rQ (rQ (rQ (rQ (rQ (rQ (rQ (rQ (rQ (rQ (rQ (rQ (rQ (rQ ⟨⟨rfl,show Value.bool true=Value.bool (decide (aU.weak=2)) by first|(simp only[zB,jK];done)|simp[zB]⟩,⟨⟨rfl,show Value.bool true=Value.bool ((decide (aU.weak=2))||(decide (aU.weak=3))) by first|(simp only[zB,jK];done)|simp[zB]⟩,trivial⟩⟩)))))))))))))))))))))))))⟩))))))))) (rr [0,0,0,0,0,0,0,0,0,0] [])
    refine sL (ai (pB g24 2))<|sL (aJ 3 (iw aU.weak))<|sL aT<|sL (ai (.bool (decide (aU.weak=3))))<|sL (ai (.bool (decide (aU.weak=3))))<|a8 ?_
    exact bh () trivial (bc rfl (rQ (rQ (rQ (rQ (rQ (rQ (rQ (rQ ⟨⟨rfl,show Value.bool (decide (aU.weak=3))=Value.bool ((decide (aU.weak=2))||(decide (aU.weak=3))) by first|(simp only[mD,jK];done)|simp[mD]⟩,(rQ (rQ (rQ (rQ (rQ (rQ (rQ (rQ (rQ (rQ (rQ (rQ (rQ (rQ (rQ (rQ (rQ (rQ (rQ (rQ (rQ (rQ (rQ (rQ (rQ ⟨⟨rfl,show Value.bool false=Value.bool (decide (aU.weak=2)) by first|(simp only[mD,jK];done)|simp[mD]⟩,⟨⟨rfl,show Value.bool (decide (aU.weak=3))=Value.bool ((decide (aU.weak=2))||(decide (aU.weak=3))) by first|(simp only[mD,jK];done)|simp[mD]⟩,trivial⟩⟩)))))))))))))))))))))))))⟩))))))))) (rr [0,0,0,0,0,0,0,0,0,0] [])
   refine aE<|b6 (ι:=Unit) (fun _=>True) (fun _=>[(1,av),(4,pB g2 0),(5,iw 0),(10,pB g17 0),(12,pB g24 0),(13,sy),(15,pB zF 0),(16,.bool ((decide (aU.weak=1))||(decide (aU.weak=3)))),(17,.bool ((decide (aU.weak=2))||(decide (aU.weak=3)))),(41,ov),(42,iw (l.length:Int)),(43,iw (j:Int)),(44,.bool (decide ((j:Int)<(l.length:Int)))),(45,.pointer (some (elemAt dT.size ov j))),(46,.agg #[iw aU.id,iw aU.size,iw aU.weak,aU.rv.v,aU.ev.v]),(47,pB g24 3),(48,aU.rv.v),(49,v25),(50,pB g24 3),(51,pB g24 4),(52,aU.ev.v),(53,iw (aU.ents.length:Int)),(54,iw (k:Int)),(55,.bool (decide ((k:Int)<(aU.ents.length:Int)))),(56,.pointer (some (elemAt cq.size aU.ev.v k))),(57,.agg #[iw bI.key,iw bI.val]),(58,pB g24 2),(59,iw aU.weak),(60,.bool (decide (aU.weak=1))),(61,.bool (decide (aU.weak=1))),(65,.bool ((decide (aU.weak=1))||(decide (aU.weak=3)))),(66,pB g24 2),(67,iw aU.weak),(68,.bool (decide (aU.weak=2))),(69,.bool (decide (aU.weak=2))),(73,.bool ((decide (aU.weak=2))||(decide (aU.weak=3)))),(74,.bool ((decide (aU.weak=1))||(decide (aU.weak=3)))),(75,.bool ((decide (aU.weak=1))||(decide (aU.weak=3)))),(80,.bool (((decide (aU.weak=1))||(decide (aU.weak=3)))&&(bG A bI.key))),(81,.bool (((decide (aU.weak=1))||(decide (aU.weak=3)))&&(bG A bI.key))),(89,.bool (bif ((decide (aU.weak=1))||(decide (aU.weak=3))) then ((bG A bI.key)||(((decide (aU.weak=2))||(decide (aU.weak=3)))&&(bG A bI.val))) else (((decide (aU.weak=2))||(decide (aU.weak=3)))&&(bG A bI.val))))]) (fun _=>[aa zF #[iw bI.key,iw bI.val] 167,own cq sy ((aU.ents.take k).filter (bM A aU.weak)),own an v25 aU.refs,aa g24 #[iw aU.id,iw aU.size,iw aU.weak,v25,aU.ev.v] 100,own dT ox N,frz (dD N),aa g17 #[ox,m0] 57,own an m0 R,aa g2 #[nS,nS] 57,aa g1 #[ov,rv] 57]) ?_ (fun _ _=>?_)
   .refine bd<|sL (ai (.bool ((decide (aU.weak=1))||(decide (aU.weak=3)))))<|sL (ai (.bool ((decide (aU.weak=1))||(decide (aU.weak=3)))))<|oW 75 (fun kz=>?_) (fun kz=>?_)
    .have qn:=kz;simp only[Bool.and_eq_true,Bool.or_eq_true,Bool.and_eq_false_iff,Bool.or_eq_false_iff,Bool.not_eq_true',Bool.not_eq_false',decide_eq_true_eq,decide_eq_false_iff_not]at qn;refine sL (ai av)<|sL (ai (pB zF 0)) ?_
     refine go ?_;refine sV (fun _ h=>GX (Acc.kn (.zn hA) h) hA2 om bI.key)<|sL (ai (.bool (bG A bI.key)))<|sL (ai (.bool (bG A bI.key)))<|oW 81 (fun qo=>?_) (fun qo=>?_)
     .refine sK<|sK<|sK<|sK<|sK<|sK<|sK<|sL (ai (.bool true))<|a8 ?_
      exact bh () trivial (bc rfl (rQ (rQ (rQ (rQ (rQ (rQ (rQ (rQ (rQ (rQ (rQ (rQ (rQ (rQ (rQ (rQ (rQ (rQ (rQ (rQ (rQ (rQ (rQ (rQ (rQ (rQ (rQ (rQ (rQ (rQ (rQ (rQ (rQ (rQ (rQ (rQ (rQ ⟨⟨rfl,show Value.bool true=Value.bool ((decide (aU.weak=1))||(decide (aU.weak=3))) by first|(simp only[kz,qo,jK];done)|simp[kz,qo]⟩,⟨⟨rfl,show Value.bool (bG A bI.key)=Value.bool (((decide (aU.weak=1))||(decide (aU.weak=3)))&&(bG A bI.key)) by first|(simp only[kz,qo,jK];done)|simp[kz,qo]⟩,⟨⟨rfl,show Value.bool true=Value.bool (((decide (aU.weak=1))||(decide (aU.weak=3)))&&(bG A bI.key)) by first|(simp only[kz,qo,jK];done)|simp[kz,qo]⟩,⟨⟨rfl,show Value.bool true=Value.bool (bif ((decide (aU.weak=1))||(decide (aU.weak=3))) then ((bG A bI.key)||(((decide (aU.weak=2))||(decide (aU.weak=3)))&&(bG A bI.val))) else (((decide (aU.weak=2))||(decide (aU.weak=3)))&&(bG A bI.val))) by first|(simp only[kz,qo,jK];done)|simp[kz,qo]⟩,trivial⟩⟩⟩⟩)))))))))))))))))))))))))))))))))))))) (rr [0,0,0,0,0,0,0,0,0,0] [])
     refine sL (ai (.bool ((decide (aU.weak=2))||(decide (aU.weak=3)))))<|sL (ai (.bool ((decide (aU.weak=2))||(decide (aU.weak=3)))))<|oW 83 (fun xO=>?_) (fun xO=>?_)
     .have NQ:=xO;simp only[Bool.and_eq_true,Bool.or_eq_true,Bool.and_eq_false_iff,Bool.or_eq_false_iff,Bool.not_eq_true',Bool.not_eq_false',decide_eq_true_eq,decide_eq_false_iff_not]at NQ;refine sL (ai av)<|sL (ai (pB zF 1)) ?_
      refine go ?_;refine sV (fun _ h=>GX (Acc.kn (.zn hA) h) hA2 om bI.val)<|sL (ai (.bool (bG A bI.val)))<|sL (ai (.bool (bG A bI.val)))<|a8 ?_
      exact bh () trivial (bc rfl (rQ (rQ (rQ (rQ (rQ (rQ (rQ (rQ (rQ (rQ (rQ (rQ (rQ (rQ (rQ (rQ (rQ (rQ (rQ (rQ (rQ (rQ (rQ (rQ (rQ (rQ (rQ (rQ (rQ (rQ (rQ (rQ (rQ (rQ (rQ (rQ (rQ ⟨⟨rfl,show Value.bool true=Value.bool ((decide (aU.weak=1))||(decide (aU.weak=3))) by first|(simp only[kz,qo,xO,jK];done)|simp[kz,qo,xO]⟩,⟨⟨rfl,show Value.bool (bG A bI.key)=Value.bool (((decide (aU.weak=1))||(decide (aU.weak=3)))&&(bG A bI.key)) by first|(simp only[kz,qo,xO,jK];done)|simp[kz,qo,xO]⟩,⟨⟨rfl,show Value.bool false=Value.bool (((decide (aU.weak=1))||(decide (aU.weak=3)))&&(bG A bI.key)) by first|(simp only[kz,qo,xO,jK];done)|simp[kz,qo,xO]⟩,⟨⟨rfl,show Value.bool (bG A bI.val)=Value.bool (bif ((decide (aU.weak=1))||(decide (aU.weak=3))) then ((bG A bI.key)||(((decide (aU.weak=2))||(decide (aU.weak=3)))&&(bG A bI.val))) else (((decide (aU.weak=2))||(decide (aU.weak=3)))&&(bG A bI.val))) by first|(simp only[kz,qo,xO,jK];done)|simp[kz,qo,xO]⟩,trivial⟩⟩⟩⟩)))))))))))))))))))))))))))))))))))))) (rr [0,0,0,0,0,0,0,0,0,0] [])
     obtain⟨NA,c45⟩:=l5 xO;have HY:=dF NA;have Sy:=dF c45;refine sK<|sK<|sK<|sK<|sL (ai (.bool false))<|sL (ai (.bool false))<|a8 ?_
     exact bh () trivial (bc rfl (rQ (rQ (rQ (rQ (rQ (rQ (rQ (rQ (rQ (rQ (rQ (rQ (rQ (rQ (rQ (rQ (rQ (rQ (rQ (rQ (rQ (rQ (rQ (rQ (rQ (rQ (rQ (rQ (rQ (rQ (rQ (rQ (rQ (rQ (rQ (rQ (rQ ⟨⟨rfl,show Value.bool true=Value.bool ((decide (aU.weak=1))||(decide (aU.weak=3))) by first|(simp only[kz,qo,xO,jK];done)|simp[kz,qo,xO]⟩,⟨⟨rfl,show Value.bool (bG A bI.key)=Value.bool (((decide (aU.weak=1))||(decide (aU.weak=3)))&&(bG A bI.key)) by first|(simp only[kz,qo,xO,jK];done)|simp[kz,qo,xO]⟩,⟨⟨rfl,show Value.bool false=Value.bool (((decide (aU.weak=1))||(decide (aU.weak=3)))&&(bG A bI.key)) by first|(simp only[kz,qo,xO,jK];done)|simp[kz,qo,xO]⟩,⟨⟨rfl,show Value.bool false=Value.bool (bif ((decide (aU.weak=1))||(decide (aU.weak=3))) then ((bG A bI.key)||(((decide (aU.weak=2))||(decide (aU.weak=3)))&&(bG A bI.val))) else (((decide (aU.weak=2))||(decide (aU.weak=3)))&&(bG A bI.val))) by first|(simp only[kz,qo,xO,jK];done)|simp[kz,qo,xO]⟩,trivial⟩⟩⟩⟩)))))))))))))))))))))))))))))))))))))) (rr [0,0,0,0,0,0,0,0,0,0] [])
    obtain⟨Nt,SC⟩:=l5 kz;have Du:=dF Nt;have p51:=dF SC;refine sK<|sK<|sK<|sK<|sL (ai (.bool false))<|sL (ai (.bool false))<|sL (ai (.bool ((decide (aU.weak=2))||(decide (aU.weak=3)))))<|sL (ai (.bool ((decide (aU.weak=2))||(decide (aU.weak=3)))))<|oW 83 (fun zO=>?_) (fun zO=>?_)
    .have No:=zO;simp only[Bool.and_eq_true,Bool.or_eq_true,Bool.and_eq_false_iff,Bool.or_eq_false_iff,Bool.not_eq_true',Bool.not_eq_false',decide_eq_true_eq,decide_eq_false_iff_not]at No;refine sL (ai av)<|sL (ai (pB zF 1)) ?_
     refine go ?_;refine sV (fun _ h=>GX (Acc.kn (.zn hA) h) hA2 om bI.val)<|sL (ai (.bool (bG A bI.val)))<|sL (ai (.bool (bG A bI.val)))<|a8 ?_
     exact bh () trivial (bc rfl (rQ (rQ (rQ (rQ (rQ (rQ (rQ (rQ (rQ (rQ (rQ (rQ (rQ (rQ (rQ (rQ (rQ (rQ (rQ (rQ (rQ (rQ (rQ (rQ (rQ (rQ (rQ (rQ (rQ (rQ (rQ (rQ (rQ (rQ (rQ (rQ (rQ ⟨⟨rfl,show Value.bool false=Value.bool ((decide (aU.weak=1))||(decide (aU.weak=3))) by first|(simp only[kz,zO,jK];done)|simp[kz,zO]⟩,⟨⟨rfl,show Value.bool false=Value.bool (((decide (aU.weak=1))||(decide (aU.weak=3)))&&(bG A bI.key)) by first|(simp only[kz,zO,jK];done)|simp[kz,zO]⟩,⟨⟨rfl,show Value.bool false=Value.bool (((decide (aU.weak=1))||(decide (aU.weak=3)))&&(bG A bI.key)) by first|(simp only[kz,zO,jK];done)|simp[kz,zO]⟩,⟨⟨rfl,show Value.bool (bG A bI.val)=Value.bool (bif ((decide (aU.weak=1))||(decide (aU.weak=3))) then ((bG A bI.key)||(((decide (aU.weak=2))||(decide (aU.weak=3)))&&(bG A bI.val))) else (((decide (aU.weak=2))||(decide (aU.weak=3)))&&(bG A bI.val))) by first|(simp only[kz,zO,jK];done)|simp[kz,zO]⟩,trivial⟩⟩⟩⟩)))))))))))))))))))))))))))))))))))))) (rr [0,0,0,0,0,0,0,0,0,0] [])
    obtain⟨c54,XJ⟩:=l5 zO;have FV:=dF c54;have JJ:=dF XJ;refine sK<|sK<|sK<|sK<|sL (ai (.bool false))<|sL (ai (.bool false))<|a8 ?_
    exact bh () trivial (bc rfl (rQ (rQ (rQ (rQ (rQ (rQ (rQ (rQ (rQ (rQ (rQ (rQ (rQ (rQ (rQ (rQ (rQ (rQ (rQ (rQ (rQ (rQ (rQ (rQ (rQ (rQ (rQ (rQ (rQ (rQ (rQ (rQ (rQ (rQ (rQ (rQ (rQ ⟨⟨rfl,show Value.bool false=Value.bool ((decide (aU.weak=1))||(decide (aU.weak=3))) by first|(simp only[kz,zO,jK];done)|simp[kz,zO]⟩,⟨⟨rfl,show Value.bool false=Value.bool (((decide (aU.weak=1))||(decide (aU.weak=3)))&&(bG A bI.key)) by first|(simp only[kz,zO,jK];done)|simp[kz,zO]⟩,⟨⟨rfl,show Value.bool false=Value.bool (((decide (aU.weak=1))||(decide (aU.weak=3)))&&(bG A bI.key)) by first|(simp only[kz,zO,jK];done)|simp[kz,zO]⟩,⟨⟨rfl,show Value.bool false=Value.bool (bif ((decide (aU.weak=1))||(decide (aU.weak=3))) then ((bG A bI.key)||(((decide (aU.weak=2))||(decide (aU.weak=3)))&&(bG A bI.val))) else (((decide (aU.weak=2))||(decide (aU.weak=3)))&&(bG A bI.val))) by first|(simp only[kz,zO,jK];done)|simp[kz,zO]⟩,trivial⟩⟩⟩⟩)))))))))))))))))))))))))))))))))))))) (rr [0,0,0,0,0,0,0,0,0,0] [])
   refine kd (fun Yt=>?_) (fun Yt=>?_)
   .refine go ?_;refine sL (bX (k:Int) 1 ol)<|sL (ai (iw ((k:Int)+1)))<|a8 ?_
    rw[w4 (p:=bM A aU.weak) rY (by have h:=Yt;unfold bM;revert h;generalize (decide (aU.weak=1)||decide (aU.weak=3))=b1;generalize (decide (aU.weak=2)||decide (aU.weak=3))=b2;generalize bG A bI.key=b3;generalize bG A bI.val=b4;revert b1 b2 b3 b4;decide)];exact az (sy,k+1) (by show aU.ents.length-(k+1)<aU.ents.length-k;omega) (by show k+1≤aU.ents.length;omega) sA (rr [1,1,1,1,1,1,1,1,1] [9])
   refine jB<|ax<|bd<|sL (ai sy) ?_
   refine go ?_;refine ah (e:=167) [(0,.agg #[iw bI.key,iw bI.val])] #[iw bI.key,iw bI.val] (fun O1=>?_) (hb:=by kernel_rfl);refine aq (L:=((aU.ents.take k).filter (bM A aU.weak))) 2 dy Tryz.underlying98 (.lit 0 dy [bI]) (by show _*16≤_;(try simp only[cD]);omega) ol (fun Zg=>?_);refine sF 2 (fun PC=>?_);refine sL (ai Zg) ?_;refine go ?_;refine sL (bX (k:Int) 1 ol)<|sL (ai (iw ((k:Int)+1)))<|a8 ?_
   rw[p' (p:=bM A aU.weak) rY (by have h:=Yt;unfold bM;revert h;generalize (decide (aU.weak=1)||decide (aU.weak=3))=b1;generalize (decide (aU.weak=2)||decide (aU.weak=3))=b2;generalize bG A bI.key=b3;generalize bG A bI.val=b4;revert b1 b2 b3 b4;decide)];exact az (Zg,k+1) (by show aU.ents.length-(k+1)<aU.ents.length-k;omega) (by show k+1≤aU.ents.length;omega) sA (rr [2,2,2,2,2,2,2,2,2] [9,9])
  refine cW ?_;obtain rfl:k=aU.ents.length:=by omega
  rw[List.take_length];have vq:=List.length_filter_le (bM A aU.weak) aU.ents;refine cM<|cM<|gL<|ax<|aE<|bd<|sL (ai sy)<|sL (ai (pB g24 4))<|sF 0 (fun T9=>?_)
  refine ar (u:=sy) (m:=1) 2 #[iw aU.id,iw aU.size,iw aU.weak,v25,sy] ?_ (hm:=by (obtain⟨_,_,e0⟩:=T9;rw[e0];rfl)) (h1:=by (obtain⟨_,_,e0⟩:=T9;rw[e0];rfl)) (ha':=by (obtain⟨_,_,e0⟩:=T9;rw[e0];rfl));refine a8<|ax<|bd<|sL (ai (pB g17 0))<|sL (aJ 5 ox) ?_
  obtain⟨PD,PE,e⟩:=pf;subst e;obtain⟨PF,PG,e⟩:=T9;subst e;refine go ?_;refine ah (e:=100) [(0,.agg #[iw aU.id,iw aU.size,iw aU.weak,(.slice PD aU.refs.length PE),(.slice PF (aU.ents.filter (bM A aU.weak)).length PG)])] #[iw aU.id,iw aU.size,iw aU.weak,(.slice PD aU.refs.length PE),(.slice PF (aU.ents.filter (bM A aU.weak)).length PG)] (fun g68=>?_) (hb:=by kernel_rfl);refine aq (L:=N) 4 bt Tryz.underlying55 (.lit 0 bt [(⟨aU.id,aU.size,aU.weak,⟨PD,aU.refs.length,PE⟩,⟨PF,(aU.ents.filter (bM A aU.weak)).length,PG⟩,aU.refs,(aU.ents.filter (bM A aU.weak))⟩:Ob)]) (by show _*72≤_;(try simp only[cD]);omega) ol (fun v69=>?_);refine sF 4 (fun Gu=>?_);refine sL (ai (pB g17 0))<|ar (u:=v69) (m:=1) 6 #[v69,m0] ?_ (hm:=by (obtain⟨_,_,e0⟩:=Gu;rw[e0];rfl)) (h1:=by (obtain⟨_,_,e0⟩:=Gu;rw[e0];rfl)) (ha':=by (obtain⟨_,_,e0⟩:=Gu;rw[e0];rfl))
  refine go ?_;refine sL (bX (j:Int) 1 ol)<|sL (ai (iw ((j:Int)+1)))<|a8<|ab (fun _ h=>lU (⟨aU.id,aU.size,aU.weak,⟨PD,aU.refs.length,PE⟩,⟨PF,(aU.ents.filter (bM A aU.weak)).length,PG⟩,aU.refs,(aU.ents.filter (bM A aU.weak))⟩:Ob) (h.re [2,1,3] [])) ?_
  exact az (v69,N++[(⟨aU.id,aU.size,aU.weak,⟨PD,aU.refs.length,PE⟩,⟨PF,(aU.ents.filter (bM A aU.weak)).length,PG⟩,aU.refs,(aU.ents.filter (bM A aU.weak))⟩:Ob)],j+1) (by show l.length-(j+1)<l.length-j;omega) (by obtain⟨qY,eW⟩:=iG;exact⟨by omega,nt GY eW rfl⟩) sA (rr [3,0,2,2,2,2] [6,6])
 refine go ?_;refine sF 0 (fun Cb=>?_);refine ar (u:=.agg #[ox,m0]) (m:=2) 4 #[ox,m0] ?_ (hm:=by (obtain⟨_,_,e0⟩:=Cb;obtain⟨_,_,e1⟩:=mJ;rw[e0,e1];rfl)) (h1:=by (obtain⟨_,_,e0⟩:=Cb;obtain⟨_,_,e1⟩:=mJ;rw[e0,e1];rfl)) (ha':=by (obtain⟨_,_,e0⟩:=Cb;obtain⟨_,_,e1⟩:=mJ;rw[e0,e1];rfl));refine sL (ai (iw 0)) ?_;refine go ?_;have tQ:(chk 0 l&&gD 0 A)=true:=by rw[hc,hA1];rfl
 obtain⟨qY,eW⟩:=iG;obtain rfl:j=l.length:=by omega
 rw[List.take_length]at eW;exact ad [.agg #[ox,m0],iw 0] [frz (eP ox m0 N R)] (SI.agg 4 57 4 (SI.tmp 5 SI.nil)) (fun _ h=>qQ (h.re [0,2,0] [3,3,3])) ⟨_,_,N,R,by rw[tQ];rfl,by rw[tQ];exact eW,by rw[tQ];rfl,rfl⟩
def bits(l:List Ob)(M:List Int):List Bool:=l.map fun o=>decide (o.id∈M)
theorem bU(l:List Ob)(M:List Int):(bits l M).length=l.length:=List.length_map _
theorem mi(h:l[i]?=some o):(bits l M)[i]?=some (decide (o.id∈M)):=by unfold bits;rw[List.getElem?_map,h];rfl
theorem Ew(hs:oK l){id:Int}(h:l[i]?=some o)(hid:o.id=id):(bits l M).set i true=bits l (M++[id]):=by
 apply List.ext_getElem?;intro j;rw[List.getElem?_set];by_cases hj:i=j
 .subst hj;have hi:i<(bits l M).length:=by rw[bU];exact (List.getElem?_eq_some_iff.1 h).1
  rw[if_pos rfl,if_pos hi,mi h,hid];simp
 rw[if_neg hj];unfold bits;rw[List.getElem?_map,List.getElem?_map];cases hx:l[j]? with
 | none=>rfl
 | some p=>
  have:p.id≠id:=fun e=>hj (wT hs h hx (hid.trans e.symm))
  simp[this]
theorem PH(l:List Ob):List.replicate (l.length:Int).toNat false=bits l []:=by
 unfold bits;apply List.ext_getElem?;intro j;by_cases hj:j<l.length<;>simp[hj]
theorem IC(hk:Fk Z x)(h1:x.refs.length≤1000000)(h2:x.ents.length≤1000000):SF Tryz.prog 263 #[x.v] Z [] fun r Bs=>Bs=[own an r (gB x)]:=by
 refine bO Tryz.func263 51 (fun w0=>?_);refine gy ?_;refine bj #[iw x.id,iw x.size,iw x.weak,x.rv.v,x.ev.v] (fun g1=>?_);refine go ?_;refine ah (e:=3) [] #[] (fun g2=>?_) (hb:=by kernel_rfl);refine go ?_;refine aC (fun _ h=>Holds.slice 0 h ak []) ?_;refine aq (L:=[]) 0 ak Tryz.underlying23 (.zn hk.1) (by show _*8≤_;(try simp only[cD]);omega) ol (fun v3=>?_);refine go ?_;skip;rw[show ([]++x.refs)=x.refs++(x.ents.take 0).flatMap (cP x.weak) by simp];refine aD (ι:=Value×Nat) (fun (sx,k)=>k≤x.ents.length) (fun (sx,k)=>[(1,pB g1 0),(2,nS),(3,sx),(4,iw (k:Int))]) (fun (sx,k)=>[own an sx (x.refs++(x.ents.take k).flatMap (cP x.weak)),aa g1 #[iw x.id,iw x.size,iw x.weak,x.rv.v,x.ev.v] 100]) (fun (sx,k)=>x.ents.length-k) (v3,0) (Nat.zero_le _) sA rA ?_;rintro⟨sx,k⟩ fA;try dsimp only at fA⊢
 have Fo:=yt x.weak (x.ents.take k);rw[List.length_take]at Fo;refine gy ?_;refine b9 (fun p6=>?_) (fun pD=>?_)
 .obtain ⟨y7,wC⟩:∃y,x.ents[k]?=some y:=⟨_,List.getElem?_eq_getElem ol⟩;refine gy ?_;refine ae (.agg #[iw 0,iw 0]) #[iw 0,iw 0] (fun g9=>?_);refine gc ?_;refine b9 (fun im=>?_) (fun my=>?_)
  .refine gy ?_;rw[show (x.refs++(x.ents.take k).flatMap (cP x.weak))=x.refs++(x.ents.take (k+1)).flatMap (cP x.weak) by rw[←j4 wC];simp[cP,List.append_assoc,p6,im]];exact xr (sx,k+1) (by show k+1≤x.ents.length;omega)
  refine gc ?_;refine b9 (fun iU=>?_) (fun mM=>?_)
  .refine go ?_;refine ah (e:=3) [(0,iw y7.key)] #[iw y7.key] (fun g15=>?_) (hb:=by kernel_rfl);refine aq (L:=(x.refs++(x.ents.take k).flatMap (cP x.weak))) 2 ak Tryz.underlying23 (.lit 0 ak [y7.key]) (by show _*8≤_;(try simp only[cD]);omega) ol (fun Pg=>?_);refine gy ?_;rw[show ((x.refs++(x.ents.take k).flatMap (cP x.weak))++[y7.key])=x.refs++(x.ents.take (k+1)).flatMap (cP x.weak) by rw[←j4 wC];simp[cP,List.append_assoc,p6,my,iU]];exact xr (Pg,k+1) (by show k+1≤x.ents.length;omega)
  refine gc ?_;refine b9 (fun lp=>?_) (fun mE=>?_)
  .refine gc ?_;refine b9 (fun oQ=>?_) (fun kU=>?_)
   .refine go ?_;refine ah (e:=3) [(0,iw y7.val)] #[iw y7.val] (fun g22=>?_) (hb:=by kernel_rfl);refine aq (L:=(x.refs++(x.ents.take k).flatMap (cP x.weak))) 2 ak Tryz.underlying23 (.lit 0 ak [y7.val]) (by show _*8≤_;(try simp only[cD]);omega) ol (fun v23=>?_);refine gy ?_;rw[show ((x.refs++(x.ents.take k).flatMap (cP x.weak))++[y7.val])=x.refs++(x.ents.take (k+1)).flatMap (cP x.weak) by rw[←j4 wC];simp[cP,List.append_assoc,p6,my,mM,lp,oQ]];exact xr (v23,k+1) (by show k+1≤x.ents.length;omega)
   refine gy ?_;rw[show (x.refs++(x.ents.take k).flatMap (cP x.weak))=x.refs++(x.ents.take (k+1)).flatMap (cP x.weak) by rw[←j4 wC];simp[cP,List.append_assoc,p6,my,mM,lp,kU]];exact xr (sx,k+1) (by show k+1≤x.ents.length;omega)
  refine go ?_;refine ah (e:=3) [(0,iw y7.key),(1,iw y7.val)] #[iw y7.key,iw y7.val] (fun wK=>?_) (hb:=by kernel_rfl);refine aq (L:=(x.refs++(x.ents.take k).flatMap (cP x.weak))) 2 ak Tryz.underlying23 (.lit 0 ak [y7.key,y7.val]) (by show _*8≤_;(try simp only[cD]);omega) ol (fun v27=>?_);refine gy ?_;rw[show ((x.refs++(x.ents.take k).flatMap (cP x.weak))++[y7.key,y7.val])=x.refs++(x.ents.take (k+1)).flatMap (cP x.weak) by rw[←j4 wC];simp[cP,List.append_assoc,p6,my,mM,mE]];exact xr (v27,k+1) (by show k+1≤x.ents.length;omega)
 refine gy ?_;obtain rfl:k=x.ents.length:=by omega
 refine gz ?_;exact fg rfl (fun _ h=>by rw[List.take_length]at h;exact h.re [0] [1])
theorem PK(hg:oO Z ov rv l R)(hs:oK l)(hl:l.length≤100000)(hp:kC l []≤100000000)(ca:∀o∈l,o.refs.length≤400∧o.ents.length≤100000)(hI:Kn Z an iv I)(hi:I.length≤1000000):MF 245 #[.agg #[ov,rv],mv,iv] Z (own nA mv (bits l M0)::F) (.bool (decide (M0.length<(dfs l M0 I).length))) (own nA mv (bits l (dfs l M0 I))::F):=by
 refine bx Tryz.func245 49 [(0,.agg #[ov,rv]),(1,mv),(2,iv)] (fun w0=>?_);refine gA fun g1=>?_
 refine gA fun g2=>?_
 refine aC (fun _ h=>Holds.slice 0 h ak []) ?_;refine gP _ fun v3 _=>?_
 refine aD (ι:=Value×List Int×List Int×Bool) (fun (sx,M,W,fr)=>dfs l M0 I=dfs l M W∧M0.length≤M.length∧kC l M+W.length≤101000000∧fr=decide (M0.length<M.length)) (fun (sx,M,W,fr)=>[(1,mv),(3,pB g1 0),(6,.bool false),(7,.bool fr),(8,sx)]) (fun (sx,M,W,fr)=>own an sx W::aa g1 #[ov,rv] 57::own nA mv (bits l M)::F) (fun (sx,M,W,fr)=>kC l M+W.length) (v3,M0,I,false) ⟨rfl,Nat.le_refl _,by have:=pT (M:=[]) (N:=M0) (by simp) l;omega,(decide_eq_false (Nat.lt_irrefl _)).symm⟩ sA (rr [0,0,0] []) ?_;rintro⟨sx,M,W,fr⟩ fA;replace fA:dfs l M0 I=dfs l M W∧M0.length≤M.length∧kC l M+W.length≤101000000∧fr=decide (M0.length<M.length):=fA;show SK _ _ _ _ _ [(1,mv),(3,pB g1 0),(6,.bool false),(7,.bool fr),(8,sx)] _ (own an sx W::aa g1 #[ov,rv] 57::own nA mv (bits l M)::F);have ac6:=fA.2.2.1;refine fk (fun p6=>?_) (fun kU=>?_)
 .refine go ?_;refine sF 0 (fun J7=>?_);refine sL (bL ak Tryz.underlying23 (.own 0)) ?_;refine sL (fX (W.length:Int) 1 (by (try simp only[cD,bU]);omega)) ?_;refine sL (aF ak Tryz.underlying23 (.own 0) ((W.length:Int)-1) (W.length-1) om (by (try simp only[cD,bU]);omega) om) ?_;obtain⟨y8,oH⟩:∃y,W[(W.length-1)]?=some y:=⟨_,List.getElem?_eq_getElem (by (try simp only[cD,bU]);omega)⟩;refine gV ?_ (c:=fun _ h=>oj (hg.up h) hs om y8);rcases j3 hs y8 with ⟨uU,GZ⟩|⟨yP,ct,sb,yQ,fp,GZ⟩
  .rw [GZ];refine go ?_;refine dB (fun _ h=>by obtain⟨_,_,e⟩:=J7;subst e;kernel_rfl) ?_;refine go ?_;refine sL (bL ak Tryz.underlying23 (.own 0)) ?_;refine sL (fX (W.length:Int) 1 (by (try simp only[cD,bU]);omega)) ?_;refine sL (sS ak Tryz.underlying23 (.own 0) ((W.length:Int)-1) (W.length-1) om (by (try simp only[cD,bU]);omega) om) ?_;refine go ?_;refine sL (aT (c:=true)) ?_;refine go ?_;refine go ?_;refine ab (fun _ h=>Holds.pre (i:=0) h ak (W.length-1) rfl (by (try simp only[cD,bU]);omega)) ?_;exact az ((pre sx (W.length-1)),M,(W.take (W.length-1)),fr) (by show kC l M+(W.take (W.length-1)).length<kC l M+W.length;rw[List.length_take];omega) (by obtain⟨cQ,cg,gE,fA⟩:=fA;refine⟨(by rw[←lf oH]at cQ;rw[cQ];exact kD (.inl uU)),cg,by rw[List.length_take];omega,fA⟩) sA (rr [0,0,0] [])
  rw[GZ];have uK:=hg.each ct (List.mem_of_getElem? sb);have ac9:yP<l.length:=(List.getElem?_eq_some_iff.1 sb).1;refine go ?_;refine dB (fun _ h=>by obtain⟨_,_,e⟩:=J7;subst e;kernel_rfl) ?_;refine go ?_;refine sL (bL ak Tryz.underlying23 (.own 0)) ?_;refine sL (fX (W.length:Int) 1 (by (try simp only[cD,bU]);omega)) ?_;refine sL (sS ak Tryz.underlying23 (.own 0) ((W.length:Int)-1) (W.length-1) om (by (try simp only[cD,bU]);omega) om) ?_;refine go ?_;refine gy ?_;refine sL (aF gg Tryz.underlying140 (.own 2) (yP:Int) yP om (by (try simp only[cD,bU]);omega) om) ?_;refine sL (bC gg (.own 2) (mi (M:=M) sb)) ?_;refine go ?_;refine b9 (fun zj=>?_) (fun oQ=>?_)
  .refine go ?_;refine ab (fun _ h=>Holds.pre (i:=0) h ak (W.length-1) rfl (by (try simp only[cD,bU]);omega)) ?_;exact az ((pre sx (W.length-1)),M,(W.take (W.length-1)),fr) (by show kC l M+(W.take (W.length-1)).length<kC l M+W.length;rw[List.length_take];omega) (by obtain⟨cQ,cg,gE,fA⟩:=fA;refine⟨(by rw[←lf oH]at cQ;rw[cQ];exact kD (.inr (by rw[←yQ];exact zj))),cg,by rw[List.length_take];omega,fA⟩) sA (rr [0,0,0] [])
  refine go ?_;refine sL (aF gg Tryz.underlying140 (.own 2) (yP:Int) yP om (by (try simp only[cD,bU]);omega) om) ?_;have VR:y8∉M:=by rw[←yQ];exact oQ
  have hpa:=qK VR fp;refine dX 2 0 true gg (mi (M:=M) sb) ?_;rw[Ew hs sb yQ];refine gy ?_;refine a6 (fun _ h=>IC (x:=ct) ⟨uK.1.up h,uK.2.up h⟩ (by have:=ca ct (List.mem_of_getElem? sb);omega) (by have:=ca ct (List.mem_of_getElem? sb);omega)) ?_;rintro v22 _ rfl;refine aC (fun _ h=>Holds.pre (i:=1) h ak (W.length-1) rfl (by (try simp only[cD,bU]);omega)) ?_;refine gP _ fun v23 _=>?_
  exact az (v23,M++[y8],(W.take (W.length-1))++gB ct,true) (by show kC l (M++[y8])+((W.take (W.length-1))++gB ct).length<kC l M+W.length;rw[List.length_append,List.length_take];omega) (by obtain⟨cQ,cg,gE,fA⟩:=fA;refine⟨(by rw[←lf oH]at cQ;rw[cQ];exact tH fp VR),by rw[List.length_append];omega,by rw[List.length_append,List.length_take];omega,(decide_eq_true (by rw[List.length_append];show M0.length<M.length+1;omega)).symm⟩) sA (rr [1,1,1] [3])
 refine gy ?_;obtain⟨cQ,cg,gE,fA⟩:=fA;obtain rfl:W=[]:=List.eq_nil_of_length_eq_zero om;rw[tG]at cQ;refine ad _ _ (SI.tmp 6 SI.nil) (rr [2] [1,1]) ?_;rw[cQ,←fA];exact⟨rfl,rfl⟩
theorem KW(hg:oO Z ov rv l R)(hs:oK l)(hl:l.length≤100000)(hp:kC l []≤100000000)(ca:∀o∈l,o.refs.length≤400∧o.ents.length≤100000)(hi:I.length≤1000000):MF 245 #[.agg #[ov,rv],mv,iv] Z (own nA mv (bits l M0)::own an iv I::F) (.bool (decide (M0.length<(dfs l M0 I).length))) (own nA mv (bits l (dfs l M0 I))::F):=by
 refine bx Tryz.func245 49 [(0,.agg #[ov,rv]),(1,mv),(2,iv)] (fun w0=>?_);refine gA fun g1=>?_
 refine gA fun g2=>?_
 refine aC (fun _ h=>Holds.slice 0 h ak []) ?_;refine gP _ fun v3 _=>?_
 refine aD (ι:=Value×List Int×List Int×Bool) (fun (sx,M,W,fr)=>dfs l M0 I=dfs l M W∧M0.length≤M.length∧kC l M+W.length≤101000000∧fr=decide (M0.length<M.length)) (fun (sx,M,W,fr)=>[(1,mv),(3,pB g1 0),(6,.bool false),(7,.bool fr),(8,sx)]) (fun (sx,M,W,fr)=>own an sx W::aa g1 #[ov,rv] 57::own nA mv (bits l M)::own an iv I::F) (fun (sx,M,W,fr)=>kC l M+W.length) (v3,M0,I,false) ⟨rfl,Nat.le_refl _,by have:=pT (M:=[]) (N:=M0) (by simp) l;omega,(decide_eq_false (Nat.lt_irrefl _)).symm⟩ sA (rr [0,0,0,0] []) ?_;rintro⟨sx,M,W,fr⟩ fA;replace fA:dfs l M0 I=dfs l M W∧M0.length≤M.length∧kC l M+W.length≤101000000∧fr=decide (M0.length<M.length):=fA;show SK _ _ _ _ _ [(1,mv),(3,pB g1 0),(6,.bool false),(7,.bool fr),(8,sx)] _ (own an sx W::aa g1 #[ov,rv] 57::own nA mv (bits l M)::own an iv I::F);have ac6:=fA.2.2.1;refine fk (fun p6=>?_) (fun kU=>?_)
 .refine go ?_;refine sF 0 (fun J7=>?_);refine sL (bL ak Tryz.underlying23 (.own 0)) ?_;refine sL (fX (W.length:Int) 1 (by (try simp only[cD,bU]);omega)) ?_;refine sL (aF ak Tryz.underlying23 (.own 0) ((W.length:Int)-1) (W.length-1) om (by (try simp only[cD,bU]);omega) om) ?_;obtain⟨y8,oH⟩:∃y,W[(W.length-1)]?=some y:=⟨_,List.getElem?_eq_getElem (by (try simp only[cD,bU]);omega)⟩;refine gV ?_ (c:=fun _ h=>oj (hg.up h) hs om y8);rcases j3 hs y8 with ⟨uU,GZ⟩|⟨yP,ct,sb,yQ,fp,GZ⟩
  .rw [GZ];refine go ?_;refine dB (fun _ h=>by obtain⟨_,_,e⟩:=J7;subst e;kernel_rfl) ?_;refine go ?_;refine sL (bL ak Tryz.underlying23 (.own 0)) ?_;refine sL (fX (W.length:Int) 1 (by (try simp only[cD,bU]);omega)) ?_;refine sL (sS ak Tryz.underlying23 (.own 0) ((W.length:Int)-1) (W.length-1) om (by (try simp only[cD,bU]);omega) om) ?_;refine go ?_;refine sL (aT (c:=true)) ?_;refine go ?_;refine go ?_;refine ab (fun _ h=>Holds.pre (i:=0) h ak (W.length-1) rfl (by (try simp only[cD,bU]);omega)) ?_;exact az ((pre sx (W.length-1)),M,(W.take (W.length-1)),fr) (by show kC l M+(W.take (W.length-1)).length<kC l M+W.length;rw[List.length_take];omega) (by obtain⟨cQ,cg,gE,fA⟩:=fA;refine⟨(by rw[←lf oH]at cQ;rw[cQ];exact kD (.inl uU)),cg,by rw[List.length_take];omega,fA⟩) sA (rr [0,0,0,0] [])
  rw[GZ];have uK:=hg.each ct (List.mem_of_getElem? sb);have ac9:yP<l.length:=(List.getElem?_eq_some_iff.1 sb).1;refine go ?_;refine dB (fun _ h=>by obtain⟨_,_,e⟩:=J7;subst e;kernel_rfl) ?_;refine go ?_;refine sL (bL ak Tryz.underlying23 (.own 0)) ?_;refine sL (fX (W.length:Int) 1 (by (try simp only[cD,bU]);omega)) ?_;refine sL (sS ak Tryz.underlying23 (.own 0) ((W.length:Int)-1) (W.length-1) om (by (try simp only[cD,bU]);omega) om) ?_;refine go ?_;refine gy ?_;refine sL (aF gg Tryz.underlying140 (.own 2) (yP:Int) yP om (by (try simp only[cD,bU]);omega) om) ?_;refine sL (bC gg (.own 2) (mi (M:=M) sb)) ?_;refine go ?_;refine b9 (fun zj=>?_) (fun oQ=>?_)
  .refine go ?_;refine ab (fun _ h=>Holds.pre (i:=0) h ak (W.length-1) rfl (by (try simp only[cD,bU]);omega)) ?_;exact az ((pre sx (W.length-1)),M,(W.take (W.length-1)),fr) (by show kC l M+(W.take (W.length-1)).length<kC l M+W.length;rw[List.length_take];omega) (by obtain⟨cQ,cg,gE,fA⟩:=fA;refine⟨(by rw[←lf oH]at cQ;rw[cQ];exact kD (.inr (by rw[←yQ];exact zj))),cg,by rw[List.length_take];omega,fA⟩) sA (rr [0,0,0,0] [])
  refine go ?_;refine sL (aF gg Tryz.underlying140 (.own 2) (yP:Int) yP om (by (try simp only[cD,bU]);omega) om) ?_;have VR:y8∉M:=by rw[←yQ];exact oQ
  have hpa:=qK VR fp;refine dX 2 0 true gg (mi (M:=M) sb) ?_;rw[Ew hs sb yQ];refine gy ?_;refine a6 (fun _ h=>IC (x:=ct) ⟨uK.1.up h,uK.2.up h⟩ (by have:=ca ct (List.mem_of_getElem? sb);omega) (by have:=ca ct (List.mem_of_getElem? sb);omega)) ?_;rintro v22 _ rfl;refine aC (fun _ h=>Holds.pre (i:=1) h ak (W.length-1) rfl (by (try simp only[cD,bU]);omega)) ?_;refine gP _ fun v23 _=>?_
  exact az (v23,M++[y8],(W.take (W.length-1))++gB ct,true) (by show kC l (M++[y8])+((W.take (W.length-1))++gB ct).length<kC l M+W.length;rw[List.length_append,List.length_take];omega) (by obtain⟨cQ,cg,gE,fA⟩:=fA;refine⟨(by rw[←lf oH]at cQ;rw[cQ];exact tH fp VR),by rw[List.length_append];omega,by rw[List.length_append,List.length_take];omega,(decide_eq_true (by rw[List.length_append];show M0.length<M.length+1;omega)).symm⟩) sA (rr [1,1,1,1] [4])
 refine gy ?_;obtain⟨cQ,cg,gE,fA⟩:=fA;obtain rfl:W=[]:=List.eq_nil_of_length_eq_zero om;rw[tG]at cQ;refine ad _ _ (SI.tmp 6 SI.nil) (rr [2] [1,1,1]) ?_;rw[cQ,←fA];exact⟨rfl,rfl⟩
theorem PL(hg:oO Z ov rv l R)(hs:oK l)(hl:l.length≤100000)(hM:Kn Z nA mv (bits l M))(sX:∀x∈M,Is l x)(id:Int):NF 264 #[.agg #[ov,rv],mv,iw id] Z [] (.bool (decide (id∈M))):=by
 refine bO Tryz.func264 19 (fun w0=>?_);refine gA fun g1=>?_
 refine gV ?_ (c:=fun _ h=>oj (hg.up h) hs om id);rcases j3 hs id with ⟨nM,he8⟩|⟨ix2,ob3,hx5,agT,J7,he8⟩
 .rw [he8];refine gy ?_;refine ad _ _ (SI.tmp 6 SI.nil) rA ⟨cB ?_,rfl⟩;exact (decide_eq_false fun hm=>by have:=sX _ hm;rw[Is,nM]at this;cases this).symm
 rw[he8];have hk9:=hg.each ob3 (List.mem_of_getElem? hx5);have aiB:ix2<l.length:=(List.getElem?_eq_some_iff.1 hx5).1;refine gl ?_ (t:=aF gg Tryz.underlying140 (.zn hM) (ix2:Int) ix2 om (by (try simp only[cD,bU]);omega) om);refine sL (bC gg (.zn hM) (mi (M:=M) hx5)) ?_;refine go ?_;refine go ?_;refine ad _ _ (SI.tmp 6 SI.nil) rA ⟨cB ?_,rfl⟩;rw[agT]
theorem PM(hg:oO Z ov rv l R)(hs:oK l)(hl:l.length≤100000)(hp:kC l []≤100000000)(ca:∀o∈l,o.refs.length≤400∧o.ents.length≤100000)(Tu:Good l M0):MF 246 #[.agg #[ov,rv],mv] Z (own nA mv (bits l M0)::F) (.bool (oo l M0).2) (own nA mv (bits l (oo l M0).1)::F):=by
 refine bO Tryz.func246 60 (fun w0=>?_);refine gy ?_;refine bj #[ov,rv] (fun g1=>?_);refine gy ?_;refine aD (ι:=List Int×Bool×Nat) (fun (M,ch,i)=>i≤l.length∧(M,ch)=(jz (l.take i)).foldl (stepT l) (M0,false)) (fun (M,ch,i)=>[(1,mv),(2,pB g1 0),(4,.bool false),(5,.bool ch),(6,iw (i:Int))]) (fun (M,ch,i)=>aa g1 #[ov,rv] 57::own nA mv (bits l M)::F) (fun (M,ch,i)=>l.length-i) (M0,false,0) ⟨Nat.zero_le _,rfl⟩ sA rA ?_;rintro⟨M,ch,i⟩ cg;replace cg:i≤l.length∧(M,ch)=(jz (l.take i)).foldl (stepT l) (M0,false):=cg;show SK _ _ _ _ _ [(1,mv),(2,pB g1 0),(4,.bool false),(5,.bool ch),(6,iw (i:Int))] _ (aa g1 #[ov,rv] 57::own nA mv (bits l M)::F);have hgM:Good l M:=by have h:=(lr (BZ l) (jz (l.take i)) (M0,false)).good Tu;rw[←cg.2]at h;exact h
 refine gy ?_;refine b9 (fun p4=>?_) (fun oE=>?_)
 .refine gy ?_;obtain⟨y5,kJ⟩:∃y,l[i]?=some y:=⟨_,List.getElem?_eq_getElem (by (try simp only[cD,bU]);omega)⟩;have YV:=hg.each y5 (List.mem_of_getElem? kJ);refine gy ?_;refine ae (.agg #[iw 0,iw 0,iw 0,nS,nS]) #[iw 0,iw 0,iw 0,nS,nS] (fun g8=>?_);refine gc ?_;refine eF 24 (fun gQ=>?_) (fun q9=>?_)
  .refine gy ?_;exact xr (M,ch,i+1) (by obtain⟨cQ,cg⟩:=cg;exact⟨by omega,by rw[T4 kJ gQ];exact cg⟩)
  have im:=Decidable.not_not.1 q9;refine go ?_;refine sL (aF gg Tryz.underlying140 (.own 2) (i:Int) i om (by (try simp only[cD,bU]);omega) om) ?_;refine sL (bC gg (.own 2) (mi (M:=M) kJ)) ?_;refine go ?_;refine kd (fun jS=>?_) (fun jS=>?_)
  .have ux:=cO jS;have iU:=dF ux;refine gy ?_;exact xr (M,ch,i+1) (by obtain⟨cQ,cg⟩:=cg;refine⟨by omega,?_⟩;rw[Es kJ im,List.foldl_append,←cg];exact (Ba iU).symm)
  have CJ:=cu jS;have so:=dY CJ;refine go ?_;refine bk (fun H h=>(YV.2.get h).len_le) (fun le=>?_);refine aD (ι:=List Int×Bool×Nat) (fun (N,ci,k)=>k≤y5.ents.length∧(N,ci)=(y5.ents.take k).foldl (jO l) (M,ch)) (fun (N,ci,k)=>[(1,mv),(2,pB g1 0),(4,.bool false),(5,.bool ci),(6,iw (i:Int)),(7,pB g8 0),(8,iw (k:Int)),(9,iw (i:Int)),(10,pB g1 0),(11,ov),(12,iw (l.length:Int)),(13,.bool (decide ((i:Int)<(l.length:Int)))),(16,pB g1 0),(17,ov),(18,iw (i:Int)),(19,.pointer (some (elemAt dT.size ov i))),(20,.agg #[iw y5.id,iw y5.size,iw y5.weak,y5.rv.v,y5.ev.v]),(21,pB g8 2),(22,iw y5.weak),(23,.bool (decide (y5.weak≠1))),(24,.bool false),(25,mv),(26,iw (i:Int)),(27,.pointer (some (elemAt nA.size mv i))),(28,.bool (decide (y5.id∈M))),(29,.bool (!(decide (y5.id∈M)))),(30,.bool (!(decide (y5.id∈M))))]) (fun (N,ci,k)=>aa g8 #[iw y5.id,iw y5.size,iw y5.weak,y5.rv.v,y5.ev.v] 100::aa g1 #[ov,rv] 57::own nA mv (bits l N)::F) (fun (N,ci,k)=>y5.ents.length-k) (M,ch,0) ⟨Nat.zero_le _,rfl⟩ sA rA ?_;rintro⟨N,ci,k⟩ td;replace td:k≤y5.ents.length∧(N,ci)=(y5.ents.take k).foldl (jO l) (M,ch):=td;show SK _ _ _ _ _ [(1,mv),(2,pB g1 0),(4,.bool false),(5,.bool ci),(6,iw (i:Int)),(7,pB g8 0),(8,iw (k:Int)),(9,iw (i:Int)),(10,pB g1 0),(11,ov),(12,iw (l.length:Int)),(13,.bool (decide ((i:Int)<(l.length:Int)))),(16,pB g1 0),(17,ov),(18,iw (i:Int)),(19,.pointer (some (elemAt dT.size ov i))),(20,.agg #[iw y5.id,iw y5.size,iw y5.weak,y5.rv.v,y5.ev.v]),(21,pB g8 2),(22,iw y5.weak),(23,.bool (decide (y5.weak≠1))),(24,.bool false),(25,mv),(26,iw (i:Int)),(27,.pointer (some (elemAt nA.size mv i))),(28,.bool (decide (y5.id∈M))),(29,.bool (!(decide (y5.id∈M)))),(30,.bool (!(decide (y5.id∈M))))] _ (aa g8 #[iw y5.id,iw y5.size,iw y5.weak,y5.rv.v,y5.ev.v] 100::aa g1 #[ov,rv] 57::own nA mv (bits l N)::F);have hgN:Good l N:=by have h:=(lr (BW l) (y5.ents.take k) (M,ch)).good hgM;rw[←td.2]at h;exact h
  refine gy ?_;refine b9 (fun lp=>?_) (fun Dt=>?_)
  .obtain ⟨KX,u1⟩:∃y,y5.ents[k]?=some y:=⟨_,List.getElem?_eq_getElem (by (try simp only[cD,bU]);omega)⟩;refine gV ?_ (c:=fun _ h=>PL (hg.up h) hs hl (Acc.kn (.own 2) h) hgN.clo.1 KX.key);refine eF 47 (fun zA=>?_) (fun pD=>?_)
   .refine gy ?_;refine ah (e:=3) [(0,iw KX.val)] #[iw KX.val] (fun g24=>?_) (hb:=by kernel_rfl);refine aC (fun _ h=>Holds.slice 0 h ak [KX.val]) ?_;refine gC [3,0] ?_ (c:=KW (I:=[KX.val]) hg hs hl hp ca (by simp));refine b9 (fun oP=>?_) (fun LK=>?_)
    .refine gy ?_;exact xr ((dfs l N [KX.val]),true,k+1) (by obtain⟨cQ,cg⟩:=td;refine⟨by omega,?_⟩;rw[gZ u1,←cg];rw[tP zA];rw[decide_eq_true oP,Bool.or_true])
    refine gy ?_;exact xr ((dfs l N [KX.val]),ci,k+1) (by obtain⟨cQ,cg⟩:=td;refine⟨by omega,?_⟩;rw[gZ u1,←cg];rw[tP zA];rw[decide_eq_false LK,Bool.or_false])
   refine gy ?_;exact xr (N,ci,k+1) (by obtain⟨cQ,cg⟩:=td;refine⟨by omega,?_⟩;rw[gZ u1,←cg];exact (A9 pD).symm)
  refine cW ?_;obtain rfl:k=y5.ents.length:=by omega
  refine gy ?_;exact xr (N,ci,i+1) (by obtain⟨cQ,cg⟩:=cg;refine⟨by omega,?_⟩;rw[Es kJ im,List.foldl_append,←cg];show _=stepT l (M,ch) y5;rw[Ep so,←yx (Nat.le_refl _)];exact td.2)
 refine go ?_;have iA:(M,ch)=oo l M0:=by rw[cg.2,List.take_of_length_le om];rfl
 refine ad [.bool ch] (own nA mv (bits l M)::F) (SI.tmp 4 SI.nil) rA ?_;rw[←iA];exact⟨rfl,rfl⟩
theorem Zh(hg:oO Z ov rv l R)(hs:oK l)(hl:l.length≤100000)(hp:kC l []≤100000000)(ca:∀o∈l,o.refs.length≤400∧o.ents.length≤100000)(hr:R.length≤1000000):SF Tryz.prog 203 #[.agg #[ov,rv]] Z [] fun r Bs=>∃v,r=.tuple #[v,iw ((ot l R).2:Int)]∧Bs=[own nA v (bits l (ot l R).1)]:=by
 refine bO Tryz.func203 22 (fun w0=>?_);refine gA fun g1=>?_
 refine FJ gg Tryz.underlying140 (l.length:Int) om (by show 1*_≤_;omega) om (fun v2=>?_);rw[show List.replicate (l.length:Int).toNat nA.zero=bits l [] from PH l];refine gC [0] ?_ (c:=PK hg hs hl hp ca hg.roots (by (try simp only[cD,bU]);omega));refine aD (ι:=Nat×List Int×Nat) (fun (k,M,n)=>ot l R=runs l k (M,n)∧Good l M∧l.length+1≤k+M.length∧n+k=l.length+2) (fun (k,M,n)=>[(1,pB g1 0),(2,nS),(3,iw 0),(4,v2),(5,iw (n:Int))]) (fun (k,M,n)=>[own nA v2 (bits l M),aa g1 #[ov,rv] 57]) (fun (k,M,n)=>k) (l.length+1,dfs l [] R,1) ⟨rfl,(kE l).dfs R,by omega,by omega⟩ sA rA ?_;rintro⟨k,M,n⟩ gE;try dsimp only at gE⊢
 have hgl:=gE.2.1.len;have hbk:=gE.2.2;refine gC [0] ?_ (c:=PM hg hs hl hp ca gE.2.1);refine kd (fun c4=>?_) (fun c4=>?_)
 .refine gy ?_;exact xr (k-1,(oo l M).1,n+1) (by obtain⟨cQ,cg,gE,fA⟩:=gE;obtain⟨k,rfl⟩:∃j,k=j+1:=⟨k-1,by omega⟩;have hf:=c4;rw[tI,decide_eq_true_eq]at hf;refine⟨cQ.trans (qL c4),(r8 l M).good cg,?_,?_⟩<;>simp only[Nat.add_sub_cancel]<;>omega)
 refine go ?_;have iA:ot l R=((oo l M).1,n):=by obtain⟨cQ,cg,gE,fA⟩:=gE;obtain⟨k,rfl⟩:∃j,k=j+1:=⟨k-1,by omega⟩;exact cQ.trans (tJ c4)
 refine ad [v2,iw (n:Int)] [own nA v2 (bits l (oo l M).1)] (SI.tmp 2 (SI.tmp 3 SI.nil)) rA ⟨v2,?_⟩;rw[iA];exact⟨rfl,rfl⟩
theorem Ey(hg:oO Z ov rv l R)(hl:l.length≤100000)(hp:kC l []≤100000000)(ca:∀o∈l,o.refs.length≤400∧o.ents.length≤100000)(hr:R.length≤1000000):SF Tryz.prog 157 #[.agg #[ov,rv]] Z [] fun r Bs=>∃v,r=.tuple #[v,iw (fa (chk 0 l))]∧Bs=[own an v (aM l R)]:=by
 refine bO Tryz.func157 41 (fun w0=>?_);refine gA fun g1=>?_
 refine gV ?_ (c:=fun _ h=>tE (hg.up h));refine kdn (fun p3=>?_) (fun p4=>?_)
 .have hc:=kG p3;refine gz ?_;exact fg ⟨_,rfl,by rw[j7 hc]⟩ (fun _ h=>h.nilS.re [0] [1])
 have hc:=mh p4;have hs:=iH hc;refine go ?_;refine a6 (fun _ h=>Zh (hg.up h) hs hl hp ca hr) ?_;rintro _ _ ⟨v5,rfl,rfl⟩;skip;refine gA fun g7=>?_
 refine aK (fun _ h=>Holds.slice 0 h ak []) ?_;refine aK (Bs:=[own an (.slice (some ⟨g7,0,none⟩) 0 0) (ik (l.take 0) (ot l R).1),own nA v5 (bits l (ot l R).1),aa g1 #[ov,rv] 57]) (fun _ h=>h) ?_;refine aD (ι:=Value×Nat) (fun (sx,i)=>i≤l.length) (fun (sx,i)=>[(1,pB g1 0),(2,nS),(3,iw 0),(5,v5),(7,sx),(8,iw (i:Int))]) (fun (sx,i)=>[own an sx (ik (l.take i) (ot l R).1),own nA v5 (bits l (ot l R).1),aa g1 #[ov,rv] 57]) (fun (sx,i)=>l.length-i) ((.slice (some ⟨g7,0,none⟩) 0 0),0) (Nat.zero_le _) sA rA ?_;rintro⟨sx,i⟩ BD;try dsimp only at BD⊢
 have Fo:=Et (l.take i) (ot l R).1;rw[List.length_take]at Fo;refine fk (fun gQ=>?_) (fun lp=>?_)
 .refine go ?_;refine sL (aF gg Tryz.underlying140 (.own 1) (i:Int) i om (by (try simp only[cD,bU]);omega) om) ?_;obtain⟨dp,jC⟩:∃y,l[i]?=some y:=⟨_,List.getElem?_eq_getElem (by (try simp only[cD,bU]);omega)⟩;have KT:=hg.each dp (List.mem_of_getElem? jC);refine sL (bC gg (.own 1) (mi (M:=(ot l R).1) jC))<|a8<|ax ?_
  refine b9 (fun kO=>?_) (fun jW=>?_)
  .refine gA fun g16=>?_
   refine gP [dp.id] fun AV _=>?_
   rw[PB jC kO];exact xr (AV,i+1) (by show i+1≤l.length;omega)
  refine gy ?_;rw[T5 jC jW];exact xr (sx,i+1) (by show i+1≤l.length;omega)
 refine go ?_;obtain rfl:i=l.length:=by omega
 refine ad [sx,iw 0] [own an sx (ik l (ot l R).1)] (SI.tmp 2 (SI.tmp 3 SI.nil)) (fun _ h=>by rw[List.take_length]at h;exact h.re [0] [1,1]) ⟨sx,by rw[hc];rfl,by rw[ly hc]⟩
theorem wo(n:Int)(hL:Kn Z an lv L)(hs:L.Pairwise (· < ·))(hl:L.length≤1000000):NF 247 #[lv,iw n] Z [] (.bool (decide (n∈L))):=by
 refine bO Tryz.func247 38 (fun w0=>?_);refine bk (fun H h=>(hL.get h).len_le) (fun lA=>?_);refine gy ?_;refine aD (ι:=Nat×Nat) (fun (lo,hi)=>GH L n lo hi) (fun (lo,hi)=>[(0,lv),(1,iw n),(4,.bool false),(5,iw (lo:Int)),(6,iw (hi:Int))]) (fun (lo,hi)=>[]) (fun (lo,hi)=>hi-lo) (0,L.length) (acZ L n) sA rA ?_;rintro⟨lo,hi⟩ cQ;try dsimp only at cQ⊢
 have ac0:=cQ.top;refine fk (fun p3=>?_) (fun im=>?_)
 .refine gy ?_;obtain⟨md4,agU⟩:∃m:Nat,m=(lo+hi) / 2:=⟨_,rfl⟩;refine sL (Lt.to (v':=iw (md4:Int)) (MT ((lo:Int)+(hi:Int)) 2 (by decide) (by rw[half];omega)) (by rw[half,←agU])) ?_;obtain⟨y6,s9⟩:∃y,L[md4]?=some y:=⟨_,List.getElem?_eq_getElem ol⟩;refine fk (fun p9=>?_) (fun gQ=>?_)
  .refine gy ?_;exact xr (md4+1,hi) (cQ.up hs s9 om p9)
  refine go ?_;exact xr (lo,md4) (cQ.down hs s9 om gQ)
 refine gy ?_;refine eF 30 (fun fL=>?_) (fun so=>?_)
 .obtain ⟨aP,ji⟩:∃y,L[lo]?=some y:=⟨_,List.getElem?_eq_getElem ol⟩;refine gy ?_;refine ad [.bool (decide (aP=n))] [] (SI.tmp 4 SI.nil) rA ⟨cB ?_,rfl⟩;exact cQ.found hs om ji
 refine go ?_;refine ad [.bool false] [] (SI.tmp 4 SI.nil) rA ⟨cB ?_,rfl⟩;exact cQ.lost hs om om
theorem T'(hA:Kn Z an av A)(hs:A.Pairwise (· < ·))(hl:A.length≤1000000)(weak:Int)(e:iF):NF 204 #[iw weak,e.v,av] Z [] (.bool (bM A weak e)):=by
 refine bO Tryz.func204 42 (fun w0=>?_);refine gA fun g1=>?_
 refine eF 9 (fun p3=>?_) (fun jr=>?_)
 .refine gc ?_;refine LI 18 (fun p5=>?_) (fun zA=>?_)
  .refine gV ?_ (c:=fun _ h=>wo e.key (Acc.kn (.zn hA) h) hs hl);refine kdq (fun p8=>?_) (fun gQ=>?_)
   .refine gz ?_;exact fg ⟨cB (by first|(unfold bM bG;simp[p3,p5,p8];done)|(exfalso;omega)),rfl⟩
   refine gc ?_;refine LI 27 (fun my=>?_) (fun lp=>?_)
   .refine gc ?_;refine LI 31 (fun iU=>?_) (fun kO=>?_)
    .refine gz ?_;exact fg ⟨cB (by first|(unfold bM bG;simp[p3,p5,gQ,my,iU];done)|(exfalso;omega)),rfl⟩
    refine gc ?_;refine eF 36 (fun mM=>?_) (fun jW=>?_)
    .refine gz ?_;exact fg ⟨cB (by first|(unfold bM bG;simp[p3,p5,gQ,my,kO,mM];done)|(exfalso;omega)),rfl⟩
    refine gV ?_ (c:=fun _ h=>wo e.val (Acc.kn (.zn hA) h) hs hl);refine gz ?_;exact fg ⟨cB (by first|(unfold bM bG;simp[p3,p5,gQ,my,kO,jW];done)|(exfalso;omega)),rfl⟩
   refine gc ?_;refine eF 36 (fun oQ=>?_) (fun nQ=>?_)
   .refine gz ?_;exact fg ⟨cB (by first|(unfold bM bG;simp[p3,p5,gQ,lp,oQ];done)|(exfalso;omega)),rfl⟩
   refine gV ?_ (c:=fun _ h=>wo e.val (Acc.kn (.zn hA) h) hs hl);refine gz ?_;exact fg ⟨cB (by first|(unfold bM bG;simp[p3,p5,gQ,lp,nQ];done)|(exfalso;omega)),rfl⟩
  refine gc ?_;refine LI 27 (fun mE=>?_) (fun uI=>?_)
  .refine gc ?_;refine LI 31 (fun LK=>?_) (fun pD=>?_)
   .refine gz ?_;exact fg ⟨cB (by first|(unfold bM bG;simp[p3,zA,mE,LK];done)|(exfalso;omega)),rfl⟩
   refine gc ?_;refine eF 36 (fun oE=>?_) (fun vA=>?_)
   .refine gz ?_;exact fg ⟨cB (by first|(unfold bM bG;simp[p3,zA,mE,pD,oE];done)|(exfalso;omega)),rfl⟩
   refine gV ?_ (c:=fun _ h=>wo e.val (Acc.kn (.zn hA) h) hs hl);refine gz ?_;exact fg ⟨cB (by first|(unfold bM bG;simp[p3,zA,mE,pD,vA];done)|(exfalso;omega)),rfl⟩
  refine gc ?_;refine eF 36 (fun kt=>?_) (fun Ay=>?_)
  .refine gz ?_;exact fg ⟨cB (by first|(unfold bM bG;simp[p3,zA,uI,kt];done)|(exfalso;omega)),rfl⟩
  refine gV ?_ (c:=fun _ h=>wo e.val (Acc.kn (.zn hA) h) hs hl);refine gz ?_;exact fg ⟨cB (by first|(unfold bM bG;simp[p3,zA,uI,Ay];done)|(exfalso;omega)),rfl⟩
 refine gc ?_;refine eF 13 (fun mD=>?_) (fun Wl=>?_)
 .refine gc ?_;refine LI 18 (fun qn=>?_) (fun JM=>?_)
  .refine gV ?_ (c:=fun _ h=>wo e.key (Acc.kn (.zn hA) h) hs hl);refine kdq (fun NQ=>?_) (fun JK=>?_)
   .refine gz ?_;exact fg ⟨cB (by first|(unfold bM bG;simp[jr,mD,qn,NQ];done)|(exfalso;omega)),rfl⟩
   refine gc ?_;refine LI 27 (fun Sy=>?_) (fun zk=>?_)
   .refine gc ?_;refine LI 31 (fun LN=>?_) (fun Du=>?_)
    .refine gz ?_;exact fg ⟨cB (by first|(unfold bM bG;simp[jr,mD,qn,JK,Sy,LN];done)|(exfalso;omega)),rfl⟩
    refine gc ?_;refine eF 36 (fun CL=>?_) (fun No=>?_)
    .refine gz ?_;exact fg ⟨cB (by first|(unfold bM bG;simp[jr,mD,qn,JK,Sy,Du,CL];done)|(exfalso;omega)),rfl⟩
    refine gV ?_ (c:=fun _ h=>wo e.val (Acc.kn (.zn hA) h) hs hl);refine gz ?_;exact fg ⟨cB (by first|(unfold bM bG;simp[jr,mD,qn,JK,Sy,Du,No];done)|(exfalso;omega)),rfl⟩
   refine gc ?_;refine eF 36 (fun FV=>?_) (fun JJ=>?_)
   .refine gz ?_;exact fg ⟨cB (by first|(unfold bM bG;simp[jr,mD,qn,JK,zk,FV];done)|(exfalso;omega)),rfl⟩
   refine gV ?_ (c:=fun _ h=>wo e.val (Acc.kn (.zn hA) h) hs hl);refine gz ?_;exact fg ⟨cB (by first|(unfold bM bG;simp[jr,mD,qn,JK,zk,JJ];done)|(exfalso;omega)),rfl⟩
  refine gc ?_;refine LI 27 (fun Q9=>?_) (fun X6=>?_)
  .refine gc ?_;refine LI 31 (fun p62=>?_) (fun p63=>?_)
   .refine gz ?_;exact fg ⟨cB (by first|(unfold bM bG;simp[jr,mD,JM,Q9,p62];done)|(exfalso;omega)),rfl⟩
   refine gc ?_;refine eF 36 (fun p65=>?_) (fun p66=>?_)
   .refine gz ?_;exact fg ⟨cB (by first|(unfold bM bG;simp[jr,mD,JM,Q9,p63,p65];done)|(exfalso;omega)),rfl⟩
   refine gV ?_ (c:=fun _ h=>wo e.val (Acc.kn (.zn hA) h) hs hl);refine gz ?_;exact fg ⟨cB (by first|(unfold bM bG;simp[jr,mD,JM,Q9,p63,p66];done)|(exfalso;omega)),rfl⟩
  refine gc ?_;refine eF 36 (fun p69=>?_) (fun p70=>?_)
  .refine gz ?_;exact fg ⟨cB (by first|(unfold bM bG;simp[jr,mD,JM,X6,p69];done)|(exfalso;omega)),rfl⟩
  refine gV ?_ (c:=fun _ h=>wo e.val (Acc.kn (.zn hA) h) hs hl);refine gz ?_;exact fg ⟨cB (by first|(unfold bM bG;simp[jr,mD,JM,X6,p70];done)|(exfalso;omega)),rfl⟩
 refine gc ?_;refine LI 27 (fun XY=>?_) (fun p80=>?_)
 .refine gc ?_;refine LI 31 (fun LM=>?_) (fun p76=>?_)
  .refine gz ?_;exact fg ⟨cB (by first|(unfold bM bG;simp[jr,Wl,XY,LM];done)|(exfalso;omega)),rfl⟩
  refine gc ?_;refine eF 36 (fun p78=>?_) (fun p79=>?_)
  .refine gz ?_;exact fg ⟨cB (by first|(unfold bM bG;simp[jr,Wl,XY,p76,p78];done)|(exfalso;omega)),rfl⟩
  refine gV ?_ (c:=fun _ h=>wo e.val (Acc.kn (.zn hA) h) hs hl);refine gz ?_;exact fg ⟨cB (by first|(unfold bM bG;simp[jr,Wl,XY,p76,p79];done)|(exfalso;omega)),rfl⟩
 refine gc ?_;refine eF 36 (fun p82=>?_) (fun p83=>?_)
 .refine gz ?_;exact fg ⟨cB (by first|(unfold bM bG;simp[jr,Wl,p80,p82];done)|(exfalso;omega)),rfl⟩
 refine gV ?_ (c:=fun _ h=>wo e.val (Acc.kn (.zn hA) h) hs hl);refine gz ?_;exact fg ⟨cB (by first|(unfold bM bG;simp[jr,Wl,p80,p83];done)|(exfalso;omega)),rfl⟩
theorem PN(hg:oO Z ov rv l R)(hA:Kn Z an av A)(hlA:A.length≤100000)(hl:l.length≤100000)(hr:R.length≤100000)(ca:∀o∈l,o.refs.length≤400∧o.ents.length≤100000):SF Tryz.prog 161 #[.agg #[ov,rv],av] Z [] fun r Bs=>∃rb rv' l' R',r=.tuple #[.agg #[rb,rv'],iw (fa (chk 0 l&&gD 0 A))]∧l'.map Ob.c=(if (chk 0 l&&gD 0 A)=true then l.map (GW A) else [])∧R'=(if (chk 0 l&&gD 0 A)=true then R else [])∧Bs=[frz (eP rb rv' l' R')]:=by
 refine bO Tryz.func161 108 (fun w0=>?_);refine gy ?_;refine bj #[ov,rv] (fun g1=>?_);refine ae (.agg #[nS,nS]) #[nS,nS] (fun g2=>?_);refine gV ?_ (c:=fun _ h=>tE (hg.up h));refine kdn (fun p4=>?_) (fun p5=>?_)
 .have hc:=kG p4;refine aE<|bd<|sL (ay (.agg #[nS,nS]))<|sL (ai (iw (fa (chk 0 l))))<|ar 0 #[nS,nS] ?_
  refine sL (ai (iw (fa (chk 0 l))))<|a8<|ax<|eM<|lD ?_
  have tQ:(chk 0 l&&gD 0 A)=false:=by rw[hc];rfl
  refine ad [.agg #[nS,nS],iw (fa (chk 0 l))] [frz (eP nS nS [] [])] (SI.agg 4 57 0 (SI.tmp 5 SI.nil)) (fun _ h=>(sa h).re [0] [1,1]) ⟨_,_,[],[],by rw[tQ,hc];rfl,by rw[tQ];rfl,by rw[tQ];rfl,rfl⟩
 have hc:=mh p5;have hs:=iH hc;refine go ?_;refine aD (ι:=Int×Nat) (fun (last,i)=>i≤A.length∧gD 0 A=gD last (A.drop i)∧0≤last∧last=(if i=0 then 0 else (A[i-1]?).getD 0)) (fun (last,i)=>[(1,av),(2,pB g1 0),(4,pB g2 0),(5,iw 0),(7,iw (i:Int))]) (fun (last,i)=>[aa g2 #[nS,nS] 57,aa g1 #[ov,rv] 57]) (fun (last,i)=>A.length-i) (0,0) ⟨Nat.zero_le _,rfl,Int.le_refl _,rfl⟩ sA rA ?_;rintro⟨last,i⟩ kV;try dsimp only at kV⊢
 obtain⟨zy,tF,hj3,hj4⟩:=id kV;refine gy ?_;refine b9 (fun p8=>?_) (fun nQ=>?_)
 .obtain ⟨y9,jA⟩:∃y,A[i]?=some y:=⟨_,List.getElem?_eq_getElem ol⟩;refine gy ?_;refine eF 30 (fun my=>?_) (fun fL=>?_)
  .refine sK<|sK<|sK<|sK<|sK<|sK<|sK<|sK<|sK<|sK<|sK<|sK<|sK<|sK<|sL (ai (.bool true))<|a8<|dB (fun _ h=>by kernel_rfl) ?_
   refine ax<|iy<|aE<|bd<|sL (ay (.agg #[nS,nS])) ?_
   refine gy ?_;have tQ:(chk 0 l&&gD 0 A)=false:=by rw[kV.2.1,lz jA,decide_eq_false (p:=last<y9) om];simp
   refine ad [.agg #[nS,nS],iw 2] [frz (eP nS nS [] [])] (SI.agg 4 57 0 (SI.tmp 5 SI.nil)) (fun _ h=>(sa h).re [0] [1,1]) ⟨_,_,[],[],by rw[tQ];rfl,by rw[tQ];rfl,by rw[tQ];rfl,rfl⟩
  refine gc ?_;refine eF 33 (fun kO=>?_) (fun oQ=>?_)
  .refine go ?_;refine sL (aF ak Tryz.underlying23 (.zn hA) (i:Int) i om ol om) ?_;refine sL (bC ak (.zn hA) jA) ?_;refine go ?_;refine sL (fX (i:Int) 1 ol) ?_;refine sL (aF ak Tryz.underlying23 (.zn hA) ((i:Int)-1) (i-1) om ol om) ?_;obtain⟨fb,Ua⟩:∃y,A[(i-1)]?=some y:=⟨_,List.getElem?_eq_getElem ol⟩;have hq:last=fb:=by rw[hj4,if_neg om,Ua];rfl
   refine gy ?_;refine b9 (fun lp=>?_) (fun zj=>?_)
   .refine aE<|bd<|sL (ay (.agg #[nS,nS]))<|ar 0 #[nS,nS] ?_
    refine sL (ai (iw 2))<|a8<|ax<|eM<|pn<|lD<|lD<|pn<|lD ?_
    have tQ:(chk 0 l&&gD 0 A)=false:=by rw[kV.2.1,lz jA,decide_eq_false (p:=last<y9) om];simp
    refine ad [.agg #[nS,nS],iw 2] [frz (eP nS nS [] [])] (SI.agg 4 57 0 (SI.tmp 5 SI.nil)) (fun _ h=>(sa h).re [0] [1,1]) ⟨_,_,[],[],by rw[tQ];rfl,by rw[tQ];rfl,by rw[tQ];rfl,rfl⟩
   refine gy ?_;exact xr (y9,i+1) (by obtain⟨cQ,cg,gE,fA⟩:=kV;have hd:=lz (last:=last) jA;refine⟨by omega,?_,by omega,by show y9=if i+1=0 then 0 else (A[i+1-1]?).getD 0;rw[if_neg om,Nat.add_sub_cancel,jA];rfl⟩;rw[cg,hd,decide_eq_true om];rfl)
  refine gy ?_;exact xr (y9,i+1) (by obtain⟨cQ,cg,gE,fA⟩:=kV;have hd:=lz (last:=last) jA;refine⟨by omega,?_,by omega,by show y9=if i+1=0 then 0 else (A[i+1-1]?).getD 0;rw[if_neg om,Nat.add_sub_cancel,jA];rfl⟩;rw[cg,hd,decide_eq_true om];rfl)
 refine go ?_;refine ah (e:=3) [] #[] (fun g23=>?_) (hb:=by kernel_rfl);refine go ?_;refine aC (fun _ h=>Holds.slice 0 h ak []) ?_;refine aq (L:=[]) 0 ak Tryz.underlying23 (.zn hg.roots) (by show _*8≤_;(try simp only[cD]);omega) ol (fun v24=>?_);rw[List.nil_append];refine sF 0 (fun mK=>?_);refine sL (show Lt _ _ _ _ _ (.agg #[nS,v24]) from by obtain⟨_,_,e⟩:=mK;rw[e];clear e;exact ay _)<|ae (.agg #[nS,nS]) #[nS,nS] (fun wK=>?_)
 refine ar (u:=.agg #[nS,v24]) (m:=2) 0 #[nS,v24] ?_ (hm:=by (obtain⟨_,_,e0⟩:=mK;rw[e0];rfl)) (h1:=by (obtain⟨_,_,e0⟩:=mK;rw[e0];rfl)) (ha':=by (obtain⟨_,_,e0⟩:=mK;rw[e0];rfl));refine go ?_;have hA1:gD 0 A=true:=by rw[kV.2.1,List.drop_of_length_le om];rfl
 have hA2:=Ev hA1;skip;refine aK (fun _ h=>Holds.nilS (T:=dT) (h.frz0 (F:=dD []) (by intro _ x hx;cases hx))) ?_;refine aD (ι:=Value×List Ob×Nat) (fun (ox,N,j)=>j≤l.length∧N.map Ob.c=(l.take j).map (GW A)) (fun (ox,N,j)=>[(1,av),(2,pB g1 0),(4,pB g2 0),(5,iw 0),(8,pB wK 0),(9,iw (j:Int))]) (fun (ox,N,j)=>[own dT ox N,frz (dD N),aa wK #[ox,v24] 57,own an v24 R,aa g2 #[nS,nS] 57,aa g1 #[ov,rv] 57]) (fun (ox,N,j)=>l.length-j) (nS,[],0) ⟨Nat.zero_le _,rfl⟩ sA rA ?_;rintro⟨ox,N,j⟩ uS;try dsimp only at uS⊢
 have Bd:N.length=j:=by have:=congrArg List.length uS.2;simp only[List.length_map,List.length_take]at this;omega
 refine gy ?_;refine b9 (fun Dt=>?_) (fun p81=>?_)
 .refine gy ?_;obtain⟨bI,rY⟩:∃y,l[j]?=some y:=⟨_,List.getElem?_eq_getElem ol⟩;have Zi:=hg.each bI (List.mem_of_getElem? rY);have LB:=ca bI (List.mem_of_getElem? rY);refine gy ?_;refine ae (.agg #[iw 0,iw 0,iw 0,nS,nS]) #[iw 0,iw 0,iw 0,nS,nS] (fun m4=>?_);refine gs ?_;refine b6 (ι:=Nat×Value) (fun (gx,vx)=>True) (fun (gx,vx)=>[(1,av),(2,pB g1 0),(4,pB g2 0),(5,iw 0),(8,pB wK 0),(9,iw (j:Int)),(10,pB m4 0),(11,pB gx 0),(52,iw (j:Int)),(53,pB g1 0),(54,ov),(55,iw (l.length:Int)),(56,.bool (decide ((j:Int)<(l.length:Int)))),(59,pB g1 0),(60,ov),(61,iw (j:Int)),(62,.pointer (some (elemAt dT.size ov j))),(63,.agg #[iw bI.id,iw bI.size,iw bI.weak,bI.rv.v,bI.ev.v])]) (fun (gx,vx)=>[aa gx #[iw bI.id,iw bI.size,iw bI.weak,vx,nS] 100,own an vx bI.refs,aa m4 #[iw bI.id,iw bI.size,iw bI.weak,bI.rv.v,bI.ev.v] 100,own dT ox N,frz (dD N),aa wK #[ox,v24] 57,own an v24 R,aa g2 #[nS,nS] 57,aa g1 #[ov,rv] 57]) ?_ ?_
  .refine br [aa m4 #[iw bI.id,iw bI.size,iw bI.weak,bI.rv.v,bI.ev.v] 100,own dT ox N,aa wK #[ox,v24] 57,own an v24 R,aa g2 #[nS,nS] 57,aa g1 #[ov,rv] 57] ?_;refine bR 0 rfl (aj (aL (aj (aj (aL (aj ao)))))) [0,0,1,1,1,1] (fun _=>(ai (pB m4 0))) ?_;refine bR 1 rfl (aj (aL (aj (aj (aL (aj ao)))))) [0,0,1,1,1,1] (fun _=>(aJ 0 (iw bI.id))) ?_;refine bR 2 rfl (aj (aL (aj (aj (aL (aj ao)))))) [0,0,1,1,1,1] (fun _=>(ai (pB m4 1))) ?_;refine bR 3 rfl (aj (aL (aj (aj (aL (aj ao)))))) [0,0,1,1,1,1] (fun _=>(aJ 0 (iw bI.size))) ?_;refine bR 4 rfl (aj (aL (aj (aj (aL (aj ao)))))) [0,0,1,1,1,1] (fun _=>(ai (pB m4 2))) ?_;refine bR 5 rfl (aj (aL (aj (aj (aL (aj ao)))))) [0,0,1,1,1,1] (fun _=>(aJ 0 (iw bI.weak))) ?_;refine bR 7 rfl (aj (aL (aj (aj (aL (aj ao)))))) [0,0,1,1,1,1] (fun _=>(ai (pB m4 3))) ?_;refine bR 8 rfl (aj (aL (aj (aj (aL (aj ao)))))) [0,0,1,1,1,1] (fun _=>(aJ 0 bI.rv.v)) ?_;refine aN 6 11 ?_ ?_
   .refine ah (e:=3) [] #[] (fun BL=>?_) (hb:=by kernel_rfl);refine nH [1,1,2,2,2,2]<|ba (ι:=Value×Nat) 1 (tf [12,1]) (fun (v44,Ra)=>[(1,av),(2,pB g1 0),(4,pB g2 0),(5,iw 0),(8,pB wK 0),(9,iw (j:Int)),(10,pB m4 0),(11,pB Ra 0),(52,iw (j:Int)),(53,pB g1 0),(54,ov),(55,iw (l.length:Int)),(56,.bool (decide ((j:Int)<(l.length:Int)))),(59,pB g1 0),(60,ov),(61,iw (j:Int)),(62,.pointer (some (elemAt dT.size ov j))),(63,.agg #[iw bI.id,iw bI.size,iw bI.weak,bI.rv.v,bI.ev.v]),(64,pB m4 0),(65,iw bI.id),(66,pB m4 1),(67,iw bI.size),(68,pB m4 2),(69,iw bI.weak),(70,(.slice (some ⟨BL,0,none⟩) 0 0)),(71,pB m4 3),(72,bI.rv.v),(73,v44),(74,.agg #[iw bI.id,iw bI.size,iw bI.weak,v44,nS])]) (fun (v44,Ra)=>[aa Ra #[iw 0,iw 0,iw 0,nS,nS] 100,own an v44 bI.refs,aa m4 #[iw bI.id,iw bI.size,iw bI.weak,bI.rv.v,bI.ev.v] 100,own dT ox N,frz (dD N),aa wK #[ox,v24] 57,own an v24 R,aa g2 #[nS,nS] 57,aa g1 #[ov,rv] 57]) ?_ (fun PO=>?_)
    .rintro ⟨v44,Ra⟩;try dsimp only
     refine ag 12 ?_;refine sF 1 (fun Zj=>?_);refine ar (u:=.agg #[iw bI.id,iw bI.size,iw bI.weak,v44,nS]) (m:=5) 0 #[iw bI.id,iw bI.size,iw bI.weak,v44,nS] ?_ (hm:=by (obtain⟨_,_,e0⟩:=Zj;rw[e0];rfl)) (h1:=by (obtain⟨_,_,e0⟩:=Zj;rw[e0];rfl)) (ha':=by (obtain⟨_,_,e0⟩:=Zj;rw[e0];rfl));refine nH [2,2,3,3,3,3]<|aI ?_
     exact bh (Ra,v44) trivial sA rA
    refine aN 9 11 ?_ ?_
    .refine aC (fun _ h=>Holds.slice 0 h ak []) ?_;refine aq (L:=[]) 0 ak Tryz.underlying23 (.zn Zi.1) (by show _*8≤_;(try simp only[cD]);omega) ol (fun Ff=>?_);rw[List.nil_append];refine sF 0 (fun NC=>?_);refine nH [1,1,2,2,2,2]<|bR 10 rfl (aj (aL (aj (aj (aL (aj ao)))))) [1,1,2,2,2,2] (fun _=>(show Lt _ _ _ _ _ (.agg #[iw bI.id,iw bI.size,iw bI.weak,Ff,nS]) from by obtain⟨_,_,e⟩:=NC;rw[e];clear e;exact ay _)) ?_
     refine ag 11 ?_;refine ae (.agg #[iw 0,iw 0,iw 0,nS,nS]) #[iw 0,iw 0,iw 0,nS,nS] (fun Fe=>?_);refine nH [2,2,3,3,3,3] ?_;exact aB PO (Ff,Fe) rA
    refine ae (.agg #[iw 0,iw 0,iw 0,nS,nS]) #[iw 0,iw 0,iw 0,nS,nS] (fun JY=>?_);refine nH [2,2,3,3,3,3]<|ag 9 ?_
    refine aC (fun _ h=>Holds.slice 1 h ak []) ?_;refine aq (L:=[]) 1 ak Tryz.underlying23 (.zn Zi.1) (by show _*8≤_;(try simp only[cD]);omega) ol (fun v56=>?_);rw[List.nil_append];refine sF 1 (fun ND=>?_);refine nH [2,2,3,3,3,3]<|bR 10 rfl (aj (aL (aj (aj (aL (aj ao)))))) [2,2,3,3,3,3] (fun _=>(show Lt _ _ _ _ _ (.agg #[iw bI.id,iw bI.size,iw bI.weak,v56,nS]) from by obtain⟨_,_,e⟩:=ND;rw[e];clear e;exact ay _)) ?_
    exact aB PO (v56,JY) rA
   refine ae (.agg #[iw 0,iw 0,iw 0,nS,nS]) #[iw 0,iw 0,iw 0,nS,nS] (fun g58=>?_);refine nH [1,1,2,2,2,2]<|ag 6 ?_
   refine ah (e:=3) [] #[] (fun O1=>?_) (hb:=by kernel_rfl);refine nH [2,2,3,3,3,3]<|ag 9 ?_
   refine aC (fun _ h=>Holds.slice 0 h ak []) ?_;refine aq (L:=[]) 0 ak Tryz.underlying23 (.zn Zi.1) (by show _*8≤_;(try simp only[cD]);omega) ol (fun Zg=>?_);rw[List.nil_append];refine sF 0 (fun PC=>?_);refine nH [2,2,3,3,3,3]<|bR 10 rfl (aj (aL (aj (aj (aL (aj ao)))))) [2,2,3,3,3,3] (fun _=>(show Lt _ _ _ _ _ (.agg #[iw bI.id,iw bI.size,iw bI.weak,Zg,nS]) from by obtain⟨_,_,e⟩:=PC;rw[e];clear e;exact ay _)) ?_
   refine ag 12 ?_;refine ar (u:=.agg #[iw bI.id,iw bI.size,iw bI.weak,Zg,nS]) (m:=5) 1 #[iw bI.id,iw bI.size,iw bI.weak,Zg,nS] ?_ (hm:=by (obtain⟨_,_,e0⟩:=PC;rw[e0];rfl)) (h1:=by (obtain⟨_,_,e0⟩:=PC;rw[e0];rfl)) (ha':=by (obtain⟨_,_,e0⟩:=PC;rw[e0];rfl));refine nH [2,2,3,3,3,3]<|aI ?_
   exact bh (g58,Zg) trivial sA rA
  rintro⟨gx,vx⟩ sc;try dsimp only at sc⊢
  refine go ?_;refine aK (fun _ h=>Holds.nilS (T:=cq) h) ?_;refine aK (Bs:=[own cq nS ((bI.ents.take 0).filter (bM A bI.weak)),aa gx #[iw bI.id,iw bI.size,iw bI.weak,vx,nS] 100,own an vx bI.refs,aa m4 #[iw bI.id,iw bI.size,iw bI.weak,bI.rv.v,bI.ev.v] 100,own dT ox N,frz (dD N),aa wK #[ox,v24] 57,own an v24 R,aa g2 #[nS,nS] 57,aa g1 #[ov,rv] 57]) (fun _ h=>h) ?_;refine aD (ι:=Value×Nat) (fun (sy,k)=>k≤bI.ents.length) (fun (sy,k)=>[(1,av),(2,pB g1 0),(4,pB g2 0),(5,iw 0),(8,pB wK 0),(9,iw (j:Int)),(10,pB m4 0),(11,pB gx 0),(12,iw (k:Int)),(52,iw (j:Int)),(53,pB g1 0),(54,ov),(55,iw (l.length:Int)),(56,.bool (decide ((j:Int)<(l.length:Int)))),(59,pB g1 0),(60,ov),(61,iw (j:Int)),(62,.pointer (some (elemAt dT.size ov j))),(63,.agg #[iw bI.id,iw bI.size,iw bI.weak,bI.rv.v,bI.ev.v])]) (fun (sy,k)=>[own cq sy ((bI.ents.take k).filter (bM A bI.weak)),aa gx #[iw bI.id,iw bI.size,iw bI.weak,vx,sy] 100,own an vx bI.refs,aa m4 #[iw bI.id,iw bI.size,iw bI.weak,bI.rv.v,bI.ev.v] 100,own dT ox N,frz (dD N),aa wK #[ox,v24] 57,own an v24 R,aa g2 #[nS,nS] 57,aa g1 #[ov,rv] 57]) (fun (sy,k)=>bI.ents.length-k) (nS,0) (Nat.zero_le _) sA rA ?_;rintro⟨sy,k⟩ agV;try dsimp only at agV⊢
  have vq:=List.length_filter_le (bM A bI.weak) (bI.ents.take k);rw[List.length_take]at vq;refine gy ?_;refine b9 (fun p64=>?_) (fun Wl=>?_)
  .obtain ⟨y65,ac'⟩:∃y,bI.ents[k]?=some y:=⟨_,List.getElem?_eq_getElem ol⟩;refine gV ?_ (c:=fun _ h=>T' (Acc.kn (.zn hA) h) hA2 om bI.weak y65);refine kd (fun VP=>?_) (fun VP=>?_)
   .refine gy ?_;refine ah (e:=167) [(0,.agg #[iw y65.key,iw y65.val])] #[iw y65.key,iw y65.val] (fun g68=>?_) (hb:=by kernel_rfl);refine aq (L:=((bI.ents.take k).filter (bM A bI.weak))) 1 dy Tryz.underlying98 (.lit 0 dy [y65]) (by show _*16≤_;(try simp only[cD]);omega) ol (fun v69=>?_);skip;refine gy ?_;rw[p' (p:=bM A bI.weak) ac' VP];exact xr (v69,k+1) (by show k+1≤bI.ents.length;omega)
   refine gy ?_;rw[w4 (p:=bM A bI.weak) ac' VP];exact xr (sy,k+1) (by show k+1≤bI.ents.length;omega)
  refine cW ?_;obtain rfl:k=bI.ents.length:=by omega
  rw[List.take_length];have vq:=List.length_filter_le (bM A bI.weak) bI.ents;refine go ?_;refine sF 2 (fun Cb=>?_);obtain⟨PQ,PR,e⟩:=Cb;subst e;refine sF 0 (fun agW=>?_);obtain⟨PS,PT,e⟩:=agW;subst e;refine go ?_;refine ah (e:=100) [(0,.agg #[iw bI.id,iw bI.size,iw bI.weak,(.slice PQ bI.refs.length PR),(.slice PS (bI.ents.filter (bM A bI.weak)).length PT)])] #[iw bI.id,iw bI.size,iw bI.weak,(.slice PQ bI.refs.length PR),(.slice PS (bI.ents.filter (bM A bI.weak)).length PT)] (fun g78=>?_) (hb:=by kernel_rfl);refine aq (L:=N) 5 bt Tryz.underlying55 (.lit 0 bt [(⟨bI.id,bI.size,bI.weak,⟨PQ,bI.refs.length,PR⟩,⟨PS,(bI.ents.filter (bM A bI.weak)).length,PT⟩,bI.refs,(bI.ents.filter (bM A bI.weak))⟩:Ob)]) (by show _*72≤_;(try simp only[cD]);omega) ol (fun v79=>?_);skip;refine gy ?_;refine ab (fun _ h=>lU (⟨bI.id,bI.size,bI.weak,⟨PQ,bI.refs.length,PR⟩,⟨PS,(bI.ents.filter (bM A bI.weak)).length,PT⟩,bI.refs,(bI.ents.filter (bM A bI.weak))⟩:Ob) (rB h)) ?_;exact xr (v79,N++[(⟨bI.id,bI.size,bI.weak,⟨PQ,bI.refs.length,PR⟩,⟨PS,(bI.ents.filter (bM A bI.weak)).length,PT⟩,bI.refs,(bI.ents.filter (bM A bI.weak))⟩:Ob)],j+1) (by obtain⟨qY,eW⟩:=uS;exact⟨by (try dsimp only);omega,nt rY eW rfl⟩)
 refine go ?_;refine sF 0 (fun GG=>?_);refine ar (u:=.agg #[ox,v24]) (m:=2) 4 #[ox,v24] ?_ (hm:=by (obtain⟨_,_,e0⟩:=GG;obtain⟨_,_,e1⟩:=mK;rw[e0,e1];rfl)) (h1:=by (obtain⟨_,_,e0⟩:=GG;obtain⟨_,_,e1⟩:=mK;rw[e0,e1];rfl)) (ha':=by (obtain⟨_,_,e0⟩:=GG;obtain⟨_,_,e1⟩:=mK;rw[e0,e1];rfl));refine go ?_;have tQ:(chk 0 l&&gD 0 A)=true:=by rw[hc,hA1];rfl
 obtain⟨qY,eW⟩:=uS;obtain rfl:j=l.length:=by omega
 rw[List.take_length]at eW;refine gz ?_;exact fg ⟨_,_,N,R,by rw[tQ];rfl,by rw[tQ];exact eW,by rw[tQ];rfl,rfl⟩ (fun _ h=>qQ (h.re [0,2,0] [3,3,3]))
theorem Ub(h:chk 0 l=true):∀x∈l,0<x.id:=O3 h
theorem PU(h:chk 0 l=true)(M:List Int):∀x∈ik l M,0<x:=by
 intro x hx;simp only[ik,List.mem_map,List.mem_filter]at hx;obtain⟨o,⟨ho,_⟩,rfl⟩:=hx;exact Ub h o ho
theorem G0(h:chk 0 l=true)(R:List Int):gD 0 (aM l R)=true:=by
 rw[ly h];exact T7 (tL (iH h) _) (PU h _)
theorem j8(i:Nat)(hi:gt As i=some (frz (eP ov rv l R)):=by rfl):Acc Z As dT ov l:=fun H h=>(h.frzF i hi).1
theorem Cc(i:Nat)(hi:gt As i=some (frz (eP ov rv l R)):=by rfl):Acc Z As an rv R:=fun H h=>(h.frzF i hi).2.1
def jP(A:List Int)(l:List Core):List Core:=l.filter fun x=>decide (x.1∈A)
def lV(A:List Int)(l:List Core):List Int:=(l.filter fun x=>!decide (x.1∈A)).map fun x=>x.1
theorem yR(hy:l[i]?=some y)(h:y.id∈A)(hN:N.map Ob.c=jP A ((l.take i).map Ob.c)):(N++[y]).map Ob.c=jP A ((l.take (i+1)).map Ob.c):=by
 rw[List.take_add_one,hy];simp[jP,List.filter_append,h]at hN ⊢;rw[hN]
theorem Cd(hy:l[i]?=some y)(h:y.id∉A)(hN:N.map Ob.c=jP A ((l.take i).map Ob.c)):N.map Ob.c=jP A ((l.take (i+1)).map Ob.c):=by
 rw[List.take_add_one,hy];simp[jP,List.filter_append,h]at hN ⊢;rw[hN]
theorem PV(hy:l[i]?=some y)(h:y.id∉A):lV A ((l.take i).map Ob.c)++[y.id]=lV A ((l.take (i+1)).map Ob.c):=by
 rw[List.take_add_one,hy];simp[lV,List.filter_append,h]
theorem Uc(hy:l[i]?=some y)(h:y.id∈A):lV A ((l.take i).map Ob.c)=lV A ((l.take (i+1)).map Ob.c):=by
 rw[List.take_add_one,hy];simp[lV,List.filter_append,h]
theorem PW(A:List Int)(l:List Core):(lV A l).length≤l.length:=by unfold lV;rw[List.length_map];exact List.length_filter_le _ _
theorem sd{l':List Ob}(h:l'.map Ob.c=l.map (GW A)):l'.length=l.length:=by have:=congrArg List.length h;simpa using this
def eK:fS Int:=⟨153,eV⟩
theorem Wm:fS.Ok (β:=β) eK Tryz.prog:=by
 refine Go.Mem.structK_ok (K:=eK) Tryz.underlying153 (fun k=>⟨_,rfl⟩) (fun b k w=>by kernel_rfl) (fun k=>?_) (fun k k' w=>Go.Mem.equal_of_bin (eqE k k' w).1);show Instr.sameBits 10000 (eV k) (eV k)=true;unfold Instr.sameBits;simp[Instr.sameBits]
def jj(A:List Int):List (Int×Bool):=A.foldl (fun m x=>dO m x true) []
theorem KY(A:List Int)(k:Int):∀m:List (Int×Bool),bN (A.foldl (fun m x=>dO m x true) m) k=if k∈A then some true else bN m k:=by
 induction A with
 | nil=>intro m;simp
 | cons a r ih=>
  intro m;rw[List.foldl_cons,ih,cL];by_cases h1:k∈r<;>by_cases h2:k=a<;>simp[h1,h2]
theorem qR(A:List Int)(k:Int):((bN (jj A) k).map bV).getD (.bool false)=.bool (decide (k∈A)):=by
 unfold jj;rw[KY];by_cases h:k∈A<;>simp[h,bN]
theorem Ez{y:Int}(h:A[i]?=some y):dO (jj (A.take i)) y true=jj (A.take (i+1)):=(gZ (f:=fun m x=>dO m x true) h).symm
def b'(A reg:List Int):List Int:=reg.filter fun x=>decide (x∈A)
def fV(A reg:List Int):List Int:=reg.filter fun x=>!decide (x∈A)
def fU(A reg:List Int):List Int:=(fV A reg).reverse
theorem EA{y:Int}(h:L[i]?=some y)(hp:y∈A):b' A (L.take i)++[y]=b' A (L.take (i+1))∧fV A (L.take i)=fV A (L.take (i+1)):=by
 rw[←bA h];simp[b',fV,List.filter_append,hp]
theorem ID{y:Int}(h:L[i]?=some y)(hp:y∉A):b' A (L.take i)=b' A (L.take (i+1))∧fV A (L.take i)++[y]=fV A (L.take (i+1)):=by
 rw[←bA h];simp[b',fV,List.filter_append,hp]
theorem tR(A L:List Int):(b' A L).length≤L.length:=List.length_filter_le _ _
theorem tS(A L:List Int):(fV A L).length≤L.length:=List.length_filter_le _ _
theorem Ce(A L:List Int):(fU A L).length≤L.length:=by unfold fU;rw[List.length_reverse];exact tS A L
def Rv{α:Type}(L X:List α)(i:Nat):Prop:=X.length=L.length∧2*i≤L.length+1∧∀k,k<L.length→X[k]?=if k<i∨L.length<k+i+1 then L[L.length-1-k]? else L[k]?
theorem rv0(L:List α):Rv L L 0:=⟨rfl,by omega,fun k hk=>by rw[if_neg om]⟩
theorem Ud{L X:List α}{x y:α}(h:Rv L X i)(hi:2*i+1<L.length)(hx:X[i]?=some x)(hy:X[L.length-1-i]?=some y):Rv L ((X.set i y).set (L.length-1-i) x) (i+1):=by
 obtain⟨h1,h2,h3⟩:=h;refine⟨by simp[h1],by omega,fun k hk=>?_⟩;have RG:=h3 i om;have hyi:=h3 (L.length-1-i) om;rw[if_neg om]at RG hyi;rw[hx]at RG;rw[hy]at hyi;by_cases e1:k=L.length-1-i
 .subst e1;rw[List.getElem?_set_self (by simp[h1];omega),if_pos om,RG];congr 1;omega
 rw[List.getElem?_set_ne (Ne.symm e1)];by_cases e2:k=i
 .subst e2;rw[List.getElem?_set_self om,if_pos om,hyi]
 rw[List.getElem?_set_ne (Ne.symm e2),h3 k hk];by_cases c:k<i∨L.length<k+i+1
 .rw [if_pos c,if_pos om]
 rw[if_neg c,if_neg om]
theorem Zk{L X:List α}(h:Rv L X i)(hi:¬2*i+1<L.length):X=L.reverse:=by
 obtain⟨h1,h2,h3⟩:=h;apply List.ext_getElem?;intro k;by_cases hk:k<L.length
 .rw [h3 k hk,List.getElem?_reverse hk];by_cases c:k<i∨L.length<k+i+1
  .rw [if_pos c]
  rw[if_neg c];congr 1;omega
 rw[List.getElem?_eq_none om,List.getElem?_eq_none (by simp;omega)]
theorem ada(hl:L.length≤1000000):MF 254 #[v] Z (own rC v L::F) (.tuple #[]) (own rC v L.reverse::F):=by
 refine bO Tryz.func254 28 (fun w0=>?_);refine go ?_;refine sL (bL iM Tryz.underlying149 (.own 0)) ?_;refine sL (Lt.to (v':=iw ((L.length:Int)-1-((0:Nat):Int))) (fX (L.length:Int) 1 om) (cI om)) ?_;refine gy ?_;refine aD (ι:=List Int×Nat) (fun (X,i)=>Rv L X i) (fun (X,i)=>[(0,v),(2,iw (i:Int)),(3,iw ((L.length:Int)-1-(i:Int)))]) (fun (X,i)=>own rC v X::F) (fun (X,i)=>L.length-i) (L,0) (rv0 L) sA rA ?_;rintro⟨X,i⟩ cQ;try dsimp only at cQ⊢
 have hXl:=cQ.1;have hX2:=cQ.2.1;refine gy ?_;refine b9 (fun p3=>?_) (fun gQ=>?_)
 .refine go ?_;refine sL (aF iM Tryz.underlying149 (.own 0) ((L.length:Int)-1-(i:Int)) (L.length-1-i) om ol om) ?_;obtain⟨y4,mN⟩:∃y,X[(L.length-1-i)]?=some y:=⟨_,List.getElem?_eq_getElem ol⟩;refine sL (bC iM (.own 0) mN) ?_;refine go ?_;obtain⟨y6,s9⟩:∃y,X[i]?=some y:=⟨_,List.getElem?_eq_getElem ol⟩;refine gy ?_;refine dX 0 0 y4 iM s9 ?_;refine sL (aF iM Tryz.underlying149 (.own 0) ((L.length:Int)-1-(i:Int)) (L.length-1-i) om ol om) ?_;obtain⟨y8,oH⟩:∃y,((X.set i y4))[(L.length-1-i)]?=some y:=⟨_,List.getElem?_eq_getElem ol⟩;refine dX 0 0 y6 iM oH ?_;refine a8<|dB (fun _ h=>by kernel_rfl) ?_
  refine eU<|ax<|bd<|sL (ai (iw (i:Int))) ?_
  refine sL (bX (i:Int) 1 ol)<|sL (ai (iw ((L.length:Int)-1-(i:Int)))) ?_
  refine sL (Lt.to (v':=iw ((L.length:Int)-1-((i+1:Nat):Int))) (fX ((L.length:Int)-1-(i:Int)) 1 om) (cI om)) ?_;refine go ?_;exact xr (((X.set i y4).set (L.length-1-i) y6),i+1) (Ud cQ om s9 mN)
 refine go ?_;have hX:X=L.reverse:=Zk cQ om;subst hX;refine gz ?_;exact fg ⟨rfl,rfl⟩
theorem G2(hr:reg.length≤100000)(hp:pend.length≤100000):SF Tryz.prog 216 #[pB b 0,.map (some mb)] Z (qA b reg pend::dr eK bV mb (jj A)::F) fun r Bs=>Bs=qA b (b' A reg) (pend++fU A reg)::own an r (fU A reg)::dr eK bV mb (jj A)::F:=by
 refine bO Tryz.func216 47 (fun w0=>?_);refine mC (fun H h=>uW (rB h)) (fun GM Iu hw=>?_);refine gy ?_;refine aK (fun _ h=>Holds.nilS (T:=rC) h) ?_;refine aK (Bs:=own rC nS (b' A (reg.take 0))::aa b #[GM,Iu] 151::own rC GM reg::ownO rC Iu pend::dr eK bV mb (jj A)::F) (fun _ h=>h) ?_;refine aK (fun _ h=>Holds.nilS (T:=rC) h) ?_;refine aK (Bs:=own rC nS (fV A (reg.take 0))::own rC nS (b' A (reg.take 0))::aa b #[GM,Iu] 151::own rC GM reg::ownO rC Iu pend::dr eK bV mb (jj A)::F) (fun _ h=>h) ?_;refine aD (ι:=Value×Value×Nat) (fun (sx,gx,i)=>i≤reg.length) (fun (sx,gx,i)=>[(0,pB b 0),(1,.map (some mb)),(4,nS),(5,sx),(6,gx),(12,GM),(13,iw (reg.length:Int)),(14,iw (i:Int))]) (fun (sx,gx,i)=>own rC gx (fV A (reg.take i))::own rC sx (b' A (reg.take i))::aa b #[GM,Iu] 151::own rC GM reg::ownO rC Iu pend::dr eK bV mb (jj A)::F) (fun (sx,gx,i)=>reg.length-i) (nS,nS,0) (Nat.zero_le _) sA rA ?_;rintro⟨sx,gx,i⟩ gE;try dsimp only at gE⊢
 have GR:=tR A (reg.take i);have Rk:=tS A (reg.take i);rw[List.length_take]at GR Rk;refine gc ?_;refine b9 (fun p5=>?_) (fun jW=>?_)
 .obtain ⟨y6,s9⟩:∃y,reg[i]?=some y:=⟨_,List.getElem?_eq_getElem ol⟩;refine gy ?_;refine ae (.agg #[iw 0]) #[iw 0] (fun g8=>?_);refine go ?_;refine sL (Lt.to (v':=.bool (decide (y6∈A))) (cn 6 Wm Tryz.underlying240 (.bool false) y6) (qR _ _)) ?_;refine gy ?_;refine b9 (fun gQ=>?_) (fun iU=>?_)
  .refine go ?_;refine ah (e:=153) [(0,.agg #[iw y6])] #[iw y6] (fun g11=>?_) (hb:=by kernel_rfl);refine aq (L:=(b' A (reg.take i))) 3 iM Tryz.underlying149 (.lit 0 iM [y6]) (by show _*8≤_;(try simp only[cD]);omega) ol (fun v12=>?_);refine sF 3 (fun BK=>?_);refine gy ?_;have hq:=EA (A:=A) s9 gQ;rw[hq.1,hq.2];exact xr (v12,gx,i+1) (by show i+1≤reg.length;omega)
  refine go ?_;refine ah (e:=153) [(0,.agg #[iw y6])] #[iw y6] (fun g15=>?_) (hb:=by kernel_rfl);refine aq (L:=(fV A (reg.take i))) 2 iM Tryz.underlying149 (.lit 0 iM [y6]) (by show _*8≤_;(try simp only[cD]);omega) ol (fun Pg=>?_);refine sF 2 (fun zD=>?_);refine gy ?_;have hq:=ID (A:=A) s9 iU;rw[hq.1,hq.2];exact xr (sx,Pg,i+1) (by show i+1≤reg.length;omega)
 refine cW ?_;obtain rfl:i=reg.length:=by omega
 rw[List.take_length];have hs3:=tR A reg;have hs4:=tS A reg;have hs5:=Ce A reg;refine go ?_;refine sC [0] (ada (L:=(fV A reg)) ol) ?_;refine gy ?_;refine sF 1 (fun lZ=>?_);refine gX (L:=pend) 4 iM Tryz.underlying149 (.own 0) (by show _*8≤_;(try simp only[cD]);omega) ol (fun v20=>?_);refine bl (fun H h=>((Acc.ownO (T:=rC) (L:=(pend++(fV A reg).reverse)) 4 rfl) H h).form) (fun oS=>?_);refine gy ?_;refine a6 (fun _ h=>Pe (L:=(fV A reg).reverse) (Acc.kn (.own 0) h) ol) ?_;rintro v22 _ rfl;refine sF 0 (fun FY=>?_);refine gy ?_;refine ab (fun _ h=>oz (rB h)) ?_;exact ad [v22] (qA b (b' A reg) (pend++fU A reg)::own an v22 (fU A reg)::dr eK bV mb (jj A)::F) (SI.tmp 4 SI.nil) (rr [0,0,2] [3,3]) rfl
theorem Zl(hA:Kn Z an av A)(hr:reg.length≤100000)(hp:pend.length≤100000):SF Tryz.prog 175 #[pB b 0,av] Z (qA b reg pend::F) fun r Bs=>Bs=qA b (b' A reg) (pend++fU A reg)::own an r (fU A reg)::F:=by
 refine bO Tryz.func175 24 (fun w0=>?_);refine bk (fun H h=>(hA.get h).len_le) (fun lA=>?_);refine gy ?_;refine fZ eK bV (fun b1=>?_);refine gy ?_;refine aK (Bs:=dr eK bV b1 (jj (A.take 0))::qA b reg pend::F) (fun _ h=>h) ?_;refine aD (ι:=Nat) (fun i=>i≤A.length) (fun i=>[(0,pB b 0),(4,nS),(5,.map (some b1)),(11,av),(12,iw (A.length:Int)),(13,iw (i:Int))]) (fun i=>dr eK bV b1 (jj (A.take i))::qA b reg pend::F) (fun i=>A.length-i) 0 (Nat.zero_le _) sA rA ?_;rintro i cg;try dsimp only at cg⊢
 refine gc ?_;refine b9 (fun p4=>?_) (fun p7=>?_)
 .refine gy ?_;obtain⟨y5,kJ⟩:∃y,A[i]?=some y:=⟨_,List.getElem?_eq_getElem ol⟩;refine sL (bC ak (.zn hA) kJ)<|sL (ai (iw y5))<|a8<|ax<|bd<|sL (ai (.map (some b1)))<|sL (ai (iw y5))<|sL (ay (.agg #[iw y5])) ?_
  refine eE 0 Wm Tryz.underlying240 y5 true ?_;refine gy ?_;rw[Ez kJ];exact xr (i+1) (by show i+1≤A.length;omega)
 refine cW ?_;rw[List.take_of_length_le (show A.length≤i by omega)];refine go ?_;refine aH [1,0] (G2 (A:=A) (reg:=reg) (pend:=pend) ol ol) ?_;rintro v8 _ rfl;refine sF 1 (fun mw=>?_);refine gy ?_;exact ad _ _ (SI.tmp 4 SI.nil) (rr [0,0] [2]) rfl
theorem IE(hL:Kn Z an lv L):SF Tryz.prog 116 #[lv] Z [] fun r Bs=>∃b,r=.map (some b)∧Bs=[dr (Go.Mem.intK 3) bV b (jj L)]:=by
 refine bO Tryz.func116 17 (fun w0=>?_);refine bk (fun H h=>(hL.get h).len_le) (fun lA=>?_);refine gy ?_;refine fZ (Go.Mem.intK 3) bV (fun b1=>?_);refine gy ?_;refine aK (Bs:=[dr (Go.Mem.intK 3) bV b1 (jj (L.take 0))]) (fun _ h=>h) ?_;refine aD (ι:=Nat) (fun i=>i≤L.length) (fun i=>[(2,.map none),(3,.map (some b1)),(7,lv),(8,iw (L.length:Int)),(9,iw (i:Int))]) (fun i=>[dr (Go.Mem.intK 3) bV b1 (jj (L.take i))]) (fun i=>L.length-i) 0 (Nat.zero_le _) sA rA ?_;rintro i cg;try dsimp only at cg⊢
 refine gc ?_;refine b9 (fun p4=>?_) (fun p7=>?_)
 .obtain ⟨y5,kJ⟩:∃y,L[i]?=some y:=⟨_,List.getElem?_eq_getElem ol⟩;refine gy ?_;refine eE 0 dx Tryz.underlying95 y5 true ?_;refine gy ?_;rw[Ez kJ];exact xr (i+1) (by show i+1≤L.length;omega)
 refine gz ?_;exact fg ⟨b1,rfl,rfl⟩ (fun _ h=>by rw[List.take_of_length_le (show L.length≤i by omega)]at h;exact h.re [0] [])
def fC(A:List Int)(e:iF):Bool:=decide (e.val=0)||decide (e.val∈A)
def u'(A:List Int)(x:Ob):Bool:=decide (x.id∈A)&&(decide (x.weak=2)||decide (x.weak=3))
def sq(A:List Int)(x:Ob):Core:=(x.id,x.size,x.weak,x.refs,if u' A x=true then x.ents.filter (fC A) else x.ents)
def SlO(x:Ob)(H:bb):Prop:=Sl H an x.rv.v x.refs∧Sl H cq x.ev.v x.ents
section
variable{Z:bK}{As:List aW}{H:bb}{ov rv:Value}{l:List Ob}{R:List Int}
theorem IF(hx:Fk Z x)(h:Holds Z As H):Holds Z (iD Z (SlO x)::As) H:=h.zfr0 fun H hz=>⟨hx.1 H hz,hx.2 H hz⟩
theorem IG(hx:Fk Z x)(nb:Ob)(h:Holds Z (own cq nb.ev.v nb.ents::As) H)(e1:nb.rv=x.rv:=by rfl)(e2:nb.refs=x.refs:=by rfl):Holds Z (iD Z (SlO nb)::As) H:=by
 have h1:=h.zfr0 (F:=fun H=>Sl H an x.rv.v x.refs) fun H hz=>hx.1 H hz
 have h2:Holds Z (own cq nb.ev.v nb.ents::iD Z (fun H=>Sl H an x.rv.v x.refs)::As) H:=h1.swap;exact h2.zfrO.zfrM fun H hz ⟨a,b⟩=>⟨by rw[e1,e2];exact b,a⟩
theorem vd{L:List Ob}(nb:Ob)(h:Holds Z (iD Z (SlO nb)::iD Z (dD L)::As) H):Holds Z (iD Z (dD (L++[nb]))::As) H:=
 h.zfrJ.zfrM fun H _ ⟨a,b⟩ x hx=>by
  rcases List.mem_append.1 hx with hx|hx
  .exact b x hx
  simp at hx;subst hx;exact a
theorem EB(h:Holds Z As H):Holds Z (iD Z (dD [])::As) H:=h.zfr0 fun H _ x hx=>by cases hx
theorem PX{L:List Ob}(hR:Kn Z an rv R)(h:Holds Z (own dT ov L::iD Z (dD L)::As) H):Holds Z (iD Z (eP ov rv L R)::As) H:=
 h.zfrO.zfrM fun H hz ⟨a,b⟩=>⟨a,hR H hz,b⟩
theorem IH{l1 l2:List Ob}{o1 o2 r2:Value}{R2:List Int}(hN:∀x∈N,x∈l2)(h:Holds Z (own dT ov N::frz (eP o2 r2 l2 R2)::iD Z (eP o1 rv l1 R)::As) H):Holds Z (iD Z (eP ov rv N R)::As) H:=by
 have h1:Holds Z (frz (eP o2 r2 l2 R2)::iD Z (eP o1 rv l1 R)::own dT ov N::As) H:=h.re [1,1] [];have h2:Holds Z (own dT ov N::iD Z (fun H=>eP o2 r2 l2 R2 H∧eP o1 rv l1 R H)::As) H:=(h1.toZ.zfrJ).swap;exact h2.zfrO.zfrM fun H _ ⟨a,b,c⟩=>⟨a,c.2.1,fun x hx=>b.2.2 x (hN x hx)⟩
theorem Wn(i:Nat)(hi:gt As i=some (iD Z (eP ov rv l R)):=by rfl):Acc Z As dT ov l:=fun H h=>(h.zfrF i hi).1
theorem vQ(i:Nat)(hi:gt As i=some (iD Z (eP ov rv l R)):=by rfl):Acc Z As an rv R:=fun H h=>(h.zfrF i hi).2.1
theorem II(hG:eP ov rv l R H)(hv:Kn (gK H) an v M):oO (gK H) ov v l M:=⟨hG.kn.obs,hv,hG.kn.each⟩
end
theorem KZ(hx:Fk Z x)(ca:x.refs.length≤400∧x.ents.length≤100000):SF Tryz.prog 176 #[x.v,.map (some mb)] Z (dr (Go.Mem.intK 3) bV mb (jj A)::F) fun r Bs=>∃x',r=x'.v∧x'.c=sq A x∧Bs=iD Z (SlO x')::dr (Go.Mem.intK 3) bV mb (jj A)::F:=by
 refine bx Tryz.func176 48 [(0,.agg #[iw x.id,iw x.size,iw x.weak,x.rv.v,x.ev.v]),(1,.map (some mb))] (fun w0=>?_);refine gy ?_;refine bj #[iw x.id,iw x.size,iw x.weak,x.rv.v,x.ev.v] (fun g1=>?_);refine ae (.agg #[iw 0,iw 0,iw 0,nS,nS]) #[iw 0,iw 0,iw 0,nS,nS] (fun g2=>?_);refine a8<|ax<|aE<|b6 (ι:=Unit) (fun _=>True) (fun _=>[(1,.map (some mb)),(2,pB g1 0),(4,pB g2 0),(22,.bool ((!(decide (x.id∈A)))||((decide (x.weak≠2))&&(decide (x.weak≠3)))))]) (fun _=>aa g2 #[iw 0,iw 0,iw 0,nS,nS] 100::aa g1 #[iw x.id,iw x.size,iw x.weak,x.rv.v,x.ev.v] 100::dr (Go.Mem.intK 3) bV mb (jj A)::F) ?_ (fun _ _=>?_)
 .refine gl ?_ (t:=Lt.to (v':=.bool (decide (x.id∈A))) (cn 2 dx Tryz.underlying95 (.bool false) x.id) (qR _ _));refine oW 13 (fun c3=>?_) (fun c3=>?_)
  .have c4:=cO c3;have p5:=dF c4;refine go ?_;exact xC
  have c6:=cu c3;have p7:=dY c6;refine gc ?_;refine eF 17 (fun p9=>?_) (fun q8=>?_)
  .refine gc ?_;exact xC
  have gQ:=Decidable.not_not.1 q8;refine go ?_;exact xC
 refine kd (fun ff=>?_) (fun ff=>?_)
 .have my:=ff;simp only[Bool.and_eq_true,Bool.or_eq_true,Bool.and_eq_false_iff,Bool.or_eq_false_iff,Bool.not_eq_true',Bool.not_eq_false',decide_eq_true_eq,decide_eq_false_iff_not]at my;refine go ?_;have hu:u' A x=false:=(by have h:=ff;revert h;unfold u';generalize decide (x.id∈A)=b1;rw[show decide (x.weak≠2)=!decide (x.weak=2) by simp,show decide (x.weak≠3)=!decide (x.weak=3) by simp];generalize decide (x.weak=2)=b2;generalize decide (x.weak=3)=b3;revert b1 b2 b3;decide);exact ad [x.v] (iD Z (SlO x)::dr (Go.Mem.intK 3) bV mb (jj A)::F) (SI.agg 4 100 0 SI.nil) (fun _ h=>(IF hx h).re [0,2] [2,2]) ⟨x,rfl,by unfold sq;rw[hu];rfl,rfl⟩
 obtain⟨ux,kj⟩:=l5 ff;have CJ:=cu ux;have so:=dY CJ;have mM:=kj;simp only[Bool.and_eq_true,Bool.or_eq_true,Bool.and_eq_false_iff,Bool.or_eq_false_iff,Bool.not_eq_true',Bool.not_eq_false',decide_eq_true_eq,decide_eq_false_iff_not]at mM;refine gy ?_;refine aK (fun _ h=>Holds.nilS (T:=cq) h) ?_;refine aK (Bs:=own cq nS ((x.ents.take 0).filter (fC A))::aa g2 #[iw 0,iw 0,iw 0,nS,nS] 100::aa g1 #[iw x.id,iw x.size,iw x.weak,x.rv.v,x.ev.v] 100::dr (Go.Mem.intK 3) bV mb (jj A)::F) (fun _ h=>h) ?_;refine aD (ι:=Value×Nat) (fun (sy,k)=>k≤x.ents.length) (fun (sy,k)=>[(1,.map (some mb)),(2,pB g1 0),(4,pB g2 0),(5,sy),(25,x.ev.v),(26,iw (x.ents.length:Int)),(27,iw (k:Int))]) (fun (sy,k)=>own cq sy ((x.ents.take k).filter (fC A))::aa g2 #[iw 0,iw 0,iw 0,nS,nS] 100::aa g1 #[iw x.id,iw x.size,iw x.weak,x.rv.v,x.ev.v] 100::dr (Go.Mem.intK 3) bV mb (jj A)::F) (fun (sy,k)=>x.ents.length-k) (nS,0) (Nat.zero_le _) sA (rr [0,0,0,0] []) ?_;rintro⟨sy,k⟩ iG;try dsimp only at iG⊢
 have vq:=List.length_filter_le (fC A) (x.ents.take k);rw[List.length_take]at vq;refine gc ?_;refine b9 (fun zj=>?_) (fun jr=>?_)
 .obtain ⟨aU,GY⟩:∃y,x.ents[k]?=some y:=⟨_,List.getElem?_eq_getElem ol⟩;refine gy ?_;refine ae (.agg #[iw 0,iw 0]) #[iw 0,iw 0] (fun g23=>?_);refine gs ?_;refine b6 (ι:=Unit) (fun _=>True) (fun _=>[(1,.map (some mb)),(2,pB g1 0),(4,pB g2 0),(5,sy),(7,pB g23 0),(25,x.ev.v),(26,iw (x.ents.length:Int)),(27,iw (k:Int)),(28,.bool (decide ((k:Int)<(x.ents.length:Int)))),(29,.pointer (some (elemAt cq.size x.ev.v k))),(30,.agg #[iw aU.key,iw aU.val]),(31,pB g23 1),(32,iw aU.val),(33,.bool (decide (aU.val=0))),(34,.bool (decide (aU.val=0))),(39,.bool ((decide (aU.val=0))||(decide (aU.val∈A))))]) (fun _=>aa g23 #[iw aU.key,iw aU.val] 167::own cq sy ((x.ents.take k).filter (fC A))::aa g2 #[iw 0,iw 0,iw 0,nS,nS] 100::aa g1 #[iw x.id,iw x.size,iw x.weak,x.rv.v,x.ev.v] 100::dr (Go.Mem.intK 3) bV mb (jj A)::F) ?_ (fun _ _=>?_)
  .refine gc ?_;refine eF 34 (fun mE=>?_) (fun oP=>?_)
   .refine go ?_;exact xC
   refine gl ?_ (t:=Lt.to (v':=.bool (decide (aU.val∈A))) (cn 4 dx Tryz.underlying95 (.bool false) aU.val) (qR _ _));exact xC
  refine kd (fun En=>?_) (fun En=>?_)
  .have pD:=En;simp only[Bool.and_eq_true,Bool.or_eq_true,Bool.and_eq_false_iff,Bool.or_eq_false_iff,Bool.not_eq_true',Bool.not_eq_false',decide_eq_true_eq,decide_eq_false_iff_not]at pD;refine gy ?_;refine ah (e:=167) [(0,.agg #[iw aU.key,iw aU.val])] #[iw aU.key,iw aU.val] (fun AW=>?_) (hb:=by kernel_rfl);refine aq (L:=((x.ents.take k).filter (fC A))) 2 dy Tryz.underlying98 (.lit 0 dy [aU]) (by show _*16≤_;(try simp only[cD]);omega) ol (fun v30=>?_);skip;refine gy ?_;rw[p' (p:=fC A) GY (by have h:=En;revert h;unfold fC;generalize decide (aU.val=0)=b1;generalize decide (aU.val∈A)=b2;revert b1 b2;decide)];exact az (v30,k+1) (by show x.ents.length-(k+1)<x.ents.length-k;omega) (by show k+1≤x.ents.length;omega) sA (rr [2,2,2,2] [4,4])
  obtain⟨XT,XU⟩:=l5 En;have kt:=dF XT;have Ay:=dF XU;refine gy ?_;rw[w4 (p:=fC A) GY (by have h:=En;revert h;unfold fC;generalize decide (aU.val=0)=b1;generalize decide (aU.val∈A)=b2;revert b1 b2;decide)];exact az (sy,k+1) (by show x.ents.length-(k+1)<x.ents.length-k;omega) (by show k+1≤x.ents.length;omega) sA (rr [1,1,1,1] [4])
 refine cW ?_;obtain rfl:k=x.ents.length:=by omega
 rw[List.take_length];have vq:=List.length_filter_le (fC A) x.ents;refine gy ?_;refine sF 0 (fun yk=>?_);obtain⟨se,sf,e⟩:=yk;subst e;refine go ?_;have hu:u' A x=true:=(by have h:=ff;revert h;unfold u';generalize decide (x.id∈A)=b1;rw[show decide (x.weak≠2)=!decide (x.weak=2) by simp,show decide (x.weak≠3)=!decide (x.weak=3) by simp];generalize decide (x.weak=2)=b2;generalize decide (x.weak=3)=b3;revert b1 b2 b3;decide);exact ad [.agg #[iw x.id,iw x.size,iw x.weak,x.rv.v,(.slice se (x.ents.filter (fC A)).length sf)]] (iD Z (SlO (⟨x.id,x.size,x.weak,x.rv,⟨se,(x.ents.filter (fC A)).length,sf⟩,x.refs,(x.ents.filter (fC A))⟩:Ob))::dr (Go.Mem.intK 3) bV mb (jj A)::F) (SI.agg 4 100 1 SI.nil) (fun _ h=>IG hx (⟨x.id,x.size,x.weak,x.rv,⟨se,(x.ents.filter (fC A)).length,sf⟩,x.refs,(x.ents.filter (fC A))⟩:Ob) (h.re [0,2] [2,2])) ⟨(⟨x.id,x.size,x.weak,x.rv,⟨se,(x.ents.filter (fC A)).length,sf⟩,x.refs,(x.ents.filter (fC A))⟩:Ob),rfl,by unfold sq;rw[hu];rfl,rfl⟩
theorem PY{L:List iF}(hL:Kn Z cq lv L)(hl:L.length≤1000000):SF Tryz.prog 178 #[lv] Z [] fun r Bs=>Bs=[own cq r L]:=by
 refine bO Tryz.func178 8 (fun w0=>?_);refine Iv (fun H h=>hL.get h) (fun H0 Jp=>?_);refine gl ?_ (t:=MU Tryz.underlying98 (.zn hL));refine kd (fun c1=>?_) (fun c1=>?_)
 .refine gy ?_;have hn:L=[]:=(Aj Jp c1).2;refine gz ?_;exact fg rfl (fun _ h=>by rw[hn];exact h.nilS.re [0] [])
 refine go ?_;refine ah (e:=167) [] #[] (fun g2=>?_) (hb:=by kernel_rfl);refine gy ?_;refine aC (fun _ h=>Holds.slice 0 h dy []) ?_;refine aq (L:=[]) 0 dy Tryz.underlying98 (.zn hL) (by show _*16≤_;(try simp only[cD]);omega) ol (fun v3=>?_);rw[List.nil_append];skip;refine gz ?_;exact fg rfl
theorem PZ(hg:oO Z ov rv l R)(hl:l.length≤100000)(hr:R.length≤100000)(ca:∀o∈l,o.refs.length≤400∧o.ents.length≤100000):SF Tryz.prog 117 #[.agg #[ov,rv]] Z [] fun r Bs=>∃rb rv' l',r=.agg #[rb,rv']∧l'.map Ob.c=l.map Ob.c∧Bs=[frz (eP rb rv' l' R)]:=by
 refine bO Tryz.func117 33 (fun w0=>?_);refine gy ?_;refine bj #[ov,rv] (fun g1=>?_);refine ae (.agg #[nS,nS]) #[nS,nS] (fun g2=>?_);refine gy ?_;refine a6 (fun _ h=>k6 (Acc.kn (.zn hg.roots) h) ol) ?_;rintro v3 _ rfl;refine sF 0 (fun nM=>?_);refine sL (show Lt _ _ _ _ _ (.agg #[nS,v3]) from by obtain⟨_,_,e⟩:=nM;rw[e];clear e;exact ay _)<|ae (.agg #[nS,nS]) #[nS,nS] (fun g5=>?_)
 refine ar (u:=.agg #[nS,v3]) (m:=2) 0 #[nS,v3] ?_ (hm:=by (obtain⟨_,_,e0⟩:=nM;rw[e0];rfl)) (h1:=by (obtain⟨_,_,e0⟩:=nM;rw[e0];rfl)) (ha':=by (obtain⟨_,_,e0⟩:=nM;rw[e0];rfl));refine a8<|ax<|aE<|aE<|bd<|sL (ai (pB g1 0))<|sL (aJ 3 ov) ?_
 refine gy ?_;refine aK (fun _ h=>Holds.nilS (T:=dT) (h.frz0 (F:=dD []) (by intro _ x hx;cases hx))) ?_;refine aD (ι:=Value×List Ob×Nat) (fun (ox,N,j)=>j≤l.length∧N.map Ob.c=(l.take j).map Ob.c) (fun (ox,N,j)=>[(2,pB g2 0),(3,pB g5 0),(11,ov),(12,iw (l.length:Int)),(13,iw (j:Int))]) (fun (ox,N,j)=>[own dT ox N,frz (dD N),aa g5 #[ox,v3] 57,own an v3 R,aa g2 #[nS,nS] 57,aa g1 #[ov,rv] 57]) (fun (ox,N,j)=>l.length-j) (nS,[],0) ⟨Nat.zero_le _,rfl⟩ sA rA ?_;rintro⟨ox,N,j⟩ kV;replace kV:j≤l.length∧N.map Ob.c=(l.take j).map Ob.c:=kV;show SK _ _ _ _ _ [(2,pB g2 0),(3,pB g5 0),(11,ov),(12,iw (l.length:Int)),(13,iw (j:Int))] _ [own dT ox N,frz (dD N),aa g5 #[ox,v3] 57,own an v3 R,aa g2 #[nS,nS] 57,aa g1 #[ov,rv] 57];have Bd:N.length=j:=by have:=congrArg List.length kV.2;simp only[List.length_map,List.length_take]at this;omega
 refine gc ?_;refine b9 (fun p8=>?_) (fun kU=>?_)
 .refine gy ?_;obtain⟨y9,jA⟩:∃y,l[j]?=some y:=⟨_,List.getElem?_eq_getElem ol⟩;have wm:=hg.each y9 (List.mem_of_getElem? jA);have LB:=ca y9 (List.mem_of_getElem? jA);refine gy ?_;refine ae (.agg #[iw 0,iw 0,iw 0,nS,nS]) #[iw 0,iw 0,iw 0,nS,nS] (fun g12=>?_);refine gy ?_;refine a6 (fun _ h=>k6 (Acc.kn (.zn wm.1) h) ol) ?_;rintro CO _ rfl;refine sF 0 (fun KN=>?_);refine gy ?_;refine a6 (fun _ h=>PY (L:=y9.ents) (Acc.kn (.zn wm.2) h) ol) ?_;rintro m0 _ rfl;refine sF 0 (fun mJ=>?_);refine sL (ai (pB g12 4))<|ar (u:=m0) (m:=1) 2 #[iw y9.id,iw y9.size,iw y9.weak,CO,m0] ?_ (hm:=by (obtain⟨_,_,e0⟩:=mJ;rw[e0];rfl)) (h1:=by (obtain⟨_,_,e0⟩:=mJ;rw[e0];rfl)) (ha':=by (obtain⟨_,_,e0⟩:=mJ;rw[e0];rfl))
  refine a8<|ax<|bd<|sL (ai (pB g5 0))<|sL (aJ 5 ox) ?_
  obtain⟨P0,P1,e⟩:=KN;subst e;obtain⟨P2,P3,e⟩:=mJ;subst e;refine go ?_;refine ah (e:=100) [(0,.agg #[iw y9.id,iw y9.size,iw y9.weak,(.slice P0 y9.refs.length P1),(.slice P2 y9.ents.length P3)])] #[iw y9.id,iw y9.size,iw y9.weak,(.slice P0 y9.refs.length P1),(.slice P2 y9.ents.length P3)] (fun g21=>?_) (hb:=by kernel_rfl);refine aq (L:=N) 4 bt Tryz.underlying55 (.lit 0 bt [(⟨y9.id,y9.size,y9.weak,⟨P0,y9.refs.length,P1⟩,⟨P2,y9.ents.length,P3⟩,y9.refs,y9.ents⟩:Ob)]) (by show _*72≤_;(try simp only[cD]);omega) ol (fun v22=>?_);skip;refine gy ?_;refine ab (fun _ h=>lU (⟨y9.id,y9.size,y9.weak,⟨P0,y9.refs.length,P1⟩,⟨P2,y9.ents.length,P3⟩,y9.refs,y9.ents⟩:Ob) (rB h)) ?_;exact xr (v22,N++[(⟨y9.id,y9.size,y9.weak,⟨P0,y9.refs.length,P1⟩,⟨P2,y9.ents.length,P3⟩,y9.refs,y9.ents⟩:Ob)],j+1) (by obtain⟨qY,eW⟩:=kV;exact⟨by omega,nt jA eW rfl⟩)
 refine go ?_;refine sF 0 (fun mK=>?_);refine ar (u:=.agg #[ox,v3]) (m:=2) 4 #[ox,v3] ?_ (hm:=by (obtain⟨_,_,e0⟩:=mK;obtain⟨_,_,e1⟩:=nM;rw[e0,e1];rfl)) (h1:=by (obtain⟨_,_,e0⟩:=mK;obtain⟨_,_,e1⟩:=nM;rw[e0,e1];rfl)) (ha':=by (obtain⟨_,_,e0⟩:=mK;obtain⟨_,_,e1⟩:=nM;rw[e0,e1];rfl));refine go ?_;obtain⟨qY,eW⟩:=kV;obtain rfl:j=l.length:=by omega
 rw[List.take_length]at eW;refine gz ?_;exact fg ⟨_,_,N,rfl,eW,rfl⟩ (fun _ h=>qQ (rB h))
theorem Ue(hg:oO Z ov rv l R)(hl:l.length≤100000)(hp:kC l []≤100000000)(CS:reg.length≤90000)(Iq:pend.length≤90000):SF Tryz.prog 115 #[pB cb 0,iw 0] Z (aa cb #[ov,rv,pB qb 0,.slice none 0 0] 161::qA qb reg pend::F) fun r Bs=>r=.tuple #[]∧∃av,Bs=aa cb #[ov,rv,pB qb 0,av] 161::qA qb (b' (aM l R) reg) (pend++fU (aM l R) reg)::own an av (aM l R)::F:=by
 refine bO Tryz.func115 136 (fun w0=>?_);refine gy ?_;refine a6 (fun _ h=>IA (hg.up h) hl hp) ?_;rintro _ _ ⟨v1,rfl,rfl⟩;rw[Eu];skip;refine gy ?_;refine nO 0 [1] (fun _ hz=>Zl (A:=(aM l R)) (reg:=reg) (pend:=pend) hz.own ol ol) ?_;rintro v3 _ rfl;skip;refine gz ?_;exact fg ⟨rfl,v1,rfl⟩
theorem Uf(hg:oO Z ov rv l R)(hl:l.length≤100000)(ca:∀o∈l,o.refs.length≤400∧o.ents.length≤100000):SF Tryz.prog 115 #[pB cb 0,iw 1] Z (aa cb #[ov,rv,pB qb 0,av] 161::own an av A::F) fun r Bs=>r=.tuple #[]∧∃rb l',l'.map Ob.c=l.map (sq A)∧Bs=aa cb #[rb,rv,pB qb 0,av] 161::own an av A::iD Z (eP rb rv l' R)::F:=by
 refine bO Tryz.func115 136 (fun w0=>?_);refine gy ?_;refine a6 (fun _ h=>IE (L:=A) (Acc.kn (.own 1) h)) ?_;rintro _ _ ⟨mp1,rfl,rfl⟩;refine sL (ai (.map (some mp1)))<|a8<|ax<|aE<|bd<|sL (ai nS)<|a8<|ax<|aE<|aE<|bd<|sL (ai (pB cb 0))<|sL (ai (pB cb 0))<|sL (ai (pB cb 0))<|sL (ai (pB cb 0))<|sL (aJ 1 ov)<|sL (bL bt Tryz.underlying55 (.zn hg.obs))<|sL (ai (iw 0)) ?_
 refine go ?_;refine aK (fun _ h=>Holds.nilS (T:=dT) (EB h)) ?_;refine aD (ι:=Value×List Ob×Nat) (fun (ox,N,j)=>j≤l.length∧N.map Ob.c=(l.take j).map (sq A)) (fun (ox,N,j)=>[(0,pB cb 0),(4,.map (some mp1)),(5,ox),(49,ov),(50,iw (l.length:Int)),(51,iw (j:Int))]) (fun (ox,N,j)=>own dT ox N::iD Z (dD N)::dr (Go.Mem.intK 3) bV mp1 (jj A)::aa cb #[ov,rv,pB qb 0,av] 161::own an av A::F) (fun (ox,N,j)=>l.length-j) (nS,[],0) ⟨Nat.zero_le _,rfl⟩ sA rA ?_;rintro⟨ox,N,j⟩ cg;replace cg:j≤l.length∧N.map Ob.c=(l.take j).map (sq A):=cg;show SK _ _ _ _ _ [(0,pB cb 0),(4,.map (some mp1)),(5,ox),(49,ov),(50,iw (l.length:Int)),(51,iw (j:Int))] _ (own dT ox N::iD Z (dD N)::dr (Go.Mem.intK 3) bV mp1 (jj A)::aa cb #[ov,rv,pB qb 0,av] 161::own an av A::F);have Bd:N.length=j:=by have:=congrArg List.length cg.2;simp only[List.length_map,List.length_take]at this;omega
 refine gc ?_;refine b9 (fun p4=>?_) (fun iU=>?_)
 .refine go ?_;refine sL (aF bt Tryz.underlying55 (.zn hg.obs) (j:Int) j om ol om) ?_;obtain⟨y5,kJ⟩:∃y,l[j]?=some y:=⟨_,List.getElem?_eq_getElem ol⟩;have YV:=hg.each y5 (List.mem_of_getElem? kJ);refine sL (bC bt (.zn hg.obs) kJ) ?_;refine ae (.agg #[iw 0,iw 0,iw 0,nS,nS]) #[iw 0,iw 0,iw 0,nS,nS] (fun g8=>?_);refine gy ?_;refine aH [3] (KZ (A:=A) YV (ca y5 (List.mem_of_getElem? kJ))) ?_;rintro _ _ ⟨x9,rfl,agX,rfl⟩;refine ah (e:=100) [(0,.agg #[iw x9.id,iw x9.size,iw x9.weak,x9.rv.v,x9.ev.v])] #[iw x9.id,iw x9.size,iw x9.weak,x9.rv.v,x9.ev.v] (fun g11=>?_) (hb:=by kernel_rfl);refine aq (L:=N) 4 bt Tryz.underlying55 (.lit 0 bt [x9]) (by show _*72≤_;(try simp only[cD]);omega) ol (fun v12=>?_);skip;refine gy ?_;refine ab (fun _ h=>vd x9 (rB h)) ?_;exact xr (v12,N++[x9],j+1) (by obtain⟨qY,eW⟩:=cg;exact⟨by omega,nt kJ eW agX⟩)
 refine cW<|cM<|cM<|gL<|ax<|bd<|sL (ai (pB cb 0))<|sL (ai ox)<|sL (ai (pB cb 0))<|sL (ai (pB cb 0))<|sL (ai (pB cb 0))<|sF 0 (fun fp=>?_)
 refine ar (u:=ox) (m:=1) 3 #[ox,rv,pB qb 0,av] ?_ (hm:=by (obtain⟨_,_,e0⟩:=fp;rw[e0];rfl)) (h1:=by (obtain⟨_,_,e0⟩:=fp;rw[e0];rfl)) (ha':=by (obtain⟨_,_,e0⟩:=fp;rw[e0];rfl));refine go ?_;obtain⟨qY,eW⟩:=cg;obtain rfl:j=l.length:=by omega
 rw[List.take_length]at eW;refine gz ?_;exact fg ⟨rfl,_,N,eW,rfl⟩ (fun _ h=>(PX hg.roots (h.re [0,0,1,1] [4])).re [1,1] [])
theorem Ug(hl:l.length≤100000)(hp:kC l []≤100000000)(hr:R.length≤100000)(Iq:pend.length≤200000):SF Tryz.prog 115 #[pB cb 0,iw 2] Z (aa cb #[ov,rv,pB qb 0,av] 161::own an av A::iD Z (eP ov rv l R)::qA qb reg pend::F) fun r Bs=>r=.tuple #[]∧∃av,Bs=aa cb #[ov,rv,pB qb 0,av] 161::own an av (aM l (R++pend))::iD Z (eP ov rv l R)::qA qb reg pend::F:=by
 refine bO Tryz.func115 136 (fun w0=>?_);refine go ?_;refine go ?_;refine sL (aT (c:=false)) ?_;refine go ?_;refine go ?_;refine sL (aT (c:=false)) ?_;refine go ?_;refine go ?_;refine sL (aT (c:=true)) ?_;refine go ?_;refine ae (.agg #[nS,nS]) #[nS,nS] (fun g1=>?_);refine bl (fun H h=>((show Acc _ _ dT _ _ from (Wn 3)) H h).form) (fun Hu=>?_);refine bl (fun H h=>((show Acc _ _ an _ _ from (vQ 3)) H h).form) (fun Ro=>?_);refine ar (u:=.agg #[ov,rv]) (m:=2) 0 #[ov,rv] ?_ (hm:=by (obtain⟨_,_,e0⟩:=Hu;obtain⟨_,_,e1⟩:=Ro;rw[e0,e1];rfl)) (h1:=by (obtain⟨_,_,e0⟩:=Hu;obtain⟨_,_,e1⟩:=Ro;rw[e0,e1];rfl)) (ha':=by (obtain⟨_,_,e0⟩:=Hu;obtain⟨_,_,e1⟩:=Ro;rw[e0,e1];rfl));refine go ?_;refine br [aa cb #[ov,rv,pB qb 0,av] 161,own an av A] ?_;refine bR 0 rfl (aj (aL ao)) [1,1] (fun _=>(ai (pB g1 1))) ?_;refine bR 3 rfl (aj (aL ao)) [1,1] (fun _=>(ai (pB cb 0))) ?_;refine bR 4 rfl (aj (aL ao)) [1,1] (fun _=>(ai (pB cb 0))) ?_;refine bR 5 rfl (aj (aL ao)) [1,1] (fun _=>(ai (pB cb 2))) ?_;refine bR 6 rfl (aj (aL ao)) [1,1] (fun _=>(aJ 0 (pB qb 0))) ?_;refine ag 1 ?_;refine sL (aJ 0 rv)<|nH [1,1]<|ag 2 ?_
 refine a6 (fun _ h=>k6 (Acc.kn (vQ 3) h) ol) ?_;rintro v4 _ rfl;skip;refine nH [2,2]<|ag 7 ?_
 refine aH [5] (uX (pend:=pend) ol) ?_;rintro v6 _ rfl;skip;refine nH [4,4]<|ag 8 ?_
 refine aq (L:=R) 2 ak Tryz.underlying23 (.own 0) (by show _*8≤_;(try simp only[cD]);omega) ol (fun v8=>?_);refine sF 2 (fun mw=>?_);refine nH [4,4]<|bR 9 rfl (aj (aL ao)) [4,4] (fun _=>(ai (pB g1 1))) ?_
 refine ag 10 ?_;refine ar (u:=v8) (m:=1) 3 #[ov,v8] ?_ (hm:=by (obtain⟨_,_,e0⟩:=mw;rw[e0];rfl)) (h1:=by (obtain⟨_,_,e0⟩:=mw;rw[e0];rfl)) (ha':=by (obtain⟨_,_,e0⟩:=mw;rw[e0];rfl));refine nH [4,4]<|aI ?_
 refine go ?_;refine a6 (fun _ h=>IA (II (h.zfrF 6) (h.knS 2)) hl hp) ?_;rintro _ _ ⟨v10,rfl,rfl⟩;rw[Eu];refine sF 0 (fun DA=>?_);refine go ?_;refine ar (u:=v10) (m:=1) 5 #[ov,rv,pB qb 0,v10] ?_ (hm:=by (obtain⟨_,_,e0⟩:=DA;rw[e0];rfl)) (h1:=by (obtain⟨_,_,e0⟩:=DA;rw[e0];rfl)) (ha':=by (obtain⟨_,_,e0⟩:=DA;rw[e0];rfl));refine gz ?_;exact fg ⟨rfl,v10,rfl⟩
theorem Uh{B:List Int}(hl:l.length≤100000)(hr:R.length≤100000)(ca:∀o∈l,o.refs.length≤400∧o.ents.length≤100000)(hlB:B.length≤100000)(HB:(chk 0 l&&gD 0 B)=true):SF Tryz.prog 115 #[pB cb 0,iw 3] Z (aa cb #[ov,rv,pB qb 0,av] 161::own an av B::iD Z (eP ov rv l R)::F) fun r Bs=>r=.tuple #[]∧∃rb l',l'.map Ob.c=jP B (l.map (GW B))∧Bs=aa cb #[rb,rv,pB qb 0,av] 161::own an av B::iD Z (eP rb rv l' R)::F:=by
 refine bO Tryz.func115 136 (fun w0=>?_);refine aE<|bd<|sL (ai (iw 3)) ?_
 refine go ?_;refine sL (aT (c:=false))<|sL (ai (.bool false)) ?_
 refine go ?_;refine sL (aT (c:=false))<|sL (ai (.bool false)) ?_
 refine go ?_;refine sL (aT (c:=false))<|sL (ai (.bool false)) ?_
 refine go ?_;refine sL (aT (c:=true))<|sL (ai (.bool true)) ?_
 refine go ?_;refine br [aa cb #[ov,rv,pB qb 0,av] 161,own an av B] ?_;refine bR 0 rfl (aj (aL ao)) [0,0] (fun _=>(ai (pB cb 0))) ?_;refine bR 1 rfl (aj (aL ao)) [0,0] (fun _=>(ai (pB cb 0))) ?_;refine bR 2 rfl (aj (aL ao)) [0,0] (fun _=>(ai (pB cb 0))) ?_;refine bR 3 rfl (aj (aL ao)) [0,0] (fun _=>(dE 0 #[ov,rv])) ?_;refine bR 4 rfl (aj (aL ao)) [0,0] (fun _=>(ai (pB cb 0))) ?_;refine bR 5 rfl (aj (aL ao)) [0,0] (fun _=>(ai (pB cb 0))) ?_;refine bR 6 rfl (aj (aL ao)) [0,0] (fun _=>(ai (pB cb 3))) ?_;refine bR 7 rfl (aj (aL ao)) [0,0] (fun _=>(aJ 0 av)) ?_;refine aN 8 12 ?_ ?_
 .refine a6 (fun _ h=>IB (eP.kn (h.zfrF 2)) (Acc.kn (.own 1) h) hlB hl hr ca) ?_;rintro _ _ ⟨LQ,P4,l3,R4,rfl,hl5,hR6,rfl⟩;refine nH [1,1]<|bR 9 rfl (aj (aL ao)) [1,1] (fun _=>(ai (.tuple #[.agg #[LQ,P4],iw (fa (chk 0 l&&gD 0 B))]))) ?_
  refine bR 10 rfl (aj (aL ao)) [1,1] (fun _=>(ai (.agg #[LQ,P4]))) ?_;refine bR 11 rfl (aj (aL ao)) [1,1] (fun _=>(ai (iw (fa (chk 0 l&&gD 0 B))))) ?_;refine ag 12 ?_;refine ae (.agg #[nS,nS]) #[nS,nS] (fun g7=>?_);refine nH [2,2]<|ag 13 ?_
  refine bl (fun H h=>((show Acc _ _ dT _ _ from (j8 1)) H h).form) (fun wB=>?_);refine bl (fun H h=>((show Acc _ _ an _ _ from (Cc 1)) H h).form) (fun mw=>?_);refine ar (u:=.agg #[LQ,P4]) (m:=2) 0 #[LQ,P4] ?_ (hm:=by (obtain⟨_,_,e0⟩:=wB;obtain⟨_,_,e1⟩:=mw;rw[e0,e1];rfl)) (h1:=by (obtain⟨_,_,e0⟩:=wB;obtain⟨_,_,e1⟩:=mw;rw[e0,e1];rfl)) (ha':=by (obtain⟨_,_,e0⟩:=wB;obtain⟨_,_,e1⟩:=mw;rw[e0,e1];rfl));refine nH [2,2]<|bR 14 rfl (aj (aL ao)) [2,2] (fun _=>(ai (iw (fa (chk 0 l&&gD 0 B))))) ?_
  refine aI ?_;refine gy ?_;refine a6 (fun _ h=>IE (L:=B) (Acc.kn (.own 3) h)) ?_;rintro _ _ ⟨P5,rfl,rfl⟩;refine sL (ai (.map (some P5)))<|a8<|ax<|aE<|bd<|sL (ai nS)<|a8<|ax<|aE<|aE<|bd<|sL (ai (pB g7 0))<|sL (aJ 1 LQ)<|sL (bL bt Tryz.underlying55 (j8 2))<|sL (ai (iw 0)) ?_
  refine go ?_;rw[HB,if_pos rfl]at hl5 hR6;have hlen:=sd hl5;refine aK (fun _ h=>Holds.nilS (T:=dT) h) ?_;refine aD (ι:=Value×List Ob×Nat) (fun (ox,N,i)=>i≤l3.length∧N.map Ob.c=jP B ((l3.take i).map Ob.c)∧(∀x∈N,x∈l3)∧N.length≤i) (fun (ox,N,i)=>[(0,pB cb 0),(11,.map (some P5)),(12,ox),(111,LQ),(112,iw (l3.length:Int)),(113,iw (i:Int))]) (fun (ox,N,i)=>own dT ox N::dr (Go.Mem.intK 3) bV P5 (jj B)::aa g7 #[LQ,P4] 57::frz (eP LQ P4 l3 R4)::aa cb #[ov,rv,pB qb 0,av] 161::own an av B::iD Z (eP ov rv l R)::F) (fun (ox,N,i)=>l3.length-i) (nS,[],0) ⟨Nat.zero_le _,rfl,by simp,Nat.le_refl _⟩ sA rA ?_;rintro⟨ox,N,i⟩ ta;replace ta:i≤l3.length∧N.map Ob.c=jP B ((l3.take i).map Ob.c)∧(∀x∈N,x∈l3)∧N.length≤i:=ta;show SK _ _ _ _ _ [(0,pB cb 0),(11,.map (some P5)),(12,ox),(111,LQ),(112,iw (l3.length:Int)),(113,iw (i:Int))] _ (own dT ox N::dr (Go.Mem.intK 3) bV P5 (jj B)::aa g7 #[LQ,P4] 57::frz (eP LQ P4 l3 R4)::aa cb #[ov,rv,pB qb 0,av] 161::own an av B::iD Z (eP ov rv l R)::F);have Bd:=ta.2.2.2;refine gc ?_;refine b9 (fun fL=>?_) (fun zA=>?_)
  .refine go ?_;refine sL (aF bt Tryz.underlying55 (j8 3) (i:Int) i om ol om) ?_;obtain⟨aP,ji⟩:∃y,l3[i]?=some y:=⟨_,List.getElem?_eq_getElem ol⟩;refine sL (bC bt (j8 3) ji) ?_;refine ae (.agg #[iw 0,iw 0,iw 0,nS,nS]) #[iw 0,iw 0,iw 0,nS,nS] (fun g16=>?_);refine gl ?_ (t:=Lt.to (v':=.bool (decide (aP.id∈B))) (cn 2 dx Tryz.underlying95 (.bool false) aP.id) (qR _ _));refine b9 (fun jW=>?_) (fun nQ=>?_)
   .refine gy ?_;refine ah (e:=100) [(0,.agg #[iw aP.id,iw aP.size,iw aP.weak,aP.rv.v,aP.ev.v])] #[iw aP.id,iw aP.size,iw aP.weak,aP.rv.v,aP.ev.v] (fun g19=>?_) (hb:=by kernel_rfl);refine aq (L:=N) 2 bt Tryz.underlying55 (.lit 0 bt [aP]) (by show _*72≤_;(try simp only[cD]);omega) ol (fun v20=>?_);skip;refine gy ?_;exact xr (v20,N++[aP],i+1) (by obtain⟨qY,eW,Cf,D3⟩:=ta;exact⟨by omega,yR ji jW eW,fun x hx=>by rcases List.mem_append.1 hx with hx|hx;exact Cf x hx;simp at hx;subst hx;exact List.mem_of_getElem? ji,by rw[List.length_append];simp only[List.length_singleton];omega⟩)
   refine gy ?_;exact xr (ox,N,i+1) (by obtain⟨qY,eW,Cf,D3⟩:=ta;exact⟨by omega,Cd ji nQ eW,Cf,by omega⟩)
  refine gy ?_;refine sF 0 (fun K0=>?_);refine bl (fun H h=>((show Acc _ _ an _ _ from (vQ 6)) H h).form) (fun mK=>?_);refine sL (show Lt _ _ _ _ _ (.agg #[ox,rv]) from by obtain⟨_,_,e⟩:=K0;rw[e];clear e;obtain⟨_,_,e⟩:=mK;rw[e];clear e;exact ay _) ?_;refine sL (ai (pB cb 0))<|sL (ai (pB cb 0))<|ar (u:=.agg #[ox,rv]) (m:=2) 4 #[ox,rv,pB qb 0,av] ?_ (hm:=by (obtain⟨_,_,e0⟩:=K0;obtain⟨_,_,e1⟩:=mK;rw[e0,e1];rfl)) (h1:=by (obtain⟨_,_,e0⟩:=K0;obtain⟨_,_,e1⟩:=mK;rw[e0,e1];rfl)) (ha':=by (obtain⟨_,_,e0⟩:=K0;obtain⟨_,_,e1⟩:=mK;rw[e0,e1];rfl))
  refine go ?_;obtain⟨qY,eW,Cf,D3⟩:=ta;obtain rfl:i=l3.length:=by omega
  rw[List.take_length,hl5]at eW;refine gz ?_;exact fg ⟨rfl,_,N,eW,rfl⟩ (fun _ h=>(IH Cf (h.re [0,2,4,2,2] [5,5])).re [1,1] [])
 refine ae (.agg #[nS,nS]) #[nS,nS] (fun wK=>?_);refine nH [1,1]<|ag 8 ?_
 refine a6 (fun _ h=>IB (eP.kn (h.zfrF 3)) (Acc.kn (.own 2) h) hlB hl hr ca) ?_;rintro _ _ ⟨yS,sg,K1,R30,rfl,Zm,agY,rfl⟩;refine nH [2,2]<|bR 9 rfl (aj (aL ao)) [2,2] (fun _=>(ai (.tuple #[.agg #[yS,sg],iw (fa (chk 0 l&&gD 0 B))]))) ?_
 refine bR 10 rfl (aj (aL ao)) [2,2] (fun _=>(ai (.agg #[yS,sg]))) ?_;refine bR 11 rfl (aj (aL ao)) [2,2] (fun _=>(ai (iw (fa (chk 0 l&&gD 0 B))))) ?_;refine ag 13 ?_;refine bl (fun H h=>((show Acc _ _ dT _ _ from (j8 0)) H h).form) (fun OM=>?_);refine bl (fun H h=>((show Acc _ _ an _ _ from (Cc 0)) H h).form) (fun rh=>?_);refine ar (u:=.agg #[yS,sg]) (m:=2) 1 #[yS,sg] ?_ (hm:=by (obtain⟨_,_,e0⟩:=OM;obtain⟨_,_,e1⟩:=rh;rw[e0,e1];rfl)) (h1:=by (obtain⟨_,_,e0⟩:=OM;obtain⟨_,_,e1⟩:=rh;rw[e0,e1];rfl)) (ha':=by (obtain⟨_,_,e0⟩:=OM;obtain⟨_,_,e1⟩:=rh;rw[e0,e1];rfl));refine nH [2,2]<|bR 14 rfl (aj (aL ao)) [2,2] (fun _=>(ai (iw (fa (chk 0 l&&gD 0 B))))) ?_
 refine aI ?_;refine gy ?_;refine a6 (fun _ h=>IE (L:=B) (Acc.kn (.own 3) h)) ?_;rintro _ _ ⟨P6,rfl,rfl⟩;refine sL (ai (.map (some P6)))<|a8<|ax<|aE<|bd<|sL (ai nS)<|a8<|ax<|aE<|aE<|bd<|sL (ai (pB wK 0))<|sL (aJ 2 yS)<|sL (bL bt Tryz.underlying55 (j8 1))<|sL (ai (iw 0)) ?_
 refine go ?_;rw[HB,if_pos rfl]at Zm agY;have hlen:=sd Zm;refine aK (fun _ h=>Holds.nilS (T:=dT) h) ?_;refine aD (ι:=Value×List Ob×Nat) (fun (ox,N,i)=>i≤K1.length∧N.map Ob.c=jP B ((K1.take i).map Ob.c)∧(∀x∈N,x∈K1)∧N.length≤i) (fun (ox,N,i)=>[(0,pB cb 0),(11,.map (some P6)),(12,ox),(111,yS),(112,iw (K1.length:Int)),(113,iw (i:Int))]) (fun (ox,N,i)=>own dT ox N::dr (Go.Mem.intK 3) bV P6 (jj B)::frz (eP yS sg K1 R30)::aa wK #[yS,sg] 57::aa cb #[ov,rv,pB qb 0,av] 161::own an av B::iD Z (eP ov rv l R)::F) (fun (ox,N,i)=>K1.length-i) (nS,[],0) ⟨Nat.zero_le _,rfl,by simp,Nat.le_refl _⟩ sA rA ?_;rintro⟨ox,N,i⟩ yT;replace yT:i≤K1.length∧N.map Ob.c=jP B ((K1.take i).map Ob.c)∧(∀x∈N,x∈K1)∧N.length≤i:=yT;show SK _ _ _ _ _ [(0,pB cb 0),(11,.map (some P6)),(12,ox),(111,yS),(112,iw (K1.length:Int)),(113,iw (i:Int))] _ (own dT ox N::dr (Go.Mem.intK 3) bV P6 (jj B)::frz (eP yS sg K1 R30)::aa wK #[yS,sg] 57::aa cb #[ov,rv,pB qb 0,av] 161::own an av B::iD Z (eP ov rv l R)::F);have Bd:=yT.2.2.2;refine gc ?_;refine b9 (fun mD=>?_) (fun CK=>?_)
 .refine go ?_;refine sL (aF bt Tryz.underlying55 (j8 2) (i:Int) i om ol om) ?_;obtain⟨Be,EC⟩:∃y,K1[i]?=some y:=⟨_,List.getElem?_eq_getElem ol⟩;refine sL (bC bt (j8 2) EC) ?_;refine ae (.agg #[iw 0,iw 0,iw 0,nS,nS]) #[iw 0,iw 0,iw 0,nS,nS] (fun wL=>?_);refine gl ?_ (t:=Lt.to (v':=.bool (decide (Be.id∈B))) (cn 2 dx Tryz.underlying95 (.bool false) Be.id) (qR _ _));refine b9 (fun NQ=>?_) (fun Sy=>?_)
  .refine gy ?_;refine ah (e:=100) [(0,.agg #[iw Be.id,iw Be.size,iw Be.weak,Be.rv.v,Be.ev.v])] #[iw Be.id,iw Be.size,iw Be.weak,Be.rv.v,Be.ev.v] (fun Ui=>?_) (hb:=by kernel_rfl);refine aq (L:=N) 2 bt Tryz.underlying55 (.lit 0 bt [Be]) (by show _*72≤_;(try simp only[cD]);omega) ol (fun v45=>?_);skip;refine gy ?_;exact xr (v45,N++[Be],i+1) (by obtain⟨qY,eW,Cf,D3⟩:=yT;exact⟨by omega,yR EC NQ eW,fun x hx=>by rcases List.mem_append.1 hx with hx|hx;exact Cf x hx;simp at hx;subst hx;exact List.mem_of_getElem? EC,by rw[List.length_append];simp only[List.length_singleton];omega⟩)
  refine gy ?_;exact xr (ox,N,i+1) (by obtain⟨qY,eW,Cf,D3⟩:=yT;exact⟨by omega,Cd EC Sy eW,Cf,by omega⟩)
 refine gy ?_;refine sF 0 (fun JQ=>?_);refine bl (fun H h=>((show Acc _ _ an _ _ from (vQ 6)) H h).form) (fun we=>?_);refine sL (show Lt _ _ _ _ _ (.agg #[ox,rv]) from by obtain⟨_,_,e⟩:=JQ;rw[e];clear e;obtain⟨_,_,e⟩:=we;rw[e];clear e;exact ay _) ?_;refine sL (ai (pB cb 0))<|sL (ai (pB cb 0))<|ar (u:=.agg #[ox,rv]) (m:=2) 4 #[ox,rv,pB qb 0,av] ?_ (hm:=by (obtain⟨_,_,e0⟩:=JQ;obtain⟨_,_,e1⟩:=we;rw[e0,e1];rfl)) (h1:=by (obtain⟨_,_,e0⟩:=JQ;obtain⟨_,_,e1⟩:=we;rw[e0,e1];rfl)) (ha':=by (obtain⟨_,_,e0⟩:=JQ;obtain⟨_,_,e1⟩:=we;rw[e0,e1];rfl))
 refine go ?_;obtain⟨qY,eW,Cf,D3⟩:=yT;obtain rfl:i=K1.length:=by omega
 rw[List.take_length,Zm]at eW;refine gz ?_;exact fg ⟨rfl,_,N,eW,rfl⟩ (fun _ h=>(IH Cf (h.re [0,1,4,2,2] [5,5])).re [1,1] [])
end
end Go.Proofs.YtmhpcebiamkciaaGreat
section
namespace Go.S
open Go.Hp Go.J
def orI(k:IntKind)(a b:Int):Int:=k.wrap ((BitVec.ofInt k.bits a ||| BitVec.ofInt k.bits b).toNat:Int)
section
variable{P:Program}{E:Env}{Z:bK}{As:List aW}{o:Oper}
theorem Zn{t u:TypeId}{x y:Operand}{k:IntKind}(a b:Int)(ho:o.op=.binOp .or t x y u:=by rfl)(hx:ev E x=.int k a:=by rfl)(hy:ev E y=.int k b:=by rfl):Lt P E o Z As (.int k (orI k a b)):=
 fun _ _=>pd _ (kZ ho _ _ hx hy nI fun w=>by simp[binOp,Op.intBits,orI,Sem.run_pure])
end
end Go.S
end
namespace Go.Proofs.YtmhpcebiamkciaaGreat
open Go.Hp Go.J Go.S
open Go.Mem (fS Ty eB bN dg cL cm db dO blk blk_pre fM elemAt pre rF suf)
section
variable{l l' l1:List Ob}{R reg pend B R':List Int}{x y:Ob}{z:Int}{i:Nat}
theorem sh{r:List Ob}(h:(x::r).map Ob.c=l'.map Ob.c):∃y r',l'=y::r'∧x.c=y.c∧r.map Ob.c=r'.map Ob.c:=by
 cases l' with
 | nil=>cases h
 | cons y r'=>exact⟨y,r',rfl,(List.cons.inj h).1,(List.cons.inj h).2⟩
section
variable{x y:Ob}
theorem P7(h:x.c=y.c):x.id=y.id:=congrArg (fun q:Core=>q.1) h
theorem G5(h:x.c=y.c):x.size=y.size:=congrArg (fun q:Core=>q.2.1) h
theorem yU(h:x.c=y.c):x.weak=y.weak:=congrArg (fun q:Core=>q.2.2.1) h
theorem G6(h:x.c=y.c):x.refs=y.refs:=congrArg (fun q:Core=>q.2.2.2.1) h
theorem Cg(h:x.c=y.c):x.ents=y.ents:=congrArg (fun q:Core=>q.2.2.2.2) h
theorem Zo(h:x.c=y.c):gB x=gB y:=by unfold gB;rw[G6 h,Cg h,yU h]
theorem adb(A:List Int)(h:x.c=y.c):GW A x=GW A y:=by unfold GW;rw[P7 h,G5 h,yU h,G6 h,Cg h]
theorem ade(A:List Int)(h:x.c=y.c):sq A x=sq A y:=by unfold sq u';rw[P7 h,G5 h,yU h,G6 h,Cg h]
end
theorem tT{β:Type}{f:Ob→β}(hf:∀x y:Ob,x.c=y.c→f x=f y):∀{l l':List Ob},l.map Ob.c=l'.map Ob.c→l.map f=l'.map f
 | [],l',h=>by rw[List.map_eq_nil_iff.1 h.symm]
 | x::r,l',h=>by
  obtain⟨y,r',rfl,h1,h2⟩:=sh h;rw[List.map_cons,List.map_cons,hf x y h1,tT hf h2]
theorem Wo:∀{l l':List Ob}{last:Int},l.map Ob.c=l'.map Ob.c→chk last l=chk last l'
 | [],l',last,h=>by rw[List.map_eq_nil_iff.1 h.symm]
 | x::r,l',last,h=>by
  obtain⟨y,r',rfl,h1,h2⟩:=sh h;simp only[chk];rw[P7 h1,G5 h1,yU h1,Wo h2]
theorem IJ{o:Ob}:∀{l l':List Ob},l.map Ob.c=l'.map Ob.c→fnd l z=some o→∃o',fnd l' z=some o'∧o'.c=o.c
 | [],l',h,hf=>by cases hf
 | x::r,l',h,hf=>by
  obtain⟨y,r',rfl,h1,h2⟩:=sh h;unfold fnd at hf⊢;rw[List.find?_cons]at hf⊢;rw[←P7 h1];by_cases hz:x.id=z
  .rw [decide_eq_true hz]at hf⊢;injection hf with hf;subst hf;exact⟨y,rfl,h1.symm⟩
  rw[decide_eq_false hz]at hf⊢;exact IJ h2 hf
theorem Zp(h:l.map Ob.c=l'.map Ob.c)(hi:Is l z):Is l' z:=by
 obtain⟨o,ho⟩:=Option.isSome_iff_exists.1 hi;obtain⟨o',h1,_⟩:=IJ h ho;rw[Is,h1];rfl
theorem ED{p:Int→Prop}(h:l.map Ob.c=l'.map Ob.c)(k:kQ l R p):kQ l' R p:=by
 refine⟨fun r hr hi=>k.roots r hr (Zp h.symm hi),fun x o hp hf z hz hi=>?_,fun x o hp hf hw e he hk hi=>?_⟩
 .obtain ⟨o',h1,h2⟩:=IJ h.symm hf;exact k.kept x o' hp h1 z (by rw[Zo h2];exact hz) (Zp h.symm hi)
 obtain⟨o',h1,h2⟩:=IJ h.symm hf;exact k.eph x o' hp h1 ((yU h2).trans hw) e (by rw[Cg h2];exact he) hk (Zp h.symm hi)
theorem yV(hc:chk 0 l=true)(x:Int):x∈aM l R↔x∈(ot l R).1:=by
 rw[ly hc];exact D6 (Ea l R).clo x
theorem Uj{A:List Int}(hA:A.Pairwise (· < ·))(hB:B.Pairwise (· < ·))(h:∀x,x∈A↔x∈B):A=B:=by
 have hp:A.Perm B:=(List.perm_ext_iff_of_nodup (hA.imp fun h=>by omega) (hB.imp fun h=>by omega)).2 h;rw[←wW hA,←wW hB];exact yw hp
theorem EE(hc:chk 0 l=chk 0 l')(h1:∀p,kQ l R p→kQ l' R' p)(h2:∀p,kQ l' R' p→kQ l R p):aM l R=aM l' R':=by
 cases hk:chk 0 l with
 | false=>rw[j7 hk,j7 (hc▸hk)]
 | true=>
  have Vy:chk 0 l'=true:=hc▸hk;refine Uj (Bc _ _) (Bc _ _) fun x=>?_
  rw[yV hk,yV Vy];exact⟨A1 (iH hk) (h2 _ (yB (iH Vy) R')) x,A1 (iH Vy) (h1 _ (yB (iH hk) R)) x⟩
theorem w5(R:List Int)(h:l.map Ob.c=l'.map Ob.c):aM l R=aM l' R:=EE (Wo h) (fun _=>ED h) (fun _=>ED h.symm)
theorem EF(h1:∀r∈R,Is l r→r∈R')(h2:∀r∈R',Is l r→r∈R):aM l R=aM l R':=
 EE rfl (fun p k=>⟨fun r hr hi=>k.roots r (h2 r hr hi) hi,k.kept,k.eph⟩) (fun p k=>⟨fun r hr hi=>k.roots r (h1 r hr hi) hi,k.kept,k.eph⟩)
/-! ### A cycle -/
def Zq(c:Core):Ob:=⟨c.1,c.2.1,c.2.2.1,⟨none,0,0⟩,⟨none,0,0⟩,c.2.2.2.1,c.2.2.2.2⟩
theorem EG(L:List Core):(L.map Zq).map Ob.c=L:=by rw[List.map_map];exact List.map_id'' (fun _=>rfl) L
section
variable(l:List Ob)(R reg pend:List Int)
def yW:List Ob:=(l.map (sq (aM l R))).map Zq
def il:List Int:=b' (aM l R) reg
def eD:List Int:=pend++fU (aM l R) reg
def cA:List Int:=aM (yW l R) (R++eD l R reg pend)
def lg:List Core:=jP (cA l R reg pend) ((yW l R).map (GW (cA l R reg pend)))
def fD:List Int:=(l.map Ob.id).filter fun x=>!decide (x∈cA l R reg pend)
end
section
variable{l l1:List Ob}{A:List Int}
theorem oA(h:l1.map Ob.c=l.map (sq A)):l1.length=l.length:=by have:=congrArg List.length h;simpa using this
theorem IK(h:l1.map Ob.c=l.map (sq A))(hx:x∈l1):∃y∈l,x.c=sq A y:=by
 have h1:x.c∈l1.map Ob.c:=List.mem_map.2 ⟨x,hx,rfl⟩;rw[h]at h1;obtain⟨y,hy,e⟩:=List.mem_map.1 h1;exact⟨y,hy,e.symm⟩
theorem qS(h:l1.map Ob.c=l.map (sq A))(hs:∀o∈l,o.refs.length≤400∧o.ents.length≤100000):∀o∈l1,o.refs.length≤400∧o.ents.length≤100000:=fun x hx=>by
 obtain⟨y,hy,e⟩:=IK h hx;have e1:x.refs=y.refs:=congrArg (fun q:Core=>q.2.2.2.1) e;have e2:x.ents=if u' A y=true then y.ents.filter (fC A) else y.ents:=congrArg (fun q:Core=>q.2.2.2.2) e;have:=hs y hy;rw[e1,e2];split
 .have:=List.length_filter_le (fC A) y.ents;omega
 exact this
theorem w6:∀{l l1:List Ob}{last:Int},l1.map Ob.c=l.map (sq A)→chk last l1=chk last l
 | [],l1,last,h=>by rw[List.map_eq_nil_iff.1 h]
 | x::r,l1,last,h=>by
  cases l1 with
  | nil=>cases h
  | cons y s=>
   have h1:=(List.cons.inj h).1;have e1:y.id=x.id:=congrArg (fun q:Core=>q.1) h1;have e2:y.size=x.size:=congrArg (fun q:Core=>q.2.1) h1;have e3:y.weak=x.weak:=congrArg (fun q:Core=>q.2.2.1) h1;simp only[chk];rw[e1,e2,e3,w6 (List.cons.inj h).2]
end
theorem oB(l:List Ob)(R:List Int):(yW l R).map Ob.c=l.map (sq (aM l R)):=EG _
theorem IL(h:l1.map Ob.c=l.map (sq (aM l R))):aM l1 (R++(pend++fU (aM l R) reg))=cA l R reg pend:=
 w5 _ (h.trans (oB l R).symm)
theorem IM(h:l1.map Ob.c=l.map (sq (aM l R))):jP (cA l R reg pend) (l1.map (GW (cA l R reg pend)))=lg l R reg pend:=by
 unfold lg;rw[tT (fun x y=>adb _) (h.trans (oB l R).symm)]
theorem EH(R reg pend:List Int)(hc:chk 0 l=true):gD 0 (cA l R reg pend)=true:=G0 ((w6 (oB l R)).trans hc) _
theorem yX(l:List Ob)(R reg pend:List Int):(cA l R reg pend).length≤l.length:=by
 have:=KV (yW l R) (R++eD l R reg pend);have h2:=oA (oB l R);unfold cA;omega
theorem tU(l:List Ob)(R reg pend:List Int):(pend++fU (aM l R) reg).length≤pend.length+reg.length:=by
 have:=Ce (aM l R) reg;rw[List.length_append];omega
theorem Uk(hy:l[i]?=some y)(h:y.id∉B):(((l.take i).map Ob.id).filter fun x=>!decide (x∈B))++[y.id]=((l.take (i+1)).map Ob.id).filter fun x=>!decide (x∈B):=by
 rw[List.take_add_one,hy];simp[List.filter_append,h]
theorem Zr(hy:l[i]?=some y)(h:y.id∈B):(((l.take i).map Ob.id).filter fun x=>!decide (x∈B))=((l.take (i+1)).map Ob.id).filter fun x=>!decide (x∈B):=by
 rw[List.take_add_one,hy];simp[List.filter_append,h]
theorem si{l2:List Ob}(h:l2.map Ob.c=lg l R reg pend)(hs:∀o∈l,o.refs.length≤400∧o.ents.length≤100000):l2.length≤l.length∧∀o∈l2,o.refs.length≤400∧o.ents.length≤100000:=by
 constructor
 .have h1:=congrArg List.length h;rw[List.length_map]at h1;have h2:(lg l R reg pend).length≤(yW l R).length:=by
   unfold lg jP;have:=List.length_filter_le (fun x:Core=>decide (x.1∈cA l R reg pend)) ((yW l R).map (GW (cA l R reg pend)));rwa [List.length_map]at this
  have h3:=oA (oB l R);omega
 intro x hx;have h1:x.c∈l2.map Ob.c:=List.mem_map.2 ⟨x,hx,rfl⟩;rw[h]at h1;obtain⟨y,hy,e⟩:=List.mem_map.1 (List.mem_filter.1 h1).1;have e1:y.refs=x.refs:=congrArg (fun q:Core=>q.2.2.2.1) e;have e2:y.ents.filter (bM (cA l R reg pend) y.weak)=x.ents:=congrArg (fun q:Core=>q.2.2.2.2) e;have:=qS (oB l R) hs y hy;rw[←e1,←e2];have:=List.length_filter_le (bM (cA l R reg pend) y.weak) y.ents;omega
theorem Ul{Z:bK}{ov rv:Value}(hg:oO Z ov rv l R){F:List aW}{qb:Nat}(qX:l.length≤200)(hl:l.length≤100000)(hp:kC l []≤100000000)(hr:R.length≤50000)(ca:∀o∈l,o.refs.length≤400∧o.ents.length≤100000)(CS:reg.length≤50000)(Iq:pend.length≤50000):SF Tryz.prog 53 #[.agg #[ov,rv],pB qb 0] Z (qA qb reg pend::F) fun r Bs=>∃rb rv' fv l' R',r=.tuple #[.agg #[rb,rv'],fv,iw (fa (chk 0 l))]∧l'.map Ob.c=(if chk 0 l=true then lg l R reg pend else [])∧R'=(if chk 0 l=true then R else [])∧Bs=qA qb (if chk 0 l=true then il l R reg else reg) (if chk 0 l=true then eD l R reg pend else pend)::frz (eP rb rv' l' R')::own an fv (if chk 0 l=true then fD l R reg pend else [])::F:=by
 refine bO Tryz.func53 63 (fun w0=>?_);refine gy ?_;refine bj #[ov,rv] (fun g1=>?_);refine ae (.agg #[nS,nS]) #[nS,nS] (fun g2=>?_);refine gy ?_;refine sV (fun _ h=>yI (hg.up h)) ?_;refine gy ?_;refine kdn (fun p4=>?_) (fun p5=>?_)
 .have hc:=kG p4;refine aE<|bd<|sL (ay (.agg #[nS,nS]))<|sL (ai (iw (fa (chk 0 l))))<|ar 0 #[nS,nS] ?_
  refine sL (ai nS)<|sL (ai (iw (fa (chk 0 l)))) ?_
  refine go ?_;have hc:=kG p4;exact ad [.agg #[nS,nS],nS,iw (fa (chk 0 l))] (qA qb reg pend::frz (eP nS nS [] [])::own an nS []::F) (SI.agg 4 57 0 (SI.tmp 5 (SI.tmp 6 SI.nil))) (fun _ h=>(Holds.nilS (T:=an) (sa h)).re [4,1,0] [3,3]) ⟨_,_,_,[],[],rfl,by rw[hc];rfl,by rw[hc];rfl,by rw[hc];rfl⟩
 have hc:=mh p5;have hs:=iH hc;refine go ?_;refine bl (fun H h=>((Acc.zn hg.obs) H h).form) (fun Tl=>?_);refine bl (fun H h=>((Acc.zn hg.roots) H h).form) (fun J7=>?_);refine sL (show Lt _ _ _ _ _ (.agg #[ov,rv,pB qb 0,nS]) from by obtain⟨_,_,e⟩:=Tl;rw[e];clear e;obtain⟨_,_,e⟩:=J7;rw[e];clear e;exact ay _)<|bj #[ov,rv,pB qb 0,nS] (fun g8=>?_)
 refine gy ?_;have hc:=mh p5;refine aD (ι:=List aW×Nat) (fun i=>(i.2=0∧i.1=aa g8 #[ov,rv,pB qb 0,nS] 161::qA qb reg pend::aa g2 #[nS,nS] 57::aa g1 #[ov,rv] 57::F)∨(i.2=1∧∃av,i.1=aa g8 #[ov,rv,pB qb 0,av] 161::qA qb (b' (aM l R) reg) (pend++fU (aM l R) reg)::own an av (aM l R)::aa g2 #[nS,nS] 57::aa g1 #[ov,rv] 57::F)∨(i.2=2∧∃av o1 l1,l1.map Ob.c=l.map (sq (aM l R))∧i.1=aa g8 #[o1,rv,pB qb 0,av] 161::qA qb (b' (aM l R) reg) (pend++fU (aM l R) reg)::own an av (aM l R)::iD Z (eP o1 rv l1 R)::aa g2 #[nS,nS] 57::aa g1 #[ov,rv] 57::F)∨(i.2=3∧∃av o1 l1,l1.map Ob.c=l.map (sq (aM l R))∧i.1=aa g8 #[o1,rv,pB qb 0,av] 161::qA qb (b' (aM l R) reg) (pend++fU (aM l R) reg)::own an av (cA l R reg pend)::iD Z (eP o1 rv l1 R)::aa g2 #[nS,nS] 57::aa g1 #[ov,rv] 57::F)∨(i.2=4∧∃av o2 l2,l2.map Ob.c=lg l R reg pend∧i.1=aa g8 #[o2,rv,pB qb 0,av] 161::qA qb (b' (aM l R) reg) (pend++fU (aM l R) reg)::own an av (cA l R reg pend)::iD Z (eP o2 rv l2 R)::aa g2 #[nS,nS] 57::aa g1 #[ov,rv] 57::F)) (fun i=>[(2,pB g1 0),(4,pB g2 0),(5,nS),(6,iw 0),(8,pB g8 0),(27,iw (i.2:Int))]) (fun i=>i.1) (fun i=>4-i.2) (aa g8 #[ov,rv,pB qb 0,nS] 161::qA qb reg pend::aa g2 #[nS,nS] 57::aa g1 #[ov,rv] 57::F,0) (.inl ⟨rfl,rfl⟩) sA rA ?_;rintro⟨As,n⟩ hi;replace hi:(n=0∧As=aa g8 #[ov,rv,pB qb 0,nS] 161::qA qb reg pend::aa g2 #[nS,nS] 57::aa g1 #[ov,rv] 57::F)∨(n=1∧∃av,As=aa g8 #[ov,rv,pB qb 0,av] 161::qA qb (b' (aM l R) reg) (pend++fU (aM l R) reg)::own an av (aM l R)::aa g2 #[nS,nS] 57::aa g1 #[ov,rv] 57::F)∨(n=2∧∃av o1 l1,l1.map Ob.c=l.map (sq (aM l R))∧As=aa g8 #[o1,rv,pB qb 0,av] 161::qA qb (b' (aM l R) reg) (pend++fU (aM l R) reg)::own an av (aM l R)::iD Z (eP o1 rv l1 R)::aa g2 #[nS,nS] 57::aa g1 #[ov,rv] 57::F)∨(n=3∧∃av o1 l1,l1.map Ob.c=l.map (sq (aM l R))∧As=aa g8 #[o1,rv,pB qb 0,av] 161::qA qb (b' (aM l R) reg) (pend++fU (aM l R) reg)::own an av (cA l R reg pend)::iD Z (eP o1 rv l1 R)::aa g2 #[nS,nS] 57::aa g1 #[ov,rv] 57::F)∨(n=4∧∃av o2 l2,l2.map Ob.c=lg l R reg pend∧As=aa g8 #[o2,rv,pB qb 0,av] 161::qA qb (b' (aM l R) reg) (pend++fU (aM l R) reg)::own an av (cA l R reg pend)::iD Z (eP o2 rv l2 R)::aa g2 #[nS,nS] 57::aa g1 #[ov,rv] 57::F):=hi;rcases hi with ⟨rfl,rfl⟩|⟨rfl,av,rfl⟩|⟨rfl,av,o1,l1,h1,rfl⟩|⟨rfl,av,o1,l1,h1,rfl⟩|⟨rfl,av,o2,l2,h2,rfl⟩
 .show SK _ _ _ _ _ [(2,pB g1 0),(4,pB g2 0),(5,nS),(6,iw 0),(8,pB g8 0),(27,iw 0)] _ (aa g8 #[ov,rv,pB qb 0,nS] 161::qA qb reg pend::aa g2 #[nS,nS] 57::aa g1 #[ov,rv] 57::F);refine gy ?_;refine aH [0,0] (Ue (reg:=reg) (pend:=pend) hg hl hp om om) ?_;rintro _ _ ⟨rfl,av9,rfl⟩;refine sF 2 (fun kK=>?_);refine gy ?_;exact xr (aa g8 #[ov,rv,pB qb 0,av9] 161::qA qb (b' (aM l R) reg) (pend++fU (aM l R) reg)::own an av9 (aM l R)::aa g2 #[nS,nS] 57::aa g1 #[ov,rv] 57::F,1) (.inr (.inl ⟨rfl,av9,rfl⟩))
 .show SK _ _ _ _ _ [(2,pB g1 0),(4,pB g2 0),(5,nS),(6,iw 0),(8,pB g8 0),(27,iw 1)] _ (aa g8 #[ov,rv,pB qb 0,av] 161::qA qb (b' (aM l R) reg) (pend++fU (aM l R) reg)::own an av (aM l R)::aa g2 #[nS,nS] 57::aa g1 #[ov,rv] 57::F);refine bk (fun H h=>(show Acc _ _ an av _ from Acc.own 2) H h |>.form) (fun hfa=>?_);refine gy ?_;refine aH [0,1] (Uf hg hl ca) ?_;rintro _ _ ⟨rfl,Zs,LS,zP,rfl⟩;refine gy ?_;exact xr (aa g8 #[Zs,rv,pB qb 0,av] 161::qA qb (b' (aM l R) reg) (pend++fU (aM l R) reg)::own an av (aM l R)::iD Z (eP Zs rv LS R)::aa g2 #[nS,nS] 57::aa g1 #[ov,rv] 57::F,2) (.inr (.inr (.inl ⟨rfl,av,Zs,LS,zP,rfl⟩)))
 .show SK _ _ _ _ _ [(2,pB g1 0),(4,pB g2 0),(5,nS),(6,iw 0),(8,pB g8 0),(27,iw 2)] _ (aa g8 #[o1,rv,pB qb 0,av] 161::qA qb (b' (aM l R) reg) (pend++fU (aM l R) reg)::own an av (aM l R)::iD Z (eP o1 rv l1 R)::aa g2 #[nS,nS] 57::aa g1 #[ov,rv] 57::F);refine bk (fun H h=>(show Acc _ _ an av _ from Acc.own 2) H h |>.form) (fun hfa=>?_);refine gy ?_;refine aH [0,1,1,0] (Ug (l:=l1) (R:=R) (pend:=(pend++fU (aM l R) reg)) (by have:=oA h1;omega) (by have h0:=oA h1;have:=yu l1 (qS h1 ca) [];omega) om (by have:=tU l R reg pend;omega)) ?_;rintro _ _ ⟨rfl,Zt,rfl⟩;rw[IL h1];refine sF 1 (fun fp=>?_);refine gy ?_;exact xr (aa g8 #[o1,rv,pB qb 0,Zt] 161::qA qb (b' (aM l R) reg) (pend++fU (aM l R) reg)::own an Zt (cA l R reg pend)::iD Z (eP o1 rv l1 R)::aa g2 #[nS,nS] 57::aa g1 #[ov,rv] 57::F,3) (.inr (.inr (.inr (.inl ⟨rfl,Zt,o1,l1,h1,rfl⟩))))
 .show SK _ _ _ _ _ [(2,pB g1 0),(4,pB g2 0),(5,nS),(6,iw 0),(8,pB g8 0),(27,iw 3)] _ (aa g8 #[o1,rv,pB qb 0,av] 161::qA qb (b' (aM l R) reg) (pend++fU (aM l R) reg)::own an av (cA l R reg pend)::iD Z (eP o1 rv l1 R)::aa g2 #[nS,nS] 57::aa g1 #[ov,rv] 57::F);refine bk (fun H h=>(show Acc _ _ an av _ from Acc.own 2) H h |>.form) (fun hfa=>?_);refine gy ?_;refine aH [0,1,1] (Uh (l:=l1) (R:=R) (B:=cA l R reg pend) (by have:=oA h1;omega) om (qS h1 ca) (by have:=yX l R reg pend;omega) (by rw[w6 h1,hc,EH R reg pend hc];rfl)) ?_;rintro _ _ ⟨rfl,Zu,l17,JR,rfl⟩;rw[IM h1]at JR;refine gy ?_;exact xr (aa g8 #[Zu,rv,pB qb 0,av] 161::qA qb (b' (aM l R) reg) (pend++fU (aM l R) reg)::own an av (cA l R reg pend)::iD Z (eP Zu rv l17 R)::aa g2 #[nS,nS] 57::aa g1 #[ov,rv] 57::F,4) (.inr (.inr (.inr (.inr ⟨rfl,av,Zu,l17,JR,rfl⟩))))
 show SK _ _ _ _ _ [(2,pB g1 0),(4,pB g2 0),(5,nS),(6,iw 0),(8,pB g8 0),(27,iw 4)] _ (aa g8 #[o2,rv,pB qb 0,av] 161::qA qb (b' (aM l R) reg) (pend++fU (aM l R) reg)::own an av (cA l R reg pend)::iD Z (eP o2 rv l2 R)::aa g2 #[nS,nS] 57::aa g1 #[ov,rv] 57::F);refine bk (fun H h=>(show Acc _ _ an av _ from Acc.own 2) H h |>.form) (fun hfa=>?_);refine gy ?_;refine a6 (fun _ h=>IE (L:=(cA l R reg pend)) (Acc.kn (.own 2) h)) ?_;rintro _ _ ⟨Zv,rfl,rfl⟩;refine gy ?_;refine aK (fun _ h=>Holds.nilS (T:=an) h) ?_;refine aK (Bs:=own an nS (((l.take 0).map Ob.id).filter fun x=>!decide (x∈cA l R reg pend))::dr (Go.Mem.intK 3) bV Zv (jj (cA l R reg pend))::aa g8 #[o2,rv,pB qb 0,av] 161::qA qb (b' (aM l R) reg) (pend++fU (aM l R) reg)::own an av (cA l R reg pend)::iD Z (eP o2 rv l2 R)::aa g2 #[nS,nS] 57::aa g1 #[ov,rv] 57::F) (fun _ h=>h) ?_;refine aD (ι:=Value×Nat) (fun (fx,i)=>i≤l.length) (fun (fx,i)=>[(4,pB g2 0),(5,nS),(6,iw 0),(8,pB g8 0),(10,.map (some Zv)),(11,fx),(40,ov),(41,iw (l.length:Int)),(42,iw (i:Int))]) (fun (fx,i)=>own an fx (((l.take i).map Ob.id).filter fun x=>!decide (x∈cA l R reg pend))::dr (Go.Mem.intK 3) bV Zv (jj (cA l R reg pend))::aa g8 #[o2,rv,pB qb 0,av] 161::qA qb (b' (aM l R) reg) (pend++fU (aM l R) reg)::own an av (cA l R reg pend)::iD Z (eP o2 rv l2 R)::aa g2 #[nS,nS] 57::aa g1 #[ov,rv] 57::F) (fun (fx,i)=>l.length-i) (nS,0) (Nat.zero_le _) sA rA ?_;rintro⟨fx,i⟩ F7;try dsimp only at F7⊢
 have vq:(((l.take i).map Ob.id).filter fun x=>!decide (x∈cA l R reg pend)).length≤i:=by have h:=List.length_filter_le (fun x=>!decide (x∈cA l R reg pend)) ((l.take i).map Ob.id);rw[List.length_map,List.length_take]at h;omega
 refine gc ?_;refine b9 (fun nQ=>?_) (fun Ay=>?_)
 .refine gy ?_;obtain⟨y23,Zw⟩:∃y,l[i]?=some y:=⟨_,List.getElem?_eq_getElem ol⟩;have akd:=hg.each y23 (List.mem_of_getElem? Zw);refine gy ?_;refine ae (.agg #[iw 0,iw 0,iw 0,nS,nS]) #[iw 0,iw 0,iw 0,nS,nS] (fun wK=>?_);refine gy ?_;refine sL (Lt.to (v':=.bool (decide (y23.id∈cA l R reg pend))) (cn 2 dx Tryz.underlying95 (.bool false) y23.id) (qR _ _)) ?_;refine go ?_;refine kdq (fun Dt=>?_) (fun kt=>?_)
  .refine gy ?_;refine ah (e:=3) [(0,iw y23.id)] #[iw y23.id] (fun JT=>?_) (hb:=by kernel_rfl);refine aq (L:=(((l.take i).map Ob.id).filter fun x=>!decide (x∈cA l R reg pend))) 2 ak Tryz.underlying23 (.lit 0 ak [y23.id]) (by show _*8≤_;(try simp only[cD]);omega) ol (fun v31=>?_);refine sF 2 (fun G7=>?_);refine gy ?_;rw[Uk Zw Dt];exact xr (v31,i+1) (by show i+1≤l.length;omega)
  refine gy ?_;rw[Zr Zw kt];exact xr (fx,i+1) (by show i+1≤l.length;omega)
 refine cW ?_;obtain rfl:i=l.length:=by omega
 rw[List.take_length];refine go ?_;have Rk:l2.length≤l.length∧∀o∈l2,o.refs.length≤400∧o.ents.length≤100000:=si h2 ca;refine a6 (fun _ h=>PZ (eP.kn (h.zfrF 5)) om om Rk.2) ?_;rintro _ _ ⟨Um,Un,l38,rfl,agZ,rfl⟩;refine gy ?_;refine bl (fun H h=>((show Acc _ _ dT _ _ from (j8 0)) H h).form) (fun pM=>?_);refine bl (fun H h=>((show Acc _ _ an _ _ from (Cc 0)) H h).form) (fun Zx=>?_);refine ar (u:=.agg #[Um,Un]) (m:=2) 7 #[Um,Un] ?_ (hm:=by (obtain⟨_,_,e0⟩:=pM;obtain⟨_,_,e1⟩:=Zx;rw[e0,e1];rfl)) (h1:=by (obtain⟨_,_,e0⟩:=pM;obtain⟨_,_,e1⟩:=Zx;rw[e0,e1];rfl)) (ha':=by (obtain⟨_,_,e0⟩:=pM;obtain⟨_,_,e1⟩:=Zx;rw[e0,e1];rfl));refine go ?_;refine go ?_;exact ad [.agg #[Um,Un],fx,iw 0] (qA qb (il l R reg) (eD l R reg pend)::frz (eP Um Un l38 R)::own an fx (fD l R reg pend)::F) (SI.agg 4 57 7 (SI.tmp 5 (SI.tmp 6 SI.nil))) (rr [4,0,0] [3,3,3,3,3,3]) ⟨_,_,_,l38,R,by rw[hc];rfl,by rw[hc];exact agZ.trans h2,by rw[hc];rfl,by rw[hc];rfl⟩
structure Mk where
 id:Int
 color:Int
 deriving DecidableEq
end
section
variable{id:Int}{C:List Mk}{k b lo hi:Nat}{st:bp}{m:Mk}{c:Int→Int}{Z:bK}{F:List aW}{T:Tb}{L:List Vl}{S:List cY}{t:Vl}{x:Rx}{o:kX}
def P8(C:List Mk):Prop:=C.Pairwise fun a b=>a.id<b.id
structure zm(C:List Mk)(c:Int→Int):Prop where
 srt:P8 C
 yes:∀m∈C,c m.id=m.color
 no:∀id,(∀m∈C,m.id≠id)→c id=0
 rng:∀m∈C,1≤m.id∧m.id≤1000
theorem zm.nil:zm [] c0:=⟨List.Pairwise.nil,fun m h=>(by cases h),fun _ _=>rfl,fun m h=>(by cases h)⟩
theorem IN:∀(l:List Int) (k:Int),l.Pairwise (· < ·)→(∀x∈l,k<x∧x≤1000)→k≤1000→(l.length:Int)≤1000-k
 | [],k,_,_,hk=>by simp;omega
 | a::r,k,hp,hr,hk=>by
  have h1:=hr a (by simp);have h2:=IN r a (List.pairwise_cons.1 hp).2 (fun x hx=>⟨(List.pairwise_cons.1 hp).1 x hx,(hr x (List.mem_cons_of_mem _ hx)).2⟩) h1.2;grind
theorem zm.len{c : Int → Int}(h : zm C c) : C.length ≤ 1000 := by
  have := IN (C.map Mk.id) 0 (List.pairwise_map.2 h.srt) (fun x hx => by
    obtain ⟨m, hm, rfl⟩ := List.mem_map.1 hx
    have := h.rng m hm; omega) (by decide)
  rw [List.length_map] at this; omega
structure PlI(C:List Mk)(id:Int)(k:Nat):Prop where
 le:k≤C.length
 lt:∀m∈C.take k,m.id<id
 ge:∀m∈C.drop k,id≤m.id
theorem w7(h:C[k]?=some m):C=C.take k++m::C.drop (k+1):=by
 obtain⟨h1,h2⟩:=List.getElem?_eq_some_iff.1 h;rw[←h2,←List.drop_eq_getElem_cons h1,List.take_append_drop]
theorem P9(hc:zm C c)(hm:C[k]?=some m)(e:m.id=id):c id=m.color:=by
 rw[←e];exact hc.yes m (List.mem_of_getElem? hm)
theorem Wp(hc:zm C c)(hp:PlI C id k)(hm:∀m,C[k]?=some m→m.id≠id):∀m∈C,m.id≠id:=by
 intro m h e;rw[←List.take_append_drop k C]at h;rcases List.mem_append.1 h with h|h
 .have:=hp.lt m h;omega
 obtain⟨j,hj⟩:=List.mem_iff_getElem?.1 h;cases j with
 | zero=>rw[List.getElem?_drop]at hj;exact hm m hj e
 | succ j=>
  cases hx:C[k]? with
  | none=>grind
  | some a=>
   have hS:=hc.srt;unfold P8 at hS;rw[w7 hx]at hS;have h2:=(List.pairwise_append.1 hS).2.1;have hd:C.drop k=a::C.drop (k+1):=by
    obtain⟨h1,h2⟩:=List.getElem?_eq_some_iff.1 hx;rw[List.drop_eq_getElem_cons h1,h2]
   rw[hd]at hj;have h3:m∈C.drop (k+1):=by grind
   have h4:=(List.pairwise_cons.1 h2).1 m h3;have h5:=hp.ge a (by grind);omega
theorem w8(hc:zm C c)(hp:PlI C id k)(hm:∀m,C[k]?=some m→m.id≠id):c id=0:=hc.no id (Wp hc hp hm)
theorem Zy(hc:zm C c)(hm:C[k]?=some m)(e:m.id=id)(v:Int):zm (C.set k ⟨m.id,v⟩) (dh c id v):=by
 have sc:=w7 hm;have hl:(C.take k).length=k:=by rw[List.length_take];have:=(List.getElem?_eq_some_iff.1 hm).1;omega
 have hset:C.set k ⟨m.id,v⟩=C.take k++⟨m.id,v⟩::C.drop (k+1):=by
  conv=>lhs;rw[sc]
  rw[List.set_append_right _ _ om,hl,Nat.sub_self,List.set_cons_zero]
 have hS:=hc.srt;unfold P8 at hS;rw[sc]at hS;obtain⟨h1,h2,h3⟩:=List.pairwise_append.1 hS;obtain⟨h4,h5⟩:=List.pairwise_cons.1 h2;have l7:∀x∈C.take k++C.drop (k+1),x.id≠id:=by
  intro x hx;rcases List.mem_append.1 hx with hx|hx
  .have:=h3 x hx m (by simp);omega
  have:=h4 x hx;omega
 rw[hset];refine⟨?_,?_,?_,?_⟩
 .unfold P8;refine List.pairwise_append.2 ⟨h1,List.pairwise_cons.2 ⟨fun x hx=>h4 x hx,h5⟩,fun x hx y hy=>?_⟩;rcases List.mem_cons.1 hy with rfl|hy
  .exact h3 x hx m (by simp)
  exact h3 x hx y (List.mem_cons_of_mem _ hy)
 .intro x hx;rcases List.mem_append.1 hx with hx|hx
  .rw [iI (l7 x (List.mem_append.2 (.inl hx)))];exact hc.yes x (by rw[sc];exact List.mem_append.2 (.inl hx))
  rcases List.mem_cons.1 hx with rfl|hx
  .show dh c id v m.id=v;rw[e];exact np _ _ _
  rw[iI (l7 x (List.mem_append.2 (.inr hx)))];exact hc.yes x (by rw[sc];exact List.mem_append.2 (.inr (List.mem_cons_of_mem _ hx)))
 .intro i hi;have h6:i≠id:=fun q=>hi ⟨m.id,v⟩ (by simp) (by rw[q];exact e)
  rw[iI h6];refine hc.no i fun x hx=>?_
  rw[sc]at hx;rcases List.mem_append.1 hx with hx|hx
  .exact hi x (List.mem_append.2 (.inl hx))
  rcases List.mem_cons.1 hx with rfl|hx
  .rw [e];exact h6.symm
  exact hi x (List.mem_append.2 (.inr (List.mem_cons_of_mem _ hx)))
 intro x hx;rcases List.mem_append.1 hx with hx|hx
 .exact hc.rng x (List.mem_of_mem_take hx)
 rcases List.mem_cons.1 hx with rfl|hx
 .exact hc.rng m (List.mem_of_getElem? hm)
 exact hc.rng x (List.mem_of_mem_drop hx)
theorem P'(hr:1≤id∧id≤1000)(hc:zm C c)(hp:PlI C id k)(hm:∀m,C[k]?=some m→m.id≠id)(v:Int):zm ((C.take k++[⟨id,v⟩])++C.drop k) (dh c id v):=by
 have l7:=Wp hc hp hm;have hS:=hc.srt;unfold P8 at hS;rw[←List.take_append_drop k C]at hS;obtain⟨h1,h2,h3⟩:=List.pairwise_append.1 hS;have sX:∀x,x∈(C.take k++[(⟨id,v⟩:Mk)])++C.drop k↔x=⟨id,v⟩∨x∈C:=by
  intro x;conv=>rhs;rw[←List.take_append_drop k C]
  grind
 refine⟨?_,?_,?_,?_⟩
 .unfold P8;refine List.pairwise_append.2 ⟨List.pairwise_append.2 ⟨h1,List.pairwise_singleton _ _,fun x hx y hy=>?_⟩,h2,fun x hx y hy=>?_⟩
  .simp at hy;subst hy;exact hp.lt x hx
  rcases List.mem_append.1 hx with hx|hx
  .grind
  simp at hx;subst hx;have h4:=hp.ge y hy;grind
 .intro x hx;rcases (sX x).1 hx with rfl|hx
  .exact np _ _ _
  rw[iI (l7 x hx)];exact hc.yes x hx
 .intro i hi;have h6:i≠id:=fun q=>hi ⟨id,v⟩ ((sX _).2 (.inl rfl)) q.symm
  rw[iI h6];exact hc.no i fun x hx=>hi x ((sX x).2 (.inr hx))
 intro x hx;rcases (sX x).1 hx with rfl|hx
 .omega
 exact hc.rng x hx
structure K2(C:List Mk)(id:Int)(lo hi:Nat):Prop where
 lh:lo≤hi
 le:hi≤C.length
 lt:∀m∈C.take lo,m.id<id
 ge:∀m∈C.drop hi,id≤m.id
theorem K2.start(C:List Mk)(id:Int):K2 C id 0 C.length:=⟨Nat.zero_le _,Nat.le_refl _,by simp,by simp⟩
theorem K2.fin(h:K2 C id lo hi)(e:¬lo<hi):PlI C id lo:=by
 have:=h.lh;obtain rfl:lo=hi:=by omega
 exact⟨h.le,h.lt,h.ge⟩
theorem K2.up(hS:P8 C)(h:K2 C id lo hi)(h1:lo≤k)(h2:k<hi)(hm:C[k]?=some m)(hl:m.id<id):K2 C id (k+1) hi:=by
 refine⟨h2,h.le,fun x hx=>?_,h.ge⟩;unfold P8 at hS;rw[w7 hm]at hS;obtain⟨_,_,h3⟩:=List.pairwise_append.1 hS;rw[List.take_add_one,hm]at hx;rcases List.mem_append.1 hx with hx|hx
 .have:=h3 x hx m (by simp);omega
 grind
theorem K2.down(hS:P8 C)(h:K2 C id lo hi)(h1:lo≤k)(h2:k<hi)(hm:C[k]?=some m)(hl:¬m.id<id):K2 C id lo k:=by
 have:=h.le;refine⟨h1,by omega,h.lt,fun x hx=>?_⟩;unfold P8 at hS;rw[w7 hm]at hS;obtain⟨_,WZ,_⟩:=List.pairwise_append.1 hS;obtain⟨hk,e⟩:=List.getElem?_eq_some_iff.1 hm;rw[List.drop_eq_getElem_cons hk,e]at hx;rcases List.mem_cons.1 hx with rfl|hx
 .omega
 have:=(List.pairwise_cons.1 WZ).1 x hx;omega
section
variable{S:List cY}{X:List Vl}{w y:Vl}
end
section
variable{T:Tb}{L:List Vl}{S:List cY}
end
section
variable{T:Tb}{L:List Vl}{S:List cY}{p:Int}
end
theorem Qa(hl:L.length≤100000)(hs:S.length≤100000):NF 229 #[pB b 0] Z (kP b L S::F) (iw (ja ⟨L,S⟩)):=by
 refine bO Tryz.func229 19 (fun w0=>?_);refine go ?_;refine mC (fun H h=>iX (rB h)) (fun lv1 r2 hw=>?_);refine br [aa b #[lv1,pB r2 0] 229,own bq lv1 L] ?_;refine gH [0,1,2,3] [0,0] ?_;refine fK 4 rfl [0,0] (fun _=>(bL aZ Tryz.underlying28 (.own 1))) ?_;refine fK 5 rfl [0,0] (fun _=>(HL 2 (L.length:Int) ol)) ?_;refine fK 6 rfl [0,0] (fun _=>(bX 4 (2*(L.length:Int)) ol)) ?_;refine gH [7,8,9,10] [0,0] ?_;refine ag 11 ?_;refine sC [2] (JV (S:=S)) ?_;refine nH [1,1]<|fK 12 rfl [1,1] (fun _=>(HL 4 (S.length:Int) ol)) ?_
 refine fK 13 rfl [1,1] (fun _=>(bX (4+(2*(L.length:Int))) (4*(S.length:Int)) ol)) ?_;refine gH [14] [1,1] ?_;refine aI ?_;refine gy ?_;refine ab (fun _ h=>da (rB h)) ?_;refine ad [iw ((4+(2*(L.length:Int)))+(4*(S.length:Int)))] (kP b L S::F) (SI.tmp 2 SI.nil) rA ⟨?_,rfl⟩;rfl
theorem Uo{k:Vl}(h:dG T.rest)(h0:k.kind=0)(hz:k≠bw):cX T k=(bw,bw,false,13):=by
 have hw:whole k=0:=uL (.inl om);have hn:bz T.rest k=none:=jD fun s hs e=>by
  have:=(h.keys s hs).2;rw[e]at this;exact this h0
 have he:=rO (S:=T.rest) hz hn;unfold cX;rw[if_neg hz,if_neg (by rw[dQ om];decide),if_neg (by rw[hw];omega),he]
theorem Wq{k:Vl}(h:k=bw∨(1≤whole k∧whole k≤(T.list.length:Int))):cX T k=eZ T (whole k).toNat:=by
 rcases h with rfl|⟨h1,h2⟩
 .rw [uP];rfl
 exact yc (fun e=>by rw[e]at h1;exact absurd h1 (by decide)) h1 h2
theorem Up{k:Vl}(h0:k.kind≠0)(h:¬(1≤whole k∧whole k≤(T.list.length:Int)))(hb:¬((aA T.rest k).2.2.2≠0∧1≤whole k)):cX T k=aA T.rest k:=by
 unfold cX;rw[if_neg (fun e=>h0 (by rw[e];rfl)),if_neg (by rw[dQ h];decide),if_neg hb]
theorem Uq{k:Vl}(h0:k.kind≠0)(h:¬(1≤whole k∧whole k≤(T.list.length:Int)))(hb:(aA T.rest k).2.2.2≠0∧1≤whole k):cX T k=aA T.rest bw:=
 yd (fun e=>h0 (by rw[e];rfl)) h hb.1 hb.2
theorem tV(hl:L.length≤100000)(hs:S.length≤100000)(k:Vl):NF 205 #[pB b 0,k.v] Z (kP b L S::F) (xJ (cX ⟨L,S⟩ k)):=by
 refine bx Tryz.func205 116 [(0,pB b 0),(1,.agg (vc k))] (fun w0=>?_);refine bk (fun H h=>BE (h.re [0] [])) (fun bD=>?_);have LO:=jX S;refine bn<|bj (vc k) (fun g1=>?_)
 refine ae (.agg zc) zc (fun g2=>?_);refine ae (.agg zc) zc (fun g3=>?_);refine go ?_;refine sV (fun _ h=>qx k)<|sP (iw (whole k))<|bH<|aE<|mC (fun H h=>iX (h.re [3] [])) (fun wO r5 hw=>?_)
 refine b6 (ι:=Unit) (fun _=>True) (fun _=>[(0,pB b 0),(3,pB g1 0),(4,pB g2 0),(5,pB g3 0),(8,iw (whole k)),(35,.bool ((decide (k.kind=0))||((decide ((1:Int)≤(whole k)))&&(decide ((whole k)≤(L.length:Int))))))]) (fun _=>aa b #[wO,pB r5 0] 229::own bq wO L::iL r5 S::aa g3 zc 71::aa g2 zc 71::aa g1 (vc k) 71::F) ?_ (fun _ _=>?_)
 .refine gc ?_;refine eF 23 (fun p7=>?_) (fun p8=>?_)
  .refine go ?_;exact bh () trivial (bc rfl (rQ (rQ (rQ (rQ (rQ ⟨⟨rfl,show Value.bool true=Value.bool ((decide (k.kind=0))||((decide ((1:Int)≤(whole k)))&&(decide ((whole k)≤(L.length:Int))))) by first|(simp only[p7,jK];done)|simp[p7]⟩,trivial⟩)))))) (rr [0,0,0,0,0,0] [])
  refine gc ?_;refine eF 26 (fun gQ=>?_) (fun im=>?_)
  .refine go ?_;refine sL (bL aZ Tryz.underlying28 (.own 1)) ?_;refine gc ?_;exact bh () trivial (bc rfl (rQ (rQ (rQ (rQ (rQ ⟨⟨rfl,show Value.bool (decide ((whole k)≤(L.length:Int)))=Value.bool ((decide (k.kind=0))||((decide ((1:Int)≤(whole k)))&&(decide ((whole k)≤(L.length:Int))))) by first|(simp only[p8,gQ,jK];done)|simp[p8,gQ]⟩,trivial⟩)))))) (rr [0,0,0,0,0,0] [])
  refine go ?_;exact bh () trivial (bc rfl (rQ (rQ (rQ (rQ (rQ ⟨⟨rfl,show Value.bool false=Value.bool ((decide (k.kind=0))||((decide ((1:Int)≤(whole k)))&&(decide ((whole k)≤(L.length:Int))))) by first|(simp only[p8,im,jK];done)|simp[p8,im]⟩,trivial⟩)))))) (rr [0,0,0,0,0,0] [])
 refine kd (fun jS=>?_) (fun jS=>?_)
 .have fL:=jS;simp only[Bool.and_eq_true,Bool.or_eq_true,Bool.and_eq_false_iff,Bool.or_eq_false_iff,Bool.not_eq_true',Bool.not_eq_false',decide_eq_true_eq,decide_eq_false_iff_not]at fL;refine aE<|b6 (ι:=Unit) (fun _=>True) (fun _=>[(0,pB b 0),(4,pB g2 0),(5,pB g3 0),(8,iw (whole k)),(43,.bool ((decide (k.kind=0))&&(!(decide (k=bw)))))]) (fun _=>aa b #[wO,pB r5 0] 229::own bq wO L::iL r5 S::aa g3 zc 71::aa g2 zc 71::aa g1 (vc k) 71::F) ?_ (fun _ _=>?_)
  .refine gc ?_;refine eF 39 (fun kO=>?_) (fun so=>?_)
   .refine sL (dE 5 (vc k))<|sL (ay (.agg zc))<|sL (fY (fun w=>(ic k bw w).2)) ?_
    refine go ?_;exact bh () trivial (bc rfl (rQ (rQ (rQ (rQ ⟨⟨rfl,show Value.bool (!(decide (k=bw)))=Value.bool ((decide (k.kind=0))&&(!(decide (k=bw)))) by first|(simp only[kO,jK];done)|simp[kO]⟩,trivial⟩))))) (rr [0,0,0,0,0,0] [])
   refine go ?_;exact bh () trivial (bc rfl (rQ (rQ (rQ (rQ ⟨⟨rfl,show Value.bool false=Value.bool ((decide (k.kind=0))&&(!(decide (k=bw)))) by first|(simp only[so,jK];done)|simp[so]⟩,trivial⟩))))) (rr [0,0,0,0,0,0] [])
  refine kd (fun HJ=>?_) (fun HJ=>?_)
  .obtain ⟨wE,zw⟩:=kk HJ;have zj:=dY wE;have Mx:=cO zw;have nQ:=dF Mx;refine bn<|sL (ay (.agg zc))<|sL (ay (.agg zc))<|ar 4 zc ?_
   refine ar 3 zc ?_;refine sP (.bool false)<|sP (iw 13)<|bH<|eM<|lD<|lD<|ab (fun _ h=>da (h.re [0,0,0] [])) ?_
   have hp:cX ⟨L,S⟩ k=(bw,bw,false,13):=Uo (T:=⟨L,S⟩) bD (by grind) (by grind);refine ad [.agg zc,.agg zc,.bool false,iw 13] (kP b L S::F) (SI.agg 4 71 2 (SI.agg 5 71 1 (SI.tmp 6 (SI.tmp 7 SI.nil)))) (rr [0] [1,1,1]) ⟨?_,rfl⟩;rw[hp];rfl
  have zA:=HJ;simp only[Bool.and_eq_true,Bool.or_eq_true,Bool.and_eq_false_iff,Bool.or_eq_false_iff,Bool.not_eq_true',Bool.not_eq_false',decide_eq_true_eq,decide_eq_false_iff_not]at zA;refine go ?_;refine aK (fun _ h=>da (h.re [0,0,0] [])) ?_;have sX:k=bw∨(1≤whole k∧whole k≤(L.length:Int)):=by grind
  have hw0:0≤whole k∧whole k≤(L.length:Int):=by have hz:whole bw=0:=rfl;grind
  refine aD (ι:=Nat) (fun i=>(whole k).toNat≤i∧i≤L.length∧mG (L.drop i) i=mG (L.drop (whole k).toNat) (whole k).toNat) (fun i=>[(0,pB b 0),(4,pB g2 0),(5,pB g3 0),(9,iw (i:Int))]) (fun i=>kP b L S::aa g3 zc 71::aa g2 zc 71::aa g1 (vc k) 71::F) (fun i=>L.length-i) ((whole k).toNat) ⟨by omega,by omega,rfl⟩ (bc rfl (rQ (rQ (rQ ⟨⟨rfl,cI om⟩,trivial⟩)))) (rr [0,0,0,0] []) ?_;rintro i mF;try dsimp only at mF⊢
  refine go ?_;refine cF (fun H h=>iX (h.re [0] [])) (fun S6 r26 hw=>?_);refine sL (aJ 0 S6)<|sL (bL aZ Tryz.underlying28 (.own 1))<|sL aT<|bH<|b9 (fun pD=>?_) (fun kt=>?_)
  .refine go ?_;refine sL (aF aZ Tryz.underlying28 (.own 1) (i:Int) i om ol om) ?_;refine go ?_;obtain⟨EI,EJ⟩:∃y,L[i]?=some y:=⟨_,List.getElem?_eq_getElem ol⟩;refine sL (cw 0 aZ (.own 1) EJ)<|sL aT<|bH<|b9 (fun uI=>?_) (fun q31=>?_)
   .refine aE<|br [aa b #[S6,pB r26 0] 229,own bq S6 L,aa g1 (vc k) 71] ?_
    refine gH [0] [0,0,3] ?_;refine fK 1 rfl [0,0,3] (fun _=>(bX (i:Int) 1 ol)) ?_;refine gH [3,4,5,6,7] [0,0,3] ?_;refine fK 8 rfl [0,0,3] (fun _=>(aF aZ Tryz.underlying28 (.own 1) (i:Int) i om ol om)) ?_;refine fK 9 rfl [0,0,3] (fun _=>(bC aZ (.own 1) EJ)) ?_;refine ag 2 ?_;refine sV (fun _ h=>rT ((i:Int)+1))<|nH [0,0,3]<|ag 10 ?_
    refine gh ?_;refine nH [0,0,3]<|ag 11 ?_
    refine ar 3 (vc EI) ?_;refine nH [0,0,3] ?_;refine gH [12,13] [0,0,3] ?_;refine aI ?_;refine go ?_;refine ab (fun _ h=>da (h.re [0,0,0] [])) ?_;have hp:cX ⟨L,S⟩ k=(ey ((i:Int)+1),EI,true,0):=(Wq (T:=⟨L,S⟩) sX).trans (vD (T:=⟨L,S⟩) mF.2.2 EJ uI);refine ad [.agg (vc (ey ((i:Int)+1))),.agg (vc EI),.bool true,iw 0] (kP b L S::F) (SI.agg 4 71 2 (SI.agg 5 71 1 (SI.tmp 6 (SI.tmp 7 SI.nil)))) (rr [0] [1,1,1]) ⟨?_,rfl⟩;rw[hp];rfl
   have VJ:=Decidable.not_not.1 q31;refine jB<|eU<|ax<|bd<|sP (iw (i:Int))<|sL (bX (i:Int) 1 ol)<|sP (iw ((i:Int)+1))<|a8<|ab (fun _ h=>da (h.re [0,0,0] [])) ?_
   exact az (i+1) om ⟨by omega,by omega,AM mF.2.2 EJ q31⟩ sA (rr [0,0,0,0] [])
  refine cW<|cM<|cM<|gL<|ax<|bn<|oN (pB b 0)<|sP (pB b 1)<|sL (aJ 0 (pB r26 0))<|sL (ay (.agg zc))<|sC [2] (iQ (S:=S) ol bw) ?_
  refine go ?_;refine ab (fun _ h=>da (h.re [1,1,0] [])) ?_;have hp:cX ⟨L,S⟩ k=aA S bw:=(Wq (T:=⟨L,S⟩) sX).trans (yb (T:=⟨L,S⟩) mF.2.2 (by show L.length≤i;omega));refine ad [.agg (vc ((aA S bw).1)),.agg (vc ((aA S bw).2.1)),.bool ((aA S bw).2.2.1),iw ((aA S bw).2.2.2)] (kP b L S::F) (SI.agg 4 71 2 (SI.agg 5 71 1 (SI.tmp 6 (SI.tmp 7 SI.nil)))) (rr [0] [1,1,1]) ⟨?_,rfl⟩;rw[hp];rfl
 obtain⟨Az,c36⟩:=l5 jS;have zB:=dF Az;have mD:=c36;simp only[Bool.and_eq_true,Bool.or_eq_true,Bool.and_eq_false_iff,Bool.or_eq_false_iff,Bool.not_eq_true',Bool.not_eq_false',decide_eq_true_eq,decide_eq_false_iff_not]at mD;refine eT<|aE<|br [aa b #[wO,pB r5 0] 229,own bq wO L,aa g3 zc 71,aa g2 zc 71,aa g1 (vc k) 71] ?_
 refine gH [0,1,2,3,4] [0,0,1,1,1] ?_;refine ba (ι:=Nat×Nat) 4 (tf [13,4]) (fun (Fi,nB)=>[(0,pB b 0),(4,pB g2 0),(5,pB g3 0),(8,iw (whole k)),(10,pB Fi 0),(11,pB nB 0),(92,.agg (vc ((aA S k).1))),(93,.agg (vc ((aA S k).2.1))),(94,.bool ((aA S k).2.2.1)),(95,iw ((aA S k).2.2.2))]) (fun (Fi,nB)=>aa nB zc 71::aa Fi zc 71::iL r5 S::aa b #[wO,pB r5 0] 229::own bq wO L::aa g3 zc 71::aa g2 zc 71::aa g1 (vc k) 71::F) ?_ (fun Zz=>?_)
 .rintro ⟨Fi,nB⟩;try dsimp only
  refine ag 13 ?_;refine gh ?_;refine nH [3,3,3,3,3]<|ag 14 ?_
  refine gh ?_;refine nH [3,3,3,3,3] ?_;refine gH [15,16] [3,3,3,3,3] ?_;refine aI ?_;refine ax<|aE<|b6 (ι:=Unit) (fun _=>True) (fun _=>[(0,pB b 0),(4,pB g2 0),(5,pB g3 0),(10,pB Fi 0),(11,pB nB 0),(12,.bool ((aA S k).2.2.1)),(13,iw ((aA S k).2.2.2)),(101,.bool ((decide ((aA S k).2.2.2≠0))&&(decide ((1:Int)≤(whole k)))))]) (fun _=>aa nB (vc ((aA S k).2.1)) 71::aa Fi (vc ((aA S k).1)) 71::iL r5 S::aa b #[wO,pB r5 0] 229::own bq wO L::aa g3 zc 71::aa g2 zc 71::aa g1 (vc k) 71::F) ?_ (fun _ _=>?_)
  .refine gc ?_;refine eF 98 (fun LN=>?_) (fun q48=>?_)
   .refine gc ?_;exact bh () trivial (bc rfl (rQ (rQ (rQ (rQ (rQ (rQ (rQ ⟨⟨rfl,show Value.bool (decide ((1:Int)≤(whole k)))=Value.bool ((decide ((aA S k).2.2.2≠0))&&(decide ((1:Int)≤(whole k)))) by first|(simp only[LN,jK];done)|simp[LN]⟩,trivial⟩)))))))) (rr [0,0,0,0,0,0,0,0] [])
   have Du:=Decidable.not_not.1 q48;refine go ?_;exact bh () trivial (bc rfl (rQ (rQ (rQ (rQ (rQ (rQ (rQ ⟨⟨rfl,show Value.bool false=Value.bool ((decide ((aA S k).2.2.2≠0))&&(decide ((1:Int)≤(whole k)))) by first|(simp only[q48,jK];done)|simp[q48]⟩,trivial⟩)))))))) (rr [0,0,0,0,0,0,0,0] [])
  refine kd (fun c51=>?_) (fun c51=>?_)
  .obtain ⟨zO,Sz⟩:=kk c51;have zk:=dY zO;have p55:=dY Sz;refine bn<|oN (pB b 0)<|sP (pB b 1)<|sL (aJ 3 (pB r5 0))<|sL (ay (.agg zc))<|sC [2] (iQ (S:=S) ol bw) ?_
   refine go ?_;refine ab (fun _ h=>da (h.re [3,3,0] [])) ?_;have hp:cX ⟨L,S⟩ k=aA S bw:=Uq (T:=⟨L,S⟩) (by grind) (by show ¬(_∧_≤(L.length:Int));grind) (by show (aA S k).2.2.2≠0∧_;grind);refine ad [.agg (vc ((aA S bw).1)),.agg (vc ((aA S bw).2.1)),.bool ((aA S bw).2.2.1),iw ((aA S bw).2.2.2)] (kP b L S::F) (SI.agg 4 71 4 (SI.agg 5 71 3 (SI.tmp 6 (SI.tmp 7 SI.nil)))) (rr [0] [1,1,1,1,1]) ⟨?_,rfl⟩;rw[hp];rfl
  have FV:=c51;simp only[Bool.and_eq_true,Bool.or_eq_true,Bool.and_eq_false_iff,Bool.or_eq_false_iff,Bool.not_eq_true',Bool.not_eq_false',decide_eq_true_eq,decide_eq_false_iff_not]at FV;refine eT<|aE<|br [aa nB (vc ((aA S k).2.1)) 71,aa Fi (vc ((aA S k).1)) 71,aa b #[wO,pB r5 0] 229,own bq wO L,aa g1 (vc k) 71] ?_
  refine gH [0,1,2,3] [0,0,1,1,3] ?_;refine ag 4 ?_;refine gh ?_;refine nH [0,0,1,1,3]<|ag 5 ?_
  refine gh ?_;refine nH [0,0,1,1,3] ?_;refine gH [6,7] [0,0,1,1,3] ?_;refine aI ?_;refine ax<|eM<|ab (fun _ h=>da (h.re [3,3,2] [])) ?_
  have hp:cX ⟨L,S⟩ k=aA S k:=Up (T:=⟨L,S⟩) (by grind) (by show ¬(_∧_≤(L.length:Int));grind) (by show ¬((aA S k).2.2.2≠0∧_);grind);refine ad [.agg (vc ((aA S k).1)),.agg (vc ((aA S k).2.1)),.bool ((aA S k).2.2.1),iw ((aA S k).2.2.2)] (kP b L S::F) (SI.agg 4 71 4 (SI.agg 5 71 3 (SI.tmp 6 (SI.tmp 7 SI.nil)))) (rr [0] [1,1,1,1,1]) ⟨?_,rfl⟩;rw[hp];rfl
 refine ba (ι:=Nat) 5 (tf [12,5]) (fun Fi=>[(0,pB b 0),(4,pB g2 0),(5,pB g3 0),(8,iw (whole k)),(10,pB Fi 0),(92,.agg (vc ((aA S k).1))),(93,.agg (vc ((aA S k).2.1))),(94,.bool ((aA S k).2.2.1)),(95,iw ((aA S k).2.2.2))]) (fun Fi=>aa Fi zc 71::iL r5 S::aa b #[wO,pB r5 0] 229::own bq wO L::aa g3 zc 71::aa g2 zc 71::aa g1 (vc k) 71::F) ?_ (fun adf=>?_)
 .rintro Fi;try dsimp only
  refine ag 12 ?_;refine ae (.agg zc) zc (fun g58=>?_);refine nH [3,3,3,3,3] ?_;exact aB Zz (Fi,g58) (rr [0,0,0,0,0,0,0,0] [])
 refine ba (ι:=Nat) 5 (tf [11,1,1,4]) (fun wL=>[(0,pB b 0),(4,pB g2 0),(5,pB g3 0),(8,iw (whole k)),(11,pB wL 0),(92,.agg (vc ((aA S k).1))),(93,.agg (vc ((aA S k).2.1))),(94,.bool ((aA S k).2.2.1)),(95,iw ((aA S k).2.2.2))]) (fun wL=>aa wL zc 71::iL r5 S::aa b #[wO,pB r5 0] 229::own bq wO L::aa g3 zc 71::aa g2 zc 71::aa g1 (vc k) 71::F) ?_ (fun Og=>?_)
 .rintro wL;try dsimp only
  refine ag 11 ?_;refine ae (.agg zc) zc (fun g60=>?_);refine nH [3,3,3,3,3] ?_;exact aB Zz (g60,wL) (rr [1,0,0,0,0,0,0,0] [])
 refine ba (ι:=Nat×Nat) 10 (tf [5,6,2,4]) (fun (BL,Ui)=>[(0,pB b 0),(4,pB g2 0),(5,pB g3 0),(8,iw (whole k)),(10,pB BL 0),(11,pB Ui 0),(89,pB r5 0),(90,.agg (vc k))]) (fun (BL,Ui)=>aa Ui zc 71::aa BL zc 71::aa b #[wO,pB r5 0] 229::own bq wO L::iL r5 S::aa g3 zc 71::aa g2 zc 71::aa g1 (vc k) 71::F) ?_ (fun DR=>?_)
 .rintro ⟨BL,Ui⟩;try dsimp only
  refine ag 5 ?_;refine sC [4] (iQ (S:=S) ol k) ?_;refine nH [3,3,3,3,3] ?_;refine gH [6,7,8,9,10] [3,3,3,3,3] ?_;exact aB Zz (BL,Ui) (rr [1,1,0,0,0,0,0,0] [])
 refine dR 5 11 12 ?_ ?_ ?_
 .refine sC [2] (iQ (S:=S) ol k) ?_;refine nH [1,1,1,1,1] ?_;refine gH [6,7,8,9,10] [1,1,1,1,1] ?_;refine aN 11 12 ?_ ?_
  .refine ae (.agg zc) zc (fun g62=>?_);refine nH [2,2,2,2,2] ?_;exact aB adf g62 (rr [0,0,0,0,0,0,0] [])
  refine ae (.agg zc) zc (fun K3=>?_);refine nH [2,2,2,2,2] ?_;exact aB Og K3 (rr [0,0,0,0,0,0,0] [])
 .refine ae (.agg zc) zc (fun g64=>?_);refine nH [1,1,2,2,2]<|aN 5 12 ?_ ?_
  .refine sC [3] (iQ (S:=S) ol k) ?_;refine nH [2,2,2,2,2] ?_;refine gH [6,7,8,9,10] [2,2,2,2,2] ?_;exact aB adf g64 (rr [1,0,0,0,0,0,0] [])
  refine ae (.agg zc) zc (fun DS=>?_);refine nH [2,2,3,3,3] ?_;exact aB DR (g64,DS) (rr [0,0,0,0,0,0,0,0] [])
 refine ae (.agg zc) zc (fun zI=>?_);refine nH [1,1,2,2,2]<|aN 5 11 ?_ ?_
 .refine sC [3] (iQ (S:=S) ol k) ?_;refine nH [2,2,2,2,2] ?_;refine gH [6,7,8,9,10] [2,2,2,2,2] ?_;exact aB Og zI (rr [1,0,0,0,0,0,0] [])
 refine ae (.agg zc) zc (fun g67=>?_);refine nH [2,2,3,3,3] ?_;exact aB DR (g67,zI) (rr [1,0,0,0,0,0,0,0] [])
theorem EK{k:Vl}(h:fm st t=none):rz st t k=(bw,bw,false,8):=by unfold rz;rw[h]
theorem EL{k:Vl}(h:fm st t=some T):rz st t k=cX T k:=by unfold rz;rw[h]
theorem nu{n:Nat}(ca:jv n st)(hn:n≤300)(t k:Vl):NF 163 #[pB b 0,t.v,k.v] Z (bs b st::F) (xJ (rz st t k)):=by
 refine bO Tryz.func163 35 (fun w0=>?_);have vJ:=ca.len;refine bk (fun H h=>od (rB h)) (fun AU=>?_);refine bn ?_;refine bj (vc t) (fun g1=>?_);refine bj (vc k) (fun g2=>?_);refine ae (.agg zc) zc (fun g3=>?_);refine ae (.agg zc) zc (fun g4=>?_);refine gy ?_;refine aH [4] (Gz (st:=st) om t) ?_;rintro u5 _ ⟨e6,rfl⟩;rcases r0 st t with ⟨ht7,he8⟩|⟨o9,pE,ZA,Kw,ake,ag0⟩
 .rw [he8]at e6;subst e6;refine gy ?_;refine ad [.agg zc,.agg zc,.bool false,iw 8] (bs b st::F) (SI.agg 6 71 2 (SI.agg 7 71 1 (SI.tmp 8 (SI.tmp 9 SI.nil)))) rA ⟨?_,?_⟩
  .rw [EK ht7];rfl
  rfl
 rw[ag0]at e6;subst e6;have aiC:=get_mem ZA;refine gy ?_;refine dc (fun H h=>fP (rB h)) (fun Pg akf L18 hw=>?_);obtain⟨yM,ZB⟩:=hw;have aiD:=iN ZB;have aiE:=yM.tch;refine gy ?_;obtain⟨ag1,ag2,ag3,J1⟩:=lJ ZB ZA;refine sL (Lt.to (v':=bu ag1) (cw 3 ft (.own 1) J1) (pN Kw)) ?_;refine gy ?_;refine aC (fun _ h=>kA J1 (rB h)) ?_;refine aC (fun _ h=>pO Kw (rB h)) ?_;obtain⟨akg,aiF,_⟩:=ca.obs o9 (get_mem ZA).1;have aiG:n*(n+1)≤300*301:=Nat.mul_le_mul om om;refine sC [0] (tV (L:=o9.tab.list) (S:=o9.tab.rest) ol ol k) ?_;refine gy ?_;refine ab (fun _ h=>lK (o:=o9) (T:=o9.tab) Kw (rB h)) ?_;refine ab (fun _ h=>ke (o':={ o9 with tab:=o9.tab }) (uv':=ag2) (rv':=ag3) J1 (rB h)) ?_;refine ab (fun _ h=>nk J1 h) ?_;refine ab (fun _ h=>dI (st:=st) (n:=(st.count:Int)) (T:=st.tch) ⟨⟨⟨yM,ZB⟩,rfl⟩,rfl⟩ (rB h)) ?_;refine ad [.agg (vc ((cX ⟨o9.tab.list,o9.tab.rest⟩ k).1)),.agg (vc ((cX ⟨o9.tab.list,o9.tab.rest⟩ k).2.1)),.bool ((cX ⟨o9.tab.list,o9.tab.rest⟩ k).2.2.1),iw ((cX ⟨o9.tab.list,o9.tab.rest⟩ k).2.2.2)] (bs b st::F) (SI.agg 6 71 2 (SI.agg 7 71 1 (SI.tmp 8 (SI.tmp 9 SI.nil)))) rA ⟨?_,?_⟩
 .rw [EL pE];rfl
 rfl
section
variable{Z:bK}{F:List aW}{H:bb}{b:Nat}{st:bp}{L:List Rx}{id:Int}{o o':kX}{i tp:Nat}{uv rv:Sv}
theorem Ws(h8:o.kind≠8):tx o=o.vals:=if_neg h8
theorem K4(hy:L[i]?=some x){uv' rv':Sv}(h:Holds Z (ij L::F) H):Holds Z (ij (L.set i ⟨none,tp,uv',rv'⟩)::F) H:=by
 have h1:Holds Z (star ((L.eraseIdx i).map Kk)::F) H:=(h.star_get hy).re [1] [1];have h2:Holds Z (Kk ⟨none,tp,uv',rv'⟩::star ((L.eraseIdx i).map Kk)::F) H:=Holds.star_in (L:=[]) h1;have hi:=(List.getElem?_eq_some_iff.1 hy).1;unfold ij;rw[List.map_set];rw[←jq,←del_eq]at h2;have:=Holds.star_push (i:=i) (A:=Kk x) (by rw[xD,List.getElem?_map,hy];rfl) h2;rwa [uE]at this
theorem Ur(hL:L.map Rx.o=st.objs)(ho:st.get id=some o)(hx:x.o=none):(L.set (id-1).toNat x).map Rx.o=(dA st id).objs:=by
 obtain⟨_,h1,h2,_⟩:=get_mem ho;rcases lI st id with ⟨_,_,hn⟩|⟨_,_,_,e⟩
 .rw [ho]at hn;cases hn
 rw[e,List.map_set,hL,hx];show _=st.objs.set (id.toNat-1) none;rw[show id.toNat-1=(id-1).toNat by omega]
end
theorem ve(h:st.get id=none):aw st id=false:=by unfold aw;rw[h];rfl
theorem IP(h:st.get id=some o):aw st id=true:=by unfold aw;rw[h];rfl
theorem Wt(hi:fe st)(h:st.get id=some o):o.kind≠0:=fun e=>by
 have:=(hi.obs o (get_mem h).1).kind;rw[e]at this;cases this
theorem ju(hl:st.objs.length≤1000000)(id:Int):NF 92 #[pB b 0,iw id] Z (bs b st::F) (.bool (aw st id)):=by
 refine bO Tryz.func92 32 (fun w0=>?_);refine bk (fun H h=>od (rB h)) (fun AU=>?_);refine bn<|sP (.bool false)<|pA<|sP (pB b 0)<|oN (.bool true)<|sP (iw id)<|sL aT<|oN (.bool (decide ((1:Int)≤id)))<|dW 11 (decide ((1:Int)≤id)) (fun c1=>?_) (fun c1=>?_)
 .have p2:=dY c1;refine sP (iw id)<|Q5 (pB b 0)<|dc (fun H h=>fP (rB h)) (fun v3 tv4 L5 hw=>?_)
  obtain⟨kV,Rm⟩:=hw;have afC:=iN Rm;have afD:=kV.tch;refine sL (aJ 0 v3)<|sL (bL ft Tryz.underlying139 (.own 1))<|sL aT<|oN (.bool (decide (id≤(L5.length:Int))))<|dW 20 (decide (id≤(L5.length:Int))) (fun l4=>?_) (fun l4=>?_)
  .have im:=dY l4;refine Q5 (pB b 0)<|sL (aJ 0 v3)<|sP (iw id)<|sL (fX id 1 ol)<|sL (aF ft Tryz.underlying139 (.own 1) (id-1) (((id-1)).toNat) om ol om)<|sP (.pointer (some (elemAt CP.size v3 (((id-1)).toNat)))) ?_
   rcases yl Rm (by omega:1≤id) om with ⟨ag4,ag5,ag6,ji,ZC⟩|⟨bF,ag7,ag8,ag9,u1,JS⟩
   .refine sL (cw 0 ft (.own 1) ji)<|sL (aT (c:=false))<|oN (.bool false)<|bH<|eM<|ab (fun _ h=>dI (st:=st) (n:=(st.count:Int)) (T:=st.tch) ⟨⟨⟨kV,Rm⟩,rfl⟩,rfl⟩ (rB h)) ?_
    refine ad [.bool false] (bs b st::F) (SI.tmp 4 SI.nil) rA ⟨?_,?_⟩
    .rw [ve ZC];first|rfl|(exfalso;simp_all;done)|(exfalso;omega)
    rfl
   refine sL (cw 0 ft (.own 1) u1)<|sL aT<|oN (.bool (decide (bF.kind≠0)))<|bH<|eM<|ab (fun _ h=>dI (st:=st) (n:=(st.count:Int)) (T:=st.tch) ⟨⟨⟨kV,Rm⟩,rfl⟩,rfl⟩ (rB h)) ?_
   refine ad [.bool (decide (bF.kind≠0))] (bs b st::F) (SI.tmp 4 SI.nil) rA ⟨?_,?_⟩
   .exact cB (by simp[IP JS,Wt AU JS])
   rfl
  have zA:=dF l4;refine sK<|sK<|sK<|sK<|sK<|sK<|sK<|sK<|sK<|sK<|oN (.bool false)<|bH<|eM<|ab (fun _ h=>dI (st:=st) (n:=(st.count:Int)) (T:=st.tch) ⟨⟨⟨kV,Rm⟩,rfl⟩,rfl⟩ (rB h)) ?_
  refine ad [.bool false] (bs b st::F) (SI.tmp 4 SI.nil) rA ⟨?_,?_⟩
  .first|(rw[ve (tz om)];rfl)|(rw[ve (pP om)];rfl)
  rfl
 have kU:=dF c1;refine sK<|sK<|sK<|sK<|sK<|sK<|sK<|oN (.bool false)<|sK<|sK<|sK<|sK<|sK<|sK<|sK<|sK<|sK<|sK<|oN (.bool false)<|bH<|eM<|ad [.bool false] (bs b st::F) (SI.tmp 4 SI.nil) rA ⟨?_,?_⟩
 .first|(rw[ve (tz om)];rfl)|(rw[ve (pP om)];rfl)
 rfl
theorem EM(hl:st.objs.length≤1000000)(id:Int):MF 101 #[pB b 0,iw id] Z (bs b st::F) (iw (jZ st id)) (bs b (dA st id)::F):=by
 refine bO Tryz.func101 27 (fun w0=>?_);have nF:st.count≤st.objs.length:=List.countP_le_length;refine bn<|sP (iw 0)<|bH<|aE<|bn<|sP (pB b 0)<|sP (.bool false)<|bH<|eh<|eT<|aE<|bn<|sP (pB b 0)<|sP (iw id)<|sC [0] (ju (st:=st) hl id) ?_
 refine sP (.bool (!(aw st id)))<|bH<|bg (!(aw st id)) (fun c1=>?_) (fun c1=>?_)
 .have c2:=cO c1;have wH:aw st id=false:=by simpa using c2
  have wH:aw st id=false:=by simpa using c1
  refine bn<|sP (iw 19)<|bH<|eM<|lD<|ad [iw 19] (bs b st::F) (SI.tmp 4 SI.nil) rA ⟨?_,?_⟩
  .unfold jZ;rw[wH];rfl
  unfold dA;rw[wH];rfl
 have c3:=cu c1;have wH:aw st id=true:=by simpa using c3
 obtain⟨o4,ho5⟩:=Option.isSome_iff_exists.1 wH;have akh:=get_mem ho5;have wH:aw st id=true:=by simpa using c1
 obtain⟨o7,ho8⟩:=Option.isSome_iff_exists.1 wH;have aki:=get_mem ho8;refine eT<|bn<|Q5 (pB b 0)<|dc (fun H h=>fP (rB h)) (fun v10 ag' L12 hw=>?_)
 obtain⟨Ch,ZD⟩:=hw;have aiH:=iN ZD;have aiI:=Ch.tch;refine sL (aJ 0 v10)<|sP (iw id)<|sL (fX id 1 ol)<|sL (ay (.agg #[iw 0,iw 0,sw eb,.pointer none,iw 0,iw 0,iw 0,sw eb,iw 0,nS,nS]))<|sL (aF ft Tryz.underlying139 (.own 1) (id-1) (((id-1)).toNat) om ol om) ?_
 obtain⟨akj,akk,ZE,S5⟩:=lJ ZD ho8;refine dX 1 0 (⟨none,0,⟨none,0,0⟩,⟨none,0,0⟩⟩:Rx) ft S5 ?_;refine aC (fun _ h=>K4 (tp:=0) (uv':=⟨none,0,0⟩) (rv':=⟨none,0,0⟩) S5 (rB h)) ?_;refine pA<|Q5 (pB b 0)<|sP (pB b 1)<|sL (aJ 1 (iw (st.count:Int)))<|sL (fX (st.count:Int) 1 ol)<|sP (pB b 0)<|sP (pB b 1)<|ar 1 #[v10,iw ((st.count:Int)-1),ag'] ?_
 refine pA<|sP (iw 0)<|bH<|eM<|ab (fun _ h=>dI (st:=(dA st id)) (n:=((st.count:Int)-1)) (T:=st.tch) ⟨⟨⟨tj Ch id,Ur ZD ho8 rfl⟩,(by have:=yf ho8;omega)⟩,nh.2.symm⟩ (rB h)) ?_
 refine ad [iw 0] (bs b (dA st id)::F) (SI.tmp 4 SI.nil) rA ⟨?_,?_⟩
 .unfold jZ;rw[wH];rfl
 rfl
end
end Go.Proofs.YtmhpcebiamkciaaGreat
