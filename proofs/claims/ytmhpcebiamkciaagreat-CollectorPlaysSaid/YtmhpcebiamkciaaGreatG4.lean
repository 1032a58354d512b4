/-
  Tables of the program. Each law says its conditions.
-/
import Derived.Test.YtmhpcebiamkciaaGreatG3
import Derived.Test.YtmhpcebiamkciaaGreatG2
import Derived.Shelf.Sort.Plain
import Derived.Lib.SlKeysI
set_option linter.unusedSimpArgs false
set_option linter.unusedVariables false
set_option maxRecDepth 100000
set_option maxHeartbeats 2000000
namespace Go.Proofs.YtmhpcebiamkciaaGreat
open Go.Hp Go.J Go.S
open Go.Mem (fS Ty eB bN dg cL cm db dO blk blk_pre fM elemAt pre rF suf)
section
variable{Z:bK}{S:List cY}{L:List Vl}{b r n:Nat}{F:List aW}{k v:Vl}{H:bb}{lv:Value}
def jf(b:Nat)(L:List Vl)(S:List cY):aW:=lj fun lv=>lj fun r=>zr True [aa b #[lv,.pointer (some ⟨r,0,none⟩)] 185,own bq lv L,jE r S]
theorem fO(h:Holds Z (jf b L S::F) H):∃(lv:Value) (r:Nat),True∧Holds Z (aa b #[lv,.pointer (some ⟨r,0,none⟩)] 185::own bq lv L::jE r S::F) H:=by
 obtain⟨lv,h⟩:=h.open_ex;obtain⟨r,h⟩:=h.open_ex;exact⟨lv,r,h.open_st⟩
theorem cN(h:Holds Z (aa b #[lv,.pointer (some ⟨r,0,none⟩)] 185::own bq lv L::jE r S::F) H):Holds Z (jf b L S::F) H:=
 Holds.shut_ex lv (Holds.shut_ex r (Holds.shut_st trivial h))
theorem X1(h:Holds Z (jf b L S::F) H):dG S:=by
 obtain⟨_,_,_,h⟩:=fO h;exact Nj (rB h)
theorem qt(x:Int):NF 233 #[iw x] Z [] ((ey x).v):=by
 refine bx Tryz.func233 13 [(0,iw x)] (fun w0=>?_);refine bn ?_;refine ae (.agg zc) zc (fun g1=>?_);refine bH<|aE<|b6 (ι:=Unit) (fun _=>True) (fun _=>[(0,iw x),(2,pB g1 0),(8,.bool ((decide (x<(-2147483647)))||(decide ((2147483647:Int)<x))))]) (fun _=>[aa g1 zc 71]) ?_ (fun _ _=>?_)
 .refine gc ?_;refine eF 5 (fun p3=>?_) (fun p4=>?_)
  .refine go ?_;exact xC
  refine gc ?_;exact xC
 refine kd (fun c5=>?_) (fun c5=>?_)
 .have p6:=c5;simp only[Bool.and_eq_true,Bool.or_eq_true,Bool.and_eq_false_iff,Bool.or_eq_false_iff,Bool.not_eq_true',Bool.not_eq_false',decide_eq_true_eq,decide_eq_false_iff_not]at p6;refine gy ?_;refine ad [.agg zc] [] (SI.agg 2 71 0 SI.nil) (rr [] [0]) ⟨?_,rfl⟩;show Value.agg _=Vl.v (ey x);unfold ey;rw[if_pos om];rfl
 obtain⟨c7,c8⟩:=l5 c5;have p9:=dF c7;have gQ:=dF c8;refine go ?_;refine sL (ay (.agg #[iw x,iw 1]))<|sL (ay (.agg #[iw 2,iw x,iw 1,sw eb,iw 0])) ?_
 refine go ?_;refine ad [.agg #[iw 2,iw x,iw 1,sw eb,iw 0]] [] (SI.agg 2 71 0 SI.nil) (rr [] [0]) ⟨?_,rfl⟩;show Value.agg _=Vl.v (ey x);unfold ey;rw[if_neg om]
theorem NG(x:Int):NF 242 #[iw x] Z [] ((ey x).v):=by
 refine bx Tryz.func242 13 [(0,iw x)] (fun w0=>?_);refine bn ?_;refine ae (.agg zc) zc (fun g1=>?_);refine bH<|aE<|b6 (ι:=Unit) (fun _=>True) (fun _=>[(0,iw x),(2,pB g1 0),(8,.bool ((decide (x<(-2147483647)))||(decide ((2147483647:Int)<x))))]) (fun _=>[aa g1 zc 71]) ?_ (fun _ _=>?_)
 .refine gc ?_;refine eF 5 (fun p3=>?_) (fun p4=>?_)
  .refine go ?_;exact xC
  refine gc ?_;exact xC
 refine kd (fun c5=>?_) (fun c5=>?_)
 .have p6:=c5;simp only[Bool.and_eq_true,Bool.or_eq_true,Bool.and_eq_false_iff,Bool.or_eq_false_iff,Bool.not_eq_true',Bool.not_eq_false',decide_eq_true_eq,decide_eq_false_iff_not]at p6;refine gy ?_;refine ad [.agg zc] [] (SI.agg 2 71 0 SI.nil) (rr [] [0]) ⟨?_,rfl⟩;show Value.agg _=Vl.v (ey x);unfold ey;rw[if_pos om];rfl
 obtain⟨c7,c8⟩:=l5 c5;have p9:=dF c7;have gQ:=dF c8;refine go ?_;refine sL (ay (.agg #[iw x,iw 1]))<|sL (ay (.agg #[iw 2,iw x,iw 1,sw eb,iw 0])) ?_
 refine go ?_;refine ad [.agg #[iw 2,iw x,iw 1,sw eb,iw 0]] [] (SI.agg 2 71 0 SI.nil) (rr [] [0]) ⟨?_,rfl⟩;show Value.agg _=Vl.v (ey x);unfold ey;rw[if_neg om]
theorem rT(x:Int):NF 200 #[iw x] Z [] ((ey x).v):=by
 refine bO Tryz.func200 5 (fun w0=>?_);refine bn<|ae (.agg zc) zc (fun g1=>?_)
 refine pA<|sP (iw x)<|sV (fun _ h=>NG x) ?_
 refine go ?_;refine ad [.agg (vc (ey x))] [] (SI.agg 2 71 0 SI.nil) rA ⟨?_,rfl⟩;rfl
theorem qu(k:Vl):NF 192 #[k.v] Z [] (.tuple #[iw k.p,.bool (mB k)]):=by
 refine bO Tryz.func192 20 (fun w0=>?_);refine gA fun g1=>?_
 refine br [aa g1 (vc k) 71] ?_;refine gH [0,1,2,3,4,5,6] [0] ?_;refine qh 10 (decide (k.kind=2)) (fun c2=>?_) (fun c2=>?_)
 .have p3:=dY c2;refine gH [7,8,9,10,11,12] [0] ?_;refine qh 16 (decide (k.q=1)) (fun c4=>?_) (fun c4=>?_)
  .have p5:=dY c4;refine gH [13] [0] ?_;refine ag 14 ?_;refine sV (fun _ h=>lb k)<|nH [0] ?_
   refine gH [15,16,17] [0] ?_;refine aI ?_;refine ax<|eM<|ad _ _ (SI.tmp 2 (SI.tmp 3 SI.nil)) rA ⟨?_,rfl⟩
   show Value.tuple #[iw k.p,.bool (au k)]=Value.tuple #[iw k.p,.bool (mB k)];unfold mB;simp[c2,c4]
  have p6:=dF c4;refine Jw 13 [0] ?_;refine ag 14 ?_;refine sK<|nH [0] ?_
  refine gH [15,16,17] [0] ?_;refine aI ?_;refine ax<|eM<|ad _ _ (SI.tmp 2 (SI.tmp 3 SI.nil)) rA ⟨?_,rfl⟩
  show Value.tuple #[iw k.p,.bool false]=Value.tuple #[iw k.p,.bool (mB k)];unfold mB;simp[c2,c4]
 have p7:=dF c2;refine Jw 7 [0] ?_;refine Jw 8 [0] ?_;refine Jw 9 [0] ?_;refine Jw 10 [0] ?_;refine gH [11,12] [0] ?_;refine Jw 13 [0] ?_;refine ag 14 ?_;refine sK<|nH [0] ?_
 refine gH [15,16,17] [0] ?_;refine aI ?_;refine ax<|eM<|ad _ _ (SI.tmp 2 (SI.tmp 3 SI.nil)) rA ⟨?_,rfl⟩
 show Value.tuple #[iw k.p,.bool false]=Value.tuple #[iw k.p,.bool (mB k)];unfold mB;simp[c2]
theorem SZ:SF Tryz.prog 73 #[] Z [] fun r Bs=>∃b,r=pB b 0∧Bs=[jf b [] []]:=by
 refine bO Tryz.func73 4 (fun w0=>?_);refine go ?_;refine a6 (fun _ h=>HZ) ?_;rintro _ _ ⟨r1,rfl,rfl⟩;refine sL (ay (.agg #[nS,pB r1 0]))<|bj #[nS,pB r1 0] (fun g2=>?_)
 refine go ?_;refine ad _ _ (SI.tmp 0 SI.nil) (fun _ h=>cN (b:=g2) (lv:=nS) (r:=r1) ((Holds.nilS (T:=bq) h).re [1,0,0] [])) ⟨g2,rfl,rfl⟩
theorem S0(hl:L.length≤1000000)(k:Vl):NF 211 #[pB b 0,k.v] Z (jf b L S::F) ((kp ⟨L,S⟩ k).v):=by
 refine bO Tryz.func211 48 (fun w0=>?_);refine bn ?_;refine gA fun g1=>?_
 refine gA fun g2=>?_
 refine gV ?_ (c:=fun _ h=>lb k);refine kd (fun c3=>?_) (fun c3=>?_)
 .have c4:=cO c3;refine gy ?_;refine ad [.agg zc] (jf b L S::F) (SI.agg 4 71 0 SI.nil) rA ⟨?_,rfl⟩;rw[kr c4];rfl
 have c5:=cu c3;refine go ?_;refine iV (fun _ h=>qu k) ?_;rintro u6 e7;rcases qi k with ⟨BD,hp9,abX⟩|⟨ta,ajd⟩
 .rw [BD,hp9]at e7;subst e7;refine gc ?_;refine eF 25 (fun iU=>?_) (fun nQ=>?_)
  .refine go ?_;refine cF (fun H h=>fO (rB h)) (fun ae1 r16 hw=>?_);refine fk (fun jW=>?_) (fun oQ=>?_)
   .obtain ⟨y19,S5⟩:∃y,L[(((whole k)-1)).toNat]?=some y:=⟨_,List.getElem?_eq_getElem ol⟩;refine gy ?_;refine ab (fun _ h=>cN (rB h)) ?_;refine ad [.agg (vc y19)] (jf b L S::F) (SI.agg 4 71 1 SI.nil) rA ⟨?_,rfl⟩;rw[wG (T:=⟨L,S⟩) c5 om (by show _≤(L.length:Int);omega) S5];rfl
   refine gC [2] ?_ (c:=qp (S:=S) k);refine ab (fun _ h=>cN (rB h)) ?_;refine ad [.agg (vc (ei S k))] (jf b L S::F) (SI.agg 4 71 1 SI.nil) rA ⟨?_,rfl⟩;rw[mW (T:=⟨L,S⟩) c5 (by show ¬(_∧_≤(L.length:Int));omega)];rfl
  refine go ?_;refine cF (fun H h=>fO (rB h)) (fun aje r24 hw=>?_);refine gC [2] ?_ (c:=qp (S:=S) k);refine ab (fun _ h=>cN (rB h)) ?_;refine ad [.agg (vc (ei S k))] (jf b L S::F) (SI.agg 4 71 1 SI.nil) rA ⟨?_,rfl⟩;rw[mW (T:=⟨L,S⟩) c5 (by show ¬(_∧_≤(L.length:Int));omega)];rfl
 rw[ta]at e7;subst e7;refine go ?_;refine cF (fun H h=>fO (rB h)) (fun S6 r26 hw=>?_);refine gC [2] ?_ (c:=qp (S:=S) k);refine ab (fun _ h=>cN (rB h)) ?_;refine ad [.agg (vc (ei S k))] (jf b L S::F) (SI.agg 4 71 1 SI.nil) rA ⟨?_,rfl⟩;rw[mW (T:=⟨L,S⟩) c5 (by show ¬(_∧_≤(L.length:Int));omega)];rfl
theorem F3(hl:L.length≤1000000):MF 193 #[pB b 0] Z (jf b L S::F) (.tuple #[]) (jf b (shr L) S::F):=by
 refine bO Tryz.func193 34 (fun w0=>?_);refine gy ?_;refine cF (fun H h=>fO (rB h)) (fun lv1 r2 hw=>?_);refine gy ?_;refine aK (fun _ h=>cN (rB h)) ?_;refine aD (ι:=Nat) (fun n=>n≤L.length∧shr L=shr (L.take n)) (fun n=>[(0,pB b 0),(2,iw (n:Int))]) (fun n=>jf b L S::F) (fun n=>n) L.length ⟨Nat.le_refl _,by rw[List.take_length]⟩ sA rA ?_;rintro n gE;try dsimp only at gE⊢
 refine gc ?_;refine eF 10 (fun p5=>?_) (fun iU=>?_)
 .refine gy ?_;refine cF (fun H h=>fO (rB h)) (fun lv6 r7 hw=>?_);refine go ?_;refine sL (fX (n:Int) 1 ol) ?_;refine sL (aF aZ Tryz.underlying28 (.own 1) ((n:Int)-1) (n-1) om ol om) ?_;refine go ?_;obtain⟨y8,oH⟩:∃y,L[(n-1)]?=some y:=⟨_,List.getElem?_eq_getElem ol⟩;refine fk (fun im=>?_) (fun my=>?_)
  .refine gy ?_;refine ab (fun _ h=>cN (rB h)) ?_;exact az (n-1) om ⟨by omega,by rw[←Dl (n:=n-1) om oH om,show n-1+1=n by omega];exact gE.2⟩ (bc rfl (rQ ⟨⟨rfl,cI om⟩,trivial⟩)) rA
  refine go ?_;refine sL (M9 aZ Tryz.underlying28 (.own 1) (n:Int) n om ol om) ?_;refine gy ?_;refine aC (fun _ h=>Holds.pre3 (i:=1) h aZ n rfl ol) ?_;skip;refine gy ?_;refine ab (fun _ h=>cN (rB h)) ?_;have hS:shr L=L.take n:=by rw[gE.2,show n=n-1+1 by omega];exact Dm oH om
  refine eN [] (jf b (L.take n) S::F) SI.nil rA ⟨rfl,?_⟩;rw[hS]
 refine go ?_;refine cF (fun H h=>fO (rB h)) (fun ae1 r16 hw=>?_);refine go ?_;refine sL (M9 aZ Tryz.underlying28 (.own 1) (n:Int) n om ol om) ?_;refine gy ?_;refine aC (fun _ h=>Holds.pre3 (i:=1) h aZ n rfl ol) ?_;skip;refine gy ?_;refine ab (fun _ h=>cN (rB h)) ?_;have hS:shr L=L.take n:=by obtain rfl:n=0:=om;rw[gE.2];rfl
 refine eN [] (jf b (L.take n) S::F) SI.nil rA ⟨rfl,?_⟩;rw[hS]
theorem rU(S:List cY){m:Nat}(h:n≤m):(ck S n m||decide ((aA S (ey ((m:Int)+1))).2.2.2=0))=ck S n (m+1):=by
 rw[Dp S h,M3];cases Js S (ey ((m:Int)+1))<;>simp
theorem wJ{L':List Vl}(h:grow S (S.length+2) L v=L'):pt ⟨L,S⟩ v=⟨L',if ck S L.length L'.length then iJ S L'.length else S⟩:=by
 unfold pt;simp only[h]
theorem xR(S:List cY)(m i:Nat):(dZ S m i).length≤S.length:=by
 unfold dZ;refine Nat.le_trans (List.length_filter_le _ _) ?_;rw[List.length_take];have:=fi S;unfold fo at this;omega
theorem tc(S:List cY):(dP S).length=(live S).length:=by unfold dP;simp
theorem NH(S:List cY)(n:Nat)(v:Vl):mu S n v≤S.length+1:=by
 unfold mu;have:=HO S (n+1);split<;>omega
theorem H7(hl:L.length≤100000)(hs:S.length≤100000)(v:Vl):MF 194 #[pB b 0,v.v] Z (jf b L S::F) (.tuple #[]) (jf b (pt ⟨L,S⟩ v).list (pt ⟨L,S⟩ v).rest::F):=by
 refine bx Tryz.func194 107 [(0,pB b 0),(1,.agg (vc v))] (fun w0=>?_);refine bk (fun H h=>X1 (h.re [0] [])) (fun bD=>?_);have LO:=jX S;refine bn ?_;refine bj (vc v) (fun g1=>?_);refine go ?_;refine mC (fun H h=>fO (h.re [1] [])) (fun CM r3 hw=>?_);have abY:=NH S L.length v;refine aD (ι:=Value×List Vl×Vl×Nat) (fun (lx,X,x,f)=>grow S (S.length+2) L v=grow S f X x∧mu S X.length x≤f∧L.length≤X.length∧X.length+mu S X.length x≤L.length+S.length+1) (fun (lx,X,x,f)=>[(0,pB b 0),(3,pB g1 0),(4,.bool (ck S L.length X.length))]) (fun (lx,X,x,f)=>aa b #[lx,pB r3 0] 185::own bq lx X::jE r3 S::aa g1 (vc x) 71::F) (fun (lx,X,x,f)=>mu S X.length x) (CM,L,v,S.length+2) ⟨rfl,by omega,by omega,by omega⟩ (bc rfl (rQ (rQ ⟨⟨rfl,cB (vt S L.length).symm⟩,trivial⟩))) (rr [0,0,0,0] []) ?_;rintro⟨lx,X,x,f⟩ fA;try dsimp only at fA⊢
 refine gc ?_;refine b9 (fun p6=>?_) (fun q5=>?_)
 .have AE:x.kind≠0:=p6;obtain⟨f1,NI,X2⟩:=grow_step S X AE fA.2.1;have RC:grow S (S.length+2) L v=grow S (f-1) (X++[x]) (ei S (ey ((X.length:Int)+2))):=by rw[fA.1,X2,NI];rfl
  refine go ?_;refine ah (e:=71) [(0,.agg (vc x))] (vc x) (fun g7=>?_) (hb:=by kernel_rfl);refine aq (L:=X) 2 aZ Tryz.underlying28 (.lit 0 aZ [x]) (by show _*48≤_;(try simp only[cD]);omega) ol (fun v8=>?_);obtain⟨L2,NJ⟩:∃y,y=X++[x]:=⟨_,rfl⟩;rw[←NJ];have NK:L2.length=X.length+1:=by rw[NJ];simp
  refine oN (pB b 0)<|sF 2 (fun mw=>?_)
  refine ar (u:=v8) (m:=1) 1 #[v8,pB r3 0] ?_ (hm:=by (obtain⟨_,_,e⟩:=mw;rw[e];rfl)) (h1:=by (obtain⟨_,_,e⟩:=mw;rw[e];rfl)) (ha':=by (obtain⟨_,_,e⟩:=mw;rw[e];rfl));refine go ?_;refine br [aa g7 (vc x) 71,aa b #[v8,pB r3 0] 185,own bq v8 L2,aa g1 (vc x) 71] ?_;refine gH [0,1,2,3,4,5,6,7] [0,0,0,1] ?_;refine fK 8 rfl [0,0,0,1] (fun _=>(bL aZ Tryz.underlying28 (.own 2))) ?_;refine ba (ι:=Nat×Nat) 4 (tf [18,4]) (fun (g12,g13)=>[(0,pB b 0),(3,pB g1 0),(4,.bool (ck S L.length X.length)),(5,pB g12 0),(6,pB g13 0),(39,.agg (vc ((aA S (ey ((X.length:Int)+1))).1))),(40,.agg (vc ((aA S (ey ((X.length:Int)+1))).2.1))),(41,.bool ((aA S (ey ((X.length:Int)+1))).2.2.1)),(42,iw ((aA S (ey ((X.length:Int)+1))).2.2.2))]) (fun (g12,g13)=>aa g13 zc 71::aa g12 zc 71::jE r3 S::aa g7 (vc x) 71::aa b #[v8,pB r3 0] 185::own bq v8 L2::aa g1 (vc x) 71::F) ?_ (fun X3=>?_)
  .rintro ⟨g12,g13⟩;try dsimp only
   refine ag 18 ?_;refine gh ?_;refine nH [3,3,3,3]<|ag 19 ?_
   refine gh ?_;refine nH [3,3,3,3] ?_;refine gH [20,21] [3,3,3,3] ?_;refine aI ?_;refine ax<|b6 (ι:=Unit) (fun _=>True) (fun _=>[(0,pB b 0),(3,pB g1 0),(4,.bool ((ck S L.length X.length)||(decide ((aA S (ey ((X.length:Int)+1))).2.2.2=0))))]) (fun _=>aa g13 (vc ((aA S (ey ((X.length:Int)+1))).2.1)) 71::aa g12 (vc ((aA S (ey ((X.length:Int)+1))).1)) 71::jE r3 S::aa g7 (vc x) 71::aa b #[v8,pB r3 0] 185::own bq v8 L2::aa g1 (vc x) 71::F) ?_ (fun _ _=>?_)
   .refine go ?_;refine oW 44 (fun nR=>?_) (fun nR=>?_)
    .refine go ?_;exact xC
    refine gc ?_;exact xC
   refine br [aa g13 (vc ((aA S (ey ((X.length:Int)+1))).2.1)) 71,aa g12 (vc ((aA S (ey ((X.length:Int)+1))).1)) 71,aa g7 (vc x) 71,aa b #[v8,pB r3 0] 185,own bq v8 L2] ?_;refine gH [0,1,2,3,4,5,6,7] [0,0,1,1,1] ?_;refine fK 8 rfl [0,0,1,1,1] (fun _=>(bL aZ Tryz.underlying28 (.own 4))) ?_;refine fK 9 rfl [0,0,1,1,1] (fun _=>(Lt.to (v':=iw ((X.length:Int)+2)) (bX (L2.length:Int) 1 om) (cI om))) ?_;refine ag 10 ?_;refine sV (fun _ h=>qt ((X.length:Int)+2))<|nH [0,0,1,1,1]<|ag 11 ?_
   refine sC [2] (qp (S:=S) (ey ((X.length:Int)+2))) ?_;refine nH [1,1,1,1,1]<|ag 12 ?_
   refine gh ?_;refine nH [1,1,1,1,1]<|aI ?_
   refine gy ?_;have dM:((ck S L.length X.length)||(decide ((aA S (ey ((X.length:Int)+1))).2.2.2=0)))=ck S L.length L2.length:=by rw[NK,←rU S fA.2.2.1]
   rw[dM];exact az (v8,L2,(ei S (ey ((X.length:Int)+2))),f-1) (by show mu S _ _<mu S _ _;rw[NK];exact sU bD AE) (by show grow S (S.length+2) L v=_∧_;exact⟨by rw[RC,NJ],by rw[NK];have:=sU bD (n:=X.length) AE;(try dsimp only);omega,by (try dsimp only);omega,by rw[NK];have:=sU bD (n:=X.length) AE;(try dsimp only);omega⟩) sA (rr [4,4,0,3] [4,4,4])
  refine ba (ι:=Nat) 5 (tf [17,5]) (fun g12=>[(0,pB b 0),(3,pB g1 0),(4,.bool (ck S L.length X.length)),(5,pB g12 0),(39,.agg (vc ((aA S (ey ((X.length:Int)+1))).1))),(40,.agg (vc ((aA S (ey ((X.length:Int)+1))).2.1))),(41,.bool ((aA S (ey ((X.length:Int)+1))).2.2.1)),(42,iw ((aA S (ey ((X.length:Int)+1))).2.2.2))]) (fun g12=>aa g12 zc 71::jE r3 S::aa g7 (vc x) 71::aa b #[v8,pB r3 0] 185::own bq v8 L2::aa g1 (vc x) 71::F) ?_ (fun abZ=>?_)
  .rintro g12;try dsimp only
   refine ag 17 ?_;refine ae (.agg zc) zc (fun m4=>?_);refine nH [3,3,3,3] ?_;exact aB X3 (g12,m4) (rr [0,0,0,0,0,0,0] [])
  refine ba (ι:=Nat) 5 (tf [16,1,1,4]) (fun g14=>[(0,pB b 0),(3,pB g1 0),(4,.bool (ck S L.length X.length)),(6,pB g14 0),(39,.agg (vc ((aA S (ey ((X.length:Int)+1))).1))),(40,.agg (vc ((aA S (ey ((X.length:Int)+1))).2.1))),(41,.bool ((aA S (ey ((X.length:Int)+1))).2.2.1)),(42,iw ((aA S (ey ((X.length:Int)+1))).2.2.2))]) (fun g14=>aa g14 zc 71::jE r3 S::aa g7 (vc x) 71::aa b #[v8,pB r3 0] 185::own bq v8 L2::aa g1 (vc x) 71::F) ?_ (fun ab0=>?_)
  .rintro g14;try dsimp only
   refine ag 16 ?_;refine ae (.agg zc) zc (fun NM=>?_);refine nH [3,3,3,3] ?_;exact aB X3 (NM,g14) (rr [1,0,0,0,0,0,0] [])
  refine ba (ι:=Nat×Nat) 10 (tf [10,6,2,4]) (fun (g16,g17)=>[(0,pB b 0),(3,pB g1 0),(4,.bool (ck S L.length X.length)),(5,pB g16 0),(6,pB g17 0),(31,pB r3 0),(37,.agg (vc (ey ((X.length:Int)+1))))]) (fun (g16,g17)=>aa g17 zc 71::aa g16 zc 71::aa g7 (vc x) 71::aa b #[v8,pB r3 0] 185::own bq v8 L2::jE r3 S::aa g1 (vc x) 71::F) ?_ (fun X4=>?_)
  .rintro ⟨g16,g17⟩;try dsimp only
   refine ag 10 ?_;refine sC [5] (eo (S:=S) ol (ey ((X.length:Int)+1))) ?_;refine nH [3,3,3,3] ?_;refine gH [11,12,13,14,15] [3,3,3,3] ?_;exact aB X3 (g16,g17) (rr [1,1,0,0,0,0,0] [])
  refine ba (ι:=Nat) 11 (tf [10,6,1,5]) (fun g16=>[(0,pB b 0),(3,pB g1 0),(4,.bool (ck S L.length X.length)),(5,pB g16 0),(31,pB r3 0),(37,.agg (vc (ey ((X.length:Int)+1))))]) (fun g16=>aa g16 zc 71::aa g7 (vc x) 71::aa b #[v8,pB r3 0] 185::own bq v8 L2::jE r3 S::aa g1 (vc x) 71::F) ?_ (fun NN=>?_)
  .rintro g16;try dsimp only
   refine aN 10 17 ?_ ?_
   .refine sC [4] (eo (S:=S) ol (ey ((X.length:Int)+1))) ?_;refine nH [2,2,2,2] ?_;refine gH [11,12,13,14,15] [2,2,2,2] ?_;exact aB abZ g16 (rr [1,0,0,0,0,0] [])
   refine ae (.agg zc) zc (fun g38=>?_);refine nH [2,2,2,3] ?_;exact aB X4 (g16,g38) (rr [0,0,0,0,0,0,0] [])
  refine ba (ι:=Nat) 11 (tf [10,7,1,4]) (fun g18=>[(0,pB b 0),(3,pB g1 0),(4,.bool (ck S L.length X.length)),(6,pB g18 0),(31,pB r3 0),(37,.agg (vc (ey ((X.length:Int)+1))))]) (fun g18=>aa g18 zc 71::aa g7 (vc x) 71::aa b #[v8,pB r3 0] 185::own bq v8 L2::jE r3 S::aa g1 (vc x) 71::F) ?_ (fun ab1=>?_)
  .rintro g18;try dsimp only
   refine aN 10 16 ?_ ?_
   .refine sC [4] (eo (S:=S) ol (ey ((X.length:Int)+1))) ?_;refine nH [2,2,2,2] ?_;refine gH [11,12,13,14,15] [2,2,2,2] ?_;exact aB ab0 g18 (rr [1,0,0,0,0,0] [])
   refine ae (.agg zc) zc (fun nB=>?_);refine nH [2,2,2,3] ?_;exact aB X4 (nB,g18) (rr [1,0,0,0,0,0,0] [])
  refine ba (ι:=Nat×Nat) 11 (tf [9,7,2,4]) (fun (g20,g23)=>[(0,pB b 0),(3,pB g1 0),(4,.bool (ck S L.length X.length)),(5,pB g20 0),(6,pB g23 0),(31,pB r3 0),(36,iw (L2.length:Int))]) (fun (g20,g23)=>aa g23 zc 71::aa g20 zc 71::aa g7 (vc x) 71::aa b #[v8,pB r3 0] 185::own bq v8 L2::jE r3 S::aa g1 (vc x) 71::F) ?_ (fun ab2=>?_)
  .rintro ⟨g20,g23⟩;try dsimp only
   refine ag 9 ?_;refine iV (fun _ h=>qt (L2.length:Int)) ?_;rintro u43 e42;obtain rfl:u43=(ey ((X.length:Int)+1)).v:=by rw[e42,show (L2.length:Int)=(X.length:Int)+1 by omega]
   refine nH [2,2,2,3] ?_;exact aB X4 (g20,g23) (rr [0,0,0,0,0,0,0] [])
  refine dR 9 16 17 ?_ ?_ ?_
  .refine iV (fun _ h=>qt (L2.length:Int)) ?_;rintro u45 e44;obtain rfl:u45=(ey ((X.length:Int)+1)).v:=by rw[e44,show (L2.length:Int)=(X.length:Int)+1 by omega]
   refine nH [0,0,0,1]<|dR 10 16 17 ?_ ?_ ?_
   .refine sC [3] (eo (S:=S) ol (ey ((X.length:Int)+1))) ?_;refine nH [1,1,1,1] ?_;refine gH [11,12,13,14,15] [1,1,1,1] ?_;refine aN 16 17 ?_ ?_
    .refine ae (.agg zc) zc (fun Ra=>?_);refine nH [2,2,2,2] ?_;exact aB abZ Ra (rr [0,0,0,0,0,0] [])
    refine ae (.agg zc) zc (fun wc=>?_);refine nH [2,2,2,2] ?_;exact aB ab0 wc (rr [0,0,0,0,0,0] [])
   .refine ae (.agg zc) zc (fun S7=>?_);refine nH [1,1,1,2] ?_;exact aB NN S7 (rr [0,0,0,0,0,0] [])
   refine ae (.agg zc) zc (fun F4=>?_);refine nH [1,1,1,2] ?_;exact aB ab1 F4 (rr [0,0,0,0,0,0] [])
  .refine ae (.agg zc) zc (fun g50=>?_);refine nH [1,1,1,2]<|aN 9 17 ?_ ?_
   .refine iV (fun _ h=>qt (L2.length:Int)) ?_;rintro u52 e51;obtain rfl:u52=(ey ((X.length:Int)+1)).v:=by rw[e51,show (L2.length:Int)=(X.length:Int)+1 by omega]
    refine nH [1,1,1,2] ?_;exact aB NN g50 (rr [0,0,0,0,0,0] [])
   refine ae (.agg zc) zc (fun zE=>?_);refine nH [2,2,2,3] ?_;exact aB ab2 (g50,zE) (rr [0,0,0,0,0,0,0] [])
  refine ae (.agg zc) zc (fun Fe=>?_);refine nH [1,1,1,2]<|aN 9 16 ?_ ?_
  .refine iV (fun _ h=>qt (L2.length:Int)) ?_;rintro u56 e55;obtain rfl:u56=(ey ((X.length:Int)+1)).v:=by rw[e55,show (L2.length:Int)=(X.length:Int)+1 by omega]
   refine nH [1,1,1,2] ?_;exact aB ab1 Fe (rr [0,0,0,0,0,0] [])
  refine ae (.agg zc) zc (fun JZ=>?_);refine nH [2,2,2,3] ?_;exact aB ab2 (JZ,Fe) (rr [1,0,0,0,0,0,0] [])
 have JM:=Decidable.not_not.1 q5;have AE:x.kind=0:=Decidable.not_not.1 q5;have hgr:grow S (S.length+2) L v=X:=by rw[fA.1];exact uC S X AE
 refine go ?_;refine kd (fun c59=>?_) (fun c59=>?_)
 .have c60:=cO c59;refine gy ?_;refine ab (fun _ h=>cN (h.re [0,0,0] [])) ?_;have hT:pt ⟨L,S⟩ v=⟨X,S⟩:=by rw[wJ hgr,if_neg (by rw[c60];decide)]
  refine ad [] (jf b X S::F) SI.nil (rr [0] [1]) ⟨rfl,?_⟩;rw[hT]
 have c61:=cu c59;refine gy ?_;refine a6 (fun _ h=>HZ) ?_;rintro _ _ ⟨r62,rfl,rfl⟩;refine go ?_;refine aH [3] (Nu (S:=S) ol) ?_;rintro v63 _ rfl;skip;refine gy ?_;refine aD (ι:=Nat) (fun i=>i≤(dP S).length) (fun i=>[(0,pB b 0),(9,pB r62 0),(67,v63),(68,iw ((dP S).length:Int)),(69,iw (i:Int))]) (fun i=>own bq v63 (dP S)::jE r3 S::jE r62 (dZ S X.length i)::aa b #[lx,pB r3 0] 185::own bq lx X::aa g1 (vc x) 71::F) (fun i=>(dP S).length-i) 0 (Nat.zero_le _) sA (rr [0,0,0,0,0,0] []) ?_;rintro i X5;try dsimp only at X5⊢
 have WY:=xR S X.length i;refine gc ?_;refine b9 (fun X6=>?_) (fun p89=>?_)
 .refine gy ?_;obtain⟨y68,X7⟩:∃y,(dP S)[i]?=some y:=⟨_,List.getElem?_eq_getElem ol⟩;obtain⟨Fg,X8,rfl⟩:=Aq X7;refine gy ?_;refine ae (.agg zc) zc (fun Fh=>?_);refine go ?_;refine iV (fun _ h=>qu Fg.key) ?_;rintro u73 e74;rcases qi Fg.key with ⟨S8,ae2,ae3⟩|⟨ae4,ajf⟩
  .rw [S8,ae2]at e74;subst e74;refine gs ?_;refine b6 (ι:=Unit) (fun _=>True) (fun _=>[(0,pB b 0),(9,pB r62 0),(11,pB Fh 0),(67,v63),(68,iw ((dP S).length:Int)),(69,iw (i:Int)),(92,.bool ((decide ((whole Fg.key)<1))||(decide ((X.length:Int)<(whole Fg.key)))))]) (fun _=>aa Fh (vc Fg.key) 71::own bq v63 (dP S)::jE r3 S::jE r62 (dZ S X.length i)::aa b #[lx,pB r3 0] 185::own bq lx X::aa g1 (vc x) 71::F) ?_ (fun _ _=>?_)
   .refine gc ?_;refine eF 84 (fun p81=>?_) (fun p82=>?_)
    .refine go ?_;exact xC
    refine gy ?_;exact xC
   refine kd (fun c83=>?_) (fun c83=>?_)
   .have X9:=c83;simp only[Bool.and_eq_true,Bool.or_eq_true,Bool.and_eq_false_iff,Bool.or_eq_false_iff,Bool.not_eq_true',Bool.not_eq_false',decide_eq_true_eq,decide_eq_false_iff_not]at X9;refine br [aa Fh (vc Fg.key) 71,own bq v63 (dP S),aa b #[lx,pB r3 0] 185,own bq lx X,aa g1 (vc x) 71] ?_;refine gH [0,1,2,3,4,5,6] [0,0,2,2,2] ?_;refine ag 7 ?_;refine sC [2] (qp (S:=S) Fg.key) ?_;refine nH [1,1,2,2,2]<|ag 8 ?_
    refine sC [3] (nU (S:=(dZ S X.length i)) ol Fg.key (ei S Fg.key)) ?_;refine nH [2,2,2,2,2]<|aI ?_
    refine gy ?_;have J0:=jV bD (m:=X.length) X8;have NO:uA (whole Fg.key) X.length=false:=dQ om;have F5:=J0.1 NO;rw[F5];exact az (i+1) om om sA (rr [3,1,0,1,1,1] [6])
   obtain⟨c85,c86⟩:=l5 c83;have p87:=dF c85;have p88:=dF c86;refine gy ?_;have J0:=jV bD (m:=X.length) X8;have NO:uA (whole Fg.key) X.length=true:=eY.2 om;have F5:=J0.2 NO;rw[F5];exact az (i+1) om om sA (rr [1,1,1,1,1,1] [6])
  rw[ae4]at e74;subst e74;refine go ?_;refine br [aa Fh (vc Fg.key) 71,own bq v63 (dP S),aa b #[lx,pB r3 0] 185,own bq lx X,aa g1 (vc x) 71] ?_;refine gH [0,1,2,3,4,5,6] [0,0,2,2,2] ?_;refine ag 7 ?_;refine sC [2] (qp (S:=S) Fg.key) ?_;refine nH [1,1,2,2,2]<|ag 8 ?_
  refine sC [3] (nU (S:=(dZ S X.length i)) ol Fg.key (ei S Fg.key)) ?_;refine nH [2,2,2,2,2]<|aI ?_
  refine gy ?_;have J0:=jV bD (m:=X.length) X8;have NO:uA (whole Fg.key) X.length=false:=dQ om;have F5:=J0.1 NO;rw[F5];exact az (i+1) om om sA (rr [3,1,0,1,1,1] [6])
 refine go ?_;refine ab (fun _ h=>cN (h.re [3,3,2] [])) ?_;have F5:dZ S X.length i=iJ S X.length:=Ar S X.length i (by rw[←tc];omega);have hT:pt ⟨L,S⟩ v=⟨X,dZ S X.length i⟩:=by rw[wJ hgr,if_pos c61,F5]
 refine eN [] (jf b X (dZ S X.length i)::F) SI.nil (rr [0] [1,1,1]) ⟨rfl,?_⟩;rw[hT]
theorem qw(h:cS k=false):mV k v=13:=by unfold mV;rw[if_pos h]
theorem AF(h:cS k=true)(hv:au v=false):mV k v=2:=by unfold mV;rw[if_neg (by rw[h];decide),if_pos hv]
theorem ep(h:cS k=true)(hv:au v=true):mV k v=0:=by unfold mV;rw[if_neg (by rw[h];decide),if_neg (by rw[hv];decide)]
theorem gM(k v:Vl):mV k v=jN k v:=rfl
theorem S9(Rc:kM ⟨L,S⟩)(hl:L.length≤100000)(hs:S.length≤100000)(k v:Vl):MF 144 #[pB b 0,k.v,v.v] Z (jf b L S::F) (iw (mV k v)) (jf b (ez ⟨L,S⟩ k v).list (ez ⟨L,S⟩ k v).rest::F):=by
 refine bO Tryz.func144 86 (fun w0=>?_);refine bn ?_;refine bj (vc k) (fun g1=>?_);refine bj (vc v) (fun g2=>?_);refine gc ?_;refine oW 14 (fun c3=>?_) (fun c3=>?_)
 .have p4:=dY c3;refine go ?_;have hk:cS k=false:=js (by first|exact p4|exact .inl p4|exact .inr p4);refine ad [iw 13] (jf b L S::F) (SI.tmp 6 SI.nil) rA ⟨cI (qw hk).symm,?_⟩;rw[mX (v:=v) (.inl hk)]
 have p5:=dF c3;refine gV ?_ (c:=fun _ h=>lb k);refine kd (fun c6=>?_) (fun c6=>?_)
 .have c7:=cO c6;refine go ?_;have hk:cS k=false:=js (by first|exact c7|exact .inl c7|exact .inr c7);refine ad [iw 13] (jf b L S::F) (SI.tmp 6 SI.nil) rA ⟨cI (qw hk).symm,?_⟩;rw[mX (v:=v) (.inl hk)]
 have c8:=cu c6;refine gV ?_ (c:=fun _ h=>lb v);refine kd (fun c9=>?_) (fun c9=>?_)
 .have l4:=cO c9;refine go ?_;have hk:=aX c3 c8;refine ad [iw 2] (jf b L S::F) (SI.tmp 6 SI.nil) rA ⟨cI (AF hk l4).symm,?_⟩;rw[mX (v:=v) (.inr l4)]
 have ff:=cu c9;refine go ?_;refine iV (fun _ h=>qu k) ?_;rintro u12 e13;rcases qi k with ⟨F6,ae5,ajg⟩|⟨td,ajh⟩
 .rw [F6,ae5]at e13;subst e13;refine gc ?_;refine eF 40 (fun zj=>?_) (fun zB=>?_)
  .refine go ?_;refine cF (fun H h=>fO (rB h)) (fun ae6 r22 hw=>?_);refine gy ?_;refine b9 (fun kU=>?_) (fun oE=>?_)
   .refine gy ?_;obtain⟨y25,J1⟩:∃y,L[(((whole k)-1)).toNat]?=some y:=⟨_,List.getElem?_eq_getElem ol⟩;refine dX 1 0 v aZ J1 ?_;refine gy ?_;refine b9 (fun pD=>?_) (fun Dt=>?_)
    .refine gy ?_;refine aC (fun _ h=>cN (rB h)) ?_;refine gC [0] ?_ (c:=F3 (L:=(L.set ((((whole k)-1)).toNat) v)) (S:=S) ol);have hk:=aX c3 c8;have Jp:(L.set (whole k-1).toNat v).length=L.length:=List.length_set;have hT:ez ⟨L,S⟩ k v=⟨(shr (L.set ((((whole k)-1)).toNat) v)),S⟩:=by rw[sW (T:=⟨L,S⟩) hk ff om (by show _≤(L.length:Int);omega)]
     refine ad [iw 0] (jf b (shr (L.set ((((whole k)-1)).toNat) v)) S::F) (SI.tmp 6 SI.nil) rA ⟨cI (ep hk ff).symm,?_⟩;rw[hT]
    refine go ?_;have hk:=aX c3 c8;refine ab (fun _ h=>cN (rB h)) ?_;have Jp:(L.set (whole k-1).toNat v).length=L.length:=List.length_set;have hT:ez ⟨L,S⟩ k v=⟨(L.set ((((whole k)-1)).toNat) v),S⟩:=by rw[sW (T:=⟨L,S⟩) hk ff om (by show _≤(L.length:Int);omega)];show (⟨shr (L.set _ v),S⟩:Tb)=_;rw[Sd Rc.last (by show _≠L.length;omega)]
    refine ad [iw 0] (jf b (L.set ((((whole k)-1)).toNat) v) S::F) (SI.tmp 6 SI.nil) rA ⟨cI (ep hk ff).symm,?_⟩;rw[hT]
   refine gy ?_;refine eF 78 (fun uI=>?_) (fun jr=>?_)
   .refine gc ?_;refine b9 (fun kt=>?_) (fun q33=>?_)
    .refine go ?_;refine aC (fun _ h=>cN (rB h)) ?_;refine gC [0] ?_ (c:=H7 (L:=L) (S:=S) ol ol v);have hk:=aX c3 c8;refine ad [iw 0] (jf b ((pt ⟨L,S⟩ v).list) ((pt ⟨L,S⟩ v).rest)::F) (SI.tmp 6 SI.nil) rA ⟨cI (ep hk ff).symm,?_⟩;rw[pw (T:=⟨L,S⟩) hk ff (by show _=(L.length:Int)+1;omega) kt]
    have Ay:=Decidable.not_not.1 q33;refine gC [2] ?_ (c:=nU (S:=S) ol k v);have hk:=aX c3 c8;refine ab (fun _ h=>cN (rB h)) ?_;refine ad [iw (jN k v)] (jf b L (cZ S k v)::F) (SI.tmp 6 SI.nil) rA ⟨cI ((gM k v)).symm,?_⟩;rw[iP (T:=⟨L,S⟩) hk ff (by show ¬(_∧_≤(L.length:Int));omega) (by show ¬(_=(L.length:Int)+1∧_);rintro⟨e1,e2⟩;first|omega|(have hq:=Ay;simp_all))]
   refine gC [2] ?_ (c:=nU (S:=S) ol k v);have hk:=aX c3 c8;refine ab (fun _ h=>cN (rB h)) ?_;refine ad [iw (jN k v)] (jf b L (cZ S k v)::F) (SI.tmp 6 SI.nil) rA ⟨cI ((gM k v)).symm,?_⟩;rw[iP (T:=⟨L,S⟩) hk ff (by show ¬(_∧_≤(L.length:Int));omega) (by show ¬(_=(L.length:Int)+1∧_);rintro⟨e1,e2⟩;first|omega|(have hq:=jr;simp_all))]
  refine go ?_;refine cF (fun H h=>fO (rB h)) (fun ae7 r39 hw=>?_);refine sL (aJ 0 ae7)<|sL (bL aZ Tryz.underlying28 (.own 1)) ?_
  refine sL (bX (L.length:Int) 1 ol) ?_;refine gc ?_;refine eF 78 (fun Ni=>?_) (fun JK=>?_)
  .refine gc ?_;refine b9 (fun NQ=>?_) (fun q42=>?_)
   .refine go ?_;refine aC (fun _ h=>cN (rB h)) ?_;refine gC [0] ?_ (c:=H7 (L:=L) (S:=S) ol ol v);have hk:=aX c3 c8;refine ad [iw 0] (jf b ((pt ⟨L,S⟩ v).list) ((pt ⟨L,S⟩ v).rest)::F) (SI.tmp 6 SI.nil) rA ⟨cI (ep hk ff).symm,?_⟩;rw[pw (T:=⟨L,S⟩) hk ff (by show _=(L.length:Int)+1;omega) NQ]
   have LJ:=Decidable.not_not.1 q42;refine gC [2] ?_ (c:=nU (S:=S) ol k v);have hk:=aX c3 c8;refine ab (fun _ h=>cN (rB h)) ?_;refine ad [iw (jN k v)] (jf b L (cZ S k v)::F) (SI.tmp 6 SI.nil) rA ⟨cI ((gM k v)).symm,?_⟩;rw[iP (T:=⟨L,S⟩) hk ff (by show ¬(_∧_≤(L.length:Int));omega) (by show ¬(_=(L.length:Int)+1∧_);rintro⟨e1,e2⟩;first|omega|(have hq:=LJ;simp_all))]
  refine gC [2] ?_ (c:=nU (S:=S) ol k v);have hk:=aX c3 c8;refine ab (fun _ h=>cN (rB h)) ?_;refine ad [iw (jN k v)] (jf b L (cZ S k v)::F) (SI.tmp 6 SI.nil) rA ⟨cI ((gM k v)).symm,?_⟩;rw[iP (T:=⟨L,S⟩) hk ff (by show ¬(_∧_≤(L.length:Int));omega) (by show ¬(_=(L.length:Int)+1∧_);rintro⟨e1,e2⟩;first|omega|(have hq:=JK;simp_all))]
 rw[td]at e13;subst e13;refine go ?_;refine cF (fun H h=>fO (rB h)) (fun X' Ya hw=>?_);refine gC [2] ?_ (c:=nU (S:=S) ol k v);have hk:=aX c3 c8;refine ab (fun _ h=>cN (rB h)) ?_;refine ad [iw (jN k v)] (jf b L (cZ S k v)::F) (SI.tmp 6 SI.nil) rA ⟨cI ((gM k v)).symm,?_⟩;rw[iP (T:=⟨L,S⟩) hk ff (by show ¬(_∧_≤(L.length:Int));omega) (by show ¬(_=(L.length:Int)+1∧_);rintro⟨e1,e2⟩;first|omega|(have hq:=ff;simp_all))]
def kP(b:Nat)(L:List Vl)(S:List cY):aW:=lj fun lv=>lj fun r=>zr True [aa b #[lv,.pointer (some ⟨r,0,none⟩)] 229,own bq lv L,iL r S]
theorem iX(h:Holds Z (kP b L S::F) H):∃(lv:Value) (r:Nat),True∧Holds Z (aa b #[lv,.pointer (some ⟨r,0,none⟩)] 229::own bq lv L::iL r S::F) H:=by
 obtain⟨lv,h⟩:=h.open_ex;obtain⟨r,h⟩:=h.open_ex;exact⟨lv,r,h.open_st⟩
theorem da(h:Holds Z (aa b #[lv,.pointer (some ⟨r,0,none⟩)] 229::own bq lv L::iL r S::F) H):Holds Z (kP b L S::F) H:=
 Holds.shut_ex lv (Holds.shut_ex r (Holds.shut_st trivial h))
theorem BE(h:Holds Z (kP b L S::F) H):dG S:=by
 obtain⟨_,_,_,h⟩:=iX h;exact pF (rB h)
theorem uL(h:k.kind≠2∨au k=false):whole k=0:=by
 unfold whole;rcases h with h|h<;>simp[h]
theorem J2(h1:k.kind=2)(h2:au k=true):whole k=if k.q=1 then k.p else 0:=by
 unfold whole;simp[h1,h2]
theorem J3(h1:k.kind=2)(h2:au k=true):je k.p k.q=true:=by
 unfold au at h2;rw[h1,if_neg (by decide),if_neg (by decide),if_pos rfl,Bool.and_eq_true]at h2;exact h2.2
theorem DB(h:dG S)(hk:au k=false):ei S k=bw:=Dk h (by simp[cS,hk])
theorem DC{T:Tb}(h:dG T.rest)(hb:¬(1≤whole k∧whole k≤(T.list.length:Int))):kp T k=ei T.rest k:=by
 cases hv:au k with
 | false=>rw[kr hv,DB h hv]
 | true=>exact mW hv hb
theorem DD(h:1≤whole k):au k=true:=by
 cases hv:au k with
 | true=>rfl
 | false=>rw[uL (.inr hv)]at h;omega
theorem NR(p q:Int):NF 239 #[.agg #[iw p,iw q]] Z [] (.tuple #[iw (if je p q=true∧q=1 then p else 0),.bool (je p q&&decide (q=1))]):=by
 refine bO Tryz.func239 13 (fun w0=>?_);refine gA fun g1=>?_
 refine sV (fun _ h=>HV p q)<|sP (.bool (je p q))<|oW 6 (fun c2=>?_) (fun c2=>?_)
 .refine fk (fun p4=>?_) (fun p5=>?_)
  .refine go ?_;refine ad [iw p,.bool true] [] (SI.tmp 2 (SI.tmp 3 SI.nil)) rA ⟨?_,rfl⟩;show Value.tuple _=Value.tuple _;first|(simp[c2,p4,c2];done)|simp_all
  refine go ?_;refine ad [iw 0,.bool false] [] (SI.tmp 2 (SI.tmp 3 SI.nil)) rA ⟨?_,rfl⟩;show Value.tuple _=Value.tuple _;first|(simp[c2,p5,c2];done)|simp_all
 refine go ?_;refine ad [iw 0,.bool false] [] (SI.tmp 2 (SI.tmp 3 SI.nil)) rA ⟨?_,rfl⟩;show Value.tuple _=Value.tuple _;first|(simp[c2,c2];done)|simp_all
theorem qx(k:Vl):NF 197 #[k.v] Z [] (iw (whole k)):=by
 refine bx Tryz.func197 20 [(0,.agg (vc k))] (fun w0=>?_);refine bn ?_;refine bj (vc k) (fun g1=>?_);refine sP (iw 0)<|bH<|aE<|b6 (ι:=Unit) (fun _=>True) (fun _=>[(1,pB g1 0),(12,.bool ((decide (k.kind≠2))||(!(au k))))]) (fun _=>[aa g1 (vc k) 71]) ?_ (fun _ _=>?_)
 .refine gc ?_;refine eF 8 (fun p3=>?_) (fun q2=>?_)
  .refine go ?_;exact xC
  have p4:=Decidable.not_not.1 q2;refine gV ?_ (c:=fun _ h=>ku k);exact xC
 refine kd (fun c5=>?_) (fun c5=>?_)
 .have p6:=c5;simp only[Bool.and_eq_true,Bool.or_eq_true,Bool.and_eq_false_iff,Bool.or_eq_false_iff,Bool.not_eq_true',Bool.not_eq_false',decide_eq_true_eq,decide_eq_false_iff_not]at p6;refine go ?_;refine ad _ _ (SI.tmp 2 SI.nil) (rr [] [0]) ⟨cI ?_,rfl⟩;exact (uL (by first|exact p6|exact .inl p6|exact .inr p6)).symm
 obtain⟨c7,c8⟩:=l5 c5;have p9:=Decidable.not_not.1 (dF c7);have l4:=cu c8;refine gV ?_ (c:=fun _ h=>NR k.p k.q);refine ad _ _ (SI.tmp 2 SI.nil) (rr [] [0]) ⟨cI ?_,rfl⟩;have h2:k.kind=2:=Decidable.not_not.1 (dF c7);rw[J2 h2 l4,J3 h2 l4];simp
theorem Ta:SF Tryz.prog 138 #[] Z [] fun r Bs=>∃b,r=pB b 0∧Bs=[kP b [] []]:=by
 refine bO Tryz.func138 4 (fun w0=>?_);refine go ?_;refine a6 (fun _ h=>H4) ?_;rintro _ _ ⟨r1,rfl,rfl⟩;refine sL (ay (.agg #[nS,pB r1 0]))<|bj #[nS,pB r1 0] (fun g2=>?_)
 refine go ?_;refine ad _ _ (SI.tmp 0 SI.nil) (fun _ h=>da (b:=g2) (lv:=nS) (r:=r1) ((Holds.nilS (T:=bq) h).re [1,0,0] [])) ⟨g2,rfl,rfl⟩
theorem Tc(hl:L.length≤1000000)(hs:S.length≤1000000)(k:Vl):NF 207 #[pB b 0,k.v] Z (kP b L S::F) ((kp ⟨L,S⟩ k).v):=by
 refine bO Tryz.func207 36 (fun w0=>?_);refine bk (fun H h=>BE (rB h)) (fun bD=>?_);have LO:=jX S;refine bn ?_;refine gA fun g1=>?_
 refine gA fun g2=>?_
 refine gV ?_ (c:=fun _ h=>qx k);refine eF 13 (fun p4=>?_) (fun my=>?_)
 .refine go ?_;refine cF (fun H h=>iX (rB h)) (fun Re r6 hw=>?_);refine fk (fun p8=>?_) (fun im=>?_)
  .obtain ⟨y9,jA⟩:∃y,L[(((whole k)-1)).toNat]?=some y:=⟨_,List.getElem?_eq_getElem ol⟩;refine gy ?_;refine ab (fun _ h=>da (rB h)) ?_;refine ad [.agg (vc y9)] (kP b L S::F) (SI.agg 4 71 1 SI.nil) rA ⟨?_,rfl⟩;rw[wG (T:=⟨L,S⟩) (DD om) om (by show _≤(L.length:Int);omega) jA];rfl
  refine gC [2] ?_ (c:=qq (S:=S) ol k);refine ab (fun _ h=>da (rB h)) ?_;refine ad [.agg (vc (ei S k))] (kP b L S::F) (SI.agg 4 71 1 SI.nil) rA ⟨?_,rfl⟩;rw[DC (T:=⟨L,S⟩) bD (by show ¬(_∧_≤(L.length:Int));omega)];rfl
 refine go ?_;refine cF (fun H h=>iX (rB h)) (fun aji r14 hw=>?_);refine gC [2] ?_ (c:=qq (S:=S) ol k);refine ab (fun _ h=>da (rB h)) ?_;refine ad [.agg (vc (ei S k))] (kP b L S::F) (SI.agg 4 71 1 SI.nil) rA ⟨?_,rfl⟩;rw[DC (T:=⟨L,S⟩) bD (by show ¬(_∧_≤(L.length:Int));omega)];rfl
theorem AG(hl:L.length≤1000000)(hs:S.length≤100000){x:Int}(hn:n≤L.length)(hx:x=(n:Int)+1):MF 201 #[pB b 0,iw x] Z (kP b L S::F) (.tuple #[]) (kP b L (if ck S n L.length then iJ S L.length else S)::F):=by
 refine bO Tryz.func201 90 (fun w0=>?_);refine bk (fun H h=>BE (rB h)) (fun bD=>?_);have LO:=jX S;refine gy ?_;refine aD (ι:=Nat) (fun j=>n≤j∧j≤L.length) (fun j=>[(0,pB b 0),(4,.bool (ck S n j)),(5,iw ((j:Int)+1))]) (fun j=>kP b L S::F) (fun j=>L.length-j) n ⟨Nat.le_refl _,hn⟩ (bc rfl (rQ ⟨⟨rfl,cB (vt S n).symm⟩,⟨⟨rfl,cI hx⟩,trivial⟩⟩)) rA ?_;rintro j cQ;show SK _ _ _ _ _ [(0,pB b 0),(4,.bool (ck S n j)),(5,iw ((j:Int)+1))] _ (kP b L S::F);refine go ?_;refine cF (fun H h=>iX (rB h)) (fun CM r3 hw=>?_);refine gy ?_;refine b9 (fun p5=>?_) (fun mD=>?_)
 .refine go ?_;refine br [aa b #[CM,pB r3 0] 229,own bq CM L] ?_;refine gH [0,1,2,3,4] [0,0] ?_;refine ba (ι:=Nat×Nat) 4 (tf [14,4]) (fun (g6,g7)=>[(0,pB b 0),(4,.bool (ck S n j)),(5,iw ((j:Int)+1)),(6,pB g6 0),(7,pB g7 0),(32,.agg (vc ((aA S (ey ((j:Int)+1))).1))),(33,.agg (vc ((aA S (ey ((j:Int)+1))).2.1))),(34,.bool ((aA S (ey ((j:Int)+1))).2.2.1)),(35,iw ((aA S (ey ((j:Int)+1))).2.2.2))]) (fun (g6,g7)=>aa g7 zc 71::aa g6 zc 71::iL r3 S::aa b #[CM,pB r3 0] 229::own bq CM L::F) ?_ (fun Yb=>?_)
  .rintro ⟨g6,g7⟩;try dsimp only
   refine ag 14 ?_;refine gh ?_;refine nH [3,3]<|ag 15 ?_
   refine gh ?_;refine nH [3,3] ?_;refine gH [16,17] [3,3] ?_;refine aI ?_;refine go ?_;refine oW 37 (fun zw=>?_) (fun zw=>?_)
   .refine gy ?_;have dM:true=ck S n (j+1):=by rw[←rU S cQ.1];first|rfl|simp[p5,zw]
    refine ab (fun _ h=>da (rB h)) ?_;exact az (j+1) om ⟨by omega,by omega⟩ (bc rfl (rQ ⟨⟨rfl,cB dM⟩,(rQ trivial)⟩)) rA
   refine gy ?_;have dM:(decide ((aA S (ey ((j:Int)+1))).2.2.2=0))=ck S n (j+1):=by rw[←rU S cQ.1];first|rfl|simp[p5,zw]
   refine ab (fun _ h=>da (rB h)) ?_;exact az (j+1) om ⟨by omega,by omega⟩ (bc rfl (rQ ⟨⟨rfl,cB dM⟩,(rQ trivial)⟩)) rA
  refine ba (ι:=Nat) 5 (tf [13,5]) (fun g6=>[(0,pB b 0),(4,.bool (ck S n j)),(5,iw ((j:Int)+1)),(6,pB g6 0),(32,.agg (vc ((aA S (ey ((j:Int)+1))).1))),(33,.agg (vc ((aA S (ey ((j:Int)+1))).2.1))),(34,.bool ((aA S (ey ((j:Int)+1))).2.2.1)),(35,iw ((aA S (ey ((j:Int)+1))).2.2.2))]) (fun g6=>aa g6 zc 71::iL r3 S::aa b #[CM,pB r3 0] 229::own bq CM L::F) ?_ (fun ab3=>?_)
  .rintro g6;try dsimp only
   refine ag 13 ?_;refine ae (.agg zc) zc (fun g21=>?_);refine nH [3,3] ?_;exact aB Yb (g6,g21) rA
  refine ba (ι:=Nat) 5 (tf [12,1,1,4]) (fun g8=>[(0,pB b 0),(4,.bool (ck S n j)),(5,iw ((j:Int)+1)),(7,pB g8 0),(32,.agg (vc ((aA S (ey ((j:Int)+1))).1))),(33,.agg (vc ((aA S (ey ((j:Int)+1))).2.1))),(34,.bool ((aA S (ey ((j:Int)+1))).2.2.1)),(35,iw ((aA S (ey ((j:Int)+1))).2.2.2))]) (fun g8=>aa g8 zc 71::iL r3 S::aa b #[CM,pB r3 0] 229::own bq CM L::F) ?_ (fun ab4=>?_)
  .rintro g8;try dsimp only
   refine ag 12 ?_;refine ae (.agg zc) zc (fun g23=>?_);refine nH [3,3] ?_;exact aB Yb (g23,g8) rA
  refine ba (ι:=Nat×Nat) 10 (tf [6,6,2,4]) (fun (g10,g11)=>[(0,pB b 0),(4,.bool (ck S n j)),(5,iw ((j:Int)+1)),(6,pB g10 0),(7,pB g11 0),(28,pB r3 0),(30,.agg (vc (ey ((j:Int)+1))))]) (fun (g10,g11)=>aa g11 zc 71::aa g10 zc 71::aa b #[CM,pB r3 0] 229::own bq CM L::iL r3 S::F) ?_ (fun Yc=>?_)
  .rintro ⟨g10,g11⟩;try dsimp only
   refine ag 6 ?_;refine sC [4] (iQ (S:=S) ol (ey ((j:Int)+1))) ?_;refine nH [3,3] ?_;refine gH [7,8,9,10,11] [3,3] ?_;exact aB Yb (g10,g11) rA
  refine ba (ι:=Nat) 11 (tf [6,6,1,5]) (fun g10=>[(0,pB b 0),(4,.bool (ck S n j)),(5,iw ((j:Int)+1)),(6,pB g10 0),(28,pB r3 0),(30,.agg (vc (ey ((j:Int)+1))))]) (fun g10=>aa g10 zc 71::aa b #[CM,pB r3 0] 229::own bq CM L::iL r3 S::F) ?_ (fun NS=>?_)
  .rintro g10;try dsimp only
   refine aN 6 13 ?_ ?_
   .refine sC [3] (iQ (S:=S) ol (ey ((j:Int)+1))) ?_;refine nH [2,2] ?_;refine gH [7,8,9,10,11] [2,2] ?_;exact aB ab3 g10 rA
   refine ae (.agg zc) zc (fun wK=>?_);refine nH [2,2] ?_;exact aB Yc (g10,wK) rA
  refine ba (ι:=Nat) 11 (tf [6,7,1,4]) (fun g12=>[(0,pB b 0),(4,.bool (ck S n j)),(5,iw ((j:Int)+1)),(7,pB g12 0),(28,pB r3 0),(30,.agg (vc (ey ((j:Int)+1))))]) (fun g12=>aa g12 zc 71::aa b #[CM,pB r3 0] 229::own bq CM L::iL r3 S::F) ?_ (fun ab5=>?_)
  .rintro g12;try dsimp only
   refine aN 6 12 ?_ ?_
   .refine sC [3] (iQ (S:=S) ol (ey ((j:Int)+1))) ?_;refine nH [2,2] ?_;refine gH [7,8,9,10,11] [2,2] ?_;exact aB ab4 g12 rA
   refine ae (.agg zc) zc (fun oR=>?_);refine nH [2,2] ?_;exact aB Yc (oR,g12) rA
  refine ba (ι:=Nat×Nat) 11 (tf [5,7,2,4]) (fun (g14,g15)=>[(0,pB b 0),(4,.bool (ck S n j)),(5,iw ((j:Int)+1)),(6,pB g14 0),(7,pB g15 0),(28,pB r3 0),(29,iw ((j:Int)+1))]) (fun (g14,g15)=>aa g15 zc 71::aa g14 zc 71::aa b #[CM,pB r3 0] 229::own bq CM L::iL r3 S::F) ?_ (fun J4=>?_)
  .rintro ⟨g14,g15⟩;try dsimp only
   refine ag 5 ?_;refine sV (fun _ h=>rT ((j:Int)+1))<|nH [2,2] ?_
   exact aB Yc (g14,g15) rA
  refine dR 5 12 13 ?_ ?_ ?_
  .refine sV (fun _ h=>rT ((j:Int)+1))<|nH [0,0]<|dR 6 12 13 ?_ ?_ ?_
   .refine sC [2] (iQ (S:=S) ol (ey ((j:Int)+1))) ?_;refine nH [1,1] ?_;refine gH [7,8,9,10,11] [1,1] ?_;refine aN 12 13 ?_ ?_
    .refine ae (.agg zc) zc (fun JT=>?_);refine nH [2,2] ?_;exact aB ab3 JT rA
    refine ae (.agg zc) zc (fun VQ=>?_);refine nH [2,2] ?_;exact aB ab4 VQ rA
   .refine ae (.agg zc) zc (fun zF=>?_);refine nH [1,1] ?_;exact aB NS zF rA
   refine ae (.agg zc) zc (fun m4=>?_);refine nH [1,1] ?_;exact aB ab5 m4 rA
  .refine ae (.agg zc) zc (fun Td=>?_);refine nH [1,1]<|aN 5 13 ?_ ?_
   .refine sV (fun _ h=>rT ((j:Int)+1))<|nH [1,1] ?_
    exact aB NS Td rA
   refine ae (.agg zc) zc (fun NM=>?_);refine nH [2,2] ?_;exact aB J4 (Td,NM) rA
  refine ae (.agg zc) zc (fun g36=>?_);refine nH [1,1]<|aN 5 12 ?_ ?_
  .refine sV (fun _ h=>rT ((j:Int)+1))<|nH [1,1] ?_
   exact aB ab5 g36 rA
  refine ae (.agg zc) zc (fun NT=>?_);refine nH [2,2] ?_;exact aB J4 (NT,g36) rA
 refine go ?_;refine bg (!(ck S n j)) (fun kz=>?_) (fun kz=>?_)
 .have c40:=cO kz;refine gy ?_;refine ab (fun _ h=>da (rB h)) ?_;have hj:j=L.length:=by omega
  have hT:(if ck S n L.length then iJ S L.length else S)=S:=by rw[if_neg (by rw[←hj,c40];decide)]
  refine ad [] (kP b L S::F) SI.nil rA ⟨rfl,?_⟩;rw[hT]
 have qo:=cu kz;refine gy ?_;refine a6 (fun _ h=>H4) ?_;rintro _ _ ⟨r42,rfl,rfl⟩;refine go ?_;refine aH [3] (Nx (S:=S) ol) ?_;rintro Rf _ rfl;skip;refine go ?_;refine aK (fun _ h=>da (rB h)) ?_;refine aD (ι:=Nat) (fun i=>i≤(dP S).length) (fun i=>[(0,pB b 0),(10,pB r42 0),(11,Rf),(12,iw (i:Int))]) (fun i=>kP b L S::own bq Rf (dP S)::iL r42 (dZ S L.length i)::F) (fun i=>(dP S).length-i) 0 (Nat.zero_le _) sA rA ?_;rintro i ajj;show SK _ _ _ _ _ [(0,pB b 0),(10,pB r42 0),(11,Rf),(12,iw (i:Int))] _ (kP b L S::own bq Rf (dP S)::iL r42 (dZ S L.length i)::F);have WY:=xR S L.length i;refine gy ?_;refine b9 (fun Sy=>?_) (fun p62=>?_)
 .refine gy ?_;obtain⟨y48,NU⟩:∃y,(dP S)[i]?=some y:=⟨_,List.getElem?_eq_getElem ol⟩;obtain⟨Rh,Yd,rfl⟩:=Aq NU;refine gV ?_ (c:=fun _ h=>qx Rh.key);refine eF 62 (fun No=>?_) (fun FV=>?_)
  .refine go ?_;refine mC (fun H h=>iX (rB h)) (fun ab6 r55 hw=>?_);refine br [aa b #[ab6,pB r55 0] 229,own bq ab6 L,own bq Rf (dP S)] ?_;refine gH [0,1,2] [0,0,1] ?_;refine fK 3 rfl [0,0,1] (fun _=>(aF aZ Tryz.underlying28 (.own 2) (i:Int) i om ol om)) ?_;refine fK 4 rfl [0,0,1] (fun _=>(bC aZ (.own 2) NU)) ?_;refine gH [5,6,7,8,9,10] [0,0,1] ?_;refine fK 11 rfl [0,0,1] (fun _=>(aF aZ Tryz.underlying28 (.own 2) (i:Int) i om ol om)) ?_;refine fK 12 rfl [0,0,1] (fun _=>(bC aZ (.own 2) NU)) ?_;refine ag 13 ?_;refine sC [2] (qq (S:=S) ol Rh.key) ?_;refine nH [1,1,1]<|ag 14 ?_
   refine sC [4] (qs (S:=(dZ S L.length i)) ol Rh.key (ei S Rh.key)) ?_;refine nH [2,2,2]<|aI ?_
   refine gy ?_;have J0:=jV bD (m:=L.length) Yd;have NO:uA (whole Rh.key) L.length=false:=dQ om;have F5:=J0.1 NO;rw[F5];refine ab (fun _ h=>da (rB h)) ?_;exact xr (i+1) om
  refine go ?_;refine cF (fun H h=>iX (rB h)) (fun Ye r58 hw=>?_);refine gy ?_;refine b9 (fun Q9=>?_) (fun p61=>?_)
  .refine br [aa b #[Ye,pB r58 0] 229,own bq Ye L,own bq Rf (dP S)] ?_;refine gH [0,1,2] [0,0,1] ?_;refine fK 3 rfl [0,0,1] (fun _=>(aF aZ Tryz.underlying28 (.own 2) (i:Int) i om ol om)) ?_;refine fK 4 rfl [0,0,1] (fun _=>(bC aZ (.own 2) NU)) ?_;refine gH [5,6,7,8,9,10] [0,0,1] ?_;refine fK 11 rfl [0,0,1] (fun _=>(aF aZ Tryz.underlying28 (.own 2) (i:Int) i om ol om)) ?_;refine fK 12 rfl [0,0,1] (fun _=>(bC aZ (.own 2) NU)) ?_;refine ag 13 ?_;refine sC [2] (qq (S:=S) ol Rh.key) ?_;refine nH [1,1,1]<|ag 14 ?_
   refine sC [4] (qs (S:=(dZ S L.length i)) ol Rh.key (ei S Rh.key)) ?_;refine nH [2,2,2]<|aI ?_
   refine gy ?_;have J0:=jV bD (m:=L.length) Yd;have NO:uA (whole Rh.key) L.length=false:=dQ om;have F5:=J0.1 NO;rw[F5];refine ab (fun _ h=>da (rB h)) ?_;exact xr (i+1) om
  refine gy ?_;have J0:=jV bD (m:=L.length) Yd;have NO:uA (whole Rh.key) L.length=true:=eY.2 om;have F5:=J0.2 NO;rw[F5];refine ab (fun _ h=>da (rB h)) ?_;exact xr (i+1) om
 refine go ?_;refine cF (fun H h=>iX (rB h)) (fun ajk r64 hw=>?_);refine go ?_;refine ab (fun _ h=>da (rB h)) ?_;have hj:j=L.length:=by omega
 have F5:dZ S L.length i=iJ S L.length:=Ar S L.length i (by rw[←tc];omega);have hT:(if ck S n L.length then iJ S L.length else S)=dZ S L.length i:=by rw[if_pos (by rw[←hj];exact qo),F5]
 refine eN [] (kP b L (dZ S L.length i)::F) SI.nil rA ⟨rfl,?_⟩;rw[hT]
theorem Te(Rc:kM ⟨L,S⟩)(hl:L.length≤100000)(hs:S.length≤100000)(k v:Vl):MF 149 #[pB b 0,k.v,v.v] Z (kP b L S::F) (iw (mV k v)) (kP b (ez ⟨L,S⟩ k v).list (ez ⟨L,S⟩ k v).rest::F):=by
 refine bO Tryz.func149 126 (fun w0=>?_);refine bk (fun H h=>BE (rB h)) (fun bD=>?_);have LO:=jX S;refine bn ?_;refine bj (vc k) (fun g1=>?_);refine bj (vc v) (fun g2=>?_);refine gc ?_;refine oW 13 (fun c3=>?_) (fun c3=>?_)
 .have p4:=dY c3;refine go ?_;have hk:cS k=false:=js (by first|exact p4|exact .inl p4|exact .inr p4);refine ad [iw 13] (kP b L S::F) (SI.tmp 6 SI.nil) rA ⟨cI (qw hk).symm,?_⟩;rw[mX (v:=v) (.inl hk)]
 have p5:=dF c3;refine gV ?_ (c:=fun _ h=>ku k);refine kd (fun c6=>?_) (fun c6=>?_)
 .have c7:=cO c6;refine go ?_;have hk:cS k=false:=js (by first|exact c7|exact .inl c7|exact .inr c7);refine ad [iw 13] (kP b L S::F) (SI.tmp 6 SI.nil) rA ⟨cI (qw hk).symm,?_⟩;rw[mX (v:=v) (.inl hk)]
 have c8:=cu c6;refine gV ?_ (c:=fun _ h=>ku v);refine kd (fun c9=>?_) (fun c9=>?_)
 .have l4:=cO c9;refine go ?_;have hk:=aX c3 c8;refine ad [iw 2] (kP b L S::F) (SI.tmp 6 SI.nil) rA ⟨cI (AF hk l4).symm,?_⟩;rw[mX (v:=v) (.inr l4)]
 have ff:=cu c9;refine gV ?_ (c:=fun _ h=>qx k);refine eF 25 (fun fL=>?_) (fun JK=>?_)
 .refine go ?_;refine cF (fun H h=>iX (rB h)) (fun Yf Ri hw=>?_);refine gy ?_;refine b9 (fun mM=>?_) (fun vA=>?_)
  .refine gy ?_;obtain⟨y18,J5⟩:∃y,L[(((whole k)-1)).toNat]?=some y:=⟨_,List.getElem?_eq_getElem ol⟩;refine dX 1 0 v aZ J5 ?_;refine go ?_;have Jp:(L.set (whole k-1).toNat v).length=L.length:=List.length_set;refine aD (ι:=Value×List Vl) (fun (lx,X)=>shr (L.set (whole k-1).toNat v)=shr X∧X.length≤L.length) (fun (lx,X)=>[(0,pB b 0)]) (fun (lx,X)=>aa b #[lx,pB Ri 0] 229::own bq lx X::iL Ri S::aa g2 (vc v) 71::aa g1 (vc k) 71::F) (fun (lx,X)=>X.length) (Yf,(L.set ((((whole k)-1)).toNat) v)) ⟨rfl,by omega⟩ sA rA ?_;rintro⟨lx,X⟩ F7;replace F7:shr (L.set (whole k-1).toNat v)=shr X∧X.length≤L.length:=F7;show SK _ _ _ _ _ [(0,pB b 0)] _ (aa b #[lx,pB Ri 0] 229::own bq lx X::iL Ri S::aa g2 (vc v) 71::aa g1 (vc k) 71::F);refine gy ?_;refine sF 1 (fun oS=>?_);refine eF 48 (fun zA=>?_) (fun oE=>?_)
   .refine go ?_;refine sL (bL aZ Tryz.underlying28 (.own 1)) ?_;refine sL (fX (X.length:Int) 1 ol) ?_;refine sL (aF aZ Tryz.underlying28 (.own 1) ((X.length:Int)-1) (X.length-1) om ol om) ?_;refine go ?_;obtain⟨y24,DE⟩:∃y,X[(X.length-1)]?=some y:=⟨_,List.getElem?_eq_getElem ol⟩;refine gy ?_;refine dB (fun _ h=>by obtain⟨_,_,e⟩:=oS;subst e;kernel_rfl) ?_;refine ax ?_;refine b9 (fun LK=>?_) (fun Dt=>?_)
    .refine go ?_;refine sL (bL aZ Tryz.underlying28 (.own 1)) ?_;refine sL (fX (X.length:Int) 1 ol) ?_;refine sL (sS aZ Tryz.underlying28 (.own 1) ((X.length:Int)-1) (X.length-1) om ol om)<|oN (pB b 0) ?_
     refine aC (fun _ h=>Holds.pre (i:=1) h aZ (X.length-1) rfl ol) ?_;skip;refine gy ?_;refine dB (fun _ h=>by obtain⟨_,_,e⟩:=oS;subst e;kernel_rfl) ?_;refine eU ?_;exact az ((pre lx (X.length-1)),X.take (X.length-1)) (by show (X.take (X.length-1)).length<X.length;rw[List.length_take];omega) (by show shr _=shr (X.take (X.length-1))∧(X.take (X.length-1)).length≤L.length;rw[←Dl (n:=X.length-1) om DE om,show X.length-1+1=X.length by omega,List.take_length];exact⟨F7.1,by rw[List.length_take];omega⟩) sA rA
    refine go ?_;refine ab (fun _ h=>da (rB h)) ?_;have hk:=aX c3 c8;have hS:shr X=X:=by have h1:=Dm (n:=X.length-1) DE om;rw[show X.length-1+1=X.length by omega,List.take_length]at h1;exact h1
    have hT:ez ⟨L,S⟩ k v=⟨X,S⟩:=by rw[sW (T:=⟨L,S⟩) hk ff om (by show _≤(L.length:Int);omega)];show (⟨shr (L.set _ v),S⟩:Tb)=_;rw[F7.1,hS]
    refine ad [iw 0] (kP b X S::F) (SI.tmp 6 SI.nil) rA ⟨cI (ep hk ff).symm,?_⟩;rw[hT]
   refine go ?_;refine dB (fun _ h=>by obtain⟨_,_,e⟩:=oS;subst e;kernel_rfl) ?_;refine go ?_;refine ab (fun _ h=>da (rB h)) ?_;have hk:=aX c3 c8;have hS:shr X=X:=by obtain rfl:X=[]:=List.eq_nil_of_length_eq_zero om;rfl
   have hT:ez ⟨L,S⟩ k v=⟨X,S⟩:=by rw[sW (T:=⟨L,S⟩) hk ff om (by show _≤(L.length:Int);omega)];show (⟨shr (L.set _ v),S⟩:Tb)=_;rw[F7.1,hS]
   refine ad [iw 0] (kP b X S::F) (SI.tmp 6 SI.nil) rA ⟨cI (ep hk ff).symm,?_⟩;rw[hT]
  refine gy ?_;refine eF 86 (fun VJ=>?_) (fun q32=>?_)
  .refine gC [2] ?_ (c:=qs (S:=S) ol k v);refine ab (fun _ h=>da (rB h)) ?_;have hk:=aX c3 c8;refine ad [iw (jN k v)] (kP b L (cZ S k v)::F) (SI.tmp 6 SI.nil) rA ⟨cI ((gM k v)).symm,?_⟩;rw[iP (T:=⟨L,S⟩) hk ff (by show ¬(_∧_≤(L.length:Int));omega) (by show ¬(_=(L.length:Int)+1∧_);rintro⟨e1,e2⟩;first|omega|(have hq:=VJ;simp_all))]
  have kt:=Decidable.not_not.1 q32;refine gc ?_;refine b9 (fun jr=>?_) (fun zB=>?_)
  .refine gC [2] ?_ (c:=qs (S:=S) ol k v);refine ab (fun _ h=>da (rB h)) ?_;have hk:=aX c3 c8;refine ad [iw (jN k v)] (kP b L (cZ S k v)::F) (SI.tmp 6 SI.nil) rA ⟨cI ((gM k v)).symm,?_⟩;rw[iP (T:=⟨L,S⟩) hk ff (by show ¬(_∧_≤(L.length:Int));omega) (by show ¬(_=(L.length:Int)+1∧_);rintro⟨e1,e2⟩;first|omega|(have hq:=jr;simp_all))]
  refine go ?_;have abY:=NH S L.length v;refine aD (ι:=Value×List Vl×Vl×Nat) (fun (lx,X,x,f)=>grow S (S.length+2) L v=grow S f X x∧mu S X.length x≤f∧L.length≤X.length∧X.length+mu S X.length x≤L.length+S.length+1) (fun (lx,X,x,f)=>[(0,pB b 0),(5,pB g2 0),(7,iw (whole k))]) (fun (lx,X,x,f)=>aa b #[lx,pB Ri 0] 229::own bq lx X::iL Ri S::aa g2 (vc x) 71::aa g1 (vc k) 71::F) (fun (lx,X,x,f)=>mu S X.length x) (Yf,L,v,S.length+2) ⟨rfl,by omega,by omega,by omega⟩ sA rA ?_;rintro⟨lx,X,x,f⟩ J6;replace J6:grow S (S.length+2) L v=grow S f X x∧mu S X.length x≤f∧L.length≤X.length∧X.length+mu S X.length x≤L.length+S.length+1:=J6;show SK _ _ _ _ _ [(0,pB b 0),(5,pB g2 0),(7,iw (whole k))] _ (aa b #[lx,pB Ri 0] 229::own bq lx X::iL Ri S::aa g2 (vc x) 71::aa g1 (vc k) 71::F);refine gc ?_;refine b9 (fun qn=>?_) (fun q39=>?_)
  .have AE:x.kind≠0:=qn;obtain⟨f1,NI,X2⟩:=grow_step S X AE J6.2.1;have RC:grow S (S.length+2) L v=grow S (f-1) (X++[x]) (ei S (ey ((X.length:Int)+2))):=by rw[J6.1,X2,NI];rfl
   refine go ?_;refine ah (e:=71) [(0,.agg (vc x))] (vc x) (fun wL=>?_) (hb:=by kernel_rfl);refine aq (L:=X) 2 aZ Tryz.underlying28 (.lit 0 aZ [x]) (by show _*48≤_;(try simp only[cD]);omega) ol (fun Tf=>?_);obtain⟨L2,NJ⟩:∃y,y=X++[x]:=⟨_,rfl⟩;rw[←NJ];have NK:L2.length=X.length+1:=by rw[NJ];simp
   refine oN (pB b 0)<|sF 2 (fun DF=>?_)
   refine ar (u:=Tf) (m:=1) 1 #[Tf,pB Ri 0] ?_ (hm:=by (obtain⟨_,_,e⟩:=DF;rw[e];rfl)) (h1:=by (obtain⟨_,_,e⟩:=DF;rw[e];rfl)) (ha':=by (obtain⟨_,_,e⟩:=DF;rw[e];rfl));refine go ?_;refine br [aa wL (vc x) 71,aa b #[Tf,pB Ri 0] 229,own bq Tf L2,aa g1 (vc k) 71] ?_;refine gH [0,1,2,3,4,5,6,7] [0,0,0,2] ?_;refine fK 8 rfl [0,0,0,2] (fun _=>(bL aZ Tryz.underlying28 (.own 2))) ?_;refine fK 9 rfl [0,0,0,2] (fun _=>(Lt.to (v':=iw ((X.length:Int)+2)) (bX (L2.length:Int) 1 om) (cI om))) ?_;refine ag 10 ?_;refine sV (fun _ h=>rT ((X.length:Int)+2))<|nH [0,0,0,2]<|ag 11 ?_
   refine sC [3] (qq (S:=S) ol (ey ((X.length:Int)+2))) ?_;refine nH [1,1,1,2]<|ag 12 ?_
   refine gh ?_;refine nH [1,1,1,2]<|aI ?_
   refine gy ?_;exact az (Tf,L2,(ei S (ey ((X.length:Int)+2))),f-1) (by show mu S _ _<mu S _ _;rw[NK];exact sU bD AE) (by show grow S (S.length+2) L v=_∧_;exact⟨by rw[RC,NJ],by rw[NK];have:=sU bD (n:=X.length) AE;omega,by omega,by rw[NK];have:=sU bD (n:=X.length) AE;omega⟩) sA (rr [2,2,0,1,1] [5])
  have LJ:=Decidable.not_not.1 q39;have AE:x.kind=0:=Decidable.not_not.1 q39;have hgr:grow S (S.length+2) L v=X:=by rw[J6.1];exact uC S X AE
  refine go ?_;refine aC (fun _ h=>da (rB h)) ?_;refine gC [0] ?_ (c:=AG (L:=X) (S:=S) (n:=L.length) om om om om);have hk:=aX c3 c8;have hT:ez ⟨L,S⟩ k v=⟨X,if ck S L.length X.length then iJ S X.length else S⟩:=by rw[pw (T:=⟨L,S⟩) hk ff (by show _=(L.length:Int)+1;omega) zB,wJ hgr]
  refine ad [iw 0] (kP b X (if ck S L.length X.length then iJ S X.length else S)::F) (SI.tmp 6 SI.nil) rA ⟨cI (ep hk ff).symm,?_⟩;rw[hT]
 refine go ?_;refine cF (fun H h=>iX (rB h)) (fun X' Ya hw=>?_);refine sL (aJ 0 X')<|sL (bL aZ Tryz.underlying28 (.own 1)) ?_
 refine sL (bX (L.length:Int) 1 ol) ?_;refine gc ?_;refine eF 86 (fun LN=>?_) (fun q48=>?_)
 .refine gC [2] ?_ (c:=qs (S:=S) ol k v);refine ab (fun _ h=>da (rB h)) ?_;have hk:=aX c3 c8;refine ad [iw (jN k v)] (kP b L (cZ S k v)::F) (SI.tmp 6 SI.nil) rA ⟨cI ((gM k v)).symm,?_⟩;rw[iP (T:=⟨L,S⟩) hk ff (by show ¬(_∧_≤(L.length:Int));omega) (by show ¬(_=(L.length:Int)+1∧_);rintro⟨e1,e2⟩;first|omega|(have hq:=LN;simp_all))]
 have Du:=Decidable.not_not.1 q48;refine gc ?_;refine b9 (fun CL=>?_) (fun No=>?_)
 .refine gC [2] ?_ (c:=qs (S:=S) ol k v);refine ab (fun _ h=>da (rB h)) ?_;have hk:=aX c3 c8;refine ad [iw (jN k v)] (kP b L (cZ S k v)::F) (SI.tmp 6 SI.nil) rA ⟨cI ((gM k v)).symm,?_⟩;rw[iP (T:=⟨L,S⟩) hk ff (by show ¬(_∧_≤(L.length:Int));omega) (by show ¬(_=(L.length:Int)+1∧_);rintro⟨e1,e2⟩;first|omega|(have hq:=CL;simp_all))]
 refine go ?_;have abY:=NH S L.length v;refine aD (ι:=Value×List Vl×Vl×Nat) (fun (lx,X,x,f)=>grow S (S.length+2) L v=grow S f X x∧mu S X.length x≤f∧L.length≤X.length∧X.length+mu S X.length x≤L.length+S.length+1) (fun (lx,X,x,f)=>[(0,pB b 0),(5,pB g2 0),(7,iw (whole k))]) (fun (lx,X,x,f)=>aa b #[lx,pB Ya 0] 229::own bq lx X::iL Ya S::aa g2 (vc x) 71::aa g1 (vc k) 71::F) (fun (lx,X,x,f)=>mu S X.length x) (X',L,v,S.length+2) ⟨rfl,by omega,by omega,by omega⟩ sA (rr [0,0,0,0,0] []) ?_;rintro⟨lx,X,x,f⟩ NW;replace NW:grow S (S.length+2) L v=grow S f X x∧mu S X.length x≤f∧L.length≤X.length∧X.length+mu S X.length x≤L.length+S.length+1:=NW;show SK _ _ _ _ _ [(0,pB b 0),(5,pB g2 0),(7,iw (whole k))] _ (aa b #[lx,pB Ya 0] 229::own bq lx X::iL Ya S::aa g2 (vc x) 71::aa g1 (vc k) 71::F);refine gc ?_;refine b9 (fun FV=>?_) (fun q55=>?_)
 .have AE:x.kind≠0:=FV;obtain⟨f1,NI,X2⟩:=grow_step S X AE NW.2.1;have RC:grow S (S.length+2) L v=grow S (f-1) (X++[x]) (ei S (ey ((X.length:Int)+2))):=by rw[NW.1,X2,NI];rfl
  refine go ?_;refine ah (e:=71) [(0,.agg (vc x))] (vc x) (fun JZ=>?_) (hb:=by kernel_rfl);refine aq (L:=X) 2 aZ Tryz.underlying28 (.lit 0 aZ [x]) mz ol (fun v58=>?_);obtain⟨L2,NJ⟩:∃y,y=X++[x]:=⟨_,rfl⟩;rw[←NJ];have NK:L2.length=X.length+1:=by rw[NJ];simp
  refine oN (pB b 0)<|sF 2 (fun Tg=>?_)
  refine ar (u:=v58) (m:=1) 1 #[v58,pB Ya 0] ?_ (hm:=by (obtain⟨_,_,e⟩:=Tg;rw[e];rfl)) (h1:=by (obtain⟨_,_,e⟩:=Tg;rw[e];rfl)) (ha':=by (obtain⟨_,_,e⟩:=Tg;rw[e];rfl));refine go ?_;refine br [aa JZ (vc x) 71,aa b #[v58,pB Ya 0] 229,own bq v58 L2,aa g1 (vc k) 71] ?_;refine gH [0,1,2,3,4,5,6,7] [0,0,0,2] ?_;refine fK 8 rfl [0,0,0,2] (fun _=>(bL aZ Tryz.underlying28 (.own 2))) ?_;refine fK 9 rfl [0,0,0,2] (fun _=>(Lt.to (v':=iw ((X.length:Int)+2)) (bX (L2.length:Int) 1 om) (cI om))) ?_;refine ag 10 ?_;refine sV (fun _ h=>rT ((X.length:Int)+2))<|nH [0,0,0,2]<|ag 11 ?_
  refine sC [3] (qq (S:=S) ol (ey ((X.length:Int)+2))) ?_;refine nH [1,1,1,2]<|ag 12 ?_
  refine gh ?_;refine nH [1,1,1,2]<|aI ?_
  refine gy ?_;exact xr (v58,L2,(ei S (ey ((X.length:Int)+2))),f-1) (by show grow S (S.length+2) L v=_∧_;exact⟨by rw[RC,NJ],by rw[NK];have:=sU bD (n:=X.length) AE;omega,by omega,by rw[NK];have:=sU bD (n:=X.length) AE;omega⟩)
 have Q9:=Decidable.not_not.1 q55;have AE:x.kind=0:=Decidable.not_not.1 q55;have hgr:grow S (S.length+2) L v=X:=by rw[NW.1];exact uC S X AE
 refine go ?_;refine aC (fun _ h=>da (rB h)) ?_;refine gC [0] ?_ (c:=AG (L:=X) (S:=S) (n:=L.length) om om om om);have hk:=aX c3 c8;have hT:ez ⟨L,S⟩ k v=⟨X,if ck S L.length X.length then iJ S X.length else S⟩:=by rw[pw (T:=⟨L,S⟩) hk ff (by show _=(L.length:Int)+1;omega) No,wJ hgr]
 refine ad [iw 0] (kP b X (if ck S L.length X.length then iJ S X.length else S)::F) (SI.tmp 6 SI.nil) rA ⟨cI (ep hk ff).symm,?_⟩;rw[hT]
structure kX where
 kind:Int
 tag:Int
 name:ByteArray
 tab:Tb
 mt:Vl
 vals:List Vl
 deriving DecidableEq
structure bp where
 objs:List (Option kX)
 tch:List Bool
 deriving DecidableEq
end
section
variable{st:bp}{o o':kX}{v t k:Vl}{Z:bK}{F:List aW}{b n m i:Nat}{ps:List (Int×(Nat×Nat))}{id:Int}{T:Tb}{L:List Vl}{tm:List (Int×Bool)}{s:cY}{q:Nat×Nat}{S:List cY}
def F8:Tb:=⟨[],[]⟩
def xw:bp:=⟨[],[]⟩
def bQ(kind id:Int):Vl:=⟨kind,0,0,ByteArray.empty,id⟩
def rJ(s:ByteArray):Vl:=⟨3,0,0,s,0⟩
def bp.get(st:bp)(id:Int):Option kX:=if 1≤id then (st.objs[id.toNat-1]?).bind (fun x=>x) else none
def bp.put(st:bp)(id:Int)(o:kX):bp:={ st with objs:=st.objs.set (id.toNat-1) (some o) }
def bp.touch(st:bp)(id:Int):bp:={ st with tch:=st.tch.set (id.toNat-1) true }
def bp.count(st:bp):Nat:=st.objs.countP Option.isSome
def isRef(k:Int):Bool:=decide (k=4)||(decide (k=5)||(decide (k=7)||decide (k=8)))
def dm(st:bp)(v:Vl):Option kX:=(st.get v.ref).bind fun o=>if o.kind=v.kind then some o else none
def fm(st:bp)(v:Vl):Option Tb:=(dm st v).bind fun o=>if o.kind=4 then some o.tab else none
def eg(kind tag:Int)(name:ByteArray)(vals:List Vl):kX:=⟨kind,tag,name,F8,bw,vals⟩
def bo(st:bp)(kind:Int):Vl:=if 65536≤st.count then bw else bQ kind ((st.objs.length:Int)+1)
def eX(st:bp):Int:=if 65536≤st.count then 17 else 0
def bY(st:bp)(o:kX):bp:=if 65536≤st.count then st else ⟨st.objs++[some o],st.tch++[true]⟩
def gi(v:Vl):Int:=if v.kind=3∧4096<(v.str.size:Int) then 14 else if au v=false then 2 else 0
def fT(st:bp)(t k:Vl):Vl:=match fm st t with
 | some T=>kp T k
 | none=>bw
def oI(st:bp)(t:Vl):Int:=if (fm st t).isSome then 0 else 8
def jF(st:bp)(t k v:Vl):Int:=match fm st t with
 | none=>8
 | some T=>if cS k=false then 13 else gi v
def bp.setTab(st:bp)(id:Int)(T:Tb):bp:=match st.get id with
 | some o=>st.put id { o with tab:=T }
 | none=>st
def hset(st:bp)(t k v:Vl):bp:=match fm st t with
 | none=>st
 | some T=>if cS k=false then st else if gi v≠0 then st else (st.setTab t.ref (ez T k v)).touch t.ref
def eS(st:bp)(v:Vl):Vl:=match dm st v with
 | some o=>o.mt
 | none=>bw
def bZ(st:bp)(v m:Vl):Bool:=match dm st v with
 | some o=>(decide (o.kind=4)||decide (o.kind=8))&&(decide (m=bw)||(fm st m).isSome)
 | none=>false
def bW(st:bp)(v m:Vl):Int:=if bZ st v m=true then 0 else 8
def bp.setMt(st:bp)(id:Int)(m:Vl):bp:=match st.get id with
 | some o=>st.put id { o with mt:=m }
 | none=>st
def cp(st:bp)(v m:Vl):bp:=if bZ st v m=true then (st.setMt v.ref m).touch v.ref else st
structure xS(o:kX):Prop where
 kind:isRef o.kind=true
 tab:kM o.tab
 mt:o.kind≠4→o.kind≠8→o.mt=bw
structure fe(st:bp):Prop where
 obs:∀o,some o∈st.objs→xS o
 tch:st.tch.length=st.objs.length
structure jv(n:Nat)(st:bp):Prop where
 len:st.objs.length≤n
 obs:∀o,some o∈st.objs→o.tab.rest.length≤n∧o.tab.list.length≤n*(n+1)∧o.vals.length≤n+20
theorem fe.nil:fe xw:=⟨fun _ h=>(by cases h),rfl⟩
theorem jv.nil:jv 0 xw:=⟨Nat.le_refl _,fun _ h=>(by cases h)⟩
theorem jv.mono(h : jv n st)(VR : n ≤ m) : jv m st := ⟨Nat.le_trans h.len VR, fun o ho => by
  obtain ⟨a, b, c⟩ := h.obs o ho
  have : n * (n + 1) ≤ m * (m + 1) := Nat.mul_le_mul VR (by omega)
  exact ⟨by omega, by omega, by omega⟩⟩
theorem get_mem(h:st.get id=some o):some o∈st.objs∧1≤id∧id≤st.objs.length∧st.objs[id.toNat-1]?=some (some o):=by grind[bp.get]
theorem fG(h:dm st v=some o):st.get v.ref=some o∧o.kind=v.kind:=by
 unfold dm at h;cases hg:st.get v.ref with
 | none=>rw[hg]at h;cases h
 | some x=>grind
theorem pG(h:st.get v.ref=some o)(hk:o.kind=v.kind):dm st v=some o:=by grind[dm]
theorem xT(h:st.get v.ref=some o)(hk:o.kind≠v.kind):dm st v=none:=by grind[dm]
theorem xU(h:st.get v.ref=none):dm st v=none:=by grind[dm]
theorem qy(h:fm st v=some T):∃o,dm st v=some o∧st.get v.ref=some o∧o.kind=4∧v.kind=4∧o.tab=T:=by
 unfold fm at h;cases hf:dm st v with
 | none=>rw[hf]at h;cases h
 | some o=>grind[fG]
theorem nW(h:dm st v=some o)(h4:o.kind=4):fm st v=some o.tab:=by grind[fm]
theorem te(h:dm st v=some o)(h4:o.kind≠4):fm st v=none:=by grind[fm]
theorem m7(h:dm st v=none):fm st v=none:=by grind[fm]
theorem jG(h:st.get id=some o)(oM:Int):(st.put id o').get oM=if oM=id then some o' else st.get oM:=by grind[get_mem,bp.get,bp.put]
theorem AH(st:bp)(i id:Int):(st.touch i).get id=st.get id:=rfl
theorem tg{x:kX}(h:some x∈(st.put id o).objs):some x∈st.objs∨x=o:=by
 rcases List.mem_or_eq_of_mem_set h with h|h
 all_goals grind
theorem iY(h:fe st)(ho:xS o):fe (st.put id o):=by
 refine⟨fun x hx=>?_,?_⟩
 .rcases tg hx with hx|rfl
  .exact h.obs x hx
  omega
 unfold bp.put;simp only[List.length_set];exact h.tch
theorem jt(h:fe st)(id:Int):fe (st.touch id):=by
 refine⟨h.obs,?_⟩;unfold bp.touch;simp only[List.length_set];exact h.tch
theorem jY(st:bp)(t k v:Vl):(fm st t=none∧hset st t k v=st∧jF st t k v=8)∨(∃T,fm st t=some T∧cS k=false∧hset st t k v=st∧jF st t k v=13)∨(∃T,fm st t=some T∧cS k=true∧gi v≠0∧hset st t k v=st∧jF st t k v=gi v)∨
  ∃T o,fm st t=some T∧cS k=true∧gi v=0∧au v=true∧st.get t.ref=some o∧o.kind=4∧t.kind=4∧o.tab=T∧hset st t k v=(st.put t.ref { o with tab:=ez T k v }).touch t.ref∧jF st t k v=0:=by
 unfold hset jF;cases hT:fm st t with
 | none=>exact .inl ⟨rfl,rfl,rfl⟩
 | some T=>
  simp only;cases hk:cS k with
  | false=>exact .inr (.inl ⟨T,rfl,rfl,by simp,by simp⟩)
  | true=>grind[gi,qy,bp.setTab]
theorem xV(h:fe st)(t k v:Vl):fe (hset st t k v):=by
 rcases jY st t k v with ⟨_,e,_⟩|⟨_,_,_,e,_⟩|⟨_,_,_,_,e,_⟩|⟨T,o,h1,h2,h3,hv,h4,h5,h6,h7,e,_⟩
 .grind
 .grind
 .grind
 rw[e];have ho:=h.obs o (get_mem h4).1;refine jt (iY h (o:={ o with tab:=ez T k v }) ⟨ho.kind,?_,ho.mt⟩) _;rw[←h7];exact xA ho.tab k v
theorem H8(hi:fe st)(h:jv n st)(t k v:Vl):jv (n+1) (hset st t k v):=by
 rcases jY st t k v with ⟨_,e,_⟩|⟨_,_,_,e,_⟩|⟨_,_,_,_,e,_⟩|⟨T,o,h1,h2,h3,hv,h4,h5,h6,h7,e,_⟩
 .rw [e];exact h.mono (by omega)
 .rw [e];exact h.mono (by omega)
 .rw [e];exact h.mono (by omega)
 rw[e];have hm:=h.mono (Nat.le_succ n);have ho:=h.obs o (get_mem h4).1;have hl:=M1 (hi.obs o (get_mem h4).1).tab k v;refine⟨by show (st.objs.set _ _).length≤_;rw[List.length_set];exact hm.len,fun x hx=>?_⟩;rcases tg hx with hx|rfl
 .exact hm.obs x hx
 grind
theorem jT(h:fe st)(ho:xS o):fe (bY st o):=by
 unfold bY;split
 .omega
 refine⟨fun x hx=>?_,by simp[h.tch]⟩;rcases List.mem_append.1 hx with hx|hx
 .exact h.obs x hx
 grind
theorem pj(h:jv n st)(h1:o.tab=F8)(h2:o.vals.length≤20):jv (n+1) (bY st o):=by
 have hm:=h.mono (Nat.le_succ n);unfold bY;split
 .omega
 refine⟨by simp;exact h.len,fun x hx=>?_⟩;rcases List.mem_append.1 hx with hx|hx
 .exact hm.obs x hx
 rw[List.mem_singleton]at hx;injection hx with hx;rw[hx,h1]
 exact⟨Nat.zero_le _,Nat.zero_le _,by omega⟩
theorem iu{kind:Int}(tag:Int)(name:ByteArray)(vals:List Vl)(hk:isRef kind=true):xS (eg kind tag name vals):=⟨hk,kM.nil,fun _ _=>rfl⟩
theorem lH(st:bp)(v m:Vl):(cp st v m=st∧bW st v m=8∧bZ st v m=false)∨∃o,st.get v.ref=some o∧o.kind=v.kind∧(o.kind=4∨o.kind=8)∧cp st v m=(st.put v.ref { o with mt:=m }).touch v.ref∧bW st v m=0∧bZ st v m=true:=by
 unfold cp bW;cases hb:bZ st v m with
 | false=>exact .inl ⟨rfl,rfl,rfl⟩
 | true=>
  unfold bZ at hb;cases hf:dm st v with
  | none=>rw[hf]at hb;cases hb
  | some o=>grind[fG,bp.setMt]
theorem BF(h:fe st)(v m:Vl):fe (cp st v m):=by
 rcases lH st v m with ⟨e,_⟩|⟨o,h1,_,h2,e,_⟩
 .grind
 rw[e];have ho:=h.obs o (get_mem h1).1;exact jt (iY h (o:={ o with mt:=m }) ⟨ho.kind,ho.tab,fun a b=>by rcases h2 with h|h<;>contradiction⟩) _
theorem DG(h:jv n st)(v m:Vl):jv (n+1) (cp st v m):=by
 rcases lH st v m with ⟨e,_⟩|⟨o,h1,_,h2,e,_⟩
 .rw [e];exact h.mono (by omega)
 rw[e];have hm:=h.mono (Nat.le_succ n);refine⟨by show (st.objs.set _ _).length≤_;rw[List.length_set];exact hm.len,fun x hx=>?_⟩;rcases tg hx with hx|rfl
 .exact hm.obs x hx
 exact hm.obs o (get_mem h1).1
/-! ### Objects beside a map of their places -/
def ob0:kX:=⟨0,0,ByteArray.empty,F8,bw,[]⟩
def bp.ob(st:bp)(id:Int):kX:=(st.get id).getD ob0
theorem Yg(h:st.get id=some o):st.ob id=o:=by grind[bp.ob]
theorem BG(st:bp):st.get ((st.objs.length:Int)+1)=none:=by grind[bp.get]
theorem m8(st:bp)(o:kX)(tch:List Bool)(id:Int):bp.get ⟨st.objs++[some o],tch⟩ id=if id=(st.objs.length:Int)+1 then some o else st.get id:=by grind[bp.get]
theorem xW(st:bp)(o:kX)(tch:List Bool):bp.count ⟨st.objs++[some o],tch⟩=st.count+1:=by grind[bp.count]
theorem countP_set{α:Type}{p:α→Bool}:∀(l:List α) {i:Nat}{x y:α},l[i]?=some x→p x=p y→(l.set i y).countP p=l.countP p:= by intro l;induction l<;>grind
theorem lq(h:st.get id=some o):(st.put id o').count=st.count:=by
 obtain⟨_,h1,h2,h3⟩:=get_mem h;exact countP_set _ h3 rfl
structure HA(ps:List (Int×(Nat×Nat)))(st:bp):Prop where
 has:∀id,(bN ps id).isSome=(st.get id).isSome
 len:ps.length=st.count
def TA(tm:List (Int×Bool))(st:bp):Prop:=∀id o,st.get id=some o→(bN tm id).isSome=(st.tch[id.toNat-1]?).getD false
abbrev bu(g:Nat):Value:=.pointer (some ⟨g,0,none⟩)
def xX(ps:List (Int×(Nat×Nat)))(st:bp)(v:Vl):Value:=match dm st v,bN ps v.ref with
 | some _,some q=>bu q.1
 | _,_=>.pointer none
def gS(q:Nat×Nat)(o:kX):Value:=if o.kind=4 then bu q.2 else .pointer none
def VS(ps:List (Int×(Nat×Nat)))(st:bp)(v:Vl):Value:=match dm st v,bN ps v.ref with
 | some o,some q=>gS q o
 | _,_=>.pointer none
theorem na(h:HA ps st)(id:Int):(st.get id=none∧bN ps id=none)∨∃o q,st.get id=some o∧bN ps id=some q:=by
 have:=h.has id;cases h1:st.get id with
 | none=>rw[h1]at this;exact .inl ⟨rfl,by cases h2:bN ps id with|none=>rfl|some q=>rw[h2]at this;cases this⟩
 | some o=>rw[h1]at this;exact .inr (by cases h2:bN ps id with|none=>rw[h2]at this;cases this|some q=>exact⟨o,q,rfl,rfl⟩)
theorem qz(h:HA ps st)(v:Vl):(dm st v=none∧fm st v=none∧xX ps st v=.pointer none∧VS ps st v=.pointer none)∨∃o q,dm st v=some o∧st.get v.ref=some o∧o.kind=v.kind∧bN ps v.ref=some q∧xX ps st v=bu q.1∧VS ps st v=gS q o:=by
 cases hf:dm st v with
 | none=>exact .inl ⟨rfl,m7 hf,by unfold xX;rw[hf],by unfold VS;rw[hf]⟩
 | some o=>
  obtain⟨h1,h2⟩:=fG hf;rcases na h v.ref with ⟨h3,_⟩|⟨o',q,h3,h4⟩
  .rw [h1]at h3;cases h3
  exact .inr ⟨o,q,rfl,h1,h2,h4,by unfold xX;rw[hf,h4],by unfold VS;rw[hf,h4]⟩
theorem pH(h:HA ps st)(v:Vl):(fm st v=none∧VS ps st v=.pointer none)∨∃o q,fm st v=some o.tab∧st.get v.ref=some o∧o.kind=4∧v.kind=4∧bN ps v.ref=some q∧VS ps st v=bu q.2:=by
 rcases qz h v with ⟨h1,h2,h3,h4⟩|⟨o,q,h1,h2,h3,h4,h5,h6⟩
 .exact .inl ⟨h2,h4⟩
 by_cases hk:o.kind=4
 .exact .inr ⟨o,q,nW h1 hk,h2,hk,by omega,h4,by rw[h6];unfold gS;rw[if_pos hk]⟩
 exact .inl ⟨te h1 hk,by rw[h6];unfold gS;rw[if_neg hk]⟩
theorem HA.nil:HA [] xw:=⟨fun id=>by unfold bp.get xw;by_cases h:1≤id<;>simp[h,bN],rfl⟩
theorem TA.nil:TA [] xw:=fun id o h=>by
 have:=(get_mem h).1;cases this
theorem HA.put(h:HA ps st)(hg:st.get id=some o):HA ps (st.put id o'):=by
 refine⟨fun oM=>?_,by rw[h.len,lq hg]⟩;rw[h.has,jG hg];grind
theorem HA.touch(h:HA ps st)(id:Int):HA ps (st.touch id):=⟨h.has,h.len⟩
theorem TA.put(h:TA tm st)(hg:st.get id=some o):TA tm (st.put id o'):=fun oM x hx=>by
 rw[jG hg]at hx;show _=(st.tch[_]?).getD false;by_cases e:oM=id
 .subst e;exact h oM o hg
 rw[if_neg e]at hx;exact h oM x hx
theorem TA.touch(h:TA tm st)(hi:fe st)(hg:st.get id=some o):TA (dO tm id true) (st.touch id):=fun oM x hx=>by
 obtain⟨_,h1,h2,_⟩:=get_mem hg;obtain⟨_,h3,h4,_⟩:=get_mem (show st.get oM=some x from hx);have ht:=hi.tch;show _=((st.tch.set _ true)[_]?).getD false;rw[cL];by_cases e:oM=id
 .subst e;rw[if_pos rfl,List.getElem?_set_self (by omega)];rfl
 rw[if_neg e,List.getElem?_set_ne (by omega)];exact h oM x hx
theorem HA.make(h:HA ps st)(o:kX)(q:Nat×Nat)(hf:st.count<65536):HA (dO ps ((st.objs.length:Int)+1) q) (bY st o):=by
 unfold bY;rw[if_neg (by omega)];have H9:bN ps ((st.objs.length:Int)+1)=none:=by
  have:=h.has ((st.objs.length:Int)+1);rw[BG]at this;cases hx:bN ps ((st.objs.length:Int)+1) with
  | none=>rfl
  | some q=>rw[hx]at this;cases this
 refine⟨fun id=>?_,?_⟩
 .rw [cL,m8];by_cases e:id=(st.objs.length:Int)+1
  .grind
  rw[if_neg e,if_neg e];exact h.has id
 rw[xW,←h.len];have:db ps ((st.objs.length:Int)+1)=none:=by
  cases hp:db ps ((st.objs.length:Int)+1) with
  | none=>rfl
  | some i=>obtain⟨_,y,_,h2⟩:=Go.Mem.apos_lt hp;rw[H9]at h2;cases h2
 grind[Go.Mem.aset_new]
theorem TA.make(h:TA tm st)(hi:fe st)(o:kX)(hf:st.count<65536):TA (dO tm ((st.objs.length:Int)+1) true) (bY st o):=fun id x hx=>by
 unfold bY at hx⊢;rw[if_neg (by omega)]at hx⊢;rw[m8]at hx;have ht:=hi.tch;show _=((st.tch++[true])[_]?).getD false;rw[cL];by_cases e:id=(st.objs.length:Int)+1
 .rw [if_pos e,e,show ((st.objs.length:Int)+1).toNat-1=st.objs.length by omega,List.getElem?_append_right (by omega)];simp[ht]
 rw[if_neg e]at hx⊢;obtain⟨_,h1,h2,_⟩:=get_mem hx;rw[List.getElem?_append_left (by omega)];exact h id x hx
abbrev oV(q:Nat×Nat):Value:=bu q.1
abbrev bV(b:Bool):Value:=.bool b
abbrev iK:fS Int:=Go.Mem.intK 3
def rV(q:Nat×Nat)(o:kX):aW:=star (if o.kind=4 then [jf q.2 o.tab.list o.tab.rest] else [])
def xY(q:Nat×Nat)(o:kX):aW:=lj fun v=>zr True [aa q.1 #[iw o.kind,iw o.tag,sw o.name,gS q o,iw o.mt.kind,iw o.mt.p,iw o.mt.q,sw o.mt.str,iw o.mt.ref,v] 123,own bq v o.vals,rV q o]
def jg(ps:List (Int×(Nat×Nat)))(st:bp):aW:=star (ps.map fun p=>xY p.2 (st.ob p.1))
def nc(ps:List (Int×(Nat×Nat)))(st:bp)(id:Int):aW:=star ((eB ps id).map fun p=>xY p.2 (st.ob p.1))
def CN(b:Nat)(st:bp)(ps:List (Int×(Nat×Nat))):aW:=lj fun mb=>lj fun tb=>lj fun tm=>zr (fe st∧HA ps st∧TA tm st) [aa b #[.map (some mb),iw (st.objs.length:Int),.map (some tb)] 97,dr iK oV mb ps,dr iK bV tb tm,jg ps st]
def bJ(b:Nat)(st:bp):aW:=lj fun ps=>CN b st ps
section
variable{Z:bK}{F:List aW}{H:bb}{b:Nat}{st:bp}{ps:List (Int×(Nat×Nat))}{id:Int}{q:Nat×Nat}{o o':kX}
theorem BH(h:Holds Z (xY q o::F) H):∃v,True∧Holds Z (aa q.1 #[iw o.kind,iw o.tag,sw o.name,gS q o,iw o.mt.kind,iw o.mt.p,iw o.mt.q,sw o.mt.str,iw o.mt.ref,v] 123::own bq v o.vals::rV q o::F) H:=by
 obtain⟨v,h⟩:=h.open_ex;exact⟨v,h.open_st⟩
theorem dH{v:Value}(h:Holds Z (aa q.1 #[iw o.kind,iw o.tag,sw o.name,gS q o,iw o.mt.kind,iw o.mt.p,iw o.mt.q,sw o.mt.str,iw o.mt.ref,v] 123::own bq v o.vals::rV q o::F) H):Holds Z (xY q o::F) H:=Holds.shut_ex v (Holds.shut_st trivial h)
theorem qB(h4:o.kind=4)(h:Holds Z (rV q o::F) H):Holds Z (jf q.2 o.tab.list o.tab.rest::F) H:=by
 unfold rV at h;rw[if_pos h4]at h;exact h.star_out
theorem nd(h4:o.kind=4)(h:Holds Z (jf q.2 T.list T.rest::F) H):Holds Z (rV q { o with tab:=T }::F) H:=by
 unfold rV;rw[if_pos h4];exact Holds.star_in (L:=[_]) h
theorem AI(h4:o.kind≠4)(h:Holds Z F H):Holds Z (rV q o::F) H:=by
 unfold rV;rw[if_neg h4];exact h.star_nil
theorem gj(hq:bN ps id=some q)(ho:st.get id=some o)(h:Holds Z (jg ps st::F) H):∃v,True∧Holds Z (aa q.1 #[iw o.kind,iw o.tag,sw o.name,gS q o,iw o.mt.kind,iw o.mt.p,iw o.mt.q,sw o.mt.str,iw o.mt.ref,v] 123::own bq v o.vals::rV q o::nc ps st id::F) H:=by
 obtain⟨i,hp⟩:∃i,db ps id=some i:=by
  cases hp:db ps id with
  | none=>rw[Go.Mem.apos_none hp]at hq;cases hq
  | some i=>exact⟨i,rfl⟩
 obtain⟨hi,y,hy,NX⟩:=Go.Mem.apos_lt hp;rw[hq]at NX;cases NX;have h1:Holds Z (xY q (st.ob id)::star ((ps.eraseIdx i).map fun p=>xY p.2 (st.ob p.1))::F) H:=h.star_get hy;unfold nc;rw[Go.Mem.adel_pos hp];rw[Yg ho]at h1;exact BH h1
theorem gn(ho:st.get id=some o):st.put id o=st:=by
 obtain⟨_,h1,h2,h3⟩:=get_mem ho;unfold bp.put;rw[xL h3]
theorem cH(qW : (ps.map Prod.fst).Nodup)(hq : bN ps id = some q)(ho : st.get id = some o)(h : Holds Z (xY q o' :: nc ps st id :: F) H) : Holds Z (jg ps (st.put id o') :: F) H := by
  obtain ⟨i, hp⟩ : ∃ i, db ps id = some i := by
    cases hp : db ps id with
    | none => rw [Go.Mem.apos_none hp] at hq; cases hq
    | some i => exact ⟨i, rfl⟩
  obtain ⟨hi, y, hy, NX⟩ := Go.Mem.apos_lt hp
  rw [hq] at NX; cases NX
  unfold nc at h
  rw [Go.Mem.adel_pos hp] at h
  refine Holds.star_set (f := fun p : Int × (Nat × Nat) => xY p.2 (st.ob p.1)) (g := fun p => xY p.2 ((st.put id o').ob p.1)) hy (fun j p hj hp' => ?_) ?_
  · show xY p.2 _ = xY p.2 _
    have l7 : p.1 ≠ id := fun e => hj (by
      obtain ⟨zy, e1⟩ := List.getElem?_eq_some_iff.1 hp'
      refine (List.getElem_inj (h₀ := by rw [List.length_map]; exact zy) (h₁ := by rw [List.length_map]; exact hi) qW).1 ?_
      simp only [List.getElem_map]
      rw [e1, (List.getElem?_eq_some_iff.1 hy).2]; exact e)
    unfold bp.ob
    rw [jG ho, if_neg l7]
  · have e : (st.put id o').ob id = o' := by unfold bp.ob; rw [jG ho, if_pos rfl]; rfl
    show Holds Z (xY q ((st.put id o').ob id) :: _ :: F) H
    rw [e]; exact h
theorem gN(h:Holds Z (CN b st ps::F) H):∃(mb tb:Nat) (tm:List (Int×Bool)),(fe st∧HA ps st∧TA tm st)∧Holds Z (aa b #[.map (some mb),iw (st.objs.length:Int),.map (some tb)] 97::dr iK oV mb ps::dr iK bV tb tm::jg ps st::F) H:=by
 obtain⟨mb,h⟩:=h.open_ex;obtain⟨tb,h⟩:=h.open_ex;obtain⟨tm,h⟩:=h.open_ex;exact⟨mb,tb,tm,h.open_st⟩
theorem dz{mb tb:Nat}{n:Int}(hp:(fe st∧HA ps st∧TA tm st)∧n=(st.objs.length:Int))(h:Holds Z (aa b #[.map (some mb),iw n,.map (some tb)] 97::dr iK oV mb ps::dr iK bV tb tm::jg ps st::F) H):Holds Z (CN b st ps::F) H:=by
 obtain⟨h1,rfl⟩:=hp;exact Holds.shut_ex mb (Holds.shut_ex tb (Holds.shut_ex tm (Holds.shut_st h1 h)))
theorem gq(h:Holds Z (CN b st ps::F) H):fe st∧HA ps st:=by
 obtain⟨_,_,_,h,_⟩:=gN h;exact⟨h.1,h.2.1⟩
theorem gT(h:Holds Z (bJ b st::F) H):∃ps,True∧Holds Z (CN b st ps::F) H:=by
 obtain⟨ps,h⟩:=h.open_ex;exact⟨ps,trivial,h⟩
theorem cf(h:Holds Z (CN b st ps::F) H):Holds Z (bJ b st::F) H:=Holds.shut_ex ps h
theorem th:(st.put id o').objs.length=st.objs.length:=by unfold bp.put;simp
def F9(b:Nat)(st:bp)(ps:List (Int×(Nat×Nat)))(id:Int)(q:Nat×Nat)(o:kX):aW:=lj fun mb=>lj fun tb=>lj fun tm=>lj fun v=>zr (fe st∧HA ps st∧TA tm st) [aa b #[.map (some mb),iw (st.objs.length:Int),.map (some tb)] 97,dr iK oV mb ps,dr iK bV tb tm,aa q.1 #[iw o.kind,iw o.tag,sw o.name,gS q o,iw o.mt.kind,iw o.mt.p,iw o.mt.q,sw o.mt.str,iw o.mt.ref,v] 123,own bq v o.vals,nc ps st id]
theorem BI(hq:bN ps id=some q)(ho:st.get id=some o)(h4:o.kind=4)(h:Holds Z (CN b st ps::F) H):Holds Z (jf q.2 o.tab.list o.tab.rest::F9 b st ps id q o::F) H:=by
 obtain⟨mb,tb,tm,hf,h⟩:=gN h;obtain⟨v,_,h⟩:=gj hq ho (h.re [3] []:Holds Z (jg ps st::_::_::_::F) H);have h1:=qB h4 (h.re [2] []:Holds Z (rV q o::_::_::_::_::_::_::F) H);refine Holds.swap (Holds.shut_ex mb (Holds.shut_ex tb (Holds.shut_ex tm (Holds.shut_ex v (Holds.shut_st hf ?_)))));exact h1.re [4,4,4,1,1,1] []
theorem NY(hq:bN ps id=some q)(ho:st.get id=some o)(h4:o.kind=4)(hT:kM T)(h:Holds Z (jf q.2 T.list T.rest::F9 b st ps id q o::F) H):Holds Z (CN b (st.put id { o with tab:=T }) ps::F) H:=by
 obtain⟨mb,h⟩:=h.swap.open_ex;obtain⟨tb,h⟩:=h.open_ex;obtain⟨tm,h⟩:=h.open_ex;obtain⟨v,h⟩:=h.open_ex;obtain⟨hf,h⟩:=h.open_st;have qW:=(h.mp (i:=1) rfl).nodup;have h1:=nd (o:=o) h4 (h.re [6] []:Holds Z (jf q.2 T.list T.rest::_::_::_::_::_::_::F) H);have e:gS q { o with tab:=T }=gS q o:=rfl;have h2:Holds Z (xY q { o with tab:=T }::nc ps st id::_::_::_::F) H:=dH (o:={ o with tab:=T }) (by rw[e];exact h1.re [4,4,0,3] []);have h3:=cH qW hq ho h2;have hi:xS o:=hf.1.obs o (get_mem ho).1;exact dz ⟨⟨iY hf.1 ⟨hi.kind,hT,hi.mt⟩,hf.2.1.put ho,hf.2.2.put ho⟩,by rw[th]⟩ (h3.re [1,1,1,0] [])
theorem DH(hq:bN ps id=some q)(ho:st.get id=some o)(h4:o.kind=4)(h:Holds Z (jf q.2 o.tab.list o.tab.rest::F9 b st ps id q o::F) H):Holds Z (CN b st ps::F) H:=by
 have hi:fe st:=by
  obtain⟨_,h⟩:=h.swap.open_ex;obtain⟨_,h⟩:=h.open_ex;obtain⟨_,h⟩:=h.open_ex;obtain⟨_,h⟩:=h.open_ex;exact h.open_st.1.1
 have:=NY hq ho h4 (hi.obs o (get_mem ho).1).tab h;rwa [show st.put id { o with tab:=o.tab }=st from gn ho]at this
end
theorem BJ(v:Vl):NF 150 #[pB b 0,v.v] Z (CN b st ps::F) (xX ps st v):=by
 refine bO Tryz.func150 27 (fun w0=>?_);refine kN (fun H h=>gN (rB h)) (fun uw tb2 tm3 hw=>?_);obtain⟨fA,Th,NZ⟩:=hw;refine bn<|bj (vc v) (fun g7=>?_)
 refine go ?_;rcases na Th v.ref with ⟨hg8,hq9⟩|⟨o10,q11,F',N0⟩
 .refine gl ?_ (t:=Lt.to (v':=.pointer none) (cn 2 dx Tryz.underlying94 (.pointer none) v.ref) (by rw[hq9];rfl));refine ab (fun _ h=>dz (st:=st) (n:=(st.objs.length:Int)) ⟨⟨fA,Th,NZ⟩,rfl⟩ (rB h)) ?_;refine ad _ _ (SI.tmp 4 SI.nil) rA ⟨?_,rfl⟩;show Value.pointer none=xX ps st v;unfold xX;rw[xU hg8]
 refine gl ?_ (t:=Lt.to (v':=bu q11.1) (cn 2 dx Tryz.underlying94 (.pointer none) v.ref) (by rw[N0];rfl));refine cr (fun H h=>gj N0 F' (rB h)) (fun vC _=>?_);refine gc ?_;refine b9 (fun so=>?_) (fun Yh=>?_)
 .refine go ?_;refine ib (fun H h=>(h.mp (i:=6) rfl).nodup) (fun N1=>?_);refine ab (fun _ h=>(gn F')▸cH (o':=o10) N1 N0 F' (dH (o:=o10) (rB h))) ?_;refine ab (Bs:=jg ps st::aa g7 (vc v) 71::aa b #[.map (some uw),iw (st.objs.length:Int),.map (some tb2)] 97::dr iK oV uw ps::dr iK bV tb2 tm3::F) (fun _ h=>h) ?_;refine ab (fun _ h=>dz (st:=st) (n:=(st.objs.length:Int)) ⟨⟨fA,Th,NZ⟩,rfl⟩ (rB h)) ?_;refine ad _ _ (SI.tmp 4 SI.nil) rA ⟨?_,rfl⟩;show Value.pointer none=xX ps st v;unfold xX;rw[xT F' om]
 have jW:=Decidable.not_not.1 Yh;refine go ?_;refine ib (fun H h=>(h.mp (i:=6) rfl).nodup) (fun N2=>?_);refine ab (fun _ h=>(gn F')▸cH (o':=o10) N2 N0 F' (dH (o:=o10) (rB h))) ?_;refine ab (Bs:=jg ps st::aa g7 (vc v) 71::aa b #[.map (some uw),iw (st.objs.length:Int),.map (some tb2)] 97::dr iK oV uw ps::dr iK bV tb2 tm3::F) (fun _ h=>h) ?_;refine ab (fun _ h=>dz (st:=st) (n:=(st.objs.length:Int)) ⟨⟨fA,Th,NZ⟩,rfl⟩ (rB h)) ?_;refine ad _ _ (SI.tmp 4 SI.nil) rA ⟨?_,rfl⟩;show bu _=xX ps st v;unfold xX;rw[pG F' om,N0]
theorem xZ(v:Vl):NF 139 #[pB b 0,v.v] Z (CN b st ps::F) (VS ps st v):=by
 refine bO Tryz.func139 15 (fun w0=>?_);refine bk (fun H h=>gq (rB h)) (fun NI=>?_);obtain⟨cg,ha3⟩:=NI;refine gA fun g4=>?_
 refine aH [1] (BJ (st:=st) (ps:=ps) v) ?_;rintro u5 _ ⟨e6,rfl⟩;rcases qz ha3 v with ⟨J7,ht8,hv9,abX⟩|⟨o11,q12,BK,Yi,ae8,zG,ae9,ajl⟩
 .rw [hv9]at e6;subst e6;refine go ?_;refine ad _ _ (SI.tmp 4 SI.nil) rA ⟨?_,rfl⟩;exact (abX).symm
 rw[ae9]at e6;subst e6;refine go ?_;refine dc (fun H h=>gN (rB h)) (fun Yj ab7 ae' hw=>?_);obtain⟨JW,afa,afb⟩:=hw;refine cr (fun H h=>gj zG Yi (rB h)) (fun v25 _=>?_);refine go ?_;refine ib (fun H h=>(h.mp (i:=5) rfl).nodup) (fun DI=>?_);refine ab (fun _ h=>(gn Yi)▸cH (o':=o11) DI zG Yi (dH (o:=o11) (rB h))) ?_;refine ab (Bs:=jg ps st::aa b #[.map (some Yj),iw (st.objs.length:Int),.map (some ab7)] 97::dr iK oV Yj ps::dr iK bV ab7 ae'::aa g4 (vc v) 71::F) (fun _ h=>h) ?_;refine ab (fun _ h=>dz (st:=st) (n:=(st.objs.length:Int)) ⟨⟨JW,afa,afb⟩,rfl⟩ (rB h)) ?_;refine ad _ _ (SI.tmp 4 SI.nil) rA ⟨?_,rfl⟩;unfold VS;rw[BK,zG];rfl
theorem nX:NF 140 #[pB b 0] Z F (iw 8):=by
 refine bO Tryz.func140 5 (fun w0=>?_);exact ge
theorem pI(v:Vl)(hg:st.get v.ref=some o)(e:Int):MF 143 #[pB b 0,v.v,iw e] Z (CN b st ps::F) (iw e) ((if e=0 then CN b (st.touch v.ref) ps else CN b st ps)::F):=by
 refine bO Tryz.func143 16 (fun w0=>?_);refine gA fun g1=>?_
 refine b9 (fun p3=>?_) (fun gQ=>?_)
 .refine go ?_;refine dc (fun H h=>gN (rB h)) (fun mb4 tb5 tm6 hw=>?_);obtain⟨wM,ha8,VT⟩:=hw;refine go ?_;refine eE 2 dx Tryz.underlying95 v.ref true ?_;refine go ?_;refine ab (Bs:=aa b #[.map (some mb4),iw (st.objs.length:Int),.map (some tb5)] 97::dr iK oV mb4 ps::dr iK bV tb5 (dO tm6 v.ref true)::jg ps (st.touch v.ref)::aa g1 (vc v) 71::F) (fun _ h=>h) ?_;refine ab (fun _ h=>dz (st:=(st.touch v.ref)) (n:=(st.objs.length:Int)) ⟨⟨jt wM v.ref,HA.touch ha8 v.ref,TA.touch VT wM hg⟩,rfl⟩ (rB h)) ?_;rw[if_pos p3];refine gz ?_;exact fg ⟨rfl,rfl⟩
 refine go ?_;rw[if_neg gQ];refine gz ?_;exact fg ⟨rfl,rfl⟩
theorem Ti(v:Vl):NF 142 #[v.v] Z [] (iw (gi v)):=by
 refine bO Tryz.func142 17 (fun w0=>?_);refine bn ?_;refine gA fun g1=>?_
 refine eF 7 (fun p3=>?_) (fun gQ=>?_)
 .refine fk (fun p5=>?_) (fun p6=>?_)
  .refine go ?_;refine ad _ _ (SI.tmp 2 SI.nil) rA ⟨cI ?_,rfl⟩;unfold gi;simp[p3,p5,p5]
  refine gV ?_ (c:=fun _ h=>lb v);refine kd (fun c7=>?_) (fun c7=>?_)
  .have c8:=cO c7;refine go ?_;refine ad _ _ (SI.tmp 2 SI.nil) rA ⟨cI ?_,rfl⟩;unfold gi;simp[p3,p6,c7,p6,c8]
  have c9:=cu c7;refine go ?_;refine ad _ _ (SI.tmp 2 SI.nil) rA ⟨cI ?_,rfl⟩;unfold gi;simp[p3,p6,c7,p6,c9]
 refine gV ?_ (c:=fun _ h=>lb v);refine kd (fun ff=>?_) (fun ff=>?_)
 .have jS:=cO ff;refine go ?_;refine ad _ _ (SI.tmp 2 SI.nil) rA ⟨cI ?_,rfl⟩;unfold gi;simp[gQ,ff,jS]
 have ux:=cu ff;refine go ?_;refine ad _ _ (SI.tmp 2 SI.nil) rA ⟨cI ?_,rfl⟩;unfold gi;simp[gQ,ff,ux]
theorem rW(h:fm st t=none):fT st t k=bw:=by unfold fT;rw[h]
theorem nY(h:fm st t=none):oI st t=8:=by unfold oI;rw[h];rfl
theorem x7(h:fm st t=some T):fT st t k=kp T k:=by unfold fT;rw[h]
theorem nZ(h:fm st t=some T):oI st t=0:=by unfold oI;rw[h];rfl
abbrev pJ(v:Vl)(e:Int):Value:=.tuple #[v.v,iw e]
theorem N3(ca:jv n st)(hn:n≤300)(t k:Vl):NF 171 #[pB b 0,t.v,k.v] Z (bJ b st::F) (pJ (fT st t k) (oI st t)):=by
 refine bO Tryz.func171 20 (fun w0=>?_);refine bn ?_;refine gA fun g1=>?_
 refine gA fun g2=>?_
 refine gA fun g3=>?_
 refine cr (fun H h=>gT (rB h)) (fun Yk _=>?_);refine bl (fun H h=>gq (rB h)) (fun rS=>?_);obtain⟨kV,ha7⟩:=rS;refine aH [0] (xZ (st:=st) (ps:=Yk) t) ?_;rintro u8 _ ⟨e9,rfl⟩;rcases pH ha7 t with ⟨pE,zH⟩|⟨zl,q13,wb,pK,J8,uK,n0,Ga⟩
 .rw [zH]at e9;subst e9;refine gV ?_ (c:=fun _ h=>nX (F:=[]));refine ab (fun _ h=>cf (rB h)) ?_;refine ad [.agg zc,iw 8] (bJ b st::F) (SI.agg 6 71 1 (SI.tmp 7 SI.nil)) rA ⟨?_,rfl⟩;rw[rW pE,nY pE];rfl
 rw[Ga]at e9;subst e9;refine go ?_;refine aC (fun _ h=>BI n0 pK J8 (rB h)) ?_;obtain⟨aeN,ah0,_⟩:=ca.obs zl (get_mem pK).1;have ah1:n*(n+1)≤300*301:=Nat.mul_le_mul om om;refine gC [0] ?_ (c:=S0 (L:=zl.tab.list) (S:=zl.tab.rest) ol k);refine ab (fun _ h=>DH n0 pK J8 (rB h)) ?_;refine ab (fun _ h=>cf (rB h)) ?_;refine ad [.agg (vc (kp ⟨zl.tab.list,zl.tab.rest⟩ k)),iw 0] (bJ b st::F) (SI.agg 6 71 1 (SI.tmp 7 SI.nil)) rA ⟨?_,rfl⟩;rw[x7 wb,nZ wb];rfl
theorem x8(h:gi v=0):au v=true:=by
 unfold gi at h;split at h
 .cases h
 split at h
 .cases h
 rename_i hv;simpa using hv
theorem AJ(h:fm st t=none):hset st t k v=st∧jF st t k v=8:=by unfold hset jF;rw[h];exact⟨rfl,rfl⟩
theorem DJ(h:fm st t=some T)(hk:cS k=false):hset st t k v=st∧jF st t k v=13:=by unfold hset jF;rw[h];simp[hk]
theorem AK(h:fm st t=some T)(hk:cS k=true)(he:gi v≠0):hset st t k v=st∧jF st t k v=gi v:=by unfold hset jF;rw[h];simp[hk,he]
theorem Ia(h:fm st t=some o.tab)(ho:st.get t.ref=some o)(hk:cS k=true)(he:gi v=0):hset st t k v=(st.put t.ref { o with tab:=ez o.tab k v }).touch t.ref∧jF st t k v=0:=by unfold hset jF bp.setTab;rw[h,ho];simp[hk,he]
theorem Gb(ca:jv n st)(hn:n≤300)(t k x:Vl):MF 81 #[pB b 0,t.v,k.v,x.v] Z (bJ b st::F) (iw (jF st t k x)) (bJ b (hset st t k x)::F):=by
 refine bx Tryz.func81 40 [(0,pB b 0),(1,.agg (vc t)),(2,.agg (vc k)),(3,.agg (vc x))] (fun w0=>?_);refine bn ?_;refine bj (vc t) (fun g1=>?_);refine bj (vc k) (fun g2=>?_);refine bj (vc x) (fun g3=>?_);refine go ?_;refine cr (fun H h=>gT (h.re [3] [])) (fun Yk _=>?_);refine bl (fun H h=>gq (h.re [0] [])) (fun rS=>?_);obtain⟨kV,ha7⟩:=rS;refine aH [0] (xZ (st:=st) (ps:=Yk) t) ?_;rintro u8 _ ⟨e9,rfl⟩;rcases pH ha7 t with ⟨pE,zH⟩|⟨zl,q13,wb,pK,J8,uK,n0,Ga⟩
 .rw [zH]at e9;subst e9;refine gV ?_ (c:=fun _ h=>nX (F:=[]));refine ab (fun _ h=>cf (h.re [0] [])) ?_;have hp:=AJ (k:=k) (v:=x) pE;refine ad [iw 8] (bJ b st::F) (SI.tmp 8 SI.nil) (rr [0] [1,1,1]) ⟨?_,?_⟩
  .rw [hp.2];exact cI (by first|rfl|exact ep hk N4)
  rw[hp.1]
 rw[Ga]at e9;subst e9;refine sP (pB q13.2 0)<|bH<|aE<|cE<|bn ?_
 refine gs ?_;refine eh<|b6 (ι:=Unit) (fun _=>True) (fun _=>[(0,pB b 0),(5,pB g1 0),(6,pB g2 0),(7,pB g3 0),(9,pB q13.2 0),(19,.bool ((decide (k.kind=0))||(!(au k))))]) (fun _=>CN b st Yk::aa g3 (vc x) 71::aa g2 (vc k) 71::aa g1 (vc t) 71::F) ?_ (fun _ _=>?_)
 .refine gc ?_;refine eF 23 (fun oQ=>?_) (fun nQ=>?_)
  .refine go ?_;exact xC
  refine gV ?_ (c:=fun _ h=>lb k);exact xC
 refine kd (fun Rj=>?_) (fun Rj=>?_)
 .have kU:=Rj;simp only[Bool.and_eq_true,Bool.or_eq_true,Bool.and_eq_false_iff,Bool.or_eq_false_iff,Bool.not_eq_true',Bool.not_eq_false',decide_eq_true_eq,decide_eq_false_iff_not]at kU;refine go ?_;refine ab (fun _ h=>cf (h.re [0] [])) ?_;have hk:cS k=false:=js (by first|exact kU|exact .inl kU|exact .inr kU);have hp:=DJ (v:=x) wb hk;refine ad [iw 13] (bJ b st::F) (SI.tmp 8 SI.nil) (rr [0] [1,1,1]) ⟨?_,?_⟩
  .rw [hp.2];exact cI (by first|rfl|exact ep hk N4)
  rw[hp.1]
 obtain⟨xI,SA⟩:=l5 Rj;have LK:=dF xI;have FW:=cu SA;refine gV ?_ (c:=fun _ h=>Ti x);refine b9 (fun oE=>?_) (fun q29=>?_)
 .refine go ?_;refine ab (fun _ h=>cf (h.re [0] [])) ?_;have hk:=aX xI FW;have hp:=AK (v:=x) wb hk oE;refine ad [iw (gi x)] (bJ b st::F) (SI.tmp 8 SI.nil) (rr [0] [1,1,1]) ⟨?_,?_⟩
  .rw [hp.2];exact cI (by first|rfl|exact ep hk N4)
  rw[hp.1]
 have vA:=Decidable.not_not.1 q29;refine eT<|aE<|br [aa g3 (vc x) 71,aa g2 (vc k) 71,aa g1 (vc t) 71] ?_
 refine gH [0,1,2,3,4] [1,1,1] ?_;refine ag 5 ?_;refine aC (fun _ h=>BI n0 pK J8 (h.re [0] [])) ?_;obtain⟨ajm,ah2,_⟩:=ca.obs zl (get_mem pK).1;have ah3:n*(n+1)≤300*301:=Nat.mul_le_mul om om;refine sC [0] (S9 (L:=zl.tab.list) (S:=zl.tab.rest) (kV.obs zl (get_mem pK).1).tab ol ol k x) ?_;refine nH [2,2,2]<|ag 6 ?_
 refine aC (fun _ h=>NY (T:=(ez ⟨zl.tab.list,zl.tab.rest⟩ k x)) n0 pK J8 (xA (kV.obs zl (get_mem pK).1).tab _ _) (h.re [0,0] [])) ?_;have hk:=aX xI FW;have he0:gi x=0:=Decidable.not_not.1 q29;have N4:=x8 he0;refine aH [0] (pI (st:=(st.put t.ref { zl with tab:=(ez ⟨zl.tab.list,zl.tab.rest⟩ k x) })) (ps:=Yk) t (show bp.get _ _=some { zl with tab:=(ez ⟨zl.tab.list,zl.tab.rest⟩ k x) } from by rw[jG pK,if_pos rfl]) (mV k x)) ?_;rw[if_pos (ep hk N4)];rintro _ _ ⟨rfl,rfl⟩;refine nH [1,1,1] ?_;refine gH [7] [1,1,1] ?_;refine aI ?_;refine gy ?_;refine ab (fun _ h=>cf (h.re [0] [])) ?_;have hp:=Ia wb pK hk he0;refine ad [iw (mV k x)] (bJ b ((st.put t.ref { zl with tab:=(ez ⟨zl.tab.list,zl.tab.rest⟩ k x) }).touch t.ref)::F) (SI.tmp 8 SI.nil) (rr [0] [1,1,1]) ⟨?_,?_⟩
 .rw [hp.2];exact cI (by first|rfl|exact ep hk N4)
 rw[hp.1]
theorem Tj(v:Vl):NF 170 #[pB b 0,v.v] Z (bJ b st::F) ((eS st v).v):=by
 refine bO Tryz.func170 16 (fun w0=>?_);refine bn ?_;refine gA fun g1=>?_
 refine gA fun g2=>?_
 refine cr (fun H h=>gT (rB h)) (fun pC _=>?_);refine bl (fun H h=>gq (rB h)) (fun nM=>?_);obtain⟨wN,ha6⟩:=nM;refine aH [0] (BJ (st:=st) (ps:=pC) v) ?_;rintro u7 _ ⟨e8,rfl⟩;rcases qz ha6 v with ⟨mw,pE,zH,Gc⟩|⟨jw,q14,fp,gr,uK,n0,Ga,Yl⟩
 .rw [zH]at e8;subst e8;refine gy ?_;refine ab (fun _ h=>cf (rB h)) ?_;refine ad [.agg zc] (bJ b st::F) (SI.agg 4 71 1 SI.nil) rA ⟨?_,rfl⟩;unfold eS;rw[mw];rfl
 rw[Ga]at e8;subst e8;refine go ?_;refine dc (fun H h=>gN (rB h)) (fun uM uN Gd hw=>?_);obtain⟨mF,Ge,Gf⟩:=hw;refine cr (fun H h=>gj n0 gr (rB h)) (fun v27 _=>?_);refine go ?_;refine ib (fun H h=>(h.mp (i:=5) rfl).nodup) (fun ab8=>?_);refine ab (fun _ h=>(gn gr)▸cH (o':=jw) ab8 n0 gr (dH (o:=jw) (rB h))) ?_;refine ab (Bs:=jg pC st::aa b #[.map (some uM),iw (st.objs.length:Int),.map (some uN)] 97::dr iK oV uM pC::dr iK bV uN Gd::aa g2 (vc jw.mt) 71::aa g1 (vc v) 71::F) (fun _ h=>h) ?_;refine ab (fun _ h=>dz (st:=st) (n:=(st.objs.length:Int)) ⟨⟨mF,Ge,Gf⟩,rfl⟩ (rB h)) ?_;refine ab (fun _ h=>cf (rB h)) ?_;refine ad [.agg (vc jw.mt)] (bJ b st::F) (SI.agg 4 71 1 SI.nil) rA ⟨?_,rfl⟩;unfold eS;rw[fp];rfl
theorem Gg(v m:Vl):MF 83 #[pB b 0,v.v,m.v] Z (bJ b st::F) (iw (bW st v m)) (bJ b (cp st v m)::F):=by
 refine bx Tryz.func83 47 [(0,pB b 0),(1,.agg (vc v)),(2,.agg (vc m))] (fun w0=>?_);refine bn ?_;refine gA fun g1=>?_
 refine gA fun g2=>?_
 refine cr (fun H h=>gT (h.re [2] [])) (fun pC _=>?_);refine bl (fun H h=>gq (h.re [0] [])) (fun nM=>?_);obtain⟨wN,ha6⟩:=nM;refine aH [0] (BJ (st:=st) (ps:=pC) v) ?_;rintro u7 _ ⟨e8,rfl⟩;rcases qz ha6 v with ⟨mw,pE,zH,Gc⟩|⟨jw,q14,fp,gr,uK,n0,Ga,Yl⟩
 .rw [zH]at e8;subst e8;refine gV ?_ (c:=fun _ h=>nX (F:=[]));refine ab (fun _ h=>cf (h.re [0] [])) ?_;have hb:bZ st v m=false:=by unfold bZ;rw[mw]
  refine ad _ _ (SI.tmp 6 SI.nil) (rr [0] [1,1]) ⟨?_,?_⟩
  .unfold bW;rw[hb];rfl
  unfold cp;rw[hb];rfl
 rw[Ga]at e8;subst e8;refine go ?_;refine dc (fun H h=>gN (h.re [0] [])) (fun uM uN Gd hw=>?_);obtain⟨mF,Ge,Gf⟩:=hw;refine cr (fun H h=>gj n0 gr (h.re [3] [])) (fun v27 _=>?_);refine gc ?_;refine eF 19 (fun Dt=>?_) (fun q28=>?_)
 .refine gc ?_;refine eF 27 (fun vA=>?_) (fun q30=>?_)
  .refine gV ?_ (c:=fun _ h=>nX (F:=[]));refine ib (fun H h=>(h.mp (i:=5) rfl).nodup) (fun N5=>?_);refine ab (fun _ h=>(gn gr)▸cH (o':=jw) N5 n0 gr (dH (o:=jw) (h.re [0,0,0,0] []))) ?_;refine ab (Bs:=jg pC st::aa b #[.map (some uM),iw (st.objs.length:Int),.map (some uN)] 97::dr iK oV uM pC::dr iK bV uN Gd::aa g2 (vc m) 71::aa g1 (vc v) 71::F) (fun _ h=>h) ?_;refine ab (fun _ h=>dz (st:=st) (n:=(st.objs.length:Int)) ⟨⟨mF,Ge,Gf⟩,rfl⟩ (h.re [1,1,1,0] [])) ?_;refine ab (fun _ h=>cf (h.re [0] [])) ?_;have hb:bZ st v m=false:=by unfold bZ;rw[fp];simp_all
   refine ad _ _ (SI.tmp 6 SI.nil) (rr [0] [1,1]) ⟨?_,?_⟩
   .unfold bW;rw[hb];rfl
   unfold cp;rw[hb];rfl
  have VJ:=Decidable.not_not.1 q30;refine gy ?_;refine oW 31 (fun c34=>?_) (fun c34=>?_)
  .have Az:=cO c34;have jr:=dF Az;refine go ?_;refine bl (fun H h=>(h.mp (i:=5) rfl).nodup) (fun ab9=>?_);refine aC (fun _ h=>(gn gr)▸cH (o':=jw) ab9 n0 gr (dH (o:=jw) (h.re [0,0,0,0] []))) ?_;refine aC (Bs:=jg pC st::aa b #[.map (some uM),iw (st.objs.length:Int),.map (some uN)] 97::dr iK oV uM pC::dr iK bV uN Gd::aa g2 (vc m) 71::aa g1 (vc v) 71::F) (fun _ h=>h) ?_;refine aC (fun _ h=>dz (st:=st) (n:=(st.objs.length:Int)) ⟨⟨mF,Ge,Gf⟩,rfl⟩ (h.re [1,1,1,0] [])) ?_;refine aH [0] (xZ (st:=st) (ps:=pC) m) ?_;rintro u38 _ ⟨e39,rfl⟩;rcases pH ha6 m with ⟨ajn,afc⟩|⟨o42,q43,ajo,ajp,ajq,ajr,ajs,afd⟩
   .rw [afc]at e39;subst e39;refine gV ?_ (c:=fun _ h=>nX (F:=[]));refine ab (fun _ h=>cf (h.re [0] [])) ?_;have hb:bZ st v m=false:=by unfold bZ;rw[fp];simp_all
    refine ad _ _ (SI.tmp 6 SI.nil) (rr [0] [1,1]) ⟨?_,?_⟩
    .unfold bW;rw[hb];rfl
    unfold cp;rw[hb];rfl
   rw[afd]at e39;subst e39;refine go ?_;refine dc (fun H h=>gN (h.re [0] [])) (fun ab' aca afe hw=>?_);obtain⟨acb,aff,afg⟩:=hw;refine cr (fun H h=>gj n0 gr (h.re [3] [])) (fun v56 _=>?_);refine gy ?_;refine bl (fun H h=>(h.mp (i:=5) rfl).nodup) (fun acd=>?_);refine aC (fun _ h=>cH (o':={ jw with mt:=m }) acd n0 gr (dH (o:={ jw with mt:=m }) (h.re [0,0,0,0] []))) ?_;refine aC (Bs:=jg pC (st.put v.ref { jw with mt:=m })::aa b #[.map (some ab'),iw (st.objs.length:Int),.map (some aca)] 97::dr iK oV ab' pC::dr iK bV aca afe::aa g2 (vc m) 71::aa g1 (vc v) 71::F) (fun _ h=>h) ?_;have VU:=acb.obs jw (get_mem gr).1;refine aC (fun _ h=>dz (st:=(st.put v.ref { jw with mt:=m })) (n:=(st.objs.length:Int)) ⟨⟨iY acb ⟨VU.kind,VU.tab,(fun a b=>by exfalso;have a1:jw.kind≠4:=a;have b1:jw.kind≠8:=b;omega)⟩,aff.put gr,afg.put gr⟩,by rw[th]⟩ (h.re [1,1,1,0] [])) ?_;refine aH [0] (pI (st:=(st.put v.ref { jw with mt:=m })) (ps:=pC) v (show bp.get _ _=some { jw with mt:=m } from by rw[jG gr,if_pos rfl]) 0) ?_;rw[if_pos (rfl)];rintro _ _ ⟨rfl,rfl⟩;refine go ?_;refine ab (fun _ h=>cf (h.re [0] [])) ?_;have hb:bZ st v m=true:=by unfold bZ;rw[fp];simp_all
   refine ad _ _ (SI.tmp 6 SI.nil) (rr [0] [1,1]) ⟨?_,?_⟩
   .unfold bW;rw[hb];rfl
   unfold cp;rw[hb];unfold bp.setMt;rw[gr];rfl
  have c60:=cu c34;have p61:=dY c60;refine gy ?_;refine bl (fun H h=>(h.mp (i:=5) rfl).nodup) (fun ace=>?_);refine aC (fun _ h=>cH (o':={ jw with mt:=m }) ace n0 gr (dH (o:={ jw with mt:=m }) (h.re [0,0,0,0] []))) ?_;refine aC (Bs:=jg pC (st.put v.ref { jw with mt:=m })::aa b #[.map (some uM),iw (st.objs.length:Int),.map (some uN)] 97::dr iK oV uM pC::dr iK bV uN Gd::aa g2 (vc m) 71::aa g1 (vc v) 71::F) (fun _ h=>h) ?_;have DK:=mF.obs jw (get_mem gr).1;refine aC (fun _ h=>dz (st:=(st.put v.ref { jw with mt:=m })) (n:=(st.objs.length:Int)) ⟨⟨iY mF ⟨DK.kind,DK.tab,(fun a b=>by exfalso;have a1:jw.kind≠4:=a;have b1:jw.kind≠8:=b;omega)⟩,Ge.put gr,Gf.put gr⟩,by rw[th]⟩ (h.re [1,1,1,0] [])) ?_;refine aH [0] (pI (st:=(st.put v.ref { jw with mt:=m })) (ps:=pC) v (show bp.get _ _=some { jw with mt:=m } from by rw[jG gr,if_pos rfl]) 0) ?_;rw[if_pos (rfl)];rintro _ _ ⟨rfl,rfl⟩;refine go ?_;refine ab (fun _ h=>cf (h.re [0] [])) ?_;have hb:bZ st v m=true:=by unfold bZ;rw[fp];simp_all
  refine ad _ _ (SI.tmp 6 SI.nil) (rr [0] [1,1]) ⟨?_,?_⟩
  .unfold bW;rw[hb];rfl
  unfold cp;rw[hb];unfold bp.setMt;rw[gr];rfl
 have p65:=Decidable.not_not.1 q28;refine gy ?_;refine oW 31 (fun Rb=>?_) (fun Rb=>?_)
 .have VP:=cO Rb;have XP:=dF VP;refine go ?_;refine bl (fun H h=>(h.mp (i:=5) rfl).nodup) (fun acf=>?_);refine aC (fun _ h=>(gn gr)▸cH (o':=jw) acf n0 gr (dH (o:=jw) (h.re [0,0,0,0] []))) ?_;refine aC (Bs:=jg pC st::aa b #[.map (some uM),iw (st.objs.length:Int),.map (some uN)] 97::dr iK oV uM pC::dr iK bV uN Gd::aa g2 (vc m) 71::aa g1 (vc v) 71::F) (fun _ h=>h) ?_;refine aC (fun _ h=>dz (st:=st) (n:=(st.objs.length:Int)) ⟨⟨mF,Ge,Gf⟩,rfl⟩ (h.re [1,1,1,0] [])) ?_;refine aH [0] (xZ (st:=st) (ps:=pC) m) ?_;rintro u70 _ ⟨e71,rfl⟩;rcases pH ha6 m with ⟨ajt,afh⟩|⟨o74,q75,aju,ajv,ajw,ajx,ajy,afi⟩
  .rw [afh]at e71;subst e71;refine gV ?_ (c:=fun _ h=>nX (F:=[]));refine ab (fun _ h=>cf (h.re [0] [])) ?_;have hb:bZ st v m=false:=by unfold bZ;rw[fp];simp_all
   refine ad _ _ (SI.tmp 6 SI.nil) (rr [0] [1,1]) ⟨?_,?_⟩
   .unfold bW;rw[hb];rfl
   unfold cp;rw[hb];rfl
  rw[afi]at e71;subst e71;refine go ?_;refine dc (fun H h=>gN (h.re [0] [])) (fun acg ach afj hw=>?_);obtain⟨aci,afk,afl⟩:=hw;refine cr (fun H h=>gj n0 gr (h.re [3] [])) (fun v88 _=>?_);refine gy ?_;refine bl (fun H h=>(h.mp (i:=5) rfl).nodup) (fun acj=>?_);refine aC (fun _ h=>cH (o':={ jw with mt:=m }) acj n0 gr (dH (o:={ jw with mt:=m }) (h.re [0,0,0,0] []))) ?_;refine aC (Bs:=jg pC (st.put v.ref { jw with mt:=m })::aa b #[.map (some acg),iw (st.objs.length:Int),.map (some ach)] 97::dr iK oV acg pC::dr iK bV ach afj::aa g2 (vc m) 71::aa g1 (vc v) 71::F) (fun _ h=>h) ?_;have DL:=aci.obs jw (get_mem gr).1;refine aC (fun _ h=>dz (st:=(st.put v.ref { jw with mt:=m })) (n:=(st.objs.length:Int)) ⟨⟨iY aci ⟨DL.kind,DL.tab,(fun a b=>by exfalso;have a1:jw.kind≠4:=a;have b1:jw.kind≠8:=b;omega)⟩,afk.put gr,afl.put gr⟩,by rw[th]⟩ (h.re [1,1,1,0] [])) ?_;refine aH [0] (pI (st:=(st.put v.ref { jw with mt:=m })) (ps:=pC) v (show bp.get _ _=some { jw with mt:=m } from by rw[jG gr,if_pos rfl]) 0) ?_;rw[if_pos (rfl)];rintro _ _ ⟨rfl,rfl⟩;refine go ?_;refine ab (fun _ h=>cf (h.re [0] [])) ?_;have hb:bZ st v m=true:=by unfold bZ;rw[fp];simp_all
  refine ad _ _ (SI.tmp 6 SI.nil) (rr [0] [1,1]) ⟨?_,?_⟩
  .unfold bW;rw[hb];rfl
  unfold cp;rw[hb];unfold bp.setMt;rw[gr];rfl
 have c92:=cu Rb;have p93:=dY c92;refine gy ?_;refine bl (fun H h=>(h.mp (i:=5) rfl).nodup) (fun ack=>?_);refine aC (fun _ h=>cH (o':={ jw with mt:=m }) ack n0 gr (dH (o:={ jw with mt:=m }) (h.re [0,0,0,0] []))) ?_;refine aC (Bs:=jg pC (st.put v.ref { jw with mt:=m })::aa b #[.map (some uM),iw (st.objs.length:Int),.map (some uN)] 97::dr iK oV uM pC::dr iK bV uN Gd::aa g2 (vc m) 71::aa g1 (vc v) 71::F) (fun _ h=>h) ?_;have VV:=mF.obs jw (get_mem gr).1;refine aC (fun _ h=>dz (st:=(st.put v.ref { jw with mt:=m })) (n:=(st.objs.length:Int)) ⟨⟨iY mF ⟨VV.kind,VV.tab,(fun a b=>by exfalso;have a1:jw.kind≠4:=a;have b1:jw.kind≠8:=b;omega)⟩,Ge.put gr,Gf.put gr⟩,by rw[th]⟩ (h.re [1,1,1,0] [])) ?_;refine aH [0] (pI (st:=(st.put v.ref { jw with mt:=m })) (ps:=pC) v (show bp.get _ _=some { jw with mt:=m } from by rw[jG gr,if_pos rfl]) 0) ?_;rw[if_pos (rfl)];rintro _ _ ⟨rfl,rfl⟩;refine go ?_;refine ab (fun _ h=>cf (h.re [0] [])) ?_;have hb:bZ st v m=true:=by unfold bZ;rw[fp];simp_all
 refine ad _ _ (SI.tmp 6 SI.nil) (rr [0] [1,1]) ⟨?_,?_⟩
 .unfold bW;rw[hb];rfl
 unfold cp;rw[hb];unfold bp.setMt;rw[gr];rfl
theorem Tk{H:bb}(ha:HA ps st)(hf:st.count<65536)(hi:(ps.map Prod.fst).Nodup)(h:Holds Z (xY q o::jg ps st::F) H):Holds Z (jg (dO ps ((st.objs.length:Int)+1) q) (bY st o)::F) H:=by
 have H9:db ps ((st.objs.length:Int)+1)=none:=by
  have:=ha.has ((st.objs.length:Int)+1);rw[BG]at this;cases hp:db ps ((st.objs.length:Int)+1) with
  | none=>rfl
  | some i=>obtain⟨_,y,_,h2⟩:=Go.Mem.apos_lt hp;rw[h2]at this;cases this
 have e0:bY st o=⟨st.objs++[some o],st.tch++[true]⟩:=by unfold bY;rw[if_neg om]
 unfold jg;rw[Go.Mem.aset_new H9,List.map_append,List.map_cons,List.map_nil];have e1:(bY st o).ob ((st.objs.length:Int)+1)=o:=by
  unfold bp.ob;rw[e0,m8,if_pos rfl];rfl
 have e2:ps.map (fun p=>xY p.2 ((bY st o).ob p.1))=ps.map fun p=>xY p.2 (st.ob p.1):=by
  refine List.map_congr_left fun p hp=>?_
  have l7:p.1≠(st.objs.length:Int)+1:=fun e=>by
   have:=(Go.Mem.aget_none_iff ps ((st.objs.length:Int)+1)).1 (Go.Mem.apos_none H9);exact this (List.mem_map.2 ⟨p,hp,e⟩)
  unfold bp.ob;rw[e0,m8,if_neg l7]
 rw[e2];show Holds Z (star (_++[xY q ((bY st o).ob _)])::F) H;rw[e1];exact Holds.star_add h
theorem J9(hf:st.count<65536):(bY st o).objs.length=st.objs.length+1:=by unfold bY;rw[if_neg om];simp
theorem me{k:Int}(hf:65536≤st.count):bo st k=bw∧eX st=17:=by unfold bo eX;rw[if_pos hf,if_pos hf];exact⟨rfl,rfl⟩
theorem qC{k:Int}(hf:st.count<65536):bo st k=bQ k ((st.objs.length:Int)+1)∧eX st=0:=by unfold bo eX;rw[if_neg om,if_neg om];exact⟨rfl,rfl⟩
theorem ya(hf:65536≤st.count):bY st o=st:=by unfold bY;rw[if_pos hf]
theorem uO(iZ:xS o)(hl:st.objs.length≤1000000):MF 72 #[pB b 0,bu q.1] Z (CN b st ps::xY q o::F) (pJ (bo st o.kind) (eX st)) (bJ b (bY st o)::F):=by
 refine bO Tryz.func72 46 (fun w0=>?_);refine kN (fun H h=>gN (rB h)) (fun uw tb2 tm3 hw=>?_);obtain⟨fA,Th,NZ⟩:=hw;refine bk (fun H h=>(h.mp (i:=1) rfl).nodup) (fun J'=>?_);have hlen:=Th.len;refine bn ?_;refine ae (.agg zc) zc (fun g7=>?_);refine go ?_;refine sL (M6 2 Tryz.underlying94) ?_;refine gy ?_;refine b9 (fun p9=>?_) (fun gQ=>?_)
 .refine gy ?_;refine ab (fun _ h=>dz (st:=st) (n:=(st.objs.length:Int)) ⟨⟨fA,Th,NZ⟩,rfl⟩ (rB h)) ?_;have hf:65536≤st.count:=by omega
  refine ad [.agg zc,iw 17] (bJ b st::F) (SI.agg 4 71 1 (SI.tmp 5 SI.nil)) (fun _ h=>cf (rB h)) ⟨?_,?_⟩
  .rw [(me hf).1,(me (k:=0) hf).2];rfl
  rw[ya hf]
 refine gy ?_;refine eE 2 dx Tryz.underlying94 ((st.objs.length:Int)+1) q ?_;refine go ?_;refine eE 3 dx Tryz.underlying95 ((st.objs.length:Int)+1) true ?_;refine go ?_;refine cr (fun H h=>BH (rB h)) (fun v11 hw=>?_);refine gl ?_ (t:=ay (.agg #[iw o.kind,iw 0,iw 0,sw eb,iw ((st.objs.length:Int)+1)]));refine ab (fun _ h=>dH (o:=o) (rB h)) ?_;have hf:st.count<65536:=by omega
 refine ib (fun H h=>J') (fun qW=>?_);refine ab (fun _ h=>Tk Th hf qW (rB h)) ?_;refine ab (fun _ h=>dz (st:=(bY st o)) (n:=((st.objs.length:Int)+1)) ⟨⟨jT fA iZ,HA.make Th o q hf,TA.make NZ fA o hf⟩,by rw[J9 hf];rfl⟩ (rB h)) ?_;refine ad [.agg #[iw o.kind,iw 0,iw 0,sw eb,iw ((st.objs.length:Int)+1)],iw 0] (bJ b (bY st o)::F) (SI.agg 4 71 1 (SI.tmp 5 SI.nil)) (fun _ h=>cf (rB h)) ⟨?_,rfl⟩;rw[(qC hf).1,(qC (k:=0) hf).2];rfl
theorem pk(hl:st.objs.length≤1000000):MF 33 #[pB b 0] Z (bJ b st::F) (pJ (bo st 4) (eX st)) (bJ b (bY st (eg 4 0 eb []))::F):=by
 refine bO Tryz.func33 14 (fun w0=>?_);refine gA fun g1=>?_
 refine a6 (fun _ h=>SZ) ?_;rintro _ _ ⟨N6,rfl,rfl⟩;refine sL (ay (.agg #[iw 4,iw 0,sw eb,pB N6 0,iw 0,iw 0,iw 0,sw eb,iw 0,nS]))<|bj #[iw 4,iw 0,sw eb,pB N6 0,iw 0,iw 0,iw 0,sw eb,iw 0,nS] (fun g3=>?_)
 refine cr (fun H h=>gT (rB h)) (fun Yk _=>?_);refine bl (fun H h=>gq (rB h)) (fun rS=>?_);obtain⟨kV,ha7⟩:=rS;refine aC (fun _ h=>Holds.nilS (T:=bq) h) ?_;refine aC (fun _ h=>nd (q:=(g3,N6)) (o:=(eg 4 0 eb [])) (T:=F8) rfl (h.re [3] [])) ?_;refine aC (fun _ h=>dH (q:=(g3,N6)) (o:=(eg 4 0 eb [])) (h.re [3,1,0] [])) ?_;refine sC [1,0] (uO (st:=st) (ps:=Yk) (q:=(g3,N6)) (o:=(eg 4 0 eb [])) (iu _ _ _ (by decide)) om) ?_;exact ge
theorem Gh(hl:st.objs.length≤1000000)(tag:Int):MF 79 #[pB b 0,iw tag] Z (bJ b st::F) (pJ (bo st 5) (eX st)) (bJ b (bY st (eg 5 tag eb []))::F):=by
 refine bO Tryz.func79 16 (fun w0=>?_);refine gA fun g1=>?_
 refine sL (ay (.agg #[iw 5,iw tag,sw eb,.pointer none,iw 0,iw 0,iw 0,sw eb,iw 0,nS]))<|bj #[iw 5,iw tag,sw eb,.pointer none,iw 0,iw 0,iw 0,sw eb,iw 0,nS] (fun g2=>?_)
 refine cr (fun H h=>gT (rB h)) (fun pC _=>?_);refine bl (fun H h=>gq (rB h)) (fun nM=>?_);obtain⟨wN,ha6⟩:=nM;refine aC (fun _ h=>Holds.nilS (T:=bq) h) ?_;refine aC (fun _ h=>AI (q:=(g2,0)) (o:=(eg 5 tag eb [])) (show (5:Int)≠4 by decide) h) ?_;refine aC (fun _ h=>dH (q:=(g2,0)) (o:=(eg 5 tag eb [])) (h.re [3,1,0] [])) ?_;refine sC [1,0] (uO (st:=st) (ps:=pC) (q:=(g2,0)) (o:=(eg 5 tag eb [])) (iu _ _ _ (by decide)) om) ?_;exact ge
def fw(st:bp)(name:ByteArray):Vl:=if 40<(name.size:Int) then bw else bo st 8
def n3(st:bp)(name:ByteArray):Int:=if 40<(name.size:Int) then 14 else eX st
def oJ(st:bp)(name:ByteArray):bp:=if 40<(name.size:Int) then st else bY st (eg 8 0 name (List.replicate 16 bw))
theorem Gi(hl:st.objs.length≤1000000)(name:ByteArray):MF 77 #[pB b 0,sw name] Z (bJ b st::F) (pJ (fw st name) (n3 st name)) (bJ b (oJ st name)::F):=by
 refine bO Tryz.func77 23 (fun w0=>?_);refine bn ?_;refine gA fun g1=>?_
 refine b9 (fun p3=>?_) (fun p4=>?_)
 .refine gy ?_;have hp:=p3;refine ad [.agg zc,iw 14] (bJ b st::F) (SI.agg 4 71 0 (SI.tmp 5 SI.nil)) rA ⟨?_,?_⟩
  .unfold fw n3;rw[if_pos hp,if_pos hp];rfl
  unfold oJ;rw[if_pos hp]
 refine go ?_;refine FJ aZ Tryz.underlying28 16 om (by show 48*_≤_;omega) om (fun v5=>?_);refine sF 0 (fun Tl=>?_);refine sL (show Lt _ _ _ _ _ (.agg #[iw 8,iw 0,sw name,.pointer none,iw 0,iw 0,iw 0,sw eb,iw 0,v5]) from by obtain⟨_,_,e⟩:=Tl;rw[e];clear e;exact ay _)<|bj #[iw 8,iw 0,sw name,.pointer none,iw 0,iw 0,iw 0,sw eb,iw 0,v5] (fun g7=>?_)
 refine cr (fun H h=>gT (rB h)) (fun ps8 _=>?_);refine bl (fun H h=>gq (rB h)) (fun mw=>?_);obtain⟨DM,ajz⟩:=mw;refine aC (fun _ h=>AI (q:=(g7,0)) (o:=(eg 8 0 name (List.replicate 16 bq.zero))) (show (8:Int)≠4 by decide) h) ?_;refine aC (fun _ h=>dH (q:=(g7,0)) (o:=(eg 8 0 name (List.replicate 16 bq.zero))) (h.re [2,2,0] [])) ?_;refine gC [1,0] ?_ (c:=uO (st:=st) (ps:=ps8) (q:=(g7,0)) (o:=(eg 8 0 name (List.replicate 16 bq.zero))) (iu _ _ _ (by decide)) om);have hp:=p4;refine ad [.agg (vc (bo st 8)),iw (eX st)] (bJ b (bY st (eg 8 0 name (List.replicate 16 bq.zero)))::F) (SI.agg 4 71 1 (SI.tmp 5 SI.nil)) rA ⟨?_,?_⟩
 .unfold fw n3;rw[if_neg hp,if_neg hp];rfl
 unfold oJ;rw[if_neg hp];rfl
theorem MK:SF Tryz.prog 32 #[] Z [] fun r Bs=>∃b,r=pB b 0∧Bs=[bJ b xw]:=by
 refine bO Tryz.func32 5 (fun w0=>?_);refine go ?_;refine fZ iK oV (fun b1=>?_);refine fZ iK bV (fun b2=>?_);refine sL (ay (.agg #[.map (some b1),iw 0,.map (some b2)]))<|bj #[.map (some b1),iw 0,.map (some b2)] (fun g3=>?_)
 refine go ?_;refine ad _ _ (SI.tmp 0 SI.nil) (fun _ h=>cf (ps:=[]) (dz (b:=g3) (st:=xw) (tm:=[]) ⟨⟨fe.nil,HA.nil,TA.nil⟩,rfl⟩ ((Holds.star_nil h).re [1,2,1,0] []))) ⟨g3,rfl,rfl⟩
theorem VW(h:au v=true)(hk:v.kind=0):v=bw:=by
 unfold au at h;rw[if_pos hk]at h;exact of_decide_eq_true h
section
variable{S:List cY}{k v:Vl}
theorem dq:s∈live S↔s∈S∧s.gone=false:=by grind[live]
theorem nf(h:dG S)(hs:s∈live S):ei S s.key=s.val:=by
 obtain⟨h1,hg⟩:=dq.1 hs;obtain⟨j,hj⟩:=List.mem_iff_getElem?.1 h1;exact jn (h.last hj hg) hj
theorem ng(h:dG S)(hn:∀s∈live S,s.key≠k):ei S k=bw:=by
 cases hl:bz S k with
 | none=>exact jU hl
 | some i=>
  obtain⟨s,h1,h2,_⟩:=dv hl;rw[jn hl h1];have hm:=List.mem_of_getElem? h1;cases hg:s.gone with
  | true=>exact h.zero s hm hg
  | false=>exact absurd h2 (hn s (dq.2 ⟨hm,hg⟩))
theorem qD(h:dG S)(hk:cS k=true)(hv:au v=true)(s:cY):s∈live (cZ S k v)↔(s.key≠k∧s∈live S)∨(v.kind≠0∧s=⟨k,v,false⟩):=by
 have hset:∀{i:Nat}{t u:cY},S[i]?=some t→t.gone=false→t.key=k→∀s,s∈S.set i u∧s.gone=false↔(s.key≠k∧s∈live S)∨(s=u∧u.gone=false):=by
  intro i t u hi hg Ka s;constructor
  .rintro ⟨h1,h2⟩;obtain⟨j,hj⟩:=List.mem_iff_getElem?.1 h1;by_cases e:i=j
   .subst e;rw[List.getElem?_set_self (List.getElem?_eq_some_iff.1 hi).1]at hj;injection hj with e;subst e
    exact .inr ⟨rfl,h2⟩
   rw[List.getElem?_set_ne e]at hj;refine .inl ⟨fun Vy=>?_,dq.2 ⟨List.mem_of_getElem? hj,h2⟩⟩;have a:=h.last hj h2;have b:=h.last hi hg;rw[Vy]at a;rw[Ka]at b;rw[a]at b;injection b with b;exact e b.symm
  rintro (⟨h1,h2⟩|⟨rfl,h2⟩)
  .obtain ⟨h3,h4⟩:=dq.1 h2;obtain⟨j,hj⟩:=List.mem_iff_getElem?.1 h3;refine⟨?_,h4⟩;have e:i≠j:=fun e=>by subst e;rw[hi]at hj;injection hj with e;subst e;exact h1 Ka
   exact List.mem_of_getElem? (i:=j) (by rw[List.getElem?_set_ne e];exact hj)
  exact⟨List.mem_of_getElem? (i:=i) (by rw[List.getElem?_set_self (List.getElem?_eq_some_iff.1 hi).1]),h2⟩
 have LA:dw S k=none→∀s∈live S,s.key≠k:=fun ht s hs e=>by
  obtain⟨h1,h2⟩:=dq.1 hs;rw[rM h ht s h1 e]at h2;cases h2
 rw[dq];unfold cZ;rw[if_neg (by rw[hk];decide),if_neg (by rw[hv];decide)];split
 .rename_i h0;cases ht:dw S k with
  | none=>
   simp only;rw[←dq];exact⟨fun hs=>.inl ⟨LA ht s hs,hs⟩,fun hs=>by rcases hs with hs|hs;exact hs.2;exact absurd h0 hs.1⟩
  | some i=>
   obtain⟨_,t,h1,h2,h3⟩:=la ht;simp only;rw[hset h1 h3 h2];constructor
   .rintro (hs|⟨rfl,hs⟩)
    .exact .inl hs
    cases hs
   rintro (hs|hs)
   .exact .inl hs
   exact absurd h0 hs.1
 rename_i h0
 cases ht:dw S k with
 | some i=>
  obtain⟨_,t,h1,h2,h3⟩:=la ht;simp only;rw[hset h1 h3 h2];constructor
  .rintro (hs|⟨rfl,hs⟩)
   .exact .inl hs
   exact .inr ⟨h0,rfl⟩
  rintro (hs|hs)
  .exact .inl hs
  exact .inr ⟨hs.2,rfl⟩
 | none=>
  simp only;rw[List.mem_append,List.mem_singleton];have FX:∀s,s.gone=false→(s∈(if fo S+8<S.length-fo S then live S else S)↔s∈live S):=fun s hg=>by
   split
   .exact Iff.rfl
   rw[dq];simp[hg]
  constructor
  .rintro ⟨h1|h1,h2⟩
   .have:=(FX s h2).1 h1;exact .inl ⟨LA ht s this,this⟩
   exact .inr ⟨h0,h1⟩
  rintro (⟨h1,h2⟩|⟨h1,rfl⟩)
  .exact ⟨.inl ((FX s (dq.1 h2).2).2 h2),(dq.1 h2).2⟩
  exact⟨.inr rfl,rfl⟩
theorem Kb(h:dG S)(hk:cS k=true)(hv:au v=true)(k':Vl):ei (cZ S k v) k'=if k'=k then v else ei S k':=by
 have hi:=ee h k v;by_cases e:k'=k
 .subst e;rw[if_pos rfl];by_cases h0:v.kind=0
  .grind[ng,VW,qD]
  exact nf hi ((qD h hk hv ⟨k',v,false⟩).2 (.inr ⟨h0,rfl⟩))
 grind[nf,qD,ng]
end
def TW(T:Tb):Prop:=∀s∈live T.rest,uA (whole s.key) T.list.length=false
theorem TW.nil:TW ⟨[],[]⟩:=fun _ h=>by cases h
theorem DN:∀(n:Nat) {L:List Vl},L.length=n→(∀x∈L,au x=true)→∀i:Nat,((shr L)[i]?).getD bw=(L[i]?).getD bw
 | 0,L,hn,_,i=>by rw[List.length_eq_zero_iff.1 hn];rfl
 | n+1,L,hn,hL,i=>by
  rcases List.eq_nil_or_concat L with rfl|⟨r,x,rfl⟩
  .rfl
  rw[List.concat_eq_append]at*;rw[sT];split
  .rename_i h0;rw[DN n (by grind) (fun y hy=>hL y (List.mem_append_left _ hy))];by_cases hi:i<r.length
   .grind
   rw[List.getElem?_append_right (by omega),List.getElem?_eq_none (by omega)];by_cases h1:i-r.length=0
   .rw [h1];simp[VW (hL x (by simp)) h0]
   grind
  rfl
theorem Tm(hL:∀x∈L,au x=true)(i:Nat):((shr L)[i]?).getD bw=(L[i]?).getD bw:=DN _ rfl hL i
theorem N7(S:List cY):∀(f:Nat) (L:List Vl) (v:Vl) (i:Nat),i<(grow S f L v).length→(grow S f L v)[i]?=if i<L.length then L[i]? else if i=L.length then some v else some (ei S (ey ((i:Int)+1))):= by intro f;induction f<;>grind[grow]
theorem Tn(S:List cY)(f:Nat)(h0:v.kind≠0):L.length<(grow S (f+1) L v).length:=by
 rw[grow,if_neg h0];have:=HP S f (L++[v]) (ei S (ey ((L.length:Int)+2)));grind
theorem N8(h:ck S n m=false)(hs:s∈S)(h1:n<whole s.key):¬whole s.key≤m:=fun h2=>by
 unfold ck at h;rw[List.any_eq_false]at h;obtain⟨e,h3⟩:=ln (k:=s.key) (n:=whole s.key) rfl (by omega);refine h (whole s.key).toNat (List.mem_range'_1.2 ⟨by omega,by omega⟩) ?_;unfold Js;rw[show (((whole s.key).toNat:Nat):Int)=whole s.key by omega,←e];cases hl:bz S s.key with
 | some j=>simp
 | none=>exact absurd rfl (ko hl s hs)
section
variable{T:Tb}{k v:Vl}
theorem To(h:kM T)(hw:TW T)(v:Vl):TW (pt T v):=by
 intro s hs;have hle:=HP T.rest (T.rest.length+2) T.list v;show uA _ (grow T.rest (T.rest.length+2) T.list v).length=false;have QY:s∈live (if ck T.rest T.list.length (grow T.rest (T.rest.length+2) T.list v).length=true then iJ T.rest (grow T.rest (T.rest.length+2) T.list v).length else T.rest):=hs;split at QY
 .grind[dq,iJ]
 rename_i dM
 have h1:=hw s QY;grind[dQ,whole,eY,N8,dq]
theorem Tp(h:kM T)(hw:TW T)(k v:Vl):TW (ez T k v):=by
 unfold ez;split
 .omega
 rename_i hk
 split
 .omega
 rename_i hv
 split
 .intro s hs;have h1:=hw s hs;have h2:=wF (T.list.set (whole k-1).toNat v);rw[List.length_set]at h2;refine dQ fun hb=>?_
  have de:whole s.key≤((shr (T.list.set (whole k-1).toNat v)).length:Int):=hb.2;grind[eY]
 rename_i hb
 split
 .exact To h hw v
 intro s hs;rcases (qD h.rest (by grind) (by grind) s).1 hs with h1|h1
 .exact hw s h1.2
 grind
theorem N9(h:kM T)(hw:TW T)(hk:cS k=true)(hv:au v=true)(h1:whole k=(T.list.length:Int)+1)(h0:v.kind≠0)(k':Vl):kp (pt T v) k'=if k'=k then v else kp T k':=by
 obtain⟨qY,eW⟩:=ln h1 (by omega);have nC:T.list.length<(grow T.rest (T.rest.length+2) T.list v).length:=Tn T.rest (T.rest.length+1) h0;have hg:=N7 T.rest (T.rest.length+2) T.list v;have hkv:=(jo.1 hk).1;by_cases rj:au k'=false
 .rw [kr rj,kr rj,if_neg fun e=>by rw[e,hkv]at rj;cases rj]
 have hvv:au k'=true:=by simpa using rj
 unfold kp;rw[if_neg rj,if_neg rj];show (if uA (whole k') (grow T.rest (T.rest.length+2) T.list v).length=true then ((grow T.rest (T.rest.length+2) T.list v)[(whole k'-1).toNat]?).getD bw else ei (pt T v).rest k')=_;by_cases sX:uA (whole k') (grow T.rest (T.rest.length+2) T.list v).length=true
 .rw [if_pos sX];obtain⟨a,b⟩:=eY.1 sX;rw[hg _ (by omega)];obtain⟨ek,_⟩:=ln (k:=k') rfl a;by_cases h2:whole k'≤(T.list.length:Int)
  .rw [if_pos (by omega),if_neg fun e=>by rw[e]at h2;omega,if_pos (eY.2 ⟨a,h2⟩)]
  rw[if_neg (by omega)];by_cases h3:whole k'=(T.list.length:Int)+1
  .rw [if_pos (by omega),if_pos (by rw[ek,h3,qY])];rfl
  rw[if_neg (by omega),if_neg fun e=>h3 (by rw[e,h1]),if_neg fun e=>h2 (eY.1 e).2];rw[show ((((whole k'-1).toNat:Nat):Int)+1)=whole k' by omega,←ek];rfl
 rw[if_neg sX];have hn:¬(1≤whole k'∧whole k'≤((grow T.rest (T.rest.length+2) T.list v).length:Int)):=fun hc=>sX (eY.2 hc)
 rw[if_neg fun e=>hn (by rw[e,h1];omega),if_neg fun e=>hn (by have:=eY.1 e;omega)];show ei (if ck T.rest T.list.length (grow T.rest (T.rest.length+2) T.list v).length=true then iJ T.rest (grow T.rest (T.rest.length+2) T.list v).length else T.rest) k'=_;split
 .have hp:=Ap h.rest (grow T.rest (T.rest.length+2) T.list v).length;by_cases hx:∃s∈live T.rest,s.key=k'
  .obtain ⟨s,hs,e⟩:=hx;have Rk:s∈live (iJ T.rest (grow T.rest (T.rest.length+2) T.list v).length):=by
    rw[dq];unfold iJ;rw[List.mem_filter];refine⟨⟨hs,?_⟩,(dq.1 hs).2⟩;rw[e,dQ hn];rfl
   rw[←e,nf h.rest hs,nf hp Rk]
  have LA:∀s∈live T.rest,s.key≠k':=fun s hs he=>hx ⟨s,hs,he⟩
  rw[ng h.rest LA,ng hp fun s hs=>?_];rw[dq]at hs;unfold iJ at hs;exact LA s (List.mem_filter.1 hs.1).1
 rfl
theorem Kc(h:kM T)(hw:TW T)(hk:cS k=true)(hv:au v=true)(k':Vl):kp (ez T k v) k'=if k'=k then v else kp T k':=by
 have hkv:=(jo.1 hk).1;by_cases sX:1≤whole k∧whole k≤(T.list.length:Int)
 .rw [sW hk hv sX.1 sX.2];by_cases rj:au k'=false
  .rw [kr rj,kr rj,if_neg fun e=>by rw[e,hkv]at rj;cases rj]
  obtain⟨ek,_⟩:=ln (k:=k) rfl sX.1;unfold kp;rw[if_neg rj,if_neg rj];have oL:∀x∈T.list.set (whole k-1).toNat v,au x=true:=fun x hx=>by
   rcases List.mem_or_eq_of_mem_set hx with hx|rfl
   .exact h.list x hx
   exact hv
  have Jp:=wF (T.list.set (whole k-1).toNat v);rw[List.length_set]at Jp;by_cases hb:1≤whole k'∧whole k'≤(T.list.length:Int)
  .obtain ⟨ek',_⟩:=ln (k:=k') rfl hb.1;have e1:(if uA (whole k') (shr (T.list.set (whole k-1).toNat v)).length=true then ((shr (T.list.set (whole k-1).toNat v))[(whole k'-1).toNat]?).getD bw else ei T.rest k')=((T.list.set (whole k-1).toNat v)[(whole k'-1).toNat]?).getD bw:=by
    rw[←Tm oL];split
    .rfl
    rename_i hn
    rw[List.getElem?_eq_none (by apply Decidable.byContradiction;intro hc;exact hn (eY.2 ⟨hb.1,by omega⟩))];refine ng h.rest fun s hs e=>?_
    have:=hw s hs;rw[e,eY.2 hb]at this;cases this
   show (if _ then _ else ei T.rest k')=_;rw[e1];by_cases e:k'=k
   .subst e;rw[if_pos rfl,List.getElem?_set_self (by omega)];rfl
   rw[if_neg e,if_pos (eY.2 hb)];have l7:(whole k-1).toNat≠(whole k'-1).toNat:=fun hc=>e (by rw[ek',ek];congr 1;omega)
   rw[List.getElem?_set_ne l7]
  have de:¬(1≤whole k'∧whole k'≤((shr (T.list.set (whole k-1).toNat v)).length:Int)):=fun hc=>hb ⟨hc.1,by omega⟩
  show (if uA (whole k') (shr (T.list.set (whole k-1).toNat v)).length=true then _ else ei T.rest k')=_;rw[if_neg (by rw[dQ de];decide),if_neg fun e=>hb (by rw[e];exact sX),if_neg (by rw[dQ hb];decide)]
 by_cases N':whole k=(T.list.length:Int)+1∧v.kind≠0
 .rw [pw hk hv N'.1 N'.2];exact N9 h hw hk hv N'.1 N'.2 k'
 rw[iP hk hv sX N'];by_cases rj:au k'=false
 .rw [kr rj,kr rj,if_neg fun e=>by rw[e,hkv]at rj;cases rj]
 unfold kp;rw[if_neg rj,if_neg rj];show (if uA (whole k') T.list.length=true then _ else ei (cZ T.rest k v) k')=_;rw[Kb h.rest hk hv];by_cases hb:uA (whole k') T.list.length=true
 .rw [if_pos hb,if_pos hb,if_neg fun e=>sX (by rw[←e];exact eY.1 hb)]
 rw[if_neg hb,if_neg hb]
end
/-! ### What follows a key -/
def mG:List Vl→Nat→Option (Nat×Vl)
 | [],_=>none
 | v::r,i=>if v.kind≠0 then some (i,v) else mG r (i+1)
theorem AL{y:Vl}(h:L[i]?=some y):mG (L.drop i) i=if y.kind≠0 then some (i,y) else mG (L.drop (i+1)) (i+1):=by
 obtain⟨hi,e⟩:=List.getElem?_eq_some_iff.1 h;rw[List.drop_eq_getElem_cons hi,e,mG]
theorem Oa(h:L.length≤i):mG (L.drop i) i=none:=by rw[List.drop_of_length_le h];rfl
def eZ(T:Tb)(n:Nat):Vl×Vl×Bool×Int:=match mG (T.list.drop n) n with
 | some p=>(ey ((p.1:Int)+1),p.2,true,0)
 | none=>aA T.rest bw
def cX(T:Tb)(k:Vl):Vl×Vl×Bool×Int:=
 if k=bw then eZ T 0 else if uA (whole k) T.list.length=true then eZ T (whole k).toNat else
 if (aA T.rest k).2.2.2≠0∧1≤whole k then aA T.rest bw else aA T.rest k
section
variable{T:Tb}{k:Vl}{n i:Nat}{y:Vl}
theorem vD(h:mG (T.list.drop i) i=mG (T.list.drop n) n)(hy:T.list[i]?=some y)(h0:y.kind≠0):eZ T n=(ey ((i:Int)+1),y,true,0):=by
 unfold eZ;rw[←h,AL hy,if_pos h0]
theorem yb(h:mG (T.list.drop i) i=mG (T.list.drop n) n)(hi:T.list.length≤i):eZ T n=aA T.rest bw:=by
 unfold eZ;rw[←h,Oa hi]
theorem AM(h:mG (L.drop i) i=mG (L.drop n) n)(hy:L[i]?=some y)(h0:¬y.kind≠0):mG (L.drop (i+1)) (i+1)=mG (L.drop n) n:=by
 rw[←h,AL hy,if_neg h0]
theorem Kd(h:(aA S k).2.2.2≠0):aA S k=(bw,bw,false,13):=by
 unfold aA at h⊢;by_cases hk:k=bw
 .rw [if_pos hk]at h;exact absurd rfl h
 rw[if_neg hk]at h⊢;cases hl:bz S k with
 | none=>rfl
 | some i=>rw[hl]at h;exact absurd rfl h
theorem uP:cX T bw=eZ T 0:=by unfold cX;rw[if_pos rfl]
theorem yc(hk:k≠bw)(h1:1≤whole k)(h2:whole k≤(T.list.length:Int)):cX T k=eZ T (whole k).toNat:=by unfold cX;rw[if_neg hk,if_pos (eY.2 ⟨h1,h2⟩)]
theorem n4(hk:k≠bw)(h:¬(1≤whole k∧whole k≤(T.list.length:Int)))(he:(aA T.rest k).2.2.2=0):cX T k=aA T.rest k:=by
 unfold cX;rw[if_neg hk,if_neg (by rw[dQ h];decide),if_neg fun hc=>hc.1 he]
theorem yd(hk:k≠bw)(h:¬(1≤whole k∧whole k≤(T.list.length:Int)))(he:(aA T.rest k).2.2.2≠0)(h1:1≤whole k):cX T k=aA T.rest bw:=by
 unfold cX;rw[if_neg hk,if_neg (by rw[dQ h];decide),if_pos ⟨he,h1⟩]
theorem AN(hk:k≠bw)(h:¬(1≤whole k∧whole k≤(T.list.length:Int)))(he:(aA T.rest k).2.2.2≠0)(h1:¬1≤whole k):cX T k=(bw,bw,false,13):=by
 unfold cX;rw[if_neg hk,if_neg (by rw[dQ h];decide),if_neg fun hc=>h1 hc.2,Kd he]
end
def ja(T:Tb):Int:=4+2*(T.list.length:Int)+4*(T.rest.length:Int)
/-! ### Insertion and removal -/
def acm(T:Tb)(p:Int):Int:=if p<1∨(T.list.length:Int)<p then 6 else 0
def afm(T:Tb)(p:Int):Tb:=if p<1∨(T.list.length:Int)<p then T else { T with list:=shr (T.list.eraseIdx (p-1).toNat++[bw]) }
section
variable{T:Tb}{p:Int}{v:Vl}
end
end
end Go.Proofs.YtmhpcebiamkciaaGreat
section
namespace Go.S
open Go.Hp Go.J
open Go.Mem (Ty blk pre suf)
section
variable{P:Program}{E:Env}{Z:bK}{As:List aW}{o:Oper}{α:Type}{T:Ty α}{v:Value}{L:List α}{w:World}
end
end Go.S
end
namespace Go.Proofs.YtmhpcebiamkciaaGreat
open Go.Hp Go.J Go.S
open Go.Mem (fS Ty eB bN dg cL cm db dO blk blk_pre fM elemAt pre rF suf)
section
variable{Z:bK}{F:List aW}{b:Nat}{L:List Vl}{S:List cY}
theorem AO(hl:L.length≤100000)(hs:S.length≤100000)(x:Int)(AE:0≤x)(hx1:x≤L.length):NF 209 #[pB b 0,iw x] Z (jf b L S::F) (xJ (eZ ⟨L,S⟩ x.toNat)):=by
 refine bO Tryz.func209 48 (fun w0=>?_);refine gA fun g1=>?_
 refine gA fun g2=>?_
 refine aD (ι:=Nat) (fun i=>x.toNat≤i∧i≤L.length∧mG (L.drop i) i=mG (L.drop x.toNat) x.toNat) (fun i=>[(0,pB b 0),(4,pB g1 0),(5,pB g2 0),(8,iw (i:Int))]) (fun i=>aa g2 zc 71::aa g1 zc 71::jf b L S::F) (fun i=>L.length-i) x.toNat ⟨by omega,by omega,rfl⟩ (bc rfl (rQ (rQ (rQ ⟨⟨rfl,cI om⟩,trivial⟩)))) rA ?_;rintro i gE;try dsimp only at gE⊢
 refine go ?_;refine cF (fun H h=>fO (rB h)) (fun wO r5 hw=>?_);refine sL (aJ 0 wO)<|sL (bL aZ Tryz.underlying28 (.own 1))<|sL aT<|bH<|b9 (fun p7=>?_) (fun fL=>?_)
 .refine go ?_;refine sL (aF aZ Tryz.underlying28 (.own 1) (i:Int) i om ol om) ?_;refine go ?_;obtain⟨y8,oH⟩:∃y,L[i]?=some y:=⟨_,List.getElem?_eq_getElem ol⟩;refine sL (cw 0 aZ (.own 1) oH)<|sL aT<|bH<|b9 (fun im=>?_) (fun q10=>?_)
  .refine aE<|br [aa b #[wO,pB r5 0] 185,own bq wO L] ?_
   refine gH [0] [0,0] ?_;refine fK 1 rfl [0,0] (fun _=>(bX (i:Int) 1 ol)) ?_;refine gH [3,4,5,6,7] [0,0] ?_;refine fK 8 rfl [0,0] (fun _=>(aF aZ Tryz.underlying28 (.own 1) (i:Int) i om ol om)) ?_;refine fK 9 rfl [0,0] (fun _=>(bC aZ (.own 1) oH)) ?_;refine ag 2 ?_;refine sV (fun _ h=>qt ((i:Int)+1))<|nH [0,0]<|ag 10 ?_
   refine gh ?_;refine nH [0,0]<|ag 11 ?_
   refine ar 3 (vc y8) ?_;refine nH [0,0] ?_;refine gH [12,13] [0,0] ?_;refine aI ?_;refine go ?_;refine ab (fun _ h=>cN (rB h)) ?_;have hp:eZ ⟨L,S⟩ x.toNat=(ey ((i:Int)+1),y8,true,0):=vD (T:=⟨L,S⟩) gE.2.2 oH im;refine ad [.agg (vc (ey ((i:Int)+1))),.agg (vc y8),.bool true,iw 0] (jf b L S::F) (SI.agg 4 71 2 (SI.agg 5 71 1 (SI.tmp 6 (SI.tmp 7 SI.nil)))) rA ⟨?_,rfl⟩;rw[hp];rfl
  have my:=Decidable.not_not.1 q10;refine go ?_;refine sL (bX (i:Int) 1 ol) ?_;refine go ?_;refine ab (fun _ h=>cN (rB h)) ?_;exact xr (i+1) ⟨by omega,by omega,AM gE.2.2 oH q10⟩
 refine go ?_;refine sL (ay (.agg zc))<|sC [2] (eo (S:=S) ol bw) ?_
 refine go ?_;refine ab (fun _ h=>cN (rB h)) ?_;have hp:eZ ⟨L,S⟩ x.toNat=aA S bw:=yb (T:=⟨L,S⟩) gE.2.2 (by show L.length≤i;omega);refine ad [.agg (vc ((aA S bw).1)),.agg (vc ((aA S bw).2.1)),.bool ((aA S bw).2.2.1),iw ((aA S bw).2.2.2)] (jf b L S::F) (SI.agg 4 71 2 (SI.agg 5 71 1 (SI.tmp 6 (SI.tmp 7 SI.nil)))) rA ⟨?_,rfl⟩;rw[hp];rfl
theorem ti(hl:L.length≤100000)(hs:S.length≤100000)(k:Vl):NF 169 #[pB b 0,k.v] Z (jf b L S::F) (xJ (cX ⟨L,S⟩ k)):=by
 refine bO Tryz.func169 89 (fun w0=>?_);refine bn ?_;refine bj (vc k) (fun g1=>?_);refine ae (.agg zc) zc (fun g2=>?_);refine ae (.agg zc) zc (fun g3=>?_);refine gy ?_;refine bg (decide (k=bw)) (fun c4=>?_) (fun c4=>?_)
 .have p5:=dY c4;refine gC [3] ?_ (c:=AO (L:=L) (S:=S) ol ol 0 om ol);have hp:cX ⟨L,S⟩ k=eZ ⟨L,S⟩ 0:=by rw[dY c4];exact uP
  refine ad [.agg (vc ((eZ ⟨L,S⟩ (0:Int).toNat).1)),.agg (vc ((eZ ⟨L,S⟩ (0:Int).toNat).2.1)),.bool ((eZ ⟨L,S⟩ (0:Int).toNat).2.2.1),iw ((eZ ⟨L,S⟩ (0:Int).toNat).2.2.2)] (jf b L S::F) (SI.agg 4 71 2 (SI.agg 5 71 1 (SI.tmp 6 (SI.tmp 7 SI.nil)))) rA ⟨?_,rfl⟩;rw[hp];rfl
 have p6:=dF c4;refine go ?_;refine iV (fun _ h=>qu k) ?_;rintro u7 e8;rcases qi k with ⟨Oc,Od,zH⟩|⟨DO,ajA⟩
 .rw [Oc,Od]at e8;subst e8;refine gc ?_;refine eF 37 (fun kO=>?_) (fun LJ=>?_)
  .refine go ?_;refine cF (fun H h=>fO (rB h)) (fun uQ Oe hw=>?_);refine gy ?_;refine b9 (fun lp=>?_) (fun zj=>?_)
   .refine go ?_;refine aC (fun _ h=>cN (rB h)) ?_;refine gC [0] ?_ (c:=AO (L:=L) (S:=S) ol ol (whole k) om ol);have hz:k≠bw:=dF c4;have hp:cX ⟨L,S⟩ k=eZ ⟨L,S⟩ (whole k).toNat:=yc hz om (by show _≤(L.length:Int);omega);refine ad [.agg (vc ((eZ ⟨L,S⟩ ((whole k):Int).toNat).1)),.agg (vc ((eZ ⟨L,S⟩ ((whole k):Int).toNat).2.1)),.bool ((eZ ⟨L,S⟩ ((whole k):Int).toNat).2.2.1),iw ((eZ ⟨L,S⟩ ((whole k):Int).toNat).2.2.2)] (jf b L S::F) (SI.agg 4 71 2 (SI.agg 5 71 1 (SI.tmp 6 (SI.tmp 7 SI.nil)))) rA ⟨?_,rfl⟩;rw[hp];rfl
   refine eT<|aE<|br [aa b #[uQ,pB Oe 0] 185,own bq uQ L,aa g3 zc 71,aa g2 zc 71,aa g1 (vc k) 71] ?_
   refine gH [0,1,2,3,4] [0,0,1,1,1] ?_;refine ba (ι:=Nat×Nat) 4 (tf [13,4]) (fun (g21,g22)=>[(0,pB b 0),(4,pB g2 0),(5,pB g3 0),(8,iw (whole k)),(9,.bool true),(10,pB g21 0),(11,pB g22 0),(60,.agg (vc ((aA S k).1))),(61,.agg (vc ((aA S k).2.1))),(62,.bool ((aA S k).2.2.1)),(63,iw ((aA S k).2.2.2))]) (fun (g21,g22)=>aa g22 zc 71::aa g21 zc 71::jE Oe S::aa b #[uQ,pB Oe 0] 185::own bq uQ L::aa g3 zc 71::aa g2 zc 71::aa g1 (vc k) 71::F) ?_ (fun J4=>?_)
   .rintro ⟨g21,g22⟩;try dsimp only
    refine ag 13 ?_;refine gh ?_;refine nH [3,3,3,3,3]<|ag 14 ?_
    refine gh ?_;refine nH [3,3,3,3,3] ?_;refine gH [15,16] [3,3,3,3,3] ?_;refine aI ?_;refine gc ?_;refine b9 (fun vA=>?_) (fun uI=>?_)
    .refine aE<|br [aa g22 (vc ((aA S k).2.1)) 71,aa g21 (vc ((aA S k).1)) 71,aa b #[uQ,pB Oe 0] 185,own bq uQ L,aa g1 (vc k) 71] ?_
     refine gH [0,1,2,3] [0,0,1,1,3] ?_;refine ag 4 ?_;refine gh ?_;refine nH [0,0,1,1,3]<|ag 5 ?_
     refine gh ?_;refine nH [0,0,1,1,3] ?_;refine gH [6,7] [0,0,1,1,3] ?_;refine aI ?_;refine go ?_;refine ab (fun _ h=>cN (rB h)) ?_;have hz:k≠bw:=dF c4;have hr:¬(1≤whole k∧whole k≤((⟨L,S⟩:Tb).list.length:Int)):=by show ¬(_∧_≤(L.length:Int));omega
     have hp:cX ⟨L,S⟩ k=aA S k:=n4 hz hr vA;refine ad [.agg (vc ((aA S k).1)),.agg (vc ((aA S k).2.1)),.bool ((aA S k).2.2.1),iw ((aA S k).2.2.2)] (jf b L S::F) (SI.agg 4 71 4 (SI.agg 5 71 3 (SI.tmp 6 (SI.tmp 7 SI.nil)))) rA ⟨?_,rfl⟩;rw[hp];rfl
    refine gC [2] ?_ (c:=eo (S:=S) ol bw);refine ab (fun _ h=>cN (rB h)) ?_;have hz:k≠bw:=dF c4;have hr:¬(1≤whole k∧whole k≤((⟨L,S⟩:Tb).list.length:Int)):=by show ¬(_∧_≤(L.length:Int));omega
    have hp:cX ⟨L,S⟩ k=aA S bw:=yd hz hr uI om;refine ad [.agg (vc ((aA S bw).1)),.agg (vc ((aA S bw).2.1)),.bool ((aA S bw).2.2.1),iw ((aA S bw).2.2.2)] (jf b L S::F) (SI.agg 4 71 4 (SI.agg 5 71 3 (SI.tmp 6 (SI.tmp 7 SI.nil)))) rA ⟨?_,rfl⟩;rw[hp];rfl
   refine ba (ι:=Nat) 5 (tf [12,5]) (fun g21=>[(0,pB b 0),(4,pB g2 0),(5,pB g3 0),(8,iw (whole k)),(9,.bool true),(10,pB g21 0),(60,.agg (vc ((aA S k).1))),(61,.agg (vc ((aA S k).2.1))),(62,.bool ((aA S k).2.2.1)),(63,iw ((aA S k).2.2.2))]) (fun g21=>aa g21 zc 71::jE Oe S::aa b #[uQ,pB Oe 0] 185::own bq uQ L::aa g3 zc 71::aa g2 zc 71::aa g1 (vc k) 71::F) ?_ (fun acn=>?_)
   .rintro g21;try dsimp only
    refine ag 12 ?_;refine ae (.agg zc) zc (fun Td=>?_);refine nH [3,3,3,3,3] ?_;exact aB J4 (g21,Td) rA
   refine ba (ι:=Nat) 5 (tf [11,1,1,4]) (fun g23=>[(0,pB b 0),(4,pB g2 0),(5,pB g3 0),(8,iw (whole k)),(9,.bool true),(11,pB g23 0),(60,.agg (vc ((aA S k).1))),(61,.agg (vc ((aA S k).2.1))),(62,.bool ((aA S k).2.2.1)),(63,iw ((aA S k).2.2.2))]) (fun g23=>aa g23 zc 71::jE Oe S::aa b #[uQ,pB Oe 0] 185::own bq uQ L::aa g3 zc 71::aa g2 zc 71::aa g1 (vc k) 71::F) ?_ (fun DP=>?_)
   .rintro g23;try dsimp only
    refine ag 11 ?_;refine ae (.agg zc) zc (fun g36=>?_);refine nH [3,3,3,3,3] ?_;exact aB J4 (g36,g23) rA
   refine ba (ι:=Nat×Nat) 10 (tf [5,6,2,4]) (fun (DQ,wK)=>[(0,pB b 0),(4,pB g2 0),(5,pB g3 0),(8,iw (whole k)),(9,.bool true),(10,pB DQ 0),(11,pB wK 0),(57,pB Oe 0),(58,.agg (vc k))]) (fun (DQ,wK)=>aa wK zc 71::aa DQ zc 71::aa b #[uQ,pB Oe 0] 185::own bq uQ L::jE Oe S::aa g3 zc 71::aa g2 zc 71::aa g1 (vc k) 71::F) ?_ (fun NN=>?_)
   .rintro ⟨DQ,wK⟩;try dsimp only
    refine ag 5 ?_;refine sC [4] (eo (S:=S) ol k) ?_;refine nH [3,3,3,3,3] ?_;refine gH [6,7,8,9,10] [3,3,3,3,3] ?_;exact aB J4 (DQ,wK) rA
   refine dR 5 11 12 ?_ ?_ ?_
   .refine sC [2] (eo (S:=S) ol k) ?_;refine nH [1,1,1,1,1] ?_;refine gH [6,7,8,9,10] [1,1,1,1,1] ?_;refine aN 11 12 ?_ ?_
    .refine ae (.agg zc) zc (fun g38=>?_);refine nH [2,2,2,2,2] ?_;exact aB acn g38 rA
    refine ae (.agg zc) zc (fun Fi=>?_);refine nH [2,2,2,2,2] ?_;exact aB DP Fi rA
   .refine ae (.agg zc) zc (fun nB=>?_);refine nH [1,1,2,2,2]<|aN 5 12 ?_ ?_
    .refine sC [3] (eo (S:=S) ol k) ?_;refine nH [2,2,2,2,2] ?_;refine gH [6,7,8,9,10] [2,2,2,2,2] ?_;exact aB acn nB rA
    refine ae (.agg zc) zc (fun wL=>?_);refine nH [2,2,3,3,3] ?_;exact aB NN (nB,wL) rA
   refine ae (.agg zc) zc (fun Rl=>?_);refine nH [1,1,2,2,2]<|aN 5 11 ?_ ?_
   .refine sC [3] (eo (S:=S) ol k) ?_;refine nH [2,2,2,2,2] ?_;refine gH [6,7,8,9,10] [2,2,2,2,2] ?_;exact aB DP Rl rA
   refine ae (.agg zc) zc (fun BL=>?_);refine nH [2,2,3,3,3] ?_;exact aB NN (BL,Rl) rA
  refine sK<|sK<|sK<|sK<|sK<|sK<|sK<|sP (.bool false)<|bH<|eh<|eT ?_
  refine mC (fun H h=>fO (rB h)) (fun wg Of hw=>?_);refine aE<|br [aa b #[wg,pB Of 0] 185,own bq wg L,aa g3 zc 71,aa g2 zc 71,aa g1 (vc k) 71] ?_
  refine gH [0,1,2,3,4] [0,0,1,1,1] ?_;refine ba (ι:=Nat×Nat) 4 (tf [13,4]) (fun (wc,S7)=>[(0,pB b 0),(4,pB g2 0),(5,pB g3 0),(8,iw (whole k)),(9,.bool true),(10,pB wc 0),(11,pB S7 0),(60,.agg (vc ((aA S k).1))),(61,.agg (vc ((aA S k).2.1))),(62,.bool ((aA S k).2.2.1)),(63,iw ((aA S k).2.2.2))]) (fun (wc,S7)=>aa S7 zc 71::aa wc zc 71::jE Of S::aa b #[wg,pB Of 0] 185::own bq wg L::aa g3 zc 71::aa g2 zc 71::aa g1 (vc k) 71::F) ?_ (fun Ym=>?_)
  .rintro ⟨wc,S7⟩;try dsimp only
   refine ag 13 ?_;refine gh ?_;refine nH [3,3,3,3,3]<|ag 14 ?_
   refine gh ?_;refine nH [3,3,3,3,3] ?_;refine gH [15,16] [3,3,3,3,3] ?_;refine aI ?_;refine gc ?_;refine b9 (fun JJ=>?_) (fun JM=>?_)
   .refine aE<|br [aa S7 (vc ((aA S k).2.1)) 71,aa wc (vc ((aA S k).1)) 71,aa b #[wg,pB Of 0] 185,own bq wg L,aa g1 (vc k) 71] ?_
    refine gH [0,1,2,3] [0,0,1,1,3] ?_;refine ag 4 ?_;refine gh ?_;refine nH [0,0,1,1,3]<|ag 5 ?_
    refine gh ?_;refine nH [0,0,1,1,3] ?_;refine gH [6,7] [0,0,1,1,3] ?_;refine aI ?_;refine go ?_;refine ab (fun _ h=>cN (rB h)) ?_;have hz:k≠bw:=dF c4;have hr:¬(1≤whole k∧whole k≤((⟨L,S⟩:Tb).list.length:Int)):=by show ¬(_∧_≤(L.length:Int));omega
    have hp:cX ⟨L,S⟩ k=aA S k:=n4 hz hr JJ;refine ad [.agg (vc ((aA S k).1)),.agg (vc ((aA S k).2.1)),.bool ((aA S k).2.2.1),iw ((aA S k).2.2.2)] (jf b L S::F) (SI.agg 4 71 4 (SI.agg 5 71 3 (SI.tmp 6 (SI.tmp 7 SI.nil)))) rA ⟨?_,rfl⟩;rw[hp];rfl
   refine gy ?_;refine ab (fun _ h=>cN (rB h)) ?_;have hz:k≠bw:=dF c4;have hr:¬(1≤whole k∧whole k≤((⟨L,S⟩:Tb).list.length:Int)):=by show ¬(_∧_≤(L.length:Int));omega
   have hp:cX ⟨L,S⟩ k=(bw,bw,false,13):=AN hz hr JM om;refine ad [.agg zc,.agg zc,.bool false,iw 13] (jf b L S::F) (SI.agg 4 71 4 (SI.agg 5 71 3 (SI.tmp 6 (SI.tmp 7 SI.nil)))) rA ⟨?_,rfl⟩;rw[hp];rfl
  refine ba (ι:=Nat) 5 (tf [12,5]) (fun wc=>[(0,pB b 0),(4,pB g2 0),(5,pB g3 0),(8,iw (whole k)),(9,.bool true),(10,pB wc 0),(60,.agg (vc ((aA S k).1))),(61,.agg (vc ((aA S k).2.1))),(62,.bool ((aA S k).2.2.1)),(63,iw ((aA S k).2.2.2))]) (fun wc=>aa wc zc 71::jE Of S::aa b #[wg,pB Of 0] 185::own bq wg L::aa g3 zc 71::aa g2 zc 71::aa g1 (vc k) 71::F) ?_ (fun Og=>?_)
  .rintro wc;try dsimp only
   refine ag 12 ?_;refine ae (.agg zc) zc (fun g60=>?_);refine nH [3,3,3,3,3] ?_;exact aB Ym (wc,g60) rA
  refine ba (ι:=Nat) 5 (tf [11,1,1,4]) (fun F4=>[(0,pB b 0),(4,pB g2 0),(5,pB g3 0),(8,iw (whole k)),(9,.bool true),(11,pB F4 0),(60,.agg (vc ((aA S k).1))),(61,.agg (vc ((aA S k).2.1))),(62,.bool ((aA S k).2.2.1)),(63,iw ((aA S k).2.2.2))]) (fun F4=>aa F4 zc 71::jE Of S::aa b #[wg,pB Of 0] 185::own bq wg L::aa g3 zc 71::aa g2 zc 71::aa g1 (vc k) 71::F) ?_ (fun DR=>?_)
  .rintro F4;try dsimp only
   refine ag 11 ?_;refine ae (.agg zc) zc (fun g62=>?_);refine nH [3,3,3,3,3] ?_;exact aB Ym (g62,F4) rA
  refine ba (ι:=Nat×Nat) 10 (tf [5,6,2,4]) (fun (SW,uR)=>[(0,pB b 0),(4,pB g2 0),(5,pB g3 0),(8,iw (whole k)),(9,.bool true),(10,pB SW 0),(11,pB uR 0),(57,pB Of 0),(58,.agg (vc k))]) (fun (SW,uR)=>aa uR zc 71::aa SW zc 71::aa b #[wg,pB Of 0] 185::own bq wg L::jE Of S::aa g3 zc 71::aa g2 zc 71::aa g1 (vc k) 71::F) ?_ (fun aco=>?_)
  .rintro ⟨SW,uR⟩;try dsimp only
   refine ag 5 ?_;refine sC [4] (eo (S:=S) ol k) ?_;refine nH [3,3,3,3,3] ?_;refine gH [6,7,8,9,10] [3,3,3,3,3] ?_;exact aB Ym (SW,uR) rA
  refine dR 5 11 12 ?_ ?_ ?_
  .refine sC [2] (eo (S:=S) ol k) ?_;refine nH [1,1,1,1,1] ?_;refine gH [6,7,8,9,10] [1,1,1,1,1] ?_;refine aN 11 12 ?_ ?_
   .refine ae (.agg zc) zc (fun g64=>?_);refine nH [2,2,2,2,2] ?_;exact aB Og g64 rA
   refine ae (.agg zc) zc (fun DS=>?_);refine nH [2,2,2,2,2] ?_;exact aB DR DS rA
  .refine ae (.agg zc) zc (fun zI=>?_);refine nH [1,1,2,2,2]<|aN 5 12 ?_ ?_
   .refine sC [3] (eo (S:=S) ol k) ?_;refine nH [2,2,2,2,2] ?_;refine gH [6,7,8,9,10] [2,2,2,2,2] ?_;exact aB Og zI rA
   refine ae (.agg zc) zc (fun g67=>?_);refine nH [2,2,3,3,3] ?_;exact aB aco (zI,g67) rA
  refine ae (.agg zc) zc (fun g68=>?_);refine nH [1,1,2,2,2]<|aN 5 11 ?_ ?_
  .refine sC [3] (eo (S:=S) ol k) ?_;refine nH [2,2,2,2,2] ?_;refine gH [6,7,8,9,10] [2,2,2,2,2] ?_;exact aB DR g68 rA
  refine ae (.agg zc) zc (fun Oh=>?_);refine nH [2,2,3,3,3] ?_;exact aB aco (Oh,g68) rA
 rw[DO]at e8;subst e8;refine sP (.tuple #[iw k.p,.bool false])<|sP (iw k.p)<|sP (.bool false)<|sP (iw k.p)<|sP (.bool false)<|bH<|aE<|bn<|oN (.bool false)<|sK<|sK<|oN (.bool false)<|sK<|sK<|sK<|sK<|sK<|sK<|sK<|sP (.bool false)<|bH<|eh<|eT ?_
 refine mC (fun H h=>fO (rB h)) (fun wh Oi hw=>?_);refine aE<|br [aa b #[wh,pB Oi 0] 185,own bq wh L,aa g3 zc 71,aa g2 zc 71,aa g1 (vc k) 71] ?_
 refine gH [0,1,2,3,4] [0,0,1,1,1] ?_;refine ba (ι:=Nat×Nat) 4 (tf [13,4]) (fun (Fh,g73)=>[(0,pB b 0),(4,pB g2 0),(5,pB g3 0),(8,iw k.p),(9,.bool false),(10,pB Fh 0),(11,pB g73 0),(60,.agg (vc ((aA S k).1))),(61,.agg (vc ((aA S k).2.1))),(62,.bool ((aA S k).2.2.1)),(63,iw ((aA S k).2.2.2))]) (fun (Fh,g73)=>aa g73 zc 71::aa Fh zc 71::jE Oi S::aa b #[wh,pB Oi 0] 185::own bq wh L::aa g3 zc 71::aa g2 zc 71::aa g1 (vc k) 71::F) ?_ (fun Ke=>?_)
 .rintro ⟨Fh,g73⟩;try dsimp only
  refine ag 13 ?_;refine gh ?_;refine nH [3,3,3,3,3]<|ag 14 ?_
  refine gh ?_;refine nH [3,3,3,3,3] ?_;refine gH [15,16] [3,3,3,3,3] ?_;refine aI ?_;refine gc ?_;refine b9 (fun p82=>?_) (fun p83=>?_)
  .refine aE<|br [aa g73 (vc ((aA S k).2.1)) 71,aa Fh (vc ((aA S k).1)) 71,aa b #[wh,pB Oi 0] 185,own bq wh L,aa g1 (vc k) 71] ?_
   refine gH [0,1,2,3] [0,0,1,1,3] ?_;refine ag 4 ?_;refine gh ?_;refine nH [0,0,1,1,3]<|ag 5 ?_
   refine gh ?_;refine nH [0,0,1,1,3] ?_;refine gH [6,7] [0,0,1,1,3] ?_;refine aI ?_;refine go ?_;refine ab (fun _ h=>cN (rB h)) ?_;have hz:k≠bw:=dF c4;have hr:¬(1≤whole k∧whole k≤((⟨L,S⟩:Tb).list.length:Int)):=by show ¬(_∧_≤(L.length:Int));omega
   have hp:cX ⟨L,S⟩ k=aA S k:=n4 hz hr p82;refine ad [.agg (vc ((aA S k).1)),.agg (vc ((aA S k).2.1)),.bool ((aA S k).2.2.1),iw ((aA S k).2.2.2)] (jf b L S::F) (SI.agg 4 71 4 (SI.agg 5 71 3 (SI.tmp 6 (SI.tmp 7 SI.nil)))) rA ⟨?_,rfl⟩;rw[hp];rfl
  refine gy ?_;refine ab (fun _ h=>cN (rB h)) ?_;have hz:k≠bw:=dF c4;have hr:¬(1≤whole k∧whole k≤((⟨L,S⟩:Tb).list.length:Int)):=by show ¬(_∧_≤(L.length:Int));omega
  have hp:cX ⟨L,S⟩ k=(bw,bw,false,13):=AN hz hr p83 om;refine ad [.agg zc,.agg zc,.bool false,iw 13] (jf b L S::F) (SI.agg 4 71 4 (SI.agg 5 71 3 (SI.tmp 6 (SI.tmp 7 SI.nil)))) rA ⟨?_,rfl⟩;rw[hp];rfl
 refine ba (ι:=Nat) 5 (tf [12,5]) (fun Fh=>[(0,pB b 0),(4,pB g2 0),(5,pB g3 0),(8,iw k.p),(9,.bool false),(10,pB Fh 0),(60,.agg (vc ((aA S k).1))),(61,.agg (vc ((aA S k).2.1))),(62,.bool ((aA S k).2.2.1)),(63,iw ((aA S k).2.2.2))]) (fun Fh=>aa Fh zc 71::jE Oi S::aa b #[wh,pB Oi 0] 185::own bq wh L::aa g3 zc 71::aa g2 zc 71::aa g1 (vc k) 71::F) ?_ (fun acp=>?_)
 .rintro Fh;try dsimp only
  refine ag 12 ?_;refine ae (.agg zc) zc (fun g85=>?_);refine nH [3,3,3,3,3] ?_;exact aB Ke (Fh,g85) rA
 refine ba (ι:=Nat) 5 (tf [11,1,1,4]) (fun g74=>[(0,pB b 0),(4,pB g2 0),(5,pB g3 0),(8,iw k.p),(9,.bool false),(11,pB g74 0),(60,.agg (vc ((aA S k).1))),(61,.agg (vc ((aA S k).2.1))),(62,.bool ((aA S k).2.2.1)),(63,iw ((aA S k).2.2.2))]) (fun g74=>aa g74 zc 71::jE Oi S::aa b #[wh,pB Oi 0] 185::own bq wh L::aa g3 zc 71::aa g2 zc 71::aa g1 (vc k) 71::F) ?_ (fun acr=>?_)
 .rintro g74;try dsimp only
  refine ag 11 ?_;refine ae (.agg zc) zc (fun g87=>?_);refine nH [3,3,3,3,3] ?_;exact aB Ke (g87,g74) rA
 refine ba (ι:=Nat×Nat) 10 (tf [5,6,2,4]) (fun (g76,g77)=>[(0,pB b 0),(4,pB g2 0),(5,pB g3 0),(8,iw k.p),(9,.bool false),(10,pB g76 0),(11,pB g77 0),(57,pB Oi 0),(58,.agg (vc k))]) (fun (g76,g77)=>aa g77 zc 71::aa g76 zc 71::aa b #[wh,pB Oi 0] 185::own bq wh L::jE Oi S::aa g3 zc 71::aa g2 zc 71::aa g1 (vc k) 71::F) ?_ (fun acs=>?_)
 .rintro ⟨g76,g77⟩;try dsimp only
  refine ag 5 ?_;refine sC [4] (eo (S:=S) ol k) ?_;refine nH [3,3,3,3,3] ?_;refine gH [6,7,8,9,10] [3,3,3,3,3] ?_;exact aB Ke (g76,g77) rA
 refine dR 5 11 12 ?_ ?_ ?_
 .refine sC [2] (eo (S:=S) ol k) ?_;refine nH [1,1,1,1,1] ?_;refine gH [6,7,8,9,10] [1,1,1,1,1] ?_;refine aN 11 12 ?_ ?_
  .refine ae (.agg zc) zc (fun g89=>?_);refine nH [2,2,2,2,2] ?_;exact aB acp g89 rA
  refine ae (.agg zc) zc (fun g90=>?_);refine nH [2,2,2,2,2] ?_;exact aB acr g90 rA
 .refine ae (.agg zc) zc (fun g91=>?_);refine nH [1,1,2,2,2]<|aN 5 12 ?_ ?_
  .refine sC [3] (eo (S:=S) ol k) ?_;refine nH [2,2,2,2,2] ?_;refine gH [6,7,8,9,10] [2,2,2,2,2] ?_;exact aB acp g91 rA
  refine ae (.agg zc) zc (fun g92=>?_);refine nH [2,2,3,3,3] ?_;exact aB acs (g91,g92) rA
 refine ae (.agg zc) zc (fun g93=>?_);refine nH [1,1,2,2,2]<|aN 5 11 ?_ ?_
 .refine sC [3] (eo (S:=S) ol k) ?_;refine nH [2,2,2,2,2] ?_;refine gH [6,7,8,9,10] [2,2,2,2,2] ?_;exact aB acr g93 rA
 refine ae (.agg zc) zc (fun g94=>?_);refine nH [2,2,3,3,3] ?_;exact aB acs (g94,g93) rA
theorem Oj(hl:L.length≤100000)(hs:S.length≤100000):NF 168 #[pB b 0] Z (jf b L S::F) (iw (ja ⟨L,S⟩)):=by
 refine bO Tryz.func168 19 (fun w0=>?_);refine go ?_;refine mC (fun H h=>fO (rB h)) (fun lv1 r2 hw=>?_);refine br [aa b #[lv1,pB r2 0] 185,own bq lv1 L] ?_;refine gH [0,1,2,3] [0,0] ?_;refine fK 4 rfl [0,0] (fun _=>(bL aZ Tryz.underlying28 (.own 1))) ?_;refine fK 5 rfl [0,0] (fun _=>(HL 2 (L.length:Int) ol)) ?_;refine fK 6 rfl [0,0] (fun _=>(bX 4 (2*(L.length:Int)) ol)) ?_;refine gH [7,8,9,10] [0,0] ?_;refine ag 11 ?_;refine sC [2] (JU (S:=S)) ?_;refine nH [1,1]<|fK 12 rfl [1,1] (fun _=>(HL 4 (S.length:Int) ol)) ?_
 refine fK 13 rfl [1,1] (fun _=>(bX (4+(2*(L.length:Int))) (4*(S.length:Int)) ol)) ?_;refine gH [14] [1,1] ?_;refine aI ?_;refine gy ?_;refine ab (fun _ h=>cN (rB h)) ?_;refine ad _ _ (SI.tmp 2 SI.nil) rA ⟨?_,rfl⟩;rfl
section
variable{st jx:bp}{v k t m:Vl}{o:kX}
theorem count_le(st:bp):st.count≤st.objs.length:=List.countP_le_length
end
def bp.upd(st:bp)(id:Int)(f:kX→kX):bp:=match st.get id with
 | some o=>st.put id (f o)
 | none=>st
def rz(st:bp)(t k:Vl):Vl×Vl×Bool×Int:=match fm st t with
 | some T=>cX T k
 | none=>(bw,bw,false,8)
def jy(st:bp)(t:Vl)(p:Int):bp:=match fm st t with
 | none=>st
 | some T=>if acm T p≠0 then st else (st.setTab t.ref (afm T p)).touch t.ref
def aw(st:bp)(id:Int):Bool:=(st.get id).isSome
def jZ(st:bp)(id:Int):Int:=if aw st id=true then 0 else 19
def dA(st:bp)(id:Int):bp:=if aw st id=true then { st with objs:=st.objs.set (id.toNat-1) none } else st
def aQ(st:bp):List Int:=((List.range st.objs.length).map fun i:Nat=>(i:Int)+1).filter fun id=>aw st id
def cJ(v:Vl):Int:=if isRef v.kind=true then v.ref else 0
def n'(o:kX):List Int:=((o.mt::o.vals).map cJ).filter fun i=>decide (i≠0)
def bf(o:kX):Int:=if o.kind=4 then 8+ja o.tab else if o.kind=5 then 8+(o.vals.length:Int) else if o.kind=7 then 16+(o.vals.length:Int) else 12
/-! ### What an object is, further -/
structure Yn(o:kX):Prop where
 tw:TW o.tab
 vals:∀v∈o.vals,au v=true
 mt:isRef o.mt.kind=true→1≤o.mt.ref
 data:o.kind=8→o.vals.length=16
def HW(st:bp):Prop:=∀o,some o∈st.objs→Yn o
theorem HW.nil:HW xw:=fun _ h=>by cases h
section
variable{st:bp}{v t k x:Vl}{id p i:Int}{o o':kX}{n:Nat}{l:List Vl}
theorem HW.put(h:HW st)(ho:Yn o'):HW (st.put id o'):=fun x hx=>by
 rcases tg hx with hx|rfl
 .exact h x hx
 exact ho
theorem HW.touch(h:HW st)(id:Int):HW (st.touch id):=h
theorem HW.of(h:HW st)(hg:st.get id=some o):Yn o:=h o (get_mem hg).1
theorem HW.make(h:HW st)(ho:Yn o):HW (bY st o):=by
 unfold bY;split
 .omega
 intro x hx;rcases List.mem_append.1 hx with hx|hx
 .exact h x hx
 grind
theorem xx(kind tag:Int)(name:ByteArray){vals:List Vl}(hv:∀v∈vals,au v=true)(h8:kind=8→vals.length=16):Yn (eg kind tag name vals):=⟨TW.nil,hv,fun h=>(by cases h),h8⟩
theorem Yo(name:ByteArray):Yn (eg 8 0 name (List.replicate 16 bw)):=xx _ _ _ (fun v hv=>by rw[(List.mem_replicate.1 hv).2];decide) fun _=>by simp
theorem HW.set(hi:fe st)(h:HW st)(t k v:Vl):HW (hset st t k v):=by
 rcases jY st t k v with ⟨_,e,_⟩|⟨_,_,_,e,_⟩|⟨_,_,_,_,e,_⟩|⟨T,o,h1,h2,h3,hv,h4,h5,h6,h7,e,_⟩
 .grind
 .grind
 .grind
 rw[e];have ho:=h.of h4;have iZ:=hi.obs o (get_mem h4).1;refine HW.touch (HW.put h (o':={ o with tab:=ez T k v }) ⟨?_,ho.vals,ho.mt,ho.data⟩) _;rw[←h7];exact Tp iZ.tab ho.tw k v
/-! ### Inserting and removing -/
theorem Ol{st:bp}{id:Int}{o:kX}:(st.put id o).objs.length=st.objs.length:=by grind[bp.put]
/-! ### Values of objects -/
theorem Kf(h:HW st)(v m:Vl):HW (cp st v m):=by
 rcases lH st v m with ⟨e,_⟩|⟨o,h1,_,h2,e,_,hb⟩
 .rw [e];exact h
 rw[e];have ho:=h.of h1;refine HW.touch (HW.put h (o':={ o with mt:=m }) ⟨ho.tw,ho.vals,fun hr=>?_,ho.data⟩) _;have hm:m=bw∨(fm st m).isSome=true:=by
  unfold bZ at hb;cases hf:dm st v with
  | none=>rw[hf]at hb;cases hb
  | some x=>
   rw[hf]at hb;simp only[Bool.and_eq_true,Bool.or_eq_true,decide_eq_true_eq]at hb;exact hb.2
 rcases hm with rfl|hm
 .cases hr
 cases hT:fm st m with
 | none=>rw[hT]at hm;cases hm
 | some T=>
  obtain⟨x,_,hx,_⟩:=qy hT;exact (get_mem hx).2.1
/-! ### Dropping -/
theorem lI(st:bp)(id:Int):(dA st id=st∧jZ st id=19∧st.get id=none)∨∃o,st.get id=some o∧jZ st id=0∧dA st id={ st with objs:=st.objs.set (id.toNat-1) none }:=by
 unfold dA jZ aw;cases hg:st.get id with
 | none=>exact .inl ⟨rfl,rfl,rfl⟩
 | some o=>exact .inr ⟨o,rfl,rfl,rfl⟩
theorem kg(st:bp)(id oM:Int):(dA st id).get oM=if oM=id then none else st.get oM:=by grind[lI,get_mem,bp.get]
theorem ye(h:some o∈(dA st id).objs):some o∈st.objs:=by grind[lI]
theorem nh:(dA st id).objs.length=st.objs.length∧(dA st id).tch=st.tch:=by grind[lI]
theorem tj(h:fe st)(id:Int):fe (dA st id):=⟨fun o ho=>h.obs o (ye ho),by rw[nh.1,nh.2];exact h.tch⟩
theorem Om(h:HW st)(id:Int):HW (dA st id):=fun o ho=>h o (ye ho)
end
/-! ### Answers, by cases -/
section
variable{st:bp}{v x:Vl}{i:Int}{o:kX}{l:List Vl}
end
end
end Go.Proofs.YtmhpcebiamkciaaGreat
section
namespace Go.S
open Go.Hp Go.J Go.RowKit
open Go.Mem (Ty fS blk cm)
section
variable{P:Program}
def srt(L:List Int):List Int:=L.mergeSort fun x y=>decide (x≤y)
theorem BM(L:List Int):(srt L).length=L.length:=List.length_mergeSort _
theorem BN(L:List Int)(arr:Array Value)(h:L.length≤arr.size):(Sort.putCells (Value.int .i64) 0 L.toArray arr).toList.take L.length=L.map fun n=>Value.int .i64 n:=by
 apply List.ext_getElem?;intro k;by_cases hk:k<L.length
 .rw [List.getElem?_take,if_pos hk,Array.getElem?_toList];unfold Sort.putCells;rw[Array.getElem?_mapIdx,Array.getElem?_eq_getElem (by omega)];simp[hk]
 rw[List.getElem?_eq_none (by simp;omega),List.getElem?_eq_none (by simp;omega)]
theorem Tq{f:FuncId}{e:TypeId}{Z:bK}{F:List aW}{v:Value}{L:List Int}(hl:L.length<4611686018427387904)
  (hs:∀(b off cap:Nat) (zs:List Int) (w:World),Sort.Holds (Value.int .i64) w b off zs.toArray→b<w.heap.size→zs.length<4611686018427387904→Calls P f #[.slice (some ⟨b,off,none⟩) zs.length cap] w fun e w'=>e=.returned (.tuple #[])∧∃n os,w'=Sort.grow (Sort.putRow (Value.int .i64) (Sort.ahead w n) b off (zs.mergeSort fun x y=>decide (x≤y)).toArray) os)
  (h0:∀(p:Option Addr) (cap:Nat) (w:World),Calls P f #[.slice p 0 cap] w fun e w'=>e=.returned (.tuple #[])∧w'=w):
  SF P f #[v] Z (own (iT e) v L::F) fun r Bs=>r=.tuple #[]∧Bs=own (iT e) v (srt L)::F:=
 aa1 (A:=own (iT e) v L) (A':=own (iT e) v (srt L)) fun H S ⟨ow,hS⟩=>by
  rcases ow with ⟨rfl,rfl⟩|⟨g,cap,arr,rfl,h1,h2,h3,h4,h5⟩
  .intro w hw;refine (h0 none 0 w).mono fun e' w' ⟨he,xk⟩=>⟨_,he,?_,rfl,S,⟨?_,hS⟩,?_,fun k hk=>.inl hk⟩
   .subst xk;exact At.self _
   .exact .inl ⟨rfl,by simp[srt]⟩
   subst xk;rw[hw];exact Chg.refl _ _
  intro w hw;have h4':L.length≤arr.size:=by have:(iT e).size=1:=rfl;rw[this]at h4;omega
  have h5':arr.toList.take L.length=L.map fun n=>Value.int .i64 n:=by have:=h5;rw[s3,show (iT e).size=1 from rfl,Nat.mul_one]at this;exact this
  have hH:Sort.Holds (Value.int .i64) w g 0 L.toArray:=fun j hj=>by
   have LC:j<L.length:=by simpa using hj
   have hg:w.heap[g]?=some (.cells arr e (0,0)):=by rw[hw];exact h1
   constructor
   .have:=cell_of_row w g (0+j) arr e (0,0) hg;rw[this];have h6:=congrArg (·[j]?) h5';simp only[List.getElem?_take,if_pos LC,List.getElem?_map]at h6;rw[Array.getElem?_toList]at h6;rw[Nat.zero_add,h6];simp[LC]
   unfold World.frozen?;simp[hg]
  refine (hs g 0 cap L w hH (by rw[hw];exact fh h1) hl).mono fun e' w' ⟨he,n,os,xk⟩=>⟨_,he,?_,rfl,S,⟨?_,hS⟩,?_,fun k hk=>.inl hk⟩
  .subst xk;exact⟨rfl,rfl,rfl,rfl⟩
  .have hg:w'.heap[g]?=some (.cells (Sort.putCells (Value.int .i64) 0 (srt L).toArray arr) e (0,0)):=by
    subst xk;have hg:w.heap[g]?=some (.cells arr e (0,0)):=by rw[hw];exact h1
    show (((w.heap.modify g (Sort.onCells (Sort.putCells (Value.int .i64) 0 (srt L).toArray)))++os)[g]?)=_;rw[Array.getElem?_append_left (by rw[Array.size_modify];exact fh hg),Array.getElem?_modify,if_pos rfl,hg];rfl
   refine .inr ⟨g,cap,_,by rw[BM],hg,by rw[BM];exact h2,h3,?_,?_⟩
   .have:(Sort.putCells (Value.int .i64) 0 (srt L).toArray arr).size=arr.size:=by simp[Sort.putCells]
    rw[this];exact h4
   rw[show (iT e).size=1 from rfl,Nat.mul_one,s3];exact BN (srt L) arr (by rw[BM];exact h4')
  subst xk;rw[←hw];refine⟨?_,fun k hk hn=>?_⟩
  .show w.heap.size≤((w.heap.modify g _)++os).size;simp
  show (((w.heap.modify g (Sort.onCells (Sort.putCells (Value.int .i64) 0 (srt L).toArray)))++os)[k]?)=_;rw[Array.getElem?_append_left (by rw[Array.size_modify];exact hk),Array.getElem?_modify,if_neg];intro e1;exact hn ((hS k).2 (by rw[←e1];rfl))
theorem Ts{f:FuncId}{e:TypeId}{Z:bK}{v:Value}{L:List Int}(x:Int)(hk:Kn Z (iT e) v L)(hl:L.length<4611686018427387904)(hp:L.Pairwise (· ≤ ·))
  (hs:∀(b off n c:Nat) (zs:List Int) (x:Int) (w:World),n≤zs.length→n<4611686018427387904→(∀j,j<zs.length→w.cell? ⟨b,off+j,none⟩=some (.int .i64 (zs.getD j 0)))→(zs.take n).Pairwise (· ≤ ·)→Calls P f #[.slice (some ⟨b,off,none⟩) n c,.int .i64 x] w fun e w'=>e=.returned (.tuple #[.int .i64 ((zs.take n).countP (· < x):Nat),.bool ((zs.take n).contains x)])∧∃q,w'=w.drewN q)
  (h0:∀(a:Option Addr) (c:Nat) (x:Int) (w:World),Calls P f #[.slice a 0 c,.int .i64 x] w fun e w'=>e=.returned (.tuple #[.int .i64 0,.bool false])∧w'=w):
  SF P f #[v,.int .i64 x] Z [] fun r Bs=>r=.tuple #[.int .i64 (L.countP (· < x):Nat),.bool (decide (x∈L))]∧Bs=[]:=
 MS fun H hH w hw=>by
  have sl:=hk.get hH;rcases sl with ⟨⟨p,rfl⟩,rfl⟩|⟨g,off,cap,arr,e',fr,rfl,h1,h2,h3,h4,h5⟩
  .refine (h0 p 0 x w).mono fun e' w' ⟨he,xk⟩=>⟨_,he,?_,rfl,?_⟩
   .subst xk;exact At.self _
   subst xk;rw[hw];exact Chg.refl _ _
  have h5':(arr.toList.drop off).take L.length=L.map fun n=>Value.int .i64 n:=by have:=h5;rw[s3,show (iT e).size=1 from rfl,Nat.mul_one]at this;exact this
  have hg:w.heap[g]?=some (.cells arr e' fr):=by rw[hw];exact h1
  refine (hs g off L.length cap L x w (Nat.le_refl _) hl (fun j hj=>?_) (by rw[List.take_length];exact hp)).mono fun e' w' ⟨he,q,xk⟩=>⟨_,he,?_,?_,?_⟩
  .rw [cell_of_row w g (off+j) arr e' fr hg];have h6:=congrArg (·[j]?) h5';simp only[List.getElem?_take,if_pos hj,List.getElem?_map,List.getElem?_drop]at h6;rw[Array.getElem?_toList]at h6;rw[h6];simp[hj,List.getD_eq_getElem?_getD]
  .subst xk;exact⟨rfl,rfl,rfl,rfl⟩
  .rw [List.take_length];congr 4;simp
  subst xk;rw[←hw];exact Chg.refl _ _
end
end Go.S
end
namespace Go.Proofs.YtmhpcebiamkciaaGreat
open Go.Hp Go.J Go.S
open Go.Mem (fS Ty eB bN dg cL cm db dO blk blk_pre fM elemAt pre rF suf)
section
variable{A B:List Int}{T:Tb}{Z:bK}{F:List aW}{b i:Nat}{st:bp}{κ β:Type}{t k:Vl}{l:List (Vl×Vl)}
section
variable{ps:List (Int×(Nat×Nat))}{st:bp}{id:Int}{o:kX}{tm:List (Int×Bool)}
theorem BO{α:Type}{p:α→Bool}:∀(l:List α) {i:Nat}{x y:α},l[i]?=some x→p x=true→p y=false→(l.set i y).countP p+1=l.countP p:= by intro l;induction l<;>grind
theorem yf(hg:st.get id=some o):(dA st id).count+1=st.count:=by
 obtain⟨_,h1,h2,h3⟩:=get_mem hg;rcases lI st id with ⟨_,_,hn⟩|⟨_,_,_,e⟩
 .grind
 rw[e];exact BO st.objs h3 rfl rfl
theorem zJ[DecidableEq κ]{m:List (κ×β)}{k:κ}{u:β}(h:bN m k=some u):∃i,db m k=some i:=by
 cases hp:db m k with
 | none=>rw[Go.Mem.apos_none hp]at h;cases h
 | some i=>exact⟨i,rfl⟩
theorem On[DecidableEq κ]{m:List (κ×β)}{k:κ}{u:β}(h:bN m k=some u):(eB m k).length+1=m.length:=by
 obtain⟨i,hp⟩:=zJ h;rw[Go.Mem.adel_pos hp];grind[Go.Mem.apos_lt]
theorem HA.drop(h:HA ps st)(qW:(ps.map Prod.fst).Nodup){q:Nat×Nat}(hq:bN ps id=some q)(hg:st.get id=some o):HA (eB ps id) (dA st id):=by
 refine⟨fun oM=>?_,?_⟩
 .rw [dg qW,kg];by_cases e:oM=id
  .grind
  rw[if_neg e,if_neg e];exact h.has oM
 have h1:=On hq;have h2:=yf hg;have:=h.len;omega
theorem TA.drop(h:TA tm st)(id:Int):TA tm (dA st id):=fun oM x hx=>by
 rw[kg]at hx;by_cases e:oM=id
 .rw [if_pos e]at hx;cases hx
 rw[if_neg e]at hx;rw[nh.2];exact h oM x hx
/-! ### Identities -/
theorem jh:aw st id=true↔∃o,st.get id=some o:=by
 unfold aw;rw[Option.isSome_iff_exists]
theorem dj:id∈aQ st↔aw st id=true:=by
 unfold aQ;rw[List.mem_filter,List.mem_map];constructor
 .grind
 intro h;obtain⟨o,ho⟩:=jh.1 h;obtain⟨_,h1,h2,_⟩:=get_mem ho;grind
theorem iR(st:bp):(aQ st).Pairwise (· < ·):=by
 unfold aQ;refine List.Pairwise.filter _ (List.Pairwise.map _ (fun a b hab=>?_) List.pairwise_lt_range);omega
theorem AP(h:A.Perm B):srt A=srt B:=by
 unfold srt;refine List.Perm.eq_of_pairwise (le:=fun x y:Int=>decide (x≤y)) ?_ (List.pairwise_mergeSort (by grind) (by grind) A) (List.pairwise_mergeSort (by grind) (by grind) B) ((List.mergeSort_perm A _).trans (h.trans (List.mergeSort_perm B _).symm));grind
theorem yg(h:A.Pairwise (· < ·)):srt A=A:=List.mergeSort_of_pairwise (h.imp fun h=>by simp;omega)
theorem vE(ha:A.Nodup)(hb:B.Nodup)(h:∀x,x∈A↔x∈B):A.Perm B:=by grind
theorem qE(h:A.Pairwise (· < ·)):A.Nodup:=h.imp fun h=>by omega
theorem mem_keys(h:HA ps st):id∈ps.map Prod.fst↔aw st id=true:=by
 have h1:=Go.Mem.aget_none_iff ps id;unfold aw;rw[←h.has id];cases hq:bN ps id with
 | none=>simp[h1.1 hq]
 | some q=>grind
theorem keys_perm(h:HA ps st)(qW:(ps.map Prod.fst).Nodup):(ps.map Prod.fst).Perm (aQ st):=vE qW (qE (iR st)) fun x=>(mem_keys h).trans dj.symm
theorem Oo(h:HA ps st)(qW:(ps.map Prod.fst).Nodup):srt (ps.map Prod.fst)=aQ st:=by rw[AP (keys_perm h qW),yg (iR st)]
theorem kh(st:bp):(aQ st).length≤st.objs.length:=by grind[aQ]
end
section
variable{Z:bK}{F:List aW}{H:bb}{b:Nat}{st:bp}{ps:List (Int×(Nat×Nat))}{id:Int}{q:Nat×Nat}{o:kX}
theorem Gj(h:fm st t=none):rz st t k=(bw,bw,false,8):=by unfold rz;rw[h]
theorem d'(h:fm st t=some T):rz st t k=cX T k:=by unfold rz;rw[h]
theorem Oq(qW:(ps.map Prod.fst).Nodup)(hq:bN ps id=some q)(ho:st.get id=some o)(h:Holds Z (jg ps st::F) H):Holds Z (jg (eB ps id) (dA st id)::F) H:=by
 obtain⟨v,_,h⟩:=gj hq ho h;have e:nc ps st id=jg (eB ps id) (dA st id):=by
  unfold nc jg;congr 1;refine List.map_congr_left fun p hp=>?_
  have l7:p.1≠id:=fun e=>by
   have h1:bN (eB ps id) id=none:=by rw[dg qW,if_pos rfl]
   exact (Go.Mem.aget_none_iff (eB ps id) id).1 h1 (List.mem_map.2 ⟨p,hp,e⟩)
  show xY p.2 (st.ob p.1)=xY p.2 ((dA st id).ob p.1);unfold bp.ob;rw[kg,if_neg l7]
 rw[←e];exact h.re [3] [1,1,1]
end
theorem oa{n:Nat}(ca:jv n st)(hn:n≤300)(t k:Vl):NF 118 #[pB b 0,t.v,k.v] Z (bJ b st::F) (xJ (rz st t k)):=by
 refine bO Tryz.func118 27 (fun w0=>?_);refine bn<|bj (vc t) (fun g1=>?_)
 refine bj (vc k) (fun g2=>?_);refine ae (.agg zc) zc (fun g3=>?_);refine ae (.agg zc) zc (fun g4=>?_);refine go ?_;refine cr (fun H h=>gT (rB h)) (fun BP _=>?_);refine bl (fun H h=>gq (rB h)) (fun Tl=>?_);obtain⟨wM,ha8⟩:=Tl;refine aH [0] (xZ (st:=st) (ps:=BP) t) ?_;rintro u9 _ ⟨e10,rfl⟩;rcases pH ha8 t with ⟨abS,Gc⟩|⟨jw,q14,acu,gr,uK,XV,acv,Yl⟩
 .rw [Gc]at e10;subst e10;refine go ?_;refine sL (ay (.agg zc))<|sL (ay (.agg zc))<|sP (pB b 0)<|sV (fun _ h=>nX (F:=[])) ?_
  refine go ?_;refine ab (fun _ h=>cf (rB h)) ?_;refine ad [.agg zc,.agg zc,.bool false,iw 8] (bJ b st::F) (SI.agg 6 71 2 (SI.agg 7 71 1 (SI.tmp 8 (SI.tmp 9 SI.nil)))) rA ⟨?_,?_⟩
  .rw [Gj abS];rfl
  rfl
 rw[Yl]at e10;subst e10;refine go ?_;refine aC (fun _ h=>BI acv gr uK (rB h)) ?_;obtain⟨ajB,ah4,_⟩:=ca.obs jw (get_mem gr).1;have ah5:n*(n+1)≤300*301:=Nat.mul_le_mul om om;refine sC [0] (ti (L:=jw.tab.list) (S:=jw.tab.rest) ol ol k) ?_;refine go ?_;refine ab (fun _ h=>DH acv gr uK (rB h)) ?_;refine ab (fun _ h=>cf (rB h)) ?_;refine ad [.agg (vc ((cX ⟨jw.tab.list,jw.tab.rest⟩ k).1)),.agg (vc ((cX ⟨jw.tab.list,jw.tab.rest⟩ k).2.1)),.bool ((cX ⟨jw.tab.list,jw.tab.rest⟩ k).2.2.1),iw ((cX ⟨jw.tab.list,jw.tab.rest⟩ k).2.2.2)] (bJ b st::F) (SI.agg 6 71 2 (SI.agg 7 71 1 (SI.tmp 8 (SI.tmp 9 SI.nil)))) rA ⟨?_,?_⟩
 .rw [d' acu];rfl
 rfl
theorem ir(id:Int):NF 17 #[pB b 0,iw id] Z (bJ b st::F) (.bool (aw st id)):=by
 refine bO Tryz.func17 16 (fun w0=>?_);refine po (fun H h=>gT (rB h)) (fun LG _=>?_);refine bk (fun H h=>gq (rB h)) (fun Hu=>?_);obtain⟨gE,ha4⟩:=Hu;refine kN (fun H h=>gN (rB h)) (fun mb5 tb6 tm7 hw=>?_);obtain⟨BD,LP,pE⟩:=hw;refine go ?_;rcases na LP id with ⟨JN,Yp⟩|⟨jw,q14,pK,zG⟩
 .refine sL (Lt.to (v':=.pointer none) (cn 1 dx Tryz.underlying94 (.pointer none) id) (by rw[Yp];rfl)) ?_;refine go ?_;refine ab (fun _ h=>dz (st:=st) (n:=(st.objs.length:Int)) ⟨⟨BD,LP,pE⟩,rfl⟩ (rB h)) ?_;refine ab (fun _ h=>cf (rB h)) ?_;refine ad _ _ (SI.tmp 4 SI.nil) rA ⟨?_,?_⟩
  .unfold aw;rw[JN];rfl
  rfl
 refine sL (Lt.to (v':=bu q14.1) (cn 1 dx Tryz.underlying94 (.pointer none) id) (by rw[zG];rfl)) ?_;refine go ?_;refine ab (fun _ h=>dz (st:=st) (n:=(st.objs.length:Int)) ⟨⟨BD,LP,pE⟩,rfl⟩ (rB h)) ?_;refine ab (fun _ h=>cf (rB h)) ?_;refine ad _ _ (SI.tmp 4 SI.nil) rA ⟨?_,?_⟩
 .unfold aw;rw[pK];rfl
 rfl
theorem Ib(id:Int):MF 55 #[pB b 0,iw id] Z (bJ b st::F) (iw (jZ st id)) (bJ b (dA st id)::F):=by
 refine bO Tryz.func55 21 (fun w0=>?_);refine po (fun H h=>gT (rB h)) (fun LG _=>?_);refine bk (fun H h=>gq (rB h)) (fun Hu=>?_);obtain⟨gE,ha4⟩:=Hu;refine kN (fun H h=>gN (rB h)) (fun mb5 tb6 tm7 hw=>?_);obtain⟨BD,LP,pE⟩:=hw;refine bk (fun H h=>(h.mp (i:=1) rfl).nodup) (fun J'=>?_);refine go ?_;rcases na LP id with ⟨JN,Yp⟩|⟨jw,q14,pK,zG⟩
 .refine sL (Lt.to (v':=.pointer none) (cn 1 dx Tryz.underlying94 (.pointer none) id) (by rw[Yp];rfl)) ?_;refine go ?_;refine ab (fun _ h=>dz (st:=st) (n:=(st.objs.length:Int)) ⟨⟨BD,LP,pE⟩,rfl⟩ (rB h)) ?_;refine ab (fun _ h=>cf (rB h)) ?_;refine ad _ _ (SI.tmp 4 SI.nil) rA ⟨?_,?_⟩
  .unfold jZ aw;rw[JN];rfl
  unfold dA aw;rw[JN];rfl
 refine sL (Lt.to (v':=bu q14.1) (cn 1 dx Tryz.underlying94 (.pointer none) id) (by rw[zG];rfl)) ?_;refine go ?_;refine qj 1 dx Tryz.underlying94 id ?_;refine aC (fun _ h=>Oq J' zG pK (rB h)) ?_;refine go ?_;refine ab (fun _ h=>dz (st:=(dA st id)) (n:=(st.objs.length:Int)) ⟨⟨tj BD id,HA.drop LP J' zG pK,TA.drop pE id⟩,by rw[nh.1]⟩ (rB h)) ?_;refine ab (fun _ h=>cf (rB h)) ?_;refine ad _ _ (SI.tmp 4 SI.nil) rA ⟨?_,?_⟩
 .unfold jZ aw;rw[pK];rfl
 rfl
def gF:List Vl→Nat→List (Vl×Vl)
 | [],_=>[]
 | v::r,i=>if v.kind≠0 then (ey ((i:Int)+1),v)::gF r (i+1) else gF r (i+1)
def pL(S:List cY):List (Vl×Vl):=(live S).map fun s=>(s.key,s.val)
def a7(T:Tb):List (Vl×Vl):=gF T.list 0++pL T.rest
def bE:List (Vl×Vl)→Vl×Vl×Bool×Int
 | []=>(bw,bw,false,0)
 | p::_=>(p.1,p.2,true,0)
theorem wP(h:(bE l).2.2.1=true):∃p tl,l=p::tl:=by
 cases l with
 | nil=>cases h
 | cons p tl=>exact⟨p,tl,rfl⟩
theorem wQ(h:(bE l).2.2.1=false):l=[]:=by
 cases l with
 | nil=>rfl
 | cons p tl=>cases h
theorem Ot(l:List (Vl×Vl)):(bE l).2.2.2=0:=by cases l<;>rfl
theorem Gk(S:List cY):aA S bw=bE (pL S):=by
 rw[Gl];unfold pL;cases live S<;>rfl
where Gl:aA S bw=((iz (live S).head?).1,(iz (live S).head?).2.1,(iz (live S).head?).2.2,0):=by unfold aA;rw[if_pos rfl]
theorem yh:∀(L:List Vl) (i:Nat),match mG L i with
  | none=>gF L i=[]
  | some p=>∃tl,gF L i=(ey ((p.1:Int)+1),p.2)::tl
 | [],i=>rfl
 | v::r,i=>by
  rw[mG];by_cases h:v.kind≠0
  .rw [if_pos h];exact⟨_,by rw[gF,if_pos h]⟩
  rw[if_neg h];have:=yh r (i+1);rw[gF,if_neg h];exact this
theorem DT(T:Tb)(n:Nat):eZ T n=bE (gF (T.list.drop n) n++pL T.rest):=by
 have h:=yh (T.list.drop n) n;unfold eZ;cases hs:mG (T.list.drop n) n with
 | none=>rw[hs]at h;simp only at h;rw[h];exact Gk _
 | some p=>rw[hs]at h;obtain⟨tl,h⟩:=h;rw[h];rfl
theorem fH(T:Tb):cX T bw=bE (a7 T):=by rw[uP,DT];rfl
theorem vF{R:List (Vl×Vl)}:∀(L:List Vl) (i:Nat) (pre:List (Vl×Vl)) (p:Vl×Vl) (tl:List (Vl×Vl)),gF L i++R=pre++p::tl→
  (∃j:Nat,i≤j∧j<i+L.length∧p.1=ey ((j:Int)+1)∧tl=gF (L.drop (j+1-i)) (j+1)++R)∨∃zK,R=zK++p::tl
 | [],i,pre,p,tl,h=>.inr ⟨pre,h⟩
 | y::r,i,pre,p,tl,h=>by
  rw[gF]at h;have go:∀zK,gF r (i+1)++R=zK++p::tl→(∃j:Nat,i≤j∧j<i+(y::r).length∧p.1=ey ((j:Int)+1)∧tl=gF ((y::r).drop (j+1-i)) (j+1)++R)∨∃zK,R=zK++p::tl:=fun zK h'=>by
   rcases vF r (i+1) zK p tl h' with ⟨j,h1,h2,h3,h4⟩|h4
   .refine .inl ⟨j,by omega,by simp only[List.length_cons];omega,h3,?_⟩;rw[h4,show j+1-i=(j+1-(i+1))+1 by omega,List.drop_succ_cons]
   exact .inr h4
  split at h
  .cases pre with
   | nil=>
    simp only[List.cons_append,List.nil_append,List.cons.injEq]at h;refine .inl ⟨i,Nat.le_refl _,by simp,by rw[←h.1],?_⟩;rw[←h.2,show i+1-i=1 by omega];rfl
   | cons q zK=>
    simp only[List.cons_append,List.cons.injEq]at h;exact go zK h.2
  exact go pre h
theorem iE(h:kM T)(hw:TW T)(hl:T.list.length≤2147483646){pre:List (Vl×Vl)}{p:Vl×Vl}{tl:List (Vl×Vl)}(he:a7 T=pre++p::tl):cX T p.1=bE tl:=by
 rcases vF T.list 0 pre p tl he with ⟨j,_,h2,h3,h4⟩|⟨zK,h4⟩
 .obtain ⟨w1,w2,w3⟩:=uB (n:=(j:Int)+1) (by omega) (by omega);rw[h3,yc w3 (by omega) (by omega),w1,show ((j:Int)+1).toNat=j+1 by omega,DT,h4];rfl
 unfold pL at h4;obtain⟨A,B,FX,hA,hB⟩:=List.map_eq_append_iff.1 h4;obtain⟨s,B',hB1,hp,hB2⟩:=List.map_eq_cons_iff.1 hB;subst hB1;subst hp;unfold live at FX;obtain⟨l1,l2,hS,hl1,nz⟩:=List.filter_eq_append_iff.1 FX;obtain⟨m1,m2,Vx,hm1,hs,hm2⟩:=List.filter_eq_cons_iff.1 nz;have HH:T.rest[(l1++m1).length]?=some s:=by rw[hS,Vx,←List.append_assoc,List.getElem?_append_right (Nat.le_refl _)];simp
 have hg:s.gone=false:=by simpa using hs
 have hm:=List.mem_of_getElem? HH;have hk:=h.rest.keys s hm;have hz:s.key≠bw:=fun e=>hk.2 (by rw[e];rfl)
 have Di:=hw s (dq.2 ⟨hm,hg⟩);have hr:¬(1≤whole s.key∧whole s.key≤(T.list.length:Int)):=fun hc=>by rw[eY.2 hc]at Di;cases Di
 have acw:=h.rest.last HH hg;have hon:aA T.rest s.key=bE tl:=by
  unfold aA;rw[if_neg hz,acw];simp only;have hd:T.rest.drop ((l1++m1).length+1)=m2:=by
   rw[hS,Vx,←List.append_assoc,List.drop_append];simp
  rw[hd,←hB2];show _=bE (List.map _ B');have:live m2=B':=hm2;rw[this];cases B'<;>rfl
 show cX T s.key=_;rw[n4 hz hr (by rw[hon];exact Ot _),hon]
theorem AQ:∀(L:List Vl) (i:Nat),(gF L i).length≤L.length
 | [],_=>Nat.le_refl _
 | v::r,i=>by
  have:=AQ r (i+1);rw[gF];split<;>simp only[List.length_cons]<;>omega
theorem ni(T:Tb):(a7 T).length≤T.list.length+T.rest.length:=by
 unfold a7 pL;rw[List.length_append,List.length_map];have h1:=AQ T.list 0;have h2:=fi T.rest;unfold fo at h2;omega
theorem vG(h:kM T):∀p∈a7 T,au p.1=true∧au p.2=true:=by
 intro p hp;unfold a7 at hp;rcases List.mem_append.1 hp with hp|hp
 .have gen:∀(L:List Vl) (i:Nat),(∀x∈L,au x=true)→∀p∈gF L i,au p.1=true∧au p.2=true:=by
   intro L;induction L with
   | nil=>intro i _ p hp;cases hp
   | cons v r ih=>
    intro i hL p hp;rw[gF]at hp;split at hp
    .rcases List.mem_cons.1 hp with rfl|hp
     .exact ⟨Jt _,hL v (by simp)⟩
     exact ih _ (fun x hx=>hL x (List.mem_cons_of_mem _ hx)) p hp
    exact ih _ (fun x hx=>hL x (List.mem_cons_of_mem _ hx)) p hp
  exact gen T.list 0 h.list p hp
 unfold pL at hp;obtain⟨s,hs,rfl⟩:=List.mem_map.1 hp;obtain⟨h1,h2⟩:=dq.1 hs;exact⟨(h.rest.keys s h1).1,(h.rest.vals s h1 h2).1⟩
/-! ### What an object shows -/
theorem AR{v:Vl}(h:au v=true)(hr:isRef v.kind=true):cJ v=v.ref∧1≤v.ref:=by
 unfold cJ;rw[if_pos hr];refine⟨rfl,?_⟩;unfold isRef at hr;simp only[Bool.or_eq_true,decide_eq_true_eq]at hr;unfold au at h;have h4:v.kind=4∨v.kind=5∨v.kind=7∨v.kind=8:=hr;rw[if_neg (by omega),if_neg (by omega),if_neg (by omega),if_neg (by omega),if_neg (by omega),if_pos h4,Bool.and_eq_true,decide_eq_true_eq,decide_eq_true_eq]at h;exact h.2
def gG(l:List Vl)(i:Nat):List Int:=((l.take i).map cJ).filter fun n=>decide (n≠0)
theorem oc{l:List Vl}{y:Vl}(h:l[i]?=some y):gG l (i+1)=if cJ y≠0 then gG l i++[cJ y] else gG l i:=by
 unfold gG;rw[List.take_add_one,h];simp only[Option.toList_some,List.map_append,List.map_cons,List.map_nil,List.filter_append];by_cases hy:cJ y≠0
 .rw [if_pos hy,List.filter_cons_of_pos (by simpa using hy)];rfl
 rw[if_neg hy,List.filter_cons_of_neg (by simpa using hy)];simp
theorem qF{l:List Vl}(h:l.length≤i):gG l i=(l.map cJ).filter fun n=>decide (n≠0):=by unfold gG;rw[List.take_of_length_le h]
theorem AS(l:List Vl)(i:Nat):(gG l i).length≤i:=by
 unfold gG;refine Nat.le_trans (List.length_filter_le _ _) ?_;rw[List.length_map,List.length_take];omega
def kY(o:kX)(weak:Int):Int:=if o.kind=4∧0≤weak∧weak≤3 then weak else 0
end
end Go.Proofs.YtmhpcebiamkciaaGreat
section
namespace Go.S
open Go.Hp Go.J Go.RowKit Go.Maps
open Go.Mem (Ty fS blk intK)
open Go.WideElems (Fit rd rg rd_mk rg_of)
open Go.WideShapes (sorted_perm)
section
variable{P:Program}
def Gm:Value→Option (DataW Unit×List MemPlace):=fun _=>some (.lit (.bool true),[])
theorem Gn{w:World}{base:Nat}{e:TypeId}{v:Value}{ss:List Int}(h:w.ownsRow base e 1 v ss.length (ss.map encZ)):Ow w.heap (iT e) v ss∧∀k,blk v=some k→base≤k:=by
 obtain⟨_,⟨rfl,h0⟩|⟨g,cap,cur,rfl,hg,hb,hc,hm,hs,ht⟩⟩:=h
 .exact ⟨.inl ⟨rfl,List.length_eq_zero_iff.1 h0⟩,fun k hk=>by simp[blk,Value.ownBlock]at hk⟩
 refine⟨.inr ⟨g,cap,cur,rfl,hb,hc,hm,by rw[hs];exact Nat.le_refl _,?_⟩,fun k hk=>?_⟩
 .rw [s3];exact ht
 simp only[blk,Value.ownBlock,Option.some.injEq]at hk;omega
theorem Kg{A B:List Int}(h:A.Perm B):srt A=srt B:=mergeSort_of_perm_i h
def acx:Value→Int
 | .int _ n=>n
 | _=>0
theorem Ou{w:World}{k:TypeId}{β:Type}{V:β→Value}{b:Nat}{m:List (Int×β)}(h:Mp w.heap (intK k) V b m)(hk:P.underlying k=some (.int .i64))(hw:∀p∈m,(Lit.int .i64 p.1).wf=true)(hl:m.length≤maxLen):
  ∃D0:DataW Unit,w.ownsMap P k Gm b m.length D0∧Maps.size D0=m.length∧(intKeys D0).Perm (m.map Prod.fst):=by
 obtain⟨es,clock,hb,he,hn,hs⟩:=h;have hlen:es.toList.length=m.length:=by have:=congrArg List.length he;simpa using this
 have Ov:es.toList.map (·.key)=m.map fun p=>Value.int .i64 p.1:=by
  have:=congrArg (List.map Prod.fst) he;rw[List.map_map,List.map_map]at this;exact this
 have hrd:∀x∈es.toList,∃n:Int,x.key=.int .i64 n∧rd P k Gm x=some (.int .i64 n,.lit (.bool true)):=fun x hx=>by
  have hm:x.key∈es.toList.map (·.key):=List.mem_map.2 ⟨x,hx,rfl⟩;rw[Ov]at hm;obtain⟨p,hp,e⟩:=List.mem_map.1 hm;have hko:keyOf P k x.key=some (.int .i64 p.1):=by
   rw[←e];unfold keyOf;rw[hk];simp only[mapKey,hk,hw p hp,and_self,if_true]
  exact⟨p.1,e.symm,rd_mk (kl:=.int .i64 p.1) (yv:=(.lit (.bool true),[])) hko rfl⟩
 refine⟨.map ((es.toList.map (rg P k Gm)).foldr DataW.insert []),⟨es,clock,hb,⟨?_,⟨fun x hx=>hs.2 x hx,hs.1,?_⟩,fun x hx=>?_⟩,?_,rfl⟩,?_,?_⟩
 .rw [←Array.length_toList,hlen];exact hl
 .rw [Ov];have h1:(m.map Prod.fst).Pairwise (· ≠ ·):=hn;rw[List.pairwise_map]at h1;exact List.pairwise_map.2 (h1.imp fun l7 e=>l7 (by injection e))
 .obtain ⟨n,_,h⟩:=hrd x hx;exact⟨_,h⟩
 .rw [←Array.length_toList,hlen];exact Nat.le_refl _
 .rw [Maps.size_eq,(sorted_perm _).length_eq,List.length_map,hlen]
 .show ((((es.toList.map (rg P k Gm)).foldr DataW.insert []).map fun p=>intOf p.1)).Perm _;refine ((sorted_perm _).map _).trans ?_;rw[List.map_map];have e1:es.toList.map ((fun p:Lit×DataW Unit=>intOf p.1) ∘ rg P k Gm)=(es.toList.map (·.key)).map acx:=by
   rw[List.map_map];refine List.map_congr_left fun x hx=>?_
   obtain⟨n,h1,h2⟩:=hrd x hx;show intOf (rg P k Gm x).1=acx x.key;rw[rg_of h2,h1];rfl
  rw[e1,Ov,List.map_map];exact List.Perm.of_eq rfl
theorem Kh {f it : FuncId} {k tt : TypeId} {β : Type} {V : β → Value} {b g : Nat} {m : List (Int × β)} {Z : bK} {F : List aW} (hk : P.underlying k = some (.int .i64)) (hw : ∀ p ∈ m, (Lit.int .i64 p.1).wf = true) (hl : m.length ≤ 1000000)
    (hs : ∀ (nn : Nat) (D0 : DataW Unit) (w : World), g < w.heap.size → w.cell? ⟨g, 0, none⟩ = some (.map (some b)) → w.ownsMap P k Gm b nn D0 → Maps.size D0 ≤ maxLen → Maps.size D0 * 8 ≤ 140737488355328 →
      Calls P f #[.func (.func it) #[] #[.pointer (some ⟨g, 0, none⟩)]] w fun e w' => ∃ (v : Value) (ss : List Int), e = .returned v ∧ ss.Perm (intKeys D0) ∧ w'.ownsRow w.heap.size k 1 v ss.length ((ss.mergeSort (fun x y => decide (x ≤ y))).map encZ) ∧ (v = .slice none 0 0 ↔ ss = []) ∧ Below w.heap.size w w') :
    SF P f #[.func (.func it) #[] #[.pointer (some ⟨g, 0, none⟩)]] Z (aa g #[.map (some b)] tt :: dr (intK k) V b m :: F) fun v Bs => Bs = own (iT k) v (srt (m.map Prod.fst)) :: dr (intK k) V b m :: F := fun H hH w hwh => by
  have Ox := hH.blk (i := 0) rfl
  have hmp := hH.mp (i := 1) rfl
  rw [← hwh] at Ox hmp
  obtain ⟨D0, h1, h2, h3⟩ := Ou hmp hk hw (Nat.le_trans hl (by decide))
  have hc : w.cell? ⟨g, 0, none⟩ = some (.map (some b)) := by rw [cell_of_row w g 0 _ _ _ Ox]; rfl
  refine (hs _ D0 w (fh Ox) hc h1 (by rw [h2]; exact Nat.le_trans hl (by decide)) (by rw [h2]; omega)).mono fun e w' ⟨v, ss, he, hp, acy, _, hb⟩ => ⟨v, he, ⟨rfl, hb.os, hb.tape, hb.output⟩, _, rfl, ?_⟩
  have e1 : ss.mergeSort (fun x y => decide (x ≤ y)) = srt (m.map Prod.fst) := Kg (hp.trans h3)
  have e2 : ss.length = (srt (m.map Prod.fst)).length := by rw [← e1, List.length_mergeSort]
  rw [e1, e2] at acy
  obtain ⟨ow, hlo⟩ := Gn acy
  have hch : Chg (fun _ => False) H w'.heap := by
    rw [← hwh]; exact ⟨hb.size, fun j hj _ => hb.block j hj⟩
  exact (hH.tail).new hch (S' := fun j => blk v = some j) ⟨ow, fun j => Iff.rfl⟩ fun j hj => by rw [← hwh]; exact hlo j hj
end
end Go.S
end
