/-
  What a full collection keeps; what work keeps; registrations that are separated. No program in sight.
-/
import Derived.Test.YtmhpcebiamkciaaGreatG8
import Derived.Test.YtmhpcebiamkciaaGreatG9
import Derived.Test.YtmhpcebiamkciaaGreatG2
import Derived.Test.YtmhpcebiamkciaaGreatRows
set_option linter.unusedSimpArgs false
set_option linter.unusedVariables false
set_option maxRecDepth 100000
set_option maxHeartbeats 1000000
namespace Go.Proofs.YtmhpcebiamkciaaGreat
open Go.Hp Go.J Go.S
open Go.Mem (fS Ty eB bN dg cL cm db dO blk blk_pre fM elemAt pre rF suf)
section
variable{Z:bK}{F:List aW}{hb p rq b q xp gb N:Nat}{lx rx sv:Value}{L:List Vl}{R Q Fr G P:List Int}{st:bp}{s:dU}{ph n a d k:Int}{c m:Int→Int}
section
variable{st:bp}{n N:Nat}{R G P:List Int}{x g:Int}{s:dU}
theorem xq:x∈mR st R G P↔aw st x=true∧x∉cA (lW st) R G P:=by
 unfold mR fD;rw[List.mem_filter,(shW st).ids,dj];simp
theorem W8:∀c∈zt st R G P,c.2.2.1≠0→∀o,st.get c.1=some o→o.kind=4:=fun c hc hw o hg=>by
 obtain⟨o',h1,h2⟩:=pe (shW st) hc hw;rw[hg]at h1;cases h1;exact h2
theorem Vo(ho:rn n st)(hn:n≤300):rn n (dk st (zt st R G P))∧Cl st (dk st (zt st R G P)) (Dcs st (zt st R G P)):=by
 have:=sJ ho hn (zt st R G P) W8 (zt st R G P).length;grind
theorem W9(ho:rn n st)(hn:n≤300):rn n (nK st R G P):=(Vo ho hn).1.drps _
theorem R0:(nK st R G P).get x=if x∈mR st R G P then none else (dk st (zt st R G P)).get x:=C' _ _ _
theorem Ms(ho:rn n st)(hn:n≤300):aw (nK st R G P) x=true↔aw st x=true∧x∈cA (lW st) R G P:=by
 have h1:=(Vo (R:=R) (G:=G) (P:=P) ho hn).2.fr.al x;grind[aw,nK,mR,R0,xq]
/-! ### What a law sees -/
/-! ### Work keeps what is registered -/
def NoV(st:bp):Prop:=∀x,aw st x=true→kH st (bQ 4 x)≠2
theorem NoV.drop(h:NoV st)(y:Int):NoV (dA st y):=fun x hx=>by
 rw[ma]at hx;split at hx
 .cases hx
 rename_i q
 have hg:(dA st y).get x=st.get x:=by rw[kg,if_neg q]
 have em:eS (dA st y) (bQ 4 x)=eS st (bQ 4 x):=by
  unfold eS dm;rw[show (bQ 4 x).ref=x from rfl,hg]
 have hk:=h x hx;have hv:∀m k:Vl,fT (dA st y) m k=fT st m k∨fT (dA st y) m k=bw:=fun m k=>by
  unfold fT fm dm;rw[kg];by_cases e:m.ref=y
  .rw [if_pos e];exact .inr rfl
  rw[if_neg e];exact .inl rfl
 unfold kH ud at hk⊢;rw[em];by_cases h0:(eS st (bQ 4 x)).kind=0
 .rw [if_pos h0]at hk ⊢;exact hk
 rw[if_neg h0]at hk⊢;rcases hv (eS st (bQ 4 x)) (rJ ⟨#[95,95,109,111,100,101]⟩) with q2|q2
 .rw [q2];exact hk
 rw[q2,if_neg (fun h=>absurd h.2 (by decide))];decide
end
section
variable{N:Nat}{st:bp}{s:dU}{L:List Vl}{R G P:List Int}
def Xa(st:bp)(R:List Int)(s:dU):dU:=⟨0,s.col,[],[],s.Fr++mR st R s.G s.P,il (lW st) R s.G,eD (lW st) R s.G s.P⟩
def Xb(s:dU):dU:={ s with P:=s.P.tail }
theorem R1(A:List Int):∀G:List Int,(b' A G).length+(fU A G).length=G.length:= by intro G;induction G<;>grind[b',fU,fV]
theorem Jk(ho:rn N st)(hn:N≤300):(aQ (nK st R G P)).length+(mR st R G P).length≤(aQ st).length:=by
 have h1:(aQ (nK st R G P)++mR st R G P).Nodup:=by
  rw[List.nodup_append];refine⟨nL _,?_,fun a ha b hb e=>?_⟩
  .unfold mR fD;rw[(shW st).ids];exact (nL st).filter _
  grind[xq,Ms,dj]
 have h2:=h1.length_le_of_subset (l₂:=aQ st) fun x hx=>by grind[dj,Ms,xq]
 grind
theorem CI.ho(h:CI N st s):rn N st:=⟨h.i,h.sm,h.w⟩
theorem CI.full(h:CI N st s)(hN:N≤300)(R:List Int):CI N (nK st R s.G s.P) (Xa st R s):=by
 have h2:=W9 (R:=R) (G:=s.G) (P:=s.P) h.ho hN;have h3:=Jk (R:=R) (G:=s.G) (P:=s.P) h.ho hN;have h4:=h.fr;have h5:=h.gp;have h6:=R1 (aM (lW st) R) s.G;refine⟨.inl rfl,fun e=>absurd (show (0:Int)=1 from e) (by decide),fun _=>rfl,fun e=>absurd (show (0:Int)=2 from e) (by decide),fun _=>rfl,?_,?_,h2.sm,h2.w,h2.i⟩
 .show (s.Fr++mR st R s.G s.P).length+_≤N;grind
 show (b' (aM (lW st) R) s.G).length+(s.P++fU (aM (lW st) R) s.G).length≤N;grind
theorem CI.due(h:CI N st s):CI N st (Xb s):=⟨h.ph,h.q,h.q0,h.l,h.l0,h.fr,by have:=h.gp;show s.G.length+s.P.tail.length≤N;rw[List.length_tail];omega,h.sm,h.w,h.i⟩
theorem CI.itr(h:CI N st s)(h0:s.ph≠0)(R:List Int):CI N (itr st R s).1 (itr st R s).2.1:=by
 have hs:=CI.setl' h R;unfold Go.Proofs.YtmhpcebiamkciaaGreat.itr;by_cases h1:(Go.Proofs.YtmhpcebiamkciaaGreat.setl st R s).ph=1
 .rw [if_pos h1];exact hs.mrk h1
 have h2:(Go.Proofs.YtmhpcebiamkciaaGreat.setl st R s).ph=2:=by
  rcases hs.ph with e|e|e
  all_goals grind[Ae]
 rw[if_neg h1];by_cases hL:(Go.Proofs.YtmhpcebiamkciaaGreat.setl st R s).L=[]
 .rw [if_pos hL];exact hs.fin h2
 rw[if_neg hL];obtain⟨x,L,e⟩:=List.exists_cons_of_ne_nil hL;exact (hs.swp h2 e).fin (xt h2)
theorem CI.wrk(R:List Int):∀(k:Nat) {st:bp}{s:dU},CI N st s→CI N (wrk k st R s).1 (wrk k st R s).2.1
 | 0,_,_,h=>h
 | k+1,st,s,h=>by
  rw[Go.Proofs.YtmhpcebiamkciaaGreat.wrk];by_cases h0:s.ph=0
  .grind
  rw[if_neg h0];have hi:=h.itr h0 R;by_cases hb:(Go.Proofs.YtmhpcebiamkciaaGreat.itr st R s).2.2=true
  .rw [if_pos hb];exact CI.wrk R k hi
  grind
theorem CI.work(h:CI N st s)(R:List Int)(k:Nat):CI N (work k st R s).1 (work k st R s).2.1:=by
 unfold Go.Proofs.YtmhpcebiamkciaaGreat.work;by_cases h0:k=0
 .grind
 rw[if_neg h0];refine CI.wrk R k ?_;split
 .exact h.bgn (by assumption) R
 omega
structure PJ(N:Nat)(st:bp)(L:List Vl)(R:List Int)(s:dU):Prop where
 ci:CI N st s
 ll:L.length≤N
 rl:R.length≤N
 ge:100≤N
theorem PJ.start(l:List Af):PJ 100 (made l).1 (made l).2 [] ⟨0,c0,[],[],[],[],[]⟩:=by
 obtain⟨h1,h2,h3⟩:=ur l;have h4:=kh (made l).1;have h5:=h2.len;exact⟨⟨.inl rfl,fun h=>absurd h (by decide),fun _=>rfl,fun h=>absurd h (by decide),fun _=>rfl,by show 0+_≤_;omega,by decide,h2,Xc l,h1⟩,h3,Nat.zero_le _,Nat.le_refl _⟩
end
theorem aaW{P:Program}{E:Env}{As:List aW}{o:Oper}{v:Value}(hr:∀w,(execOp (ev E) o).run P w=.ok (.value v) w):Lt P E o Z As v:=ai v hr
theorem Mt{L:List Int}:NF 69 #[pB p 0] Z (dV p hb rq ph c Q L Fr G P::F) (iw ph):=by
 refine bO Tryz.func69 9 (fun w0=>?_);refine gy ?_;refine cC (fun H h=>dt (rB h)) (fun uu zu vT mr sM hw=>?_);have kT:=hw;refine gy ?_;refine ab (fun _ h=>aS (c:=c) kT (rB h)) ?_;refine gz ?_;exact fg ⟨rfl,rfl⟩
theorem Mu{L:List Int}(hF:Fr.length≤100000):SF Tryz.prog 70 #[pB p 0] Z (dV p hb rq ph c Q L Fr G P::F) fun r Bs=>Bs=own an r Fr::dV p hb rq ph c Q L Fr G P::F:=by
 refine bO Tryz.func70 11 (fun w0=>?_);refine gy ?_;refine ah (e:=3) [] #[] (fun g1=>?_) (hb:=by kernel_rfl);refine gy ?_;refine cC (fun H h=>dt (rB h)) (fun cv2 gv3 sv4 fv5 cl6 hw=>?_);have hc7:=hw;refine gy ?_;refine aC (fun _ h=>Holds.slice 6 h ak []) ?_;refine aq (L:=[]) 6 ak Tryz.underlying23 (.ownO 5) (by show _*8≤_;(try simp only[cD]);omega) ol (fun v8=>?_);rw[List.nil_append];refine sF 6 (fun mw=>?_);refine gy ?_;refine ab (fun _ h=>aS (c:=c) hc7 (rB h)) ?_;exact ad [v8] (own an v8 Fr::dV p hb rq ph c Q L Fr G P::F) (SI.tmp 2 SI.nil) (rr [1,0] []) rfl
theorem Mv{L:List Int}(hF:Fr.length≤100000):SF Tryz.prog 25 #[pB b 0] Z (ef b q hb ph m Q L Fr G P::F) fun r Bs=>Bs=own an r Fr::ef b q hb ph m Q L Fr G P::F:=by
 refine bO Tryz.func25 10 (fun w0=>?_);refine gy ?_;refine cC (fun H h=>dS (rB h)) (fun uw zv Bw mr sM hw=>?_);have kT:=hw;refine gy ?_;refine a6 (fun _ h=>k6 (Acc.kn (.ownO 5) h) ol) ?_;rintro v7 _ rfl;refine sF 0 (fun wB=>?_);refine gy ?_;refine ab (fun _ h=>aV (c:=m) kT (rB h)) ?_;exact ad [v7] (own an v7 Fr::ef b q hb ph m Q L Fr G P::F) (SI.tmp 2 SI.nil) (rr [1,0] []) rfl
theorem Xd{L:List Int}(hP:P.length≤1000000):MF 41 #[pB p 0] Z (dV p hb rq ph c Q L Fr G P::F) (.tuple #[iw (sN P),.bool (sO P)]) (dV p hb rq ph c Q L Fr G P.tail::F):=by
 refine bO Tryz.func41 13 (fun w0=>?_);refine gy ?_;refine cC (fun H h=>dt (rB h)) (fun uu zu vT mr sM hw=>?_);have kT:=hw;refine gy ?_;refine sC [1] (R3 (pend:=P) om) ?_;refine gy ?_;refine ab (fun _ h=>aS (c:=c) kT (rB h)) ?_;refine gz ?_;exact fg ⟨rfl,rfl⟩
theorem Xe{L:List Int}(hP:P.length≤1000000):MF 19 #[pB b 0] Z (ef b q hb ph m Q L Fr G P::F) (.tuple #[iw (sN P),.bool (sO P)]) (ef b q hb ph m Q L Fr G P.tail::F):=by
 refine bO Tryz.func19 13 (fun w0=>?_);refine gy ?_;refine cC (fun H h=>dS (rB h)) (fun uw zv Bw mr sM hw=>?_);have kT:=hw;refine gy ?_;refine sC [1] (Xf (pend:=P) om) ?_;refine gy ?_;refine ab (fun _ h=>aV (c:=m) kT (rB h)) ?_;refine gz ?_;exact fg ⟨rfl,rfl⟩
theorem xu{va vb:Value}{A B:List Int}(hA:Kn Z an va A)(hB:Kn Z an vb B):NF 24 #[va,vb] Z [] (.bool (decide (A=B))):=by
 refine bO Tryz.func24 26 (fun w0=>?_);refine bk (fun H h=>(hA.get h).len_le) (fun lA=>?_);refine gy ?_;refine bg (decide ((A.length:Int)≠(B.length:Int))) (fun c1=>?_) (fun c1=>?_)
 .have p2:=dY c1;refine gy ?_;refine ad [.bool false] [] (SI.tmp 4 SI.nil) rA ⟨cB ?_,rfl⟩;exact (decide_eq_false (fun e=>by subst e;omega)).symm
 have p3:=Decidable.not_not.1 (dF c1);refine gy ?_;refine aD (ι:=Nat) (fun i=>i≤A.length∧A.take i=B.take i) (fun i=>[(0,va),(1,vb),(5,iw (i:Int))]) (fun i=>[]) (fun i=>A.length-i) 0 ⟨Nat.zero_le _,rfl⟩ sA rA ?_;rintro i fA;show SK _ _ _ _ _ [(0,va),(1,vb),(5,iw (i:Int))] _ [];refine gy ?_;refine bg (decide ((i:Int)<(A.length:Int))) (fun c5=>?_) (fun c5=>?_)
 .have p6:=dY c5;obtain⟨y7,wC⟩:∃y,A[i]?=some y:=⟨_,List.getElem?_eq_getElem ol⟩;obtain⟨y9,jA⟩:∃y,B[i]?=some y:=⟨_,List.getElem?_eq_getElem ol⟩;refine gy ?_;refine bg (decide (y7≠y9)) (fun ff=>?_) (fun ff=>?_)
  .have my:=dY ff;refine gy ?_;refine ad [.bool false] [] (SI.tmp 4 SI.nil) rA ⟨cB ?_,rfl⟩;exact (decide_eq_false (Jl wC jA my)).symm
  have fL:=Decidable.not_not.1 (dF ff);refine gy ?_;exact xr (i+1) (by obtain⟨cQ,cg⟩:=fA;exact⟨by omega,Bx cg wC jA fL⟩)
 have iU:=dF c5;refine gy ?_;refine ad [.bool true] [] (SI.tmp 4 SI.nil) rA ⟨cB ?_,rfl⟩;exact (decide_eq_true (Mw fA.2 om om)).symm
theorem Jm(du:CI N st s)(hN:N≤299)(vU:L.length≤300)(hR:R.length≤9000)(hx:¬(aw st (ew L a)=true∧aw st (ew L d)=true)):MF 37 #[pB xp 0,.agg #[iw k,iw n,iw a,iw d,sv]] Z (aa xp #[bu hb,bu gb,lx,bu b,bu p,rx] 34::own bq lx L::own an rx R::fW b q hb s::bJ hb st::eL p gb rq s::bs gb st::F) (.bool true) (aa xp #[bu hb,bu gb,lx,bu b,bu p,rx] 34::own bq lx L::own an rx R::fW b q hb (wrt st s (ew L a) (ew L d))::bJ hb st::eL p gb rq (wrt st s (ew L a) (ew L d))::bs gb st::F):=by
 refine bx Tryz.func37 112 [(0,pB xp 0),(1,.agg #[iw k,iw n,iw a,iw d,sv])] (fun w0=>?_);refine bn ?_;refine bj #[iw k,iw n,iw a,iw d,sv] (fun g1=>?_);refine go ?_;refine br [aa g1 #[iw k,iw n,iw a,iw d,sv] 39,aa xp #[pB hb 0,pB gb 0,lx,pB b 0,pB p 0,rx] 34] ?_;refine gH [0,1,2,4,5,6] [0,0] ?_;refine ag 3 ?_;refine sC [1,1] (vp (L:=L) om a) ?_;refine nH [2,0]<|ag 7 ?_
 refine sC [0,0] (vp (L:=L) om d) ?_;refine nH [2,0] ?_;refine gH [8,9] [2,0] ?_;refine aI ?_;refine go ?_;refine sL (ay (.agg #[iw 4,iw 0,iw 0,sw eb,iw (ew L a)]))<|sP (iw (ew L d))<|sL (ay (.agg #[iw 4,iw 0,iw 0,sw eb,iw (ew L d)])) ?_
 refine ae (.agg zc) zc (fun g2=>?_);refine ae (.agg zc) zc (fun g3=>?_);refine gs ?_;refine aE<|b6 (ι:=Unit) (fun _=>True) (fun _=>[(0,pB xp 0),(3,pB g1 0),(5,iw (ew L a)),(6,iw (ew L d)),(7,pB g2 0),(8,pB g3 0),(55,.bool ((decide ((0:Int)≤a))&&((decide ((0:Int)≤d))&&((aw st (ew L a))&&((aw st (ew L d))&&(decide ((0:Int)<(L.length:Int))))))))]) (fun _=>aa g3 #[iw 4,iw 0,iw 0,sw eb,iw (ew L d)] 71::aa g2 #[iw 4,iw 0,iw 0,sw eb,iw (ew L a)] 71::aa xp #[pB hb 0,pB gb 0,lx,pB b 0,pB p 0,rx] 34::own bq lx L::aa g1 #[iw k,iw n,iw a,iw d,sv] 39::own an rx R::ef b q hb s.ph s.col s.Q s.L s.Fr s.G s.P::bJ hb st::dV p gb rq s.ph s.col s.Q s.L s.Fr s.G s.P::bs gb st::F) ?_ (fun _ _=>?_)
 .refine gc ?_;refine oW 24 (fun c4=>?_) (fun c4=>?_)
  .refine gc ?_;refine oW 29 (fun c6=>?_) (fun c6=>?_)
   .refine gC [7] ?_ (c:=ir (st:=st) (ew L a));refine oW 38 (fun c8=>?_) (fun c8=>?_)
    .refine gC [0] ?_ (c:=ir (st:=st) (ew L d));refine oW 47 (fun c9=>?_) (fun c9=>?_)
     .refine gy ?_;exact xC
     refine go ?_;exact xC
    refine go ?_;exact xC
   refine go ?_;exact xC
  refine go ?_;exact xC
 refine kd (fun jS=>?_) (fun jS=>?_)
 .obtain ⟨ux,kj⟩:=kk jS;obtain⟨vV,HJ⟩:=kk kj;obtain⟨zw,oD⟩:=kk HJ;obtain⟨Mx,Vp⟩:=kk oD;exact absurd (by simp only[Bool.and_eq_true]at jS;exact⟨jS.2.2.1,jS.2.2.2.1⟩) hx
 have kU:=jS;simp only[Bool.and_eq_true,Bool.or_eq_true,Bool.and_eq_false_iff,Bool.or_eq_false_iff,Bool.not_eq_true',Bool.not_eq_false',decide_eq_true_eq,decide_eq_false_iff_not]at kU;refine eT<|aE<|br [aa g3 #[iw 4,iw 0,iw 0,sw eb,iw (ew L d)] 71,aa g2 #[iw 4,iw 0,iw 0,sw eb,iw (ew L a)] 71,aa xp #[pB hb 0,pB gb 0,lx,pB b 0,pB p 0,rx] 34,aa g1 #[iw k,iw n,iw a,iw d,sv] 39] ?_
 refine gH [0,1,2,3,4,5,7,8,9,10,11,12] [0,0,0,1] ?_;refine ag 6 ?_;refine sC [6,6] (Da (st:=st) (s:=s) du om (ew L a) (ew L d)) ?_;refine nH [2,2,2,3]<|ag 13 ?_
 refine sC [8,8] (Db (st:=st) (s:=s) du om (ew L a) (ew L d)) ?_;refine nH [4,4,4,5]<|fK 14 rfl [4,4,4,5] (fun _=>(Lt.to aT (cB (decide_eq_true rfl:(decide ((k8 st (ew L a))=(k8 st (ew L a))))=true)))) ?_
 refine gH [15] [4,4,4,5] ?_;refine aI ?_;refine gy ?_;exact ad _ _ (SI.tmp 4 SI.nil) (rr [6,6,7,2,2,0,0] [7,7,7]) ⟨rfl,rfl⟩
theorem Jn(du:CI N st s)(hN:N≤299)(vU:L.length≤300)(hR:R.length≤9000)(hx:¬(aw st (ew L a)=true∧aw st (ew L d)=true)):MF 11 #[pB xp 0,.agg #[iw 1,iw n,iw a,iw d,sv]] Z (aa xp #[bu hb,bu gb,lx,bu b,bu p,rx] 34::own bq lx L::own an rx R::fW b q hb s::bJ hb st::eL p gb rq s::bs gb st::F) (.bool true) (aa xp #[bu hb,bu gb,lx,bu b,bu p,rx] 34::own bq lx L::own an rx R::fW b q hb (wrt st s (ew L a) (ew L d))::bJ hb st::eL p gb rq (wrt st s (ew L a) (ew L d))::bs gb st::F):=by
 refine bO Tryz.func11 151 (fun w0=>?_);refine bn<|bj #[iw 1,iw n,iw a,iw d,sv] (fun g1=>?_)
 refine go ?_;refine sL (aT (c:=false)) ?_;refine go ?_;refine sL (aT (c:=true)) ?_;refine go ?_;refine sL (Lt.to (v':=iw (Vq n)) Dc rfl) ?_;refine gC [1,1,1,1,1,1,1] ?_ (c:=Jm (k:=1) (n:=Vq n) (a:=a) (d:=d) du hN vU hR hx);refine gz ?_;exact fg ⟨rfl,rfl⟩
theorem My(du:CI N st s)(hN:N≤200)(vU:L.length≤300)(hR:R.length≤9000):MF 11 #[pB xp 0,.agg #[iw 4,iw n,iw a,iw d,sv]] Z (aa xp #[bu hb,bu gb,lx,bu b,bu p,rx] 34::own bq lx L::own an rx R::fW b q hb s::bJ hb st::eL p gb rq s::bs gb st::F) (.bool true) (aa xp #[bu hb,bu gb,lx,bu b,bu p,rx] 34::own bq lx L::own an rx R::fW b q hb (Xa st R s)::bJ hb (nK st R s.G s.P)::eL p gb rq (Xa st R s)::bs gb (nK st R s.G s.P)::F):=by
 refine bO Tryz.func11 151 (fun w0=>?_);refine bn<|bj #[iw 4,iw n,iw a,iw d,sv] (fun g1=>?_)
 refine go ?_;refine sL (aT (c:=false)) ?_;refine go ?_;refine sL (aT (c:=false)) ?_;refine go ?_;refine sL (aT (c:=false)) ?_;refine go ?_;refine sL (aT (c:=false)) ?_;refine go ?_;refine sL (aT (c:=true)) ?_;refine go ?_;refine br [aa g1 #[iw 4,iw n,iw a,iw d,sv] 39,aa xp #[pB hb 0,pB gb 0,lx,pB b 0,pB p 0,rx] 34] ?_;refine gH [0,1,2,3,4,5,6,7,9,10,11,12,13,14,15,16] [0,0] ?_;refine ag 8 ?_;refine aH [3,3,3] (R5 (st:=st) (R:=R) (G:=s.G) (P:=s.P) (Fr:=s.Fr) du.ho hN om (by have:=du.gp;omega) (by have:=du.fr;omega)) ?_;rintro v2 _ rfl;skip;refine nH [4,4]<|ag 17 ?_
 refine aH [1,6,6] (R6 (st:=st) (R:=R) (G:=s.G) (P:=s.P) (Fr:=s.Fr) du.ho hN om (by have:=du.gp;omega) (by have:=du.fr;omega)) ?_;rintro v4 _ rfl;skip;refine nH [7,7]<|ag 18 ?_
 refine iV (fun _ h=>xu (A:=(eD (lW st) R s.G s.P)) (B:=(eD (lW st) R s.G s.P)) (Acc.kn (.own 4) h) (Acc.kn (.own 0) h)) ?_;rintro u7 e6;obtain rfl:u7=.bool true:=e6.trans (cB (decide_eq_true rfl));refine nH [7,7] ?_;refine gH [19] [7,7] ?_;refine aI ?_;refine go ?_;exact ad _ _ (SI.tmp 4 SI.nil) (rr [8,8,1,4,4,1,1] [7,7,7]) ⟨rfl,rfl⟩
theorem Mz(du:CI N st s)(hN:N≤299)(vU:L.length≤300)(hR:R.length≤9000):MF 11 #[pB xp 0,.agg #[iw 5,iw n,iw a,iw d,sv]] Z (aa xp #[bu hb,bu gb,lx,bu b,bu p,rx] 34::own bq lx L::own an rx R::fW b q hb s::bJ hb st::eL p gb rq s::bs gb st::F) (.bool true) (aa xp #[bu hb,bu gb,lx,bu b,bu p,rx] 34::own bq lx L::own an rx R::fW b q hb (Xb s)::bJ hb st::eL p gb rq (Xb s)::bs gb st::F):=by
 refine bO Tryz.func11 151 (fun w0=>?_);refine bn ?_;refine bj #[iw 5,iw n,iw a,iw d,sv] (fun g1=>?_);refine gy ?_;refine sC [4] (Xe (P:=s.P) (by have:=du.gp;omega)) ?_;refine go ?_;refine sC [6] (Xd (P:=s.P) (by have:=du.gp;omega)) ?_;refine go ?_;refine sL (Lt.to aT (cB (decide_eq_true rfl:(decide ((sN s.P)=(sN s.P)))=true)))<|sP (.bool true)<|oN (.bool (sO s.P)) ?_
 refine sL (aaW (fun w=>by generalize (sO s.P)=q;cases q<;>rfl)) ?_;refine go ?_;exact ad _ _ (SI.tmp 4 SI.nil) (rr [3,3,3,1,2,0,1] [7]) ⟨rfl,rfl⟩
theorem MA{hv gv ov pv:Value}{SL:List Int}(hS:Kn Z an sv SL)(vU:L.length≤300)(hk:k≠0∧k≠1∧k≠2∧k≠3∧k≠4∧k≠5):SF Tryz.prog 11 #[pB xp 0,.agg #[iw k,iw n,iw a,iw d,sv]] Z (aa xp #[hv,gv,lx,ov,pv,rx] 34::own bq lx L::own an rx R::F) fun r Bs=>∃ry R2,r=.bool true∧R2.length≤30∧Bs=aa xp #[hv,gv,lx,ov,pv,ry] 34::own bq lx L::own an ry R2::F:=by
 refine bx Tryz.func11 151 [(0,pB xp 0),(1,.agg #[iw k,iw n,iw a,iw d,sv])] (fun w0=>?_);refine bk (fun H h=>(hS.get h).len_le) (fun lS=>?_);refine bn<|bj #[iw k,iw n,iw a,iw d,sv] (fun g1=>?_)
 refine sP (.bool false)<|bH<|aE<|bn<|sP (pB g1 0)<|sL (aJ 0 (iw k))<|bH<|cE<|bn<|sL (Lt.to aT (cB (decide_eq_false om:(decide (k=0))=false)))<|sP (.bool false)<|bH<|eh<|bn<|sL (Lt.to aT (cB (decide_eq_false om:(decide (k=1))=false)))<|sP (.bool false)<|bH<|eh<|bn<|sL (Lt.to aT (cB (decide_eq_false om:(decide (k=2))=false)))<|sP (.bool false)<|bH<|eh<|bn<|sL (Lt.to aT (cB (decide_eq_false om:(decide (k=3))=false)))<|sP (.bool false)<|bH<|eh<|bn<|sL (Lt.to aT (cB (decide_eq_false om:(decide (k=4))=false)))<|sP (.bool false) ?_
 refine bH<|eh<|bn<|sL (Lt.to aT (cB (decide_eq_false om:(decide (k=5))=false)))<|sP (.bool false)<|bH<|eh<|jB<|eU<|ax<|bn<|oN (pB xp 0)<|sP (pB xp 5)<|ar 1 #[hv,gv,lx,ov,pv,nS] ?_
 refine bH<|aE<|bn<|sP (iw 0)<|bH<|cE<|aK (fun _ h=>Holds.nilS (T:=an) h) ?_
 refine aD (ι:=Value×List Int×Nat) (fun (ry,R2,i)=>R2.length=i∧i≤30) (fun (ry,R2,i)=>[(0,pB xp 0),(3,pB g1 0),(10,iw (i:Int))]) (fun (ry,R2,i)=>own an ry R2::aa g1 #[iw k,iw n,iw a,iw d,sv] 39::aa xp #[hv,gv,lx,ov,pv,ry] 34::own bq lx L::F) (fun (ry,R2,i)=>30-i) (nS,[],0) ⟨rfl,Nat.zero_le _⟩ sA (rr [0,0,0,0] [4]) ?_;rintro⟨ry,R2,i⟩ cg;replace cg:R2.length=i∧i≤30:=cg;show SK _ _ _ _ _ [(0,pB xp 0),(3,pB g1 0),(10,iw (i:Int))] _ (own an ry R2::aa g1 #[iw k,iw n,iw a,iw d,sv] 39::aa xp #[hv,gv,lx,ov,pv,ry] 34::own bq lx L::F);refine aE<|b6 (ι:=Unit) (fun _=>True) (fun _=>[(0,pB xp 0),(3,pB g1 0),(10,iw (i:Int)),(132,.bool ((decide ((i:Int)<(SL.length:Int)))&&(decide ((i:Int)<30))))]) (fun _=>own an ry R2::aa g1 #[iw k,iw n,iw a,iw d,sv] 39::aa xp #[hv,gv,lx,ov,pv,ry] 34::own bq lx L::F) ?_ (fun _ _=>?_)
 .refine bd<|sP (iw (i:Int))<|sP (pB g1 4)<|sL (aJ 1 sv)<|sL (bL ak Tryz.underlying23 (.zn hS))<|sL aT<|sP (.bool (decide ((i:Int)<(SL.length:Int))))<|dW 129 (decide ((i:Int)<(SL.length:Int))) (fun c3=>?_) (fun c3=>?_)
  .have p4:=dY c3;refine sP (iw (i:Int))<|sL aT<|sP (.bool (decide ((i:Int)<30)))<|a8 ?_
   exact xC
  have p5:=dF c3;refine sK<|sK<|sP (.bool false)<|a8 ?_
  exact xC
 refine bg ((decide ((i:Int)<(SL.length:Int)))&&(decide ((i:Int)<30))) (fun c6=>?_) (fun c6=>?_)
 .obtain ⟨c7,c8⟩:=kk c6;have p9:=dY c7;have gQ:=dY c8;refine eT<|aE<|cE<|br [aa g1 #[iw k,iw n,iw a,iw d,sv] 39,own bq lx L] ?_
  refine fq 0 [1,2] (pB xp 0) ?_;refine fq 1 [1,2] (pB xp 0) ?_;refine fq 2 [1,2] (pB xp 0) ?_;refine fq 3 [1,2] (pB xp 5) ?_;refine fq 5 [1,2] (pB xp 0) ?_;refine fq 6 [1,2] (pB g1 4) ?_;refine fK 7 rfl [1,2] (fun _=>(aJ 0 sv)) ?_;refine fq 8 [1,2] (iw (i:Int)) ?_;refine fK 9 rfl [1,2] (fun _=>(aF ak Tryz.underlying23 (.zn hS) (i:Int) i om ol om)) ?_;obtain⟨dp,jC⟩:∃y,SL[i]?=some y:=⟨_,List.getElem?_eq_getElem ol⟩;refine fK 10 rfl [1,2] (fun _=>(bC ak (.zn hS) jC)) ?_;refine aN 4 11 ?_ ?_
  .refine sL (aJ 2 ry)<|nH [1,2]<|ag 11 ?_
   refine sC [2,2] (vp (L:=L) om dp) ?_;refine nH [3,1]<|ag 12 ?_
   refine ah (e:=3) [(0,iw (ew L dp))] #[iw (ew L dp)] (fun g17=>?_) (hb:=by kernel_rfl);refine nH [4,2]<|ag 13 ?_
   refine aq (L:=R2) 3 ak Tryz.underlying23 (.lit 0 ak [(ew L dp)]) (by show _*8≤_;(try simp only[cD]);omega) ol (fun Vr=>?_);refine sF 3 (fun lZ=>?_);refine nH [4,2]<|fq 14 [4,2] (pB xp 0) ?_
   refine fq 15 [4,2] (pB xp 5) ?_;refine ag 16 ?_;refine ar (u:=Vr) (m:=1) 1 #[hv,gv,lx,ov,pv,Vr] ?_ (hm:=by (obtain⟨_,_,e⟩:=lZ;rw[e];rfl)) (h1:=by (obtain⟨_,_,e⟩:=lZ;rw[e];rfl)) (ha':=by (obtain⟨_,_,e⟩:=lZ;rw[e];rfl));refine nH [4,2]<|aI ?_
   refine eU<|ax<|bd<|sP (iw (i:Int))<|sL (bX (i:Int) 1 ol)<|sP (iw ((i:Int)+1))<|a8 ?_
   exact az (Vr,(R2++[(ew L dp)]),i+1) (by show 30-(i+1)<30-i;omega) (by show ((R2++[(ew L dp)])).length=i+1∧i+1≤30;rw[List.length_append];simp only[List.length_singleton];omega) sA (rr [3,3,1,1] [4])
  refine sC [2,2] (vp (L:=L) om dp) ?_;refine nH [3,1]<|aN 4 12 ?_ ?_
  .refine sL (aJ 0 ry)<|nH [3,1]<|ag 12 ?_
   refine ah (e:=3) [(0,iw (ew L dp))] #[iw (ew L dp)] (fun g24=>?_) (hb:=by kernel_rfl);refine nH [4,2]<|ag 13 ?_
   refine aq (L:=R2) 3 ak Tryz.underlying23 (.lit 0 ak [(ew L dp)]) (by show _*8≤_;(try simp only[cD]);omega) ol (fun v25=>?_);refine sF 3 (fun pf=>?_);refine nH [4,2]<|fq 14 [4,2] (pB xp 0) ?_
   refine fq 15 [4,2] (pB xp 5) ?_;refine ag 16 ?_;refine ar (u:=v25) (m:=1) 1 #[hv,gv,lx,ov,pv,v25] ?_ (hm:=by (obtain⟨_,_,e⟩:=pf;rw[e];rfl)) (h1:=by (obtain⟨_,_,e⟩:=pf;rw[e];rfl)) (ha':=by (obtain⟨_,_,e⟩:=pf;rw[e];rfl));refine nH [4,2]<|aI ?_
   refine eU<|ax<|bd<|sP (iw (i:Int))<|sL (bX (i:Int) 1 ol)<|sP (iw ((i:Int)+1))<|a8 ?_
   exact az (v25,(R2++[(ew L dp)]),i+1) (by show 30-(i+1)<30-i;omega) (by show ((R2++[(ew L dp)])).length=i+1∧i+1≤30;rw[List.length_append];simp only[List.length_singleton];omega) sA (rr [3,3,1,1] [4])
  refine ah (e:=3) [(0,iw (ew L dp))] #[iw (ew L dp)] (fun g27=>?_) (hb:=by kernel_rfl);refine nH [4,2]<|ag 4 ?_
  refine sL (aJ 1 ry)<|nH [4,2]<|ag 13 ?_
  refine aq (L:=R2) 3 ak Tryz.underlying23 (.lit 0 ak [(ew L dp)]) (by show _*8≤_;(try simp only[cD]);omega) ol (fun v28=>?_);refine sF 3 (fun MB=>?_);refine nH [4,2]<|fq 14 [4,2] (pB xp 0) ?_
  refine fq 15 [4,2] (pB xp 5) ?_;refine ag 16 ?_;refine ar (u:=v28) (m:=1) 1 #[hv,gv,lx,ov,pv,v28] ?_ (hm:=by (obtain⟨_,_,e⟩:=MB;rw[e];rfl)) (h1:=by (obtain⟨_,_,e⟩:=MB;rw[e];rfl)) (ha':=by (obtain⟨_,_,e⟩:=MB;rw[e];rfl));refine nH [4,2]<|aI ?_
  refine go ?_;refine sL (bX (i:Int) 1 ol) ?_;refine go ?_;exact az (v28,(R2++[(ew L dp)]),i+1) (by show 30-(i+1)<30-i;omega) (by show ((R2++[(ew L dp)])).length=i+1∧i+1≤30;rw[List.length_append];simp only[List.length_singleton];omega) sA (rr [3,3,1,1] [4])
 have oE:=c6;simp only[Bool.and_eq_true,Bool.or_eq_true,Bool.and_eq_false_iff,Bool.or_eq_false_iff,Bool.not_eq_true',Bool.not_eq_false',decide_eq_true_eq,decide_eq_false_iff_not]at oE;refine go ?_;exact ad _ _ (SI.tmp 4 SI.nil) (rr [2,2,0] [3]) ⟨ry,R2,rfl,by omega,rfl⟩
structure R7 where
 kind:Int
 n:Int
 a:Int
 d:Int
 rv:Sv
 ro:List Int
abbrev R7.v(x:R7):Value:=.agg #[iw x.kind,iw x.n,iw x.a,iw x.d,x.rv.v]
def FI:Ty R7:=⟨39,5,56,true,R7.v,⟨0,0,0,0,⟨none,0,0⟩,[]⟩⟩
theorem wD:FI.Ok Tryz.prog:=pg FI _ Tryz.t39 (by decide) (fun _=>rfl) (fun x u hu=>by simp[Ty.enc,FI,R7.v,Value.cells]at hu;rcases hu with rfl|rfl|rfl|rfl|rfl<;>rfl) (fun _=>rfl) Tryz.underlying39 rfl (fun h=>by cases h) (by kernel_rfl) (by kernel_rfl) (by kernel_rfl) (by kernel_rfl)
def KnP(Z:bK)(x:R7):Prop:=Kn Z an x.rv.v x.ro
theorem aaX(hp:PJ N st L R s)(hN:N≤199){x:R7}(hx:KnP Z x):SF Tryz.prog 11 #[pB xp 0,x.v] Z (aa xp #[bu hb,bu gb,lx,bu b,bu p,rx] 34::own bq lx L::own an rx R::fW b q hb s::bJ hb st::eL p gb rq s::bs gb st::F) fun r Bs=>∃LF L2 R2 s2 MC MD,r=.bool true∧PJ (N+1) LF L2 R2 s2∧Bs=aa xp #[bu hb,bu gb,MC,bu b,bu p,MD] 34::own bq MC L2::own an MD R2::fW b q hb s2::bJ hb LF::eL p gb rq s2::bs gb LF::F:=by
 have du:=hp.ci;have vU:=hp.ll;have hrl:=hp.rl;have WC:=hp.ge;obtain⟨k,n,a,d,rv,ro⟩:=x;by_cases k0:k=0
 .subst k0;exact (ME du om om om).mono fun r Bs h=>⟨_,_,_,_,lx,rx,h.1,⟨(du.work R _).mono (Nat.le_succ N),by omega,by omega,by omega⟩,h.2⟩
 by_cases k1:k=1
 .subst k1;by_cases hb:aw st (ew L a)=true∧aw st (ew L d)=true
  .exact (MG du om om om hb.1 hb.2).mono fun r Bs h=>⟨_,_,_,_,lx,rx,h.1,⟨(du.hset rfl).wrt _ _,by omega,by omega,by omega⟩,h.2⟩
  exact (Jn du om om om hb).mono fun r Bs h=>⟨_,_,_,_,lx,rx,h.1,⟨(du.wrt _ _).mono (Nat.le_succ N),by omega,by omega,by omega⟩,h.2⟩
 by_cases k2:k=2
 .subst k2;exact (MH du om om om).mono fun r Bs ⟨MC,MD,h1,h2⟩=>⟨_,_,_,_,MC,MD,h1,⟨(du.make om).brt _,by rw[List.length_append];simp only[List.length_singleton];omega,by rw[List.length_append];simp only[List.length_singleton];omega,by omega⟩,h2⟩
 by_cases k3:k=3
 .subst k3;exact (MI du om om om).mono fun r Bs h=>⟨_,_,_,_,lx,rx,h.1,⟨du.rgs _,by omega,by omega,by omega⟩,h.2⟩
 by_cases k4:k=4
 .subst k4;exact (My du om om om).mono fun r Bs h=>⟨_,_,_,_,lx,rx,h.1,⟨(du.full om R).mono (Nat.le_succ N),by omega,by omega,by omega⟩,h.2⟩
 by_cases k5:k=5
 .subst k5;exact (Mz du om om om).mono fun r Bs h=>⟨_,_,_,_,lx,rx,h.1,⟨du.due.mono (Nat.le_succ N),by omega,by omega,by omega⟩,h.2⟩
 exact (MA hx om ⟨k0,k1,k2,k3,k4,k5⟩).mono fun r Bs ⟨ry,R2,h1,h2,h3⟩=>⟨st,L,R2,s,lx,ry,h1,⟨du.mono (Nat.le_succ N),by omega,by omega,by omega⟩,h3⟩
theorem MJ(du:CI N st s)(hN:N≤299)(vU:L.length≤300)(hR:R.length≤9000):NF 31 #[pB xp 0] Z (aa xp #[bu hb,bu gb,lx,bu b,bu p,rx] 34::own bq lx L::own an rx R::fW b q hb s::bJ hb st::eL p gb rq s::bs gb st::F) (.bool true):=by
 refine bO Tryz.func31 63 (fun w0=>?_);refine go ?_;refine br [aa xp #[pB hb 0,pB gb 0,lx,pB b 0,pB p 0,rx] 34] ?_;refine gH [0,1,2,3,5,6,7,8] [0] ?_;refine ag 4 ?_;refine sC [3] (De) ?_;refine nH [1]<|ag 9 ?_
 refine sC [5] (Mt) ?_;refine nH [2]<|fK 10 rfl [2] (fun _=>(Lt.to aT (cB (decide_eq_true rfl:(decide (s.ph=s.ph))=true)))) ?_
 refine gH [11,12,13,14,15,17,18,19,20] [2] ?_;refine ag 16 ?_;refine aH [1] (Mv (Fr:=s.Fr) (by have:=du.fr;omega)) ?_;rintro v1 _ rfl;refine sF 0 (fun Hu=>?_);refine nH [3]<|ag 21 ?_
 refine aH [2] (Mu (Fr:=s.Fr) (by have:=du.fr;omega)) ?_;rintro v3 _ rfl;refine sF 0 (fun nM=>?_);refine nH [4]<|ag 22 ?_
 refine iV (fun _ h=>xu (A:=s.Fr) (B:=s.Fr) (Acc.kn (.own 2) h) (Acc.kn (.own 0) h)) ?_;rintro u6 e5;obtain rfl:u6=.bool true:=e5.trans (cB (decide_eq_true rfl));refine nH [4] ?_;refine gH [23,24,25,26,27,28,29,30,31,32,34,35,36,37,38,39,40,41] [4] ?_;refine ag 33 ?_;refine aH [6,3,5] (Xg (st:=st) (s:=s) (R:=R) du om om) ?_;rintro _ _ ⟨bv1,rfl,ad1,rfl⟩;refine nH [6]<|ag 42 ?_
 refine aH [0,3,6] (Xh (st:=st) (s:=s) (R:=R) du om om) ?_;rintro _ _ ⟨bv2,rfl,ad2,rfl⟩;obtain rfl:bv1=bv2:=by rw[Bool.eq_iff_iff,ad1,ad2]
 refine nH [7]<|fK 43 rfl [7] (fun _=>(aaW (fun w=>by generalize bv1=q;cases q<;>rfl))) ?_
 refine gH [44,45,46,47,48,49,50,52,53,54,55,56] [7] ?_;refine ag 51 ?_;refine aH [4] (uy (st:=st) du.sm om) ?_;rintro v7 _ rfl;refine sF 0 (fun wB=>?_);refine nH [8]<|ag 57 ?_
 refine aH [4] (sQ (st:=st) du.sm om) ?_;rintro v9 _ rfl;refine sF 0 (fun kK=>?_);refine nH [9]<|ag 58 ?_
 refine iV (fun _ h=>xu (A:=(aQ st)) (B:=(aQ st)) (Acc.kn (.own 2) h) (Acc.kn (.own 0) h)) ?_;rintro u12 e11;obtain rfl:u12=.bool true:=e11.trans (cB (decide_eq_true rfl));refine nH [9] ?_;refine gH [59,60] [9] ?_;refine aI ?_;refine gz ?_;exact fg ⟨rfl,rfl⟩
def Xi:bp:=bY xw (eg 4 0 eb [])
theorem ad3:bo xw 4=⟨4,0,0,eb,1⟩:=rfl
theorem ad4:eX xw=0:=rfl
theorem aaY:CI 1 Xi kL:=⟨.inl rfl,fun h=>absurd h (by decide),fun _=>rfl,fun h=>absurd h (by decide),fun _=>rfl,by decide,by decide,pj jv.nil rfl (by decide),HW.make HW.nil (xx _ _ _ (fun _ hv=>(by cases hv)) (fun h8=>by cases h8)),jT fe.nil (iu _ _ _ (by decide))⟩
theorem R8:((work (9:Int).toNat Xi [1] kL).2.2:Int)=2:=by kernel_rfl
theorem aaZ:(work (9:Int).toNat Xi [1] kL).2.1.ph=0:=by kernel_rfl
theorem ad5:aw (work (9:Int).toNat Xi [1] kL).1 1=true:=by kernel_rfl
theorem uz:NF 9 #[] Z [] (.bool true):=by
 refine bO Tryz.func9 44 (fun w0=>?_);refine go ?_;refine a6 (fun _ h=>MK) ?_;rintro _ _ ⟨hb1,rfl,rfl⟩;refine go ?_;refine sC [0] (pk (st:=xw) (by decide)) ?_;rw[ad3,ad4];refine aC (Bs:=[bJ hb1 Xi]) (fun _ h=>h) ?_;refine go ?_;refine ae (.agg zc) zc (fun g2=>?_);refine go ?_;refine a6 (fun _ h=>ML) ?_;rintro _ _ ⟨b3,q4,rfl,rfl⟩;refine gy ?_;refine ah (e:=3) [(0,iw 1)] #[iw 1] (fun g5=>?_) (hb:=by kernel_rfl);refine aC (fun _ h=>Holds.slice 0 h ak [1]) ?_;refine sC [0,0,1] (HK (st0:=Xi) (s0:=kL) (R:=[1]) 9 (by decide) aaY (by decide) (by decide)) ?_;rw[R8];refine gy ?_;refine aH [1] De ?_;rintro _ _ ⟨rfl,rfl⟩;rw[aaZ];refine gy ?_;refine sC [2] (ir (st:=(work (9:Int).toNat Xi [1] kL).1) 1) ?_;refine gz ?_;exact fg ⟨cB ad5,rfl⟩
theorem MM{lv:Value}{l:List Af}{SL:List R7}(qX:Kn Z Vs lv l)(hS:Kn Z FI sv SL)(hO:∀x∈SL,KnP Z x):NF 7 #[lv,sv] Z [] (.bool true):=by
 refine bO Tryz.func7 39 (fun w0=>?_);obtain⟨hinv,ca,aiT⟩:=ur l;refine bk (fun H h=>(hS.get h).len_le) (fun lS=>?_);refine gy ?_;refine aC (fun _ h=>Holds.nilS (T:=Vt) h) ?_;refine aH [0] (R9 (M:=[]) qX ol) ?_;rintro _ _ ⟨lg1,rfl,aiU,rfl⟩;refine bH ?_;refine bg lg1 (fun c3=>?_) (fun c3=>?_)
 .refine bn ?_;refine sV (fun _ h=>uz) ?_;refine gz ?_;exact fg ⟨rfl,rfl⟩
 refine gy ?_;refine aH [] (Sa qX) ?_;rintro _ _ ⟨hb,gb,lx,b,p,q,rq,rfl,rfl⟩;refine sF 4 (fun nM=>?_);refine gy ?_;refine ae (.agg #[.pointer none,.pointer none,nS,.pointer none,.pointer none,nS]) #[.pointer none,.pointer none,nS,.pointer none,.pointer none,nS] (fun g5=>?_);refine ar (u:=.agg #[pB hb 0,pB gb 0,lx,pB b 0,pB p 0,nS]) (m:=6) 0 #[pB hb 0,pB gb 0,lx,pB b 0,pB p 0,nS] ?_ (hm:=by (obtain⟨_,_,e⟩:=nM;rw[e];rfl)) (h1:=by (obtain⟨_,_,e⟩:=nM;rw[e];rfl)) (ha':=by (obtain⟨_,_,e⟩:=nM;rw[e];rfl));refine sP (.bool true)<|bH<|aE<|bn<|sP (.bool true)<|sP (.bool false)<|bH<|eh<|eT<|aE<|bn<|sP (iw 0)<|bH<|cE ?_
 refine aK (fun _ h=>Holds.nilS (T:=an) h) ?_;refine aK (Bs:=[own an nS [],aa g5 #[pB hb 0,pB gb 0,lx,pB b 0,pB p 0,nS] 34,ef b q hb kL.ph kL.col kL.Q kL.L kL.Fr kL.G kL.P,bJ hb ((made l).1),dV p gb rq kL.ph kL.col kL.Q kL.L kL.Fr kL.G kL.P,bs gb ((made l).1),own bq lx ((made l).2)]) (fun _ h=>h) ?_;refine aD (ι:=bp×List Vl×List Int×dU×Value×Value×Nat) (fun (st,L,R,s,lx,rx,i)=>i≤SL.length∧i≤100∧PJ (100+i) st L R s) (fun (st,L,R,s,lx,rx,i)=>[(1,sv),(5,pB g5 0),(7,iw (i:Int))]) (fun (st,L,R,s,lx,rx,i)=>[own an rx R,aa g5 #[pB hb 0,pB gb 0,lx,pB b 0,pB p 0,rx] 34,ef b q hb s.ph s.col s.Q s.L s.Fr s.G s.P,bJ hb st,dV p gb rq s.ph s.col s.Q s.L s.Fr s.G s.P,bs gb st,own bq lx L]) (fun (st,L,R,s,lx,rx,i)=>SL.length-i) ((made l).1,(made l).2,[],kL,lx,nS,0) ⟨Nat.zero_le _,Nat.zero_le _,PJ.start l⟩ sA rA ?_;rintro⟨st,L,R,s,lx,rx,i⟩ kV;replace kV:i≤SL.length∧i≤100∧PJ (100+i) st L R s:=kV;show SK _ _ _ _ _ [(1,sv),(5,pB g5 0),(7,iw (i:Int))] _ [own an rx R,aa g5 #[pB hb 0,pB gb 0,lx,pB b 0,pB p 0,rx] 34,ef b q hb s.ph s.col s.Q s.L s.Fr s.G s.P,bJ hb st,dV p gb rq s.ph s.col s.Q s.L s.Fr s.G s.P,bs gb st,own bq lx L];obtain⟨cQ,cg,hpj⟩:=id kV;refine aE<|bn<|sP (iw (i:Int))<|sP sv<|sL (bL wD Tryz.underlying67 (.zn hS))<|sL aT<|sP (.bool (decide ((i:Int)<(SL.length:Int)))) ?_
 refine dW 22 (decide ((i:Int)<(SL.length:Int))) (fun c7=>?_) (fun c7=>?_)
 .have p8:=dY c7;refine gy ?_;refine bg (decide ((i:Int)<100)) (fun c9=>?_) (fun c9=>?_)
  .have gQ:=dY c9;refine eT<|aE<|cE<|bn<|sP sv<|sP (iw (i:Int))<|sL (aF wD Tryz.underlying67 (.zn hS) (i:Int) i om ol om) ?_
   obtain⟨dp,jC⟩:∃y,SL[i]?=some y:=⟨_,List.getElem?_eq_getElem ol⟩;refine sL (bC wD (.zn hS) jC) ?_;refine aH [1,5,0,0,0,0,0] (aaX (x:=dp) hpj om (hO dp (List.mem_of_getElem? jC))) ?_;rintro _ _ ⟨LF,L2,R2,s2,MC,MD,rfl,mL,rfl⟩;have aiV:=mL.ll;have aiW:=mL.rl;refine gy ?_;refine sC [0,0,0,0,0,0,0] (MJ (L:=L2) (R:=R2) (s:=s2) (st:=LF) mL.ci om om om) ?_;refine gy ?_;exact xr (LF,L2,R2,s2,MC,MD,i+1) ⟨by omega,by omega,mL⟩
  refine go ?_;refine sV (fun _ h=>uz) ?_;refine gz ?_;exact fg ⟨rfl,rfl⟩
 refine go ?_;refine sV (fun _ h=>uz) ?_;refine gz ?_;exact fg ⟨rfl,rfl⟩
end
end Go.Proofs.YtmhpcebiamkciaaGreat
section
namespace Go.J
open Go.ChangeShapes Go.WideShapes Go.RowKit Go.Hp
open Go.Mem (Ty)
section
variable{H:Type}{enc:TypeId×Value→H}{P:Program}{W:World}
abbrev Tr(enc:TypeId×Value→H)(P:Program)(W:World)(t:TypeId)(cs:List Value):Prop:=∃n x,DataW.trod enc P W 0 (fun _=>true) true n t cs=some x
theorem MN{t:TypeId}{fs:Array Field}{cs:List Value}(hu:P.underlying t=some (.struct fs))(h:Tr enc P W t cs)(j:Nat)(f:Field)(hf:fs[j]?=some f):Tr enc P W f.type ((cs.drop f.offset).take (P.cellsOf f.type)):=by
 obtain⟨fuel,x,hx⟩:=h;obtain⟨xs,n,_,_,hlen,hxl,oL⟩:=DataW.trod_struct hu hx;have h2:=oL j f hf;have hj:j<xs.length:=by rw[hxl];exact (Array.getElem?_eq_some_iff.1 hf).1
 rw[List.getElem?_eq_getElem hj]at h2;exact⟨n,_,h2⟩
theorem Xj{t:TypeId}{fs:Array Field}{cs:List Value}(hu:P.underlying t=some (.struct fs))(h:Tr enc P W t cs):cs.length=P.cellsOf t:=by
 obtain⟨fuel,x,hx⟩:=h;obtain⟨xs,n,_,_,hlen,hxl,oL⟩:=DataW.trod_struct hu hx;exact hlen
theorem xy{t:TypeId}{k:IntKind}{cs:List Value}(hu:P.underlying t=some (.int k))(h:Tr enc P W t cs):∃n,cs=[.int k n]∧(Lit.int k n).wf=true:=by
 obtain⟨fuel,x,hx⟩:=h;obtain⟨n,h1,_,h3⟩:=DataW.trod_int hu hx;exact⟨n,h1,h3⟩
end
end Go.J
end
section
namespace Go.J
open Go.ChangeShapes Go.WideShapes Go.RowKit Go.Hp
open Go.Mem (Ty)
section
variable{H:Type}{enc:TypeId×Value→H}{P:Program}{W:World}
theorem Ag {α : Type} [Inhabited α] {T : Ty α} (hT : T.Ok P) {t : TypeId} {cs : List Value} (ht : P.underlying t = some (.slice T.id)) (hc : P.cellsOf T.id = T.size)
    {Q : α → Prop} (Xk : ∀ cs, Tr enc P W T.id cs → ∃ x, T.enc x = cs ∧ Q x) (h : Tr enc P W t cs) : ∃ v L, cs = [v] ∧ Sl W.heap T v L ∧ ∀ y ∈ L, Q y := by
  obtain ⟨fuel, x, hf⟩ := h
  rcases Deep.open_slice ht hf with ⟨h0, _⟩ | ⟨a, sR, cap, m, n, D, Pl, h0, _, hl, hm, hmm, _, hx⟩
  · exact ⟨_, [], h0, .inl ⟨⟨none, rfl⟩, rfl⟩, by simp⟩
  simp only [if_true] at hmm
  subst hmm
  have qV := hT.pos
  rw [hc] at hx
  by_cases aaw : m = 0
  · subst aaw
    obtain rfl : sR = 0 := by omega
    exact ⟨_, [], h0, .inl ⟨⟨some a, rfl⟩, rfl⟩, by simp⟩
  obtain ⟨g, off, spot⟩ := a
  have key : spot = none ∧ ∃ arr e fr, W.heap[g]? = some (.cells arr e fr) := by
    obtain ⟨Vu, h1, h2⟩ := hx 0 (by omega)
    obtain ⟨_, hlen, ri⟩ := World.cells?_some h1
    have h3 := ri 0 qV
    simp only [Nat.zero_mul, Addr.add, if_true] at h3
    have l7 : Vu[0]? ≠ none := by rw [List.getElem?_eq_getElem (by omega)]; exact fun h => nomatch h
    unfold World.cell? at h3
    simp only at h3
    cases hg : W.heap[g]? with
    | none => rw [hg] at h3; simp only at h3; exact absurd h3.symm l7
    | some ob =>
      rw [hg] at h3
      cases ob <;> simp only at h3 <;> first | (exact absurd h3.symm l7) | skip
      rename_i arr e fr
      cases spot with
      | none => exact ⟨rfl, arr, e, fr, rfl⟩
      | some s => simp only [Option.isSome_some, if_true] at h3; exact absurd h3.symm l7
  obtain ⟨rfl, arr, e, fr, hg⟩ := key
  obtain ⟨X, hX⟩ := Deep.choose_lt (α := α) (p := fun i x => (∀ j u, (T.enc x)[j]? = some u → arr[off + i * T.size + j]? = some u) ∧ Q x) (fun i hi => by
    obtain ⟨Vu, h1, h2⟩ := hx i hi
    obtain ⟨_, hlen, ri⟩ := World.cells?_some h1
    obtain ⟨x, LD, hQ⟩ := Xk Vu ⟨_, _, h2⟩
    refine ⟨x, fun j u hj => ?_, hQ⟩
    rw [LD] at hj
    have Xl : j < T.size := by rw [← hlen]; exact (List.getElem?_eq_some_iff.1 hj).1
    have := ri j Xl
    rw [Mem.addr_add, Mem.addr_add, cell_of_row W g _ arr e fr hg, hj] at this
    exact this)
  have By : ∀ i j, i < m → j < T.size → ∃ u, (T.enc (X i))[j]? = some u ∧ arr[off + i * T.size + j]? = some u := fun i j hi hj => by
    have : j < (T.enc (X i)).length := by rw [hT.len]; exact hj
    exact ⟨_, List.getElem?_eq_getElem this, (hX i hi).1 j _ (List.getElem?_eq_getElem this)⟩
  refine ⟨_, (List.range sR).map X, h0, .inr ⟨g, off, m, arr, e, fr, by simp, hg, by simpa using hl, hm, ?_, ?_⟩, ?_⟩
  · intro hcp
    obtain ⟨u, _, hu⟩ := By (m - 1) (T.size - 1) (by omega) (by omega)
    have nC := (Array.getElem?_eq_some_iff.1 hu).1
    have : m * T.size = (m - 1) * T.size + T.size := by rw [Nat.sub_mul]; have : T.size ≤ m * T.size := Nat.le_mul_of_pos_left _ hcp; omega
    omega
  · apply List.ext_getElem?
    intro q
    have vq := hT.flat_len ((List.range sR).map X)
    simp only [List.length_map, List.length_range] at vq ⊢
    by_cases hq : q < sR * T.size
    · have hi : q / T.size < sR := Nat.div_lt_of_lt_mul (by rw [Nat.mul_comm]; exact hq)
      have hj : q % T.size < T.size := Nat.mod_lt _ qV
      have e1 : q = q / T.size * T.size + q % T.size := by rw [Nat.mul_comm]; exact (Nat.div_add_mod _ _).symm
      obtain ⟨u, h1, h2⟩ := By (q / T.size) (q % T.size) (by omega) hj
      have hL : ((List.range sR).map X)[q / T.size]? = some (X (q / T.size)) := by simp [hi]
      have h3 := hT.flat_get hL hj
      rw [← e1, h1] at h3
      rw [h3, List.getElem?_take, if_pos hq, List.getElem?_drop, Array.getElem?_toList]
      rw [← h2]
      congr 1
      omega
    · rw [List.getElem?_eq_none (by simp; omega), List.getElem?_eq_none (by rw [vq]; omega)]
  · intro y hy
    simp only [List.mem_map, List.mem_range] at hy
    obtain ⟨i, hi, rfl⟩ := hy
    exact (hX i (by omega)).2
theorem mS{t:TypeId}{fs:Array Field}{cs:List Value}(hu:P.underlying t=some (.struct fs))(h:Tr enc P W t cs)(j:Nat)(u:TypeId)(off m:Nat)(hf:(fs[j]?).map (fun f=>(f.type,f.offset))=some (u,off):=by rfl)(hc:P.cellsOf u=m:=by kernel_rfl):Tr enc P W u ((cs.drop off).take m):=by
 cases hfj:fs[j]? with
 | none=>rw[hfj]at hf;cases hf
 | some f=>
  rw[hfj]at hf;injection hf with hf;injection hf with e1 e2
  subst e1 e2 hc;exact MN hu h j f hfj
end
end Go.J
end
section
namespace Go.Proofs.YtmhpcebiamkciaaGreat
open Go.RowKit Go.J Go.S Go.Hp Go.ChangeShapes Go.WideShapes
theorem Tryz.own:ownKnob Tryz.prog.godebug=none:=by kernel_rfl
theorem Tryz.laidOut:laidOutB Tryz.prog=true:=by kernel_rfl
instance:Inhabited CH:=⟨⟨bw,0⟩⟩
instance:Inhabited Af:=⟨⟨0,⟨bw,0⟩,⟨bw,0⟩,⟨bw,0⟩⟩⟩
instance:Inhabited R7:=⟨FI.zero⟩
section
variable{H:Type}{enc:TypeId×Value→H}{W:World}
theorem open_ints{cs:List Value}(h:Tr enc Tryz.prog W 23 cs):∃v L,cs=[v]∧Sl W.heap an v L:=by
 obtain⟨v,L,h1,h2,_⟩:=Ag (Q:=fun _=>True) ak Tryz.underlying23 (by kernel_rfl) (fun cs h=>by obtain⟨n,e,_⟩:=xy Tryz.underlying3 h;exact⟨n,e.symm,trivial⟩) h;exact⟨v,L,h1,h2⟩
theorem MO{cs:List Value}(h:Tr enc Tryz.prog W 39 cs):∃x,FI.enc x=cs∧Sl W.heap an x.rv.v x.ro:=by
 have hl:cs.length=5:=(Xj Tryz.underlying39 h).trans (by kernel_rfl);obtain⟨a,ea,_⟩:=xy Tryz.underlying3 (mS Tryz.underlying39 h 0 3 0 1);obtain⟨b,eb,_⟩:=xy Tryz.underlying3 (mS Tryz.underlying39 h 1 3 1 1);obtain⟨c,ec,_⟩:=xy Tryz.underlying3 (mS Tryz.underlying39 h 2 3 2 1);obtain⟨d,ed,_⟩:=xy Tryz.underlying3 (mS Tryz.underlying39 h 3 3 3 1);obtain⟨v,L,ev,hv⟩:=open_ints (mS Tryz.underlying39 h 4 23 4 1);obtain⟨p,q,rfl⟩:=hv.form;match cs,hl with
 | [x0,x1,x2,x3,x4],_=>
  obtain rfl:x0=_:=(List.cons.inj (show[x0]=_ from ea)).1;obtain rfl:x1=_:=(List.cons.inj (show[x1]=_ from eb)).1;obtain rfl:x2=_:=(List.cons.inj (show[x2]=_ from ec)).1;obtain rfl:x3=_:=(List.cons.inj (show[x3]=_ from ed)).1;obtain rfl:x4=_:=(List.cons.inj (show[x4]=_ from ev)).1;exact⟨⟨a,b,c,d,⟨p,L.length,q⟩,L⟩,rfl,hv⟩
theorem Jo{cs:List Value}(h:Tr enc Tryz.prog W 67 cs):∃v L,cs=[v]∧Sl W.heap FI v L∧∀x∈L,Sl W.heap an x.rv.v x.ro:=
 Ag wD Tryz.underlying67 (by kernel_rfl) (fun cs h=>MO h) h
end
theorem Xm(cs:List Value)(h:er [0,0,0,0,1,0,0,0,0,0,1,0,0,0,0,0,1,0,0] cs=true):∃x,Vs.enc x=cs:=by
 have hl:=fc h;match cs,hl,h with
 | [c0,c1,c2,c3,c4,c5,c6,c7,c8,c9,l4,ff,jS,ux,kj,CJ,vV,HJ,wE],_,h=>
  simp only[er,Bool.and_eq_true]at h;obtain⟨c0,rfl⟩:=fN h.1;obtain⟨c1,rfl⟩:=fN h.2.1;obtain⟨c2,rfl⟩:=fN h.2.2.1;obtain⟨c3,rfl⟩:=fN h.2.2.2.1;obtain⟨c4,rfl⟩:=Bz h.2.2.2.2.1;obtain⟨c5,rfl⟩:=fN h.2.2.2.2.2.1;obtain⟨c6,rfl⟩:=fN h.2.2.2.2.2.2.1;obtain⟨c7,rfl⟩:=fN h.2.2.2.2.2.2.2.1;obtain⟨c8,rfl⟩:=fN h.2.2.2.2.2.2.2.2.1;obtain⟨c9,rfl⟩:=fN h.2.2.2.2.2.2.2.2.2.1;obtain⟨l4,rfl⟩:=Bz h.2.2.2.2.2.2.2.2.2.2.1;obtain⟨ff,rfl⟩:=fN h.2.2.2.2.2.2.2.2.2.2.2.1;obtain⟨jS,rfl⟩:=fN h.2.2.2.2.2.2.2.2.2.2.2.2.1;obtain⟨ux,rfl⟩:=fN h.2.2.2.2.2.2.2.2.2.2.2.2.2.1;obtain⟨kj,rfl⟩:=fN h.2.2.2.2.2.2.2.2.2.2.2.2.2.2.1;obtain⟨CJ,rfl⟩:=fN h.2.2.2.2.2.2.2.2.2.2.2.2.2.2.2.1;obtain⟨vV,rfl⟩:=Bz h.2.2.2.2.2.2.2.2.2.2.2.2.2.2.2.2.1;obtain⟨HJ,rfl⟩:=fN h.2.2.2.2.2.2.2.2.2.2.2.2.2.2.2.2.2.1;obtain⟨wE,rfl⟩:=fN h.2.2.2.2.2.2.2.2.2.2.2.2.2.2.2.2.2.2.1;exact⟨⟨c0,⟨⟨c1,c2,c3,c4,c5⟩,c6⟩,⟨⟨c7,c8,c9,l4,ff⟩,jS⟩,⟨⟨ux,kj,CJ,vV,HJ⟩,wE⟩⟩,rfl⟩
end Go.Proofs.YtmhpcebiamkciaaGreat
end
