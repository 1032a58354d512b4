/-
  Layer 45: pairs of collectors, the small case. Each law says its conditions.
-/
import Derived.Test.YtmhpcebiamkciaaGreatG5
import Derived.Test.YtmhpcebiamkciaaGreatG1
import Derived.Test.YtmhpcebiamkciaaGreatG2
import Derived.Test.YtmhpcebiamkciaaGreatRows
section
set_option linter.unusedSimpArgs false
set_option linter.unusedVariables false
set_option maxRecDepth 100000
set_option maxHeartbeats 2000000
namespace Go.Proofs.YtmhpcebiamkciaaGreat
open Go.Hp Go.J Go.S
open Go.Mem (Ty KTy blk elemAt pre suf blk_pre blk_suf aget aset strK aggDesc)
open Go.Mem (adel apos aget_aset aget_adel)
def cst0:Cst:=⟨0,c0,[],[],[],[],[]⟩
theorem begun_s{Z:Zone}{F:List Asr}{lv:Value}{l:List Opc}(hl0:Kn Z OpT lv l):SF Tryz.prog 10 #[lv] Z F fun r Bs=>∃hb gb lx o p q rq,r=.tuple #[.agg #[ptrV hb,ptrV gb,lx,ptrV o,ptrV p,.slice none 0 0],.bool true]∧Bs=coS o q hb cst0::hpA hb (made l).1::rcS p gb rq cst0::rhA gb (made l).1::own VlT lx (made l).2::F:=by
 refine sf_enter Tryz.func10 44 [(0,lv)] (fun w0=>?_);refine k_sr<|s_alloc (.agg #[.pointer none,.pointer none,(.slice none 0 0),.pointer none,.pointer none,(.slice none 0 0)]) #[.pointer none,.pointer none,(.slice none 0 0),.pointer none,.pointer none,(.slice none 0 0)] (fun g1=>?_)
 refine sP (.bool false)<|s_nr<|sP lv<|s_call [] (made_s hl0) ?_
 rintro _ _ ⟨hb2,gb3,lx4,rfl,rfl⟩;refine sF 2 (fun hf5=>?_);obtain⟨hinv,hsm,hll⟩:=made_good l;refine sP (.tuple #[.agg #[pB hb2 0,pB gb3 0,lx4],.bool true])<|sP (.agg #[pB hb2 0,pB gb3 0,lx4])<|sP (.bool true)<|s_alloc (.agg #[.pointer none,.pointer none,(.slice none 0 0)]) #[.pointer none,.pointer none,(.slice none 0 0)] (fun g6=>?_)
 refine s_store (u:=.agg #[pB hb2 0,pB gb3 0,lx4]) (m:=3) 0 #[pB hb2 0,pB gb3 0,lx4] ?_ (hm:=by (obtain⟨_,_,e⟩:=hf5;rw[e];rfl)) (h1:=by (obtain⟨_,_,e⟩:=hf5;rw[e];rfl)) (ha':=by (obtain⟨_,_,e⟩:=hf5;rw[e];rfl));refine sP (.bool true)<|s_nt<|k_seq<|k_sr<|sP (.bool true)<|sP (.bool false)<|s_nt<|k_false<|k_st<|k_sr<|sP (pB g6 0)<|sL (t_load 0 (pB hb2 0))<|s_pcall (fun _ h=>cnew_s) ?_
 rintro _ _ ⟨b7,q8,rfl,rfl⟩;refine sP (.tuple #[pB b7 0,iw 0])<|sP (pB b7 0)<|sP (iw 0)<|sP (pB b7 0)<|sP (iw 0)<|s_nr<|sP (pB g6 1)<|sL (t_load 1 (pB gb3 0))<|s_pcall (fun _ h=>rcnew_s) ?_
 rintro _ _ ⟨p9,rq10,rfl,rfl⟩;refine sP (.tuple #[pB p9 0,iw 0])<|sP (pB p9 0)<|sP (iw 0)<|sP (pB p9 0)<|sP (iw 0)<|s_nr<|sL (t_loadA 2 #[pB hb2 0,pB gb3 0,lx4])<|sP (pB b7 0)<|sP (pB p9 0)<|sL (show Lt _ _ _ _ _ (.agg #[pB hb2 0,pB gb3 0,lx4,pB b7 0,pB p9 0,(.slice none 0 0)]) from by obtain⟨_,_,e⟩:=hf5;rw[e];clear e;exact t_kern _)<|sP (pB b7 0)<|sP2 (.bool true)<|sP (iw 0)<|sL (t_cmp (c:=true))<|sP2 (.bool true)<|sP (iw 0)<|sL (t_cmp (c:=true))<|sP (.bool true)<|s_store (u:=.agg #[pB hb2 0,pB gb3 0,lx4,pB b7 0,pB p9 0,(.slice none 0 0)]) (m:=6) 6 #[pB hb2 0,pB gb3 0,lx4,pB b7 0,pB p9 0,(.slice none 0 0)] ?_ (hm:=by (obtain⟨_,_,e⟩:=hf5;rw[e];rfl)) (h1:=by (obtain⟨_,_,e⟩:=hf5;rw[e];rfl)) (ha':=by (obtain⟨_,_,e⟩:=hf5;rw[e];rfl))
 refine sP (.bool true)<|s_nt<|k_ret ?_
 exact xs_fin [.agg #[.pointer (some ⟨hb2,0,none⟩),.pointer (some ⟨gb3,0,none⟩),lx4,.pointer (some ⟨b7,0,none⟩),.pointer (some ⟨p9,0,none⟩),(.slice none 0 0)],.bool true] (coS b7 q8 hb2 cst0::hpA hb2 (made l).1::rcS p9 gb3 rq10 cst0::rhA gb3 (made l).1::own VlT lx4 (made l).2::F) (SI.agg 2 34 6 (SI.tmp 3 SI.nil)) (rr [1,2,0,1,1] [5,5]) ⟨hb2,gb3,lx4,b7,p9,q8,rq10,rfl,rfl⟩
theorem tmod_ge{a:Int}{n:Nat}(ha:0≤a)(hn:0<n):0≤Int.tmod a n∧Int.tmod a n<n:=⟨Int.tmod_nonneg _ ha,Int.tmod_lt_of_pos _ om⟩
theorem pid_s{Z:Zone}{F:List Asr}{xp:Nat}{hv gv lx ov pv rv:Value}{L:List Vl}(hl:L.length≤100000)(at_:Int):SF Tryz.prog 13 #[.pointer (some ⟨xp,0,none⟩),iw at_] Z (blkA xp #[hv,gv,lx,ov,pv,rv] 34::own VlT lx L::F) fun r Bs=>r=iw (vid L at_)∧Bs=blkA xp #[hv,gv,lx,ov,pv,rv] 34::own VlT lx L::F:=by
 refine sf_enter Tryz.func13 32 [(0,pB xp 0),(1,iw at_)] (fun w0=>?_);refine k_sr<|sP (iw 0)<|s_nt<|k_seq<|k_cut (ι:=Unit) (fun _=>True) (fun _=>[(0,pB xp 0),(1,iw at_),(15,.bool ((decide ((L.length:Int)=0))||(decide (at_<0))))]) (fun _=>blkA xp #[hv,gv,lx,ov,pv,rv] 34::own VlT lx L::F) ?_ (fun _ _=>?_)
 .refine k_reg<|sP3 (pB xp 0)<|sP (pB xp 2)<|sL (t_load 0 lx)<|sL (t_len VlT_ok Tryz.underlying28 (.own 1))<|sL t_cmp<|sP (.bool (decide ((L.length:Int)=0)))<|s_fork 12 (decide ((L.length:Int)=0)) (fun c1=>?_) (fun c1=>?_)
  .have p2:=dY c1;refine sK<|sK<|sP (.bool true)<|s_nil ?_
   exact xs_cut () trivial (sub_of rfl (rQ (rQ ⟨⟨rfl,show Value.bool true=Value.bool ((decide ((L.length:Int)=0))||(decide (at_<0))) by first|(simp only[c1,bls];done)|simp[c1]⟩,trivial⟩))) (rr [0,0] [])
  have p3:=dF c1;refine sP (iw at_)<|sL t_cmp<|sP (.bool (decide (at_<0)))<|s_nil ?_
  exact xs_cut () trivial (sub_of rfl (rQ (rQ ⟨⟨rfl,show Value.bool (decide (at_<0))=Value.bool ((decide ((L.length:Int)=0))||(decide (at_<0))) by first|(simp only[c1,bls];done)|simp[c1]⟩,trivial⟩))) (rr [0,0] [])
 refine k_cond ((decide ((L.length:Int)=0))||(decide (at_<0))) (fun c4=>?_) (fun c4=>?_)
 .have p5:=c4;simp only[Bool.and_eq_true,Bool.or_eq_true,Bool.and_eq_false_iff,Bool.or_eq_false_iff,Bool.not_eq_true',Bool.not_eq_false',decide_eq_true_eq,decide_eq_false_iff_not]at p5;refine k_sr<|sP (iw 0)<|s_nt<|k_ret<|xs_ret<|xs_fin [iw 0] (blkA xp #[hv,gv,lx,ov,pv,rv] 34::own VlT lx L::F) (SI.tmp 4 SI.nil) (rr [0,0] []) ⟨cI ?_,rfl⟩
  exact (vid_no om).symm
 obtain⟨c6,c7⟩:=or_f c4;have p8:=dF c6;have p9:=dF c7;refine k_st<|k_seq<|k_draw<|sP3 (pB xp 0)<|sP (pB xp 2)<|sL (t_load 0 lx)<|sP (iw at_)<|sP3 (pB xp 0)<|sP (pB xp 2)<|sL (t_load 0 lx)<|sF 1 (fun hf10=>?_)
 refine sL (t_len VlT_ok Tryz.underlying28 (.own 1)) ?_;obtain⟨htm1,htm2⟩:=tmod_ge (a:=at_) (n:=L.length) om om;refine sL (t_rem at_ (L.length:Int) om)<|sL (t_index VlT_ok Tryz.underlying28 (.own 1) (Int.tmod at_ (L.length:Int)) (((Int.tmod at_ (L.length:Int))).toNat) om ol om)<|sP (.pointer (some ((elemAt VlT.size lx (((Int.tmod at_ (L.length:Int))).toNat)).add 4))) ?_
 obtain⟨y11,hy12⟩:∃y,L[((Int.tmod at_ (L.length:Int))).toNat]?=some y:=⟨_,List.getElem?_eq_getElem ol⟩;have hvy:=vid_at om om hy12;refine sL (t_loadF 4 VlT_ok (.own 1) hy12)<|sP (iw y11.ref)<|s_nil<|x_dynS (fun _ h=>by obtain⟨_,_,e⟩:=hf10;subst e;kernel_rfl) ?_
 refine xs_then<|k_ret<|xs_fin [iw y11.ref] (blkA xp #[hv,gv,lx,ov,pv,rv] 34::own VlT lx L::F) (SI.tmp 4 SI.nil) (rr [0,0] []) ⟨cI ?_,rfl⟩
 exact hvy.2.symm
theorem pnum_s{Z:Zone}(n:Int):SF Tryz.prog 89 #[iw n] Z [] fun r Bs=>r=(numV n).v∧Bs=[]:=by
 refine sf_enter Tryz.func89 6 [(0,iw n)] (fun w0=>?_);refine k_sr<|s_alloc (.agg zc) zc (fun g1=>?_)
 refine s_nr<|sP (iw n)<|sL (t_kern (.agg #[iw n,iw 1]))<|sL (t_kern (.agg #[iw 2,iw n,iw 1,sw eb,iw 0]))<|s_store 0 #[iw 2,iw n,iw 1,sw eb,iw 0] ?_
 refine s_nt<|k_ret ?_
 exact xs_fin [.agg #[iw 2,iw n,iw 1,sw eb,iw 0]] [] (SI.agg 2 71 0 SI.nil) (rr [] [0]) ⟨rfl,rfl⟩
theorem pwrite_s{Z:Zone}{F:List Asr}{xp hb gb b p q rq N:Nat}{lx rx sv:Value}{st:Hst}{L:List Vl}{R:List Int}{s:Cst}(hci:CI N st s)(hN:N≤299)(hll:L.length≤300)(hR:R.length≤9000){k n a d:Int}(ha:halive st (vid L a)=true)(hd:halive st (vid L d)=true):SF Tryz.prog 37 #[.pointer (some ⟨xp,0,none⟩),.agg #[iw k,iw n,iw a,iw d,sv]] Z (blkA xp #[ptrV hb,ptrV gb,lx,ptrV b,ptrV p,rx] 34::own VlT lx L::own iTy rx R::coS b q hb s::hpA hb st::rcS p gb rq s::rhA gb st::F) fun r Bs=>r=.bool true∧Bs=blkA xp #[ptrV hb,ptrV gb,lx,ptrV b,ptrV p,rx] 34::own VlT lx L::own iTy rx R::coS b q hb (wrt (hset st (refV 4 (vid L a)) (numV (Int.tmod n 3)) (vat L d)) s (vid L a) (vid L d))::hpA hb (hset st (refV 4 (vid L a)) (numV (Int.tmod n 3)) (vat L d))::rcS p gb rq (wrt (hset st (refV 4 (vid L a)) (numV (Int.tmod n 3)) (vat L d)) s (vid L a) (vid L d))::rhA gb (hset st (refV 4 (vid L a)) (numV (Int.tmod n 3)) (vat L d))::F:=by
 refine sf_enter Tryz.func37 112 [(0,pB xp 0),(1,.agg #[iw k,iw n,iw a,iw d,sv])] (fun w0=>?_);obtain⟨hla,ha0,_⟩:=vid_pos ha;obtain⟨_,hd0,_⟩:=vid_pos hd;refine k_sr<|s_box #[iw k,iw n,iw a,iw d,sv] (fun g1=>?_)
 refine sP (.bool false)<|s_nt<|k_seq<|k_held [blkA g1 #[iw k,iw n,iw a,iw d,sv] 39,blkA xp #[pB hb 0,pB gb 0,lx,pB b 0,pB p 0,rx] 34] ?_
 refine hp_ 0 [0,0] (pB xp 0) ?_;refine hp_ 1 [0,0] (pB g1 2) ?_;refine h_l 2 rfl [0,0] (fun _=>(t_load 0 (iw a))) ?_;refine hp_ 4 [0,0] (pB xp 0) ?_;refine hp_ 5 [0,0] (pB g1 3) ?_;refine h_l 6 rfl [0,0] (fun _=>(t_load 0 (iw d))) ?_;refine h_stepS 3 ?_;refine sC [1,1] (pid_s (L:=L) om a) ?_;refine nH [2,0]<|h_stepS 7 ?_
 refine sC [0,0] (pid_s (L:=L) om d) ?_;refine nH [2,0]<|hp_ 8 [2,0] (iw (vid L a)) ?_
 refine hp_ 9 [2,0] (iw (vid L d)) ?_;refine h_doneS ?_;refine xs_then<|k_sr<|sP (iw (vid L a))<|sL (t_kern (.agg #[iw 4,iw 0,iw 0,sw eb,iw (vid L a)]))<|sP (iw (vid L d))<|sL (t_kern (.agg #[iw 4,iw 0,iw 0,sw eb,iw (vid L d)]))<|s_alloc (.agg zc) zc (fun g2=>?_)
 refine s_alloc (.agg zc) zc (fun g3=>?_);refine s_store 1 #[iw 4,iw 0,iw 0,sw eb,iw (vid L a)] ?_;refine s_store 0 #[iw 4,iw 0,iw 0,sw eb,iw (vid L d)] ?_;refine s_nt<|k_seq<|k_sr<|sP (pB g1 2)<|sL (t_load 4 (iw a))<|sL (Lt.to t_cmp (cB (decide_eq_true om:(decide ((0:Int)≤a))=true)))<|sP (.bool true)<|sP (pB g1 3)<|sL (t_load 4 (iw d))<|sL (Lt.to t_cmp (cB (decide_eq_true om:(decide ((0:Int)≤d))=true)))<|sP2 (.bool true)<|sP4 (pB xp 0)<|sL (t_load 2 (pB hb 0))<|sP (iw (vid L a))<|sC [7] (halive_s (st:=st) (vid L a)) ?_
 refine sP (.bool (halive st (vid L a)))<|sL (Lt.to (t_pure (.bool (halive st (vid L a)))) (cB (ha:(halive st (vid L a))=true)))<|sP4 (pB xp 0)<|sL (t_load 3 (pB hb 0))<|sP (iw (vid L d))<|sC [0] (halive_s (st:=st) (vid L d)) ?_
 refine sP (.bool (halive st (vid L d)))<|sL (Lt.to (t_pure (.bool (halive st (vid L d)))) (cB (hd:(halive st (vid L d))=true)))<|sP3 (pB xp 0)<|sP (pB xp 2)<|sL (t_load 3 lx)<|sL (t_len VlT_ok Tryz.underlying28 (.own 4))<|sL (Lt.to t_cmp (cB (decide_eq_true om:(decide ((0:Int)<(L.length:Int)))=true)))<|sP (.bool true)<|s_nt<|k_true<|k_seq<|k_draw<|sP3 (pB xp 0)<|sP (pB xp 2)<|sL (t_load 3 lx)<|sP (pB g1 3)<|sL (t_load 5 (iw d))<|sP3 (pB xp 0)<|sP (pB xp 2)<|sL (t_load 3 lx)<|sF 4 (fun hf4=>?_)
 refine sL (t_len VlT_ok Tryz.underlying28 (.own 4)) ?_;obtain⟨htm1,htm2⟩:=tmod_ge (a:=d) (n:=L.length) om om;refine sL (t_rem d (L.length:Int) om)<|sL (t_index VlT_ok Tryz.underlying28 (.own 4) (Int.tmod d (L.length:Int)) (((Int.tmod d (L.length:Int))).toNat) om ol om) ?_
 obtain⟨y5,hy6⟩:∃y,L[((Int.tmod d (L.length:Int))).toNat]?=some y:=⟨_,List.getElem?_eq_getElem ol⟩;have hvy:=vid_at om om hy6;refine sL (t_loadE VlT_ok (.own 4) hy6)<|s_store 1 (vc y5) ?_
 refine s_nil<|x_dynS (fun _ h=>by obtain⟨_,_,e⟩:=hf4;subst e;kernel_rfl) ?_
 refine xs_then<|k_seq<|k_held [blkA g3 (vc y5) 71,blkA g2 #[iw 4,iw 0,iw 0,sw eb,iw (vid L a)] 71,blkA xp #[pB hb 0,pB gb 0,lx,pB b 0,pB p 0,rx] 34,blkA g1 #[iw k,iw n,iw a,iw d,sv] 39] ?_
 refine hp_ 0 [1,1,1,2] (pB xp 0) ?_;refine hp_ 1 [1,1,1,2] (pB xp 0) ?_;refine hp_ 2 [1,1,1,2] (pB xp 0) ?_;refine hp_ 3 [1,1,1,2] (pB xp 0) ?_;refine h_l 4 rfl [1,1,1,2] (fun _=>(t_load 2 (pB hb 0))) ?_;refine h_l 5 rfl [1,1,1,2] (fun _=>(t_loadA 1 #[iw 4,iw 0,iw 0,sw eb,iw (vid L a)])) ?_;refine hp_ 6 [1,1,1,2] (pB g1 1) ?_;refine h_l 7 rfl [1,1,1,2] (fun _=>(t_load 3 (iw n))) ?_;refine h_l 8 rfl [1,1,1,2] (fun _=>(t_rem n 3 om)) ?_;refine h_l 10 rfl [1,1,1,2] (fun _=>(t_loadA 0 (vc y5))) ?_;refine hp_ 12 [1,1,1,2] (pB xp 0) ?_;refine hp_ 13 [1,1,1,2] (pB xp 0) ?_;refine hp_ 14 [1,1,1,2] (pB xp 0) ?_;refine hp_ 15 [1,1,1,2] (pB xp 1) ?_;refine h_l 16 rfl [1,1,1,2] (fun _=>(t_load 2 (pB gb 0))) ?_;refine h_l 17 rfl [1,1,1,2] (fun _=>(t_loadA 1 #[iw 4,iw 0,iw 0,sw eb,iw (vid L a)])) ?_;refine hp_ 18 [1,1,1,2] (pB g1 1) ?_;refine h_l 19 rfl [1,1,1,2] (fun _=>(t_load 3 (iw n))) ?_;refine h_l 20 rfl [1,1,1,2] (fun _=>(t_rem n 3 om)) ?_;refine h_l 22 rfl [1,1,1,2] (fun _=>(t_loadA 0 (vc y5))) ?_;refine h_stepS 9 ?_;refine sV (fun _ h=>pnum_s (Int.tmod n 3))<|nH [1,1,1,2]<|h_stepS 11 ?_
 refine sC [0] (hset_s (st:=st) hci.sm om (⟨4,0,0,eb,(vid L a)⟩:Vl) (numV (Int.tmod n 3)) y5) ?_;have hcw:CI (N+1) (hset st (⟨4,0,0,eb,(vid L a)⟩:Vl) (numV (Int.tmod n 3)) y5) s:=hci.hset rfl;refine nH [1,1,1,2]<|h_stepS 21 ?_
 refine sV (fun _ h=>pnum_s (Int.tmod n 3))<|nH [1,1,1,2]<|h_stepS 23 ?_
 refine sC [9] (rhset_s (st:=st) hci.sm om (⟨4,0,0,eb,(vid L a)⟩:Vl) (numV (Int.tmod n 3)) y5) ?_;refine nH [2,2,2,3]<|h_l 24 rfl [2,2,2,3] (fun _=>(Lt.to t_cmp (cB (decide_eq_false (fun h=>h rfl):(decide ((hsetE st (⟨4,0,0,eb,(vid L a)⟩:Vl) (numV (Int.tmod n 3)) y5)≠(hsetE st (⟨4,0,0,eb,(vid L a)⟩:Vl) (numV (Int.tmod n 3)) y5)))=false)))) ?_
 refine h_doneS ?_;refine xs_then<|k_false<|k_st<|k_seq<|k_held [blkA g3 (vc y5) 71,blkA g2 #[iw 4,iw 0,iw 0,sw eb,iw (vid L a)] 71,blkA xp #[pB hb 0,pB gb 0,lx,pB b 0,pB p 0,rx] 34,blkA g1 #[iw k,iw n,iw a,iw d,sv] 39] ?_
 refine hp_ 0 [2,2,2,3] (pB xp 0) ?_;refine hp_ 1 [2,2,2,3] (pB xp 0) ?_;refine hp_ 2 [2,2,2,3] (pB xp 3) ?_;refine h_l 3 rfl [2,2,2,3] (fun _=>(t_load 2 (pB b 0))) ?_;refine hp_ 4 [2,2,2,3] (iw (vid L a)) ?_;refine hp_ 5 [2,2,2,3] (iw (vid L d)) ?_;refine hp_ 7 [2,2,2,3] (pB xp 0) ?_;refine hp_ 8 [2,2,2,3] (pB xp 0) ?_;refine hp_ 9 [2,2,2,3] (pB xp 4) ?_;refine h_l 10 rfl [2,2,2,3] (fun _=>(t_load 2 (pB p 0))) ?_;refine hp_ 11 [2,2,2,3] (iw (vid L a)) ?_;refine hp_ 12 [2,2,2,3] (iw (vid L d)) ?_;refine h_stepS 6 ?_;refine sC [8,1] (cwrite_s (st:=(hset st (⟨4,0,0,eb,(vid L a)⟩:Vl) (numV (Int.tmod n 3)) y5)) (s:=s) hcw om (vid L a) (vid L d)) ?_;refine nH [3,3,3,4]<|h_stepS 13 ?_
 refine sC [9,2] (rwrite_s (st:=(hset st (⟨4,0,0,eb,(vid L a)⟩:Vl) (numV (Int.tmod n 3)) y5)) (s:=s) hcw om (vid L a) (vid L d)) ?_;refine nH [4,4,4,5]<|h_l 14 rfl [4,4,4,5] (fun _=>(Lt.to t_cmp (cB (decide_eq_true rfl:(decide ((aliE (hset st (⟨4,0,0,eb,(vid L a)⟩:Vl) (numV (Int.tmod n 3)) y5) (vid L a))=(aliE (hset st (⟨4,0,0,eb,(vid L a)⟩:Vl) (numV (Int.tmod n 3)) y5) (vid L a))))=true)))) ?_
 refine hp_ 15 [4,4,4,5] (.bool true) ?_;refine h_doneS ?_;refine xs_then<|k_ret ?_
 exact xs_fin [.bool true] (blkA xp #[ptrV hb,ptrV gb,lx,ptrV b,ptrV p,rx] 34::own VlT lx L::own iTy rx R::coS b q hb (wrt (hset st (refV 4 (vid L a)) (numV (Int.tmod n 3)) (vat L d)) s (vid L a) (vid L d))::hpA hb (hset st (refV 4 (vid L a)) (numV (Int.tmod n 3)) (vat L d))::rcS p gb rq (wrt (hset st (refV 4 (vid L a)) (numV (Int.tmod n 3)) (vat L d)) s (vid L a) (vid L d))::rhA gb (hset st (refV 4 (vid L a)) (numV (Int.tmod n 3)) (vat L d))::F) (SI.tmp 4 SI.nil) (fun _ h=>by rw[←hvy.1]at h;exact h.re [6,6,7,2,2,0,0] [7,7,7]) ⟨rfl,rfl⟩
theorem pcreate_s{Z:Zone}{F:List Asr}{xp hb gb b p q rq N:Nat}{lx rx:Value}{st:Hst}{L:List Vl}{R:List Int}{s:Cst}(hci:CI N st s)(hN:N≤299)(hll:L.length≤300)(hR:R.length≤9000):SF Tryz.prog 38 #[.pointer (some ⟨xp,0,none⟩)] Z (blkA xp #[ptrV hb,ptrV gb,lx,ptrV b,ptrV p,rx] 34::own VlT lx L::own iTy rx R::coS b q hb s::hpA hb st::rcS p gb rq s::rhA gb st::F) fun r Bs=>∃lx rx,r=.bool true∧Bs=blkA xp #[ptrV hb,ptrV gb,lx,ptrV b,ptrV p,rx] 34::own VlT lx (L++[refV 4 ((st.objs.length:Int)+1)])::own iTy rx (R++[((st.objs.length:Int)+1)])::coS b q hb (brt (hmake st tbN) s ((st.objs.length:Int)+1))::hpA hb (hmake st tbN)::rcS p gb rq (brt (hmake st tbN) s ((st.objs.length:Int)+1))::rhA gb (hmake st tbN)::F:=by
 refine sf_enter Tryz.func38 73 [(0,pB xp 0)] (fun w0=>?_);refine k_sr<|sP (.bool false)<|s_nr<|sP4 (pB xp 0)<|sL (t_load 0 (pB hb 0))<|sC [4] (hnewtable_s (st:=st) (by have:=hci.sm.len;omega)) ?_
 have hcm:CI (N+1) (hmake st (newO 4 0 eb [])) s:=hci.make om;refine sP (.tuple #[.agg (vc (hmakeV st 4)),iw (hmakeE st)])<|sP (.agg (vc (hmakeV st 4)))<|sP (iw (hmakeE st))<|s_alloc (.agg zc) zc (fun g1=>?_)
 refine s_store 0 (vc (hmakeV st 4)) ?_;refine sP (iw (hmakeE st))<|s_nr<|sP3 (pB xp 0)<|sP (pB xp 1)<|sL (t_load 2 (pB gb 0))<|sC [7] (rhnewtable_s (st:=st) (by have:=hci.sm.len;omega)) ?_
 refine sP (.tuple #[.agg (vc (hmakeV st 4)),iw (hmakeE st)])<|sP (.agg (vc (hmakeV st 4)))<|sP (iw (hmakeE st))<|s_alloc (.agg zc) zc (fun g2=>?_)
 refine s_store 0 (vc (hmakeV st 4)) ?_;refine sP (iw (hmakeE st))<|s_nt<|k_seq<|k_sr<|sL (t_loadA 2 (vc (hmakeV st 4)))<|sL (t_loadA 0 (vc (hmakeV st 4)))<|sL (Lt.to (t_eqS (fun w=>(eqVlT (hmakeV st 4) (hmakeV st 4) w).2)) (cB ((congrArg Bool.not (decide_eq_true rfl:(decide ((hmakeV st 4)=(hmakeV st 4)))=true)).trans rfl:(!(decide ((hmakeV st 4)=(hmakeV st 4))))=false)))<|sP (.bool false)<|sP2 (iw (hmakeE st))<|sL (Lt.to t_cmp (cB (decide_eq_false (fun h=>h rfl):(decide ((hmakeE st)≠(hmakeE st)))=false)))<|sP (.bool false)<|s_nt<|k_false<|k_st<|k_seq<|k_sr<|sP (iw (hmakeE st))<|sL (Lt.to t_cmp (cB (decide_eq_true (make_v hci om).2:(decide ((hmakeE st)=0))=true)))<|s_nt<|k_true<|k_seq<|k_draw<|sP4 (pB xp 0)<|sP (pB xp 2)<|sL (t_load 4 lx)<|sL (t_loadA 2 (vc (hmakeV st 4)))<|s_buildSlice (e:=71) [(0,.agg (vc (hmakeV st 4)))] (vc (hmakeV st 4)) (fun g3=>?_) (hb:=by kernel_rfl)
 refine s_append (L:=L) 6 VlT_ok Tryz.underlying28 (.lit 0 VlT_ok [(hmakeV st 4)]) (by show _*48≤_;(try simp only[lnm]);omega) ol (fun v4=>?_);refine sF 6 (fun hf5=>?_);refine sP2 (pB xp 0)<|sP (pB xp 2)<|s_store (u:=v4) (m:=1) 5 #[pB hb 0,pB gb 0,v4,pB b 0,pB p 0,rx] ?_ (hm:=by (obtain⟨_,_,e⟩:=hf5;rw[e];rfl)) (h1:=by (obtain⟨_,_,e⟩:=hf5;rw[e];rfl)) (ha':=by (obtain⟨_,_,e⟩:=hf5;rw[e];rfl))
 refine s_nil<|x_dynS (fun _ h=>by kernel_rfl) ?_
 refine xs_then<|k_draw<|sP3 (pB xp 0)<|sP (pB xp 5)<|sL (t_load 5 rx)<|sP (pB g1 4)<|sL (t_load 3 (iw ((hmakeV st 4).ref)))<|s_buildSlice (e:=3) [(0,iw ((hmakeV st 4).ref))] #[iw ((hmakeV st 4).ref)] (fun g6=>?_) (hb:=by kernel_rfl)
 refine s_append (L:=R) 8 iTy_ok Tryz.underlying23 (.lit 0 iTy_ok [(hmakeV st 4).ref]) (by show _*8≤_;(try simp only[lnm]);omega) ol (fun v7=>?_);refine sF 8 (fun hf8=>?_);refine sP (pB xp 0)<|sP (pB xp 5)<|s_store (u:=v7) (m:=1) 6 #[pB hb 0,pB gb 0,v4,pB b 0,pB p 0,v7] ?_ (hm:=by (obtain⟨_,_,e⟩:=hf8;rw[e];rfl)) (h1:=by (obtain⟨_,_,e⟩:=hf8;rw[e];rfl)) (ha':=by (obtain⟨_,_,e⟩:=hf8;rw[e];rfl))
 refine s_nil<|x_dynS (fun _ h=>by kernel_rfl) ?_
 refine xs_then<|k_seq<|k_held [blkA g6 #[iw ((hmakeV st 4).ref)] 3,blkA g3 (vc (hmakeV st 4)) 71,blkA g2 (vc (hmakeV st 4)) 71,blkA g1 (vc (hmakeV st 4)) 71,blkA xp #[pB hb 0,pB gb 0,v4,pB b 0,pB p 0,v7] 34] ?_
 refine hp_ 0 [0,0,0,1,2] (pB xp 0) ?_;refine hp_ 1 [0,0,0,1,2] (pB xp 0) ?_;refine hp_ 2 [0,0,0,1,2] (pB xp 3) ?_;refine h_l 3 rfl [0,0,0,1,2] (fun _=>(t_load 4 (pB b 0))) ?_;refine hp_ 4 [0,0,0,1,2] (pB g1 4) ?_;refine h_l 5 rfl [0,0,0,1,2] (fun _=>(t_load 3 (iw ((hmakeV st 4).ref)))) ?_;refine hp_ 7 [0,0,0,1,2] (pB xp 0) ?_;refine hp_ 8 [0,0,0,1,2] (pB xp 0) ?_;refine hp_ 9 [0,0,0,1,2] (pB xp 4) ?_;refine h_l 10 rfl [0,0,0,1,2] (fun _=>(t_load 4 (pB p 0))) ?_;refine hp_ 11 [0,0,0,1,2] (pB g1 4) ?_;refine h_l 12 rfl [0,0,0,1,2] (fun _=>(t_load 3 (iw ((hmakeV st 4).ref)))) ?_;refine h_stepS 6 ?_;refine sC [9,5] (cbirth_s (st:=(hmake st (newO 4 0 eb []))) (s:=s) hcm om ((hmakeV st 4).ref)) ?_;refine nH [2,2,2,3,3]<|h_stepS 13 ?_
 refine sC [10,5] (rbirth_s (st:=(hmake st (newO 4 0 eb []))) (s:=s) hcm om ((hmakeV st 4).ref)) ?_;refine nH [4,4,4,4,4]<|h_l 14 rfl [4,4,4,4,4] (fun _=>(Lt.to t_cmp (cB (decide_eq_true rfl:(decide ((aliE (hmake st (newO 4 0 eb [])) ((hmakeV st 4).ref))=(aliE (hmake st (newO 4 0 eb [])) ((hmakeV st 4).ref))))=true)))) ?_
 refine hp_ 15 [4,4,4,4,4] (.bool true) ?_;refine h_doneS ?_;refine xs_then<|k_ret ?_
 exact xs_fin [.bool true] (blkA xp #[ptrV hb,ptrV gb,v4,ptrV b,ptrV p,v7] 34::own VlT v4 (L++[refV 4 ((st.objs.length:Int)+1)])::own iTy v7 (R++[((st.objs.length:Int)+1)])::coS b q hb (brt (hmake st tbN) s ((st.objs.length:Int)+1))::hpA hb (hmake st tbN)::rcS p gb rq (brt (hmake st tbN) s ((st.objs.length:Int)+1))::rhA gb (hmake st tbN)::F) (SI.tmp 2 SI.nil) (fun _ h=>by rw[(make_v hci om).1]at h;exact h.re [8,8,8,2,2,0,0] [7,7,7,7]) ⟨v4,v7,rfl,rfl⟩
theorem pstep0_s{Z:Zone}{F:List Asr}{xp hb gb b p q rq N:Nat}{lx rx sv:Value}{st:Hst}{L:List Vl}{R:List Int}{s:Cst}(hci:CI N st s)(hN:N≤299)(hll:L.length≤300)(hR:R.length≤9000){n a d:Int}:SF Tryz.prog 11 #[.pointer (some ⟨xp,0,none⟩),.agg #[iw 0,iw n,iw a,iw d,sv]] Z (blkA xp #[ptrV hb,ptrV gb,lx,ptrV b,ptrV p,rx] 34::own VlT lx L::own iTy rx R::coS b q hb s::hpA hb st::rcS p gb rq s::rhA gb st::F) fun r Bs=>r=.bool true∧Bs=blkA xp #[ptrV hb,ptrV gb,lx,ptrV b,ptrV p,rx] 34::own VlT lx L::own iTy rx R::coS b q hb ((work (uns n) st R s).2.1)::hpA hb ((work (uns n) st R s).1)::rcS p gb rq ((work (uns n) st R s).2.1)::rhA gb ((work (uns n) st R s).1)::F:=by
 refine sf_enter Tryz.func11 151 [(0,pB xp 0),(1,.agg #[iw 0,iw n,iw a,iw d,sv])] (fun w0=>?_);refine k_sr<|s_box #[iw 0,iw n,iw a,iw d,sv] (fun g1=>?_)
 refine sP (.bool false)<|s_nt<|k_seq<|k_sr<|sP (pB g1 0)<|sL (t_load 0 (iw 0))<|s_nt<|k_block<|k_sr<|sL (t_cmp (c:=true))<|sP (.bool true)<|s_nt<|k_true<|k_sr<|sP (pB g1 1)<|sL (t_load 0 (iw n))<|sL t_max<|sL (Lt.to (v':=iw (cl3 n)) t_min rfl)<|sP (iw (cl3 n))<|s_nt<|k_seq<|k_held [blkA g1 #[iw 0,iw n,iw a,iw d,sv] 39,blkA xp #[pB hb 0,pB gb 0,lx,pB b 0,pB p 0,rx] 34] ?_
 refine hp_ 0 [0,0] (pB xp 0) ?_;refine hp_ 1 [0,0] (pB xp 0) ?_;refine hp_ 2 [0,0] (pB xp 3) ?_;refine h_l 3 rfl [0,0] (fun _=>(t_load 1 (pB b 0))) ?_;refine hp_ 4 [0,0] (iw (cl3 n)) ?_;refine hp_ 5 [0,0] (pB xp 0) ?_;refine hp_ 6 [0,0] (pB xp 0) ?_;refine hp_ 7 [0,0] (pB xp 5) ?_;refine h_l 8 rfl [0,0] (fun _=>(t_load 1 rx)) ?_;refine hp_ 10 [0,0] (pB xp 0) ?_;refine hp_ 11 [0,0] (pB xp 0) ?_;refine hp_ 12 [0,0] (pB xp 4) ?_;refine h_l 13 rfl [0,0] (fun _=>(t_load 1 (pB p 0))) ?_;refine hp_ 14 [0,0] (iw (cl3 n)) ?_;refine hp_ 15 [0,0] (pB xp 0) ?_;refine hp_ 16 [0,0] (pB xp 0) ?_;refine hp_ 17 [0,0] (pB xp 5) ?_;refine h_l 18 rfl [0,0] (fun _=>(t_load 1 rx)) ?_;refine h_stepS 9 ?_;refine sC [3,3,3] (cwork_s (st0:=st) (s0:=s) (R:=R) (cl3 n) (cl3_le n) hci om hR) ?_;refine nH [3,3]<|h_stepS 19 ?_
 refine sC [0,5,5] (rwork_s (st0:=st) (s0:=s) (R:=R) (cl3 n) (cl3_le n) hci om hR) ?_;refine nH [5,5]<|h_l 20 rfl [5,5] (fun _=>(Lt.to t_cmp (cB (decide_eq_true rfl:(decide (((work ((cl3 n)).toNat st R s).2.2:Int)=((work ((cl3 n)).toNat st R s).2.2:Int)))=true)))) ?_
 refine hp_ 21 [5,5] (.bool true) ?_;refine h_doneS ?_;refine xs_then<|k_ret<|xs_retBlock<|xs_ret ?_
 exact xs_fin [.bool true] (blkA xp #[ptrV hb,ptrV gb,lx,ptrV b,ptrV p,rx] 34::own VlT lx L::own iTy rx R::coS b q hb ((work (uns n) st R s).2.1)::hpA hb ((work (uns n) st R s).1)::rcS p gb rq ((work (uns n) st R s).2.1)::rhA gb ((work (uns n) st R s).1)::F) (SI.tmp 4 SI.nil) (rr [6,6,0,2,2,0,0] [7]) ⟨rfl,rfl⟩
theorem pstep1_s{Z:Zone}{F:List Asr}{xp hb gb b p q rq N:Nat}{lx rx sv:Value}{st:Hst}{L:List Vl}{R:List Int}{s:Cst}(hci:CI N st s)(hN:N≤299)(hll:L.length≤300)(hR:R.length≤9000){n a d:Int}(ha:halive st (vid L a)=true)(hd:halive st (vid L d)=true):SF Tryz.prog 11 #[.pointer (some ⟨xp,0,none⟩),.agg #[iw 1,iw n,iw a,iw d,sv]] Z (blkA xp #[ptrV hb,ptrV gb,lx,ptrV b,ptrV p,rx] 34::own VlT lx L::own iTy rx R::coS b q hb s::hpA hb st::rcS p gb rq s::rhA gb st::F) fun r Bs=>r=.bool true∧Bs=blkA xp #[ptrV hb,ptrV gb,lx,ptrV b,ptrV p,rx] 34::own VlT lx L::own iTy rx R::coS b q hb (wrt (hset st (refV 4 (vid L a)) (numV (Int.tmod (mx0 n) 3)) (vat L d)) s (vid L a) (vid L d))::hpA hb (hset st (refV 4 (vid L a)) (numV (Int.tmod (mx0 n) 3)) (vat L d))::rcS p gb rq (wrt (hset st (refV 4 (vid L a)) (numV (Int.tmod (mx0 n) 3)) (vat L d)) s (vid L a) (vid L d))::rhA gb (hset st (refV 4 (vid L a)) (numV (Int.tmod (mx0 n) 3)) (vat L d))::F:=by
 refine sf_enter Tryz.func11 151 [(0,pB xp 0),(1,.agg #[iw 1,iw n,iw a,iw d,sv])] (fun w0=>?_);refine k_sr<|s_box #[iw 1,iw n,iw a,iw d,sv] (fun g1=>?_)
 refine sP (.bool false)<|s_nt<|k_seq<|k_sr<|sP (pB g1 0)<|sL (t_load 0 (iw 1))<|s_nt<|k_block<|k_sr<|sL (t_cmp (c:=false))<|sP (.bool false)<|s_nt<|k_false<|k_sr<|sL (t_cmp (c:=true))<|sP (.bool true)<|s_nt<|k_true<|k_sr<|sP (pB g1 1)<|sL (t_load 0 (iw n))<|sL (Lt.to (v':=iw (mx0 n)) t_max rfl)<|sP (pB g1 1)<|s_store 0 #[iw 1,iw (mx0 n),iw a,iw d,sv] ?_
 refine s_nr<|sP (pB xp 0)<|sL (t_loadA 0 #[iw 1,iw (mx0 n),iw a,iw d,sv])<|sC [1,1,1,1,1,1,1] (pwrite_s (n:=mx0 n) hci hN hll hR ha hd) ?_
 refine sP (.bool true)<|s_nt<|k_ret<|xs_retBlock<|xs_ret ?_
 exact xs_fin [.bool true] (blkA xp #[ptrV hb,ptrV gb,lx,ptrV b,ptrV p,rx] 34::own VlT lx L::own iTy rx R::coS b q hb (wrt (hset st (refV 4 (vid L a)) (numV (Int.tmod (mx0 n) 3)) (vat L d)) s (vid L a) (vid L d))::hpA hb (hset st (refV 4 (vid L a)) (numV (Int.tmod (mx0 n) 3)) (vat L d))::rcS p gb rq (wrt (hset st (refV 4 (vid L a)) (numV (Int.tmod (mx0 n) 3)) (vat L d)) s (vid L a) (vid L d))::rhA gb (hset st (refV 4 (vid L a)) (numV (Int.tmod (mx0 n) 3)) (vat L d))::F) (SI.tmp 4 SI.nil) (rr [0,0,0,0,0,0,0] [7]) ⟨rfl,rfl⟩
theorem pstep2_s{Z:Zone}{F:List Asr}{xp hb gb b p q rq N:Nat}{lx rx sv:Value}{st:Hst}{L:List Vl}{R:List Int}{s:Cst}(hci:CI N st s)(hN:N≤299)(hll:L.length≤300)(hR:R.length≤9000){n a d:Int}:SF Tryz.prog 11 #[.pointer (some ⟨xp,0,none⟩),.agg #[iw 2,iw n,iw a,iw d,sv]] Z (blkA xp #[ptrV hb,ptrV gb,lx,ptrV b,ptrV p,rx] 34::own VlT lx L::own iTy rx R::coS b q hb s::hpA hb st::rcS p gb rq s::rhA gb st::F) fun r Bs=>∃lx2 rx2,r=.bool true∧Bs=blkA xp #[ptrV hb,ptrV gb,lx2,ptrV b,ptrV p,rx2] 34::own VlT lx2 (L++[refV 4 ((st.objs.length:Int)+1)])::own iTy rx2 (R++[((st.objs.length:Int)+1)])::coS b q hb (brt (hmake st tbN) s ((st.objs.length:Int)+1))::hpA hb (hmake st tbN)::rcS p gb rq (brt (hmake st tbN) s ((st.objs.length:Int)+1))::rhA gb (hmake st tbN)::F:=by
 refine sf_enter Tryz.func11 151 [(0,pB xp 0),(1,.agg #[iw 2,iw n,iw a,iw d,sv])] (fun w0=>?_);refine k_sr<|s_box #[iw 2,iw n,iw a,iw d,sv] (fun g1=>?_)
 refine sP (.bool false)<|s_nt<|k_seq<|k_sr<|sP (pB g1 0)<|sL (t_load 0 (iw 2))<|s_nt<|k_block<|k_sr<|sL (t_cmp (c:=false))<|sP (.bool false)<|s_nt<|k_false<|k_sr<|sL (t_cmp (c:=false))<|sP (.bool false)<|s_nt<|k_false<|k_sr<|sL (t_cmp (c:=true))<|sP (.bool true)<|s_nt<|k_true<|k_sr<|sP (pB xp 0)<|s_call [1,1,1,1,1,1,1] (pcreate_s hci hN hll hR) ?_
 rintro _ _ ⟨lx2,rx2,rfl,rfl⟩;refine sP (.bool true)<|s_nt<|k_ret<|xs_retBlock<|xs_ret ?_
 exact xs_fin [.bool true] (blkA xp #[ptrV hb,ptrV gb,lx2,ptrV b,ptrV p,rx2] 34::own VlT lx2 (L++[refV 4 ((st.objs.length:Int)+1)])::own iTy rx2 (R++[((st.objs.length:Int)+1)])::coS b q hb (brt (hmake st tbN) s ((st.objs.length:Int)+1))::hpA hb (hmake st tbN)::rcS p gb rq (brt (hmake st tbN) s ((st.objs.length:Int)+1))::rhA gb (hmake st tbN)::F) (SI.tmp 4 SI.nil) (rr [0,0,0,0,0,0,0] [7]) ⟨lx2,rx2,rfl,rfl⟩
theorem pstep3_s{Z:Zone}{F:List Asr}{xp hb gb b p q rq N:Nat}{lx rx sv:Value}{st:Hst}{L:List Vl}{R:List Int}{s:Cst}(hci:CI N st s)(hN:N≤299)(hll:L.length≤300)(hR:R.length≤9000){n a d:Int}:SF Tryz.prog 11 #[.pointer (some ⟨xp,0,none⟩),.agg #[iw 3,iw n,iw a,iw d,sv]] Z (blkA xp #[ptrV hb,ptrV gb,lx,ptrV b,ptrV p,rx] 34::own VlT lx L::own iTy rx R::coS b q hb s::hpA hb st::rcS p gb rq s::rhA gb st::F) fun r Bs=>r=.bool true∧Bs=blkA xp #[ptrV hb,ptrV gb,lx,ptrV b,ptrV p,rx] 34::own VlT lx L::own iTy rx R::coS b q hb (rgs st s (vid L a))::hpA hb st::rcS p gb rq (rgs st s (vid L a))::rhA gb st::F:=by
 refine sf_enter Tryz.func11 151 [(0,pB xp 0),(1,.agg #[iw 3,iw n,iw a,iw d,sv])] (fun w0=>?_);refine k_sr<|s_box #[iw 3,iw n,iw a,iw d,sv] (fun g1=>?_)
 refine sP (.bool false)<|s_nt<|k_seq<|k_sr<|sP (pB g1 0)<|sL (t_load 0 (iw 3))<|s_nt<|k_block<|k_sr<|sL (t_cmp (c:=false))<|sP (.bool false)<|s_nt<|k_false<|k_sr<|sL (t_cmp (c:=false))<|sP (.bool false)<|s_nt<|k_false<|k_sr<|sL (t_cmp (c:=false))<|sP (.bool false)<|s_nt<|k_false<|k_sr<|sL (t_cmp (c:=true))<|sP (.bool true)<|s_nt<|k_true<|k_seq<|k_held [blkA g1 #[iw 3,iw n,iw a,iw d,sv] 39,blkA xp #[pB hb 0,pB gb 0,lx,pB b 0,pB p 0,rx] 34] ?_
 refine hp_ 0 [0,0] (pB xp 0) ?_;refine hp_ 1 [0,0] (pB xp 0) ?_;refine hp_ 2 [0,0] (pB xp 3) ?_;refine h_l 3 rfl [0,0] (fun _=>(t_load 1 (pB b 0))) ?_;refine hp_ 4 [0,0] (pB xp 0) ?_;refine hp_ 5 [0,0] (pB g1 2) ?_;refine h_l 6 rfl [0,0] (fun _=>(t_load 0 (iw a))) ?_;refine hp_ 9 [0,0] (pB xp 0) ?_;refine hp_ 10 [0,0] (pB xp 0) ?_;refine hp_ 11 [0,0] (pB xp 4) ?_;refine h_l 12 rfl [0,0] (fun _=>(t_load 1 (pB p 0))) ?_;refine hp_ 13 [0,0] (pB xp 0) ?_;refine hp_ 14 [0,0] (pB g1 2) ?_;refine h_l 15 rfl [0,0] (fun _=>(t_load 0 (iw a))) ?_;refine h_stepS 7 ?_;refine sC [1,1] (pid_s (L:=L) om a) ?_;refine nH [2,0]<|h_stepS 8 ?_
 refine sC [4,4] (creg_s (st:=st) (s:=s) hci om (vid L a)) ?_;refine nH [4,2]<|h_stepS 16 ?_
 refine sC [2,2] (pid_s (L:=L) om a) ?_;refine nH [4,0]<|h_stepS 17 ?_
 refine sC [6,6] (rreg_s (st:=st) (s:=s) hci om (vid L a)) ?_;refine nH [6,2]<|h_l 18 rfl [6,2] (fun _=>(Lt.to t_cmp (cB (decide_eq_true rfl:(decide ((regE st s (vid L a))=(regE st s (vid L a))))=true)))) ?_
 refine hp_ 19 [6,2] (.bool true) ?_;refine h_doneS ?_;refine xs_then<|k_ret<|xs_retBlock<|xs_ret ?_
 exact xs_fin [.bool true] (blkA xp #[ptrV hb,ptrV gb,lx,ptrV b,ptrV p,rx] 34::own VlT lx L::own iTy rx R::coS b q hb (rgs st s (vid L a))::hpA hb st::rcS p gb rq (rgs st s (vid L a))::rhA gb st::F) (SI.tmp 4 SI.nil) (rr [2,2,5,2,2,0,0] [7]) ⟨rfl,rfl⟩
theorem pstep_s{Z:Zone}{F:List Asr}{xp hb gb b p q rq N:Nat}{lx rx sv:Value}{st:Hst}{L:List Vl}{R:List Int}{s:Cst}(hci:CI N st s)(hN:N≤299)(hll:L.length≤300)(hR:R.length≤9000){k n a d:Int}(hk:0≤k∧k≤3)(hab:k=1→halive st (vid L a)=true∧halive st (vid L d)=true):SF Tryz.prog 11 #[.pointer (some ⟨xp,0,none⟩),.agg #[iw k,iw n,iw a,iw d,sv]] Z (blkA xp #[ptrV hb,ptrV gb,lx,ptrV b,ptrV p,rx] 34::own VlT lx L::own iTy rx R::coS b q hb s::hpA hb st::rcS p gb rq s::rhA gb st::F) fun r Bs=>∃lx2 rx2,r=.bool true∧Bs=blkA xp #[ptrV hb,ptrV gb,lx2,ptrV b,ptrV p,rx2] 34::own VlT lx2 (pstL k st L)::own iTy rx2 (pstR k st R)::coS b q hb (pstC k n a d st L R s)::hpA hb (pstH k n a d st L R s)::rcS p gb rq (pstC k n a d st L R s)::rhA gb (pstH k n a d st L R s)::F:=by
 obtain rfl|rfl|rfl|rfl:k=0∨k=1∨k=2∨k=3:=by omega
 .exact (pstep0_s hci hN hll hR).mono fun r Bs h=>⟨lx,rx,h.1,h.2⟩
 .exact (pstep1_s hci hN hll hR (hab rfl).1 (hab rfl).2).mono fun r Bs h=>⟨lx,rx,h.1,h.2⟩
 .exact pstep2_s hci hN hll hR
 exact (pstep3_s hci hN hll hR).mono fun r Bs h=>⟨lx,rx,h.1,h.2⟩
theorem phas_s{Z:Zone}{lv:Value}{L:List Int}(hL:Kn Z iTy lv L)(n:Int):SF Tryz.prog 20 #[lv,iw n] Z [] fun r Bs=>r=.bool (decide (n∈L))∧Bs=[]:=by
 refine sf_enter Tryz.func20 18 [(0,lv),(1,iw n)] (fun w0=>?_);refine k_fact (fun H h=>(hL.get h).len_le) (fun lA=>?_);refine k_sr<|sP (.bool false)<|s_nt<|k_seq<|k_sr<|sP (iw 0)<|s_nt<|k_block<|k_loop (ι:=Nat) (fun i=>i≤L.length∧n∉L.take i) (fun i=>[(0,lv),(1,iw n),(5,iw (i:Int))]) (fun i=>[]) (fun i=>L.length-i) 0 ⟨Nat.zero_le _,by simp⟩ sA (rr [] []) ?_
 rintro i hi1;show SK _ _ _ _ _ [(0,lv),(1,iw n),(5,iw (i:Int))] _ [];refine k_seq<|k_sr<|sP (iw (i:Int))<|sP lv<|sL (t_len iTy_ok Tryz.underlying23 (.zn hL))<|sL t_cmp<|s_nt<|k_cond (decide ((i:Int)<(L.length:Int))) (fun c2=>?_) (fun c2=>?_)
 .have p3:=dY c2;refine k_st<|k_seq<|k_block<|k_sr<|sP lv<|sP (iw (i:Int))<|sL (t_index iTy_ok Tryz.underlying23 (.zn hL) (i:Int) i om ol om) ?_
  obtain⟨y4,hy5⟩:∃y,L[i]?=some y:=⟨_,List.getElem?_eq_getElem ol⟩;refine sL (t_loadE iTy_ok (.zn hL) hy5)<|sP (iw n)<|sL t_cmp<|s_nt<|k_cond (decide (y4=n)) (fun c6=>?_) (fun c6=>?_)
  .have p7:=dY c6;refine k_sr<|sP (.bool true)<|s_nt<|k_ret<|xs_retBlock<|xs_ret<|xs_ret<|xs_retBlock<|xs_ret<|xs_fin [.bool true] [] (SI.tmp 4 SI.nil) (rr [] []) ⟨cB ?_,rfl⟩
   exact (decide_eq_true (by rw[←p7];exact List.mem_of_getElem? hy5)).symm
  have p8:=dF c6;refine k_skip<|xs_block<|xs_then<|k_reg<|sP (iw (i:Int))<|sL (t_add (i:Int) 1 ol)<|sP (iw ((i:Int)+1))<|s_nil ?_
  exact xs_round (i+1) om (by obtain⟨hi1,hi2⟩:=hi1;refine⟨by omega,?_⟩;rw[←take_snoc hy5,List.mem_append,List.mem_singleton];rintro (h|h);exact hi2 h;exact p8 h.symm) sA (rr [] [])
 have p9:=dF c2;refine k_exit<|xs_exit<|xs_exit<|xs_here<|xs_then<|k_sr<|sP (.bool false)<|s_nt<|k_ret<|xs_fin [.bool false] [] (SI.tmp 4 SI.nil) (rr [] []) ⟨cB ?_,rfl⟩
 exact (decide_eq_false (by have h:=hi1.2;rwa [List.take_of_length_le om]at h)).symm
theorem pdrop_s{Z:Zone}{F:List Asr}{xp hb gb b p q:Nat}{lx rx:Value}{R:List Int}{s:Cst}(hR:R.length≤9000)(i:Int):SF Tryz.prog 30 #[.pointer (some ⟨xp,0,none⟩),iw i] Z (blkA xp #[ptrV hb,ptrV gb,lx,ptrV b,ptrV p,rx] 34::own iTy rx R::coS b q hb s::F) fun r Bs=>∃rx2,Bs=blkA xp #[ptrV hb,ptrV gb,lx,ptrV b,ptrV p,rx2] 34::own iTy rx2 (drpR R i s.ph)::coS b q hb s::F:=by
 refine sf_enter Tryz.func30 47 [(0,pB xp 0),(1,iw i)] (fun w0=>?_);refine k_sr<|sP2 (pB xp 0)<|sP (pB xp 5)<|sL (t_load 0 rx)<|sL (t_len iTy_ok Tryz.underlying23 (.own 1))<|sP (iw (R.length:Int))<|s_nt<|k_cut (ι:=Unit) (fun _=>True) (fun _=>[(0,pB xp 0),(1,iw i),(4,iw (R.length:Int)),(24,.bool ((decide ((0:Int)<(R.length:Int)))&&((decide ((0:Int)≤i))&&(decide (s.ph=0)))))]) (fun _=>blkA xp #[pB hb 0,pB gb 0,lx,pB b 0,pB p 0,rx] 34::own iTy rx R::coA b q hb s.ph s.col s.Q s.L s.Fr s.G s.P::F) ?_ (fun _ _=>?_)
 .refine k_reg<|sP (iw (R.length:Int))<|sL t_cmp<|sP (.bool (decide ((0:Int)<(R.length:Int))))<|s_fork 13 (decide ((0:Int)<(R.length:Int))) (fun c1=>?_) (fun c1=>?_)
  .have p2:=dY c1;refine sP (iw i)<|sL t_cmp<|sP2 (.bool (decide ((0:Int)≤i)))<|s_fork 17 (decide ((0:Int)≤i)) (fun c3=>?_) (fun c3=>?_)
   .have p4:=dY c3;refine sP2 (pB xp 0)<|sP (pB xp 3)<|sL (t_load 0 (pB b 0))<|sC [2] (cphase_s) ?_
    refine sL t_cmp<|sP (.bool (decide (s.ph=0)))<|s_nil ?_
    exact xs_cut () trivial (sub_of rfl (rQ (rQ (rQ ⟨⟨rfl,show Value.bool (decide (s.ph=0))=Value.bool ((decide ((0:Int)<(R.length:Int)))&&((decide ((0:Int)≤i))&&(decide (s.ph=0)))) by first|(simp only[c1,c3,bls];done)|simp[c1,c3]⟩,trivial⟩)))) (rr [1,1,0] [])
   have p5:=dF c3;refine sK<|sK<|sK<|sK<|sK<|sK<|sP (.bool false)<|s_nil ?_
   exact xs_cut () trivial (sub_of rfl (rQ (rQ (rQ ⟨⟨rfl,show Value.bool false=Value.bool ((decide ((0:Int)<(R.length:Int)))&&((decide ((0:Int)≤i))&&(decide (s.ph=0)))) by first|(simp only[c1,c3,bls];done)|simp[c1,c3]⟩,trivial⟩)))) (rr [0,0,0] [])
  have p6:=dF c1;refine sK<|sK<|sP2 (.bool false)<|sK<|sK<|sK<|sK<|sK<|sK<|sP (.bool false)<|s_nil ?_
  exact xs_cut () trivial (sub_of rfl (rQ (rQ (rQ ⟨⟨rfl,show Value.bool false=Value.bool ((decide ((0:Int)<(R.length:Int)))&&((decide ((0:Int)≤i))&&(decide (s.ph=0)))) by first|(simp only[c1,bls];done)|simp[c1]⟩,trivial⟩)))) (rr [0,0,0] [])
 refine k_cond ((decide ((0:Int)<(R.length:Int)))&&((decide ((0:Int)≤i))&&(decide (s.ph=0)))) (fun c7=>?_) (fun c7=>?_)
 .obtain ⟨c8,c9⟩:=and_t c7;have p10:=dY c8;obtain⟨c11,c12⟩:=and_t c9;have p13:=dY c11;have p14:=dY c12;refine k_sr<|sP (iw i)<|sP (iw (R.length:Int)) ?_
  obtain⟨htm1,htm2⟩:=tmod_ge (a:=i) (n:=R.length) om om;refine sL (t_rem i (R.length:Int) om)<|sP (iw (Int.tmod i (R.length:Int)))<|s_nt<|k_held [own iTy rx R] ?_
  refine hp_ 0 [1] (pB xp 0) ?_;refine hp_ 2 [1] (pB xp 0) ?_;refine hp_ 3 [1] (pB xp 0) ?_;refine hp_ 4 [1] (pB xp 5) ?_;refine hp_ 6 [1] (iw (Int.tmod i (R.length:Int))) ?_;refine hp_ 9 [1] (pB xp 0) ?_;refine hp_ 10 [1] (pB xp 0) ?_;refine hp_ 11 [1] (pB xp 5) ?_;refine hp_ 13 [1] (iw (Int.tmod i (R.length:Int))) ?_;refine h_l 14 rfl [1] (fun _=>(t_add (Int.tmod i (R.length:Int)) 1 ol)) ?_;refine h_stepS3 1 5 12 ?_ ?_ ?_
  .refine s_buildSlice (e:=3) [] #[] (fun g16=>?_) (hb:=by kernel_rfl);refine nH [2]<|h_stepS2 5 12 ?_ ?_
   .refine sL (t_load 1 rx)<|nH [2]<|h_l 7 rfl [2] (fun _=>(t_pre iTy_ok Tryz.underlying23 (.own 0) (Int.tmod i (R.length:Int)) (((Int.tmod i (R.length:Int))).toNat) om ol om)) ?_
    refine h_stepS2 8 12 ?_ ?_
    .refine s_mem (fun _ h=>Holds.slice 0 h iTy_ok []) ?_;refine s_append (L:=[]) 0 iTy_ok Tryz.underlying23 (Acc.pre (.own 2) iTy_ok (((Int.tmod i (R.length:Int))).toNat) ol) (by show _*8≤_;(try simp only[lnm]);omega) ol (fun v19=>?_);refine s_fact (fun H h=>((Acc.own (T:=iTy) (L:=([]++(R.take (((Int.tmod i (R.length:Int))).toNat)))) 0 rfl) H h).form) (fun hf20=>?_);refine nH [2]<|h_stepS 12 ?_
     refine sL (t_load 1 rx)<|nH [2]<|h_l 15 rfl [2] (fun _=>(t_suf iTy_ok Tryz.underlying23 (.own 0) ((Int.tmod i (R.length:Int))+1) ((((Int.tmod i (R.length:Int))+1)).toNat) om ol om)) ?_
     refine h_stepS 16 ?_;refine s_append (L:=([]++(R.take (((Int.tmod i (R.length:Int))).toNat)))) 0 iTy_ok Tryz.underlying23 (Acc.suf (v:=rx) (L:=R) (.own 2) iTy_ok ((((Int.tmod i (R.length:Int))+1)).toNat) ol) (by show _*8≤_;(try simp only[lnm]);omega) ol (fun v21=>?_);refine s_fact (fun H h=>((Acc.own (T:=iTy) (L:=(([]++(R.take (((Int.tmod i (R.length:Int))).toNat)))++(R.drop ((((Int.tmod i (R.length:Int))+1)).toNat)))) 0 rfl) H h).form) (fun hf22=>?_);refine nH [2]<|hp_ 17 [2] (pB xp 0) ?_
     refine hp_ 18 [2] (pB xp 5) ?_;refine h_stepS 19 ?_;refine s_store (u:=v21) (m:=1) 1 #[pB hb 0,pB gb 0,lx,pB b 0,pB p 0,v21] ?_ (hm:=by (obtain⟨_,_,e⟩:=hf22;rw[e];rfl)) (h1:=by (obtain⟨_,_,e⟩:=hf22;rw[e];rfl)) (ha':=by (obtain⟨_,_,e⟩:=hf22;rw[e];rfl));refine nH [2]<|h_doneS ?_
     have hdr:drpR R i s.ph=(([]++(R.take (((Int.tmod i (R.length:Int))).toNat)))++(R.drop ((((Int.tmod i (R.length:Int))+1)).toNat))):=by unfold drpR;rw[if_pos (show (0<R.length∧0≤i∧s.ph=0) by omega)]
     exact xs_finN [] (blkA xp #[ptrV hb,ptrV gb,lx,ptrV b,ptrV p,v21] 34::own iTy v21 (drpR R i s.ph)::coS b q hb s::F) SI.nil (fun _ h=>by rw[hdr];exact h.re [1,0,1] [3]) ⟨v21,rfl⟩
    refine sL (t_load 1 rx)<|nH [2]<|h_l 15 rfl [2] (fun _=>(t_suf iTy_ok Tryz.underlying23 (.own 0) ((Int.tmod i (R.length:Int))+1) ((((Int.tmod i (R.length:Int))+1)).toNat) om ol om)) ?_
    refine h_stepS 8 ?_;refine s_mem (fun _ h=>Holds.slice 0 h iTy_ok []) ?_;refine s_append (L:=[]) 0 iTy_ok Tryz.underlying23 (Acc.pre (.own 2) iTy_ok (((Int.tmod i (R.length:Int))).toNat) ol) (by show _*8≤_;(try simp only[lnm]);omega) ol (fun v23=>?_);refine s_fact (fun H h=>((Acc.own (T:=iTy) (L:=([]++(R.take (((Int.tmod i (R.length:Int))).toNat)))) 0 rfl) H h).form) (fun hf24=>?_);refine nH [2]<|h_stepS 16 ?_
    refine s_append (L:=([]++(R.take (((Int.tmod i (R.length:Int))).toNat)))) 0 iTy_ok Tryz.underlying23 (Acc.suf (v:=rx) (L:=R) (.own 2) iTy_ok ((((Int.tmod i (R.length:Int))+1)).toNat) ol) (by show _*8≤_;(try simp only[lnm]);omega) ol (fun v25=>?_);refine s_fact (fun H h=>((Acc.own (T:=iTy) (L:=(([]++(R.take (((Int.tmod i (R.length:Int))).toNat)))++(R.drop ((((Int.tmod i (R.length:Int))+1)).toNat)))) 0 rfl) H h).form) (fun hf26=>?_);refine nH [2]<|hp_ 17 [2] (pB xp 0) ?_
    refine hp_ 18 [2] (pB xp 5) ?_;refine h_stepS 19 ?_;refine s_store (u:=v25) (m:=1) 1 #[pB hb 0,pB gb 0,lx,pB b 0,pB p 0,v25] ?_ (hm:=by (obtain⟨_,_,e⟩:=hf26;rw[e];rfl)) (h1:=by (obtain⟨_,_,e⟩:=hf26;rw[e];rfl)) (ha':=by (obtain⟨_,_,e⟩:=hf26;rw[e];rfl));refine nH [2]<|h_doneS ?_
    have hdr:drpR R i s.ph=(([]++(R.take (((Int.tmod i (R.length:Int))).toNat)))++(R.drop ((((Int.tmod i (R.length:Int))+1)).toNat))):=by unfold drpR;rw[if_pos (show (0<R.length∧0≤i∧s.ph=0) by omega)]
    exact xs_finN [] (blkA xp #[ptrV hb,ptrV gb,lx,ptrV b,ptrV p,v25] 34::own iTy v25 (drpR R i s.ph)::coS b q hb s::F) SI.nil (fun _ h=>by rw[hdr];exact h.re [1,0,1] [3]) ⟨v25,rfl⟩
   refine sL (t_load 1 rx)<|nH [2]<|h_l 15 rfl [2] (fun _=>(t_suf iTy_ok Tryz.underlying23 (.own 0) ((Int.tmod i (R.length:Int))+1) ((((Int.tmod i (R.length:Int))+1)).toNat) om ol om)) ?_
   refine h_stepS 5 ?_;refine sL (t_load 1 rx)<|nH [2]<|h_l 7 rfl [2] (fun _=>(t_pre iTy_ok Tryz.underlying23 (.own 0) (Int.tmod i (R.length:Int)) (((Int.tmod i (R.length:Int))).toNat) om ol om)) ?_
   refine h_stepS 8 ?_;refine s_mem (fun _ h=>Holds.slice 0 h iTy_ok []) ?_;refine s_append (L:=[]) 0 iTy_ok Tryz.underlying23 (Acc.pre (.own 2) iTy_ok (((Int.tmod i (R.length:Int))).toNat) ol) (by show _*8≤_;(try simp only[lnm]);omega) ol (fun v27=>?_);refine s_fact (fun H h=>((Acc.own (T:=iTy) (L:=([]++(R.take (((Int.tmod i (R.length:Int))).toNat)))) 0 rfl) H h).form) (fun hf28=>?_);refine nH [2]<|h_stepS 16 ?_
   refine s_append (L:=([]++(R.take (((Int.tmod i (R.length:Int))).toNat)))) 0 iTy_ok Tryz.underlying23 (Acc.suf (v:=rx) (L:=R) (.own 2) iTy_ok ((((Int.tmod i (R.length:Int))+1)).toNat) ol) (by show _*8≤_;(try simp only[lnm]);omega) ol (fun v29=>?_);refine s_fact (fun H h=>((Acc.own (T:=iTy) (L:=(([]++(R.take (((Int.tmod i (R.length:Int))).toNat)))++(R.drop ((((Int.tmod i (R.length:Int))+1)).toNat)))) 0 rfl) H h).form) (fun hf30=>?_);refine nH [2]<|hp_ 17 [2] (pB xp 0) ?_
   refine hp_ 18 [2] (pB xp 5) ?_;refine h_stepS 19 ?_;refine s_store (u:=v29) (m:=1) 1 #[pB hb 0,pB gb 0,lx,pB b 0,pB p 0,v29] ?_ (hm:=by (obtain⟨_,_,e⟩:=hf30;rw[e];rfl)) (h1:=by (obtain⟨_,_,e⟩:=hf30;rw[e];rfl)) (ha':=by (obtain⟨_,_,e⟩:=hf30;rw[e];rfl));refine nH [2]<|h_doneS ?_
   have hdr:drpR R i s.ph=(([]++(R.take (((Int.tmod i (R.length:Int))).toNat)))++(R.drop ((((Int.tmod i (R.length:Int))+1)).toNat))):=by unfold drpR;rw[if_pos (show (0<R.length∧0≤i∧s.ph=0) by omega)]
   exact xs_finN [] (blkA xp #[ptrV hb,ptrV gb,lx,ptrV b,ptrV p,v29] 34::own iTy v29 (drpR R i s.ph)::coS b q hb s::F) SI.nil (fun _ h=>by rw[hdr];exact h.re [1,0,1] [3]) ⟨v29,rfl⟩
  .refine sL (t_load 0 rx)<|nH [1]<|h_l 7 rfl [1] (fun _=>(t_pre iTy_ok Tryz.underlying23 (.own 0) (Int.tmod i (R.length:Int)) (((Int.tmod i (R.length:Int))).toNat) om ol om)) ?_
   refine h_stepS2 1 12 ?_ ?_
   .refine s_buildSlice (e:=3) [] #[] (fun g34=>?_) (hb:=by kernel_rfl);refine nH [2]<|h_stepS2 8 12 ?_ ?_
    .refine s_mem (fun _ h=>Holds.slice 0 h iTy_ok []) ?_;refine s_append (L:=[]) 0 iTy_ok Tryz.underlying23 (Acc.pre (.own 2) iTy_ok (((Int.tmod i (R.length:Int))).toNat) ol) (by show _*8≤_;(try simp only[lnm]);omega) ol (fun v37=>?_);refine s_fact (fun H h=>((Acc.own (T:=iTy) (L:=([]++(R.take (((Int.tmod i (R.length:Int))).toNat)))) 0 rfl) H h).form) (fun hf38=>?_);refine nH [2]<|h_stepS 12 ?_
     refine sL (t_load 1 rx)<|nH [2]<|h_l 15 rfl [2] (fun _=>(t_suf iTy_ok Tryz.underlying23 (.own 0) ((Int.tmod i (R.length:Int))+1) ((((Int.tmod i (R.length:Int))+1)).toNat) om ol om)) ?_
     refine h_stepS 16 ?_;refine s_append (L:=([]++(R.take (((Int.tmod i (R.length:Int))).toNat)))) 0 iTy_ok Tryz.underlying23 (Acc.suf (v:=rx) (L:=R) (.own 2) iTy_ok ((((Int.tmod i (R.length:Int))+1)).toNat) ol) (by show _*8≤_;(try simp only[lnm]);omega) ol (fun v39=>?_);refine s_fact (fun H h=>((Acc.own (T:=iTy) (L:=(([]++(R.take (((Int.tmod i (R.length:Int))).toNat)))++(R.drop ((((Int.tmod i (R.length:Int))+1)).toNat)))) 0 rfl) H h).form) (fun hf40=>?_);refine nH [2]<|hp_ 17 [2] (pB xp 0) ?_
     refine hp_ 18 [2] (pB xp 5) ?_;refine h_stepS 19 ?_;refine s_store (u:=v39) (m:=1) 1 #[pB hb 0,pB gb 0,lx,pB b 0,pB p 0,v39] ?_ (hm:=by (obtain⟨_,_,e⟩:=hf40;rw[e];rfl)) (h1:=by (obtain⟨_,_,e⟩:=hf40;rw[e];rfl)) (ha':=by (obtain⟨_,_,e⟩:=hf40;rw[e];rfl));refine nH [2]<|h_doneS ?_
     have hdr:drpR R i s.ph=(([]++(R.take (((Int.tmod i (R.length:Int))).toNat)))++(R.drop ((((Int.tmod i (R.length:Int))+1)).toNat))):=by unfold drpR;rw[if_pos (show (0<R.length∧0≤i∧s.ph=0) by omega)]
     exact xs_finN [] (blkA xp #[ptrV hb,ptrV gb,lx,ptrV b,ptrV p,v39] 34::own iTy v39 (drpR R i s.ph)::coS b q hb s::F) SI.nil (fun _ h=>by rw[hdr];exact h.re [1,0,1] [3]) ⟨v39,rfl⟩
    refine sL (t_load 1 rx)<|nH [2]<|h_l 15 rfl [2] (fun _=>(t_suf iTy_ok Tryz.underlying23 (.own 0) ((Int.tmod i (R.length:Int))+1) ((((Int.tmod i (R.length:Int))+1)).toNat) om ol om)) ?_
    refine h_stepS 8 ?_;refine s_mem (fun _ h=>Holds.slice 0 h iTy_ok []) ?_;refine s_append (L:=[]) 0 iTy_ok Tryz.underlying23 (Acc.pre (.own 2) iTy_ok (((Int.tmod i (R.length:Int))).toNat) ol) (by show _*8≤_;(try simp only[lnm]);omega) ol (fun v41=>?_);refine s_fact (fun H h=>((Acc.own (T:=iTy) (L:=([]++(R.take (((Int.tmod i (R.length:Int))).toNat)))) 0 rfl) H h).form) (fun hf42=>?_);refine nH [2]<|h_stepS 16 ?_
    refine s_append (L:=([]++(R.take (((Int.tmod i (R.length:Int))).toNat)))) 0 iTy_ok Tryz.underlying23 (Acc.suf (v:=rx) (L:=R) (.own 2) iTy_ok ((((Int.tmod i (R.length:Int))+1)).toNat) ol) (by show _*8≤_;(try simp only[lnm]);omega) ol (fun v43=>?_);refine s_fact (fun H h=>((Acc.own (T:=iTy) (L:=(([]++(R.take (((Int.tmod i (R.length:Int))).toNat)))++(R.drop ((((Int.tmod i (R.length:Int))+1)).toNat)))) 0 rfl) H h).form) (fun hf44=>?_);refine nH [2]<|hp_ 17 [2] (pB xp 0) ?_
    refine hp_ 18 [2] (pB xp 5) ?_;refine h_stepS 19 ?_;refine s_store (u:=v43) (m:=1) 1 #[pB hb 0,pB gb 0,lx,pB b 0,pB p 0,v43] ?_ (hm:=by (obtain⟨_,_,e⟩:=hf44;rw[e];rfl)) (h1:=by (obtain⟨_,_,e⟩:=hf44;rw[e];rfl)) (ha':=by (obtain⟨_,_,e⟩:=hf44;rw[e];rfl));refine nH [2]<|h_doneS ?_
    have hdr:drpR R i s.ph=(([]++(R.take (((Int.tmod i (R.length:Int))).toNat)))++(R.drop ((((Int.tmod i (R.length:Int))+1)).toNat))):=by unfold drpR;rw[if_pos (show (0<R.length∧0≤i∧s.ph=0) by omega)]
    exact xs_finN [] (blkA xp #[ptrV hb,ptrV gb,lx,ptrV b,ptrV p,v43] 34::own iTy v43 (drpR R i s.ph)::coS b q hb s::F) SI.nil (fun _ h=>by rw[hdr];exact h.re [1,0,1] [3]) ⟨v43,rfl⟩
   refine sL (t_load 0 rx)<|nH [1]<|h_l 15 rfl [1] (fun _=>(t_suf iTy_ok Tryz.underlying23 (.own 0) ((Int.tmod i (R.length:Int))+1) ((((Int.tmod i (R.length:Int))+1)).toNat) om ol om)) ?_
   refine h_stepS 1 ?_;refine s_buildSlice (e:=3) [] #[] (fun g45=>?_) (hb:=by kernel_rfl);refine nH [2]<|h_stepS 8 ?_
   refine s_mem (fun _ h=>Holds.slice 0 h iTy_ok []) ?_;refine s_append (L:=[]) 0 iTy_ok Tryz.underlying23 (Acc.pre (.own 2) iTy_ok (((Int.tmod i (R.length:Int))).toNat) ol) (by show _*8≤_;(try simp only[lnm]);omega) ol (fun v46=>?_);refine s_fact (fun H h=>((Acc.own (T:=iTy) (L:=([]++(R.take (((Int.tmod i (R.length:Int))).toNat)))) 0 rfl) H h).form) (fun hf47=>?_);refine nH [2]<|h_stepS 16 ?_
   refine s_append (L:=([]++(R.take (((Int.tmod i (R.length:Int))).toNat)))) 0 iTy_ok Tryz.underlying23 (Acc.suf (v:=rx) (L:=R) (.own 2) iTy_ok ((((Int.tmod i (R.length:Int))+1)).toNat) ol) (by show _*8≤_;(try simp only[lnm]);omega) ol (fun v48=>?_);refine s_fact (fun H h=>((Acc.own (T:=iTy) (L:=(([]++(R.take (((Int.tmod i (R.length:Int))).toNat)))++(R.drop ((((Int.tmod i (R.length:Int))+1)).toNat)))) 0 rfl) H h).form) (fun hf49=>?_);refine nH [2]<|hp_ 17 [2] (pB xp 0) ?_
   refine hp_ 18 [2] (pB xp 5) ?_;refine h_stepS 19 ?_;refine s_store (u:=v48) (m:=1) 1 #[pB hb 0,pB gb 0,lx,pB b 0,pB p 0,v48] ?_ (hm:=by (obtain⟨_,_,e⟩:=hf49;rw[e];rfl)) (h1:=by (obtain⟨_,_,e⟩:=hf49;rw[e];rfl)) (ha':=by (obtain⟨_,_,e⟩:=hf49;rw[e];rfl));refine nH [2]<|h_doneS ?_
   have hdr:drpR R i s.ph=(([]++(R.take (((Int.tmod i (R.length:Int))).toNat)))++(R.drop ((((Int.tmod i (R.length:Int))+1)).toNat))):=by unfold drpR;rw[if_pos (show (0<R.length∧0≤i∧s.ph=0) by omega)]
   exact xs_finN [] (blkA xp #[ptrV hb,ptrV gb,lx,ptrV b,ptrV p,v48] 34::own iTy v48 (drpR R i s.ph)::coS b q hb s::F) SI.nil (fun _ h=>by rw[hdr];exact h.re [1,0,1] [3]) ⟨v48,rfl⟩
  refine sL (t_load 0 rx)<|nH [1]<|h_l 15 rfl [1] (fun _=>(t_suf iTy_ok Tryz.underlying23 (.own 0) ((Int.tmod i (R.length:Int))+1) ((((Int.tmod i (R.length:Int))+1)).toNat) om ol om)) ?_
  refine h_stepS2 1 5 ?_ ?_
  .refine s_buildSlice (e:=3) [] #[] (fun g51=>?_) (hb:=by kernel_rfl);refine nH [2]<|h_stepS 5 ?_
   refine sL (t_load 1 rx)<|nH [2]<|h_l 7 rfl [2] (fun _=>(t_pre iTy_ok Tryz.underlying23 (.own 0) (Int.tmod i (R.length:Int)) (((Int.tmod i (R.length:Int))).toNat) om ol om)) ?_
   refine h_stepS 8 ?_;refine s_mem (fun _ h=>Holds.slice 0 h iTy_ok []) ?_;refine s_append (L:=[]) 0 iTy_ok Tryz.underlying23 (Acc.pre (.own 2) iTy_ok (((Int.tmod i (R.length:Int))).toNat) ol) (by show _*8≤_;(try simp only[lnm]);omega) ol (fun v52=>?_);refine s_fact (fun H h=>((Acc.own (T:=iTy) (L:=([]++(R.take (((Int.tmod i (R.length:Int))).toNat)))) 0 rfl) H h).form) (fun hf53=>?_);refine nH [2]<|h_stepS 16 ?_
   refine s_append (L:=([]++(R.take (((Int.tmod i (R.length:Int))).toNat)))) 0 iTy_ok Tryz.underlying23 (Acc.suf (v:=rx) (L:=R) (.own 2) iTy_ok ((((Int.tmod i (R.length:Int))+1)).toNat) ol) (by show _*8≤_;(try simp only[lnm]);omega) ol (fun v54=>?_);refine s_fact (fun H h=>((Acc.own (T:=iTy) (L:=(([]++(R.take (((Int.tmod i (R.length:Int))).toNat)))++(R.drop ((((Int.tmod i (R.length:Int))+1)).toNat)))) 0 rfl) H h).form) (fun hf55=>?_);refine nH [2]<|hp_ 17 [2] (pB xp 0) ?_
   refine hp_ 18 [2] (pB xp 5) ?_;refine h_stepS 19 ?_;refine s_store (u:=v54) (m:=1) 1 #[pB hb 0,pB gb 0,lx,pB b 0,pB p 0,v54] ?_ (hm:=by (obtain⟨_,_,e⟩:=hf55;rw[e];rfl)) (h1:=by (obtain⟨_,_,e⟩:=hf55;rw[e];rfl)) (ha':=by (obtain⟨_,_,e⟩:=hf55;rw[e];rfl));refine nH [2]<|h_doneS ?_
   have hdr:drpR R i s.ph=(([]++(R.take (((Int.tmod i (R.length:Int))).toNat)))++(R.drop ((((Int.tmod i (R.length:Int))+1)).toNat))):=by unfold drpR;rw[if_pos (show (0<R.length∧0≤i∧s.ph=0) by omega)]
   exact xs_finN [] (blkA xp #[ptrV hb,ptrV gb,lx,ptrV b,ptrV p,v54] 34::own iTy v54 (drpR R i s.ph)::coS b q hb s::F) SI.nil (fun _ h=>by rw[hdr];exact h.re [1,0,1] [3]) ⟨v54,rfl⟩
  refine sL (t_load 0 rx)<|nH [1]<|h_l 7 rfl [1] (fun _=>(t_pre iTy_ok Tryz.underlying23 (.own 0) (Int.tmod i (R.length:Int)) (((Int.tmod i (R.length:Int))).toNat) om ol om)) ?_
  refine h_stepS 1 ?_;refine s_buildSlice (e:=3) [] #[] (fun g56=>?_) (hb:=by kernel_rfl);refine nH [2]<|h_stepS 8 ?_
  refine s_mem (fun _ h=>Holds.slice 0 h iTy_ok []) ?_;refine s_append (L:=[]) 0 iTy_ok Tryz.underlying23 (Acc.pre (.own 2) iTy_ok (((Int.tmod i (R.length:Int))).toNat) ol) (by show _*8≤_;(try simp only[lnm]);omega) ol (fun v57=>?_);refine s_fact (fun H h=>((Acc.own (T:=iTy) (L:=([]++(R.take (((Int.tmod i (R.length:Int))).toNat)))) 0 rfl) H h).form) (fun hf58=>?_);refine nH [2]<|h_stepS 16 ?_
  refine s_append (L:=([]++(R.take (((Int.tmod i (R.length:Int))).toNat)))) 0 iTy_ok Tryz.underlying23 (Acc.suf (v:=rx) (L:=R) (.own 2) iTy_ok ((((Int.tmod i (R.length:Int))+1)).toNat) ol) (by show _*8≤_;(try simp only[lnm]);omega) ol (fun v59=>?_);refine s_fact (fun H h=>((Acc.own (T:=iTy) (L:=(([]++(R.take (((Int.tmod i (R.length:Int))).toNat)))++(R.drop ((((Int.tmod i (R.length:Int))+1)).toNat)))) 0 rfl) H h).form) (fun hf60=>?_);refine nH [2]<|hp_ 17 [2] (pB xp 0) ?_
  refine hp_ 18 [2] (pB xp 5) ?_;refine h_stepS 19 ?_;refine s_store (u:=v59) (m:=1) 1 #[pB hb 0,pB gb 0,lx,pB b 0,pB p 0,v59] ?_ (hm:=by (obtain⟨_,_,e⟩:=hf60;rw[e];rfl)) (h1:=by (obtain⟨_,_,e⟩:=hf60;rw[e];rfl)) (ha':=by (obtain⟨_,_,e⟩:=hf60;rw[e];rfl));refine nH [2]<|h_doneS ?_
  have hdr:drpR R i s.ph=(([]++(R.take (((Int.tmod i (R.length:Int))).toNat)))++(R.drop ((((Int.tmod i (R.length:Int))+1)).toNat))):=by unfold drpR;rw[if_pos (show (0<R.length∧0≤i∧s.ph=0) by omega)]
  exact xs_finN [] (blkA xp #[ptrV hb,ptrV gb,lx,ptrV b,ptrV p,v59] 34::own iTy v59 (drpR R i s.ph)::coS b q hb s::F) SI.nil (fun _ h=>by rw[hdr];exact h.re [1,0,1] [3]) ⟨v59,rfl⟩
 have p61:=c7;simp only[Bool.and_eq_true,Bool.or_eq_true,Bool.and_eq_false_iff,Bool.or_eq_false_iff,Bool.not_eq_true',Bool.not_eq_false',decide_eq_true_eq,decide_eq_false_iff_not]at p61;refine k_skip ?_;have hdr:drpR R i s.ph=R:=by unfold drpR;rw[if_neg (show ¬(0<R.length∧0≤i∧s.ph=0) by omega)]
 exact xs_finN [] (blkA xp #[ptrV hb,ptrV gb,lx,ptrV b,ptrV p,rx] 34::own iTy rx (drpR R i s.ph)::coS b q hb s::F) SI.nil (fun _ h=>by rw[hdr];exact h.re [0,0,0] []) ⟨rx,rfl⟩
end Go.Proofs.YtmhpcebiamkciaaGreat
end
section
set_option linter.unusedSimpArgs false
set_option linter.unusedVariables false
set_option maxRecDepth 100000
set_option maxHeartbeats 2000000
namespace Go.Proofs.YtmhpcebiamkciaaGreat
open Go.Hp Go.J Go.S
open Go.Mem (Ty KTy blk elemAt pre suf blk_pre blk_suf aget aset strK aggDesc)
open Go.Mem (adel apos aget_aset aget_adel)
def lvH:Hst:=hmake hp0 (newO 4 0 eb [])
theorem lv_v:hmakeV hp0 4=⟨4,0,0,eb,1⟩:=rfl
theorem lv_e:hmakeE hp0=0:=rfl
theorem lv_ci:CI 1 lvH cst0:=⟨.inl rfl,fun h=>absurd h (by decide),fun _=>rfl,fun h=>absurd h (by decide),fun _=>rfl,by decide,by decide,hmake_sm HSm.nil rfl (by decide),HW.make HW.nil (newO_w _ _ _ (fun _ hv=>(by cases hv)) (fun h8=>by cases h8)),hmake_inv HInv.nil (newO_inv _ _ _ (by decide))⟩
theorem lv_work:((work (9:Int).toNat lvH [1] cst0).2.2:Int)=2:=by kernel_rfl
theorem lv_ph:(work (9:Int).toNat lvH [1] cst0).2.1.ph=0:=by kernel_rfl
theorem lv_a:halive (work (9:Int).toNat lvH [1] cst0).1 1=true:=by kernel_rfl
theorem pi_start(l:List Opc):PI 100 (made l).1 (made l).2 ((made l).2.map Vl.ref) cst0:=by
 obtain⟨h1,h2,h3⟩:=made_good l;have h4:=hids_len (made l).1;have h5:=h2.len;exact⟨⟨.inl rfl,fun h=>absurd h (by decide),fun _=>rfl,fun h=>absurd h (by decide),fun _=>rfl,by show 0+_≤_;omega,by decide,h2,made_w l,h1⟩,.zero rfl,h3,by rw[List.length_map];exact h3⟩
theorem lives45_s{Z:Zone}:SF Tryz.prog 9 #[] Z [] fun r Bs=>r=.bool true∧Bs=[]:=by
 refine sf_enter Tryz.func9 44 [] (fun w0=>?_);refine k_sr<|sP (.bool false)<|s_nr<|s_pcall (fun _ h=>hnew_s) ?_
 rintro _ _ ⟨hb1,rfl,rfl⟩;refine sP (pB hb1 0)<|s_nt<|k_seq<|k_sr<|sP (pB hb1 0)<|sP (.bool false)<|s_nt<|k_false<|k_st<|k_sr<|sP (pB hb1 0)<|sC [0] (hnewtable_s (st:=hp0) (by decide)) ?_
 rw[lv_v,lv_e];refine s_mem (Bs:=[hpA hb1 lvH]) (fun _ h=>h) ?_;refine sP (.tuple #[.agg #[iw 4,iw 0,iw 0,sw eb,iw 1],iw 0])<|sP (.agg #[iw 4,iw 0,iw 0,sw eb,iw 1])<|sP (iw 0)<|s_alloc (.agg zc) zc (fun g2=>?_)
 refine s_store 0 #[iw 4,iw 0,iw 0,sw eb,iw 1] ?_;refine sP (iw 0)<|s_nr<|sP (pB hb1 0)<|s_pcall (fun _ h=>cnew_s) ?_
 rintro _ _ ⟨b3,q4,rfl,rfl⟩;refine sP (.tuple #[pB b3 0,iw 0])<|sP (pB b3 0)<|sP (iw 0)<|sP (pB b3 0)<|sP (iw 0)<|s_nr<|sP (pB b3 0)<|sP2 (.bool true)<|sP (iw 0)<|sL (t_cmp (c:=true))<|sP2 (.bool true)<|sP (pB b3 0)<|sP (pB g2 4)<|sL (t_load 1 (iw 1))<|s_buildSlice (e:=3) [(0,iw 1)] #[iw 1] (fun g5=>?_) (hb:=by kernel_rfl)
 refine s_mem (fun _ h=>Holds.slice 0 h iTy_ok [1]) ?_;refine sC [0,0,1] (cwork_s (st0:=lvH) (s0:=cst0) (R:=[1]) 9 (by decide) lv_ci (by decide) (by decide)) ?_;rw[lv_work];refine sL (t_cmp (c:=true))<|sP2 (.bool true)<|sP (pB b3 0)<|s_call [1] cphase_s ?_
 rintro _ _ ⟨rfl,rfl⟩;rw[lv_ph];refine sL (t_cmp (c:=true))<|sP2 (.bool true)<|sP (pB hb1 0)<|sP (pB g2 4)<|sL (t_load 3 (iw 1))<|sC [2] (halive_s (st:=(work (9:Int).toNat lvH [1] cst0).1) 1) ?_
 refine sP (.bool (halive ((work (9:Int).toNat lvH [1] cst0).1) 1))<|sP (.bool (halive ((work (9:Int).toNat lvH [1] cst0).1) 1))<|s_nt<|k_ret ?_
 exact xs_fin [.bool (halive ((work (9:Int).toNat lvH [1] cst0).1) 1)] [] (SI.tmp 0 SI.nil) (rr [] [0,0,0,0]) ⟨cB lv_a,rfl⟩
structure Op5 where
 kind:Int
 n:Int
 a:Int
 d:Int
 rv:Sv
abbrev Op5.v(x:Op5):Value:=.agg #[iw x.kind,iw x.n,iw x.a,iw x.d,x.rv.v]
def Op5T:Ty Op5:=⟨39,5,56,true,Op5.v,⟨0,0,0,0,⟨none,0,0⟩⟩⟩
theorem Op5T_ok:Op5T.Ok Tryz.prog:=ok_of Op5T _ Tryz.t39 (by decide) (fun _=>rfl) (fun x u hu=>by simp[Ty.enc,Op5T,Op5.v,Value.cells]at hu;rcases hu with rfl|rfl|rfl|rfl|rfl<;>rfl) (fun _=>rfl) Tryz.underlying39 rfl (fun h=>by cases h) (by kernel_rfl) (by kernel_rfl) (by kernel_rfl) (by kernel_rfl)
theorem ref_take{L:List Vl}{i:Nat}{y:Vl}(h:L[i]?=some y):(L.take i).map Vl.ref++[y.ref]=(L.take (i+1)).map Vl.ref:=by rw[List.take_add_one,h];simp
theorem ckeeps_w{Z:Zone}{lv sv:Value}{l:List Opc}{SL:List Op5}(hl0:Kn Z OpT lv l)(hS:Kn Z Op5T sv SL):SF Tryz.prog 6 #[lv,sv] Z [] fun r Bs=>r=.bool true∧Bs=[]:=by
 refine sf_enter Tryz.func6 133 [(0,lv),(1,sv)] (fun w0=>?_);obtain⟨hinv,hsm,hll0⟩:=made_good l;refine k_fact (fun H h=>(hS.get h).len_le) (fun lS=>?_);refine k_sr<|sP (.bool false)<|s_nt<|k_seq<|k_sr<|sP lv<|s_mem (fun _ h=>Holds.nilS (T:=SpT) h) ?_
 refine s_call [0] (large_s (M:=[]) hl0 ol) ?_;rintro _ _ ⟨lg1,rfl,hlg2,rfl⟩;refine s_nt<|k_cond lg1 (fun c3=>?_) (fun c3=>?_)
 .refine k_sr<|sV (fun _ h=>lives45_s)<|sP (.bool true)<|s_nt<|k_ret<|xs_ret ?_
  exact xs_fin [.bool true] [] (SI.tmp 4 SI.nil) (rr [] []) ⟨rfl,rfl⟩
 refine k_st<|k_sr<|sP lv<|s_call [] (begun_s hl0) ?_
 rintro _ _ ⟨hb,gb,lx,b,p,q,rq,rfl,rfl⟩;refine sF 4 (fun hf4=>?_);refine sP (.tuple #[.agg #[pB hb 0,pB gb 0,lx,pB b 0,pB p 0,(.slice none 0 0)],.bool true])<|sP (.agg #[pB hb 0,pB gb 0,lx,pB b 0,pB p 0,(.slice none 0 0)])<|sP (.bool true)<|s_alloc (.agg #[.pointer none,.pointer none,(.slice none 0 0),.pointer none,.pointer none,(.slice none 0 0)]) #[.pointer none,.pointer none,(.slice none 0 0),.pointer none,.pointer none,(.slice none 0 0)] (fun g5=>?_)
 refine s_store (u:=.agg #[pB hb 0,pB gb 0,lx,pB b 0,pB p 0,(.slice none 0 0)]) (m:=6) 0 #[pB hb 0,pB gb 0,lx,pB b 0,pB p 0,(.slice none 0 0)] ?_ (hm:=by (obtain⟨_,_,e⟩:=hf4;rw[e];rfl)) (h1:=by (obtain⟨_,_,e⟩:=hf4;rw[e];rfl)) (ha':=by (obtain⟨_,_,e⟩:=hf4;rw[e];rfl));refine sP (.bool true)<|s_nt<|k_seq<|k_sr<|sP (.bool true)<|sP (.bool false)<|s_nt<|k_false<|k_st<|k_seq<|k_sr<|sP (iw 0)<|s_nt<|k_block<|k_mem (fun _ h=>Holds.nilS (T:=iTy) h) ?_
 refine k_mem (Bs:=[own iTy (.slice none 0 0) (((made l).2.take 0).map Vl.ref),blkA g5 #[pB hb 0,pB gb 0,lx,pB b 0,pB p 0,(.slice none 0 0)] 34,coA b q hb cst0.ph cst0.col cst0.Q cst0.L cst0.Fr cst0.G cst0.P,hpA hb ((made l).1),rcA p gb rq cst0.ph cst0.col cst0.Q cst0.L cst0.Fr cst0.G cst0.P,rhA gb ((made l).1),own VlT lx ((made l).2)]) (fun _ h=>h) ?_;refine k_loop (ι:=Value×Nat) (fun (rx,i)=>i≤(made l).2.length) (fun (rx,i)=>[(1,sv),(5,pB g5 0),(7,iw (i:Int))]) (fun (rx,i)=>[own iTy rx (((made l).2.take i).map Vl.ref),blkA g5 #[pB hb 0,pB gb 0,lx,pB b 0,pB p 0,rx] 34,coA b q hb cst0.ph cst0.col cst0.Q cst0.L cst0.Fr cst0.G cst0.P,hpA hb ((made l).1),rcA p gb rq cst0.ph cst0.col cst0.Q cst0.L cst0.Fr cst0.G cst0.P,rhA gb ((made l).1),own VlT lx ((made l).2)]) (fun (rx,i)=>(made l).2.length-i) ((.slice none 0 0),0) (Nat.zero_le _) sA (rr [0,0,0,0,0,0,0] []) ?_;rintro⟨rx,i⟩ hi6;replace hi6:i≤(made l).2.length:=hi6;show SK _ _ _ _ _ [(1,sv),(5,.pointer (some ⟨g5,0,none⟩)),(7,iw (i:Int))] _ [own iTy rx (((made l).2.take i).map Vl.ref),blkA g5 #[.pointer (some ⟨hb,0,none⟩),.pointer (some ⟨gb,0,none⟩),lx,.pointer (some ⟨b,0,none⟩),.pointer (some ⟨p,0,none⟩),rx] 34,coA b q hb cst0.ph cst0.col cst0.Q cst0.L cst0.Fr cst0.G cst0.P,hpA hb ((made l).1),rcA p gb rq cst0.ph cst0.col cst0.Q cst0.L cst0.Fr cst0.G cst0.P,rhA gb ((made l).1),own VlT lx ((made l).2)];have hml:(((made l).2.take i).map Vl.ref).length≤100:=by rw[List.length_map,List.length_take];omega
 refine k_seq<|k_sr<|sP (iw (i:Int))<|sP (pB g5 0)<|sP (pB g5 2)<|sL (t_load 1 lx)<|sL (t_len VlT_ok Tryz.underlying28 (.own 6))<|sL t_cmp<|s_nt<|k_cond (decide ((i:Int)<(((made l).2).length:Int))) (fun c7=>?_) (fun c7=>?_)
 .have p8:=dY c7;refine k_st<|k_seq<|k_block<|k_draw<|sP (pB g5 5)<|sL (t_load 1 rx)<|sP (pB g5 0)<|sP (pB g5 2)<|sL (t_load 1 lx)<|sP (iw (i:Int))<|sL (t_index VlT_ok Tryz.underlying28 (.own 6) (i:Int) i om ol om)<|sP (.pointer (some ((elemAt VlT.size lx i).add 4))) ?_
  obtain⟨y9,hy10⟩:∃y,((made l).2)[i]?=some y:=⟨_,List.getElem?_eq_getElem ol⟩;refine sL (t_loadF 4 VlT_ok (.own 6) hy10)<|s_buildSlice (e:=3) [(0,iw y9.ref)] #[iw y9.ref] (fun g11=>?_) (hb:=by kernel_rfl)
  refine s_append (L:=(((made l).2.take i).map Vl.ref)) 1 iTy_ok Tryz.underlying23 (.lit 0 iTy_ok [y9.ref]) (by show _*8≤_;(try simp only[lnm]);omega) ol (fun v12=>?_);refine sF 1 (fun hf13=>?_);refine sP (pB g5 5)<|s_store (u:=v12) (m:=1) 2 #[pB hb 0,pB gb 0,lx,pB b 0,pB p 0,v12] ?_ (hm:=by (obtain⟨_,_,e⟩:=hf13;rw[e];rfl)) (h1:=by (obtain⟨_,_,e⟩:=hf13;rw[e];rfl)) (ha':=by (obtain⟨_,_,e⟩:=hf13;rw[e];rfl))
  refine s_nil<|x_dynS (fun _ h=>by kernel_rfl) ?_
  refine xs_block<|xs_then<|k_reg<|sP (iw (i:Int))<|sL (t_add (i:Int) 1 ol)<|sP (iw ((i:Int)+1))<|s_nil ?_
  rw[ref_take hy10];exact xs_round (v12,i+1) (by show (made l).2.length-(i+1)<(made l).2.length-i;omega) (by show i+1≤(made l).2.length;omega) sA (rr [1,1,1,1,1,1,1] [7])
 have p14:=dF c7;refine k_exit<|xs_exit<|xs_exit<|xs_here<|xs_then<|k_seq<|k_sr<|sP (iw 0)<|s_nt<|k_block ?_
 rw[List.take_of_length_le (show (made l).2.length≤i by omega)];refine k_loop (ι:=Hst×List Vl×List Int×Cst×Value×Value×Nat) (fun (st,L,R,s,lx,rx,i)=>i≤SL.length∧i≤100∧PI (100+i) st L R s) (fun (st,L,R,s,lx,rx,i)=>[(1,sv),(5,pB g5 0),(8,iw (i:Int))]) (fun (st,L,R,s,lx,rx,i)=>[own iTy rx R,blkA g5 #[pB hb 0,pB gb 0,lx,pB b 0,pB p 0,rx] 34,coA b q hb s.ph s.col s.Q s.L s.Fr s.G s.P,hpA hb st,rcA p gb rq s.ph s.col s.Q s.L s.Fr s.G s.P,rhA gb st,own VlT lx L]) (fun (st,L,R,s,lx,rx,i)=>SL.length-i) ((made l).1,(made l).2,(made l).2.map Vl.ref,cst0,lx,rx,0) ⟨Nat.zero_le _,Nat.zero_le _,pi_start l⟩ sA (rr [0,0,0,0,0,0,0] []) ?_;rintro⟨st,L,R,s,lx,rx,i⟩ hi15;replace hi15:i≤SL.length∧i≤100∧PI (100+i) st L R s:=hi15;show SK _ _ _ _ _ [(1,sv),(5,.pointer (some ⟨g5,0,none⟩)),(8,iw (i:Int))] _ [own iTy rx R,blkA g5 #[.pointer (some ⟨hb,0,none⟩),.pointer (some ⟨gb,0,none⟩),lx,.pointer (some ⟨b,0,none⟩),.pointer (some ⟨p,0,none⟩),rx] 34,coA b q hb s.ph s.col s.Q s.L s.Fr s.G s.P,hpA hb st,rcA p gb rq s.ph s.col s.Q s.L s.Fr s.G s.P,rhA gb st,own VlT lx L];obtain⟨hi1,hi2,hpi⟩:=id hi15;refine k_seq<|k_sr<|sP (iw (i:Int))<|sP sv<|sL (t_len Op5T_ok Tryz.underlying67 (.zn hS))<|sL t_cmp<|sP (.bool (decide ((i:Int)<(SL.length:Int))))<|s_fork 47 (decide ((i:Int)<(SL.length:Int))) (fun c16=>?_) (fun c16=>?_)
 .have p17:=dY c16;refine sP (iw (i:Int))<|sL t_cmp<|sP (.bool (decide ((i:Int)<100)))<|s_nt<|k_cond (decide ((i:Int)<100)) (fun c18=>?_) (fun c18=>?_)
  .have p19:=dY c18;refine k_st<|k_seq<|k_block<|k_sr<|sP sv<|sP (iw (i:Int))<|sL (t_index Op5T_ok Tryz.underlying67 (.zn hS) (i:Int) i om ol om)<|sP (.pointer (some (elemAt Op5T.size sv i))) ?_
   obtain⟨y20,hy21⟩:∃y,SL[i]?=some y:=⟨_,List.getElem?_eq_getElem ol⟩;refine sL (t_loadF 0 Op5T_ok (.zn hS) hy21)<|sP (iw y20.kind)<|s_nt<|k_seq<|k_sr<|sP (iw y20.kind)<|sL t_cmp<|sP (.bool (decide (y20.kind<0)))<|s_fork 60 (decide (y20.kind<0)) (fun c22=>?_) (fun c22=>?_)
   .have p23:=dY c22;refine sK<|sK<|sP (.bool true)<|s_nt<|k_true<|k_sr<|sP sv<|sP (iw (i:Int))<|sL (t_index Op5T_ok Tryz.underlying67 (.zn hS) (i:Int) i om ol om)<|sP (.pointer (some ((elemAt Op5T.size sv i).add 2)))<|sL (t_loadF 2 Op5T_ok (.zn hS) hy21) ?_
    have hrl:=hpi.rl;have hpd:=drp_ok hpi y20.a;refine s_call [1,0,0] (pdrop_s (R:=R) (s:=s) om y20.a) ?_;rintro v24 _ ⟨rx2,rfl⟩;refine s_nt<|k_exit<|xs_exit<|xs_here<|xs_then<|k_reg<|sP (iw (i:Int))<|sL (t_add (i:Int) 1 ol)<|sP (iw ((i:Int)+1))<|s_nil ?_
    exact xs_round (st,L,(drpR R y20.a s.ph),s,lx,rx2,i+1) (by show SL.length-(i+1)<SL.length-i;omega) ⟨by omega,by omega,hpd⟩ sA (rr [1,0,0,0,0,0,0] [])
   have p25:=dF c22;refine sP (iw y20.kind)<|sL t_cmp<|sP (.bool (decide ((3:Int)<y20.kind)))<|s_nt<|k_cond (decide ((3:Int)<y20.kind)) (fun c26=>?_) (fun c26=>?_)
   .have p27:=dY c26;refine k_sr<|sP sv<|sP (iw (i:Int))<|sL (t_index Op5T_ok Tryz.underlying67 (.zn hS) (i:Int) i om ol om)<|sP (.pointer (some ((elemAt Op5T.size sv i).add 2)))<|sL (t_loadF 2 Op5T_ok (.zn hS) hy21) ?_
    have hrl:=hpi.rl;have hpd:=drp_ok hpi y20.a;refine s_call [1,0,0] (pdrop_s (R:=R) (s:=s) om y20.a) ?_;rintro v28 _ ⟨rx2,rfl⟩;refine s_nt<|k_exit<|xs_exit<|xs_here<|xs_then<|k_reg<|sP (iw (i:Int))<|sL (t_add (i:Int) 1 ol)<|sP (iw ((i:Int)+1))<|s_nil ?_
    exact xs_round (st,L,(drpR R y20.a s.ph),s,lx,rx2,i+1) (by show SL.length-(i+1)<SL.length-i;omega) ⟨by omega,by omega,hpd⟩ sA (rr [1,0,0,0,0,0,0] [])
   have p29:=dF c26;refine k_st<|k_sr<|sP2 (pB g5 0)<|sL (t_load 1 (pB hb 0))<|sP (pB g5 5)<|sL (t_load 1 rx)<|sF 0 (fun hf30=>?_)
   refine s_call [3] (graph_s hf30 hpi.ci.sm om hpi.ci.w) ?_;rintro _ _ ⟨ov,N,rfl,hN,rfl⟩;have hsh:=shows_of hN;have hNl:N.length=(hids st).length:=by have:=congrArg List.length hN;simpa using this
   have hil:=hids_len st;have hol:=hpi.ci.sm.len;have hrl:=hpi.rl;have hll:=hpi.ll;refine s_pcall (fun _ h=>rgraph_s (l:=N) (R:=R) ⟨Acc.kn (T:=ObT) (.own 0) h,Acc.kn (T:=iTy) (.own 3) h,fun x hx=>⟨.of (h.frzF 1 rfl x hx).1,.of (h.frzF 1 rfl x hx).2⟩⟩ (hsh.chk hpi.ci.sm om) hsh.asc om om (hsh.small hpi.ci.sm om)) ?_;rintro _ _ ⟨rl,G,kg,rfl,hB,hGe,rfl⟩;refine sF 0 (fun hf31=>?_);have hfl:=fil_len N G;refine sP (.tuple #[rl,iw 0])<|sP rl<|sP (iw 0)<|sP rl<|sP (iw 0)<|s_nt<|k_seq<|k_sr<|sP (iw y20.kind)<|sL t_cmp<|sP (.bool (decide (y20.kind=1)))<|s_fork 82 (decide (y20.kind=1)) (fun c32=>?_) (fun c32=>?_)
   .have p33:=dY c32;refine sP rl<|sP sv<|sP (iw (i:Int))<|sL (t_index Op5T_ok Tryz.underlying67 (.zn hS) (i:Int) i om ol om)<|sP (.pointer (some ((elemAt Op5T.size sv i).add 2)))<|sL (t_loadF 2 Op5T_ok (.zn hS) hy21)<|sC [5,8] (pid_s (L:=L) om y20.a) ?_
    refine sV (fun _ h=>phas_s (L:=(fil N G)) (Acc.kn (.own 2) h) (vid L y20.a))<|sP (.bool (decide ((vid L y20.a)∈(fil N G))))<|s_fork 91 (decide ((vid L y20.a)∈(fil N G))) (fun c34=>?_) (fun c34=>?_)
    .have p35:=dY c34;refine sP rl<|sP sv<|sP (iw (i:Int))<|sL (t_index Op5T_ok Tryz.underlying67 (.zn hS) (i:Int) i om ol om)<|sP (.pointer (some ((elemAt Op5T.size sv i).add 3)))<|sL (t_loadF 3 Op5T_ok (.zn hS) hy21)<|sC [0,0] (pid_s (L:=L) om y20.d) ?_
     refine sV (fun _ h=>phas_s (L:=(fil N G)) (Acc.kn (.own 2) h) (vid L y20.d))<|sP (.bool (decide ((vid L y20.d)∈(fil N G))))<|sP (.bool (!(decide ((vid L y20.d)∈(fil N G)))))<|sP (.bool (!(decide ((vid L y20.d)∈(fil N G)))))<|s_nt<|k_cond (!(decide ((vid L y20.d)∈(fil N G)))) (fun c36=>?_) (fun c36=>?_)
     .have c37:=not_t c36;have p38:=dF c37;refine k_exit<|xs_exit<|xs_here<|xs_then<|k_reg<|sP (iw (i:Int))<|sL (t_add (i:Int) 1 ol)<|sP (iw ((i:Int)+1))<|s_nil ?_
      exact xs_round (st,L,R,s,lx,rx,i+1) (by show SL.length-(i+1)<SL.length-i;omega) ⟨by omega,by omega,hpi.mono⟩ sA (rr [6,0,5,4,4,4,0] [7,7,7])
     have c39:=not_f c36;have p40:=dY c39;refine k_st<|k_seq<|k_sr<|sP sv<|sP (iw (i:Int))<|sL (t_index Op5T_ok Tryz.underlying67 (.zn hS) (i:Int) i om ol om)<|sL (t_loadE Op5T_ok (.zn hS) hy21) ?_
     have hrq:y20.kind=1→Rq (halive st) (crf st) R (vid L y20.a)∧Rq (halive st) (crf st) R (vid L y20.d):=fun _=>⟨(hsh.liv hB hGe).1 (dY c34),(hsh.liv hB hGe).1 (dY c39)⟩
     obtain⟨hp2,hal⟩:=pst_ok (n:=y20.n) hpi om hrq;refine s_call [0,0,4,4,3,3,3] (pstep_s (L:=L) (R:=R) (s:=s) (st:=st) hpi.ci om om om om (fun e=>⟨rq_al (hrq e).1,rq_al (hrq e).2⟩)) ?_;rintro _ _ ⟨lx2,rx2,rfl,rfl⟩;generalize pstH y20.kind y20.n y20.a y20.d st L R s=st2 at hp2 hal⊢;generalize pstC y20.kind y20.n y20.a y20.d st L R s=s2 at hp2⊢;generalize pstL y20.kind st L=L2 at hp2⊢;generalize pstR y20.kind st R=R2 at hp2⊢;have hr2:=hp2.rl;have hl2:=hp2.ll;refine sP2 (.bool false)<|sP (pB g5 3)<|sL (t_load 0 (pB b 0))<|sP (pB g5 5)<|sL (t_load 0 rx2)<|sC [2,2,2] (csound_s (s:=s2) (R:=R2) hp2.ci om hp2.ki om) ?_
     refine sP2 (.bool false)<|s_nt<|k_false<|k_st<|k_sr<|sP (iw 0)<|s_nt<|k_block<|k_loop (ι:=Nat) (fun z=>z≤(fil N G).length) (fun z=>[(1,sv),(5,pB g5 0),(8,iw (i:Int)),(10,rl),(12,iw (z:Int))]) (fun z=>[own iTy rx2 R2,coA b q hb s2.ph s2.col s2.Q s2.L s2.Fr s2.G s2.P,hpA hb st2,blkA g5 #[pB hb 0,pB gb 0,lx2,pB b 0,pB p 0,rx2] 34,own VlT lx2 L2,rcA p gb rq s2.ph s2.col s2.Q s2.L s2.Fr s2.G s2.P,rhA gb st2,own iTy rl (fil N G),own ObT ov N,frz (AllO N)]) (fun z=>(fil N G).length-z) 0 (Nat.zero_le _) sA (rr [0,0,0,0,0,0,0,0,0,0] []) ?_
     rintro z hi41;show SK _ _ _ _ _ [(1,sv),(5,.pointer (some ⟨g5,0,none⟩)),(8,iw (i:Int)),(10,rl),(12,iw (z:Int))] _ [own iTy rx2 R2,coA b q hb s2.ph s2.col s2.Q s2.L s2.Fr s2.G s2.P,hpA hb st2,blkA g5 #[.pointer (some ⟨hb,0,none⟩),.pointer (some ⟨gb,0,none⟩),lx2,.pointer (some ⟨b,0,none⟩),.pointer (some ⟨p,0,none⟩),rx2] 34,own VlT lx2 L2,rcA p gb rq s2.ph s2.col s2.Q s2.L s2.Fr s2.G s2.P,rhA gb st2,own iTy rl (fil N G),own ObT ov N,frz (AllO N)];refine k_seq<|k_sr<|sP (iw (z:Int))<|sP rl<|sL (t_len iTy_ok Tryz.underlying23 (.own 7))<|sL t_cmp<|s_nt<|k_cond (decide ((z:Int)<((fil N G).length:Int))) (fun c42=>?_) (fun c42=>?_)
     .have p43:=dY c42;refine k_st<|k_seq<|k_block<|k_seq<|k_draw<|sP2 (pB g5 0)<|sL (t_load 3 (pB hb 0))<|sP rl<|sP (iw (z:Int))<|sL (t_index iTy_ok Tryz.underlying23 (.own 7) (z:Int) z om ol om) ?_
      obtain⟨y44,hy45⟩:∃y,(fil N G)[z]?=some y:=⟨_,List.getElem?_eq_getElem ol⟩;have hly:=hal y44 ((hsh.liv hB hGe).1 (List.mem_of_getElem? hy45));refine sL (t_loadE iTy_ok (.own 7) hy45)<|sC [2] (halive_s (st:=st2) y44) ?_
      refine sL (Lt.to (t_pure (.bool (!(halive st2 y44)))) (cB ((congrArg Bool.not (hly:(halive st2 y44)=true)).trans rfl:(!(halive st2 y44))=false)))<|s_nil<|x_dynS (fun _ h=>by kernel_rfl) ?_
      refine xs_then<|k_false<|k_skip<|xs_block<|xs_then<|k_reg<|sP (iw (z:Int))<|sL (t_add (z:Int) 1 ol)<|sP (iw ((z:Int)+1))<|s_nil ?_
      exact xs_round (z+1) (by show (fil N G).length-(z+1)<(fil N G).length-z;omega) om sA (rr [1,1,0,0,0,0,0,0,0,0] [])
     have p46:=dF c42;refine k_exit<|xs_exit<|xs_exit<|xs_here<|xs_block<|xs_then<|k_reg<|sP (iw (i:Int))<|sL (t_add (i:Int) 1 ol)<|sP (iw ((i:Int)+1))<|s_nil ?_
     exact xs_round (st2,L2,R2,s2,lx2,rx2,i+1) (by show SL.length-(i+1)<SL.length-i;omega) ⟨by omega,by omega,hp2⟩ sA (rr [0,2,0,0,1,1,0] [7,7,7])
    have p47:=dF c34;refine sK<|sK<|sK<|sK<|sK<|sK<|sK<|sK<|sP (.bool false)<|sP2 (.bool true)<|s_nt<|k_true<|k_exit<|xs_exit<|xs_here<|xs_then<|k_reg<|sP (iw (i:Int))<|sL (t_add (i:Int) 1 ol)<|sP (iw ((i:Int)+1))<|s_nil ?_
    exact xs_round (st,L,R,s,lx,rx,i+1) (by show SL.length-(i+1)<SL.length-i;omega) ⟨by omega,by omega,hpi.mono⟩ sA (rr [6,0,5,4,4,4,0] [7,7,7])
   have p48:=dF c32;refine sK<|sK<|sK<|sK<|sK<|sK<|sK<|sK<|sK<|sK<|sK<|sK<|sK<|sK<|sK<|sK<|sK<|sK<|sK<|sP (.bool false)<|s_nt<|k_false<|k_st<|k_seq<|k_sr<|sP sv<|sP (iw (i:Int))<|sL (t_index Op5T_ok Tryz.underlying67 (.zn hS) (i:Int) i om ol om)<|sL (t_loadE Op5T_ok (.zn hS) hy21) ?_
   have hrq:y20.kind=1→Rq (halive st) (crf st) R (vid L y20.a)∧Rq (halive st) (crf st) R (vid L y20.d):=fun e=>absurd e (dF c32)
   obtain⟨hp2,hal⟩:=pst_ok (n:=y20.n) hpi om hrq;refine s_call [5,8,4,4,3,3,3] (pstep_s (L:=L) (R:=R) (s:=s) (st:=st) hpi.ci om om om om (fun e=>⟨rq_al (hrq e).1,rq_al (hrq e).2⟩)) ?_;rintro _ _ ⟨lx2,rx2,rfl,rfl⟩;generalize pstH y20.kind y20.n y20.a y20.d st L R s=st2 at hp2 hal⊢;generalize pstC y20.kind y20.n y20.a y20.d st L R s=s2 at hp2⊢;generalize pstL y20.kind st L=L2 at hp2⊢;generalize pstR y20.kind st R=R2 at hp2⊢;have hr2:=hp2.rl;have hl2:=hp2.ll;refine sP2 (.bool false)<|sP (pB g5 3)<|sL (t_load 0 (pB b 0))<|sP (pB g5 5)<|sL (t_load 0 rx2)<|sC [2,2,2] (csound_s (s:=s2) (R:=R2) hp2.ci om hp2.ki om) ?_
   refine sP2 (.bool false)<|s_nt<|k_false<|k_st<|k_sr<|sP (iw 0)<|s_nt<|k_block<|k_loop (ι:=Nat) (fun z=>z≤(fil N G).length) (fun z=>[(1,sv),(5,pB g5 0),(8,iw (i:Int)),(10,rl),(12,iw (z:Int))]) (fun z=>[own iTy rx2 R2,coA b q hb s2.ph s2.col s2.Q s2.L s2.Fr s2.G s2.P,hpA hb st2,blkA g5 #[pB hb 0,pB gb 0,lx2,pB b 0,pB p 0,rx2] 34,own VlT lx2 L2,rcA p gb rq s2.ph s2.col s2.Q s2.L s2.Fr s2.G s2.P,rhA gb st2,own iTy rl (fil N G),own ObT ov N,frz (AllO N)]) (fun z=>(fil N G).length-z) 0 (Nat.zero_le _) sA (rr [0,0,0,0,0,0,0,0,0,0] []) ?_
   rintro z hi49;show SK _ _ _ _ _ [(1,sv),(5,.pointer (some ⟨g5,0,none⟩)),(8,iw (i:Int)),(10,rl),(12,iw (z:Int))] _ [own iTy rx2 R2,coA b q hb s2.ph s2.col s2.Q s2.L s2.Fr s2.G s2.P,hpA hb st2,blkA g5 #[.pointer (some ⟨hb,0,none⟩),.pointer (some ⟨gb,0,none⟩),lx2,.pointer (some ⟨b,0,none⟩),.pointer (some ⟨p,0,none⟩),rx2] 34,own VlT lx2 L2,rcA p gb rq s2.ph s2.col s2.Q s2.L s2.Fr s2.G s2.P,rhA gb st2,own iTy rl (fil N G),own ObT ov N,frz (AllO N)];refine k_seq<|k_sr<|sP (iw (z:Int))<|sP rl<|sL (t_len iTy_ok Tryz.underlying23 (.own 7))<|sL t_cmp<|s_nt<|k_cond (decide ((z:Int)<((fil N G).length:Int))) (fun c50=>?_) (fun c50=>?_)
   .have p51:=dY c50;refine k_st<|k_seq<|k_block<|k_seq<|k_draw<|sP2 (pB g5 0)<|sL (t_load 3 (pB hb 0))<|sP rl<|sP (iw (z:Int))<|sL (t_index iTy_ok Tryz.underlying23 (.own 7) (z:Int) z om ol om) ?_
    obtain⟨y52,hy53⟩:∃y,(fil N G)[z]?=some y:=⟨_,List.getElem?_eq_getElem ol⟩;have hly:=hal y52 ((hsh.liv hB hGe).1 (List.mem_of_getElem? hy53));refine sL (t_loadE iTy_ok (.own 7) hy53)<|sC [2] (halive_s (st:=st2) y52) ?_
    refine sL (Lt.to (t_pure (.bool (!(halive st2 y52)))) (cB ((congrArg Bool.not (hly:(halive st2 y52)=true)).trans rfl:(!(halive st2 y52))=false)))<|s_nil<|x_dynS (fun _ h=>by kernel_rfl) ?_
    refine xs_then<|k_false<|k_skip<|xs_block<|xs_then<|k_reg<|sP (iw (z:Int))<|sL (t_add (z:Int) 1 ol)<|sP (iw ((z:Int)+1))<|s_nil ?_
    exact xs_round (z+1) (by show (fil N G).length-(z+1)<(fil N G).length-z;omega) om sA (rr [1,1,0,0,0,0,0,0,0,0] [])
   have p54:=dF c50;refine k_exit<|xs_exit<|xs_exit<|xs_here<|xs_block<|xs_then<|k_reg<|sP (iw (i:Int))<|sL (t_add (i:Int) 1 ol)<|sP (iw ((i:Int)+1))<|s_nil ?_
   exact xs_round (st2,L2,R2,s2,lx2,rx2,i+1) (by show SL.length-(i+1)<SL.length-i;omega) ⟨by omega,by omega,hp2⟩ sA (rr [0,2,0,0,1,1,0] [7,7,7])
  have p55:=dF c18;refine k_exit<|xs_exit<|xs_exit<|xs_here<|xs_then<|k_sr<|sV (fun _ h=>lives45_s)<|sP (.bool true)<|s_nt<|k_ret ?_
  exact xs_fin [.bool true] [] (SI.tmp 4 SI.nil) (rr [] [0,0,0,0,0,0,0]) ⟨rfl,rfl⟩
 have p56:=dF c16;refine sK<|sK<|sP (.bool false)<|s_nt<|k_false<|k_exit<|xs_exit<|xs_exit<|xs_here<|xs_then<|k_sr<|sV (fun _ h=>lives45_s)<|sP (.bool true)<|s_nt<|k_ret ?_
 exact xs_fin [.bool true] [] (SI.tmp 4 SI.nil) (rr [] [0,0,0,0,0,0,0]) ⟨rfl,rfl⟩
end Go.Proofs.YtmhpcebiamkciaaGreat
end
section
set_option linter.unusedSimpArgs false
set_option linter.unusedVariables false
namespace Go.J
open Go.ChangeShapes Go.WideShapes Go.RowKit Go.Hp
open Go.Mem (Ty)
section
variable{H:Type}{enc:TypeId×Value→H}{P:Program}{W:World}
abbrev Tr(enc:TypeId×Value→H)(P:Program)(W:World)(t:TypeId)(cs:List Value):Prop:=∃n x,DataW.trod enc P W 0 (fun _=>true) true n t cs=some x
theorem tr_field{t:TypeId}{fs:Array Field}{cs:List Value}(hu:P.underlying t=some (.struct fs))(h:Tr enc P W t cs)(j:Nat)(f:Field)(hf:fs[j]?=some f):Tr enc P W f.type ((cs.drop f.offset).take (P.cellsOf f.type)):=by
 obtain⟨fuel,x,hx⟩:=h;obtain⟨xs,n,_,_,hlen,hxl,hall⟩:=DataW.trod_struct hu hx;have h2:=hall j f hf;have hj:j<xs.length:=by rw[hxl];exact (Array.getElem?_eq_some_iff.1 hf).1
 rw[List.getElem?_eq_getElem hj]at h2;exact⟨n,_,h2⟩
theorem tr_len{t:TypeId}{fs:Array Field}{cs:List Value}(hu:P.underlying t=some (.struct fs))(h:Tr enc P W t cs):cs.length=P.cellsOf t:=by
 obtain⟨fuel,x,hx⟩:=h;obtain⟨xs,n,_,_,hlen,hxl,hall⟩:=DataW.trod_struct hu hx;exact hlen
theorem tr_int{t:TypeId}{k:IntKind}{cs:List Value}(hu:P.underlying t=some (.int k))(h:Tr enc P W t cs):∃n,cs=[.int k n]∧(Lit.int k n).wf=true:=by
 obtain⟨fuel,x,hx⟩:=h;obtain⟨n,h1,_,h3⟩:=DataW.trod_int hu hx;exact⟨n,h1,h3⟩
end
end Go.J
end
section
set_option linter.unusedSimpArgs false
set_option linter.unusedVariables false
namespace Go.J
open Go.ChangeShapes Go.WideShapes Go.RowKit Go.Hp
open Go.Mem (Ty)
section
variable{H:Type}{enc:TypeId×Value→H}{P:Program}{W:World}
theorem tr_sliceQ {α : Type} [Inhabited α] {T : Ty α} (hT : T.Ok P) {t : TypeId} {cs : List Value} (ht : P.underlying t = some (.slice T.id)) (hc : P.cellsOf T.id = T.size)
    {Q : α → Prop} (hdec : ∀ cs, Tr enc P W T.id cs → ∃ x, T.enc x = cs ∧ Q x) (h : Tr enc P W t cs) : ∃ v L, cs = [v] ∧ Sl W.heap T v L ∧ ∀ y ∈ L, Q y := by
  obtain ⟨fuel, x, hf⟩ := h
  rcases Deep.open_slice ht hf with ⟨h0, _⟩ | ⟨a, len0, cap, m, n, D, Pl, h0, _, hl, hm, hmm, _, hx⟩
  · exact ⟨_, [], h0, .inl ⟨⟨none, rfl⟩, rfl⟩, by simp⟩
  simp only [if_true] at hmm
  subst hmm
  have hpos := hT.pos
  rw [hc] at hx
  by_cases hcap : m = 0
  · subst hcap
    obtain rfl : len0 = 0 := by omega
    exact ⟨_, [], h0, .inl ⟨⟨some a, rfl⟩, rfl⟩, by simp⟩
  obtain ⟨g, off, spot⟩ := a
  have key : spot = none ∧ ∃ arr e fr, W.heap[g]? = some (.cells arr e fr) := by
    obtain ⟨cs', h1, h2⟩ := hx 0 (by omega)
    obtain ⟨_, hlen, hcell⟩ := World.cells?_some h1
    have h3 := hcell 0 hpos
    simp only [Nat.zero_mul, Addr.add, if_true] at h3
    have hne : cs'[0]? ≠ none := by rw [List.getElem?_eq_getElem (by omega)]; exact fun h => nomatch h
    unfold World.cell? at h3
    simp only at h3
    cases hg : W.heap[g]? with
    | none => rw [hg] at h3; simp only at h3; exact absurd h3.symm hne
    | some ob =>
      rw [hg] at h3
      cases ob <;> simp only at h3 <;> first | (exact absurd h3.symm hne) | skip
      rename_i arr e fr
      cases spot with
      | none => exact ⟨rfl, arr, e, fr, rfl⟩
      | some s => simp only [Option.isSome_some, if_true] at h3; exact absurd h3.symm hne
  obtain ⟨rfl, arr, e, fr, hg⟩ := key
  obtain ⟨X, hX⟩ := Deep.choose_lt (α := α) (p := fun i x => (∀ j u, (T.enc x)[j]? = some u → arr[off + i * T.size + j]? = some u) ∧ Q x) (fun i hi => by
    obtain ⟨cs', h1, h2⟩ := hx i hi
    obtain ⟨_, hlen, hcell⟩ := World.cells?_some h1
    obtain ⟨x, hx', hQ⟩ := hdec cs' ⟨_, _, h2⟩
    refine ⟨x, fun j u hj => ?_, hQ⟩
    rw [hx'] at hj
    have hjl : j < T.size := by rw [← hlen]; exact (List.getElem?_eq_some_iff.1 hj).1
    have := hcell j hjl
    rw [Mem.addr_add, Mem.addr_add, cell_of_row W g _ arr e fr hg, hj] at this
    exact this)
  have hget : ∀ i j, i < m → j < T.size → ∃ u, (T.enc (X i))[j]? = some u ∧ arr[off + i * T.size + j]? = some u := fun i j hi hj => by
    have : j < (T.enc (X i)).length := by rw [hT.len]; exact hj
    exact ⟨_, List.getElem?_eq_getElem this, (hX i hi).1 j _ (List.getElem?_eq_getElem this)⟩
  refine ⟨_, (List.range len0).map X, h0, .inr ⟨g, off, m, arr, e, fr, by simp, hg, by simpa using hl, hm, ?_, ?_⟩, ?_⟩
  · intro hcp
    obtain ⟨u, _, hu⟩ := hget (m - 1) (T.size - 1) (by omega) (by omega)
    have hlt := (Array.getElem?_eq_some_iff.1 hu).1
    have : m * T.size = (m - 1) * T.size + T.size := by rw [Nat.sub_mul]; have : T.size ≤ m * T.size := Nat.le_mul_of_pos_left _ hcp; omega
    omega
  · apply List.ext_getElem?
    intro q
    have hfl := hT.flat_len ((List.range len0).map X)
    simp only [List.length_map, List.length_range] at hfl ⊢
    by_cases hq : q < len0 * T.size
    · have hi : q / T.size < len0 := Nat.div_lt_of_lt_mul (by rw [Nat.mul_comm]; exact hq)
      have hj : q % T.size < T.size := Nat.mod_lt _ hpos
      have e1 : q = q / T.size * T.size + q % T.size := by rw [Nat.mul_comm]; exact (Nat.div_add_mod _ _).symm
      obtain ⟨u, h1, h2⟩ := hget (q / T.size) (q % T.size) (by omega) hj
      have hL : ((List.range len0).map X)[q / T.size]? = some (X (q / T.size)) := by simp [hi]
      have h3 := hT.flat_get hL hj
      rw [← e1, h1] at h3
      rw [h3, List.getElem?_take, if_pos hq, List.getElem?_drop, Array.getElem?_toList]
      rw [← h2]
      congr 1
      omega
    · rw [List.getElem?_eq_none (by simp; omega), List.getElem?_eq_none (by rw [hfl]; omega)]
  · intro y hy
    simp only [List.mem_map, List.mem_range] at hy
    obtain ⟨i, hi, rfl⟩ := hy
    exact (hX i (by omega)).2
theorem tr_fieldC{t:TypeId}{fs:Array Field}{cs:List Value}(hu:P.underlying t=some (.struct fs))(h:Tr enc P W t cs)(j:Nat)(u:TypeId)(off m:Nat)(hf:(fs[j]?).map (fun f=>(f.type,f.offset))=some (u,off):=by rfl)(hc:P.cellsOf u=m:=by kernel_rfl):Tr enc P W u ((cs.drop off).take m):=by
 cases hfj:fs[j]? with
 | none=>rw[hfj]at hf;cases hf
 | some f=>
  rw[hfj]at hf;injection hf with hf;injection hf with e1 e2
  subst e1 e2 hc;exact tr_field hu h j f hfj
end
end Go.J
end
section
set_option linter.unusedSimpArgs false
set_option linter.unusedVariables false
set_option maxRecDepth 100000
namespace Go.Proofs.YtmhpcebiamkciaaGreat
open Go.RowKit Go.J Go.S Go.Hp Go.ChangeShapes Go.WideShapes
theorem Tryz.own:ownKnob Tryz.prog.godebug=none:=by kernel_rfl
theorem Tryz.laidOut:laidOutB Tryz.prog=true:=by kernel_rfl
instance:Inhabited Spc:=⟨⟨zVl,0⟩⟩
instance:Inhabited Opc:=⟨⟨0,⟨zVl,0⟩,⟨zVl,0⟩,⟨zVl,0⟩⟩⟩
instance:Inhabited Op5:=⟨Op5T.zero⟩
section
variable{H:Type}{enc:TypeId×Value→H}{W:World}
theorem open_ints{cs:List Value}(h:Tr enc Tryz.prog W 23 cs):∃v L,cs=[v]∧Sl W.heap iTy v L:=by
 obtain⟨v,L,h1,h2,_⟩:=tr_sliceQ (Q:=fun _=>True) iTy_ok Tryz.underlying23 (by kernel_rfl) (fun cs h=>by obtain⟨n,e,_⟩:=tr_int Tryz.underlying3 h;exact⟨n,e.symm,trivial⟩) h;exact⟨v,L,h1,h2⟩
theorem open_op5{cs:List Value}(h:Tr enc Tryz.prog W 39 cs):∃x,Op5T.enc x=cs∧True:=by
 have hl:cs.length=5:=(tr_len Tryz.underlying39 h).trans (by kernel_rfl);obtain⟨a,ea,_⟩:=tr_int Tryz.underlying3 (tr_fieldC Tryz.underlying39 h 0 3 0 1);obtain⟨b,eb,_⟩:=tr_int Tryz.underlying3 (tr_fieldC Tryz.underlying39 h 1 3 1 1);obtain⟨c,ec,_⟩:=tr_int Tryz.underlying3 (tr_fieldC Tryz.underlying39 h 2 3 2 1);obtain⟨d,ed,_⟩:=tr_int Tryz.underlying3 (tr_fieldC Tryz.underlying39 h 3 3 3 1);obtain⟨v,L,ev,hv⟩:=open_ints (tr_fieldC Tryz.underlying39 h 4 23 4 1);obtain⟨p,q,rfl⟩:=hv.form;match cs,hl with
 | [x0,x1,x2,x3,x4],_=>
  obtain rfl:x0=_:=(List.cons.inj (show[x0]=_ from ea)).1;obtain rfl:x1=_:=(List.cons.inj (show[x1]=_ from eb)).1;obtain rfl:x2=_:=(List.cons.inj (show[x2]=_ from ec)).1;obtain rfl:x3=_:=(List.cons.inj (show[x3]=_ from ed)).1;obtain rfl:x4=_:=(List.cons.inj (show[x4]=_ from ev)).1;exact⟨⟨a,b,c,d,⟨p,L.length,q⟩⟩,rfl,trivial⟩
theorem open_op5s{cs:List Value}(h:Tr enc Tryz.prog W 67 cs):∃v L,cs=[v]∧Sl W.heap Op5T v L:=by
 obtain⟨v,L,h1,h2,_⟩:=tr_sliceQ (Q:=fun _=>True) Op5T_ok Tryz.underlying67 (by kernel_rfl) (fun cs h=>open_op5 h) h;exact⟨v,L,h1,h2⟩
end
theorem decOpT(cs:List Value)(h:fitsL [0,0,0,0,1,0,0,0,0,0,1,0,0,0,0,0,1,0,0] cs=true):∃x,OpT.enc x=cs:=by
 have hl:=fitsL_len h;match cs,hl,h with
 | [c0,c1,c2,c3,c4,c5,c6,c7,c8,c9,c10,c11,c12,c13,c14,c15,c16,c17,c18],_,h=>
  simp only[fitsL,Bool.and_eq_true]at h;obtain⟨c0,rfl⟩:=fit_int h.1;obtain⟨c1,rfl⟩:=fit_int h.2.1;obtain⟨c2,rfl⟩:=fit_int h.2.2.1;obtain⟨c3,rfl⟩:=fit_int h.2.2.2.1;obtain⟨c4,rfl⟩:=fit_str h.2.2.2.2.1;obtain⟨c5,rfl⟩:=fit_int h.2.2.2.2.2.1;obtain⟨c6,rfl⟩:=fit_int h.2.2.2.2.2.2.1;obtain⟨c7,rfl⟩:=fit_int h.2.2.2.2.2.2.2.1;obtain⟨c8,rfl⟩:=fit_int h.2.2.2.2.2.2.2.2.1;obtain⟨c9,rfl⟩:=fit_int h.2.2.2.2.2.2.2.2.2.1;obtain⟨c10,rfl⟩:=fit_str h.2.2.2.2.2.2.2.2.2.2.1;obtain⟨c11,rfl⟩:=fit_int h.2.2.2.2.2.2.2.2.2.2.2.1;obtain⟨c12,rfl⟩:=fit_int h.2.2.2.2.2.2.2.2.2.2.2.2.1;obtain⟨c13,rfl⟩:=fit_int h.2.2.2.2.2.2.2.2.2.2.2.2.2.1;obtain⟨c14,rfl⟩:=fit_int h.2.2.2.2.2.2.2.2.2.2.2.2.2.2.1;obtain⟨c15,rfl⟩:=fit_int h.2.2.2.2.2.2.2.2.2.2.2.2.2.2.2.1;obtain⟨c16,rfl⟩:=fit_str h.2.2.2.2.2.2.2.2.2.2.2.2.2.2.2.2.1;obtain⟨c17,rfl⟩:=fit_int h.2.2.2.2.2.2.2.2.2.2.2.2.2.2.2.2.2.1;obtain⟨c18,rfl⟩:=fit_int h.2.2.2.2.2.2.2.2.2.2.2.2.2.2.2.2.2.2.1;exact⟨⟨c0,⟨⟨c1,c2,c3,c4,c5⟩,c6⟩,⟨⟨c7,c8,c9,c10,c11⟩,c12⟩,⟨⟨c13,c14,c15,c16,c17⟩,c18⟩⟩,rfl⟩
end Go.Proofs.YtmhpcebiamkciaaGreat
end
