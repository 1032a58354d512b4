/-
  Layer 15: worlds that are made, the small case, MetaHandler. Each law says its conditions.
-/
import Derived.Test.YtmhpcebiamkciaaGreatG3
import Derived.Test.YtmhpcebiamkciaaGreatG1
import Derived.Lib.AppendZeros
import Derived.Lib.SliceRun
import Derived.Test.YtmhpcebiamkciaaGreatG2
section
set_option linter.unusedSimpArgs false
set_option linter.unusedVariables false
set_option maxRecDepth 100000
set_option maxHeartbeats 2000000
namespace Go.Proofs.YtmhpcebiamkciaaGreat
open Go.Hp Go.J Go.S
open Go.Mem (Ty KTy blk elemAt pre suf blk_pre blk_suf aget aset strK aggDesc)
open Go.Mem (adel apos aget_aset aget_adel)
def boxB:ByteArray:=⟨#[98,111,120]⟩
def mstep(i:Nat)(o:Opc)(s:Hst×List Vl):Hst×List Vl:=
 if o.kind=0 then (hmake s.1 (newO 4 0 eb []),if hmakeE s.1=0 then s.2++[hmakeV s.1 4] else s.2) else
 if o.kind=1 then (hdata s.1 boxB,if hdataE s.1 boxB=0 then s.2++[hdataV s.1 boxB] else s.2) else
 if o.kind=2 then (hmake s.1 (newO 5 (i:Int) eb []),if hmakeE s.1=0 then s.2++[hmakeV s.1 5] else s.2) else
 if o.kind=3 then (hset s.1 (ofS s.2 o.a) (ofS s.2 o.b) (ofS s.2 o.c),s.2) else
 (hsetMeta s.1 (ofS s.2 o.a) (ofS s.2 o.b),if o.kind≤2∧hsetMetaE s.1 (ofS s.2 o.a) (ofS s.2 o.b)=0 then s.2++[zVl] else s.2)
def mst(l:List Opc):Nat→Hst×List Vl
 | 0=>(hp0,[])
 | i+1=>match l[i]? with
  | some o=>mstep i o (mst l i)
  | none=>mst l i
theorem mst_succ{l:List Opc}{i:Nat}{y:Opc}(h:l[i]?=some y):mst l (i+1)=mstep i y (mst l i):=by rw[mst,h]
theorem mstep_good{i:Nat}{o:Opc}{s:Hst×List Vl}(h1:HInv s.1)(h2:HSm i s.1)(h3:s.2.length≤i):HInv (mstep i o s).1∧HSm (i+1) (mstep i o s).1∧(mstep i o s).2.length≤i+1:=by
 have hl:∀(p:Prop) [Decidable p] (v:Vl),(if p then s.2++[v] else s.2).length≤i+1:=fun p _ v=>by
  by_cases hp:p
  .rw [if_pos hp,List.length_append];exact Nat.add_le_add_right h3 1
  rw[if_neg hp];exact Nat.le_succ_of_le h3
 unfold mstep;split
 .exact ⟨hmake_inv h1 (newO_inv _ _ _ (by decide)),hmake_sm h2 rfl (by simp[newO]),hl _ _⟩
 split
 .unfold hdata;split
  .exact ⟨h1,h2.mono om,hl _ _⟩
  exact⟨hmake_inv h1 (newO_inv _ _ _ (by decide)),hmake_sm h2 rfl (by simp[newO]),hl _ _⟩
 split
 .exact ⟨hmake_inv h1 (newO_inv _ _ _ (by decide)),hmake_sm h2 rfl (by simp[newO]),hl _ _⟩
 split
 .exact ⟨hset_inv h1 _ _ _,hset_sm h1 h2 _ _ _,by show s.2.length≤_;omega⟩
 exact⟨hsetMeta_inv h1 _ _,hsetMeta_sm h2 _ _,hl _ _⟩
theorem mst_good(l:List Opc):∀i,HInv (mst l i).1∧HSm i (mst l i).1∧(mst l i).2.length≤i
 | 0=>⟨HInv.nil,HSm.nil,Nat.le_refl _⟩
 | i+1=>by
  obtain⟨h1,h2,h3⟩:=mst_good l i;rw[mst];split
  .exact mstep_good h1 h2 h3
  exact⟨h1,h2.mono om,by omega⟩
def made(l:List Opc):Hst×List Vl:=mst l (min 100 l.length)
theorem made_good(l:List Opc):HInv (made l).1∧HSm 100 (made l).1∧(made l).2.length≤100:=by
 obtain⟨h1,h2,h3⟩:=mst_good l (min 100 l.length);exact⟨h1,h2.mono om,by unfold made;omega⟩
theorem made_s{Z:Zone}{F:List Asr}{lv:Value}{l:List Opc}(hl0:Kn Z OpT lv l):SF Tryz.prog 34 #[lv] Z F fun r Bs=>∃hb gb lx,r=.tuple #[.agg #[ptrV hb,ptrV gb,lx],.bool true]∧Bs=hpA hb (made l).1::rhA gb (made l).1::own VlT lx (made l).2::F:=by
 refine sf_enter Tryz.func34 152 [(0,lv)] (fun w0=>?_);refine k_fact (fun H h=>(hl0.get h).len_le) (fun lA=>?_);refine k_sr<|s_alloc (.agg #[.pointer none,.pointer none,(.slice none 0 0)]) #[.pointer none,.pointer none,(.slice none 0 0)] (fun g1=>?_)
 refine sP (.bool false)<|s_nr<|s_pcall (fun _ h=>hnew_s) ?_
 rintro _ _ ⟨hb2,rfl,rfl⟩;refine s_pcall (fun _ h=>rhnew_s) ?_;rintro _ _ ⟨hb3,rfl,rfl⟩;refine sL (t_kern (.agg #[pB hb2 0,pB hb3 0,(.slice none 0 0)]))<|s_alloc (.agg #[.pointer none,.pointer none,(.slice none 0 0)]) #[.pointer none,.pointer none,(.slice none 0 0)] (fun g4=>?_)
 refine s_store 0 #[pB hb2 0,pB hb3 0,(.slice none 0 0)] ?_;refine s_nt<|k_seq<|k_sr<|sP (pB g4 0)<|sL (t_load 0 (pB hb2 0))<|sP (.bool false)<|s_nt<|k_false<|k_st<|k_seq<|k_sr<|sP (iw 0)<|s_nt<|k_block<|k_mem (fun _ h=>Holds.nilS (T:=VlT) h) ?_
 refine k_mem (Bs:=own VlT (.slice none 0 0) ((mst l 0).2)::blkA g4 #[pB hb2 0,pB hb3 0,(.slice none 0 0)] 30::rhA hb3 ((mst l 0).1)::hpA hb2 ((mst l 0).1)::blkA g1 #[.pointer none,.pointer none,(.slice none 0 0)] 30::F) (fun _ h=>h) ?_;refine k_loop (ι:=Value×Nat) (fun (lx,i)=>i≤100∧i≤l.length) (fun (lx,i)=>[(0,lv),(2,pB g1 0),(4,pB g4 0),(5,iw (i:Int))]) (fun (lx,i)=>own VlT lx ((mst l i).2)::blkA g4 #[pB hb2 0,pB hb3 0,lx] 30::rhA hb3 ((mst l i).1)::hpA hb2 ((mst l i).1)::blkA g1 #[.pointer none,.pointer none,(.slice none 0 0)] 30::F) (fun (lx,i)=>100-i) ((.slice none 0 0),0) ⟨by omega,by omega⟩ sA (rr [0,0,0,0,0] []) ?_;rintro⟨lx,i⟩ hi5;replace hi5:i≤100∧i≤l.length:=hi5;show SK _ _ _ _ _ [(0,lv),(2,.pointer (some ⟨g1,0,none⟩)),(4,.pointer (some ⟨g4,0,none⟩)),(5,iw (i:Int))] _ (own VlT lx ((mst l i).2)::blkA g4 #[.pointer (some ⟨hb2,0,none⟩),.pointer (some ⟨hb3,0,none⟩),lx] 30::rhA hb3 ((mst l i).1)::hpA hb2 ((mst l i).1)::blkA g1 #[.pointer none,.pointer none,(.slice none 0 0)] 30::F);obtain⟨hinv,hsm,hll⟩:=mst_good l i;refine k_seq<|k_cut (ι:=Unit) (fun _=>True) (fun _=>[(0,lv),(2,pB g1 0),(4,pB g4 0),(5,iw (i:Int)),(27,.bool ((decide ((i:Int)<(l.length:Int)))&&(decide ((i:Int)<100))))]) (fun _=>own VlT lx ((mst l i).2)::blkA g4 #[pB hb2 0,pB hb3 0,lx] 30::rhA hb3 ((mst l i).1)::hpA hb2 ((mst l i).1)::blkA g1 #[.pointer none,.pointer none,(.slice none 0 0)] 30::F) ?_ (fun _ _=>?_)
 .refine k_reg<|sP (iw (i:Int))<|sP lv<|sL (t_len OpT_ok Tryz.underlying22 (.zn hl0))<|sL t_cmp<|sP (.bool (decide ((i:Int)<(l.length:Int))))<|s_fork 24 (decide ((i:Int)<(l.length:Int))) (fun c6=>?_) (fun c6=>?_)
  .have p7:=dY c6;refine sP (iw (i:Int))<|sL t_cmp<|sP (.bool (decide ((i:Int)<100)))<|s_nil ?_
   exact xs_cut () trivial (sub_of rfl (rQ (rQ (rQ (rQ ⟨⟨rfl,show Value.bool (decide ((i:Int)<100))=Value.bool ((decide ((i:Int)<(l.length:Int)))&&(decide ((i:Int)<100))) by first|(simp only[c6,bls];done)|simp[c6]⟩,trivial⟩))))) (rr [0,0,0,0,0] [])
  have p8:=dF c6;refine sK<|sK<|sP (.bool false)<|s_nil ?_
  exact xs_cut () trivial (sub_of rfl (rQ (rQ (rQ (rQ ⟨⟨rfl,show Value.bool false=Value.bool ((decide ((i:Int)<(l.length:Int)))&&(decide ((i:Int)<100))) by first|(simp only[c6,bls];done)|simp[c6]⟩,trivial⟩))))) (rr [0,0,0,0,0] [])
 refine k_cond ((decide ((i:Int)<(l.length:Int)))&&(decide ((i:Int)<100))) (fun c9=>?_) (fun c9=>?_)
 .obtain ⟨c10,c11⟩:=and_t c9;have p12:=dY c10;have p13:=dY c11;refine k_st<|k_seq<|k_block ?_
  obtain⟨y14,hy15⟩:∃y,l[i]?=some y:=⟨_,List.getElem?_eq_getElem ol⟩;refine k_seq<|k_held [own VlT lx ((mst l i).2),blkA g4 #[pB hb2 0,pB hb3 0,lx] 30,blkA g1 #[.pointer none,.pointer none,(.slice none 0 0)] 30] ?_
  refine h_l 0 rfl [0,0,2] (fun _=>(t_loadA 1 #[pB hb2 0,pB hb3 0,lx])) ?_;refine hp_ 1 [0,0,2] lv ?_;refine hp_ 2 [0,0,2] (iw (i:Int)) ?_;refine h_l 3 rfl [0,0,2] (fun _=>(t_index OpT_ok Tryz.underlying22 (.zn hl0) (i:Int) i om ol om)) ?_;refine hp_ 4 [0,0,2] (.pointer (some ((elemAt OpT.size lv i).add 1))) ?_;refine h_l 5 rfl [0,0,2] (fun _=>(t_loadG 1 #[iw y14.a.v.kind,iw y14.a.v.p,iw y14.a.v.q,sw y14.a.v.str,iw y14.a.v.ref,iw y14.a.obj] OpT_ok (.zn hl0) hy15)) ?_;refine h_l 7 rfl [0,0,2] (fun _=>(t_loadA 1 #[pB hb2 0,pB hb3 0,lx])) ?_;refine hp_ 8 [0,0,2] lv ?_;refine hp_ 9 [0,0,2] (iw (i:Int)) ?_;refine h_l 10 rfl [0,0,2] (fun _=>(t_index OpT_ok Tryz.underlying22 (.zn hl0) (i:Int) i om ol om)) ?_;refine hp_ 11 [0,0,2] (.pointer (some ((elemAt OpT.size lv i).add 7))) ?_;refine h_l 12 rfl [0,0,2] (fun _=>(t_loadG 7 #[iw y14.b.v.kind,iw y14.b.v.p,iw y14.b.v.q,sw y14.b.v.str,iw y14.b.v.ref,iw y14.b.obj] OpT_ok (.zn hl0) hy15)) ?_;refine h_l 14 rfl [0,0,2] (fun _=>(t_loadA 1 #[pB hb2 0,pB hb3 0,lx])) ?_;refine hp_ 15 [0,0,2] lv ?_;refine hp_ 16 [0,0,2] (iw (i:Int)) ?_;refine h_l 17 rfl [0,0,2] (fun _=>(t_index OpT_ok Tryz.underlying22 (.zn hl0) (i:Int) i om ol om)) ?_;refine hp_ 18 [0,0,2] (.pointer (some ((elemAt OpT.size lv i).add 13))) ?_;refine h_l 19 rfl [0,0,2] (fun _=>(t_loadG 13 #[iw y14.c.v.kind,iw y14.c.v.p,iw y14.c.v.q,sw y14.c.v.str,iw y14.c.v.ref,iw y14.c.obj] OpT_ok (.zn hl0) hy15)) ?_;refine h_join (ι:=Nat×Nat×Nat) 3 #[true,true,true,true,true,true,true,true,true,true,true,true,true,true,true,true,true,true,true,true,true,true,true,true,false,false,false] (fun (g16,g17,g18)=>[(0,lv),(2,pB g1 0),(4,pB g4 0),(5,iw (i:Int)),(6,pB g16 0),(7,pB g17 0),(8,pB g18 0),(36,.agg (vc (ofS ((mst l i).2) y14.a))),(43,.agg (vc (ofS ((mst l i).2) y14.b))),(50,.agg (vc (ofS ((mst l i).2) y14.c)))]) (fun (g16,g17,g18)=>blkA g18 zc 71::blkA g17 zc 71::blkA g16 zc 71::own VlT lx ((mst l i).2)::blkA g4 #[pB hb2 0,pB hb3 0,lx] 30::rhA hb3 ((mst l i).1)::hpA hb2 ((mst l i).1)::blkA g1 #[.pointer none,.pointer none,(.slice none 0 0)] 30::F) ?_ (fun hj64=>?_)
  .rintro ⟨g16,g17,g18⟩;try dsimp only
   refine h_stepS 24 ?_;refine s_store 2 (vc (ofS ((mst l i).2) y14.a)) ?_;refine nH [3,3,5]<|h_stepS 25 ?_
   refine s_store 1 (vc (ofS ((mst l i).2) y14.b)) ?_;refine nH [3,3,5]<|h_stepS 26 ?_
   refine s_store 0 (vc (ofS ((mst l i).2) y14.c)) ?_;refine nH [3,3,5]<|h_doneS ?_
   refine xs_then<|k_sr<|sL (t_kern (.agg zc))<|sL (t_kern (.agg zc))<|s_alloc (.agg zc) zc (fun g65=>?_)
   refine s_alloc (.agg zc) zc (fun g66=>?_);refine s_store 1 zc ?_;refine s_store 0 zc ?_;refine s_nr<|sP2 (iw 0)<|s_nt<|k_seq<|k_sr<|sP lv<|sP (iw (i:Int))<|sL (t_index OpT_ok Tryz.underlying22 (.zn hl0) (i:Int) i om ol om)<|sP (.pointer (some (elemAt OpT.size lv i)))<|sL (t_loadF 0 OpT_ok (.zn hl0) hy15)<|s_nt<|k_block<|k_sr<|sL t_cmp<|sP (.bool (decide (y14.kind=0)))<|s_nt<|k_cond (decide (y14.kind=0)) (fun c67=>?_) (fun c67=>?_)
   .have p68:=dY c67;refine k_sr<|sP (pB g4 0)<|sL (t_load 6 (pB hb2 0))<|sC [8] (hnewtable_s (st:=(mst l i).1) (by have:=hsm.len;omega)) ?_
    refine sP (.tuple #[.agg (vc (hmakeV ((mst l i).1) 4)),iw (hmakeE ((mst l i).1))])<|sP (.agg (vc (hmakeV ((mst l i).1) 4)))<|sP (iw (hmakeE ((mst l i).1)))<|s_store 2 (vc (hmakeV ((mst l i).1) 4)) ?_
    refine sP (iw (hmakeE ((mst l i).1)))<|s_nt<|k_reg<|sP (pB g4 1)<|sL (t_load 7 (pB hb3 0))<|sC [8] (rhnewtable_s (st:=(mst l i).1) (by have:=hsm.len;omega)) ?_
    refine sP (.tuple #[.agg (vc (hmakeV ((mst l i).1) 4)),iw (hmakeE ((mst l i).1))])<|sP (.agg (vc (hmakeV ((mst l i).1) 4)))<|sP (iw (hmakeE ((mst l i).1)))<|s_store 2 (vc (hmakeV ((mst l i).1) 4)) ?_
    refine sP (iw (hmakeE ((mst l i).1)))<|s_nil<|xs_block<|xs_then<|k_seq<|k_sr<|sL (t_loadA 3 (vc (hmakeV ((mst l i).1) 4)))<|sL (t_loadA 2 (vc (hmakeV ((mst l i).1) 4)))<|sL (Lt.to (t_eqS (fun w=>(eqVlT (hmakeV ((mst l i).1) 4) (hmakeV ((mst l i).1) 4) w).2)) (cB ((congrArg Bool.not (decide_eq_true rfl:(decide ((hmakeV ((mst l i).1) 4)=(hmakeV ((mst l i).1) 4)))=true)).trans rfl:(!(decide ((hmakeV ((mst l i).1) 4)=(hmakeV ((mst l i).1) 4))))=false)))<|sP (.bool false)<|sP2 (iw (hmakeE ((mst l i).1)))<|sL (Lt.to t_cmp (cB (decide_eq_false (fun h=>h rfl):(decide ((hmakeE ((mst l i).1))≠(hmakeE ((mst l i).1))))=false)))<|sP (.bool false)<|s_nt<|k_false<|k_st<|k_sr<|sP lv<|sP (iw (i:Int))<|sL (t_index OpT_ok Tryz.underlying22 (.zn hl0) (i:Int) i om ol om)<|sP (.pointer (some (elemAt OpT.size lv i)))<|sL (t_loadF 0 OpT_ok (.zn hl0) hy15)<|sL (Lt.to t_cmp (cB (decide_eq_true (by have:=dY c67;omega):(decide (y14.kind≤2))=true)))<|sP (.bool true)<|sP (iw (hmakeE ((mst l i).1)))<|sL t_cmp<|sP (.bool (decide ((hmakeE ((mst l i).1))=0)))<|s_nt<|k_cond (decide ((hmakeE ((mst l i).1))=0)) (fun c69=>?_) (fun c69=>?_)
    .have p70:=dY c69;refine k_reg<|sP (pB g4 2)<|sL (t_load 8 lx)<|sL (t_loadA 3 (vc (hmakeV ((mst l i).1) 4)))<|s_buildSlice (e:=71) [(0,.agg (vc (hmakeV ((mst l i).1) 4)))] (vc (hmakeV ((mst l i).1) 4)) (fun g71=>?_) (hb:=by kernel_rfl)
     refine s_append (L:=(mst l i).2) 8 VlT_ok Tryz.underlying28 (.lit 0 VlT_ok [(hmakeV ((mst l i).1) 4)]) (by show _*48≤_;(try simp only[lnm]);omega) ol (fun v72=>?_);refine sP (pB g4 2)<|sF 8 (fun hf73=>?_)
     refine s_store (u:=v72) (m:=1) 9 #[pB hb2 0,pB hb3 0,v72] ?_ (hm:=by (obtain⟨_,_,e⟩:=hf73;rw[e];rfl)) (h1:=by (obtain⟨_,_,e⟩:=hf73;rw[e];rfl)) (ha':=by (obtain⟨_,_,e⟩:=hf73;rw[e];rfl));refine s_nil<|xs_block<|xs_then<|k_reg<|sP (iw (i:Int))<|sL (t_add (i:Int) 1 ol)<|sP (iw ((i:Int)+1))<|s_nil ?_
     have hms:=mst_succ hy15;have h1:(hmake ((mst l i).1) (newO 4 0 eb []))=(mst l (i+1)).1:=by rw[hms];unfold mstep;simp[dY c67,boxB]
     have h2:((mst l i).2++[(hmakeV ((mst l i).1) 4)])=(mst l (i+1)).2:=by rw[hms];unfold mstep;simp_all[boxB]
     refine xs_mem (Bs:=blkA g71 (vc (hmakeV ((mst l i).1) 4)) 71::rhA hb3 ((mst l (i+1)).1)::hpA hb2 ((mst l (i+1)).1)::blkA g66 (vc (hmakeV ((mst l i).1) 4)) 71::blkA g65 (vc (hmakeV ((mst l i).1) 4)) 71::blkA g18 (vc (ofS ((mst l i).2) y14.c)) 71::blkA g17 (vc (ofS ((mst l i).2) y14.b)) 71::blkA g16 (vc (ofS ((mst l i).2) y14.a)) 71::own VlT v72 ((mst l (i+1)).2)::blkA g4 #[pB hb2 0,pB hb3 0,v72] 30::blkA g1 #[.pointer none,.pointer none,(.slice none 0 0)] 30::F) (fun _ h=>by rw[←h1,←h2];exact h) ?_;exact xs_round (v72,i+1) (by show 100-(i+1)<100-i;omega) (by show i+1≤100∧i+1≤l.length;omega) sA (rr [8,8,1,1,6] [5,5,5,5,5,5])
    have p74:=dF c69;refine k_skip<|xs_block<|xs_then<|k_reg<|sP (iw (i:Int))<|sL (t_add (i:Int) 1 ol)<|sP (iw ((i:Int)+1))<|s_nil ?_
    have hms:=mst_succ hy15;have h1:(hmake ((mst l i).1) (newO 4 0 eb []))=(mst l (i+1)).1:=by rw[hms];unfold mstep;simp[dY c67,boxB]
    have h2:(mst l i).2=(mst l (i+1)).2:=by rw[hms];unfold mstep;simp_all[boxB]
    refine xs_mem (Bs:=rhA hb3 ((mst l (i+1)).1)::hpA hb2 ((mst l (i+1)).1)::blkA g66 (vc (hmakeV ((mst l i).1) 4)) 71::blkA g65 (vc (hmakeV ((mst l i).1) 4)) 71::blkA g18 (vc (ofS ((mst l i).2) y14.c)) 71::blkA g17 (vc (ofS ((mst l i).2) y14.b)) 71::blkA g16 (vc (ofS ((mst l i).2) y14.a)) 71::own VlT lx ((mst l (i+1)).2)::blkA g4 #[pB hb2 0,pB hb3 0,lx] 30::blkA g1 #[.pointer none,.pointer none,(.slice none 0 0)] 30::F) (fun _ h=>by rw[←h1,←h2];exact h) ?_;exact xs_round (lx,i+1) (by show 100-(i+1)<100-i;omega) (by show i+1≤100∧i+1≤l.length;omega) sA (rr [7,7,0,0,5] [5,5,5,5,5])
   have p75:=dF c67;refine k_sr<|sL t_cmp<|sP (.bool (decide (y14.kind=1)))<|s_nt<|k_cond (decide (y14.kind=1)) (fun c76=>?_) (fun c76=>?_)
   .have p77:=dY c76;refine k_sr<|sP (pB g4 0)<|sL (t_load 6 (pB hb2 0))<|sC [8] (hnewdata_s (st:=(mst l i).1) (by have:=hsm.len;omega) ⟨#[98,111,120]⟩) ?_
    refine sP (.tuple #[.agg (vc (hdataV ((mst l i).1) ⟨#[98,111,120]⟩)),iw (hdataE ((mst l i).1) ⟨#[98,111,120]⟩)])<|sP (.agg (vc (hdataV ((mst l i).1) ⟨#[98,111,120]⟩)))<|sP (iw (hdataE ((mst l i).1) ⟨#[98,111,120]⟩))<|s_store 2 (vc (hdataV ((mst l i).1) ⟨#[98,111,120]⟩)) ?_
    refine sP (iw (hdataE ((mst l i).1) ⟨#[98,111,120]⟩))<|s_nt<|k_reg<|sP (pB g4 1)<|sL (t_load 7 (pB hb3 0))<|sC [8] (rhnewdata_s (st:=(mst l i).1) (by have:=hsm.len;omega) ⟨#[98,111,120]⟩) ?_
    refine sP (.tuple #[.agg (vc (hdataV ((mst l i).1) ⟨#[98,111,120]⟩)),iw (hdataE ((mst l i).1) ⟨#[98,111,120]⟩)])<|sP (.agg (vc (hdataV ((mst l i).1) ⟨#[98,111,120]⟩)))<|sP (iw (hdataE ((mst l i).1) ⟨#[98,111,120]⟩))<|s_store 2 (vc (hdataV ((mst l i).1) ⟨#[98,111,120]⟩)) ?_
    refine sP (iw (hdataE ((mst l i).1) ⟨#[98,111,120]⟩))<|s_nil<|xs_block<|xs_then<|k_seq<|k_sr<|sL (t_loadA 3 (vc (hdataV ((mst l i).1) ⟨#[98,111,120]⟩)))<|sL (t_loadA 2 (vc (hdataV ((mst l i).1) ⟨#[98,111,120]⟩)))<|sL (Lt.to (t_eqS (fun w=>(eqVlT (hdataV ((mst l i).1) ⟨#[98,111,120]⟩) (hdataV ((mst l i).1) ⟨#[98,111,120]⟩) w).2)) (cB ((congrArg Bool.not (decide_eq_true rfl:(decide ((hdataV ((mst l i).1) ⟨#[98,111,120]⟩)=(hdataV ((mst l i).1) ⟨#[98,111,120]⟩)))=true)).trans rfl:(!(decide ((hdataV ((mst l i).1) ⟨#[98,111,120]⟩)=(hdataV ((mst l i).1) ⟨#[98,111,120]⟩))))=false)))<|sP (.bool false)<|sP2 (iw (hdataE ((mst l i).1) ⟨#[98,111,120]⟩))<|sL (Lt.to t_cmp (cB (decide_eq_false (fun h=>h rfl):(decide ((hdataE ((mst l i).1) ⟨#[98,111,120]⟩)≠(hdataE ((mst l i).1) ⟨#[98,111,120]⟩)))=false)))<|sP (.bool false)<|s_nt<|k_false<|k_st<|k_sr<|sP lv<|sP (iw (i:Int))<|sL (t_index OpT_ok Tryz.underlying22 (.zn hl0) (i:Int) i om ol om)<|sP (.pointer (some (elemAt OpT.size lv i)))<|sL (t_loadF 0 OpT_ok (.zn hl0) hy15)<|sL (Lt.to t_cmp (cB (decide_eq_true (by have:=dY c76;omega):(decide (y14.kind≤2))=true)))<|sP (.bool true)<|sP (iw (hdataE ((mst l i).1) ⟨#[98,111,120]⟩))<|sL t_cmp<|sP (.bool (decide ((hdataE ((mst l i).1) ⟨#[98,111,120]⟩)=0)))<|s_nt<|k_cond (decide ((hdataE ((mst l i).1) ⟨#[98,111,120]⟩)=0)) (fun c78=>?_) (fun c78=>?_)
    .have p79:=dY c78;refine k_reg<|sP (pB g4 2)<|sL (t_load 8 lx)<|sL (t_loadA 3 (vc (hdataV ((mst l i).1) ⟨#[98,111,120]⟩)))<|s_buildSlice (e:=71) [(0,.agg (vc (hdataV ((mst l i).1) ⟨#[98,111,120]⟩)))] (vc (hdataV ((mst l i).1) ⟨#[98,111,120]⟩)) (fun g80=>?_) (hb:=by kernel_rfl)
     refine s_append (L:=(mst l i).2) 8 VlT_ok Tryz.underlying28 (.lit 0 VlT_ok [(hdataV ((mst l i).1) ⟨#[98,111,120]⟩)]) (by show _*48≤_;(try simp only[lnm]);omega) ol (fun v81=>?_);refine sP (pB g4 2)<|sF 8 (fun hf82=>?_)
     refine s_store (u:=v81) (m:=1) 9 #[pB hb2 0,pB hb3 0,v81] ?_ (hm:=by (obtain⟨_,_,e⟩:=hf82;rw[e];rfl)) (h1:=by (obtain⟨_,_,e⟩:=hf82;rw[e];rfl)) (ha':=by (obtain⟨_,_,e⟩:=hf82;rw[e];rfl));refine s_nil<|xs_block<|xs_then<|k_reg<|sP (iw (i:Int))<|sL (t_add (i:Int) 1 ol)<|sP (iw ((i:Int)+1))<|s_nil ?_
     have hms:=mst_succ hy15;have h1:(hdata ((mst l i).1) ⟨#[98,111,120]⟩)=(mst l (i+1)).1:=by rw[hms];unfold mstep;simp[dF c67,dY c76,boxB]
     have h2:((mst l i).2++[(hdataV ((mst l i).1) ⟨#[98,111,120]⟩)])=(mst l (i+1)).2:=by rw[hms];unfold mstep;simp_all[boxB]
     refine xs_mem (Bs:=blkA g80 (vc (hdataV ((mst l i).1) ⟨#[98,111,120]⟩)) 71::rhA hb3 ((mst l (i+1)).1)::hpA hb2 ((mst l (i+1)).1)::blkA g66 (vc (hdataV ((mst l i).1) ⟨#[98,111,120]⟩)) 71::blkA g65 (vc (hdataV ((mst l i).1) ⟨#[98,111,120]⟩)) 71::blkA g18 (vc (ofS ((mst l i).2) y14.c)) 71::blkA g17 (vc (ofS ((mst l i).2) y14.b)) 71::blkA g16 (vc (ofS ((mst l i).2) y14.a)) 71::own VlT v81 ((mst l (i+1)).2)::blkA g4 #[pB hb2 0,pB hb3 0,v81] 30::blkA g1 #[.pointer none,.pointer none,(.slice none 0 0)] 30::F) (fun _ h=>by rw[←h1,←h2];exact h) ?_;exact xs_round (v81,i+1) (by show 100-(i+1)<100-i;omega) (by show i+1≤100∧i+1≤l.length;omega) sA (rr [8,8,1,1,6] [5,5,5,5,5,5])
    have p83:=dF c78;refine k_skip<|xs_block<|xs_then<|k_reg<|sP (iw (i:Int))<|sL (t_add (i:Int) 1 ol)<|sP (iw ((i:Int)+1))<|s_nil ?_
    have hms:=mst_succ hy15;have h1:(hdata ((mst l i).1) ⟨#[98,111,120]⟩)=(mst l (i+1)).1:=by rw[hms];unfold mstep;simp[dF c67,dY c76,boxB]
    have h2:(mst l i).2=(mst l (i+1)).2:=by rw[hms];unfold mstep;simp_all[boxB]
    refine xs_mem (Bs:=rhA hb3 ((mst l (i+1)).1)::hpA hb2 ((mst l (i+1)).1)::blkA g66 (vc (hdataV ((mst l i).1) ⟨#[98,111,120]⟩)) 71::blkA g65 (vc (hdataV ((mst l i).1) ⟨#[98,111,120]⟩)) 71::blkA g18 (vc (ofS ((mst l i).2) y14.c)) 71::blkA g17 (vc (ofS ((mst l i).2) y14.b)) 71::blkA g16 (vc (ofS ((mst l i).2) y14.a)) 71::own VlT lx ((mst l (i+1)).2)::blkA g4 #[pB hb2 0,pB hb3 0,lx] 30::blkA g1 #[.pointer none,.pointer none,(.slice none 0 0)] 30::F) (fun _ h=>by rw[←h1,←h2];exact h) ?_;exact xs_round (lx,i+1) (by show 100-(i+1)<100-i;omega) (by show i+1≤100∧i+1≤l.length;omega) sA (rr [7,7,0,0,5] [5,5,5,5,5])
   have p84:=dF c76;refine k_sr<|sL t_cmp<|sP (.bool (decide (y14.kind=2)))<|s_nt<|k_cond (decide (y14.kind=2)) (fun c85=>?_) (fun c85=>?_)
   .have p86:=dY c85;refine k_sr<|sP (pB g4 0)<|sL (t_load 6 (pB hb2 0))<|sP (iw (i:Int))<|sC [8] (hnewfunc_s (st:=(mst l i).1) (by have:=hsm.len;omega) (i:Int)) ?_
    refine sP (.tuple #[.agg (vc (hmakeV ((mst l i).1) 5)),iw (hmakeE ((mst l i).1))])<|sP (.agg (vc (hmakeV ((mst l i).1) 5)))<|sP (iw (hmakeE ((mst l i).1)))<|s_store 2 (vc (hmakeV ((mst l i).1) 5)) ?_
    refine sP (iw (hmakeE ((mst l i).1)))<|s_nt<|k_reg<|sP (pB g4 1)<|sL (t_load 7 (pB hb3 0))<|sP (iw (i:Int))<|sC [8] (rhnewfunc_s (st:=(mst l i).1) (by have:=hsm.len;omega) (i:Int)) ?_
    refine sP (.tuple #[.agg (vc (hmakeV ((mst l i).1) 5)),iw (hmakeE ((mst l i).1))])<|sP (.agg (vc (hmakeV ((mst l i).1) 5)))<|sP (iw (hmakeE ((mst l i).1)))<|s_store 2 (vc (hmakeV ((mst l i).1) 5)) ?_
    refine sP (iw (hmakeE ((mst l i).1)))<|s_nil<|xs_block<|xs_then<|k_seq<|k_sr<|sL (t_loadA 3 (vc (hmakeV ((mst l i).1) 5)))<|sL (t_loadA 2 (vc (hmakeV ((mst l i).1) 5)))<|sL (Lt.to (t_eqS (fun w=>(eqVlT (hmakeV ((mst l i).1) 5) (hmakeV ((mst l i).1) 5) w).2)) (cB ((congrArg Bool.not (decide_eq_true rfl:(decide ((hmakeV ((mst l i).1) 5)=(hmakeV ((mst l i).1) 5)))=true)).trans rfl:(!(decide ((hmakeV ((mst l i).1) 5)=(hmakeV ((mst l i).1) 5))))=false)))<|sP (.bool false)<|sP2 (iw (hmakeE ((mst l i).1)))<|sL (Lt.to t_cmp (cB (decide_eq_false (fun h=>h rfl):(decide ((hmakeE ((mst l i).1))≠(hmakeE ((mst l i).1))))=false)))<|sP (.bool false)<|s_nt<|k_false<|k_st<|k_sr<|sP lv<|sP (iw (i:Int))<|sL (t_index OpT_ok Tryz.underlying22 (.zn hl0) (i:Int) i om ol om)<|sP (.pointer (some (elemAt OpT.size lv i)))<|sL (t_loadF 0 OpT_ok (.zn hl0) hy15)<|sL (Lt.to t_cmp (cB (decide_eq_true (by have:=dY c85;omega):(decide (y14.kind≤2))=true)))<|sP (.bool true)<|sP (iw (hmakeE ((mst l i).1)))<|sL t_cmp<|sP (.bool (decide ((hmakeE ((mst l i).1))=0)))<|s_nt<|k_cond (decide ((hmakeE ((mst l i).1))=0)) (fun c87=>?_) (fun c87=>?_)
    .have p88:=dY c87;refine k_reg<|sP (pB g4 2)<|sL (t_load 8 lx)<|sL (t_loadA 3 (vc (hmakeV ((mst l i).1) 5)))<|s_buildSlice (e:=71) [(0,.agg (vc (hmakeV ((mst l i).1) 5)))] (vc (hmakeV ((mst l i).1) 5)) (fun g89=>?_) (hb:=by kernel_rfl)
     refine s_append (L:=(mst l i).2) 8 VlT_ok Tryz.underlying28 (.lit 0 VlT_ok [(hmakeV ((mst l i).1) 5)]) (by show _*48≤_;(try simp only[lnm]);omega) ol (fun v90=>?_);refine sP (pB g4 2)<|sF 8 (fun hf91=>?_)
     refine s_store (u:=v90) (m:=1) 9 #[pB hb2 0,pB hb3 0,v90] ?_ (hm:=by (obtain⟨_,_,e⟩:=hf91;rw[e];rfl)) (h1:=by (obtain⟨_,_,e⟩:=hf91;rw[e];rfl)) (ha':=by (obtain⟨_,_,e⟩:=hf91;rw[e];rfl));refine s_nil<|xs_block<|xs_then<|k_reg<|sP (iw (i:Int))<|sL (t_add (i:Int) 1 ol)<|sP (iw ((i:Int)+1))<|s_nil ?_
     have hms:=mst_succ hy15;have h1:(hmake ((mst l i).1) (newO 5 (i:Int) eb []))=(mst l (i+1)).1:=by rw[hms];unfold mstep;simp[dF c67,dF c76,dY c85,boxB]
     have h2:((mst l i).2++[(hmakeV ((mst l i).1) 5)])=(mst l (i+1)).2:=by rw[hms];unfold mstep;simp_all[boxB]
     refine xs_mem (Bs:=blkA g89 (vc (hmakeV ((mst l i).1) 5)) 71::rhA hb3 ((mst l (i+1)).1)::hpA hb2 ((mst l (i+1)).1)::blkA g66 (vc (hmakeV ((mst l i).1) 5)) 71::blkA g65 (vc (hmakeV ((mst l i).1) 5)) 71::blkA g18 (vc (ofS ((mst l i).2) y14.c)) 71::blkA g17 (vc (ofS ((mst l i).2) y14.b)) 71::blkA g16 (vc (ofS ((mst l i).2) y14.a)) 71::own VlT v90 ((mst l (i+1)).2)::blkA g4 #[pB hb2 0,pB hb3 0,v90] 30::blkA g1 #[.pointer none,.pointer none,(.slice none 0 0)] 30::F) (fun _ h=>by rw[←h1,←h2];exact h) ?_;exact xs_round (v90,i+1) (by show 100-(i+1)<100-i;omega) (by show i+1≤100∧i+1≤l.length;omega) sA (rr [8,8,1,1,6] [5,5,5,5,5,5])
    have p92:=dF c87;refine k_skip<|xs_block<|xs_then<|k_reg<|sP (iw (i:Int))<|sL (t_add (i:Int) 1 ol)<|sP (iw ((i:Int)+1))<|s_nil ?_
    have hms:=mst_succ hy15;have h1:(hmake ((mst l i).1) (newO 5 (i:Int) eb []))=(mst l (i+1)).1:=by rw[hms];unfold mstep;simp[dF c67,dF c76,dY c85,boxB]
    have h2:(mst l i).2=(mst l (i+1)).2:=by rw[hms];unfold mstep;simp_all[boxB]
    refine xs_mem (Bs:=rhA hb3 ((mst l (i+1)).1)::hpA hb2 ((mst l (i+1)).1)::blkA g66 (vc (hmakeV ((mst l i).1) 5)) 71::blkA g65 (vc (hmakeV ((mst l i).1) 5)) 71::blkA g18 (vc (ofS ((mst l i).2) y14.c)) 71::blkA g17 (vc (ofS ((mst l i).2) y14.b)) 71::blkA g16 (vc (ofS ((mst l i).2) y14.a)) 71::own VlT lx ((mst l (i+1)).2)::blkA g4 #[pB hb2 0,pB hb3 0,lx] 30::blkA g1 #[.pointer none,.pointer none,(.slice none 0 0)] 30::F) (fun _ h=>by rw[←h1,←h2];exact h) ?_;exact xs_round (lx,i+1) (by show 100-(i+1)<100-i;omega) (by show i+1≤100∧i+1≤l.length;omega) sA (rr [7,7,0,0,5] [5,5,5,5,5])
   have p93:=dF c85;refine k_sr<|sL t_cmp<|sP (.bool (decide (y14.kind=3)))<|s_nt<|k_cond (decide (y14.kind=3)) (fun c94=>?_) (fun c94=>?_)
   .have p95:=dY c94;refine k_held [blkA g66 zc 71,blkA g65 zc 71,blkA g18 (vc (ofS ((mst l i).2) y14.c)) 71,blkA g17 (vc (ofS ((mst l i).2) y14.b)) 71,blkA g16 (vc (ofS ((mst l i).2) y14.a)) 71,own VlT lx ((mst l i).2),blkA g4 #[pB hb2 0,pB hb3 0,lx] 30,blkA g1 #[.pointer none,.pointer none,(.slice none 0 0)] 30] ?_;refine hp_ 0 [0,0,0,0,0,0,0,2] (pB g4 0) ?_;refine h_l 1 rfl [0,0,0,0,0,0,0,2] (fun _=>(t_load 6 (pB hb2 0))) ?_;refine h_l 2 rfl [0,0,0,0,0,0,0,2] (fun _=>(t_loadA 4 (vc (ofS ((mst l i).2) y14.a)))) ?_;refine h_l 3 rfl [0,0,0,0,0,0,0,2] (fun _=>(t_loadA 3 (vc (ofS ((mst l i).2) y14.b)))) ?_;refine h_l 4 rfl [0,0,0,0,0,0,0,2] (fun _=>(t_loadA 2 (vc (ofS ((mst l i).2) y14.c)))) ?_;refine hp_ 6 [0,0,0,0,0,0,0,2] (pB g4 1) ?_;refine h_l 7 rfl [0,0,0,0,0,0,0,2] (fun _=>(t_load 6 (pB hb3 0))) ?_;refine h_l 8 rfl [0,0,0,0,0,0,0,2] (fun _=>(t_loadA 4 (vc (ofS ((mst l i).2) y14.a)))) ?_;refine h_l 9 rfl [0,0,0,0,0,0,0,2] (fun _=>(t_loadA 3 (vc (ofS ((mst l i).2) y14.b)))) ?_;refine h_l 10 rfl [0,0,0,0,0,0,0,2] (fun _=>(t_loadA 2 (vc (ofS ((mst l i).2) y14.c)))) ?_;refine h_stepS 5 ?_;refine sC [8] (hset_s (st:=(mst l i).1) hsm om (ofS ((mst l i).2) y14.a) (ofS ((mst l i).2) y14.b) (ofS ((mst l i).2) y14.c)) ?_;refine nH [1,1,1,1,1,1,1,2]<|h_stepS 11 ?_
    refine sC [8] (rhset_s (st:=(mst l i).1) hsm om (ofS ((mst l i).2) y14.a) (ofS ((mst l i).2) y14.b) (ofS ((mst l i).2) y14.c)) ?_;refine nH [2,2,2,2,2,2,2,2]<|hp_ 12 [2,2,2,2,2,2,2,2] (iw (hsetE ((mst l i).1) (ofS ((mst l i).2) y14.a) (ofS ((mst l i).2) y14.b) (ofS ((mst l i).2) y14.c))) ?_
    refine hp_ 13 [2,2,2,2,2,2,2,2] (iw (hsetE ((mst l i).1) (ofS ((mst l i).2) y14.a) (ofS ((mst l i).2) y14.b) (ofS ((mst l i).2) y14.c))) ?_;refine h_doneS ?_;refine xs_block<|xs_then<|k_seq<|k_sr<|sL (t_loadA 3 zc)<|sL (t_loadA 2 zc)<|sL (Lt.to (t_eqS (fun w=>(eqVlT zVl zVl w).2)) (cB ((congrArg Bool.not (decide_eq_true rfl:(decide (zVl=zVl))=true)).trans rfl:(!(decide (zVl=zVl)))=false)))<|sP (.bool false)<|sP (iw (hsetE ((mst l i).1) (ofS ((mst l i).2) y14.a) (ofS ((mst l i).2) y14.b) (ofS ((mst l i).2) y14.c)))<|sP (iw (hsetE ((mst l i).1) (ofS ((mst l i).2) y14.a) (ofS ((mst l i).2) y14.b) (ofS ((mst l i).2) y14.c)))<|sL (Lt.to t_cmp (cB (decide_eq_false (fun h=>h rfl):(decide ((hsetE ((mst l i).1) (ofS ((mst l i).2) y14.a) (ofS ((mst l i).2) y14.b) (ofS ((mst l i).2) y14.c))≠(hsetE ((mst l i).1) (ofS ((mst l i).2) y14.a) (ofS ((mst l i).2) y14.b) (ofS ((mst l i).2) y14.c))))=false)))<|sP (.bool false)<|s_nt<|k_false<|k_st<|k_sr<|sP lv<|sP (iw (i:Int))<|sL (t_index OpT_ok Tryz.underlying22 (.zn hl0) (i:Int) i om ol om)<|sP (.pointer (some (elemAt OpT.size lv i)))<|sL (t_loadF 0 OpT_ok (.zn hl0) hy15)<|sL (Lt.to t_cmp (cB (decide_eq_false (by have:=dY c94;omega):(decide (y14.kind≤2))=false)))<|sP (.bool false)<|sK<|sK<|sP (.bool false)<|s_nt<|k_false<|k_skip<|xs_block<|xs_then ?_
    refine k_reg<|sP (iw (i:Int))<|sL (t_add (i:Int) 1 ol)<|sP (iw ((i:Int)+1))<|s_nil ?_
    have hms:=mst_succ hy15;have h1:(hset ((mst l i).1) (ofS ((mst l i).2) y14.a) (ofS ((mst l i).2) y14.b) (ofS ((mst l i).2) y14.c))=(mst l (i+1)).1:=by rw[hms];unfold mstep;simp[dF c67,dF c76,dF c85,dY c94,boxB]
    have h2:(mst l i).2=(mst l (i+1)).2:=by rw[hms];unfold mstep;simp_all[boxB]
    refine xs_mem (Bs:=rhA hb3 ((mst l (i+1)).1)::hpA hb2 ((mst l (i+1)).1)::blkA g66 zc 71::blkA g65 zc 71::blkA g18 (vc (ofS ((mst l i).2) y14.c)) 71::blkA g17 (vc (ofS ((mst l i).2) y14.b)) 71::blkA g16 (vc (ofS ((mst l i).2) y14.a)) 71::own VlT lx ((mst l (i+1)).2)::blkA g4 #[pB hb2 0,pB hb3 0,lx] 30::blkA g1 #[.pointer none,.pointer none,(.slice none 0 0)] 30::F) (fun _ h=>by rw[←h1,←h2];exact h) ?_;exact xs_round (lx,i+1) (by show 100-(i+1)<100-i;omega) (by show i+1≤100∧i+1≤l.length;omega) sA (rr [7,7,0,0,5] [5,5,5,5,5])
   have p96:=dF c94;refine k_held [blkA g66 zc 71,blkA g65 zc 71,blkA g18 (vc (ofS ((mst l i).2) y14.c)) 71,blkA g17 (vc (ofS ((mst l i).2) y14.b)) 71,blkA g16 (vc (ofS ((mst l i).2) y14.a)) 71,own VlT lx ((mst l i).2),blkA g4 #[pB hb2 0,pB hb3 0,lx] 30,blkA g1 #[.pointer none,.pointer none,(.slice none 0 0)] 30] ?_;refine hp_ 0 [0,0,0,0,0,0,0,2] (pB g4 0) ?_;refine h_l 1 rfl [0,0,0,0,0,0,0,2] (fun _=>(t_load 6 (pB hb2 0))) ?_;refine h_l 2 rfl [0,0,0,0,0,0,0,2] (fun _=>(t_loadA 4 (vc (ofS ((mst l i).2) y14.a)))) ?_;refine h_l 3 rfl [0,0,0,0,0,0,0,2] (fun _=>(t_loadA 3 (vc (ofS ((mst l i).2) y14.b)))) ?_;refine hp_ 5 [0,0,0,0,0,0,0,2] (pB g4 1) ?_;refine h_l 6 rfl [0,0,0,0,0,0,0,2] (fun _=>(t_load 6 (pB hb3 0))) ?_;refine h_l 7 rfl [0,0,0,0,0,0,0,2] (fun _=>(t_loadA 4 (vc (ofS ((mst l i).2) y14.a)))) ?_;refine h_l 8 rfl [0,0,0,0,0,0,0,2] (fun _=>(t_loadA 3 (vc (ofS ((mst l i).2) y14.b)))) ?_;refine h_stepS 4 ?_;refine sC [8] (hsetmeta_s (st:=(mst l i).1) (ofS ((mst l i).2) y14.a) (ofS ((mst l i).2) y14.b)) ?_;refine nH [1,1,1,1,1,1,1,2]<|h_stepS 9 ?_
   refine sC [8] (rhsetmeta_s (st:=(mst l i).1) (by have:=hsm.len;omega) (ofS ((mst l i).2) y14.a) (ofS ((mst l i).2) y14.b)) ?_;refine nH [2,2,2,2,2,2,2,2]<|hp_ 10 [2,2,2,2,2,2,2,2] (iw (hsetMetaE ((mst l i).1) (ofS ((mst l i).2) y14.a) (ofS ((mst l i).2) y14.b))) ?_
   refine hp_ 11 [2,2,2,2,2,2,2,2] (iw (hsetMetaE ((mst l i).1) (ofS ((mst l i).2) y14.a) (ofS ((mst l i).2) y14.b))) ?_;refine h_doneS ?_;refine xs_block<|xs_then<|k_seq<|k_sr<|sL (t_loadA 3 zc)<|sL (t_loadA 2 zc)<|sL (Lt.to (t_eqS (fun w=>(eqVlT zVl zVl w).2)) (cB ((congrArg Bool.not (decide_eq_true rfl:(decide (zVl=zVl))=true)).trans rfl:(!(decide (zVl=zVl)))=false)))<|sP (.bool false)<|sP (iw (hsetMetaE ((mst l i).1) (ofS ((mst l i).2) y14.a) (ofS ((mst l i).2) y14.b)))<|sP (iw (hsetMetaE ((mst l i).1) (ofS ((mst l i).2) y14.a) (ofS ((mst l i).2) y14.b)))<|sL (Lt.to t_cmp (cB (decide_eq_false (fun h=>h rfl):(decide ((hsetMetaE ((mst l i).1) (ofS ((mst l i).2) y14.a) (ofS ((mst l i).2) y14.b))≠(hsetMetaE ((mst l i).1) (ofS ((mst l i).2) y14.a) (ofS ((mst l i).2) y14.b))))=false)))<|sP (.bool false)<|s_nt<|k_false<|k_st<|k_cut (ι:=Unit) (fun _=>True) (fun _=>[(0,lv),(2,pB g1 0),(4,pB g4 0),(5,iw (i:Int)),(9,pB g65 0),(144,.bool ((decide (y14.kind≤2))&&(decide ((hsetMetaE ((mst l i).1) (ofS ((mst l i).2) y14.a) (ofS ((mst l i).2) y14.b))=0))))]) (fun _=>rhA hb3 (hsetMeta ((mst l i).1) (ofS ((mst l i).2) y14.a) (ofS ((mst l i).2) y14.b))::hpA hb2 (hsetMeta ((mst l i).1) (ofS ((mst l i).2) y14.a) (ofS ((mst l i).2) y14.b))::blkA g66 zc 71::blkA g65 zc 71::blkA g18 (vc (ofS ((mst l i).2) y14.c)) 71::blkA g17 (vc (ofS ((mst l i).2) y14.b)) 71::blkA g16 (vc (ofS ((mst l i).2) y14.a)) 71::own VlT lx ((mst l i).2)::blkA g4 #[pB hb2 0,pB hb3 0,lx] 30::blkA g1 #[.pointer none,.pointer none,(.slice none 0 0)] 30::F) ?_ (fun _ _=>?_)
   .refine k_reg<|sP lv<|sP (iw (i:Int))<|sL (t_index OpT_ok Tryz.underlying22 (.zn hl0) (i:Int) i om ol om)<|sP (.pointer (some (elemAt OpT.size lv i)))<|sL (t_loadF 0 OpT_ok (.zn hl0) hy15)<|sL t_cmp<|sP (.bool (decide (y14.kind≤2)))<|s_fork 141 (decide (y14.kind≤2)) (fun c97=>?_) (fun c97=>?_)
    .have p98:=dY c97;refine sP (iw (hsetMetaE ((mst l i).1) (ofS ((mst l i).2) y14.a) (ofS ((mst l i).2) y14.b)))<|sL t_cmp<|sP (.bool (decide ((hsetMetaE ((mst l i).1) (ofS ((mst l i).2) y14.a) (ofS ((mst l i).2) y14.b))=0)))<|s_nil ?_
     exact xs_cut () trivial (sub_of rfl (rQ (rQ (rQ (rQ (rQ ⟨⟨rfl,show Value.bool (decide ((hsetMetaE ((mst l i).1) (ofS ((mst l i).2) y14.a) (ofS ((mst l i).2) y14.b))=0))=Value.bool ((decide (y14.kind≤2))&&(decide ((hsetMetaE ((mst l i).1) (ofS ((mst l i).2) y14.a) (ofS ((mst l i).2) y14.b))=0))) by first|(simp only[c97,bls];done)|simp[c97]⟩,trivial⟩)))))) (rr [0,0,0,0,0,0,0,0,0,0] [])
    have p99:=dF c97;refine sK<|sK<|sP (.bool false)<|s_nil ?_
    exact xs_cut () trivial (sub_of rfl (rQ (rQ (rQ (rQ (rQ ⟨⟨rfl,show Value.bool false=Value.bool ((decide (y14.kind≤2))&&(decide ((hsetMetaE ((mst l i).1) (ofS ((mst l i).2) y14.a) (ofS ((mst l i).2) y14.b))=0))) by first|(simp only[c97,bls];done)|simp[c97]⟩,trivial⟩)))))) (rr [0,0,0,0,0,0,0,0,0,0] [])
   refine k_cond ((decide (y14.kind≤2))&&(decide ((hsetMetaE ((mst l i).1) (ofS ((mst l i).2) y14.a) (ofS ((mst l i).2) y14.b))=0))) (fun c100=>?_) (fun c100=>?_)
   .obtain ⟨c101,c102⟩:=and_t c100;have p103:=dY c101;have p104:=dY c102;refine k_reg<|sP (pB g4 2)<|sL (t_load 8 lx)<|sL (t_loadA 3 zc)<|s_buildSlice (e:=71) [(0,.agg zc)] zc (fun g105=>?_) (hb:=by kernel_rfl)
    refine s_append (L:=(mst l i).2) 8 VlT_ok Tryz.underlying28 (.lit 0 VlT_ok [zVl]) (by show _*48≤_;(try simp only[lnm]);omega) ol (fun v106=>?_);refine sP (pB g4 2)<|sF 8 (fun hf107=>?_)
    refine s_store (u:=v106) (m:=1) 9 #[pB hb2 0,pB hb3 0,v106] ?_ (hm:=by (obtain⟨_,_,e⟩:=hf107;rw[e];rfl)) (h1:=by (obtain⟨_,_,e⟩:=hf107;rw[e];rfl)) (ha':=by (obtain⟨_,_,e⟩:=hf107;rw[e];rfl));refine s_nil<|xs_block<|xs_then<|k_reg<|sP (iw (i:Int))<|sL (t_add (i:Int) 1 ol)<|sP (iw ((i:Int)+1))<|s_nil ?_
    have hms:=mst_succ hy15;have h1:(hsetMeta ((mst l i).1) (ofS ((mst l i).2) y14.a) (ofS ((mst l i).2) y14.b))=(mst l (i+1)).1:=by rw[hms];unfold mstep;simp[dF c67,dF c76,dF c85,dF c94,boxB]
    have h2:((mst l i).2++[zVl])=(mst l (i+1)).2:=by rw[hms];unfold mstep;simp_all[boxB]
    refine xs_mem (Bs:=blkA g105 zc 71::rhA hb3 ((mst l (i+1)).1)::hpA hb2 ((mst l (i+1)).1)::blkA g66 zc 71::blkA g65 zc 71::blkA g18 (vc (ofS ((mst l i).2) y14.c)) 71::blkA g17 (vc (ofS ((mst l i).2) y14.b)) 71::blkA g16 (vc (ofS ((mst l i).2) y14.a)) 71::own VlT v106 ((mst l (i+1)).2)::blkA g4 #[pB hb2 0,pB hb3 0,v106] 30::blkA g1 #[.pointer none,.pointer none,(.slice none 0 0)] 30::F) (fun _ h=>by rw[←h1,←h2];exact h) ?_;exact xs_round (v106,i+1) (by show 100-(i+1)<100-i;omega) (by show i+1≤100∧i+1≤l.length;omega) sA (rr [8,8,1,1,6] [5,5,5,5,5,5])
   have p108:=c100;simp only[Bool.and_eq_true,Bool.or_eq_true,Bool.and_eq_false_iff,Bool.or_eq_false_iff,Bool.not_eq_true',Bool.not_eq_false',decide_eq_true_eq,decide_eq_false_iff_not]at p108;refine k_skip<|xs_block<|xs_then<|k_reg<|sP (iw (i:Int))<|sL (t_add (i:Int) 1 ol)<|sP (iw ((i:Int)+1))<|s_nil ?_
   have hms:=mst_succ hy15;have h1:(hsetMeta ((mst l i).1) (ofS ((mst l i).2) y14.a) (ofS ((mst l i).2) y14.b))=(mst l (i+1)).1:=by rw[hms];unfold mstep;simp[dF c67,dF c76,dF c85,dF c94,boxB]
   have h2:(mst l i).2=(mst l (i+1)).2:=by rw[hms];unfold mstep;simp_all[boxB]
   refine xs_mem (Bs:=rhA hb3 ((mst l (i+1)).1)::hpA hb2 ((mst l (i+1)).1)::blkA g66 zc 71::blkA g65 zc 71::blkA g18 (vc (ofS ((mst l i).2) y14.c)) 71::blkA g17 (vc (ofS ((mst l i).2) y14.b)) 71::blkA g16 (vc (ofS ((mst l i).2) y14.a)) 71::own VlT lx ((mst l (i+1)).2)::blkA g4 #[pB hb2 0,pB hb3 0,lx] 30::blkA g1 #[.pointer none,.pointer none,(.slice none 0 0)] 30::F) (fun _ h=>by rw[←h1,←h2];exact h) ?_;exact xs_round (lx,i+1) (by show 100-(i+1)<100-i;omega) (by show i+1≤100∧i+1≤l.length;omega) sA (rr [7,7,0,0,5] [5,5,5,5,5])
  refine h_join (ι:=Nat×Nat) 4 #[true,true,true,true,true,true,true,true,true,true,true,true,true,true,true,true,true,true,true,true,true,true,true,false,false,false,false] (fun (g16,g17)=>[(0,lv),(2,pB g1 0),(4,pB g4 0),(5,iw (i:Int)),(6,pB g16 0),(7,pB g17 0),(36,.agg (vc (ofS ((mst l i).2) y14.a))),(43,.agg (vc (ofS ((mst l i).2) y14.b))),(50,.agg (vc (ofS ((mst l i).2) y14.c)))]) (fun (g16,g17)=>blkA g17 zc 71::blkA g16 zc 71::own VlT lx ((mst l i).2)::blkA g4 #[pB hb2 0,pB hb3 0,lx] 30::rhA hb3 ((mst l i).1)::hpA hb2 ((mst l i).1)::blkA g1 #[.pointer none,.pointer none,(.slice none 0 0)] 30::F) ?_ (fun hj109=>?_)
  .rintro ⟨g16,g17⟩;try dsimp only
   refine h_stepS 23 ?_;refine s_alloc (.agg zc) zc (fun g110=>?_);refine nH [3,3,5] ?_;exact h_use hj64 (g16,g17,g110) (rr [0,0,0,0,0,0,0,0] [])
  refine h_join (ι:=Nat×Nat) 4 #[true,true,true,true,true,true,true,true,true,true,true,true,true,true,true,true,true,true,true,true,true,true,false,true,false,false,false] (fun (g16,g19)=>[(0,lv),(2,pB g1 0),(4,pB g4 0),(5,iw (i:Int)),(6,pB g16 0),(8,pB g19 0),(36,.agg (vc (ofS ((mst l i).2) y14.a))),(43,.agg (vc (ofS ((mst l i).2) y14.b))),(50,.agg (vc (ofS ((mst l i).2) y14.c)))]) (fun (g16,g19)=>blkA g19 zc 71::blkA g16 zc 71::own VlT lx ((mst l i).2)::blkA g4 #[pB hb2 0,pB hb3 0,lx] 30::rhA hb3 ((mst l i).1)::hpA hb2 ((mst l i).1)::blkA g1 #[.pointer none,.pointer none,(.slice none 0 0)] 30::F) ?_ (fun hj111=>?_)
  .rintro ⟨g16,g19⟩;try dsimp only
   refine h_stepS 22 ?_;refine s_alloc (.agg zc) zc (fun g112=>?_);refine nH [3,3,5] ?_;exact h_use hj64 (g16,g112,g19) (rr [1,0,0,0,0,0,0,0] [])
  refine h_join (ι:=Nat×Nat) 4 #[true,true,true,true,true,true,true,true,true,true,true,true,true,true,true,true,true,true,true,true,true,false,true,true,false,false,false] (fun (g21,g23)=>[(0,lv),(2,pB g1 0),(4,pB g4 0),(5,iw (i:Int)),(7,pB g21 0),(8,pB g23 0),(36,.agg (vc (ofS ((mst l i).2) y14.a))),(43,.agg (vc (ofS ((mst l i).2) y14.b))),(50,.agg (vc (ofS ((mst l i).2) y14.c)))]) (fun (g21,g23)=>blkA g23 zc 71::blkA g21 zc 71::own VlT lx ((mst l i).2)::blkA g4 #[pB hb2 0,pB hb3 0,lx] 30::rhA hb3 ((mst l i).1)::hpA hb2 ((mst l i).1)::blkA g1 #[.pointer none,.pointer none,(.slice none 0 0)] 30::F) ?_ (fun hj113=>?_)
  .rintro ⟨g21,g23⟩;try dsimp only
   refine h_stepS 21 ?_;refine s_alloc (.agg zc) zc (fun g114=>?_);refine nH [3,3,5] ?_;exact h_use hj64 (g114,g21,g23) (rr [1,1,0,0,0,0,0,0] [])
  refine h_join (ι:=Nat×Nat×Nat) 4 #[true,true,true,true,true,true,true,true,true,true,true,true,true,true,true,true,true,true,true,true,false,true,true,true,false,false,false] (fun (g28,g29,g30)=>[(0,lv),(2,pB g1 0),(4,pB g4 0),(5,iw (i:Int)),(6,pB g28 0),(7,pB g29 0),(8,pB g30 0),(36,.agg (vc (ofS ((mst l i).2) y14.a))),(43,.agg (vc (ofS ((mst l i).2) y14.b))),(44,.agg #[pB hb2 0,pB hb3 0,lx]),(49,.agg #[iw y14.c.v.kind,iw y14.c.v.p,iw y14.c.v.q,sw y14.c.v.str,iw y14.c.v.ref,iw y14.c.obj])]) (fun (g28,g29,g30)=>blkA g30 zc 71::blkA g29 zc 71::blkA g28 zc 71::own VlT lx ((mst l i).2)::blkA g4 #[pB hb2 0,pB hb3 0,lx] 30::rhA hb3 ((mst l i).1)::hpA hb2 ((mst l i).1)::blkA g1 #[.pointer none,.pointer none,(.slice none 0 0)] 30::F) ?_ (fun hj115=>?_)
  .rintro ⟨g28,g29,g30⟩;try dsimp only
   refine h_stepS 20 ?_;refine sC [3] (of_s (L:=(mst l i).2) ol y14.c) ?_;refine nH [0,3,5] ?_;exact h_use hj64 (g28,g29,g30) (rr [1,1,1,0,0,0,0,0] [])
  refine h_join (ι:=Nat) 5 #[true,true,true,true,true,true,true,true,true,true,true,true,true,true,true,true,true,true,true,true,true,true,false,false,false,false,false] (fun g16=>[(0,lv),(2,pB g1 0),(4,pB g4 0),(5,iw (i:Int)),(6,pB g16 0),(36,.agg (vc (ofS ((mst l i).2) y14.a))),(43,.agg (vc (ofS ((mst l i).2) y14.b))),(50,.agg (vc (ofS ((mst l i).2) y14.c)))]) (fun g16=>blkA g16 zc 71::own VlT lx ((mst l i).2)::blkA g4 #[pB hb2 0,pB hb3 0,lx] 30::rhA hb3 ((mst l i).1)::hpA hb2 ((mst l i).1)::blkA g1 #[.pointer none,.pointer none,(.slice none 0 0)] 30::F) ?_ (fun hj116=>?_)
  .rintro g16;try dsimp only
   refine h_stepS2 22 23 ?_ ?_
   .refine s_alloc (.agg zc) zc (fun g117=>?_);refine nH [2,2,4] ?_;exact h_use hj109 (g16,g117) (rr [0,0,0,0,0,0,0] [])
   refine s_alloc (.agg zc) zc (fun g118=>?_);refine nH [2,2,4] ?_;exact h_use hj111 (g16,g118) (rr [0,0,0,0,0,0,0] [])
  refine h_join (ι:=Nat) 5 #[true,true,true,true,true,true,true,true,true,true,true,true,true,true,true,true,true,true,true,true,true,false,true,false,false,false,false] (fun g21=>[(0,lv),(2,pB g1 0),(4,pB g4 0),(5,iw (i:Int)),(7,pB g21 0),(36,.agg (vc (ofS ((mst l i).2) y14.a))),(43,.agg (vc (ofS ((mst l i).2) y14.b))),(50,.agg (vc (ofS ((mst l i).2) y14.c)))]) (fun g21=>blkA g21 zc 71::own VlT lx ((mst l i).2)::blkA g4 #[pB hb2 0,pB hb3 0,lx] 30::rhA hb3 ((mst l i).1)::hpA hb2 ((mst l i).1)::blkA g1 #[.pointer none,.pointer none,(.slice none 0 0)] 30::F) ?_ (fun hj119=>?_)
  .rintro g21;try dsimp only
   refine h_stepS2 21 23 ?_ ?_
   .refine s_alloc (.agg zc) zc (fun g120=>?_);refine nH [2,2,4] ?_;exact h_use hj109 (g120,g21) (rr [1,0,0,0,0,0,0] [])
   refine s_alloc (.agg zc) zc (fun g121=>?_);refine nH [2,2,4] ?_;exact h_use hj113 (g21,g121) (rr [0,0,0,0,0,0,0] [])
  refine h_join (ι:=Nat) 5 #[true,true,true,true,true,true,true,true,true,true,true,true,true,true,true,true,true,true,true,true,true,false,false,true,false,false,false] (fun g25=>[(0,lv),(2,pB g1 0),(4,pB g4 0),(5,iw (i:Int)),(8,pB g25 0),(36,.agg (vc (ofS ((mst l i).2) y14.a))),(43,.agg (vc (ofS ((mst l i).2) y14.b))),(50,.agg (vc (ofS ((mst l i).2) y14.c)))]) (fun g25=>blkA g25 zc 71::own VlT lx ((mst l i).2)::blkA g4 #[pB hb2 0,pB hb3 0,lx] 30::rhA hb3 ((mst l i).1)::hpA hb2 ((mst l i).1)::blkA g1 #[.pointer none,.pointer none,(.slice none 0 0)] 30::F) ?_ (fun hj122=>?_)
  .rintro g25;try dsimp only
   refine h_stepS2 21 22 ?_ ?_
   .refine s_alloc (.agg zc) zc (fun g123=>?_);refine nH [2,2,4] ?_;exact h_use hj111 (g123,g25) (rr [1,0,0,0,0,0,0] [])
   refine s_alloc (.agg zc) zc (fun g124=>?_);refine nH [2,2,4] ?_;exact h_use hj113 (g124,g25) (rr [1,0,0,0,0,0,0] [])
  refine h_join (ι:=Nat×Nat) 5 #[true,true,true,true,true,true,true,true,true,true,true,true,true,true,true,true,true,true,true,true,false,true,true,false,false,false,false] (fun (g28,g29)=>[(0,lv),(2,pB g1 0),(4,pB g4 0),(5,iw (i:Int)),(6,pB g28 0),(7,pB g29 0),(36,.agg (vc (ofS ((mst l i).2) y14.a))),(43,.agg (vc (ofS ((mst l i).2) y14.b))),(44,.agg #[pB hb2 0,pB hb3 0,lx]),(49,.agg #[iw y14.c.v.kind,iw y14.c.v.p,iw y14.c.v.q,sw y14.c.v.str,iw y14.c.v.ref,iw y14.c.obj])]) (fun (g28,g29)=>blkA g29 zc 71::blkA g28 zc 71::own VlT lx ((mst l i).2)::blkA g4 #[pB hb2 0,pB hb3 0,lx] 30::rhA hb3 ((mst l i).1)::hpA hb2 ((mst l i).1)::blkA g1 #[.pointer none,.pointer none,(.slice none 0 0)] 30::F) ?_ (fun hj125=>?_)
  .rintro ⟨g28,g29⟩;try dsimp only
   refine h_stepS2 20 23 ?_ ?_
   .refine sC [2] (of_s (L:=(mst l i).2) ol y14.c) ?_;refine nH [0,2,4] ?_;exact h_use hj109 (g28,g29) (rr [1,1,0,0,0,0,0] [])
   refine s_alloc (.agg zc) zc (fun g126=>?_);refine nH [3,3,5] ?_;exact h_use hj115 (g28,g29,g126) (rr [0,0,0,0,0,0,0,0] [])
  refine h_join (ι:=Nat×Nat) 5 #[true,true,true,true,true,true,true,true,true,true,true,true,true,true,true,true,true,true,true,true,false,true,false,true,false,false,false] (fun (g28,g31)=>[(0,lv),(2,pB g1 0),(4,pB g4 0),(5,iw (i:Int)),(6,pB g28 0),(8,pB g31 0),(36,.agg (vc (ofS ((mst l i).2) y14.a))),(43,.agg (vc (ofS ((mst l i).2) y14.b))),(44,.agg #[pB hb2 0,pB hb3 0,lx]),(49,.agg #[iw y14.c.v.kind,iw y14.c.v.p,iw y14.c.v.q,sw y14.c.v.str,iw y14.c.v.ref,iw y14.c.obj])]) (fun (g28,g31)=>blkA g31 zc 71::blkA g28 zc 71::own VlT lx ((mst l i).2)::blkA g4 #[pB hb2 0,pB hb3 0,lx] 30::rhA hb3 ((mst l i).1)::hpA hb2 ((mst l i).1)::blkA g1 #[.pointer none,.pointer none,(.slice none 0 0)] 30::F) ?_ (fun hj127=>?_)
  .rintro ⟨g28,g31⟩;try dsimp only
   refine h_stepS2 20 22 ?_ ?_
   .refine sC [2] (of_s (L:=(mst l i).2) ol y14.c) ?_;refine nH [0,2,4] ?_;exact h_use hj111 (g28,g31) (rr [1,1,0,0,0,0,0] [])
   refine s_alloc (.agg zc) zc (fun g128=>?_);refine nH [3,3,5] ?_;exact h_use hj115 (g28,g128,g31) (rr [1,0,0,0,0,0,0,0] [])
  refine h_join (ι:=Nat×Nat) 5 #[true,true,true,true,true,true,true,true,true,true,true,true,true,true,true,true,true,true,true,true,false,false,true,true,false,false,false] (fun (g33,g35)=>[(0,lv),(2,pB g1 0),(4,pB g4 0),(5,iw (i:Int)),(7,pB g33 0),(8,pB g35 0),(36,.agg (vc (ofS ((mst l i).2) y14.a))),(43,.agg (vc (ofS ((mst l i).2) y14.b))),(44,.agg #[pB hb2 0,pB hb3 0,lx]),(49,.agg #[iw y14.c.v.kind,iw y14.c.v.p,iw y14.c.v.q,sw y14.c.v.str,iw y14.c.v.ref,iw y14.c.obj])]) (fun (g33,g35)=>blkA g35 zc 71::blkA g33 zc 71::own VlT lx ((mst l i).2)::blkA g4 #[pB hb2 0,pB hb3 0,lx] 30::rhA hb3 ((mst l i).1)::hpA hb2 ((mst l i).1)::blkA g1 #[.pointer none,.pointer none,(.slice none 0 0)] 30::F) ?_ (fun hj129=>?_)
  .rintro ⟨g33,g35⟩;try dsimp only
   refine h_stepS2 20 21 ?_ ?_
   .refine sC [2] (of_s (L:=(mst l i).2) ol y14.c) ?_;refine nH [0,2,4] ?_;exact h_use hj113 (g33,g35) (rr [1,1,0,0,0,0,0] [])
   refine s_alloc (.agg zc) zc (fun g130=>?_);refine nH [3,3,5] ?_;exact h_use hj115 (g130,g33,g35) (rr [1,1,0,0,0,0,0,0] [])
  refine h_join (ι:=Nat×Nat×Nat) 5 #[true,true,true,true,true,true,true,true,true,true,true,true,true,false,true,true,true,true,true,true,false,true,true,true,false,false,false] (fun (g40,g41,g42)=>[(0,lv),(2,pB g1 0),(4,pB g4 0),(5,iw (i:Int)),(6,pB g40 0),(7,pB g41 0),(8,pB g42 0),(36,.agg (vc (ofS ((mst l i).2) y14.a))),(37,.agg #[pB hb2 0,pB hb3 0,lx]),(42,.agg #[iw y14.b.v.kind,iw y14.b.v.p,iw y14.b.v.q,sw y14.b.v.str,iw y14.b.v.ref,iw y14.b.obj]),(44,.agg #[pB hb2 0,pB hb3 0,lx]),(49,.agg #[iw y14.c.v.kind,iw y14.c.v.p,iw y14.c.v.q,sw y14.c.v.str,iw y14.c.v.ref,iw y14.c.obj])]) (fun (g40,g41,g42)=>blkA g42 zc 71::blkA g41 zc 71::blkA g40 zc 71::own VlT lx ((mst l i).2)::blkA g4 #[pB hb2 0,pB hb3 0,lx] 30::rhA hb3 ((mst l i).1)::hpA hb2 ((mst l i).1)::blkA g1 #[.pointer none,.pointer none,(.slice none 0 0)] 30::F) ?_ (fun hj131=>?_)
  .rintro ⟨g40,g41,g42⟩;try dsimp only
   refine h_stepS 13 ?_;refine sC [3] (of_s (L:=(mst l i).2) ol y14.b) ?_;refine nH [0,3,5] ?_;exact h_use hj115 (g40,g41,g42) (rr [1,1,1,0,0,0,0,0] [])
  refine h_join (ι:=Nat) 6 #[true,true,true,true,true,true,true,true,true,true,true,true,true,true,true,true,true,true,true,true,false,true,false,false,false,false,false] (fun g28=>[(0,lv),(2,pB g1 0),(4,pB g4 0),(5,iw (i:Int)),(6,pB g28 0),(36,.agg (vc (ofS ((mst l i).2) y14.a))),(43,.agg (vc (ofS ((mst l i).2) y14.b))),(44,.agg #[pB hb2 0,pB hb3 0,lx]),(49,.agg #[iw y14.c.v.kind,iw y14.c.v.p,iw y14.c.v.q,sw y14.c.v.str,iw y14.c.v.ref,iw y14.c.obj])]) (fun g28=>blkA g28 zc 71::own VlT lx ((mst l i).2)::blkA g4 #[pB hb2 0,pB hb3 0,lx] 30::rhA hb3 ((mst l i).1)::hpA hb2 ((mst l i).1)::blkA g1 #[.pointer none,.pointer none,(.slice none 0 0)] 30::F) ?_ (fun hj132=>?_)
  .rintro g28;try dsimp only
   refine h_stepS3 20 22 23 ?_ ?_ ?_
   .refine sC [1] (of_s (L:=(mst l i).2) ol y14.c) ?_;refine nH [0,1,3] ?_;exact h_use hj116 g28 (rr [1,0,0,0,0,0] [])
   .refine s_alloc (.agg zc) zc (fun g133=>?_);refine nH [2,2,4] ?_;exact h_use hj125 (g28,g133) (rr [0,0,0,0,0,0,0] [])
   refine s_alloc (.agg zc) zc (fun g134=>?_);refine nH [2,2,4] ?_;exact h_use hj127 (g28,g134) (rr [0,0,0,0,0,0,0] [])
  refine h_join (ι:=Nat) 6 #[true,true,true,true,true,true,true,true,true,true,true,true,true,true,true,true,true,true,true,true,false,false,true,false,false,false,false] (fun g33=>[(0,lv),(2,pB g1 0),(4,pB g4 0),(5,iw (i:Int)),(7,pB g33 0),(36,.agg (vc (ofS ((mst l i).2) y14.a))),(43,.agg (vc (ofS ((mst l i).2) y14.b))),(44,.agg #[pB hb2 0,pB hb3 0,lx]),(49,.agg #[iw y14.c.v.kind,iw y14.c.v.p,iw y14.c.v.q,sw y14.c.v.str,iw y14.c.v.ref,iw y14.c.obj])]) (fun g33=>blkA g33 zc 71::own VlT lx ((mst l i).2)::blkA g4 #[pB hb2 0,pB hb3 0,lx] 30::rhA hb3 ((mst l i).1)::hpA hb2 ((mst l i).1)::blkA g1 #[.pointer none,.pointer none,(.slice none 0 0)] 30::F) ?_ (fun hj135=>?_)
  .rintro g33;try dsimp only
   refine h_stepS3 20 21 23 ?_ ?_ ?_
   .refine sC [1] (of_s (L:=(mst l i).2) ol y14.c) ?_;refine nH [0,1,3] ?_;exact h_use hj119 g33 (rr [1,0,0,0,0,0] [])
   .refine s_alloc (.agg zc) zc (fun g136=>?_);refine nH [2,2,4] ?_;exact h_use hj125 (g136,g33) (rr [1,0,0,0,0,0,0] [])
   refine s_alloc (.agg zc) zc (fun g137=>?_);refine nH [2,2,4] ?_;exact h_use hj129 (g33,g137) (rr [0,0,0,0,0,0,0] [])
  refine h_join (ι:=Nat) 6 #[true,true,true,true,true,true,true,true,true,true,true,true,true,true,true,true,true,true,true,true,false,false,false,true,false,false,false] (fun g37=>[(0,lv),(2,pB g1 0),(4,pB g4 0),(5,iw (i:Int)),(8,pB g37 0),(36,.agg (vc (ofS ((mst l i).2) y14.a))),(43,.agg (vc (ofS ((mst l i).2) y14.b))),(44,.agg #[pB hb2 0,pB hb3 0,lx]),(49,.agg #[iw y14.c.v.kind,iw y14.c.v.p,iw y14.c.v.q,sw y14.c.v.str,iw y14.c.v.ref,iw y14.c.obj])]) (fun g37=>blkA g37 zc 71::own VlT lx ((mst l i).2)::blkA g4 #[pB hb2 0,pB hb3 0,lx] 30::rhA hb3 ((mst l i).1)::hpA hb2 ((mst l i).1)::blkA g1 #[.pointer none,.pointer none,(.slice none 0 0)] 30::F) ?_ (fun hj138=>?_)
  .rintro g37;try dsimp only
   refine h_stepS3 20 21 22 ?_ ?_ ?_
   .refine sC [1] (of_s (L:=(mst l i).2) ol y14.c) ?_;refine nH [0,1,3] ?_;exact h_use hj122 g37 (rr [1,0,0,0,0,0] [])
   .refine s_alloc (.agg zc) zc (fun g139=>?_);refine nH [2,2,4] ?_;exact h_use hj127 (g139,g37) (rr [1,0,0,0,0,0,0] [])
   refine s_alloc (.agg zc) zc (fun g140=>?_);refine nH [2,2,4] ?_;exact h_use hj129 (g140,g37) (rr [1,0,0,0,0,0,0] [])
  refine h_join (ι:=Nat×Nat) 6 #[true,true,true,true,true,true,true,true,true,true,true,true,true,false,true,true,true,true,true,true,false,true,true,false,false,false,false] (fun (g40,g41)=>[(0,lv),(2,pB g1 0),(4,pB g4 0),(5,iw (i:Int)),(6,pB g40 0),(7,pB g41 0),(36,.agg (vc (ofS ((mst l i).2) y14.a))),(37,.agg #[pB hb2 0,pB hb3 0,lx]),(42,.agg #[iw y14.b.v.kind,iw y14.b.v.p,iw y14.b.v.q,sw y14.b.v.str,iw y14.b.v.ref,iw y14.b.obj]),(44,.agg #[pB hb2 0,pB hb3 0,lx]),(49,.agg #[iw y14.c.v.kind,iw y14.c.v.p,iw y14.c.v.q,sw y14.c.v.str,iw y14.c.v.ref,iw y14.c.obj])]) (fun (g40,g41)=>blkA g41 zc 71::blkA g40 zc 71::own VlT lx ((mst l i).2)::blkA g4 #[pB hb2 0,pB hb3 0,lx] 30::rhA hb3 ((mst l i).1)::hpA hb2 ((mst l i).1)::blkA g1 #[.pointer none,.pointer none,(.slice none 0 0)] 30::F) ?_ (fun hj141=>?_)
  .rintro ⟨g40,g41⟩;try dsimp only
   refine h_stepS2 13 23 ?_ ?_
   .refine sC [2] (of_s (L:=(mst l i).2) ol y14.b) ?_;refine nH [0,2,4] ?_;exact h_use hj125 (g40,g41) (rr [1,1,0,0,0,0,0] [])
   refine s_alloc (.agg zc) zc (fun g142=>?_);refine nH [3,3,5] ?_;exact h_use hj131 (g40,g41,g142) (rr [0,0,0,0,0,0,0,0] [])
  refine h_join (ι:=Nat×Nat) 6 #[true,true,true,true,true,true,true,true,true,true,true,true,true,false,true,true,true,true,true,true,false,true,false,true,false,false,false] (fun (g40,g43)=>[(0,lv),(2,pB g1 0),(4,pB g4 0),(5,iw (i:Int)),(6,pB g40 0),(8,pB g43 0),(36,.agg (vc (ofS ((mst l i).2) y14.a))),(37,.agg #[pB hb2 0,pB hb3 0,lx]),(42,.agg #[iw y14.b.v.kind,iw y14.b.v.p,iw y14.b.v.q,sw y14.b.v.str,iw y14.b.v.ref,iw y14.b.obj]),(44,.agg #[pB hb2 0,pB hb3 0,lx]),(49,.agg #[iw y14.c.v.kind,iw y14.c.v.p,iw y14.c.v.q,sw y14.c.v.str,iw y14.c.v.ref,iw y14.c.obj])]) (fun (g40,g43)=>blkA g43 zc 71::blkA g40 zc 71::own VlT lx ((mst l i).2)::blkA g4 #[pB hb2 0,pB hb3 0,lx] 30::rhA hb3 ((mst l i).1)::hpA hb2 ((mst l i).1)::blkA g1 #[.pointer none,.pointer none,(.slice none 0 0)] 30::F) ?_ (fun hj143=>?_)
  .rintro ⟨g40,g43⟩;try dsimp only
   refine h_stepS2 13 22 ?_ ?_
   .refine sC [2] (of_s (L:=(mst l i).2) ol y14.b) ?_;refine nH [0,2,4] ?_;exact h_use hj127 (g40,g43) (rr [1,1,0,0,0,0,0] [])
   refine s_alloc (.agg zc) zc (fun g144=>?_);refine nH [3,3,5] ?_;exact h_use hj131 (g40,g144,g43) (rr [1,0,0,0,0,0,0,0] [])
  refine h_join (ι:=Nat×Nat) 6 #[true,true,true,true,true,true,true,true,true,true,true,true,true,false,true,true,true,true,true,true,false,false,true,true,false,false,false] (fun (g45,g47)=>[(0,lv),(2,pB g1 0),(4,pB g4 0),(5,iw (i:Int)),(7,pB g45 0),(8,pB g47 0),(36,.agg (vc (ofS ((mst l i).2) y14.a))),(37,.agg #[pB hb2 0,pB hb3 0,lx]),(42,.agg #[iw y14.b.v.kind,iw y14.b.v.p,iw y14.b.v.q,sw y14.b.v.str,iw y14.b.v.ref,iw y14.b.obj]),(44,.agg #[pB hb2 0,pB hb3 0,lx]),(49,.agg #[iw y14.c.v.kind,iw y14.c.v.p,iw y14.c.v.q,sw y14.c.v.str,iw y14.c.v.ref,iw y14.c.obj])]) (fun (g45,g47)=>blkA g47 zc 71::blkA g45 zc 71::own VlT lx ((mst l i).2)::blkA g4 #[pB hb2 0,pB hb3 0,lx] 30::rhA hb3 ((mst l i).1)::hpA hb2 ((mst l i).1)::blkA g1 #[.pointer none,.pointer none,(.slice none 0 0)] 30::F) ?_ (fun hj145=>?_)
  .rintro ⟨g45,g47⟩;try dsimp only
   refine h_stepS2 13 21 ?_ ?_
   .refine sC [2] (of_s (L:=(mst l i).2) ol y14.b) ?_;refine nH [0,2,4] ?_;exact h_use hj129 (g45,g47) (rr [1,1,0,0,0,0,0] [])
   refine s_alloc (.agg zc) zc (fun g146=>?_);refine nH [3,3,5] ?_;exact h_use hj131 (g146,g45,g47) (rr [1,1,0,0,0,0,0,0] [])
  refine h_join (ι:=Nat×Nat×Nat) 6 #[true,true,true,true,true,true,false,true,true,true,true,true,true,false,true,true,true,true,true,true,false,true,true,true,false,false,false] (fun (g52,g53,g54)=>[(0,lv),(2,pB g1 0),(4,pB g4 0),(5,iw (i:Int)),(6,pB g52 0),(7,pB g53 0),(8,pB g54 0),(30,.agg #[pB hb2 0,pB hb3 0,lx]),(35,.agg #[iw y14.a.v.kind,iw y14.a.v.p,iw y14.a.v.q,sw y14.a.v.str,iw y14.a.v.ref,iw y14.a.obj]),(37,.agg #[pB hb2 0,pB hb3 0,lx]),(42,.agg #[iw y14.b.v.kind,iw y14.b.v.p,iw y14.b.v.q,sw y14.b.v.str,iw y14.b.v.ref,iw y14.b.obj]),(44,.agg #[pB hb2 0,pB hb3 0,lx]),(49,.agg #[iw y14.c.v.kind,iw y14.c.v.p,iw y14.c.v.q,sw y14.c.v.str,iw y14.c.v.ref,iw y14.c.obj])]) (fun (g52,g53,g54)=>blkA g54 zc 71::blkA g53 zc 71::blkA g52 zc 71::own VlT lx ((mst l i).2)::blkA g4 #[pB hb2 0,pB hb3 0,lx] 30::rhA hb3 ((mst l i).1)::hpA hb2 ((mst l i).1)::blkA g1 #[.pointer none,.pointer none,(.slice none 0 0)] 30::F) ?_ (fun hj147=>?_)
  .rintro ⟨g52,g53,g54⟩;try dsimp only
   refine h_stepS 6 ?_;refine sC [3] (of_s (L:=(mst l i).2) ol y14.a) ?_;refine nH [0,3,5] ?_;exact h_use hj131 (g52,g53,g54) (rr [1,1,1,0,0,0,0,0] [])
  refine h_join (ι:=Nat) 7 #[true,true,true,true,true,true,true,true,true,true,true,true,true,false,true,true,true,true,true,true,false,true,false,false,false,false,false] (fun g40=>[(0,lv),(2,pB g1 0),(4,pB g4 0),(5,iw (i:Int)),(6,pB g40 0),(36,.agg (vc (ofS ((mst l i).2) y14.a))),(37,.agg #[pB hb2 0,pB hb3 0,lx]),(42,.agg #[iw y14.b.v.kind,iw y14.b.v.p,iw y14.b.v.q,sw y14.b.v.str,iw y14.b.v.ref,iw y14.b.obj]),(44,.agg #[pB hb2 0,pB hb3 0,lx]),(49,.agg #[iw y14.c.v.kind,iw y14.c.v.p,iw y14.c.v.q,sw y14.c.v.str,iw y14.c.v.ref,iw y14.c.obj])]) (fun g40=>blkA g40 zc 71::own VlT lx ((mst l i).2)::blkA g4 #[pB hb2 0,pB hb3 0,lx] 30::rhA hb3 ((mst l i).1)::hpA hb2 ((mst l i).1)::blkA g1 #[.pointer none,.pointer none,(.slice none 0 0)] 30::F) ?_ (fun hj148=>?_)
  .rintro g40;try dsimp only
   refine h_stepS3 13 22 23 ?_ ?_ ?_
   .refine sC [1] (of_s (L:=(mst l i).2) ol y14.b) ?_;refine nH [0,1,3] ?_;exact h_use hj132 g40 (rr [1,0,0,0,0,0] [])
   .refine s_alloc (.agg zc) zc (fun g149=>?_);refine nH [2,2,4] ?_;exact h_use hj141 (g40,g149) (rr [0,0,0,0,0,0,0] [])
   refine s_alloc (.agg zc) zc (fun g150=>?_);refine nH [2,2,4] ?_;exact h_use hj143 (g40,g150) (rr [0,0,0,0,0,0,0] [])
  refine h_join (ι:=Nat) 7 #[true,true,true,true,true,true,true,true,true,true,true,true,true,false,true,true,true,true,true,true,false,false,true,false,false,false,false] (fun g45=>[(0,lv),(2,pB g1 0),(4,pB g4 0),(5,iw (i:Int)),(7,pB g45 0),(36,.agg (vc (ofS ((mst l i).2) y14.a))),(37,.agg #[pB hb2 0,pB hb3 0,lx]),(42,.agg #[iw y14.b.v.kind,iw y14.b.v.p,iw y14.b.v.q,sw y14.b.v.str,iw y14.b.v.ref,iw y14.b.obj]),(44,.agg #[pB hb2 0,pB hb3 0,lx]),(49,.agg #[iw y14.c.v.kind,iw y14.c.v.p,iw y14.c.v.q,sw y14.c.v.str,iw y14.c.v.ref,iw y14.c.obj])]) (fun g45=>blkA g45 zc 71::own VlT lx ((mst l i).2)::blkA g4 #[pB hb2 0,pB hb3 0,lx] 30::rhA hb3 ((mst l i).1)::hpA hb2 ((mst l i).1)::blkA g1 #[.pointer none,.pointer none,(.slice none 0 0)] 30::F) ?_ (fun hj151=>?_)
  .rintro g45;try dsimp only
   refine h_stepS3 13 21 23 ?_ ?_ ?_
   .refine sC [1] (of_s (L:=(mst l i).2) ol y14.b) ?_;refine nH [0,1,3] ?_;exact h_use hj135 g45 (rr [1,0,0,0,0,0] [])
   .refine s_alloc (.agg zc) zc (fun g152=>?_);refine nH [2,2,4] ?_;exact h_use hj141 (g152,g45) (rr [1,0,0,0,0,0,0] [])
   refine s_alloc (.agg zc) zc (fun g153=>?_);refine nH [2,2,4] ?_;exact h_use hj145 (g45,g153) (rr [0,0,0,0,0,0,0] [])
  refine h_join (ι:=Nat) 7 #[true,true,true,true,true,true,true,true,true,true,true,true,true,false,true,true,true,true,true,true,false,false,false,true,false,false,false] (fun g49=>[(0,lv),(2,pB g1 0),(4,pB g4 0),(5,iw (i:Int)),(8,pB g49 0),(36,.agg (vc (ofS ((mst l i).2) y14.a))),(37,.agg #[pB hb2 0,pB hb3 0,lx]),(42,.agg #[iw y14.b.v.kind,iw y14.b.v.p,iw y14.b.v.q,sw y14.b.v.str,iw y14.b.v.ref,iw y14.b.obj]),(44,.agg #[pB hb2 0,pB hb3 0,lx]),(49,.agg #[iw y14.c.v.kind,iw y14.c.v.p,iw y14.c.v.q,sw y14.c.v.str,iw y14.c.v.ref,iw y14.c.obj])]) (fun g49=>blkA g49 zc 71::own VlT lx ((mst l i).2)::blkA g4 #[pB hb2 0,pB hb3 0,lx] 30::rhA hb3 ((mst l i).1)::hpA hb2 ((mst l i).1)::blkA g1 #[.pointer none,.pointer none,(.slice none 0 0)] 30::F) ?_ (fun hj154=>?_)
  .rintro g49;try dsimp only
   refine h_stepS3 13 21 22 ?_ ?_ ?_
   .refine sC [1] (of_s (L:=(mst l i).2) ol y14.b) ?_;refine nH [0,1,3] ?_;exact h_use hj138 g49 (rr [1,0,0,0,0,0] [])
   .refine s_alloc (.agg zc) zc (fun g155=>?_);refine nH [2,2,4] ?_;exact h_use hj143 (g155,g49) (rr [1,0,0,0,0,0,0] [])
   refine s_alloc (.agg zc) zc (fun g156=>?_);refine nH [2,2,4] ?_;exact h_use hj145 (g156,g49) (rr [1,0,0,0,0,0,0] [])
  refine h_join (ι:=Nat×Nat) 7 #[true,true,true,true,true,true,false,true,true,true,true,true,true,false,true,true,true,true,true,true,false,true,true,false,false,false,false] (fun (g52,g53)=>[(0,lv),(2,pB g1 0),(4,pB g4 0),(5,iw (i:Int)),(6,pB g52 0),(7,pB g53 0),(30,.agg #[pB hb2 0,pB hb3 0,lx]),(35,.agg #[iw y14.a.v.kind,iw y14.a.v.p,iw y14.a.v.q,sw y14.a.v.str,iw y14.a.v.ref,iw y14.a.obj]),(37,.agg #[pB hb2 0,pB hb3 0,lx]),(42,.agg #[iw y14.b.v.kind,iw y14.b.v.p,iw y14.b.v.q,sw y14.b.v.str,iw y14.b.v.ref,iw y14.b.obj]),(44,.agg #[pB hb2 0,pB hb3 0,lx]),(49,.agg #[iw y14.c.v.kind,iw y14.c.v.p,iw y14.c.v.q,sw y14.c.v.str,iw y14.c.v.ref,iw y14.c.obj])]) (fun (g52,g53)=>blkA g53 zc 71::blkA g52 zc 71::own VlT lx ((mst l i).2)::blkA g4 #[pB hb2 0,pB hb3 0,lx] 30::rhA hb3 ((mst l i).1)::hpA hb2 ((mst l i).1)::blkA g1 #[.pointer none,.pointer none,(.slice none 0 0)] 30::F) ?_ (fun hj157=>?_)
  .rintro ⟨g52,g53⟩;try dsimp only
   refine h_stepS2 6 23 ?_ ?_
   .refine sC [2] (of_s (L:=(mst l i).2) ol y14.a) ?_;refine nH [0,2,4] ?_;exact h_use hj141 (g52,g53) (rr [1,1,0,0,0,0,0] [])
   refine s_alloc (.agg zc) zc (fun g158=>?_);refine nH [3,3,5] ?_;exact h_use hj147 (g52,g53,g158) (rr [0,0,0,0,0,0,0,0] [])
  refine h_join (ι:=Nat×Nat) 7 #[true,true,true,true,true,true,false,true,true,true,true,true,true,false,true,true,true,true,true,true,false,true,false,true,false,false,false] (fun (g52,g55)=>[(0,lv),(2,pB g1 0),(4,pB g4 0),(5,iw (i:Int)),(6,pB g52 0),(8,pB g55 0),(30,.agg #[pB hb2 0,pB hb3 0,lx]),(35,.agg #[iw y14.a.v.kind,iw y14.a.v.p,iw y14.a.v.q,sw y14.a.v.str,iw y14.a.v.ref,iw y14.a.obj]),(37,.agg #[pB hb2 0,pB hb3 0,lx]),(42,.agg #[iw y14.b.v.kind,iw y14.b.v.p,iw y14.b.v.q,sw y14.b.v.str,iw y14.b.v.ref,iw y14.b.obj]),(44,.agg #[pB hb2 0,pB hb3 0,lx]),(49,.agg #[iw y14.c.v.kind,iw y14.c.v.p,iw y14.c.v.q,sw y14.c.v.str,iw y14.c.v.ref,iw y14.c.obj])]) (fun (g52,g55)=>blkA g55 zc 71::blkA g52 zc 71::own VlT lx ((mst l i).2)::blkA g4 #[pB hb2 0,pB hb3 0,lx] 30::rhA hb3 ((mst l i).1)::hpA hb2 ((mst l i).1)::blkA g1 #[.pointer none,.pointer none,(.slice none 0 0)] 30::F) ?_ (fun hj159=>?_)
  .rintro ⟨g52,g55⟩;try dsimp only
   refine h_stepS2 6 22 ?_ ?_
   .refine sC [2] (of_s (L:=(mst l i).2) ol y14.a) ?_;refine nH [0,2,4] ?_;exact h_use hj143 (g52,g55) (rr [1,1,0,0,0,0,0] [])
   refine s_alloc (.agg zc) zc (fun g160=>?_);refine nH [3,3,5] ?_;exact h_use hj147 (g52,g160,g55) (rr [1,0,0,0,0,0,0,0] [])
  refine h_join (ι:=Nat×Nat) 7 #[true,true,true,true,true,true,false,true,true,true,true,true,true,false,true,true,true,true,true,true,false,false,true,true,false,false,false] (fun (g57,g59)=>[(0,lv),(2,pB g1 0),(4,pB g4 0),(5,iw (i:Int)),(7,pB g57 0),(8,pB g59 0),(30,.agg #[pB hb2 0,pB hb3 0,lx]),(35,.agg #[iw y14.a.v.kind,iw y14.a.v.p,iw y14.a.v.q,sw y14.a.v.str,iw y14.a.v.ref,iw y14.a.obj]),(37,.agg #[pB hb2 0,pB hb3 0,lx]),(42,.agg #[iw y14.b.v.kind,iw y14.b.v.p,iw y14.b.v.q,sw y14.b.v.str,iw y14.b.v.ref,iw y14.b.obj]),(44,.agg #[pB hb2 0,pB hb3 0,lx]),(49,.agg #[iw y14.c.v.kind,iw y14.c.v.p,iw y14.c.v.q,sw y14.c.v.str,iw y14.c.v.ref,iw y14.c.obj])]) (fun (g57,g59)=>blkA g59 zc 71::blkA g57 zc 71::own VlT lx ((mst l i).2)::blkA g4 #[pB hb2 0,pB hb3 0,lx] 30::rhA hb3 ((mst l i).1)::hpA hb2 ((mst l i).1)::blkA g1 #[.pointer none,.pointer none,(.slice none 0 0)] 30::F) ?_ (fun hj161=>?_)
  .rintro ⟨g57,g59⟩;try dsimp only
   refine h_stepS2 6 21 ?_ ?_
   .refine sC [2] (of_s (L:=(mst l i).2) ol y14.a) ?_;refine nH [0,2,4] ?_;exact h_use hj145 (g57,g59) (rr [1,1,0,0,0,0,0] [])
   refine s_alloc (.agg zc) zc (fun g162=>?_);refine nH [3,3,5] ?_;exact h_use hj147 (g162,g57,g59) (rr [1,1,0,0,0,0,0,0] [])
  refine h_stepS4 6 21 22 23 ?_ ?_ ?_ ?_
  .refine sC [0] (of_s (L:=(mst l i).2) ol y14.a) ?_;refine nH [0,0,2]<|h_stepS4 13 21 22 23 ?_ ?_ ?_ ?_
   .refine sC [0] (of_s (L:=(mst l i).2) ol y14.b) ?_;refine nH [0,0,2]<|h_stepS4 20 21 22 23 ?_ ?_ ?_ ?_
    .refine sC [0] (of_s (L:=(mst l i).2) ol y14.c) ?_;refine nH [0,0,2]<|h_stepS3 21 22 23 ?_ ?_ ?_
     .refine s_alloc (.agg zc) zc (fun g163=>?_);refine nH [1,1,3] ?_;exact h_use hj116 g163 (rr [0,0,0,0,0,0] [])
     .refine s_alloc (.agg zc) zc (fun g164=>?_);refine nH [1,1,3] ?_;exact h_use hj119 g164 (rr [0,0,0,0,0,0] [])
     refine s_alloc (.agg zc) zc (fun g165=>?_);refine nH [1,1,3] ?_;exact h_use hj122 g165 (rr [0,0,0,0,0,0] [])
    .refine s_alloc (.agg zc) zc (fun g166=>?_);refine nH [1,1,3] ?_;exact h_use hj132 g166 (rr [0,0,0,0,0,0] [])
    .refine s_alloc (.agg zc) zc (fun g167=>?_);refine nH [1,1,3] ?_;exact h_use hj135 g167 (rr [0,0,0,0,0,0] [])
    refine s_alloc (.agg zc) zc (fun g168=>?_);refine nH [1,1,3] ?_;exact h_use hj138 g168 (rr [0,0,0,0,0,0] [])
   .refine s_alloc (.agg zc) zc (fun g169=>?_);refine nH [1,1,3] ?_;exact h_use hj148 g169 (rr [0,0,0,0,0,0] [])
   .refine s_alloc (.agg zc) zc (fun g170=>?_);refine nH [1,1,3] ?_;exact h_use hj151 g170 (rr [0,0,0,0,0,0] [])
   refine s_alloc (.agg zc) zc (fun g171=>?_);refine nH [1,1,3] ?_;exact h_use hj154 g171 (rr [0,0,0,0,0,0] [])
  .refine s_alloc (.agg zc) zc (fun g172=>?_);refine nH [1,1,3]<|h_stepS3 6 22 23 ?_ ?_ ?_
   .refine sC [1] (of_s (L:=(mst l i).2) ol y14.a) ?_;refine nH [0,1,3] ?_;exact h_use hj148 g172 (rr [1,0,0,0,0,0] [])
   .refine s_alloc (.agg zc) zc (fun g173=>?_);refine nH [2,2,4] ?_;exact h_use hj157 (g172,g173) (rr [0,0,0,0,0,0,0] [])
   refine s_alloc (.agg zc) zc (fun g174=>?_);refine nH [2,2,4] ?_;exact h_use hj159 (g172,g174) (rr [0,0,0,0,0,0,0] [])
  .refine s_alloc (.agg zc) zc (fun g175=>?_);refine nH [1,1,3]<|h_stepS3 6 21 23 ?_ ?_ ?_
   .refine sC [1] (of_s (L:=(mst l i).2) ol y14.a) ?_;refine nH [0,1,3] ?_;exact h_use hj151 g175 (rr [1,0,0,0,0,0] [])
   .refine s_alloc (.agg zc) zc (fun g176=>?_);refine nH [2,2,4] ?_;exact h_use hj157 (g176,g175) (rr [1,0,0,0,0,0,0] [])
   refine s_alloc (.agg zc) zc (fun g177=>?_);refine nH [2,2,4] ?_;exact h_use hj161 (g175,g177) (rr [0,0,0,0,0,0,0] [])
  refine s_alloc (.agg zc) zc (fun g178=>?_);refine nH [1,1,3]<|h_stepS3 6 21 22 ?_ ?_ ?_
  .refine sC [1] (of_s (L:=(mst l i).2) ol y14.a) ?_;refine nH [0,1,3] ?_;exact h_use hj154 g178 (rr [1,0,0,0,0,0] [])
  .refine s_alloc (.agg zc) zc (fun g179=>?_);refine nH [2,2,4] ?_;exact h_use hj159 (g179,g178) (rr [1,0,0,0,0,0,0] [])
  refine s_alloc (.agg zc) zc (fun g180=>?_);refine nH [2,2,4] ?_;exact h_use hj161 (g180,g178) (rr [1,0,0,0,0,0,0] [])
 have p181:=c9;simp only[Bool.and_eq_true,Bool.or_eq_true,Bool.and_eq_false_iff,Bool.or_eq_false_iff,Bool.not_eq_true',Bool.not_eq_false',decide_eq_true_eq,decide_eq_false_iff_not]at p181;refine k_exit<|xs_exit<|xs_exit<|xs_here<|xs_then<|k_sr<|sL (t_loadA 1 #[pB hb2 0,pB hb3 0,lx])<|sF 0 (fun hf182=>?_)
 refine s_store (u:=.agg #[pB hb2 0,pB hb3 0,lx]) (m:=3) 4 #[pB hb2 0,pB hb3 0,lx] ?_ (hm:=by (obtain⟨_,_,e⟩:=hf182;rw[e];rfl)) (h1:=by (obtain⟨_,_,e⟩:=hf182;rw[e];rfl)) (ha':=by (obtain⟨_,_,e⟩:=hf182;rw[e];rfl));refine sP (.bool true)<|s_nt<|k_ret ?_
 have hend:made l=mst l i:=by unfold made;congr 1;omega
 exact xs_fin [.agg #[.pointer (some ⟨hb2,0,none⟩),.pointer (some ⟨hb3,0,none⟩),lx],.bool true] (hpA hb2 (mst l i).1::rhA hb3 (mst l i).1::own VlT lx (mst l i).2::F) (SI.agg 2 30 4 (SI.tmp 3 SI.nil)) (rr [3,2,0] [3,3]) ⟨hb2,hb3,lx,rfl,by rw[hend]⟩
end Go.Proofs.YtmhpcebiamkciaaGreat
end
section
set_option linter.unusedSimpArgs false
set_option linter.unusedVariables false
set_option maxRecDepth 100000
set_option maxHeartbeats 2000000
namespace Go.Proofs.YtmhpcebiamkciaaGreat
open Go.Hp Go.J Go.S
open Go.Mem (Ty KTy blk elemAt pre suf blk_pre blk_suf aget aset strK aggDesc)
open Go.Mem (adel apos aget_aset aget_adel)
structure Ob where
 id:Int
 size:Int
 weak:Int
 rv:Sv
 ev:Sv
 refs:List Int
 ents:List Ent
abbrev Ob.v(x:Ob):Value:=.agg #[iw x.id,iw x.size,iw x.weak,x.rv.v,x.ev.v]
def ObT:Ty Ob:=⟨100,5,72,true,Ob.v,⟨0,0,0,⟨none,0,0⟩,⟨none,0,0⟩,[],[]⟩⟩
theorem ObT_ok:ObT.Ok Tryz.prog:=ok_of ObT _ Tryz.t100 (by decide) (fun _=>rfl) (fun x u hu=>by simp[Ty.enc,ObT,Value.cells]at hu;rcases hu with rfl|rfl|rfl|rfl|rfl<;>rfl) (fun _=>rfl) Tryz.underlying100 rfl (fun h=>by cases h) (by kernel_rfl) (by kernel_rfl) (by kernel_rfl) (by kernel_rfl)
def KnO(Z:Zone)(x:Ob):Prop:=Kn Z iTy x.rv.v x.refs∧Kn Z EntT x.ev.v x.ents
structure KnG(Z:Zone)(ov rv:Value)(l:List Ob)(R:List Int):Prop where
 obs:Kn Z ObT ov l
 roots:Kn Z iTy rv R
 each:∀x∈l,KnO Z x
theorem KnG.up{Z:Zone}{As:List Asr}{H:Heap}{ov rv:Value}{l:List Ob}{R:List Int}(k:KnG Z ov rv l R)(h:Holds Z As H):KnG (zoneOf H) ov rv l R:=
 ⟨k.obs.up h,k.roots.up h,fun x hx=>⟨(k.each x hx).1.up h,(k.each x hx).2.up h⟩⟩
def GrA(ov rv:Value)(l:List Ob)(R:List Int)(H:Heap):Prop:=Sl H ObT ov l∧Sl H iTy rv R∧∀x∈l,Sl H iTy x.rv.v x.refs∧Sl H EntT x.ev.v x.ents
theorem GrA.kn{ov rv:Value}{l:List Ob}{R:List Int}{H:Heap}(h:GrA ov rv l R H):KnG (zoneOf H) ov rv l R:=⟨.of h.1,.of h.2.1,fun x hx=>⟨.of (h.2.2 x hx).1,.of (h.2.2 x hx).2⟩⟩
abbrev Ob.c(x:Ob):Int×Int×Int×List Int×List Ent:=(x.id,x.size,x.weak,x.refs,x.ents)
def chk(last:Int):List Ob→Bool
 | []=>true
 | x::r=>!(decide (x.id≤last)||(decide (x.size<0)||(decide (x.weak<0)||decide (3<x.weak))))&&chk x.id r
theorem chk_drop{last:Int}{l:List Ob}{i:Nat}{y:Ob}(hy:l[i]?=some y):chk last (l.drop i)=(!(decide (y.id≤last)||(decide (y.size<0)||(decide (y.weak<0)||decide (3<y.weak))))&&chk y.id (l.drop (i+1))):=by
 have h:l.drop i=y::l.drop (i+1):=by
  obtain⟨hi,e⟩:=List.getElem?_eq_some_iff.1 hy;rw[←e];exact List.drop_eq_getElem_cons hi
 rw[h];rfl
abbrev Asc(l:List Ob):Prop:=l.Pairwise (fun x y=>x.id<y.id)
theorem asc_lt{l:List Ob}(h:Asc l){i j:Nat}{x y:Ob}(hx:l[i]?=some x)(hy:l[j]?=some y)(hij:i<j):x.id<y.id:=by
 obtain⟨hi,e1⟩:=List.getElem?_eq_some_iff.1 hx;obtain⟨hj,e2⟩:=List.getElem?_eq_some_iff.1 hy;rw[←e1,←e2];exact List.pairwise_iff_getElem.1 h i j hi hj hij
theorem asc_inj{l:List Ob}(h:Asc l){i j:Nat}{x y:Ob}(hx:l[i]?=some x)(hy:l[j]?=some y)(e:x.id=y.id):i=j:=by
 rcases Nat.lt_trichotomy i j with hij|rfl|hij
 .have:=asc_lt h hx hy hij;omega
 .rfl
 have:=asc_lt h hy hx hij;omega
def fnd(l:List Ob)(id:Int):Option Ob:=l.find? fun o=>decide (o.id=id)
theorem fnd_id{l:List Ob}{id:Int}{o:Ob}(h:fnd l id=some o):o.id=id∧o∈l:=by
 have h1:=List.find?_some h;exact⟨by simpa using h1,List.mem_of_find?_eq_some h⟩
theorem fnd_none{l:List Ob}{id:Int}(h:fnd l id=none):∀o∈l,o.id≠id:=by
 intro o ho;have:=List.find?_eq_none.1 h o ho;simpa using this
theorem fnd_mem{l:List Ob}(h:Asc l){o:Ob}(ho:o∈l):fnd l o.id=some o:=by
 cases hf:fnd l o.id with
 | none=>exact absurd rfl (fnd_none hf o ho)
 | some p=>
  obtain⟨h1,h2⟩:=fnd_id hf;obtain⟨i,hi⟩:=List.mem_iff_getElem?.1 ho;obtain⟨j,hj⟩:=List.mem_iff_getElem?.1 h2;have:=asc_inj h hj hi h1;subst this;rw[hi]at hj;rw[hj]
abbrev Is(l:List Ob)(x:Int):Prop:=(fnd l x).isSome=true
theorem half(a b:Nat):Int.tdiv ((a:Int)+(b:Int)) 2=(((a+b) / 2:Nat):Int):=by
 rw[←Int.natCast_add,Int.tdiv_eq_ediv_of_nonneg om];omega
structure Bis(ks:List Int)(n:Int)(lo hi:Nat):Prop where
 le:lo≤hi
 top:hi≤ks.length
 below:∀(j:Nat) y,j<lo→ks[j]?=some y→y<n
 above:∀(j:Nat) y,hi≤j→ks[j]?=some y→n≤y
theorem bis0(ks:List Int)(n:Int):Bis ks n 0 ks.length:=⟨Nat.zero_le _,Nat.le_refl _,fun j y h=>absurd h (Nat.not_lt_zero _),fun j y h hy=>by rw[List.getElem?_eq_none h]at hy;cases hy⟩
theorem get_lt{ks:List Int}(h:ks.Pairwise (· < ·)){i j:Nat}{x y:Int}(hx:ks[i]?=some x)(hy:ks[j]?=some y)(hij:i<j):x<y:=by
 obtain⟨hi,e1⟩:=List.getElem?_eq_some_iff.1 hx;obtain⟨hj,e2⟩:=List.getElem?_eq_some_iff.1 hy;rw[←e1,←e2];exact List.pairwise_iff_getElem.1 h i j hi hj hij
theorem Bis.up {ks : List Int} (hs : ks.Pairwise (· < ·)) {n y : Int} {lo hi md : Nat} (h : Bis ks n lo hi) (hy : ks[md]? = some y) (hm : lo ≤ md ∧ md < hi) (hlt : y < n) : Bis ks n (md + 1) hi :=
  ⟨by omega, h.top, fun j z hj hz => by
    rcases Nat.lt_or_ge j md with h1 | h1
    · have := get_lt hs hz hy h1; omega
    · have : j = md := by omega
      subst this; rw [hy] at hz; cases hz; exact hlt, h.above⟩
theorem Bis.down {ks : List Int} (hs : ks.Pairwise (· < ·)) {n y : Int} {lo hi md : Nat} (h : Bis ks n lo hi) (hy : ks[md]? = some y) (hm : lo ≤ md ∧ md < hi) (hge : ¬ y < n) : Bis ks n lo md :=
  ⟨hm.1, by have := h.top; omega, h.below, fun j z hj hz => by
    rcases Nat.lt_or_ge md j with h1 | h1
    · have := get_lt hs hy hz h1; omega
    · have : j = md := by omega
      subst this; rw [hy] at hz; cases hz; omega⟩
theorem Bis.end_{ks:List Int}(hs:ks.Pairwise (· < ·)){n:Int}{lo hi:Nat}(h:Bis ks n lo hi)(he:¬lo<hi):n∈ks↔ks[lo]?=some n:=by
 have hl:lo=hi:=by have:=h.le;omega
 subst hl;constructor
 .intro hm;obtain⟨j,hj⟩:=List.mem_iff_getElem?.1 hm;rcases Nat.lt_trichotomy j lo with h1|rfl|h1
  .have:=h.below j n h1 hj;omega
  .exact hj
  have hjl:j<ks.length:=(List.getElem?_eq_some_iff.1 hj).1;obtain⟨y,hy⟩:∃y,ks[lo]?=some y:=⟨_,List.getElem?_eq_getElem om⟩;have h2:=h.above lo y (Nat.le_refl _) hy;have h3:=get_lt hs hy hj h1;omega
 exact fun h=>List.mem_of_getElem? h
theorem Bis.found{ks:List Int}(hs:ks.Pairwise (· < ·)){n y:Int}{lo hi:Nat}(h:Bis ks n lo hi)(he:¬lo<hi)(hy:ks[lo]?=some y):decide (y=n)=decide (n∈ks):=by
 rw[decide_eq_decide,h.end_ hs he,hy];exact⟨fun h=>by rw[h],fun h=>Option.some.inj h⟩
theorem Bis.lost{ks:List Int}(hs:ks.Pairwise (· < ·)){n:Int}{lo hi:Nat}(h:Bis ks n lo hi)(he:¬lo<hi)(hy:¬lo<ks.length):false=decide (n∈ks):=by
 refine (decide_eq_false fun hm=>?_).symm;rw[h.end_ hs he,List.getElem?_eq_none om]at hm;cases hm
theorem ids_asc{l:List Ob}(h:Asc l):(l.map Ob.id).Pairwise (· < ·):=by rw[List.pairwise_map];exact h
theorem ids_get{l:List Ob}{i:Nat}{y:Ob}(h:l[i]?=some y):(l.map Ob.id)[i]?=some y.id:=by rw[List.getElem?_map,h];rfl
def gfI(l:List Ob)(id:Int):Int:=match (l.map Ob.id).findIdx? (fun x=>decide (x=id)) with|some i=>(i:Int)|none => -1
theorem gfI_some{l:List Ob}(h:Asc l){i:Nat}{y:Ob}(hy:l[i]?=some y):gfI l y.id=(i:Int):=by
 unfold gfI;cases hf:(l.map Ob.id).findIdx? (fun x=>decide (x=y.id)) with
 | none=>
  have:=List.findIdx?_eq_none_iff.1 hf y.id (List.mem_of_getElem? (ids_get hy));simp at this
 | some j=>
  obtain⟨hj,h1,_⟩:=List.findIdx?_eq_some_iff_getElem.1 hf;have h2:l[j]?=some (l[j]'(by simpa using hj)):=List.getElem?_eq_getElem _;have h3:(l[j]'(by simpa using hj)).id=y.id:=by simpa using h1
  have:=asc_inj h h2 hy h3;subst this;rfl
theorem gfI_none{l:List Ob}{id:Int}(h:id∉l.map Ob.id):gfI l id = -1:=by
 unfold gfI;have:(l.map Ob.id).findIdx? (fun x=>decide (x=id))=none:=List.findIdx?_eq_none_iff.2 fun x hx=>by
  simp;rintro rfl;exact h hx
 rw[this]
theorem gfd_cases{l:List Ob}(h:Asc l)(id:Int):(fnd l id=none∧gfI l id = -1)∨∃i o,l[i]?=some o∧o.id=id∧fnd l id=some o∧gfI l id=((i:Nat):Int):=by
 cases hf:fnd l id with
 | none=>
  refine .inl ⟨rfl,gfI_none fun hm=>?_⟩;obtain⟨o,ho,e⟩:=List.mem_map.1 hm;exact fnd_none hf o ho e
 | some o=>
  obtain⟨h1,h2⟩:=fnd_id hf;obtain⟨i,hi⟩:=List.mem_iff_getElem?.1 h2;exact .inr ⟨i,o,hi,h1,rfl,by rw[←h1];exact gfI_some h hi⟩
def errI(b:Bool):Int:=if b then 0 else 2
theorem find2_s{Z:Zone}{ov rv:Value}{l:List Ob}{R:List Int}(hg:KnG Z ov rv l R)(hs:Asc l)(hl:l.length≤1000000)(id:Int):SF Tryz.prog 99 #[.agg #[ov,rv],iw id] Z [] fun r Bs=>r=iw (gfI l id)∧Bs=[]:=by
 refine sf_enter Tryz.func99 45 [(0,.agg #[ov,rv]),(1,iw id)] (fun w0=>?_);refine k_seq<|k_reg<|s_box #[ov,rv] (fun g1=>?_)
 refine sL (t_pure (iw 0))<|s_nil<|xs_then<|k_seq<|k_draw<|sL (t_pure (.pointer (some ⟨g1,0,none⟩)))<|sL (t_load 0 ov)<|s_fact (fun H h=>((Acc.zn hg.obs) H h).form) (fun hf2=>?_)
 refine sL (t_len ObT_ok Tryz.underlying55 (.zn hg.obs))<|sL (t_pure (iw 0))<|sL (t_pure (iw (l.length:Int)))<|s_nil<|x_dynS (fun _ h=>by obtain⟨_,_,e⟩:=hf2;subst e;kernel_rfl) ?_
 refine xs_then<|k_seq<|k_block<|k_loop (ι:=Nat×Nat) (fun (lo,hi)=>Bis (l.map Ob.id) id lo hi) (fun (lo,hi)=>[(1,iw id),(2,.pointer (some ⟨g1,0,none⟩)),(4,iw 0),(5,iw (lo:Int)),(6,iw (hi:Int))]) (fun (lo,hi)=>[blkA g1 #[ov,rv] 57]) (fun (lo,hi)=>hi-lo) (0,l.length) (by have:=bis0 (l.map Ob.id) id;rwa [List.length_map]at this) sA (rr [0] []) ?_
 rintro⟨lo,hi⟩ hi3;replace hi3:Bis (l.map Ob.id) id lo hi:=hi3;show SK _ _ _ _ _ [(1,iw id),(2,.pointer (some ⟨g1,0,none⟩)),(4,iw 0),(5,iw (lo:Int)),(6,iw (hi:Int))] _ [blkA g1 #[ov,rv] 57];have htop:=hi3.top;rw[List.length_map]at htop;refine k_seq<|k_seq<|k_reg<|sL (t_pure (iw (lo:Int)))<|sL (t_pure (iw (hi:Int)))<|sL t_cmp<|s_nil<|xs_then<|k_cond (decide ((lo:Int)<(hi:Int))) (fun c4=>?_) (fun c4=>?_)
 .have p5:=dY c4;refine k_skip<|xs_then<|k_block<|k_seq<|k_reg<|sL (t_pure (iw (lo:Int)))<|sL (t_pure (iw (hi:Int)))<|sL (t_add (lo:Int) (hi:Int) (by (try simp only[List.length_nil,List.length_cons,List.length_append,List.length_take,List.length_drop,List.length_set,List.length_replicate,List.length_reverse]);omega)) ?_
  obtain⟨md6,hmd7⟩:∃m:Nat,m=(lo+hi) / 2:=⟨_,rfl⟩;refine sL (Lt.to (v':=iw (md6:Int)) (t_quo ((lo:Int)+(hi:Int)) 2 (by decide) (by rw[half];omega)) (by rw[half,←hmd7]))<|sL (t_pure (iw (md6:Int)))<|s_nil<|xs_then<|k_seq<|k_reg<|sL (t_pure (.pointer (some ⟨g1,0,none⟩)))<|sL (t_load 0 ov)<|sL (t_pure (iw (md6:Int)))<|sL (t_index ObT_ok Tryz.underlying55 (.zn hg.obs) (md6:Int) md6 om (by (try simp only[List.length_nil,List.length_cons,List.length_append,List.length_take,List.length_drop,List.length_set,List.length_replicate,List.length_reverse]);omega) om)<|sL (t_pure (.pointer (some (elemAt ObT.size ov md6)))) ?_
  obtain⟨y8,hy9⟩:∃y,l[md6]?=some y:=⟨_,List.getElem?_eq_getElem (by (try simp only[List.length_nil,List.length_cons,List.length_append,List.length_take,List.length_drop,List.length_set,List.length_replicate,List.length_reverse]);omega)⟩;have hk10:=hg.each y8 (List.mem_of_getElem? hy9);refine sL (t_loadF 0 ObT_ok (.zn hg.obs) hy9)<|sL (t_pure (iw id))<|sL t_cmp<|s_nil<|xs_then<|k_cond (decide (y8.id<id)) (fun c11=>?_) (fun c11=>?_)
  .have p12:=dY c11;refine k_reg<|sL (t_pure (iw (md6:Int)))<|sL (t_add (md6:Int) 1 (by (try simp only[List.length_nil,List.length_cons,List.length_append,List.length_take,List.length_drop,List.length_set,List.length_replicate,List.length_reverse]);omega))<|sL (t_pure (iw ((md6:Int)+1)))<|s_nil<|xs_block ?_
   exact xs_round (md6+1,hi) (by show hi-(md6+1)<hi-lo;omega) (hi3.up (ids_asc hs) (ids_get hy9) om p12) sA (rr [0] [])
  have p13:=dF c11;refine k_reg<|sL (t_pure (iw (md6:Int)))<|sL (t_pure (iw (md6:Int)))<|s_nil<|xs_block ?_
  exact xs_round (lo,md6) (by show md6-lo<hi-lo;omega) (hi3.down (ids_asc hs) (ids_get hy9) om p13) sA (rr [0] [])
 have p14:=dF c4;refine k_exit<|xs_exit<|xs_exit<|xs_here<|xs_then<|k_seq<|k_seq<|k_reg<|sL (t_pure (iw (lo:Int)))<|sL (t_pure (.pointer (some ⟨g1,0,none⟩)))<|sL (t_load 0 ov)<|sL (t_len ObT_ok Tryz.underlying55 (.zn hg.obs))<|sL t_cmp<|sL (t_pure (.bool (decide ((lo:Int)<(l.length:Int)))))<|s_fork 34 (decide ((lo:Int)<(l.length:Int))) (fun c15=>?_) (fun c15=>?_)
 .have p16:=dY c15;refine sL (t_pure (.pointer (some ⟨g1,0,none⟩)))<|sL (t_load 0 ov)<|sL (t_pure (iw (lo:Int)))<|sL (t_index ObT_ok Tryz.underlying55 (.zn hg.obs) (lo:Int) lo om (by (try simp only[List.length_nil,List.length_cons,List.length_append,List.length_take,List.length_drop,List.length_set,List.length_replicate,List.length_reverse]);omega) om)<|sL (t_pure (.pointer (some (elemAt ObT.size ov lo)))) ?_
  obtain⟨y17,hy18⟩:∃y,l[lo]?=some y:=⟨_,List.getElem?_eq_getElem (by (try simp only[List.length_nil,List.length_cons,List.length_append,List.length_take,List.length_drop,List.length_set,List.length_replicate,List.length_reverse]);omega)⟩;have hk19:=hg.each y17 (List.mem_of_getElem? hy18);refine sL (t_loadF 0 ObT_ok (.zn hg.obs) hy18)<|sL (t_pure (iw id))<|sL t_cmp<|sL (t_pure (.bool (decide (y17.id=id))))<|s_nil<|xs_then<|k_cond (decide (y17.id=id)) (fun c20=>?_) (fun c20=>?_)
  .have p21:=dY c20;refine k_seq<|k_reg<|sL (t_pure (iw (lo:Int)))<|sL (t_pure (iw (lo:Int)))<|s_nil<|xs_then<|k_ret<|xs_ret<|xs_fin [iw (lo:Int)] [] (SI.tmp 4 SI.nil) (rr [] [0]) ⟨cI ?_,rfl⟩
   rw[←p21];exact (gfI_some hs hy18).symm
  have p22:=dF c20;refine k_skip<|xs_then<|k_seq<|k_reg<|sL (t_pure (iw (-1)))<|s_nil<|xs_then<|k_ret<|xs_fin [iw (-1)] [] (SI.tmp 4 SI.nil) (rr [] [0]) ⟨cI ?_,rfl⟩
  refine (gfI_none fun hm=>?_).symm;have hx:=hi3.found (ids_asc hs) om (ids_get hy18);rw[decide_eq_true hm]at hx;exact p22 (dY hx)
 have p23:=dF c15;refine sK<|sK<|sK<|sK<|sK<|sK<|sK<|sK<|sL (t_pure (.bool false))<|s_nil<|xs_then<|k_false<|k_skip<|xs_then<|k_seq<|k_reg<|sL (t_pure (iw (-1)))<|s_nil<|xs_then<|k_ret<|xs_fin [iw (-1)] [] (SI.tmp 4 SI.nil) (rr [] [0]) ⟨cI ?_,rfl⟩
 refine (gfI_none fun hm=>?_).symm;have hx:=hi3.lost (ids_asc hs) om (by rw[List.length_map];omega);rw[decide_eq_true hm]at hx;cases hx
theorem rcheck_s{Z:Zone}{ov rv:Value}{l:List Ob}{R:List Int}(hg:KnG Z ov rv l R):SF Tryz.prog 122 #[.agg #[ov,rv]] Z [] fun r Bs=>r=iw (errI (chk 0 l))∧Bs=[]:=by
 refine sf_enter Tryz.func122 51 [(0,.agg #[ov,rv])] (fun w0=>?_);refine k_fact (fun H h=>(hg.obs.get h).len_le) (fun lA=>?_);refine k_seq<|k_reg<|s_box #[ov,rv] (fun g1=>?_)
 refine sL (t_pure (iw 0))<|s_nil<|xs_then<|k_seq<|k_seq<|k_reg<|sL (t_pure (iw 0))<|s_nil<|xs_then<|k_block<|k_loop (ι:=Int×Nat) (fun (last,i)=>i≤l.length∧chk 0 l=chk last (l.drop i)∧0≤last∧last=(if i=0 then 0 else ((l.map Ob.id)[i-1]?).getD 0)) (fun (last,i)=>[(1,.pointer (some ⟨g1,0,none⟩)),(2,iw 0),(3,iw (i:Int))]) (fun (last,i)=>[blkA g1 #[ov,rv] 57]) (fun (last,i)=>l.length-i) (0,0) ⟨Nat.zero_le _,rfl,Int.le_refl _,rfl⟩ sA (rr [0] []) ?_
 rintro⟨last,i⟩ hi2;replace hi2:i≤l.length∧chk 0 l=chk last (l.drop i)∧0≤last∧last=(if i=0 then 0 else ((l.map Ob.id)[i-1]?).getD 0):=hi2;show SK _ _ _ _ _ [(1,.pointer (some ⟨g1,0,none⟩)),(2,iw 0),(3,iw (i:Int))] _ [blkA g1 #[ov,rv] 57];obtain⟨hj1,hj2,hj3,hj4⟩:=id hi2;refine k_seq<|k_seq<|k_reg<|sL (t_pure (iw (i:Int)))<|sL (t_pure (.pointer (some ⟨g1,0,none⟩)))<|sL (t_load 0 ov)<|sL (t_len ObT_ok Tryz.underlying55 (.zn hg.obs))<|sL t_cmp<|s_nil<|xs_then<|k_cond (decide ((i:Int)<(l.length:Int))) (fun c3=>?_) (fun c3=>?_)
 .have p4:=dY c3;refine k_skip<|xs_then<|k_seq<|k_block<|k_seq<|k_reg<|sL (t_pure (.pointer (some ⟨g1,0,none⟩)))<|sL (t_load 0 ov)<|sL (t_pure (iw (i:Int)))<|sL (t_index ObT_ok Tryz.underlying55 (.zn hg.obs) (i:Int) i om (by (try simp only[List.length_nil,List.length_cons,List.length_append,List.length_take,List.length_drop,List.length_set,List.length_replicate,List.length_reverse]);omega) om) ?_
  obtain⟨y5,hy6⟩:∃y,l[i]?=some y:=⟨_,List.getElem?_eq_getElem (by (try simp only[List.length_nil,List.length_cons,List.length_append,List.length_take,List.length_drop,List.length_set,List.length_replicate,List.length_reverse]);omega)⟩;have hk7:=hg.each y5 (List.mem_of_getElem? hy6);refine sL (t_loadE ObT_ok (.zn hg.obs) hy6)<|s_alloc (.agg #[iw 0,iw 0,iw 0,(.slice none 0 0),(.slice none 0 0)]) #[iw 0,iw 0,iw 0,(.slice none 0 0),(.slice none 0 0)] (fun g8=>?_)
  refine s_store 0 #[iw y5.id,iw y5.size,iw y5.weak,y5.rv.v,y5.ev.v] ?_;refine s_nil<|xs_then<|k_seq<|k_draw<|sL (t_pure (.pointer (some ⟨g8,0,none⟩)))<|sL (t_load 0 (iw y5.id))<|sL t_cmp<|sL (t_pure (.bool (decide (y5.id<1))))<|s_fork 20 (decide (y5.id<1)) (fun c9=>?_) (fun c9=>?_)
  .have p10:=dY c9;refine sK<|sK<|sK<|sK<|sK<|sK<|sK<|sK<|sK<|sK<|sK<|sK<|sK<|sK<|sL (t_pure (.bool true))<|sL (t_pure (.bool true))<|sK<|sK<|sK<|sL (t_pure (.bool true))<|sL (t_pure (.bool true))<|sK<|sK<|sK<|sL (t_pure (.bool true))<|sL (t_pure (.bool true))<|sK<|sK<|sK<|sL (t_pure (.bool true))<|s_nil ?_
   refine x_dynS (fun _ h=>by kernel_rfl) ?_;refine xs_then<|k_true<|k_seq<|k_reg<|sL (t_pure (iw 2))<|s_nil<|xs_then<|k_ret<|xs_retBlock<|xs_ret<|xs_ret<|xs_retBlock<|xs_ret<|xs_fin [iw 2] [] (SI.tmp 2 SI.nil) (rr [] [0,0]) ⟨cI ?_,rfl⟩
   rw[hi2.2.1,chk_drop hy6];first|(rw[decide_eq_true (p:=y5.id≤last) (by have:=hi2.2.2;first|omega|(rw[hi2.2.2.2];rw[if_pos om];omega))];rfl)|(simp only[errI];rw[if_neg];simp only[Bool.and_eq_true,Bool.not_eq_true',Bool.or_eq_false_iff,decide_eq_false_iff_not];omega)
  have p11:=dF c9;refine sL (t_pure (iw (i:Int)))<|sL t_cmp<|sL (t_pure (.bool (decide ((0:Int)<(i:Int)))))<|s_fork 23 (decide ((0:Int)<(i:Int))) (fun c12=>?_) (fun c12=>?_)
  .have p13:=dY c12;refine sL (t_pure (.pointer (some ⟨g8,0,none⟩)))<|sL (t_load 0 (iw y5.id))<|sL (t_pure (.pointer (some ⟨g1,0,none⟩)))<|sL (t_load 1 ov)<|sL (t_pure (iw (i:Int)))<|sL (t_sub (i:Int) 1 (by (try simp only[List.length_nil,List.length_cons,List.length_append,List.length_take,List.length_drop,List.length_set,List.length_replicate,List.length_reverse]);omega))<|sL (t_index ObT_ok Tryz.underlying55 (.zn hg.obs) ((i:Int)-1) (i-1) om (by (try simp only[List.length_nil,List.length_cons,List.length_append,List.length_take,List.length_drop,List.length_set,List.length_replicate,List.length_reverse]);omega) om)<|sL (t_pure (.pointer (some (elemAt ObT.size ov (i-1))))) ?_
   obtain⟨y14,hy15⟩:∃y,l[(i-1)]?=some y:=⟨_,List.getElem?_eq_getElem (by (try simp only[List.length_nil,List.length_cons,List.length_append,List.length_take,List.length_drop,List.length_set,List.length_replicate,List.length_reverse]);omega)⟩;have hk16:=hg.each y14 (List.mem_of_getElem? hy15);have hq:last=y14.id:=by rw[hj4,if_neg om,ids_get hy15];rfl
   refine sL (t_loadF 0 ObT_ok (.zn hg.obs) hy15)<|sL t_cmp<|sL (t_pure (.bool (decide (y5.id≤y14.id))))<|sL (t_pure (.bool (decide (y5.id≤y14.id))))<|sL (t_pure (.bool (decide (y5.id≤y14.id))))<|s_fork 36 (decide (y5.id≤y14.id)) (fun c17=>?_) (fun c17=>?_)
   .have p18:=dY c17;refine sK<|sK<|sK<|sL (t_pure (.bool true))<|sL (t_pure (.bool true))<|sK<|sK<|sK<|sL (t_pure (.bool true))<|sL (t_pure (.bool true))<|sK<|sK<|sK<|sL (t_pure (.bool true))<|s_nil<|x_dynS (fun _ h=>by kernel_rfl) ?_
    refine xs_then<|k_true<|k_seq<|k_reg<|sL (t_pure (iw 2))<|s_nil<|xs_then<|k_ret<|xs_retBlock<|xs_ret<|xs_ret<|xs_retBlock<|xs_ret<|xs_fin [iw 2] [] (SI.tmp 2 SI.nil) (rr [] [0,0]) ⟨cI ?_,rfl⟩
    rw[hi2.2.1,chk_drop hy6];first|(rw[decide_eq_true (p:=y5.id≤last) (by have:=hi2.2.2;first|omega|(rw[hi2.2.2.2];rw[if_pos om];omega))];rfl)|(simp only[errI];rw[if_neg];simp only[Bool.and_eq_true,Bool.not_eq_true',Bool.or_eq_false_iff,decide_eq_false_iff_not];omega)
   have p19:=dF c17;refine sL (t_pure (.pointer (some ⟨g8,1,none⟩)))<|sL (t_load 0 (iw y5.size))<|sL t_cmp<|sL (t_pure (.bool (decide (y5.size<0))))<|sL (t_pure (.bool (decide (y5.size<0))))<|s_fork 41 (decide (y5.size<0)) (fun c20=>?_) (fun c20=>?_)
   .have p21:=dY c20;refine sK<|sK<|sK<|sL (t_pure (.bool true))<|sL (t_pure (.bool true))<|sK<|sK<|sK<|sL (t_pure (.bool true))<|s_nil<|x_dynS (fun _ h=>by kernel_rfl) ?_
    refine xs_then<|k_true<|k_seq<|k_reg<|sL (t_pure (iw 2))<|s_nil<|xs_then<|k_ret<|xs_retBlock<|xs_ret<|xs_ret<|xs_retBlock<|xs_ret<|xs_fin [iw 2] [] (SI.tmp 2 SI.nil) (rr [] [0,0]) ⟨cI ?_,rfl⟩
    rw[hi2.2.1,chk_drop hy6];first|(rw[decide_eq_true (p:=y5.id≤last) (by have:=hi2.2.2;first|omega|(rw[hi2.2.2.2];rw[if_pos om];omega))];rfl)|(simp only[errI];rw[if_neg];simp only[Bool.and_eq_true,Bool.not_eq_true',Bool.or_eq_false_iff,decide_eq_false_iff_not];omega)
   have p22:=dF c20;refine sL (t_pure (.pointer (some ⟨g8,2,none⟩)))<|sL (t_load 0 (iw y5.weak))<|sL t_cmp<|sL (t_pure (.bool (decide (y5.weak<0))))<|sL (t_pure (.bool (decide (y5.weak<0))))<|s_fork 46 (decide (y5.weak<0)) (fun c23=>?_) (fun c23=>?_)
   .have p24:=dY c23;refine sK<|sK<|sK<|sL (t_pure (.bool true))<|s_nil<|x_dynS (fun _ h=>by kernel_rfl) ?_
    refine xs_then<|k_true<|k_seq<|k_reg<|sL (t_pure (iw 2))<|s_nil<|xs_then<|k_ret<|xs_retBlock<|xs_ret<|xs_ret<|xs_retBlock<|xs_ret<|xs_fin [iw 2] [] (SI.tmp 2 SI.nil) (rr [] [0,0]) ⟨cI ?_,rfl⟩
    rw[hi2.2.1,chk_drop hy6];first|(rw[decide_eq_true (p:=y5.id≤last) (by have:=hi2.2.2;first|omega|(rw[hi2.2.2.2];rw[if_pos om];omega))];rfl)|(simp only[errI];rw[if_neg];simp only[Bool.and_eq_true,Bool.not_eq_true',Bool.or_eq_false_iff,decide_eq_false_iff_not];omega)
   have p25:=dF c23;refine sL (t_pure (.pointer (some ⟨g8,2,none⟩)))<|sL (t_load 0 (iw y5.weak))<|sL t_cmp<|sL (t_pure (.bool (decide ((3:Int)<y5.weak))))<|s_nil<|x_dynS (fun _ h=>by kernel_rfl) ?_
   refine xs_then<|k_cond (decide ((3:Int)<y5.weak)) (fun c26=>?_) (fun c26=>?_)
   .have p27:=dY c26;refine k_seq<|k_reg<|sL (t_pure (iw 2))<|s_nil<|xs_then<|k_ret<|xs_retBlock<|xs_ret<|xs_ret<|xs_retBlock<|xs_ret<|xs_fin [iw 2] [] (SI.tmp 2 SI.nil) (rr [] [0,0]) ⟨cI ?_,rfl⟩
    rw[hi2.2.1,chk_drop hy6];first|(rw[decide_eq_true (p:=y5.id≤last) (by have:=hi2.2.2;first|omega|(rw[hi2.2.2.2];rw[if_pos om];omega))];rfl)|(simp only[errI];rw[if_neg];simp only[Bool.and_eq_true,Bool.not_eq_true',Bool.or_eq_false_iff,decide_eq_false_iff_not];omega)
   have p28:=dF c26;refine k_skip<|xs_block<|xs_then<|k_reg<|sL (t_pure (iw (i:Int)))<|sL (t_add (i:Int) 1 (by (try simp only[List.length_nil,List.length_cons,List.length_append,List.length_take,List.length_drop,List.length_set,List.length_replicate,List.length_reverse]);omega))<|sL (t_pure (iw ((i:Int)+1)))<|s_nil ?_
   exact xs_round (y5.id,i+1) (by show l.length-(i+1)<l.length-i;omega) (by obtain⟨hi1,hi2,hi3,hi4⟩:=hi2;have hd:=chk_drop (last:=last) hy6;refine⟨by omega,?_,by omega,by show y5.id=if i+1=0 then 0 else ((l.map Ob.id)[i+1-1]?).getD 0;rw[if_neg om,Nat.add_sub_cancel,ids_get hy6];rfl⟩;rw[hi2,hd,decide_eq_false om,decide_eq_false om,decide_eq_false om,decide_eq_false om];rfl) sA (rr [1] [1])
  have p29:=dF c12;refine sK<|sK<|sK<|sK<|sK<|sK<|sK<|sK<|sK<|sK<|sL (t_pure (.bool false))<|sL (t_pure (.bool false))<|sL (t_pure (.bool false))<|sL (t_pure (.pointer (some ⟨g8,1,none⟩)))<|sL (t_load 0 (iw y5.size))<|sL t_cmp<|sL (t_pure (.bool (decide (y5.size<0))))<|sL (t_pure (.bool (decide (y5.size<0))))<|s_fork 41 (decide (y5.size<0)) (fun c30=>?_) (fun c30=>?_)
  .have p31:=dY c30;refine sK<|sK<|sK<|sL (t_pure (.bool true))<|sL (t_pure (.bool true))<|sK<|sK<|sK<|sL (t_pure (.bool true))<|s_nil<|x_dynS (fun _ h=>by kernel_rfl) ?_
   refine xs_then<|k_true<|k_seq<|k_reg<|sL (t_pure (iw 2))<|s_nil<|xs_then<|k_ret<|xs_retBlock<|xs_ret<|xs_ret<|xs_retBlock<|xs_ret<|xs_fin [iw 2] [] (SI.tmp 2 SI.nil) (rr [] [0,0]) ⟨cI ?_,rfl⟩
   rw[hi2.2.1,chk_drop hy6];first|(rw[decide_eq_true (p:=y5.id≤last) (by have:=hi2.2.2;first|omega|(rw[hi2.2.2.2];rw[if_pos om];omega))];rfl)|(simp only[errI];rw[if_neg];simp only[Bool.and_eq_true,Bool.not_eq_true',Bool.or_eq_false_iff,decide_eq_false_iff_not];omega)
  have p32:=dF c30;refine sL (t_pure (.pointer (some ⟨g8,2,none⟩)))<|sL (t_load 0 (iw y5.weak))<|sL t_cmp<|sL (t_pure (.bool (decide (y5.weak<0))))<|sL (t_pure (.bool (decide (y5.weak<0))))<|s_fork 46 (decide (y5.weak<0)) (fun c33=>?_) (fun c33=>?_)
  .have p34:=dY c33;refine sK<|sK<|sK<|sL (t_pure (.bool true))<|s_nil<|x_dynS (fun _ h=>by kernel_rfl) ?_
   refine xs_then<|k_true<|k_seq<|k_reg<|sL (t_pure (iw 2))<|s_nil<|xs_then<|k_ret<|xs_retBlock<|xs_ret<|xs_ret<|xs_retBlock<|xs_ret<|xs_fin [iw 2] [] (SI.tmp 2 SI.nil) (rr [] [0,0]) ⟨cI ?_,rfl⟩
   rw[hi2.2.1,chk_drop hy6];first|(rw[decide_eq_true (p:=y5.id≤last) (by have:=hi2.2.2;first|omega|(rw[hi2.2.2.2];rw[if_pos om];omega))];rfl)|(simp only[errI];rw[if_neg];simp only[Bool.and_eq_true,Bool.not_eq_true',Bool.or_eq_false_iff,decide_eq_false_iff_not];omega)
  have p35:=dF c33;refine sL (t_pure (.pointer (some ⟨g8,2,none⟩)))<|sL (t_load 0 (iw y5.weak))<|sL t_cmp<|sL (t_pure (.bool (decide ((3:Int)<y5.weak))))<|s_nil<|x_dynS (fun _ h=>by kernel_rfl) ?_
  refine xs_then<|k_cond (decide ((3:Int)<y5.weak)) (fun c36=>?_) (fun c36=>?_)
  .have p37:=dY c36;refine k_seq<|k_reg<|sL (t_pure (iw 2))<|s_nil<|xs_then<|k_ret<|xs_retBlock<|xs_ret<|xs_ret<|xs_retBlock<|xs_ret<|xs_fin [iw 2] [] (SI.tmp 2 SI.nil) (rr [] [0,0]) ⟨cI ?_,rfl⟩
   rw[hi2.2.1,chk_drop hy6];first|(rw[decide_eq_true (p:=y5.id≤last) (by have:=hi2.2.2;first|omega|(rw[hi2.2.2.2];rw[if_pos om];omega))];rfl)|(simp only[errI];rw[if_neg];simp only[Bool.and_eq_true,Bool.not_eq_true',Bool.or_eq_false_iff,decide_eq_false_iff_not];omega)
  have p38:=dF c36;refine k_skip<|xs_block<|xs_then<|k_reg<|sL (t_pure (iw (i:Int)))<|sL (t_add (i:Int) 1 (by (try simp only[List.length_nil,List.length_cons,List.length_append,List.length_take,List.length_drop,List.length_set,List.length_replicate,List.length_reverse]);omega))<|sL (t_pure (iw ((i:Int)+1)))<|s_nil ?_
  exact xs_round (y5.id,i+1) (by show l.length-(i+1)<l.length-i;omega) (by obtain⟨hi1,hi2,hi3,hi4⟩:=hi2;have hd:=chk_drop (last:=last) hy6;refine⟨by omega,?_,by omega,by show y5.id=if i+1=0 then 0 else ((l.map Ob.id)[i+1-1]?).getD 0;rw[if_neg om,Nat.add_sub_cancel,ids_get hy6];rfl⟩;rw[hi2,hd,decide_eq_false om,decide_eq_false om,decide_eq_false om,decide_eq_false om];rfl) sA (rr [1] [1])
 have p39:=dF c3;refine k_exit<|xs_exit<|xs_exit<|xs_here<|xs_then<|k_seq<|k_reg<|sL (t_pure (iw 0))<|s_nil<|xs_then<|k_ret<|xs_fin [iw 0] [] (SI.tmp 2 SI.nil) (rr [] [0]) ⟨cI ?_,rfl⟩
 rw[hi2.2.1,List.drop_of_length_le om];rfl
end Go.Proofs.YtmhpcebiamkciaaGreat
end
section
set_option linter.unusedSimpArgs false
set_option linter.unusedVariables false
set_option maxRecDepth 100000
set_option maxHeartbeats 2000000
namespace Go.Proofs.YtmhpcebiamkciaaGreat
open Go.Hp Go.J Go.S
open Go.Mem (Ty KTy blk elemAt pre suf blk_pre blk_suf aget aset strK aggDesc)
open Go.Mem (adel apos aget_aset aget_adel)
def allE(e:Ent):List Int:=[e.key,e.val]
def allO(o:Ob):List Int:=o.refs++o.ents.flatMap allE
def alO(l:List Ob)(id:Int):Bool:=(fnd l id).isSome
def rfO(l:List Ob)(id:Int):List Int:=match fnd l id with
 | some o=>allO o
 | none=>[]
theorem rfO_is{l:List Ob}{id:Int}{o:Ob}(h:fnd l id=some o):rfO l id=allO o:=by unfold rfO;rw[h]
theorem alO_is{l:List Ob}{id:Int}{o:Ob}(h:fnd l id=some o):alO l id=true:=by unfold alO;rw[h];rfl
theorem alO_no{l:List Ob}{id:Int}(h:fnd l id=none):alO l id=false:=by unfold alO;rw[h];rfl
theorem ent_take{L:List Ent}{i:Nat}{e:Ent}(h:L[i]?=some e):(L.take i).flatMap allE++[e.key,e.val]=(L.take (i+1)).flatMap allE:=by
 rw[List.take_add_one,h];simp[List.flatMap_append,allE]
theorem ent_len:∀L:List Ent,(L.flatMap allE).length=2*L.length
 | []=>rfl
 | e::r=>by simp only[List.flatMap_cons,List.length_append,List.length_cons,ent_len r];simp[allE];omega
theorem map_set{l:List Ob}{f g:Int→Int}{i:Nat}{o:Ob}(hs:Asc l)(ho:l[i]?=some o)(hn:∀x,x≠o.id→g x=f x):(l.map fun o=>f o.id).set i (g o.id)=l.map fun o=>g o.id:=by
 apply List.ext_getElem?;intro j;rw[List.getElem?_set,List.getElem?_map,List.getElem?_map];have hi:i<l.length:=(List.getElem?_eq_some_iff.1 ho).1;by_cases e:i=j
 .subst e;rw[if_pos rfl,if_pos (by rw[List.length_map];exact hi),ho];rfl
 rw[if_neg e];cases hj:l[j]? with
 | none=>rfl
 | some y=>
  show some (f y.id)=some (g y.id);rw[hn y.id fun q=>e (asc_inj hs ho hj q.symm)]
theorem map_set2{l:List Ob}{f:Int→Int}{i:Nat}{o:Ob}(g:Int→Int)(v:Int)(hs:Asc l)(ho:l[i]?=some o)(hv:g o.id=v)(hn:∀x,x≠o.id→g x=f x):(l.map fun o=>f o.id).set i v=l.map fun o=>g o.id:=by
 subst hv;exact map_set hs ho hn
theorem col_nil(l:List Ob):List.replicate l.length (0:Int)=l.map fun o=>clI [] 0 o.id:=by
 apply List.ext_getElem?;intro j;rw[List.getElem?_replicate,List.getElem?_map];by_cases h:j<l.length
 .rw [if_pos h,List.getElem?_eq_getElem h];exact congrArg some clI_nil.symm
 rw[if_neg h,List.getElem?_eq_none om];rfl
theorem find_must{l:List Ob}(h:Asc l){id:Int}(hi:alO l id=true):∃i o,l[i]?=some o∧o.id=id∧fnd l id=some o∧gfI l id=((i:Nat):Int):=by
 rcases gfd_cases h id with ⟨h1,_⟩|h1
 .rw [alO_no h1]at hi;cases hi
 exact h1
theorem drop_one(G:List Int)(i:Nat):(G.drop i).drop 1=G.drop (i+1):=by rw[List.drop_drop]
theorem get_drop0{G:List Int}{i:Nat}{y:Int}(h:(G.drop i)[0]?=some y):G[i]?=some y:=by
 rw[List.getElem?_drop,Nat.add_zero]at h;exact h
theorem al_ids{l:List Ob}{x:Int}(h:alO l x=true):x∈l.map Ob.id:=by
 unfold alO at h;obtain⟨o,ho⟩:=Option.isSome_iff_exists.1 h;obtain⟨h1,h2⟩:=fnd_id ho;exact List.mem_map.2 ⟨o,h2,h1⟩
def fil(l:List Ob)(G:List Int):List Int:=(l.map Ob.id).filter fun x=>decide (x∈G)
theorem fil_yes{l:List Ob}{G:List Int}{i:Nat}{y:Ob}(hy:l[i]?=some y)(h:y.id∈G):fil (l.take i) G++[y.id]=fil (l.take (i+1)) G:=by
 unfold fil;rw[List.take_add_one,hy];simp[List.filter_append,h]
theorem fil_no{l:List Ob}{G:List Int}{i:Nat}{y:Ob}(hy:l[i]?=some y)(h:y.id∉G):fil (l.take i) G=fil (l.take (i+1)) G:=by
 unfold fil;rw[List.take_add_one,hy];simp[List.filter_append,h]
theorem fil_len(l:List Ob)(G:List Int):(fil l G).length≤l.length:=by
 unfold fil;refine Nat.le_trans (List.length_filter_le _ _) ?_;rw[List.length_map];exact Nat.le_refl _
def rfA(b:Nat)(l:List Ob)(G:List Int)(k q:Nat):Asr:=exA fun ov=>exA fun cv=>exA fun qv=>stA True [blkA b #[ov,.slice none 0 0,cv,qv] 111,own ObT ov l,own iTy cv (l.map fun o=>clI G k o.id),ownO iTy qv (G.drop q)]
section
variable{Z:Zone}{F:List Asr}{H:Heap}{b:Nat}{l:List Ob}{G:List Int}{k q:Nat}
theorem rf_open(h:Holds Z (rfA b l G k q::F) H):∃ov cv qv,True∧Holds Z (blkA b #[ov,.slice none 0 0,cv,qv] 111::own ObT ov l::own iTy cv (l.map fun o=>clI G k o.id)::ownO iTy qv (G.drop q)::F) H:=by
 obtain⟨ov,h⟩:=h.open_ex;obtain⟨cv,h⟩:=h.open_ex;obtain⟨qv,h⟩:=h.open_ex;exact⟨ov,cv,qv,h.open_st⟩
theorem rf_shut{ov cv qv:Value}{C Q:List Int}(hC:C=l.map fun o=>clI G k o.id)(hQ:Q=G.drop q)(h:Holds Z (blkA b #[ov,.slice none 0 0,cv,qv] 111::own ObT ov l::own iTy cv C::ownO iTy qv Q::F) H):Holds Z (rfA b l G k q::F) H:=by
 subst hC hQ;exact Holds.shut_ex ov (Holds.shut_ex cv (Holds.shut_ex qv (Holds.shut_st trivial h)))
end
theorem rreach_s{Z:Zone}{F:List Asr}{b:Nat}{l:List Ob}{G:List Int}{k q:Nat}(hO:∀x∈l,KnO Z x)(hs:Asc l)(hl:l.length≤100000)(hk:k≤G.length)(hq:q≤G.length)(hG:G.length≤1000000)(id:Int):SF Tryz.prog 123 #[.pointer (some ⟨b,0,none⟩),iw id] Z (rfA b l G k q::F) fun r Bs=>r=.tuple #[]∧Bs=rfA b l (sr1 (alO l) G id) k q::F:=by
 refine sf_enter Tryz.func123 39 [(0,.pointer (some ⟨b,0,none⟩)),(1,iw id)] (fun w0=>?_);refine k_mem3 (fun H h=>rf_open (h.re [0] [])) (fun ov1 cv2 qv3 hw=>?_);have hml4:(l.map fun o=>clI G k o.id).length=l.length:=List.length_map _;refine k_seq<|k_reg<|sL (t_pure (.pointer (some ⟨b,0,none⟩)))<|sL (t_pure (.pointer (some ⟨b,0,none⟩)))<|sL (t_pure (.pointer (some ⟨b,0,none⟩)))<|sL (t_loadA 0 #[ov1,(.slice none 0 0)])<|sL (t_pure (iw id))<|sV (fun _ h=>find2_s (show KnG _ _ _ l [] from ⟨Acc.kn (T:=ObT) (.own 1) h,Acc.kn (T:=iTy) .nil h,fun x hx=>⟨Kn.up (hO x hx).1 h,Kn.up (hO x hx).2 h⟩⟩) hs om id) ?_
 rcases gfd_cases hs id with ⟨hf7,he11⟩|⟨ix5,ob6,hx8,hid9,hf10,he11⟩
 .rw [he11];refine sL (t_pure (iw (-1)))<|s_nil<|xs_then<|k_seq<|k_reg<|sL (t_pure (iw (-1)))<|sL (t_cmp (c:=false))<|sL (t_pure (.bool false))<|sK<|sK<|sK<|sK<|sK<|sK<|sK<|sK<|sL (t_pure (.bool false))<|s_nil<|xs_then<|k_false<|k_skip<|xs_mem (fun _ h=>rf_shut (l:=l) (G:=G) (k:=k) (q:=q) rfl rfl (h.re [0,0,0,0] [])) ?_
  refine xs_finN [] (rfA b l G k q::F) SI.nil (rr [0] []) ⟨rfl,?_⟩;rw[sr1_dead (alO_no hf7)]
 rw[he11];have hk12:=hO ob6 (List.mem_of_getElem? hx8);have hlt13:ix5<l.length:=(List.getElem?_eq_some_iff.1 hx8).1;refine sL (t_pure (iw (ix5:Int)))<|s_nil<|xs_then<|k_seq<|k_reg<|sL (t_pure (iw (ix5:Int)))<|sL t_cmp<|sL (t_pure (.bool (decide ((0:Int)≤(ix5:Int)))))<|s_fork 13 (decide ((0:Int)≤(ix5:Int))) (fun c14=>?_) (fun c14=>?_)
 .have p15:=dY c14;refine sL (t_pure (.pointer (some ⟨b,0,none⟩)))<|sL (t_pure (.pointer (some ⟨b,0,none⟩)))<|sL (t_pure (.pointer (some ⟨b,2,none⟩)))<|sL (t_load 0 cv2)<|sL (t_pure (iw (ix5:Int)))<|sL (t_index iTy_ok Tryz.underlying23 (.own 2) (ix5:Int) ix5 om (by (try simp only[List.length_nil,List.length_cons,List.length_append,List.length_take,List.length_drop,List.length_set,List.length_replicate,List.length_reverse]);omega) om)<|sL (t_loadE iTy_ok (.own 2) (show ((l.map fun o=>clI G k o.id))[ix5]?=some (clI G k ob6.id) by rw[List.getElem?_map,hx8];rfl)) ?_
  refine sL t_cmp<|sL (t_pure (.bool (decide ((clI G k ob6.id)=0))))<|s_nil<|xs_then<|k_cond (decide ((clI G k ob6.id)=0)) (fun c16=>?_) (fun c16=>?_)
  .have p17:=dY c16;refine k_seq<|k_reg<|sL (t_pure (.pointer (some ⟨b,0,none⟩)))<|sL (t_pure (.pointer (some ⟨b,0,none⟩)))<|sL (t_pure (.pointer (some ⟨b,2,none⟩)))<|sL (t_load 0 cv2)<|sL (t_pure (iw (ix5:Int)))<|sL (t_index iTy_ok Tryz.underlying23 (.own 2) (ix5:Int) ix5 om (by (try simp only[List.length_nil,List.length_cons,List.length_append,List.length_take,List.length_drop,List.length_set,List.length_replicate,List.length_reverse]);omega) om)<|s_storeE 2 0 1 iTy_ok (show ((l.map fun o=>clI G k o.id))[ix5]?=some (clI G k ob6.id) by rw[List.getElem?_map,hx8];rfl) ?_
   refine s_nil<|xs_then<|k_reg<|sL (t_pure (.pointer (some ⟨b,0,none⟩)))<|sL (t_pure (.pointer (some ⟨b,0,none⟩)))<|sL (t_pure (.pointer (some ⟨b,0,none⟩)))<|sL (t_pure (.pointer (some ⟨b,3,none⟩)))<|sL (t_load 0 qv3)<|sL (t_pure (iw id))<|s_buildSlice (e:=3) [(0,iw id)] #[iw id] (fun g18=>?_) (hb:=by kernel_rfl)
   refine s_appendO (L:=(G.drop q)) 4 iTy_ok Tryz.underlying23 (.lit 0 iTy_ok [id]) (by show _*8≤_;(try simp only[List.length_nil,List.length_cons,List.length_append,List.length_take,List.length_drop,List.length_set,List.length_replicate,List.length_reverse]);omega) (by (try simp only[List.length_nil,List.length_cons,List.length_append,List.length_take,List.length_drop,List.length_set,List.length_replicate,List.length_reverse]);omega) (fun v19=>?_);refine s_fact (fun H h=>((Acc.ownO (T:=iTy) (L:=((G.drop q)++[id])) 4 rfl) H h).form) (fun hf20=>?_);refine sL (t_pure (.pointer (some ⟨b,0,none⟩)))<|sL (t_pure (.pointer (some ⟨b,3,none⟩)))<|s_store (u:=v19) (m:=1) 1 #[ov1,(.slice none 0 0),cv2,v19] ?_ (hm:=by (obtain⟨_,_,e⟩:=hf20;rw[e];rfl)) (h1:=by (obtain⟨_,_,e⟩:=hf20;rw[e];rfl)) (ha':=by (obtain⟨_,_,e⟩:=hf20;rw[e];rfl))
   refine s_nil ?_;have hz:=clI_zero (dY c16);rw[hid9]at hz;refine xs_mem (fun _ h=>rf_shut (l:=l) (G:=(G++[id])) (k:=k) (q:=q) (map_set2 (f:=clI G k) (clI (G++[id]) k) 1 hs hx8 (by rw[hid9,clI_new hk hz,if_pos rfl]) (fun x hx=>(clI_new hk hz).trans (if_neg (by rw[←hid9];exact hx)))) (List.drop_append_of_le_length hq).symm (h.re [1,1,1,1] [])) ?_;refine xs_finN [] (rfA b l (G++[id]) k q::F) SI.nil (rr [0] [1]) ⟨rfl,?_⟩;rw[sr1_yes (alO_is hf10) hz]
  have p21:=dF c16;refine k_skip<|xs_mem (fun _ h=>rf_shut (l:=l) (G:=G) (k:=k) (q:=q) rfl rfl (h.re [0,0,0,0] [])) ?_
  refine xs_finN [] (rfA b l G k q::F) SI.nil (rr [0] []) ⟨rfl,?_⟩;rw[sr1_in (by have:=clI_ne (dF c16);rwa [hid9]at this)]
 have p22:=dF c14;refine sK<|sK<|sK<|sK<|sK<|sK<|sK<|sK<|sL (t_pure (.bool false))<|s_nil<|xs_then<|k_false<|k_skip<|xs_mem (fun _ h=>rf_shut (l:=l) (G:=G) (k:=k) (q:=q) rfl rfl (h.re [0,0,0,0] [])) ?_
 refine xs_finN [] (rfA b l G k q::F) SI.nil (rr [0] []) ⟨rfl,?_⟩;exfalso;have:=dF c14;omega
theorem rrefs_s{Z:Zone}{x:Ob}(hx:KnO Z x)(h1:x.refs.length≤100000)(h2:x.ents.length≤100000):SF Tryz.prog 124 #[x.v] Z [] fun r Bs=>Bs=[own iTy r (allO x)]:=by
 refine sf_enter Tryz.func124 32 [(0,.agg #[iw x.id,iw x.size,iw x.weak,x.rv.v,x.ev.v])] (fun w0=>?_);refine k_seq<|k_reg<|s_box #[iw x.id,iw x.size,iw x.weak,x.rv.v,x.ev.v] (fun g1=>?_)
 refine sL (t_pure (.slice none 0 0))<|s_nil<|xs_then<|k_seq<|k_reg<|s_buildSlice (e:=3) [] #[] (fun g2=>?_) (hb:=by kernel_rfl)
 refine sL (t_pure (.pointer (some ⟨g1,3,none⟩)))<|sL (t_load 1 x.rv.v)<|s_mem (fun _ h=>Holds.slice 0 h iTy_ok []) ?_
 refine s_append (L:=[]) 0 iTy_ok Tryz.underlying23 (.zn hx.1) (by show _*8≤_;(try simp only[List.length_nil,List.length_cons,List.length_append,List.length_take,List.length_drop,List.length_set,List.length_replicate,List.length_reverse]);omega) (by (try simp only[List.length_nil,List.length_cons,List.length_append,List.length_take,List.length_drop,List.length_set,List.length_replicate,List.length_reverse]);omega) (fun v3=>?_);rw[List.nil_append];refine sF 0 (fun hf4=>?_);refine sL (t_pure v3)<|s_nil<|xs_then<|k_seq<|k_seq<|k_reg<|sL (t_pure (iw 0))<|s_nil<|xs_then<|k_block<|k_fact (fun H h=>(hx.2.get h).len_le) (fun le=>?_)
 refine k_mem (Bs:=[own iTy v3 (x.refs++(x.ents.take 0).flatMap allE),blkA g1 #[iw x.id,iw x.size,iw x.weak,x.rv.v,x.ev.v] 100]) (fun _ h=>by rw[show x.refs++(x.ents.take 0).flatMap allE=x.refs from List.append_nil _];exact h) ?_;refine k_loop (ι:=Value×Nat) (fun (sx,i)=>i≤x.ents.length) (fun (sx,i)=>[(1,.pointer (some ⟨g1,0,none⟩)),(2,(.slice none 0 0)),(3,sx),(4,iw (i:Int))]) (fun (sx,i)=>[own iTy sx (x.refs++(x.ents.take i).flatMap allE),blkA g1 #[iw x.id,iw x.size,iw x.weak,x.rv.v,x.ev.v] 100]) (fun (sx,i)=>x.ents.length-i) (v3,0) (Nat.zero_le _) sA (rr [0,0] []) ?_;rintro⟨sx,i⟩ hi5;replace hi5:i≤x.ents.length:=hi5;show SK _ _ _ _ _ [(1,.pointer (some ⟨g1,0,none⟩)),(2,(.slice none 0 0)),(3,sx),(4,iw (i:Int))] _ [own iTy sx (x.refs++(x.ents.take i).flatMap allE),blkA g1 #[iw x.id,iw x.size,iw x.weak,x.rv.v,x.ev.v] 100];have hel:=ent_len (x.ents.take i);rw[List.length_take]at hel;refine k_seq<|k_seq<|k_reg<|sL (t_pure (iw (i:Int)))<|sL (t_pure (.pointer (some ⟨g1,4,none⟩)))<|sL (t_load 1 x.ev.v)<|sL (t_len EntT_ok Tryz.underlying98 (.zn hx.2))<|sL t_cmp<|s_nil<|xs_then<|k_cond (decide ((i:Int)<(x.ents.length:Int))) (fun c6=>?_) (fun c6=>?_)
 .have p7:=dY c6;refine k_skip<|xs_then<|k_seq<|k_block<|k_draw<|sL (t_pure sx)<|sL (t_pure (.pointer (some ⟨g1,4,none⟩)))<|sL (t_load 1 x.ev.v)<|sL (t_pure (iw (i:Int)))<|sL (t_index EntT_ok Tryz.underlying98 (.zn hx.2) (i:Int) i om (by (try simp only[List.length_nil,List.length_cons,List.length_append,List.length_take,List.length_drop,List.length_set,List.length_replicate,List.length_reverse]);omega) om)<|sL (t_pure (.pointer (some (elemAt EntT.size x.ev.v i)))) ?_
  obtain⟨y8,hy9⟩:∃y,x.ents[i]?=some y:=⟨_,List.getElem?_eq_getElem (by (try simp only[List.length_nil,List.length_cons,List.length_append,List.length_take,List.length_drop,List.length_set,List.length_replicate,List.length_reverse]);omega)⟩;refine sL (t_loadF 0 EntT_ok (.zn hx.2) hy9)<|sL (t_pure (.pointer (some ⟨g1,4,none⟩)))<|sL (t_load 1 x.ev.v)<|sL (t_pure (iw (i:Int)))<|sL (t_index EntT_ok Tryz.underlying98 (.zn hx.2) (i:Int) i om (by (try simp only[List.length_nil,List.length_cons,List.length_append,List.length_take,List.length_drop,List.length_set,List.length_replicate,List.length_reverse]);omega) om)<|sL (t_pure (.pointer (some ((elemAt EntT.size x.ev.v i).add 1))))<|sL (t_loadF 1 EntT_ok (.zn hx.2) hy9)<|s_buildSlice (e:=3) [(0,iw y8.key),(1,iw y8.val)] #[iw y8.key,iw y8.val] (fun g10=>?_) (hb:=by kernel_rfl)
  refine s_append (L:=(x.refs++(x.ents.take i).flatMap allE)) 1 iTy_ok Tryz.underlying23 (.lit 0 iTy_ok [y8.key,y8.val]) (by show _*8≤_;(try simp only[List.length_nil,List.length_cons,List.length_append,List.length_take,List.length_drop,List.length_set,List.length_replicate,List.length_reverse]);omega) (by (try simp only[List.length_nil,List.length_cons,List.length_append,List.length_take,List.length_drop,List.length_set,List.length_replicate,List.length_reverse]);omega) (fun v11=>?_);refine sF 1 (fun hf12=>?_);refine sL (t_pure v11)<|s_nil<|x_dynS (fun _ h=>by kernel_rfl) ?_
  refine xs_block<|xs_then<|k_reg<|sL (t_pure (iw (i:Int)))<|sL (t_add (i:Int) 1 (by (try simp only[List.length_nil,List.length_cons,List.length_append,List.length_take,List.length_drop,List.length_set,List.length_replicate,List.length_reverse]);omega))<|sL (t_pure (iw ((i:Int)+1)))<|s_nil ?_
  rw[List.append_assoc,ent_take hy9];exact xs_round (v11,i+1) (by show x.ents.length-(i+1)<x.ents.length-i;omega) (by show i+1≤x.ents.length;omega) sA (rr [1,1] [2])
 have p13:=dF c6;refine k_exit<|xs_exit<|xs_exit<|xs_here<|xs_then<|k_seq<|k_reg<|sL (t_pure sx)<|sL (t_pure sx)<|s_nil<|xs_then<|k_ret ?_
 exact xs_fin [sx] [own iTy sx (allO x)] (SI.tmp 2 SI.nil) (fun _ h=>by rw[List.take_of_length_le om]at h;exact h.re [0] [1]) rfl
theorem rnew_s{Z:Zone}{ov rv:Value}{l:List Ob}{R:List Int}(hg:KnG Z ov rv l R)(hc:chk 0 l=true)(hs:Asc l)(hl:l.length≤100000)(hr:R.length≤100000):SF Tryz.prog 58 #[.agg #[ov,rv]] Z [] fun r Bs=>∃b,r=.tuple #[.pointer (some ⟨b,0,none⟩),iw 0]∧Bs=[rfA b l (srs (alO l) [] R) 0 0]:=by
 refine sf_enter Tryz.func58 38 [(0,.agg #[ov,rv])] (fun w0=>?_);have hO:=hg.each;refine k_seq<|k_reg<|s_box #[ov,rv] (fun g1=>?_)
 refine sL (t_pure (.pointer none))<|sL (t_pure (iw 0))<|s_nil<|xs_then<|k_seq<|k_seq<|k_reg<|sL (t_loadA 0 #[ov,rv])<|sV (fun _ h=>rcheck_s (hg.up h))<|sL (Lt.to t_cmp (cB (decide_eq_false (fun e=>e (by rw[hc];rfl)):(decide ((errI (chk 0 l))≠0))=false)))<|s_nil<|xs_then<|k_false<|k_skip<|xs_then<|k_seq<|k_reg<|sL (t_pure (.pointer (some ⟨g1,0,none⟩)))<|sL (t_load 0 ov)<|sL (t_len ObT_ok Tryz.underlying55 (.zn hg.obs))<|s_make iTy_ok Tryz.underlying23 (l.length:Int) om (by show 8*_≤_;omega) om (fun v2=>?_)
 refine sF 0 (fun hf3=>?_);refine sL (show Lt _ _ _ _ _ (.agg #[(.slice none 0 0),(.slice none 0 0),v2,(.slice none 0 0)]) from by obtain⟨_,_,e⟩:=hf3;rw[e];clear e;exact t_kern _)<|s_box #[(.slice none 0 0),(.slice none 0 0),v2,(.slice none 0 0)] (fun g4=>?_)
 refine sL (t_pure (.pointer (some ⟨g4,0,none⟩)))<|s_nil<|xs_then<|k_seq<|k_reg<|sL (t_pure (.pointer (some ⟨g4,0,none⟩)))<|s_buildSlice (e:=100) [] #[] (fun g5=>?_) (hb:=by kernel_rfl)
 refine sL (t_pure (.pointer (some ⟨g1,0,none⟩)))<|sL (t_load 3 ov)<|s_mem (fun _ h=>Holds.slice 0 h ObT_ok []) ?_
 refine s_append (L:=[]) 0 ObT_ok Tryz.underlying55 (.zn hg.obs) (by show _*72≤_;(try simp only[List.length_nil,List.length_cons,List.length_append,List.length_take,List.length_drop,List.length_set,List.length_replicate,List.length_reverse]);omega) (by (try simp only[List.length_nil,List.length_cons,List.length_append,List.length_take,List.length_drop,List.length_set,List.length_replicate,List.length_reverse]);omega) (fun v6=>?_);rw[List.nil_append];refine sF 0 (fun hf7=>?_);refine sL (t_pure (.pointer (some ⟨g4,0,none⟩)))<|sL (t_pure (.pointer (some ⟨g4,0,none⟩)))<|sL (t_pure (.pointer (some ⟨g4,0,none⟩)))<|s_store (u:=v6) (m:=1) 1 #[v6,(.slice none 0 0),v2,(.slice none 0 0)] ?_ (hm:=by (obtain⟨_,_,e⟩:=hf7;rw[e];rfl)) (h1:=by (obtain⟨_,_,e⟩:=hf7;rw[e];rfl)) (ha':=by (obtain⟨_,_,e⟩:=hf7;rw[e];rfl))
 refine s_nil<|xs_then<|k_seq<|k_seq<|k_reg<|sL (t_pure (iw 0))<|s_nil<|xs_then<|k_block<|k_mem (fun _ h=>Holds.nilO (T:=iTy) h) ?_
 refine k_mem (fun _ h=>rf_shut (l:=l) (G:=[]) (k:=0) (q:=0) (col_nil l) rfl (h.re [2,1,1,0] [])) ?_;refine k_mem (Bs:=[rfA g4 l (srs (alO l) [] (R.take 0)) 0 0,blkA g1 #[ov,rv] 57]) (fun _ h=>h) ?_;refine k_loop (ι:=Nat) (fun j=>j≤R.length) (fun j=>[(1,.pointer (some ⟨g1,0,none⟩)),(2,.pointer none),(3,iw 0),(4,.pointer (some ⟨g4,0,none⟩)),(5,iw (j:Int))]) (fun j=>[rfA g4 l (srs (alO l) [] (R.take j)) 0 0,blkA g1 #[ov,rv] 57]) (fun j=>R.length-j) 0 (Nat.zero_le _) sA (rr [0,0] []) ?_;rintro j hi8;show SK _ _ _ _ _ [(1,.pointer (some ⟨g1,0,none⟩)),(2,.pointer none),(3,iw 0),(4,.pointer (some ⟨g4,0,none⟩)),(5,iw (j:Int))] _ [rfA g4 l (srs (alO l) [] (R.take j)) 0 0,blkA g1 #[ov,rv] 57];have hsl:=srs_len (alO l) (R.take j) [];rw[List.length_take]at hsl;simp only[List.length_nil]at hsl;refine k_seq<|k_seq<|k_reg<|sL (t_pure (iw (j:Int)))<|sL (t_pure (.pointer (some ⟨g1,1,none⟩)))<|sL (t_load 1 rv)<|sL (t_len iTy_ok Tryz.underlying23 (.zn hg.roots))<|sL t_cmp<|s_nil<|xs_then<|k_cond (decide ((j:Int)<(R.length:Int))) (fun c9=>?_) (fun c9=>?_)
 .have p10:=dY c9;refine k_skip<|xs_then<|k_seq<|k_block<|k_reg<|sL (t_pure (.pointer (some ⟨g4,0,none⟩)))<|sL (t_pure (.pointer (some ⟨g1,1,none⟩)))<|sL (t_load 1 rv)<|sL (t_pure (iw (j:Int)))<|sL (t_index iTy_ok Tryz.underlying23 (.zn hg.roots) (j:Int) j om (by (try simp only[List.length_nil,List.length_cons,List.length_append,List.length_take,List.length_drop,List.length_set,List.length_replicate,List.length_reverse]);omega) om) ?_
  obtain⟨y11,hy12⟩:∃y,R[j]?=some y:=⟨_,List.getElem?_eq_getElem (by (try simp only[List.length_nil,List.length_cons,List.length_append,List.length_take,List.length_drop,List.length_set,List.length_replicate,List.length_reverse]);omega)⟩;refine sL (t_loadE iTy_ok (.zn hg.roots) hy12)<|sC [0] (rreach_s (G:=(srs (alO l) [] (R.take j))) (k:=0) (q:=0) hO hs hl (Nat.zero_le _) (Nat.zero_le _) om y11) ?_
  refine s_nil<|xs_block<|xs_then<|k_reg<|sL (t_pure (iw (j:Int)))<|sL (t_add (j:Int) 1 (by (try simp only[List.length_nil,List.length_cons,List.length_append,List.length_take,List.length_drop,List.length_set,List.length_replicate,List.length_reverse]);omega))<|sL (t_pure (iw ((j:Int)+1)))<|s_nil ?_
  rw[←srs_take hy12];exact xs_round (j+1) (by show R.length-(j+1)<R.length-j;omega) om sA (rr [0,0] [])
 have p13:=dF c9;refine k_exit<|xs_exit<|xs_exit<|xs_here<|xs_then<|k_seq<|k_reg<|sL (t_pure (.pointer (some ⟨g4,0,none⟩)))<|sL (t_pure (.pointer (some ⟨g4,0,none⟩)))<|sL (t_pure (iw 0))<|s_nil<|xs_then<|k_ret ?_
 exact xs_fin [.pointer (some ⟨g4,0,none⟩),iw 0] [rfA g4 l (srs (alO l) [] R) 0 0] (SI.tmp 2 (SI.tmp 3 SI.nil)) (fun _ h=>by rw[List.take_of_length_le om]at h;exact h.re [0] [1]) ⟨g4,rfl,rfl⟩
theorem rstep_s{Z:Zone}{F:List Asr}{b:Nat}{l:List Ob}{R G:List Int}(hO:∀x∈l,KnO Z x)(hs:Asc l)(hl:l.length≤100000)(hsm:∀o∈l,o.refs.length≤100000∧o.ents.length≤100000)(hB:Bq (alO l) (rfO l) R 0 G):SF Tryz.prog 59 #[.pointer (some ⟨b,0,none⟩),iw (l.length:Int)] Z (rfA b l G 0 0::F) fun r Bs=>∃G1 k,Bq (alO l) (rfO l) R k G1∧G1.length≤k∧Bs=rfA b l G1 k k::F:=by
 refine sf_enter Tryz.func59 78 [(0,.pointer (some ⟨b,0,none⟩)),(1,iw (l.length:Int))] (fun w0=>?_);refine k_seq<|k_reg<|sL (t_pure (.bool false))<|s_nil<|xs_then<|k_seq<|k_seq<|k_reg<|sL (t_pure (.pointer (some ⟨b,0,none⟩)))<|sL (t_pure (.bool false))<|s_nil<|xs_then<|k_false<|k_skip<|xs_then<|k_seq<|k_seq<|k_reg<|sL (t_pure (iw 0))<|s_nil<|xs_then<|k_block<|k_loop (ι:=List Int×Nat) (fun (G1,i)=>i≤l.length∧Bq (alO l) (rfO l) R i G1) (fun (G1,i)=>[(0,.pointer (some ⟨b,0,none⟩)),(1,iw (l.length:Int)),(4,.bool false),(5,iw (i:Int))]) (fun (G1,i)=>rfA b l G1 i i::F) (fun (G1,i)=>l.length-i) (G,0) ⟨Nat.zero_le _,hB⟩ sA (rr [0] []) ?_
 rintro⟨G1,i⟩ hi1;replace hi1:i≤l.length∧Bq (alO l) (rfO l) R i G1:=hi1;show SK _ _ _ _ _ [(0,.pointer (some ⟨b,0,none⟩)),(1,iw (l.length:Int)),(4,.bool false),(5,iw (i:Int))] _ (rfA b l G1 i i::F);obtain⟨hj1,hj2⟩:=id hi1;have hGl:=hj2.len (fun x hx=>al_ids hx);rw[List.length_map]at hGl;have hdl:(G1.drop i).length=G1.length-i:=List.length_drop;refine k_seq<|k_seq<|k_reg<|sL (t_pure (iw (i:Int)))<|sL (t_pure (iw (l.length:Int)))<|sL t_cmp<|sL (t_pure (.bool (decide ((i:Int)<(l.length:Int)))))<|s_fork 15 (decide ((i:Int)<(l.length:Int))) (fun c2=>?_) (fun c2=>?_)
 .have p3:=dY c2;refine sL (t_pure (.pointer (some ⟨b,0,none⟩)))<|sL (t_pure (.pointer (some ⟨b,0,none⟩)))<|sL (t_pure (.pointer (some ⟨b,3,none⟩)))<|s_mem3 (fun H h=>rf_open (h.re [0] [])) (fun ov4 cv5 qv6 hw=>?_)
  have hml7:(l.map fun o=>clI G1 i o.id).length=l.length:=List.length_map _;refine sL (t_load 0 qv6)<|sL (t_len iTy_ok Tryz.underlying23 (.ownO 3))<|sL t_cmp<|sL (t_pure (.bool (decide ((0:Int)<((G1.drop i).length:Int)))))<|s_nil<|xs_then<|k_cond (decide ((0:Int)<((G1.drop i).length:Int))) (fun c8=>?_) (fun c8=>?_)
  .have p9:=dY c8;refine k_skip<|xs_then<|k_seq<|k_block<|k_seq<|k_reg<|sL (t_pure (.pointer (some ⟨b,0,none⟩)))<|sL (t_pure (.pointer (some ⟨b,0,none⟩)))<|sL (t_pure (.pointer (some ⟨b,3,none⟩)))<|sL (t_load 0 qv6)<|sL (t_index iTy_ok Tryz.underlying23 (.ownO 3) 0 0 om (by (try simp only[List.length_nil,List.length_cons,List.length_append,List.length_take,List.length_drop,List.length_set,List.length_replicate,List.length_reverse]);omega) om) ?_
   obtain⟨y10,hy11⟩:∃y,(G1.drop i)[0]?=some y:=⟨_,List.getElem?_eq_getElem (by (try simp only[List.length_nil,List.length_cons,List.length_append,List.length_take,List.length_drop,List.length_set,List.length_replicate,List.length_reverse]);omega)⟩;refine sL (t_loadE iTy_ok (.ownO 3) hy11)<|sL (t_pure (iw y10))<|s_nil<|xs_then<|k_seq<|k_reg<|sL (t_pure (.pointer (some ⟨b,0,none⟩)))<|sL (t_pure (.pointer (some ⟨b,0,none⟩)))<|sL (t_pure (.pointer (some ⟨b,0,none⟩)))<|sL (t_pure (.pointer (some ⟨b,3,none⟩)))<|sL (t_load 0 qv6)<|sL (t_suf iTy_ok Tryz.underlying23 (.ownO 3) 1 1 om (by (try simp only[List.length_nil,List.length_cons,List.length_append,List.length_take,List.length_drop,List.length_set,List.length_replicate,List.length_reverse]);omega) om)<|sL (t_pure (.pointer (some ⟨b,0,none⟩)))<|sL (t_pure (.pointer (some ⟨b,3,none⟩)))<|s_mem (fun _ h=>Holds.sufO (i:=3) h iTy_ok 1 rfl (by (try simp only[List.length_nil,List.length_cons,List.length_append,List.length_take,List.length_drop,List.length_set,List.length_replicate,List.length_reverse]);omega)) ?_
   refine s_fact (fun H h=>((Acc.ownO (T:=iTy) (L:=((G1.drop i).drop 1)) 3 rfl) H h).form) (fun hf12=>?_);refine s_store (u:=(suf iTy.size qv6 1)) (m:=1) 0 #[ov4,(.slice none 0 0),cv5,(suf iTy.size qv6 1)] ?_ (hm:=by (obtain⟨_,_,e⟩:=hf12;rw[e];rfl)) (h1:=by (obtain⟨_,_,e⟩:=hf12;rw[e];rfl)) (ha':=by (obtain⟨_,_,e⟩:=hf12;rw[e];rfl));refine s_nil<|xs_then<|k_seq<|k_reg<|sL (t_pure (.pointer (some ⟨b,0,none⟩)))<|sL (t_pure (.pointer (some ⟨b,0,none⟩)))<|sL (t_pure (.pointer (some ⟨b,0,none⟩)))<|sL (t_loadA 0 #[ov4,(.slice none 0 0)])<|sL (t_pure (iw y10))<|sV (fun _ h=>find2_s (show KnG _ _ _ l [] from ⟨Acc.kn (T:=ObT) (.own 1) h,Acc.kn (T:=iTy) .nil h,fun x hx=>⟨Kn.up (hO x hx).1 h,Kn.up (hO x hx).2 h⟩⟩) hs om y10) ?_
   have hGy:=get_drop0 hy11;have hGi:=(List.getElem?_eq_some_iff.1 hGy).1;obtain⟨ix13,ob14,hx15,hid16,hf17,he18⟩:=find_must hs (hj2.snd y10 (List.mem_of_getElem? hGy)).1;rw[he18];have hk19:=hO ob14 (List.mem_of_getElem? hx15);have hlt20:ix13<l.length:=(List.getElem?_eq_some_iff.1 hx15).1;refine sL (t_pure (iw (ix13:Int)))<|s_nil<|xs_then<|k_seq<|k_reg<|sL (t_pure (.pointer (some ⟨b,0,none⟩)))<|sL (t_pure (.pointer (some ⟨b,0,none⟩)))<|sL (t_pure (.pointer (some ⟨b,0,none⟩)))<|sL (t_pure (.pointer (some ⟨b,0,none⟩)))<|sL (t_load 0 ov4)<|sL (t_pure (iw (ix13:Int)))<|sL (t_index ObT_ok Tryz.underlying55 (.own 1) (ix13:Int) ix13 om (by (try simp only[List.length_nil,List.length_cons,List.length_append,List.length_take,List.length_drop,List.length_set,List.length_replicate,List.length_reverse]);omega) om)<|sL (t_loadE ObT_ok (.own 1) hx15) ?_
   have hsx:=hsm ob14 (List.mem_of_getElem? hx15);refine s_pcall (fun _ h=>rrefs_s (x:=ob14) ⟨Kn.up (hO ob14 (List.mem_of_getElem? hx15)).1 h,Kn.up (hO ob14 (List.mem_of_getElem? hx15)).2 h⟩ hsx.1 hsx.2) ?_;rintro v21 _ rfl;refine sF 0 (fun hf22=>?_);refine sL (t_pure v21)<|s_nil<|xs_then<|k_seq<|k_seq<|k_reg<|sL (t_pure (iw 0))<|s_nil<|xs_then<|k_block<|k_mem (fun _ h=>rf_shut (l:=l) (G:=G1) (k:=i) (q:=(i+1)) rfl (drop_one _ _) (h.re [1,1,1,1] [])) ?_
   have hq1:=hj2.step hGy;rw[rfO_is hf17]at hq1;have hq2:=hq1;have hgy2:(srs (alO l) G1 (allO ob14))[i]?=some y10:=by rw[pre_at (srs_ok (alO l) (allO ob14) G1).pre om];exact hGy
   have hsx:=hsm ob14 (List.mem_of_getElem? hx15);have hao:(allO ob14).length=ob14.refs.length+2*ob14.ents.length:=by unfold allO;rw[List.length_append,ent_len]
   refine k_mem (Bs:=rfA b l (srs (alO l) G1 ((allO ob14).take 0)) i (i+1)::own iTy v21 (allO ob14)::F) (fun _ h=>h) ?_;refine k_loop (ι:=Nat) (fun j=>j≤(allO ob14).length) (fun j=>[(0,.pointer (some ⟨b,0,none⟩)),(1,iw (l.length:Int)),(4,.bool false),(5,iw (i:Int)),(6,iw y10),(7,iw (ix13:Int)),(8,v21),(9,iw (j:Int)),(12,iw (i:Int)),(13,iw (l.length:Int)),(14,.bool (decide ((i:Int)<(l.length:Int)))),(15,.bool true),(16,.pointer (some ⟨b,0,none⟩)),(17,.pointer (some ⟨b,0,none⟩)),(18,.pointer (some ⟨b,3,none⟩)),(19,qv6),(20,iw ((G1.drop i).length:Int)),(21,.bool (decide ((0:Int)<((G1.drop i).length:Int)))),(22,.bool (decide ((0:Int)<((G1.drop i).length:Int)))),(25,.pointer (some ⟨b,0,none⟩)),(26,.pointer (some ⟨b,0,none⟩)),(27,.pointer (some ⟨b,3,none⟩)),(28,qv6),(29,.pointer (some (elemAt iTy.size qv6 0))),(30,iw y10),(31,.pointer (some ⟨b,0,none⟩)),(32,.pointer (some ⟨b,0,none⟩)),(33,.pointer (some ⟨b,0,none⟩)),(34,.pointer (some ⟨b,3,none⟩)),(35,qv6),(36,(suf iTy.size qv6 1)),(37,.pointer (some ⟨b,0,none⟩)),(38,.pointer (some ⟨b,3,none⟩)),(39,.pointer (some ⟨b,0,none⟩)),(40,.pointer (some ⟨b,0,none⟩)),(41,.pointer (some ⟨b,0,none⟩)),(42,.agg #[ov4,(.slice none 0 0)]),(43,iw y10),(44,iw (ix13:Int)),(45,.pointer (some ⟨b,0,none⟩)),(46,.pointer (some ⟨b,0,none⟩)),(47,.pointer (some ⟨b,0,none⟩)),(48,.pointer (some ⟨b,0,none⟩)),(49,ov4),(50,iw (ix13:Int)),(51,.pointer (some (elemAt ObT.size ov4 ix13))),(52,.agg #[iw ob14.id,iw ob14.size,iw ob14.weak,ob14.rv.v,ob14.ev.v]),(53,v21)]) (fun j=>rfA b l (srs (alO l) G1 ((allO ob14).take j)) i (i+1)::own iTy v21 (allO ob14)::F) (fun j=>(allO ob14).length-j) 0 (Nat.zero_le _) sA (rr [0,0] []) ?_;rintro j hi23;show SK _ _ _ _ _ [(0,.pointer (some ⟨b,0,none⟩)),(1,iw (l.length:Int)),(4,.bool false),(5,iw (i:Int)),(6,iw y10),(7,iw (ix13:Int)),(8,v21),(9,iw (j:Int)),(12,iw (i:Int)),(13,iw (l.length:Int)),(14,.bool (decide ((i:Int)<(l.length:Int)))),(15,.bool true),(16,.pointer (some ⟨b,0,none⟩)),(17,.pointer (some ⟨b,0,none⟩)),(18,.pointer (some ⟨b,3,none⟩)),(19,qv6),(20,iw ((G1.drop i).length:Int)),(21,.bool (decide ((0:Int)<((G1.drop i).length:Int)))),(22,.bool (decide ((0:Int)<((G1.drop i).length:Int)))),(25,.pointer (some ⟨b,0,none⟩)),(26,.pointer (some ⟨b,0,none⟩)),(27,.pointer (some ⟨b,3,none⟩)),(28,qv6),(29,.pointer (some (elemAt iTy.size qv6 0))),(30,iw y10),(31,.pointer (some ⟨b,0,none⟩)),(32,.pointer (some ⟨b,0,none⟩)),(33,.pointer (some ⟨b,0,none⟩)),(34,.pointer (some ⟨b,3,none⟩)),(35,qv6),(36,(suf iTy.size qv6 1)),(37,.pointer (some ⟨b,0,none⟩)),(38,.pointer (some ⟨b,3,none⟩)),(39,.pointer (some ⟨b,0,none⟩)),(40,.pointer (some ⟨b,0,none⟩)),(41,.pointer (some ⟨b,0,none⟩)),(42,.agg #[ov4,(.slice none 0 0)]),(43,iw y10),(44,iw (ix13:Int)),(45,.pointer (some ⟨b,0,none⟩)),(46,.pointer (some ⟨b,0,none⟩)),(47,.pointer (some ⟨b,0,none⟩)),(48,.pointer (some ⟨b,0,none⟩)),(49,ov4),(50,iw (ix13:Int)),(51,.pointer (some (elemAt ObT.size ov4 ix13))),(52,.agg #[iw ob14.id,iw ob14.size,iw ob14.weak,ob14.rv.v,ob14.ev.v]),(53,v21)] _ (rfA b l (srs (alO l) G1 ((allO ob14).take j)) i (i+1)::own iTy v21 (allO ob14)::F);have hgl:=(srs_ok (alO l) ((allO ob14).take j) G1).pre.length_le;have hgt:=srs_len (alO l) ((allO ob14).take j) G1;rw[List.length_take]at hgt;refine k_seq<|k_seq<|k_reg<|sL (t_pure (iw (j:Int)))<|sL (t_pure v21)<|sL (t_len iTy_ok Tryz.underlying23 (.own 1))<|sL t_cmp<|s_nil<|xs_then<|k_cond (decide ((j:Int)<((allO ob14).length:Int))) (fun c24=>?_) (fun c24=>?_)
   .have p25:=dY c24;refine k_skip<|xs_then<|k_seq<|k_block<|k_reg<|sL (t_pure (.pointer (some ⟨b,0,none⟩)))<|sL (t_pure v21)<|sL (t_pure (iw (j:Int)))<|sL (t_index iTy_ok Tryz.underlying23 (.own 1) (j:Int) j om (by (try simp only[List.length_nil,List.length_cons,List.length_append,List.length_take,List.length_drop,List.length_set,List.length_replicate,List.length_reverse]);omega) om) ?_
    obtain⟨y26,hy27⟩:∃y,(allO ob14)[j]?=some y:=⟨_,List.getElem?_eq_getElem (by (try simp only[List.length_nil,List.length_cons,List.length_append,List.length_take,List.length_drop,List.length_set,List.length_replicate,List.length_reverse]);omega)⟩;refine sL (t_loadE iTy_ok (.own 1) hy27)<|sC [0] (rreach_s (G:=(srs (alO l) G1 ((allO ob14).take j))) (k:=i) (q:=(i+1)) hO hs hl om om om y26) ?_
    refine s_nil<|xs_block<|xs_then<|k_reg<|sL (t_pure (iw (j:Int)))<|sL (t_add (j:Int) 1 (by (try simp only[List.length_nil,List.length_cons,List.length_append,List.length_take,List.length_drop,List.length_set,List.length_replicate,List.length_reverse]);omega))<|sL (t_pure (iw ((j:Int)+1)))<|s_nil ?_
    rw[←srs_take hy27];exact xs_round (j+1) (by show (allO ob14).length-(j+1)<(allO ob14).length-j;omega) om sA (rr [0,0] [])
   have p28:=dF c24;refine k_exit ?_;obtain rfl:j=(allO ob14).length:=by omega
   rw[List.take_length];refine xs_exit<|xs_exit<|xs_here<|xs_then<|k_reg<|sL (t_pure (.pointer (some ⟨b,0,none⟩)))<|sL (t_pure (.pointer (some ⟨b,0,none⟩)))<|sL (t_pure (.pointer (some ⟨b,2,none⟩)))<|s_mem3 (fun H h=>rf_open (h.re [0] [])) (fun ov29 cv30 qv31 hw=>?_)
   have hml32:(l.map fun o=>clI (srs (alO l) G1 (allO ob14)) i o.id).length=l.length:=List.length_map _;refine sL (t_load 0 cv30)<|sL (t_pure (iw (ix13:Int)))<|sL (t_index iTy_ok Tryz.underlying23 (.own 2) (ix13:Int) ix13 om (by (try simp only[List.length_nil,List.length_cons,List.length_append,List.length_take,List.length_drop,List.length_set,List.length_replicate,List.length_reverse]);omega) om)<|s_storeE 2 0 2 iTy_ok (show ((l.map fun o=>clI (srs (alO l) G1 (allO ob14)) i o.id))[ix13]?=some (clI (srs (alO l) G1 (allO ob14)) i ob14.id) by rw[List.getElem?_map,hx15];rfl) ?_
   refine s_nil<|xs_block<|xs_then<|k_reg<|sL (t_pure (iw (i:Int)))<|sL (t_add (i:Int) 1 (by (try simp only[List.length_nil,List.length_cons,List.length_append,List.length_take,List.length_drop,List.length_set,List.length_replicate,List.length_reverse]);omega))<|sL (t_pure (iw ((i:Int)+1)))<|s_nil<|xs_mem (fun _ h=>rf_shut (l:=l) (G:=(srs (alO l) G1 (allO ob14))) (k:=(i+1)) (q:=(i+1)) (map_set2 (f:=clI (srs (alO l) G1 (allO ob14)) i) (clI (srs (alO l) G1 (allO ob14)) (i+1)) 2 hs hx15 (by rw[hid16];exact (clI_black hgy2).trans (if_pos rfl)) (fun x hx=>(clI_black hgy2).trans (if_neg (by rw[←hid16];exact hx)))) rfl (h.re [0,0,0,0] [])) ?_
   exact xs_round (srs (alO l) G1 (allO ob14),i+1) (by show l.length-(i+1)<l.length-i;omega) ⟨by omega,hq2⟩ sA (rr [0] [1])
  have p33:=dF c8;refine k_exit<|xs_exit<|xs_exit<|xs_here<|xs_then<|k_seq<|k_reg<|sL (t_pure (.pointer (some ⟨b,0,none⟩)))<|sL (t_pure (.pointer (some ⟨b,0,none⟩)))<|sL (t_pure (.pointer (some ⟨b,3,none⟩)))<|sL (t_load 0 qv6)<|sL (t_len iTy_ok Tryz.underlying23 (.ownO 3))<|sL t_cmp<|sL (t_pure (.bool (decide (((G1.drop i).length:Int)=0))))<|s_nil<|xs_then<|k_ret<|xs_mem (fun _ h=>rf_shut (l:=l) (G:=G1) (k:=i) (q:=i) rfl rfl (h.re [0,0,0,0] [])) ?_
  refine xs_fin [.bool (decide (((G1.drop i).length:Int)=0))] (rfA b l G1 i i::F) (SI.tmp 4 SI.nil) (rr [0] []) ⟨G1,i,hj2,by omega,rfl⟩
 have p34:=dF c2;refine sK<|sK<|sK<|sK<|sK<|sK<|sL (t_pure (.bool false))<|s_nil<|xs_then<|k_false<|k_exit<|xs_exit<|xs_exit<|xs_here<|xs_then<|k_seq<|k_reg<|sL (t_pure (.pointer (some ⟨b,0,none⟩)))<|sL (t_pure (.pointer (some ⟨b,0,none⟩)))<|sL (t_pure (.pointer (some ⟨b,3,none⟩)))<|s_mem3 (fun H h=>rf_open (h.re [0] [])) (fun ov35 cv36 qv37 hw=>?_)
 have hml38:(l.map fun o=>clI G1 i o.id).length=l.length:=List.length_map _;refine sL (t_load 0 qv37)<|sL (t_len iTy_ok Tryz.underlying23 (.ownO 3))<|sL t_cmp<|sL (t_pure (.bool (decide (((G1.drop i).length:Int)=0))))<|s_nil<|xs_then<|k_ret<|xs_mem (fun _ h=>rf_shut (l:=l) (G:=G1) (k:=i) (q:=i) rfl rfl (h.re [0,0,0,0] [])) ?_
 refine xs_fin [.bool (decide (((G1.drop i).length:Int)=0))] (rfA b l G1 i i::F) (SI.tmp 4 SI.nil) (rr [0] []) ⟨G1,i,hj2,by omega,rfl⟩
theorem rgraph_s{Z:Zone}{ov rv:Value}{l:List Ob}{R:List Int}(hg:KnG Z ov rv l R)(hc:chk 0 l=true)(hs:Asc l)(hl:l.length≤100000)(hr:R.length≤100000)(hsm:∀o∈l,o.refs.length≤100000∧o.ents.length≤100000):SF Tryz.prog 21 #[.agg #[ov,rv]] Z [] fun r Bs=>∃v G k,r=.tuple #[v,iw 0]∧Bq (alO l) (rfO l) R k G∧G.length≤k∧Bs=[own iTy v (fil l G)]:=by
 refine sf_enter Tryz.func21 46 [(0,.agg #[ov,rv])] (fun w0=>?_);refine k_fact (fun H h=>(hg.obs.get h).len_le) (fun lA=>?_);refine k_seq<|k_reg<|s_box #[ov,rv] (fun g1=>?_)
 refine sL (t_pure (.slice none 0 0))<|sL (t_pure (iw 0))<|s_nil<|xs_then<|k_seq<|k_reg<|sL (t_loadA 0 #[ov,rv])<|s_pcall (fun _ h=>rnew_s (hg.up h) hc hs hl hr) ?_
 rintro _ _ ⟨b2,rfl,rfl⟩;refine sL (t_pure (.tuple #[.pointer (some ⟨b2,0,none⟩),iw 0]))<|sL (t_pure (.pointer (some ⟨b2,0,none⟩)))<|sL (t_pure (iw 0))<|sL (t_pure (.pointer (some ⟨b2,0,none⟩)))<|sL (t_pure (iw 0))<|s_nil<|xs_then<|k_seq<|k_seq<|k_reg<|sL (t_pure (iw 0))<|sL (t_cmp (c:=false))<|s_nil<|xs_then<|k_false<|k_skip<|xs_then<|k_seq<|k_reg<|sL (t_pure (.pointer (some ⟨b2,0,none⟩)))<|sL (t_pure (.pointer (some ⟨g1,0,none⟩)))<|sL (t_load 1 ov)<|sL (t_len ObT_ok Tryz.underlying55 (.zn hg.obs))<|s_call [0] (rstep_s hg.each hs hl hsm (bq_start (alO l) (rfO l) R)) ?_
 rintro v5 _ ⟨G3,k4,hB,hGe,rfl⟩;refine s_nil<|xs_then<|k_seq<|k_reg<|sL (t_pure (.slice none 0 0))<|s_nil<|xs_then<|k_seq<|k_seq<|k_reg<|sL (t_pure (iw 0))<|s_nil<|xs_then<|k_block<|k_mem (fun _ h=>Holds.nilS (T:=iTy) h) ?_
 refine k_mem (Bs:=[own iTy (.slice none 0 0) (fil (l.take 0) G3),rfA b2 l G3 k4 k4,blkA g1 #[ov,rv] 57]) (fun _ h=>h) ?_;refine k_loop (ι:=Value×Nat) (fun (sx,i)=>i≤l.length) (fun (sx,i)=>[(1,.pointer (some ⟨g1,0,none⟩)),(2,(.slice none 0 0)),(3,iw 0),(4,.pointer (some ⟨b2,0,none⟩)),(6,sx),(7,iw (i:Int))]) (fun (sx,i)=>[own iTy sx (fil (l.take i) G3),rfA b2 l G3 k4 k4,blkA g1 #[ov,rv] 57]) (fun (sx,i)=>l.length-i) (.slice none 0 0,0) (Nat.zero_le _) sA (rr [0,0,0] []) ?_;rintro⟨sx,i⟩ hi6;replace hi6:i≤l.length:=hi6;show SK _ _ _ _ _ [(1,.pointer (some ⟨g1,0,none⟩)),(2,(.slice none 0 0)),(3,iw 0),(4,.pointer (some ⟨b2,0,none⟩)),(6,sx),(7,iw (i:Int))] _ [own iTy sx (fil (l.take i) G3),rfA b2 l G3 k4 k4,blkA g1 #[ov,rv] 57];have hll:=fil_len (l.take i) G3;rw[List.length_take]at hll;refine k_seq<|k_seq<|k_reg<|sL (t_pure (iw (i:Int)))<|sL (t_pure (.pointer (some ⟨g1,0,none⟩)))<|sL (t_load 2 ov)<|sL (t_len ObT_ok Tryz.underlying55 (.zn hg.obs))<|sL t_cmp<|s_nil<|xs_then<|k_cond (decide ((i:Int)<(l.length:Int))) (fun c7=>?_) (fun c7=>?_)
 .have p8:=dY c7;refine k_skip<|xs_then<|k_seq<|k_block<|k_seq<|k_reg<|sL (t_pure (.pointer (some ⟨b2,0,none⟩)))<|sL (t_pure (.pointer (some ⟨b2,0,none⟩)))<|sL (t_pure (.pointer (some ⟨b2,2,none⟩)))<|s_mem3 (fun H h=>rf_open (h.re [1] [])) (fun ov9 cv10 qv11 hw=>?_)
  have hml12:(l.map fun o=>clI G3 k4 o.id).length=l.length:=List.length_map _;refine sL (t_load 0 cv10)<|sL (t_pure (iw (i:Int)))<|sL (t_index iTy_ok Tryz.underlying23 (.own 2) (i:Int) i om (by (try simp only[List.length_nil,List.length_cons,List.length_append,List.length_take,List.length_drop,List.length_set,List.length_replicate,List.length_reverse]);omega) om) ?_
  obtain⟨y13,hy14⟩:∃y,l[i]?=some y:=⟨_,List.getElem?_eq_getElem (by (try simp only[List.length_nil,List.length_cons,List.length_append,List.length_take,List.length_drop,List.length_set,List.length_replicate,List.length_reverse]);omega)⟩;have hk15:=hg.each y13 (List.mem_of_getElem? hy14);refine sL (t_loadE iTy_ok (.own 2) (show ((l.map fun o=>clI G3 k4 o.id))[i]?=some (clI G3 k4 y13.id) by rw[List.getElem?_map,hy14];rfl)) ?_;refine sL t_cmp<|s_nil<|xs_then<|k_cond (decide ((clI G3 k4 y13.id)=2)) (fun c16=>?_) (fun c16=>?_)
  .have p17:=dY c16;refine k_reg<|sL (t_pure sx)<|sL (t_pure (.pointer (some ⟨g1,0,none⟩)))<|sL (t_load 5 ov)<|sL (t_pure (iw (i:Int)))<|sL (t_index ObT_ok Tryz.underlying55 (.zn hg.obs) (i:Int) i om (by (try simp only[List.length_nil,List.length_cons,List.length_append,List.length_take,List.length_drop,List.length_set,List.length_replicate,List.length_reverse]);omega) om)<|sL (t_pure (.pointer (some (elemAt ObT.size ov i))))<|sL (t_loadF 0 ObT_ok (.zn hg.obs) hy14)<|s_buildSlice (e:=3) [(0,iw y13.id)] #[iw y13.id] (fun g18=>?_) (hb:=by kernel_rfl)
   refine s_append (L:=(fil (l.take i) G3)) 5 iTy_ok Tryz.underlying23 (.lit 0 iTy_ok [y13.id]) (by show _*8≤_;(try simp only[List.length_nil,List.length_cons,List.length_append,List.length_take,List.length_drop,List.length_set,List.length_replicate,List.length_reverse]);omega) (by (try simp only[List.length_nil,List.length_cons,List.length_append,List.length_take,List.length_drop,List.length_set,List.length_replicate,List.length_reverse]);omega) (fun v19=>?_);refine sF 5 (fun hf20=>?_);refine sL (t_pure v19)<|s_nil<|xs_block<|xs_then<|k_reg<|sL (t_pure (iw (i:Int)))<|sL (t_add (i:Int) 1 (by (try simp only[List.length_nil,List.length_cons,List.length_append,List.length_take,List.length_drop,List.length_set,List.length_replicate,List.length_reverse]);omega))<|sL (t_pure (iw ((i:Int)+1)))<|s_nil<|xs_mem (fun _ h=>rf_shut (l:=l) (G:=G3) (k:=k4) (q:=k4) rfl rfl (h.re [1,1,1,1] [])) ?_
   rw[fil_yes hy14 ((clI_end hGe).1 p17)];exact xs_round (v19,i+1) (by show l.length-(i+1)<l.length-i;omega) (by show i+1≤l.length;omega) sA (rr [2,0,1] [3])
  have p21:=dF c16;refine k_skip<|xs_block<|xs_then<|k_reg<|sL (t_pure (iw (i:Int)))<|sL (t_add (i:Int) 1 (by (try simp only[List.length_nil,List.length_cons,List.length_append,List.length_take,List.length_drop,List.length_set,List.length_replicate,List.length_reverse]);omega))<|sL (t_pure (iw ((i:Int)+1)))<|s_nil<|xs_mem (fun _ h=>rf_shut (l:=l) (G:=G3) (k:=k4) (q:=k4) rfl rfl (h.re [0,0,0,0] [])) ?_
  rw[fil_no hy14 (fun q=>p21 ((clI_end hGe).2 q))];exact xs_round (sx,i+1) (by show l.length-(i+1)<l.length-i;omega) (by show i+1≤l.length;omega) sA (rr [1,0,0] [])
 have p22:=dF c7;refine k_exit<|xs_exit<|xs_exit<|xs_here<|xs_then<|k_seq<|k_reg<|sL (t_pure sx)<|sL (t_pure sx)<|sL (t_pure (iw 0))<|s_nil<|xs_then<|k_ret ?_
 exact xs_fin [sx,iw 0] [own iTy sx (fil l G3)] (SI.tmp 2 (SI.tmp 3 SI.nil)) (fun _ h=>by rw[List.take_of_length_le om]at h;exact h.re [0] [1,1]) ⟨sx,G3,k4,rfl,hB,hGe,rfl⟩
end Go.Proofs.YtmhpcebiamkciaaGreat
end
section
set_option linter.unusedSimpArgs false
set_option linter.unusedVariables false
namespace Go.Proofs.YtmhpcebiamkciaaGreat
open Go.Hp Go.J Go.S
open Go.Mem (Ty KTy blk aget aset adel aget_aset aget_adel)
def cset(c:Int→Int)(k v:Int):Int→Int:=fun x=>if x=k then v else c x
def c0:Int→Int:=fun _=>0
theorem cset_self(c:Int→Int)(k v:Int):cset c k v k=v:=if_pos rfl
theorem cset_ne{c:Int→Int}{k v x:Int}(h:x≠k):cset c k v x=c x:=if_neg h
def mgt(m:List (Int×Int))(k:Int):Int:=(aget m k).getD 0
def Col(m:List (Int×Int))(c:Int→Int):Prop:=∀id,mgt m id=c id
theorem Col.nil:Col [] c0:=fun _=>rfl
theorem Col.set{m:List (Int×Int)}{c:Int→Int}(h:Col m c)(k v:Int):Col (aset m k v) (cset c k v):=fun id=>by
 unfold mgt cset;rw[aget_aset];by_cases e:id=k
 .rw [if_pos e,if_pos e];rfl
 rw[if_neg e,if_neg e];exact h id
theorem Col.del{m:List (Int×Int)}{c:Int→Int}(h:Col m c)(hn:(m.map Prod.fst).Nodup)(k:Int):Col (adel m k) (cset c k 0):=fun id=>by
 unfold mgt cset;rw[aget_adel hn];by_cases e:id=k
 .rw [if_pos e,if_pos e];rfl
 rw[if_neg e,if_neg e];exact h id
def crf(st:Hst)(id:Int):List Int:=hrefs st id++(hents st id).flatMap allE
theorem crf_bound{st:Hst}{n:Nat}(hsm:HSm n st)(hn:n≤300)(id:Int):(hrefs st id).length≤400∧(hents st id).length≤91000∧(crf st id).length≤190000:=by
 have key:(hrefs st id).length≤400∧(hents st id).length≤91000:=by
  cases hg:st.get id with
  | none=>have:=obj_none hg 0;rw[this.2.2.2.2.1,this.2.2.2.2.2];exact⟨Nat.zero_le _,Nat.zero_le _⟩
  | some o=>
   obtain⟨h1,h2,h3⟩:=ob_bound hsm hn hg;have ho:=obj_some hg 0;rw[ho.2.2.2.2.1,ho.2.2.2.2.2];refine⟨?_,?_⟩
   .have:=refsL_len (o.mt::o.vals) (o.vals.length+1);have e:refsL (o.mt::o.vals) (o.vals.length+1)=refsOf o:=refsL_end (by simp);rw[e]at this;omega
   split
   .unfold entsOf;have h4:=entL_len (tents o.tab);have h5:=tents_len o.tab;omega
   exact Nat.zero_le _
 refine⟨key.1,key.2,?_⟩;unfold crf;rw[List.length_append,ent_len];omega
def rchM(st:Hst)(m:Int→Int)(id:Int):Int→Int:=if halive st id=true∧m id=0 then cset m id 1 else m
def rchQ(st:Hst)(m:Int→Int)(Q:List Int)(id:Int):List Int:=if halive st id=true∧m id=0 then Q++[id] else Q
def rchS(st:Hst)(s:(Int→Int)×List Int)(id:Int):(Int→Int)×List Int:=(rchM st s.1 id,rchQ st s.1 s.2 id)
def rchA(st:Hst)(s:(Int→Int)×List Int)(X:List Int):(Int→Int)×List Int:=X.foldl (rchS st) s
theorem rchA_take{st:Hst}{s:(Int→Int)×List Int}{X:List Int}{i:Nat}{y:Int}(h:X[i]?=some y):rchA st s (X.take (i+1))=rchS st (rchA st s (X.take i)) y:=by
 unfold rchA;rw[List.take_add_one,h,List.foldl_append];rfl
theorem rchQ_len(st:Hst)(m:Int→Int)(Q:List Int)(id:Int):(rchQ st m Q id).length≤Q.length+1:=by
 unfold rchQ;split<;>simp
theorem rchA_len(st:Hst)(X:List Int):∀s:(Int→Int)×List Int,(rchA st s X).2.length≤s.2.length+X.length:=by
 induction X with
 | nil=>exact fun s=>Nat.le_refl _
 | cons a r ih=>exact fun s=>by have:=ih (rchS st s a);have h2:=rchQ_len st s.1 s.2 a;simp only[List.length_cons];unfold rchA at *;simp only[List.foldl_cons];unfold rchS at *;dsimp only at *;omega
structure Cst where
 ph:Int
 col:Int→Int
 Q:List Int
 L:List Int
 Fr:List Int
 G:List Int
 P:List Int
def Cst.rts(s:Cst)(R:List Int):List Int:=R++(s.G++s.P)
def bgn(st:Hst)(R:List Int)(s:Cst):Cst:={ s with ph:=1,col:=(rchA st (c0,[]) (s.rts R)).1,Q:=(rchA st (c0,[]) (s.rts R)).2 }
def setl(st:Hst)(R:List Int)(s:Cst):Cst:=
 if s.ph=1∧s.Q=[] then
  if (rchA st (s.col,[]) (s.rts R)).2=[] then { s with ph:=2,col:=(rchA st (s.col,[]) (s.rts R)).1,L:=hids st }
  else { s with col:=(rchA st (s.col,[]) (s.rts R)).1,Q:=(rchA st (s.col,[]) (s.rts R)).2 }
 else s
def mrk(st:Hst)(s:Cst):Cst:=match s.Q with
 | x::Q=>{ s with col:=cset (rchA st (s.col,Q) (crf st x)).1 x 2,Q:=(rchA st (s.col,Q) (crf st x)).2 }
 | []=>s
def swp(st:Hst)(s:Cst):Hst×Cst:=match s.L with
 | x::L=>if s.col x=0 then (hdrop st x,{ s with L:=L,Fr:=s.Fr++[x] }) else (st,{ s with L:=L,col:=cset s.col x 0 })
 | []=>(st,s)
def cfin(s:Cst):Cst:=if s.L=[] then { s with ph:=0 } else s
def itr(st:Hst)(R:List Int)(s:Cst):Hst×Cst×Bool:=
 if (setl st R s).ph=1 then (st,mrk st (setl st R s),true)
 else if (setl st R s).L=[] then (st,cfin (setl st R s),false)
 else ((swp st (setl st R s)).1,cfin (swp st (setl st R s)).2,true)
def wrk:Nat→Hst→List Int→Cst→Hst×Cst×Nat
 | 0,st,_,s=>(st,s,0)
 | k+1,st,R,s=>if s.ph=0 then (st,s,0) else
  if (itr st R s).2.2=true then ((wrk k (itr st R s).1 R (itr st R s).2.1).1,(wrk k (itr st R s).1 R (itr st R s).2.1).2.1,(wrk k (itr st R s).1 R (itr st R s).2.1).2.2+1)
  else ((itr st R s).1,(itr st R s).2.1,0)
def work(k:Nat)(st:Hst)(R:List Int)(s:Cst):Hst×Cst×Nat:=if k=0 then (st,s,0) else wrk k st R (if s.ph=0 then bgn st R s else s)
def addI(reg:List Int)(id:Int):Int:=if id<1 then 2 else if id∈reg then 10 else 0
def addL(reg:List Int)(id:Int):List Int:=if id<1 then reg else if id∈reg then reg else reg++[id]
def aliE(st:Hst)(id:Int):Int:=if halive st id=true then 0 else 2
def wrt(st:Hst)(s:Cst)(a b:Int):Cst:=if halive st a=true∧s.ph=1∧s.col a=2 then { s with col:=rchM st s.col b,Q:=rchQ st s.col s.Q b } else s
def wot(L:List Int)(id:Int):List Int:=L.filter fun x=>!decide (x=id)
def brt(st:Hst)(s:Cst)(id:Int):Cst:=if halive st id=true then (if s.ph=1 then { s with col:=cset s.col id 2,Q:=wot s.Q id } else { s with col:=cset s.col id 0,L:=wot s.L id }) else s
def Cst.doom(s:Cst)(id:Int):Prop:=s.ph=2∧s.col id=0∧id∈s.L
instance(s:Cst)(id:Int):Decidable (s.doom id):=by unfold Cst.doom;infer_instance
def regE(st:Hst)(s:Cst)(id:Int):Int:=if halive st id=true then (if s.doom id then 19 else addI s.G id) else 2
def rgs(st:Hst)(s:Cst)(id:Int):Cst:=if halive st id=true∧¬s.doom id then (if addI s.G id=0∧s.ph=1 then { s with G:=addL s.G id,col:=rchM st s.col id,Q:=rchQ st s.col s.Q id } else { s with G:=addL s.G id }) else s
/-! ### What every state keeps -/
def QI(st:Hst)(c:Int→Int)(Q:List Int):Prop:=Q.Nodup∧∀x∈Q,halive st x=true∧c x≠0
theorem QI.nil(st:Hst)(c:Int→Int):QI st c []:=⟨List.nodup_nil,fun x h=>by cases h⟩
theorem QI.len{st:Hst}{c:Int→Int}{Q:List Int}(h:QI st c Q):Q.length≤(hids st).length:=h.1.length_le_of_subset fun x hx=>mem_hids.2 (h.2 x hx).1
theorem rchM_ne{st:Hst}{c:Int→Int}{id x:Int}(h:c x≠0):rchM st c id x=c x:=by
 unfold rchM;split
 .rename_i q;exact cset_ne fun e=>h (by rw[e];exact q.2)
 rfl
theorem QI.rch{st:Hst}{c:Int→Int}{Q:List Int}(h:QI st c Q)(id:Int):QI st (rchM st c id) (rchQ st c Q id):=by
 unfold rchQ;by_cases q:halive st id=true∧c id=0
 .rw [if_pos q];refine⟨?_,fun x hx=>?_⟩
  .rw [List.nodup_append];refine⟨h.1,by simp,fun a ha b hb=>?_⟩;simp at hb;subst hb;exact fun e=>(h.2 a ha).2 (by rw[e];exact q.2)
  rcases List.mem_append.1 hx with hx|hx
  .exact ⟨(h.2 x hx).1,by rw[rchM_ne (h.2 x hx).2];exact (h.2 x hx).2⟩
  simp at hx;subst hx;exact⟨q.1,by unfold rchM;rw[if_pos q,cset_self];decide⟩
 rw[if_neg q];exact⟨h.1,fun x hx=>⟨(h.2 x hx).1,by rw[rchM_ne (h.2 x hx).2];exact (h.2 x hx).2⟩⟩
theorem QI.rchA{st:Hst}(X:List Int):∀{c:Int→Int}{Q:List Int},QI st c Q→QI st (rchA st (c,Q) X).1 (rchA st (c,Q) X).2:=by
 induction X with
 | nil=>exact fun h=>h
 | cons a r ih=>exact fun h=>ih (h.rch a)
structure CI(N:Nat)(st:Hst)(s:Cst):Prop where
 ph:s.ph=0∨s.ph=1∨s.ph=2
 q:s.ph=1→QI st s.col s.Q
 q0:s.ph≠1→s.Q=[]
 l:s.ph=2→s.L.Nodup∧∀x∈s.L,halive st x=true
 l0:s.ph≠2→s.L=[]
 fr:s.Fr.length+(hids st).length≤N
 gp:s.G.length+s.P.length≤N
 sm:HSm N st
 w:HW st
 i:HInv st
theorem CI.ql{N:Nat}{st:Hst}{s:Cst}(h:CI N st s):s.Q.length≤N:=by
 by_cases e:s.ph=1
 .have h1:=(h.q e).len;have h2:=h.fr;omega
 rw[h.q0 e];exact Nat.zero_le _
theorem CI.ll{N:Nat}{st:Hst}{s:Cst}(h:CI N st s):s.L.length≤N:=by
 by_cases e:s.ph=2
 .have h1:=(h.l e).1.length_le_of_subset (l₂:=hids st) fun x hx=>mem_hids.2 ((h.l e).2 x hx)
  have h2:=h.fr;omega
 rw[h.l0 e];exact Nat.zero_le _
end Go.Proofs.YtmhpcebiamkciaaGreat
end
section
set_option linter.unusedSimpArgs false
set_option linter.unusedVariables false
namespace Go.S
open Go.Hp Go.J Go.RowKit
open Go.Mem (Ty KTy blk suf addr_add)
section
variable{P:Program}{w0:World}{ops:Array Oper}{Q:Exit→Act→World→Prop}{n:Nat}{E:Env}{Z:Zone}{As:List Asr}{o:Oper}{rest:List Oper}{α:Type}{T:Ty α}
theorem s_appendZ{s x:Operand}{t tn:TypeId}{d:Nat}{q kq:IntKind}{y:Int}(k:Nat)(hT:T.Ok P)(ht:P.underlying t=some (.slice T.id))(htn:P.underlying tn=some (.int kq))(hy:y=(k:Int))(h0:0<k)(hb:k*T.bytes≤140737488355328)(h63:k≤9223372036854775807)(h:∀v',SL P w0 ops Q n rest ((d,v')::E) Z (own T v' (List.replicate k T.zero)::As))(ho:o.op=.call { callee:=.builtin .append,args:=#[s,x],argTypes:=#[t,tn] }:=by rfl)(hs:ev E s=.slice none 0 0:=by rfl)(hx:ev E x=.int q y:=by rfl)(hd:o.dst=some d:=by rfl)(hk:okOp ops n E o=true:=by kernel_rfl):SL P w0 ops Q n (o::rest) E Z As:=fun H hH=>by
 subst hy;refine l_run (R:=fun v' H'=>Ow H' T v' (List.replicate k T.zero)∧Chg (fun _=>False) H H'∧blk v'=some H.size) hk (fun w ha=>?_) (fun v' H' ⟨a1,a2,a3⟩=>?_)
 .obtain ⟨i,hi,hsz,hby,hz⟩:=hT.info;rw[←hby]at hb;have hr:=Go.Lib.run_append_nil_zeros (P:=P) w t tn o.type T.id i _ q kq ht htn hi hz k h0 (by rw[hsz];exact hT.pos) (by omega) (by omega);have hge:=grownCap_ge w k 0 T.id;have hcm:=grownCap_le_maxLen w k 0 T.id (by simpa [maxLen]using h63);have hzs:(T.val T.zero).cells.size=T.size:=by have:=hT.len T.zero;simpa [Ty.enc]using this
  have hchg:=Chg.of_mem ((Mem.Chg.refl (fun _=>False) w).drew.alloc (.cells (Builtin.zeroCells (T.val T.zero).cells k++Builtin.zeroCells (T.val T.zero).cells (grownCap w k 0 T.id-k)) T.id));refine⟨.slice (some ⟨w.heap.size,0,none⟩) k (grownCap w k 0 T.id),w.drew.alloc (.cells (Builtin.zeroCells (T.val T.zero).cells k++Builtin.zeroCells (T.val T.zero).cells (grownCap w k 0 T.id-k)) T.id),?_,⟨rfl,ha.os,ha.tape,ha.output⟩,.inr ⟨w.heap.size,_,_,by rw[List.length_replicate],heap_alloc_new w.drew _,by simpa using hge,hcm,?_,?_⟩,by rw[←ha.heap];exact hchg,by rw[←ha.heap];rfl⟩
  .unfold execOp;simp only[ho,resolve,invoke,builtin,Sem.run_bind,Sem.run_pure,Result.andThen_ok,List.map_toArray,List.map_cons,List.map_nil,hs,hx,hr]
  .simp only[Array.size_append,size_zeroCells,hzs,←Nat.add_mul];exact Nat.le_of_eq (by congr 1;omega)
  have e:(Builtin.zeroCells (T.val T.zero).cells k).toList=T.flat (List.replicate k T.zero):=by
   rw[←Go.Mem.madeCells_flat hT,←hzs];rfl
  have hl:=hT.flat_len (List.replicate k T.zero);rw[Array.toList_append,e,←hl];exact List.take_left
 rw[hd];exact h v' H' (hH.new (a2.mono fun k _ hk=>hk.elim) (S':=fun k=>blk v'=some k) ⟨a1,fun k=>Iff.rfl⟩ fun k hk=>by rw[a3]at hk;cases hk;omega)
end
end Go.S
end
section
set_option linter.unusedSimpArgs false
set_option linter.unusedVariables false
namespace Go.S
open Go.Hp Go.J Go.RowKit
open Go.Mem (Ty KTy blk pre suf addr_add elemAt spliceAt)
section
variable{α:Type}{T:Ty α}{v:Value}{L M:List α}{H H':Heap}{S:Nat→Prop}{P:Program}{Z:Zone}{As:List Asr}
theorem OwO.pre(h:OwO H T v L S)(hT:T.Ok P)(n:Nat)(hn:n≤L.length):OwO H T (Go.Mem.pre v n) (L.take n) S:=by
 rcases h with ⟨⟨p,rfl⟩,rfl,h⟩|⟨g,off,cap,arr,rfl,h1,h2,h3,h4,h5,hS⟩
 .simp at hn;subst hn;exact .inl ⟨⟨p,rfl⟩,rfl,h⟩
 have hl:(L.take n).length=n:=by rw[List.length_take];omega
 have hm:n*T.size≤L.length*T.size:=Nat.mul_le_mul_right _ hn;refine .inr ⟨g,off,cap,arr,by rw[hl];rfl,h1,by omega,h3,h4,?_,hS⟩;rw[hl,←hT.flat_take,←h5,List.take_take,Nat.min_eq_left hm]
theorem Holds.preO{i:Nat}(h:Holds Z As H)(hT:T.Ok P)(n:Nat)(hi:gt As i=some (ownO T v L))(hn:n≤L.length):Holds Z (upd As i (ownO T (Go.Mem.pre v n) (L.take n))) H:=
 h.step hi fun S hS=>⟨S,OwO.pre hS hT n hn,Chg.refl _ _,fun k hk=>.inl hk⟩
theorem splice_drop(l:List Value)(o p:Nat)(cs:List Value)(ho:o≤l.length):(spliceAt l (o+p) cs).drop o=spliceAt (l.drop o) p cs:=by
 have e:l=l.take o++l.drop o:=(List.take_append_drop o l).symm;have hl:(l.take o).length=o:=by rw[List.length_take];omega
 generalize l.take o=A at e hl
 generalize l.drop o=B at e
 subst e;subst hl;unfold spliceAt;rw[List.take_length_add_append,Nat.add_assoc,List.drop_length_add_append,List.append_assoc,List.append_assoc,List.drop_left,List.append_assoc]
theorem OwO.put{w:World}{g off cap p:Nat}{arr:Array Value}{cs:List Value}{L':List α}(hT:T.Ok P)(h1:w.heap[g]?=some (.cells arr T.id (0,0)))(h2:L.length≤cap)(h3:cap≤maxLen)(h4:off+cap*T.size≤arr.size)(h5:(arr.toList.drop off).take (L.length*T.size)=T.flat L)(hS:∀k,S k↔k=g)(hp:p+cs.length≤L.length*T.size)(hl:L'.length=L.length)(he:T.flat L'=spliceAt (T.flat L) p cs):
  OwO (w.setRow g (spliceAt arr.toList (off+p) cs).toArray).heap T (.slice (some ⟨g,off,none⟩) L.length cap) L' S∧Chg S w.heap (w.setRow g (spliceAt arr.toList (off+p) cs).toArray).heap:=by
 have hm:L.length*T.size≤cap*T.size:=Nat.mul_le_mul_right _ h2;have hsz:(spliceAt arr.toList (off+p) cs).length=arr.size:=by unfold spliceAt;simp;omega
 refine⟨.inr ⟨g,off,cap,_,by rw[hl],setRow_heap' w g _ arr T.id (0,0) h1,by omega,h3,by simp[hsz];omega,?_,hS⟩,⟨by simp,fun k _ hk=>setRow_other w g k _ fun e=>hk ((hS k).2 e)⟩⟩;rw[List.toList_toArray,splice_drop _ _ _ _ (by simp;omega),hl,he,←h5];have:=Go.Mem.take_splice (arr.toList.drop off) (L.length*T.size) p cs hp (by simp;omega);rw[←this];rfl
theorem run_storeO{w:World}(hT:T.Ok P){t:TypeId}{i:TypeInfo}(hi:P.info? t=some i)(hs:i.size=T.size)(hv:OwO w.heap T v L S){k:Nat}{z:α}(z':α)(hz:L[k]?=some z):
  ∃w',(storeVar t (elemAt T.size v k) (T.val z')).run P w=.ok () w'∧OwO w'.heap T v (L.set k z') S∧Chg S w.heap w'.heap∧w'.os=w.os∧w'.tape=w.tape∧w'.output=w.output:=by
 have hkl:k<L.length:=(List.getElem?_eq_some_iff.1 hz).1;rcases hv with ⟨_,rfl,_⟩|⟨g,off,cap,arr,rfl,h1,h2,h3,h4,h5,hS⟩
 .simp at hz
 .have hen:(T.val z').cells.toList=T.enc z':=rfl;have hlen:=hT.len z';have hb:(k+1)*T.size≤L.length*T.size:=Nat.mul_le_mul_right _ hkl;have hc:L.length*T.size≤cap*T.size:=Nat.mul_le_mul_right _ h2;rw[Nat.add_mul]at hb;have hcs:(T.val z').cells.size=T.size:=by have:=hlen;rw[←hen]at this;simpa using this
  have hr:=run_storeR (P:=P) hi h1 (T.val z') (k:=off+k*T.size) (by omega) (by omega) (fun c hc=>hT.one z' c (by rw[←hen];exact hc));have hx:=hT.len z;have hpart:T.enc z'=spliceAt (T.enc z) 0 (T.enc z'):=by unfold spliceAt;rw[List.drop_of_length_le (by omega)];simp
  have q:=OwO.put (w:=w) (S:=S) (p:=k*T.size) (cs:=T.enc z') (L':=L.set k z') hT h1 h2 h3 h4 h5 hS (by omega) (by simp) (by have:=hT.flat_set hz (j:=0) (by omega) hpart;simpa using this);refine⟨_,?_,q.1,q.2,rfl,rfl,rfl⟩;simp only[elemAt,addr_add];exact hr
theorem run_clearO{w:World}(hT:T.Ok P){t ty:TypeId}(ht:P.underlying t=some (.slice T.id)){z:Value}(hz:T.val T.zero=z)(hzv:∀w,(zeroValue T.id).run P w=.ok z w)(hzc:z.cells=#[z])(h1:z.oneCell'=true)(hv:OwO w.heap T v L S){k:Nat}(hk:k≤L.length)(hne:L≠[]):
  ∃w',(Builtin.clear_ #[t] ty #[suf T.size v k]).run P w=.ok (.tuple #[]) w'∧OwO w'.heap T v (L.take k++List.replicate (L.length-k) T.zero) S∧Chg S w.heap w'.heap∧w'.os=w.os∧w'.tape=w.tape∧w'.output=w.output:=by
 have hsz:T.size=1:=by have:=hT.len T.zero;unfold Ty.enc at this;rw[hz,hzc]at this;simpa using this.symm
 have hzz:T.enc T.zero=[z]:=by unfold Ty.enc;rw[hz,hzc]
 rcases hv with ⟨_,rfl,_⟩|⟨g,off,cap,arr,rfl,hg,h2,h3,h4,h5,hS⟩
 .exact absurd rfl hne
 .rw [hsz,Nat.mul_one]at h4;by_cases hkl:k=L.length
  .subst hkl;refine⟨w,?_,.inr ⟨g,off,cap,arr,by simp,hg,by simpa using h2,h3,by rw[hsz];omega,by simpa using h5,hS⟩,Chg.refl _ _,rfl,rfl,rfl⟩;unfold suf;by_cases hc:cap=L.length
   .simp [Builtin.clear_,run_underlying ht,hzv,hc,Builtin.zeroCells,storeCells]
   simp[Builtin.clear_,run_underlying ht,hzv,hc,Builtin.zeroCells,storeCells]
  have hlt:k<cap:=by omega
  have he:suf T.size (.slice (some ⟨g,off,none⟩) L.length cap) k=.slice (some ⟨g,off+k,none⟩) (L.length-k) (cap-k):=by
   unfold suf;simp only[show ¬cap=k by omega,if_false,Option.map_some,addr_add,hsz,Nat.mul_one]
  have hr:=Go.Lib.run_clear_slice (P:=P) w t T.id ty z ht hzv hzc h1 g (off+k) (L.length-k) (cap-k) (by omega)
   (fun j hj=>by rw[cell_of_row w g _ arr T.id (0,0) hg,Array.getElem?_eq_getElem (by omega)];rfl) (fun j hj=>by simp[World.frozen?,hg])
  obtain⟨c1,c2,c3,c4,c5,c6⟩:=setCells_heap g (List.replicate (L.length-k) z) (off+k) w arr T.id (0,0) hg (by simp;omega);rw[he];refine⟨_,hr,.inr ⟨g,off,cap,_,by simp;omega,c1,by simp;omega,h3,?_,?_,hS⟩,⟨Nat.le_of_eq c2.symm,fun k hk hn=>c3 k fun e=>hn ((hS k).2 e)⟩,c4,c5,c6⟩
  .rw [hsz];simp;omega
  have hfl:T.flat (List.replicate (L.length-k) T.zero)=List.replicate (L.length-k) z:=by
   unfold Ty.flat;generalize L.length-k=m;induction m with
   | zero=>rfl
   | succ m ih=>rw[List.replicate_succ,List.flatMap_cons,ih,hzz];rfl
  have hA:arr.toList.take (off+k)=arr.toList.take off++T.flat (L.take k):=by
   rw[List.take_add,←hT.flat_take,←h5,hsz,Nat.mul_one,Nat.mul_one,List.take_take,Nat.min_eq_left (by omega)]
  have hoff:(arr.toList.take off).length=off:=by rw[List.length_take,Array.length_toList];omega
  have hfk:(T.flat (L.take k)).length=k:=by rw[hT.flat_len,hsz,List.length_take];omega
  rw[List.toList_toArray,hA,Ty.flat_append,hfl,List.append_assoc,List.append_assoc];conv=>lhs;rw[show ∀X:List Value,(arr.toList.take off++X).drop off=X from fun X=>by rw[List.drop_append_of_le_length (by omega),List.drop_of_length_le (by omega)];rfl]
  rw[←List.append_assoc];refine List.take_left' ?_;rw[List.length_append,hfk,hsz,List.length_replicate,List.length_append,List.length_take,List.length_replicate];omega
end
section
variable{P:Program}{w0:World}{ops:Array Oper}{Q:Exit→Act→World→Prop}{n:Nat}{E:Env}{Z:Zone}{As:List Asr}{o:Oper}{rest:List Oper}{α:Type}{T:Ty α}{v:Value}{L M:List α}
theorem s_storeO{t:TypeId}{x y:Operand}{k:Nat}{z:α}(i:Nat)(z':α)(hT:T.Ok P)(hz:L[k]?=some z)(h:SL P w0 ops Q n rest E Z (upd As i (ownO T v (L.set k z'))))(ho:o.op=.store t x y:=by rfl)(hA:gt As i=some (ownO T v L):=by rfl)(hx:ev E x=.pointer (some (elemAt T.size v k)):=by rfl)(hy:ev E y=T.val z':=by rfl)(hs:sizeT P t T.size=true:=by kernel_rfl)(hd:o.dst=none:=by rfl)(hk:okOp ops n E o=true:=by kernel_rfl):SL P w0 ops Q n (o::rest) E Z As:=fun H hH=>by
 unfold sizeT at hs;cases hi:P.info? t with
 | none=>rw[hi]at hs;simp at hs
 | some inf=>
  rw[hi]at hs;have hsz:inf.size=T.size:=Nat.eq_of_beq_eq_true hs;refine l_runs (R:=fun H'=>Holds Z (upd As i (ownO T v (L.set k z'))) H') hk (fun w ha=>?_) (fun H' h'=>by rw[hd];exact h H' h');obtain⟨hw,hos,htape,hout⟩:=ha;subst hw;obtain⟨S,hS,_⟩:=(hH.part hA);obtain⟨w',hr,q1,q2,q3,q4,q5⟩:=run_storeO (S:=S) hT hi hsz hS z' hz;refine⟨w',?_,⟨rfl,q3.trans hos,q4.trans htape,q5.trans hout⟩,?_⟩
  .unfold execOp;simp only[ho,hx,hy];exact Mem.run_u (by unfold Instr.storeAt Instr.sureAddr;rw[Sem.run_bind,Sem.run_pure,Result.andThen_ok];exact hr)
  refine hH.step hA fun S2 hS2=>?_
  obtain⟨w2',hr2,r1,r2,_⟩:=run_storeO (S:=S2) hT hi hsz hS2 z' hz;rw[hr]at hr2;injection hr2 with e1 e2
  subst e2;exact⟨S2,r1,r2,fun k hk=>.inl hk⟩
theorem s_clearO0{x:Operand}{t:TypeId}{k:Nat}{z:Value}(i:Nat)(hT:T.Ok P)(ht:P.underlying t=some (.slice T.id))(hl:k≤L.length)(hne:L≠[])(h:SL P w0 ops Q n rest E Z (upd As i (ownO T v (L.take k++List.replicate (L.length-k) T.zero))))(ho:o.op=.call { callee:=.builtin .clear,args:=#[x],argTypes:=#[t] }:=by rfl)(hA:gt As i=some (ownO T v L):=by rfl)(hx:ev E x=suf T.size v k:=by rfl)(hz:T.val T.zero=z:=by rfl)(hzv:∀w,(zeroValue T.id).run P w=.ok z w:=by intro _;kernel_rfl)(hzc:z.cells=#[z]:=by rfl)(h1:z.oneCell'=true:=by rfl)(hd:o.dst=none:=by rfl)(hk:okOp ops n E o=true:=by kernel_rfl):SL P w0 ops Q n (o::rest) E Z As:=fun H hH=>by
 refine l_run (R:=fun _ H'=>Holds Z (upd As i (ownO T v (L.take k++List.replicate (L.length-k) T.zero))) H') hk (fun w ha=>?_) (fun v' H' h'=>by rw[hd];exact h H' h');obtain⟨hw,hos,htape,hout⟩:=ha;subst hw;obtain⟨S,hS,_⟩:=(hH.part hA);obtain⟨w',hr,q1,q2,q3,q4,q5⟩:=run_clearO (S:=S) (ty:=o.type) hT ht hz hzv hzc h1 hS hl hne;refine⟨.tuple #[],w',?_,⟨rfl,q3.trans hos,q4.trans htape,q5.trans hout⟩,?_⟩
 .unfold execOp;simp only[ho,resolve,invoke,builtin,Sem.run_bind,Sem.run_pure,Result.andThen_ok,List.map_toArray,List.map_cons,List.map_nil,hx,hr]
 refine hH.step hA fun S2 hS2=>?_
 obtain⟨w2',hr2,r1,r2,_⟩:=run_clearO (S:=S2) (ty:=o.type) hT ht hz hzv hzc h1 hS2 hl hne;rw[hr]at hr2;injection hr2 with e1 e2
 subst e2;exact⟨S2,r1,r2,fun k hk=>.inl hk⟩
end
end Go.S
end
section
set_option linter.unusedSimpArgs false
set_option linter.unusedVariables false
set_option maxRecDepth 100000
set_option maxHeartbeats 2000000
namespace Go.Proofs.YtmhpcebiamkciaaGreat
open Go.Hp Go.J Go.S
open Go.Mem (Ty KTy blk elemAt pre suf blk_pre blk_suf aget aset strK aggDesc)
open Go.Mem (adel apos aget_aset aget_adel)
abbrev eV(n:Int):Value:=.agg #[iw n]
def eTy:Ty Int:=⟨153,1,8,true,eV,0⟩
theorem eTy_ok:eTy.Ok Tryz.prog:=ok_of eTy _ Tryz.t153 (by decide) (fun _=>rfl) (fun x u hu=>by simp[Ty.enc,eTy,Value.cells]at hu;subst hu;rfl) (fun _=>rfl) Tryz.underlying153 rfl (fun h=>by cases h) (by kernel_rfl) (by kernel_rfl) (by kernel_rfl) (by kernel_rfl)
theorem eqE(x y:Int)(w:World):(binOp .eql 153 (eV x) (eV y)).run Tryz.prog w=.ok (.bool (decide (x=y))) w∧(binOp .neq 153 (eV x) (eV y)).run Tryz.prog w=.ok (.bool (!decide (x=y))) w:=by
 have h:=J.run_eqS (P:=Tryz.prog) (t:=153) [0] (by kernel_rfl) (by kernel_rfl) #[iw x] #[iw y] rfl rfl w;have e:J.cellsEq [iw x] [iw y]=decide (x=y):=by rw[Bool.eq_iff_iff];simp[J.cellsEq,J.cellEq]
 rw[e]at h;exact h
theorem take_snoc{α:Type}{L:List α}{i:Nat}{y:α}(h:L[i]?=some y):L.take i++[y]=L.take (i+1):=by rw[List.take_add_one,h];rfl
def qA(b:Nat)(reg pend:List Int):Asr:=exA fun rv=>exA fun pv=>stA True [blkA b #[rv,pv] 151,own eTy rv reg,ownO eTy pv pend]
theorem q_open{b:Nat}{reg pend:List Int}{Z:Zone}{F:List Asr}{H:Heap}(h:Holds Z (qA b reg pend::F) H):∃rv pv,True∧Holds Z (blkA b #[rv,pv] 151::own eTy rv reg::ownO eTy pv pend::F) H:=by
 obtain⟨a,h⟩:=h.open_ex;obtain⟨m,h⟩:=h.open_ex;exact⟨a,m,h.open_st⟩
theorem q_shut{b:Nat}{reg pend:List Int}{Z:Zone}{F:List Asr}{H:Heap}{rv pv:Value}(h:Holds Z (blkA b #[rv,pv] 151::own eTy rv reg::ownO eTy pv pend::F) H):Holds Z (qA b reg pend::F) H:=
 Holds.shut_ex rv (Holds.shut_ex pv (Holds.shut_st trivial h))
theorem qnew_s{Z:Zone}:SF Tryz.prog 62 #[] Z [] fun r Bs=>∃b,r=.pointer (some ⟨b,0,none⟩)∧Bs=[qA b [] []]:=by
 refine sf_enter Tryz.func62 3 [] (fun w0=>?_);refine k_sr<|sP (.pointer none)<|s_nr<|sL (t_kern (.agg #[(.slice none 0 0),(.slice none 0 0)]))<|s_box #[(.slice none 0 0),(.slice none 0 0)] (fun g1=>?_)
 refine sP (pB g1 0)<|s_nt<|k_ret<|xs_fin [pB g1 0] [qA g1 [] []] (SI.tmp 0 SI.nil) (fun _ h=>q_shut (b:=g1) (rv:=.slice none 0 0) (pv:=.slice none 0 0) ((Holds.nilS (T:=eTy) (Holds.nilO (T:=eTy) h)).re [2,0] [])) ⟨g1,rfl,rfl⟩
theorem ids_s{Z:Zone}{lv:Value}{L:List Int}(hL:Kn Z eTy lv L)(hl:L.length≤1000000):SF Tryz.prog 121 #[lv] Z [] fun r Bs=>Bs=[own iTy r L]:=by
 refine sf_enter Tryz.func121 19 [(0,lv)] (fun w0=>?_);refine k_sr<|sP (.slice none 0 0)<|s_nr<|sP (.slice none 0 0)<|s_nt<|k_seq<|k_sr<|sP lv<|sL (t_len eTy_ok Tryz.underlying149 (.zn hL))<|sP (iw 0)<|s_nt<|k_block<|k_mem (fun _ h=>Holds.nilS (T:=iTy) h) ?_
 refine k_mem (Bs:=[own iTy (.slice none 0 0) (L.take 0)]) (fun _ h=>h) ?_;refine k_loop (ι:=Value×Nat) (fun (sx,i)=>i≤L.length) (fun (sx,i)=>[(3,sx),(6,lv),(7,iw (L.length:Int)),(8,iw (i:Int))]) (fun (sx,i)=>[own iTy sx (L.take i)]) (fun (sx,i)=>L.length-i) (.slice none 0 0,0) (Nat.zero_le _) sA (rr [0] []) ?_;rintro⟨sx,i⟩ hi1;replace hi1:i≤L.length:=hi1;show SK _ _ _ _ _ [(3,sx),(6,lv),(7,iw (L.length:Int)),(8,iw (i:Int))] _ [own iTy sx (L.take i)];refine k_sr<|sL t_cmp<|s_nt<|k_seq<|k_cond (decide ((i:Int)<(L.length:Int))) (fun c2=>?_) (fun c2=>?_)
 .have p3:=dY c2;refine k_st<|k_seq<|k_block<|k_sr<|sL (t_index eTy_ok Tryz.underlying149 (.zn hL) (i:Int) i om ol om) ?_
  obtain⟨y4,hy5⟩:∃y,L[i]?=some y:=⟨_,List.getElem?_eq_getElem ol⟩;refine sL (t_loadE eTy_ok (.zn hL) hy5)<|s_alloc (.agg #[iw 0]) #[iw 0] (fun g6=>?_)
  refine s_store 0 #[iw y4] ?_;refine s_nt<|k_reg<|sP sx<|sP (pB g6 0)<|sL (t_load 0 (iw y4))<|s_buildSlice (e:=3) [(0,iw y4)] #[iw y4] (fun g7=>?_) (hb:=by kernel_rfl)
  refine s_append (L:=(L.take i)) 2 iTy_ok Tryz.underlying23 (.lit 0 iTy_ok [y4]) (by show _*8≤_;(try simp only[lnm]);omega) ol (fun v8=>?_);refine sP v8<|s_nil<|xs_block<|xs_then<|k_reg<|sL (t_add (i:Int) 1 ol)<|sP (iw ((i:Int)+1))<|s_nil ?_
  rw[take_snoc hy5];exact xs_round (v8,i+1) (by show L.length-(i+1)<L.length-i;omega) (by show i+1≤L.length;omega) sA (rr [2] [1,1])
 have p9:=dF c2;refine k_exit<|xs_exit<|xs_exit<|xs_here<|xs_then<|k_sr<|sP2 sx<|s_nt<|k_ret ?_
 exact xs_fin [sx] [own iTy sx L] (SI.tmp 2 SI.nil) (fun _ h=>by rw[List.take_of_length_le om]at h;exact h.re [0] []) rfl
theorem has_s{Z:Zone}{F:List Asr}{b:Nat}{reg pend:List Int}(id:Int)(hr:reg.length≤100000):SF Tryz.prog 107 #[.pointer (some ⟨b,0,none⟩),iw id] Z (qA b reg pend::F) fun r Bs=>r=.bool (decide (id∈reg))∧Bs=qA b reg pend::F:=by
 refine sf_enter Tryz.func107 23 [(0,pB b 0),(1,iw id)] (fun w0=>?_);refine k_mem2 (fun H h=>q_open (h.re [0] [])) (fun rq1 pq2 hw=>?_);refine k_sr<|sP (.bool false)<|s_nt<|k_seq<|k_sr<|sP (pB b 0)<|sP (.bool false)<|s_nt<|k_false<|k_st<|k_seq<|k_sr<|sP3 (pB b 0)<|sL (t_load 0 rq1)<|sL (t_len eTy_ok Tryz.underlying149 (.own 1))<|sP (iw 0)<|s_nt<|k_block<|k_loop (ι:=Nat) (fun i=>i≤reg.length∧id∉reg.take i) (fun i=>[(1,iw id),(12,rq1),(13,iw (reg.length:Int)),(14,iw (i:Int))]) (fun i=>blkA b #[rq1,pq2] 151::own eTy rq1 reg::ownO eTy pq2 pend::F) (fun i=>reg.length-i) 0 ⟨Nat.zero_le _,by simp⟩ sA (rr [0,0,0] []) ?_
 rintro i hi3;show SK _ _ _ _ _ [(1,iw id),(12,rq1),(13,iw (reg.length:Int)),(14,iw (i:Int))] _ (blkA b #[rq1,pq2] 151::own eTy rq1 reg::ownO eTy pq2 pend::F);refine k_sr<|sL t_cmp<|s_nt<|k_seq<|k_cond (decide ((i:Int)<(reg.length:Int))) (fun c4=>?_) (fun c4=>?_)
 .have p5:=dY c4;refine k_st<|k_seq<|k_block<|k_sr<|sL (t_index eTy_ok Tryz.underlying149 (.own 1) (i:Int) i om ol om) ?_
  obtain⟨y6,hy7⟩:∃y,reg[i]?=some y:=⟨_,List.getElem?_eq_getElem ol⟩;refine sL (t_loadE eTy_ok (.own 1) hy7)<|s_alloc (.agg #[iw 0]) #[iw 0] (fun g8=>?_)
  refine s_store 0 #[iw y6] ?_;refine s_nr<|sL (t_loadA 0 #[iw y6])<|sP (iw id)<|sL (t_kern (.agg #[iw id]))<|sL (t_eqS (fun w=>(eqE y6 id w).1))<|s_nt<|k_cond (decide (y6=id)) (fun c9=>?_) (fun c9=>?_)
  .have p10:=dY c9;refine k_sr<|sP (.bool true)<|s_nt<|k_ret<|xs_retBlock<|xs_ret<|xs_ret<|xs_retBlock<|xs_ret<|xs_mem (fun _ h=>q_shut (h.re [1,1,1] [])) ?_
   refine xs_fin [.bool true] (qA b reg pend::F) (SI.tmp 4 SI.nil) (rr [0] [1]) ⟨cB ?_,rfl⟩;exact (decide_eq_true (by rw[←p10];exact List.mem_of_getElem? hy7)).symm
  have p11:=dF c9;refine k_skip<|xs_block<|xs_then<|k_reg<|sL (t_add (i:Int) 1 ol)<|sP (iw ((i:Int)+1))<|s_nil ?_
  exact xs_round (i+1) om (by obtain⟨hi1,hi2⟩:=hi3;refine⟨by omega,?_⟩;rw[←take_snoc hy7,List.mem_append,List.mem_singleton];rintro (h|h);exact hi2 h;exact p11 h.symm) sA (rr [1,1,1] [3])
 have p12:=dF c4;refine k_exit<|xs_exit<|xs_exit<|xs_here<|xs_then<|k_sr<|sP (.bool false)<|s_nt<|k_ret<|xs_mem (fun _ h=>q_shut (h.re [0,0,0] [])) ?_
 refine xs_fin [.bool false] (qA b reg pend::F) (SI.tmp 4 SI.nil) (rr [0] []) ⟨cB ?_,rfl⟩;exact (decide_eq_false (by have h:=hi3.2;rwa [List.take_of_length_le om]at h)).symm
theorem add_s{Z:Zone}{F:List Asr}{b:Nat}{reg pend:List Int}(id:Int)(hr:reg.length≤90000):SF Tryz.prog 45 #[.pointer (some ⟨b,0,none⟩),iw id] Z (qA b reg pend::F) fun r Bs=>r=iw (addI reg id)∧Bs=qA b (addL reg id) pend::F:=by
 refine sf_enter Tryz.func45 26 [(0,pB b 0),(1,iw id)] (fun w0=>?_);refine k_sr<|sP (iw 0)<|s_nt<|k_seq<|k_block<|k_sr<|sP (pB b 0)<|sP2 (.bool false)<|s_nt<|k_false<|k_sr<|sP (iw id)<|sL t_cmp<|sP (.bool (decide (id<1)))<|s_nt<|k_cond (decide (id<1)) (fun c1=>?_) (fun c1=>?_)
 .have p2:=dY c1;refine k_sr<|sP (iw 2)<|s_nt<|k_ret<|xs_retBlock<|xs_ret ?_
  have h1:addI reg id=2:=by simp[addI,p2]
  have h2:addL reg id=reg:=by simp[addL,p2]
  refine xs_fin [iw 2] (qA b reg pend::F) (SI.tmp 4 SI.nil) (rr [0] []) ?_;rw[h1,h2];exact⟨rfl,rfl⟩
 have p3:=dF c1;refine k_sr<|sP (pB b 0)<|sP (iw id)<|sC [0] (has_s (reg:=reg) id ol) ?_
 refine sP (.bool (decide (id∈reg)))<|s_nt<|k_cond (decide (id∈reg)) (fun c4=>?_) (fun c4=>?_)
 .have p5:=dY c4;refine k_sr<|sP (iw 10)<|s_nt<|k_ret<|xs_retBlock<|xs_ret ?_
  have h1:addI reg id=10:=by simp[addI,p3,p5]
  have h2:addL reg id=reg:=by simp[addL,p3,p5]
  refine xs_fin [iw 10] (qA b reg pend::F) (SI.tmp 4 SI.nil) (rr [0] []) ?_;rw[h1,h2];exact⟨rfl,rfl⟩
 have p6:=dF c4;refine k_skip<|xs_block<|xs_then<|k_sr<|sP4 (pB b 0)<|s_mem2 (fun H h=>q_open (h.re [0] [])) (fun rq7 pq8 hw=>?_)
 refine sL (t_load 0 rq7)<|sP (iw id)<|sL (t_kern (.agg #[iw id]))<|s_buildSlice (e:=153) [(0,.agg #[iw id])] #[iw id] (fun g9=>?_) (hb:=by kernel_rfl)
 refine s_append (L:=reg) 2 eTy_ok Tryz.underlying149 (.lit 0 eTy_ok [id]) (by show _*8≤_;(try simp only[lnm]);omega) ol (fun v10=>?_);refine sP2 (pB b 0)<|sF 2 (fun hf11=>?_)
 refine s_store (u:=v10) (m:=1) 1 #[v10,pq8] ?_ (hm:=by (obtain⟨_,_,e⟩:=hf11;rw[e];rfl)) (h1:=by (obtain⟨_,_,e⟩:=hf11;rw[e];rfl)) (ha':=by (obtain⟨_,_,e⟩:=hf11;rw[e];rfl));refine s_nr<|sP (iw 0)<|s_nt<|k_ret<|xs_mem (fun _ h=>q_shut (h.re [1,1,1] [])) ?_
 have h1:addI reg id=0:=by simp[addI,p3,p6]
 have h2:addL reg id=(reg++[id]):=by simp[addL,p3,p6]
 refine xs_fin [iw 0] (qA b (reg++[id]) pend::F) (SI.tmp 4 SI.nil) (rr [0] [1]) ?_;rw[h1,h2];exact⟨rfl,rfl⟩
theorem pending_s{Z:Zone}{F:List Asr}{b:Nat}{reg pend:List Int}(hl:pend.length≤1000000):SF Tryz.prog 56 #[.pointer (some ⟨b,0,none⟩)] Z (qA b reg pend::F) fun r Bs=>Bs=own iTy r pend::qA b reg pend::F:=by
 refine sf_enter Tryz.func56 10 [(0,pB b 0)] (fun w0=>?_);refine k_sr<|sP (.slice none 0 0)<|s_nt<|k_seq<|k_sr<|sP (pB b 0)<|sP (.bool false)<|s_nt<|k_false<|k_st<|k_sr<|sP2 (pB b 0)<|sP (pB b 1)<|s_mem2 (fun H h=>q_open (h.re [0] [])) (fun rq1 pq2 hw=>?_)
 refine sL (t_load 0 pq2)<|s_pcall (fun _ h=>ids_s (L:=pend) (Acc.kn (.ownO 2) h) ol) ?_
 rintro v3 _ rfl;refine sF 0 (fun hf4=>?_);refine sP v3<|s_nt<|k_ret<|xs_mem (fun _ h=>q_shut (h.re [1,1,1] [])) ?_
 exact xs_fin [v3] (own iTy v3 pend::qA b reg pend::F) (SI.tmp 2 SI.nil) (rr [1,0] []) rfl
theorem registered_s{Z:Zone}{F:List Asr}{b:Nat}{reg pend:List Int}(hl:reg.length≤1000000):SF Tryz.prog 130 #[.pointer (some ⟨b,0,none⟩)] Z (qA b reg pend::F) fun r Bs=>Bs=own iTy r reg::qA b reg pend::F:=by
 refine sf_enter Tryz.func130 10 [(0,pB b 0)] (fun w0=>?_);refine k_sr<|sP (.slice none 0 0)<|s_nt<|k_seq<|k_sr<|sP (pB b 0)<|sP (.bool false)<|s_nt<|k_false<|k_st<|k_sr<|sP3 (pB b 0)<|s_mem2 (fun H h=>q_open (h.re [0] [])) (fun rq1 pq2 hw=>?_)
 refine sL (t_load 0 rq1)<|s_pcall (fun _ h=>ids_s (L:=reg) (Acc.kn (.own 1) h) ol) ?_
 rintro v3 _ rfl;refine sF 0 (fun hf4=>?_);refine sP v3<|s_nt<|k_ret<|xs_mem (fun _ h=>q_shut (h.re [1,1,1] [])) ?_
 exact xs_fin [v3] (own iTy v3 reg::qA b reg pend::F) (SI.tmp 2 SI.nil) (rr [1,0] []) rfl
section
variable{P:Program}{w0:World}{Q:Exit→Act→World→Prop}{n:Nat}{E:Env}{Z:Zone}{As:List Asr}{ops:Array Oper}{α β γ δ ε:Type}
theorem k_mem5{c:Code}{p:α→β→γ→δ→ε→Prop}{Bs:α→β→γ→δ→ε→List Asr}(hA:∀H,Holds Z As H→∃x y z u v,p x y z u v∧Holds Z (Bs x y z u v) H)(h:∀x y z u v,p x y z u v→SK P w0 c Q n E Z (Bs x y z u v)):SK P w0 c Q n E Z As:=fun H hH=>by
 obtain⟨x,y,z,u,v,hp,hB⟩:=hA H hH;exact h x y z u v hp H hB
theorem s_mem5{l:List Oper}{p:α→β→γ→δ→ε→Prop}{Bs:α→β→γ→δ→ε→List Asr}(hA:∀H,Holds Z As H→∃x y z u v,p x y z u v∧Holds Z (Bs x y z u v) H)(h:∀x y z u v,p x y z u v→SL P w0 ops Q n l E Z (Bs x y z u v)):SL P w0 ops Q n l E Z As:=fun H hH=>by
 obtain⟨x,y,z,u,v,hp,hB⟩:=hA H hH;exact h x y z u v hp H hB
end
abbrev cV(n:Int):Value:=iw n
theorem mgt_is(m:List (Int×Int))(k:Int):((aget m k).map cV).getD (iw 0)=iw (mgt m k):=by
 unfold mgt;cases aget m k<;>rfl
def mcA(mb:Nat)(c:Int→Int):Asr:=exA fun m=>stA (Col m c) [mpA iK cV mb m]
def coA(b q hb:Nat)(ph:Int)(c:Int→Int)(Q L Fr G P:List Int):Asr:=exA fun mb=>exA fun qv=>exA fun lv=>exA fun fv=>exA fun c'=>stA (ph=0∨c'=c) [blkA b #[.pointer (some ⟨q,0,none⟩),.pointer (some ⟨hb,0,none⟩),iw ph,.map (some mb),qv,lv,fv] 91,qA q G P,mcA mb c',ownO iTy qv Q,ownO iTy lv L,ownO iTy fv Fr]
section
variable{Z:Zone}{F:List Asr}{H:Heap}{b q hb mb:Nat}{ph:Int}{c c':Int→Int}{Q L Fr G P:List Int}{m:List (Int×Int)}
theorem mc_open(h:Holds Z (mcA mb c::F) H):∃m,(Col m c∧(m.map Prod.fst).Nodup)∧Holds Z (mpA iK cV mb m::F) H:=by
 obtain⟨m,h⟩:=h.open_ex;obtain⟨hc,h⟩:=h.open_st;exact⟨m,⟨hc,(h.mp (i:=0) rfl).nodup⟩,h⟩
theorem mc_shut(hc:Col m c)(h:Holds Z (mpA iK cV mb m::F) H):Holds Z (mcA mb c::F) H:=Holds.shut_ex m (Holds.shut_st hc h)
theorem co_open(h:Holds Z (coA b q hb ph c Q L Fr G P::F) H):∃mb qv lv fv c',(ph=0∨c'=c)∧Holds Z (blkA b #[.pointer (some ⟨q,0,none⟩),.pointer (some ⟨hb,0,none⟩),iw ph,.map (some mb),qv,lv,fv] 91::qA q G P::mcA mb c'::ownO iTy qv Q::ownO iTy lv L::ownO iTy fv Fr::F) H:=by
 obtain⟨mb,h⟩:=h.open_ex;obtain⟨qv,h⟩:=h.open_ex;obtain⟨lv,h⟩:=h.open_ex;obtain⟨fv,h⟩:=h.open_ex;obtain⟨c',h⟩:=h.open_ex;exact⟨mb,qv,lv,fv,c',h.open_st⟩
theorem co_open1(hp:ph≠0)(h:Holds Z (coA b q hb ph c Q L Fr G P::F) H):∃mb qv lv fv,True∧Holds Z (blkA b #[.pointer (some ⟨q,0,none⟩),.pointer (some ⟨hb,0,none⟩),iw ph,.map (some mb),qv,lv,fv] 91::qA q G P::mcA mb c::ownO iTy qv Q::ownO iTy lv L::ownO iTy fv Fr::F) H:=by
 obtain⟨mb,qv,lv,fv,c',hc,h2⟩:=co_open h;have e:=hc.resolve_left hp;rw[e]at h2;exact⟨mb,qv,lv,fv,trivial,h2⟩
theorem co_shut{qv lv fv:Value}(hc:ph=0∨c'=c)(h:Holds Z (blkA b #[.pointer (some ⟨q,0,none⟩),.pointer (some ⟨hb,0,none⟩),iw ph,.map (some mb),qv,lv,fv] 91::qA q G P::mcA mb c'::ownO iTy qv Q::ownO iTy lv L::ownO iTy fv Fr::F) H):Holds Z (coA b q hb ph c Q L Fr G P::F) H:=
 Holds.shut_ex mb (Holds.shut_ex qv (Holds.shut_ex lv (Holds.shut_ex fv (Holds.shut_ex c' (Holds.shut_st hc h)))))
end
theorem creach_s{Z:Zone}{F:List Asr}{b q hb:Nat}{m:Int→Int}{Q L Fr G P:List Int}{st:Hst}(hQ:Q.length≤1000000)(id:Int):SF Tryz.prog 46 #[.pointer (some ⟨b,0,none⟩),iw id] Z (coA b q hb 1 m Q L Fr G P::hpA hb st::F) fun r Bs=>r=.tuple #[]∧Bs=coA b q hb 1 (rchM st m id) (rchQ st m Q id) L Fr G P::hpA hb st::F:=by
 refine sf_enter Tryz.func46 34 [(0,pB b 0),(1,iw id)] (fun w0=>?_);refine k_sr<|sP2 (pB b 0)<|sP (pB b 1)<|s_mem4 (fun H h=>co_open1 (show (1:Int)≠0 by decide) (h.re [0] [])) (fun mb1 qv2 lv3 fv4 hw=>?_)
 refine sL (t_load 0 (pB hb 0))<|sP (iw id)<|sC [6] (halive_s (st:=st) id) ?_
 refine sP (.bool (halive st id))<|s_fork 10 (halive st id) (fun c5=>?_) (fun c5=>?_)
 .refine sP2 (pB b 0)<|sP (pB b 3)<|sL (t_load 1 (.map (some mb1)))<|sP (iw id)<|s_memX (fun H h=>mc_open (h.re [3] [])) (fun m6 hw=>?_)
  have hm7:=hw;refine sL (Lt.to (v':=iw (m id)) (t_lookup 0 intOk Tryz.underlying89 (iw 0) id) ((mgt_is _ _).trans (cI (hm7.1 id))))<|sL t_cmp<|sP (.bool (decide ((m id)=0)))<|s_nt<|k_cond (decide ((m id)=0)) (fun c8=>?_) (fun c8=>?_)
  .have p9:=dY c8;refine k_sr<|sP2 (pB b 0)<|sP (pB b 3)<|sL (t_load 2 (.map (some mb1)))<|sP (iw id)<|s_update 0 intOk Tryz.underlying89 id (1:Int) ?_
   refine s_nt<|k_reg<|sP3 (pB b 0)<|sP (pB b 4)<|sL (t_load 2 qv2)<|sP (iw id)<|s_buildSlice (e:=3) [(0,iw id)] #[iw id] (fun g10=>?_) (hb:=by kernel_rfl)
   refine s_appendO (L:=Q) 5 iTy_ok Tryz.underlying23 (.lit 0 iTy_ok [id]) (by show _*8≤_;(try simp only[lnm]);omega) ol (fun v11=>?_);refine s_fact (fun H h=>((Acc.ownO (T:=iTy) (L:=(Q++[id])) 5 rfl) H h).form) (fun hf12=>?_);refine sP (pB b 0)<|sP (pB b 4)<|s_store (u:=v11) (m:=1) 3 #[pB q 0,pB hb 0,iw 1,.map (some mb1),v11,lv3,fv4] ?_ (hm:=by (obtain⟨_,_,e⟩:=hf12;rw[e];rfl)) (h1:=by (obtain⟨_,_,e⟩:=hf12;rw[e];rfl)) (ha':=by (obtain⟨_,_,e⟩:=hf12;rw[e];rfl))
   refine s_nil<|xs_mem (fun _ h=>mc_shut (hm7.1.set id (1:Int)) (h.re [1] [])) ?_
   refine xs_mem (fun _ h=>co_shut (c:=(cset m id (1:Int))) (.inr rfl) (h.re [3,3,0,2,2,2] [])) ?_;refine xs_finN [] (coA b q hb 1 (cset m id (1:Int)) (Q++[id]) L Fr G P::hpA hb st::F) SI.nil (rr [0,1] [2]) ⟨rfl,?_⟩;unfold rchM rchQ;rw[if_pos ⟨c5,dY c8⟩,if_pos ⟨c5,dY c8⟩]
  have p13:=dF c8;refine k_skip<|xs_mem (fun _ h=>mc_shut hm7.1 (h.re [0] [])) ?_
  refine xs_mem (fun _ h=>co_shut (c:=m) (.inr rfl) (h.re [2,2,0,1,1,1] [])) ?_;refine xs_finN [] (coA b q hb 1 m Q L Fr G P::hpA hb st::F) SI.nil (rr [0,0] []) ⟨rfl,?_⟩;unfold rchM rchQ;rw[if_neg (fun e=>dF c8 e.2),if_neg (fun e=>dF c8 e.2)]
 refine sK<|sK<|sK<|sK<|sK<|sK<|sK<|sP (.bool false)<|s_nt<|k_false<|k_skip<|xs_mem (fun _ h=>co_shut (c:=m) (.inr rfl) (h.re [1,1,1,1,1,1] [])) ?_
 refine xs_finN [] (coA b q hb 1 m Q L Fr G P::hpA hb st::F) SI.nil (rr [0,0] []) ⟨rfl,?_⟩;unfold rchM rchQ;rw[if_neg (fun e=>by rw[c5]at e;exact absurd e.1 (by decide)),if_neg (fun e=>by rw[c5]at e;exact absurd e.1 (by decide))]
theorem k_factH{P:Program}{w0:World}{Q:Exit→Act→World→Prop}{n:Nat}{E:Env}{Z:Zone}{As:List Asr}{c:Code}{p:Heap→Prop}(hA:∀H,Holds Z As H→p H)(h:∀H,p H→SK P w0 c Q n E Z As):SK P w0 c Q n E Z As:=fun H hH=>h H (hA H hH) H hH
theorem clone_s{Z:Zone}{lv:Value}{L:List Int}(hL:Kn Z iTy lv L)(hl:L.length≤1000000):SF Tryz.prog 50 #[lv] Z [] fun r Bs=>Bs=[own iTy r L]:=by
 refine sf_enter Tryz.func50 8 [(0,lv)] (fun w0=>?_);refine k_factH (fun H h=>hL.get h) (fun H0 hsl=>?_);refine k_sr<|sP (.slice none 0 0)<|s_nt<|k_seq<|k_sr<|sP lv<|sL (t_nilS Tryz.underlying23 (.zn hL))<|s_nt<|k_cond (nilS lv) (fun c1=>?_) (fun c1=>?_)
 .refine k_sr<|sP (.slice none 0 0)<|s_nt<|k_ret<|xs_ret ?_
  have hn:L=[]:=(nilS_spec hsl c1).2;exact xs_fin [(.slice none 0 0)] [own iTy (.slice none 0 0) L] (SI.tmp 2 SI.nil) (fun _ h=>by rw[hn];exact h.nilS.re [0] []) rfl
 refine k_st<|k_sr<|s_buildSlice (e:=3) [] #[] (fun g2=>?_) (hb:=by kernel_rfl)
 refine sP lv<|s_mem (fun _ h=>Holds.slice 0 h iTy_ok []) ?_
 refine s_append (L:=[]) 0 iTy_ok Tryz.underlying23 (.zn hL) (by show _*8≤_;(try simp only[lnm]);omega) ol (fun v3=>?_);refine sF 0 (fun hf4=>?_);refine sP v3<|s_nt<|k_ret ?_
 exact xs_fin [v3] [own iTy v3 L] (SI.tmp 2 SI.nil) (rr [0] []) rfl
structure Sq where
 p:Option Addr
 c:Nat
 xs:List Int
abbrev Sq.v(s:Sq):Value:=.slice s.p s.xs.length s.c
def SqT:Ty Sq:=⟨23,1,24,false,Sq.v,⟨none,0,[]⟩⟩
theorem SqT_ok:SqT.Ok Tryz.prog:=⟨Nat.one_pos,fun _=>rfl,fun x u hu=>by simp[Ty.enc,SqT,Value.cells]at hu;subst hu;rfl,fun _=>rfl,⟨_,Tryz.underlying23,rfl⟩,fun _=>rfl,⟨Tryz.t23,by kernel_rfl,by kernel_rfl,by kernel_rfl,by kernel_rfl⟩⟩
def cat(S:List Sq):List Int:=S.flatMap Sq.xs
theorem cat_take{S:List Sq}{i:Nat}{y:Sq}(h:S[i]?=some y):cat (S.take i)++y.xs=cat (S.take (i+1)):=by
 unfold cat;rw[List.take_add_one,h];simp[List.flatMap_append]
theorem cat_len{S:List Sq}(h:∀s∈S,s.xs.length≤1000000):∀i:Nat,(cat (S.take i)).length≤1000000*i
 | 0=>by simp[cat]
 | i+1=>by
  cases hy:S[i]? with
  | none=>
   have e:S.take (i+1)=S.take i:=by rw[List.take_add_one,hy];simp
   rw[e];have:=cat_len h i;omega
  | some y=>rw[←cat_take hy,List.length_append];have:=cat_len h i;have:=h y (List.mem_of_getElem? hy);omega
theorem grow_s{Z:Zone}(n:Int)(h0:0≤n)(h1:n≤1000000000):SF Tryz.prog 183 #[.slice none 0 0,iw n] Z [] fun r Bs=>Bs=[own iTy r []]:=by
 refine sf_enter Tryz.func183 27 [(0,(.slice none 0 0)),(1,iw n)] (fun w0=>?_);refine k_sr<|sP (.slice none 0 0)<|s_nt<|k_seq<|k_sr<|sP (iw n)<|sL (Lt.to t_cmp (cB (decide_eq_false om:(decide (n<0))=false)))<|s_nt<|k_false<|k_st<|k_seq<|k_sr<|sP (iw n)<|sP (.slice none 0 0)<|sL (t_kern (iw 0))<|sP (.slice none 0 0)<|sL (t_kern (iw 0))<|sP (iw 0)<|sL (t_sub n 0 ol)<|sP (iw (n-0))<|s_nr<|sP (iw (n-0))<|sL t_cmp<|s_nt<|k_cond (decide ((0:Int)<(n-0))) (fun c1=>?_) (fun c1=>?_)
 .have p2:=dY c1;refine k_reg<|sP2 (.slice none 0 0)<|sL (t_kern (iw 0))<|sL (t_pre iTy_ok Tryz.underlying23 .nil 0 0 om ol om)<|sP (iw (n-0))<|s_appendZ (y:=(n-0)) (((n-0)).toNat) iTy_ok Tryz.underlying23 Tryz.underlying3 om om (by show _*8≤_;omega) om (fun v3=>?_)
  refine sF 0 (fun hf4=>?_);refine sP (.slice none 0 0)<|sL (t_kern (iw 0))<|sL (t_pre iTy_ok Tryz.underlying23 (.own 0) 0 0 om ol om)<|sP (pre v3 0)<|s_nr<|sP2 (pre v3 0)<|s_nt<|k_ret ?_
  exact xs_fin [(pre v3 0)] [own iTy (pre v3 0) []] (SI.tmp 4 SI.nil) (fun _ h=>(Holds.pre (i:=0) h iTy_ok 0 rfl (Nat.zero_le _)).re [0] []) rfl
 have p5:=dF c1;refine k_st<|k_sr<|sP2 (.slice none 0 0)<|s_nt<|k_ret ?_
 exact xs_fin [(.slice none 0 0)] [own iTy (.slice none 0 0) []] (SI.tmp 4 SI.nil) (fun _ h=>h.nilS.re [0] []) rfl
theorem concat_s{Z:Zone}{sv:Value}{S:List Sq}(hS:Kn Z SqT sv S)(hE:∀s∈S,Kn Z iTy s.v s.xs)(hl:S.length≤100)(hB:∀s∈S,s.xs.length≤1000000):SF Tryz.prog 129 #[sv] Z [] fun r Bs=>Bs=[own iTy r (cat S)]:=by
 refine sf_enter Tryz.func129 36 [(0,sv)] (fun w0=>?_);refine k_sr<|sP (.slice none 0 0)<|s_nr<|sP (iw 0)<|s_nt<|k_seq<|k_sr<|sP sv<|sL (t_len SqT_ok Tryz.underlying218 (.zn hS))<|sP (iw 0)<|s_nt<|k_block<|k_loop (ι:=Int×Nat) (fun (sz,i)=>i≤S.length∧sz=((cat (S.take i)).length:Int)) (fun (sz,i)=>[(0,sv),(3,iw sz),(9,sv),(10,iw (S.length:Int)),(11,iw (i:Int))]) (fun (sz,i)=>[]) (fun (sz,i)=>S.length-i) (0,0) ⟨Nat.zero_le _,rfl⟩ sA (rr [] []) ?_
 rintro⟨sz,i⟩ hi1;replace hi1:i≤S.length∧sz=((cat (S.take i)).length:Int):=hi1;show SK _ _ _ _ _ [(0,sv),(3,iw sz),(9,sv),(10,iw (S.length:Int)),(11,iw (i:Int))] _ [];have hcl:=cat_len hB i;obtain⟨hj1,hj2⟩:=id hi1;refine k_sr<|sL t_cmp<|s_nt<|k_seq<|k_cond (decide ((i:Int)<(S.length:Int))) (fun c2=>?_) (fun c2=>?_)
 .have p3:=dY c2;refine k_st<|k_seq<|k_block<|k_sr<|sL (t_index SqT_ok Tryz.underlying218 (.zn hS) (i:Int) i om ol om) ?_
  obtain⟨y4,hy5⟩:∃y,S[i]?=some y:=⟨_,List.getElem?_eq_getElem ol⟩;have hb6:=hB y4 (List.mem_of_getElem? hy5);refine sL (t_loadE SqT_ok (.zn hS) hy5)<|sP y4.v<|s_nr<|sP (iw sz)<|sP y4.v<|sL (t_len iTy_ok Tryz.underlying23 (.zn (hE y4 (List.mem_of_getElem? hy5))))<|sL (t_add sz (y4.xs.length:Int) ol)<|sP (iw (sz+(y4.xs.length:Int)))<|s_nr<|sP (iw (sz+(y4.xs.length:Int)))<|sL (Lt.to t_cmp (cB (decide_eq_false om:(decide ((sz+(y4.xs.length:Int))<0))=false)))<|s_nt<|k_false<|k_skip<|xs_block<|xs_then<|k_reg<|sL (t_add (i:Int) 1 ol)<|sP (iw ((i:Int)+1))<|s_nil ?_
  exact xs_round ((sz+(y4.xs.length:Int)),i+1) (by show S.length-(i+1)<S.length-i;omega) (by obtain⟨hi1,hi2⟩:=hi1;refine⟨by omega,?_⟩;rw[←cat_take hy5,List.length_append];omega) sA (rr [] [])
 have p7:=dF c2;refine k_exit<|xs_exit<|xs_exit<|xs_here<|xs_then<|k_sr<|sP (iw sz)<|s_pcall (fun _ h=>grow_s sz om om) ?_
 rintro v8 _ rfl;refine sF 0 (fun hf9=>?_);refine sP v8<|s_nt<|k_seq<|k_sr<|sP sv<|sL (t_len SqT_ok Tryz.underlying218 (.zn hS))<|sP (iw 0)<|s_nt<|k_block<|k_mem (Bs:=[own iTy v8 (cat (S.take 0))]) (fun _ h=>h) ?_
 refine k_loop (ι:=Value×Nat) (fun (sx,k)=>k≤S.length) (fun (sx,k)=>[(6,sx),(25,sv),(26,iw (S.length:Int)),(27,iw (k:Int))]) (fun (sx,k)=>[own iTy sx (cat (S.take k))]) (fun (sx,k)=>S.length-k) (v8,0) (Nat.zero_le _) sA (rr [0] []) ?_;rintro⟨sx,k⟩ hi10;replace hi10:k≤S.length:=hi10;show SK _ _ _ _ _ [(6,sx),(25,sv),(26,iw (S.length:Int)),(27,iw (k:Int))] _ [own iTy sx (cat (S.take k))];have hcl:=cat_len hB k;refine k_sr<|sL t_cmp<|s_nt<|k_seq<|k_cond (decide ((k:Int)<(S.length:Int))) (fun c11=>?_) (fun c11=>?_)
 .have p12:=dY c11;refine k_st<|k_seq<|k_block<|k_sr<|sL (t_index SqT_ok Tryz.underlying218 (.zn hS) (k:Int) k om ol om) ?_
  obtain⟨y13,hy14⟩:∃y,S[k]?=some y:=⟨_,List.getElem?_eq_getElem ol⟩;have hb15:=hB y13 (List.mem_of_getElem? hy14);refine sL (t_loadE SqT_ok (.zn hS) hy14)<|sP y13.v<|s_nt<|k_reg<|sP sx<|sP y13.v<|s_append (L:=(cat (S.take k))) 0 iTy_ok Tryz.underlying23 (.zn (hE y13 (List.mem_of_getElem? hy14))) (by show _*8≤_;(try simp only[lnm]);omega) ol (fun v16=>?_)
  refine sF 0 (fun hf17=>?_);refine sP v16<|s_nil<|xs_block<|xs_then<|k_reg<|sL (t_add (k:Int) 1 ol)<|sP (iw ((k:Int)+1))<|s_nil ?_
  rw[cat_take hy14];exact xs_round (v16,k+1) (by show S.length-(k+1)<S.length-k;omega) (by show k+1≤S.length;omega) sA (rr [0] [])
 have p18:=dF c11;refine k_exit<|xs_exit<|xs_exit<|xs_here<|xs_then<|k_sr<|sP2 sx<|s_nt<|k_ret ?_
 exact xs_fin [sx] [own iTy sx (cat S)] (SI.tmp 2 SI.nil) (fun _ h=>by rw[List.take_of_length_le om]at h;exact h.re [0] []) rfl
theorem each_nil2{p:Sq→Prop}:∀x∈([]:List Sq),p x:=by simp
theorem each_cons2{p:Sq→Prop}{a:Sq}{r:List Sq}(h:p a)(hr:∀x∈r,p x):∀x∈a::r,p x:=by
 intro x hx;rcases List.mem_cons.1 hx with rfl|hx
 .exact h
 exact hr x hx
theorem cnew_s{Z:Zone}{hb:Nat}:SF Tryz.prog 26 #[.pointer (some ⟨hb,0,none⟩)] Z [] fun r Bs=>∃b q,r=.tuple #[.pointer (some ⟨b,0,none⟩),iw 0]∧Bs=[coA b q hb 0 c0 [] [] [] [] []]:=by
 refine sf_enter Tryz.func26 11 [(0,pB hb 0)] (fun w0=>?_);refine k_sr<|sP (.pointer none)<|sP (iw 0)<|s_nt<|k_seq<|k_sr<|sP (pB hb 0)<|sP (.bool false)<|s_nt<|k_false<|k_st<|k_sr<|s_pcall (fun _ h=>qnew_s) ?_
 rintro _ _ ⟨q1,rfl,rfl⟩;refine sP (pB hb 0)<|s_makeMap iK cV (fun b2=>?_)
 refine sL (t_kern (.agg #[pB q1 0,pB hb 0,iw 0,.map (some b2),(.slice none 0 0),(.slice none 0 0),(.slice none 0 0)]))<|s_box #[pB q1 0,pB hb 0,iw 0,.map (some b2),(.slice none 0 0),(.slice none 0 0),(.slice none 0 0)] (fun g3=>?_)
 refine sP (pB g3 0)<|sP (iw 0)<|s_nt<|k_ret<|xs_mem (fun _ h=>mc_shut Col.nil (h.re [1] [])) ?_
 refine xs_mem (fun _ h=>Holds.nilO (T:=iTy) h) ?_;refine xs_mem (fun _ h=>Holds.nilO (T:=iTy) h) ?_;refine xs_mem (fun _ h=>Holds.nilO (T:=iTy) h) ?_;refine xs_mem (fun _ h=>co_shut (c:=c0) (.inl rfl) (h.re [4,4,3,0,0,0] [])) ?_;exact xs_fin [.pointer (some ⟨g3,0,none⟩),iw 0] [coA g3 q1 hb 0 c0 ([]:List Int) ([]:List Int) ([]:List Int) [] []] (SI.tmp 2 (SI.tmp 3 SI.nil)) (rr [0] []) ⟨g3,q1,rfl,rfl⟩
theorem crefs_s{Z:Zone}{F:List Asr}{b q hb:Nat}{ph:Int}{m:Int→Int}{Q L Fr G P:List Int}{st:Hst}{x:Int}{n:Nat}(hsm:HSm n st)(hn:n≤300)(hW:HW st):SF Tryz.prog 66 #[.pointer (some ⟨b,0,none⟩),iw x] Z (coA b q hb ph m Q L Fr G P::hpA hb st::F) fun r Bs=>Bs=own iTy r (crf st x)::coA b q hb ph m Q L Fr G P::hpA hb st::F:=by
 refine sf_enter Tryz.func66 38 [(0,pB b 0),(1,iw x)] (fun w0=>?_);refine k_sr<|sP (.slice none 0 0)<|s_nr<|sP2 (pB b 0)<|sP (pB b 1)<|s_mem5 (fun H h=>co_open (h.re [0] [])) (fun mb1 qv2 lv3 fv4 cl5 hw=>?_)
 have hc6:=hw;refine sL (t_load 0 (pB hb 0))<|sP (iw x)<|s_call [6] (hobject_s (st:=st) hsm om hW x 0) ?_
 rintro _ _ ⟨rv7,ev8,rfl,rfl⟩;refine sF 0 (fun hf9=>?_);refine sF 1 (fun hf10=>?_);obtain⟨hrl,hel,hcl⟩:=crf_bound hsm hn x;refine sP (.tuple #[.agg #[iw (hoId st x),iw (hoSz st x),iw (hoWk st x 0),rv7,ev8],.bool (halive st x)])<|sP (.agg #[iw (hoId st x),iw (hoSz st x),iw (hoWk st x 0),rv7,ev8])<|sP (.bool (halive st x))<|s_alloc (.agg #[iw 0,iw 0,iw 0,(.slice none 0 0),(.slice none 0 0)]) #[iw 0,iw 0,iw 0,(.slice none 0 0),(.slice none 0 0)] (fun g11=>?_)
 refine s_store (u:=.agg #[iw (hoId st x),iw (hoSz st x),iw (hoWk st x 0),rv7,ev8]) (m:=5) 0 #[iw (hoId st x),iw (hoSz st x),iw (hoWk st x 0),rv7,ev8] ?_ (hm:=by (obtain⟨_,_,e⟩:=hf9;rw[e];obtain⟨_,_,e⟩:=hf10;rw[e];rfl)) (h1:=by (obtain⟨_,_,e⟩:=hf9;rw[e];obtain⟨_,_,e⟩:=hf10;rw[e];rfl)) (ha':=by (obtain⟨_,_,e⟩:=hf9;rw[e];obtain⟨_,_,e⟩:=hf10;rw[e];rfl));refine sP (.bool (halive st x))<|s_nr<|sP (pB g11 3)<|sL (t_load 0 rv7)<|s_pcall (fun _ h=>clone_s (Acc.kn (.own 1) h) ol) ?_
 rintro v12 _ rfl;refine sF 0 (fun hf13=>?_);refine sP v12<|s_nt<|k_seq<|k_sr<|sP (pB g11 4)<|sL (t_load 1 ev8)<|sL (t_len EntT_ok Tryz.underlying98 (.own 3))<|sP (iw 0)<|s_nt<|k_block<|k_mem (fun _ h=>co_shut (c:=m) hc6 (h.re [5,5,5,5,5,5] [])) ?_
 refine k_mem (Bs:=coA b q hb ph m Q L Fr G P::own iTy v12 (hrefs st x++((hents st x).take 0).flatMap allE)::blkA g11 #[iw (hoId st x),iw (hoSz st x),iw (hoWk st x 0),rv7,ev8] 100::own iTy rv7 (hrefs st x)::own EntT ev8 (hents st x)::hpA hb st::F) (fun _ h=>by rw[show hrefs st x++((hents st x).take 0).flatMap allE=hrefs st x from List.append_nil _];exact h) ?_;refine k_loop (ι:=Value×Nat) (fun (sx,i)=>i≤(hents st x).length) (fun (sx,i)=>[(7,sx),(23,ev8),(24,iw ((hents st x).length:Int)),(25,iw (i:Int))]) (fun (sx,i)=>coA b q hb ph m Q L Fr G P::own iTy sx (hrefs st x++((hents st x).take i).flatMap allE)::blkA g11 #[iw (hoId st x),iw (hoSz st x),iw (hoWk st x 0),rv7,ev8] 100::own iTy rv7 (hrefs st x)::own EntT ev8 (hents st x)::hpA hb st::F) (fun (sx,i)=>(hents st x).length-i) (v12,0) (Nat.zero_le _) sA (rr [0,0,0,0,0,0] []) ?_;rintro⟨sx,i⟩ hi14;replace hi14:i≤(hents st x).length:=hi14;show SK _ _ _ _ _ [(7,sx),(23,ev8),(24,iw ((hents st x).length:Int)),(25,iw (i:Int))] _ (coA b q hb ph m Q L Fr G P::own iTy sx (hrefs st x++((hents st x).take i).flatMap allE)::blkA g11 #[iw (hoId st x),iw (hoSz st x),iw (hoWk st x 0),rv7,ev8] 100::own iTy rv7 (hrefs st x)::own EntT ev8 (hents st x)::hpA hb st::F);have hfl:=ent_len ((hents st x).take i);rw[List.length_take]at hfl;refine k_sr<|sL t_cmp<|s_nt<|k_seq<|k_cond (decide ((i:Int)<((hents st x).length:Int))) (fun c15=>?_) (fun c15=>?_)
 .have p16:=dY c15;refine k_st<|k_seq<|k_block<|k_sr<|sL (t_index EntT_ok Tryz.underlying98 (.own 4) (i:Int) i om ol om) ?_
  obtain⟨y17,hy18⟩:∃y,(hents st x)[i]?=some y:=⟨_,List.getElem?_eq_getElem ol⟩;refine sL (t_loadE EntT_ok (.own 4) hy18)<|s_alloc (.agg #[iw 0,iw 0]) #[iw 0,iw 0] (fun g19=>?_)
  refine s_store 0 #[iw y17.key,iw y17.val] ?_;refine s_nt<|k_reg<|sP sx<|sP (pB g19 0)<|sL (t_load 0 (iw y17.key))<|sP (pB g19 1)<|sL (t_load 0 (iw y17.val))<|s_buildSlice (e:=3) [(0,iw y17.key),(1,iw y17.val)] #[iw y17.key,iw y17.val] (fun g20=>?_) (hb:=by kernel_rfl)
  refine s_append (L:=(hrefs st x++((hents st x).take i).flatMap allE)) 3 iTy_ok Tryz.underlying23 (.lit 0 iTy_ok [y17.key,y17.val]) (by show _*8≤_;(try simp only[lnm]);omega) ol (fun v21=>?_);refine sF 3 (fun hf22=>?_);refine sP v21<|s_nil<|xs_block<|xs_then<|k_reg<|sL (t_add (i:Int) 1 ol)<|sP (iw ((i:Int)+1))<|s_nil ?_
  rw[List.append_assoc,ent_take hy18];exact xs_round (v21,i+1) (by show (hents st x).length-(i+1)<(hents st x).length-i;omega) (by show i+1≤(hents st x).length;omega) sA (rr [2,2,2,2,2,2] [6,6])
 have p23:=dF c15;refine k_exit<|xs_exit<|xs_exit<|xs_here<|xs_then<|k_sr<|sP2 sx<|s_nt<|k_ret ?_
 exact xs_fin [sx] (own iTy sx (crf st x)::coA b q hb ph m Q L Fr G P::hpA hb st::F) (SI.tmp 4 SI.nil) (fun _ h=>by rw[List.take_of_length_le om]at h;exact h.re [1,0,3] [3,3,3]) rfl
theorem call_s{Z:Zone}{F:List Asr}{b q hb:Nat}{ph:Int}{m:Int→Int}{Q L Fr G P:List Int}{rv:Value}{R:List Int}(hR:R.length≤100000)(hG:G.length+P.length≤80000):SF Tryz.prog 67 #[.pointer (some ⟨b,0,none⟩),rv] Z (own iTy rv R::coA b q hb ph m Q L Fr G P::F) fun r Bs=>Bs=own iTy r (R++(G++P))::own iTy rv R::coA b q hb ph m Q L Fr G P::F:=by
 refine sf_enter Tryz.func67 18 [(0,pB b 0),(1,rv)] (fun w0=>?_);refine k_fact (fun H h=>((Acc.own (T:=iTy) (L:=R) 0 rfl) H h).form) (fun hf=>?_);obtain⟨pp,cc,e⟩:=hf;subst e;refine k_sr<|sP (.slice none 0 0)<|s_nt<|k_seq<|k_mem5 (fun H h=>co_open (h.re [1] [])) (fun mb1 qv2 lv3 fv4 cl5 hw=>?_)
 have hc6:=hw;refine k_held [blkA b #[pB q 0,pB hb 0,iw ph,.map (some mb1),qv2,lv3,fv4] 91,own iTy (.slice pp R.length cc) R] ?_;refine hp_ 0 [0,5] (.slice pp R.length cc) ?_;refine hp_ 1 [0,5] (pB b 0) ?_;refine hp_ 2 [0,5] (pB b 0) ?_;refine hp_ 3 [0,5] (pB b 0) ?_;refine h_l 4 rfl [0,5] (fun _=>(t_load 0 (pB q 0))) ?_;refine hp_ 6 [0,5] (pB b 0) ?_;refine hp_ 7 [0,5] (pB b 0) ?_;refine hp_ 8 [0,5] (pB b 0) ?_;refine h_l 9 rfl [0,5] (fun _=>(t_load 0 (pB q 0))) ?_;refine h_stepS 5 ?_;refine s_call [1] (registered_s (reg:=G) ol) ?_;rintro v7 _ rfl;refine sF 0 (fun hf8=>?_);refine nH [2,6]<|h_stepS 10 ?_
 refine s_call [1] (pending_s (pend:=P) ol) ?_;rintro v9 _ rfl;refine sF 0 (fun hf10=>?_);refine nH [3,7]<|h_stepS 11 ?_
 obtain⟨pp11,cc12,e⟩:=hf8;subst e;obtain⟨pp13,cc14,e⟩:=hf10;subst e;refine s_buildSlice (e:=23) [(0,(.slice pp R.length cc)),(1,(.slice pp11 G.length cc12)),(2,(.slice pp13 P.length cc14))] #[(.slice pp R.length cc),(.slice pp11 G.length cc12),(.slice pp13 P.length cc14)] (fun g15=>?_) (hb:=by kernel_rfl);refine nH [4,8]<|h_stepS 12 ?_
 refine s_pcall (fun _ h=>concat_s (S:=[⟨pp,cc,R⟩,⟨pp11,cc12,G⟩,⟨pp13,cc14,P⟩]) (Acc.kn (T:=SqT) (Acc.lit 0 SqT_ok [⟨pp,cc,R⟩,⟨pp11,cc12,G⟩,⟨pp13,cc14,P⟩]) h) (each_cons2 (Acc.kn (T:=iTy) (.own 9) h) (each_cons2 (Acc.kn (T:=iTy) (.own 3) h) (each_cons2 (Acc.kn (T:=iTy) (.own 1) h) each_nil2))) (by show 3≤100;decide) (each_cons2 (by show R.length≤_;(try simp only[lnm]);omega) (each_cons2 (by show G.length≤_;(try simp only[lnm]);omega) (each_cons2 (by show P.length≤_;(try simp only[lnm]);omega) each_nil2)))) ?_;rintro v16 _ rfl;have hcat:cat [⟨pp,cc,R⟩,⟨pp11,cc12,G⟩,⟨pp13,cc14,P⟩]=(R++(G++(P))):=by simp[cat]
 refine s_mem (Bs:=own iTy v16 (R++(G++(P)))::blkA g15 #[(.slice pp R.length cc),(.slice pp11 G.length cc12),(.slice pp13 P.length cc14)] 23::own iTy (.slice pp13 P.length cc14) P::qA q G P::own iTy (.slice pp11 G.length cc12) G::blkA b #[pB q 0,pB hb 0,iw ph,.map (some mb1),qv2,lv3,fv4] 91::mcA mb1 cl5::ownO iTy qv2 Q::ownO iTy lv3 L::ownO iTy fv4 Fr::own iTy (.slice pp R.length cc) R::F) (fun _ h=>by rw[hcat]at h;exact h) ?_;refine sF 0 (fun hf17=>?_);refine nH [5,9]<|hp_ 13 [5,9] v16 ?_
 refine h_doneS ?_;refine xs_then<|k_ret<|xs_mem (fun _ h=>co_shut (c:=m) hc6 (h.re [5,3,4,4,4,4] [])) ?_
 exact xs_fin [v16] (own iTy v16 (R++(G++P))::own iTy (.slice pp R.length cc) R::coA b q hb ph m Q L Fr G P::F) (SI.tmp 4 SI.nil) (rr [1,4,0] [3,3,3]) rfl
theorem crooted_s{Z:Zone}{F:List Asr}{b q hb:Nat}{m:Int→Int}{Q L Fr G P:List Int}{st:Hst}{rv:Value}{R:List Int}(hR:R.length≤10000)(hG:G.length+P.length≤10000)(hQ:Q.length≤100000):SF Tryz.prog 108 #[.pointer (some ⟨b,0,none⟩),rv] Z (own iTy rv R::coA b q hb 1 m Q L Fr G P::hpA hb st::F) fun r Bs=>r=.tuple #[]∧Bs=own iTy rv R::coA b q hb 1 ((rchA st (m,Q) (R++(G++P))).1) ((rchA st (m,Q) (R++(G++P))).2) L Fr G P::hpA hb st::F:=by
 refine sf_enter Tryz.func108 18 [(0,pB b 0),(1,rv)] (fun w0=>?_);refine k_sr<|sP (pB b 0)<|sP rv<|s_call [0,0] (call_s (R:=R) (G:=G) (P:=P) om om) ?_
 rintro v1 _ rfl;refine sF 0 (fun hf2=>?_);refine sL (t_len iTy_ok Tryz.underlying23 (.own 0))<|sP (iw 0)<|s_nt<|k_block ?_
 have hRl:(R++(G++P)).length=R.length+(G.length+P.length):=by rw[List.length_append,List.length_append]
 refine k_mem (Bs:=own iTy v1 (R++(G++P))::own iTy rv R::coA b q hb 1 ((rchA st (m,Q) ((R++(G++P)).take 0)).1) ((rchA st (m,Q) ((R++(G++P)).take 0)).2) L Fr G P::hpA hb st::F) (fun _ h=>h) ?_;refine k_loop (ι:=Nat) (fun i=>i≤(R++(G++P)).length) (fun i=>[(0,pB b 0),(8,v1),(9,iw ((R++(G++P)).length:Int)),(10,iw (i:Int))]) (fun i=>own iTy v1 (R++(G++P))::own iTy rv R::coA b q hb 1 ((rchA st (m,Q) ((R++(G++P)).take i)).1) ((rchA st (m,Q) ((R++(G++P)).take i)).2) L Fr G P::hpA hb st::F) (fun i=>(R++(G++P)).length-i) 0 (Nat.zero_le _) sA (rr [0,0,0,0] []) ?_;rintro i hi3;show SK _ _ _ _ _ [(0,.pointer (some ⟨b,0,none⟩)),(8,v1),(9,iw ((R++(G++P)).length:Int)),(10,iw (i:Int))] _ (own iTy v1 (R++(G++P))::own iTy rv R::coA b q hb 1 ((rchA st (m,Q) ((R++(G++P)).take i)).1) ((rchA st (m,Q) ((R++(G++P)).take i)).2) L Fr G P::hpA hb st::F);have hql:=rchA_len st ((R++(G++P)).take i) (m,Q);rw[List.length_take]at hql;dsimp only at hql;refine k_sr<|sL t_cmp<|s_nt<|k_seq<|k_cond (decide ((i:Int)<((R++(G++P)).length:Int))) (fun c4=>?_) (fun c4=>?_)
 .have p5:=dY c4;refine k_st<|k_seq<|k_block<|k_sr<|sL (t_index iTy_ok Tryz.underlying23 (.own 0) (i:Int) i om ol om) ?_
  obtain⟨y6,hy7⟩:∃y,(R++(G++P))[i]?=some y:=⟨_,List.getElem?_eq_getElem ol⟩;refine sL (t_loadE iTy_ok (.own 0) hy7)<|sP (iw y6)<|s_nt<|k_reg<|sP (pB b 0)<|sP (iw y6)<|sC [2,2] (creach_s (Q:=(rchA st (m,Q) ((R++(G++P)).take i)).2) om y6) ?_
  refine s_nil<|xs_block<|xs_then<|k_reg<|sL (t_add (i:Int) 1 ol)<|sP (iw ((i:Int)+1))<|s_nil<|xs_mem (Bs:=coA b q hb 1 ((rchA st (m,Q) ((R++(G++P)).take (i+1))).1) ((rchA st (m,Q) ((R++(G++P)).take (i+1))).2) L Fr G P::hpA hb st::own iTy v1 (R++(G++P))::own iTy rv R::F) (fun _ h=>by rw[rchA_take hy7];exact h) ?_
  exact xs_round (i+1) (by show (R++(G++P)).length-(i+1)<(R++(G++P)).length-i;omega) om sA (rr [2,2,0,0] [])
 have p8:=dF c4;refine k_exit ?_;obtain rfl:i=(R++(G++P)).length:=by omega
 rw[List.take_length];refine xs_exit<|xs_exit<|xs_here ?_
 exact xs_finN [] (own iTy rv R::coA b q hb 1 ((rchA st (m,Q) (R++(G++P))).1) ((rchA st (m,Q) (R++(G++P))).2) L Fr G P::hpA hb st::F) SI.nil (rr [1,1,1] [3]) ⟨rfl,rfl⟩
theorem cbegin_s{Z:Zone}{F:List Asr}{b q hb:Nat}{m:Int→Int}{L Fr G P:List Int}{st:Hst}{rv:Value}{R:List Int}(hR:R.length≤10000)(hG:G.length+P.length≤10000):SF Tryz.prog 47 #[.pointer (some ⟨b,0,none⟩),rv] Z (own iTy rv R::coA b q hb 0 m [] L Fr G P::hpA hb st::F) fun r Bs=>r=.tuple #[]∧Bs=own iTy rv R::coA b q hb 1 ((rchA st (c0,[]) (R++(G++P))).1) ((rchA st (c0,[]) (R++(G++P))).2) L Fr G P::hpA hb st::F:=by
 refine sf_enter Tryz.func47 17 [(0,pB b 0),(1,rv)] (fun w0=>?_);refine k_sr<|sP (pB b 0)<|s_makeMap iK cV (fun b1=>?_)
 refine sP (pB b 0)<|sP (pB b 3)<|s_mem5 (fun H h=>co_open (h.re [2] [])) (fun mb2 qv3 lv4 fv5 cl6 hw=>?_)
 have hc7:=hw;refine s_store 0 #[pB q 0,pB hb 0,iw 0,.map (some b1),qv3,lv4,fv5] ?_;refine s_nr<|sP2 (pB b 0)<|sP (pB b 4)<|s_store 0 #[pB q 0,pB hb 0,iw 0,.map (some b1),(.slice none 0 0),lv4,fv5] ?_
 refine s_nr<|sP2 (pB b 0)<|sP (pB b 2)<|s_store 0 #[pB q 0,pB hb 0,iw 1,.map (some b1),(.slice none 0 0),lv4,fv5] ?_
 refine s_nt<|k_reg<|sP (pB b 0)<|sP rv<|s_mem (fun _ h=>mc_shut Col.nil (h.re [6] [])) ?_
 refine s_mem (fun _ h=>Holds.nilO (T:=iTy) h) ?_;refine s_mem (fun _ h=>co_shut (c:=c0) (.inr rfl) (h.re [2,2,1,0,2,2] [])) ?_;refine sC [3,0,2] (crooted_s (R:=R) (G:=G) (P:=P) (Q:=([]:List Int)) (m:=c0) om om (by first|omega|simp)) ?_;refine s_nil ?_;exact xs_finN [] (own iTy rv R::coA b q hb 1 ((rchA st (c0,([]:List Int)) (R++(G++P))).1) ((rchA st (c0,([]:List Int)) (R++(G++P))).2) L Fr G P::hpA hb st::F) SI.nil (rr [0,0,0] [3,3]) ⟨rfl,rfl⟩
end Go.Proofs.YtmhpcebiamkciaaGreat
end
section
set_option linter.unusedSimpArgs false
set_option linter.unusedVariables false
namespace Go.Proofs.YtmhpcebiamkciaaGreat
variable{st:Hst}{R:List Int}{s:Cst}{k N:Nat}{x:Int}{L:List Int}
def mks(st:Hst)(R:List Int)(s:Cst):Cst:=if (setl st R s).ph=1 then mrk st (setl st R s) else setl st R s
def addw(n:Nat)(t:Hst×Cst×Nat):Hst×Cst×Nat:=(t.1,t.2.1,t.2.2+n)
theorem setl_two(h:s.ph≠1):setl st R s=s:=by unfold setl;rw[if_neg fun q=>h q.1]
theorem setl_ne(h:s.Q≠[]):setl st R s=s:=by unfold setl;rw[if_neg fun q=>h q.2]
theorem wrk_succ(h:s.ph≠0):wrk (k+1) st R s=if (itr st R s).2.2=true then addw 1 (wrk k (itr st R s).1 R (itr st R s).2.1) else ((itr st R s).1,(itr st R s).2.1,0):=by
 rw[wrk,if_neg h];rfl
theorem setl_ph(h:s.ph=1):(setl st R s).ph=1∨(setl st R s).ph=2:=by
 unfold setl;split
 .split
  .exact .inr rfl
  exact .inl h
 exact .inl h
theorem setl_idem:setl st R (setl st R s)=setl st R s:=by
 by_cases h:s.ph=1∧s.Q=[]
 .have e:setl st R s=if (rchA st (s.col,[]) (s.rts R)).2=[] then { s with ph:=2,col:=(rchA st (s.col,[]) (s.rts R)).1,L:=hids st } else { s with col:=(rchA st (s.col,[]) (s.rts R)).1,Q:=(rchA st (s.col,[]) (s.rts R)).2 }:=by
   unfold setl;rw[if_pos h]
  by_cases q:(rchA st (s.col,[]) (s.rts R)).2=[]
  .rw [if_pos q]at e;have:(setl st R s).ph≠1:=by rw[e];show (2:Int)≠1;decide
   exact setl_two this
  rw[if_neg q]at e;have hq:(setl st R s).Q≠[]:=by rw[e];exact q
  exact setl_ne hq
 have:setl st R s=s:=by unfold setl;rw[if_neg h]
 rw[this,this]
theorem wrk_mark(h1:s.ph=1)(h2:(setl st R s).ph=1):wrk (k+1) st R s=addw 1 (wrk k st R (mks st R s)):=by
 have e:itr st R s=(st,mks st R s,true):=by unfold itr mks;rw[if_pos h2,if_pos h2]
 rw[wrk_succ om,e];rfl
theorem wrk_turn(h1:s.ph=1)(h2:(setl st R s).ph≠1):wrk (k+1) st R s=wrk (k+1) st R (mks st R s):=by
 have e1:mks st R s=setl st R s:=by unfold mks;rw[if_neg h2]
 have e2:itr st R (setl st R s)=itr st R s:=by unfold itr;rw[setl_idem]
 have h3:=setl_ph (st:=st) (R:=R) h1;rw[e1,wrk_succ om,wrk_succ (s:=setl st R s) om,e2]
theorem wrk_sweep(h1:s.ph=2)(h2:s.L≠[]):wrk (k+1) st R s=addw 1 (wrk k (swp st s).1 R (cfin (swp st s).2)):=by
 have h3:=setl_two (st:=st) (R:=R) (s:=s) om;have e:itr st R s=((swp st s).1,cfin (swp st s).2,true):=by unfold itr;rw[h3,if_neg om,if_neg h2]
 rw[wrk_succ om,e];rfl
theorem wrk_end(h:s.ph=0):wrk k st R s=(st,s,0):=by
 cases k with
 | zero=>rfl
 | succ k=>rw[wrk,if_pos h]
theorem cfin_nil(h:s.L=[]):cfin s={ s with ph:=0 }:=if_pos h
theorem cfin_cons(h:s.L≠[]):cfin s=s:=if_neg h
theorem wrk_none(h1:s.ph=2)(h2:s.L=[]):wrk (k+1) st R s=wrk k st R (cfin s):=by
 have h3:=setl_two (st:=st) (R:=R) (s:=s) om;have e:itr st R s=(st,cfin s,false):=by unfold itr;rw[h3,if_neg om,if_pos h2]
 rw[wrk_end (s:=cfin s) (by rw[cfin_nil h2]),wrk_succ om,e];rfl
theorem addw_add(a b:Nat)(t:Hst×Cst×Nat):addw a (addw b t)=addw (a+b) t:=by
 unfold addw;simp only[Prod.mk.injEq,true_and];omega
/-! ### What every state keeps -/
theorem swp_white(h:s.L=x::L)(hw:s.col x=0):swp st s=(hdrop st x,{ s with L:=L,Fr:=s.Fr++[x] }):=by unfold swp;rw[h];exact if_pos hw
theorem swp_black(h:s.L=x::L)(hw:s.col x≠0):swp st s=(st,{ s with L:=L,col:=cset s.col x 0 }):=by unfold swp;rw[h];exact if_neg hw
theorem halive_drop(st:Hst)(x y:Int):halive (hdrop st x) y=if y=x then false else halive st y:=by
 unfold halive;rw[get_drop];split<;>rfl
theorem asc_same{A B:List Int}(hA:A.Pairwise (· < ·))(hB:B.Pairwise (· < ·))(hm:∀x,x∈A↔x∈B):A=B:=by
 rw[←srt_asc' hA,←srt_asc' hB];exact srt_perm' (perm_of_mem (asc_nodup hA) (asc_nodup hB) hm)
theorem hids_drop(st:Hst)(x:Int):hids (hdrop st x)=(hids st).filter fun y=>!decide (y=x):=by
 refine asc_same (hids_asc _) ((hids_asc st).filter _) fun y=>?_
 rw[mem_hids,List.mem_filter,mem_hids,halive_drop];by_cases e:y=x<;>simp[e]
theorem hids_drop_len(h:halive st x=true):(hids (hdrop st x)).length+1≤(hids st).length:=by
 rw[hids_drop];have hm:=mem_hids.2 h;have:∀l:List Int,x∈l→(l.filter fun y=>!decide (y=x)).length+1≤l.length:=by
  intro l;induction l with
  | nil=>intro h;cases h
  | cons a r ih=>
   intro h;rw[List.filter_cons];by_cases e:a=x
   .subst e;have:=List.length_filter_le (fun y=>!decide (y=a)) r;simp;omega
   have:=ih ((List.mem_cons.1 h).resolve_left fun q=>e q.symm);simp[e];omega
 exact this _ hm
theorem drop_sm'{n:Nat}(h:HSm n st)(x:Int):HSm n (hdrop st x):=⟨by rw[drop_len.1];exact h.len,fun o ho=>h.obs o (mem_drop ho)⟩
theorem CI.bgn(h:CI N st s)(h0:s.ph=0)(R:List Int):CI N st (bgn st R s) where
 ph:=.inr (.inl rfl)
 q _:=(QI.nil st c0).rchA _
 q0 e:=absurd rfl e
 l e:=by exact absurd e (show (1:Int)≠2 by decide)
 l0 _:=h.l0 om
 fr:=h.fr
 gp:=h.gp
 sm:=h.sm
 w:=h.w
 i:=h.i
theorem hids_nodup(st:Hst):(hids st).Nodup:=asc_nodup (hids_asc st)
theorem CI.setl(h:CI N st s)(h1:s.ph=1)(R:List Int):CI N st (setl st R s):=by
 by_cases q:s.ph=1∧s.Q=[]
 .have hq:=(QI.nil st s.col).rchA (s.rts R);unfold Go.Proofs.YtmhpcebiamkciaaGreat.setl;rw[if_pos q];by_cases e:(rchA st (s.col,[]) (s.rts R)).2=[]
  .rw [if_pos e];exact⟨.inr (.inr rfl),fun e=>absurd e (show (2:Int)≠1 by decide),fun _=>q.2,fun _=>⟨hids_nodup st,fun x hx=>mem_hids.1 hx⟩,fun e=>absurd rfl e,h.fr,h.gp,h.sm,h.w,h.i⟩
  rw[if_neg e];exact⟨.inr (.inl h1),fun _=>hq,fun e=>absurd h1 e,fun e=>by have:s.ph=2:=e;omega,fun _=>h.l0 om,h.fr,h.gp,h.sm,h.w,h.i⟩
 have:Go.Proofs.YtmhpcebiamkciaaGreat.setl st R s=s:=by unfold Go.Proofs.YtmhpcebiamkciaaGreat.setl;rw[if_neg q]
 rw[this];exact h
theorem QI.pop{c:Int→Int}{Q:List Int}(h:QI st c (x::Q)):QI st c Q:=⟨(List.nodup_cons.1 h.1).2,fun y hy=>h.2 y (List.mem_cons_of_mem _ hy)⟩
theorem QI.black {c : Int → Int} {Q : List Int} (h : QI st c Q) (x : Int) : QI st (cset c x 2) Q := ⟨h.1, fun y hy => ⟨(h.2 y hy).1, by
  unfold cset; split
  · decide
  · exact (h.2 y hy).2⟩⟩
theorem CI.mrk(h:CI N st s)(h1:s.ph=1):CI N st (mrk st s):=by
 unfold Go.Proofs.YtmhpcebiamkciaaGreat.mrk;have hq:=h.q h1;split
 .rename_i x Q e;rw[e]at hq;exact⟨h.ph,fun _=>(hq.pop.rchA _).black x,fun q=>absurd h1 q,fun q=>by have:s.ph=2:=q;omega,h.l0,h.fr,h.gp,h.sm,h.w,h.i⟩
 exact h
theorem CI.mks(h:CI N st s)(h1:s.ph=1)(R:List Int):CI N st (mks st R s):=by
 unfold Go.Proofs.YtmhpcebiamkciaaGreat.mks;split
 .rename_i q;exact (h.setl h1 R).mrk q
 exact h.setl h1 R
theorem CI.swp(h:CI N st s)(h2:s.ph=2)(hL:s.L=x::L):CI N (swp st s).1 (swp st s).2:=by
 obtain⟨hn,ha⟩:=h.l h2;rw[hL]at hn ha;rw[List.nodup_cons]at hn;have hx:=ha x (by simp);by_cases e:s.col x=0
 .rw [swp_white hL e];have hl:=hids_drop_len hx;have hf:=h.fr;refine⟨.inr (.inr h2),fun q=>by have:s.ph=1:=q;omega,h.q0,fun _=>⟨hn.2,fun y hy=>?_⟩,fun q=>absurd h2 q,?_,h.gp,drop_sm' h.sm x,drop_w h.w x,drop_inv h.i x⟩
  .show halive (hdrop st x) y=true;rw[halive_drop,if_neg fun q=>hn.1 (by rw[←q];exact hy)];exact ha y (List.mem_cons_of_mem _ hy)
  show (s.Fr++[x]).length+(hids (hdrop st x)).length≤N;rw[List.length_append,List.length_singleton];omega
 rw[swp_black hL e];exact⟨.inr (.inr h2),fun q=>by have:s.ph=1:=q;omega,h.q0,fun _=>⟨hn.2,fun y hy=>ha y (List.mem_cons_of_mem _ hy)⟩,fun q=>absurd h2 q,h.fr,h.gp,h.sm,h.w,h.i⟩
theorem CI.fin(h:CI N st s)(h2:s.ph=2):CI N st (cfin s):=by
 by_cases e:s.L=[]
 .rw [cfin_nil e];exact⟨.inl rfl,fun q=>absurd q (show (0:Int)≠1 by decide),fun _=>h.q0 om,fun q=>absurd q (show (0:Int)≠2 by decide),fun _=>e,h.fr,h.gp,h.sm,h.w,h.i⟩
 rw[cfin_cons e];exact h
theorem swp_ph(h:s.ph=2):(swp st s).2.ph=2:=by
 unfold swp;split
 .split<;>exact h
 exact h
theorem work_eq{u:Int}{t:Hst×Cst×Nat}(hu:¬u≤0)(h:wrk u.toNat st R (if s.ph=0 then bgn st R s else s)=t):work u.toNat st R s=t:=by
 unfold work;rw[if_neg om];exact h
theorem work_zero{u:Int}(hu:u≤0):work u.toNat st R s=(st,s,0):=by
 unfold work;rw[if_pos om]
def wtp(ph:Int):Nat:=if ph=1 then 2 else if ph=0 then 0 else 1
theorem wtp1{p:Int}(h:p=1):wtp p=2:=if_pos h
theorem wtp2{p:Int}(h:p=2):wtp p=1:=by unfold wtp;rw[if_neg om,if_neg om]
theorem wtp0{p:Int}(h:p=0):wtp p=0:=by unfold wtp;rw[if_neg om,if_pos h]
theorem wtp_le(p:Int):wtp p≤2:=by unfold wtp;split<;>(try split)<;>omega
end Go.Proofs.YtmhpcebiamkciaaGreat
end
section
set_option linter.unusedSimpArgs false
set_option linter.unusedVariables false
set_option maxRecDepth 100000
set_option maxHeartbeats 2000000
namespace Go.Proofs.YtmhpcebiamkciaaGreat
open Go.Hp Go.J Go.S
open Go.Mem (Ty KTy blk elemAt pre suf blk_pre blk_suf aget aset strK aggDesc)
open Go.Mem (adel apos aget_aset aget_adel)
theorem cmark1_s{Z:Zone}{F:List Asr}{b q hb:Nat}{m:Int→Int}{Q L Fr G P:List Int}{st:Hst}{x:Int}{rv:Value}{R:List Int}(hQ:Q.length≤100000){n:Nat}(hsm:HSm n st)(hn:n≤300)(hW:HW st):SF Tryz.prog 48 #[.pointer (some ⟨b,0,none⟩),rv] Z (own iTy rv R::coA b q hb 1 m (x::Q) L Fr G P::hpA hb st::F) fun r Bs=>r=.bool true∧Bs=own iTy rv R::coA b q hb 1 (cset (rchA st (m,Q) (crf st x)).1 x 2) ((rchA st (m,Q) (crf st x)).2) L Fr G P::hpA hb st::F:=by
 refine sf_enter Tryz.func48 65 [(0,pB b 0),(1,rv)] (fun w0=>?_);refine k_sr<|sP (.bool false)<|s_nt<|k_seq<|k_sr<|sP2 (pB b 0)<|sP (pB b 4)<|s_mem4 (fun H h=>co_open1 (show (1:Int)≠0 by decide) (h.re [1] [])) (fun mb1 qv2 lv3 fv4 hw=>?_)
 refine sL (t_load 0 qv2)<|sL (t_len iTy_ok Tryz.underlying23 (.ownO 3))<|sL (Lt.to t_cmp (cB (decide_eq_false (by simp;omega):(decide (((x::Q).length:Int)=0))=false)))<|s_nt<|k_false<|k_st<|k_seq<|k_sr<|sP2 (pB b 0)<|sP (pB b 4)<|sL (t_load 0 qv2)<|sL (t_len iTy_ok Tryz.underlying23 (.ownO 3))<|sL (Lt.to t_cmp (cB (decide_eq_false (by simp;omega):(decide (((x::Q).length:Int)=0))=false)))<|s_nt<|k_false<|k_st<|k_sr<|sP2 (pB b 0)<|sP (pB b 4)<|sL (t_load 0 qv2)<|sL (t_index iTy_ok Tryz.underlying23 (.ownO 3) 0 0 om ol om)<|sL (t_loadE iTy_ok (.ownO 3) (show ((x::Q))[0]?=some x from rfl))<|sP (iw x)<|s_nr<|sP3 (pB b 0)<|sP (pB b 4)<|sL (t_load 0 qv2) ?_
 refine sL (t_suf iTy_ok Tryz.underlying23 (.ownO 3) 1 1 om ol om)<|sP (pB b 0)<|sP (pB b 4)<|s_mem (fun _ h=>Holds.sufO (i:=3) h iTy_ok 1 rfl ol) ?_
 refine s_fact (fun H h=>((Acc.ownO (T:=iTy) (L:=((x::Q).drop 1)) 3 rfl) H h).form) (fun hf5=>?_);refine s_store (u:=(suf iTy.size qv2 1)) (m:=1) 0 #[pB q 0,pB hb 0,iw 1,.map (some mb1),(suf iTy.size qv2 1),lv3,fv4] ?_ (hm:=by (obtain⟨_,_,e⟩:=hf5;rw[e];rfl)) (h1:=by (obtain⟨_,_,e⟩:=hf5;rw[e];rfl)) (ha':=by (obtain⟨_,_,e⟩:=hf5;rw[e];rfl));refine s_nt<|k_seq<|k_sr<|sP (pB b 0)<|sP (iw x)<|s_mem (fun _ h=>co_shut (c:=m) (.inr rfl) (h.re [0,0,0,0,0,0] [])) ?_
 refine s_call [0,1] (crefs_s (x:=x) hsm hn hW) ?_;rintro v6 _ rfl;refine sF 0 (fun hf7=>?_);refine sL (t_len iTy_ok Tryz.underlying23 (.own 0))<|sP (iw 0)<|s_nt<|k_block<|k_mem (Bs:=own iTy v6 (crf st x)::coA b q hb 1 ((rchA st (m,Q) ((crf st x).take 0)).1) ((rchA st (m,Q) ((crf st x).take 0)).2) L Fr G P::hpA hb st::own iTy rv R::F) (fun _ h=>h) ?_
 obtain⟨_,_,hcl⟩:=crf_bound hsm hn x;refine k_loop (ι:=Nat) (fun i=>i≤(crf st x).length) (fun i=>[(0,pB b 0),(5,iw x),(50,v6),(51,iw ((crf st x).length:Int)),(52,iw (i:Int))]) (fun i=>own iTy v6 (crf st x)::coA b q hb 1 ((rchA st (m,Q) ((crf st x).take i)).1) ((rchA st (m,Q) ((crf st x).take i)).2) L Fr G P::hpA hb st::own iTy rv R::F) (fun i=>(crf st x).length-i) 0 (Nat.zero_le _) sA (rr [0,0,0,0] []) ?_;rintro i hi8;show SK _ _ _ _ _ [(0,.pointer (some ⟨b,0,none⟩)),(5,iw x),(50,v6),(51,iw ((crf st x).length:Int)),(52,iw (i:Int))] _ (own iTy v6 (crf st x)::coA b q hb 1 ((rchA st (m,Q) ((crf st x).take i)).1) ((rchA st (m,Q) ((crf st x).take i)).2) L Fr G P::hpA hb st::own iTy rv R::F);have hql:=rchA_len st ((crf st x).take i) (m,Q);rw[List.length_take]at hql;dsimp only at hql;refine k_sr<|sL t_cmp<|s_nt<|k_seq<|k_cond (decide ((i:Int)<((crf st x).length:Int))) (fun c9=>?_) (fun c9=>?_)
 .have p10:=dY c9;refine k_st<|k_seq<|k_block<|k_sr<|sL (t_index iTy_ok Tryz.underlying23 (.own 0) (i:Int) i om ol om) ?_
  obtain⟨y11,hy12⟩:∃y,(crf st x)[i]?=some y:=⟨_,List.getElem?_eq_getElem ol⟩;refine sL (t_loadE iTy_ok (.own 0) hy12)<|sP (iw y11)<|s_nt<|k_reg<|sP (pB b 0)<|sP (iw y11)<|sC [1,1] (creach_s (Q:=(rchA st (m,Q) ((crf st x).take i)).2) om y11) ?_
  refine s_nil<|xs_block<|xs_then<|k_reg<|sL (t_add (i:Int) 1 ol)<|sP (iw ((i:Int)+1))<|s_nil<|xs_mem (Bs:=coA b q hb 1 ((rchA st (m,Q) ((crf st x).take (i+1))).1) ((rchA st (m,Q) ((crf st x).take (i+1))).2) L Fr G P::hpA hb st::own iTy v6 (crf st x)::own iTy rv R::F) (fun _ h=>by rw[rchA_take hy12];exact h) ?_
  exact xs_round (i+1) (by show (crf st x).length-(i+1)<(crf st x).length-i;omega) om sA (rr [2,0,0,0] [])
 have p13:=dF c9;refine k_exit ?_;obtain rfl:i=(crf st x).length:=by omega
 rw[List.take_length];refine xs_exit<|xs_exit<|xs_here<|xs_then<|k_sr<|sP2 (pB b 0)<|sP (pB b 3)<|s_mem4 (fun H h=>co_open1 (show (1:Int)≠0 by decide) (h.re [1] [])) (fun mb14 qv15 lv16 fv17 hw=>?_)
 refine sL (t_load 0 (.map (some mb14)))<|sP (iw x)<|s_memX (fun H h=>mc_open (h.re [2] [])) (fun m18 hw=>?_)
 have hm19:=hw;refine s_update 0 intOk Tryz.underlying89 x (2:Int) ?_;refine s_nr<|sP (.bool true)<|s_nt<|k_ret<|xs_mem (fun _ h=>mc_shut (hm19.1.set x (2:Int)) (h.re [0] [])) ?_
 refine xs_mem (fun _ h=>co_shut (c:=(cset ((rchA st (m,Q) (crf st x)).1) x (2:Int))) (.inr rfl) (h.re [1,1,0,0,0,0] [])) ?_;exact xs_fin [.bool true] (own iTy rv R::coA b q hb 1 (cset ((rchA st (m,Q) (crf st x)).1) x (2:Int)) ((rchA st (m,Q) (crf st x)).2) L Fr G P::hpA hb st::F) (SI.tmp 4 SI.nil) (rr [3,0,1] [3]) ⟨rfl,rfl⟩
theorem cmark2_s{Z:Zone}{F:List Asr}{b q hb:Nat}{m:Int→Int}{L Fr G P:List Int}{st:Hst}{rv:Value}{R:List Int}{m2:Int→Int}(hR:R.length≤10000)(hG:G.length+P.length≤10000)(hz:rchA st (m,[]) (R++(G++P))=(m2,[])){n:Nat}(hsm:HSm n st)(hn:n≤300):SF Tryz.prog 48 #[.pointer (some ⟨b,0,none⟩),rv] Z (own iTy rv R::coA b q hb 1 m [] L Fr G P::hpA hb st::F) fun r Bs=>r=.bool false∧Bs=own iTy rv R::coA b q hb 2 m2 [] (hids st) Fr G P::hpA hb st::F:=by
 refine sf_enter Tryz.func48 65 [(0,pB b 0),(1,rv)] (fun w0=>?_);refine k_sr<|sP (.bool false)<|s_nt<|k_seq<|k_sr<|sP2 (pB b 0)<|sP (pB b 4)<|s_mem4 (fun H h=>co_open1 (show (1:Int)≠0 by decide) (h.re [1] [])) (fun mb1 qv2 lv3 fv4 hw=>?_)
 refine sL (t_load 0 qv2)<|sL (t_len iTy_ok Tryz.underlying23 (.ownO 3))<|sL (Lt.to t_cmp (cB (decide_eq_true rfl:(decide ((([]:List Int).length:Int)=0))=true)))<|s_nt<|k_true<|k_reg<|sP (pB b 0)<|sP rv<|s_mem (fun _ h=>co_shut (c:=m) (.inr rfl) (h.re [0,0,0,0,0,0] [])) ?_
 refine sC [1,0,0] (crooted_s (R:=R) (G:=G) (P:=P) (Q:=([]:List Int)) (m:=m) om om (by first|omega|simp)) ?_;refine s_mem (Bs:=own iTy rv R::coA b q hb 1 m2 ([]:List Int) L Fr G P::hpA hb st::F) (fun _ h=>by rw[hz]at h;exact h) ?_;refine s_nt<|k_seq<|k_sr<|sP2 (pB b 0)<|sP (pB b 4)<|s_mem4 (fun H h=>co_open1 (show (1:Int)≠0 by decide) (h.re [1] [])) (fun mb5 qv6 lv7 fv8 hw=>?_)
 refine sL (t_load 0 qv6)<|sL (t_len iTy_ok Tryz.underlying23 (.ownO 3))<|sL (Lt.to t_cmp (cB (decide_eq_true rfl:(decide ((([]:List Int).length:Int)=0))=true)))<|s_nt<|k_true<|k_sr<|sP2 (pB b 0)<|sP (pB b 2)<|s_store 0 #[pB q 0,pB hb 0,iw 2,.map (some mb5),qv6,lv7,fv8] ?_
 refine s_nr<|sP3 (pB b 0)<|sP (pB b 1)<|sL (t_load 0 (pB hb 0))<|s_call [7] (hids_s (st:=st) hsm om) ?_
 rintro v9 _ rfl;refine sF 0 (fun hf10=>?_);refine sP (pB b 0)<|sP (pB b 5)<|s_store (u:=v9) (m:=1) 2 #[pB q 0,pB hb 0,iw 2,.map (some mb5),qv6,v9,fv8] ?_ (hm:=by (obtain⟨_,_,e⟩:=hf10;rw[e];rfl)) (h1:=by (obtain⟨_,_,e⟩:=hf10;rw[e];rfl)) (ha':=by (obtain⟨_,_,e⟩:=hf10;rw[e];rfl))
 refine s_nr<|sP (.bool false)<|s_nt<|k_ret<|xs_ret<|xs_mem (fun _ h=>Holds.toO (h.re [0] [])) ?_
 refine xs_mem (fun _ h=>co_shut (c:=m2) (.inr rfl) (h.re [2,2,2,2,0,2] [])) ?_;exact xs_fin [.bool false] (own iTy rv R::coA b q hb 2 m2 ([]:List Int) (hids st) Fr G P::hpA hb st::F) (SI.tmp 4 SI.nil) (rr [3,0,0] [3]) ⟨rfl,rfl⟩
theorem cmark3_s{Z:Zone}{F:List Asr}{b q hb:Nat}{m:Int→Int}{Q L Fr G P:List Int}{st:Hst}{rv:Value}{R:List Int}{m2:Int→Int}{x:Int}(hR:R.length≤10000)(hG:G.length+P.length≤10000)(hQ:Q.length≤100000)(hz:rchA st (m,[]) (R++(G++P))=(m2,x::Q)){n:Nat}(hsm:HSm n st)(hn:n≤300)(hW:HW st):SF Tryz.prog 48 #[.pointer (some ⟨b,0,none⟩),rv] Z (own iTy rv R::coA b q hb 1 m [] L Fr G P::hpA hb st::F) fun r Bs=>r=.bool true∧Bs=own iTy rv R::coA b q hb 1 (cset (rchA st (m2,Q) (crf st x)).1 x 2) ((rchA st (m2,Q) (crf st x)).2) L Fr G P::hpA hb st::F:=by
 refine sf_enter Tryz.func48 65 [(0,pB b 0),(1,rv)] (fun w0=>?_);refine k_sr<|sP (.bool false)<|s_nt<|k_seq<|k_sr<|sP2 (pB b 0)<|sP (pB b 4)<|s_mem4 (fun H h=>co_open1 (show (1:Int)≠0 by decide) (h.re [1] [])) (fun mb1 qv2 lv3 fv4 hw=>?_)
 refine sL (t_load 0 qv2)<|sL (t_len iTy_ok Tryz.underlying23 (.ownO 3))<|sL (Lt.to t_cmp (cB (decide_eq_true rfl:(decide ((([]:List Int).length:Int)=0))=true)))<|s_nt<|k_true<|k_reg<|sP (pB b 0)<|sP rv<|s_mem (fun _ h=>co_shut (c:=m) (.inr rfl) (h.re [0,0,0,0,0,0] [])) ?_
 refine sC [1,0,0] (crooted_s (R:=R) (G:=G) (P:=P) (Q:=([]:List Int)) (m:=m) om om (by first|omega|simp)) ?_;refine s_mem (Bs:=own iTy rv R::coA b q hb 1 m2 (x::Q) L Fr G P::hpA hb st::F) (fun _ h=>by rw[hz]at h;exact h) ?_;refine s_nt<|k_seq<|k_sr<|sP2 (pB b 0)<|sP (pB b 4)<|s_mem4 (fun H h=>co_open1 (show (1:Int)≠0 by decide) (h.re [1] [])) (fun mb5 qv6 lv7 fv8 hw=>?_)
 refine sL (t_load 0 qv6)<|sL (t_len iTy_ok Tryz.underlying23 (.ownO 3))<|sL (Lt.to t_cmp (cB (decide_eq_false (by simp;omega):(decide (((x::Q).length:Int)=0))=false)))<|s_nt<|k_false<|k_st<|k_sr<|sP2 (pB b 0)<|sP (pB b 4)<|sL (t_load 0 qv6)<|sL (t_index iTy_ok Tryz.underlying23 (.ownO 3) 0 0 om ol om)<|sL (t_loadE iTy_ok (.ownO 3) (show ((x::Q))[0]?=some x from rfl))<|sP (iw x)<|s_nr<|sP3 (pB b 0)<|sP (pB b 4)<|sL (t_load 0 qv6)<|sL (t_suf iTy_ok Tryz.underlying23 (.ownO 3) 1 1 om ol om)<|sP (pB b 0)<|sP (pB b 4)<|s_mem (fun _ h=>Holds.sufO (i:=3) h iTy_ok 1 rfl ol) ?_
 refine s_fact (fun H h=>((Acc.ownO (T:=iTy) (L:=((x::Q).drop 1)) 3 rfl) H h).form) (fun hf9=>?_);refine s_store (u:=(suf iTy.size qv6 1)) (m:=1) 0 #[pB q 0,pB hb 0,iw 1,.map (some mb5),(suf iTy.size qv6 1),lv7,fv8] ?_ (hm:=by (obtain⟨_,_,e⟩:=hf9;rw[e];rfl)) (h1:=by (obtain⟨_,_,e⟩:=hf9;rw[e];rfl)) (ha':=by (obtain⟨_,_,e⟩:=hf9;rw[e];rfl));refine s_nt<|k_seq<|k_sr<|sP (pB b 0)<|sP (iw x)<|s_mem (fun _ h=>co_shut (c:=m2) (.inr rfl) (h.re [0,0,0,0,0,0] [])) ?_
 refine s_call [0,1] (crefs_s (x:=x) hsm hn hW) ?_;rintro v10 _ rfl;refine sF 0 (fun hf11=>?_);refine sL (t_len iTy_ok Tryz.underlying23 (.own 0))<|sP (iw 0)<|s_nt<|k_block<|k_mem (Bs:=own iTy v10 (crf st x)::coA b q hb 1 ((rchA st (m2,Q) ((crf st x).take 0)).1) ((rchA st (m2,Q) ((crf st x).take 0)).2) L Fr G P::hpA hb st::own iTy rv R::F) (fun _ h=>h) ?_
 obtain⟨_,_,hcl⟩:=crf_bound hsm hn x;refine k_loop (ι:=Nat) (fun i=>i≤(crf st x).length) (fun i=>[(0,pB b 0),(5,iw x),(50,v10),(51,iw ((crf st x).length:Int)),(52,iw (i:Int))]) (fun i=>own iTy v10 (crf st x)::coA b q hb 1 ((rchA st (m2,Q) ((crf st x).take i)).1) ((rchA st (m2,Q) ((crf st x).take i)).2) L Fr G P::hpA hb st::own iTy rv R::F) (fun i=>(crf st x).length-i) 0 (Nat.zero_le _) sA (rr [0,0,0,0] []) ?_;rintro i hi12;show SK _ _ _ _ _ [(0,.pointer (some ⟨b,0,none⟩)),(5,iw x),(50,v10),(51,iw ((crf st x).length:Int)),(52,iw (i:Int))] _ (own iTy v10 (crf st x)::coA b q hb 1 ((rchA st (m2,Q) ((crf st x).take i)).1) ((rchA st (m2,Q) ((crf st x).take i)).2) L Fr G P::hpA hb st::own iTy rv R::F);have hql:=rchA_len st ((crf st x).take i) (m2,Q);rw[List.length_take]at hql;dsimp only at hql;refine k_sr<|sL t_cmp<|s_nt<|k_seq<|k_cond (decide ((i:Int)<((crf st x).length:Int))) (fun c13=>?_) (fun c13=>?_)
 .have p14:=dY c13;refine k_st<|k_seq<|k_block<|k_sr<|sL (t_index iTy_ok Tryz.underlying23 (.own 0) (i:Int) i om ol om) ?_
  obtain⟨y15,hy16⟩:∃y,(crf st x)[i]?=some y:=⟨_,List.getElem?_eq_getElem ol⟩;refine sL (t_loadE iTy_ok (.own 0) hy16)<|sP (iw y15)<|s_nt<|k_reg<|sP (pB b 0)<|sP (iw y15)<|sC [1,1] (creach_s (Q:=(rchA st (m2,Q) ((crf st x).take i)).2) om y15) ?_
  refine s_nil<|xs_block<|xs_then<|k_reg<|sL (t_add (i:Int) 1 ol)<|sP (iw ((i:Int)+1))<|s_nil<|xs_mem (Bs:=coA b q hb 1 ((rchA st (m2,Q) ((crf st x).take (i+1))).1) ((rchA st (m2,Q) ((crf st x).take (i+1))).2) L Fr G P::hpA hb st::own iTy v10 (crf st x)::own iTy rv R::F) (fun _ h=>by rw[rchA_take hy16];exact h) ?_
  exact xs_round (i+1) (by show (crf st x).length-(i+1)<(crf st x).length-i;omega) om sA (rr [2,0,0,0] [])
 have p17:=dF c13;refine k_exit ?_;obtain rfl:i=(crf st x).length:=by omega
 rw[List.take_length];refine xs_exit<|xs_exit<|xs_here<|xs_then<|k_sr<|sP2 (pB b 0)<|sP (pB b 3)<|s_mem4 (fun H h=>co_open1 (show (1:Int)≠0 by decide) (h.re [1] [])) (fun mb18 qv19 lv20 fv21 hw=>?_)
 refine sL (t_load 0 (.map (some mb18)))<|sP (iw x)<|s_memX (fun H h=>mc_open (h.re [2] [])) (fun m22 hw=>?_)
 have hm23:=hw;refine s_update 0 intOk Tryz.underlying89 x (2:Int) ?_;refine s_nr<|sP (.bool true)<|s_nt<|k_ret<|xs_mem (fun _ h=>mc_shut (hm23.1.set x (2:Int)) (h.re [0] [])) ?_
 refine xs_mem (fun _ h=>co_shut (c:=(cset ((rchA st (m2,Q) (crf st x)).1) x (2:Int))) (.inr rfl) (h.re [1,1,0,0,0,0] [])) ?_;exact xs_fin [.bool true] (own iTy rv R::coA b q hb 1 (cset ((rchA st (m2,Q) (crf st x)).1) x (2:Int)) ((rchA st (m2,Q) (crf st x)).2) L Fr G P::hpA hb st::F) (SI.tmp 4 SI.nil) (rr [3,0,1] [3]) ⟨rfl,rfl⟩
abbrev coS(b q hb:Nat)(s:Cst):Asr:=coA b q hb s.ph s.col s.Q s.L s.Fr s.G s.P
theorem cmarks_s{Z:Zone}{F:List Asr}{b q hb N:Nat}{st:Hst}{s:Cst}{rv:Value}{R:List Int}(h:CI N st s)(hN:N≤300)(hR:R.length≤9000)(h1:s.ph=1):SF Tryz.prog 48 #[.pointer (some ⟨b,0,none⟩),rv] Z (own iTy rv R::coS b q hb s::hpA hb st::F) fun r Bs=>r=.bool (decide ((setl st R s).ph=1))∧Bs=own iTy rv R::coS b q hb (mks st R s)::hpA hb st::F:=by
 have hq:=h.ql;have hgp:=h.gp;obtain⟨ph,m,Q,L,Fr,G,P⟩:=s;have h1':ph=1:=h1;subst h1';cases Q with
 | cons x Q=>
  have hQ:Q.length≤100000:=by simp only[List.length_cons]at hq;omega
  exact cmark1_s (x:=x) (Q:=Q) hQ h.sm hN h.w
 | nil=>
  rcases hz:rchA st (m,[]) (R++(G++P)) with ⟨m2,Q2⟩
  have hz2:rchA st (m,[]) (Cst.rts ⟨1,m,[],L,Fr,G,P⟩ R)=(m2,Q2):=hz;have hqi:=((QI.nil st m).rchA (R++(G++P))).len;rw[hz]at hqi;have hil:=hids_len st;have hol:=h.sm.len;have hG:G.length+P.length≤10000:=by have:G.length+P.length≤N:=hgp;omega
  have e:setl st R ⟨1,m,[],L,Fr,G,P⟩=if Q2=[] then ⟨2,m2,[],hids st,Fr,G,P⟩ else ⟨1,m2,Q2,L,Fr,G,P⟩:=by
   unfold setl;rw[if_pos ⟨rfl,rfl⟩,hz2]
  cases Q2 with
  | nil=>
   rw[if_pos rfl]at e;unfold mks;rw[e];exact cmark2_s om hG hz h.sm hN
  | cons x Q=>
   rw[if_neg (by simp)]at e;unfold mks;rw[e];have hQ:Q.length≤100000:=by have:(x::Q).length≤(hids st).length:=hqi;simp only[List.length_cons]at this;omega
   exact cmark3_s (x:=x) om hG hQ hz h.sm hN h.w
theorem csweep2_s{Z:Zone}{F:List Asr}{b q hb:Nat}{m:Int→Int}{Q L Fr G P:List Int}{x:Int}(hz:¬m x=0):SF Tryz.prog 49 #[.pointer (some ⟨b,0,none⟩)] Z (coA b q hb 2 m Q (x::L) Fr G P::F) fun r Bs=>r=.tuple #[]∧Bs=coA b q hb 2 (cset m x 0) Q L Fr G P::F:=by
 refine sf_enter Tryz.func49 45 [(0,pB b 0)] (fun w0=>?_);refine k_sr<|sP2 (pB b 0)<|sP (pB b 5)<|s_mem4 (fun H h=>co_open1 (show (2:Int)≠0 by decide) (h.re [0] [])) (fun mb1 qv2 lv3 fv4 hw=>?_)
 refine sL (t_load 0 lv3)<|sL (t_index iTy_ok Tryz.underlying23 (.ownO 4) 0 0 om ol om)<|sL (t_loadE iTy_ok (.ownO 4) (show ((x::L))[0]?=some x from rfl))<|sP (iw x)<|s_nr<|sP3 (pB b 0)<|sP (pB b 5)<|sL (t_load 0 lv3)<|sL (t_suf iTy_ok Tryz.underlying23 (.ownO 4) 1 1 om ol om)<|sP (pB b 0)<|sP (pB b 5)<|s_mem (fun _ h=>Holds.sufO (i:=4) h iTy_ok 1 rfl ol) ?_
 refine s_fact (fun H h=>((Acc.ownO (T:=iTy) (L:=((x::L).drop 1)) 4 rfl) H h).form) (fun hf5=>?_);refine s_store (u:=(suf iTy.size lv3 1)) (m:=1) 0 #[pB q 0,pB hb 0,iw 2,.map (some mb1),qv2,(suf iTy.size lv3 1),fv4] ?_ (hm:=by (obtain⟨_,_,e⟩:=hf5;rw[e];rfl)) (h1:=by (obtain⟨_,_,e⟩:=hf5;rw[e];rfl)) (ha':=by (obtain⟨_,_,e⟩:=hf5;rw[e];rfl));refine s_nr<|sP2 (pB b 0)<|sP (pB b 3)<|sL (t_load 0 (.map (some mb1)))<|sP (iw x)<|s_memX (fun H h=>mc_open (h.re [2] [])) (fun m6 hw=>?_)
 have hm7:=hw;refine sL (Lt.to (v':=iw (m x)) (t_lookup 0 intOk Tryz.underlying89 (iw 0) x) ((mgt_is _ _).trans (cI (hm7.1 x))))<|sL (Lt.to t_cmp (cB (decide_eq_false hz:(decide ((m x)=0))=false)))<|s_nt<|k_false<|k_reg<|sP2 (pB b 0)<|sP (pB b 3)<|sL (t_load 1 (.map (some mb1)))<|sP (iw x)<|s_delete0 0 intOk Tryz.underlying89 x ?_
 refine s_nil<|xs_mem (fun _ h=>mc_shut (hm7.1.del hm7.2 x) (h.re [0] [])) ?_
 refine xs_mem (fun _ h=>co_shut (c:=(cset m x 0)) (.inr rfl) (h.re [1,1,0,0,0,0] [])) ?_;exact xs_finN [] (coA b q hb 2 (cset m x 0) Q ((x::L).drop 1) Fr G P::F) SI.nil (rr [0] []) ⟨rfl,rfl⟩
theorem csweep1_s{Z:Zone}{F:List Asr}{b q hb:Nat}{m:Int→Int}{Q L Fr G P:List Int}{st:Hst}{x:Int}(hz:m x=0)(hF:Fr.length≤100000):SF Tryz.prog 49 #[.pointer (some ⟨b,0,none⟩)] Z (coA b q hb 2 m Q (x::L) Fr G P::hpA hb st::F) fun r Bs=>r=.tuple #[]∧Bs=coA b q hb 2 m Q L (Fr++[x]) G P::hpA hb (hdrop st x)::F:=by
 refine sf_enter Tryz.func49 45 [(0,pB b 0)] (fun w0=>?_);refine k_sr<|sP2 (pB b 0)<|sP (pB b 5)<|s_mem4 (fun H h=>co_open1 (show (2:Int)≠0 by decide) (h.re [0] [])) (fun mb1 qv2 lv3 fv4 hw=>?_)
 refine sL (t_load 0 lv3)<|sL (t_index iTy_ok Tryz.underlying23 (.ownO 4) 0 0 om ol om)<|sL (t_loadE iTy_ok (.ownO 4) (show ((x::L))[0]?=some x from rfl))<|sP (iw x)<|s_nr<|sP3 (pB b 0)<|sP (pB b 5)<|sL (t_load 0 lv3)<|sL (t_suf iTy_ok Tryz.underlying23 (.ownO 4) 1 1 om ol om)<|sP (pB b 0)<|sP (pB b 5)<|s_mem (fun _ h=>Holds.sufO (i:=4) h iTy_ok 1 rfl ol) ?_
 refine s_fact (fun H h=>((Acc.ownO (T:=iTy) (L:=((x::L).drop 1)) 4 rfl) H h).form) (fun hf5=>?_);refine s_store (u:=(suf iTy.size lv3 1)) (m:=1) 0 #[pB q 0,pB hb 0,iw 2,.map (some mb1),qv2,(suf iTy.size lv3 1),fv4] ?_ (hm:=by (obtain⟨_,_,e⟩:=hf5;rw[e];rfl)) (h1:=by (obtain⟨_,_,e⟩:=hf5;rw[e];rfl)) (ha':=by (obtain⟨_,_,e⟩:=hf5;rw[e];rfl));refine s_nr<|sP2 (pB b 0)<|sP (pB b 3)<|sL (t_load 0 (.map (some mb1)))<|sP (iw x)<|s_memX (fun H h=>mc_open (h.re [2] [])) (fun m6 hw=>?_)
 have hm7:=hw;refine sL (Lt.to (v':=iw (m x)) (t_lookup 0 intOk Tryz.underlying89 (iw 0) x) ((mgt_is _ _).trans (cI (hm7.1 x))))<|sL (Lt.to t_cmp (cB (decide_eq_true hz:(decide ((m x)=0))=true)))<|s_nt<|k_true<|k_sr<|sP2 (pB b 0)<|sP (pB b 1)<|sL (t_load 1 (pB hb 0))<|sP (iw x)<|sC [6] (hdrop_s (st:=st) x) ?_
 refine s_nt<|k_reg<|sP3 (pB b 0)<|sP (pB b 6)<|sL (t_load 2 fv4)<|sP (iw x)<|s_buildSlice (e:=3) [(0,iw x)] #[iw x] (fun g8=>?_) (hb:=by kernel_rfl)
 refine s_appendO (L:=Fr) 7 iTy_ok Tryz.underlying23 (.lit 0 iTy_ok [x]) (by show _*8≤_;(try simp only[lnm]);omega) ol (fun v9=>?_);refine s_fact (fun H h=>((Acc.ownO (T:=iTy) (L:=(Fr++[x])) 7 rfl) H h).form) (fun hf10=>?_);refine sP (pB b 0)<|sP (pB b 6)<|s_store (u:=v9) (m:=1) 3 #[pB q 0,pB hb 0,iw 2,.map (some mb1),qv2,(suf iTy.size lv3 1),v9] ?_ (hm:=by (obtain⟨_,_,e⟩:=hf10;rw[e];rfl)) (h1:=by (obtain⟨_,_,e⟩:=hf10;rw[e];rfl)) (ha':=by (obtain⟨_,_,e⟩:=hf10;rw[e];rfl))
 refine s_nil<|xs_mem (fun _ h=>mc_shut hm7.1 (h.re [2] [])) ?_
 refine xs_mem (fun _ h=>co_shut (c:=m) (.inr rfl) (h.re [3,3,0,2,2,2] [])) ?_;exact xs_finN [] (coA b q hb 2 m Q ((x::L).drop 1) (Fr++[x]) G P::hpA hb (hdrop st x)::F) SI.nil (rr [0,1] [2]) ⟨rfl,rfl⟩
theorem csweeps_s{Z:Zone}{F:List Asr}{b q hb N:Nat}{st:Hst}{s:Cst}(h:CI N st s)(hN:N≤300)(h2:s.ph=2)(hl:s.L≠[]):SF Tryz.prog 49 #[.pointer (some ⟨b,0,none⟩)] Z (coS b q hb s::hpA hb st::F) fun r Bs=>r=.tuple #[]∧Bs=coS b q hb (swp st s).2::hpA hb (swp st s).1::F:=by
 have hf:=h.fr;obtain⟨ph,m,Q,L,Fr,G,P⟩:=s;have h2':ph=2:=h2;subst h2';cases L with
 | nil=>exact absurd rfl hl
 | cons x L=>
  by_cases e:m x=0
  .rw [swp_white (s:=⟨2,m,Q,x::L,Fr,G,P⟩) rfl e];exact csweep1_s e (by have:Fr.length+(hids st).length≤N:=hf;omega)
  rw[swp_black (s:=⟨2,m,Q,x::L,Fr,G,P⟩) rfl e];exact csweep2_s (F:=hpA hb st::F) e
theorem cwork_s{Z:Zone}{F:List Asr}{b q hb N:Nat}{st0:Hst}{s0:Cst}{rv:Value}{R:List Int}(u:Int)(hu9:u≤1000)(h0:CI N st0 s0)(hN:N≤300)(hR:R.length≤9000):SF Tryz.prog 16 #[.pointer (some ⟨b,0,none⟩),iw u,rv] Z (own iTy rv R::coS b q hb s0::hpA hb st0::F) fun r Bs=>r=iw ((work u.toNat st0 R s0).2.2:Int)∧Bs=own iTy rv R::coS b q hb (work u.toNat st0 R s0).2.1::hpA hb (work u.toNat st0 R s0).1::F:=by
 refine sf_enter Tryz.func16 62 [(0,pB b 0),(1,iw u),(2,rv)] (fun w0=>?_);refine k_sr<|sP (iw 0)<|s_nt<|k_seq<|k_sr<|sP (pB b 0)<|sP2 (.bool false)<|sP (iw u)<|sL t_cmp<|sP (.bool (decide (u≤0)))<|s_nt<|k_cond (decide (u≤0)) (fun c1=>?_) (fun c1=>?_)
 .have p2:=dY c1;refine k_sr<|sP (iw 0)<|s_nt<|k_ret<|xs_ret ?_
  rw[work_zero om];exact xs_fin [iw 0] (own iTy rv R::coA b q hb s0.ph s0.col s0.Q s0.L s0.Fr s0.G s0.P::hpA hb st0::F) (SI.tmp 6 SI.nil) (rr [0,0,0] []) ⟨rfl,rfl⟩
 have p3:=dF c1;refine k_st<|k_cut (ι:=Unit) (fun _=>True) (fun _=>[(0,pB b 0),(1,iw u),(2,rv)]) (fun _=>coA b q hb ((if s0.ph=0 then bgn st0 R s0 else s0).ph) ((if s0.ph=0 then bgn st0 R s0 else s0).col) ((if s0.ph=0 then bgn st0 R s0 else s0).Q) ((if s0.ph=0 then bgn st0 R s0 else s0).L) ((if s0.ph=0 then bgn st0 R s0 else s0).Fr) ((if s0.ph=0 then bgn st0 R s0 else s0).G) ((if s0.ph=0 then bgn st0 R s0 else s0).P)::own iTy rv R::hpA hb st0::F) ?_ (fun _ _=>?_)
 .by_cases hp0:s0.ph=0
  .refine k_mem (Bs:=own iTy rv R::coA b q hb 0 s0.col [] s0.L s0.Fr s0.G s0.P::hpA hb st0::F) (fun _ h=>by unfold coS at h;rw[show s0.Q=[] from h0.q0 om,hp0]at h;exact h) ?_;refine k_sr<|sP2 (pB b 0)<|sP (pB b 2)<|s_mem5 (fun H h=>co_open (h.re [1] [])) (fun mb4 qv5 lv6 fv7 cl8 hw=>?_)
   have hc9:=hw;refine sL (t_load 0 (iw 0))<|sL (t_cmp (c:=true))<|s_nt<|k_true<|k_reg<|sP (pB b 0)<|sP rv<|s_mem (fun _ h=>co_shut (c:=s0.col) (.inl rfl) (h.re [0,0,0,0,0,0] [])) ?_
   refine sC [1,0,0] (cbegin_s (R:=R) (G:=s0.G) (P:=s0.P) om (by have:=h0.gp;omega)) ?_;refine s_nil ?_;exact xcut () (fun _ h=>by rw[if_pos hp0];exact h.re [1,0,0] [])
  refine k_sr<|sP2 (pB b 0)<|sP (pB b 2)<|s_mem5 (fun H h=>co_open (h.re [1] [])) (fun mb10 qv11 lv12 fv13 cl14 hw=>?_)
  have hc15:=hw;refine sL (t_load 0 (iw s0.ph))<|sL (Lt.to t_cmp (cB ((decide_eq_false hp0):(decide (s0.ph=0))=false)))<|s_nt<|k_false<|k_skip<|xs_mem (fun _ h=>co_shut (c:=s0.col) hc15 (h.re [0,0,0,0,0,0] [])) ?_
  exact xcut () (fun _ h=>by rw[if_neg hp0];exact h.re [0,0,0] [])
 obtain⟨s1,hs1⟩:∃z,z=(if s0.ph=0 then bgn st0 R s0 else s0):=⟨_,rfl⟩;have hc1:CI N st0 s1:=by rw[hs1];split;exact h0.bgn (by assumption) R;exact h0
 rw[←hs1];refine k_sr<|sP (iw 0)<|s_nt<|k_seq<|k_block<|k_loop (ι:=Hst×Cst×Nat) (fun (st,s,z)=>CI N st s∧z≤u.toNat∧wrk u.toNat st0 R s1=addw z (wrk (u.toNat-z) st R s)) (fun (st,s,z)=>[(0,pB b 0),(1,iw u),(2,rv),(7,iw (z:Int))]) (fun (st,s,z)=>coA b q hb s.ph s.col s.Q s.L s.Fr s.G s.P::own iTy rv R::hpA hb st::F) (fun (st,s,z)=>3*(u.toNat-z)+wtp s.ph) (st0,s1,0) ⟨hc1,Nat.zero_le _,rfl⟩ sA (rr [0,0,0] []) ?_
 rintro⟨st,s,z⟩ hi16;replace hi16:CI N st s∧z≤u.toNat∧wrk u.toNat st0 R s1=addw z (wrk (u.toNat-z) st R s):=hi16;show SK _ _ _ _ _ [(0,.pointer (some ⟨b,0,none⟩)),(1,iw u),(2,rv),(7,iw (z:Int))] _ (coA b q hb s.ph s.col s.Q s.L s.Fr s.G s.P::own iTy rv R::hpA hb st::F);obtain⟨hci,hzk,hwk⟩:=hi16;refine k_seq<|k_sr<|sP (iw (z:Int))<|sP (iw u)<|sL t_cmp<|sP (.bool (decide ((z:Int)<u)))<|s_fork 25 (decide ((z:Int)<u)) (fun c17=>?_) (fun c17=>?_)
 .have p18:=dY c17;refine sP2 (pB b 0)<|sP (pB b 2)<|s_mem5 (fun H h=>co_open (h.re [0] [])) (fun mb19 qv20 lv21 fv22 cl23 hw=>?_)
  have hc24:=hw;refine sL (t_load 0 (iw s.ph))<|sL t_cmp<|sP (.bool (decide (s.ph≠0)))<|s_nt<|k_cond (decide (s.ph≠0)) (fun c25=>?_) (fun c25=>?_)
  .have p26:=dY c25;refine k_st<|k_block<|k_seq<|k_sr<|sP2 (pB b 0)<|sP (pB b 2)<|sL (t_load 0 (iw s.ph))<|sL t_cmp<|s_nt<|k_cond (decide (s.ph=1)) (fun c27=>?_) (fun c27=>?_)
   .have p28:=dY c27;refine k_seq<|k_sr<|sP (pB b 0)<|sP rv<|s_mem (fun _ h=>co_shut (c:=s.col) hc24 (h.re [0,0,0,0,0,0] [])) ?_
    refine sC [1,0,0] (cmarks_s (s:=s) (R:=R) hci hN hR (dY c27)) ?_;refine s_nt<|k_cond (decide ((setl st R s).ph=1)) (fun c29=>?_) (fun c29=>?_)
    .have p30:=dY c29;refine k_reg<|sP (iw (z:Int))<|sL (t_add (z:Int) 1 ol)<|sP (iw ((z:Int)+1))<|s_nt<|k_exit<|xs_exit<|xs_here ?_
     have hwn:=wrk_mark (k:=u.toNat-(z+1)) (st:=st) (R:=R) (dY c27) (dY c29);rw[show u.toNat-(z+1)+1=u.toNat-z by omega]at hwn;exact xs_round (st,mks st R s,z+1) (by show 3*(u.toNat-(z+1))+wtp (mks st R s).ph<3*(u.toNat-z)+wtp s.ph;have w1:=wtp_le (mks st R s).ph;omega) ⟨hci.mks (dY c27) R,by omega,by rw[hwk,hwn,addw_add]⟩ sA (rr [1,0,0] [])
    have p31:=dF c29;refine k_st<|k_exit<|xs_exit<|xs_here ?_
    have hwn:=wrk_turn (k:=u.toNat-z-1) (st:=st) (R:=R) (dY c27) (dF c29);rw[show u.toNat-z-1+1=u.toNat-z by omega]at hwn;have hmp:(mks st R s).ph=2:=by unfold mks;rw[if_neg (dF c29)];exact (setl_ph (dY c27)).resolve_left (dF c29)
    exact xs_round (st,mks st R s,z) (by show 3*(u.toNat-z)+wtp (mks st R s).ph<3*(u.toNat-z)+wtp s.ph;rw[wtp1 (dY c27),wtp2 hmp];omega) ⟨hci.mks (dY c27) R,by omega,by rw[hwk,hwn]⟩ sA (rr [1,0,0] [])
   have p32:=dF c27;have hp2:s.ph=2:=by rcases hci.ph with e|e|e<;>omega
   refine k_st<|k_seq<|k_sr<|sP2 (pB b 0)<|sP (pB b 5)<|sL (t_load 0 lv21)<|sL (t_len iTy_ok Tryz.underlying23 (.ownO 4))<|sL t_cmp<|s_nt<|k_cond (decide ((0:Int)<(s.L.length:Int))) (fun c33=>?_) (fun c33=>?_)
   .have p34:=dY c33;have hLn:s.L≠[]:=fun e=>by rw[e]at p34;simp at p34
    refine k_sr<|sP (pB b 0)<|s_mem (fun _ h=>co_shut (c:=s.col) hc24 (h.re [0,0,0,0,0,0] [])) ?_
    refine sC [0,1] (csweeps_s (s:=s) hci hN hp2 hLn) ?_;refine s_nt<|k_reg<|sP (iw (z:Int))<|sL (t_add (z:Int) 1 ol)<|sP (iw ((z:Int)+1))<|s_nr<|sP2 (pB b 0)<|sP (pB b 5)<|s_mem4 (fun H h=>co_open1 (show (swp st s).2.ph≠0 by rw[swp_ph hp2];decide) (h.re [0] [])) (fun mb35 qv36 lv37 fv38 hw=>?_)
    refine sL (t_load 0 lv37)<|sL (t_len iTy_ok Tryz.underlying23 (.ownO 4))<|sL t_cmp<|s_nt<|k_cond (decide ((((swp st s).2.L).length:Int)=0)) (fun c39=>?_) (fun c39=>?_)
    .have p40:=dY c39;refine k_reg<|sP2 (pB b 0)<|sP (pB b 2)<|s_store 0 #[pB q 0,pB hb 0,iw 0,.map (some mb35),qv36,lv37,fv38] ?_
     refine s_nil<|xs_block<|xs_mem (fun _ h=>co_shut (c:=(swp st s).2.col) (.inl rfl) (h.re [0,0,0,0,0,0] [])) ?_
     have hcl:coS b q hb (cfin (swp st s).2)=coA b q hb 0 ((swp st s).2.col) ((swp st s).2.Q) ((swp st s).2.L) ((swp st s).2.Fr) ((swp st s).2.G) ((swp st s).2.P):=by rw[cfin_nil (List.eq_nil_of_length_eq_zero om)]
     refine xs_mem (Bs:=coA b q hb ((cfin (swp st s).2).ph) ((cfin (swp st s).2).col) ((cfin (swp st s).2).Q) ((cfin (swp st s).2).L) ((cfin (swp st s).2).Fr) ((cfin (swp st s).2).G) ((cfin (swp st s).2).P)::hpA hb ((swp st s).1)::own iTy rv R::F) (fun _ h=>by rw[←hcl]at h;exact h) ?_;have hwn:=wrk_sweep (k:=u.toNat-(z+1)) (st:=st) (R:=R) hp2 hLn;rw[show u.toNat-(z+1)+1=u.toNat-z by omega]at hwn;obtain⟨x,Lx,hLx⟩:=List.exists_cons_of_ne_nil hLn;exact xs_round ((swp st s).1,cfin (swp st s).2,z+1) (by show 3*(u.toNat-(z+1))+wtp (cfin (swp st s).2).ph<3*(u.toNat-z)+wtp s.ph;have w1:=wtp_le (cfin (swp st s).2).ph;omega) ⟨(hci.swp hp2 hLx).fin (swp_ph hp2),by omega,by rw[hwk,hwn,addw_add]⟩ sA (rr [0,1,0] [])
    have p41:=dF c39;refine k_skip<|xs_block<|xs_mem (fun _ h=>co_shut (c:=(swp st s).2.col) (.inr rfl) (h.re [0,0,0,0,0,0] [])) ?_
    have hcl:coS b q hb (cfin (swp st s).2)=coA b q hb ((swp st s).2.ph) ((swp st s).2.col) ((swp st s).2.Q) ((swp st s).2.L) ((swp st s).2.Fr) ((swp st s).2.G) ((swp st s).2.P):=by rw[cfin_cons (fun e=>by rw[e]at p41;exact p41 rfl)]
    refine xs_mem (Bs:=coA b q hb ((cfin (swp st s).2).ph) ((cfin (swp st s).2).col) ((cfin (swp st s).2).Q) ((cfin (swp st s).2).L) ((cfin (swp st s).2).Fr) ((cfin (swp st s).2).G) ((cfin (swp st s).2).P)::hpA hb ((swp st s).1)::own iTy rv R::F) (fun _ h=>by rw[←hcl]at h;exact h) ?_;have hwn:=wrk_sweep (k:=u.toNat-(z+1)) (st:=st) (R:=R) hp2 hLn;rw[show u.toNat-(z+1)+1=u.toNat-z by omega]at hwn;obtain⟨x,Lx,hLx⟩:=List.exists_cons_of_ne_nil hLn;exact xs_round ((swp st s).1,cfin (swp st s).2,z+1) (by show 3*(u.toNat-(z+1))+wtp (cfin (swp st s).2).ph<3*(u.toNat-z)+wtp s.ph;have w1:=wtp_le (cfin (swp st s).2).ph;omega) ⟨(hci.swp hp2 hLx).fin (swp_ph hp2),by omega,by rw[hwk,hwn,addw_add]⟩ sA (rr [0,1,0] [])
   have p42:=dF c33;have hL0:s.L=[]:=List.eq_nil_of_length_eq_zero om;refine k_st<|k_sr<|sP2 (pB b 0)<|sP (pB b 5)<|sL (t_load 0 lv21)<|sL (t_len iTy_ok Tryz.underlying23 (.ownO 4))<|sL (Lt.to t_cmp (cB (decide_eq_true om:(decide ((s.L.length:Int)=0))=true)))<|s_nt<|k_true<|k_reg<|sP2 (pB b 0)<|sP (pB b 2)<|s_store 0 #[pB q 0,pB hb 0,iw 0,.map (some mb19),qv20,lv21,fv22] ?_
   refine s_nil<|xs_block<|xs_mem (fun _ h=>co_shut (c:=s.col) (.inl rfl) (h.re [0,0,0,0,0,0] [])) ?_
   have hcl:coS b q hb (cfin s)=coA b q hb 0 s.col s.Q s.L s.Fr s.G s.P:=by rw[cfin_nil hL0]
   refine xs_mem (Bs:=coA b q hb ((cfin s).ph) ((cfin s).col) ((cfin s).Q) ((cfin s).L) ((cfin s).Fr) ((cfin s).G) ((cfin s).P)::own iTy rv R::hpA hb st::F) (fun _ h=>by rw[←hcl]at h;exact h) ?_;have hwn:=wrk_none (k:=u.toNat-z-1) (st:=st) (R:=R) hp2 hL0;rw[show u.toNat-z-1+1=u.toNat-z by omega,wrk_end (s:=cfin s) (by rw[cfin_nil hL0])]at hwn;exact xs_round (st,cfin s,z) (by show 3*(u.toNat-z)+wtp (cfin s).ph<3*(u.toNat-z)+wtp s.ph;rw[wtp2 hp2,wtp0 (by rw[cfin_nil hL0])];omega) ⟨hci.fin hp2,by omega,by rw[hwk,hwn,wrk_end (s:=cfin s) (by rw[cfin_nil hL0])]⟩ sA (rr [0,0,0] [])
  have p43:=Decidable.not_not.1 (dF c25);refine k_exit<|xs_exit<|xs_exit<|xs_here<|xs_then<|k_sr<|sP2 (iw (z:Int))<|s_nt<|k_ret<|xs_mem (fun _ h=>co_shut (c:=s.col) hc24 (h.re [0,0,0,0,0,0] [])) ?_
  have hwe:wrk (u.toNat-z) st R s=(st,s,0):=by first|(rw[show u.toNat-z=0 by omega];rfl)|exact wrk_end om
  rw[work_eq (t:=(st,s,z)) om (by rw[←hs1,hwk,hwe];simp[addw])];exact xs_fin [iw (z:Int)] (own iTy rv R::coA b q hb s.ph s.col s.Q s.L s.Fr s.G s.P::hpA hb st::F) (SI.tmp 6 SI.nil) (rr [1,0,0] []) ⟨rfl,rfl⟩
 have p44:=dF c17;refine sK<|sK<|sK<|sK<|sK<|sP (.bool false)<|s_nt<|k_false<|k_exit<|xs_exit<|xs_exit<|xs_here<|xs_then<|k_sr<|sP2 (iw (z:Int))<|s_nt<|k_ret ?_
 have hwe:wrk (u.toNat-z) st R s=(st,s,0):=by first|(rw[show u.toNat-z=0 by omega];rfl)|exact wrk_end om
 rw[work_eq (t:=(st,s,z)) om (by rw[←hs1,hwk,hwe];simp[addw])];exact xs_fin [iw (z:Int)] (own iTy rv R::coA b q hb s.ph s.col s.Q s.L s.Fr s.G s.P::hpA hb st::F) (SI.tmp 6 SI.nil) (rr [1,0,0] []) ⟨rfl,rfl⟩
end Go.Proofs.YtmhpcebiamkciaaGreat
end
section
set_option linter.unusedSimpArgs false
set_option linter.unusedVariables false
set_option maxRecDepth 100000
set_option maxHeartbeats 2000000
namespace Go.Proofs.YtmhpcebiamkciaaGreat
open Go.Hp Go.J Go.S
open Go.Mem (Ty KTy blk elemAt pre suf blk_pre blk_suf aget aset strK aggDesc)
open Go.Mem (adel apos aget_aset aget_adel)
theorem s_callL{P:Program}{w0:World}{ops:Array Oper}{Q:Exit→Act→World→Prop}{n:Nat}{E:Env}{Z:Zone}{As:List Asr}{o:Oper}{rest:List Oper}{f:FuncId}{x:Operand}{xs:Array Operand}{ts:Array TypeId}{first cap:Array Value}{vals:List Value}{R:Value→List Asr→Prop}{d:Nat}{As0:List Asr}(is:List Nat)(hc:SF P f vals.toArray Z As0 R)
  (h:∀v Bs,R v Bs→SL P w0 ops Q n rest ((d,v)::E) Z Bs) (hp:rearr As is=As0:=by rfl)
  (ho:o.op=.call { callee:=.value x,args:=xs,argTypes:=ts }:=by rfl) (hf:ev E x=.func (.func f) first cap:=by rfl) (hx:(first.toList++(xs.toList.map (ev E)))++cap.toList=vals:=by rfl) (hd:o.dst=some d:=by rfl) (hfn:isFn P f=true:=by kernel_rfl) (hk:okOp ops n E o=true:=by kernel_rfl):SL P w0 ops Q n (o::rest) E Z As:=
 s_callC is hc h hp ho hf (by apply Array.toList_inj.1;simpa using hx) hd hfn hk
theorem t_clo{P:Program}{E:Env}{Z:Zone}{As:List Asr}{o:Oper}(f:FuncId)(vs us:List Value){xs ys:Array Operand}(ho:o.op=.makeFunc (.func f) xs ys:=by rfl)(hx:xs.toList.map (ev E)=vs:=by rfl)(hy:ys.toList.map (ev E)=us:=by rfl):Lt P E o Z As (.func (.func f) vs.toArray us.toArray):=t_pure _ fun w=>by
 unfold execOp;simp only[ho];have a:xs.map (ev E)=vs.toArray:=by apply Array.toList_inj.1;simpa using hx
 have b:ys.map (ev E)=us.toArray:=by apply Array.toList_inj.1;simpa using hy
 rw[a,b];rfl
theorem index_s{Z:Zone}{lv:Value}{L:List Int}(hL:Kn Z iTy lv L)(x:Int):SF Tryz.prog 106 #[lv,iw x] Z [] fun r Bs=>∃k:Int,r=iw k∧(0≤k↔x∈L)∧Bs=[]:=by
 refine sf_enter Tryz.func106 19 [(0,lv),(1,iw x)] (fun w0=>?_);refine k_fact (fun H h=>(hL.get h).len_le) (fun lL=>?_);refine k_sr<|sP (iw 0)<|s_nt<|k_seq<|k_sr<|sP lv<|sL (t_len iTy_ok Tryz.underlying23 (.zn hL))<|sP (iw 0)<|s_nt<|k_block<|k_loop (ι:=Nat) (fun i=>i≤L.length∧x∉L.take i) (fun i=>[(0,lv),(1,iw x),(7,iw (L.length:Int)),(8,iw (i:Int))]) (fun i=>[]) (fun i=>L.length-i) 0 ⟨Nat.zero_le _,by simp⟩ sA (rr [] []) ?_
 rintro i hi1;show SK _ _ _ _ _ [(0,lv),(1,iw x),(7,iw (L.length:Int)),(8,iw (i:Int))] _ [];refine k_sr<|sL t_cmp<|s_nt<|k_seq<|k_cond (decide ((i:Int)<(L.length:Int))) (fun c2=>?_) (fun c2=>?_)
 .have p3:=dY c2;refine k_st<|k_seq<|k_block<|k_sr<|sP2 (iw (i:Int))<|s_nr<|sP (iw x)<|sP lv<|sP (iw (i:Int))<|sL (t_index iTy_ok Tryz.underlying23 (.zn hL) (i:Int) i om ol om) ?_
  obtain⟨y4,hy5⟩:∃y,L[i]?=some y:=⟨_,List.getElem?_eq_getElem ol⟩;refine sL (t_loadE iTy_ok (.zn hL) hy5)<|sL t_cmp<|s_nt<|k_cond (decide (x=y4)) (fun c6=>?_) (fun c6=>?_)
  .have p7:=dY c6;refine k_sr<|sP2 (iw (i:Int))<|s_nt<|k_ret<|xs_retBlock<|xs_ret<|xs_ret<|xs_retBlock<|xs_ret<|xs_fin [iw (i:Int)] [] (SI.tmp 4 SI.nil) (rr [] []) ⟨(i:Int),rfl,?_,rfl⟩
   exact⟨fun _=>by rw[p7];exact List.mem_of_getElem? hy5,fun _=>by omega⟩
  have p8:=dF c6;refine k_skip<|xs_block<|xs_then<|k_reg<|sL (t_add (i:Int) 1 ol)<|sP (iw ((i:Int)+1))<|s_nil ?_
  exact xs_round (i+1) om (by obtain⟨hi1,hi2⟩:=hi1;refine⟨by omega,?_⟩;rw[←take_snoc hy5,List.mem_append,List.mem_singleton];rintro (h|h);exact hi2 h;exact p8 h) sA (rr [] [])
 have p9:=dF c2;refine k_exit<|xs_exit<|xs_exit<|xs_here<|xs_then<|k_sr<|sP (iw (-1))<|s_nt<|k_ret<|xs_fin [iw (-1)] [] (SI.tmp 4 SI.nil) (rr [] []) ⟨(-1),rfl,?_,rfl⟩
 exact⟨fun h=>absurd h (by decide),fun h=>absurd h (by have h:=hi1.2;rwa [List.take_of_length_le om]at h)⟩
theorem contains_s{Z:Zone}{lv:Value}{L:List Int}(hL:Kn Z iTy lv L)(x:Int):SF Tryz.prog 44 #[lv,iw x] Z [] fun r Bs=>r=.bool (decide (x∈L))∧Bs=[]:=by
 refine sf_enter Tryz.func44 9 [(0,lv),(1,iw x)] (fun w0=>?_);refine k_sr<|sP (.bool false)<|s_nr<|sP lv<|sP (iw x)<|s_pcall (fun _ h=>index_s (L:=L) (Acc.kn (.zn hL) h) x) ?_
 rintro _ _ ⟨k1,rfl,hk2,rfl⟩;refine sL t_cmp<|sP (.bool (decide ((0:Int)≤k1)))<|s_nt<|k_ret<|xs_fin [.bool (decide ((0:Int)≤k1))] [] (SI.tmp 4 SI.nil) (rr [] []) ⟨cB (decide_eq_decide.2 hk2),rfl⟩
theorem bclo1_s{Z:Zone}{F:List Asr}{g:Nat}{id:Int}(x:Int):SF Tryz.prog 64 #[iw x,.pointer (some ⟨g,0,none⟩)] Z (blkA g #[iw id] 3::F) fun r Bs=>r=.bool (decide (x=id))∧Bs=blkA g #[iw id] 3::F:=by
 refine sf_enter Tryz.func64 7 [(0,iw x),(1,pB g 0)] (fun w0=>?_);refine k_sr<|sP (.bool false)<|s_nr<|sP (iw x)<|sL (t_load 0 (iw id))<|sL t_cmp<|sP (.bool (decide (x=id)))<|s_nt<|k_ret ?_
 exact xs_fin [.bool (decide (x=id))] (blkA g #[iw id] 3::F) (SI.tmp 3 SI.nil) (rr [0] []) ⟨rfl,rfl⟩
theorem bclo2_s{Z:Zone}{F:List Asr}{g:Nat}{id:Int}(x:Int):SF Tryz.prog 65 #[iw x,.pointer (some ⟨g,0,none⟩)] Z (blkA g #[iw id] 3::F) fun r Bs=>r=.bool (decide (x=id))∧Bs=blkA g #[iw id] 3::F:=by
 refine sf_enter Tryz.func65 7 [(0,iw x),(1,pB g 0)] (fun w0=>?_);refine k_sr<|sP (.bool false)<|s_nr<|sP (iw x)<|sL (t_load 0 (iw id))<|sL t_cmp<|sP (.bool (decide (x=id)))<|s_nt<|k_ret ?_
 exact xs_fin [.bool (decide (x=id))] (blkA g #[iw id] 3::F) (SI.tmp 3 SI.nil) (rr [0] []) ⟨rfl,rfl⟩
def IsF(f:Nat):Prop:=f=64∨f=65
theorem isf_s{Z:Zone}{F:List Asr}{g f:Nat}{id:Int}(hf:IsF f)(x:Int):SF Tryz.prog f #[iw x,.pointer (some ⟨g,0,none⟩)] Z (blkA g #[iw id] 3::F) fun r Bs=>r=.bool (decide (x=id))∧Bs=blkA g #[iw id] 3::F:=by
 rcases hf with rfl|rfl
 .exact bclo1_s x
 exact bclo2_s x
theorem isf_fn{f:Nat}(hf:IsF f):isFn Tryz.prog f=true:=by
 rcases hf with rfl|rfl<;>kernel_rfl
def FstI(L:List Int)(id k:Int):Prop:=(k = -1∧∀z∈L,z≠id)∨∃i:Nat,k=(i:Int)∧i<L.length∧L[i]?=some id∧∀z∈L.take i,z≠id
theorem indexf_s{Z:Zone}{F:List Asr}{lv:Value}{L:List Int}{g f:Nat}{id:Int}(hf:IsF f):SF Tryz.prog 128 #[lv,.func (.func f) #[] #[.pointer (some ⟨g,0,none⟩)]] Z (ownO iTy lv L::blkA g #[iw id] 3::F) fun r Bs=>∃k:Int,r=iw k∧FstI L id k∧Bs=ownO iTy lv L::blkA g #[iw id] 3::F:=by
 refine sf_enter Tryz.func128 19 [(0,lv),(1,.func (.func f) #[] #[pB g 0])] (fun w0=>?_);refine k_fact (fun H h=>((Acc.ownO (T:=iTy) (L:=L) 0 rfl) H h).len_le) (fun lL=>?_);refine k_sr<|sP (iw 0)<|s_nt<|k_seq<|k_sr<|sP lv<|sL (t_len iTy_ok Tryz.underlying23 (.ownO 0))<|sP (iw 0)<|s_nt<|k_block<|k_loop (ι:=Nat) (fun i=>i≤L.length∧∀z∈L.take i,z≠id) (fun i=>[(0,lv),(1,.func (.func f) #[] #[pB g 0]),(7,iw (L.length:Int)),(8,iw (i:Int))]) (fun i=>ownO iTy lv L::blkA g #[iw id] 3::F) (fun i=>L.length-i) 0 ⟨Nat.zero_le _,by simp⟩ sA (rr [0,0] []) ?_
 rintro i hi1;show SK _ _ _ _ _ [(0,lv),(1,.func (.func f) #[] #[.pointer (some ⟨g,0,none⟩)]),(7,iw (L.length:Int)),(8,iw (i:Int))] _ (ownO iTy lv L::blkA g #[iw id] 3::F);refine k_sr<|sL t_cmp<|s_nt<|k_seq<|k_cond (decide ((i:Int)<(L.length:Int))) (fun c2=>?_) (fun c2=>?_)
 .have p3:=dY c2;refine k_st<|k_seq<|k_block<|k_sr<|sP2 (iw (i:Int))<|s_nr<|sP (.func (.func f) #[] #[pB g 0])<|sP lv<|sP (iw (i:Int))<|sL (t_index iTy_ok Tryz.underlying23 (.ownO 0) (i:Int) i om ol om) ?_
  obtain⟨y4,hy5⟩:∃y,L[i]?=some y:=⟨_,List.getElem?_eq_getElem ol⟩;refine sL (t_loadE iTy_ok (.ownO 0) hy5)<|s_callL [1] (isf_s hf y4) ?_ (hfn:=isf_fn hf)
  rintro _ _ ⟨rfl,rfl⟩;refine s_nt<|k_cond (decide (y4=id)) (fun c6=>?_) (fun c6=>?_)
  .have p7:=dY c6;refine k_sr<|sP2 (iw (i:Int))<|s_nt<|k_ret<|xs_retBlock<|xs_ret<|xs_ret<|xs_retBlock<|xs_ret<|xs_fin [iw (i:Int)] (ownO iTy lv L::blkA g #[iw id] 3::F) (SI.tmp 4 SI.nil) (rr [1,0] []) ⟨(i:Int),rfl,?_,rfl⟩
   exact .inr ⟨i,rfl,by omega,by rw[←p7];exact hy5,hi1.2⟩
  have p8:=dF c6;refine k_skip<|xs_block<|xs_then<|k_reg<|sL (t_add (i:Int) 1 ol)<|sP (iw ((i:Int)+1))<|s_nil ?_
  exact xs_round (i+1) om (by obtain⟨hi1,hi2⟩:=hi1;refine⟨by omega,fun z hz=>?_⟩;rw[←take_snoc hy5,List.mem_append,List.mem_singleton]at hz;rcases hz with h|h;exact hi2 z h;rw[h];exact p8) sA (rr [1,0] [])
 have p9:=dF c2;refine k_exit<|xs_exit<|xs_exit<|xs_here<|xs_then<|k_sr<|sP (iw (-1))<|s_nt<|k_ret<|xs_fin [iw (-1)] (ownO iTy lv L::blkA g #[iw id] 3::F) (SI.tmp 4 SI.nil) (rr [0,0] []) ⟨(-1),rfl,?_,rfl⟩
 exact .inl ⟨rfl,by have h:=hi1.2;rwa [List.take_of_length_le om]at h⟩
theorem wot_none{L:List Int}{id:Int}(h:∀z∈L,z≠id):wot L id=L:=by
 unfold wot;rw[List.filter_eq_self];intro a ha;simp[h a ha]
structure DlI(L:List Int)(id:Int)(X:List Int)(i j:Nat):Prop where
 len:X.length=L.length
 lt:i<j
 le:j≤L.length
 pre:X.take i=wot (L.take j) id
 suf:X.drop j=L.drop j
theorem DlI.start{L:List Int}{id:Int}{i:Nat}(hi:i<L.length)(h:L[i]?=some id)(hn:∀z∈L.take i,z≠id):DlI L id L i (i+1) where
 len:=rfl
 lt:=Nat.lt_succ_self i
 le:=hi
 pre:=by
  have:=wot_none hn;unfold wot at this⊢;rw[List.take_add_one,h,List.filter_append,this];simp
 suf:=rfl
theorem DlI.at{L X:List Int}{id y:Int}{i j:Nat}(h:DlI L id X i j)(hy:X[j]?=some y):L[j]?=some y:=by
 have e:=congrArg (fun l=>l[0]?) h.suf;simp only[List.getElem?_drop,Nat.add_zero]at e;rw[←e];exact hy
theorem DlI.skip{L X:List Int}{id y:Int}{i j:Nat}(h:DlI L id X i j)(hj:j<L.length)(hy:X[j]?=some y)(e:y=id):DlI L id X i (j+1) where
 len:=h.len
 lt:=by have:=h.lt;omega
 le:=hj
 pre:=by
  have:=h.pre;unfold wot at this⊢;rw[List.take_add_one,h.at hy,List.filter_append,←this];simp[e]
 suf:=by have:=congrArg (List.drop 1) h.suf;rw[List.drop_drop,List.drop_drop]at this;exact this
theorem DlI.keep{L X:List Int}{id y:Int}{i j:Nat}(h:DlI L id X i j)(hj:j<L.length)(hy:X[j]?=some y)(e:¬y=id):DlI L id (X.set i y) (i+1) (j+1) where
 len:=by rw[List.length_set];exact h.len
 lt:=by have:=h.lt;omega
 le:=hj
 pre:=by
  have h1:=h.pre;have h2:=h.lt;have h3:=h.len;unfold wot at h1⊢;have h4:=h.at hy;rw[List.take_add_one,List.getElem?_set_self om,List.take_set_of_le (Nat.le_refl _),List.take_add_one,h4,List.filter_append,←h1];simp[e]
 suf:=by
  have:=congrArg (List.drop 1) h.suf;rw[List.drop_drop,List.drop_drop]at this;have h2:=h.lt;rw[List.drop_set_of_lt om];exact this
theorem DlI.fin{L X:List Int}{id:Int}{i j:Nat}{z:Int}{k:Nat}(h:DlI L id X i j)(hj:¬j<L.length):(X.take i++List.replicate k z).take i=wot L id:=by
 have h1:=h.pre;have h2:=h.lt;have h3:=h.len;have h4:=h.le;rw[List.take_append_of_le_length (by rw[List.length_take];omega),List.take_take,Nat.min_self,h1,List.take_of_length_le om]
theorem deletef_s{Z:Zone}{F:List Asr}{lv:Value}{L:List Int}{g f:Nat}{id:Int}(hf:IsF f)(hl:L.length≤1000000):SF Tryz.prog 63 #[lv,.func (.func f) #[] #[.pointer (some ⟨g,0,none⟩)]] Z (ownO iTy lv L::blkA g #[iw id] 3::F) fun r Bs=>Bs=ownO iTy r (wot L id)::blkA g #[iw id] 3::F:=by
 refine sf_enter Tryz.func63 42 [(0,lv),(1,.func (.func f) #[] #[pB g 0])] (fun w0=>?_);refine k_fact (fun H h=>((Acc.ownO (T:=iTy) (L:=L) 0 rfl) H h).len_le) (fun lL=>?_);refine k_sr<|sP (.slice none 0 0)<|s_nr<|sP lv<|sP (.func (.func f) #[] #[pB g 0])<|s_call [0,0] (indexf_s (L:=L) hf) ?_
 rintro _ _ ⟨k1,rfl,hk2,rfl⟩;rcases hk2 with ⟨rfl,hno⟩|⟨i0,rfl,hi0,hat,hfst⟩
 .refine sP (iw (-1))<|s_nt<|k_seq<|k_sr<|sP (iw (-1))<|sL (t_cmp (c:=true))<|s_nt<|k_true<|k_sr<|sP2 lv<|s_nt<|k_ret<|xs_ret ?_
  exact xs_fin [lv] (ownO iTy lv (wot L id)::blkA g #[iw id] 3::F) (SI.tmp 4 SI.nil) (fun _ h=>by rw[wot_none hno];exact h.re [0,0] []) rfl
 refine sP (iw (i0:Int))<|s_nt<|k_seq<|k_sr<|sP (iw (i0:Int))<|sL (Lt.to t_cmp (cB (decide_eq_false om:(decide ((i0:Int)=(-1)))=false)))<|s_nt<|k_false<|k_st<|k_seq<|k_sr<|sP (iw (i0:Int))<|sL (t_add (i0:Int) 1 ol)<|sP (iw ((i0:Int)+1))<|s_nt<|k_block<|k_loop (ι:=List Int×Nat×Nat) (fun (X,i,j)=>DlI L id X i j) (fun (X,i,j)=>[(0,lv),(1,.func (.func f) #[] #[pB g 0]),(5,iw (i:Int)),(6,iw (j:Int))]) (fun (X,i,j)=>ownO iTy lv X::blkA g #[iw id] 3::F) (fun (X,i,j)=>L.length-j) (L,i0,i0+1) (DlI.start hi0 hat hfst) sA (rr [0,0] []) ?_
 rintro⟨X,i,j⟩ hi3;replace hi3:DlI L id X i j:=hi3;show SK _ _ _ _ _ [(0,lv),(1,.func (.func f) #[] #[.pointer (some ⟨g,0,none⟩)]),(5,iw (i:Int)),(6,iw (j:Int))] _ (ownO iTy lv X::blkA g #[iw id] 3::F);have hXl:=hi3.len;have hij:=hi3.lt;have hjl:=hi3.le;refine k_seq<|k_sr<|sP (iw (j:Int))<|sP lv<|sL (t_len iTy_ok Tryz.underlying23 (.ownO 0))<|sL t_cmp<|s_nt<|k_cond (decide ((j:Int)<(X.length:Int))) (fun c4=>?_) (fun c4=>?_)
 .have p5:=dY c4;refine k_st<|k_seq<|k_block<|k_sr<|sP lv<|sP (iw (j:Int))<|sL (t_index iTy_ok Tryz.underlying23 (.ownO 0) (j:Int) j om ol om) ?_
  obtain⟨y6,hy7⟩:∃y,X[j]?=some y:=⟨_,List.getElem?_eq_getElem ol⟩;refine sL (t_loadE iTy_ok (.ownO 0) hy7)<|sP (iw y6)<|s_nr<|sP (.func (.func f) #[] #[pB g 0])<|sP (iw y6)<|s_callL [1] (isf_s hf y6) ?_ (hfn:=isf_fn hf)
  rintro _ _ ⟨rfl,rfl⟩;refine sP (.bool (!(decide (y6=id))))<|s_nt<|k_cond (!(decide (y6=id))) (fun c8=>?_) (fun c8=>?_)
  .have c9:=not_t c8;have p10:=dF c9;refine k_sr<|sP lv<|sP (iw (i:Int))<|sP (iw y6)<|sL (t_index iTy_ok Tryz.underlying23 (.ownO 1) (i:Int) i om ol om) ?_
   obtain⟨y11,hy12⟩:∃y,X[i]?=some y:=⟨_,List.getElem?_eq_getElem ol⟩;refine s_storeO 1 y6 iTy_ok hy12 ?_;refine s_nt<|k_reg<|sP (iw (i:Int))<|sL (t_add (i:Int) 1 ol)<|sP (iw ((i:Int)+1))<|s_nil<|xs_block<|xs_then<|k_reg<|sP (iw (j:Int))<|sL (t_add (j:Int) 1 ol)<|sP (iw ((j:Int)+1))<|s_nil ?_
   exact xs_round ((X.set i y6),i+1,j+1) (by show L.length-(j+1)<L.length-j;have:=hi3.len;omega) (hi3.keep (by have:=hi3.len;omega) hy7 (dF c9)) sA (rr [1,0] [])
  have c13:=not_f c8;have p14:=dY c13;refine k_skip<|xs_block<|xs_then<|k_reg<|sP (iw (j:Int))<|sL (t_add (j:Int) 1 ol)<|sP (iw ((j:Int)+1))<|s_nil ?_
  exact xs_round (X,i,j+1) (by show L.length-(j+1)<L.length-j;have:=hi3.len;omega) (hi3.skip (by have:=hi3.len;omega) hy7 (dY c13)) sA (rr [1,0] [])
 have p15:=dF c4;refine k_exit ?_;have hj0:¬j<L.length:=by have:=hi3.len;omega
 refine xs_exit ?_;have hj0:¬j<L.length:=by have:=hi3.len;omega
 refine xs_exit ?_;have hj0:¬j<L.length:=by have:=hi3.len;omega
 refine xs_here<|xs_then<|k_sr<|sP lv<|sP (iw (i:Int))<|sL (t_suf iTy_ok Tryz.underlying23 (.ownO 0) (i:Int) i om ol om)<|s_clearO0 (L:=X) (k:=i) 0 iTy_ok Tryz.underlying23 ol (fun e=>by have h9:X.length=0:=(by rw[e];rfl);omega) ?_
 refine s_nr<|sP lv<|sP (iw (i:Int))<|sL (t_pre iTy_ok Tryz.underlying23 (.ownO 0) (i:Int) i om ol om)<|sP (pre lv i)<|s_nt<|k_ret<|xs_mem (fun _ h=>Holds.preO (i:=0) h iTy_ok i rfl ol) ?_
 exact xs_fin [(pre lv i)] (ownO iTy (pre lv i) (wot L id)::blkA g #[iw id] 3::F) (SI.tmp 4 SI.nil) (fun _ h=>by rw[hi3.fin hj0]at h;exact h.re [0,0] []) rfl
theorem cwrite_s{Z:Zone}{F:List Asr}{b q hb N:Nat}{st:Hst}{s:Cst}(hci:CI N st s)(hN:N≤300)(x y:Int):SF Tryz.prog 27 #[.pointer (some ⟨b,0,none⟩),iw x,iw y] Z (coS b q hb s::hpA hb st::F) fun r Bs=>r=iw (aliE st x)∧Bs=coS b q hb (wrt st s x y)::hpA hb st::F:=by
 refine sf_enter Tryz.func27 33 [(0,pB b 0),(1,iw x),(2,iw y)] (fun w0=>?_);refine k_sr<|sP (iw 0)<|s_nt<|k_seq<|k_sr<|sP (pB b 0)<|sP (.bool false)<|s_nt<|k_false<|k_st<|k_seq<|k_sr<|sP2 (pB b 0)<|sP (pB b 1)<|s_mem5 (fun H h=>co_open (h.re [0] [])) (fun mb1 qv2 lv3 fv4 cl5 hw=>?_)
 have hc6:=hw;refine sL (t_load 0 (pB hb 0))<|sP (iw x)<|sC [6] (halive_s (st:=st) x) ?_
 refine sP (.bool (!(halive st x)))<|s_nt<|k_cond (!(halive st x)) (fun c7=>?_) (fun c7=>?_)
 .have c8:=not_t c7;refine k_sr<|sP (iw 2)<|s_nt<|k_ret<|xs_ret<|xs_mem (fun _ h=>co_shut (c:=s.col) hc6 (h.re [1,1,1,1,1,1] [])) ?_
  have hst:coS b q hb (wrt st s x y)=coA b q hb s.ph s.col s.Q s.L s.Fr s.G s.P:=by unfold wrt;simp[coS,c7,c8,c8]
  refine xs_fin [iw 2] (coS b q hb (wrt st s x y)::hpA hb st::F) (SI.tmp 6 SI.nil) (fun _ h=>by rw[hst];exact h.re [0,0] []) ⟨?_,rfl⟩;exact cI (by unfold aliE;simp[c7,c8,c8])
 have c9:=not_f c7;refine k_st<|k_seq<|k_sr<|sP2 (pB b 0)<|sP (pB b 2)<|sL (t_load 1 (iw s.ph))<|sL t_cmp<|sP (.bool (decide (s.ph=1)))<|s_fork 21 (decide (s.ph=1)) (fun c10=>?_) (fun c10=>?_)
 .have p11:=dY c10;obtain rfl:=hc6.resolve_left om;refine sP2 (pB b 0)<|sP (pB b 3)<|sL (t_load 1 (.map (some mb1)))<|sP (iw x)<|s_memX (fun H h=>mc_open (h.re [3] [])) (fun m12 hw=>?_)
  have hm13:=hw;refine sL (Lt.to (v':=iw (s.col x)) (t_lookup 0 intOk Tryz.underlying89 (iw 0) x) ((mgt_is _ _).trans (cI (hm13.1 x))))<|sL t_cmp<|sP (.bool (decide ((s.col x)=2)))<|s_nt<|k_cond (decide ((s.col x)=2)) (fun c14=>?_) (fun c14=>?_)
  .have p15:=dY c14;refine k_reg<|sP (pB b 0)<|sP (iw y)<|s_mem (fun _ h=>mc_shut hm13.1 (h.re [0] [])) ?_
   refine s_mem (fun _ h=>co_shut (c:=s.col) (.inr rfl) (h.re [2,2,0,1,1,1] [])) ?_;refine s_mem (Bs:=coA b q hb 1 s.col s.Q s.L s.Fr s.G s.P::hpA hb st::F) (fun _ h=>by rw[show s.ph=1 by omega]at h;exact h) ?_;refine sC [0,0] (creach_s (Q:=s.Q) (by have:=hci.ql;omega) y) ?_;refine s_nr<|sP (iw 0)<|s_nt<|k_ret ?_
   have hst:coS b q hb (wrt st s x y)=coA b q hb 1 (rchM st s.col y) (rchQ st s.col s.Q y) s.L s.Fr s.G s.P:=by unfold wrt;simp[coS,c7,c9,c10,c14,c9,p11,p15]
   refine xs_fin [iw 0] (coS b q hb (wrt st s x y)::hpA hb st::F) (SI.tmp 6 SI.nil) (fun _ h=>by rw[hst];exact h.re [0,0] []) ⟨?_,rfl⟩;exact cI (by unfold aliE;simp[c7,c9,c10,c14,c9,p11,p15])
  have p16:=dF c14;refine k_st<|k_sr<|sP (iw 0)<|s_nt<|k_ret<|xs_mem (fun _ h=>mc_shut hm13.1 (h.re [0] [])) ?_
  refine xs_mem (fun _ h=>co_shut (c:=s.col) (.inr rfl) (h.re [2,2,0,1,1,1] [])) ?_;have hst:coS b q hb (wrt st s x y)=coA b q hb s.ph s.col s.Q s.L s.Fr s.G s.P:=by unfold wrt;simp[coS,c7,c9,c10,c14,c9,p11,p16]
  refine xs_fin [iw 0] (coS b q hb (wrt st s x y)::hpA hb st::F) (SI.tmp 6 SI.nil) (fun _ h=>by rw[hst];exact h.re [0,0] []) ⟨?_,rfl⟩;exact cI (by unfold aliE;simp[c7,c9,c10,c14,c9,p11,p16])
 have p17:=dF c10;refine sK<|sK<|sK<|sK<|sK<|sK<|sK<|sP (.bool false)<|s_nt<|k_false<|k_st<|k_sr<|sP (iw 0)<|s_nt<|k_ret<|xs_mem (fun _ h=>co_shut (c:=s.col) hc6 (h.re [1,1,1,1,1,1] [])) ?_
 have hst:coS b q hb (wrt st s x y)=coA b q hb s.ph s.col s.Q s.L s.Fr s.G s.P:=by unfold wrt;simp[coS,c7,c9,c10,c9,p17]
 refine xs_fin [iw 0] (coS b q hb (wrt st s x y)::hpA hb st::F) (SI.tmp 6 SI.nil) (fun _ h=>by rw[hst];exact h.re [0,0] []) ⟨?_,rfl⟩;exact cI (by unfold aliE;simp[c7,c9,c10,c9,p17])
theorem cbirth_s{Z:Zone}{F:List Asr}{b q hb N:Nat}{st:Hst}{s:Cst}(hci:CI N st s)(hN:N≤300)(x:Int):SF Tryz.prog 28 #[.pointer (some ⟨b,0,none⟩),iw x] Z (coS b q hb s::hpA hb st::F) fun r Bs=>r=iw (aliE st x)∧Bs=coS b q hb (brt st s x)::hpA hb st::F:=by
 refine sf_enter Tryz.func28 47 [(0,pB b 0),(1,iw x)] (fun w0=>?_);refine k_sr<|s_box #[iw x] (fun g1=>?_)
 refine sP (iw 0)<|s_nt<|k_seq<|k_sr<|sP (pB b 0)<|sP (.bool false)<|s_nt<|k_false<|k_st<|k_seq<|k_seq<|k_draw<|sP2 (pB b 0)<|sP (pB b 1)<|s_mem5 (fun H h=>co_open (h.re [1] [])) (fun mb2 qv3 lv4 fv5 cl6 hw=>?_)
 have hc7:=hw;refine sL (t_load 0 (pB hb 0))<|sL (t_load 6 (iw x))<|sC [7] (halive_s (st:=st) x) ?_
 refine sP (.bool (!(halive st x)))<|s_nil<|x_dynS (fun _ h=>by kernel_rfl) ?_
 refine xs_then<|k_cond (!(halive st x)) (fun c8=>?_) (fun c8=>?_)
 .have c9:=not_t c8;refine k_sr<|sP (iw 2)<|s_nt<|k_ret<|xs_ret<|xs_mem (fun _ h=>co_shut (c:=s.col) hc7 (h.re [1,1,1,1,1,1] [])) ?_
  have hst:coS b q hb (brt st s x)=coA b q hb s.ph s.col s.Q s.L s.Fr s.G s.P:=by unfold brt;simp[coS,c8,c9,c9]
  refine xs_fin [iw 2] (coS b q hb (brt st s x)::hpA hb st::F) (SI.tmp 4 SI.nil) (fun _ h=>by rw[hst];exact h.re [0,0] [2]) ⟨?_,rfl⟩;exact cI (by unfold aliE;simp[c8,c9,c9])
 have c10:=not_f c8;refine k_st<|k_seq<|k_sr<|sP2 (pB b 0)<|sP (pB b 2)<|sL (t_load 1 (iw s.ph))<|sL t_cmp<|s_nt<|k_cond (decide (s.ph=1)) (fun c11=>?_) (fun c11=>?_)
 .have p12:=dY c11;obtain rfl:=hc7.resolve_left om;refine k_sr<|sP3 (pB b 0)<|sP (pB b 4)<|sL (t_load 1 qv3)<|sL (t_clo 64 [] [pB g1 0])<|s_call [4,6] (deletef_s (L:=s.Q) (id:=x) (.inl rfl) (by have:=hci.ql;have:=hci.ll;omega)) ?_
  rintro v13 _ rfl;refine s_fact (fun H h=>((Acc.ownO (T:=iTy) (L:=(wot s.Q x)) 0 rfl) H h).form) (fun hf14=>?_);refine sP (pB b 0)<|sP (pB b 4)<|s_store (u:=v13) (m:=1) 3 #[pB q 0,pB hb 0,iw s.ph,.map (some mb2),v13,lv4,fv5] ?_ (hm:=by (obtain⟨_,_,e⟩:=hf14;rw[e];rfl)) (h1:=by (obtain⟨_,_,e⟩:=hf14;rw[e];rfl)) (ha':=by (obtain⟨_,_,e⟩:=hf14;rw[e];rfl))
  refine s_nt<|k_seq<|k_draw<|sP2 (pB b 0)<|sP (pB b 3)<|sL (t_load 3 (.map (some mb2)))<|sL (t_load 1 (iw x))<|s_memX (fun H h=>mc_open (h.re [5] [])) (fun m15 hw=>?_)
  have hm16:=hw;refine s_update 0 intOk Tryz.underlying89 x (2:Int) ?_;refine s_nil<|x_dynS (fun _ h=>by kernel_rfl) ?_
  refine xs_then<|k_sr<|sP (iw 0)<|s_nt<|k_ret<|xs_ret<|xs_mem (fun _ h=>mc_shut (hm16.1.set x (2:Int)) (h.re [0] [])) ?_
  refine xs_mem (fun _ h=>co_shut (c:=(cset s.col x (2:Int))) (.inr rfl) (h.re [4,4,0,0,2,2] [])) ?_;have hst:coS b q hb (brt st s x)=coA b q hb s.ph (cset s.col x (2:Int)) (wot s.Q x) s.L s.Fr s.G s.P:=by unfold brt;simp[coS,c8,c10,c11,c10,p12]
  refine xs_fin [iw 0] (coS b q hb (brt st s x)::hpA hb st::F) (SI.tmp 4 SI.nil) (fun _ h=>by rw[hst];exact h.re [0,1] [2]) ⟨?_,rfl⟩;exact cI (by unfold aliE;simp[c8,c10,c11,c10,p12])
 have p17:=dF c11;refine k_st<|k_sr<|sP3 (pB b 0)<|sP (pB b 5)<|sL (t_load 1 lv4)<|sL (t_clo 65 [] [pB g1 0])<|s_call [5,6] (deletef_s (L:=s.L) (id:=x) (.inr rfl) (by have:=hci.ql;have:=hci.ll;omega)) ?_
 rintro v18 _ rfl;refine s_fact (fun H h=>((Acc.ownO (T:=iTy) (L:=(wot s.L x)) 0 rfl) H h).form) (fun hf19=>?_);refine sP (pB b 0)<|sP (pB b 5)<|s_store (u:=v18) (m:=1) 3 #[pB q 0,pB hb 0,iw s.ph,.map (some mb2),qv3,v18,fv5] ?_ (hm:=by (obtain⟨_,_,e⟩:=hf19;rw[e];rfl)) (h1:=by (obtain⟨_,_,e⟩:=hf19;rw[e];rfl)) (ha':=by (obtain⟨_,_,e⟩:=hf19;rw[e];rfl))
 refine s_nt<|k_seq<|k_draw<|sP2 (pB b 0)<|sP (pB b 3)<|sL (t_load 3 (.map (some mb2)))<|sL (t_load 1 (iw x))<|s_memX (fun H h=>mc_open (h.re [5] [])) (fun m20 hw=>?_)
 have hm21:=hw;refine s_delete0 0 intOk Tryz.underlying89 x ?_;refine s_nil<|x_dynS (fun _ h=>by kernel_rfl) ?_
 refine xs_then<|k_sr<|sP (iw 0)<|s_nt<|k_ret<|xs_mem (fun _ h=>mc_shut (hm21.1.del hm21.2 x) (h.re [0] [])) ?_
 refine xs_mem (fun _ h=>co_shut (c:=(cset s.col x 0)) (hc7.imp (fun h=>h) (fun e=>congrArg (fun cl6=>(cset cl6 x 0)) e)) (h.re [4,4,0,3,0,2] [])) ?_;have hst:coS b q hb (brt st s x)=coA b q hb s.ph (cset s.col x 0) s.Q (wot s.L x) s.Fr s.G s.P:=by unfold brt;simp[coS,c8,c10,c11,c10,p17]
 refine xs_fin [iw 0] (coS b q hb (brt st s x)::hpA hb st::F) (SI.tmp 4 SI.nil) (fun _ h=>by rw[hst];exact h.re [0,1] [2]) ⟨?_,rfl⟩;exact cI (by unfold aliE;simp[c8,c10,c11,c10,p17])
theorem creg_s{Z:Zone}{F:List Asr}{b q hb N:Nat}{st:Hst}{s:Cst}(hci:CI N st s)(hN:N≤300)(x:Int):SF Tryz.prog 14 #[.pointer (some ⟨b,0,none⟩),iw x] Z (coS b q hb s::hpA hb st::F) fun r Bs=>r=iw (regE st s x)∧Bs=coS b q hb (rgs st s x)::hpA hb st::F:=by
 refine sf_enter Tryz.func14 56 [(0,pB b 0),(1,iw x)] (fun w0=>?_);refine k_sr<|sP (iw 0)<|s_nt<|k_seq<|k_sr<|sP (pB b 0)<|sP (.bool false)<|s_nt<|k_false<|k_st<|k_seq<|k_sr<|sP2 (pB b 0)<|sP (pB b 1)<|s_mem5 (fun H h=>co_open (h.re [0] [])) (fun mb1 qv2 lv3 fv4 cl5 hw=>?_)
 have hc6:=hw;refine sL (t_load 0 (pB hb 0))<|sP (iw x)<|sC [6] (halive_s (st:=st) x) ?_
 refine sP (.bool (!(halive st x)))<|s_nt<|k_cond (!(halive st x)) (fun c7=>?_) (fun c7=>?_)
 .have c8:=not_t c7;refine k_sr<|sP (iw 2)<|s_nt<|k_ret<|xs_ret<|xs_mem (fun _ h=>co_shut (c:=s.col) hc6 (h.re [1,1,1,1,1,1] [])) ?_
  have hst:coS b q hb (rgs st s x)=coA b q hb s.ph s.col s.Q s.L s.Fr s.G s.P:=by unfold rgs Cst.doom;simp[coS,c7,c8,c8]
  refine xs_fin [iw 2] (coS b q hb (rgs st s x)::hpA hb st::F) (SI.tmp 4 SI.nil) (fun _ h=>by rw[hst];exact h.re [0,0] []) ⟨?_,rfl⟩;exact cI (by unfold regE Cst.doom;simp[c7,c8,c8])
 have c9:=not_f c7;refine k_st<|k_seq<|k_sr<|sP2 (pB b 0)<|sP (pB b 2)<|sL (t_load 1 (iw s.ph))<|sL t_cmp<|sP (.bool (decide (s.ph=2)))<|s_fork 20 (decide (s.ph=2)) (fun c10=>?_) (fun c10=>?_)
 .have p11:=dY c10;obtain rfl:=hc6.resolve_left om;refine sP2 (pB b 0)<|sP (pB b 3)<|sL (t_load 1 (.map (some mb1)))<|sP (iw x)<|s_memX (fun H h=>mc_open (h.re [3] [])) (fun m12 hw=>?_)
  have hm13:=hw;refine sL (Lt.to (v':=iw (s.col x)) (t_lookup 0 intOk Tryz.underlying89 (iw 0) x) ((mgt_is _ _).trans (cI (hm13.1 x))))<|sL t_cmp<|sP2 (.bool (decide ((s.col x)=0)))<|s_fork 29 (decide ((s.col x)=0)) (fun c14=>?_) (fun c14=>?_)
  .have p15:=dY c14;refine sP2 (pB b 0)<|sP (pB b 5)<|sL (t_load 2 lv3)<|sP (iw x)<|sV (fun _ h=>contains_s (L:=s.L) (Acc.kn (.ownO 5) h) x)<|sP (.bool (decide (x∈s.L)))<|s_nt<|k_cond (decide (x∈s.L)) (fun c16=>?_) (fun c16=>?_)
   .have p17:=dY c16;refine k_sr<|sP (iw 19)<|s_nt<|k_ret<|xs_ret<|xs_mem (fun _ h=>mc_shut hm13.1 (h.re [0] [])) ?_
    refine xs_mem (fun _ h=>co_shut (c:=s.col) (.inr rfl) (h.re [2,2,0,1,1,1] [])) ?_;have hst:coS b q hb (rgs st s x)=coA b q hb s.ph s.col s.Q s.L s.Fr s.G s.P:=by unfold rgs Cst.doom;simp[coS,c7,c9,c10,c14,c16,c9,p11,p15,p17]
    refine xs_fin [iw 19] (coS b q hb (rgs st s x)::hpA hb st::F) (SI.tmp 4 SI.nil) (fun _ h=>by rw[hst];exact h.re [0,0] []) ⟨?_,rfl⟩;exact cI (by unfold regE Cst.doom;simp[c7,c9,c10,c14,c16,c9,p11,p15,p17])
   have p18:=dF c16;refine k_st<|k_sr<|sP3 (pB b 0)<|sL (t_load 2 (pB q 0))<|sP (iw x)<|sC [3] (add_s (reg:=s.G) x (by have:=hci.gp;omega)) ?_
   refine sP (iw (addI s.G x))<|s_nt<|k_seq<|k_sr<|sP (iw (addI s.G x))<|sL t_cmp<|sP (.bool (decide ((addI s.G x)=0)))<|s_fork 45 (decide ((addI s.G x)=0)) (fun c19=>?_) (fun c19=>?_)
   .have p20:=dY c19;refine sP2 (pB b 0)<|sP (pB b 2)<|sL (t_load 3 (iw s.ph))<|sL (Lt.to t_cmp (cB (decide_eq_false om:(decide (s.ph=1))=false)))<|sP (.bool false)<|s_nt<|k_false<|k_st<|k_sr<|sP2 (iw (addI s.G x))<|s_nt<|k_ret<|xs_mem (fun _ h=>mc_shut hm13.1 (h.re [1] [])) ?_
    refine xs_mem (fun _ h=>co_shut (c:=s.col) (.inr rfl) (h.re [3,1,0,1,1,1] [])) ?_;have hst:coS b q hb (rgs st s x)=coA b q hb s.ph s.col s.Q s.L s.Fr (addL s.G x) s.P:=by unfold rgs Cst.doom;simp[coS,c7,c9,c10,c14,c16,c19,c9,p11,p15,p18,p20]
    refine xs_fin [iw (addI s.G x)] (coS b q hb (rgs st s x)::hpA hb st::F) (SI.tmp 4 SI.nil) (fun _ h=>by rw[hst];exact h.re [0,0] []) ⟨?_,rfl⟩;exact cI (by unfold regE Cst.doom;simp[c7,c9,c10,c14,c16,c19,c9,p11,p15,p18,p20])
   have p21:=dF c19;refine sK<|sK<|sK<|sK<|sK<|sP (.bool false)<|s_nt<|k_false<|k_st<|k_sr<|sP2 (iw (addI s.G x))<|s_nt<|k_ret<|xs_mem (fun _ h=>mc_shut hm13.1 (h.re [1] [])) ?_
   refine xs_mem (fun _ h=>co_shut (c:=s.col) (.inr rfl) (h.re [3,1,0,1,1,1] [])) ?_;have hst:coS b q hb (rgs st s x)=coA b q hb s.ph s.col s.Q s.L s.Fr (addL s.G x) s.P:=by unfold rgs Cst.doom;simp[coS,c7,c9,c10,c14,c16,c19,c9,p11,p15,p18,p21]
   refine xs_fin [iw (addI s.G x)] (coS b q hb (rgs st s x)::hpA hb st::F) (SI.tmp 4 SI.nil) (fun _ h=>by rw[hst];exact h.re [0,0] []) ⟨?_,rfl⟩;exact cI (by unfold regE Cst.doom;simp[c7,c9,c10,c14,c16,c19,c9,p11,p15,p18,p21])
  have p22:=dF c14;refine sK<|sK<|sK<|sK<|sK<|sK<|sP (.bool false)<|s_nt<|k_false<|k_st<|k_sr<|sP3 (pB b 0)<|sL (t_load 2 (pB q 0))<|sP (iw x)<|sC [3] (add_s (reg:=s.G) x (by have:=hci.gp;omega)) ?_
  refine sP (iw (addI s.G x))<|s_nt<|k_seq<|k_sr<|sP (iw (addI s.G x))<|sL t_cmp<|sP (.bool (decide ((addI s.G x)=0)))<|s_fork 45 (decide ((addI s.G x)=0)) (fun c23=>?_) (fun c23=>?_)
  .have p24:=dY c23;refine sP2 (pB b 0)<|sP (pB b 2)<|sL (t_load 3 (iw s.ph))<|sL (Lt.to t_cmp (cB (decide_eq_false om:(decide (s.ph=1))=false)))<|sP (.bool false)<|s_nt<|k_false<|k_st<|k_sr<|sP2 (iw (addI s.G x))<|s_nt<|k_ret<|xs_mem (fun _ h=>mc_shut hm13.1 (h.re [1] [])) ?_
   refine xs_mem (fun _ h=>co_shut (c:=s.col) (.inr rfl) (h.re [3,1,0,1,1,1] [])) ?_;have hst:coS b q hb (rgs st s x)=coA b q hb s.ph s.col s.Q s.L s.Fr (addL s.G x) s.P:=by unfold rgs Cst.doom;simp[coS,c7,c9,c10,c14,c23,c9,p11,p22,p24]
   refine xs_fin [iw (addI s.G x)] (coS b q hb (rgs st s x)::hpA hb st::F) (SI.tmp 4 SI.nil) (fun _ h=>by rw[hst];exact h.re [0,0] []) ⟨?_,rfl⟩;exact cI (by unfold regE Cst.doom;simp[c7,c9,c10,c14,c23,c9,p11,p22,p24])
  have p25:=dF c23;refine sK<|sK<|sK<|sK<|sK<|sP (.bool false)<|s_nt<|k_false<|k_st<|k_sr<|sP2 (iw (addI s.G x))<|s_nt<|k_ret<|xs_mem (fun _ h=>mc_shut hm13.1 (h.re [1] [])) ?_
  refine xs_mem (fun _ h=>co_shut (c:=s.col) (.inr rfl) (h.re [3,1,0,1,1,1] [])) ?_;have hst:coS b q hb (rgs st s x)=coA b q hb s.ph s.col s.Q s.L s.Fr (addL s.G x) s.P:=by unfold rgs Cst.doom;simp[coS,c7,c9,c10,c14,c23,c9,p11,p22,p25]
  refine xs_fin [iw (addI s.G x)] (coS b q hb (rgs st s x)::hpA hb st::F) (SI.tmp 4 SI.nil) (fun _ h=>by rw[hst];exact h.re [0,0] []) ⟨?_,rfl⟩;exact cI (by unfold regE Cst.doom;simp[c7,c9,c10,c14,c23,c9,p11,p22,p25])
 have p26:=dF c10;refine sK<|sK<|sK<|sK<|sK<|sK<|sK<|sP2 (.bool false)<|sK<|sK<|sK<|sK<|sK<|sK<|sP (.bool false)<|s_nt<|k_false<|k_st<|k_sr<|sP3 (pB b 0)<|sL (t_load 1 (pB q 0))<|sP (iw x)<|sC [2] (add_s (reg:=s.G) x (by have:=hci.gp;omega)) ?_
 refine sP (iw (addI s.G x))<|s_nt<|k_seq<|k_sr<|sP (iw (addI s.G x))<|sL t_cmp<|sP (.bool (decide ((addI s.G x)=0)))<|s_fork 45 (decide ((addI s.G x)=0)) (fun c27=>?_) (fun c27=>?_)
 .have p28:=dY c27;refine sP2 (pB b 0)<|sP (pB b 2)<|sL (t_load 2 (iw s.ph))<|sL t_cmp<|sP (.bool (decide (s.ph=1)))<|s_nt<|k_cond (decide (s.ph=1)) (fun c29=>?_) (fun c29=>?_)
  .have p30:=dY c29;obtain rfl:=hc6.resolve_left om;refine k_reg<|sP (pB b 0)<|sP (iw x)<|s_mem (fun _ h=>co_shut (c:=s.col) (.inr rfl) (h.re [2,0,1,1,1,1] [])) ?_
   refine s_mem (Bs:=coA b q hb 1 s.col s.Q s.L s.Fr (addL s.G x) s.P::hpA hb st::F) (fun _ h=>by rw[show s.ph=1 by omega]at h;exact h) ?_;refine sC [0,0] (creach_s (Q:=s.Q) (by have:=hci.ql;omega) x) ?_;refine s_nr<|sP2 (iw (addI s.G x))<|s_nt<|k_ret ?_
   have hst:coS b q hb (rgs st s x)=coA b q hb 1 (rchM st s.col x) (rchQ st s.col s.Q x) s.L s.Fr (addL s.G x) s.P:=by unfold rgs Cst.doom;simp[coS,c7,c9,c10,c27,c29,c9,p26,p28,p30]
   refine xs_fin [iw (addI s.G x)] (coS b q hb (rgs st s x)::hpA hb st::F) (SI.tmp 4 SI.nil) (fun _ h=>by rw[hst];exact h.re [0,0] []) ⟨?_,rfl⟩;exact cI (by unfold regE Cst.doom;simp[c7,c9,c10,c27,c29,c9,p26,p28,p30])
  have p31:=dF c29;refine k_st<|k_sr<|sP2 (iw (addI s.G x))<|s_nt<|k_ret<|xs_mem (fun _ h=>co_shut (c:=s.col) hc6 (h.re [2,0,1,1,1,1] [])) ?_
  have hst:coS b q hb (rgs st s x)=coA b q hb s.ph s.col s.Q s.L s.Fr (addL s.G x) s.P:=by unfold rgs Cst.doom;simp[coS,c7,c9,c10,c27,c29,c9,p26,p28,p31]
  refine xs_fin [iw (addI s.G x)] (coS b q hb (rgs st s x)::hpA hb st::F) (SI.tmp 4 SI.nil) (fun _ h=>by rw[hst];exact h.re [0,0] []) ⟨?_,rfl⟩;exact cI (by unfold regE Cst.doom;simp[c7,c9,c10,c27,c29,c9,p26,p28,p31])
 have p32:=dF c27;refine sK<|sK<|sK<|sK<|sK<|sP (.bool false)<|s_nt<|k_false<|k_st<|k_sr<|sP2 (iw (addI s.G x))<|s_nt<|k_ret<|xs_mem (fun _ h=>co_shut (c:=s.col) hc6 (h.re [2,0,1,1,1,1] [])) ?_
 have hst:coS b q hb (rgs st s x)=coA b q hb s.ph s.col s.Q s.L s.Fr (addL s.G x) s.P:=by unfold rgs Cst.doom;simp[coS,c7,c9,c10,c27,c9,p26,p32]
 refine xs_fin [iw (addI s.G x)] (coS b q hb (rgs st s x)::hpA hb st::F) (SI.tmp 4 SI.nil) (fun _ h=>by rw[hst];exact h.re [0,0] []) ⟨?_,rfl⟩;exact cI (by unfold regE Cst.doom;simp[c7,c9,c10,c27,c9,p26,p32])
theorem cphase_s{Z:Zone}{F:List Asr}{b q hb:Nat}{ph:Int}{m:Int→Int}{Q L Fr G P:List Int}:SF Tryz.prog 15 #[.pointer (some ⟨b,0,none⟩)] Z (coA b q hb ph m Q L Fr G P::F) fun r Bs=>r=iw ph∧Bs=coA b q hb ph m Q L Fr G P::F:=by
 refine sf_enter Tryz.func15 9 [(0,pB b 0)] (fun w0=>?_);refine k_sr<|sP (iw 0)<|s_nt<|k_seq<|k_sr<|sP (pB b 0)<|sP (.bool false)<|s_nt<|k_false<|k_st<|k_sr<|sP2 (pB b 0)<|sP (pB b 2)<|s_mem5 (fun H h=>co_open (h.re [0] [])) (fun mb1 qv2 lv3 fv4 cl5 hw=>?_)
 have hc6:=hw;refine sL (t_load 0 (iw ph))<|sP (iw ph)<|s_nt<|k_ret<|xs_mem (fun _ h=>co_shut (c:=m) hc6 (h.re [0,0,0,0,0,0] [])) ?_
 exact xs_fin [iw ph] (coA b q hb ph m Q L Fr G P::F) (SI.tmp 2 SI.nil) (rr [0] []) ⟨rfl,rfl⟩
end Go.Proofs.YtmhpcebiamkciaaGreat
end
section
set_option linter.unusedSimpArgs false
set_option linter.unusedVariables false
namespace Go.Proofs.YtmhpcebiamkciaaGreat
structure Mk where
 id:Int
 color:Int
 deriving DecidableEq
def MkS(C:List Mk):Prop:=C.Pairwise fun a b=>a.id<b.id
structure MkC(C:List Mk)(c:Int→Int):Prop where
 srt:MkS C
 yes:∀m∈C,c m.id=m.color
 no:∀id,(∀m∈C,m.id≠id)→c id=0
 rng:∀m∈C,1≤m.id∧m.id≤1000
theorem MkC.nil:MkC [] c0:=⟨List.Pairwise.nil,fun m h=>(by cases h),fun _ _=>rfl,fun m h=>(by cases h)⟩
theorem asc_rng:∀(l:List Int) (k:Int),l.Pairwise (· < ·)→(∀x∈l,k<x∧x≤1000)→k≤1000→(l.length:Int)≤1000-k
 | [],k,_,_,hk=>by simp;omega
 | a::r,k,hp,hr,hk=>by
  have h1:=hr a (by simp);have h2:=asc_rng r a (List.pairwise_cons.1 hp).2 (fun x hx=>⟨(List.pairwise_cons.1 hp).1 x hx,(hr x (List.mem_cons_of_mem _ hx)).2⟩) h1.2;simp only[List.length_cons];omega
theorem MkC.len {C : List Mk} {c : Int → Int} (h : MkC C c) : C.length ≤ 1000 := by
  have := asc_rng (C.map Mk.id) 0 (List.pairwise_map.2 h.srt) (fun x hx => by
    obtain ⟨m, hm, rfl⟩ := List.mem_map.1 hx
    have := h.rng m hm; omega) (by decide)
  rw [List.length_map] at this; omega
structure PlI(C:List Mk)(id:Int)(k:Nat):Prop where
 le:k≤C.length
 lt:∀m∈C.take k,m.id<id
 ge:∀m∈C.drop k,id≤m.id
theorem get_cut{C:List Mk}{k:Nat}{m:Mk}(h:C[k]?=some m):C=C.take k++m::C.drop (k+1):=by
 obtain⟨h1,h2⟩:=List.getElem?_eq_some_iff.1 h;rw[←h2,←List.drop_eq_getElem_cons h1,List.take_append_drop]
theorem pl_hit{C:List Mk}{c:Int→Int}{id:Int}{k:Nat}{m:Mk}(hc:MkC C c)(hm:C[k]?=some m)(e:m.id=id):c id=m.color:=by
 rw[←e];exact hc.yes m (List.mem_of_getElem? hm)
theorem pl_ne{C:List Mk}{c:Int→Int}{id:Int}{k:Nat}(hc:MkC C c)(hp:PlI C id k)(hm:∀m,C[k]?=some m→m.id≠id):∀m∈C,m.id≠id:=by
 intro m h e;rw[←List.take_append_drop k C]at h;rcases List.mem_append.1 h with h|h
 .have:=hp.lt m h;omega
 obtain⟨j,hj⟩:=List.mem_iff_getElem?.1 h;cases j with
 | zero=>rw[List.getElem?_drop]at hj;exact hm m hj e
 | succ j=>
  cases hx:C[k]? with
  | none=>
   rw[List.getElem?_drop]at hj;have h1:=(List.getElem?_eq_some_iff.1 hj).1;rw[List.getElem?_eq_none_iff]at hx;omega
  | some a=>
   have hS:=hc.srt;unfold MkS at hS;rw[get_cut hx]at hS;have h2:=(List.pairwise_append.1 hS).2.1;have hd:C.drop k=a::C.drop (k+1):=by
    obtain⟨h1,h2⟩:=List.getElem?_eq_some_iff.1 hx;rw[List.drop_eq_getElem_cons h1,h2]
   rw[hd]at hj;have h3:m∈C.drop (k+1):=List.mem_of_getElem? (by simpa using hj);have h4:=(List.pairwise_cons.1 h2).1 m h3;have h5:=hp.ge a (by rw[hd];simp);have:=hm a hx;omega
theorem pl_miss{C:List Mk}{c:Int→Int}{id:Int}{k:Nat}(hc:MkC C c)(hp:PlI C id k)(hm:∀m,C[k]?=some m→m.id≠id):c id=0:=hc.no id (pl_ne hc hp hm)
theorem pl_set{C:List Mk}{c:Int→Int}{id:Int}{k:Nat}{m:Mk}(hc:MkC C c)(hm:C[k]?=some m)(e:m.id=id)(v:Int):MkC (C.set k ⟨m.id,v⟩) (cset c id v):=by
 have hcut:=get_cut hm;have hl:(C.take k).length=k:=by rw[List.length_take];have:=(List.getElem?_eq_some_iff.1 hm).1;omega
 have hset:C.set k ⟨m.id,v⟩=C.take k++⟨m.id,v⟩::C.drop (k+1):=by
  conv=>lhs;rw[hcut]
  rw[List.set_append_right _ _ om,hl,Nat.sub_self,List.set_cons_zero]
 have hS:=hc.srt;unfold MkS at hS;rw[hcut]at hS;obtain⟨h1,h2,h3⟩:=List.pairwise_append.1 hS;obtain⟨h4,h5⟩:=List.pairwise_cons.1 h2;have hne:∀x∈C.take k++C.drop (k+1),x.id≠id:=by
  intro x hx;rcases List.mem_append.1 hx with hx|hx
  .have:=h3 x hx m (by simp);omega
  have:=h4 x hx;omega
 rw[hset];refine⟨?_,?_,?_,?_⟩
 .unfold MkS;refine List.pairwise_append.2 ⟨h1,List.pairwise_cons.2 ⟨fun x hx=>h4 x hx,h5⟩,fun x hx y hy=>?_⟩;rcases List.mem_cons.1 hy with rfl|hy
  .exact h3 x hx m (by simp)
  exact h3 x hx y (List.mem_cons_of_mem _ hy)
 .intro x hx;rcases List.mem_append.1 hx with hx|hx
  .rw [cset_ne (hne x (List.mem_append.2 (.inl hx)))];exact hc.yes x (by rw[hcut];exact List.mem_append.2 (.inl hx))
  rcases List.mem_cons.1 hx with rfl|hx
  .show cset c id v m.id=v;rw[e];exact cset_self _ _ _
  rw[cset_ne (hne x (List.mem_append.2 (.inr hx)))];exact hc.yes x (by rw[hcut];exact List.mem_append.2 (.inr (List.mem_cons_of_mem _ hx)))
 .intro i hi;have h6:i≠id:=fun q=>hi ⟨m.id,v⟩ (by simp) (by rw[q];exact e)
  rw[cset_ne h6];refine hc.no i fun x hx=>?_
  rw[hcut]at hx;rcases List.mem_append.1 hx with hx|hx
  .exact hi x (List.mem_append.2 (.inl hx))
  rcases List.mem_cons.1 hx with rfl|hx
  .rw [e];exact h6.symm
  exact hi x (List.mem_append.2 (.inr (List.mem_cons_of_mem _ hx)))
 intro x hx;rcases List.mem_append.1 hx with hx|hx
 .exact hc.rng x (List.mem_of_mem_take hx)
 rcases List.mem_cons.1 hx with rfl|hx
 .exact hc.rng m (List.mem_of_getElem? hm)
 exact hc.rng x (List.mem_of_mem_drop hx)
theorem pl_ins{C:List Mk}{c:Int→Int}{id:Int}{k:Nat}(hr:1≤id∧id≤1000)(hc:MkC C c)(hp:PlI C id k)(hm:∀m,C[k]?=some m→m.id≠id)(v:Int):MkC ((C.take k++[⟨id,v⟩])++C.drop k) (cset c id v):=by
 have hne:=pl_ne hc hp hm;have hS:=hc.srt;unfold MkS at hS;rw[←List.take_append_drop k C]at hS;obtain⟨h1,h2,h3⟩:=List.pairwise_append.1 hS;have hin:∀x,x∈(C.take k++[(⟨id,v⟩:Mk)])++C.drop k↔x=⟨id,v⟩∨x∈C:=by
  intro x;conv=>rhs;rw[←List.take_append_drop k C]
  simp only[List.mem_append,List.mem_singleton];constructor
  .rintro ((h|h)|h)<;>simp[h]
  rintro (h|h|h)<;>simp[h]
 refine⟨?_,?_,?_,?_⟩
 .unfold MkS;refine List.pairwise_append.2 ⟨List.pairwise_append.2 ⟨h1,List.pairwise_singleton _ _,fun x hx y hy=>?_⟩,h2,fun x hx y hy=>?_⟩
  .simp at hy;subst hy;exact hp.lt x hx
  rcases List.mem_append.1 hx with hx|hx
  .exact h3 x hx y hy
  simp at hx;subst hx;have h4:=hp.ge y hy;have h5:=hne y (List.mem_of_mem_drop hy);show id<y.id;omega
 .intro x hx;rcases (hin x).1 hx with rfl|hx
  .exact cset_self _ _ _
  rw[cset_ne (hne x hx)];exact hc.yes x hx
 .intro i hi;have h6:i≠id:=fun q=>hi ⟨id,v⟩ ((hin _).2 (.inl rfl)) q.symm
  rw[cset_ne h6];exact hc.no i fun x hx=>hi x ((hin x).2 (.inr hx))
 intro x hx;rcases (hin x).1 hx with rfl|hx
 .exact hr
 exact hc.rng x hx
structure PlB(C:List Mk)(id:Int)(lo hi:Nat):Prop where
 lh:lo≤hi
 le:hi≤C.length
 lt:∀m∈C.take lo,m.id<id
 ge:∀m∈C.drop hi,id≤m.id
theorem PlB.start(C:List Mk)(id:Int):PlB C id 0 C.length:=⟨Nat.zero_le _,Nat.le_refl _,by simp,by simp⟩
theorem PlB.fin{C:List Mk}{id:Int}{lo hi:Nat}(h:PlB C id lo hi)(e:¬lo<hi):PlI C id lo:=by
 have:=h.lh;obtain rfl:lo=hi:=by omega
 exact⟨h.le,h.lt,h.ge⟩
theorem PlB.up{C:List Mk}{id:Int}{lo hi k:Nat}{m:Mk}(hS:MkS C)(h:PlB C id lo hi)(h1:lo≤k)(h2:k<hi)(hm:C[k]?=some m)(hl:m.id<id):PlB C id (k+1) hi:=by
 refine⟨h2,h.le,fun x hx=>?_,h.ge⟩;unfold MkS at hS;rw[get_cut hm]at hS;obtain⟨_,_,h3⟩:=List.pairwise_append.1 hS;rw[List.take_add_one,hm]at hx;rcases List.mem_append.1 hx with hx|hx
 .have:=h3 x hx m (by simp);omega
 simp at hx;subst hx;exact hl
theorem PlB.down{C:List Mk}{id:Int}{lo hi k:Nat}{m:Mk}(hS:MkS C)(h:PlB C id lo hi)(h1:lo≤k)(h2:k<hi)(hm:C[k]?=some m)(hl:¬m.id<id):PlB C id lo k:=by
 have:=h.le;refine⟨h1,by omega,h.lt,fun x hx=>?_⟩;unfold MkS at hS;rw[get_cut hm]at hS;obtain⟨_,h2',_⟩:=List.pairwise_append.1 hS;obtain⟨hk,e⟩:=List.getElem?_eq_some_iff.1 hm;rw[List.drop_eq_getElem_cons hk,e]at hx;rcases List.mem_cons.1 hx with rfl|hx
 .omega
 have:=(List.pairwise_cons.1 h2').1 x hx;omega
end Go.Proofs.YtmhpcebiamkciaaGreat
end
section
set_option linter.unusedSimpArgs false
set_option linter.unusedVariables false
namespace Go.Proofs.YtmhpcebiamkciaaGreat
section
variable{S:List Slt}{X:List Vl}{w y:Vl}
end
section
variable{T:Tb}{L:List Vl}{S:List Slt}
end
section
variable{T:Tb}{L:List Vl}{S:List Slt}{p:Int}
end
end Go.Proofs.YtmhpcebiamkciaaGreat
end
section
set_option linter.unusedSimpArgs false
set_option linter.unusedVariables false
set_option maxRecDepth 100000
set_option maxHeartbeats 2000000
namespace Go.Proofs.YtmhpcebiamkciaaGreat
open Go.Hp Go.J Go.S
open Go.Mem (Ty KTy blk elemAt pre suf blk_pre blk_suf aget aset strK aggDesc)
open Go.Mem (adel apos aget_aset aget_adel)
theorem rtsize_s{Z:Zone}{F:List Asr}{b:Nat}{L:List Vl}{S:List Slt}(hl:L.length≤100000)(hs:S.length≤100000):SF Tryz.prog 229 #[.pointer (some ⟨b,0,none⟩)] Z (rtA b L S::F) fun r Bs=>r=iw (tabSize ⟨L,S⟩)∧Bs=rtA b L S::F:=by
 refine sf_enter Tryz.func229 19 [(0,pB b 0)] (fun w0=>?_);refine k_sr<|sP (iw 0)<|s_nt<|k_seq<|k_sr<|sP (pB b 0)<|sP (.bool false)<|s_nt<|k_false<|k_st<|k_seq<|k_mem2 (fun H h=>rt_open (h.re [0] [])) (fun lv1 r2 hw=>?_)
 refine k_held [blkA b #[lv1,pB r2 0] 229,own VlT lv1 L] ?_;refine hp_ 0 [0,0] (pB b 0) ?_;refine hp_ 1 [0,0] (pB b 0) ?_;refine hp_ 2 [0,0] (pB b 0) ?_;refine h_l 3 rfl [0,0] (fun _=>(t_load 0 lv1)) ?_;refine h_l 4 rfl [0,0] (fun _=>(t_len VlT_ok Tryz.underlying28 (.own 1))) ?_;refine h_l 5 rfl [0,0] (fun _=>(t_mul 2 (L.length:Int) ol)) ?_;refine h_l 6 rfl [0,0] (fun _=>(t_add 4 (2*(L.length:Int)) ol)) ?_;refine hp_ 7 [0,0] (pB b 0) ?_;refine hp_ 8 [0,0] (pB b 0) ?_;refine hp_ 9 [0,0] (pB b 1) ?_;refine h_l 10 rfl [0,0] (fun _=>(t_load 0 (pB r2 0))) ?_;refine h_stepS 11 ?_;refine sC [2] (rmslots_s (S:=S)) ?_;refine nH [1,1]<|h_l 12 rfl [1,1] (fun _=>(t_mul 4 (S.length:Int) ol)) ?_
 refine h_l 13 rfl [1,1] (fun _=>(t_add (4+(2*(L.length:Int))) (4*(S.length:Int)) ol)) ?_;refine hp_ 14 [1,1] (iw ((4+(2*(L.length:Int)))+(4*(S.length:Int)))) ?_;refine h_doneS ?_;refine xs_then<|k_ret<|xs_mem (fun _ h=>rt_shut (h.re [1,1,0] [])) ?_
 refine xs_fin [iw ((4+(2*(L.length:Int)))+(4*(S.length:Int)))] (rtA b L S::F) (SI.tmp 2 SI.nil) (rr [0] []) ⟨?_,rfl⟩;rfl
theorem rn_zero{k:Vl}{T:Tb}(h:OInv T.rest)(h0:k.kind=0)(hz:k≠zVl):tnext T k=(zVl,zVl,false,13):=by
 have hw:whole k=0:=whole_not (.inl om);have hn:lastAt T.rest k=none:=lastAt_nokey fun s hs e=>by
  have:=(h.keys s hs).2;rw[e]at this;exact this h0
 have he:=onext_none (S:=T.rest) hz hn;unfold tnext;rw[if_neg hz,if_neg (by rw[inB_false om];decide),if_neg (by rw[hw];omega),he]
theorem rn_in{k:Vl}{T:Tb}(h:k=zVl∨(1≤whole k∧whole k≤(T.list.length:Int))):tnext T k=tafter T (whole k).toNat:=by
 rcases h with rfl|⟨h1,h2⟩
 .rw [tnext_nil];rfl
 exact tnext_in (fun e=>by rw[e]at h1;exact absurd h1 (by decide)) h1 h2
theorem rn_rest{k:Vl}{T:Tb}(h0:k.kind≠0)(h:¬(1≤whole k∧whole k≤(T.list.length:Int)))(hb:¬((onext T.rest k).2.2.2≠0∧1≤whole k)):tnext T k=onext T.rest k:=by
 unfold tnext;rw[if_neg (fun e=>h0 (by rw[e];rfl)),if_neg (by rw[inB_false h];decide),if_neg hb]
theorem rn_over{k:Vl}{T:Tb}(h0:k.kind≠0)(h:¬(1≤whole k∧whole k≤(T.list.length:Int)))(hb:(onext T.rest k).2.2.2≠0∧1≤whole k):tnext T k=onext T.rest zVl:=
 tnext_over (fun e=>h0 (by rw[e];rfl)) h hb.1 hb.2
theorem rtnext_s{Z:Zone}{F:List Asr}{b:Nat}{L:List Vl}{S:List Slt}(hl:L.length≤100000)(hs:S.length≤100000)(k:Vl):SF Tryz.prog 205 #[.pointer (some ⟨b,0,none⟩),k.v] Z (rtA b L S::F) fun r Bs=>r=nextV (tnext ⟨L,S⟩ k)∧Bs=rtA b L S::F:=by
 refine sf_enter Tryz.func205 116 [(0,pB b 0),(1,.agg (vc k))] (fun w0=>?_);refine k_fact (fun H h=>rt_inv (h.re [0] [])) (fun hinv0=>?_);have hol:=okeys_len S;refine k_sr<|s_box (vc k) (fun g1=>?_)
 refine s_alloc (.agg zc) zc (fun g2=>?_);refine s_alloc (.agg zc) zc (fun g3=>?_);refine sP (.bool false)<|sP (iw 0)<|s_nt<|k_seq<|k_sr<|sP (pB b 0)<|sP (.bool false)<|s_nt<|k_false<|k_st<|k_sr<|sL (t_loadA 2 (vc k))<|sV (fun _ h=>rwhole2_s k)<|sP (iw (whole k))<|s_nt<|k_seq<|k_mem2 (fun H h=>rt_open (h.re [3] [])) (fun lv4 r5 hw=>?_)
 refine k_cut (ι:=Unit) (fun _=>True) (fun _=>[(0,pB b 0),(3,pB g1 0),(4,pB g2 0),(5,pB g3 0),(8,iw (whole k)),(35,.bool ((decide (k.kind=0))||((decide ((1:Int)≤(whole k)))&&(decide ((whole k)≤(L.length:Int))))))]) (fun _=>blkA b #[lv4,pB r5 0] 229::own VlT lv4 L::rmA r5 S::blkA g3 zc 71::blkA g2 zc 71::blkA g1 (vc k) 71::F) ?_ (fun _ _=>?_)
 .refine k_reg<|sP (pB g1 0)<|sL (t_load 5 (iw k.kind))<|sL t_cmp<|sP (.bool (decide (k.kind=0)))<|s_fork 23 (decide (k.kind=0)) (fun c6=>?_) (fun c6=>?_)
  .have p7:=dY c6;refine sK<|sK<|sK<|sK<|sK<|sK<|sK<|sK<|sK<|sK<|sK<|sP (.bool true)<|s_nil ?_
   exact xs_cut () trivial (sub_of rfl (rQ (rQ (rQ (rQ (rQ ⟨⟨rfl,show Value.bool true=Value.bool ((decide (k.kind=0))||((decide ((1:Int)≤(whole k)))&&(decide ((whole k)≤(L.length:Int))))) by first|(simp only[c6,bls];done)|simp[c6]⟩,trivial⟩)))))) (rr [0,0,0,0,0,0] [])
  have p8:=dF c6;refine sP (iw (whole k))<|sL t_cmp<|sP (.bool (decide ((1:Int)≤(whole k))))<|s_fork 26 (decide ((1:Int)≤(whole k))) (fun c9=>?_) (fun c9=>?_)
  .have p10:=dY c9;refine sP (iw (whole k))<|sP3 (pB b 0)<|sL (t_load 0 lv4)<|sL (t_len VlT_ok Tryz.underlying28 (.own 1))<|sL t_cmp<|sP2 (.bool (decide ((whole k)≤(L.length:Int))))<|s_nil ?_
   exact xs_cut () trivial (sub_of rfl (rQ (rQ (rQ (rQ (rQ ⟨⟨rfl,show Value.bool (decide ((whole k)≤(L.length:Int)))=Value.bool ((decide (k.kind=0))||((decide ((1:Int)≤(whole k)))&&(decide ((whole k)≤(L.length:Int))))) by first|(simp only[c6,c9,bls];done)|simp[c6,c9]⟩,trivial⟩)))))) (rr [0,0,0,0,0,0] [])
  have p11:=dF c9;refine sK<|sK<|sK<|sK<|sK<|sK<|sK<|sP2 (.bool false)<|s_nil ?_
  exact xs_cut () trivial (sub_of rfl (rQ (rQ (rQ (rQ (rQ ⟨⟨rfl,show Value.bool false=Value.bool ((decide (k.kind=0))||((decide ((1:Int)≤(whole k)))&&(decide ((whole k)≤(L.length:Int))))) by first|(simp only[c6,c9,bls];done)|simp[c6,c9]⟩,trivial⟩)))))) (rr [0,0,0,0,0,0] [])
 refine k_cond ((decide (k.kind=0))||((decide ((1:Int)≤(whole k)))&&(decide ((whole k)≤(L.length:Int))))) (fun c12=>?_) (fun c12=>?_)
 .have p13:=c12;simp only[Bool.and_eq_true,Bool.or_eq_true,Bool.and_eq_false_iff,Bool.or_eq_false_iff,Bool.not_eq_true',Bool.not_eq_false',decide_eq_true_eq,decide_eq_false_iff_not]at p13;refine k_seq<|k_cut (ι:=Unit) (fun _=>True) (fun _=>[(0,pB b 0),(4,pB g2 0),(5,pB g3 0),(8,iw (whole k)),(43,.bool ((decide (k.kind=0))&&(!(decide (k=zVl)))))]) (fun _=>blkA b #[lv4,pB r5 0] 229::own VlT lv4 L::rmA r5 S::blkA g3 zc 71::blkA g2 zc 71::blkA g1 (vc k) 71::F) ?_ (fun _ _=>?_)
  .refine k_reg<|sP (pB g1 0)<|sL (t_load 5 (iw k.kind))<|sL t_cmp<|sP (.bool (decide (k.kind=0)))<|s_fork 39 (decide (k.kind=0)) (fun c14=>?_) (fun c14=>?_)
   .have p15:=dY c14;refine sL (t_loadA 5 (vc k))<|sL (t_kern (.agg zc))<|sL (t_eqS (fun w=>(eqVlT k zVl w).2))<|sP (.bool (!(decide (k=zVl))))<|s_nil ?_
    exact xs_cut () trivial (sub_of rfl (rQ (rQ (rQ (rQ ⟨⟨rfl,show Value.bool (!(decide (k=zVl)))=Value.bool ((decide (k.kind=0))&&(!(decide (k=zVl)))) by first|(simp only[c14,bls];done)|simp[c14]⟩,trivial⟩))))) (rr [0,0,0,0,0,0] [])
   have p16:=dF c14;refine sK<|sK<|sK<|sP (.bool false)<|s_nil ?_
   exact xs_cut () trivial (sub_of rfl (rQ (rQ (rQ (rQ ⟨⟨rfl,show Value.bool false=Value.bool ((decide (k.kind=0))&&(!(decide (k=zVl)))) by first|(simp only[c14,bls];done)|simp[c14]⟩,trivial⟩))))) (rr [0,0,0,0,0,0] [])
  refine k_cond ((decide (k.kind=0))&&(!(decide (k=zVl)))) (fun c17=>?_) (fun c17=>?_)
  .obtain ⟨c18,c19⟩:=and_t c17;have p20:=dY c18;have c21:=not_t c19;have p22:=dF c21;refine k_sr<|sL (t_kern (.agg zc))<|sL (t_kern (.agg zc))<|s_store 4 zc ?_
   refine s_store 3 zc ?_;refine sP (.bool false)<|sP (iw 13)<|s_nt<|k_ret<|xs_ret<|xs_ret<|xs_mem (fun _ h=>rt_shut (h.re [0,0,0] [])) ?_
   have hp:tnext ⟨L,S⟩ k=(zVl,zVl,false,13):=rn_zero (T:=⟨L,S⟩) hinv0 (by grind) (by grind);refine xs_fin [.agg zc,.agg zc,.bool false,iw 13] (rtA b L S::F) (SI.agg 4 71 2 (SI.agg 5 71 1 (SI.tmp 6 (SI.tmp 7 SI.nil)))) (rr [0] [1,1,1]) ⟨?_,rfl⟩;rw[hp];rfl
  have p23:=c17;simp only[Bool.and_eq_true,Bool.or_eq_true,Bool.and_eq_false_iff,Bool.or_eq_false_iff,Bool.not_eq_true',Bool.not_eq_false',decide_eq_true_eq,decide_eq_false_iff_not]at p23;refine k_st<|k_seq<|k_sr<|sP2 (iw (whole k))<|s_nt<|k_block<|k_mem (fun _ h=>rt_shut (h.re [0,0,0] [])) ?_
  have hin:k=zVl∨(1≤whole k∧whole k≤(L.length:Int)):=by grind
  have hw0:0≤whole k∧whole k≤(L.length:Int):=by have hz:whole zVl=0:=rfl;grind
  refine k_loop (ι:=Nat) (fun i=>(whole k).toNat≤i∧i≤L.length∧seek (L.drop i) i=seek (L.drop (whole k).toNat) (whole k).toNat) (fun i=>[(0,pB b 0),(4,pB g2 0),(5,pB g3 0),(9,iw (i:Int))]) (fun i=>rtA b L S::blkA g3 zc 71::blkA g2 zc 71::blkA g1 (vc k) 71::F) (fun i=>L.length-i) ((whole k).toNat) ⟨by omega,by omega,rfl⟩ (sub_of rfl (rQ (rQ (rQ ⟨⟨rfl,cI om⟩,trivial⟩)))) (rr [0,0,0,0] []) ?_;rintro i hi24;show SK _ _ _ _ _ [(0,.pointer (some ⟨b,0,none⟩)),(4,.pointer (some ⟨g2,0,none⟩)),(5,.pointer (some ⟨g3,0,none⟩)),(9,iw (i:Int))] _ (rtA b L S::blkA g3 zc 71::blkA g2 zc 71::blkA g1 (vc k) 71::F);refine k_seq<|k_sr<|sP (iw (i:Int))<|sP3 (pB b 0)<|s_mem2 (fun H h=>rt_open (h.re [0] [])) (fun lv25 r26 hw=>?_)
  refine sL (t_load 0 lv25)<|sL (t_len VlT_ok Tryz.underlying28 (.own 1))<|sL t_cmp<|s_nt<|k_cond (decide ((i:Int)<(L.length:Int))) (fun c27=>?_) (fun c27=>?_)
  .have p28:=dY c27;refine k_st<|k_seq<|k_block<|k_sr<|sP3 (pB b 0)<|sL (t_load 0 lv25)<|sP (iw (i:Int))<|sL (t_index VlT_ok Tryz.underlying28 (.own 1) (i:Int) i om ol om)<|sP (.pointer (some (elemAt VlT.size lv25 i))) ?_
   obtain⟨y29,hy30⟩:∃y,L[i]?=some y:=⟨_,List.getElem?_eq_getElem ol⟩;refine sL (t_loadF 0 VlT_ok (.own 1) hy30)<|sL t_cmp<|s_nt<|k_cond (decide (y29.kind≠0)) (fun c31=>?_) (fun c31=>?_)
   .have p32:=dY c31;refine k_seq<|k_held [blkA b #[lv25,pB r26 0] 229,own VlT lv25 L,blkA g1 (vc k) 71] ?_
    refine hp_ 0 [0,0,3] (iw (i:Int)) ?_;refine h_l 1 rfl [0,0,3] (fun _=>(t_add (i:Int) 1 ol)) ?_;refine hp_ 3 [0,0,3] (pB b 0) ?_;refine hp_ 4 [0,0,3] (pB b 0) ?_;refine hp_ 5 [0,0,3] (pB b 0) ?_;refine h_l 6 rfl [0,0,3] (fun _=>(t_load 0 lv25)) ?_;refine hp_ 7 [0,0,3] (iw (i:Int)) ?_;refine h_l 8 rfl [0,0,3] (fun _=>(t_index VlT_ok Tryz.underlying28 (.own 1) (i:Int) i om ol om)) ?_;refine h_l 9 rfl [0,0,3] (fun _=>(t_loadE VlT_ok (.own 1) hy30)) ?_;refine h_stepS 2 ?_;refine sV (fun _ h=>rkey_s ((i:Int)+1))<|nH [0,0,3]<|h_stepS 10 ?_
    refine s_store 4 (vc (ofI ((i:Int)+1))) ?_;refine nH [0,0,3]<|h_stepS 11 ?_
    refine s_store 3 (vc y29) ?_;refine nH [0,0,3]<|hp_ 12 [0,0,3] (.bool true) ?_
    refine hp_ 13 [0,0,3] (iw 0) ?_;refine h_doneS ?_;refine xs_then<|k_ret<|xs_retBlock<|xs_ret<|xs_ret<|xs_retBlock<|xs_ret<|xs_ret<|xs_mem (fun _ h=>rt_shut (h.re [0,0,0] [])) ?_
    have hp:tnext ⟨L,S⟩ k=(ofI ((i:Int)+1),y29,true,0):=(rn_in (T:=⟨L,S⟩) hin).trans (after_found (T:=⟨L,S⟩) hi24.2.2 hy30 (dY c31));refine xs_fin [.agg (vc (ofI ((i:Int)+1))),.agg (vc y29),.bool true,iw 0] (rtA b L S::F) (SI.agg 4 71 2 (SI.agg 5 71 1 (SI.tmp 6 (SI.tmp 7 SI.nil)))) (rr [0] [1,1,1]) ⟨?_,rfl⟩;rw[hp];rfl
   have p33:=Decidable.not_not.1 (dF c31);refine k_skip<|xs_block<|xs_then<|k_reg<|sP (iw (i:Int))<|sL (t_add (i:Int) 1 ol)<|sP (iw ((i:Int)+1))<|s_nil<|xs_mem (fun _ h=>rt_shut (h.re [0,0,0] [])) ?_
   exact xs_round (i+1) om ⟨by omega,by omega,seek_step hi24.2.2 hy30 (dF c31)⟩ sA (rr [0,0,0,0] [])
  have p34:=dF c27;refine k_exit<|xs_exit<|xs_exit<|xs_here<|xs_then<|k_sr<|sP2 (pB b 0)<|sP (pB b 1)<|sL (t_load 0 (pB r26 0))<|sL (t_kern (.agg zc))<|sC [2] (rmnext_s (S:=S) ol zVl) ?_
  refine sP (.agg (vc ((onext S zVl).1)))<|sP (.agg (vc ((onext S zVl).2.1)))<|sP (.bool ((onext S zVl).2.2.1))<|sP (iw ((onext S zVl).2.2.2))<|s_store 4 (vc ((onext S zVl).1)) ?_
  refine s_store 3 (vc ((onext S zVl).2.1)) ?_;refine sP (.bool ((onext S zVl).2.2.1))<|sP (iw ((onext S zVl).2.2.2))<|s_nt<|k_ret<|xs_ret<|xs_mem (fun _ h=>rt_shut (h.re [1,1,0] [])) ?_
  have hp:tnext ⟨L,S⟩ k=onext S zVl:=(rn_in (T:=⟨L,S⟩) hin).trans (after_none (T:=⟨L,S⟩) hi24.2.2 (by show L.length≤i;omega));refine xs_fin [.agg (vc ((onext S zVl).1)),.agg (vc ((onext S zVl).2.1)),.bool ((onext S zVl).2.2.1),iw ((onext S zVl).2.2.2)] (rtA b L S::F) (SI.agg 4 71 2 (SI.agg 5 71 1 (SI.tmp 6 (SI.tmp 7 SI.nil)))) (rr [0] [1,1,1]) ⟨?_,rfl⟩;rw[hp];rfl
 obtain⟨c35,c36⟩:=or_f c12;have p37:=dF c35;have p38:=c36;simp only[Bool.and_eq_true,Bool.or_eq_true,Bool.and_eq_false_iff,Bool.or_eq_false_iff,Bool.not_eq_true',Bool.not_eq_false',decide_eq_true_eq,decide_eq_false_iff_not]at p38;refine k_st<|k_seq<|k_held [blkA b #[lv4,pB r5 0] 229,own VlT lv4 L,blkA g3 zc 71,blkA g2 zc 71,blkA g1 (vc k) 71] ?_
 refine hp_ 0 [0,0,1,1,1] (pB b 0) ?_;refine hp_ 1 [0,0,1,1,1] (pB b 0) ?_;refine hp_ 2 [0,0,1,1,1] (pB b 1) ?_;refine h_l 3 rfl [0,0,1,1,1] (fun _=>(t_load 0 (pB r5 0))) ?_;refine h_l 4 rfl [0,0,1,1,1] (fun _=>(t_loadA 4 (vc k))) ?_;refine h_join (ι:=Nat×Nat) 4 #[true,true,true,true,true,true,true,true,true,true,true,true,true,false,false,false,false] (fun (g39,g40)=>[(0,pB b 0),(4,pB g2 0),(5,pB g3 0),(8,iw (whole k)),(10,pB g39 0),(11,pB g40 0),(92,.agg (vc ((onext S k).1))),(93,.agg (vc ((onext S k).2.1))),(94,.bool ((onext S k).2.2.1)),(95,iw ((onext S k).2.2.2))]) (fun (g39,g40)=>blkA g40 zc 71::blkA g39 zc 71::rmA r5 S::blkA b #[lv4,pB r5 0] 229::own VlT lv4 L::blkA g3 zc 71::blkA g2 zc 71::blkA g1 (vc k) 71::F) ?_ (fun hj47=>?_)
 .rintro ⟨g39,g40⟩;try dsimp only
  refine h_stepS 13 ?_;refine s_store 1 (vc ((onext S k).1)) ?_;refine nH [3,3,3,3,3]<|h_stepS 14 ?_
  refine s_store 0 (vc ((onext S k).2.1)) ?_;refine nH [3,3,3,3,3]<|hp_ 15 [3,3,3,3,3] (.bool ((onext S k).2.2.1)) ?_
  refine hp_ 16 [3,3,3,3,3] (iw ((onext S k).2.2.2)) ?_;refine h_doneS ?_;refine xs_then<|k_seq<|k_cut (ι:=Unit) (fun _=>True) (fun _=>[(0,pB b 0),(4,pB g2 0),(5,pB g3 0),(10,pB g39 0),(11,pB g40 0),(12,.bool ((onext S k).2.2.1)),(13,iw ((onext S k).2.2.2)),(101,.bool ((decide ((onext S k).2.2.2≠0))&&(decide ((1:Int)≤(whole k)))))]) (fun _=>blkA g40 (vc ((onext S k).2.1)) 71::blkA g39 (vc ((onext S k).1)) 71::rmA r5 S::blkA b #[lv4,pB r5 0] 229::own VlT lv4 L::blkA g3 zc 71::blkA g2 zc 71::blkA g1 (vc k) 71::F) ?_ (fun _ _=>?_)
  .refine k_reg<|sP (iw ((onext S k).2.2.2))<|sL t_cmp<|sP (.bool (decide ((onext S k).2.2.2≠0)))<|s_fork 98 (decide ((onext S k).2.2.2≠0)) (fun c48=>?_) (fun c48=>?_)
   .have p49:=dY c48;refine sP (iw (whole k))<|sL t_cmp<|sP (.bool (decide ((1:Int)≤(whole k))))<|s_nil ?_
    exact xs_cut () trivial (sub_of rfl (rQ (rQ (rQ (rQ (rQ (rQ (rQ ⟨⟨rfl,show Value.bool (decide ((1:Int)≤(whole k)))=Value.bool ((decide ((onext S k).2.2.2≠0))&&(decide ((1:Int)≤(whole k)))) by first|(simp only[c48,bls];done)|simp[c48]⟩,trivial⟩)))))))) (rr [0,0,0,0,0,0,0,0] [])
   have p50:=Decidable.not_not.1 (dF c48);refine sK<|sK<|sP (.bool false)<|s_nil ?_
   exact xs_cut () trivial (sub_of rfl (rQ (rQ (rQ (rQ (rQ (rQ (rQ ⟨⟨rfl,show Value.bool false=Value.bool ((decide ((onext S k).2.2.2≠0))&&(decide ((1:Int)≤(whole k)))) by first|(simp only[c48,bls];done)|simp[c48]⟩,trivial⟩)))))))) (rr [0,0,0,0,0,0,0,0] [])
  refine k_cond ((decide ((onext S k).2.2.2≠0))&&(decide ((1:Int)≤(whole k)))) (fun c51=>?_) (fun c51=>?_)
  .obtain ⟨c52,c53⟩:=and_t c51;have p54:=dY c52;have p55:=dY c53;refine k_sr<|sP2 (pB b 0)<|sP (pB b 1)<|sL (t_load 3 (pB r5 0))<|sL (t_kern (.agg zc))<|sC [2] (rmnext_s (S:=S) ol zVl) ?_
   refine sP (.agg (vc ((onext S zVl).1)))<|sP (.agg (vc ((onext S zVl).2.1)))<|sP (.bool ((onext S zVl).2.2.1))<|sP (iw ((onext S zVl).2.2.2))<|s_store 6 (vc ((onext S zVl).1)) ?_
   refine s_store 5 (vc ((onext S zVl).2.1)) ?_;refine sP (.bool ((onext S zVl).2.2.1))<|sP (iw ((onext S zVl).2.2.2))<|s_nt<|k_ret<|xs_ret<|xs_mem (fun _ h=>rt_shut (h.re [3,3,0] [])) ?_
   have hp:tnext ⟨L,S⟩ k=onext S zVl:=rn_over (T:=⟨L,S⟩) (by grind) (by show ¬(_∧_≤(L.length:Int));grind) (by show (onext S k).2.2.2≠0∧_;grind);refine xs_fin [.agg (vc ((onext S zVl).1)),.agg (vc ((onext S zVl).2.1)),.bool ((onext S zVl).2.2.1),iw ((onext S zVl).2.2.2)] (rtA b L S::F) (SI.agg 4 71 4 (SI.agg 5 71 3 (SI.tmp 6 (SI.tmp 7 SI.nil)))) (rr [0] [1,1,1,1,1]) ⟨?_,rfl⟩;rw[hp];rfl
  have p56:=c51;simp only[Bool.and_eq_true,Bool.or_eq_true,Bool.and_eq_false_iff,Bool.or_eq_false_iff,Bool.not_eq_true',Bool.not_eq_false',decide_eq_true_eq,decide_eq_false_iff_not]at p56;refine k_st<|k_seq<|k_held [blkA g40 (vc ((onext S k).2.1)) 71,blkA g39 (vc ((onext S k).1)) 71,blkA b #[lv4,pB r5 0] 229,own VlT lv4 L,blkA g1 (vc k) 71] ?_
  refine h_l 0 rfl [0,0,1,1,3] (fun _=>(t_loadA 1 (vc ((onext S k).1)))) ?_;refine h_l 1 rfl [0,0,1,1,3] (fun _=>(t_loadA 0 (vc ((onext S k).2.1)))) ?_;refine hp_ 2 [0,0,1,1,3] (.bool ((onext S k).2.2.1)) ?_;refine hp_ 3 [0,0,1,1,3] (iw ((onext S k).2.2.2)) ?_;refine h_stepS 4 ?_;refine s_store 6 (vc ((onext S k).1)) ?_;refine nH [0,0,1,1,3]<|h_stepS 5 ?_
  refine s_store 5 (vc ((onext S k).2.1)) ?_;refine nH [0,0,1,1,3]<|hp_ 6 [0,0,1,1,3] (.bool ((onext S k).2.2.1)) ?_
  refine hp_ 7 [0,0,1,1,3] (iw ((onext S k).2.2.2)) ?_;refine h_doneS ?_;refine xs_then<|k_ret<|xs_mem (fun _ h=>rt_shut (h.re [3,3,2] [])) ?_
  have hp:tnext ⟨L,S⟩ k=onext S k:=rn_rest (T:=⟨L,S⟩) (by grind) (by show ¬(_∧_≤(L.length:Int));grind) (by show ¬((onext S k).2.2.2≠0∧_);grind);refine xs_fin [.agg (vc ((onext S k).1)),.agg (vc ((onext S k).2.1)),.bool ((onext S k).2.2.1),iw ((onext S k).2.2.2)] (rtA b L S::F) (SI.agg 4 71 4 (SI.agg 5 71 3 (SI.tmp 6 (SI.tmp 7 SI.nil)))) (rr [0] [1,1,1,1,1]) ⟨?_,rfl⟩;rw[hp];rfl
 refine h_join (ι:=Nat) 5 #[true,true,true,true,true,true,true,true,true,true,true,true,false,false,false,false,false] (fun g39=>[(0,pB b 0),(4,pB g2 0),(5,pB g3 0),(8,iw (whole k)),(10,pB g39 0),(92,.agg (vc ((onext S k).1))),(93,.agg (vc ((onext S k).2.1))),(94,.bool ((onext S k).2.2.1)),(95,iw ((onext S k).2.2.2))]) (fun g39=>blkA g39 zc 71::rmA r5 S::blkA b #[lv4,pB r5 0] 229::own VlT lv4 L::blkA g3 zc 71::blkA g2 zc 71::blkA g1 (vc k) 71::F) ?_ (fun hj57=>?_)
 .rintro g39;try dsimp only
  refine h_stepS 12 ?_;refine s_alloc (.agg zc) zc (fun g58=>?_);refine nH [3,3,3,3,3] ?_;exact h_use hj47 (g39,g58) (rr [0,0,0,0,0,0,0,0] [])
 refine h_join (ι:=Nat) 5 #[true,true,true,true,true,true,true,true,true,true,true,false,true,false,false,false,false] (fun g41=>[(0,pB b 0),(4,pB g2 0),(5,pB g3 0),(8,iw (whole k)),(11,pB g41 0),(92,.agg (vc ((onext S k).1))),(93,.agg (vc ((onext S k).2.1))),(94,.bool ((onext S k).2.2.1)),(95,iw ((onext S k).2.2.2))]) (fun g41=>blkA g41 zc 71::rmA r5 S::blkA b #[lv4,pB r5 0] 229::own VlT lv4 L::blkA g3 zc 71::blkA g2 zc 71::blkA g1 (vc k) 71::F) ?_ (fun hj59=>?_)
 .rintro g41;try dsimp only
  refine h_stepS 11 ?_;refine s_alloc (.agg zc) zc (fun g60=>?_);refine nH [3,3,3,3,3] ?_;exact h_use hj47 (g60,g41) (rr [1,0,0,0,0,0,0,0] [])
 refine h_join (ι:=Nat×Nat) 10 #[true,true,true,true,true,false,false,false,false,false,false,true,true,false,false,false,false] (fun (g43,g44)=>[(0,pB b 0),(4,pB g2 0),(5,pB g3 0),(8,iw (whole k)),(10,pB g43 0),(11,pB g44 0),(89,pB r5 0),(90,.agg (vc k))]) (fun (g43,g44)=>blkA g44 zc 71::blkA g43 zc 71::blkA b #[lv4,pB r5 0] 229::own VlT lv4 L::rmA r5 S::blkA g3 zc 71::blkA g2 zc 71::blkA g1 (vc k) 71::F) ?_ (fun hj61=>?_)
 .rintro ⟨g43,g44⟩;try dsimp only
  refine h_stepS 5 ?_;refine sC [4] (rmnext_s (S:=S) ol k) ?_;refine nH [3,3,3,3,3]<|hp_ 6 [3,3,3,3,3] (.tuple #[.agg (vc ((onext S k).1)),.agg (vc ((onext S k).2.1)),.bool ((onext S k).2.2.1),iw ((onext S k).2.2.2)]) ?_
  refine hp_ 7 [3,3,3,3,3] (.agg (vc ((onext S k).1))) ?_;refine hp_ 8 [3,3,3,3,3] (.agg (vc ((onext S k).2.1))) ?_;refine hp_ 9 [3,3,3,3,3] (.bool ((onext S k).2.2.1)) ?_;refine hp_ 10 [3,3,3,3,3] (iw ((onext S k).2.2.2)) ?_;exact h_use hj47 (g43,g44) (rr [1,1,0,0,0,0,0,0] [])
 refine h_stepS3 5 11 12 ?_ ?_ ?_
 .refine sC [2] (rmnext_s (S:=S) ol k) ?_;refine nH [1,1,1,1,1]<|hp_ 6 [1,1,1,1,1] (.tuple #[.agg (vc ((onext S k).1)),.agg (vc ((onext S k).2.1)),.bool ((onext S k).2.2.1),iw ((onext S k).2.2.2)]) ?_
  refine hp_ 7 [1,1,1,1,1] (.agg (vc ((onext S k).1))) ?_;refine hp_ 8 [1,1,1,1,1] (.agg (vc ((onext S k).2.1))) ?_;refine hp_ 9 [1,1,1,1,1] (.bool ((onext S k).2.2.1)) ?_;refine hp_ 10 [1,1,1,1,1] (iw ((onext S k).2.2.2)) ?_;refine h_stepS2 11 12 ?_ ?_
  .refine s_alloc (.agg zc) zc (fun g62=>?_);refine nH [2,2,2,2,2] ?_;exact h_use hj57 g62 (rr [0,0,0,0,0,0,0] [])
  refine s_alloc (.agg zc) zc (fun g63=>?_);refine nH [2,2,2,2,2] ?_;exact h_use hj59 g63 (rr [0,0,0,0,0,0,0] [])
 .refine s_alloc (.agg zc) zc (fun g64=>?_);refine nH [1,1,2,2,2]<|h_stepS2 5 12 ?_ ?_
  .refine sC [3] (rmnext_s (S:=S) ol k) ?_;refine nH [2,2,2,2,2]<|hp_ 6 [2,2,2,2,2] (.tuple #[.agg (vc ((onext S k).1)),.agg (vc ((onext S k).2.1)),.bool ((onext S k).2.2.1),iw ((onext S k).2.2.2)]) ?_
   refine hp_ 7 [2,2,2,2,2] (.agg (vc ((onext S k).1))) ?_;refine hp_ 8 [2,2,2,2,2] (.agg (vc ((onext S k).2.1))) ?_;refine hp_ 9 [2,2,2,2,2] (.bool ((onext S k).2.2.1)) ?_;refine hp_ 10 [2,2,2,2,2] (iw ((onext S k).2.2.2)) ?_;exact h_use hj57 g64 (rr [1,0,0,0,0,0,0] [])
  refine s_alloc (.agg zc) zc (fun g65=>?_);refine nH [2,2,3,3,3] ?_;exact h_use hj61 (g64,g65) (rr [0,0,0,0,0,0,0,0] [])
 refine s_alloc (.agg zc) zc (fun g66=>?_);refine nH [1,1,2,2,2]<|h_stepS2 5 11 ?_ ?_
 .refine sC [3] (rmnext_s (S:=S) ol k) ?_;refine nH [2,2,2,2,2]<|hp_ 6 [2,2,2,2,2] (.tuple #[.agg (vc ((onext S k).1)),.agg (vc ((onext S k).2.1)),.bool ((onext S k).2.2.1),iw ((onext S k).2.2.2)]) ?_
  refine hp_ 7 [2,2,2,2,2] (.agg (vc ((onext S k).1))) ?_;refine hp_ 8 [2,2,2,2,2] (.agg (vc ((onext S k).2.1))) ?_;refine hp_ 9 [2,2,2,2,2] (.bool ((onext S k).2.2.1)) ?_;refine hp_ 10 [2,2,2,2,2] (iw ((onext S k).2.2.2)) ?_;exact h_use hj59 g66 (rr [1,0,0,0,0,0,0] [])
 refine s_alloc (.agg zc) zc (fun g67=>?_);refine nH [2,2,3,3,3] ?_;exact h_use hj61 (g67,g66) (rr [1,0,0,0,0,0,0,0] [])
end Go.Proofs.YtmhpcebiamkciaaGreat
end
section
set_option linter.unusedSimpArgs false
set_option linter.unusedVariables false
set_option maxRecDepth 100000
set_option maxHeartbeats 2000000
namespace Go.Proofs.YtmhpcebiamkciaaGreat
open Go.Hp Go.J Go.S
open Go.Mem (Ty KTy blk elemAt pre suf blk_pre blk_suf aget aset strK aggDesc)
open Go.Mem (adel apos aget_aset aget_adel)
end Go.Proofs.YtmhpcebiamkciaaGreat
end
