/-
  Tables of the reference. Each law says its conditions.
-/
import Derived.Test.YtmilekfknhglkaaGreatG2
import Derived.Test.YtmilekfknhglkaaGreatG1
import Derived.Shelf.Sort.Plain
import Derived.Lib.SlKeysI
section
set_option linter.unusedSimpArgs false
set_option linter.unusedVariables false
set_option maxRecDepth 100000
set_option maxHeartbeats 2000000
namespace Go.Proofs.YtmilekfknhglkaaGreat
open Go.Hp Go.J Go.S
open Go.Mem (Ty KTy blk elemAt pre suf blk_pre blk_suf aget aset strK aggDesc)
open Go.Mem (adel apos aget_aset aget_adel)
def rtA(b:Nat)(L:List Vl)(S:List Slt):Asr:=exA fun lv=>exA fun r=>stA True [blkA b #[lv,.pointer (some ⟨r,0,none⟩)] 130,own VlT lv L,rmA r S]
theorem rt_open{b:Nat}{L:List Vl}{S:List Slt}{Z:Zone}{F:List Asr}{H:Heap}(h:Holds Z (rtA b L S::F) H):∃(lv:Value) (r:Nat),True∧Holds Z (blkA b #[lv,.pointer (some ⟨r,0,none⟩)] 130::own VlT lv L::rmA r S::F) H:=by
 obtain⟨lv,h⟩:=h.open_ex;obtain⟨r,h⟩:=h.open_ex;exact⟨lv,r,h.open_st⟩
theorem rt_shut{b:Nat}{L:List Vl}{S:List Slt}{Z:Zone}{F:List Asr}{H:Heap}{lv:Value}{r:Nat}(h:Holds Z (blkA b #[lv,.pointer (some ⟨r,0,none⟩)] 130::own VlT lv L::rmA r S::F) H):Holds Z (rtA b L S::F) H:=
 Holds.shut_ex lv (Holds.shut_ex r (Holds.shut_st trivial h))
theorem rt_inv{b:Nat}{L:List Vl}{S:List Slt}{Z:Zone}{F:List Asr}{H:Heap}(h:Holds Z (rtA b L S::F) H):OInv S:=by
 obtain⟨_,_,_,h⟩:=rt_open h;exact rm_inv (h.re [2] [])
theorem whole_not{k:Vl}(h:k.kind≠2∨validB k=false):whole k=0:=by
 unfold whole;rcases h with h|h<;>simp[h]
theorem whole_yes{k:Vl}(h1:k.kind=2)(h2:validB k=true):whole k=if k.q=1 then k.p else 0:=by
 unfold whole;simp[h1,h2]
theorem num_valid{k:Vl}(h1:k.kind=2)(h2:validB k=true):validN k.p k.q=true:=by
 unfold validB at h2;rw[h1,if_neg (by decide),if_neg (by decide),if_pos rfl,Bool.and_eq_true]at h2;exact h2.2
theorem oget_valid0{S:List Slt}(h:OInv S){k:Vl}(hk:validB k=false):oget S k=zVl:=oget_bad h (by simp[okKey,hk])
theorem tget_ref{T:Tb}(h:OInv T.rest){k:Vl}(hb:¬(1≤whole k∧whole k≤(T.list.length:Int))):tget T k=oget T.rest k:=by
 cases hv:validB k with
 | false=>rw[tget_bad hv,oget_valid0 h hv]
 | true=>exact tget_out hv hb
theorem whole_valid{k:Vl}(h:1≤whole k):validB k=true:=by
 cases hv:validB k with
 | true=>rfl
 | false=>rw[whole_not (.inr hv)]at h;omega
theorem rwhole_s{Z:Zone}(p q:Int):SF Tryz.prog 143 #[.agg #[iw p,iw q]] Z [] fun r Bs=>r=.tuple #[iw (if validN p q=true∧q=1 then p else 0),.bool (validN p q&&decide (q=1))]∧Bs=[]:=by
 refine sf_enter Tryz.func143 13 [(0,.agg #[iw p,iw q])] (fun w0=>?_);refine k_sr<|s_box #[iw p,iw q] (fun g1=>?_)
 refine sP (iw 0)<|sP (.bool false)<|s_nt<|k_seq<|k_sr<|sL (t_loadA 0 #[iw p,iw q])<|sV (fun _ h=>rvnum_s p q)<|sP (.bool (validN p q))<|s_fork 6 (validN p q) (fun c2=>?_) (fun c2=>?_)
 .refine sP (pB g1 1)<|sL (t_load 0 (iw q))<|sL t_cmp<|sP (.bool (decide (q=1)))<|s_nt<|k_cond (decide (q=1)) (fun c3=>?_) (fun c3=>?_)
  .have p4:=dY c3;refine k_sr<|sP (pB g1 0)<|sL (t_load 0 (iw p))<|sP (iw p)<|sP (.bool true)<|s_nt<|k_ret<|xs_ret<|xs_fin [iw p,.bool true] [] (SI.tmp 2 (SI.tmp 3 SI.nil)) (rr [] [0]) ⟨?_,rfl⟩
   show Value.tuple _=Value.tuple _;first|(simp[c2,c3,c2,p4];done)|simp_all
  have p5:=dF c3;refine k_st<|k_sr<|sP (iw 0)<|sP (.bool false)<|s_nt<|k_ret<|xs_fin [iw 0,.bool false] [] (SI.tmp 2 (SI.tmp 3 SI.nil)) (rr [] [0]) ⟨?_,rfl⟩
  show Value.tuple _=Value.tuple _;first|(simp[c2,c3,c2,p5];done)|simp_all
 refine sK<|sK<|sK<|sP (.bool false)<|s_nt<|k_false<|k_st<|k_sr<|sP (iw 0)<|sP (.bool false)<|s_nt<|k_ret<|xs_fin [iw 0,.bool false] [] (SI.tmp 2 (SI.tmp 3 SI.nil)) (rr [] [0]) ⟨?_,rfl⟩
 show Value.tuple _=Value.tuple _;first|(simp[c2,c2];done)|simp_all
theorem rwhole2_s{Z:Zone}(k:Vl):SF Tryz.prog 118 #[k.v] Z [] fun r Bs=>r=iw (whole k)∧Bs=[]:=by
 refine sf_enter Tryz.func118 20 [(0,.agg (vc k))] (fun w0=>?_);refine k_sr<|s_box (vc k) (fun g1=>?_)
 refine sP (iw 0)<|s_nt<|k_seq<|k_cut (ι:=Unit) (fun _=>True) (fun _=>[(1,pB g1 0),(12,.bool ((decide (k.kind≠2))||(!(validB k))))]) (fun _=>[blkA g1 (vc k) 32]) ?_ (fun _ _=>?_)
 .refine k_reg<|sP (pB g1 0)<|sL (t_load 0 (iw k.kind))<|sL t_cmp<|sP (.bool (decide (k.kind≠2)))<|s_fork 8 (decide (k.kind≠2)) (fun c2=>?_) (fun c2=>?_)
  .have p3:=dY c2;refine sK<|sK<|sK<|sP (.bool true)<|s_nil ?_
   exact xs_cut () trivial (sub_of rfl (rQ ⟨⟨rfl,show Value.bool true=Value.bool ((decide (k.kind≠2))||(!(validB k))) by first|(simp only[c2,bls];done)|simp[c2]⟩,trivial⟩)) (rr [0] [])
  have p4:=Decidable.not_not.1 (dF c2);refine sL (t_loadA 0 (vc k))<|sV (fun _ h=>rvalid_s k)<|sP2 (.bool (!(validB k)))<|s_nil ?_
  exact xs_cut () trivial (sub_of rfl (rQ ⟨⟨rfl,show Value.bool (!(validB k))=Value.bool ((decide (k.kind≠2))||(!(validB k))) by first|(simp only[c2,bls];done)|simp[c2]⟩,trivial⟩)) (rr [0] [])
 refine k_cond ((decide (k.kind≠2))||(!(validB k))) (fun c5=>?_) (fun c5=>?_)
 .have p6:=c5;simp only[Bool.and_eq_true,Bool.or_eq_true,Bool.and_eq_false_iff,Bool.or_eq_false_iff,Bool.not_eq_true',Bool.not_eq_false',decide_eq_true_eq,decide_eq_false_iff_not]at p6;refine k_sr<|sP (iw 0)<|s_nt<|k_ret<|xs_ret<|xs_fin [iw 0] [] (SI.tmp 2 SI.nil) (rr [] [0]) ⟨cI ?_,rfl⟩
  exact (whole_not (by first|exact p6|exact .inl p6|exact .inr p6)).symm
 obtain⟨c7,c8⟩:=or_f c5;have p9:=Decidable.not_not.1 (dF c7);have c10:=not_f c8;refine k_st<|k_sr<|sP (pB g1 1)<|sL (t_loadA 0 #[iw k.p,iw k.q])<|sV (fun _ h=>rwhole_s k.p k.q)<|sP (.tuple #[iw (if validN k.p k.q=true∧k.q=1 then k.p else 0),.bool (validN k.p k.q&&decide (k.q=1))])<|sP (iw (if validN k.p k.q=true∧k.q=1 then k.p else 0))<|sP (.bool (validN k.p k.q&&decide (k.q=1)))<|sP (iw (if validN k.p k.q=true∧k.q=1 then k.p else 0))<|sP (.bool (validN k.p k.q&&decide (k.q=1)))<|s_nr<|sP2 (iw (if validN k.p k.q=true∧k.q=1 then k.p else 0))<|s_nt<|k_ret<|xs_fin [iw (if validN k.p k.q=true∧k.q=1 then k.p else 0)] [] (SI.tmp 2 SI.nil) (rr [] [0]) ⟨cI ?_,rfl⟩
 have h2:k.kind=2:=Decidable.not_not.1 (dF c7);rw[whole_yes h2 c10,num_valid h2 c10];simp
theorem rtnew_s{Z:Zone}:SF Tryz.prog 86 #[] Z [] fun r Bs=>∃b,r=.pointer (some ⟨b,0,none⟩)∧Bs=[rtA b [] []]:=by
 refine sf_enter Tryz.func86 4 [] (fun w0=>?_);refine k_sr<|sP (.pointer none)<|s_nr<|s_pcall (fun _ h=>rmnew_s) ?_
 rintro _ _ ⟨r1,rfl,rfl⟩;refine sL (t_kern (.agg #[(.slice none 0 0),pB r1 0]))<|s_box #[(.slice none 0 0),pB r1 0] (fun g2=>?_)
 refine sP (pB g2 0)<|s_nt<|k_ret<|xs_fin [pB g2 0] [rtA g2 [] []] (SI.tmp 0 SI.nil) (fun _ h=>rt_shut (b:=g2) (lv:=.slice none 0 0) (r:=r1) ((Holds.nilS (T:=VlT) h).re [1,0,0] [])) ⟨g2,rfl,rfl⟩
theorem rtget_s{Z:Zone}{F:List Asr}{b:Nat}{L:List Vl}{S:List Slt}(hl:L.length≤1000000)(hs:S.length≤1000000)(k:Vl):SF Tryz.prog 88 #[.pointer (some ⟨b,0,none⟩),k.v] Z (rtA b L S::F) fun r Bs=>r=(tget ⟨L,S⟩ k).v∧Bs=rtA b L S::F:=by
 refine sf_enter Tryz.func88 36 [(0,pB b 0),(1,.agg (vc k))] (fun w0=>?_);refine k_fact (fun H h=>rt_inv (h.re [0] [])) (fun hinv0=>?_);have hol:=okeys_len S;refine k_sr<|s_box (vc k) (fun g1=>?_)
 refine s_alloc (.agg zc) zc (fun g2=>?_);refine s_nt<|k_seq<|k_sr<|sP (pB b 0)<|sP (.bool false)<|s_nt<|k_false<|k_st<|k_seq<|k_sr<|sL (t_loadA 1 (vc k))<|sV (fun _ h=>rwhole2_s k)<|sP (iw (whole k))<|s_nr<|sP (iw (whole k))<|sL t_cmp<|sP (.bool (decide ((1:Int)≤(whole k))))<|s_fork 13 (decide ((1:Int)≤(whole k))) (fun c3=>?_) (fun c3=>?_)
 .have p4:=dY c3;refine sP (iw (whole k))<|sP3 (pB b 0)<|s_mem2 (fun H h=>rt_open (h.re [2] [])) (fun lv5 r6 hw=>?_)
  refine sL (t_load 0 lv5)<|sL (t_len VlT_ok Tryz.underlying37 (.own 1))<|sL t_cmp<|sP (.bool (decide ((whole k)≤(L.length:Int))))<|s_nt<|k_cond (decide ((whole k)≤(L.length:Int))) (fun c7=>?_) (fun c7=>?_)
  .have p8:=dY c7;refine k_sr<|sP3 (pB b 0)<|sL (t_load 0 lv5)<|sP (iw (whole k))<|sL (t_sub (whole k) 1 ol)<|sL (t_index VlT_ok Tryz.underlying37 (.own 1) ((whole k)-1) ((((whole k)-1)).toNat) om ol om) ?_
   obtain⟨y9,hy10⟩:∃y,L[(((whole k)-1)).toNat]?=some y:=⟨_,List.getElem?_eq_getElem ol⟩;refine sL (t_loadE VlT_ok (.own 1) hy10)<|s_store 3 (vc y9) ?_
   refine s_nt<|k_ret<|xs_ret<|xs_mem (fun _ h=>rt_shut (h.re [0,0,0] [])) ?_
   refine xs_fin [.agg (vc y9)] (rtA b L S::F) (SI.agg 4 32 1 SI.nil) (rr [0] [1,1]) ⟨?_,rfl⟩;rw[tget_in (T:=⟨L,S⟩) (whole_valid om) om (by show _≤(L.length:Int);omega) hy10];rfl
  have p11:=dF c7;refine k_st<|k_seq<|k_draw<|sP2 (pB b 0)<|sP (pB b 1)<|sL (t_load 0 (pB r6 0))<|sL (t_loadA 4 (vc k))<|sC [2] (rmget_s (S:=S) ol k) ?_
  refine s_store 3 (vc (oget S k)) ?_;refine s_nil<|x_dynS (fun _ h=>by kernel_rfl) ?_
  refine xs_then<|k_ret<|xs_mem (fun _ h=>rt_shut (h.re [1,1,0] [])) ?_
  refine xs_fin [.agg (vc (oget S k))] (rtA b L S::F) (SI.agg 4 32 1 SI.nil) (rr [0] [1,1]) ⟨?_,rfl⟩;rw[tget_ref (T:=⟨L,S⟩) hinv0 (by show ¬(_∧_≤(L.length:Int));omega)];rfl
 have p12:=dF c3;refine sK<|sK<|sK<|sK<|sK<|sK<|sK<|sP (.bool false)<|s_nt<|k_false<|k_st<|k_seq<|k_draw<|sP2 (pB b 0)<|sP (pB b 1)<|s_mem2 (fun H h=>rt_open (h.re [2] [])) (fun lv13 r14 hw=>?_)
 refine sL (t_load 0 (pB r14 0))<|sL (t_loadA 4 (vc k))<|sC [2] (rmget_s (S:=S) ol k) ?_
 refine s_store 3 (vc (oget S k)) ?_;refine s_nil<|x_dynS (fun _ h=>by kernel_rfl) ?_
 refine xs_then<|k_ret<|xs_mem (fun _ h=>rt_shut (h.re [1,1,0] [])) ?_
 refine xs_fin [.agg (vc (oget S k))] (rtA b L S::F) (SI.agg 4 32 1 SI.nil) (rr [0] [1,1]) ⟨?_,rfl⟩;rw[tget_ref (T:=⟨L,S⟩) hinv0 (by show ¬(_∧_≤(L.length:Int));omega)];rfl
theorem rtlen_s{Z:Zone}{F:List Asr}{b:Nat}{L:List Vl}{S:List Slt}:SF Tryz.prog 93 #[.pointer (some ⟨b,0,none⟩)] Z (rtA b L S::F) fun r Bs=>r=iw (L.length:Int)∧Bs=rtA b L S::F:=by
 refine sf_enter Tryz.func93 10 [(0,pB b 0)] (fun w0=>?_);refine k_sr<|sP (iw 0)<|s_nt<|k_seq<|k_sr<|sP (pB b 0)<|sP (.bool false)<|s_nt<|k_false<|k_st<|k_sr<|sP3 (pB b 0)<|s_mem2 (fun H h=>rt_open (h.re [0] [])) (fun lv1 r2 hw=>?_)
 refine sL (t_load 0 lv1)<|sL (t_len VlT_ok Tryz.underlying37 (.own 1))<|sP (iw (L.length:Int))<|s_nt<|k_ret<|xs_mem (fun _ h=>rt_shut (h.re [0,0,0] [])) ?_
 refine xs_fin [iw (L.length:Int)] (rtA b L S::F) (SI.tmp 2 SI.nil) (rr [0] []) ⟨?_,rfl⟩;rfl
theorem rtpurge_s{Z:Zone}{F:List Asr}{b:Nat}{L:List Vl}{S:List Slt}(hl:L.length≤1000000)(hs:S.length≤100000){n:Nat}{x:Int}(hn:n≤L.length)(hx:x=(n:Int)+1):SF Tryz.prog 123 #[.pointer (some ⟨b,0,none⟩),iw x] Z (rtA b L S::F) fun r Bs=>r=.tuple #[]∧Bs=rtA b L (if staleB S n L.length then purge S L.length else S)::F:=by
 refine sf_enter Tryz.func123 90 [(0,pB b 0),(1,iw x)] (fun w0=>?_);refine k_fact (fun H h=>rt_inv (h.re [0] [])) (fun hinv0=>?_);have hol:=okeys_len S;refine k_sr<|sP (.bool false)<|s_nt<|k_seq<|k_sr<|sP2 (iw x)<|s_nt<|k_block<|k_loop (ι:=Nat) (fun j=>n≤j∧j≤L.length) (fun j=>[(0,pB b 0),(4,.bool (staleB S n j)),(5,iw ((j:Int)+1))]) (fun j=>rtA b L S::F) (fun j=>L.length-j) n ⟨Nat.le_refl _,hn⟩ (sub_of rfl (rQ ⟨⟨rfl,cB (staleB_self S n).symm⟩,⟨⟨rfl,cI hx⟩,trivial⟩⟩)) (rr [0] []) ?_
 rintro j hi1;show SK _ _ _ _ _ [(0,.pointer (some ⟨b,0,none⟩)),(4,.bool (staleB S n j)),(5,iw ((j:Int)+1))] _ (rtA b L S::F);refine k_seq<|k_sr<|sP (iw ((j:Int)+1))<|sP3 (pB b 0)<|s_mem2 (fun H h=>rt_open (h.re [0] [])) (fun lv2 r3 hw=>?_)
 refine sL (t_load 0 lv2)<|sL (t_len VlT_ok Tryz.underlying37 (.own 1))<|sL t_cmp<|s_nt<|k_cond (decide (((j:Int)+1)≤(L.length:Int))) (fun c4=>?_) (fun c4=>?_)
 .have p5:=dY c4;refine k_st<|k_seq<|k_block<|k_cut (ι:=Unit) (fun _=>True) (fun _=>[(0,pB b 0),(4,.bool (staleB S n j)),(5,iw ((j:Int)+1)),(9,iw ((onext S (ofI ((j:Int)+1))).2.2.2))]) (fun _=>blkA b #[lv2,pB r3 0] 130::own VlT lv2 L::rmA r3 S::F) ?_ (fun _ _=>?_)
  .refine k_held [blkA b #[lv2,pB r3 0] 130,own VlT lv2 L] ?_;refine hp_ 0 [0,0] (pB b 0) ?_;refine hp_ 1 [0,0] (pB b 0) ?_;refine hp_ 2 [0,0] (pB b 1) ?_;refine h_l 3 rfl [0,0] (fun _=>(t_load 0 (pB r3 0))) ?_;refine hp_ 4 [0,0] (iw ((j:Int)+1)) ?_;refine h_stepS3 5 12 13 ?_ ?_ ?_
   .refine sV (fun _ h=>rkey_s ((j:Int)+1))<|nH [0,0]<|h_stepS3 6 12 13 ?_ ?_ ?_
    .refine sC [2] (rmnext_s (S:=S) ol (ofI ((j:Int)+1))) ?_;refine nH [1,1]<|hp_ 7 [1,1] (.tuple #[.agg (vc ((onext S (ofI ((j:Int)+1))).1)),.agg (vc ((onext S (ofI ((j:Int)+1))).2.1)),.bool ((onext S (ofI ((j:Int)+1))).2.2.1),iw ((onext S (ofI ((j:Int)+1))).2.2.2)]) ?_
     refine hp_ 8 [1,1] (.agg (vc ((onext S (ofI ((j:Int)+1))).1))) ?_;refine hp_ 9 [1,1] (.agg (vc ((onext S (ofI ((j:Int)+1))).2.1))) ?_;refine hp_ 10 [1,1] (.bool ((onext S (ofI ((j:Int)+1))).2.2.1)) ?_;refine hp_ 11 [1,1] (iw ((onext S (ofI ((j:Int)+1))).2.2.2)) ?_;refine h_stepS2 12 13 ?_ ?_
     .refine s_alloc (.agg zc) zc (fun g6=>?_);refine nH [2,2]<|h_stepS 13 ?_
      refine s_alloc (.agg zc) zc (fun g7=>?_);refine nH [3,3]<|h_stepS 14 ?_
      refine s_store 1 (vc ((onext S (ofI ((j:Int)+1))).1)) ?_;refine nH [3,3]<|h_stepS 15 ?_
      refine s_store 0 (vc ((onext S (ofI ((j:Int)+1))).2.1)) ?_;refine nH [3,3]<|hp_ 16 [3,3] (.bool ((onext S (ofI ((j:Int)+1))).2.2.1)) ?_
      refine hp_ 17 [3,3] (iw ((onext S (ofI ((j:Int)+1))).2.2.2)) ?_;refine h_doneS ?_;exact xcut () (rr [3,3,2] [3,3])
     refine s_alloc (.agg zc) zc (fun g8=>?_);refine nH [2,2]<|h_stepS 12 ?_
     refine s_alloc (.agg zc) zc (fun g9=>?_);refine nH [3,3]<|h_stepS 14 ?_
     refine s_store 0 (vc ((onext S (ofI ((j:Int)+1))).1)) ?_;refine nH [3,3]<|h_stepS 15 ?_
     refine s_store 1 (vc ((onext S (ofI ((j:Int)+1))).2.1)) ?_;refine nH [3,3]<|hp_ 16 [3,3] (.bool ((onext S (ofI ((j:Int)+1))).2.2.1)) ?_
     refine hp_ 17 [3,3] (iw ((onext S (ofI ((j:Int)+1))).2.2.2)) ?_;refine h_doneS ?_;exact xcut () (rr [3,3,2] [3,3])
    .refine s_alloc (.agg zc) zc (fun g10=>?_);refine nH [1,1]<|h_stepS2 6 13 ?_ ?_
     .refine sC [3] (rmnext_s (S:=S) ol (ofI ((j:Int)+1))) ?_;refine nH [2,2]<|hp_ 7 [2,2] (.tuple #[.agg (vc ((onext S (ofI ((j:Int)+1))).1)),.agg (vc ((onext S (ofI ((j:Int)+1))).2.1)),.bool ((onext S (ofI ((j:Int)+1))).2.2.1),iw ((onext S (ofI ((j:Int)+1))).2.2.2)]) ?_
      refine hp_ 8 [2,2] (.agg (vc ((onext S (ofI ((j:Int)+1))).1))) ?_;refine hp_ 9 [2,2] (.agg (vc ((onext S (ofI ((j:Int)+1))).2.1))) ?_;refine hp_ 10 [2,2] (.bool ((onext S (ofI ((j:Int)+1))).2.2.1)) ?_;refine hp_ 11 [2,2] (iw ((onext S (ofI ((j:Int)+1))).2.2.2)) ?_;refine h_stepS 13 ?_;refine s_alloc (.agg zc) zc (fun g11=>?_);refine nH [3,3]<|h_stepS 14 ?_
      refine s_store 2 (vc ((onext S (ofI ((j:Int)+1))).1)) ?_;refine nH [3,3]<|h_stepS 15 ?_
      refine s_store 0 (vc ((onext S (ofI ((j:Int)+1))).2.1)) ?_;refine nH [3,3]<|hp_ 16 [3,3] (.bool ((onext S (ofI ((j:Int)+1))).2.2.1)) ?_
      refine hp_ 17 [3,3] (iw ((onext S (ofI ((j:Int)+1))).2.2.2)) ?_;refine h_doneS ?_;exact xcut () (rr [3,3,1] [3,3])
     refine s_alloc (.agg zc) zc (fun g12=>?_);refine nH [2,2]<|h_stepS 6 ?_
     refine sC [4] (rmnext_s (S:=S) ol (ofI ((j:Int)+1))) ?_;refine nH [3,3]<|hp_ 7 [3,3] (.tuple #[.agg (vc ((onext S (ofI ((j:Int)+1))).1)),.agg (vc ((onext S (ofI ((j:Int)+1))).2.1)),.bool ((onext S (ofI ((j:Int)+1))).2.2.1),iw ((onext S (ofI ((j:Int)+1))).2.2.2)]) ?_
     refine hp_ 8 [3,3] (.agg (vc ((onext S (ofI ((j:Int)+1))).1))) ?_;refine hp_ 9 [3,3] (.agg (vc ((onext S (ofI ((j:Int)+1))).2.1))) ?_;refine hp_ 10 [3,3] (.bool ((onext S (ofI ((j:Int)+1))).2.2.1)) ?_;refine hp_ 11 [3,3] (iw ((onext S (ofI ((j:Int)+1))).2.2.2)) ?_;refine h_stepS 14 ?_;refine s_store 2 (vc ((onext S (ofI ((j:Int)+1))).1)) ?_;refine nH [3,3]<|h_stepS 15 ?_
     refine s_store 1 (vc ((onext S (ofI ((j:Int)+1))).2.1)) ?_;refine nH [3,3]<|hp_ 16 [3,3] (.bool ((onext S (ofI ((j:Int)+1))).2.2.1)) ?_
     refine hp_ 17 [3,3] (iw ((onext S (ofI ((j:Int)+1))).2.2.2)) ?_;refine h_doneS ?_;exact xcut () (rr [3,3,0] [3,3])
    refine s_alloc (.agg zc) zc (fun g13=>?_);refine nH [1,1]<|h_stepS2 6 12 ?_ ?_
    .refine sC [3] (rmnext_s (S:=S) ol (ofI ((j:Int)+1))) ?_;refine nH [2,2]<|hp_ 7 [2,2] (.tuple #[.agg (vc ((onext S (ofI ((j:Int)+1))).1)),.agg (vc ((onext S (ofI ((j:Int)+1))).2.1)),.bool ((onext S (ofI ((j:Int)+1))).2.2.1),iw ((onext S (ofI ((j:Int)+1))).2.2.2)]) ?_
     refine hp_ 8 [2,2] (.agg (vc ((onext S (ofI ((j:Int)+1))).1))) ?_;refine hp_ 9 [2,2] (.agg (vc ((onext S (ofI ((j:Int)+1))).2.1))) ?_;refine hp_ 10 [2,2] (.bool ((onext S (ofI ((j:Int)+1))).2.2.1)) ?_;refine hp_ 11 [2,2] (iw ((onext S (ofI ((j:Int)+1))).2.2.2)) ?_;refine h_stepS 12 ?_;refine s_alloc (.agg zc) zc (fun g14=>?_);refine nH [3,3]<|h_stepS 14 ?_
     refine s_store 0 (vc ((onext S (ofI ((j:Int)+1))).1)) ?_;refine nH [3,3]<|h_stepS 15 ?_
     refine s_store 2 (vc ((onext S (ofI ((j:Int)+1))).2.1)) ?_;refine nH [3,3]<|hp_ 16 [3,3] (.bool ((onext S (ofI ((j:Int)+1))).2.2.1)) ?_
     refine hp_ 17 [3,3] (iw ((onext S (ofI ((j:Int)+1))).2.2.2)) ?_;refine h_doneS ?_;exact xcut () (rr [3,3,1] [3,3])
    refine s_alloc (.agg zc) zc (fun g15=>?_);refine nH [2,2]<|h_stepS 6 ?_
    refine sC [4] (rmnext_s (S:=S) ol (ofI ((j:Int)+1))) ?_;refine nH [3,3]<|hp_ 7 [3,3] (.tuple #[.agg (vc ((onext S (ofI ((j:Int)+1))).1)),.agg (vc ((onext S (ofI ((j:Int)+1))).2.1)),.bool ((onext S (ofI ((j:Int)+1))).2.2.1),iw ((onext S (ofI ((j:Int)+1))).2.2.2)]) ?_
    refine hp_ 8 [3,3] (.agg (vc ((onext S (ofI ((j:Int)+1))).1))) ?_;refine hp_ 9 [3,3] (.agg (vc ((onext S (ofI ((j:Int)+1))).2.1))) ?_;refine hp_ 10 [3,3] (.bool ((onext S (ofI ((j:Int)+1))).2.2.1)) ?_;refine hp_ 11 [3,3] (iw ((onext S (ofI ((j:Int)+1))).2.2.2)) ?_;refine h_stepS 14 ?_;refine s_store 1 (vc ((onext S (ofI ((j:Int)+1))).1)) ?_;refine nH [3,3]<|h_stepS 15 ?_
    refine s_store 2 (vc ((onext S (ofI ((j:Int)+1))).2.1)) ?_;refine nH [3,3]<|hp_ 16 [3,3] (.bool ((onext S (ofI ((j:Int)+1))).2.2.1)) ?_
    refine hp_ 17 [3,3] (iw ((onext S (ofI ((j:Int)+1))).2.2.2)) ?_;refine h_doneS ?_;exact xcut () (rr [3,3,0] [3,3])
   .refine s_alloc (.agg zc) zc (fun g16=>?_);refine nH [1,1]<|h_stepS2 5 13 ?_ ?_
    .refine sV (fun _ h=>rkey_s ((j:Int)+1))<|nH [1,1]<|h_stepS2 6 13 ?_ ?_
     .refine sC [3] (rmnext_s (S:=S) ol (ofI ((j:Int)+1))) ?_;refine nH [2,2]<|hp_ 7 [2,2] (.tuple #[.agg (vc ((onext S (ofI ((j:Int)+1))).1)),.agg (vc ((onext S (ofI ((j:Int)+1))).2.1)),.bool ((onext S (ofI ((j:Int)+1))).2.2.1),iw ((onext S (ofI ((j:Int)+1))).2.2.2)]) ?_
      refine hp_ 8 [2,2] (.agg (vc ((onext S (ofI ((j:Int)+1))).1))) ?_;refine hp_ 9 [2,2] (.agg (vc ((onext S (ofI ((j:Int)+1))).2.1))) ?_;refine hp_ 10 [2,2] (.bool ((onext S (ofI ((j:Int)+1))).2.2.1)) ?_;refine hp_ 11 [2,2] (iw ((onext S (ofI ((j:Int)+1))).2.2.2)) ?_;refine h_stepS 13 ?_;refine s_alloc (.agg zc) zc (fun g17=>?_);refine nH [3,3]<|h_stepS 14 ?_
      refine s_store 2 (vc ((onext S (ofI ((j:Int)+1))).1)) ?_;refine nH [3,3]<|h_stepS 15 ?_
      refine s_store 0 (vc ((onext S (ofI ((j:Int)+1))).2.1)) ?_;refine nH [3,3]<|hp_ 16 [3,3] (.bool ((onext S (ofI ((j:Int)+1))).2.2.1)) ?_
      refine hp_ 17 [3,3] (iw ((onext S (ofI ((j:Int)+1))).2.2.2)) ?_;refine h_doneS ?_;exact xcut () (rr [3,3,1] [3,3])
     refine s_alloc (.agg zc) zc (fun g18=>?_);refine nH [2,2]<|h_stepS 6 ?_
     refine sC [4] (rmnext_s (S:=S) ol (ofI ((j:Int)+1))) ?_;refine nH [3,3]<|hp_ 7 [3,3] (.tuple #[.agg (vc ((onext S (ofI ((j:Int)+1))).1)),.agg (vc ((onext S (ofI ((j:Int)+1))).2.1)),.bool ((onext S (ofI ((j:Int)+1))).2.2.1),iw ((onext S (ofI ((j:Int)+1))).2.2.2)]) ?_
     refine hp_ 8 [3,3] (.agg (vc ((onext S (ofI ((j:Int)+1))).1))) ?_;refine hp_ 9 [3,3] (.agg (vc ((onext S (ofI ((j:Int)+1))).2.1))) ?_;refine hp_ 10 [3,3] (.bool ((onext S (ofI ((j:Int)+1))).2.2.1)) ?_;refine hp_ 11 [3,3] (iw ((onext S (ofI ((j:Int)+1))).2.2.2)) ?_;refine h_stepS 14 ?_;refine s_store 2 (vc ((onext S (ofI ((j:Int)+1))).1)) ?_;refine nH [3,3]<|h_stepS 15 ?_
     refine s_store 1 (vc ((onext S (ofI ((j:Int)+1))).2.1)) ?_;refine nH [3,3]<|hp_ 16 [3,3] (.bool ((onext S (ofI ((j:Int)+1))).2.2.1)) ?_
     refine hp_ 17 [3,3] (iw ((onext S (ofI ((j:Int)+1))).2.2.2)) ?_;refine h_doneS ?_;exact xcut () (rr [3,3,0] [3,3])
    refine s_alloc (.agg zc) zc (fun g19=>?_);refine nH [2,2]<|h_stepS 5 ?_
    refine sV (fun _ h=>rkey_s ((j:Int)+1))<|nH [2,2]<|h_stepS 6 ?_
    refine sC [4] (rmnext_s (S:=S) ol (ofI ((j:Int)+1))) ?_;refine nH [3,3]<|hp_ 7 [3,3] (.tuple #[.agg (vc ((onext S (ofI ((j:Int)+1))).1)),.agg (vc ((onext S (ofI ((j:Int)+1))).2.1)),.bool ((onext S (ofI ((j:Int)+1))).2.2.1),iw ((onext S (ofI ((j:Int)+1))).2.2.2)]) ?_
    refine hp_ 8 [3,3] (.agg (vc ((onext S (ofI ((j:Int)+1))).1))) ?_;refine hp_ 9 [3,3] (.agg (vc ((onext S (ofI ((j:Int)+1))).2.1))) ?_;refine hp_ 10 [3,3] (.bool ((onext S (ofI ((j:Int)+1))).2.2.1)) ?_;refine hp_ 11 [3,3] (iw ((onext S (ofI ((j:Int)+1))).2.2.2)) ?_;refine h_stepS 14 ?_;refine s_store 2 (vc ((onext S (ofI ((j:Int)+1))).1)) ?_;refine nH [3,3]<|h_stepS 15 ?_
    refine s_store 1 (vc ((onext S (ofI ((j:Int)+1))).2.1)) ?_;refine nH [3,3]<|hp_ 16 [3,3] (.bool ((onext S (ofI ((j:Int)+1))).2.2.1)) ?_
    refine hp_ 17 [3,3] (iw ((onext S (ofI ((j:Int)+1))).2.2.2)) ?_;refine h_doneS ?_;exact xcut () (rr [3,3,0] [3,3])
   refine s_alloc (.agg zc) zc (fun g20=>?_);refine nH [1,1]<|h_stepS2 5 12 ?_ ?_
   .refine sV (fun _ h=>rkey_s ((j:Int)+1))<|nH [1,1]<|h_stepS2 6 12 ?_ ?_
    .refine sC [3] (rmnext_s (S:=S) ol (ofI ((j:Int)+1))) ?_;refine nH [2,2]<|hp_ 7 [2,2] (.tuple #[.agg (vc ((onext S (ofI ((j:Int)+1))).1)),.agg (vc ((onext S (ofI ((j:Int)+1))).2.1)),.bool ((onext S (ofI ((j:Int)+1))).2.2.1),iw ((onext S (ofI ((j:Int)+1))).2.2.2)]) ?_
     refine hp_ 8 [2,2] (.agg (vc ((onext S (ofI ((j:Int)+1))).1))) ?_;refine hp_ 9 [2,2] (.agg (vc ((onext S (ofI ((j:Int)+1))).2.1))) ?_;refine hp_ 10 [2,2] (.bool ((onext S (ofI ((j:Int)+1))).2.2.1)) ?_;refine hp_ 11 [2,2] (iw ((onext S (ofI ((j:Int)+1))).2.2.2)) ?_;refine h_stepS 12 ?_;refine s_alloc (.agg zc) zc (fun g21=>?_);refine nH [3,3]<|h_stepS 14 ?_
     refine s_store 0 (vc ((onext S (ofI ((j:Int)+1))).1)) ?_;refine nH [3,3]<|h_stepS 15 ?_
     refine s_store 2 (vc ((onext S (ofI ((j:Int)+1))).2.1)) ?_;refine nH [3,3]<|hp_ 16 [3,3] (.bool ((onext S (ofI ((j:Int)+1))).2.2.1)) ?_
     refine hp_ 17 [3,3] (iw ((onext S (ofI ((j:Int)+1))).2.2.2)) ?_;refine h_doneS ?_;exact xcut () (rr [3,3,1] [3,3])
    refine s_alloc (.agg zc) zc (fun g22=>?_);refine nH [2,2]<|h_stepS 6 ?_
    refine sC [4] (rmnext_s (S:=S) ol (ofI ((j:Int)+1))) ?_;refine nH [3,3]<|hp_ 7 [3,3] (.tuple #[.agg (vc ((onext S (ofI ((j:Int)+1))).1)),.agg (vc ((onext S (ofI ((j:Int)+1))).2.1)),.bool ((onext S (ofI ((j:Int)+1))).2.2.1),iw ((onext S (ofI ((j:Int)+1))).2.2.2)]) ?_
    refine hp_ 8 [3,3] (.agg (vc ((onext S (ofI ((j:Int)+1))).1))) ?_;refine hp_ 9 [3,3] (.agg (vc ((onext S (ofI ((j:Int)+1))).2.1))) ?_;refine hp_ 10 [3,3] (.bool ((onext S (ofI ((j:Int)+1))).2.2.1)) ?_;refine hp_ 11 [3,3] (iw ((onext S (ofI ((j:Int)+1))).2.2.2)) ?_;refine h_stepS 14 ?_;refine s_store 1 (vc ((onext S (ofI ((j:Int)+1))).1)) ?_;refine nH [3,3]<|h_stepS 15 ?_
    refine s_store 2 (vc ((onext S (ofI ((j:Int)+1))).2.1)) ?_;refine nH [3,3]<|hp_ 16 [3,3] (.bool ((onext S (ofI ((j:Int)+1))).2.2.1)) ?_
    refine hp_ 17 [3,3] (iw ((onext S (ofI ((j:Int)+1))).2.2.2)) ?_;refine h_doneS ?_;exact xcut () (rr [3,3,0] [3,3])
   refine s_alloc (.agg zc) zc (fun g23=>?_);refine nH [2,2]<|h_stepS 5 ?_
   refine sV (fun _ h=>rkey_s ((j:Int)+1))<|nH [2,2]<|h_stepS 6 ?_
   refine sC [4] (rmnext_s (S:=S) ol (ofI ((j:Int)+1))) ?_;refine nH [3,3]<|hp_ 7 [3,3] (.tuple #[.agg (vc ((onext S (ofI ((j:Int)+1))).1)),.agg (vc ((onext S (ofI ((j:Int)+1))).2.1)),.bool ((onext S (ofI ((j:Int)+1))).2.2.1),iw ((onext S (ofI ((j:Int)+1))).2.2.2)]) ?_
   refine hp_ 8 [3,3] (.agg (vc ((onext S (ofI ((j:Int)+1))).1))) ?_;refine hp_ 9 [3,3] (.agg (vc ((onext S (ofI ((j:Int)+1))).2.1))) ?_;refine hp_ 10 [3,3] (.bool ((onext S (ofI ((j:Int)+1))).2.2.1)) ?_;refine hp_ 11 [3,3] (iw ((onext S (ofI ((j:Int)+1))).2.2.2)) ?_;refine h_stepS 14 ?_;refine s_store 1 (vc ((onext S (ofI ((j:Int)+1))).1)) ?_;refine nH [3,3]<|h_stepS 15 ?_
   refine s_store 2 (vc ((onext S (ofI ((j:Int)+1))).2.1)) ?_;refine nH [3,3]<|hp_ 16 [3,3] (.bool ((onext S (ofI ((j:Int)+1))).2.2.1)) ?_
   refine hp_ 17 [3,3] (iw ((onext S (ofI ((j:Int)+1))).2.2.2)) ?_;refine h_doneS ?_;exact xcut () (rr [3,3,0] [3,3])
  refine k_reg<|sP2 (.bool (staleB S n j))<|s_fork 37 (staleB S n j) (fun c24=>?_) (fun c24=>?_)
  .refine sK<|sK<|sP2 (.bool true)<|s_nil<|xs_block<|xs_then<|k_reg<|sP (iw ((j:Int)+1))<|sL (t_add ((j:Int)+1) 1 ol)<|sP (iw (((j:Int)+1)+1))<|s_nil ?_
   have hst:true=staleB S n (j+1):=by rw[←stale_step S hi1.1];first|rfl|simp[c4,c24]
   refine xs_mem (fun _ h=>rt_shut (h.re [0,0,0] [])) ?_;exact xs_round (j+1) om ⟨by omega,by omega⟩ (sub_of rfl (rQ ⟨⟨rfl,cB hst⟩,(rQ trivial)⟩)) (rr [0] [])
  refine sP (iw ((onext S (ofI ((j:Int)+1))).2.2.2))<|sL t_cmp<|sP (.bool (decide ((onext S (ofI ((j:Int)+1))).2.2.2=0)))<|sP (.bool (decide ((onext S (ofI ((j:Int)+1))).2.2.2=0)))<|s_nil<|xs_block<|xs_then<|k_reg<|sP (iw ((j:Int)+1))<|sL (t_add ((j:Int)+1) 1 ol)<|sP (iw (((j:Int)+1)+1))<|s_nil ?_
  have hst:(decide ((onext S (ofI ((j:Int)+1))).2.2.2=0))=staleB S n (j+1):=by rw[←stale_step S hi1.1];first|rfl|simp[c4,c24]
  refine xs_mem (fun _ h=>rt_shut (h.re [0,0,0] [])) ?_;exact xs_round (j+1) om ⟨by omega,by omega⟩ (sub_of rfl (rQ ⟨⟨rfl,cB hst⟩,(rQ trivial)⟩)) (rr [0] [])
 have p25:=dF c4;refine k_exit<|xs_exit<|xs_exit<|xs_here<|xs_then<|k_seq<|k_sr<|sP (.bool (staleB S n j))<|sP (.bool (!(staleB S n j)))<|s_nt<|k_cond (!(staleB S n j)) (fun c26=>?_) (fun c26=>?_)
 .have c27:=not_t c26;refine k_ret<|xs_ret<|xs_mem (fun _ h=>rt_shut (h.re [0,0,0] [])) ?_
  have hj:j=L.length:=by omega
  have hT:(if staleB S n L.length then purge S L.length else S)=S:=by rw[if_neg (by rw[←hj,c27];decide)]
  refine xs_fin [] (rtA b L S::F) SI.nil (rr [0] []) ⟨rfl,?_⟩;rw[hT]
 have c28:=not_f c26;refine k_st<|k_sr<|s_pcall (fun _ h=>rmnew_s) ?_
 rintro _ _ ⟨r29,rfl,rfl⟩;refine sP (pB r29 0)<|s_nr<|sP2 (pB b 0)<|sP (pB b 1)<|sL (t_load 1 (pB r3 0))<|s_call [3] (rmkeys_s (S:=S) ol) ?_
 rintro v30 _ rfl;refine sF 0 (fun hf31=>?_);refine sP v30<|s_nt<|k_seq<|k_sr<|sP (iw 0)<|s_nt<|k_block<|k_mem (fun _ h=>rt_shut (h.re [3,3,1] [])) ?_
 refine k_loop (ι:=Nat) (fun i=>i≤(okeys S).length) (fun i=>[(0,pB b 0),(10,pB r29 0),(11,v30),(12,iw (i:Int))]) (fun i=>rtA b L S::own VlT v30 (okeys S)::rmA r29 (purgeS S L.length i)::F) (fun i=>(okeys S).length-i) 0 (Nat.zero_le _) sA (rr [0,0,0] []) ?_;rintro i hi32;show SK _ _ _ _ _ [(0,.pointer (some ⟨b,0,none⟩)),(10,.pointer (some ⟨r29,0,none⟩)),(11,v30),(12,iw (i:Int))] _ (rtA b L S::own VlT v30 (okeys S)::rmA r29 (purgeS S L.length i)::F);have hpl:=purgeS_len S L.length i;refine k_seq<|k_sr<|sP (iw (i:Int))<|sP v30<|sL (t_len VlT_ok Tryz.underlying37 (.own 1))<|sL t_cmp<|s_nt<|k_cond (decide ((i:Int)<((okeys S).length:Int))) (fun c33=>?_) (fun c33=>?_)
 .have p34:=dY c33;refine k_st<|k_seq<|k_block<|k_sr<|sP v30<|sP (iw (i:Int))<|sL (t_index VlT_ok Tryz.underlying37 (.own 1) (i:Int) i om ol om) ?_
  obtain⟨y35,hy36⟩:∃y,(okeys S)[i]?=some y:=⟨_,List.getElem?_eq_getElem ol⟩;obtain⟨s37,hs38,rfl⟩:=okeys_get hy36;refine sL (t_loadE VlT_ok (.own 1) hy36)<|sV (fun _ h=>rwhole2_s s37.key)<|sP (iw (whole s37.key))<|s_nr<|sP (iw (whole s37.key))<|sL t_cmp<|sP (.bool (decide ((whole s37.key)<1)))<|s_fork 62 (decide ((whole s37.key)<1)) (fun c39=>?_) (fun c39=>?_)
  .have p40:=dY c39;refine sK<|sK<|sK<|sK<|sK<|sK<|sK<|sP (.bool true)<|s_nt<|k_true<|k_mem2 (fun H h=>rt_open (h.re [0] [])) (fun lv41 r42 hw=>?_)
   refine k_held [blkA b #[lv41,pB r42 0] 130,own VlT lv41 L,own VlT v30 (okeys S)] ?_;refine hp_ 0 [0,0,1] (pB r29 0) ?_;refine hp_ 1 [0,0,1] v30 ?_;refine hp_ 2 [0,0,1] (iw (i:Int)) ?_;refine h_l 3 rfl [0,0,1] (fun _=>(t_index VlT_ok Tryz.underlying37 (.own 2) (i:Int) i om ol om)) ?_;refine h_l 4 rfl [0,0,1] (fun _=>(t_loadE VlT_ok (.own 2) hy36)) ?_;refine hp_ 5 [0,0,1] (pB b 0) ?_;refine hp_ 6 [0,0,1] (pB b 0) ?_;refine hp_ 7 [0,0,1] (pB b 1) ?_;refine h_l 8 rfl [0,0,1] (fun _=>(t_load 0 (pB r42 0))) ?_;refine hp_ 9 [0,0,1] v30 ?_;refine hp_ 10 [0,0,1] (iw (i:Int)) ?_;refine h_l 11 rfl [0,0,1] (fun _=>(t_index VlT_ok Tryz.underlying37 (.own 2) (i:Int) i om ol om)) ?_;refine h_l 12 rfl [0,0,1] (fun _=>(t_loadE VlT_ok (.own 2) hy36)) ?_;refine h_stepS 13 ?_;refine sC [2] (rmget_s (S:=S) ol s37.key) ?_;refine nH [1,1,1]<|h_stepS 14 ?_
   refine sC [4] (rmset_s (S:=(purgeS S L.length i)) ol s37.key (oget S s37.key)) ?_;refine nH [2,2,2]<|h_doneS ?_
   refine xs_block<|xs_then<|k_reg<|sP (iw (i:Int))<|sL (t_add (i:Int) 1 ol)<|sP (iw ((i:Int)+1))<|s_nil ?_
   have hps:=purge_step hinv0 (m:=L.length) hs38;have hib:inB (whole s37.key) L.length=false:=inB_false om;have hpe:=hps.1 hib;rw[hpe];refine xs_mem (fun _ h=>rt_shut (h.re [2,2,1] [])) ?_;exact xs_round (i+1) om om sA (rr [0,1,0] [])
  have p43:=dF c39;refine sP (iw (whole s37.key))<|sP3 (pB b 0)<|s_mem2 (fun H h=>rt_open (h.re [0] [])) (fun lv44 r45 hw=>?_)
  refine sL (t_load 0 lv44)<|sL (t_len VlT_ok Tryz.underlying37 (.own 1))<|sL t_cmp<|sP (.bool (decide ((L.length:Int)<(whole s37.key))))<|s_nt<|k_cond (decide ((L.length:Int)<(whole s37.key))) (fun c46=>?_) (fun c46=>?_)
  .have p47:=dY c46;refine k_held [blkA b #[lv44,pB r45 0] 130,own VlT lv44 L,own VlT v30 (okeys S)] ?_;refine hp_ 0 [0,0,1] (pB r29 0) ?_;refine hp_ 1 [0,0,1] v30 ?_;refine hp_ 2 [0,0,1] (iw (i:Int)) ?_;refine h_l 3 rfl [0,0,1] (fun _=>(t_index VlT_ok Tryz.underlying37 (.own 2) (i:Int) i om ol om)) ?_;refine h_l 4 rfl [0,0,1] (fun _=>(t_loadE VlT_ok (.own 2) hy36)) ?_;refine hp_ 5 [0,0,1] (pB b 0) ?_;refine hp_ 6 [0,0,1] (pB b 0) ?_;refine hp_ 7 [0,0,1] (pB b 1) ?_;refine h_l 8 rfl [0,0,1] (fun _=>(t_load 0 (pB r45 0))) ?_;refine hp_ 9 [0,0,1] v30 ?_;refine hp_ 10 [0,0,1] (iw (i:Int)) ?_;refine h_l 11 rfl [0,0,1] (fun _=>(t_index VlT_ok Tryz.underlying37 (.own 2) (i:Int) i om ol om)) ?_;refine h_l 12 rfl [0,0,1] (fun _=>(t_loadE VlT_ok (.own 2) hy36)) ?_;refine h_stepS 13 ?_;refine sC [2] (rmget_s (S:=S) ol s37.key) ?_;refine nH [1,1,1]<|h_stepS 14 ?_
   refine sC [4] (rmset_s (S:=(purgeS S L.length i)) ol s37.key (oget S s37.key)) ?_;refine nH [2,2,2]<|h_doneS ?_
   refine xs_block<|xs_then<|k_reg<|sP (iw (i:Int))<|sL (t_add (i:Int) 1 ol)<|sP (iw ((i:Int)+1))<|s_nil ?_
   have hps:=purge_step hinv0 (m:=L.length) hs38;have hib:inB (whole s37.key) L.length=false:=inB_false om;have hpe:=hps.1 hib;rw[hpe];refine xs_mem (fun _ h=>rt_shut (h.re [2,2,1] [])) ?_;exact xs_round (i+1) om om sA (rr [0,1,0] [])
  have p48:=dF c46;refine k_skip<|xs_block<|xs_then<|k_reg<|sP (iw (i:Int))<|sL (t_add (i:Int) 1 ol)<|sP (iw ((i:Int)+1))<|s_nil ?_
  have hps:=purge_step hinv0 (m:=L.length) hs38;have hib:inB (whole s37.key) L.length=true:=inB_iff.2 om;have hpe:=hps.2 hib;rw[hpe];refine xs_mem (fun _ h=>rt_shut (h.re [0,0,0] [])) ?_;exact xs_round (i+1) om om sA (rr [0,0,0] [])
 have p49:=dF c33;refine k_exit<|xs_exit<|xs_exit<|xs_here<|xs_then<|k_reg<|sP (pB b 0)<|sP (pB r29 0)<|sP (pB b 0)<|sP (pB b 1)<|s_mem2 (fun H h=>rt_open (h.re [0] [])) (fun lv50 r51 hw=>?_)
 refine s_store 0 #[lv50,pB r29 0] ?_;refine s_nil<|xs_mem (fun _ h=>rt_shut (h.re [0,0,2] [])) ?_
 have hj:j=L.length:=by omega
 have hpe:purgeS S L.length i=purge S L.length:=purge_end S L.length i (by rw[←okeys_length];omega);have hT:(if staleB S n L.length then purge S L.length else S)=purgeS S L.length i:=by rw[if_pos (by rw[←hj];exact c28),hpe]
 refine xs_finN [] (rtA b L (purgeS S L.length i)::F) SI.nil (rr [0] [1,1]) ⟨rfl,?_⟩;rw[hT]
theorem rtset_s{Z:Zone}{F:List Asr}{b:Nat}{L:List Vl}{S:List Slt}(hti:TInv ⟨L,S⟩)(hl:L.length≤100000)(hs:S.length≤100000)(k v:Vl):SF Tryz.prog 92 #[.pointer (some ⟨b,0,none⟩),k.v,v.v] Z (rtA b L S::F) fun r Bs=>r=iw (tsetE k v)∧Bs=rtA b (tset ⟨L,S⟩ k v).list (tset ⟨L,S⟩ k v).rest::F:=by
 refine sf_enter Tryz.func92 126 [(0,pB b 0),(1,.agg (vc k)),(2,.agg (vc v))] (fun w0=>?_);refine k_fact (fun H h=>rt_inv (h.re [0] [])) (fun hinv0=>?_);have hol:=okeys_len S;refine k_sr<|s_box (vc k) (fun g1=>?_)
 refine s_box (vc v) (fun g2=>?_);refine sP (iw 0)<|s_nt<|k_seq<|k_sr<|sP (pB b 0)<|sP (.bool false)<|s_nt<|k_false<|k_st<|k_seq<|k_sr<|sP (pB g1 0)<|sL (t_load 1 (iw k.kind))<|sL t_cmp<|sP (.bool (decide (k.kind=0)))<|s_fork 13 (decide (k.kind=0)) (fun c3=>?_) (fun c3=>?_)
 .have p4:=dY c3;refine sK<|sK<|sK<|sP (.bool true)<|s_nt<|k_true<|k_sr<|sP (iw 13)<|s_nt<|k_ret<|xs_ret ?_
  have hk:okKey k=false:=okKey_bad (by first|exact p4|exact .inl p4|exact .inr p4);refine xs_fin [iw 13] (rtA b L S::F) (SI.tmp 6 SI.nil) (rr [2] [1,1]) ⟨cI (tsetE_bad hk).symm,?_⟩;rw[tset_bad (v:=v) (.inl hk)]
 have p5:=dF c3;refine sL (t_loadA 1 (vc k))<|sV (fun _ h=>rvalid_s k)<|sP2 (.bool (!(validB k)))<|s_nt<|k_cond (!(validB k)) (fun c6=>?_) (fun c6=>?_)
 .have c7:=not_t c6;refine k_sr<|sP (iw 13)<|s_nt<|k_ret<|xs_ret ?_
  have hk:okKey k=false:=okKey_bad (by first|exact c7|exact .inl c7|exact .inr c7);refine xs_fin [iw 13] (rtA b L S::F) (SI.tmp 6 SI.nil) (rr [2] [1,1]) ⟨cI (tsetE_bad hk).symm,?_⟩;rw[tset_bad (v:=v) (.inl hk)]
 have c8:=not_f c6;refine k_st<|k_seq<|k_sr<|sL (t_loadA 0 (vc v))<|sV (fun _ h=>rvalid_s v)<|sP (.bool (!(validB v)))<|s_nt<|k_cond (!(validB v)) (fun c9=>?_) (fun c9=>?_)
 .have c10:=not_t c9;refine k_sr<|sP (iw 2)<|s_nt<|k_ret<|xs_ret ?_
  have hk:=okKey_good c3 c8;refine xs_fin [iw 2] (rtA b L S::F) (SI.tmp 6 SI.nil) (rr [2] [1,1]) ⟨cI (tsetE_val hk c10).symm,?_⟩;rw[tset_bad (v:=v) (.inr c10)]
 have c11:=not_f c9;refine k_st<|k_sr<|sL (t_loadA 1 (vc k))<|sV (fun _ h=>rwhole2_s k)<|sP (iw (whole k))<|s_nt<|k_seq<|k_sr<|sP (iw (whole k))<|sL t_cmp<|sP (.bool (decide ((1:Int)≤(whole k))))<|s_fork 25 (decide ((1:Int)≤(whole k))) (fun c12=>?_) (fun c12=>?_)
 .have p13:=dY c12;refine sP (iw (whole k))<|sP3 (pB b 0)<|s_mem2 (fun H h=>rt_open (h.re [2] [])) (fun lv14 r15 hw=>?_)
  refine sL (t_load 0 lv14)<|sL (t_len VlT_ok Tryz.underlying37 (.own 1))<|sL t_cmp<|sP (.bool (decide ((whole k)≤(L.length:Int))))<|s_nt<|k_cond (decide ((whole k)≤(L.length:Int))) (fun c16=>?_) (fun c16=>?_)
  .have p17:=dY c16;refine k_seq<|k_draw<|sP3 (pB b 0)<|sL (t_load 0 lv14)<|sP (iw (whole k))<|sL (t_sub (whole k) 1 ol)<|sL (t_loadA 3 (vc v))<|sL (t_index VlT_ok Tryz.underlying37 (.own 1) ((whole k)-1) ((((whole k)-1)).toNat) om ol om) ?_
   obtain⟨y18,hy19⟩:∃y,L[(((whole k)-1)).toNat]?=some y:=⟨_,List.getElem?_eq_getElem ol⟩;refine s_storeE 1 0 v VlT_ok hy19 ?_;refine s_nil<|x_dynS (fun _ h=>by kernel_rfl) ?_
   refine xs_then<|k_seq<|k_block ?_
   have hsl:(L.set (whole k-1).toNat v).length=L.length:=List.length_set;refine k_loop (ι:=Value×List Vl) (fun (lx,X)=>shr (L.set (whole k-1).toNat v)=shr X∧X.length≤L.length) (fun (lx,X)=>[(0,pB b 0)]) (fun (lx,X)=>blkA b #[lx,pB r15 0] 130::own VlT lx X::rmA r15 S::blkA g2 (vc v) 32::blkA g1 (vc k) 32::F) (fun (lx,X)=>X.length) (lv14,(L.set ((((whole k)-1)).toNat) v)) ⟨rfl,by omega⟩ sA (rr [0,0,0,0,0] []) ?_;rintro⟨lx,X⟩ hi20;replace hi20:shr (L.set (whole k-1).toNat v)=shr X∧X.length≤L.length:=hi20;show SK _ _ _ _ _ [(0,.pointer (some ⟨b,0,none⟩))] _ (blkA b #[lx,.pointer (some ⟨r15,0,none⟩)] 130::own VlT lx X::rmA r15 S::blkA g2 (vc v) 32::blkA g1 (vc k) 32::F);refine k_seq<|k_seq<|k_draw<|sP3 (pB b 0)<|sL (t_load 0 lx)<|sF 1 (fun hf21=>?_)
   refine sL (t_len VlT_ok Tryz.underlying37 (.own 1))<|sL t_cmp<|sP (.bool (decide ((0:Int)<(X.length:Int))))<|s_fork 48 (decide ((0:Int)<(X.length:Int))) (fun c22=>?_) (fun c22=>?_)
   .have p23:=dY c22;refine sP3 (pB b 0)<|sL (t_load 0 lx)<|sP3 (pB b 0)<|sL (t_load 0 lx)<|sL (t_len VlT_ok Tryz.underlying37 (.own 1))<|sL (t_sub (X.length:Int) 1 ol)<|sL (t_index VlT_ok Tryz.underlying37 (.own 1) ((X.length:Int)-1) (X.length-1) om ol om)<|sP (.pointer (some (elemAt VlT.size lx (X.length-1)))) ?_
    obtain⟨y24,hy25⟩:∃y,X[(X.length-1)]?=some y:=⟨_,List.getElem?_eq_getElem ol⟩;refine sL (t_loadF 0 VlT_ok (.own 1) hy25)<|sL t_cmp<|sP (.bool (decide (y24.kind=0)))<|s_nil<|x_dynS (fun _ h=>by obtain⟨_,_,e⟩:=hf21;subst e;kernel_rfl) ?_
    refine xs_then<|k_cond (decide (y24.kind=0)) (fun c26=>?_) (fun c26=>?_)
    .have p27:=dY c26;refine k_st<|k_block<|k_draw<|sP4 (pB b 0)<|sL (t_load 0 lx)<|sP3 (pB b 0)<|sL (t_load 0 lx)<|sL (t_len VlT_ok Tryz.underlying37 (.own 1))<|sL (t_sub (X.length:Int) 1 ol)<|sL (t_pre VlT_ok Tryz.underlying37 (.own 1) ((X.length:Int)-1) (X.length-1) om ol om)<|sP2 (pB b 0)<|s_mem (fun _ h=>Holds.pre (i:=1) h VlT_ok (X.length-1) rfl ol) ?_
     refine sF 1 (fun hf28=>?_);refine s_store (u:=(pre lx (X.length-1))) (m:=1) 0 #[(pre lx (X.length-1)),pB r15 0] ?_ (hm:=by (obtain⟨_,_,e⟩:=hf28;rw[e];rfl)) (h1:=by (obtain⟨_,_,e⟩:=hf28;rw[e];rfl)) (ha':=by (obtain⟨_,_,e⟩:=hf28;rw[e];rfl));refine s_nil<|x_dynS (fun _ h=>by obtain⟨_,_,e⟩:=hf21;subst e;kernel_rfl) ?_
     refine xs_block ?_;exact xs_round ((pre lx (X.length-1)),X.take (X.length-1)) (by show (X.take (X.length-1)).length<X.length;rw[List.length_take];omega) (by show shr _=shr (X.take (X.length-1))∧(X.take (X.length-1)).length≤L.length;rw[←shr_step (n:=X.length-1) om hy25 om,show X.length-1+1=X.length by omega,List.take_length];exact⟨hi20.1,by rw[List.length_take];omega⟩) sA (rr [0,0,0,0,0] [])
    have p29:=dF c26;refine k_exit<|xs_exit<|xs_exit<|xs_here<|xs_then<|k_sr<|sP (iw 0)<|s_nt<|k_ret<|xs_ret<|xs_mem (fun _ h=>rt_shut (h.re [0,0,0] [])) ?_
    have hk:=okKey_good c3 c8;have hS:shr X=X:=by have h1:=shr_stop (n:=X.length-1) hy25 om;rw[show X.length-1+1=X.length by omega,List.take_length]at h1;exact h1
    have hT:tset ⟨L,S⟩ k v=⟨X,S⟩:=by rw[tset_in (T:=⟨L,S⟩) hk c11 om (by show _≤(L.length:Int);omega)];show (⟨shr (L.set _ v),S⟩:Tb)=_;rw[hi20.1,hS]
    refine xs_fin [iw 0] (rtA b X S::F) (SI.tmp 6 SI.nil) (rr [0] [1,1]) ⟨cI (tsetE_ok hk c11).symm,?_⟩;rw[hT]
   have p30:=dF c22;refine sK<|sK<|sK<|sK<|sK<|sK<|sK<|sK<|sK<|sK<|sK<|sK<|sK<|sK<|sP (.bool false)<|s_nil<|x_dynS (fun _ h=>by obtain⟨_,_,e⟩:=hf21;subst e;kernel_rfl) ?_
   refine xs_then<|k_false<|k_exit<|xs_exit<|xs_exit<|xs_here<|xs_then<|k_sr<|sP (iw 0)<|s_nt<|k_ret<|xs_ret<|xs_mem (fun _ h=>rt_shut (h.re [0,0,0] [])) ?_
   have hk:=okKey_good c3 c8;have hS:shr X=X:=by obtain rfl:X=[]:=List.eq_nil_of_length_eq_zero om;rfl
   have hT:tset ⟨L,S⟩ k v=⟨X,S⟩:=by rw[tset_in (T:=⟨L,S⟩) hk c11 om (by show _≤(L.length:Int);omega)];show (⟨shr (L.set _ v),S⟩:Tb)=_;rw[hi20.1,hS]
   refine xs_fin [iw 0] (rtA b X S::F) (SI.tmp 6 SI.nil) (rr [0] [1,1]) ⟨cI (tsetE_ok hk c11).symm,?_⟩;rw[hT]
  have p31:=dF c16;refine k_st<|k_seq<|k_sr<|sP (iw (whole k))<|sP3 (pB b 0)<|sL (t_load 0 lv14)<|sL (t_len VlT_ok Tryz.underlying37 (.own 1))<|sL (t_add (L.length:Int) 1 ol)<|sL t_cmp<|sP (.bool (decide ((whole k)≠((L.length:Int)+1))))<|s_fork 86 (decide ((whole k)≠((L.length:Int)+1))) (fun c32=>?_) (fun c32=>?_)
  .have p33:=dY c32;refine sK<|sK<|sK<|sP (.bool true)<|s_nt<|k_true<|k_seq<|k_draw<|sP2 (pB b 0)<|sP (pB b 1)<|sL (t_load 0 (pB r15 0))<|sL (t_loadA 4 (vc k))<|sL (t_loadA 3 (vc v))<|sC [2] (rmset_s (S:=S) ol k v) ?_
   refine sP (iw (osetE k v))<|s_nil<|x_dynS (fun _ h=>by kernel_rfl) ?_
   refine xs_then<|k_ret<|xs_ret<|xs_mem (fun _ h=>rt_shut (h.re [1,1,0] [])) ?_
   have hk:=okKey_good c3 c8;refine xs_fin [iw (osetE k v)] (rtA b L (osetL S k v)::F) (SI.tmp 6 SI.nil) (rr [0] [1,1]) ⟨cI ((tsetE_oset k v)).symm,?_⟩;rw[tset_out (T:=⟨L,S⟩) hk c11 (by show ¬(_∧_≤(L.length:Int));omega) (by show ¬(_=(L.length:Int)+1∧_);rintro⟨e1,e2⟩;first|omega|(have hq:=p33;simp_all))]
  have p34:=Decidable.not_not.1 (dF c32);refine sP (pB g2 0)<|sL (t_load 3 (iw v.kind))<|sL t_cmp<|sP (.bool (decide (v.kind=0)))<|s_nt<|k_cond (decide (v.kind=0)) (fun c35=>?_) (fun c35=>?_)
  .have p36:=dY c35;refine k_seq<|k_draw<|sP2 (pB b 0)<|sP (pB b 1)<|sL (t_load 0 (pB r15 0))<|sL (t_loadA 4 (vc k))<|sL (t_loadA 3 (vc v))<|sC [2] (rmset_s (S:=S) ol k v) ?_
   refine sP (iw (osetE k v))<|s_nil<|x_dynS (fun _ h=>by kernel_rfl) ?_
   refine xs_then<|k_ret<|xs_ret<|xs_mem (fun _ h=>rt_shut (h.re [1,1,0] [])) ?_
   have hk:=okKey_good c3 c8;refine xs_fin [iw (osetE k v)] (rtA b L (osetL S k v)::F) (SI.tmp 6 SI.nil) (rr [0] [1,1]) ⟨cI ((tsetE_oset k v)).symm,?_⟩;rw[tset_out (T:=⟨L,S⟩) hk c11 (by show ¬(_∧_≤(L.length:Int));omega) (by show ¬(_=(L.length:Int)+1∧_);rintro⟨e1,e2⟩;first|omega|(have hq:=p36;simp_all))]
  have p37:=dF c35;refine k_st<|k_seq<|k_block ?_
  have hmu0:=mu_le S L.length v;refine k_loop (ι:=Value×List Vl×Vl×Nat) (fun (lx,X,x,f)=>grow S (S.length+2) L v=grow S f X x∧mu S X.length x≤f∧L.length≤X.length∧X.length+mu S X.length x≤L.length+S.length+1) (fun (lx,X,x,f)=>[(0,pB b 0),(5,pB g2 0),(7,iw (whole k))]) (fun (lx,X,x,f)=>blkA b #[lx,pB r15 0] 130::own VlT lx X::rmA r15 S::blkA g2 (vc x) 32::blkA g1 (vc k) 32::F) (fun (lx,X,x,f)=>mu S X.length x) (lv14,L,v,S.length+2) ⟨rfl,by omega,by omega,by omega⟩ sA (rr [0,0,0,0,0] []) ?_;rintro⟨lx,X,x,f⟩ hi38;replace hi38:grow S (S.length+2) L v=grow S f X x∧mu S X.length x≤f∧L.length≤X.length∧X.length+mu S X.length x≤L.length+S.length+1:=hi38;show SK _ _ _ _ _ [(0,.pointer (some ⟨b,0,none⟩)),(5,.pointer (some ⟨g2,0,none⟩)),(7,iw (whole k))] _ (blkA b #[lx,.pointer (some ⟨r15,0,none⟩)] 130::own VlT lx X::rmA r15 S::blkA g2 (vc x) 32::blkA g1 (vc k) 32::F);refine k_seq<|k_sr<|sP (pB g2 0)<|sL (t_load 3 (iw x.kind))<|sL t_cmp<|s_nt<|k_cond (decide (x.kind≠0)) (fun c39=>?_) (fun c39=>?_)
  .have p40:=dY c39;have hx0:x.kind≠0:=dY c39;obtain⟨f1,hf1,hg1⟩:=grow_step S X hx0 hi38.2.1;have hg2:grow S (S.length+2) L v=grow S (f-1) (X++[x]) (oget S (ofI ((X.length:Int)+2))):=by rw[hi38.1,hg1,hf1];rfl
   refine k_st<|k_block<|k_seq<|k_draw<|sP4 (pB b 0)<|sL (t_load 0 lx)<|sL (t_loadA 3 (vc x))<|s_buildSlice (e:=32) [(0,.agg (vc x))] (vc x) (fun g41=>?_) (hb:=by kernel_rfl)
   refine s_append (L:=X) 2 VlT_ok Tryz.underlying37 (.lit 0 VlT_ok [x]) (by show _*48≤_;(try simp only[lnm]);omega) ol (fun v42=>?_);obtain⟨L2,hL2⟩:∃y,y=X++[x]:=⟨_,rfl⟩;rw[←hL2];have ll2:L2.length=X.length+1:=by rw[hL2];simp
   refine sP2 (pB b 0)<|sF 2 (fun hf43=>?_)
   refine s_store (u:=v42) (m:=1) 1 #[v42,pB r15 0] ?_ (hm:=by (obtain⟨_,_,e⟩:=hf43;rw[e];rfl)) (h1:=by (obtain⟨_,_,e⟩:=hf43;rw[e];rfl)) (ha':=by (obtain⟨_,_,e⟩:=hf43;rw[e];rfl));refine s_nil<|x_dynS (fun _ h=>by kernel_rfl) ?_
   refine xs_then<|k_held [blkA g41 (vc x) 32,blkA b #[v42,pB r15 0] 130,own VlT v42 L2,blkA g1 (vc k) 32] ?_
   refine hp_ 0 [0,0,0,2] (pB b 0) ?_;refine hp_ 1 [0,0,0,2] (pB b 0) ?_;refine hp_ 2 [0,0,0,2] (pB b 1) ?_;refine h_l 3 rfl [0,0,0,2] (fun _=>(t_load 1 (pB r15 0))) ?_;refine hp_ 4 [0,0,0,2] (pB b 0) ?_;refine hp_ 5 [0,0,0,2] (pB b 0) ?_;refine hp_ 6 [0,0,0,2] (pB b 0) ?_;refine h_l 7 rfl [0,0,0,2] (fun _=>(t_load 1 v42)) ?_;refine h_l 8 rfl [0,0,0,2] (fun _=>(t_len VlT_ok Tryz.underlying37 (.own 2))) ?_;refine h_l 9 rfl [0,0,0,2] (fun _=>(Lt.to (v':=iw ((X.length:Int)+2)) (t_add (L2.length:Int) 1 om) (cI om))) ?_;refine h_stepS 10 ?_;refine sV (fun _ h=>rkey_s ((X.length:Int)+2))<|nH [0,0,0,2]<|h_stepS 11 ?_
   refine sC [3] (rmget_s (S:=S) ol (ofI ((X.length:Int)+2))) ?_;refine nH [1,1,1,2]<|h_stepS 12 ?_
   refine s_store 4 (vc (oget S (ofI ((X.length:Int)+2)))) ?_;refine nH [1,1,1,2]<|h_doneS ?_
   refine xs_block ?_;exact xs_round (v42,L2,(oget S (ofI ((X.length:Int)+2))),f-1) (by show mu S _ _<mu S _ _;rw[ll2];exact mu_lt hinv0 hx0) (by show grow S (S.length+2) L v=_∧_;exact⟨by rw[hg2,hL2],by rw[ll2];have:=mu_lt hinv0 (n:=X.length) hx0;omega,by omega,by rw[ll2];have:=mu_lt hinv0 (n:=X.length) hx0;omega⟩) sA (rr [2,2,0,1,1] [5])
  have p44:=Decidable.not_not.1 (dF c39);have hx0:x.kind=0:=Decidable.not_not.1 (dF c39);have hgr:grow S (S.length+2) L v=X:=by rw[hi38.1];exact grow_stop S X hx0
  refine k_exit<|xs_exit<|xs_exit<|xs_here<|xs_then<|k_sr<|sP (pB b 0)<|sP (iw (whole k))<|s_mem (fun _ h=>rt_shut (h.re [0,0,0] [])) ?_
  refine sC [0] (rtpurge_s (L:=X) (S:=S) (n:=L.length) om om om om) ?_;refine s_nr<|sP (iw 0)<|s_nt<|k_ret ?_
  have hk:=okKey_good c3 c8;have hT:tset ⟨L,S⟩ k v=⟨X,if staleB S L.length X.length then purge S X.length else S⟩:=by rw[tset_add (T:=⟨L,S⟩) hk c11 (by show _=(L.length:Int)+1;omega) (dF c35),tadd_eq hgr]
  refine xs_fin [iw 0] (rtA b X (if staleB S L.length X.length then purge S X.length else S)::F) (SI.tmp 6 SI.nil) (rr [0] [1,1]) ⟨cI (tsetE_ok hk c11).symm,?_⟩;rw[hT]
 have p45:=dF c12;refine sK<|sK<|sK<|sK<|sK<|sK<|sK<|sP (.bool false)<|s_nt<|k_false<|k_st<|k_seq<|k_sr<|sP (iw (whole k))<|sP3 (pB b 0)<|s_mem2 (fun H h=>rt_open (h.re [2] [])) (fun lv46 r47 hw=>?_)
 refine sL (t_load 0 lv46)<|sL (t_len VlT_ok Tryz.underlying37 (.own 1))<|sL (t_add (L.length:Int) 1 ol)<|sL t_cmp<|sP (.bool (decide ((whole k)≠((L.length:Int)+1))))<|s_fork 86 (decide ((whole k)≠((L.length:Int)+1))) (fun c48=>?_) (fun c48=>?_)
 .have p49:=dY c48;refine sK<|sK<|sK<|sP (.bool true)<|s_nt<|k_true<|k_seq<|k_draw<|sP2 (pB b 0)<|sP (pB b 1)<|sL (t_load 0 (pB r47 0))<|sL (t_loadA 4 (vc k))<|sL (t_loadA 3 (vc v))<|sC [2] (rmset_s (S:=S) ol k v) ?_
  refine sP (iw (osetE k v))<|s_nil<|x_dynS (fun _ h=>by kernel_rfl) ?_
  refine xs_then<|k_ret<|xs_ret<|xs_mem (fun _ h=>rt_shut (h.re [1,1,0] [])) ?_
  have hk:=okKey_good c3 c8;refine xs_fin [iw (osetE k v)] (rtA b L (osetL S k v)::F) (SI.tmp 6 SI.nil) (rr [0] [1,1]) ⟨cI ((tsetE_oset k v)).symm,?_⟩;rw[tset_out (T:=⟨L,S⟩) hk c11 (by show ¬(_∧_≤(L.length:Int));omega) (by show ¬(_=(L.length:Int)+1∧_);rintro⟨e1,e2⟩;first|omega|(have hq:=p49;simp_all))]
 have p50:=Decidable.not_not.1 (dF c48);refine sP (pB g2 0)<|sL (t_load 3 (iw v.kind))<|sL t_cmp<|sP (.bool (decide (v.kind=0)))<|s_nt<|k_cond (decide (v.kind=0)) (fun c51=>?_) (fun c51=>?_)
 .have p52:=dY c51;refine k_seq<|k_draw<|sP2 (pB b 0)<|sP (pB b 1)<|sL (t_load 0 (pB r47 0))<|sL (t_loadA 4 (vc k))<|sL (t_loadA 3 (vc v))<|sC [2] (rmset_s (S:=S) ol k v) ?_
  refine sP (iw (osetE k v))<|s_nil<|x_dynS (fun _ h=>by kernel_rfl) ?_
  refine xs_then<|k_ret<|xs_ret<|xs_mem (fun _ h=>rt_shut (h.re [1,1,0] [])) ?_
  have hk:=okKey_good c3 c8;refine xs_fin [iw (osetE k v)] (rtA b L (osetL S k v)::F) (SI.tmp 6 SI.nil) (rr [0] [1,1]) ⟨cI ((tsetE_oset k v)).symm,?_⟩;rw[tset_out (T:=⟨L,S⟩) hk c11 (by show ¬(_∧_≤(L.length:Int));omega) (by show ¬(_=(L.length:Int)+1∧_);rintro⟨e1,e2⟩;first|omega|(have hq:=p52;simp_all))]
 have p53:=dF c51;refine k_st<|k_seq<|k_block ?_
 have hmu0:=mu_le S L.length v;refine k_loop (ι:=Value×List Vl×Vl×Nat) (fun (lx,X,x,f)=>grow S (S.length+2) L v=grow S f X x∧mu S X.length x≤f∧L.length≤X.length∧X.length+mu S X.length x≤L.length+S.length+1) (fun (lx,X,x,f)=>[(0,pB b 0),(5,pB g2 0),(7,iw (whole k))]) (fun (lx,X,x,f)=>blkA b #[lx,pB r47 0] 130::own VlT lx X::rmA r47 S::blkA g2 (vc x) 32::blkA g1 (vc k) 32::F) (fun (lx,X,x,f)=>mu S X.length x) (lv46,L,v,S.length+2) ⟨rfl,by omega,by omega,by omega⟩ sA (rr [0,0,0,0,0] []) ?_;rintro⟨lx,X,x,f⟩ hi54;replace hi54:grow S (S.length+2) L v=grow S f X x∧mu S X.length x≤f∧L.length≤X.length∧X.length+mu S X.length x≤L.length+S.length+1:=hi54;show SK _ _ _ _ _ [(0,.pointer (some ⟨b,0,none⟩)),(5,.pointer (some ⟨g2,0,none⟩)),(7,iw (whole k))] _ (blkA b #[lx,.pointer (some ⟨r47,0,none⟩)] 130::own VlT lx X::rmA r47 S::blkA g2 (vc x) 32::blkA g1 (vc k) 32::F);refine k_seq<|k_sr<|sP (pB g2 0)<|sL (t_load 3 (iw x.kind))<|sL t_cmp<|s_nt<|k_cond (decide (x.kind≠0)) (fun c55=>?_) (fun c55=>?_)
 .have p56:=dY c55;have hx0:x.kind≠0:=dY c55;obtain⟨f1,hf1,hg1⟩:=grow_step S X hx0 hi54.2.1;have hg2:grow S (S.length+2) L v=grow S (f-1) (X++[x]) (oget S (ofI ((X.length:Int)+2))):=by rw[hi54.1,hg1,hf1];rfl
  refine k_st<|k_block<|k_seq<|k_draw<|sP4 (pB b 0)<|sL (t_load 0 lx)<|sL (t_loadA 3 (vc x))<|s_buildSlice (e:=32) [(0,.agg (vc x))] (vc x) (fun g57=>?_) (hb:=by kernel_rfl)
  refine s_append (L:=X) 2 VlT_ok Tryz.underlying37 (.lit 0 VlT_ok [x]) (by show _*48≤_;(try simp only[lnm]);omega) ol (fun v58=>?_);obtain⟨L2,hL2⟩:∃y,y=X++[x]:=⟨_,rfl⟩;rw[←hL2];have ll2:L2.length=X.length+1:=by rw[hL2];simp
  refine sP2 (pB b 0)<|sF 2 (fun hf59=>?_)
  refine s_store (u:=v58) (m:=1) 1 #[v58,pB r47 0] ?_ (hm:=by (obtain⟨_,_,e⟩:=hf59;rw[e];rfl)) (h1:=by (obtain⟨_,_,e⟩:=hf59;rw[e];rfl)) (ha':=by (obtain⟨_,_,e⟩:=hf59;rw[e];rfl));refine s_nil<|x_dynS (fun _ h=>by kernel_rfl) ?_
  refine xs_then<|k_held [blkA g57 (vc x) 32,blkA b #[v58,pB r47 0] 130,own VlT v58 L2,blkA g1 (vc k) 32] ?_
  refine hp_ 0 [0,0,0,2] (pB b 0) ?_;refine hp_ 1 [0,0,0,2] (pB b 0) ?_;refine hp_ 2 [0,0,0,2] (pB b 1) ?_;refine h_l 3 rfl [0,0,0,2] (fun _=>(t_load 1 (pB r47 0))) ?_;refine hp_ 4 [0,0,0,2] (pB b 0) ?_;refine hp_ 5 [0,0,0,2] (pB b 0) ?_;refine hp_ 6 [0,0,0,2] (pB b 0) ?_;refine h_l 7 rfl [0,0,0,2] (fun _=>(t_load 1 v58)) ?_;refine h_l 8 rfl [0,0,0,2] (fun _=>(t_len VlT_ok Tryz.underlying37 (.own 2))) ?_;refine h_l 9 rfl [0,0,0,2] (fun _=>(Lt.to (v':=iw ((X.length:Int)+2)) (t_add (L2.length:Int) 1 om) (cI om))) ?_;refine h_stepS 10 ?_;refine sV (fun _ h=>rkey_s ((X.length:Int)+2))<|nH [0,0,0,2]<|h_stepS 11 ?_
  refine sC [3] (rmget_s (S:=S) ol (ofI ((X.length:Int)+2))) ?_;refine nH [1,1,1,2]<|h_stepS 12 ?_
  refine s_store 4 (vc (oget S (ofI ((X.length:Int)+2)))) ?_;refine nH [1,1,1,2]<|h_doneS ?_
  refine xs_block ?_;exact xs_round (v58,L2,(oget S (ofI ((X.length:Int)+2))),f-1) (by show mu S _ _<mu S _ _;rw[ll2];exact mu_lt hinv0 hx0) (by show grow S (S.length+2) L v=_∧_;exact⟨by rw[hg2,hL2],by rw[ll2];have:=mu_lt hinv0 (n:=X.length) hx0;omega,by omega,by rw[ll2];have:=mu_lt hinv0 (n:=X.length) hx0;omega⟩) sA (rr [2,2,0,1,1] [5])
 have p60:=Decidable.not_not.1 (dF c55);have hx0:x.kind=0:=Decidable.not_not.1 (dF c55);have hgr:grow S (S.length+2) L v=X:=by rw[hi54.1];exact grow_stop S X hx0
 refine k_exit<|xs_exit<|xs_exit<|xs_here<|xs_then<|k_sr<|sP (pB b 0)<|sP (iw (whole k))<|s_mem (fun _ h=>rt_shut (h.re [0,0,0] [])) ?_
 refine sC [0] (rtpurge_s (L:=X) (S:=S) (n:=L.length) om om om om) ?_;refine s_nr<|sP (iw 0)<|s_nt<|k_ret ?_
 have hk:=okKey_good c3 c8;have hT:tset ⟨L,S⟩ k v=⟨X,if staleB S L.length X.length then purge S X.length else S⟩:=by rw[tset_add (T:=⟨L,S⟩) hk c11 (by show _=(L.length:Int)+1;omega) (dF c51),tadd_eq hgr]
 refine xs_fin [iw 0] (rtA b X (if staleB S L.length X.length then purge S X.length else S)::F) (SI.tmp 6 SI.nil) (rr [0] [1,1]) ⟨cI (tsetE_ok hk c11).symm,?_⟩;rw[hT]
end Go.Proofs.YtmilekfknhglkaaGreat
end
section
set_option linter.unusedSimpArgs false
set_option linter.unusedVariables false
namespace Go.Proofs.YtmilekfknhglkaaGreat
structure Hob where
 kind:Int
 tag:Int
 name:ByteArray
 tab:Tb
 mt:Vl
 vals:List Vl
 deriving DecidableEq
structure Hst where
 objs:List (Option Hob)
 tch:List Bool
 deriving DecidableEq
def noTb:Tb:=⟨[],[]⟩
def hp0:Hst:=⟨[],[]⟩
def refV(kind id:Int):Vl:=⟨kind,0,0,ByteArray.empty,id⟩
def strV(s:ByteArray):Vl:=⟨3,0,0,s,0⟩
def Hst.get(st:Hst)(id:Int):Option Hob:=if 1≤id then (st.objs[id.toNat-1]?).bind (fun x=>x) else none
def Hst.put(st:Hst)(id:Int)(o:Hob):Hst:={ st with objs:=st.objs.set (id.toNat-1) (some o) }
def Hst.touch(st:Hst)(id:Int):Hst:={ st with tch:=st.tch.set (id.toNat-1) true }
def Hst.count(st:Hst):Nat:=st.objs.countP Option.isSome
def isRef(k:Int):Bool:=decide (k=4)||(decide (k=5)||(decide (k=7)||decide (k=8)))
def hfind(st:Hst)(v:Vl):Option Hob:=(st.get v.ref).bind fun o=>if o.kind=v.kind then some o else none
def htab(st:Hst)(v:Vl):Option Tb:=(hfind st v).bind fun o=>if o.kind=4 then some o.tab else none
def newO(kind tag:Int)(name:ByteArray)(vals:List Vl):Hob:=⟨kind,tag,name,noTb,zVl,vals⟩
def hmakeV(st:Hst)(kind:Int):Vl:=if 65536≤st.count then zVl else refV kind ((st.objs.length:Int)+1)
def hmakeE(st:Hst):Int:=if 65536≤st.count then 17 else 0
def hmake(st:Hst)(o:Hob):Hst:=if 65536≤st.count then st else ⟨st.objs++[some o],st.tch++[true]⟩
def elemE(v:Vl):Int:=if v.kind=3∧4096<(v.str.size:Int) then 14 else if validB v=false then 2 else 0
def hgetV(st:Hst)(t k:Vl):Vl:=match htab st t with
 | some T=>tget T k
 | none=>zVl
def hgetE(st:Hst)(t:Vl):Int:=if (htab st t).isSome then 0 else 8
def hsetE(st:Hst)(t k v:Vl):Int:=match htab st t with
 | none=>8
 | some T=>if okKey k=false then 13 else elemE v
def Hst.setTab(st:Hst)(id:Int)(T:Tb):Hst:=match st.get id with
 | some o=>st.put id { o with tab:=T }
 | none=>st
def hset(st:Hst)(t k v:Vl):Hst:=match htab st t with
 | none=>st
 | some T=>if okKey k=false then st else if elemE v≠0 then st else (st.setTab t.ref (tset T k v)).touch t.ref
def hmeta(st:Hst)(v:Vl):Vl:=match hfind st v with
 | some o=>o.mt
 | none=>zVl
def hmetaOk(st:Hst)(v m:Vl):Bool:=match hfind st v with
 | some o=>(decide (o.kind=4)||decide (o.kind=8))&&(decide (m=zVl)||(htab st m).isSome)
 | none=>false
def hsetMetaE(st:Hst)(v m:Vl):Int:=if hmetaOk st v m=true then 0 else 8
def Hst.setMt(st:Hst)(id:Int)(m:Vl):Hst:=match st.get id with
 | some o=>st.put id { o with mt:=m }
 | none=>st
def hsetMeta(st:Hst)(v m:Vl):Hst:=if hmetaOk st v m=true then (st.setMt v.ref m).touch v.ref else st
structure ObInv(o:Hob):Prop where
 kind:isRef o.kind=true
 tab:TInv o.tab
 mt:o.kind≠4→o.kind≠8→o.mt=zVl
structure HInv(st:Hst):Prop where
 obs:∀o,some o∈st.objs→ObInv o
 tch:st.tch.length=st.objs.length
structure HSm(n:Nat)(st:Hst):Prop where
 len:st.objs.length≤n
 obs:∀o,some o∈st.objs→o.tab.rest.length≤n∧o.tab.list.length≤n*(n+1)∧o.vals.length≤n+20
theorem HInv.nil:HInv hp0:=⟨fun _ h=>(by cases h),rfl⟩
theorem HSm.nil:HSm 0 hp0:=⟨Nat.le_refl _,fun _ h=>(by cases h)⟩
theorem HSm.mono {n m : Nat} {st : Hst} (h : HSm n st) (hnm : n ≤ m) : HSm m st := ⟨Nat.le_trans h.len hnm, fun o ho => by
  obtain ⟨a, b, c⟩ := h.obs o ho
  have : n * (n + 1) ≤ m * (m + 1) := Nat.mul_le_mul hnm (by omega)
  exact ⟨by omega, by omega, by omega⟩⟩
theorem get_mem{st:Hst}{id:Int}{o:Hob}(h:st.get id=some o):some o∈st.objs∧1≤id∧id≤st.objs.length∧st.objs[id.toNat-1]?=some (some o):=by
 unfold Hst.get at h;split at h
 .rename_i h1;cases hx:st.objs[id.toNat-1]? with
  | none=>rw[hx]at h;cases h
  | some x=>
   rw[hx]at h;simp at h;subst h;have:=(List.getElem?_eq_some_iff.1 hx).1;exact⟨List.mem_of_getElem? hx,h1,by omega,rfl⟩
 cases h
theorem hfind_some{st:Hst}{v:Vl}{o:Hob}(h:hfind st v=some o):st.get v.ref=some o∧o.kind=v.kind:=by
 unfold hfind at h;cases hg:st.get v.ref with
 | none=>rw[hg]at h;cases h
 | some x=>
  rw[hg]at h;simp only[Option.bind_some]at h;split at h
  .injection h with e;subst e;exact⟨rfl,by assumption⟩
  cases h
theorem hfind_is{st:Hst}{v:Vl}{o:Hob}(h:st.get v.ref=some o)(hk:o.kind=v.kind):hfind st v=some o:=by unfold hfind;rw[h];simp[hk]
theorem hfind_kind{st:Hst}{v:Vl}{o:Hob}(h:st.get v.ref=some o)(hk:o.kind≠v.kind):hfind st v=none:=by unfold hfind;rw[h];simp[hk]
theorem hfind_none{st:Hst}{v:Vl}(h:st.get v.ref=none):hfind st v=none:=by unfold hfind;rw[h];rfl
theorem htab_some{st:Hst}{v:Vl}{T:Tb}(h:htab st v=some T):∃o,hfind st v=some o∧st.get v.ref=some o∧o.kind=4∧v.kind=4∧o.tab=T:=by
 unfold htab at h;cases hf:hfind st v with
 | none=>rw[hf]at h;cases h
 | some o=>
  rw[hf]at h;simp only[Option.bind_some]at h;split at h
  .rename_i h4;obtain⟨a,b⟩:=hfind_some hf;injection h with e
   exact⟨o,rfl,a,h4,by omega,e⟩
  cases h
theorem htab_is{st:Hst}{v:Vl}{o:Hob}(h:hfind st v=some o)(h4:o.kind=4):htab st v=some o.tab:=by unfold htab;rw[h];simp[h4]
theorem htab_not{st:Hst}{v:Vl}{o:Hob}(h:hfind st v=some o)(h4:o.kind≠4):htab st v=none:=by unfold htab;rw[h];simp[h4]
theorem htab_none{st:Hst}{v:Vl}(h:hfind st v=none):htab st v=none:=by unfold htab;rw[h];rfl
theorem get_put{st:Hst}{id:Int}{o o':Hob}(h:st.get id=some o)(id':Int):(st.put id o').get id'=if id'=id then some o' else st.get id':=by
 obtain⟨_,h1,h2,h3⟩:=get_mem h;unfold Hst.get Hst.put;by_cases e:id'=id
 .subst e;rw[if_pos h1,if_pos rfl,List.getElem?_set_self (by omega)];rfl
 rw[if_neg e];by_cases hp:1≤id'
 .rw [if_pos hp,if_pos hp,List.getElem?_set_ne (by omega)]
 rw[if_neg hp,if_neg hp]
theorem mem_put{st:Hst}{id:Int}{o x:Hob}(h:some x∈(st.put id o).objs):some x∈st.objs∨x=o:=by
 rcases List.mem_or_eq_of_mem_set h with h|h
 .exact .inl h
 exact .inr (Option.some.inj h)
theorem put_inv{st:Hst}(h:HInv st){id:Int}{o:Hob}(ho:ObInv o):HInv (st.put id o):=by
 refine⟨fun x hx=>?_,?_⟩
 .rcases mem_put hx with hx|rfl
  .exact h.obs x hx
  exact ho
 unfold Hst.put;simp only[List.length_set];exact h.tch
theorem touch_inv{st:Hst}(h:HInv st)(id:Int):HInv (st.touch id):=by
 refine⟨h.obs,?_⟩;unfold Hst.touch;simp only[List.length_set];exact h.tch
theorem hset_cases(st:Hst)(t k v:Vl):(htab st t=none∧hset st t k v=st∧hsetE st t k v=8)∨(∃T,htab st t=some T∧okKey k=false∧hset st t k v=st∧hsetE st t k v=13)∨(∃T,htab st t=some T∧okKey k=true∧elemE v≠0∧hset st t k v=st∧hsetE st t k v=elemE v)∨
  ∃T o,htab st t=some T∧okKey k=true∧elemE v=0∧validB v=true∧st.get t.ref=some o∧o.kind=4∧t.kind=4∧o.tab=T∧hset st t k v=(st.put t.ref { o with tab:=tset T k v }).touch t.ref∧hsetE st t k v=0:=by
 unfold hset hsetE;cases hT:htab st t with
 | none=>exact .inl ⟨rfl,rfl,rfl⟩
 | some T=>
  simp only;cases hk:okKey k with
  | false=>exact .inr (.inl ⟨T,rfl,rfl,by simp,by simp⟩)
  | true=>
   by_cases he:elemE v=0
   .obtain ⟨o,h1,h2,h3,h4,h5⟩:=htab_some hT;refine .inr (.inr (.inr ⟨T,o,rfl,rfl,he,?_,h2,h3,h4,h5,?_,?_⟩))
    .unfold elemE at he;split at he
     .cases he
     split at he
     .cases he
     rename_i hv;simpa using hv
    .unfold Hst.setTab;rw[h2];simp[he]
    simp[he]
   exact .inr (.inr (.inl ⟨T,rfl,rfl,he,by simp[he],by simp⟩))
theorem hset_inv{st:Hst}(h:HInv st)(t k v:Vl):HInv (hset st t k v):=by
 rcases hset_cases st t k v with ⟨_,e,_⟩|⟨_,_,_,e,_⟩|⟨_,_,_,_,e,_⟩|⟨T,o,h1,h2,h3,hv,h4,h5,h6,h7,e,_⟩
 .rw [e];exact h
 .rw [e];exact h
 .rw [e];exact h
 rw[e];have ho:=h.obs o (get_mem h4).1;refine touch_inv (put_inv h (o:={ o with tab:=tset T k v }) ⟨ho.kind,?_,ho.mt⟩) _;rw[←h7];exact tset_inv ho.tab k v
theorem hset_sm{n:Nat}{st:Hst}(hi:HInv st)(h:HSm n st)(t k v:Vl):HSm (n+1) (hset st t k v):=by
 rcases hset_cases st t k v with ⟨_,e,_⟩|⟨_,_,_,e,_⟩|⟨_,_,_,_,e,_⟩|⟨T,o,h1,h2,h3,hv,h4,h5,h6,h7,e,_⟩
 .rw [e];exact h.mono (by omega)
 .rw [e];exact h.mono (by omega)
 .rw [e];exact h.mono (by omega)
 rw[e];have hm:=h.mono (Nat.le_succ n);have ho:=h.obs o (get_mem h4).1;have hl:=tset_len (hi.obs o (get_mem h4).1).tab k v;refine⟨by show (st.objs.set _ _).length≤_;rw[List.length_set];exact hm.len,fun x hx=>?_⟩;rcases mem_put hx with hx|rfl
 .exact hm.obs x hx
 have:(n+1)*(n+1+1)=n*(n+1)+2*(n+1):=by simp only[Nat.add_mul,Nat.mul_add];omega
 rw[←h7];exact⟨by show (tset o.tab k v).rest.length≤_;omega,by show (tset o.tab k v).list.length≤_;omega,by show o.vals.length≤_;omega⟩
theorem hmake_inv{st:Hst}(h:HInv st){o:Hob}(ho:ObInv o):HInv (hmake st o):=by
 unfold hmake;split
 .exact h
 refine⟨fun x hx=>?_,by simp[h.tch]⟩;rcases List.mem_append.1 hx with hx|hx
 .exact h.obs x hx
 rw[List.mem_singleton]at hx;injection hx with hx;rw[hx];exact ho
theorem hmake_sm{n:Nat}{st:Hst}(h:HSm n st){o:Hob}(h1:o.tab=noTb)(h2:o.vals.length≤20):HSm (n+1) (hmake st o):=by
 have hm:=h.mono (Nat.le_succ n);unfold hmake;split
 .exact hm
 refine⟨by simp;exact h.len,fun x hx=>?_⟩;rcases List.mem_append.1 hx with hx|hx
 .exact hm.obs x hx
 rw[List.mem_singleton]at hx;injection hx with hx;rw[hx,h1]
 exact⟨Nat.zero_le _,Nat.zero_le _,by omega⟩
theorem newO_inv{kind:Int}(tag:Int)(name:ByteArray)(vals:List Vl)(hk:isRef kind=true):ObInv (newO kind tag name vals):=⟨hk,TInv.nil,fun _ _=>rfl⟩
theorem hsetMeta_cases(st:Hst)(v m:Vl):(hsetMeta st v m=st∧hsetMetaE st v m=8∧hmetaOk st v m=false)∨∃o,st.get v.ref=some o∧o.kind=v.kind∧(o.kind=4∨o.kind=8)∧hsetMeta st v m=(st.put v.ref { o with mt:=m }).touch v.ref∧hsetMetaE st v m=0∧hmetaOk st v m=true:=by
 unfold hsetMeta hsetMetaE;cases hb:hmetaOk st v m with
 | false=>exact .inl ⟨rfl,rfl,rfl⟩
 | true=>
  unfold hmetaOk at hb;cases hf:hfind st v with
  | none=>rw[hf]at hb;cases hb
  | some o=>
   rw[hf]at hb;obtain⟨h1,h2⟩:=hfind_some hf;simp only[Bool.and_eq_true,Bool.or_eq_true,decide_eq_true_eq]at hb;refine .inr ⟨o,h1,h2,hb.1,?_,rfl,rfl⟩;unfold Hst.setMt;rw[h1];rfl
theorem hsetMeta_inv{st:Hst}(h:HInv st)(v m:Vl):HInv (hsetMeta st v m):=by
 rcases hsetMeta_cases st v m with ⟨e,_⟩|⟨o,h1,_,h2,e,_⟩
 .rw [e];exact h
 rw[e];have ho:=h.obs o (get_mem h1).1;exact touch_inv (put_inv h (o:={ o with mt:=m }) ⟨ho.kind,ho.tab,fun a b=>by rcases h2 with h|h<;>contradiction⟩) _
theorem hsetMeta_sm{n:Nat}{st:Hst}(h:HSm n st)(v m:Vl):HSm (n+1) (hsetMeta st v m):=by
 rcases hsetMeta_cases st v m with ⟨e,_⟩|⟨o,h1,_,h2,e,_⟩
 .rw [e];exact h.mono (by omega)
 rw[e];have hm:=h.mono (Nat.le_succ n);refine⟨by show (st.objs.set _ _).length≤_;rw[List.length_set];exact hm.len,fun x hx=>?_⟩;rcases mem_put hx with hx|rfl
 .exact hm.obs x hx
 exact hm.obs o (get_mem h1).1
/-! ### Objects beside a map of their places -/
def ob0:Hob:=⟨0,0,ByteArray.empty,noTb,zVl,[]⟩
def Hst.ob(st:Hst)(id:Int):Hob:=(st.get id).getD ob0
theorem ob_get{st:Hst}{id:Int}{o:Hob}(h:st.get id=some o):st.ob id=o:=by unfold Hst.ob;rw[h];rfl
theorem get_end(st:Hst):st.get ((st.objs.length:Int)+1)=none:=by
 unfold Hst.get;rw[if_pos (by omega),show ((st.objs.length:Int)+1).toNat-1=st.objs.length by omega,List.getElem?_eq_none (Nat.le_refl _)];rfl
theorem get_snoc(st:Hst)(o:Hob)(tch:List Bool)(id:Int):Hst.get ⟨st.objs++[some o],tch⟩ id=if id=(st.objs.length:Int)+1 then some o else st.get id:=by
 unfold Hst.get;by_cases h:id=(st.objs.length:Int)+1
 .subst h;rw[if_pos rfl,if_pos (by omega)];show ((st.objs++[some o])[_]?).bind _=_;rw[show ((st.objs.length:Int)+1).toNat-1=st.objs.length by omega,List.getElem?_append_right (Nat.le_refl _)];simp
 rw[if_neg h];by_cases hp:1≤id
 .rw [if_pos hp,if_pos hp];show ((st.objs++[some o])[_]?).bind _=_;by_cases hl:id.toNat-1<st.objs.length
  .rw [List.getElem?_append_left hl]
  rw[List.getElem?_eq_none (by simp;omega),List.getElem?_eq_none (by omega)]
 rw[if_neg hp,if_neg hp]
theorem count_snoc(st:Hst)(o:Hob)(tch:List Bool):Hst.count ⟨st.objs++[some o],tch⟩=st.count+1:=by unfold Hst.count;simp
theorem countP_set{α:Type}{p:α→Bool}:∀(l:List α) {i:Nat}{x y:α},l[i]?=some x→p x=p y→(l.set i y).countP p=l.countP p
 | [],_,_,_,h,_=>by cases h
 | a::r,0,x,y,h,e=>by
  simp only[List.getElem?_cons_zero,Option.some.injEq]at h;subst h;simp[List.countP_cons,e]
 | a::r,i+1,x,y,h,e=>by
  simp only[List.getElem?_cons_succ]at h;simp[List.countP_cons,countP_set r h e]
theorem count_put{st:Hst}{id:Int}{o o':Hob}(h:st.get id=some o):(st.put id o').count=st.count:=by
 obtain⟨_,h1,h2,h3⟩:=get_mem h;exact countP_set _ h3 rfl
end Go.Proofs.YtmilekfknhglkaaGreat
end
section
set_option linter.unusedSimpArgs false
set_option linter.unusedVariables false
namespace Go.Proofs.YtmilekfknhglkaaGreat
open Go.S Go.J Go.Hp
open Go.Mem (aget aset adel apos aget_aset aget_adel)
structure HA(ps:List (Int×(Nat×Nat)))(st:Hst):Prop where
 has:∀id,(aget ps id).isSome=(st.get id).isSome
 len:ps.length=st.count
def TA(tm:List (Int×Bool))(st:Hst):Prop:=∀id o,st.get id=some o→(aget tm id).isSome=(st.tch[id.toNat-1]?).getD false
abbrev ptrV(g:Nat):Value:=.pointer (some ⟨g,0,none⟩)
def fndV(ps:List (Int×(Nat×Nat)))(st:Hst)(v:Vl):Value:=match hfind st v,aget ps v.ref with
 | some _,some q=>ptrV q.1
 | _,_=>.pointer none
def tabV(q:Nat×Nat)(o:Hob):Value:=if o.kind=4 then ptrV q.2 else .pointer none
def tbV(ps:List (Int×(Nat×Nat)))(st:Hst)(v:Vl):Value:=match hfind st v,aget ps v.ref with
 | some o,some q=>tabV q o
 | _,_=>.pointer none
theorem get_cases{ps:List (Int×(Nat×Nat))}{st:Hst}(h:HA ps st)(id:Int):(st.get id=none∧aget ps id=none)∨∃o q,st.get id=some o∧aget ps id=some q:=by
 have:=h.has id;cases h1:st.get id with
 | none=>rw[h1]at this;exact .inl ⟨rfl,by cases h2:aget ps id with|none=>rfl|some q=>rw[h2]at this;cases this⟩
 | some o=>rw[h1]at this;exact .inr (by cases h2:aget ps id with|none=>rw[h2]at this;cases this|some q=>exact⟨o,q,rfl,rfl⟩)
theorem fnd_cases{ps:List (Int×(Nat×Nat))}{st:Hst}(h:HA ps st)(v:Vl):(hfind st v=none∧htab st v=none∧fndV ps st v=.pointer none∧tbV ps st v=.pointer none)∨∃o q,hfind st v=some o∧st.get v.ref=some o∧o.kind=v.kind∧aget ps v.ref=some q∧fndV ps st v=ptrV q.1∧tbV ps st v=tabV q o:=by
 cases hf:hfind st v with
 | none=>exact .inl ⟨rfl,htab_none hf,by unfold fndV;rw[hf],by unfold tbV;rw[hf]⟩
 | some o=>
  obtain⟨h1,h2⟩:=hfind_some hf;rcases get_cases h v.ref with ⟨h3,_⟩|⟨o',q,h3,h4⟩
  .rw [h1]at h3;cases h3
  exact .inr ⟨o,q,rfl,h1,h2,h4,by unfold fndV;rw[hf,h4],by unfold tbV;rw[hf,h4]⟩
theorem tb_cases{ps:List (Int×(Nat×Nat))}{st:Hst}(h:HA ps st)(v:Vl):(htab st v=none∧tbV ps st v=.pointer none)∨∃o q,htab st v=some o.tab∧st.get v.ref=some o∧o.kind=4∧v.kind=4∧aget ps v.ref=some q∧tbV ps st v=ptrV q.2:=by
 rcases fnd_cases h v with ⟨h1,h2,h3,h4⟩|⟨o,q,h1,h2,h3,h4,h5,h6⟩
 .exact .inl ⟨h2,h4⟩
 by_cases hk:o.kind=4
 .exact .inr ⟨o,q,htab_is h1 hk,h2,hk,by omega,h4,by rw[h6];unfold tabV;rw[if_pos hk]⟩
 exact .inl ⟨htab_not h1 hk,by rw[h6];unfold tabV;rw[if_neg hk]⟩
theorem HA.nil:HA [] hp0:=⟨fun id=>by unfold Hst.get hp0;by_cases h:1≤id<;>simp[h,aget],rfl⟩
theorem TA.nil:TA [] hp0:=fun id o h=>by
 have:=(get_mem h).1;cases this
theorem HA.put{ps:List (Int×(Nat×Nat))}{st:Hst}(h:HA ps st){id:Int}{o o':Hob}(hg:st.get id=some o):HA ps (st.put id o'):=by
 refine⟨fun id'=>?_,by rw[h.len,count_put hg]⟩;rw[h.has,get_put hg];by_cases e:id'=id
 .subst e;rw[hg,if_pos rfl];rfl
 rw[if_neg e]
theorem HA.touch{ps:List (Int×(Nat×Nat))}{st:Hst}(h:HA ps st)(id:Int):HA ps (st.touch id):=⟨h.has,h.len⟩
theorem TA.put{tm:List (Int×Bool)}{st:Hst}(h:TA tm st){id:Int}{o o':Hob}(hg:st.get id=some o):TA tm (st.put id o'):=fun id' x hx=>by
 rw[get_put hg]at hx;show _=(st.tch[_]?).getD false;by_cases e:id'=id
 .subst e;exact h id' o hg
 rw[if_neg e]at hx;exact h id' x hx
theorem TA.touch{tm:List (Int×Bool)}{st:Hst}(h:TA tm st)(hi:HInv st){id:Int}{o:Hob}(hg:st.get id=some o):TA (aset tm id true) (st.touch id):=fun id' x hx=>by
 obtain⟨_,h1,h2,_⟩:=get_mem hg;obtain⟨_,h3,h4,_⟩:=get_mem (show st.get id'=some x from hx);have ht:=hi.tch;show _=((st.tch.set _ true)[_]?).getD false;rw[aget_aset];by_cases e:id'=id
 .subst e;rw[if_pos rfl,List.getElem?_set_self (by omega)];rfl
 rw[if_neg e,List.getElem?_set_ne (by omega)];exact h id' x hx
theorem HA.make{ps:List (Int×(Nat×Nat))}{st:Hst}(h:HA ps st)(o:Hob)(q:Nat×Nat)(hf:st.count<65536):HA (aset ps ((st.objs.length:Int)+1) q) (hmake st o):=by
 unfold hmake;rw[if_neg (by omega)];have hnone:aget ps ((st.objs.length:Int)+1)=none:=by
  have:=h.has ((st.objs.length:Int)+1);rw[get_end]at this;cases hx:aget ps ((st.objs.length:Int)+1) with
  | none=>rfl
  | some q=>rw[hx]at this;cases this
 refine⟨fun id=>?_,?_⟩
 .rw [aget_aset,get_snoc];by_cases e:id=(st.objs.length:Int)+1
  .rw [if_pos e,if_pos e];rfl
  rw[if_neg e,if_neg e];exact h.has id
 rw[count_snoc,←h.len];have:apos ps ((st.objs.length:Int)+1)=none:=by
  cases hp:apos ps ((st.objs.length:Int)+1) with
  | none=>rfl
  | some i=>obtain⟨_,y,_,h2⟩:=Go.Mem.apos_lt hp;rw[hnone]at h2;cases h2
 rw[Go.Mem.aset_new this];simp
theorem TA.make{tm:List (Int×Bool)}{st:Hst}(h:TA tm st)(hi:HInv st)(o:Hob)(hf:st.count<65536):TA (aset tm ((st.objs.length:Int)+1) true) (hmake st o):=fun id x hx=>by
 unfold hmake at hx⊢;rw[if_neg (by omega)]at hx⊢;rw[get_snoc]at hx;have ht:=hi.tch;show _=((st.tch++[true])[_]?).getD false;rw[aget_aset];by_cases e:id=(st.objs.length:Int)+1
 .rw [if_pos e,e,show ((st.objs.length:Int)+1).toNat-1=st.objs.length by omega,List.getElem?_append_right (by omega)];simp[ht]
 rw[if_neg e]at hx⊢;obtain⟨_,h1,h2,_⟩:=get_mem hx;rw[List.getElem?_append_left (by omega)];exact h id x hx
end Go.Proofs.YtmilekfknhglkaaGreat
end
section
set_option linter.unusedSimpArgs false
set_option linter.unusedVariables false
set_option maxRecDepth 100000
set_option maxHeartbeats 2000000
namespace Go.Proofs.YtmilekfknhglkaaGreat
open Go.Hp Go.J Go.S
open Go.Mem (Ty KTy blk elemAt pre suf blk_pre blk_suf aget aset strK aggDesc)
open Go.Mem (adel apos aget_aset aget_adel)
abbrev oV(q:Nat×Nat):Value:=ptrV q.1
abbrev bV(b:Bool):Value:=.bool b
abbrev iK:KTy Int:=Go.Mem.intK 3
def tabO(q:Nat×Nat)(o:Hob):Asr:=star (if o.kind=4 then [tbA q.2 o.tab.list o.tab.rest] else [])
def obP(q:Nat×Nat)(o:Hob):Asr:=exA fun v=>stA True [blkA q.1 #[iw o.kind,iw o.tag,sw o.name,tabV q o,iw o.mt.kind,iw o.mt.p,iw o.mt.q,sw o.mt.str,iw o.mt.ref,v] 90,own VlT v o.vals,tabO q o]
def allP(ps:List (Int×(Nat×Nat)))(st:Hst):Asr:=star (ps.map fun p=>obP p.2 (st.ob p.1))
def holeP(ps:List (Int×(Nat×Nat)))(st:Hst)(id:Int):Asr:=star ((adel ps id).map fun p=>obP p.2 (st.ob p.1))
def hpP(b:Nat)(st:Hst)(ps:List (Int×(Nat×Nat))):Asr:=exA fun mb=>exA fun tb=>exA fun tm=>stA (HInv st∧HA ps st∧TA tm st) [blkA b #[.map (some mb),iw (st.objs.length:Int),.map (some tb)] 64,mpA iK oV mb ps,mpA iK bV tb tm,allP ps st]
def hpA(b:Nat)(st:Hst):Asr:=exA fun ps=>hpP b st ps
section
variable{Z:Zone}{F:List Asr}{H:Heap}{b:Nat}{st:Hst}{ps:List (Int×(Nat×Nat))}{id:Int}{q:Nat×Nat}{o o':Hob}
theorem ob_open(h:Holds Z (obP q o::F) H):∃v,True∧Holds Z (blkA q.1 #[iw o.kind,iw o.tag,sw o.name,tabV q o,iw o.mt.kind,iw o.mt.p,iw o.mt.q,sw o.mt.str,iw o.mt.ref,v] 90::own VlT v o.vals::tabO q o::F) H:=by
 obtain⟨v,h⟩:=h.open_ex;exact⟨v,h.open_st⟩
theorem ob_shut{v:Value}(h:Holds Z (blkA q.1 #[iw o.kind,iw o.tag,sw o.name,tabV q o,iw o.mt.kind,iw o.mt.p,iw o.mt.q,sw o.mt.str,iw o.mt.ref,v] 90::own VlT v o.vals::tabO q o::F) H):Holds Z (obP q o::F) H:=Holds.shut_ex v (Holds.shut_st trivial h)
theorem tabO_open(h4:o.kind=4)(h:Holds Z (tabO q o::F) H):Holds Z (tbA q.2 o.tab.list o.tab.rest::F) H:=by
 unfold tabO at h;rw[if_pos h4]at h;exact h.star_out
theorem tabO_shut{T:Tb}(h4:o.kind=4)(h:Holds Z (tbA q.2 T.list T.rest::F) H):Holds Z (tabO q { o with tab:=T }::F) H:=by
 unfold tabO;rw[if_pos h4];exact Holds.star_in (L:=[_]) h
theorem tabO_none(h4:o.kind≠4)(h:Holds Z F H):Holds Z (tabO q o::F) H:=by
 unfold tabO;rw[if_neg h4];exact h.star_nil
theorem all_focus(hq:aget ps id=some q)(ho:st.get id=some o)(h:Holds Z (allP ps st::F) H):∃v,True∧Holds Z (blkA q.1 #[iw o.kind,iw o.tag,sw o.name,tabV q o,iw o.mt.kind,iw o.mt.p,iw o.mt.q,sw o.mt.str,iw o.mt.ref,v] 90::own VlT v o.vals::tabO q o::holeP ps st id::F) H:=by
 obtain⟨i,hp⟩:∃i,apos ps id=some i:=by
  cases hp:apos ps id with
  | none=>rw[Go.Mem.apos_none hp]at hq;cases hq
  | some i=>exact⟨i,rfl⟩
 obtain⟨hi,y,hy,hq'⟩:=Go.Mem.apos_lt hp;rw[hq]at hq';cases hq';have h1:Holds Z (obP q (st.ob id)::star ((ps.eraseIdx i).map fun p=>obP p.2 (st.ob p.1))::F) H:=h.star_get hy;unfold holeP;rw[Go.Mem.adel_pos hp];rw[ob_get ho]at h1;exact ob_open h1
theorem put_same(ho:st.get id=some o):st.put id o=st:=by
 obtain⟨_,h1,h2,h3⟩:=get_mem ho;unfold Hst.put;rw[set_same h3]
theorem all_unfocus (hnd : (ps.map Prod.fst).Nodup) (hq : aget ps id = some q) (ho : st.get id = some o) (h : Holds Z (obP q o' :: holeP ps st id :: F) H) : Holds Z (allP ps (st.put id o') :: F) H := by
  obtain ⟨i, hp⟩ : ∃ i, apos ps id = some i := by
    cases hp : apos ps id with
    | none => rw [Go.Mem.apos_none hp] at hq; cases hq
    | some i => exact ⟨i, rfl⟩
  obtain ⟨hi, y, hy, hq'⟩ := Go.Mem.apos_lt hp
  rw [hq] at hq'; cases hq'
  unfold holeP at h
  rw [Go.Mem.adel_pos hp] at h
  refine Holds.star_set (f := fun p : Int × (Nat × Nat) => obP p.2 (st.ob p.1)) (g := fun p => obP p.2 ((st.put id o').ob p.1)) hy (fun j p hj hp' => ?_) ?_
  · show obP p.2 _ = obP p.2 _
    have hne : p.1 ≠ id := fun e => hj (by
      obtain ⟨hj1, e1⟩ := List.getElem?_eq_some_iff.1 hp'
      refine (List.getElem_inj (h₀ := by rw [List.length_map]; exact hj1) (h₁ := by rw [List.length_map]; exact hi) hnd).1 ?_
      simp only [List.getElem_map]
      rw [e1, (List.getElem?_eq_some_iff.1 hy).2]; exact e)
    unfold Hst.ob
    rw [get_put ho, if_neg hne]
  · have e : (st.put id o').ob id = o' := by unfold Hst.ob; rw [get_put ho, if_pos rfl]; rfl
    show Holds Z (obP q ((st.put id o').ob id) :: _ :: F) H
    rw [e]; exact h
theorem hp_open(h:Holds Z (hpP b st ps::F) H):∃(mb tb:Nat) (tm:List (Int×Bool)),(HInv st∧HA ps st∧TA tm st)∧Holds Z (blkA b #[.map (some mb),iw (st.objs.length:Int),.map (some tb)] 64::mpA iK oV mb ps::mpA iK bV tb tm::allP ps st::F) H:=by
 obtain⟨mb,h⟩:=h.open_ex;obtain⟨tb,h⟩:=h.open_ex;obtain⟨tm,h⟩:=h.open_ex;exact⟨mb,tb,tm,h.open_st⟩
theorem hp_shut{mb tb:Nat}{tm:List (Int×Bool)}{n:Int}(hp:(HInv st∧HA ps st∧TA tm st)∧n=(st.objs.length:Int))(h:Holds Z (blkA b #[.map (some mb),iw n,.map (some tb)] 64::mpA iK oV mb ps::mpA iK bV tb tm::allP ps st::F) H):Holds Z (hpP b st ps::F) H:=by
 obtain⟨h1,rfl⟩:=hp;exact Holds.shut_ex mb (Holds.shut_ex tb (Holds.shut_ex tm (Holds.shut_st h1 h)))
theorem hp_facts(h:Holds Z (hpP b st ps::F) H):HInv st∧HA ps st:=by
 obtain⟨_,_,_,h,_⟩:=hp_open h;exact⟨h.1,h.2.1⟩
theorem hpA_open(h:Holds Z (hpA b st::F) H):∃ps,True∧Holds Z (hpP b st ps::F) H:=by
 obtain⟨ps,h⟩:=h.open_ex;exact⟨ps,trivial,h⟩
theorem hpA_shut(h:Holds Z (hpP b st ps::F) H):Holds Z (hpA b st::F) H:=Holds.shut_ex ps h
theorem hpA_inv(h:Holds Z (hpA b st::F) H):HInv st:=by
 obtain⟨ps,h⟩:=h.open_ex;exact (hp_facts h).1
theorem put_len:(st.put id o').objs.length=st.objs.length:=by unfold Hst.put;simp
def tholeP(b:Nat)(st:Hst)(ps:List (Int×(Nat×Nat)))(id:Int)(q:Nat×Nat)(o:Hob):Asr:=exA fun mb=>exA fun tb=>exA fun tm=>exA fun v=>stA (HInv st∧HA ps st∧TA tm st) [blkA b #[.map (some mb),iw (st.objs.length:Int),.map (some tb)] 64,mpA iK oV mb ps,mpA iK bV tb tm,blkA q.1 #[iw o.kind,iw o.tag,sw o.name,tabV q o,iw o.mt.kind,iw o.mt.p,iw o.mt.q,sw o.mt.str,iw o.mt.ref,v] 90,own VlT v o.vals,holeP ps st id]
theorem tab_out(hq:aget ps id=some q)(ho:st.get id=some o)(h4:o.kind=4)(h:Holds Z (hpP b st ps::F) H):Holds Z (tbA q.2 o.tab.list o.tab.rest::tholeP b st ps id q o::F) H:=by
 obtain⟨mb,tb,tm,hf,h⟩:=hp_open h;obtain⟨v,_,h⟩:=all_focus hq ho (h.re [3] []:Holds Z (allP ps st::_::_::_::F) H);have h1:=tabO_open h4 (h.re [2] []:Holds Z (tabO q o::_::_::_::_::_::_::F) H);refine Holds.swap (Holds.shut_ex mb (Holds.shut_ex tb (Holds.shut_ex tm (Holds.shut_ex v (Holds.shut_st hf ?_)))));exact h1.re [4,4,4,1,1,1] []
theorem tab_in{T:Tb}(hq:aget ps id=some q)(ho:st.get id=some o)(h4:o.kind=4)(hT:TInv T)(h:Holds Z (tbA q.2 T.list T.rest::tholeP b st ps id q o::F) H):Holds Z (hpP b (st.put id { o with tab:=T }) ps::F) H:=by
 obtain⟨mb,h⟩:=h.swap.open_ex;obtain⟨tb,h⟩:=h.open_ex;obtain⟨tm,h⟩:=h.open_ex;obtain⟨v,h⟩:=h.open_ex;obtain⟨hf,h⟩:=h.open_st;have hnd:=(h.mp (i:=1) rfl).nodup;have h1:=tabO_shut (o:=o) h4 (h.re [6] []:Holds Z (tbA q.2 T.list T.rest::_::_::_::_::_::_::F) H);have e:tabV q { o with tab:=T }=tabV q o:=rfl;have h2:Holds Z (obP q { o with tab:=T }::holeP ps st id::_::_::_::F) H:=ob_shut (o:={ o with tab:=T }) (by rw[e];exact h1.re [4,4,0,3] []);have h3:=all_unfocus hnd hq ho h2;have hi:ObInv o:=hf.1.obs o (get_mem ho).1;exact hp_shut ⟨⟨put_inv hf.1 ⟨hi.kind,hT,hi.mt⟩,hf.2.1.put ho,hf.2.2.put ho⟩,by rw[put_len]⟩ (h3.re [1,1,1,0] [])
theorem tab_back(hq:aget ps id=some q)(ho:st.get id=some o)(h4:o.kind=4)(h:Holds Z (tbA q.2 o.tab.list o.tab.rest::tholeP b st ps id q o::F) H):Holds Z (hpP b st ps::F) H:=by
 have hi:HInv st:=by
  obtain⟨_,h⟩:=h.swap.open_ex;obtain⟨_,h⟩:=h.open_ex;obtain⟨_,h⟩:=h.open_ex;obtain⟨_,h⟩:=h.open_ex;exact h.open_st.1.1
 have:=tab_in hq ho h4 (hi.obs o (get_mem ho).1).tab h;rwa [show st.put id { o with tab:=o.tab }=st from put_same ho]at this
end
theorem hfind_s{Z:Zone}{F:List Asr}{b:Nat}{st:Hst}{ps:List (Int×(Nat×Nat))}(v:Vl):SF Tryz.prog 80 #[.pointer (some ⟨b,0,none⟩),v.v] Z (hpP b st ps::F) fun r Bs=>r=fndV ps st v∧Bs=hpP b st ps::F:=by
 refine sf_enter Tryz.func80 27 [(0,pB b 0),(1,.agg (vc v))] (fun w0=>?_);refine k_mem3 (fun H h=>hp_open (h.re [0] [])) (fun mb1 tb2 tm3 hw=>?_);obtain⟨hi4,ha5,ht6⟩:=hw;refine k_sr<|s_box (vc v) (fun g7=>?_)
 refine sP (.pointer none)<|s_nt<|k_seq<|k_sr<|sP (pB b 0)<|sP (.bool false)<|s_nt<|k_false<|k_st<|k_seq<|k_draw<|sP3 (pB b 0)<|sL (t_load 1 (.map (some mb1)))<|sP (pB g7 4)<|sL (t_load 0 (iw v.ref)) ?_
 rcases get_cases ha5 v.ref with ⟨hg8,hq9⟩|⟨o10,q11,ho12,hq13⟩
 .refine sL (Lt.to (v':=.pointer none) (t_lookup 2 intOk Tryz.underlying61 (.pointer none) v.ref) (by rw[hq9];rfl))<|sP (.pointer none)<|s_nil<|x_dynS (fun _ h=>by kernel_rfl) ?_
  refine xs_then<|k_seq<|k_seq<|k_draw<|sP (.pointer none)<|sP2 (.bool true)<|sK<|sK<|sK<|sK<|sK<|sK<|sK<|sP (.bool true)<|s_nil<|x_dynS (fun _ h=>by kernel_rfl) ?_
  refine xs_then<|k_true<|k_sr<|sP (.pointer none)<|s_nt<|k_ret<|xs_ret<|xs_mem (fun _ h=>hp_shut (st:=st) (n:=(st.objs.length:Int)) ⟨⟨hi4,ha5,ht6⟩,rfl⟩ (h.re [1,1,1,1] [])) ?_
  refine xs_fin [.pointer none] (hpP b st ps::F) (SI.tmp 4 SI.nil) (rr [0] [1]) ⟨?_,rfl⟩;show Value.pointer none=fndV ps st v;unfold fndV;rw[hfind_none hg8]
 refine sL (Lt.to (v':=ptrV q11.1) (t_lookup 2 intOk Tryz.underlying61 (.pointer none) v.ref) (by rw[hq13];rfl))<|sP (pB q11.1 0)<|s_nil<|x_dynS (fun _ h=>by kernel_rfl) ?_
 refine xs_then<|k_seq<|k_seq<|k_draw<|sP (pB q11.1 0)<|sP2 (.bool false)<|sP3 (pB q11.1 0)<|s_memX (fun H h=>all_focus hq13 ho12 (h.re [4] [])) (fun v14 _=>?_)
 refine sL (t_load 0 (iw o10.kind))<|sP (pB g7 0)<|sL (t_load 4 (iw v.kind))<|sL t_cmp<|sP (.bool (decide (o10.kind≠v.kind)))<|s_nil<|x_dynS (fun _ h=>by kernel_rfl) ?_
 refine xs_then<|k_cond (decide (o10.kind≠v.kind)) (fun c15=>?_) (fun c15=>?_)
 .have p16:=dY c15;refine k_sr<|sP (.pointer none)<|s_nt<|k_ret<|xs_ret<|xs_fact (fun H h=>(h.mp (i:=6) rfl).nodup) (fun hnd17=>?_)
  refine xs_mem (fun _ h=>(put_same ho12)▸all_unfocus (o':=o10) hnd17 hq13 ho12 (ob_shut (o:=o10) (h.re [0,0,0,0] []))) ?_;refine xs_mem (Bs:=allP ps st::blkA g7 (vc v) 32::blkA b #[.map (some mb1),iw (st.objs.length:Int),.map (some tb2)] 64::mpA iK oV mb1 ps::mpA iK bV tb2 tm3::F) (fun _ h=>h) ?_;refine xs_mem (fun _ h=>hp_shut (st:=st) (n:=(st.objs.length:Int)) ⟨⟨hi4,ha5,ht6⟩,rfl⟩ (h.re [2,2,2,0] [])) ?_;refine xs_fin [.pointer none] (hpP b st ps::F) (SI.tmp 4 SI.nil) (rr [0] [1]) ⟨?_,rfl⟩;show Value.pointer none=fndV ps st v;unfold fndV;rw[hfind_kind ho12 om]
 have p18:=Decidable.not_not.1 (dF c15);refine k_st<|k_sr<|sP2 (pB q11.1 0)<|s_nt<|k_ret<|xs_fact (fun H h=>(h.mp (i:=6) rfl).nodup) (fun hnd19=>?_)
 refine xs_mem (fun _ h=>(put_same ho12)▸all_unfocus (o':=o10) hnd19 hq13 ho12 (ob_shut (o:=o10) (h.re [0,0,0,0] []))) ?_;refine xs_mem (Bs:=allP ps st::blkA g7 (vc v) 32::blkA b #[.map (some mb1),iw (st.objs.length:Int),.map (some tb2)] 64::mpA iK oV mb1 ps::mpA iK bV tb2 tm3::F) (fun _ h=>h) ?_;refine xs_mem (fun _ h=>hp_shut (st:=st) (n:=(st.objs.length:Int)) ⟨⟨hi4,ha5,ht6⟩,rfl⟩ (h.re [2,2,2,0] [])) ?_;refine xs_fin [pB q11.1 0] (hpP b st ps::F) (SI.tmp 4 SI.nil) (rr [0] [1]) ⟨?_,rfl⟩;show ptrV _=fndV ps st v;unfold fndV;rw[hfind_is ho12 om,hq13]
theorem htab_s{Z:Zone}{F:List Asr}{b:Nat}{st:Hst}{ps:List (Int×(Nat×Nat))}(v:Vl):SF Tryz.prog 72 #[.pointer (some ⟨b,0,none⟩),v.v] Z (hpP b st ps::F) fun r Bs=>r=tbV ps st v∧Bs=hpP b st ps::F:=by
 refine sf_enter Tryz.func72 15 [(0,pB b 0),(1,.agg (vc v))] (fun w0=>?_);refine k_fact (fun H h=>hp_facts (h.re [0] [])) (fun hf1=>?_);obtain⟨hi2,ha3⟩:=hf1;refine k_sr<|s_box (vc v) (fun g4=>?_)
 refine sP (.pointer none)<|s_nr<|sP (pB b 0)<|sL (t_loadA 0 (vc v))<|s_call [1] (hfind_s (st:=st) (ps:=ps) v) ?_
 rintro u5 _ ⟨e6,rfl⟩;rcases fnd_cases ha3 v with ⟨hf7,ht8,hv9,hv10⟩|⟨o11,q12,hf13,ho14,hk15,hq16,hv17,hv18⟩
 .rw [hv9]at e6;subst e6;refine sP (.pointer none)<|s_nt<|k_seq<|k_sr<|sP (.pointer none)<|sP (.bool true)<|s_nt<|k_true<|k_sr<|sP (.pointer none)<|s_nt<|k_ret<|xs_ret<|xs_fin [.pointer none] (hpP b st ps::F) (SI.tmp 4 SI.nil) (rr [0] [1]) ⟨?_,rfl⟩
  exact (hv10).symm
 rw[hv17]at e6;subst e6;refine sP (pB q12.1 0)<|s_nt<|k_seq<|k_sr<|sP (pB q12.1 0)<|sP (.bool false)<|s_nt<|k_false<|k_st<|k_sr<|sP2 (pB q12.1 0)<|sP (pB q12.1 3)<|s_mem3 (fun H h=>hp_open (h.re [0] [])) (fun mb19 tb20 tm21 hw=>?_)
 obtain⟨hi22,ha23,ht24⟩:=hw;refine s_memX (fun H h=>all_focus hq16 ho14 (h.re [3] [])) (fun v25 _=>?_);refine sL (t_load 0 (tabV q12 o11))<|sP (tabV q12 o11)<|s_nt<|k_ret<|xs_fact (fun H h=>(h.mp (i:=5) rfl).nodup) (fun hnd26=>?_)
 refine xs_mem (fun _ h=>(put_same ho14)▸all_unfocus (o':=o11) hnd26 hq16 ho14 (ob_shut (o:=o11) (h.re [0,0,0,0] []))) ?_;refine xs_mem (Bs:=allP ps st::blkA b #[.map (some mb19),iw (st.objs.length:Int),.map (some tb20)] 64::mpA iK oV mb19 ps::mpA iK bV tb20 tm21::blkA g4 (vc v) 32::F) (fun _ h=>h) ?_;refine xs_mem (fun _ h=>hp_shut (st:=st) (n:=(st.objs.length:Int)) ⟨⟨hi22,ha23,ht24⟩,rfl⟩ (h.re [1,1,1,0] [])) ?_;refine xs_fin [(tabV q12 o11)] (hpP b st ps::F) (SI.tmp 4 SI.nil) (rr [0] [1]) ⟨?_,rfl⟩;unfold tbV;rw[hf13,hq16];rfl
theorem hmiss_s{Z:Zone}{F:List Asr}{b:Nat}:SF Tryz.prog 73 #[.pointer (some ⟨b,0,none⟩)] Z F fun r Bs=>r=iw 8∧Bs=F:=by
 refine sf_enter Tryz.func73 5 [(0,pB b 0)] (fun w0=>?_);refine k_sr<|sP (iw 0)<|s_nt<|k_seq<|k_sr<|sP (pB b 0)<|sP (.bool false)<|s_nt<|k_false<|k_st<|k_sr<|sP (iw 8)<|s_nt<|k_ret ?_
 exact xs_fin [iw 8] F (SI.tmp 2 SI.nil) (fun _ h=>h) ⟨rfl,rfl⟩
theorem htouch_s{Z:Zone}{F:List Asr}{b:Nat}{st:Hst}{ps:List (Int×(Nat×Nat))}(v:Vl){o:Hob}(hg:st.get v.ref=some o)(e:Int):SF Tryz.prog 76 #[.pointer (some ⟨b,0,none⟩),v.v,iw e] Z (hpP b st ps::F) fun r Bs=>r=iw e∧Bs=(if e=0 then hpP b (st.touch v.ref) ps else hpP b st ps)::F:=by
 refine sf_enter Tryz.func76 16 [(0,pB b 0),(1,.agg (vc v)),(2,iw e)] (fun w0=>?_);refine k_sr<|s_box (vc v) (fun g1=>?_)
 refine sP (iw 0)<|s_nt<|k_seq<|k_sr<|sP (iw e)<|sL t_cmp<|s_nt<|k_cond (decide (e=0)) (fun c2=>?_) (fun c2=>?_)
 .have p3:=dY c2;refine k_draw<|sP2 (pB b 0)<|sP (pB b 2)<|s_mem3 (fun H h=>hp_open (h.re [1] [])) (fun mb4 tb5 tm6 hw=>?_)
  obtain⟨hi7,ha8,ht9⟩:=hw;refine sL (t_load 0 (.map (some tb5)))<|sP (pB g1 4)<|sL (t_load 4 (iw v.ref))<|s_update 2 intOk Tryz.underlying62 v.ref true ?_
  refine s_nil<|x_dynS (fun _ h=>by kernel_rfl) ?_
  refine xs_then<|k_sr<|sP2 (iw e)<|s_nt<|k_ret<|xs_mem (Bs:=blkA b #[.map (some mb4),iw (st.objs.length:Int),.map (some tb5)] 64::mpA iK oV mb4 ps::mpA iK bV tb5 (aset tm6 v.ref true)::allP ps (st.touch v.ref)::blkA g1 (vc v) 32::F) (fun _ h=>h) ?_
  refine xs_mem (fun _ h=>hp_shut (st:=(st.touch v.ref)) (n:=(st.objs.length:Int)) ⟨⟨touch_inv hi7 v.ref,HA.touch ha8 v.ref,TA.touch ht9 hi7 hg⟩,rfl⟩ (h.re [0,0,0,0] [])) ?_;rw[if_pos (dY c2)];exact xs_fin [iw e] (hpP b (st.touch v.ref) ps::F) (SI.tmp 6 SI.nil) (rr [0] [1]) ⟨rfl,rfl⟩
 have p10:=dF c2;refine k_st<|k_sr<|sP2 (iw e)<|s_nt<|k_ret ?_
 rw[if_neg (dF c2)];exact xs_fin [iw e] (hpP b st ps::F) (SI.tmp 6 SI.nil) (rr [1] [1]) ⟨rfl,rfl⟩
theorem helem_s{Z:Zone}(v:Vl):SF Tryz.prog 75 #[v.v] Z [] fun r Bs=>r=iw (elemE v)∧Bs=[]:=by
 refine sf_enter Tryz.func75 17 [(0,.agg (vc v))] (fun w0=>?_);refine k_sr<|s_box (vc v) (fun g1=>?_)
 refine sP (iw 0)<|s_nt<|k_seq<|k_block<|k_sr<|sP (pB g1 0)<|sL (t_load 0 (iw v.kind))<|sL t_cmp<|sP (.bool (decide (v.kind=3)))<|s_fork 7 (decide (v.kind=3)) (fun c2=>?_) (fun c2=>?_)
 .have p3:=dY c2;refine sP (pB g1 3)<|sL (t_load 0 (sw v.str))<|sL (t_kern (iw (v.str.size:Int)))<|sL t_cmp<|sP2 (.bool (decide ((4096:Int)<(v.str.size:Int))))<|s_nt<|k_cond (decide ((4096:Int)<(v.str.size:Int))) (fun c4=>?_) (fun c4=>?_)
  .have p5:=dY c4;refine k_sr<|sP (iw 14)<|s_nt<|k_ret<|xs_retBlock<|xs_ret<|xs_fin [iw 14] [] (SI.tmp 2 SI.nil) (rr [] [0]) ⟨cI ?_,rfl⟩
   unfold elemE;simp[c2,c4,p3,p5]
  have p6:=dF c4;refine k_sr<|sL (t_loadA 0 (vc v))<|sV (fun _ h=>valid_s v)<|sP2 (.bool (!(validB v)))<|s_nt<|k_cond (!(validB v)) (fun c7=>?_) (fun c7=>?_)
  .have c8:=not_t c7;refine k_sr<|sP (iw 2)<|s_nt<|k_ret<|xs_retBlock<|xs_ret<|xs_fin [iw 2] [] (SI.tmp 2 SI.nil) (rr [] [0]) ⟨cI ?_,rfl⟩
   unfold elemE;simp[c2,c4,c7,p3,p6,c8]
  have c9:=not_f c7;refine k_skip<|xs_block<|xs_then<|k_sr<|sP (iw 0)<|s_nt<|k_ret<|xs_fin [iw 0] [] (SI.tmp 2 SI.nil) (rr [] [0]) ⟨cI ?_,rfl⟩
  unfold elemE;simp[c2,c4,c7,p3,p6,c9]
 have p10:=dF c2;refine sK<|sK<|sK<|sK<|sP2 (.bool false)<|s_nt<|k_false<|k_sr<|sL (t_loadA 0 (vc v))<|sV (fun _ h=>valid_s v)<|sP2 (.bool (!(validB v)))<|s_nt<|k_cond (!(validB v)) (fun c11=>?_) (fun c11=>?_)
 .have c12:=not_t c11;refine k_sr<|sP (iw 2)<|s_nt<|k_ret<|xs_retBlock<|xs_ret<|xs_fin [iw 2] [] (SI.tmp 2 SI.nil) (rr [] [0]) ⟨cI ?_,rfl⟩
  unfold elemE;simp[c2,c11,p10,c12]
 have c13:=not_f c11;refine k_skip<|xs_block<|xs_then<|k_sr<|sP (iw 0)<|s_nt<|k_ret<|xs_fin [iw 0] [] (SI.tmp 2 SI.nil) (rr [] [0]) ⟨cI ?_,rfl⟩
 unfold elemE;simp[c2,c11,p10,c13]
theorem hgetV_none{st:Hst}{t k:Vl}(h:htab st t=none):hgetV st t k=zVl:=by unfold hgetV;rw[h]
theorem hgetE_none{st:Hst}{t:Vl}(h:htab st t=none):hgetE st t=8:=by unfold hgetE;rw[h];rfl
theorem hgetV_some{st:Hst}{t k:Vl}{T:Tb}(h:htab st t=some T):hgetV st t k=tget T k:=by unfold hgetV;rw[h]
theorem hgetE_some{st:Hst}{t:Vl}{T:Tb}(h:htab st t=some T):hgetE st t=0:=by unfold hgetE;rw[h];rfl
abbrev pairV(v:Vl)(e:Int):Value:=.tuple #[v.v,iw e]
theorem hget_s{Z:Zone}{F:List Asr}{b:Nat}{st:Hst}{n:Nat}(hsm:HSm n st)(hn:n≤300)(t k:Vl):SF Tryz.prog 25 #[.pointer (some ⟨b,0,none⟩),t.v,k.v] Z (hpA b st::F) fun r Bs=>r=pairV (hgetV st t k) (hgetE st t)∧Bs=hpA b st::F:=by
 refine sf_enter Tryz.func25 20 [(0,pB b 0),(1,.agg (vc t)),(2,.agg (vc k))] (fun w0=>?_);refine k_sr<|s_box (vc t) (fun g1=>?_)
 refine s_box (vc k) (fun g2=>?_);refine s_alloc (.agg zc) zc (fun g3=>?_);refine sP (iw 0)<|s_nr<|sP (pB b 0)<|sL (t_loadA 2 (vc t))<|s_memX (fun H h=>hpA_open (h.re [3] [])) (fun ps4 _=>?_)
 refine s_fact (fun H h=>hp_facts (h.re [0] [])) (fun hf5=>?_);obtain⟨hi6,ha7⟩:=hf5;refine s_call [0] (htab_s (st:=st) (ps:=ps4) t) ?_;rintro u8 _ ⟨e9,rfl⟩;rcases tb_cases ha7 t with ⟨ht10,hv11⟩|⟨o12,q13,ht14,ho15,hk16,hk17,hq18,hv19⟩
 .rw [hv11]at e9;subst e9;refine sP (.pointer none)<|s_nt<|k_seq<|k_sr<|sP (.pointer none)<|sP (.bool true)<|s_nt<|k_true<|k_sr<|sL (t_kern (.agg zc))<|sP (pB b 0)<|sV (fun _ h=>hmiss_s (F:=[]))<|s_store 1 zc ?_
  refine sP (iw 8)<|s_nt<|k_ret<|xs_ret<|xs_mem (fun _ h=>hpA_shut (h.re [0] [])) ?_
  refine xs_fin [.agg zc,iw 8] (hpA b st::F) (SI.agg 6 32 1 (SI.tmp 7 SI.nil)) (rr [0] [1,1,1]) ⟨?_,rfl⟩;rw[hgetV_none ht10,hgetE_none ht10];rfl
 rw[hv19]at e9;subst e9;refine sP (pB q13.2 0)<|s_nt<|k_seq<|k_sr<|sP (pB q13.2 0)<|sP (.bool false)<|s_nt<|k_false<|k_st<|k_sr<|sP (pB q13.2 0)<|sL (t_loadA 2 (vc k))<|s_mem (fun _ h=>tab_out hq18 ho15 hk16 (h.re [0] [])) ?_
 obtain⟨hl20,hl202,_⟩:=hsm.obs o12 (get_mem ho15).1;have hl203:n*(n+1)≤300*301:=Nat.mul_le_mul om om;refine sC [0] (tbget_s (L:=o12.tab.list) (S:=o12.tab.rest) ol k) ?_;refine s_store 2 (vc (tget ⟨o12.tab.list,o12.tab.rest⟩ k)) ?_;refine sP (iw 0)<|s_nt<|k_ret<|xs_mem (fun _ h=>tab_back hq18 ho15 hk16 (h.re [0,0] [])) ?_
 refine xs_mem (fun _ h=>hpA_shut (h.re [0] [])) ?_;refine xs_fin [.agg (vc (tget ⟨o12.tab.list,o12.tab.rest⟩ k)),iw 0] (hpA b st::F) (SI.agg 6 32 1 (SI.tmp 7 SI.nil)) (rr [0] [1,1,1]) ⟨?_,rfl⟩;rw[hgetV_some ht14,hgetE_some ht14];rfl
theorem elem_valid{v:Vl}(h:elemE v=0):validB v=true:=by
 unfold elemE at h;split at h
 .cases h
 split at h
 .cases h
 rename_i hv;simpa using hv
theorem hset_none{st:Hst}{t k v:Vl}(h:htab st t=none):hset st t k v=st∧hsetE st t k v=8:=by unfold hset hsetE;rw[h];exact⟨rfl,rfl⟩
theorem hset_key{st:Hst}{t k v:Vl}{T:Tb}(h:htab st t=some T)(hk:okKey k=false):hset st t k v=st∧hsetE st t k v=13:=by unfold hset hsetE;rw[h];simp[hk]
theorem hset_elem{st:Hst}{t k v:Vl}{T:Tb}(h:htab st t=some T)(hk:okKey k=true)(he:elemE v≠0):hset st t k v=st∧hsetE st t k v=elemE v:=by unfold hset hsetE;rw[h];simp[hk,he]
theorem hset_ok{st:Hst}{t k v:Vl}{o:Hob}(h:htab st t=some o.tab)(ho:st.get t.ref=some o)(hk:okKey k=true)(he:elemE v=0):hset st t k v=(st.put t.ref { o with tab:=tset o.tab k v }).touch t.ref∧hsetE st t k v=0:=by unfold hset hsetE Hst.setTab;rw[h,ho];simp[hk,he]
theorem hset_s{Z:Zone}{F:List Asr}{b:Nat}{st:Hst}{n:Nat}(hsm:HSm n st)(hn:n≤300)(t k x:Vl):SF Tryz.prog 22 #[.pointer (some ⟨b,0,none⟩),t.v,k.v,x.v] Z (hpA b st::F) fun r Bs=>r=iw (hsetE st t k x)∧Bs=hpA b (hset st t k x)::F:=by
 refine sf_enter Tryz.func22 40 [(0,pB b 0),(1,.agg (vc t)),(2,.agg (vc k)),(3,.agg (vc x))] (fun w0=>?_);refine k_sr<|s_box (vc t) (fun g1=>?_)
 refine s_box (vc k) (fun g2=>?_);refine s_box (vc x) (fun g3=>?_);refine sP (iw 0)<|s_nr<|sP (pB b 0)<|sL (t_loadA 2 (vc t))<|s_memX (fun H h=>hpA_open (h.re [3] [])) (fun ps4 _=>?_)
 refine s_fact (fun H h=>hp_facts (h.re [0] [])) (fun hf5=>?_);obtain⟨hi6,ha7⟩:=hf5;refine s_call [0] (htab_s (st:=st) (ps:=ps4) t) ?_;rintro u8 _ ⟨e9,rfl⟩;rcases tb_cases ha7 t with ⟨ht10,hv11⟩|⟨o12,q13,ht14,ho15,hk16,hk17,hq18,hv19⟩
 .rw [hv11]at e9;subst e9;refine sP (.pointer none)<|s_nt<|k_seq<|k_block<|k_sr<|sP (.pointer none)<|sP2 (.bool true)<|s_nt<|k_true<|k_sr<|sP (pB b 0)<|sV (fun _ h=>hmiss_s (F:=[]))<|sP (iw 8)<|s_nt<|k_ret<|xs_retBlock<|xs_ret<|xs_mem (fun _ h=>hpA_shut (h.re [0] [])) ?_
  have hp:=hset_none (k:=k) (v:=x) ht10;refine xs_fin [iw 8] (hpA b st::F) (SI.tmp 8 SI.nil) (rr [0] [1,1,1]) ⟨?_,?_⟩
  .rw [hp.2];exact cI (by first|rfl|exact tsetE_ok hk hv0)
  rw[hp.1]
 rw[hv19]at e9;subst e9;refine sP (pB q13.2 0)<|s_nt<|k_seq<|k_block<|k_sr<|sP (pB q13.2 0)<|sP2 (.bool false)<|s_nt<|k_false<|k_cut (ι:=Unit) (fun _=>True) (fun _=>[(0,pB b 0),(5,pB g1 0),(6,pB g2 0),(7,pB g3 0),(9,pB q13.2 0),(19,.bool ((decide (k.kind=0))||(!(validB k))))]) (fun _=>hpP b st ps4::blkA g3 (vc x) 32::blkA g2 (vc k) 32::blkA g1 (vc t) 32::F) ?_ (fun _ _=>?_)
 .refine k_reg<|sP (pB g2 0)<|sL (t_load 2 (iw k.kind))<|sL t_cmp<|sP (.bool (decide (k.kind=0)))<|s_fork 23 (decide (k.kind=0)) (fun c20=>?_) (fun c20=>?_)
  .have p21:=dY c20;refine sK<|sK<|sK<|sP2 (.bool true)<|s_nil ?_
   exact xs_cut () trivial (sub_of rfl (rQ (rQ (rQ (rQ (rQ ⟨⟨rfl,show Value.bool true=Value.bool ((decide (k.kind=0))||(!(validB k))) by first|(simp only[c20,bls];done)|simp[c20]⟩,trivial⟩)))))) (rr [0,0,0,0] [])
  have p22:=dF c20;refine sL (t_loadA 2 (vc k))<|sV (fun _ h=>valid_s k)<|sP3 (.bool (!(validB k)))<|s_nil ?_
  exact xs_cut () trivial (sub_of rfl (rQ (rQ (rQ (rQ (rQ ⟨⟨rfl,show Value.bool (!(validB k))=Value.bool ((decide (k.kind=0))||(!(validB k))) by first|(simp only[c20,bls];done)|simp[c20]⟩,trivial⟩)))))) (rr [0,0,0,0] [])
 refine k_cond ((decide (k.kind=0))||(!(validB k))) (fun c23=>?_) (fun c23=>?_)
 .have p24:=c23;simp only[Bool.and_eq_true,Bool.or_eq_true,Bool.and_eq_false_iff,Bool.or_eq_false_iff,Bool.not_eq_true',Bool.not_eq_false',decide_eq_true_eq,decide_eq_false_iff_not]at p24;refine k_sr<|sP (iw 13)<|s_nt<|k_ret<|xs_retBlock<|xs_ret<|xs_mem (fun _ h=>hpA_shut (h.re [0] [])) ?_
  have hk:okKey k=false:=okKey_bad (by first|exact p24|exact .inl p24|exact .inr p24);have hp:=hset_key (v:=x) ht14 hk;refine xs_fin [iw 13] (hpA b st::F) (SI.tmp 8 SI.nil) (rr [0] [1,1,1]) ⟨?_,?_⟩
  .rw [hp.2];exact cI (by first|rfl|exact tsetE_ok hk hv0)
  rw[hp.1]
 obtain⟨c25,c26⟩:=or_f c23;have p27:=dF c25;have c28:=not_f c26;refine k_skip<|xs_block<|xs_then<|k_seq<|k_sr<|sL (t_loadA 1 (vc x))<|sV (fun _ h=>helem_s x)<|sP (iw (elemE x))<|s_nr<|sP (iw (elemE x))<|sL t_cmp<|s_nt<|k_cond (decide ((elemE x)≠0)) (fun c29=>?_) (fun c29=>?_)
 .have p30:=dY c29;refine k_sr<|sP2 (iw (elemE x))<|s_nt<|k_ret<|xs_ret<|xs_mem (fun _ h=>hpA_shut (h.re [0] [])) ?_
  have hk:=okKey_good c25 c28;have hp:=hset_elem (v:=x) ht14 hk (dY c29);refine xs_fin [iw (elemE x)] (hpA b st::F) (SI.tmp 8 SI.nil) (rr [0] [1,1,1]) ⟨?_,?_⟩
  .rw [hp.2];exact cI (by first|rfl|exact tsetE_ok hk hv0)
  rw[hp.1]
 have p31:=Decidable.not_not.1 (dF c29);refine k_st<|k_seq<|k_held [blkA g3 (vc x) 32,blkA g2 (vc k) 32,blkA g1 (vc t) 32] ?_
 refine hp_ 0 [1,1,1] (pB b 0) ?_;refine h_l 1 rfl [1,1,1] (fun _=>(t_loadA 2 (vc t))) ?_;refine hp_ 2 [1,1,1] (pB q13.2 0) ?_;refine h_l 3 rfl [1,1,1] (fun _=>(t_loadA 1 (vc k))) ?_;refine h_l 4 rfl [1,1,1] (fun _=>(t_loadA 0 (vc x))) ?_;refine h_stepS 5 ?_;refine s_mem (fun _ h=>tab_out hq18 ho15 hk16 (h.re [0] [])) ?_;obtain⟨hl32,hl322,_⟩:=hsm.obs o12 (get_mem ho15).1;have hl323:n*(n+1)≤300*301:=Nat.mul_le_mul om om;refine sC [0] (tbset_s (L:=o12.tab.list) (S:=o12.tab.rest) (hi6.obs o12 (get_mem ho15).1).tab ol ol k x) ?_;refine nH [2,2,2]<|h_stepS 6 ?_
 refine s_mem (fun _ h=>tab_in (T:=(tset ⟨o12.tab.list,o12.tab.rest⟩ k x)) hq18 ho15 hk16 (tset_inv (hi6.obs o12 (get_mem ho15).1).tab _ _) (h.re [0,0] [])) ?_;have hk:=okKey_good c25 c28;have he0:elemE x=0:=Decidable.not_not.1 (dF c29);have hv0:=elem_valid he0;refine s_call [0] (htouch_s (st:=(st.put t.ref { o12 with tab:=(tset ⟨o12.tab.list,o12.tab.rest⟩ k x) })) (ps:=ps4) t (show Hst.get _ _=some { o12 with tab:=(tset ⟨o12.tab.list,o12.tab.rest⟩ k x) } from by rw[get_put ho15,if_pos rfl]) (tsetE k x)) ?_;rw[if_pos (tsetE_ok hk hv0)];rintro _ _ ⟨rfl,rfl⟩;refine nH [1,1,1]<|hp_ 7 [1,1,1] (iw (tsetE k x)) ?_
 refine h_doneS ?_;refine xs_then<|k_ret<|xs_mem (fun _ h=>hpA_shut (h.re [0] [])) ?_
 have hp:=hset_ok ht14 ho15 hk he0;refine xs_fin [iw (tsetE k x)] (hpA b ((st.put t.ref { o12 with tab:=(tset ⟨o12.tab.list,o12.tab.rest⟩ k x) }).touch t.ref)::F) (SI.tmp 8 SI.nil) (rr [0] [1,1,1]) ⟨?_,?_⟩
 .rw [hp.2];exact cI (by first|rfl|exact tsetE_ok hk hv0)
 rw[hp.1]
theorem hmeta_s{Z:Zone}{F:List Asr}{b:Nat}{st:Hst}(v:Vl):SF Tryz.prog 40 #[.pointer (some ⟨b,0,none⟩),v.v] Z (hpA b st::F) fun r Bs=>r=(hmeta st v).v∧Bs=hpA b st::F:=by
 refine sf_enter Tryz.func40 16 [(0,pB b 0),(1,.agg (vc v))] (fun w0=>?_);refine k_sr<|s_box (vc v) (fun g1=>?_)
 refine s_alloc (.agg zc) zc (fun g2=>?_);refine s_nr<|sP (pB b 0)<|sL (t_loadA 1 (vc v))<|s_memX (fun H h=>hpA_open (h.re [2] [])) (fun ps3 _=>?_)
 refine s_fact (fun H h=>hp_facts (h.re [0] [])) (fun hf4=>?_);obtain⟨hi5,ha6⟩:=hf4;refine s_call [0] (hfind_s (st:=st) (ps:=ps3) v) ?_;rintro u7 _ ⟨e8,rfl⟩;rcases fnd_cases ha6 v with ⟨hf9,ht10,hv11,hv12⟩|⟨o13,q14,hf15,ho16,hk17,hq18,hv19,hv20⟩
 .rw [hv11]at e8;subst e8;refine sP (.pointer none)<|s_nt<|k_seq<|k_sr<|sP (.pointer none)<|sP (.bool true)<|s_nt<|k_true<|k_sr<|sL (t_kern (.agg zc))<|s_store 1 zc ?_
  refine s_nt<|k_ret<|xs_ret<|xs_mem (fun _ h=>hpA_shut (h.re [0] [])) ?_
  refine xs_fin [.agg zc] (hpA b st::F) (SI.agg 4 32 1 SI.nil) (rr [0] [1,1]) ⟨?_,rfl⟩;unfold hmeta;rw[hf9];rfl
 rw[hv19]at e8;subst e8;refine sP (pB q14.1 0)<|s_nt<|k_seq<|k_sr<|sP (pB q14.1 0)<|sP (.bool false)<|s_nt<|k_false<|k_st<|k_sr<|sP2 (pB q14.1 0)<|sP (pB q14.1 4)<|s_mem3 (fun H h=>hp_open (h.re [0] [])) (fun mb21 tb22 tm23 hw=>?_)
 obtain⟨hi24,ha25,ht26⟩:=hw;refine s_memX (fun H h=>all_focus hq18 ho16 (h.re [3] [])) (fun v27 _=>?_);refine sL (t_loadA 0 (vc o13.mt))<|s_store 7 (vc o13.mt) ?_
 refine s_nt<|k_ret<|xs_fact (fun H h=>(h.mp (i:=5) rfl).nodup) (fun hnd28=>?_)
 refine xs_mem (fun _ h=>(put_same ho16)▸all_unfocus (o':=o13) hnd28 hq18 ho16 (ob_shut (o:=o13) (h.re [0,0,0,0] []))) ?_;refine xs_mem (Bs:=allP ps3 st::blkA b #[.map (some mb21),iw (st.objs.length:Int),.map (some tb22)] 64::mpA iK oV mb21 ps3::mpA iK bV tb22 tm23::blkA g2 (vc o13.mt) 32::blkA g1 (vc v) 32::F) (fun _ h=>h) ?_;refine xs_mem (fun _ h=>hp_shut (st:=st) (n:=(st.objs.length:Int)) ⟨⟨hi24,ha25,ht26⟩,rfl⟩ (h.re [1,1,1,0] [])) ?_;refine xs_mem (fun _ h=>hpA_shut (h.re [0] [])) ?_;refine xs_fin [.agg (vc o13.mt)] (hpA b st::F) (SI.agg 4 32 1 SI.nil) (rr [0] [1,1]) ⟨?_,rfl⟩;unfold hmeta;rw[hf15];rfl
theorem hsetmeta_s{Z:Zone}{F:List Asr}{b:Nat}{st:Hst}(v m:Vl):SF Tryz.prog 27 #[.pointer (some ⟨b,0,none⟩),v.v,m.v] Z (hpA b st::F) fun r Bs=>r=iw (hsetMetaE st v m)∧Bs=hpA b (hsetMeta st v m)::F:=by
 refine sf_enter Tryz.func27 47 [(0,pB b 0),(1,.agg (vc v)),(2,.agg (vc m))] (fun w0=>?_);refine k_sr<|s_box (vc v) (fun g1=>?_)
 refine s_box (vc m) (fun g2=>?_);refine sP (iw 0)<|s_nr<|sP (pB b 0)<|sL (t_loadA 1 (vc v))<|s_memX (fun H h=>hpA_open (h.re [2] [])) (fun ps3 _=>?_)
 refine s_fact (fun H h=>hp_facts (h.re [0] [])) (fun hf4=>?_);obtain⟨hi5,ha6⟩:=hf4;refine s_call [0] (hfind_s (st:=st) (ps:=ps3) v) ?_;rintro u7 _ ⟨e8,rfl⟩;rcases fnd_cases ha6 v with ⟨hf9,ht10,hv11,hv12⟩|⟨o13,q14,hf15,ho16,hk17,hq18,hv19,hv20⟩
 .rw [hv11]at e8;subst e8;refine sP (.pointer none)<|s_nt<|k_seq<|k_sr<|sP (.pointer none)<|sP2 (.bool true)<|sK<|sK<|sK<|sK<|sK<|sK<|sK<|sK<|sK<|sK<|sK<|sK<|sP2 (.bool true)<|sK<|sK<|sK<|sK<|sK<|sK<|sK<|sK<|sK<|sP (.bool true) ?_
  refine s_nt<|k_true<|k_sr<|sP (pB b 0)<|sV (fun _ h=>hmiss_s (F:=[]))<|sP (iw 8)<|s_nt<|k_ret<|xs_ret<|xs_mem (fun _ h=>hpA_shut (h.re [0] [])) ?_
  have hb:hmetaOk st v m=false:=by unfold hmetaOk;rw[hf9]
  refine xs_fin [iw 8] (hpA b st::F) (SI.tmp 6 SI.nil) (rr [0] [1,1]) ⟨?_,?_⟩
  .unfold hsetMetaE;rw[hb];rfl
  unfold hsetMeta;rw[hb];rfl
 rw[hv19]at e8;subst e8;refine sP (pB q14.1 0)<|s_nt<|k_seq<|k_sr<|sP (pB q14.1 0)<|sP2 (.bool false)<|sP3 (pB q14.1 0)<|s_mem3 (fun H h=>hp_open (h.re [0] [])) (fun mb21 tb22 tm23 hw=>?_)
 obtain⟨hi24,ha25,ht26⟩:=hw;refine s_memX (fun H h=>all_focus hq18 ho16 (h.re [3] [])) (fun v27 _=>?_);refine sL (t_load 0 (iw o13.kind))<|sL t_cmp<|sP (.bool (decide (o13.kind≠4)))<|s_fork 19 (decide (o13.kind≠4)) (fun c28=>?_) (fun c28=>?_)
 .have p29:=dY c28;refine sP3 (pB q14.1 0)<|sL (t_load 0 (iw o13.kind))<|sL t_cmp<|sP3 (.bool (decide (o13.kind≠8)))<|s_fork 27 (decide (o13.kind≠8)) (fun c30=>?_) (fun c30=>?_)
  .have p31:=dY c30;refine sK<|sK<|sK<|sK<|sK<|sK<|sK<|sK<|sK<|sP (.bool true)<|s_nt<|k_true<|k_sr<|sP (pB b 0)<|sV (fun _ h=>hmiss_s (F:=[]))<|sP (iw 8)<|s_nt<|k_ret<|xs_ret<|xs_fact (fun H h=>(h.mp (i:=5) rfl).nodup) (fun hnd32=>?_)
   refine xs_mem (fun _ h=>(put_same ho16)▸all_unfocus (o':=o13) hnd32 hq18 ho16 (ob_shut (o:=o13) (h.re [0,0,0,0] []))) ?_;refine xs_mem (Bs:=allP ps3 st::blkA b #[.map (some mb21),iw (st.objs.length:Int),.map (some tb22)] 64::mpA iK oV mb21 ps3::mpA iK bV tb22 tm23::blkA g2 (vc m) 32::blkA g1 (vc v) 32::F) (fun _ h=>h) ?_;refine xs_mem (fun _ h=>hp_shut (st:=st) (n:=(st.objs.length:Int)) ⟨⟨hi24,ha25,ht26⟩,rfl⟩ (h.re [1,1,1,0] [])) ?_;refine xs_mem (fun _ h=>hpA_shut (h.re [0] [])) ?_;have hb:hmetaOk st v m=false:=by unfold hmetaOk;rw[hf15];simp_all
   refine xs_fin [iw 8] (hpA b st::F) (SI.tmp 6 SI.nil) (rr [0] [1,1]) ⟨?_,?_⟩
   .unfold hsetMetaE;rw[hb];rfl
   unfold hsetMeta;rw[hb];rfl
  have p33:=Decidable.not_not.1 (dF c30);refine sL (t_loadA 7 (vc m))<|sL (t_kern (.agg zc))<|sL (t_eqS (fun w=>(eqVlT m zVl w).2))<|sP (.bool (!(decide (m=zVl))))<|s_fork 31 (!(decide (m=zVl))) (fun c34=>?_) (fun c34=>?_)
  .have c35:=not_t c34;have p36:=dF c35;refine sP (pB b 0)<|sL (t_loadA 7 (vc m))<|s_fact (fun H h=>(h.mp (i:=5) rfl).nodup) (fun hnd37=>?_)
   refine s_mem (fun _ h=>(put_same ho16)▸all_unfocus (o':=o13) hnd37 hq18 ho16 (ob_shut (o:=o13) (h.re [0,0,0,0] []))) ?_;refine s_mem (Bs:=allP ps3 st::blkA b #[.map (some mb21),iw (st.objs.length:Int),.map (some tb22)] 64::mpA iK oV mb21 ps3::mpA iK bV tb22 tm23::blkA g2 (vc m) 32::blkA g1 (vc v) 32::F) (fun _ h=>h) ?_;refine s_mem (fun _ h=>hp_shut (st:=st) (n:=(st.objs.length:Int)) ⟨⟨hi24,ha25,ht26⟩,rfl⟩ (h.re [1,1,1,0] [])) ?_;refine s_call [0] (htab_s (st:=st) (ps:=ps3) m) ?_;rintro u38 _ ⟨e39,rfl⟩;rcases tb_cases ha6 m with ⟨ht40,hv41⟩|⟨o42,q43,ht44,ho45,hk46,hk47,hq48,hv49⟩
   .rw [hv41]at e39;subst e39;refine sP3 (.bool true)<|s_nt<|k_true<|k_sr<|sP (pB b 0)<|sV (fun _ h=>hmiss_s (F:=[]))<|sP (iw 8)<|s_nt<|k_ret<|xs_ret<|xs_mem (fun _ h=>hpA_shut (h.re [0] [])) ?_
    have hb:hmetaOk st v m=false:=by unfold hmetaOk;rw[hf15];simp_all
    refine xs_fin [iw 8] (hpA b st::F) (SI.tmp 6 SI.nil) (rr [0] [1,1]) ⟨?_,?_⟩
    .unfold hsetMetaE;rw[hb];rfl
    unfold hsetMeta;rw[hb];rfl
   rw[hv49]at e39;subst e39;refine sP3 (.bool false)<|s_nt<|k_false<|k_st<|k_sr<|sP (pB q14.1 0)<|sL (t_loadA 1 (vc m))<|sP (pB q14.1 0)<|sP (pB q14.1 4)<|s_mem3 (fun H h=>hp_open (h.re [0] [])) (fun mb50 tb51 tm52 hw=>?_)
   obtain⟨hi53,ha54,ht55⟩:=hw;refine s_memX (fun H h=>all_focus hq18 ho16 (h.re [3] [])) (fun v56 _=>?_);refine s_store 0 #[iw o13.kind,iw o13.tag,sw o13.name,(tabV q14 o13),iw m.kind,iw m.p,iw m.q,sw m.str,iw m.ref,v56] ?_;refine s_nr<|sP (pB b 0)<|sL (t_loadA 8 (vc v))<|s_fact (fun H h=>(h.mp (i:=5) rfl).nodup) (fun hnd57=>?_)
   refine s_mem (fun _ h=>all_unfocus (o':={ o13 with mt:=m }) hnd57 hq18 ho16 (ob_shut (o:={ o13 with mt:=m }) (h.re [0,0,0,0] []))) ?_;refine s_mem (Bs:=allP ps3 (st.put v.ref { o13 with mt:=m })::blkA b #[.map (some mb50),iw (st.objs.length:Int),.map (some tb51)] 64::mpA iK oV mb50 ps3::mpA iK bV tb51 tm52::blkA g2 (vc m) 32::blkA g1 (vc v) 32::F) (fun _ h=>h) ?_;have hob58:=hi53.obs o13 (get_mem ho16).1;refine s_mem (fun _ h=>hp_shut (st:=(st.put v.ref { o13 with mt:=m })) (n:=(st.objs.length:Int)) ⟨⟨put_inv hi53 ⟨hob58.kind,hob58.tab,(fun a b=>by exfalso;have a1:o13.kind≠4:=a;have b1:o13.kind≠8:=b;omega)⟩,ha54.put ho16,ht55.put ho16⟩,by rw[put_len]⟩ (h.re [1,1,1,0] [])) ?_;refine s_call [0] (htouch_s (st:=(st.put v.ref { o13 with mt:=m })) (ps:=ps3) v (show Hst.get _ _=some { o13 with mt:=m } from by rw[get_put ho16,if_pos rfl]) 0) ?_;rw[if_pos (rfl)];rintro _ _ ⟨rfl,rfl⟩;refine sP (iw 0)<|s_nt<|k_ret<|xs_mem (fun _ h=>hpA_shut (h.re [0] [])) ?_
   have hb:hmetaOk st v m=true:=by unfold hmetaOk;rw[hf15];simp_all
   refine xs_fin [iw 0] (hpA b ((st.put v.ref { o13 with mt:=m }).touch v.ref)::F) (SI.tmp 6 SI.nil) (rr [0] [1,1]) ⟨?_,?_⟩
   .unfold hsetMetaE;rw[hb];rfl
   unfold hsetMeta;rw[hb];unfold Hst.setMt;rw[ho16];rfl
  have c60:=not_f c34;have p61:=dY c60;refine sK<|sK<|sK<|sK<|sP2 (.bool false)<|s_nt<|k_false<|k_st<|k_sr<|sP (pB q14.1 0)<|sL (t_loadA 7 (vc m))<|sP (pB q14.1 0)<|sP (pB q14.1 4)<|s_store 0 #[iw o13.kind,iw o13.tag,sw o13.name,(tabV q14 o13),iw m.kind,iw m.p,iw m.q,sw m.str,iw m.ref,v27] ?_
  refine s_nr<|sP (pB b 0)<|sL (t_loadA 8 (vc v))<|s_fact (fun H h=>(h.mp (i:=5) rfl).nodup) (fun hnd62=>?_)
  refine s_mem (fun _ h=>all_unfocus (o':={ o13 with mt:=m }) hnd62 hq18 ho16 (ob_shut (o:={ o13 with mt:=m }) (h.re [0,0,0,0] []))) ?_;refine s_mem (Bs:=allP ps3 (st.put v.ref { o13 with mt:=m })::blkA b #[.map (some mb21),iw (st.objs.length:Int),.map (some tb22)] 64::mpA iK oV mb21 ps3::mpA iK bV tb22 tm23::blkA g2 (vc m) 32::blkA g1 (vc v) 32::F) (fun _ h=>h) ?_;have hob63:=hi24.obs o13 (get_mem ho16).1;refine s_mem (fun _ h=>hp_shut (st:=(st.put v.ref { o13 with mt:=m })) (n:=(st.objs.length:Int)) ⟨⟨put_inv hi24 ⟨hob63.kind,hob63.tab,(fun a b=>by exfalso;have a1:o13.kind≠4:=a;have b1:o13.kind≠8:=b;omega)⟩,ha25.put ho16,ht26.put ho16⟩,by rw[put_len]⟩ (h.re [1,1,1,0] [])) ?_;refine s_call [0] (htouch_s (st:=(st.put v.ref { o13 with mt:=m })) (ps:=ps3) v (show Hst.get _ _=some { o13 with mt:=m } from by rw[get_put ho16,if_pos rfl]) 0) ?_;rw[if_pos (rfl)];rintro _ _ ⟨rfl,rfl⟩;refine sP (iw 0)<|s_nt<|k_ret<|xs_mem (fun _ h=>hpA_shut (h.re [0] [])) ?_
  have hb:hmetaOk st v m=true:=by unfold hmetaOk;rw[hf15];simp_all
  refine xs_fin [iw 0] (hpA b ((st.put v.ref { o13 with mt:=m }).touch v.ref)::F) (SI.tmp 6 SI.nil) (rr [0] [1,1]) ⟨?_,?_⟩
  .unfold hsetMetaE;rw[hb];rfl
  unfold hsetMeta;rw[hb];unfold Hst.setMt;rw[ho16];rfl
 have p65:=Decidable.not_not.1 (dF c28);refine sK<|sK<|sK<|sK<|sK<|sP3 (.bool false)<|sL (t_loadA 7 (vc m))<|sL (t_kern (.agg zc))<|sL (t_eqS (fun w=>(eqVlT m zVl w).2))<|sP (.bool (!(decide (m=zVl))))<|s_fork 31 (!(decide (m=zVl))) (fun c66=>?_) (fun c66=>?_)
 .have c67:=not_t c66;have p68:=dF c67;refine sP (pB b 0)<|sL (t_loadA 7 (vc m))<|s_fact (fun H h=>(h.mp (i:=5) rfl).nodup) (fun hnd69=>?_)
  refine s_mem (fun _ h=>(put_same ho16)▸all_unfocus (o':=o13) hnd69 hq18 ho16 (ob_shut (o:=o13) (h.re [0,0,0,0] []))) ?_;refine s_mem (Bs:=allP ps3 st::blkA b #[.map (some mb21),iw (st.objs.length:Int),.map (some tb22)] 64::mpA iK oV mb21 ps3::mpA iK bV tb22 tm23::blkA g2 (vc m) 32::blkA g1 (vc v) 32::F) (fun _ h=>h) ?_;refine s_mem (fun _ h=>hp_shut (st:=st) (n:=(st.objs.length:Int)) ⟨⟨hi24,ha25,ht26⟩,rfl⟩ (h.re [1,1,1,0] [])) ?_;refine s_call [0] (htab_s (st:=st) (ps:=ps3) m) ?_;rintro u70 _ ⟨e71,rfl⟩;rcases tb_cases ha6 m with ⟨ht72,hv73⟩|⟨o74,q75,ht76,ho77,hk78,hk79,hq80,hv81⟩
  .rw [hv73]at e71;subst e71;refine sP3 (.bool true)<|s_nt<|k_true<|k_sr<|sP (pB b 0)<|sV (fun _ h=>hmiss_s (F:=[]))<|sP (iw 8)<|s_nt<|k_ret<|xs_ret<|xs_mem (fun _ h=>hpA_shut (h.re [0] [])) ?_
   have hb:hmetaOk st v m=false:=by unfold hmetaOk;rw[hf15];simp_all
   refine xs_fin [iw 8] (hpA b st::F) (SI.tmp 6 SI.nil) (rr [0] [1,1]) ⟨?_,?_⟩
   .unfold hsetMetaE;rw[hb];rfl
   unfold hsetMeta;rw[hb];rfl
  rw[hv81]at e71;subst e71;refine sP3 (.bool false)<|s_nt<|k_false<|k_st<|k_sr<|sP (pB q14.1 0)<|sL (t_loadA 1 (vc m))<|sP (pB q14.1 0)<|sP (pB q14.1 4)<|s_mem3 (fun H h=>hp_open (h.re [0] [])) (fun mb82 tb83 tm84 hw=>?_)
  obtain⟨hi85,ha86,ht87⟩:=hw;refine s_memX (fun H h=>all_focus hq18 ho16 (h.re [3] [])) (fun v88 _=>?_);refine s_store 0 #[iw o13.kind,iw o13.tag,sw o13.name,(tabV q14 o13),iw m.kind,iw m.p,iw m.q,sw m.str,iw m.ref,v88] ?_;refine s_nr<|sP (pB b 0)<|sL (t_loadA 8 (vc v))<|s_fact (fun H h=>(h.mp (i:=5) rfl).nodup) (fun hnd89=>?_)
  refine s_mem (fun _ h=>all_unfocus (o':={ o13 with mt:=m }) hnd89 hq18 ho16 (ob_shut (o:={ o13 with mt:=m }) (h.re [0,0,0,0] []))) ?_;refine s_mem (Bs:=allP ps3 (st.put v.ref { o13 with mt:=m })::blkA b #[.map (some mb82),iw (st.objs.length:Int),.map (some tb83)] 64::mpA iK oV mb82 ps3::mpA iK bV tb83 tm84::blkA g2 (vc m) 32::blkA g1 (vc v) 32::F) (fun _ h=>h) ?_;have hob90:=hi85.obs o13 (get_mem ho16).1;refine s_mem (fun _ h=>hp_shut (st:=(st.put v.ref { o13 with mt:=m })) (n:=(st.objs.length:Int)) ⟨⟨put_inv hi85 ⟨hob90.kind,hob90.tab,(fun a b=>by exfalso;have a1:o13.kind≠4:=a;have b1:o13.kind≠8:=b;omega)⟩,ha86.put ho16,ht87.put ho16⟩,by rw[put_len]⟩ (h.re [1,1,1,0] [])) ?_;refine s_call [0] (htouch_s (st:=(st.put v.ref { o13 with mt:=m })) (ps:=ps3) v (show Hst.get _ _=some { o13 with mt:=m } from by rw[get_put ho16,if_pos rfl]) 0) ?_;rw[if_pos (rfl)];rintro _ _ ⟨rfl,rfl⟩;refine sP (iw 0)<|s_nt<|k_ret<|xs_mem (fun _ h=>hpA_shut (h.re [0] [])) ?_
  have hb:hmetaOk st v m=true:=by unfold hmetaOk;rw[hf15];simp_all
  refine xs_fin [iw 0] (hpA b ((st.put v.ref { o13 with mt:=m }).touch v.ref)::F) (SI.tmp 6 SI.nil) (rr [0] [1,1]) ⟨?_,?_⟩
  .unfold hsetMetaE;rw[hb];rfl
  unfold hsetMeta;rw[hb];unfold Hst.setMt;rw[ho16];rfl
 have c92:=not_f c66;have p93:=dY c92;refine sK<|sK<|sK<|sK<|sP2 (.bool false)<|s_nt<|k_false<|k_st<|k_sr<|sP (pB q14.1 0)<|sL (t_loadA 7 (vc m))<|sP (pB q14.1 0)<|sP (pB q14.1 4)<|s_store 0 #[iw o13.kind,iw o13.tag,sw o13.name,(tabV q14 o13),iw m.kind,iw m.p,iw m.q,sw m.str,iw m.ref,v27] ?_
 refine s_nr<|sP (pB b 0)<|sL (t_loadA 8 (vc v))<|s_fact (fun H h=>(h.mp (i:=5) rfl).nodup) (fun hnd94=>?_)
 refine s_mem (fun _ h=>all_unfocus (o':={ o13 with mt:=m }) hnd94 hq18 ho16 (ob_shut (o:={ o13 with mt:=m }) (h.re [0,0,0,0] []))) ?_;refine s_mem (Bs:=allP ps3 (st.put v.ref { o13 with mt:=m })::blkA b #[.map (some mb21),iw (st.objs.length:Int),.map (some tb22)] 64::mpA iK oV mb21 ps3::mpA iK bV tb22 tm23::blkA g2 (vc m) 32::blkA g1 (vc v) 32::F) (fun _ h=>h) ?_;have hob95:=hi24.obs o13 (get_mem ho16).1;refine s_mem (fun _ h=>hp_shut (st:=(st.put v.ref { o13 with mt:=m })) (n:=(st.objs.length:Int)) ⟨⟨put_inv hi24 ⟨hob95.kind,hob95.tab,(fun a b=>by exfalso;have a1:o13.kind≠4:=a;have b1:o13.kind≠8:=b;omega)⟩,ha25.put ho16,ht26.put ho16⟩,by rw[put_len]⟩ (h.re [1,1,1,0] [])) ?_;refine s_call [0] (htouch_s (st:=(st.put v.ref { o13 with mt:=m })) (ps:=ps3) v (show Hst.get _ _=some { o13 with mt:=m } from by rw[get_put ho16,if_pos rfl]) 0) ?_;rw[if_pos (rfl)];rintro _ _ ⟨rfl,rfl⟩;refine sP (iw 0)<|s_nt<|k_ret<|xs_mem (fun _ h=>hpA_shut (h.re [0] [])) ?_
 have hb:hmetaOk st v m=true:=by unfold hmetaOk;rw[hf15];simp_all
 refine xs_fin [iw 0] (hpA b ((st.put v.ref { o13 with mt:=m }).touch v.ref)::F) (SI.tmp 6 SI.nil) (rr [0] [1,1]) ⟨?_,?_⟩
 .unfold hsetMetaE;rw[hb];rfl
 unfold hsetMeta;rw[hb];unfold Hst.setMt;rw[ho16];rfl
theorem all_add{Z:Zone}{F:List Asr}{H:Heap}{st:Hst}{ps:List (Int×(Nat×Nat))}{q:Nat×Nat}{o:Hob}(ha:HA ps st)(hf:st.count<65536)(hi:(ps.map Prod.fst).Nodup)(h:Holds Z (obP q o::allP ps st::F) H):Holds Z (allP (aset ps ((st.objs.length:Int)+1) q) (hmake st o)::F) H:=by
 have hnone:apos ps ((st.objs.length:Int)+1)=none:=by
  have:=ha.has ((st.objs.length:Int)+1);rw[get_end]at this;cases hp:apos ps ((st.objs.length:Int)+1) with
  | none=>rfl
  | some i=>obtain⟨_,y,_,h2⟩:=Go.Mem.apos_lt hp;rw[h2]at this;cases this
 have e0:hmake st o=⟨st.objs++[some o],st.tch++[true]⟩:=by unfold hmake;rw[if_neg om]
 unfold allP;rw[Go.Mem.aset_new hnone,List.map_append,List.map_cons,List.map_nil];have e1:(hmake st o).ob ((st.objs.length:Int)+1)=o:=by
  unfold Hst.ob;rw[e0,get_snoc,if_pos rfl];rfl
 have e2:ps.map (fun p=>obP p.2 ((hmake st o).ob p.1))=ps.map fun p=>obP p.2 (st.ob p.1):=by
  refine List.map_congr_left fun p hp=>?_
  have hne:p.1≠(st.objs.length:Int)+1:=fun e=>by
   have:=(Go.Mem.aget_none_iff ps ((st.objs.length:Int)+1)).1 (Go.Mem.apos_none hnone);exact this (List.mem_map.2 ⟨p,hp,e⟩)
  unfold Hst.ob;rw[e0,get_snoc,if_neg hne]
 rw[e2];show Holds Z (star (_++[obP q ((hmake st o).ob _)])::F) H;rw[e1];exact Holds.star_add h
theorem hmake_len{st:Hst}{o:Hob}(hf:st.count<65536):(hmake st o).objs.length=st.objs.length+1:=by unfold hmake;rw[if_neg om];simp
theorem hmakeV_full{st:Hst}{k:Int}(hf:65536≤st.count):hmakeV st k=zVl∧hmakeE st=17:=by unfold hmakeV hmakeE;rw[if_pos hf,if_pos hf];exact⟨rfl,rfl⟩
theorem hmakeV_ok{st:Hst}{k:Int}(hf:st.count<65536):hmakeV st k=refV k ((st.objs.length:Int)+1)∧hmakeE st=0:=by unfold hmakeV hmakeE;rw[if_neg om,if_neg om];exact⟨rfl,rfl⟩
theorem hmake_full{st:Hst}{o:Hob}(hf:65536≤st.count):hmake st o=st:=by unfold hmake;rw[if_pos hf]
theorem hcreate_s{Z:Zone}{F:List Asr}{b:Nat}{st:Hst}{ps:List (Int×(Nat×Nat))}{q:Nat×Nat}{o:Hob}(hob:ObInv o)(hl:st.objs.length≤1000000):SF Tryz.prog 70 #[.pointer (some ⟨b,0,none⟩),ptrV q.1] Z (hpP b st ps::obP q o::F) fun r Bs=>r=pairV (hmakeV st o.kind) (hmakeE st)∧Bs=hpA b (hmake st o)::F:=by
 refine sf_enter Tryz.func70 46 [(0,pB b 0),(1,pB q.1 0)] (fun w0=>?_);refine k_mem3 (fun H h=>hp_open (h.re [0] [])) (fun mb1 tb2 tm3 hw=>?_);obtain⟨hi4,ha5,ht6⟩:=hw;refine k_fact (fun H h=>(h.mp (i:=1) rfl).nodup) (fun hnd0=>?_);have hlen:=ha5.len;refine k_sr<|s_alloc (.agg zc) zc (fun g7=>?_)
 refine sP (iw 0)<|s_nt<|k_seq<|k_sr<|sP3 (pB b 0)<|sL (t_load 1 (.map (some mb1)))<|sL (t_lenM 2 Tryz.underlying61)<|sL t_cmp<|s_nt<|k_cond (decide ((65536:Int)≤(ps.length:Int))) (fun c8=>?_) (fun c8=>?_)
 .have p9:=dY c8;refine k_sr<|sL (t_kern (.agg zc))<|s_store 0 zc ?_
  refine sP (iw 17)<|s_nt<|k_ret<|xs_ret<|xs_mem (fun _ h=>hp_shut (st:=st) (n:=(st.objs.length:Int)) ⟨⟨hi4,ha5,ht6⟩,rfl⟩ (h.re [1,1,1,1] [])) ?_
  have hf:65536≤st.count:=by omega
  refine xs_fin [.agg zc,iw 17] (hpA b st::F) (SI.agg 4 32 1 (SI.tmp 5 SI.nil)) (fun _ h=>hpA_shut (h.re [0] [1,1])) ⟨?_,?_⟩
  .rw [(hmakeV_full hf).1,(hmakeV_full (k:=0) hf).2];rfl
  rw[hmake_full hf]
 have p10:=dF c8;refine k_st<|k_sr<|sP2 (pB b 0)<|sP (pB b 1)<|sL (t_load 1 (iw (st.objs.length:Int)))<|sL (t_add (st.objs.length:Int) 1 ol)<|sP (pB b 0)<|sP (pB b 1)<|s_store 1 #[.map (some mb1),iw ((st.objs.length:Int)+1),.map (some tb2)] ?_
 refine s_nt<|k_seq<|k_draw<|sP3 (pB b 0)<|sL (t_load 1 (.map (some mb1)))<|sP2 (pB b 0)<|sP (pB b 1)<|sL (t_load 1 (iw ((st.objs.length:Int)+1)))<|sP (pB q.1 0)<|s_update 2 intOk Tryz.underlying61 ((st.objs.length:Int)+1) q ?_
 refine s_nil<|x_dynS (fun _ h=>by kernel_rfl) ?_
 refine xs_then<|k_seq<|k_draw<|sP2 (pB b 0)<|sP (pB b 2)<|sL (t_load 1 (.map (some tb2)))<|sP2 (pB b 0)<|sP (pB b 1)<|sL (t_load 1 (iw ((st.objs.length:Int)+1)))<|s_update 3 intOk Tryz.underlying62 ((st.objs.length:Int)+1) true ?_
 refine s_nil<|x_dynS (fun _ h=>by kernel_rfl) ?_
 refine xs_then<|k_seq<|k_draw<|sP3 (pB q.1 0)<|s_memX (fun H h=>ob_open (h.re [5] [])) (fun v11 hw=>?_)
 refine sL (t_load 0 (iw o.kind))<|sP2 (pB b 0)<|sP (pB b 1)<|sL (t_load 4 (iw ((st.objs.length:Int)+1)))<|sL (t_kern (.agg #[iw o.kind,iw 0,iw 0,sw eb,iw ((st.objs.length:Int)+1)]))<|s_store 3 #[iw o.kind,iw 0,iw 0,sw eb,iw ((st.objs.length:Int)+1)] ?_
 refine sP (iw 0)<|s_nil<|x_dynS (fun _ h=>by kernel_rfl) ?_
 refine xs_then<|k_ret<|xs_mem (fun _ h=>ob_shut (o:=o) (h.re [0,0,0] [])) ?_
 have hf:st.count<65536:=by omega
 refine xs_fact (fun H h=>hnd0) (fun hnd=>?_);refine xs_mem (fun _ h=>all_add ha5 hf hnd (h.re [0,4] [])) ?_;refine xs_mem (fun _ h=>hp_shut (st:=(hmake st o)) (n:=((st.objs.length:Int)+1)) ⟨⟨hmake_inv hi4 hob,HA.make ha5 o q hf,TA.make ht6 hi4 o hf⟩,by rw[hmake_len hf];rfl⟩ (h.re [2,2,2,0] [])) ?_;refine xs_fin [.agg #[iw o.kind,iw 0,iw 0,sw eb,iw ((st.objs.length:Int)+1)],iw 0] (hpA b (hmake st o)::F) (SI.agg 4 32 1 (SI.tmp 5 SI.nil)) (fun _ h=>hpA_shut (h.re [0] [1])) ⟨?_,rfl⟩;rw[(hmakeV_ok hf).1,(hmakeV_ok (k:=0) hf).2];rfl
theorem hnewtable_s{Z:Zone}{F:List Asr}{b:Nat}{st:Hst}(hl:st.objs.length≤1000000):SF Tryz.prog 21 #[.pointer (some ⟨b,0,none⟩)] Z (hpA b st::F) fun r Bs=>r=pairV (hmakeV st 4) (hmakeE st)∧Bs=hpA b (hmake st (newO 4 0 eb []))::F:=by
 refine sf_enter Tryz.func21 14 [(0,pB b 0)] (fun w0=>?_);refine k_sr<|s_alloc (.agg zc) zc (fun g1=>?_)
 refine sP (iw 0)<|s_nt<|k_seq<|k_sr<|sP (pB b 0)<|sP (.bool false)<|s_nt<|k_false<|k_st<|k_sr<|sP (pB b 0)<|s_pcall (fun _ h=>tbnew_s) ?_
 rintro _ _ ⟨tg2,rfl,rfl⟩;refine sL (t_kern (.agg #[iw 4,iw 0,sw eb,pB tg2 0,iw 0,iw 0,iw 0,sw eb,iw 0,(.slice none 0 0)]))<|s_box #[iw 4,iw 0,sw eb,pB tg2 0,iw 0,iw 0,iw 0,sw eb,iw 0,(.slice none 0 0)] (fun g3=>?_)
 refine s_memX (fun H h=>hpA_open (h.re [3] [])) (fun ps4 _=>?_);refine s_fact (fun H h=>hp_facts (h.re [0] [])) (fun hf5=>?_);obtain⟨hi6,ha7⟩:=hf5;refine s_mem (fun _ h=>Holds.nilS (T:=VlT) h) ?_;refine s_mem (fun _ h=>tabO_shut (q:=(g3,tg2)) (o:=(newO 4 0 eb [])) (T:=noTb) rfl (h.re [3] [])) ?_;refine s_mem (fun _ h=>ob_shut (q:=(g3,tg2)) (o:=(newO 4 0 eb [])) (h.re [3,1,0] [])) ?_;refine sC [1,0] (hcreate_s (st:=st) (ps:=ps4) (q:=(g3,tg2)) (o:=(newO 4 0 eb [])) (newO_inv _ _ _ (by decide)) om) ?_;refine sP (.agg (vc (hmakeV st 4)))<|sP (iw (hmakeE st))<|s_store 1 (vc (hmakeV st 4)) ?_
 refine sP (iw (hmakeE st))<|s_nt<|k_ret ?_
 exact xs_fin [.agg (vc (hmakeV st 4)),iw (hmakeE st)] (hpA b (hmake st (newO 4 0 eb []))::F) (SI.agg 2 32 1 (SI.tmp 3 SI.nil)) (rr [0] [1]) ⟨rfl,rfl⟩
theorem hnewfunc_s{Z:Zone}{F:List Asr}{b:Nat}{st:Hst}(hl:st.objs.length≤1000000)(tag:Int):SF Tryz.prog 28 #[.pointer (some ⟨b,0,none⟩),iw tag] Z (hpA b st::F) fun r Bs=>r=pairV (hmakeV st 5) (hmakeE st)∧Bs=hpA b (hmake st (newO 5 tag eb []))::F:=by
 refine sf_enter Tryz.func28 16 [(0,pB b 0),(1,iw tag)] (fun w0=>?_);refine k_sr<|s_alloc (.agg zc) zc (fun g1=>?_)
 refine sP (iw 0)<|s_nt<|k_seq<|k_sr<|sP (pB b 0)<|sP (.bool false)<|s_nt<|k_false<|k_st<|k_sr<|sP (pB b 0)<|sP (iw tag)<|sL (t_kern (.agg #[iw 5,iw tag,sw eb,.pointer none,iw 0,iw 0,iw 0,sw eb,iw 0,(.slice none 0 0)]))<|s_box #[iw 5,iw tag,sw eb,.pointer none,iw 0,iw 0,iw 0,sw eb,iw 0,(.slice none 0 0)] (fun g2=>?_)
 refine s_memX (fun H h=>hpA_open (h.re [2] [])) (fun ps3 _=>?_);refine s_fact (fun H h=>hp_facts (h.re [0] [])) (fun hf4=>?_);obtain⟨hi5,ha6⟩:=hf4;refine s_mem (fun _ h=>Holds.nilS (T:=VlT) h) ?_;refine s_mem (fun _ h=>tabO_none (q:=(g2,0)) (o:=(newO 5 tag eb [])) (show (5:Int)≠4 by decide) h) ?_;refine s_mem (fun _ h=>ob_shut (q:=(g2,0)) (o:=(newO 5 tag eb [])) (h.re [3,1,0] [])) ?_;refine sC [1,0] (hcreate_s (st:=st) (ps:=ps3) (q:=(g2,0)) (o:=(newO 5 tag eb [])) (newO_inv _ _ _ (by decide)) om) ?_;refine sP (.agg (vc (hmakeV st 5)))<|sP (iw (hmakeE st))<|s_store 1 (vc (hmakeV st 5)) ?_
 refine sP (iw (hmakeE st))<|s_nt<|k_ret ?_
 exact xs_fin [.agg (vc (hmakeV st 5)),iw (hmakeE st)] (hpA b (hmake st (newO 5 tag eb []))::F) (SI.agg 4 32 1 (SI.tmp 5 SI.nil)) (rr [0] [1]) ⟨rfl,rfl⟩
theorem hnewthread_s{Z:Zone}{F:List Asr}{b:Nat}{st:Hst}(hl:st.objs.length≤1000000)(tag:Int):SF Tryz.prog 29 #[.pointer (some ⟨b,0,none⟩),iw tag] Z (hpA b st::F) fun r Bs=>r=pairV (hmakeV st 7) (hmakeE st)∧Bs=hpA b (hmake st (newO 7 tag eb []))::F:=by
 refine sf_enter Tryz.func29 16 [(0,pB b 0),(1,iw tag)] (fun w0=>?_);refine k_sr<|s_alloc (.agg zc) zc (fun g1=>?_)
 refine sP (iw 0)<|s_nt<|k_seq<|k_sr<|sP (pB b 0)<|sP (.bool false)<|s_nt<|k_false<|k_st<|k_sr<|sP (pB b 0)<|sP (iw tag)<|sL (t_kern (.agg #[iw 7,iw tag,sw eb,.pointer none,iw 0,iw 0,iw 0,sw eb,iw 0,(.slice none 0 0)]))<|s_box #[iw 7,iw tag,sw eb,.pointer none,iw 0,iw 0,iw 0,sw eb,iw 0,(.slice none 0 0)] (fun g2=>?_)
 refine s_memX (fun H h=>hpA_open (h.re [2] [])) (fun ps3 _=>?_);refine s_fact (fun H h=>hp_facts (h.re [0] [])) (fun hf4=>?_);obtain⟨hi5,ha6⟩:=hf4;refine s_mem (fun _ h=>Holds.nilS (T:=VlT) h) ?_;refine s_mem (fun _ h=>tabO_none (q:=(g2,0)) (o:=(newO 7 tag eb [])) (show (7:Int)≠4 by decide) h) ?_;refine s_mem (fun _ h=>ob_shut (q:=(g2,0)) (o:=(newO 7 tag eb [])) (h.re [3,1,0] [])) ?_;refine sC [1,0] (hcreate_s (st:=st) (ps:=ps3) (q:=(g2,0)) (o:=(newO 7 tag eb [])) (newO_inv _ _ _ (by decide)) om) ?_;refine sP (.agg (vc (hmakeV st 7)))<|sP (iw (hmakeE st))<|s_store 1 (vc (hmakeV st 7)) ?_
 refine sP (iw (hmakeE st))<|s_nt<|k_ret ?_
 exact xs_fin [.agg (vc (hmakeV st 7)),iw (hmakeE st)] (hpA b (hmake st (newO 7 tag eb []))::F) (SI.agg 4 32 1 (SI.tmp 5 SI.nil)) (rr [0] [1]) ⟨rfl,rfl⟩
def hdataV(st:Hst)(name:ByteArray):Vl:=if 40<(name.size:Int) then zVl else hmakeV st 8
def hdataE(st:Hst)(name:ByteArray):Int:=if 40<(name.size:Int) then 14 else hmakeE st
def hdata(st:Hst)(name:ByteArray):Hst:=if 40<(name.size:Int) then st else hmake st (newO 8 0 name (List.replicate 16 zVl))
theorem hnewdata_s{Z:Zone}{F:List Asr}{b:Nat}{st:Hst}(hl:st.objs.length≤1000000)(name:ByteArray):SF Tryz.prog 30 #[.pointer (some ⟨b,0,none⟩),sw name] Z (hpA b st::F) fun r Bs=>r=pairV (hdataV st name) (hdataE st name)∧Bs=hpA b (hdata st name)::F:=by
 refine sf_enter Tryz.func30 23 [(0,pB b 0),(1,sw name)] (fun w0=>?_);refine k_sr<|s_alloc (.agg zc) zc (fun g1=>?_)
 refine sP (iw 0)<|s_nt<|k_seq<|k_block<|k_sr<|sP (pB b 0)<|sP2 (.bool false)<|s_nt<|k_false<|k_sr<|sP (sw name)<|sL (t_kern (iw (name.size:Int)))<|sL t_cmp<|sP (.bool (decide ((40:Int)<(name.size:Int))))<|s_nt<|k_cond (decide ((40:Int)<(name.size:Int))) (fun c2=>?_) (fun c2=>?_)
 .have p3:=dY c2;refine k_sr<|sL (t_kern (.agg zc))<|s_store 0 zc ?_
  refine sP (iw 14)<|s_nt<|k_ret<|xs_retBlock<|xs_ret ?_
  have hp:=dY c2;refine xs_fin [.agg zc,iw 14] (hpA b st::F) (SI.agg 4 32 0 (SI.tmp 5 SI.nil)) (rr [1] [1]) ⟨?_,?_⟩
  .unfold hdataV hdataE;rw[if_pos hp,if_pos hp];rfl
  unfold hdata;rw[if_pos hp]
 have p4:=dF c2;refine k_skip<|xs_block<|xs_then<|k_sr<|sP (pB b 0)<|sP (sw name)<|s_make VlT_ok Tryz.underlying37 16 om (by show 48*_≤_;omega) om (fun v5=>?_)
 refine sF 0 (fun hf6=>?_);refine sL (show Lt _ _ _ _ _ (.agg #[iw 8,iw 0,sw name,.pointer none,iw 0,iw 0,iw 0,sw eb,iw 0,v5]) from by obtain⟨_,_,e⟩:=hf6;rw[e];clear e;exact t_kern _)<|s_box #[iw 8,iw 0,sw name,.pointer none,iw 0,iw 0,iw 0,sw eb,iw 0,v5] (fun g7=>?_)
 refine s_memX (fun H h=>hpA_open (h.re [3] [])) (fun ps8 _=>?_);refine s_fact (fun H h=>hp_facts (h.re [0] [])) (fun hf9=>?_);obtain⟨hi10,ha11⟩:=hf9;refine s_mem (fun _ h=>tabO_none (q:=(g7,0)) (o:=(newO 8 0 name (List.replicate 16 VlT.zero))) (show (8:Int)≠4 by decide) h) ?_;refine s_mem (fun _ h=>ob_shut (q:=(g7,0)) (o:=(newO 8 0 name (List.replicate 16 VlT.zero))) (h.re [2,2,0] [])) ?_;refine sC [1,0] (hcreate_s (st:=st) (ps:=ps8) (q:=(g7,0)) (o:=(newO 8 0 name (List.replicate 16 VlT.zero))) (newO_inv _ _ _ (by decide)) om) ?_;refine sP (.agg (vc (hmakeV st 8)))<|sP (iw (hmakeE st))<|s_store 1 (vc (hmakeV st 8)) ?_
 refine sP (iw (hmakeE st))<|s_nt<|k_ret ?_
 have hp:=dF c2;refine xs_fin [.agg (vc (hmakeV st 8)),iw (hmakeE st)] (hpA b (hmake st (newO 8 0 name (List.replicate 16 VlT.zero)))::F) (SI.agg 4 32 1 (SI.tmp 5 SI.nil)) (rr [0] [1]) ⟨?_,?_⟩
 .unfold hdataV hdataE;rw[if_neg hp,if_neg hp];rfl
 unfold hdata;rw[if_neg hp];rfl
theorem hnew_s{Z:Zone}:SF Tryz.prog 6 #[] Z [] fun r Bs=>∃b,r=.pointer (some ⟨b,0,none⟩)∧Bs=[hpA b hp0]:=by
 refine sf_enter Tryz.func6 5 [] (fun w0=>?_);refine k_sr<|sP (.pointer none)<|s_nr<|s_makeMap iK oV (fun b1=>?_)
 refine s_makeMap iK bV (fun b2=>?_);refine sL (t_kern (.agg #[.map (some b1),iw 0,.map (some b2)]))<|s_box #[.map (some b1),iw 0,.map (some b2)] (fun g3=>?_)
 refine sP (pB g3 0)<|s_nt<|k_ret<|xs_fin [pB g3 0] [hpA g3 hp0] (SI.tmp 0 SI.nil) (fun _ h=>hpA_shut (ps:=[]) (hp_shut (b:=g3) (st:=hp0) (tm:=[]) ⟨⟨HInv.nil,HA.nil,TA.nil⟩,rfl⟩ ((Holds.star_nil h).re [1,2,1,0] []))) ⟨g3,rfl,rfl⟩
end Go.Proofs.YtmilekfknhglkaaGreat
end
section
set_option linter.unusedSimpArgs false
set_option linter.unusedVariables false
namespace Go.Proofs.YtmilekfknhglkaaGreat
section
variable{S:List Slt}{k v:Vl}
theorem live_mem{s:Slt}:s∈live S↔s∈S∧s.gone=false:=by unfold live;rw[List.mem_filter];simp
theorem live_oset(h:OInv S)(hk:okKey k=true)(hv:validB v=true)(s:Slt):s∈live (osetL S k v)↔(s.key≠k∧s∈live S)∨(v.kind≠0∧s=⟨k,v,false⟩):=by
 have hset:∀{i:Nat}{t u:Slt},S[i]?=some t→t.gone=false→t.key=k→∀s,s∈S.set i u∧s.gone=false↔(s.key≠k∧s∈live S)∨(s=u∧u.gone=false):=by
  intro i t u hi hg htk s;constructor
  .rintro ⟨h1,h2⟩;obtain⟨j,hj⟩:=List.mem_iff_getElem?.1 h1;by_cases e:i=j
   .subst e;rw[List.getElem?_set_self (List.getElem?_eq_some_iff.1 hi).1]at hj;injection hj with e;subst e
    exact .inr ⟨rfl,h2⟩
   rw[List.getElem?_set_ne e]at hj;refine .inl ⟨fun hk'=>?_,live_mem.2 ⟨List.mem_of_getElem? hj,h2⟩⟩;have a:=h.last hj h2;have b:=h.last hi hg;rw[hk']at a;rw[htk]at b;rw[a]at b;injection b with b;exact e b.symm
  rintro (⟨h1,h2⟩|⟨rfl,h2⟩)
  .obtain ⟨h3,h4⟩:=live_mem.1 h2;obtain⟨j,hj⟩:=List.mem_iff_getElem?.1 h3;refine⟨?_,h4⟩;have e:i≠j:=fun e=>by subst e;rw[hi]at hj;injection hj with e;subst e;exact h1 htk
   exact List.mem_of_getElem? (i:=j) (by rw[List.getElem?_set_ne e];exact hj)
  exact⟨List.mem_of_getElem? (i:=i) (by rw[List.getElem?_set_self (List.getElem?_eq_some_iff.1 hi).1]),h2⟩
 have hno:thereAt S k=none→∀s∈live S,s.key≠k:=fun ht s hs e=>by
  obtain⟨h1,h2⟩:=live_mem.1 hs;rw[there_none h ht s h1 e]at h2;cases h2
 rw[live_mem];unfold osetL;rw[if_neg (by rw[hk];decide),if_neg (by rw[hv];decide)];split
 .rename_i h0;cases ht:thereAt S k with
  | none=>
   simp only;rw[←live_mem];exact⟨fun hs=>.inl ⟨hno ht s hs,hs⟩,fun hs=>by rcases hs with hs|hs;exact hs.2;exact absurd h0 hs.1⟩
  | some i=>
   obtain⟨_,t,h1,h2,h3⟩:=thereAt_some ht;simp only;rw[hset h1 h3 h2];constructor
   .rintro (hs|⟨rfl,hs⟩)
    .exact .inl hs
    cases hs
   rintro (hs|hs)
   .exact .inl hs
   exact absurd h0 hs.1
 rename_i h0
 cases ht:thereAt S k with
 | some i=>
  obtain⟨_,t,h1,h2,h3⟩:=thereAt_some ht;simp only;rw[hset h1 h3 h2];constructor
  .rintro (hs|⟨rfl,hs⟩)
   .exact .inl hs
   exact .inr ⟨h0,rfl⟩
  rintro (hs|hs)
  .exact .inl hs
  exact .inr ⟨hs.2,rfl⟩
 | none=>
  simp only;rw[List.mem_append,List.mem_singleton];have hlv:∀s,s.gone=false→(s∈(if cnt S+8<S.length-cnt S then live S else S)↔s∈live S):=fun s hg=>by
   split
   .exact Iff.rfl
   rw[live_mem];simp[hg]
  constructor
  .rintro ⟨h1|h1,h2⟩
   .have:=(hlv s h2).1 h1;exact .inl ⟨hno ht s this,this⟩
   exact .inr ⟨h0,h1⟩
  rintro (⟨h1,h2⟩|⟨h1,rfl⟩)
  .exact ⟨.inl ((hlv s (live_mem.1 h2).2).2 h2),(live_mem.1 h2).2⟩
  exact⟨.inr rfl,rfl⟩
end
def TW(T:Tb):Prop:=∀s∈live T.rest,inB (whole s.key) T.list.length=false
theorem TW.nil:TW ⟨[],[]⟩:=fun _ h=>by cases h
theorem grow_get(S:List Slt):∀(f:Nat) (L:List Vl) (v:Vl) (i:Nat),i<(grow S f L v).length→(grow S f L v)[i]?=if i<L.length then L[i]? else if i=L.length then some v else some (oget S (ofI ((i:Int)+1)))
 | 0,L,v,i,hi=>by
  rw[grow]at hi⊢;rw[if_pos hi]
 | f+1,L,v,i,hi=>by
  rw[grow]at hi⊢;split at hi
  .rename_i h0;rw[if_pos h0,if_pos hi]
  rename_i h0
  rw[if_neg h0,grow_get S f _ _ i hi];have e:(L++[v]).length=L.length+1:=by simp
  rw[e];by_cases h1:i<L.length
  .rw [if_pos (by omega),if_pos h1,List.getElem?_append_left h1]
  rw[if_neg h1];by_cases h2:i=L.length
  .rw [if_pos (by omega),if_pos h2,h2];simp
  rw[if_neg (by omega),if_neg h2];by_cases h3:i=L.length+1
  .rw [if_pos h3,h3,show (((L.length+1:Nat):Int)+1)=(L.length:Int)+2 by omega]
  rw[if_neg h3]
theorem grow_lt(S:List Slt)(f:Nat){L:List Vl}{v:Vl}(h0:v.kind≠0):L.length<(grow S (f+1) L v).length:=by
 rw[grow,if_neg h0];have:=grow_le S f (L++[v]) (oget S (ofI ((L.length:Int)+2)));rw[List.length_append,List.length_singleton]at this;omega
theorem stale_no{S:List Slt}{n m:Nat}(h:staleB S n m=false){s:Slt}(hs:s∈S)(h1:n<whole s.key):¬whole s.key≤m:=fun h2=>by
 unfold staleB at h;rw[List.any_eq_false]at h;obtain⟨e,h3⟩:=whole_key (k:=s.key) (n:=whole s.key) rfl (by omega);refine h (whole s.key).toNat (List.mem_range'_1.2 ⟨by omega,by omega⟩) ?_;unfold hasK;rw[show (((whole s.key).toNat:Nat):Int)=whole s.key by omega,←e];cases hl:lastAt S s.key with
 | some j=>simp
 | none=>exact absurd rfl (lastAt_none hl s hs)
section
variable{T:Tb}{k v:Vl}
theorem tadd_tw(h:TInv T)(hw:TW T)(v:Vl):TW (tadd T v):=by
 intro s hs;have hle:=grow_le T.rest (T.rest.length+2) T.list v;show inB _ (grow T.rest (T.rest.length+2) T.list v).length=false;have hs':s∈live (if staleB T.rest T.list.length (grow T.rest (T.rest.length+2) T.list v).length=true then purge T.rest (grow T.rest (T.rest.length+2) T.list v).length else T.rest):=hs;split at hs'
 .have h1:=(live_mem.1 hs').1;unfold purge at h1;have:=(List.mem_filter.1 h1).2;simpa using this
 rename_i hst
 have h1:=hw s hs';refine inB_false fun hb=>?_
 have h2:¬(1≤whole s.key∧whole s.key≤(T.list.length:Int)):=fun hc=>by rw[inB_iff.2 hc]at h1;cases h1
 exact stale_no (by simpa using hst) (live_mem.1 hs').1 (by omega) hb.2
theorem tset_tw(h:TInv T)(hw:TW T)(k v:Vl):TW (tset T k v):=by
 unfold tset;split
 .exact hw
 rename_i hk
 split
 .exact hw
 rename_i hv
 split
 .intro s hs;have h1:=hw s hs;have h2:=shr_len (T.list.set (whole k-1).toNat v);rw[List.length_set]at h2;refine inB_false fun hb=>?_
  have hb2:whole s.key≤((shr (T.list.set (whole k-1).toNat v)).length:Int):=hb.2;rw[inB_iff.2 ⟨hb.1,by omega⟩]at h1;cases h1
 rename_i hb
 split
 .exact tadd_tw h hw v
 intro s hs;rcases (live_oset h.rest (by simpa using hk) (by simpa using hv) s).1 hs with h1|h1
 .exact hw s h1.2
 rw[h1.2];simpa using hb
end
end Go.Proofs.YtmilekfknhglkaaGreat
end
section
set_option linter.unusedSimpArgs false
set_option linter.unusedVariables false
namespace Go.Proofs.YtmilekfknhglkaaGreat
/-! ### What follows a key -/
def seek:List Vl→Nat→Option (Nat×Vl)
 | [],_=>none
 | v::r,i=>if v.kind≠0 then some (i,v) else seek r (i+1)
theorem seek_drop{L:List Vl}{i:Nat}{y:Vl}(h:L[i]?=some y):seek (L.drop i) i=if y.kind≠0 then some (i,y) else seek (L.drop (i+1)) (i+1):=by
 obtain⟨hi,e⟩:=List.getElem?_eq_some_iff.1 h;rw[List.drop_eq_getElem_cons hi,e,seek]
theorem seek_end{L:List Vl}{i:Nat}(h:L.length≤i):seek (L.drop i) i=none:=by rw[List.drop_of_length_le h];rfl
def tafter(T:Tb)(n:Nat):Vl×Vl×Bool×Int:=match seek (T.list.drop n) n with
 | some p=>(ofI ((p.1:Int)+1),p.2,true,0)
 | none=>onext T.rest zVl
def tnext(T:Tb)(k:Vl):Vl×Vl×Bool×Int:=
 if k=zVl then tafter T 0 else if inB (whole k) T.list.length=true then tafter T (whole k).toNat else
 if (onext T.rest k).2.2.2≠0∧1≤whole k then onext T.rest zVl else onext T.rest k
section
variable{T:Tb}{k:Vl}{n i:Nat}{y:Vl}
theorem after_found(h:seek (T.list.drop i) i=seek (T.list.drop n) n)(hy:T.list[i]?=some y)(h0:y.kind≠0):tafter T n=(ofI ((i:Int)+1),y,true,0):=by
 unfold tafter;rw[←h,seek_drop hy,if_pos h0]
theorem after_none(h:seek (T.list.drop i) i=seek (T.list.drop n) n)(hi:T.list.length≤i):tafter T n=onext T.rest zVl:=by
 unfold tafter;rw[←h,seek_end hi]
theorem seek_step{L:List Vl}(h:seek (L.drop i) i=seek (L.drop n) n)(hy:L[i]?=some y)(h0:¬y.kind≠0):seek (L.drop (i+1)) (i+1)=seek (L.drop n) n:=by
 rw[←h,seek_drop hy,if_neg h0]
theorem onext_err{S:List Slt}{k:Vl}(h:(onext S k).2.2.2≠0):onext S k=(zVl,zVl,false,13):=by
 unfold onext at h⊢;by_cases hk:k=zVl
 .rw [if_pos hk]at h;exact absurd rfl h
 rw[if_neg hk]at h⊢;cases hl:lastAt S k with
 | none=>rfl
 | some i=>rw[hl]at h;exact absurd rfl h
theorem tnext_nil:tnext T zVl=tafter T 0:=by unfold tnext;rw[if_pos rfl]
theorem tnext_in(hk:k≠zVl)(h1:1≤whole k)(h2:whole k≤(T.list.length:Int)):tnext T k=tafter T (whole k).toNat:=by unfold tnext;rw[if_neg hk,if_pos (inB_iff.2 ⟨h1,h2⟩)]
theorem tnext_rest(hk:k≠zVl)(h:¬(1≤whole k∧whole k≤(T.list.length:Int)))(he:(onext T.rest k).2.2.2=0):tnext T k=onext T.rest k:=by
 unfold tnext;rw[if_neg hk,if_neg (by rw[inB_false h];decide),if_neg fun hc=>hc.1 he]
theorem tnext_over(hk:k≠zVl)(h:¬(1≤whole k∧whole k≤(T.list.length:Int)))(he:(onext T.rest k).2.2.2≠0)(h1:1≤whole k):tnext T k=onext T.rest zVl:=by
 unfold tnext;rw[if_neg hk,if_neg (by rw[inB_false h];decide),if_pos ⟨he,h1⟩]
theorem tnext_bad(hk:k≠zVl)(h:¬(1≤whole k∧whole k≤(T.list.length:Int)))(he:(onext T.rest k).2.2.2≠0)(h1:¬1≤whole k):tnext T k=(zVl,zVl,false,13):=by
 unfold tnext;rw[if_neg hk,if_neg (by rw[inB_false h];decide),if_neg fun hc=>h1 hc.2,onext_err he]
end
def tabSize(T:Tb):Int:=4+2*(T.list.length:Int)+4*(T.rest.length:Int)
/-! ### Insertion and removal -/
def tinsL(L:List Vl)(i:Nat)(v:Vl):List Vl:=L.take i++v::(L.drop i).dropLast
def lastV(L:List Vl):Vl:=(L.getLast?).getD zVl
def tinsE(T:Tb)(p:Int)(v:Vl):Int:=if p<1∨(T.list.length:Int)+1<p then 6 else if validB v=false then 2 else if p=(T.list.length:Int)+1 then tsetE (ofI p) v else 0
def tins(T:Tb)(p:Int)(v:Vl):Tb:=if p<1∨(T.list.length:Int)+1<p then T else if validB v=false then T else if p=(T.list.length:Int)+1 then tset T (ofI p) v else tadd ⟨tinsL T.list (p-1).toNat v,T.rest⟩ (lastV T.list)
def tremE(T:Tb)(p:Int):Int:=if p<1∨(T.list.length:Int)<p then 6 else 0
def tremV(T:Tb)(p:Int):Vl:=if p<1∨(T.list.length:Int)<p then zVl else (T.list[(p-1).toNat]?).getD zVl
def trem(T:Tb)(p:Int):Tb:=if p<1∨(T.list.length:Int)<p then T else { T with list:=shr (T.list.eraseIdx (p-1).toNat++[zVl]) }
section
variable{T:Tb}{p:Int}{v:Vl}
theorem lastV_some{L:List Vl}(h:0<L.length):L[L.length-1]?=some (lastV L):=by
 unfold lastV;rw[List.getLast?_eq_getElem?,List.getElem?_eq_getElem (by omega)];rfl
theorem tinsL_len{L:List Vl}{i:Nat}(h:i<L.length):(tinsL L i v).length=L.length:=by unfold tinsL;simp;omega
theorem tadd_inv' (h : TInv T) {L : List Vl} (hL : ∀ x ∈ L, validB x = true) (hv : validB v = true) (h0 : v.kind ≠ 0) : TInv (tadd ⟨L, T.rest⟩ v) := by
  have hg : grow T.rest (T.rest.length + 2) L v = grow T.rest (T.rest.length + 1) (L ++ [v]) (oget T.rest (ofI ((L.length : Int) + 2))) := by rw [grow, if_neg h0]
  obtain ⟨a, b⟩ := grow_inv h.rest (T.rest.length + 1) (L ++ [v]) (oget T.rest (ofI ((L.length : Int) + 2))) (fun x hx => by
    rcases List.mem_append.1 hx with hx | hx
    · exact hL x hx
    · rw [List.mem_singleton] at hx; rw [hx]; exact hv) (fun x hx => by simp at hx; rw [← hx]; exact h0) (oget_valid h.rest _)
  rw [← hg] at a b
  refine ⟨?_, a, b⟩
  show OInv (if _ then _ else _)
  split
  · exact purge_inv h.rest _
  · exact h.rest
theorem tadd_len'(h:TInv T)(L:List Vl)(v:Vl):(tadd ⟨L,T.rest⟩ v).rest.length≤T.rest.length∧(tadd ⟨L,T.rest⟩ v).list.length≤L.length+T.rest.length+1:=by
 constructor
 .show (if _ then _ else _:List Slt).length≤_;split
  .have:=purge_len T.rest (grow T.rest (T.rest.length+2) L v).length;exact this
  exact Nat.le_refl _
 have:=grow_len h.rest (T.rest.length+2) L v;have h2:=more_le T.rest (L.length+1);show (grow T.rest (T.rest.length+2) L v).length≤_;unfold mu at this;split at this<;>omega
theorem mem_tinsL{L:List Vl}{i:Nat}{x:Vl}(h:x∈tinsL L i v):x∈L∨x=v:=by
 unfold tinsL at h;rcases List.mem_append.1 h with h|h
 .exact .inl (List.mem_of_mem_take h)
 rcases List.mem_cons.1 h with h|h
 .exact .inr h
 exact .inl (List.mem_of_mem_drop (List.dropLast_subset _ h))
theorem lastV_mem{L:List Vl}(h:0<L.length):lastV L∈L:=List.mem_of_getElem? (lastV_some h)
theorem lastV_kind(h:TInv T)(hl:0<T.list.length):(lastV T.list).kind≠0:=h.last _ (by rw[List.getLast?_eq_getElem?];exact lastV_some hl)
theorem tins_inv(h:TInv T)(p:Int)(v:Vl):TInv (tins T p v):=by
 unfold tins;split
 .exact h
 split
 .exact h
 rename_i hp hv
 split
 .exact tset_inv h _ _
 refine tadd_inv' h (fun x hx=>?_) (h.list _ (lastV_mem (by omega))) (lastV_kind h (by omega));rcases mem_tinsL hx with hx|rfl
 .exact h.list x hx
 simpa using hv
theorem tins_len(h:TInv T)(p:Int)(v:Vl):(tins T p v).rest.length≤T.rest.length+1∧(tins T p v).list.length≤T.list.length+T.rest.length+1:=by
 unfold tins;split
 .exact ⟨by omega,by omega⟩
 split
 .exact ⟨by omega,by omega⟩
 rename_i hp hv
 split
 .exact tset_len h _ _
 have:=tadd_len' h (tinsL T.list (p-1).toNat v) (lastV T.list);rw[tinsL_len (by omega)]at this;exact⟨by omega,this.2⟩
theorem trem_inv(h:TInv T)(p:Int):TInv (trem T p):=by
 unfold trem;split
 .exact h
 refine⟨h.rest,fun x hx=>?_,shr_last _⟩;rcases List.mem_append.1 (shr_mem hx) with hx|hx
 .exact h.list x (List.mem_of_mem_eraseIdx hx)
 rw[List.mem_singleton]at hx;rw[hx];decide
theorem trem_len(p:Int):(trem T p).rest.length≤T.rest.length∧(trem T p).list.length≤T.list.length+1:=by
 unfold trem;split
 .exact ⟨Nat.le_refl _,by omega⟩
 refine⟨Nat.le_refl _,?_⟩;have:=shr_len (T.list.eraseIdx (p-1).toNat++[zVl]);rw[List.length_append,List.length_singleton]at this;have h2:=List.length_eraseIdx_le T.list (p-1).toNat;show (shr _).length≤_;omega
theorem tins_range(h:p<1∨(T.list.length:Int)+1<p):tins T p v=T∧tinsE T p v=6:=by unfold tins tinsE;rw[if_pos h,if_pos h];exact⟨rfl,rfl⟩
theorem tins_bad(h:¬(p<1∨(T.list.length:Int)+1<p))(hv:validB v=false):tins T p v=T∧tinsE T p v=2:=by unfold tins tinsE;rw[if_neg h,if_neg h,if_pos hv,if_pos hv];exact⟨rfl,rfl⟩
theorem tins_end(h:p=(T.list.length:Int)+1)(hv:validB v=true):tins T p v=tset T (ofI p) v∧tinsE T p v=tsetE (ofI p) v:=by
 unfold tins tinsE;have h1:¬(p<1∨(T.list.length:Int)+1<p):=by omega
 constructor<;>simp only[if_neg h1,hv,if_pos h,Bool.true_eq_false,if_false]
theorem tins_mid(h1:1≤p)(h2:p≤(T.list.length:Int))(hv:validB v=true):tins T p v=tadd ⟨tinsL T.list (p-1).toNat v,T.rest⟩ (lastV T.list)∧tinsE T p v=0:=by
 unfold tins tinsE;have h3:¬(p<1∨(T.list.length:Int)+1<p):=by omega
 have hne:¬p=(T.list.length:Int)+1:=by omega
 constructor<;>simp only[if_neg h3,hv,if_neg hne,Bool.true_eq_false,if_false]
theorem trem_range(h:p<1∨(T.list.length:Int)<p):trem T p=T∧tremE T p=6∧tremV T p=zVl:=by unfold trem tremE tremV;rw[if_pos h,if_pos h,if_pos h];exact⟨rfl,rfl,rfl⟩
theorem trem_mid(h1:1≤p)(h2:p≤(T.list.length:Int)):trem T p=⟨shr (T.list.eraseIdx (p-1).toNat++[zVl]),T.rest⟩∧tremE T p=0∧T.list[(p-1).toNat]?=some (tremV T p):=by
 unfold trem tremE tremV;have h3:¬(p<1∨(T.list.length:Int)<p):=by omega
 rw[if_neg h3,if_neg h3,if_neg h3];refine⟨rfl,rfl,?_⟩;rw[List.getElem?_eq_getElem (by omega)];rfl
end
theorem ins_copy{L:List Vl}{i:Nat}(v:Vl)(h:i<L.length):((L.take (i+1)++(((L.drop i).take (L.length-1-i)).take (L.length-(i+1))++L.drop (i+1+min ((L.drop i).take (L.length-1-i)).length (L.length-(i+1))))).set i v)=tinsL L i v:=by
 have h1:((L.drop i).take (L.length-1-i)).length=L.length-(i+1):=by simp;omega
 have h2:(L.drop i).take (L.length-1-i)=(L.drop i).dropLast:=by rw[List.dropLast_eq_take,List.length_drop];congr 1;omega
 have h3:L.drop (i+1+(L.length-(i+1)))=[]:=List.drop_of_length_le (by omega);have h4:((L.drop i).take (L.length-1-i)).take (L.length-(i+1))=(L.drop i).dropLast:=by rw[List.take_of_length_le (by rw[h1];exact Nat.le_refl _),h2]
 rw[h1,Nat.min_self,h3,h4,List.append_nil];unfold tinsL;have h5:L.take (i+1)=L.take i++[L[i]]:=by rw[List.take_add_one,List.getElem?_eq_getElem h];rfl
 have h6:(L.take i).length=i:=by simp;omega
 rw[h5,List.append_assoc,List.set_append_right _ _ (by omega),h6,Nat.sub_self];rfl
theorem rem_copy{L:List Vl}{i:Nat}(h:i<L.length):((L.take i++((L.drop (i+1)).take (L.length-i)++L.drop (i+min (L.drop (i+1)).length (L.length-i)))).set (L.length-1) zVl)=L.eraseIdx i++[zVl]:=by
 have h1:(L.drop (i+1)).length=L.length-(i+1):=by simp
 have h4:(L.drop (i+1)).take (L.length-i)=L.drop (i+1):=List.take_of_length_le (by rw[h1];omega);rw[h1,Nat.min_eq_left (by omega),h4,show i+(L.length-(i+1))=L.length-1 by omega,List.eraseIdx_eq_take_drop_succ,←List.append_assoc];have h2:(L.take i++L.drop (i+1)).length=L.length-1:=by simp;omega
 rw[List.set_append_right _ _ (by omega),h2,Nat.sub_self];have h3:(L.drop (L.length-1)).length=1:=by simp;omega
 match hd:L.drop (L.length-1),h3 with
 | [x],_=>rfl
end Go.Proofs.YtmilekfknhglkaaGreat
end
section
set_option linter.unusedSimpArgs false
set_option linter.unusedVariables false
namespace Go.S
open Go.Hp Go.J
open Go.Mem (Ty blk pre suf)
section
variable{P:Program}{E:Env}{Z:Zone}{As:List Asr}{o:Oper}{α:Type}{T:Ty α}{v:Value}{L:List α}{w:World}
theorem run_mid(hv:Mem.Sl w T v L){t:TypeId}(ht:P.underlying t=some (.slice T.id))(hT:T.Ok P)(q q':IntKind)(a b:Int)(h0:0≤a)(hab:a≤b)(hb:b≤L.length):
  (Instr.sliceAt t v (some (.int q a)) (some (.int q' b)) none).run P w=.ok (pre (suf T.size v a.toNat) (b.toNat-a.toNat)) w:=by
 obtain⟨p,cap,rfl⟩:=hv.form;have hc:(b:Int)≤(cap:Int):=by
  rcases hv with ⟨⟨_,h⟩,rfl⟩|⟨g,off,cap',arr,e,fr,h,hg,hc,_⟩
  .simp at h hb;omega
  simp at h;obtain⟨_,rfl⟩:=h;omega
 have h1:¬b<0:=by omega
 have h2:a.toNat≤b.toNat:=by omega
 have h3:0≤b:=by omega
 have h4:max b 0=b:=by omega
 simp[h3,h4,Instr.sliceAt,Instr.slice,run_underlying ht,Instr.sliceBounds,Instr.sliceBound,asIntOf,h0,hab,hc,h1,h2,hT.run_sizeOf,pre,suf]
theorem t_mid{x i j:Operand}{t:TypeId}{q q':IntKind}(hT:T.Ok P)(ht:P.underlying t=some (.slice T.id))(a:Acc Z As T v L)(k l:Int)(m n:Nat)(h0:0≤k)(hkl:k≤l)(hl:l≤L.length)(hm:m=k.toNat)(hn:n=l.toNat-k.toNat)(ho:o.op=.slice t x (some i) (some j) none:=by rfl)(hx:ev E x=v:=by rfl)(hi:ev E i=.int q k:=by rfl)(hj:ev E j=.int q' l:=by rfl):Lt P E o Z As (pre (suf T.size v m) n):=fun H hH=>by
 subst hm;subst hn;refine⟨fun w hw=>?_⟩;have hv:Mem.Sl w T v L:=by have:=a H hH;rw[←hw]at this;exact this
 unfold execOp;simp only[ho,hx,hi,hj,Option.map_none,Option.map_some];exact Mem.run_v (run_mid hv ht hT q q' k l h0 hkl hl)
end
end Go.S
end
section
set_option linter.unusedSimpArgs false
set_option linter.unusedVariables false
set_option maxRecDepth 100000
set_option maxHeartbeats 2000000
namespace Go.Proofs.YtmilekfknhglkaaGreat
open Go.Hp Go.J Go.S
open Go.Mem (Ty KTy blk elemAt pre suf blk_pre blk_suf aget aset strK aggDesc)
open Go.Mem (adel apos aget_aset aget_adel)
theorem tbafter_s{Z:Zone}{F:List Asr}{b:Nat}{L:List Vl}{S:List Slt}(hl:L.length≤100000)(hs:S.length≤100000)(x:Int)(hx0:0≤x)(hx1:x≤L.length):SF Tryz.prog 114 #[.pointer (some ⟨b,0,none⟩),iw x] Z (tbA b L S::F) fun r Bs=>r=nextV (tafter ⟨L,S⟩ x.toNat)∧Bs=tbA b L S::F:=by
 refine sf_enter Tryz.func114 48 [(0,pB b 0),(1,iw x)] (fun w0=>?_);refine k_sr<|s_alloc (.agg zc) zc (fun g1=>?_)
 refine s_alloc (.agg zc) zc (fun g2=>?_);refine sP (.bool false)<|sP (iw 0)<|s_nt<|k_seq<|k_sr<|sP2 (iw x)<|s_nt<|k_block<|k_loop (ι:=Nat) (fun i=>x.toNat≤i∧i≤L.length∧seek (L.drop i) i=seek (L.drop x.toNat) x.toNat) (fun i=>[(0,pB b 0),(4,pB g1 0),(5,pB g2 0),(8,iw (i:Int))]) (fun i=>blkA g2 zc 32::blkA g1 zc 32::tbA b L S::F) (fun i=>L.length-i) x.toNat ⟨by omega,by omega,rfl⟩ (sub_of rfl (rQ (rQ (rQ ⟨⟨rfl,cI om⟩,trivial⟩)))) (rr [0,0,0] []) ?_
 rintro i hi3;show SK _ _ _ _ _ [(0,.pointer (some ⟨b,0,none⟩)),(4,.pointer (some ⟨g1,0,none⟩)),(5,.pointer (some ⟨g2,0,none⟩)),(8,iw (i:Int))] _ (blkA g2 zc 32::blkA g1 zc 32::tbA b L S::F);refine k_seq<|k_sr<|sP (iw (i:Int))<|sP3 (pB b 0)<|s_mem2 (fun H h=>tb_open (h.re [2] [])) (fun lv4 r5 hw=>?_)
 refine sL (t_load 0 lv4)<|sL (t_len VlT_ok Tryz.underlying37 (.own 1))<|sL t_cmp<|s_nt<|k_cond (decide ((i:Int)<(L.length:Int))) (fun c6=>?_) (fun c6=>?_)
 .have p7:=dY c6;refine k_st<|k_seq<|k_block<|k_sr<|sP3 (pB b 0)<|sL (t_load 0 lv4)<|sP (iw (i:Int))<|sL (t_index VlT_ok Tryz.underlying37 (.own 1) (i:Int) i om ol om)<|sP (.pointer (some (elemAt VlT.size lv4 i))) ?_
  obtain⟨y8,hy9⟩:∃y,L[i]?=some y:=⟨_,List.getElem?_eq_getElem ol⟩;refine sL (t_loadF 0 VlT_ok (.own 1) hy9)<|sL t_cmp<|s_nt<|k_cond (decide (y8.kind≠0)) (fun c10=>?_) (fun c10=>?_)
  .have p11:=dY c10;refine k_seq<|k_held [blkA b #[lv4,pB r5 0] 123,own VlT lv4 L] ?_
   refine hp_ 0 [0,0] (iw (i:Int)) ?_;refine h_l 1 rfl [0,0] (fun _=>(t_add (i:Int) 1 ol)) ?_;refine hp_ 3 [0,0] (pB b 0) ?_;refine hp_ 4 [0,0] (pB b 0) ?_;refine hp_ 5 [0,0] (pB b 0) ?_;refine h_l 6 rfl [0,0] (fun _=>(t_load 0 lv4)) ?_;refine hp_ 7 [0,0] (iw (i:Int)) ?_;refine h_l 8 rfl [0,0] (fun _=>(t_index VlT_ok Tryz.underlying37 (.own 1) (i:Int) i om ol om)) ?_;refine h_l 9 rfl [0,0] (fun _=>(t_loadE VlT_ok (.own 1) hy9)) ?_;refine h_stepS 2 ?_;refine sV (fun _ h=>ofint_s ((i:Int)+1))<|nH [0,0]<|h_stepS 10 ?_
   refine s_store 4 (vc (ofI ((i:Int)+1))) ?_;refine nH [0,0]<|h_stepS 11 ?_
   refine s_store 3 (vc y8) ?_;refine nH [0,0]<|hp_ 12 [0,0] (.bool true) ?_
   refine hp_ 13 [0,0] (iw 0) ?_;refine h_doneS ?_;refine xs_then<|k_ret<|xs_retBlock<|xs_ret<|xs_ret<|xs_retBlock<|xs_ret<|xs_mem (fun _ h=>tb_shut (h.re [0,0,0] [])) ?_
   have hp:tafter ⟨L,S⟩ x.toNat=(ofI ((i:Int)+1),y8,true,0):=after_found (T:=⟨L,S⟩) hi3.2.2 hy9 (dY c10);refine xs_fin [.agg (vc (ofI ((i:Int)+1))),.agg (vc y8),.bool true,iw 0] (tbA b L S::F) (SI.agg 4 32 2 (SI.agg 5 32 1 (SI.tmp 6 (SI.tmp 7 SI.nil)))) (rr [0] [1,1]) ⟨?_,rfl⟩;rw[hp];rfl
  have p12:=Decidable.not_not.1 (dF c10);refine k_skip<|xs_block<|xs_then<|k_reg<|sP (iw (i:Int))<|sL (t_add (i:Int) 1 ol)<|sP (iw ((i:Int)+1))<|s_nil<|xs_mem (fun _ h=>tb_shut (h.re [0,0,0] [])) ?_
  exact xs_round (i+1) om ⟨by omega,by omega,seek_step hi3.2.2 hy9 (dF c10)⟩ sA (rr [1,1,0] [])
 have p13:=dF c6;refine k_exit<|xs_exit<|xs_exit<|xs_here<|xs_then<|k_sr<|sP2 (pB b 0)<|sP (pB b 1)<|sL (t_load 0 (pB r5 0))<|sL (t_kern (.agg zc))<|sC [2] (omnext_s (S:=S) ol zVl) ?_
 refine sP (.agg (vc ((onext S zVl).1)))<|sP (.agg (vc ((onext S zVl).2.1)))<|sP (.bool ((onext S zVl).2.2.1))<|sP (iw ((onext S zVl).2.2.2))<|s_store 4 (vc ((onext S zVl).1)) ?_
 refine s_store 3 (vc ((onext S zVl).2.1)) ?_;refine sP (.bool ((onext S zVl).2.2.1))<|sP (iw ((onext S zVl).2.2.2))<|s_nt<|k_ret<|xs_mem (fun _ h=>tb_shut (h.re [1,1,0] [])) ?_
 have hp:tafter ⟨L,S⟩ x.toNat=onext S zVl:=after_none (T:=⟨L,S⟩) hi3.2.2 (by show L.length≤i;omega);refine xs_fin [.agg (vc ((onext S zVl).1)),.agg (vc ((onext S zVl).2.1)),.bool ((onext S zVl).2.2.1),iw ((onext S zVl).2.2.2)] (tbA b L S::F) (SI.agg 4 32 2 (SI.agg 5 32 1 (SI.tmp 6 (SI.tmp 7 SI.nil)))) (rr [0] [1,1]) ⟨?_,rfl⟩;rw[hp];rfl
theorem tbnext_s{Z:Zone}{F:List Asr}{b:Nat}{L:List Vl}{S:List Slt}(hl:L.length≤100000)(hs:S.length≤100000)(k:Vl):SF Tryz.prog 81 #[.pointer (some ⟨b,0,none⟩),k.v] Z (tbA b L S::F) fun r Bs=>r=nextV (tnext ⟨L,S⟩ k)∧Bs=tbA b L S::F:=by
 refine sf_enter Tryz.func81 89 [(0,pB b 0),(1,.agg (vc k))] (fun w0=>?_);refine k_sr<|s_box (vc k) (fun g1=>?_)
 refine s_alloc (.agg zc) zc (fun g2=>?_);refine s_alloc (.agg zc) zc (fun g3=>?_);refine sP (.bool false)<|sP (iw 0)<|s_nt<|k_seq<|k_sr<|sP (pB b 0)<|sP (.bool false)<|s_nt<|k_false<|k_st<|k_seq<|k_sr<|sL (t_loadA 2 (vc k))<|sL (t_kern (.agg zc))<|sL (t_eqS (fun w=>(eqVlT k zVl w).1))<|s_nt<|k_cond (decide (k=zVl)) (fun c4=>?_) (fun c4=>?_)
 .have p5:=dY c4;refine k_sr<|sP (pB b 0)<|sC [3] (tbafter_s (L:=L) (S:=S) ol ol 0 om ol) ?_
  refine sP (.agg (vc ((tafter ⟨L,S⟩ (0:Int).toNat).1)))<|sP (.agg (vc ((tafter ⟨L,S⟩ (0:Int).toNat).2.1)))<|sP (.bool ((tafter ⟨L,S⟩ (0:Int).toNat).2.2.1))<|sP (iw ((tafter ⟨L,S⟩ (0:Int).toNat).2.2.2))<|s_store 2 (vc ((tafter ⟨L,S⟩ (0:Int).toNat).1)) ?_
  refine s_store 1 (vc ((tafter ⟨L,S⟩ (0:Int).toNat).2.1)) ?_;refine sP (.bool ((tafter ⟨L,S⟩ (0:Int).toNat).2.2.1))<|sP (iw ((tafter ⟨L,S⟩ (0:Int).toNat).2.2.2))<|s_nt<|k_ret<|xs_ret ?_
  have hp:tnext ⟨L,S⟩ k=tafter ⟨L,S⟩ 0:=by rw[dY c4];exact tnext_nil
  refine xs_fin [.agg (vc ((tafter ⟨L,S⟩ (0:Int).toNat).1)),.agg (vc ((tafter ⟨L,S⟩ (0:Int).toNat).2.1)),.bool ((tafter ⟨L,S⟩ (0:Int).toNat).2.2.1),iw ((tafter ⟨L,S⟩ (0:Int).toNat).2.2.2)] (tbA b L S::F) (SI.agg 4 32 2 (SI.agg 5 32 1 (SI.tmp 6 (SI.tmp 7 SI.nil)))) (rr [0] [1,1,1]) ⟨?_,rfl⟩;rw[hp];rfl
 have p6:=dF c4;refine k_st<|k_sr<|sL (t_loadA 2 (vc k))<|s_vcall (fun _ h=>integer_s k) ?_
 rintro u7 e8;rcases int_cases k with ⟨hi9,hp10,hv11⟩|⟨hi12,hw13⟩
 .rw [hi9,hp10]at e8;subst e8;refine sP (.tuple #[iw (whole k),.bool true])<|sP (iw (whole k))<|sP (.bool true)<|sP (iw (whole k))<|sP (.bool true)<|s_nt<|k_seq<|k_sr<|sP2 (.bool true)<|sP (iw (whole k))<|sL t_cmp<|sP2 (.bool (decide ((1:Int)≤(whole k))))<|s_fork 37 (decide ((1:Int)≤(whole k))) (fun c14=>?_) (fun c14=>?_)
  .have p15:=dY c14;refine sP (iw (whole k))<|sP3 (pB b 0)<|s_mem2 (fun H h=>tb_open (h.re [3] [])) (fun lv16 r17 hw=>?_)
   refine sL (t_load 0 lv16)<|sL (t_len VlT_ok Tryz.underlying37 (.own 1))<|sL t_cmp<|sP (.bool (decide ((whole k)≤(L.length:Int))))<|s_nt<|k_cond (decide ((whole k)≤(L.length:Int))) (fun c18=>?_) (fun c18=>?_)
   .have p19:=dY c18;refine k_sr<|sP (pB b 0)<|sP (iw (whole k))<|s_mem (fun _ h=>tb_shut (h.re [0,0,0] [])) ?_
    refine sC [0] (tbafter_s (L:=L) (S:=S) ol ol (whole k) om ol) ?_;refine sP (.agg (vc ((tafter ⟨L,S⟩ ((whole k):Int).toNat).1)))<|sP (.agg (vc ((tafter ⟨L,S⟩ ((whole k):Int).toNat).2.1)))<|sP (.bool ((tafter ⟨L,S⟩ ((whole k):Int).toNat).2.2.1))<|sP (iw ((tafter ⟨L,S⟩ ((whole k):Int).toNat).2.2.2))<|s_store 2 (vc ((tafter ⟨L,S⟩ ((whole k):Int).toNat).1)) ?_
    refine s_store 1 (vc ((tafter ⟨L,S⟩ ((whole k):Int).toNat).2.1)) ?_;refine sP (.bool ((tafter ⟨L,S⟩ ((whole k):Int).toNat).2.2.1))<|sP (iw ((tafter ⟨L,S⟩ ((whole k):Int).toNat).2.2.2))<|s_nt<|k_ret<|xs_ret ?_
    have hz:k≠zVl:=dF c4;have hp:tnext ⟨L,S⟩ k=tafter ⟨L,S⟩ (whole k).toNat:=tnext_in hz om (by show _≤(L.length:Int);omega);refine xs_fin [.agg (vc ((tafter ⟨L,S⟩ ((whole k):Int).toNat).1)),.agg (vc ((tafter ⟨L,S⟩ ((whole k):Int).toNat).2.1)),.bool ((tafter ⟨L,S⟩ ((whole k):Int).toNat).2.2.1),iw ((tafter ⟨L,S⟩ ((whole k):Int).toNat).2.2.2)] (tbA b L S::F) (SI.agg 4 32 2 (SI.agg 5 32 1 (SI.tmp 6 (SI.tmp 7 SI.nil)))) (rr [0] [1,1,1]) ⟨?_,rfl⟩;rw[hp];rfl
   have p20:=dF c18;refine k_st<|k_cut (ι:=Nat×Nat) (fun _=>True) (fun (jb10,jb11)=>[(0,pB b 0),(4,pB g2 0),(5,pB g3 0),(8,iw (whole k)),(9,.bool true),(10,pB jb10 0),(11,pB jb11 0),(12,.bool ((onext S k).2.2.1)),(13,iw ((onext S k).2.2.2))]) (fun (jb10,jb11)=>blkA jb10 (vc ((onext S k).1)) 32::blkA jb11 (vc ((onext S k).2.1)) 32::blkA b #[lv16,pB r17 0] 123::own VlT lv16 L::omA r17 S::blkA g3 zc 32::blkA g2 zc 32::blkA g1 (vc k) 32::F) ?_ (fun ix _=>?_)
   .refine k_held [blkA b #[lv16,pB r17 0] 123,own VlT lv16 L,blkA g3 zc 32,blkA g2 zc 32,blkA g1 (vc k) 32] ?_;refine hp_ 0 [0,0,1,1,1] (pB b 0) ?_;refine hp_ 1 [0,0,1,1,1] (pB b 0) ?_;refine hp_ 2 [0,0,1,1,1] (pB b 1) ?_;refine h_l 3 rfl [0,0,1,1,1] (fun _=>(t_load 0 (pB r17 0))) ?_;refine h_l 4 rfl [0,0,1,1,1] (fun _=>(t_loadA 4 (vc k))) ?_;refine h_stepS3 5 11 12 ?_ ?_ ?_
    .refine sC [2] (omnext_s (S:=S) ol k) ?_;refine nH [1,1,1,1,1]<|hp_ 6 [1,1,1,1,1] (.tuple #[.agg (vc ((onext S k).1)),.agg (vc ((onext S k).2.1)),.bool ((onext S k).2.2.1),iw ((onext S k).2.2.2)]) ?_
     refine hp_ 7 [1,1,1,1,1] (.agg (vc ((onext S k).1))) ?_;refine hp_ 8 [1,1,1,1,1] (.agg (vc ((onext S k).2.1))) ?_;refine hp_ 9 [1,1,1,1,1] (.bool ((onext S k).2.2.1)) ?_;refine hp_ 10 [1,1,1,1,1] (iw ((onext S k).2.2.2)) ?_;refine h_stepS2 11 12 ?_ ?_
     .refine s_alloc (.agg zc) zc (fun g21=>?_);refine nH [2,2,2,2,2]<|h_stepS 12 ?_
      refine s_alloc (.agg zc) zc (fun g22=>?_);refine nH [3,3,3,3,3]<|h_stepS 13 ?_
      refine s_store 1 (vc ((onext S k).1)) ?_;refine nH [3,3,3,3,3]<|h_stepS 14 ?_
      refine s_store 0 (vc ((onext S k).2.1)) ?_;refine nH [3,3,3,3,3]<|hp_ 15 [3,3,3,3,3] (.bool ((onext S k).2.2.1)) ?_
      refine hp_ 16 [3,3,3,3,3] (iw ((onext S k).2.2.2)) ?_;refine h_doneS ?_;exact xcut (g21,g22) (rr [1,0,1,1,0,0,0,0] [])
     refine s_alloc (.agg zc) zc (fun g23=>?_);refine nH [2,2,2,2,2]<|h_stepS 11 ?_
     refine s_alloc (.agg zc) zc (fun g24=>?_);refine nH [3,3,3,3,3]<|h_stepS 13 ?_
     refine s_store 0 (vc ((onext S k).1)) ?_;refine nH [3,3,3,3,3]<|h_stepS 14 ?_
     refine s_store 1 (vc ((onext S k).2.1)) ?_;refine nH [3,3,3,3,3]<|hp_ 15 [3,3,3,3,3] (.bool ((onext S k).2.2.1)) ?_
     refine hp_ 16 [3,3,3,3,3] (iw ((onext S k).2.2.2)) ?_;refine h_doneS ?_;exact xcut (g24,g23) (rr [0,0,1,1,0,0,0,0] [])
    .refine s_alloc (.agg zc) zc (fun g25=>?_);refine nH [1,1,2,2,2]<|h_stepS2 5 12 ?_ ?_
     .refine sC [3] (omnext_s (S:=S) ol k) ?_;refine nH [2,2,2,2,2]<|hp_ 6 [2,2,2,2,2] (.tuple #[.agg (vc ((onext S k).1)),.agg (vc ((onext S k).2.1)),.bool ((onext S k).2.2.1),iw ((onext S k).2.2.2)]) ?_
      refine hp_ 7 [2,2,2,2,2] (.agg (vc ((onext S k).1))) ?_;refine hp_ 8 [2,2,2,2,2] (.agg (vc ((onext S k).2.1))) ?_;refine hp_ 9 [2,2,2,2,2] (.bool ((onext S k).2.2.1)) ?_;refine hp_ 10 [2,2,2,2,2] (iw ((onext S k).2.2.2)) ?_;refine h_stepS 12 ?_;refine s_alloc (.agg zc) zc (fun g26=>?_);refine nH [3,3,3,3,3]<|h_stepS 13 ?_
      refine s_store 2 (vc ((onext S k).1)) ?_;refine nH [3,3,3,3,3]<|h_stepS 14 ?_
      refine s_store 0 (vc ((onext S k).2.1)) ?_;refine nH [3,3,3,3,3]<|hp_ 15 [3,3,3,3,3] (.bool ((onext S k).2.2.1)) ?_
      refine hp_ 16 [3,3,3,3,3] (iw ((onext S k).2.2.2)) ?_;refine h_doneS ?_;exact xcut (g25,g26) (rr [2,0,1,1,0,0,0,0] [])
     refine s_alloc (.agg zc) zc (fun g27=>?_);refine nH [2,2,3,3,3]<|h_stepS 5 ?_
     refine sC [4] (omnext_s (S:=S) ol k) ?_;refine nH [3,3,3,3,3]<|hp_ 6 [3,3,3,3,3] (.tuple #[.agg (vc ((onext S k).1)),.agg (vc ((onext S k).2.1)),.bool ((onext S k).2.2.1),iw ((onext S k).2.2.2)]) ?_
     refine hp_ 7 [3,3,3,3,3] (.agg (vc ((onext S k).1))) ?_;refine hp_ 8 [3,3,3,3,3] (.agg (vc ((onext S k).2.1))) ?_;refine hp_ 9 [3,3,3,3,3] (.bool ((onext S k).2.2.1)) ?_;refine hp_ 10 [3,3,3,3,3] (iw ((onext S k).2.2.2)) ?_;refine h_stepS 13 ?_;refine s_store 2 (vc ((onext S k).1)) ?_;refine nH [3,3,3,3,3]<|h_stepS 14 ?_
     refine s_store 1 (vc ((onext S k).2.1)) ?_;refine nH [3,3,3,3,3]<|hp_ 15 [3,3,3,3,3] (.bool ((onext S k).2.2.1)) ?_
     refine hp_ 16 [3,3,3,3,3] (iw ((onext S k).2.2.2)) ?_;refine h_doneS ?_;exact xcut (g25,g27) (rr [2,1,1,1,0,0,0,0] [])
    refine s_alloc (.agg zc) zc (fun g28=>?_);refine nH [1,1,2,2,2]<|h_stepS2 5 11 ?_ ?_
    .refine sC [3] (omnext_s (S:=S) ol k) ?_;refine nH [2,2,2,2,2]<|hp_ 6 [2,2,2,2,2] (.tuple #[.agg (vc ((onext S k).1)),.agg (vc ((onext S k).2.1)),.bool ((onext S k).2.2.1),iw ((onext S k).2.2.2)]) ?_
     refine hp_ 7 [2,2,2,2,2] (.agg (vc ((onext S k).1))) ?_;refine hp_ 8 [2,2,2,2,2] (.agg (vc ((onext S k).2.1))) ?_;refine hp_ 9 [2,2,2,2,2] (.bool ((onext S k).2.2.1)) ?_;refine hp_ 10 [2,2,2,2,2] (iw ((onext S k).2.2.2)) ?_;refine h_stepS 11 ?_;refine s_alloc (.agg zc) zc (fun g29=>?_);refine nH [3,3,3,3,3]<|h_stepS 13 ?_
     refine s_store 0 (vc ((onext S k).1)) ?_;refine nH [3,3,3,3,3]<|h_stepS 14 ?_
     refine s_store 2 (vc ((onext S k).2.1)) ?_;refine nH [3,3,3,3,3]<|hp_ 15 [3,3,3,3,3] (.bool ((onext S k).2.2.1)) ?_
     refine hp_ 16 [3,3,3,3,3] (iw ((onext S k).2.2.2)) ?_;refine h_doneS ?_;exact xcut (g29,g28) (rr [0,1,1,1,0,0,0,0] [])
    refine s_alloc (.agg zc) zc (fun g30=>?_);refine nH [2,2,3,3,3]<|h_stepS 5 ?_
    refine sC [4] (omnext_s (S:=S) ol k) ?_;refine nH [3,3,3,3,3]<|hp_ 6 [3,3,3,3,3] (.tuple #[.agg (vc ((onext S k).1)),.agg (vc ((onext S k).2.1)),.bool ((onext S k).2.2.1),iw ((onext S k).2.2.2)]) ?_
    refine hp_ 7 [3,3,3,3,3] (.agg (vc ((onext S k).1))) ?_;refine hp_ 8 [3,3,3,3,3] (.agg (vc ((onext S k).2.1))) ?_;refine hp_ 9 [3,3,3,3,3] (.bool ((onext S k).2.2.1)) ?_;refine hp_ 10 [3,3,3,3,3] (iw ((onext S k).2.2.2)) ?_;refine h_stepS 13 ?_;refine s_store 1 (vc ((onext S k).1)) ?_;refine nH [3,3,3,3,3]<|h_stepS 14 ?_
    refine s_store 2 (vc ((onext S k).2.1)) ?_;refine nH [3,3,3,3,3]<|hp_ 15 [3,3,3,3,3] (.bool ((onext S k).2.2.1)) ?_
    refine hp_ 16 [3,3,3,3,3] (iw ((onext S k).2.2.2)) ?_;refine h_doneS ?_;exact xcut (g30,g28) (rr [1,1,1,1,0,0,0,0] [])
   obtain⟨jb10,jb11⟩:=ix;show SK _ _ _ _ _ [(0,.pointer (some ⟨b,0,none⟩)),(4,.pointer (some ⟨g2,0,none⟩)),(5,.pointer (some ⟨g3,0,none⟩)),(8,iw (whole k)),(9,.bool true),(10,.pointer (some ⟨jb10,0,none⟩)),(11,.pointer (some ⟨jb11,0,none⟩)),(12,.bool ((onext S k).2.2.1)),(13,iw ((onext S k).2.2.2))] _ (blkA jb10 (vc ((onext S k).1)) 32::blkA jb11 (vc ((onext S k).2.1)) 32::blkA b #[lv16,.pointer (some ⟨r17,0,none⟩)] 123::own VlT lv16 L::omA r17 S::blkA g3 zc 32::blkA g2 zc 32::blkA g1 (vc k) 32::F);refine k_seq<|k_block<|k_sr<|sP (iw ((onext S k).2.2.2))<|sL t_cmp<|sP (.bool (decide ((onext S k).2.2.2=0)))<|s_nt<|k_cond (decide ((onext S k).2.2.2=0)) (fun c31=>?_) (fun c31=>?_)
   .have p32:=dY c31;refine k_seq<|k_held [blkA jb10 (vc ((onext S k).1)) 32,blkA jb11 (vc ((onext S k).2.1)) 32,blkA b #[lv16,pB r17 0] 123,own VlT lv16 L,blkA g1 (vc k) 32] ?_
    refine h_l 0 rfl [0,0,0,0,3] (fun _=>(t_loadA 0 (vc ((onext S k).1)))) ?_;refine h_l 1 rfl [0,0,0,0,3] (fun _=>(t_loadA 1 (vc ((onext S k).2.1)))) ?_;refine hp_ 2 [0,0,0,0,3] (.bool ((onext S k).2.2.1)) ?_;refine hp_ 3 [0,0,0,0,3] (iw ((onext S k).2.2.2)) ?_;refine h_stepS 4 ?_;refine s_store 6 (vc ((onext S k).1)) ?_;refine nH [0,0,0,0,3]<|h_stepS 5 ?_
    refine s_store 5 (vc ((onext S k).2.1)) ?_;refine nH [0,0,0,0,3]<|hp_ 6 [0,0,0,0,3] (.bool ((onext S k).2.2.1)) ?_
    refine hp_ 7 [0,0,0,0,3] (iw ((onext S k).2.2.2)) ?_;refine h_doneS ?_;refine xs_then<|k_ret<|xs_retBlock<|xs_ret<|xs_mem (fun _ h=>tb_shut (h.re [2,2,2] [])) ?_
    have hz:k≠zVl:=dF c4;have hr:¬(1≤whole k∧whole k≤((⟨L,S⟩:Tb).list.length:Int)):=by show ¬(_∧_≤(L.length:Int));omega
    have hp:tnext ⟨L,S⟩ k=onext S k:=tnext_rest hz hr (dY c31);refine xs_fin [.agg (vc ((onext S k).1)),.agg (vc ((onext S k).2.1)),.bool ((onext S k).2.2.1),iw ((onext S k).2.2.2)] (tbA b L S::F) (SI.agg 4 32 4 (SI.agg 5 32 3 (SI.tmp 6 (SI.tmp 7 SI.nil)))) (rr [0] [1,1,1,1,1]) ⟨?_,rfl⟩;rw[hp];rfl
   have p33:=dF c31;refine k_sr<|sP2 (.bool true)<|sP (iw (whole k))<|sL (Lt.to t_cmp (cB (c14:(decide ((1:Int)≤(whole k)))=true)))<|sP2 (.bool true)<|s_nt<|k_true<|k_sr<|sP2 (pB b 0)<|sP (pB b 1)<|sL (t_load 2 (pB r17 0))<|sL (t_kern (.agg zc))<|sC [4] (omnext_s (S:=S) ol zVl) ?_
   refine sP (.agg (vc ((onext S zVl).1)))<|sP (.agg (vc ((onext S zVl).2.1)))<|sP (.bool ((onext S zVl).2.2.1))<|sP (iw ((onext S zVl).2.2.2))<|s_store 6 (vc ((onext S zVl).1)) ?_
   refine s_store 5 (vc ((onext S zVl).2.1)) ?_;refine sP (.bool ((onext S zVl).2.2.1))<|sP (iw ((onext S zVl).2.2.2))<|s_nt<|k_ret<|xs_retBlock<|xs_ret<|xs_mem (fun _ h=>tb_shut (h.re [3,3,0] [])) ?_
   have hz:k≠zVl:=dF c4;have hr:¬(1≤whole k∧whole k≤((⟨L,S⟩:Tb).list.length:Int)):=by show ¬(_∧_≤(L.length:Int));omega
   have hp:tnext ⟨L,S⟩ k=onext S zVl:=tnext_over hz hr (dF c31) om;refine xs_fin [.agg (vc ((onext S zVl).1)),.agg (vc ((onext S zVl).2.1)),.bool ((onext S zVl).2.2.1),iw ((onext S zVl).2.2.2)] (tbA b L S::F) (SI.agg 4 32 4 (SI.agg 5 32 3 (SI.tmp 6 (SI.tmp 7 SI.nil)))) (rr [0] [1,1,1,1,1]) ⟨?_,rfl⟩;rw[hp];rfl
  have p34:=dF c14;refine sK<|sK<|sK<|sK<|sK<|sK<|sK<|sP (.bool false)<|s_nt<|k_false<|k_st<|k_mem2 (fun H h=>tb_open (h.re [3] [])) (fun lv35 r36 hw=>?_)
  refine k_cut (ι:=Nat×Nat) (fun _=>True) (fun (jb10,jb11)=>[(0,pB b 0),(4,pB g2 0),(5,pB g3 0),(8,iw (whole k)),(9,.bool true),(10,pB jb10 0),(11,pB jb11 0),(12,.bool ((onext S k).2.2.1)),(13,iw ((onext S k).2.2.2))]) (fun (jb10,jb11)=>blkA jb10 (vc ((onext S k).1)) 32::blkA jb11 (vc ((onext S k).2.1)) 32::blkA b #[lv35,pB r36 0] 123::own VlT lv35 L::omA r36 S::blkA g3 zc 32::blkA g2 zc 32::blkA g1 (vc k) 32::F) ?_ (fun ix _=>?_)
  .refine k_held [blkA b #[lv35,pB r36 0] 123,own VlT lv35 L,blkA g3 zc 32,blkA g2 zc 32,blkA g1 (vc k) 32] ?_;refine hp_ 0 [0,0,1,1,1] (pB b 0) ?_;refine hp_ 1 [0,0,1,1,1] (pB b 0) ?_;refine hp_ 2 [0,0,1,1,1] (pB b 1) ?_;refine h_l 3 rfl [0,0,1,1,1] (fun _=>(t_load 0 (pB r36 0))) ?_;refine h_l 4 rfl [0,0,1,1,1] (fun _=>(t_loadA 4 (vc k))) ?_;refine h_stepS3 5 11 12 ?_ ?_ ?_
   .refine sC [2] (omnext_s (S:=S) ol k) ?_;refine nH [1,1,1,1,1]<|hp_ 6 [1,1,1,1,1] (.tuple #[.agg (vc ((onext S k).1)),.agg (vc ((onext S k).2.1)),.bool ((onext S k).2.2.1),iw ((onext S k).2.2.2)]) ?_
    refine hp_ 7 [1,1,1,1,1] (.agg (vc ((onext S k).1))) ?_;refine hp_ 8 [1,1,1,1,1] (.agg (vc ((onext S k).2.1))) ?_;refine hp_ 9 [1,1,1,1,1] (.bool ((onext S k).2.2.1)) ?_;refine hp_ 10 [1,1,1,1,1] (iw ((onext S k).2.2.2)) ?_;refine h_stepS2 11 12 ?_ ?_
    .refine s_alloc (.agg zc) zc (fun g37=>?_);refine nH [2,2,2,2,2]<|h_stepS 12 ?_
     refine s_alloc (.agg zc) zc (fun g38=>?_);refine nH [3,3,3,3,3]<|h_stepS 13 ?_
     refine s_store 1 (vc ((onext S k).1)) ?_;refine nH [3,3,3,3,3]<|h_stepS 14 ?_
     refine s_store 0 (vc ((onext S k).2.1)) ?_;refine nH [3,3,3,3,3]<|hp_ 15 [3,3,3,3,3] (.bool ((onext S k).2.2.1)) ?_
     refine hp_ 16 [3,3,3,3,3] (iw ((onext S k).2.2.2)) ?_;refine h_doneS ?_;exact xcut (g37,g38) (rr [1,0,1,1,0,0,0,0] [])
    refine s_alloc (.agg zc) zc (fun g39=>?_);refine nH [2,2,2,2,2]<|h_stepS 11 ?_
    refine s_alloc (.agg zc) zc (fun g40=>?_);refine nH [3,3,3,3,3]<|h_stepS 13 ?_
    refine s_store 0 (vc ((onext S k).1)) ?_;refine nH [3,3,3,3,3]<|h_stepS 14 ?_
    refine s_store 1 (vc ((onext S k).2.1)) ?_;refine nH [3,3,3,3,3]<|hp_ 15 [3,3,3,3,3] (.bool ((onext S k).2.2.1)) ?_
    refine hp_ 16 [3,3,3,3,3] (iw ((onext S k).2.2.2)) ?_;refine h_doneS ?_;exact xcut (g40,g39) (rr [0,0,1,1,0,0,0,0] [])
   .refine s_alloc (.agg zc) zc (fun g41=>?_);refine nH [1,1,2,2,2]<|h_stepS2 5 12 ?_ ?_
    .refine sC [3] (omnext_s (S:=S) ol k) ?_;refine nH [2,2,2,2,2]<|hp_ 6 [2,2,2,2,2] (.tuple #[.agg (vc ((onext S k).1)),.agg (vc ((onext S k).2.1)),.bool ((onext S k).2.2.1),iw ((onext S k).2.2.2)]) ?_
     refine hp_ 7 [2,2,2,2,2] (.agg (vc ((onext S k).1))) ?_;refine hp_ 8 [2,2,2,2,2] (.agg (vc ((onext S k).2.1))) ?_;refine hp_ 9 [2,2,2,2,2] (.bool ((onext S k).2.2.1)) ?_;refine hp_ 10 [2,2,2,2,2] (iw ((onext S k).2.2.2)) ?_;refine h_stepS 12 ?_;refine s_alloc (.agg zc) zc (fun g42=>?_);refine nH [3,3,3,3,3]<|h_stepS 13 ?_
     refine s_store 2 (vc ((onext S k).1)) ?_;refine nH [3,3,3,3,3]<|h_stepS 14 ?_
     refine s_store 0 (vc ((onext S k).2.1)) ?_;refine nH [3,3,3,3,3]<|hp_ 15 [3,3,3,3,3] (.bool ((onext S k).2.2.1)) ?_
     refine hp_ 16 [3,3,3,3,3] (iw ((onext S k).2.2.2)) ?_;refine h_doneS ?_;exact xcut (g41,g42) (rr [2,0,1,1,0,0,0,0] [])
    refine s_alloc (.agg zc) zc (fun g43=>?_);refine nH [2,2,3,3,3]<|h_stepS 5 ?_
    refine sC [4] (omnext_s (S:=S) ol k) ?_;refine nH [3,3,3,3,3]<|hp_ 6 [3,3,3,3,3] (.tuple #[.agg (vc ((onext S k).1)),.agg (vc ((onext S k).2.1)),.bool ((onext S k).2.2.1),iw ((onext S k).2.2.2)]) ?_
    refine hp_ 7 [3,3,3,3,3] (.agg (vc ((onext S k).1))) ?_;refine hp_ 8 [3,3,3,3,3] (.agg (vc ((onext S k).2.1))) ?_;refine hp_ 9 [3,3,3,3,3] (.bool ((onext S k).2.2.1)) ?_;refine hp_ 10 [3,3,3,3,3] (iw ((onext S k).2.2.2)) ?_;refine h_stepS 13 ?_;refine s_store 2 (vc ((onext S k).1)) ?_;refine nH [3,3,3,3,3]<|h_stepS 14 ?_
    refine s_store 1 (vc ((onext S k).2.1)) ?_;refine nH [3,3,3,3,3]<|hp_ 15 [3,3,3,3,3] (.bool ((onext S k).2.2.1)) ?_
    refine hp_ 16 [3,3,3,3,3] (iw ((onext S k).2.2.2)) ?_;refine h_doneS ?_;exact xcut (g41,g43) (rr [2,1,1,1,0,0,0,0] [])
   refine s_alloc (.agg zc) zc (fun g44=>?_);refine nH [1,1,2,2,2]<|h_stepS2 5 11 ?_ ?_
   .refine sC [3] (omnext_s (S:=S) ol k) ?_;refine nH [2,2,2,2,2]<|hp_ 6 [2,2,2,2,2] (.tuple #[.agg (vc ((onext S k).1)),.agg (vc ((onext S k).2.1)),.bool ((onext S k).2.2.1),iw ((onext S k).2.2.2)]) ?_
    refine hp_ 7 [2,2,2,2,2] (.agg (vc ((onext S k).1))) ?_;refine hp_ 8 [2,2,2,2,2] (.agg (vc ((onext S k).2.1))) ?_;refine hp_ 9 [2,2,2,2,2] (.bool ((onext S k).2.2.1)) ?_;refine hp_ 10 [2,2,2,2,2] (iw ((onext S k).2.2.2)) ?_;refine h_stepS 11 ?_;refine s_alloc (.agg zc) zc (fun g45=>?_);refine nH [3,3,3,3,3]<|h_stepS 13 ?_
    refine s_store 0 (vc ((onext S k).1)) ?_;refine nH [3,3,3,3,3]<|h_stepS 14 ?_
    refine s_store 2 (vc ((onext S k).2.1)) ?_;refine nH [3,3,3,3,3]<|hp_ 15 [3,3,3,3,3] (.bool ((onext S k).2.2.1)) ?_
    refine hp_ 16 [3,3,3,3,3] (iw ((onext S k).2.2.2)) ?_;refine h_doneS ?_;exact xcut (g45,g44) (rr [0,1,1,1,0,0,0,0] [])
   refine s_alloc (.agg zc) zc (fun g46=>?_);refine nH [2,2,3,3,3]<|h_stepS 5 ?_
   refine sC [4] (omnext_s (S:=S) ol k) ?_;refine nH [3,3,3,3,3]<|hp_ 6 [3,3,3,3,3] (.tuple #[.agg (vc ((onext S k).1)),.agg (vc ((onext S k).2.1)),.bool ((onext S k).2.2.1),iw ((onext S k).2.2.2)]) ?_
   refine hp_ 7 [3,3,3,3,3] (.agg (vc ((onext S k).1))) ?_;refine hp_ 8 [3,3,3,3,3] (.agg (vc ((onext S k).2.1))) ?_;refine hp_ 9 [3,3,3,3,3] (.bool ((onext S k).2.2.1)) ?_;refine hp_ 10 [3,3,3,3,3] (iw ((onext S k).2.2.2)) ?_;refine h_stepS 13 ?_;refine s_store 1 (vc ((onext S k).1)) ?_;refine nH [3,3,3,3,3]<|h_stepS 14 ?_
   refine s_store 2 (vc ((onext S k).2.1)) ?_;refine nH [3,3,3,3,3]<|hp_ 15 [3,3,3,3,3] (.bool ((onext S k).2.2.1)) ?_
   refine hp_ 16 [3,3,3,3,3] (iw ((onext S k).2.2.2)) ?_;refine h_doneS ?_;exact xcut (g46,g44) (rr [1,1,1,1,0,0,0,0] [])
  obtain⟨jb10,jb11⟩:=ix;show SK _ _ _ _ _ [(0,.pointer (some ⟨b,0,none⟩)),(4,.pointer (some ⟨g2,0,none⟩)),(5,.pointer (some ⟨g3,0,none⟩)),(8,iw (whole k)),(9,.bool true),(10,.pointer (some ⟨jb10,0,none⟩)),(11,.pointer (some ⟨jb11,0,none⟩)),(12,.bool ((onext S k).2.2.1)),(13,iw ((onext S k).2.2.2))] _ (blkA jb10 (vc ((onext S k).1)) 32::blkA jb11 (vc ((onext S k).2.1)) 32::blkA b #[lv35,.pointer (some ⟨r36,0,none⟩)] 123::own VlT lv35 L::omA r36 S::blkA g3 zc 32::blkA g2 zc 32::blkA g1 (vc k) 32::F);refine k_seq<|k_block<|k_sr<|sP (iw ((onext S k).2.2.2))<|sL t_cmp<|sP (.bool (decide ((onext S k).2.2.2=0)))<|s_nt<|k_cond (decide ((onext S k).2.2.2=0)) (fun c47=>?_) (fun c47=>?_)
  .have p48:=dY c47;refine k_seq<|k_held [blkA jb10 (vc ((onext S k).1)) 32,blkA jb11 (vc ((onext S k).2.1)) 32,blkA b #[lv35,pB r36 0] 123,own VlT lv35 L,blkA g1 (vc k) 32] ?_
   refine h_l 0 rfl [0,0,0,0,3] (fun _=>(t_loadA 0 (vc ((onext S k).1)))) ?_;refine h_l 1 rfl [0,0,0,0,3] (fun _=>(t_loadA 1 (vc ((onext S k).2.1)))) ?_;refine hp_ 2 [0,0,0,0,3] (.bool ((onext S k).2.2.1)) ?_;refine hp_ 3 [0,0,0,0,3] (iw ((onext S k).2.2.2)) ?_;refine h_stepS 4 ?_;refine s_store 6 (vc ((onext S k).1)) ?_;refine nH [0,0,0,0,3]<|h_stepS 5 ?_
   refine s_store 5 (vc ((onext S k).2.1)) ?_;refine nH [0,0,0,0,3]<|hp_ 6 [0,0,0,0,3] (.bool ((onext S k).2.2.1)) ?_
   refine hp_ 7 [0,0,0,0,3] (iw ((onext S k).2.2.2)) ?_;refine h_doneS ?_;refine xs_then<|k_ret<|xs_retBlock<|xs_ret<|xs_mem (fun _ h=>tb_shut (h.re [2,2,2] [])) ?_
   have hz:k≠zVl:=dF c4;have hr:¬(1≤whole k∧whole k≤((⟨L,S⟩:Tb).list.length:Int)):=by show ¬(_∧_≤(L.length:Int));omega
   have hp:tnext ⟨L,S⟩ k=onext S k:=tnext_rest hz hr (dY c47);refine xs_fin [.agg (vc ((onext S k).1)),.agg (vc ((onext S k).2.1)),.bool ((onext S k).2.2.1),iw ((onext S k).2.2.2)] (tbA b L S::F) (SI.agg 4 32 4 (SI.agg 5 32 3 (SI.tmp 6 (SI.tmp 7 SI.nil)))) (rr [0] [1,1,1,1,1]) ⟨?_,rfl⟩;rw[hp];rfl
  have p49:=dF c47;refine k_sr<|sP2 (.bool true)<|sP (iw (whole k))<|sL (Lt.to t_cmp (cB (c14:(decide ((1:Int)≤(whole k)))=false)))<|sP2 (.bool false)<|s_nt<|k_false<|k_skip<|xs_block<|xs_then<|k_sr<|sL (t_kern (.agg zc))<|sL (t_kern (.agg zc))<|s_store 6 zc ?_
  refine s_store 5 zc ?_;refine sP (.bool false)<|sP (iw 13)<|s_nt<|k_ret<|xs_mem (fun _ h=>tb_shut (h.re [2,2,2] [])) ?_
  have hz:k≠zVl:=dF c4;have hr:¬(1≤whole k∧whole k≤((⟨L,S⟩:Tb).list.length:Int)):=by show ¬(_∧_≤(L.length:Int));omega
  have hp:tnext ⟨L,S⟩ k=(zVl,zVl,false,13):=tnext_bad hz hr (dF c47) om;refine xs_fin [.agg zc,.agg zc,.bool false,iw 13] (tbA b L S::F) (SI.agg 4 32 4 (SI.agg 5 32 3 (SI.tmp 6 (SI.tmp 7 SI.nil)))) (rr [0] [1,1,1,1,1]) ⟨?_,rfl⟩;rw[hp];rfl
 rw[hi12]at e8;subst e8;refine sP (.tuple #[iw k.p,.bool false])<|sP (iw k.p)<|sP (.bool false)<|sP (iw k.p)<|sP (.bool false)<|s_nt<|k_seq<|k_sr<|sP2 (.bool false)<|sK<|sK<|sP2 (.bool false)<|sK<|sK<|sK<|sK<|sK<|sK<|sK<|sP (.bool false)<|s_nt<|k_false<|k_st<|k_mem2 (fun H h=>tb_open (h.re [3] [])) (fun lv50 r51 hw=>?_)
 refine k_cut (ι:=Nat×Nat) (fun _=>True) (fun (jb10,jb11)=>[(0,pB b 0),(4,pB g2 0),(5,pB g3 0),(8,iw k.p),(9,.bool false),(10,pB jb10 0),(11,pB jb11 0),(12,.bool ((onext S k).2.2.1)),(13,iw ((onext S k).2.2.2))]) (fun (jb10,jb11)=>blkA jb10 (vc ((onext S k).1)) 32::blkA jb11 (vc ((onext S k).2.1)) 32::blkA b #[lv50,pB r51 0] 123::own VlT lv50 L::omA r51 S::blkA g3 zc 32::blkA g2 zc 32::blkA g1 (vc k) 32::F) ?_ (fun ix _=>?_)
 .refine k_held [blkA b #[lv50,pB r51 0] 123,own VlT lv50 L,blkA g3 zc 32,blkA g2 zc 32,blkA g1 (vc k) 32] ?_;refine hp_ 0 [0,0,1,1,1] (pB b 0) ?_;refine hp_ 1 [0,0,1,1,1] (pB b 0) ?_;refine hp_ 2 [0,0,1,1,1] (pB b 1) ?_;refine h_l 3 rfl [0,0,1,1,1] (fun _=>(t_load 0 (pB r51 0))) ?_;refine h_l 4 rfl [0,0,1,1,1] (fun _=>(t_loadA 4 (vc k))) ?_;refine h_stepS3 5 11 12 ?_ ?_ ?_
  .refine sC [2] (omnext_s (S:=S) ol k) ?_;refine nH [1,1,1,1,1]<|hp_ 6 [1,1,1,1,1] (.tuple #[.agg (vc ((onext S k).1)),.agg (vc ((onext S k).2.1)),.bool ((onext S k).2.2.1),iw ((onext S k).2.2.2)]) ?_
   refine hp_ 7 [1,1,1,1,1] (.agg (vc ((onext S k).1))) ?_;refine hp_ 8 [1,1,1,1,1] (.agg (vc ((onext S k).2.1))) ?_;refine hp_ 9 [1,1,1,1,1] (.bool ((onext S k).2.2.1)) ?_;refine hp_ 10 [1,1,1,1,1] (iw ((onext S k).2.2.2)) ?_;refine h_stepS2 11 12 ?_ ?_
   .refine s_alloc (.agg zc) zc (fun g52=>?_);refine nH [2,2,2,2,2]<|h_stepS 12 ?_
    refine s_alloc (.agg zc) zc (fun g53=>?_);refine nH [3,3,3,3,3]<|h_stepS 13 ?_
    refine s_store 1 (vc ((onext S k).1)) ?_;refine nH [3,3,3,3,3]<|h_stepS 14 ?_
    refine s_store 0 (vc ((onext S k).2.1)) ?_;refine nH [3,3,3,3,3]<|hp_ 15 [3,3,3,3,3] (.bool ((onext S k).2.2.1)) ?_
    refine hp_ 16 [3,3,3,3,3] (iw ((onext S k).2.2.2)) ?_;refine h_doneS ?_;exact xcut (g52,g53) (rr [1,0,1,1,0,0,0,0] [])
   refine s_alloc (.agg zc) zc (fun g54=>?_);refine nH [2,2,2,2,2]<|h_stepS 11 ?_
   refine s_alloc (.agg zc) zc (fun g55=>?_);refine nH [3,3,3,3,3]<|h_stepS 13 ?_
   refine s_store 0 (vc ((onext S k).1)) ?_;refine nH [3,3,3,3,3]<|h_stepS 14 ?_
   refine s_store 1 (vc ((onext S k).2.1)) ?_;refine nH [3,3,3,3,3]<|hp_ 15 [3,3,3,3,3] (.bool ((onext S k).2.2.1)) ?_
   refine hp_ 16 [3,3,3,3,3] (iw ((onext S k).2.2.2)) ?_;refine h_doneS ?_;exact xcut (g55,g54) (rr [0,0,1,1,0,0,0,0] [])
  .refine s_alloc (.agg zc) zc (fun g56=>?_);refine nH [1,1,2,2,2]<|h_stepS2 5 12 ?_ ?_
   .refine sC [3] (omnext_s (S:=S) ol k) ?_;refine nH [2,2,2,2,2]<|hp_ 6 [2,2,2,2,2] (.tuple #[.agg (vc ((onext S k).1)),.agg (vc ((onext S k).2.1)),.bool ((onext S k).2.2.1),iw ((onext S k).2.2.2)]) ?_
    refine hp_ 7 [2,2,2,2,2] (.agg (vc ((onext S k).1))) ?_;refine hp_ 8 [2,2,2,2,2] (.agg (vc ((onext S k).2.1))) ?_;refine hp_ 9 [2,2,2,2,2] (.bool ((onext S k).2.2.1)) ?_;refine hp_ 10 [2,2,2,2,2] (iw ((onext S k).2.2.2)) ?_;refine h_stepS 12 ?_;refine s_alloc (.agg zc) zc (fun g57=>?_);refine nH [3,3,3,3,3]<|h_stepS 13 ?_
    refine s_store 2 (vc ((onext S k).1)) ?_;refine nH [3,3,3,3,3]<|h_stepS 14 ?_
    refine s_store 0 (vc ((onext S k).2.1)) ?_;refine nH [3,3,3,3,3]<|hp_ 15 [3,3,3,3,3] (.bool ((onext S k).2.2.1)) ?_
    refine hp_ 16 [3,3,3,3,3] (iw ((onext S k).2.2.2)) ?_;refine h_doneS ?_;exact xcut (g56,g57) (rr [2,0,1,1,0,0,0,0] [])
   refine s_alloc (.agg zc) zc (fun g58=>?_);refine nH [2,2,3,3,3]<|h_stepS 5 ?_
   refine sC [4] (omnext_s (S:=S) ol k) ?_;refine nH [3,3,3,3,3]<|hp_ 6 [3,3,3,3,3] (.tuple #[.agg (vc ((onext S k).1)),.agg (vc ((onext S k).2.1)),.bool ((onext S k).2.2.1),iw ((onext S k).2.2.2)]) ?_
   refine hp_ 7 [3,3,3,3,3] (.agg (vc ((onext S k).1))) ?_;refine hp_ 8 [3,3,3,3,3] (.agg (vc ((onext S k).2.1))) ?_;refine hp_ 9 [3,3,3,3,3] (.bool ((onext S k).2.2.1)) ?_;refine hp_ 10 [3,3,3,3,3] (iw ((onext S k).2.2.2)) ?_;refine h_stepS 13 ?_;refine s_store 2 (vc ((onext S k).1)) ?_;refine nH [3,3,3,3,3]<|h_stepS 14 ?_
   refine s_store 1 (vc ((onext S k).2.1)) ?_;refine nH [3,3,3,3,3]<|hp_ 15 [3,3,3,3,3] (.bool ((onext S k).2.2.1)) ?_
   refine hp_ 16 [3,3,3,3,3] (iw ((onext S k).2.2.2)) ?_;refine h_doneS ?_;exact xcut (g56,g58) (rr [2,1,1,1,0,0,0,0] [])
  refine s_alloc (.agg zc) zc (fun g59=>?_);refine nH [1,1,2,2,2]<|h_stepS2 5 11 ?_ ?_
  .refine sC [3] (omnext_s (S:=S) ol k) ?_;refine nH [2,2,2,2,2]<|hp_ 6 [2,2,2,2,2] (.tuple #[.agg (vc ((onext S k).1)),.agg (vc ((onext S k).2.1)),.bool ((onext S k).2.2.1),iw ((onext S k).2.2.2)]) ?_
   refine hp_ 7 [2,2,2,2,2] (.agg (vc ((onext S k).1))) ?_;refine hp_ 8 [2,2,2,2,2] (.agg (vc ((onext S k).2.1))) ?_;refine hp_ 9 [2,2,2,2,2] (.bool ((onext S k).2.2.1)) ?_;refine hp_ 10 [2,2,2,2,2] (iw ((onext S k).2.2.2)) ?_;refine h_stepS 11 ?_;refine s_alloc (.agg zc) zc (fun g60=>?_);refine nH [3,3,3,3,3]<|h_stepS 13 ?_
   refine s_store 0 (vc ((onext S k).1)) ?_;refine nH [3,3,3,3,3]<|h_stepS 14 ?_
   refine s_store 2 (vc ((onext S k).2.1)) ?_;refine nH [3,3,3,3,3]<|hp_ 15 [3,3,3,3,3] (.bool ((onext S k).2.2.1)) ?_
   refine hp_ 16 [3,3,3,3,3] (iw ((onext S k).2.2.2)) ?_;refine h_doneS ?_;exact xcut (g60,g59) (rr [0,1,1,1,0,0,0,0] [])
  refine s_alloc (.agg zc) zc (fun g61=>?_);refine nH [2,2,3,3,3]<|h_stepS 5 ?_
  refine sC [4] (omnext_s (S:=S) ol k) ?_;refine nH [3,3,3,3,3]<|hp_ 6 [3,3,3,3,3] (.tuple #[.agg (vc ((onext S k).1)),.agg (vc ((onext S k).2.1)),.bool ((onext S k).2.2.1),iw ((onext S k).2.2.2)]) ?_
  refine hp_ 7 [3,3,3,3,3] (.agg (vc ((onext S k).1))) ?_;refine hp_ 8 [3,3,3,3,3] (.agg (vc ((onext S k).2.1))) ?_;refine hp_ 9 [3,3,3,3,3] (.bool ((onext S k).2.2.1)) ?_;refine hp_ 10 [3,3,3,3,3] (iw ((onext S k).2.2.2)) ?_;refine h_stepS 13 ?_;refine s_store 1 (vc ((onext S k).1)) ?_;refine nH [3,3,3,3,3]<|h_stepS 14 ?_
  refine s_store 2 (vc ((onext S k).2.1)) ?_;refine nH [3,3,3,3,3]<|hp_ 15 [3,3,3,3,3] (.bool ((onext S k).2.2.1)) ?_
  refine hp_ 16 [3,3,3,3,3] (iw ((onext S k).2.2.2)) ?_;refine h_doneS ?_;exact xcut (g61,g59) (rr [1,1,1,1,0,0,0,0] [])
 obtain⟨jb10,jb11⟩:=ix;show SK _ _ _ _ _ [(0,.pointer (some ⟨b,0,none⟩)),(4,.pointer (some ⟨g2,0,none⟩)),(5,.pointer (some ⟨g3,0,none⟩)),(8,iw k.p),(9,.bool false),(10,.pointer (some ⟨jb10,0,none⟩)),(11,.pointer (some ⟨jb11,0,none⟩)),(12,.bool ((onext S k).2.2.1)),(13,iw ((onext S k).2.2.2))] _ (blkA jb10 (vc ((onext S k).1)) 32::blkA jb11 (vc ((onext S k).2.1)) 32::blkA b #[lv50,.pointer (some ⟨r51,0,none⟩)] 123::own VlT lv50 L::omA r51 S::blkA g3 zc 32::blkA g2 zc 32::blkA g1 (vc k) 32::F);refine k_seq<|k_block<|k_sr<|sP (iw ((onext S k).2.2.2))<|sL t_cmp<|sP (.bool (decide ((onext S k).2.2.2=0)))<|s_nt<|k_cond (decide ((onext S k).2.2.2=0)) (fun c62=>?_) (fun c62=>?_)
 .have p63:=dY c62;refine k_seq<|k_held [blkA jb10 (vc ((onext S k).1)) 32,blkA jb11 (vc ((onext S k).2.1)) 32,blkA b #[lv50,pB r51 0] 123,own VlT lv50 L,blkA g1 (vc k) 32] ?_
  refine h_l 0 rfl [0,0,0,0,3] (fun _=>(t_loadA 0 (vc ((onext S k).1)))) ?_;refine h_l 1 rfl [0,0,0,0,3] (fun _=>(t_loadA 1 (vc ((onext S k).2.1)))) ?_;refine hp_ 2 [0,0,0,0,3] (.bool ((onext S k).2.2.1)) ?_;refine hp_ 3 [0,0,0,0,3] (iw ((onext S k).2.2.2)) ?_;refine h_stepS 4 ?_;refine s_store 6 (vc ((onext S k).1)) ?_;refine nH [0,0,0,0,3]<|h_stepS 5 ?_
  refine s_store 5 (vc ((onext S k).2.1)) ?_;refine nH [0,0,0,0,3]<|hp_ 6 [0,0,0,0,3] (.bool ((onext S k).2.2.1)) ?_
  refine hp_ 7 [0,0,0,0,3] (iw ((onext S k).2.2.2)) ?_;refine h_doneS ?_;refine xs_then<|k_ret<|xs_retBlock<|xs_ret<|xs_mem (fun _ h=>tb_shut (h.re [2,2,2] [])) ?_
  have hz:k≠zVl:=dF c4;have hr:¬(1≤whole k∧whole k≤((⟨L,S⟩:Tb).list.length:Int)):=by show ¬(_∧_≤(L.length:Int));omega
  have hp:tnext ⟨L,S⟩ k=onext S k:=tnext_rest hz hr (dY c62);refine xs_fin [.agg (vc ((onext S k).1)),.agg (vc ((onext S k).2.1)),.bool ((onext S k).2.2.1),iw ((onext S k).2.2.2)] (tbA b L S::F) (SI.agg 4 32 4 (SI.agg 5 32 3 (SI.tmp 6 (SI.tmp 7 SI.nil)))) (rr [0] [1,1,1,1,1]) ⟨?_,rfl⟩;rw[hp];rfl
 have p64:=dF c62;refine k_sr<|sP2 (.bool false)<|sK<|sK<|sP2 (.bool false)<|s_nt<|k_false<|k_skip<|xs_block<|xs_then<|k_sr<|sL (t_kern (.agg zc))<|sL (t_kern (.agg zc))<|s_store 6 zc ?_
 refine s_store 5 zc ?_;refine sP (.bool false)<|sP (iw 13)<|s_nt<|k_ret<|xs_mem (fun _ h=>tb_shut (h.re [2,2,2] [])) ?_
 have hz:k≠zVl:=dF c4;have hr:¬(1≤whole k∧whole k≤((⟨L,S⟩:Tb).list.length:Int)):=by show ¬(_∧_≤(L.length:Int));omega
 have hp:tnext ⟨L,S⟩ k=(zVl,zVl,false,13):=tnext_bad hz hr (dF c62) om;refine xs_fin [.agg zc,.agg zc,.bool false,iw 13] (tbA b L S::F) (SI.agg 4 32 4 (SI.agg 5 32 3 (SI.tmp 6 (SI.tmp 7 SI.nil)))) (rr [0] [1,1,1,1,1]) ⟨?_,rfl⟩;rw[hp];rfl
theorem tbsize_s{Z:Zone}{F:List Asr}{b:Nat}{L:List Vl}{S:List Slt}(hl:L.length≤100000)(hs:S.length≤100000):SF Tryz.prog 100 #[.pointer (some ⟨b,0,none⟩)] Z (tbA b L S::F) fun r Bs=>r=iw (tabSize ⟨L,S⟩)∧Bs=tbA b L S::F:=by
 refine sf_enter Tryz.func100 19 [(0,pB b 0)] (fun w0=>?_);refine k_sr<|sP (iw 0)<|s_nt<|k_seq<|k_sr<|sP (pB b 0)<|sP (.bool false)<|s_nt<|k_false<|k_st<|k_seq<|k_mem2 (fun H h=>tb_open (h.re [0] [])) (fun lv1 r2 hw=>?_)
 refine k_held [blkA b #[lv1,pB r2 0] 123,own VlT lv1 L] ?_;refine hp_ 0 [0,0] (pB b 0) ?_;refine hp_ 1 [0,0] (pB b 0) ?_;refine hp_ 2 [0,0] (pB b 0) ?_;refine h_l 3 rfl [0,0] (fun _=>(t_load 0 lv1)) ?_;refine h_l 4 rfl [0,0] (fun _=>(t_len VlT_ok Tryz.underlying37 (.own 1))) ?_;refine h_l 5 rfl [0,0] (fun _=>(t_mul 2 (L.length:Int) ol)) ?_;refine h_l 6 rfl [0,0] (fun _=>(t_add 4 (2*(L.length:Int)) ol)) ?_;refine hp_ 7 [0,0] (pB b 0) ?_;refine hp_ 8 [0,0] (pB b 0) ?_;refine hp_ 9 [0,0] (pB b 1) ?_;refine h_l 10 rfl [0,0] (fun _=>(t_load 0 (pB r2 0))) ?_;refine h_stepS 11 ?_;refine sC [2] (omslots_s (S:=S)) ?_;refine nH [1,1]<|h_l 12 rfl [1,1] (fun _=>(t_mul 4 (S.length:Int) ol)) ?_
 refine h_l 13 rfl [1,1] (fun _=>(t_add (4+(2*(L.length:Int))) (4*(S.length:Int)) ol)) ?_;refine hp_ 14 [1,1] (iw ((4+(2*(L.length:Int)))+(4*(S.length:Int)))) ?_;refine h_doneS ?_;refine xs_then<|k_ret<|xs_mem (fun _ h=>tb_shut (h.re [1,1,0] [])) ?_
 refine xs_fin [iw ((4+(2*(L.length:Int)))+(4*(S.length:Int)))] (tbA b L S::F) (SI.tmp 2 SI.nil) (rr [0] []) ⟨?_,rfl⟩;rfl
theorem tbinsert_s{Z:Zone}{F:List Asr}{b:Nat}{L:List Vl}{S:List Slt}(hti:TInv ⟨L,S⟩)(hl:L.length≤100000)(hs:S.length≤100000)(x:Int)(v:Vl):SF Tryz.prog 82 #[.pointer (some ⟨b,0,none⟩),iw x,v.v] Z (tbA b L S::F) fun r Bs=>r=iw (tinsE ⟨L,S⟩ x v)∧Bs=tbA b (tins ⟨L,S⟩ x v).list (tins ⟨L,S⟩ x v).rest::F:=by
 refine sf_enter Tryz.func82 71 [(0,pB b 0),(1,iw x),(2,.agg (vc v))] (fun w0=>?_);refine k_sr<|s_box (vc v) (fun g1=>?_)
 refine sP (iw 0)<|s_nt<|k_seq<|k_sr<|sP (pB b 0)<|sP (.bool false)<|s_nt<|k_false<|k_st<|k_sr<|sP3 (pB b 0)<|s_mem2 (fun H h=>tb_open (h.re [1] [])) (fun lv2 r3 hw=>?_)
 refine sL (t_load 0 lv2)<|sL (t_len VlT_ok Tryz.underlying37 (.own 1))<|sP (iw (L.length:Int))<|s_nt<|k_seq<|k_cut (ι:=Unit) (fun _=>True) (fun _=>[(0,pB b 0),(1,iw x),(5,pB g1 0),(7,iw (L.length:Int)),(23,.bool ((decide (x<1))||(decide (((L.length:Int)+1)<x))))]) (fun _=>blkA b #[lv2,pB r3 0] 123::own VlT lv2 L::omA r3 S::blkA g1 (vc v) 32::F) ?_ (fun _ _=>?_)
 .refine k_reg<|sP (iw x)<|sL t_cmp<|sP (.bool (decide (x<1)))<|s_fork 18 (decide (x<1)) (fun c4=>?_) (fun c4=>?_)
  .have p5:=dY c4;refine sK<|sK<|sK<|sK<|sP (.bool true)<|s_nil ?_
   exact xs_cut () trivial (sub_of rfl (rQ (rQ (rQ (rQ ⟨⟨rfl,show Value.bool true=Value.bool ((decide (x<1))||(decide (((L.length:Int)+1)<x))) by first|(simp only[c4,bls];done)|simp[c4]⟩,trivial⟩))))) (rr [0,0,0,0] [])
  have p6:=dF c4;refine sP (iw x)<|sP (iw (L.length:Int))<|sL (t_add (L.length:Int) 1 ol)<|sL t_cmp<|sP (.bool (decide (((L.length:Int)+1)<x)))<|s_nil ?_
  exact xs_cut () trivial (sub_of rfl (rQ (rQ (rQ (rQ ⟨⟨rfl,show Value.bool (decide (((L.length:Int)+1)<x))=Value.bool ((decide (x<1))||(decide (((L.length:Int)+1)<x))) by first|(simp only[c4,bls];done)|simp[c4]⟩,trivial⟩))))) (rr [0,0,0,0] [])
 refine k_cond ((decide (x<1))||(decide (((L.length:Int)+1)<x))) (fun c7=>?_) (fun c7=>?_)
 .have p8:=c7;simp only[Bool.and_eq_true,Bool.or_eq_true,Bool.and_eq_false_iff,Bool.or_eq_false_iff,Bool.not_eq_true',Bool.not_eq_false',decide_eq_true_eq,decide_eq_false_iff_not]at p8;refine k_sr<|sP (iw 6)<|s_nt<|k_ret<|xs_ret<|xs_mem (fun _ h=>tb_shut (h.re [0,0,0] [])) ?_
  have hp:=tins_range (T:=⟨L,S⟩) (v:=v) (p:=x) (by show _∨(L.length:Int)+1<x;omega);refine xs_fin [iw 6] (tbA b L S::F) (SI.tmp 6 SI.nil) (rr [0] [1]) ⟨?_,?_⟩
  .rw [hp.2];try rfl
  rw[hp.1]
 obtain⟨c9,c10⟩:=or_f c7;have p11:=dF c9;have p12:=dF c10;refine k_st<|k_seq<|k_sr<|sL (t_loadA 3 (vc v))<|sV (fun _ h=>valid_s v)<|sP (.bool (!(validB v)))<|s_nt<|k_cond (!(validB v)) (fun c13=>?_) (fun c13=>?_)
 .have c14:=not_t c13;refine k_sr<|sP (iw 2)<|s_nt<|k_ret<|xs_ret<|xs_mem (fun _ h=>tb_shut (h.re [0,0,0] [])) ?_
  have hp:=tins_bad (T:=⟨L,S⟩) (v:=v) (p:=x) (by show ¬(_∨(L.length:Int)+1<x);omega) c14;refine xs_fin [iw 2] (tbA b L S::F) (SI.tmp 6 SI.nil) (rr [0] [1]) ⟨?_,?_⟩
  .rw [hp.2];try rfl
  rw[hp.1]
 have c15:=not_f c13;refine k_st<|k_seq<|k_sr<|sP (iw x)<|sP (iw (L.length:Int))<|sL (t_add (L.length:Int) 1 ol)<|sL t_cmp<|s_nt<|k_cond (decide (x=((L.length:Int)+1))) (fun c16=>?_) (fun c16=>?_)
 .have p17:=dY c16;refine k_seq<|k_mem (fun _ h=>tb_shut (h.re [0,0,0] [])) ?_
  refine k_held [blkA g1 (vc v) 32] ?_;refine hp_ 0 [1] (pB b 0) ?_;refine hp_ 1 [1] (iw x) ?_;refine h_l 3 rfl [1] (fun _=>(t_loadA 0 (vc v))) ?_;refine h_stepS 2 ?_;refine sV (fun _ h=>ofint_s x)<|nH [1]<|h_stepS 4 ?_
  refine sC [0] (tbset_s (L:=L) (S:=S) hti ol ol (ofI x) v) ?_;refine nH [1]<|hp_ 5 [1] (iw (tsetE (ofI x) v)) ?_
  refine h_doneS ?_;refine xs_then<|k_ret<|xs_ret ?_
  have hp:=tins_end (T:=⟨L,S⟩) (v:=v) (p:=x) (by show _=(L.length:Int)+1;omega) c15;refine xs_fin [iw (tsetE (ofI x) v)] (tbA b ((tset ⟨L,S⟩ (ofI x) v).list) ((tset ⟨L,S⟩ (ofI x) v).rest)::F) (SI.tmp 6 SI.nil) (rr [0] [1]) ⟨?_,?_⟩
  .rw [hp.2];try rfl
  rw[hp.1]
 have p18:=dF c16;refine k_st<|k_sr<|sP3 (pB b 0)<|sL (t_load 0 lv2)<|sP (iw (L.length:Int))<|sL (t_sub (L.length:Int) 1 ol)<|sL (t_index VlT_ok Tryz.underlying37 (.own 1) ((L.length:Int)-1) (L.length-1) om ol om) ?_
 obtain⟨y19,hy20⟩:∃y,L[(L.length-1)]?=some y:=⟨_,List.getElem?_eq_getElem ol⟩;refine sL (t_loadE VlT_ok (.own 1) hy20)<|s_alloc (.agg zc) zc (fun g21=>?_)
 refine s_store 0 (vc y19) ?_;refine s_nt<|k_seq<|k_draw<|sP3 (pB b 0)<|sL (t_load 1 lv2)<|sP (iw x)<|sL (t_suf VlT_ok Tryz.underlying37 (.own 2) x x.toNat om ol om)<|sP3 (pB b 0)<|sL (t_load 1 lv2)<|sP (iw x)<|sL (t_sub x 1 ol)<|sP (iw (L.length:Int))<|sL (t_sub (L.length:Int) 1 ol)<|sL (t_mid VlT_ok Tryz.underlying37 (.own 2) (x-1) ((L.length:Int)-1) ((x-1).toNat) ((L.length-1)-((x-1).toNat)) om om ol om om)<|s_copyS (L:=L) (u:=(suf VlT.size lv2 x.toNat)) 2 (0+x.toNat) (L.length-x.toNat) VlT_ok Tryz.underlying37 (Acc.pre (Acc.suf (.own 2) VlT_ok ((x-1).toNat) ol) VlT_ok ((L.length-1)-((x-1).toNat)) ol) (fun _ h=>(Sub.suf (Sub.self h) ol)) ol ?_
 obtain⟨L22,hL23⟩:∃z_,z_=(L.take (0+x.toNat)++(((L.drop ((x-1).toNat)).take ((L.length-1)-((x-1).toNat))).take (L.length-x.toNat)++L.drop ((0+x.toNat)+min ((L.drop ((x-1).toNat)).take ((L.length-1)-((x-1).toNat))).length (L.length-x.toNat)))):=⟨_,rfl⟩;rw[←hL23];have ll24:L22.length=L.length:=by rw[hL23];first|((try simp only[lnm]);omega)|simp only[lnm]
 refine s_nil<|x_dynS (fun _ h=>by kernel_rfl) ?_
 refine xs_then<|k_seq<|k_draw<|sP3 (pB b 0)<|sL (t_load 1 lv2)<|sP (iw x)<|sL (t_sub x 1 ol)<|sL (t_loadA 4 (vc v))<|sL (t_index VlT_ok Tryz.underlying37 (.own 2) (x-1) ((x-1).toNat) om ol om) ?_
 obtain⟨y25,hy26⟩:∃y,L22[(x-1).toNat]?=some y:=⟨_,List.getElem?_eq_getElem ol⟩;refine s_storeE 2 0 v VlT_ok hy26 ?_;obtain⟨L27,hL28⟩:∃z_,z_=(L22.set ((x-1).toNat) v):=⟨_,rfl⟩;rw[←hL28];have ll29:L27.length=L22.length:=by rw[hL28];first|((try simp only[lnm]);omega)|simp only[lnm]
 refine s_nil<|x_dynS (fun _ h=>by kernel_rfl) ?_
 refine xs_then<|k_sr<|sP (pB b 0)<|sL (t_loadA 0 (vc y19))<|s_mem (fun _ h=>tb_shut (h.re [1,1,1] [])) ?_
 refine sC [0] (tbadd_s (L:=L27) (S:=S) ol ol y19) ?_;refine s_nr<|sP (iw 0)<|s_nt<|k_ret ?_
 have hx1:x.toNat=(x-1).toNat+1:=by omega
 have hp:=tins_mid (T:=⟨L,S⟩) (v:=v) (p:=x) om (by show _≤(L.length:Int);omega) c15;have hA:tinsL L (x-1).toNat v=L27:=by rw[hL28,hL23];exact (ins_copy v om).symm.trans (by rw[hx1];simp only[Nat.zero_add])
 have hB:lastV L=y19:=by have:=lastV_some (L:=L) om;rw[hy20]at this;injection this with e;exact e.symm
 have hC:(⟨L,S⟩:Tb).list=L:=rfl;rw[show (⟨L,S⟩:Tb).list=L from rfl,show (⟨L,S⟩:Tb).rest=S from rfl,hA,hB]at hp;refine xs_fin [iw 0] (tbA b ((tadd ⟨L27,S⟩ y19).list) ((tadd ⟨L27,S⟩ y19).rest)::F) (SI.tmp 6 SI.nil) (rr [0] [1,1]) ⟨?_,?_⟩
 .rw [hp.2];try rfl
 rw[hp.1]
theorem tbremove_s{Z:Zone}{F:List Asr}{b:Nat}{L:List Vl}{S:List Slt}(hl:L.length≤100000)(hs:S.length≤100000)(x:Int):SF Tryz.prog 83 #[.pointer (some ⟨b,0,none⟩),iw x] Z (tbA b L S::F) fun r Bs=>r=.tuple #[(tremV ⟨L,S⟩ x).v,iw (tremE ⟨L,S⟩ x)]∧Bs=tbA b (trem ⟨L,S⟩ x).list (trem ⟨L,S⟩ x).rest::F:=by
 refine sf_enter Tryz.func83 57 [(0,pB b 0),(1,iw x)] (fun w0=>?_);refine k_sr<|s_alloc (.agg zc) zc (fun g1=>?_)
 refine sP (iw 0)<|s_nt<|k_seq<|k_sr<|sP (pB b 0)<|sP (.bool false)<|s_nt<|k_false<|k_st<|k_sr<|sP3 (pB b 0)<|s_mem2 (fun H h=>tb_open (h.re [1] [])) (fun lv2 r3 hw=>?_)
 refine sL (t_load 0 lv2)<|sL (t_len VlT_ok Tryz.underlying37 (.own 1))<|sP (iw (L.length:Int))<|s_nt<|k_seq<|k_cut (ι:=Unit) (fun _=>True) (fun _=>[(0,pB b 0),(1,iw x),(4,pB g1 0),(6,iw (L.length:Int)),(22,.bool ((decide (x<1))||(decide ((L.length:Int)<x))))]) (fun _=>blkA b #[lv2,pB r3 0] 123::own VlT lv2 L::omA r3 S::blkA g1 zc 32::F) ?_ (fun _ _=>?_)
 .refine k_reg<|sP (iw x)<|sL t_cmp<|sP (.bool (decide (x<1)))<|s_fork 18 (decide (x<1)) (fun c4=>?_) (fun c4=>?_)
  .have p5:=dY c4;refine sK<|sK<|sK<|sP (.bool true)<|s_nil ?_
   exact xs_cut () trivial (sub_of rfl (rQ (rQ (rQ (rQ ⟨⟨rfl,show Value.bool true=Value.bool ((decide (x<1))||(decide ((L.length:Int)<x))) by first|(simp only[c4,bls];done)|simp[c4]⟩,trivial⟩))))) (rr [0,0,0,0] [])
  have p6:=dF c4;refine sP (iw x)<|sP (iw (L.length:Int))<|sL t_cmp<|sP (.bool (decide ((L.length:Int)<x)))<|s_nil ?_
  exact xs_cut () trivial (sub_of rfl (rQ (rQ (rQ (rQ ⟨⟨rfl,show Value.bool (decide ((L.length:Int)<x))=Value.bool ((decide (x<1))||(decide ((L.length:Int)<x))) by first|(simp only[c4,bls];done)|simp[c4]⟩,trivial⟩))))) (rr [0,0,0,0] [])
 refine k_cond ((decide (x<1))||(decide ((L.length:Int)<x))) (fun c7=>?_) (fun c7=>?_)
 .have p8:=c7;simp only[Bool.and_eq_true,Bool.or_eq_true,Bool.and_eq_false_iff,Bool.or_eq_false_iff,Bool.not_eq_true',Bool.not_eq_false',decide_eq_true_eq,decide_eq_false_iff_not]at p8;refine k_sr<|sL (t_kern (.agg zc))<|s_store 3 zc ?_
  refine sP (iw 6)<|s_nt<|k_ret<|xs_ret<|xs_mem (fun _ h=>tb_shut (h.re [0,0,0] [])) ?_
  have hp:=trem_range (T:=⟨L,S⟩) (p:=x) (by show _∨(L.length:Int)<x;omega);refine xs_fin [.agg zc,iw 6] (tbA b L S::F) (SI.agg 4 32 1 (SI.tmp 5 SI.nil)) (rr [0] [1]) ⟨?_,?_⟩
  .rw [hp.2.1,hp.2.2];try rfl
  rw[hp.1]
 obtain⟨c9,c10⟩:=or_f c7;have p11:=dF c9;have p12:=dF c10;refine k_st<|k_sr<|sP3 (pB b 0)<|sL (t_load 0 lv2)<|sP (iw x)<|sL (t_sub x 1 ol)<|sL (t_index VlT_ok Tryz.underlying37 (.own 1) (x-1) ((x-1).toNat) om ol om) ?_
 obtain⟨y13,hy14⟩:∃y,L[(x-1).toNat]?=some y:=⟨_,List.getElem?_eq_getElem ol⟩;refine sL (t_loadE VlT_ok (.own 1) hy14)<|s_alloc (.agg zc) zc (fun g15=>?_)
 refine s_store 0 (vc y13) ?_;refine s_nt<|k_seq<|k_draw<|sP3 (pB b 0)<|sL (t_load 1 lv2)<|sP (iw x)<|sL (t_sub x 1 ol)<|sL (t_suf VlT_ok Tryz.underlying37 (.own 2) (x-1) ((x-1).toNat) om ol om)<|sP3 (pB b 0)<|sL (t_load 1 lv2)<|sP (iw x)<|sL (t_suf VlT_ok Tryz.underlying37 (.own 2) x x.toNat om ol om)<|s_copyS (L:=L) (u:=(suf VlT.size lv2 ((x-1).toNat))) 2 (0+((x-1).toNat)) (L.length-((x-1).toNat)) VlT_ok Tryz.underlying37 (Acc.suf (.own 2) VlT_ok x.toNat ol) (fun _ h=>(Sub.suf (Sub.self h) ol)) ol ?_
 obtain⟨L16,hL17⟩:∃z_,z_=(L.take (0+((x-1).toNat))++((L.drop x.toNat).take (L.length-((x-1).toNat))++L.drop ((0+((x-1).toNat))+min (L.drop x.toNat).length (L.length-((x-1).toNat))))):=⟨_,rfl⟩;rw[←hL17];have ll18:L16.length=L.length:=by rw[hL17];first|((try simp only[lnm]);omega)|simp only[lnm]
 refine s_nil<|x_dynS (fun _ h=>by kernel_rfl) ?_
 refine xs_then<|k_sr<|sP3 (pB b 0)<|sL (t_load 1 lv2)<|sP (iw (L.length:Int))<|sL (t_sub (L.length:Int) 1 ol)<|sL (t_kern (.agg zc))<|sL (t_index VlT_ok Tryz.underlying37 (.own 2) ((L.length:Int)-1) (L.length-1) om ol om) ?_
 obtain⟨y19,hy20⟩:∃y,L16[(L.length-1)]?=some y:=⟨_,List.getElem?_eq_getElem ol⟩;refine s_storeE 2 0 zVl VlT_ok hy20 ?_;obtain⟨L21,hL22⟩:∃z_,z_=(L16.set (L.length-1) zVl):=⟨_,rfl⟩;rw[←hL22];have ll23:L21.length=L16.length:=by rw[hL22];first|((try simp only[lnm]);omega)|simp only[lnm]
 refine s_nr<|sP (pB b 0)<|s_mem (fun _ h=>tb_shut (h.re [1,1,1] [])) ?_
 refine sC [0] (tbshrink_s (L:=L21) (S:=S) ol) ?_;refine s_nr<|sL (t_loadA 1 (vc y13))<|s_store 2 (vc y13) ?_
 refine sP (iw 0)<|s_nt<|k_ret ?_
 have hx1:x.toNat=(x-1).toNat+1:=by omega
 obtain⟨hp1,hp2,hp3⟩:=trem_mid (T:=⟨L,S⟩) (p:=x) om (by show _≤(L.length:Int);omega);have hA:L.eraseIdx (x-1).toNat++[zVl]=L21:=by rw[hL22,hL17];exact (rem_copy om).symm.trans (by rw[hx1];simp only[Nat.zero_add,Nat.zero_add])
 have hB:tremV ⟨L,S⟩ x=y13:=by have:=hp3;rw[show (⟨L,S⟩:Tb).list=L from rfl,hy14]at this;injection this with e;exact e.symm
 rw[show (⟨L,S⟩:Tb).list=L from rfl,show (⟨L,S⟩:Tb).rest=S from rfl,hA]at hp1;have hp:_∧_∧_:=⟨hp1,hp2,hB⟩;refine xs_fin [.agg (vc y13),iw 0] (tbA b (shr L21) S::F) (SI.agg 4 32 2 (SI.tmp 5 SI.nil)) (rr [0] [1,1]) ⟨?_,?_⟩
 .rw [hp.2.1,hp.2.2];try rfl
 rw[hp.1]
end Go.Proofs.YtmilekfknhglkaaGreat
end
section
set_option linter.unusedSimpArgs false
set_option linter.unusedVariables false
namespace Go.Proofs.YtmilekfknhglkaaGreat
section
variable{st st':Hst}{v k t m:Vl}{o:Hob}
theorem count_le(st:Hst):st.count≤st.objs.length:=List.countP_le_length
end
end Go.Proofs.YtmilekfknhglkaaGreat
end
section
set_option linter.unusedSimpArgs false
set_option linter.unusedVariables false
namespace Go.Proofs.YtmilekfknhglkaaGreat
def Hst.upd(st:Hst)(id:Int)(f:Hob→Hob):Hst:=match st.get id with
 | some o=>st.put id (f o)
 | none=>st
def hlenV(st:Hst)(t:Vl):Int:=match htab st t with
 | some T=>(T.list.length:Int)
 | none=>0
def hnext(st:Hst)(t k:Vl):Vl×Vl×Bool×Int:=match htab st t with
 | some T=>tnext T k
 | none=>(zVl,zVl,false,8)
def hinsE(st:Hst)(t:Vl)(p:Int)(v:Vl):Int:=match htab st t with
 | none=>8
 | some T=>if elemE v≠0 then elemE v else tinsE T p v
def hins(st:Hst)(t:Vl)(p:Int)(v:Vl):Hst:=match htab st t with
 | none=>st
 | some T=>if elemE v≠0 then st else if tinsE T p v≠0 then st else (st.setTab t.ref (tins T p v)).touch t.ref
def hremE(st:Hst)(t:Vl)(p:Int):Int:=match htab st t with
 | none=>8
 | some T=>tremE T p
def hremV(st:Hst)(t:Vl)(p:Int):Vl:=match htab st t with
 | none=>zVl
 | some T=>tremV T p
def hrem(st:Hst)(t:Vl)(p:Int):Hst:=match htab st t with
 | none=>st
 | some T=>if tremE T p≠0 then st else (st.setTab t.ref (trem T p)).touch t.ref
def hslotE(st:Hst)(v:Vl)(i:Int):Int:=match hfind st v with
 | some o=>if o.kind=8 then (if i<1∨16<i then 6 else 0) else 8
 | none=>8
def hslotV(st:Hst)(v:Vl)(i:Int):Vl:=match hfind st v with
 | some o=>if hslotE st v i=0 then (o.vals[(i-1).toNat]?).getD zVl else zVl
 | none=>zVl
def hsetSlotE(st:Hst)(v:Vl)(i:Int)(x:Vl):Int:=if hslotE st v i≠0 then hslotE st v i else elemE x
def hsetSlot(st:Hst)(v:Vl)(i:Int)(x:Vl):Hst:=if hsetSlotE st v i x≠0 then st else (st.upd v.ref fun o=>{ o with vals:=o.vals.set (i-1).toNat x }).touch v.ref
def refsE:List Vl→Int
 | []=>0
 | x::r=>if elemE x≠0 then elemE x else refsE r
def hisFT(st:Hst)(v:Vl):Bool:=match hfind st v with
 | some o=>decide (o.kind=5)||decide (o.kind=7)
 | none=>false
def hsetRefsE(st:Hst)(v:Vl)(l:List Vl):Int:=if hisFT st v=true then refsE l else 8
def hsetRefs(st:Hst)(v:Vl)(l:List Vl):Hst:=if hsetRefsE st v l≠0 then st else (st.upd v.ref fun o=>{ o with vals:=l }).touch v.ref
def htagV(st:Hst)(v:Vl):Int×Bool:=match hfind st v with
 | some o=>if o.kind=5∨o.kind=7 then (o.tag,true) else (0,false)
 | none=>(0,false)
def hnameV(st:Hst)(v:Vl):ByteArray×Bool:=match hfind st v with
 | some o=>if o.kind=8 then (o.name,true) else (ByteArray.empty,false)
 | none=>(ByteArray.empty,false)
def halive(st:Hst)(id:Int):Bool:=(st.get id).isSome
def hdropE(st:Hst)(id:Int):Int:=if halive st id=true then 0 else 19
def hdrop(st:Hst)(id:Int):Hst:=if halive st id=true then { st with objs:=st.objs.set (id.toNat-1) none } else st
def hids(st:Hst):List Int:=((List.range st.objs.length).map fun i:Nat=>(i:Int)+1).filter fun id=>halive st id
def htchd(st:Hst):List Int:=(hids st).filter fun id=>(st.tch[id.toNat-1]?).getD false
def huntch(st:Hst):Hst:={ st with tch:=st.tch.map fun _=>false }
def idn(v:Vl):Int:=if isRef v.kind=true then v.ref else 0
def refsOf(o:Hob):List Int:=((o.mt::o.vals).map idn).filter fun i=>decide (i≠0)
def obSize(o:Hob):Int:=if o.kind=4 then 8+tabSize o.tab else if o.kind=5 then 8+(o.vals.length:Int) else if o.kind=7 then 16+(o.vals.length:Int) else 12
def hsize(st:Hst):Int:=((hids st).map fun id=>obSize (st.ob id)).sum
/-! ### What an object is, further -/
structure ObW(o:Hob):Prop where
 tw:TW o.tab
 vals:∀v∈o.vals,validB v=true
 mt:isRef o.mt.kind=true→1≤o.mt.ref
 data:o.kind=8→o.vals.length=16
def HW(st:Hst):Prop:=∀o,some o∈st.objs→ObW o
theorem HW.nil:HW hp0:=fun _ h=>by cases h
section
variable{st:Hst}{v t k x:Vl}{id p i:Int}{o o':Hob}{n:Nat}{l:List Vl}
theorem HW.put(h:HW st)(ho:ObW o'):HW (st.put id o'):=fun x hx=>by
 rcases mem_put hx with hx|rfl
 .exact h x hx
 exact ho
theorem HW.touch(h:HW st)(id:Int):HW (st.touch id):=h
theorem HW.of(h:HW st)(hg:st.get id=some o):ObW o:=h o (get_mem hg).1
theorem HW.make(h:HW st)(ho:ObW o):HW (hmake st o):=by
 unfold hmake;split
 .exact h
 intro x hx;rcases List.mem_append.1 hx with hx|hx
 .exact h x hx
 rw[List.mem_singleton]at hx;injection hx with hx;rw[hx];exact ho
theorem newO_w(kind tag:Int)(name:ByteArray){vals:List Vl}(hv:∀v∈vals,validB v=true)(h8:kind=8→vals.length=16):ObW (newO kind tag name vals):=⟨TW.nil,hv,fun h=>(by cases h),h8⟩
theorem data_w(name:ByteArray):ObW (newO 8 0 name (List.replicate 16 zVl)):=newO_w _ _ _ (fun v hv=>by rw[(List.mem_replicate.1 hv).2];decide) fun _=>by simp
theorem HW.set(hi:HInv st)(h:HW st)(t k v:Vl):HW (hset st t k v):=by
 rcases hset_cases st t k v with ⟨_,e,_⟩|⟨_,_,_,e,_⟩|⟨_,_,_,_,e,_⟩|⟨T,o,h1,h2,h3,hv,h4,h5,h6,h7,e,_⟩
 .rw [e];exact h
 .rw [e];exact h
 .rw [e];exact h
 rw[e];have ho:=h.of h4;have hob:=hi.obs o (get_mem h4).1;refine HW.touch (HW.put h (o':={ o with tab:=tset T k v }) ⟨?_,ho.vals,ho.mt,ho.data⟩) _;rw[←h7];exact tset_tw hob.tab ho.tw k v
theorem tadd_tw'{T:Tb}(h:TInv T)(hw:TW T){L:List Vl}(hL:L.length=T.list.length)(v:Vl):TW (tadd ⟨L,T.rest⟩ v):=by
 intro s hs;have hle:=grow_le T.rest (T.rest.length+2) L v;show inB _ (grow T.rest (T.rest.length+2) L v).length=false;have hs':s∈live (if staleB T.rest L.length (grow T.rest (T.rest.length+2) L v).length=true then purge T.rest (grow T.rest (T.rest.length+2) L v).length else T.rest):=hs;split at hs'
 .have h1:=(live_mem.1 hs').1;unfold purge at h1;have:=(List.mem_filter.1 h1).2;simpa using this
 rename_i hst
 have h1:=hw s hs';refine inB_false fun hb=>?_
 have h2:¬(1≤whole s.key∧whole s.key≤(T.list.length:Int)):=fun hc=>by rw[inB_iff.2 hc]at h1;cases h1
 exact stale_no (by simpa using hst) (live_mem.1 hs').1 (by omega) hb.2
theorem tins_tw{T:Tb}(h:TInv T)(hw:TW T)(p:Int)(v:Vl):TW (tins T p v):=by
 unfold tins;split
 .exact hw
 split
 .exact hw
 split
 .exact tset_tw h hw _ _
 exact tadd_tw' h hw (tinsL_len (by omega)) _
theorem trem_tw{T:Tb}(hw:TW T)(p:Int):TW (trem T p):=by
 unfold trem;split
 .exact hw
 intro s hs;have h1:=hw s hs;have h2:=shr_len (T.list.eraseIdx (p-1).toNat++[zVl]);rw[List.length_append,List.length_singleton,List.length_eraseIdx_of_lt (by omega)]at h2;refine inB_false fun hb=>?_
 have hb2:whole s.key≤((shr (T.list.eraseIdx (p-1).toNat++[zVl])).length:Int):=hb.2;rw[inB_iff.2 ⟨hb.1,by omega⟩]at h1;cases h1
/-! ### Inserting and removing -/
theorem hins_cases(st:Hst)(t:Vl)(p:Int)(v:Vl):(hins st t p v=st∧hinsE st t p v≠0)∨∃o,htab st t=some o.tab∧st.get t.ref=some o∧o.kind=4∧t.kind=4∧elemE v=0∧tinsE o.tab p v=0∧hins st t p v=(st.put t.ref { o with tab:=tins o.tab p v }).touch t.ref∧hinsE st t p v=0:=by
 cases hT:htab st t with
 | none=>exact .inl ⟨by unfold hins;rw[hT],by unfold hinsE;rw[hT];exact (by decide:(8:Int)≠0)⟩
 | some T=>
  obtain⟨o,h1,h2,h3,h4,h5⟩:=htab_some hT;subst h5;have eE:hinsE st t p v=if elemE v≠0 then elemE v else tinsE o.tab p v:=by unfold hinsE;rw[hT]
  have eS:hins st t p v=if elemE v≠0 then st else if tinsE o.tab p v≠0 then st else (st.setTab t.ref (tins o.tab p v)).touch t.ref:=by unfold hins;rw[hT]
  rw[eE,eS];by_cases he:elemE v=0
  .have he':¬elemE v≠0:=fun h=>h he
   rw[if_neg he',if_neg he'];by_cases ht:tinsE o.tab p v=0
   .refine .inr ⟨o,rfl,h2,h3,h4,he,ht,?_,ht⟩;rw[if_neg (show ¬tinsE o.tab p v≠0 from fun h=>h ht)];unfold Hst.setTab;rw[h2]
   exact .inl ⟨by rw[if_pos ht],ht⟩
  exact .inl ⟨by rw[if_pos he],by rw[if_pos he];exact he⟩
theorem hrem_cases(st:Hst)(t:Vl)(p:Int):(hrem st t p=st∧hremE st t p≠0)∨∃o,htab st t=some o.tab∧st.get t.ref=some o∧o.kind=4∧t.kind=4∧tremE o.tab p=0∧hrem st t p=(st.put t.ref { o with tab:=trem o.tab p }).touch t.ref∧hremE st t p=0:=by
 cases hT:htab st t with
 | none=>exact .inl ⟨by unfold hrem;rw[hT],by unfold hremE;rw[hT];exact (by decide:(8:Int)≠0)⟩
 | some T=>
  obtain⟨o,h1,h2,h3,h4,h5⟩:=htab_some hT;subst h5;have eE:hremE st t p=tremE o.tab p:=by unfold hremE;rw[hT]
  have eS:hrem st t p=if tremE o.tab p≠0 then st else (st.setTab t.ref (trem o.tab p)).touch t.ref:=by unfold hrem;rw[hT]
  rw[eE,eS];by_cases ht:tremE o.tab p=0
  .refine .inr ⟨o,rfl,h2,h3,h4,ht,?_,ht⟩;rw[if_neg (show ¬tremE o.tab p≠0 from fun h=>h ht)];unfold Hst.setTab;rw[h2]
  exact .inl ⟨by rw[if_pos ht],ht⟩
theorem tins_err{T:Tb}{p:Int}{v:Vl}(h:tinsE T p v≠0):tins T p v=T:=by
 unfold tinsE at h;unfold tins;split at h
 .rename_i h1;rw[if_pos h1]
 rename_i h1
 rw[if_neg h1];split at h
 .rename_i h2;rw[if_pos h2]
 rename_i h2
 rw[if_neg h2];split at h
 .rename_i h3;rw[if_pos h3];unfold tsetE at h;split at h
  .rename_i h4;exact tset_bad (.inl h4)
  first
   | exact absurd rfl h
   | (split at h;(rename_i h4;exact tset_bad (.inr h4));exact absurd rfl h)
 exact absurd rfl h
theorem trem_err{T:Tb}{p:Int}(h:tremE T p≠0):trem T p=T:=by
 unfold tremE at h;unfold trem;split at h
 .rename_i h1;rw[if_pos h1]
 exact absurd rfl h
theorem hins_none{st:Hst}{t v:Vl}{p:Int}(h:htab st t=none):hins st t p v=st∧hinsE st t p v=8:=by unfold hins hinsE;rw[h];exact⟨rfl,rfl⟩
theorem hins_elem{st:Hst}{t v:Vl}{p:Int}{T:Tb}(h:htab st t=some T)(he:elemE v≠0):hins st t p v=st∧hinsE st t p v=elemE v:=by
 unfold hins hinsE;rw[h];exact⟨if_pos he,if_pos he⟩
theorem hins_err{st:Hst}{t v:Vl}{p:Int}{T:Tb}(h:htab st t=some T)(he:elemE v=0)(ht:tinsE T p v≠0):hins st t p v=st∧hinsE st t p v=tinsE T p v:=by
 have he':¬elemE v≠0:=fun hc=>hc he
 unfold hins hinsE;rw[h];exact⟨by simp only[if_neg he',if_pos ht],if_neg he'⟩
theorem hins_ok{st:Hst}{t v:Vl}{p:Int}{o:Hob}(h:htab st t=some o.tab)(ho:st.get t.ref=some o)(he:elemE v=0)(ht:tinsE o.tab p v=0):hins st t p v=(st.put t.ref { o with tab:=tins o.tab p v }).touch t.ref∧hinsE st t p v=0:=by
 have he':¬elemE v≠0:=fun hc=>hc he
 have ht':¬tinsE o.tab p v≠0:=fun hc=>hc ht
 unfold hins hinsE Hst.setTab;rw[h,ho];exact⟨by simp only[if_neg he',if_neg ht'],by simp only[if_neg he'];exact ht⟩
theorem hrem_none{st:Hst}{t:Vl}{p:Int}(h:htab st t=none):hrem st t p=st∧hremE st t p=8∧hremV st t p=zVl:=by unfold hrem hremE hremV;rw[h];exact⟨rfl,rfl,rfl⟩
theorem hrem_err{st:Hst}{t:Vl}{p:Int}{T:Tb}(h:htab st t=some T)(ht:tremE T p≠0):hrem st t p=st∧hremE st t p=tremE T p∧hremV st t p=tremV T p:=by
 unfold hrem hremE hremV;rw[h];exact⟨if_pos ht,rfl,rfl⟩
theorem hrem_ok{st:Hst}{t:Vl}{p:Int}{o:Hob}(h:htab st t=some o.tab)(ho:st.get t.ref=some o)(ht:tremE o.tab p=0):hrem st t p=(st.put t.ref { o with tab:=trem o.tab p }).touch t.ref∧hremE st t p=0∧hremV st t p=tremV o.tab p:=by
 have ht':¬tremE o.tab p≠0:=fun hc=>hc ht
 unfold hrem hremE hremV Hst.setTab;rw[h,ho];exact⟨by simp only[if_neg ht'],ht,rfl⟩
theorem tab_sm(hi:HInv st)(h:HSm n st){T:Tb}(hg:st.get id=some o)(h1:T.rest.length≤o.tab.rest.length+1)(h2:T.list.length≤o.tab.list.length+o.tab.rest.length+1):HSm (n+1) ((st.put id { o with tab:=T }).touch id):=by
 have hm:=h.mono (Nat.le_succ n);have ho:=h.obs o (get_mem hg).1;refine⟨by show (st.objs.set _ _).length≤_;rw[List.length_set];exact hm.len,fun x hx=>?_⟩;rcases mem_put hx with hx|rfl
 .exact hm.obs x hx
 have:(n+1)*(n+1+1)=n*(n+1)+2*(n+1):=by simp only[Nat.add_mul,Nat.mul_add];omega
 exact⟨by show T.rest.length≤_;omega,by show T.list.length≤_;omega,by show o.vals.length≤_;omega⟩
theorem tab_inv(h:HInv st){T:Tb}(hg:st.get id=some o)(hT:TInv T):HInv ((st.put id { o with tab:=T }).touch id):=by
 have ho:=h.obs o (get_mem hg).1;exact touch_inv (put_inv h (o:={ o with tab:=T }) ⟨ho.kind,hT,ho.mt⟩) _
theorem tab_w(h:HW st){T:Tb}(hg:st.get id=some o)(hT:TW T):HW ((st.put id { o with tab:=T }).touch id):=by
 have ho:=h.of hg;exact HW.touch (HW.put h (o':={ o with tab:=T }) ⟨hT,ho.vals,ho.mt,ho.data⟩) _
theorem hins_inv(h:HInv st)(t:Vl)(p:Int)(v:Vl):HInv (hins st t p v):=by
 rcases hins_cases st t p v with ⟨e,_⟩|⟨o,_,hg,_,_,_,_,e,_⟩
 .rw [e];exact h
 rw[e];exact tab_inv h hg (tins_inv (h.obs o (get_mem hg).1).tab p v)
theorem hins_sm(hi:HInv st)(h:HSm n st)(t:Vl)(p:Int)(v:Vl):HSm (n+1) (hins st t p v):=by
 rcases hins_cases st t p v with ⟨e,_⟩|⟨o,_,hg,_,_,_,_,e,_⟩
 .rw [e];exact h.mono (by omega)
 rw[e];have hl:=tins_len (hi.obs o (get_mem hg).1).tab p v;exact tab_sm hi h hg hl.1 hl.2
theorem hins_w(hi:HInv st)(h:HW st)(t:Vl)(p:Int)(v:Vl):HW (hins st t p v):=by
 rcases hins_cases st t p v with ⟨e,_⟩|⟨o,_,hg,_,_,_,_,e,_⟩
 .rw [e];exact h
 rw[e];exact tab_w h hg (tins_tw (hi.obs o (get_mem hg).1).tab (h.of hg).tw p v)
theorem hrem_inv(h:HInv st)(t:Vl)(p:Int):HInv (hrem st t p):=by
 rcases hrem_cases st t p with ⟨e,_⟩|⟨o,_,hg,_,_,_,e,_⟩
 .rw [e];exact h
 rw[e];exact tab_inv h hg (trem_inv (h.obs o (get_mem hg).1).tab p)
theorem hrem_sm(hi:HInv st)(h:HSm n st)(t:Vl)(p:Int):HSm (n+1) (hrem st t p):=by
 rcases hrem_cases st t p with ⟨e,_⟩|⟨o,_,hg,_,_,_,e,_⟩
 .rw [e];exact h.mono (by omega)
 rw[e];have hl:=trem_len (T:=o.tab) p;exact tab_sm hi h hg (by omega) (by omega)
theorem hrem_w(hi:HInv st)(h:HW st)(t:Vl)(p:Int):HW (hrem st t p):=by
 rcases hrem_cases st t p with ⟨e,_⟩|⟨o,_,hg,_,_,_,e,_⟩
 .rw [e];exact h
 rw[e];exact tab_w h hg (trem_tw (h.of hg).tw p)
/-! ### Values of objects -/
theorem upd_some{f:Hob→Hob}(hg:st.get id=some o):st.upd id f=st.put id (f o):=by unfold Hst.upd;rw[hg]
theorem vals_inv(h:HInv st)(hg:st.get id=some o)(l:List Vl):HInv ((st.put id { o with vals:=l }).touch id):=by
 have ho:=h.obs o (get_mem hg).1;exact touch_inv (put_inv h (o:={ o with vals:=l }) ⟨ho.kind,ho.tab,ho.mt⟩) _
theorem vals_sm(h:HSm n st)(hg:st.get id=some o)(hl:l.length≤n+1+20):HSm (n+1) ((st.put id { o with vals:=l }).touch id):=by
 have hm:=h.mono (Nat.le_succ n);refine⟨by show (st.objs.set _ _).length≤_;rw[List.length_set];exact hm.len,fun x hx=>?_⟩;rcases mem_put hx with hx|rfl
 .exact hm.obs x hx
 have ho:=hm.obs o (get_mem hg).1;exact⟨ho.1,ho.2.1,hl⟩
theorem vals_w(h:HW st)(hg:st.get id=some o)(hv:∀v∈l,validB v=true)(h8:o.kind=8→l.length=16):HW ((st.put id { o with vals:=l }).touch id):=by
 have ho:=h.of hg;exact HW.touch (HW.put h (o':={ o with vals:=l }) ⟨ho.tw,hv,ho.mt,h8⟩) _
theorem elemE_valid(h:elemE x=0):validB x=true:=by
 unfold elemE at h;split at h
 .cases h
 split at h
 .cases h
 rename_i hv;simpa using hv
theorem slot_cases(st:Hst)(v:Vl)(i:Int):(hslotE st v i≠0∧hslotV st v i=zVl)∨∃o,hfind st v=some o∧st.get v.ref=some o∧o.kind=8∧v.kind=8∧1≤i∧i≤16∧hslotE st v i=0∧hslotV st v i=(o.vals[(i-1).toNat]?).getD zVl:=by
 unfold hslotV;cases hf:hfind st v with
 | none=>exact .inl ⟨by unfold hslotE;rw[hf];exact (by decide:(8:Int)≠0),rfl⟩
 | some o=>
  obtain⟨h1,h2⟩:=hfind_some hf;simp only;by_cases he:hslotE st v i=0
  .rw [if_pos he];have he':=he;unfold hslotE at he';rw[hf]at he';simp only at he';split at he'
   .rename_i h8;split at he'
    .cases he'
    exact .inr ⟨o,rfl,h1,h8,by omega,by omega,by omega,he,rfl⟩
   cases he'
  rw[if_neg he];exact .inl ⟨he,rfl⟩
theorem setSlot_cases(st:Hst)(v:Vl)(i:Int)(x:Vl):(hsetSlot st v i x=st∧hsetSlotE st v i x≠0)∨∃o,hfind st v=some o∧st.get v.ref=some o∧o.kind=8∧v.kind=8∧1≤i∧i≤16∧hslotE st v i=0∧elemE x=0∧hsetSlot st v i x=(st.put v.ref { o with vals:=o.vals.set (i-1).toNat x }).touch v.ref∧hsetSlotE st v i x=0:=by
 unfold hsetSlot;by_cases h:hsetSlotE st v i x=0
 .rw [if_neg (fun hc=>hc h)];have h':=h;unfold hsetSlotE at h';rcases slot_cases st v i with ⟨h1,_⟩|⟨o,h1,h2,h3,h4,h5,h6,h7,_⟩
  .rw [if_pos h1]at h';exact absurd h' h1
  rw[if_neg (fun hc=>hc h7)]at h';exact .inr ⟨o,h1,h2,h3,h4,h5,h6,h7,h',by rw[upd_some h2],h⟩
 rw[if_pos h];exact .inl ⟨rfl,h⟩
theorem setRefs_cases(st:Hst)(v:Vl)(l:List Vl):(hsetRefs st v l=st∧hsetRefsE st v l≠0)∨∃o,hfind st v=some o∧st.get v.ref=some o∧(o.kind=5∨o.kind=7)∧o.kind=v.kind∧refsE l=0∧hsetRefs st v l=(st.put v.ref { o with vals:=l }).touch v.ref∧hsetRefsE st v l=0:=by
 unfold hsetRefs;by_cases h:hsetRefsE st v l=0
 .rw [if_neg (fun hc=>hc h)];have h':=h;unfold hsetRefsE at h';split at h'
  .rename_i hb;unfold hisFT at hb;cases hf:hfind st v with
   | none=>rw[hf]at hb;cases hb
   | some o=>
    rw[hf]at hb;obtain⟨h1,h2⟩:=hfind_some hf;simp only[Bool.or_eq_true,decide_eq_true_eq]at hb;exact .inr ⟨o,rfl,h1,hb,h2,h',by rw[upd_some h1],h⟩
  cases h'
 rw[if_pos h];exact .inl ⟨rfl,h⟩
theorem refs_valid:∀{l:List Vl},refsE l=0→∀v∈l,validB v=true
 | [],_,_,h=>by cases h
 | x::r,h,v,hv=>by
  rw[refsE]at h;split at h
  .rename_i hx;exact absurd h hx
  rename_i hx
  rcases List.mem_cons.1 hv with rfl|hv
  .exact elemE_valid (Decidable.not_not.1 hx)
  exact refs_valid h v hv
theorem setSlot_inv(h:HInv st)(v:Vl)(i:Int)(x:Vl):HInv (hsetSlot st v i x):=by
 rcases setSlot_cases st v i x with ⟨e,_⟩|⟨o,_,hg,_,_,_,_,_,_,e,_⟩
 .rw [e];exact h
 rw[e];exact vals_inv h hg _
theorem setSlot_sm(h:HSm n st)(v:Vl)(i:Int)(x:Vl):HSm (n+1) (hsetSlot st v i x):=by
 rcases setSlot_cases st v i x with ⟨e,_⟩|⟨o,_,hg,_,_,_,_,_,_,e,_⟩
 .rw [e];exact h.mono (by omega)
 rw[e];exact vals_sm h hg (by rw[List.length_set];have:=(h.obs o (get_mem hg).1).2.2;omega)
theorem setSlot_w(h:HW st)(v:Vl)(i:Int)(x:Vl):HW (hsetSlot st v i x):=by
 rcases setSlot_cases st v i x with ⟨e,_⟩|⟨o,_,hg,_,_,_,_,_,he,e,_⟩
 .rw [e];exact h
 rw[e];have ho:=h.of hg;refine vals_w h hg (fun y hy=>?_) fun h8=>by rw[List.length_set];exact ho.data h8
 rcases List.mem_or_eq_of_mem_set hy with hy|rfl
 .exact ho.vals y hy
 exact elemE_valid he
theorem setRefs_inv(h:HInv st)(v:Vl)(l:List Vl):HInv (hsetRefs st v l):=by
 rcases setRefs_cases st v l with ⟨e,_⟩|⟨o,_,hg,_,_,_,e,_⟩
 .rw [e];exact h
 rw[e];exact vals_inv h hg _
theorem setRefs_sm(h:HSm n st)(v:Vl){l:List Vl}(hl:l.length≤20):HSm (n+1) (hsetRefs st v l):=by
 rcases setRefs_cases st v l with ⟨e,_⟩|⟨o,_,hg,_,_,_,e,_⟩
 .rw [e];exact h.mono (by omega)
 rw[e];exact vals_sm h hg (by omega)
theorem setRefs_w(h:HW st)(v:Vl)(l:List Vl):HW (hsetRefs st v l):=by
 rcases setRefs_cases st v l with ⟨e,_⟩|⟨o,_,hg,hk,_,hr,e,_⟩
 .rw [e];exact h
 rw[e];exact vals_w h hg (refs_valid hr) fun h8=>by omega
theorem setMeta_w(h:HW st)(v m:Vl):HW (hsetMeta st v m):=by
 rcases hsetMeta_cases st v m with ⟨e,_⟩|⟨o,h1,_,h2,e,_,hb⟩
 .rw [e];exact h
 rw[e];have ho:=h.of h1;refine HW.touch (HW.put h (o':={ o with mt:=m }) ⟨ho.tw,ho.vals,fun hr=>?_,ho.data⟩) _;have hm:m=zVl∨(htab st m).isSome=true:=by
  unfold hmetaOk at hb;cases hf:hfind st v with
  | none=>rw[hf]at hb;cases hb
  | some x=>
   rw[hf]at hb;simp only[Bool.and_eq_true,Bool.or_eq_true,decide_eq_true_eq]at hb;exact hb.2
 rcases hm with rfl|hm
 .cases hr
 cases hT:htab st m with
 | none=>rw[hT]at hm;cases hm
 | some T=>
  obtain⟨x,_,hx,_⟩:=htab_some hT;exact (get_mem hx).2.1
/-! ### Dropping -/
theorem drop_cases(st:Hst)(id:Int):(hdrop st id=st∧hdropE st id=19∧st.get id=none)∨∃o,st.get id=some o∧hdropE st id=0∧hdrop st id={ st with objs:=st.objs.set (id.toNat-1) none }:=by
 unfold hdrop hdropE halive;cases hg:st.get id with
 | none=>exact .inl ⟨rfl,rfl,rfl⟩
 | some o=>exact .inr ⟨o,rfl,rfl,rfl⟩
theorem get_drop(st:Hst)(id id':Int):(hdrop st id).get id'=if id'=id then none else st.get id':=by
 rcases drop_cases st id with ⟨e,_,hn⟩|⟨o,hg,_,e⟩
 .rw [e];by_cases h:id'=id
  .rw [if_pos h,h,hn]
  rw[if_neg h]
 obtain⟨_,h1,h2,h3⟩:=get_mem hg;rw[e];unfold Hst.get;by_cases h:id'=id
 .subst h;rw[if_pos h1,if_pos rfl,List.getElem?_set_self (by omega)];rfl
 rw[if_neg h];by_cases hp:1≤id'
 .rw [if_pos hp,if_pos hp,List.getElem?_set_ne (by omega)]
 rw[if_neg hp,if_neg hp]
theorem mem_drop(h:some o∈(hdrop st id).objs):some o∈st.objs:=by
 rcases drop_cases st id with ⟨e,_⟩|⟨_,_,_,e⟩
 .rw [e]at h;exact h
 rw[e]at h;rcases List.mem_or_eq_of_mem_set h with h|h
 .exact h
 cases h
theorem drop_len:(hdrop st id).objs.length=st.objs.length∧(hdrop st id).tch=st.tch:=by
 rcases drop_cases st id with ⟨e,_⟩|⟨_,_,_,e⟩
 .rw [e];exact⟨rfl,rfl⟩
 rw[e];exact⟨by simp,rfl⟩
theorem drop_inv(h:HInv st)(id:Int):HInv (hdrop st id):=⟨fun o ho=>h.obs o (mem_drop ho),by rw[drop_len.1,drop_len.2];exact h.tch⟩
theorem drop_sm(h:HSm n st)(id:Int):HSm (n+1) (hdrop st id):=⟨by rw[drop_len.1];have:=h.len;omega,fun o ho=>(h.mono (Nat.le_succ n)).obs o (mem_drop ho)⟩
theorem drop_w(h:HW st)(id:Int):HW (hdrop st id):=fun o ho=>h o (mem_drop ho)
theorem untch_inv(h:HInv st):HInv (huntch st):=⟨h.obs,by show (st.tch.map _).length=_;rw[List.length_map];exact h.tch⟩
theorem untch_sm(h:HSm n st):HSm n (huntch st):=⟨h.len,h.obs⟩
theorem untch_w(h:HW st):HW (huntch st):=h
end
/-! ### Answers, by cases -/
section
variable{st:Hst}{v x:Vl}{i:Int}{o:Hob}{l:List Vl}
theorem slot_err(h:hslotE st v i≠0):hslotV st v i=zVl:=by
 rcases slot_cases st v i with ⟨_,e⟩|⟨_,_,_,_,_,_,_,e,_⟩
 .exact e
 exact absurd e h
theorem slot_val(hf:hfind st v=some o)(h:hslotE st v i=0){y:Vl}(hy:o.vals[(i-1).toNat]?=some y):hslotV st v i=y:=by
 unfold hslotV;rw[hf];simp only[h,if_true,hy];rfl
theorem setSlot_err(h:hslotE st v i≠0):hsetSlot st v i x=st∧hsetSlotE st v i x=hslotE st v i:=by
 have e:hsetSlotE st v i x=hslotE st v i:=by unfold hsetSlotE;rw[if_pos h]
 exact⟨by unfold hsetSlot;rw[e,if_pos h],e⟩
theorem setSlot_elem(h:hslotE st v i=0)(he:elemE x≠0):hsetSlot st v i x=st∧hsetSlotE st v i x=elemE x:=by
 have e:hsetSlotE st v i x=elemE x:=by unfold hsetSlotE;rw[if_neg (fun hc=>hc h)]
 exact⟨by unfold hsetSlot;rw[e,if_pos he],e⟩
theorem setSlot_ok(hg:st.get v.ref=some o)(h:hslotE st v i=0)(he:elemE x=0):hsetSlot st v i x=(st.put v.ref { o with vals:=o.vals.set (i-1).toNat x }).touch v.ref∧hsetSlotE st v i x=0:=by
 have e:hsetSlotE st v i x=0:=by unfold hsetSlotE;rw[if_neg (fun hc=>hc h)];exact he
 exact⟨by unfold hsetSlot;rw[e,if_neg (fun hc=>hc rfl),upd_some hg],e⟩
theorem setRefs_type(h:hisFT st v=false):hsetRefs st v l=st∧hsetRefsE st v l=8:=by
 have e:hsetRefsE st v l=8:=by unfold hsetRefsE;rw[h];rfl
 exact⟨by unfold hsetRefs;rw[e];rfl,e⟩
theorem setRefs_elem(h:hisFT st v=true)(he:refsE l≠0):hsetRefs st v l=st∧hsetRefsE st v l=refsE l:=by
 have e:hsetRefsE st v l=refsE l:=by unfold hsetRefsE;rw[h];rfl
 exact⟨by unfold hsetRefs;rw[e,if_pos he],e⟩
theorem setRefs_ok(hg:st.get v.ref=some o)(h:hisFT st v=true)(he:refsE l=0):hsetRefs st v l=(st.put v.ref { o with vals:=l }).touch v.ref∧hsetRefsE st v l=0:=by
 have e:hsetRefsE st v l=0:=by unfold hsetRefsE;rw[h];exact he
 exact⟨by unfold hsetRefs;rw[e,if_neg (fun hc=>hc rfl),upd_some hg],e⟩
theorem refs_step{i:Nat}{y:Vl}(h:refsE l=refsE (l.drop i))(hy:l[i]?=some y):(elemE y≠0→refsE l=elemE y)∧(elemE y=0→refsE l=refsE (l.drop (i+1))):=by
 obtain⟨hi,e⟩:=List.getElem?_eq_some_iff.1 hy;rw[List.drop_eq_getElem_cons hi,e,refsE]at h;exact⟨fun hc=>by rw[h,if_pos hc],fun hc=>by rw[h,if_neg (fun hd=>hd hc)]⟩
theorem refs_end{i:Nat}(h:refsE l=refsE (l.drop i))(hi:l.length≤i):refsE l=0:=by rw[h,List.drop_of_length_le hi];rfl
theorem isFT_none(h:hfind st v=none):hisFT st v=false:=by unfold hisFT;rw[h]
theorem isFT_some(h:hfind st v=some o):hisFT st v=(decide (o.kind=5)||decide (o.kind=7)):=by unfold hisFT;rw[h]
end
end Go.Proofs.YtmilekfknhglkaaGreat
end
section
set_option linter.unusedSimpArgs false
set_option linter.unusedVariables false
namespace Go.S
open Go.Hp Go.J Go.RowKit
open Go.Mem (Ty KTy blk aggDesc)
section
variable{P:Program}
def srt(L:List Int):List Int:=L.mergeSort fun x y=>decide (x≤y)
theorem srt_len(L:List Int):(srt L).length=L.length:=List.length_mergeSort _
theorem get_putCells(L:List Int)(arr:Array Value)(h:L.length≤arr.size):(Sort.putCells (Value.int .i64) 0 L.toArray arr).toList.take L.length=L.map fun n=>Value.int .i64 n:=by
 apply List.ext_getElem?;intro k;by_cases hk:k<L.length
 .rw [List.getElem?_take,if_pos hk,Array.getElem?_toList];unfold Sort.putCells;rw[Array.getElem?_mapIdx,Array.getElem?_eq_getElem (by omega)];simp[hk]
 rw[List.getElem?_eq_none (by simp;omega),List.getElem?_eq_none (by simp;omega)]
theorem sf_sort{f:FuncId}{e:TypeId}{Z:Zone}{F:List Asr}{v:Value}{L:List Int}(hl:L.length<4611686018427387904)
  (hs:∀(b off cap:Nat) (zs:List Int) (w:World),Sort.Holds (Value.int .i64) w b off zs.toArray→b<w.heap.size→zs.length<4611686018427387904→Calls P f #[.slice (some ⟨b,off,none⟩) zs.length cap] w fun e w'=>e=.returned (.tuple #[])∧∃n os,w'=Sort.grow (Sort.putRow (Value.int .i64) (Sort.ahead w n) b off (zs.mergeSort fun x y=>decide (x≤y)).toArray) os)
  (h0:∀(p:Option Addr) (cap:Nat) (w:World),Calls P f #[.slice p 0 cap] w fun e w'=>e=.returned (.tuple #[])∧w'=w):
  SF P f #[v] Z (own (iT e) v L::F) fun r Bs=>r=.tuple #[]∧Bs=own (iT e) v (srt L)::F:=
 sf_of (A:=own (iT e) v L) (A':=own (iT e) v (srt L)) fun H S ⟨ow,hS⟩=>by
  rcases ow with ⟨rfl,rfl⟩|⟨g,cap,arr,rfl,h1,h2,h3,h4,h5⟩
  .intro w hw;refine (h0 none 0 w).mono fun e' w' ⟨he,hw'⟩=>⟨_,he,?_,rfl,S,⟨?_,hS⟩,?_,fun k hk=>.inl hk⟩
   .subst hw';exact At.self _
   .exact .inl ⟨rfl,by simp[srt]⟩
   subst hw';rw[hw];exact Chg.refl _ _
  intro w hw;have h4':L.length≤arr.size:=by have:(iT e).size=1:=rfl;rw[this]at h4;omega
  have h5':arr.toList.take L.length=L.map fun n=>Value.int .i64 n:=by have:=h5;rw[flat_int,show (iT e).size=1 from rfl,Nat.mul_one]at this;exact this
  have hH:Sort.Holds (Value.int .i64) w g 0 L.toArray:=fun j hj=>by
   have hj':j<L.length:=by simpa using hj
   have hg:w.heap[g]?=some (.cells arr e (0,0)):=by rw[hw];exact h1
   constructor
   .have:=cell_of_row w g (0+j) arr e (0,0) hg;rw[this];have h6:=congrArg (·[j]?) h5';simp only[List.getElem?_take,if_pos hj',List.getElem?_map]at h6;rw[Array.getElem?_toList]at h6;rw[Nat.zero_add,h6];simp[hj']
   unfold World.frozen?;simp[hg]
  refine (hs g 0 cap L w hH (by rw[hw];exact lt_of_some h1) hl).mono fun e' w' ⟨he,n,os,hw'⟩=>⟨_,he,?_,rfl,S,⟨?_,hS⟩,?_,fun k hk=>.inl hk⟩
  .subst hw';exact⟨rfl,rfl,rfl,rfl⟩
  .have hg:w'.heap[g]?=some (.cells (Sort.putCells (Value.int .i64) 0 (srt L).toArray arr) e (0,0)):=by
    subst hw';have hg:w.heap[g]?=some (.cells arr e (0,0)):=by rw[hw];exact h1
    show (((w.heap.modify g (Sort.onCells (Sort.putCells (Value.int .i64) 0 (srt L).toArray)))++os)[g]?)=_;rw[Array.getElem?_append_left (by rw[Array.size_modify];exact lt_of_some hg),Array.getElem?_modify,if_pos rfl,hg];rfl
   refine .inr ⟨g,cap,_,by rw[srt_len],hg,by rw[srt_len];exact h2,h3,?_,?_⟩
   .have:(Sort.putCells (Value.int .i64) 0 (srt L).toArray arr).size=arr.size:=by simp[Sort.putCells]
    rw[this];exact h4
   rw[show (iT e).size=1 from rfl,Nat.mul_one,flat_int];exact get_putCells (srt L) arr (by rw[srt_len];exact h4')
  subst hw';rw[←hw];refine⟨?_,fun k hk hn=>?_⟩
  .show w.heap.size≤((w.heap.modify g _)++os).size;simp
  show (((w.heap.modify g (Sort.onCells (Sort.putCells (Value.int .i64) 0 (srt L).toArray)))++os)[k]?)=_;rw[Array.getElem?_append_left (by rw[Array.size_modify];exact hk),Array.getElem?_modify,if_neg];intro e1;exact hn ((hS k).2 (by rw[←e1];rfl))
end
end Go.S
end
section
set_option linter.unusedSimpArgs false
set_option linter.unusedVariables false
namespace Go.Proofs.YtmilekfknhglkaaGreat
open Go.S Go.J Go.Hp
open Go.Mem (aget aset adel apos aget_aset aget_adel)
def datV(ps:List (Int×(Nat×Nat)))(st:Hst)(v:Vl)(i:Int):Value:=if hslotE st v i=0 then fndV ps st v else .pointer none
theorem dat_cases{ps:List (Int×(Nat×Nat))}{st:Hst}(h:HA ps st)(v:Vl)(i:Int):(hslotE st v i≠0∧datV ps st v i=.pointer none)∨∃o q,hfind st v=some o∧st.get v.ref=some o∧o.kind=8∧v.kind=8∧aget ps v.ref=some q∧1≤i∧i≤16∧hslotE st v i=0∧datV ps st v i=ptrV q.1:=by
 unfold datV;rcases slot_cases st v i with ⟨h1,_⟩|⟨o,h1,h2,h3,h4,h5,h6,h7,_⟩
 .exact .inl ⟨h1,if_neg h1⟩
 rcases get_cases h v.ref with ⟨h8,_⟩|⟨o',q,h8,h9⟩
 .rw [h2]at h8;cases h8
 exact .inr ⟨o,q,h1,h2,h3,h4,h9,h5,h6,h7,by rw[if_pos h7];unfold fndV;rw[h1,h9]⟩
section
variable{ps:List (Int×(Nat×Nat))}{st:Hst}{id:Int}{o:Hob}{tm:List (Int×Bool)}
theorem countP_unset{α:Type}{p:α→Bool}:∀(l:List α) {i:Nat}{x y:α},l[i]?=some x→p x=true→p y=false→(l.set i y).countP p+1=l.countP p
 | [],_,_,_,h,_,_=>by cases h
 | a::r,0,x,y,h,e,f=>by
  simp only[List.getElem?_cons_zero,Option.some.injEq]at h;subst h;simp[List.countP_cons,e,f]
 | a::r,i+1,x,y,h,e,f=>by
  simp only[List.getElem?_cons_succ]at h;have:=countP_unset r h e f;simp only[List.set_cons_succ,List.countP_cons];omega
theorem count_drop(hg:st.get id=some o):(hdrop st id).count+1=st.count:=by
 obtain⟨_,h1,h2,h3⟩:=get_mem hg;rcases drop_cases st id with ⟨_,_,hn⟩|⟨_,_,_,e⟩
 .rw [hg]at hn;cases hn
 rw[e];exact countP_unset st.objs h3 rfl rfl
theorem aget_some_mem{κ β:Type}[DecidableEq κ]{m:List (κ×β)}{k:κ}{u:β}(h:aget m k=some u):∃i,apos m k=some i:=by
 cases hp:apos m k with
 | none=>rw[Go.Mem.apos_none hp]at h;cases h
 | some i=>exact⟨i,rfl⟩
theorem adel_len{κ β:Type}[DecidableEq κ]{m:List (κ×β)}{k:κ}{u:β}(h:aget m k=some u):(adel m k).length+1=m.length:=by
 obtain⟨i,hp⟩:=aget_some_mem h;rw[Go.Mem.adel_pos hp];have:=(Go.Mem.apos_lt hp).1;rw[List.length_eraseIdx_of_lt this];omega
theorem HA.drop(h:HA ps st)(hnd:(ps.map Prod.fst).Nodup){q:Nat×Nat}(hq:aget ps id=some q)(hg:st.get id=some o):HA (adel ps id) (hdrop st id):=by
 refine⟨fun id'=>?_,?_⟩
 .rw [aget_adel hnd,get_drop];by_cases e:id'=id
  .subst e;simp
  rw[if_neg e,if_neg e];exact h.has id'
 have h1:=adel_len hq;have h2:=count_drop hg;have:=h.len;omega
theorem TA.drop(h:TA tm st)(id:Int):TA tm (hdrop st id):=fun id' x hx=>by
 rw[get_drop]at hx;by_cases e:id'=id
 .rw [if_pos e]at hx;cases hx
 rw[if_neg e]at hx;rw[drop_len.2];exact h id' x hx
theorem TA.untch(st:Hst):TA [] (huntch st):=fun id x hx=>by
 show (aget ([]:List (Int×Bool)) id).isSome=((st.tch.map fun _=>false)[id.toNat-1]?).getD false;rw[List.getElem?_map];cases (st.tch[id.toNat-1]?)<;>rfl
/-! ### Identities -/
theorem halive_iff:halive st id=true↔∃o,st.get id=some o:=by
 unfold halive;rw[Option.isSome_iff_exists]
theorem mem_hids:id∈hids st↔halive st id=true:=by
 unfold hids;rw[List.mem_filter,List.mem_map];constructor
 .exact fun h=>h.2
 intro h;obtain⟨o,ho⟩:=halive_iff.1 h;obtain⟨_,h1,h2,_⟩:=get_mem ho;exact⟨⟨id.toNat-1,List.mem_range.2 (by omega),by omega⟩,h⟩
theorem hids_asc(st:Hst):(hids st).Pairwise (· < ·):=by
 unfold hids;refine List.Pairwise.filter _ (List.Pairwise.map _ (fun a b hab=>?_) List.pairwise_lt_range);show (a:Int)+1<(b:Int)+1;omega
theorem srt_perm'{A B:List Int}(h:A.Perm B):srt A=srt B:=by
 unfold srt;refine List.Perm.eq_of_pairwise (le:=fun x y:Int=>decide (x≤y)) ?_ (List.pairwise_mergeSort (by simp;omega) (by simp;omega) A) (List.pairwise_mergeSort (by simp;omega) (by simp;omega) B) ((List.mergeSort_perm A _).trans (h.trans (List.mergeSort_perm B _).symm));intro a b _ _ h1 h2;simp at h1 h2;omega
theorem srt_asc'{A:List Int}(h:A.Pairwise (· < ·)):srt A=A:=List.mergeSort_of_pairwise (h.imp fun h=>by simp;omega)
theorem perm_of_mem{A B:List Int}(ha:A.Nodup)(hb:B.Nodup)(h:∀x,x∈A↔x∈B):A.Perm B:=(List.perm_ext_iff_of_nodup ha hb).2 h
theorem asc_nodup{A:List Int}(h:A.Pairwise (· < ·)):A.Nodup:=h.imp fun h=>by omega
theorem mem_keys(h:HA ps st):id∈ps.map Prod.fst↔halive st id=true:=by
 have h1:=Go.Mem.aget_none_iff ps id;unfold halive;rw[←h.has id];cases hq:aget ps id with
 | none=>simp[h1.1 hq]
 | some q=>
  simp only[Option.isSome_some,iff_true];apply Decidable.byContradiction;intro hc;rw[h1.2 hc]at hq;cases hq
theorem keys_perm(h:HA ps st)(hnd:(ps.map Prod.fst).Nodup):(ps.map Prod.fst).Perm (hids st):=perm_of_mem hnd (asc_nodup (hids_asc st)) fun x=>(mem_keys h).trans mem_hids.symm
theorem keys_srt(h:HA ps st)(hnd:(ps.map Prod.fst).Nodup):srt (ps.map Prod.fst)=hids st:=by rw[srt_perm' (keys_perm h hnd),srt_asc' (hids_asc st)]
theorem sum_perm{A B:List Int}(h:A.Perm B):A.sum=B.sum:=by
 induction h with
 | nil=>rfl
 | cons x _ ih=>simp only[List.sum_cons,ih]
 | swap x y l=>simp only[List.sum_cons];omega
 | trans _ _ ih1 ih2=>exact ih1.trans ih2
theorem size_keys(h:HA ps st)(hnd:(ps.map Prod.fst).Nodup):(ps.map fun p=>obSize (st.ob p.1)).sum=hsize st:=by
 have:=(keys_perm h hnd).map fun id=>obSize (st.ob id)
 rw[List.map_map]at this;exact sum_perm this
theorem tch_keys(h:TA tm st)(hnd:(tm.map Prod.fst).Nodup):((tm.map Prod.fst).filter fun id=>halive st id).Perm (htchd st):=by
 refine perm_of_mem (hnd.filter _) ((asc_nodup (hids_asc st)).filter _) fun x=>?_
 unfold htchd;rw[List.mem_filter,List.mem_filter,mem_hids];constructor
 .rintro ⟨h1,h2⟩;obtain⟨o,ho⟩:=halive_iff.1 h2;refine⟨h2,?_⟩;rw[←h x o ho];have:=Go.Mem.aget_none_iff tm x;cases hq:aget tm x with
  | none=>exact absurd h1 (this.1 hq)
  | some u=>rfl
 rintro⟨h1,h2⟩;obtain⟨o,ho⟩:=halive_iff.1 h1;rw[←h x o ho]at h2;refine⟨?_,h1⟩;apply Decidable.byContradiction;intro hc;rw[(Go.Mem.aget_none_iff tm x).2 hc]at h2;cases h2
theorem tch_srt(h:TA tm st)(hnd:(tm.map Prod.fst).Nodup):srt ((tm.map Prod.fst).filter fun id=>halive st id)=htchd st:=by
 rw[srt_perm' (tch_keys h hnd)];exact srt_asc' ((hids_asc st).filter _)
theorem hids_len(st:Hst):(hids st).length≤st.objs.length:=by
 unfold hids;refine Nat.le_trans (List.length_filter_le _ _) ?_;simp
end
end Go.Proofs.YtmilekfknhglkaaGreat
end
section
set_option linter.unusedSimpArgs false
set_option linter.unusedVariables false
set_option maxRecDepth 100000
set_option maxHeartbeats 2000000
namespace Go.Proofs.YtmilekfknhglkaaGreat
open Go.Hp Go.J Go.S
open Go.Mem (Ty KTy blk elemAt pre suf blk_pre blk_suf aget aset strK aggDesc)
open Go.Mem (adel apos aget_aset aget_adel)
section
variable{Z:Zone}{F:List Asr}{H:Heap}{b:Nat}{st:Hst}{ps:List (Int×(Nat×Nat))}{id:Int}{q:Nat×Nat}{o:Hob}
theorem hlenV_none{t:Vl}(h:htab st t=none):hlenV st t=0:=by unfold hlenV;rw[h]
theorem hlenV_some{t:Vl}{T:Tb}(h:htab st t=some T):hlenV st t=(T.list.length:Int):=by unfold hlenV;rw[h]
theorem hnext_none{t k:Vl}(h:htab st t=none):hnext st t k=(zVl,zVl,false,8):=by unfold hnext;rw[h]
theorem hnext_some{t k:Vl}{T:Tb}(h:htab st t=some T):hnext st t k=tnext T k:=by unfold hnext;rw[h]
theorem all_drop(hnd:(ps.map Prod.fst).Nodup)(hq:aget ps id=some q)(ho:st.get id=some o)(h:Holds Z (allP ps st::F) H):Holds Z (allP (adel ps id) (hdrop st id)::F) H:=by
 obtain⟨v,_,h⟩:=all_focus hq ho h;have e:holeP ps st id=allP (adel ps id) (hdrop st id):=by
  unfold holeP allP;congr 1;refine List.map_congr_left fun p hp=>?_
  have hne:p.1≠id:=fun e=>by
   have h1:aget (adel ps id) id=none:=by rw[aget_adel hnd,if_pos rfl]
   exact (Go.Mem.aget_none_iff (adel ps id) id).1 h1 (List.mem_map.2 ⟨p,hp,e⟩)
  show obP p.2 (st.ob p.1)=obP p.2 ((hdrop st id).ob p.1);unfold Hst.ob;rw[get_drop,if_neg hne]
 rw[←e];exact h.re [3] [1,1,1]
end
theorem hlen_s{Z:Zone}{F:List Asr}{b:Nat}{st:Hst}{n:Nat}(hsm:HSm n st)(hn:n≤300)(t:Vl):SF Tryz.prog 26 #[.pointer (some ⟨b,0,none⟩),t.v] Z (hpA b st::F) fun r Bs=>r=.tuple #[iw (hlenV st t),iw (hgetE st t)]∧Bs=hpA b st::F:=by
 refine sf_enter Tryz.func26 16 [(0,pB b 0),(1,.agg (vc t))] (fun w0=>?_);refine k_sr<|s_box (vc t) (fun g1=>?_)
 refine sP2 (iw 0)<|s_nr<|sP (pB b 0)<|sL (t_loadA 0 (vc t))<|s_memX (fun H h=>hpA_open (h.re [1] [])) (fun ps2 _=>?_)
 refine s_fact (fun H h=>hp_facts (h.re [0] [])) (fun hf3=>?_);obtain⟨hi4,ha5⟩:=hf3;refine s_call [0] (htab_s (st:=st) (ps:=ps2) t) ?_;rintro u6 _ ⟨e7,rfl⟩;rcases tb_cases ha5 t with ⟨ht8,hv9⟩|⟨o10,q11,ht12,ho13,hk14,hk15,hq16,hv17⟩
 .rw [hv9]at e7;subst e7;refine sP (.pointer none)<|s_nt<|k_seq<|k_sr<|sP (.pointer none)<|sP (.bool true)<|s_nt<|k_true<|k_sr<|sP (pB b 0)<|sV (fun _ h=>hmiss_s (F:=[]))<|sP (iw 0)<|sP (iw 8)<|s_nt<|k_ret<|xs_ret<|xs_mem (fun _ h=>hpA_shut (h.re [0] [])) ?_
  refine xs_fin [iw 0,iw 8] (hpA b st::F) (SI.tmp 4 (SI.tmp 5 SI.nil)) (rr [0] [1]) ⟨?_,?_⟩
  .rw [hlenV_none ht8,hgetE_none ht8];try rfl
  rfl
 rw[hv17]at e7;subst e7;refine sP (pB q11.2 0)<|s_nt<|k_seq<|k_sr<|sP (pB q11.2 0)<|sP (.bool false)<|s_nt<|k_false<|k_st<|k_sr<|sP (pB q11.2 0)<|s_mem (fun _ h=>tab_out hq16 ho13 hk14 (h.re [0] [])) ?_
 obtain⟨hl18,hl182,_⟩:=hsm.obs o10 (get_mem ho13).1;have hl183:n*(n+1)≤300*301:=Nat.mul_le_mul om om;refine sC [0] (tblen_s (L:=o10.tab.list) (S:=o10.tab.rest)) ?_;refine sP (iw (o10.tab.list.length:Int))<|sP (iw 0)<|s_nt<|k_ret<|xs_mem (fun _ h=>tab_back hq16 ho13 hk14 (h.re [0,0] [])) ?_
 refine xs_mem (fun _ h=>hpA_shut (h.re [0] [])) ?_;refine xs_fin [iw (o10.tab.list.length:Int),iw 0] (hpA b st::F) (SI.tmp 4 (SI.tmp 5 SI.nil)) (rr [0] [1]) ⟨?_,?_⟩
 .rw [hlenV_some ht12,hgetE_some ht12];try rfl
 rfl
theorem hnext_s{Z:Zone}{F:List Asr}{b:Nat}{st:Hst}{n:Nat}(hsm:HSm n st)(hn:n≤300)(t k:Vl):SF Tryz.prog 31 #[.pointer (some ⟨b,0,none⟩),t.v,k.v] Z (hpA b st::F) fun r Bs=>r=nextV (hnext st t k)∧Bs=hpA b st::F:=by
 refine sf_enter Tryz.func31 27 [(0,pB b 0),(1,.agg (vc t)),(2,.agg (vc k))] (fun w0=>?_);refine k_sr<|s_box (vc t) (fun g1=>?_)
 refine s_box (vc k) (fun g2=>?_);refine s_alloc (.agg zc) zc (fun g3=>?_);refine s_alloc (.agg zc) zc (fun g4=>?_);refine sP (.bool false)<|sP (iw 0)<|s_nr<|sP (pB b 0)<|sL (t_loadA 3 (vc t))<|s_memX (fun H h=>hpA_open (h.re [4] [])) (fun ps5 _=>?_)
 refine s_fact (fun H h=>hp_facts (h.re [0] [])) (fun hf6=>?_);obtain⟨hi7,ha8⟩:=hf6;refine s_call [0] (htab_s (st:=st) (ps:=ps5) t) ?_;rintro u9 _ ⟨e10,rfl⟩;rcases tb_cases ha8 t with ⟨ht11,hv12⟩|⟨o13,q14,ht15,ho16,hk17,hk18,hq19,hv20⟩
 .rw [hv12]at e10;subst e10;refine sP (.pointer none)<|s_nt<|k_seq<|k_sr<|sP (.pointer none)<|sP (.bool true)<|s_nt<|k_true<|k_sr<|sL (t_kern (.agg zc))<|sL (t_kern (.agg zc))<|sP (pB b 0)<|sV (fun _ h=>hmiss_s (F:=[]))<|s_store 2 zc ?_
  refine s_store 1 zc ?_;refine sP (.bool false)<|sP (iw 8)<|s_nt<|k_ret<|xs_ret<|xs_mem (fun _ h=>hpA_shut (h.re [0] [])) ?_
  refine xs_fin [.agg zc,.agg zc,.bool false,iw 8] (hpA b st::F) (SI.agg 6 32 2 (SI.agg 7 32 1 (SI.tmp 8 (SI.tmp 9 SI.nil)))) (rr [0] [1,1,1,1]) ⟨?_,?_⟩
  .rw [hnext_none ht11];rfl
  rfl
 rw[hv20]at e10;subst e10;refine sP (pB q14.2 0)<|s_nt<|k_seq<|k_sr<|sP (pB q14.2 0)<|sP (.bool false)<|s_nt<|k_false<|k_st<|k_sr<|sP (pB q14.2 0)<|sL (t_loadA 3 (vc k))<|s_mem (fun _ h=>tab_out hq19 ho16 hk17 (h.re [0] [])) ?_
 obtain⟨hl21,hl212,_⟩:=hsm.obs o13 (get_mem ho16).1;have hl213:n*(n+1)≤300*301:=Nat.mul_le_mul om om;refine sC [0] (tbnext_s (L:=o13.tab.list) (S:=o13.tab.rest) ol ol k) ?_;refine sP (.agg (vc ((tnext ⟨o13.tab.list,o13.tab.rest⟩ k).1)))<|sP (.agg (vc ((tnext ⟨o13.tab.list,o13.tab.rest⟩ k).2.1)))<|sP (.bool ((tnext ⟨o13.tab.list,o13.tab.rest⟩ k).2.2.1))<|sP (iw ((tnext ⟨o13.tab.list,o13.tab.rest⟩ k).2.2.2))<|s_store 3 (vc ((tnext ⟨o13.tab.list,o13.tab.rest⟩ k).1)) ?_
 refine s_store 2 (vc ((tnext ⟨o13.tab.list,o13.tab.rest⟩ k).2.1)) ?_;refine sP (.bool ((tnext ⟨o13.tab.list,o13.tab.rest⟩ k).2.2.1))<|sP (iw ((tnext ⟨o13.tab.list,o13.tab.rest⟩ k).2.2.2))<|s_nt<|k_ret<|xs_mem (fun _ h=>tab_back hq19 ho16 hk17 (h.re [0,0] [])) ?_
 refine xs_mem (fun _ h=>hpA_shut (h.re [0] [])) ?_;refine xs_fin [.agg (vc ((tnext ⟨o13.tab.list,o13.tab.rest⟩ k).1)),.agg (vc ((tnext ⟨o13.tab.list,o13.tab.rest⟩ k).2.1)),.bool ((tnext ⟨o13.tab.list,o13.tab.rest⟩ k).2.2.1),iw ((tnext ⟨o13.tab.list,o13.tab.rest⟩ k).2.2.2)] (hpA b st::F) (SI.agg 6 32 2 (SI.agg 7 32 1 (SI.tmp 8 (SI.tmp 9 SI.nil)))) (rr [0] [1,1,1,1]) ⟨?_,?_⟩
 .rw [hnext_some ht15];rfl
 rfl
theorem hinsert_s{Z:Zone}{F:List Asr}{b:Nat}{st:Hst}{n:Nat}(hsm:HSm n st)(hn:n≤300)(t:Vl)(x:Int)(v:Vl):SF Tryz.prog 32 #[.pointer (some ⟨b,0,none⟩),t.v,iw x,v.v] Z (hpA b st::F) fun r Bs=>r=iw (hinsE st t x v)∧Bs=hpA b (hins st t x v)::F:=by
 refine sf_enter Tryz.func32 30 [(0,pB b 0),(1,.agg (vc t)),(2,iw x),(3,.agg (vc v))] (fun w0=>?_);refine k_sr<|s_box (vc t) (fun g1=>?_)
 refine s_box (vc v) (fun g2=>?_);refine sP (iw 0)<|s_nr<|sP (pB b 0)<|sL (t_loadA 1 (vc t))<|s_memX (fun H h=>hpA_open (h.re [2] [])) (fun ps3 _=>?_)
 refine s_fact (fun H h=>hp_facts (h.re [0] [])) (fun hf4=>?_);obtain⟨hi5,ha6⟩:=hf4;refine s_call [0] (htab_s (st:=st) (ps:=ps3) t) ?_;rintro u7 _ ⟨e8,rfl⟩;rcases tb_cases ha6 t with ⟨ht9,hv10⟩|⟨o11,q12,ht13,ho14,hk15,hk16,hq17,hv18⟩
 .rw [hv10]at e8;subst e8;refine sP (.pointer none)<|s_nt<|k_seq<|k_sr<|sP (.pointer none)<|sP (.bool true)<|s_nt<|k_true<|k_sr<|sP (pB b 0)<|sV (fun _ h=>hmiss_s (F:=[]))<|sP (iw 8)<|s_nt<|k_ret<|xs_ret ?_
  have hp:=hins_none (p:=x) (v:=v) ht9;refine xs_mem (fun _ h=>hpA_shut (h.re [0] [])) ?_;refine xs_fin [iw 8] (hpA b st::F) (SI.tmp 8 SI.nil) (rr [0] [1,1]) ⟨?_,?_⟩
  .rw [hp.2];try rfl
  rw[hp.1];try rfl
 rw[hv18]at e8;subst e8;refine sP (pB q12.2 0)<|s_nt<|k_seq<|k_sr<|sP (pB q12.2 0)<|sP (.bool false)<|s_nt<|k_false<|k_st<|k_seq<|k_sr<|sL (t_loadA 1 (vc v))<|sV (fun _ h=>helem_s v)<|sP (iw (elemE v))<|s_nr<|sP (iw (elemE v))<|sL t_cmp<|s_nt<|k_cond (decide ((elemE v)≠0)) (fun c19=>?_) (fun c19=>?_)
 .have p20:=dY c19;refine k_sr<|sP2 (iw (elemE v))<|s_nt<|k_ret<|xs_ret ?_
  have hp:=hins_elem (p:=x) ht13 (dY c19);refine xs_mem (fun _ h=>hpA_shut (h.re [0] [])) ?_;refine xs_fin [iw (elemE v)] (hpA b st::F) (SI.tmp 8 SI.nil) (rr [0] [1,1]) ⟨?_,?_⟩
  .rw [hp.2];try rfl
  rw[hp.1];try rfl
 have p21:=Decidable.not_not.1 (dF c19);refine k_st<|k_seq<|k_held [blkA g2 (vc v) 32,blkA g1 (vc t) 32] ?_
 refine hp_ 0 [1,1] (pB b 0) ?_;refine h_l 1 rfl [1,1] (fun _=>(t_loadA 1 (vc t))) ?_;refine hp_ 2 [1,1] (pB q12.2 0) ?_;refine hp_ 3 [1,1] (iw x) ?_;refine h_l 4 rfl [1,1] (fun _=>(t_loadA 0 (vc v))) ?_;refine h_stepS 5 ?_;refine s_mem (fun _ h=>tab_out hq17 ho14 hk15 (h.re [0] [])) ?_;obtain⟨hl22,hl222,_⟩:=hsm.obs o11 (get_mem ho14).1;have hl223:n*(n+1)≤300*301:=Nat.mul_le_mul om om;refine sC [0] (tbinsert_s (L:=o11.tab.list) (S:=o11.tab.rest) (hi5.obs o11 (get_mem ho14).1).tab ol ol x v) ?_;refine nH [2,2]<|h_stepS 6 ?_
 refine s_mem (fun _ h=>tab_in (T:=(tins ⟨o11.tab.list,o11.tab.rest⟩ x v)) hq17 ho14 hk15 (tins_inv (hi5.obs o11 (get_mem ho14).1).tab _ _) (h.re [0,0] [])) ?_;have hgp:Hst.get (st.put t.ref { o11 with tab:=(tins ⟨o11.tab.list,o11.tab.rest⟩ x v) }) t.ref=some { o11 with tab:=(tins ⟨o11.tab.list,o11.tab.rest⟩ x v) }:=by rw[get_put ho14,if_pos rfl]
 by_cases hte:(tinsE ⟨o11.tab.list,o11.tab.rest⟩ x v)=0
 .refine s_call [0] (htouch_s (st:=(st.put t.ref { o11 with tab:=(tins ⟨o11.tab.list,o11.tab.rest⟩ x v) })) (ps:=ps3) t hgp (tinsE ⟨o11.tab.list,o11.tab.rest⟩ x v)) ?_;rw[if_pos hte];rintro _ _ ⟨rfl,rfl⟩;refine nH [1,1]<|hp_ 7 [1,1] (iw (tinsE ⟨o11.tab.list,o11.tab.rest⟩ x v)) ?_
  refine h_doneS ?_;refine xs_then<|k_ret ?_
  have he0:elemE v=0:=Decidable.not_not.1 (dF c19);have hp:=hins_ok ht13 ho14 he0 hte;refine xs_mem (fun _ h=>hpA_shut (h.re [0] [])) ?_;refine xs_fin [iw (tinsE ⟨o11.tab.list,o11.tab.rest⟩ x v)] (hpA b ((st.put t.ref { o11 with tab:=(tins ⟨o11.tab.list,o11.tab.rest⟩ x v) }).touch t.ref)::F) (SI.tmp 8 SI.nil) (rr [0] [1,1]) ⟨?_,?_⟩
  .rw [hp.2];exact cI hte
  rw[hp.1];try rfl
 refine s_call [0] (htouch_s (st:=(st.put t.ref { o11 with tab:=(tins ⟨o11.tab.list,o11.tab.rest⟩ x v) })) (ps:=ps3) t hgp (tinsE ⟨o11.tab.list,o11.tab.rest⟩ x v)) ?_;rw[if_neg hte];rintro _ _ ⟨rfl,rfl⟩;have hsame:(st.put t.ref { o11 with tab:=(tins ⟨o11.tab.list,o11.tab.rest⟩ x v) })=st:=by rw[tins_err hte];exact put_same ho14
 refine s_mem (Bs:=hpP b st ps3::blkA g2 (vc v) 32::blkA g1 (vc t) 32::F) (fun _ h=>by rw[hsame]at h;exact h) ?_;refine nH [1,1]<|hp_ 7 [1,1] (iw (tinsE ⟨o11.tab.list,o11.tab.rest⟩ x v)) ?_
 refine h_doneS ?_;refine xs_then<|k_ret ?_
 have he0:elemE v=0:=Decidable.not_not.1 (dF c19);have hp:=hins_err ht13 he0 hte;refine xs_mem (fun _ h=>hpA_shut (h.re [0] [])) ?_;refine xs_fin [iw (tinsE ⟨o11.tab.list,o11.tab.rest⟩ x v)] (hpA b st::F) (SI.tmp 8 SI.nil) (rr [0] [1,1]) ⟨?_,?_⟩
 .rw [hp.2];try rfl
 rw[hp.1];try rfl
theorem hremove_s{Z:Zone}{F:List Asr}{b:Nat}{st:Hst}{n:Nat}(hsm:HSm n st)(hn:n≤300)(t:Vl)(x:Int):SF Tryz.prog 33 #[.pointer (some ⟨b,0,none⟩),t.v,iw x] Z (hpA b st::F) fun r Bs=>r=pairV (hremV st t x) (hremE st t x)∧Bs=hpA b (hrem st t x)::F:=by
 refine sf_enter Tryz.func33 30 [(0,pB b 0),(1,.agg (vc t)),(2,iw x)] (fun w0=>?_);refine k_sr<|s_box (vc t) (fun g1=>?_)
 refine s_alloc (.agg zc) zc (fun g2=>?_);refine sP (iw 0)<|s_nr<|sP (pB b 0)<|sL (t_loadA 1 (vc t))<|s_memX (fun H h=>hpA_open (h.re [2] [])) (fun ps3 _=>?_)
 refine s_fact (fun H h=>hp_facts (h.re [0] [])) (fun hf4=>?_);obtain⟨hi5,ha6⟩:=hf4;refine s_call [0] (htab_s (st:=st) (ps:=ps3) t) ?_;rintro u7 _ ⟨e8,rfl⟩;rcases tb_cases ha6 t with ⟨ht9,hv10⟩|⟨o11,q12,ht13,ho14,hk15,hk16,hq17,hv18⟩
 .rw [hv10]at e8;subst e8;refine sP (.pointer none)<|s_nt<|k_seq<|k_sr<|sP (.pointer none)<|sP (.bool true)<|s_nt<|k_true<|k_sr<|sL (t_kern (.agg zc))<|sP (pB b 0)<|sV (fun _ h=>hmiss_s (F:=[]))<|s_store 1 zc ?_
  refine sP (iw 8)<|s_nt<|k_ret<|xs_ret ?_
  have hp:=hrem_none (p:=x) ht9;refine xs_mem (fun _ h=>hpA_shut (h.re [0] [])) ?_;refine xs_fin [.agg zc,iw 8] (hpA b st::F) (SI.agg 6 32 1 (SI.tmp 7 SI.nil)) (rr [0] [1,1]) ⟨?_,?_⟩
  .rw [hp.2.1,hp.2.2];try rfl
  rw[hp.1];try rfl
 rw[hv18]at e8;subst e8;refine sP (pB q12.2 0)<|s_nt<|k_seq<|k_sr<|sP (pB q12.2 0)<|sP (.bool false)<|s_nt<|k_false<|k_st<|k_sr<|sP (pB q12.2 0)<|sP (iw x)<|s_mem (fun _ h=>tab_out hq17 ho14 hk15 (h.re [0] [])) ?_
 obtain⟨hl19,hl192,_⟩:=hsm.obs o11 (get_mem ho14).1;have hl193:n*(n+1)≤300*301:=Nat.mul_le_mul om om;refine sC [0] (tbremove_s (L:=o11.tab.list) (S:=o11.tab.rest) ol ol x) ?_;refine sP (.tuple #[.agg (vc (tremV ⟨o11.tab.list,o11.tab.rest⟩ x)),iw (tremE ⟨o11.tab.list,o11.tab.rest⟩ x)])<|sP (.agg (vc (tremV ⟨o11.tab.list,o11.tab.rest⟩ x)))<|sP (iw (tremE ⟨o11.tab.list,o11.tab.rest⟩ x))<|s_alloc (.agg zc) zc (fun g20=>?_)
 refine s_store 0 (vc (tremV ⟨o11.tab.list,o11.tab.rest⟩ x)) ?_;refine sP (iw (tremE ⟨o11.tab.list,o11.tab.rest⟩ x))<|s_nt<|k_seq<|k_held [blkA g20 (vc (tremV ⟨o11.tab.list,o11.tab.rest⟩ x)) 32,blkA g1 (vc t) 32] ?_
 refine h_l 0 rfl [0,3] (fun _=>(t_loadA 0 (vc (tremV ⟨o11.tab.list,o11.tab.rest⟩ x)))) ?_;refine hp_ 1 [0,3] (pB b 0) ?_;refine h_l 2 rfl [0,3] (fun _=>(t_loadA 1 (vc t))) ?_;refine hp_ 3 [0,3] (iw (tremE ⟨o11.tab.list,o11.tab.rest⟩ x)) ?_;refine h_stepS 4 ?_;refine s_mem (fun _ h=>tab_in (T:=(trem ⟨o11.tab.list,o11.tab.rest⟩ x)) hq17 ho14 hk15 (trem_inv (hi5.obs o11 (get_mem ho14).1).tab _) (h.re [1,1] [])) ?_;have hgp:Hst.get (st.put t.ref { o11 with tab:=(trem ⟨o11.tab.list,o11.tab.rest⟩ x) }) t.ref=some { o11 with tab:=(trem ⟨o11.tab.list,o11.tab.rest⟩ x) }:=by rw[get_put ho14,if_pos rfl]
 by_cases hte:(tremE ⟨o11.tab.list,o11.tab.rest⟩ x)=0
 .refine s_call [0] (htouch_s (st:=(st.put t.ref { o11 with tab:=(trem ⟨o11.tab.list,o11.tab.rest⟩ x) })) (ps:=ps3) t hgp (tremE ⟨o11.tab.list,o11.tab.rest⟩ x)) ?_;rw[if_pos hte];rintro _ _ ⟨rfl,rfl⟩;refine nH [1,2]<|h_stepS 5 ?_
  refine s_store 2 (vc (tremV ⟨o11.tab.list,o11.tab.rest⟩ x)) ?_;refine nH [1,2]<|hp_ 6 [1,2] (iw (tremE ⟨o11.tab.list,o11.tab.rest⟩ x)) ?_
  refine h_doneS ?_;refine xs_then<|k_ret ?_
  have hp:=hrem_ok ht13 ho14 hte;refine xs_mem (fun _ h=>hpA_shut (h.re [0] [])) ?_;refine xs_fin [.agg (vc (tremV ⟨o11.tab.list,o11.tab.rest⟩ x)),iw (tremE ⟨o11.tab.list,o11.tab.rest⟩ x)] (hpA b ((st.put t.ref { o11 with tab:=(trem ⟨o11.tab.list,o11.tab.rest⟩ x) }).touch t.ref)::F) (SI.agg 6 32 2 (SI.tmp 7 SI.nil)) (rr [0] [1,1,1]) ⟨?_,?_⟩
  .rw [hp.2.1,hp.2.2];exact congrArg (fun e=>pairV _ e) hte
  rw[hp.1];try rfl
 refine s_call [0] (htouch_s (st:=(st.put t.ref { o11 with tab:=(trem ⟨o11.tab.list,o11.tab.rest⟩ x) })) (ps:=ps3) t hgp (tremE ⟨o11.tab.list,o11.tab.rest⟩ x)) ?_;rw[if_neg hte];rintro _ _ ⟨rfl,rfl⟩;have hsame:(st.put t.ref { o11 with tab:=(trem ⟨o11.tab.list,o11.tab.rest⟩ x) })=st:=by rw[trem_err hte];exact put_same ho14
 refine s_mem (Bs:=hpP b st ps3::blkA g20 (vc (tremV ⟨o11.tab.list,o11.tab.rest⟩ x)) 32::blkA g2 zc 32::blkA g1 (vc t) 32::F) (fun _ h=>by rw[hsame]at h;exact h) ?_;refine nH [1,2]<|h_stepS 5 ?_
 refine s_store 2 (vc (tremV ⟨o11.tab.list,o11.tab.rest⟩ x)) ?_;refine nH [1,2]<|hp_ 6 [1,2] (iw (tremE ⟨o11.tab.list,o11.tab.rest⟩ x)) ?_
 refine h_doneS ?_;refine xs_then<|k_ret ?_
 have hp:=hrem_err ht13 hte;refine xs_mem (fun _ h=>hpA_shut (h.re [0] [])) ?_;refine xs_fin [.agg (vc (tremV ⟨o11.tab.list,o11.tab.rest⟩ x)),iw (tremE ⟨o11.tab.list,o11.tab.rest⟩ x)] (hpA b st::F) (SI.agg 6 32 2 (SI.tmp 7 SI.nil)) (rr [0] [1,1,1]) ⟨?_,?_⟩
 .rw [hp.2.1,hp.2.2];try rfl
 rw[hp.1];try rfl
theorem htag_s{Z:Zone}{F:List Asr}{b:Nat}{st:Hst}(v:Vl):SF Tryz.prog 38 #[.pointer (some ⟨b,0,none⟩),v.v] Z (hpA b st::F) fun r Bs=>r=.tuple #[iw (htagV st v).1,.bool (htagV st v).2]∧Bs=hpA b st::F:=by
 refine sf_enter Tryz.func38 30 [(0,pB b 0),(1,.agg (vc v))] (fun w0=>?_);refine k_sr<|s_box (vc v) (fun g1=>?_)
 refine sP (iw 0)<|sP (.bool false)<|s_nr<|sP (pB b 0)<|sL (t_loadA 0 (vc v))<|s_memX (fun H h=>hpA_open (h.re [1] [])) (fun ps2 _=>?_)
 refine s_fact (fun H h=>hp_facts (h.re [0] [])) (fun hf3=>?_);obtain⟨hi4,ha5⟩:=hf3;refine s_call [0] (hfind_s (st:=st) (ps:=ps2) v) ?_;rintro u6 _ ⟨e7,rfl⟩;rcases fnd_cases ha5 v with ⟨hf8,ht9,hv10,hv11⟩|⟨o12,q13,hf14,ho15,hk16,hq17,hv18,hv19⟩
 .rw [hv10]at e7;subst e7;refine sP (.pointer none)<|s_nt<|k_seq<|k_sr<|sP (.pointer none)<|sP2 (.bool true)<|sK<|sK<|sK<|sK<|sK<|sK<|sK<|sK<|sK<|sK<|sK<|sK<|sP (.bool true)<|s_nt<|k_true<|k_sr<|sP (iw 0)<|sP (.bool false)<|s_nt<|k_ret<|xs_ret ?_
  have hp:htagV st v=(0,false):=by unfold htagV;rw[hf8]
  refine xs_mem (fun _ h=>hpA_shut (h.re [0] [])) ?_;refine xs_fin [iw 0,.bool false] (hpA b st::F) (SI.tmp 4 (SI.tmp 5 SI.nil)) (rr [0] [1]) ⟨?_,?_⟩
  .rw [hp];rfl
  rfl
 rw[hv18]at e7;subst e7;refine sP (pB q13.1 0)<|s_nt<|k_seq<|k_sr<|sP (pB q13.1 0)<|sP2 (.bool false)<|sP3 (pB q13.1 0)<|s_mem3 (fun H h=>hp_open (h.re [0] [])) (fun mb20 tb21 tm22 hw=>?_)
 obtain⟨hi23,ha24,ht25⟩:=hw;refine s_memX (fun H h=>all_focus hq17 ho15 (h.re [3] [])) (fun v26 _=>?_);refine sL (t_load 0 (iw o12.kind))<|sL t_cmp<|sP (.bool (decide (o12.kind≠5)))<|s_fork 18 (decide (o12.kind≠5)) (fun c27=>?_) (fun c27=>?_)
 .have p28:=dY c27;refine sP3 (pB q13.1 0)<|sL (t_load 0 (iw o12.kind))<|sL t_cmp<|sP2 (.bool (decide (o12.kind≠7)))<|s_nt<|k_cond (decide (o12.kind≠7)) (fun c29=>?_) (fun c29=>?_)
  .have p30:=dY c29;refine k_sr<|sP (iw 0)<|sP (.bool false)<|s_nt<|k_ret<|xs_ret<|xs_fact (fun H h=>(h.mp (i:=5) rfl).nodup) (fun hnd31=>?_)
   refine xs_mem (fun _ h=>(put_same ho15)▸all_unfocus (o':=o12) hnd31 hq17 ho15 (ob_shut (o:=o12) (h.re [0,0,0,0] []))) ?_;refine xs_mem (Bs:=allP ps2 st::blkA b #[.map (some mb20),iw (st.objs.length:Int),.map (some tb21)] 64::mpA iK oV mb20 ps2::mpA iK bV tb21 tm22::blkA g1 (vc v) 32::F) (fun _ h=>h) ?_;refine xs_mem (fun _ h=>hp_shut (st:=st) (n:=(st.objs.length:Int)) ⟨⟨hi23,ha24,ht25⟩,rfl⟩ (h.re [1,1,1,0] [])) ?_;have hp:htagV st v=(0,false):=by unfold htagV;rw[hf14];show (if o12.kind=5∨o12.kind=7 then _ else _)=_;rw[if_neg om]
   refine xs_mem (fun _ h=>hpA_shut (h.re [0] [])) ?_;refine xs_fin [iw 0,.bool false] (hpA b st::F) (SI.tmp 4 (SI.tmp 5 SI.nil)) (rr [0] [1]) ⟨?_,?_⟩
   .rw [hp];rfl
   rfl
  have p32:=Decidable.not_not.1 (dF c29);refine k_st<|k_sr<|sP2 (pB q13.1 0)<|sP (pB q13.1 1)<|sL (t_load 0 (iw o12.tag))<|sP (iw o12.tag)<|sP (.bool true)<|s_nt<|k_ret<|xs_fact (fun H h=>(h.mp (i:=5) rfl).nodup) (fun hnd33=>?_)
  refine xs_mem (fun _ h=>(put_same ho15)▸all_unfocus (o':=o12) hnd33 hq17 ho15 (ob_shut (o:=o12) (h.re [0,0,0,0] []))) ?_;refine xs_mem (Bs:=allP ps2 st::blkA b #[.map (some mb20),iw (st.objs.length:Int),.map (some tb21)] 64::mpA iK oV mb20 ps2::mpA iK bV tb21 tm22::blkA g1 (vc v) 32::F) (fun _ h=>h) ?_;refine xs_mem (fun _ h=>hp_shut (st:=st) (n:=(st.objs.length:Int)) ⟨⟨hi23,ha24,ht25⟩,rfl⟩ (h.re [1,1,1,0] [])) ?_;have hp:htagV st v=(o12.tag,true):=by unfold htagV;rw[hf14];show (if o12.kind=5∨o12.kind=7 then _ else _)=_;rw[if_pos om]
  refine xs_mem (fun _ h=>hpA_shut (h.re [0] [])) ?_;refine xs_fin [iw o12.tag,.bool true] (hpA b st::F) (SI.tmp 4 (SI.tmp 5 SI.nil)) (rr [0] [1]) ⟨?_,?_⟩
  .rw [hp];rfl
  rfl
 have p34:=Decidable.not_not.1 (dF c27);refine sK<|sK<|sK<|sK<|sK<|sP2 (.bool false)<|s_nt<|k_false<|k_st<|k_sr<|sP2 (pB q13.1 0)<|sP (pB q13.1 1)<|sL (t_load 0 (iw o12.tag))<|sP (iw o12.tag)<|sP (.bool true)<|s_nt<|k_ret<|xs_fact (fun H h=>(h.mp (i:=5) rfl).nodup) (fun hnd35=>?_)
 refine xs_mem (fun _ h=>(put_same ho15)▸all_unfocus (o':=o12) hnd35 hq17 ho15 (ob_shut (o:=o12) (h.re [0,0,0,0] []))) ?_;refine xs_mem (Bs:=allP ps2 st::blkA b #[.map (some mb20),iw (st.objs.length:Int),.map (some tb21)] 64::mpA iK oV mb20 ps2::mpA iK bV tb21 tm22::blkA g1 (vc v) 32::F) (fun _ h=>h) ?_;refine xs_mem (fun _ h=>hp_shut (st:=st) (n:=(st.objs.length:Int)) ⟨⟨hi23,ha24,ht25⟩,rfl⟩ (h.re [1,1,1,0] [])) ?_;have hp:htagV st v=(o12.tag,true):=by unfold htagV;rw[hf14];show (if o12.kind=5∨o12.kind=7 then _ else _)=_;rw[if_pos om]
 refine xs_mem (fun _ h=>hpA_shut (h.re [0] [])) ?_;refine xs_fin [iw o12.tag,.bool true] (hpA b st::F) (SI.tmp 4 (SI.tmp 5 SI.nil)) (rr [0] [1]) ⟨?_,?_⟩
 .rw [hp];rfl
 rfl
theorem hname_s{Z:Zone}{F:List Asr}{b:Nat}{st:Hst}(v:Vl):SF Tryz.prog 39 #[.pointer (some ⟨b,0,none⟩),v.v] Z (hpA b st::F) fun r Bs=>r=.tuple #[sw (hnameV st v).1,.bool (hnameV st v).2]∧Bs=hpA b st::F:=by
 refine sf_enter Tryz.func39 23 [(0,pB b 0),(1,.agg (vc v))] (fun w0=>?_);refine k_sr<|s_box (vc v) (fun g1=>?_)
 refine sP (sw eb)<|sP (.bool false)<|s_nr<|sP (pB b 0)<|sL (t_loadA 0 (vc v))<|s_memX (fun H h=>hpA_open (h.re [1] [])) (fun ps2 _=>?_)
 refine s_fact (fun H h=>hp_facts (h.re [0] [])) (fun hf3=>?_);obtain⟨hi4,ha5⟩:=hf3;refine s_call [0] (hfind_s (st:=st) (ps:=ps2) v) ?_;rintro u6 _ ⟨e7,rfl⟩;rcases fnd_cases ha5 v with ⟨hf8,ht9,hv10,hv11⟩|⟨o12,q13,hf14,ho15,hk16,hq17,hv18,hv19⟩
 .rw [hv10]at e7;subst e7;refine sP (.pointer none)<|s_nt<|k_seq<|k_sr<|sP (.pointer none)<|sP2 (.bool true)<|sK<|sK<|sK<|sK<|sK<|sP (.bool true)<|s_nt<|k_true<|k_sr<|sP (sw eb)<|sP (.bool false)<|s_nt<|k_ret<|xs_ret ?_
  have hp:hnameV st v=(eb,false):=by unfold hnameV;rw[hf8]
  refine xs_mem (fun _ h=>hpA_shut (h.re [0] [])) ?_;refine xs_fin [sw eb,.bool false] (hpA b st::F) (SI.tmp 4 (SI.tmp 5 SI.nil)) (rr [0] [1]) ⟨?_,?_⟩
  .rw [hp];rfl
  rfl
 rw[hv18]at e7;subst e7;refine sP (pB q13.1 0)<|s_nt<|k_seq<|k_sr<|sP (pB q13.1 0)<|sP2 (.bool false)<|sP3 (pB q13.1 0)<|s_mem3 (fun H h=>hp_open (h.re [0] [])) (fun mb20 tb21 tm22 hw=>?_)
 obtain⟨hi23,ha24,ht25⟩:=hw;refine s_memX (fun H h=>all_focus hq17 ho15 (h.re [3] [])) (fun v26 _=>?_);refine sL (t_load 0 (iw o12.kind))<|sL t_cmp<|sP (.bool (decide (o12.kind≠8)))<|s_nt<|k_cond (decide (o12.kind≠8)) (fun c27=>?_) (fun c27=>?_)
 .have p28:=dY c27;refine k_sr<|sP (sw eb)<|sP (.bool false)<|s_nt<|k_ret<|xs_ret<|xs_fact (fun H h=>(h.mp (i:=5) rfl).nodup) (fun hnd29=>?_)
  refine xs_mem (fun _ h=>(put_same ho15)▸all_unfocus (o':=o12) hnd29 hq17 ho15 (ob_shut (o:=o12) (h.re [0,0,0,0] []))) ?_;refine xs_mem (Bs:=allP ps2 st::blkA b #[.map (some mb20),iw (st.objs.length:Int),.map (some tb21)] 64::mpA iK oV mb20 ps2::mpA iK bV tb21 tm22::blkA g1 (vc v) 32::F) (fun _ h=>h) ?_;refine xs_mem (fun _ h=>hp_shut (st:=st) (n:=(st.objs.length:Int)) ⟨⟨hi23,ha24,ht25⟩,rfl⟩ (h.re [1,1,1,0] [])) ?_;have hp:hnameV st v=(eb,false):=by unfold hnameV;rw[hf14];show (if o12.kind=8 then _ else _)=_;rw[if_neg om]
  refine xs_mem (fun _ h=>hpA_shut (h.re [0] [])) ?_;refine xs_fin [sw eb,.bool false] (hpA b st::F) (SI.tmp 4 (SI.tmp 5 SI.nil)) (rr [0] [1]) ⟨?_,?_⟩
  .rw [hp];rfl
  rfl
 have p30:=Decidable.not_not.1 (dF c27);refine k_st<|k_sr<|sP2 (pB q13.1 0)<|sP (pB q13.1 2)<|sL (t_load 0 (sw o12.name))<|sP (sw o12.name)<|sP (.bool true)<|s_nt<|k_ret<|xs_fact (fun H h=>(h.mp (i:=5) rfl).nodup) (fun hnd31=>?_)
 refine xs_mem (fun _ h=>(put_same ho15)▸all_unfocus (o':=o12) hnd31 hq17 ho15 (ob_shut (o:=o12) (h.re [0,0,0,0] []))) ?_;refine xs_mem (Bs:=allP ps2 st::blkA b #[.map (some mb20),iw (st.objs.length:Int),.map (some tb21)] 64::mpA iK oV mb20 ps2::mpA iK bV tb21 tm22::blkA g1 (vc v) 32::F) (fun _ h=>h) ?_;refine xs_mem (fun _ h=>hp_shut (st:=st) (n:=(st.objs.length:Int)) ⟨⟨hi23,ha24,ht25⟩,rfl⟩ (h.re [1,1,1,0] [])) ?_;have hp:hnameV st v=(o12.name,true):=by unfold hnameV;rw[hf14];show (if o12.kind=8 then _ else _)=_;rw[if_pos om]
 refine xs_mem (fun _ h=>hpA_shut (h.re [0] [])) ?_;refine xs_fin [sw o12.name,.bool true] (hpA b st::F) (SI.tmp 4 (SI.tmp 5 SI.nil)) (rr [0] [1]) ⟨?_,?_⟩
 .rw [hp];rfl
 rfl
theorem hdata_find{Z:Zone}{F:List Asr}{b:Nat}{st:Hst}{ps:List (Int×(Nat×Nat))}(v:Vl)(x:Int):SF Tryz.prog 84 #[.pointer (some ⟨b,0,none⟩),v.v,iw x] Z (hpP b st ps::F) fun r Bs=>r=.tuple #[datV ps st v x,iw (hslotE st v x)]∧Bs=hpP b st ps::F:=by
 refine sf_enter Tryz.func84 32 [(0,pB b 0),(1,.agg (vc v)),(2,iw x)] (fun w0=>?_);refine k_fact (fun H h=>hp_facts (h.re [0] [])) (fun hf1=>?_);obtain⟨hi2,ha3⟩:=hf1;refine k_sr<|s_box (vc v) (fun g4=>?_)
 refine sP (.pointer none)<|sP (iw 0)<|s_nr<|sP (pB b 0)<|sL (t_loadA 0 (vc v))<|s_call [1] (hfind_s (st:=st) (ps:=ps) v) ?_
 rintro u5 _ ⟨e6,rfl⟩;rcases fnd_cases ha3 v with ⟨hf7,ht8,hv9,hv10⟩|⟨o11,q12,hf13,ho14,hk15,hq16,hv17,hv18⟩
 .rw [hv9]at e6;subst e6;refine sP (.pointer none)<|s_nt<|k_seq<|k_block<|k_sr<|sP (.pointer none)<|sP2 (.bool true)<|sK<|sK<|sK<|sK<|sK<|sP2 (.bool true)<|s_nt<|k_true<|k_sr<|sP (pB b 0)<|sV (fun _ h=>hmiss_s (F:=[]))<|sP (.pointer none)<|sP (iw 8)<|s_nt<|k_ret<|xs_retBlock<|xs_ret ?_
  have he:hslotE st v x=8:=by unfold hslotE;rw[hf7]
  refine xs_fin [.pointer none,iw 8] (hpP b st ps::F) (SI.tmp 6 (SI.tmp 7 SI.nil)) (rr [0] [1]) ⟨?_,rfl⟩;rw[he];unfold datV;rw[if_neg (by rw[he];decide)];rfl
 rw[hv17]at e6;subst e6;refine sP (pB q12.1 0)<|s_nt<|k_seq<|k_block<|k_sr<|sP (pB q12.1 0)<|sP2 (.bool false)<|sP3 (pB q12.1 0)<|s_mem3 (fun H h=>hp_open (h.re [0] [])) (fun mb19 tb20 tm21 hw=>?_)
 obtain⟨hi22,ha23,ht24⟩:=hw;refine s_memX (fun H h=>all_focus hq16 ho14 (h.re [3] [])) (fun v25 _=>?_);refine sL (t_load 0 (iw o11.kind))<|sL t_cmp<|sP2 (.bool (decide (o11.kind≠8)))<|s_nt<|k_cond (decide (o11.kind≠8)) (fun c26=>?_) (fun c26=>?_)
 .have p27:=dY c26;refine k_sr<|sP (pB b 0)<|sV (fun _ h=>hmiss_s (F:=[]))<|sP (.pointer none)<|sP (iw 8)<|s_nt<|k_ret<|xs_retBlock<|xs_ret<|xs_fact (fun H h=>(h.mp (i:=5) rfl).nodup) (fun hnd28=>?_)
  refine xs_mem (fun _ h=>(put_same ho14)▸all_unfocus (o':=o11) hnd28 hq16 ho14 (ob_shut (o:=o11) (h.re [0,0,0,0] []))) ?_;refine xs_mem (Bs:=allP ps st::blkA b #[.map (some mb19),iw (st.objs.length:Int),.map (some tb20)] 64::mpA iK oV mb19 ps::mpA iK bV tb20 tm21::blkA g4 (vc v) 32::F) (fun _ h=>h) ?_;refine xs_mem (fun _ h=>hp_shut (st:=st) (n:=(st.objs.length:Int)) ⟨⟨hi22,ha23,ht24⟩,rfl⟩ (h.re [1,1,1,0] [])) ?_;have he:hslotE st v x=8:=by unfold hslotE;rw[hf13];simp_all<;>omega
  refine xs_fin [.pointer none,iw 8] (hpP b st ps::F) (SI.tmp 6 (SI.tmp 7 SI.nil)) (rr [0] [1]) ⟨?_,rfl⟩;rw[he];unfold datV;rw[if_neg (by rw[he];decide)];rfl
 have p29:=Decidable.not_not.1 (dF c26);refine k_sr<|sP (iw x)<|sL t_cmp<|sP (.bool (decide (x<1)))<|s_fork 27 (decide (x<1)) (fun c30=>?_) (fun c30=>?_)
 .have p31:=dY c30;refine sK<|sK<|sP2 (.bool true)<|s_nt<|k_true<|k_sr<|sP (.pointer none)<|sP (iw 6)<|s_nt<|k_ret<|xs_retBlock<|xs_ret<|xs_fact (fun H h=>(h.mp (i:=5) rfl).nodup) (fun hnd32=>?_)
  refine xs_mem (fun _ h=>(put_same ho14)▸all_unfocus (o':=o11) hnd32 hq16 ho14 (ob_shut (o:=o11) (h.re [0,0,0,0] []))) ?_;refine xs_mem (Bs:=allP ps st::blkA b #[.map (some mb19),iw (st.objs.length:Int),.map (some tb20)] 64::mpA iK oV mb19 ps::mpA iK bV tb20 tm21::blkA g4 (vc v) 32::F) (fun _ h=>h) ?_;refine xs_mem (fun _ h=>hp_shut (st:=st) (n:=(st.objs.length:Int)) ⟨⟨hi22,ha23,ht24⟩,rfl⟩ (h.re [1,1,1,0] [])) ?_;have he:hslotE st v x=6:=by unfold hslotE;rw[hf13];simp_all<;>omega
  refine xs_fin [.pointer none,iw 6] (hpP b st ps::F) (SI.tmp 6 (SI.tmp 7 SI.nil)) (rr [0] [1]) ⟨?_,rfl⟩;rw[he];unfold datV;rw[if_neg (by rw[he];decide)];rfl
 have p33:=dF c30;refine sP (iw x)<|sL t_cmp<|sP2 (.bool (decide ((16:Int)<x)))<|s_nt<|k_cond (decide ((16:Int)<x)) (fun c34=>?_) (fun c34=>?_)
 .have p35:=dY c34;refine k_sr<|sP (.pointer none)<|sP (iw 6)<|s_nt<|k_ret<|xs_retBlock<|xs_ret<|xs_fact (fun H h=>(h.mp (i:=5) rfl).nodup) (fun hnd36=>?_)
  refine xs_mem (fun _ h=>(put_same ho14)▸all_unfocus (o':=o11) hnd36 hq16 ho14 (ob_shut (o:=o11) (h.re [0,0,0,0] []))) ?_;refine xs_mem (Bs:=allP ps st::blkA b #[.map (some mb19),iw (st.objs.length:Int),.map (some tb20)] 64::mpA iK oV mb19 ps::mpA iK bV tb20 tm21::blkA g4 (vc v) 32::F) (fun _ h=>h) ?_;refine xs_mem (fun _ h=>hp_shut (st:=st) (n:=(st.objs.length:Int)) ⟨⟨hi22,ha23,ht24⟩,rfl⟩ (h.re [1,1,1,0] [])) ?_;have he:hslotE st v x=6:=by unfold hslotE;rw[hf13];simp_all<;>omega
  refine xs_fin [.pointer none,iw 6] (hpP b st ps::F) (SI.tmp 6 (SI.tmp 7 SI.nil)) (rr [0] [1]) ⟨?_,rfl⟩;rw[he];unfold datV;rw[if_neg (by rw[he];decide)];rfl
 have p37:=dF c34;refine k_skip<|xs_block<|xs_then<|k_sr<|sP2 (pB q12.1 0)<|sP (iw 0)<|s_nt<|k_ret<|xs_fact (fun H h=>(h.mp (i:=5) rfl).nodup) (fun hnd38=>?_)
 refine xs_mem (fun _ h=>(put_same ho14)▸all_unfocus (o':=o11) hnd38 hq16 ho14 (ob_shut (o:=o11) (h.re [0,0,0,0] []))) ?_;refine xs_mem (Bs:=allP ps st::blkA b #[.map (some mb19),iw (st.objs.length:Int),.map (some tb20)] 64::mpA iK oV mb19 ps::mpA iK bV tb20 tm21::blkA g4 (vc v) 32::F) (fun _ h=>h) ?_;refine xs_mem (fun _ h=>hp_shut (st:=st) (n:=(st.objs.length:Int)) ⟨⟨hi22,ha23,ht24⟩,rfl⟩ (h.re [1,1,1,0] [])) ?_;have he:hslotE st v x=0:=by unfold hslotE;rw[hf13];simp_all<;>omega
 refine xs_fin [pB q12.1 0,iw 0] (hpP b st ps::F) (SI.tmp 6 (SI.tmp 7 SI.nil)) (rr [0] [1]) ⟨?_,rfl⟩;rw[he];unfold datV;rw[if_pos he];unfold fndV;rw[hf13,hq16];rfl
theorem hslot_s{Z:Zone}{F:List Asr}{b:Nat}{st:Hst}(hw:HW st)(v:Vl)(x:Int):SF Tryz.prog 34 #[.pointer (some ⟨b,0,none⟩),v.v,iw x] Z (hpA b st::F) fun r Bs=>r=pairV (hslotV st v x) (hslotE st v x)∧Bs=hpA b st::F:=by
 refine sf_enter Tryz.func34 29 [(0,pB b 0),(1,.agg (vc v)),(2,iw x)] (fun w0=>?_);refine k_sr<|s_box (vc v) (fun g1=>?_)
 refine s_alloc (.agg zc) zc (fun g2=>?_);refine sP (iw 0)<|s_nr<|sP (pB b 0)<|sL (t_loadA 1 (vc v))<|sP (iw x)<|s_memX (fun H h=>hpA_open (h.re [2] [])) (fun ps3 _=>?_)
 refine s_fact (fun H h=>hp_facts (h.re [0] [])) (fun hf4=>?_);obtain⟨hi5,ha6⟩:=hf4;refine s_call [0] (hdata_find (st:=st) (ps:=ps3) v x) ?_;rintro u7 _ ⟨e8,rfl⟩;rcases dat_cases ha6 v x with ⟨he9,hv10⟩|⟨o11,q12,hf13,ho14,hk15,hk16,hq17,hx18,hx19,he20,hv21⟩
 .rw [hv10]at e8;subst e8;refine sP (.tuple #[.pointer none,iw (hslotE st v x)])<|sP (.pointer none)<|sP (iw (hslotE st v x))<|sP (.pointer none)<|sP (iw (hslotE st v x))<|s_nt<|k_seq<|k_sr<|sP (iw (hslotE st v x))<|sL (Lt.to t_cmp (cB ((decide_eq_true he9):(decide ((hslotE st v x)≠0))=true)))<|s_nt<|k_true<|k_sr<|sL (t_kern (.agg zc))<|sP (iw (hslotE st v x))<|s_store 1 zc ?_
  refine sP (iw (hslotE st v x))<|s_nt<|k_ret<|xs_ret<|xs_mem (fun _ h=>hpA_shut (h.re [0] [])) ?_
  refine xs_fin [.agg zc,iw (hslotE st v x)] (hpA b st::F) (SI.agg 6 32 1 (SI.tmp 7 SI.nil)) (rr [0] [1,1]) ⟨?_,?_⟩
  .rw [slot_err he9];rfl
  rfl
 rw[hv21,he20]at e8;subst e8;have hvl:=(hw.of ho14).data hk15;refine sP (.tuple #[pB q12.1 0,iw 0])<|sP (pB q12.1 0)<|sP (iw 0)<|sP (pB q12.1 0)<|sP (iw 0)<|s_nt<|k_seq<|k_sr<|sP (iw 0)<|sL (t_cmp (c:=false))<|s_nt<|k_false<|k_st<|k_sr<|sP2 (pB q12.1 0)<|sP (pB q12.1 9)<|s_mem3 (fun H h=>hp_open (h.re [0] [])) (fun mb22 tb23 tm24 hw=>?_)
 obtain⟨hi25,ha26,ht27⟩:=hw;refine s_memX (fun H h=>all_focus hq17 ho14 (h.re [3] [])) (fun v28 _=>?_);refine sL (t_load 0 v28)<|sP (iw x)<|sL (t_sub x 1 ol)<|sL (t_index VlT_ok Tryz.underlying37 (.own 1) (x-1) (((x-1)).toNat) om ol om) ?_
 obtain⟨y29,hy30⟩:∃y,o11.vals[((x-1)).toNat]?=some y:=⟨_,List.getElem?_eq_getElem ol⟩;refine sL (t_loadE VlT_ok (.own 1) hy30)<|s_store 7 (vc y29) ?_
 refine sP (iw 0)<|s_nt<|k_ret<|xs_fact (fun H h=>(h.mp (i:=5) rfl).nodup) (fun hnd31=>?_)
 refine xs_mem (fun _ h=>(put_same ho14)▸all_unfocus (o':=o11) hnd31 hq17 ho14 (ob_shut (o:=o11) (h.re [0,0,0,0] []))) ?_;refine xs_mem (Bs:=allP ps3 st::blkA b #[.map (some mb22),iw (st.objs.length:Int),.map (some tb23)] 64::mpA iK oV mb22 ps3::mpA iK bV tb23 tm24::blkA g2 (vc y29) 32::blkA g1 (vc v) 32::F) (fun _ h=>h) ?_;refine xs_mem (fun _ h=>hp_shut (st:=st) (n:=(st.objs.length:Int)) ⟨⟨hi25,ha26,ht27⟩,rfl⟩ (h.re [1,1,1,0] [])) ?_;refine xs_mem (fun _ h=>hpA_shut (h.re [0] [])) ?_;refine xs_fin [.agg (vc y29),iw 0] (hpA b st::F) (SI.agg 6 32 1 (SI.tmp 7 SI.nil)) (rr [0] [1,1]) ⟨?_,?_⟩
 .rw [slot_val hf13 he20 hy30,he20];rfl
 rfl
theorem hsetslot_s{Z:Zone}{F:List Asr}{b:Nat}{st:Hst}(hw:HW st)(v:Vl)(x:Int)(y:Vl):SF Tryz.prog 35 #[.pointer (some ⟨b,0,none⟩),v.v,iw x,y.v] Z (hpA b st::F) fun r Bs=>r=iw (hsetSlotE st v x y)∧Bs=hpA b (hsetSlot st v x y)::F:=by
 refine sf_enter Tryz.func35 38 [(0,pB b 0),(1,.agg (vc v)),(2,iw x),(3,.agg (vc y))] (fun w0=>?_);refine k_sr<|s_box (vc v) (fun g1=>?_)
 refine s_box (vc y) (fun g2=>?_);refine sP (iw 0)<|s_nr<|sP (pB b 0)<|sL (t_loadA 1 (vc v))<|sP (iw x)<|s_memX (fun H h=>hpA_open (h.re [2] [])) (fun ps3 _=>?_)
 refine s_fact (fun H h=>hp_facts (h.re [0] [])) (fun hf4=>?_);obtain⟨hi5,ha6⟩:=hf4;refine s_call [0] (hdata_find (st:=st) (ps:=ps3) v x) ?_;rintro u7 _ ⟨e8,rfl⟩;rcases dat_cases ha6 v x with ⟨he9,hv10⟩|⟨o11,q12,hf13,ho14,hk15,hk16,hq17,hx18,hx19,he20,hv21⟩
 .rw [hv10]at e8;subst e8;refine sP (.tuple #[.pointer none,iw (hslotE st v x)])<|sP (.pointer none)<|sP (iw (hslotE st v x))<|sP (.pointer none)<|sP (iw (hslotE st v x))<|s_nt<|k_seq<|k_sr<|sP (iw (hslotE st v x))<|sL (Lt.to t_cmp (cB ((decide_eq_true he9):(decide ((hslotE st v x)≠0))=true)))<|s_nt<|k_true<|k_sr<|sP2 (iw (hslotE st v x))<|s_nt<|k_ret<|xs_ret ?_
  have hp:=setSlot_err (x:=y) he9;refine xs_mem (fun _ h=>hpA_shut (h.re [0] [])) ?_;refine xs_fin [iw (hslotE st v x)] (hpA b st::F) (SI.tmp 8 SI.nil) (rr [0] [1,1]) ⟨?_,?_⟩
  .rw [hp.2];try rfl
  rw[hp.1];try rfl
 rw[hv21,he20]at e8;subst e8;have hvl:=(hw.of ho14).data hk15;refine sP (.tuple #[pB q12.1 0,iw 0])<|sP (pB q12.1 0)<|sP (iw 0)<|sP (pB q12.1 0)<|sP (iw 0)<|s_nt<|k_seq<|k_sr<|sP (iw 0)<|sL (t_cmp (c:=false))<|s_nt<|k_false<|k_st<|k_seq<|k_sr<|sL (t_loadA 1 (vc y))<|sV (fun _ h=>helem_s y)<|sP (iw (elemE y))<|s_nr<|sP (iw (elemE y))<|sL t_cmp<|s_nt<|k_cond (decide ((elemE y)≠0)) (fun c22=>?_) (fun c22=>?_)
 .have p23:=dY c22;refine k_sr<|sP2 (iw (elemE y))<|s_nt<|k_ret<|xs_ret ?_
  have hp:=setSlot_elem he20 (dY c22);refine xs_mem (fun _ h=>hpA_shut (h.re [0] [])) ?_;refine xs_fin [iw (elemE y)] (hpA b st::F) (SI.tmp 8 SI.nil) (rr [0] [1,1]) ⟨?_,?_⟩
  .rw [hp.2];try rfl
  rw[hp.1];try rfl
 have p24:=Decidable.not_not.1 (dF c22);refine k_st<|k_seq<|k_draw<|sP2 (pB q12.1 0)<|sP (pB q12.1 9)<|s_mem3 (fun H h=>hp_open (h.re [0] [])) (fun mb25 tb26 tm27 hw=>?_)
 obtain⟨hi28,ha29,ht30⟩:=hw;refine s_memX (fun H h=>all_focus hq17 ho14 (h.re [3] [])) (fun v31 _=>?_);refine sL (t_load 0 v31)<|sP (iw x)<|sL (t_sub x 1 ol)<|sL (t_loadA 7 (vc y))<|sL (t_index VlT_ok Tryz.underlying37 (.own 1) (x-1) (((x-1)).toNat) om ol om) ?_
 obtain⟨y32,hy33⟩:∃y,o11.vals[((x-1)).toNat]?=some y:=⟨_,List.getElem?_eq_getElem ol⟩;refine s_storeE 1 0 y VlT_ok hy33 ?_;refine s_nil<|x_dynS (fun _ h=>by kernel_rfl) ?_
 refine xs_then<|k_sr<|sP (pB b 0)<|sL (t_loadA 8 (vc v))<|s_fact (fun H h=>(h.mp (i:=5) rfl).nodup) (fun hnd34=>?_)
 refine s_mem (fun _ h=>all_unfocus (o':={ o11 with vals:=(o11.vals.set (((x-1)).toNat) y) }) hnd34 hq17 ho14 (ob_shut (o:={ o11 with vals:=(o11.vals.set (((x-1)).toNat) y) }) (h.re [0,0,0,0] []))) ?_;refine s_mem (Bs:=allP ps3 (st.put v.ref { o11 with vals:=(o11.vals.set (((x-1)).toNat) y) })::blkA b #[.map (some mb25),iw (st.objs.length:Int),.map (some tb26)] 64::mpA iK oV mb25 ps3::mpA iK bV tb26 tm27::blkA g2 (vc y) 32::blkA g1 (vc v) 32::F) (fun _ h=>h) ?_;have hob35:=hi28.obs o11 (get_mem ho14).1;refine s_mem (fun _ h=>hp_shut (st:=(st.put v.ref { o11 with vals:=(o11.vals.set (((x-1)).toNat) y) })) (n:=(st.objs.length:Int)) ⟨⟨put_inv hi28 ⟨hob35.kind,hob35.tab,hob35.mt⟩,ha29.put ho14,ht30.put ho14⟩,by rw[put_len]⟩ (h.re [1,1,1,0] [])) ?_;refine s_call [0] (htouch_s (st:=(st.put v.ref { o11 with vals:=(o11.vals.set (((x-1)).toNat) y) })) (ps:=ps3) v (show Hst.get _ _=some { o11 with vals:=(o11.vals.set (((x-1)).toNat) y) } from by rw[get_put ho14,if_pos rfl]) 0) ?_;rw[if_pos (rfl)];rintro _ _ ⟨rfl,rfl⟩;refine sP (iw 0)<|s_nt<|k_ret ?_
 have hp:=setSlot_ok ho14 he20 (Decidable.not_not.1 (dF c22));refine xs_mem (fun _ h=>hpA_shut (h.re [0] [])) ?_;refine xs_fin [iw 0] (hpA b ((st.put v.ref { o11 with vals:=(o11.vals.set (((x-1)).toNat) y) }).touch v.ref)::F) (SI.tmp 8 SI.nil) (rr [0] [1,1]) ⟨?_,?_⟩
 .rw [hp.2];try rfl
 rw[hp.1];try rfl
theorem hsetrefs_s{Z:Zone}{F:List Asr}{b:Nat}{st:Hst}{rv:Value}{l:List Vl}(hk0:Kn Z VlT rv l)(hl0:l.length≤1000)(v:Vl):SF Tryz.prog 36 #[.pointer (some ⟨b,0,none⟩),v.v,rv] Z (hpA b st::F) fun r Bs=>r=iw (hsetRefsE st v l)∧Bs=hpA b (hsetRefs st v l)::F:=by
 refine sf_enter Tryz.func36 63 [(0,pB b 0),(1,.agg (vc v)),(2,rv)] (fun w0=>?_);refine k_fact (fun H h=>(hk0.get h).len_le) (fun lA=>?_);refine k_sr<|s_box (vc v) (fun g1=>?_)
 refine sP (iw 0)<|s_nr<|sP (pB b 0)<|sL (t_loadA 0 (vc v))<|s_memX (fun H h=>hpA_open (h.re [1] [])) (fun ps2 _=>?_)
 refine s_fact (fun H h=>hp_facts (h.re [0] [])) (fun hf3=>?_);obtain⟨hi4,ha5⟩:=hf3;refine s_call [0] (hfind_s (st:=st) (ps:=ps2) v) ?_;rintro u6 _ ⟨e7,rfl⟩;rcases fnd_cases ha5 v with ⟨hf8,ht9,hv10,hv11⟩|⟨o12,q13,hf14,ho15,hk16,hq17,hv18,hv19⟩
 .rw [hv10]at e7;subst e7;refine sP (.pointer none)<|s_nt<|k_seq<|k_sr<|sP (.pointer none)<|sP2 (.bool true)<|sK<|sK<|sK<|sK<|sK<|sK<|sK<|sK<|sK<|sK<|sK<|sK<|sP (.bool true)<|s_nt<|k_true<|k_sr<|sP (pB b 0)<|sV (fun _ h=>hmiss_s (F:=[]))<|sP (iw 8)<|s_nt<|k_ret<|xs_ret ?_
  have hp:=setRefs_type (l:=l) (isFT_none hf8);refine xs_mem (fun _ h=>hpA_shut (h.re [0] [])) ?_;refine xs_fin [iw 8] (hpA b st::F) (SI.tmp 6 SI.nil) (rr [0] [1]) ⟨?_,?_⟩
  .rw [hp.2];try rfl
  rw[hp.1];try rfl
 rw[hv18]at e7;subst e7;refine sP (pB q13.1 0)<|s_nt<|k_seq<|k_sr<|sP (pB q13.1 0)<|sP2 (.bool false)<|sP3 (pB q13.1 0)<|s_mem3 (fun H h=>hp_open (h.re [0] [])) (fun mb20 tb21 tm22 hw=>?_)
 obtain⟨hi23,ha24,ht25⟩:=hw;refine s_memX (fun H h=>all_focus hq17 ho15 (h.re [3] [])) (fun v26 _=>?_);refine sL (t_load 0 (iw o12.kind))<|sL t_cmp<|sP (.bool (decide (o12.kind≠5)))<|s_fork 23 (decide (o12.kind≠5)) (fun c27=>?_) (fun c27=>?_)
 .have p28:=dY c27;refine sP3 (pB q13.1 0)<|sL (t_load 0 (iw o12.kind))<|sL t_cmp<|sP2 (.bool (decide (o12.kind≠7)))<|s_nt<|k_cond (decide (o12.kind≠7)) (fun c29=>?_) (fun c29=>?_)
  .have p30:=dY c29;refine k_sr<|sP (pB b 0)<|sV (fun _ h=>hmiss_s (F:=[]))<|sP (iw 8)<|s_nt<|k_ret<|xs_ret<|xs_fact (fun H h=>(h.mp (i:=5) rfl).nodup) (fun hnd31=>?_)
   refine xs_mem (fun _ h=>(put_same ho15)▸all_unfocus (o':=o12) hnd31 hq17 ho15 (ob_shut (o:=o12) (h.re [0,0,0,0] []))) ?_;refine xs_mem (Bs:=allP ps2 st::blkA b #[.map (some mb20),iw (st.objs.length:Int),.map (some tb21)] 64::mpA iK oV mb20 ps2::mpA iK bV tb21 tm22::blkA g1 (vc v) 32::F) (fun _ h=>h) ?_;refine xs_mem (fun _ h=>hp_shut (st:=st) (n:=(st.objs.length:Int)) ⟨⟨hi23,ha24,ht25⟩,rfl⟩ (h.re [1,1,1,0] [])) ?_;have hft:hisFT st v=false:=by rw[isFT_some hf14];simp_all
   have hp:=setRefs_type (l:=l) hft;refine xs_mem (fun _ h=>hpA_shut (h.re [0] [])) ?_;refine xs_fin [iw 8] (hpA b st::F) (SI.tmp 6 SI.nil) (rr [0] [1]) ⟨?_,?_⟩
   .rw [hp.2];try rfl
   rw[hp.1];try rfl
  have p32:=Decidable.not_not.1 (dF c29);refine k_st<|k_seq<|k_sr<|sP rv<|sL (t_len VlT_ok Tryz.underlying37 (.zn hk0))<|sP (iw 0)<|s_nt<|k_block<|k_loop (ι:=Nat) (fun i=>i≤l.length∧refsE l=refsE (l.drop i)) (fun i=>[(0,pB b 0),(2,rv),(4,pB g1 0),(7,pB q13.1 0),(33,rv),(34,iw (l.length:Int)),(35,iw (i:Int))]) (fun i=>blkA q13.1 #[iw o12.kind,iw o12.tag,sw o12.name,(tabV q13 o12),iw o12.mt.kind,iw o12.mt.p,iw o12.mt.q,sw o12.mt.str,iw o12.mt.ref,v26] 90::own VlT v26 o12.vals::tabO q13 o12::holeP ps2 st v.ref::blkA b #[.map (some mb20),iw (st.objs.length:Int),.map (some tb21)] 64::mpA iK oV mb20 ps2::mpA iK bV tb21 tm22::blkA g1 (vc v) 32::F) (fun i=>l.length-i) 0 ⟨Nat.zero_le _,rfl⟩ sA (rr [0,0,0,0,0,0,0,0] []) ?_
  rintro i hi33;show SK _ _ _ _ _ [(0,.pointer (some ⟨b,0,none⟩)),(2,rv),(4,.pointer (some ⟨g1,0,none⟩)),(7,.pointer (some ⟨q13.1,0,none⟩)),(33,rv),(34,iw (l.length:Int)),(35,iw (i:Int))] _ (blkA q13.1 #[iw o12.kind,iw o12.tag,sw o12.name,(tabV q13 o12),iw o12.mt.kind,iw o12.mt.p,iw o12.mt.q,sw o12.mt.str,iw o12.mt.ref,v26] 90::own VlT v26 o12.vals::tabO q13 o12::holeP ps2 st v.ref::blkA b #[.map (some mb20),iw (st.objs.length:Int),.map (some tb21)] 64::mpA iK oV mb20 ps2::mpA iK bV tb21 tm22::blkA g1 (vc v) 32::F);refine k_sr<|sL t_cmp<|s_nt<|k_seq<|k_cond (decide ((i:Int)<(l.length:Int))) (fun c34=>?_) (fun c34=>?_)
  .have p35:=dY c34;refine k_st<|k_seq<|k_block<|k_sr<|sL (t_index VlT_ok Tryz.underlying37 (.zn hk0) (i:Int) i om ol om) ?_
   obtain⟨y36,hy37⟩:∃y,l[i]?=some y:=⟨_,List.getElem?_eq_getElem ol⟩;refine sL (t_loadE VlT_ok (.zn hk0) hy37)<|s_alloc (.agg zc) zc (fun g38=>?_)
   refine s_store 0 (vc y36) ?_;refine s_nr<|sL (t_loadA 0 (vc y36))<|sV (fun _ h=>helem_s y36)<|sP (iw (elemE y36))<|s_nr<|sP (iw (elemE y36))<|sL t_cmp<|s_nt<|k_cond (decide ((elemE y36)≠0)) (fun c39=>?_) (fun c39=>?_)
   .have p40:=dY c39;refine k_sr<|sP2 (iw (elemE y36))<|s_nt<|k_ret<|xs_retBlock<|xs_ret<|xs_ret<|xs_retBlock<|xs_ret<|xs_fact (fun H h=>(h.mp (i:=6) rfl).nodup) (fun hnd41=>?_)
    refine xs_mem (fun _ h=>(put_same ho15)▸all_unfocus (o':=o12) hnd41 hq17 ho15 (ob_shut (o:=o12) (h.re [1,1,1,1] []))) ?_;refine xs_mem (Bs:=allP ps2 st::blkA g38 (vc y36) 32::blkA b #[.map (some mb20),iw (st.objs.length:Int),.map (some tb21)] 64::mpA iK oV mb20 ps2::mpA iK bV tb21 tm22::blkA g1 (vc v) 32::F) (fun _ h=>h) ?_;refine xs_mem (fun _ h=>hp_shut (st:=st) (n:=(st.objs.length:Int)) ⟨⟨hi23,ha24,ht25⟩,rfl⟩ (h.re [2,2,2,0] [])) ?_;have hft:hisFT st v=true:=by rw[isFT_some hf14];simp_all
    have hne:=dY c39;have hre:=(refs_step hi33.2 hy37).1 hne;have hp:=setRefs_elem hft (by rw[hre];exact hne);refine xs_mem (fun _ h=>hpA_shut (h.re [0] [])) ?_;refine xs_fin [iw (elemE y36)] (hpA b st::F) (SI.tmp 6 SI.nil) (rr [0] [1,1]) ⟨?_,?_⟩
    .rw [hp.2,hre];try rfl
    rw[hp.1];try rfl
   have p42:=Decidable.not_not.1 (dF c39);refine k_skip<|xs_block<|xs_then<|k_reg<|sL (t_add (i:Int) 1 ol)<|sP (iw ((i:Int)+1))<|s_nil ?_
   exact xs_round (i+1) om ⟨by omega,(refs_step hi33.2 hy37).2 (Decidable.not_not.1 (dF c39))⟩ sA (rr [1,1,1,1,1,1,1,1] [8])
  have p43:=dF c34;refine k_exit<|xs_exit<|xs_exit<|xs_here<|xs_then<|k_sr<|sP rv<|sL (t_len VlT_ok Tryz.underlying37 (.zn hk0))<|s_make VlT_ok Tryz.underlying37 (l.length:Int) om (by show 48*_≤_;omega) om (fun v44=>?_)
  refine sP v44<|s_nr<|sP v44<|sP rv<|s_copy 0 VlT_ok Tryz.underlying37 (.zn hk0) ?_
  refine s_nr<|sP (pB q13.1 0)<|sP v44<|sP rv<|sL (t_len VlT_ok Tryz.underlying37 (.zn hk0))<|sP rv<|sL (t_len VlT_ok Tryz.underlying37 (.zn hk0))<|sL (t_pre3 VlT_ok Tryz.underlying37 (.own 0) (l.length:Int) l.length om ol om)<|sP (pB q13.1 0)<|sP (pB q13.1 9)<|s_mem (fun _ h=>Holds.pre3 (i:=0) h VlT_ok l.length rfl ol) ?_
  have hLL:((l.take (List.replicate (((l.length:Int)).toNat) VlT.zero).length++(List.replicate (((l.length:Int)).toNat) VlT.zero).drop l.length).take l.length)=l:=by simp
  refine s_mem (Bs:=own VlT (pre3 v44 l.length) l::blkA q13.1 #[iw o12.kind,iw o12.tag,sw o12.name,(tabV q13 o12),iw o12.mt.kind,iw o12.mt.p,iw o12.mt.q,sw o12.mt.str,iw o12.mt.ref,v26] 90::own VlT v26 o12.vals::tabO q13 o12::holeP ps2 st v.ref::blkA b #[.map (some mb20),iw (st.objs.length:Int),.map (some tb21)] 64::mpA iK oV mb20 ps2::mpA iK bV tb21 tm22::blkA g1 (vc v) 32::F) (fun _ h=>by rw[hLL]at h;exact h) ?_;refine sF 0 (fun hf45=>?_);refine s_store (u:=(pre3 v44 l.length)) (m:=1) 1 #[iw o12.kind,iw o12.tag,sw o12.name,(tabV q13 o12),iw o12.mt.kind,iw o12.mt.p,iw o12.mt.q,sw o12.mt.str,iw o12.mt.ref,(pre3 v44 l.length)] ?_ (hm:=by (obtain⟨_,_,e⟩:=hf45;rw[e];rfl)) (h1:=by (obtain⟨_,_,e⟩:=hf45;rw[e];rfl)) (ha':=by (obtain⟨_,_,e⟩:=hf45;rw[e];rfl));refine s_nr<|sP (pB b 0)<|sL (t_loadA 8 (vc v))<|s_fact (fun H h=>(h.mp (i:=6) rfl).nodup) (fun hnd46=>?_)
  refine s_mem (fun _ h=>all_unfocus (o':={ o12 with vals:=l }) hnd46 hq17 ho15 (ob_shut (o:={ o12 with vals:=l }) (h.re [1,0,1,1] []))) ?_;refine s_mem (Bs:=allP ps2 (st.put v.ref { o12 with vals:=l })::own VlT v26 o12.vals::blkA b #[.map (some mb20),iw (st.objs.length:Int),.map (some tb21)] 64::mpA iK oV mb20 ps2::mpA iK bV tb21 tm22::blkA g1 (vc v) 32::F) (fun _ h=>h) ?_;have hob47:=hi23.obs o12 (get_mem ho15).1;refine s_mem (fun _ h=>hp_shut (st:=(st.put v.ref { o12 with vals:=l })) (n:=(st.objs.length:Int)) ⟨⟨put_inv hi23 ⟨hob47.kind,hob47.tab,hob47.mt⟩,ha24.put ho15,ht25.put ho15⟩,by rw[put_len]⟩ (h.re [2,2,2,0] [])) ?_;refine s_call [0] (htouch_s (st:=(st.put v.ref { o12 with vals:=l })) (ps:=ps2) v (show Hst.get _ _=some { o12 with vals:=l } from by rw[get_put ho15,if_pos rfl]) 0) ?_;rw[if_pos (rfl)];rintro _ _ ⟨rfl,rfl⟩;refine sP (iw 0)<|s_nt<|k_ret ?_
  have hft:hisFT st v=true:=by rw[isFT_some hf14];simp_all
  have hp:=setRefs_ok ho15 hft (refs_end hi33.2 om);refine xs_mem (fun _ h=>hpA_shut (h.re [0] [])) ?_;refine xs_fin [iw 0] (hpA b ((st.put v.ref { o12 with vals:=l }).touch v.ref)::F) (SI.tmp 6 SI.nil) (rr [0] [1,1]) ⟨?_,?_⟩
  .rw [hp.2];try rfl
  rw[hp.1];try rfl
 have p49:=Decidable.not_not.1 (dF c27);refine sK<|sK<|sK<|sK<|sK<|sP2 (.bool false)<|s_nt<|k_false<|k_st<|k_seq<|k_sr<|sP rv<|sL (t_len VlT_ok Tryz.underlying37 (.zn hk0))<|sP (iw 0)<|s_nt<|k_block<|k_loop (ι:=Nat) (fun i=>i≤l.length∧refsE l=refsE (l.drop i)) (fun i=>[(0,pB b 0),(2,rv),(4,pB g1 0),(7,pB q13.1 0),(33,rv),(34,iw (l.length:Int)),(35,iw (i:Int))]) (fun i=>blkA q13.1 #[iw o12.kind,iw o12.tag,sw o12.name,(tabV q13 o12),iw o12.mt.kind,iw o12.mt.p,iw o12.mt.q,sw o12.mt.str,iw o12.mt.ref,v26] 90::own VlT v26 o12.vals::tabO q13 o12::holeP ps2 st v.ref::blkA b #[.map (some mb20),iw (st.objs.length:Int),.map (some tb21)] 64::mpA iK oV mb20 ps2::mpA iK bV tb21 tm22::blkA g1 (vc v) 32::F) (fun i=>l.length-i) 0 ⟨Nat.zero_le _,rfl⟩ sA (rr [0,0,0,0,0,0,0,0] []) ?_
 rintro i hi50;show SK _ _ _ _ _ [(0,.pointer (some ⟨b,0,none⟩)),(2,rv),(4,.pointer (some ⟨g1,0,none⟩)),(7,.pointer (some ⟨q13.1,0,none⟩)),(33,rv),(34,iw (l.length:Int)),(35,iw (i:Int))] _ (blkA q13.1 #[iw o12.kind,iw o12.tag,sw o12.name,(tabV q13 o12),iw o12.mt.kind,iw o12.mt.p,iw o12.mt.q,sw o12.mt.str,iw o12.mt.ref,v26] 90::own VlT v26 o12.vals::tabO q13 o12::holeP ps2 st v.ref::blkA b #[.map (some mb20),iw (st.objs.length:Int),.map (some tb21)] 64::mpA iK oV mb20 ps2::mpA iK bV tb21 tm22::blkA g1 (vc v) 32::F);refine k_sr<|sL t_cmp<|s_nt<|k_seq<|k_cond (decide ((i:Int)<(l.length:Int))) (fun c51=>?_) (fun c51=>?_)
 .have p52:=dY c51;refine k_st<|k_seq<|k_block<|k_sr<|sL (t_index VlT_ok Tryz.underlying37 (.zn hk0) (i:Int) i om ol om) ?_
  obtain⟨y53,hy54⟩:∃y,l[i]?=some y:=⟨_,List.getElem?_eq_getElem ol⟩;refine sL (t_loadE VlT_ok (.zn hk0) hy54)<|s_alloc (.agg zc) zc (fun g55=>?_)
  refine s_store 0 (vc y53) ?_;refine s_nr<|sL (t_loadA 0 (vc y53))<|sV (fun _ h=>helem_s y53)<|sP (iw (elemE y53))<|s_nr<|sP (iw (elemE y53))<|sL t_cmp<|s_nt<|k_cond (decide ((elemE y53)≠0)) (fun c56=>?_) (fun c56=>?_)
  .have p57:=dY c56;refine k_sr<|sP2 (iw (elemE y53))<|s_nt<|k_ret<|xs_retBlock<|xs_ret<|xs_ret<|xs_retBlock<|xs_ret<|xs_fact (fun H h=>(h.mp (i:=6) rfl).nodup) (fun hnd58=>?_)
   refine xs_mem (fun _ h=>(put_same ho15)▸all_unfocus (o':=o12) hnd58 hq17 ho15 (ob_shut (o:=o12) (h.re [1,1,1,1] []))) ?_;refine xs_mem (Bs:=allP ps2 st::blkA g55 (vc y53) 32::blkA b #[.map (some mb20),iw (st.objs.length:Int),.map (some tb21)] 64::mpA iK oV mb20 ps2::mpA iK bV tb21 tm22::blkA g1 (vc v) 32::F) (fun _ h=>h) ?_;refine xs_mem (fun _ h=>hp_shut (st:=st) (n:=(st.objs.length:Int)) ⟨⟨hi23,ha24,ht25⟩,rfl⟩ (h.re [2,2,2,0] [])) ?_;have hft:hisFT st v=true:=by rw[isFT_some hf14];simp_all
   have hne:=dY c56;have hre:=(refs_step hi50.2 hy54).1 hne;have hp:=setRefs_elem hft (by rw[hre];exact hne);refine xs_mem (fun _ h=>hpA_shut (h.re [0] [])) ?_;refine xs_fin [iw (elemE y53)] (hpA b st::F) (SI.tmp 6 SI.nil) (rr [0] [1,1]) ⟨?_,?_⟩
   .rw [hp.2,hre];try rfl
   rw[hp.1];try rfl
  have p59:=Decidable.not_not.1 (dF c56);refine k_skip<|xs_block<|xs_then<|k_reg<|sL (t_add (i:Int) 1 ol)<|sP (iw ((i:Int)+1))<|s_nil ?_
  exact xs_round (i+1) om ⟨by omega,(refs_step hi50.2 hy54).2 (Decidable.not_not.1 (dF c56))⟩ sA (rr [1,1,1,1,1,1,1,1] [8])
 have p60:=dF c51;refine k_exit<|xs_exit<|xs_exit<|xs_here<|xs_then<|k_sr<|sP rv<|sL (t_len VlT_ok Tryz.underlying37 (.zn hk0))<|s_make VlT_ok Tryz.underlying37 (l.length:Int) om (by show 48*_≤_;omega) om (fun v61=>?_)
 refine sP v61<|s_nr<|sP v61<|sP rv<|s_copy 0 VlT_ok Tryz.underlying37 (.zn hk0) ?_
 refine s_nr<|sP (pB q13.1 0)<|sP v61<|sP rv<|sL (t_len VlT_ok Tryz.underlying37 (.zn hk0))<|sP rv<|sL (t_len VlT_ok Tryz.underlying37 (.zn hk0))<|sL (t_pre3 VlT_ok Tryz.underlying37 (.own 0) (l.length:Int) l.length om ol om)<|sP (pB q13.1 0)<|sP (pB q13.1 9)<|s_mem (fun _ h=>Holds.pre3 (i:=0) h VlT_ok l.length rfl ol) ?_
 have hLL:((l.take (List.replicate (((l.length:Int)).toNat) VlT.zero).length++(List.replicate (((l.length:Int)).toNat) VlT.zero).drop l.length).take l.length)=l:=by simp
 refine s_mem (Bs:=own VlT (pre3 v61 l.length) l::blkA q13.1 #[iw o12.kind,iw o12.tag,sw o12.name,(tabV q13 o12),iw o12.mt.kind,iw o12.mt.p,iw o12.mt.q,sw o12.mt.str,iw o12.mt.ref,v26] 90::own VlT v26 o12.vals::tabO q13 o12::holeP ps2 st v.ref::blkA b #[.map (some mb20),iw (st.objs.length:Int),.map (some tb21)] 64::mpA iK oV mb20 ps2::mpA iK bV tb21 tm22::blkA g1 (vc v) 32::F) (fun _ h=>by rw[hLL]at h;exact h) ?_;refine sF 0 (fun hf62=>?_);refine s_store (u:=(pre3 v61 l.length)) (m:=1) 1 #[iw o12.kind,iw o12.tag,sw o12.name,(tabV q13 o12),iw o12.mt.kind,iw o12.mt.p,iw o12.mt.q,sw o12.mt.str,iw o12.mt.ref,(pre3 v61 l.length)] ?_ (hm:=by (obtain⟨_,_,e⟩:=hf62;rw[e];rfl)) (h1:=by (obtain⟨_,_,e⟩:=hf62;rw[e];rfl)) (ha':=by (obtain⟨_,_,e⟩:=hf62;rw[e];rfl));refine s_nr<|sP (pB b 0)<|sL (t_loadA 8 (vc v))<|s_fact (fun H h=>(h.mp (i:=6) rfl).nodup) (fun hnd63=>?_)
 refine s_mem (fun _ h=>all_unfocus (o':={ o12 with vals:=l }) hnd63 hq17 ho15 (ob_shut (o:={ o12 with vals:=l }) (h.re [1,0,1,1] []))) ?_;refine s_mem (Bs:=allP ps2 (st.put v.ref { o12 with vals:=l })::own VlT v26 o12.vals::blkA b #[.map (some mb20),iw (st.objs.length:Int),.map (some tb21)] 64::mpA iK oV mb20 ps2::mpA iK bV tb21 tm22::blkA g1 (vc v) 32::F) (fun _ h=>h) ?_;have hob64:=hi23.obs o12 (get_mem ho15).1;refine s_mem (fun _ h=>hp_shut (st:=(st.put v.ref { o12 with vals:=l })) (n:=(st.objs.length:Int)) ⟨⟨put_inv hi23 ⟨hob64.kind,hob64.tab,hob64.mt⟩,ha24.put ho15,ht25.put ho15⟩,by rw[put_len]⟩ (h.re [2,2,2,0] [])) ?_;refine s_call [0] (htouch_s (st:=(st.put v.ref { o12 with vals:=l })) (ps:=ps2) v (show Hst.get _ _=some { o12 with vals:=l } from by rw[get_put ho15,if_pos rfl]) 0) ?_;rw[if_pos (rfl)];rintro _ _ ⟨rfl,rfl⟩;refine sP (iw 0)<|s_nt<|k_ret ?_
 have hft:hisFT st v=true:=by rw[isFT_some hf14];simp_all
 have hp:=setRefs_ok ho15 hft (refs_end hi50.2 om);refine xs_mem (fun _ h=>hpA_shut (h.re [0] [])) ?_;refine xs_fin [iw 0] (hpA b ((st.put v.ref { o12 with vals:=l }).touch v.ref)::F) (SI.tmp 6 SI.nil) (rr [0] [1,1]) ⟨?_,?_⟩
 .rw [hp.2];try rfl
 rw[hp.1];try rfl
theorem halive_s{Z:Zone}{F:List Asr}{b:Nat}{st:Hst}(id:Int):SF Tryz.prog 41 #[.pointer (some ⟨b,0,none⟩),iw id] Z (hpA b st::F) fun r Bs=>r=.bool (halive st id)∧Bs=hpA b st::F:=by
 refine sf_enter Tryz.func41 16 [(0,pB b 0),(1,iw id)] (fun w0=>?_);refine k_memX (fun H h=>hpA_open (h.re [0] [])) (fun ps1 _=>?_);refine k_fact (fun H h=>hp_facts (h.re [0] [])) (fun hf2=>?_);obtain⟨hi3,ha4⟩:=hf2;refine k_mem3 (fun H h=>hp_open (h.re [0] [])) (fun mb5 tb6 tm7 hw=>?_);obtain⟨hi8,ha9,ht10⟩:=hw;refine k_sr<|sP (.bool false)<|s_nr<|sP (pB b 0)<|sP2 (.bool true)<|sP3 (pB b 0)<|sL (t_load 0 (.map (some mb5)))<|sP (iw id) ?_
 rcases get_cases ha9 id with ⟨hg11,hq12⟩|⟨o13,q14,ho15,hq16⟩
 .refine sL (Lt.to (v':=.pointer none) (t_lookup 1 intOk Tryz.underlying61 (.pointer none) id) (by rw[hq12];rfl))<|sP3 (.bool false)<|s_nt<|k_ret<|xs_mem (fun _ h=>hp_shut (st:=st) (n:=(st.objs.length:Int)) ⟨⟨hi8,ha9,ht10⟩,rfl⟩ (h.re [0,0,0,0] [])) ?_
  refine xs_mem (fun _ h=>hpA_shut (h.re [0] [])) ?_;refine xs_fin [.bool false] (hpA b st::F) (SI.tmp 4 SI.nil) (rr [0] []) ⟨?_,?_⟩
  .unfold halive;rw[hg11];rfl
  rfl
 refine sL (Lt.to (v':=ptrV q14.1) (t_lookup 1 intOk Tryz.underlying61 (.pointer none) id) (by rw[hq16];rfl))<|sP3 (.bool true)<|s_nt<|k_ret<|xs_mem (fun _ h=>hp_shut (st:=st) (n:=(st.objs.length:Int)) ⟨⟨hi8,ha9,ht10⟩,rfl⟩ (h.re [0,0,0,0] [])) ?_
 refine xs_mem (fun _ h=>hpA_shut (h.re [0] [])) ?_;refine xs_fin [.bool true] (hpA b st::F) (SI.tmp 4 SI.nil) (rr [0] []) ⟨?_,?_⟩
 .unfold halive;rw[ho15];rfl
 rfl
theorem hdrop_s{Z:Zone}{F:List Asr}{b:Nat}{st:Hst}(id:Int):SF Tryz.prog 37 #[.pointer (some ⟨b,0,none⟩),iw id] Z (hpA b st::F) fun r Bs=>r=iw (hdropE st id)∧Bs=hpA b (hdrop st id)::F:=by
 refine sf_enter Tryz.func37 21 [(0,pB b 0),(1,iw id)] (fun w0=>?_);refine k_memX (fun H h=>hpA_open (h.re [0] [])) (fun ps1 _=>?_);refine k_fact (fun H h=>hp_facts (h.re [0] [])) (fun hf2=>?_);obtain⟨hi3,ha4⟩:=hf2;refine k_mem3 (fun H h=>hp_open (h.re [0] [])) (fun mb5 tb6 tm7 hw=>?_);obtain⟨hi8,ha9,ht10⟩:=hw;refine k_fact (fun H h=>(h.mp (i:=1) rfl).nodup) (fun hnd0=>?_);refine k_sr<|sP (iw 0)<|s_nt<|k_seq<|k_block<|k_sr<|sP (pB b 0)<|sP2 (.bool false)<|s_nt<|k_false<|k_sr<|sP3 (pB b 0)<|sL (t_load 0 (.map (some mb5)))<|sP (iw id) ?_
 rcases get_cases ha9 id with ⟨hg11,hq12⟩|⟨o13,q14,ho15,hq16⟩
 .refine sL (Lt.to (v':=.pointer none) (t_lookup 1 intOk Tryz.underlying61 (.pointer none) id) (by rw[hq12];rfl))<|sP2 (.bool true)<|s_nt<|k_true<|k_sr<|sP (iw 19)<|s_nt<|k_ret<|xs_retBlock<|xs_ret<|xs_mem (fun _ h=>hp_shut (st:=st) (n:=(st.objs.length:Int)) ⟨⟨hi8,ha9,ht10⟩,rfl⟩ (h.re [0,0,0,0] [])) ?_
  refine xs_mem (fun _ h=>hpA_shut (h.re [0] [])) ?_;refine xs_fin [iw 19] (hpA b st::F) (SI.tmp 4 SI.nil) (rr [0] []) ⟨?_,?_⟩
  .unfold hdropE halive;rw[hg11];rfl
  unfold hdrop halive;rw[hg11];rfl
 refine sL (Lt.to (v':=ptrV q14.1) (t_lookup 1 intOk Tryz.underlying61 (.pointer none) id) (by rw[hq16];rfl))<|sP2 (.bool false)<|s_nt<|k_false<|k_skip<|xs_block<|xs_then<|k_sr<|sP3 (pB b 0)<|sL (t_load 0 (.map (some mb5)))<|sP (iw id)<|s_delete0 1 intOk Tryz.underlying61 id ?_
 refine s_mem (fun _ h=>all_drop hnd0 hq16 ho15 (h.re [3] [])) ?_;refine s_nr<|sP (iw 0)<|s_nt<|k_ret<|xs_mem (fun _ h=>hp_shut (st:=(hdrop st id)) (n:=(st.objs.length:Int)) ⟨⟨drop_inv hi8 id,HA.drop ha9 hnd0 hq16 ho15,TA.drop ht10 id⟩,by rw[drop_len.1]⟩ (h.re [1,1,1,0] [])) ?_
 refine xs_mem (fun _ h=>hpA_shut (h.re [0] [])) ?_;refine xs_fin [iw 0] (hpA b (hdrop st id)::F) (SI.tmp 4 SI.nil) (rr [0] []) ⟨?_,?_⟩
 .unfold hdropE halive;rw[ho15];rfl
 rfl
theorem hcount_s{Z:Zone}{F:List Asr}{b:Nat}{st:Hst}:SF Tryz.prog 18 #[.pointer (some ⟨b,0,none⟩)] Z (hpA b st::F) fun r Bs=>r=iw (st.count:Int)∧Bs=hpA b st::F:=by
 refine sf_enter Tryz.func18 10 [(0,pB b 0)] (fun w0=>?_);refine k_memX (fun H h=>hpA_open (h.re [0] [])) (fun ps1 _=>?_);refine k_fact (fun H h=>hp_facts (h.re [0] [])) (fun hf2=>?_);obtain⟨hi3,ha4⟩:=hf2;refine k_mem3 (fun H h=>hp_open (h.re [0] [])) (fun mb5 tb6 tm7 hw=>?_);obtain⟨hi8,ha9,ht10⟩:=hw;refine k_sr<|sP (iw 0)<|s_nt<|k_seq<|k_sr<|sP (pB b 0)<|sP (.bool false)<|s_nt<|k_false<|k_st<|k_sr<|sP3 (pB b 0)<|sL (t_load 0 (.map (some mb5)))<|sL (t_lenM 1 Tryz.underlying61)<|sP (iw (ps1.length:Int))<|s_nt<|k_ret<|xs_mem (fun _ h=>hp_shut (st:=st) (n:=(st.objs.length:Int)) ⟨⟨hi8,ha9,ht10⟩,rfl⟩ (h.re [0,0,0,0] [])) ?_
 refine xs_mem (fun _ h=>hpA_shut (h.re [0] [])) ?_;refine xs_fin [iw (ps1.length:Int)] (hpA b st::F) (SI.tmp 2 SI.nil) (rr [0] []) ⟨?_,?_⟩
 .rw [←ha9.len];rfl
 rfl
end Go.Proofs.YtmilekfknhglkaaGreat
end
section
set_option linter.unusedSimpArgs false
set_option linter.unusedVariables false
namespace Go.Proofs.YtmilekfknhglkaaGreat
def listE:List Vl→Nat→List (Vl×Vl)
 | [],_=>[]
 | v::r,i=>if v.kind≠0 then (ofI ((i:Int)+1),v)::listE r (i+1) else listE r (i+1)
def liveE(S:List Slt):List (Vl×Vl):=(live S).map fun s=>(s.key,s.val)
def tents(T:Tb):List (Vl×Vl):=listE T.list 0++liveE T.rest
def hdE:List (Vl×Vl)→Vl×Vl×Bool×Int
 | []=>(zVl,zVl,false,0)
 | p::_=>(p.1,p.2,true,0)
theorem hd_some{l:List (Vl×Vl)}(h:(hdE l).2.2.1=true):∃p tl,l=p::tl:=by
 cases l with
 | nil=>cases h
 | cons p tl=>exact⟨p,tl,rfl⟩
theorem hd_none{l:List (Vl×Vl)}(h:(hdE l).2.2.1=false):l=[]:=by
 cases l with
 | nil=>rfl
 | cons p tl=>cases h
theorem hd_err(l:List (Vl×Vl)):(hdE l).2.2.2=0:=by cases l<;>rfl
theorem onext_zero(S:List Slt):onext S zVl=hdE (liveE S):=by
 rw[onext_nil0];unfold liveE;cases live S<;>rfl
where onext_nil0:onext S zVl=((slotV (live S).head?).1,(slotV (live S).head?).2.1,(slotV (live S).head?).2.2,0):=by unfold onext;rw[if_pos rfl]
theorem seek_listE:∀(L:List Vl) (i:Nat),match seek L i with
  | none=>listE L i=[]
  | some p=>∃tl,listE L i=(ofI ((p.1:Int)+1),p.2)::tl
 | [],i=>rfl
 | v::r,i=>by
  rw[seek];by_cases h:v.kind≠0
  .rw [if_pos h];exact⟨_,by rw[listE,if_pos h]⟩
  rw[if_neg h];have:=seek_listE r (i+1);rw[listE,if_neg h];exact this
theorem after_hd(T:Tb)(n:Nat):tafter T n=hdE (listE (T.list.drop n) n++liveE T.rest):=by
 have h:=seek_listE (T.list.drop n) n;unfold tafter;cases hs:seek (T.list.drop n) n with
 | none=>rw[hs]at h;simp only at h;rw[h];exact onext_zero _
 | some p=>rw[hs]at h;obtain⟨tl,h⟩:=h;rw[h];rfl
theorem next_first(T:Tb):tnext T zVl=hdE (tents T):=by rw[tnext_nil,after_hd];rfl
theorem listE_split{R:List (Vl×Vl)}:∀(L:List Vl) (i:Nat) (pre:List (Vl×Vl)) (p:Vl×Vl) (tl:List (Vl×Vl)),listE L i++R=pre++p::tl→
  (∃j:Nat,i≤j∧j<i+L.length∧p.1=ofI ((j:Int)+1)∧tl=listE (L.drop (j+1-i)) (j+1)++R)∨∃pre',R=pre'++p::tl
 | [],i,pre,p,tl,h=>.inr ⟨pre,h⟩
 | y::r,i,pre,p,tl,h=>by
  rw[listE]at h;have go:∀pre',listE r (i+1)++R=pre'++p::tl→(∃j:Nat,i≤j∧j<i+(y::r).length∧p.1=ofI ((j:Int)+1)∧tl=listE ((y::r).drop (j+1-i)) (j+1)++R)∨∃pre',R=pre'++p::tl:=fun pre' h'=>by
   rcases listE_split r (i+1) pre' p tl h' with ⟨j,h1,h2,h3,h4⟩|h4
   .refine .inl ⟨j,by omega,by simp only[List.length_cons];omega,h3,?_⟩;rw[h4,show j+1-i=(j+1-(i+1))+1 by omega,List.drop_succ_cons]
   exact .inr h4
  split at h
  .cases pre with
   | nil=>
    simp only[List.cons_append,List.nil_append,List.cons.injEq]at h;refine .inl ⟨i,Nat.le_refl _,by simp,by rw[←h.1],?_⟩;rw[←h.2,show i+1-i=1 by omega];rfl
   | cons q pre'=>
    simp only[List.cons_append,List.cons.injEq]at h;exact go pre' h.2
  exact go pre h
theorem next_step{T:Tb}(h:TInv T)(hw:TW T)(hl:T.list.length≤2147483646){pre:List (Vl×Vl)}{p:Vl×Vl}{tl:List (Vl×Vl)}(he:tents T=pre++p::tl):tnext T p.1=hdE tl:=by
 rcases listE_split T.list 0 pre p tl he with ⟨j,_,h2,h3,h4⟩|⟨pre',h4⟩
 .obtain ⟨w1,w2,w3⟩:=whole_ofI (n:=(j:Int)+1) (by omega) (by omega);rw[h3,tnext_in w3 (by omega) (by omega),w1,show ((j:Int)+1).toNat=j+1 by omega,after_hd,h4];rfl
 unfold liveE at h4;obtain⟨A,B,hlv,hA,hB⟩:=List.map_eq_append_iff.1 h4;obtain⟨s,B',hB1,hp,hB2⟩:=List.map_eq_cons_iff.1 hB;subst hB1;subst hp;unfold live at hlv;obtain⟨l1,l2,hS,hl1,hl2⟩:=List.filter_eq_append_iff.1 hlv;obtain⟨m1,m2,hS2,hm1,hs,hm2⟩:=List.filter_eq_cons_iff.1 hl2;have hat:T.rest[(l1++m1).length]?=some s:=by rw[hS,hS2,←List.append_assoc,List.getElem?_append_right (Nat.le_refl _)];simp
 have hg:s.gone=false:=by simpa using hs
 have hm:=List.mem_of_getElem? hat;have hk:=h.rest.keys s hm;have hz:s.key≠zVl:=fun e=>hk.2 (by rw[e];rfl)
 have hout:=hw s (live_mem.2 ⟨hm,hg⟩);have hr:¬(1≤whole s.key∧whole s.key≤(T.list.length:Int)):=fun hc=>by rw[inB_iff.2 hc]at hout;cases hout
 have hlast:=h.rest.last hat hg;have hon:onext T.rest s.key=hdE tl:=by
  unfold onext;rw[if_neg hz,hlast];simp only;have hd:T.rest.drop ((l1++m1).length+1)=m2:=by
   rw[hS,hS2,←List.append_assoc,List.drop_append];simp
  rw[hd,←hB2];show _=hdE (List.map _ B');have:live m2=B':=hm2;rw[this];cases B'<;>rfl
 show tnext T s.key=_;rw[tnext_rest hz hr (by rw[hon];exact hd_err _),hon]
theorem listE_len:∀(L:List Vl) (i:Nat),(listE L i).length≤L.length
 | [],_=>Nat.le_refl _
 | v::r,i=>by
  have:=listE_len r (i+1);rw[listE];split<;>simp only[List.length_cons]<;>omega
theorem tents_len(T:Tb):(tents T).length≤T.list.length+T.rest.length:=by
 unfold tents liveE;rw[List.length_append,List.length_map];have h1:=listE_len T.list 0;have h2:=cnt_le T.rest;unfold cnt at h2;omega
theorem tents_valid{T:Tb}(h:TInv T):∀p∈tents T,validB p.1=true∧validB p.2=true:=by
 intro p hp;unfold tents at hp;rcases List.mem_append.1 hp with hp|hp
 .have gen:∀(L:List Vl) (i:Nat),(∀x∈L,validB x=true)→∀p∈listE L i,validB p.1=true∧validB p.2=true:=by
   intro L;induction L with
   | nil=>intro i _ p hp;cases hp
   | cons v r ih=>
    intro i hL p hp;rw[listE]at hp;split at hp
    .rcases List.mem_cons.1 hp with rfl|hp
     .exact ⟨ofI_valid _,hL v (by simp)⟩
     exact ih _ (fun x hx=>hL x (List.mem_cons_of_mem _ hx)) p hp
    exact ih _ (fun x hx=>hL x (List.mem_cons_of_mem _ hx)) p hp
  exact gen T.list 0 h.list p hp
 unfold liveE at hp;obtain⟨s,hs,rfl⟩:=List.mem_map.1 hp;obtain⟨h1,h2⟩:=live_mem.1 hs;exact⟨(h.rest.keys s h1).1,(h.rest.vals s h1 h2).1⟩
/-! ### What an object shows -/
theorem idn_valid{v:Vl}(h:validB v=true)(hr:isRef v.kind=true):idn v=v.ref∧1≤v.ref:=by
 unfold idn;rw[if_pos hr];refine⟨rfl,?_⟩;unfold isRef at hr;simp only[Bool.or_eq_true,decide_eq_true_eq]at hr;unfold validB at h;have h4:v.kind=4∨v.kind=5∨v.kind=7∨v.kind=8:=hr;rw[if_neg (by omega),if_neg (by omega),if_neg (by omega),if_neg (by omega),if_neg (by omega),if_pos h4,Bool.and_eq_true,decide_eq_true_eq,decide_eq_true_eq]at h;exact h.2
def refsL(l:List Vl)(i:Nat):List Int:=((l.take i).map idn).filter fun n=>decide (n≠0)
theorem refsL_step{l:List Vl}{i:Nat}{y:Vl}(h:l[i]?=some y):refsL l (i+1)=if idn y≠0 then refsL l i++[idn y] else refsL l i:=by
 unfold refsL;rw[List.take_add_one,h];simp only[Option.toList_some,List.map_append,List.map_cons,List.map_nil,List.filter_append];by_cases hy:idn y≠0
 .rw [if_pos hy,List.filter_cons_of_pos (by simpa using hy)];rfl
 rw[if_neg hy,List.filter_cons_of_neg (by simpa using hy)];simp
theorem refsL_end{l:List Vl}{i:Nat}(h:l.length≤i):refsL l i=(l.map idn).filter fun n=>decide (n≠0):=by unfold refsL;rw[List.take_of_length_le h]
theorem refsL_len(l:List Vl)(i:Nat):(refsL l i).length≤i:=by
 unfold refsL;refine Nat.le_trans (List.length_filter_le _ _) ?_;rw[List.length_map,List.length_take];omega
def hweak(o:Hob)(weak:Int):Int:=if o.kind=4∧0≤weak∧weak≤3 then weak else 0
end Go.Proofs.YtmilekfknhglkaaGreat
end
section
set_option linter.unusedSimpArgs false
set_option linter.unusedVariables false
namespace Go.S
open Go.Hp Go.J Go.RowKit Go.Maps
open Go.Mem (Ty KTy blk intK)
open Go.WideElems (Fit rd rg rd_mk rg_of)
open Go.WideShapes (sorted_perm)
section
variable{P:Program}
def anyR:Value→Option (DataW Unit×List MemPlace):=fun _=>some (.lit (.bool true),[])
theorem own_of_row{w:World}{base:Nat}{e:TypeId}{v:Value}{ss:List Int}(h:w.ownsRow base e 1 v ss.length (ss.map encZ)):Ow w.heap (iT e) v ss∧∀k,blk v=some k→base≤k:=by
 obtain⟨_,⟨rfl,h0⟩|⟨g,cap,cur,rfl,hg,hb,hc,hm,hs,ht⟩⟩:=h
 .exact ⟨.inl ⟨rfl,List.length_eq_zero_iff.1 h0⟩,fun k hk=>by simp[blk,Value.ownBlock]at hk⟩
 refine⟨.inr ⟨g,cap,cur,rfl,hb,hc,hm,by rw[hs];exact Nat.le_refl _,?_⟩,fun k hk=>?_⟩
 .rw [flat_int];exact ht
 simp only[blk,Value.ownBlock,Option.some.injEq]at hk;omega
theorem srt_perm2{A B:List Int}(h:A.Perm B):srt A=srt B:=mergeSort_of_perm_i h
def intV:Value→Int
 | .int _ n=>n
 | _=>0
theorem map_owns{w:World}{k:TypeId}{β:Type}{V:β→Value}{b:Nat}{m:List (Int×β)}(h:Mp w.heap (intK k) V b m)(hk:P.underlying k=some (.int .i64))(hw:∀p∈m,(Lit.int .i64 p.1).wf=true)(hl:m.length≤maxLen):
  ∃D0:DataW Unit,w.ownsMap P k anyR b m.length D0∧Maps.size D0=m.length∧(intKeys D0).Perm (m.map Prod.fst):=by
 obtain⟨es,clock,hb,he,hn,hs⟩:=h;have hlen:es.toList.length=m.length:=by have:=congrArg List.length he;simpa using this
 have hkeys:es.toList.map (·.key)=m.map fun p=>Value.int .i64 p.1:=by
  have:=congrArg (List.map Prod.fst) he;rw[List.map_map,List.map_map]at this;exact this
 have hrd:∀x∈es.toList,∃n:Int,x.key=.int .i64 n∧rd P k anyR x=some (.int .i64 n,.lit (.bool true)):=fun x hx=>by
  have hm:x.key∈es.toList.map (·.key):=List.mem_map.2 ⟨x,hx,rfl⟩;rw[hkeys]at hm;obtain⟨p,hp,e⟩:=List.mem_map.1 hm;have hko:keyOf P k x.key=some (.int .i64 p.1):=by
   rw[←e];unfold keyOf;rw[hk];simp only[mapKey,hk,hw p hp,and_self,if_true]
  exact⟨p.1,e.symm,rd_mk (kl:=.int .i64 p.1) (yv:=(.lit (.bool true),[])) hko rfl⟩
 refine⟨.map ((es.toList.map (rg P k anyR)).foldr DataW.insert []),⟨es,clock,hb,⟨?_,⟨fun x hx=>hs.2 x hx,hs.1,?_⟩,fun x hx=>?_⟩,?_,rfl⟩,?_,?_⟩
 .rw [←Array.length_toList,hlen];exact hl
 .rw [hkeys];have h1:(m.map Prod.fst).Pairwise (· ≠ ·):=hn;rw[List.pairwise_map]at h1;exact List.pairwise_map.2 (h1.imp fun hne e=>hne (by injection e))
 .obtain ⟨n,_,h⟩:=hrd x hx;exact⟨_,h⟩
 .rw [←Array.length_toList,hlen];exact Nat.le_refl _
 .rw [Maps.size_eq,(sorted_perm _).length_eq,List.length_map,hlen]
 .show ((((es.toList.map (rg P k anyR)).foldr DataW.insert []).map fun p=>intOf p.1)).Perm _;refine ((sorted_perm _).map _).trans ?_;rw[List.map_map];have e1:es.toList.map ((fun p:Lit×DataW Unit=>intOf p.1) ∘ rg P k anyR)=(es.toList.map (·.key)).map intV:=by
   rw[List.map_map];refine List.map_congr_left fun x hx=>?_
   obtain⟨n,h1,h2⟩:=hrd x hx;show intOf (rg P k anyR x).1=intV x.key;rw[rg_of h2,h1];rfl
  rw[e1,hkeys,List.map_map];exact List.Perm.of_eq rfl
theorem sf_sorted {f it : FuncId} {k tt : TypeId} {β : Type} {V : β → Value} {b g : Nat} {m : List (Int × β)} {Z : Zone} {F : List Asr} (hk : P.underlying k = some (.int .i64)) (hw : ∀ p ∈ m, (Lit.int .i64 p.1).wf = true) (hl : m.length ≤ 1000000)
    (hs : ∀ (nn : Nat) (D0 : DataW Unit) (w : World), g < w.heap.size → w.cell? ⟨g, 0, none⟩ = some (.map (some b)) → w.ownsMap P k anyR b nn D0 → Maps.size D0 ≤ maxLen → Maps.size D0 * 8 ≤ 140737488355328 →
      Calls P f #[.func (.func it) #[] #[.pointer (some ⟨g, 0, none⟩)]] w fun e w' => ∃ (v : Value) (ss : List Int), e = .returned v ∧ ss.Perm (intKeys D0) ∧ w'.ownsRow w.heap.size k 1 v ss.length ((ss.mergeSort (fun x y => decide (x ≤ y))).map encZ) ∧ (v = .slice none 0 0 ↔ ss = []) ∧ Below w.heap.size w w') :
    SF P f #[.func (.func it) #[] #[.pointer (some ⟨g, 0, none⟩)]] Z (blkA g #[.map (some b)] tt :: mpA (intK k) V b m :: F) fun v Bs => Bs = own (iT k) v (srt (m.map Prod.fst)) :: mpA (intK k) V b m :: F := fun H hH w hwh => by
  have hblk := hH.blk (i := 0) rfl
  have hmp := hH.mp (i := 1) rfl
  rw [← hwh] at hblk hmp
  obtain ⟨D0, h1, h2, h3⟩ := map_owns hmp hk hw (Nat.le_trans hl (by decide))
  have hc : w.cell? ⟨g, 0, none⟩ = some (.map (some b)) := by rw [cell_of_row w g 0 _ _ _ hblk]; rfl
  refine (hs _ D0 w (lt_of_some hblk) hc h1 (by rw [h2]; exact Nat.le_trans hl (by decide)) (by rw [h2]; omega)).mono fun e w' ⟨v, ss, he, hp, hrow, _, hb⟩ => ⟨v, he, ⟨rfl, hb.os, hb.tape, hb.output⟩, _, rfl, ?_⟩
  have e1 : ss.mergeSort (fun x y => decide (x ≤ y)) = srt (m.map Prod.fst) := srt_perm2 (hp.trans h3)
  have e2 : ss.length = (srt (m.map Prod.fst)).length := by rw [← e1, List.length_mergeSort]
  rw [e1, e2] at hrow
  obtain ⟨ow, hlo⟩ := own_of_row hrow
  have hch : Chg (fun _ => False) H w'.heap := by
    rw [← hwh]; exact ⟨hb.size, fun j hj _ => hb.block j hj⟩
  exact (hH.tail).new hch (S' := fun j => blk v = some j) ⟨ow, fun j => Iff.rfl⟩ fun j hj => by rw [← hwh]; exact hlo j hj
end
end Go.S
end
