/-
  Tables of the reference. Each law says its conditions.
-/
import Derived.Test.YtmhpcebiamkciaaGreatG2
import Derived.Test.YtmhpcebiamkciaaGreatG1
import Derived.Shelf.Sort.Plain
import Derived.Lib.SlKeysI
import Derived.Shelf.SlIterI.Nil
import Derived.Shelf.SortM.Plain
import Derived.Shelf.SortM.SortNone
import Derived.Ground.GgzProg
import Derived.Ground.SlgmProg
section
set_option linter.unusedSimpArgs false
set_option linter.unusedVariables false
set_option maxRecDepth 100000
set_option maxHeartbeats 2000000
namespace Go.Proofs.YtmhpcebiamkciaaGreat
open Go.Hp Go.J Go.S
open Go.Mem (Ty KTy blk elemAt pre suf blk_pre blk_suf aget aset strK aggDesc)
open Go.Mem (adel apos aget_aset aget_adel)
def rtA(b:Nat)(L:List Vl)(S:List Slt):Asr:=exA fun lv=>exA fun r=>stA True [blkA b #[lv,.pointer (some ⟨r,0,none⟩)] 229,own VlT lv L,rmA r S]
theorem rt_open{b:Nat}{L:List Vl}{S:List Slt}{Z:Zone}{F:List Asr}{H:Heap}(h:Holds Z (rtA b L S::F) H):∃(lv:Value) (r:Nat),True∧Holds Z (blkA b #[lv,.pointer (some ⟨r,0,none⟩)] 229::own VlT lv L::rmA r S::F) H:=by
 obtain⟨lv,h⟩:=h.open_ex;obtain⟨r,h⟩:=h.open_ex;exact⟨lv,r,h.open_st⟩
theorem rt_shut{b:Nat}{L:List Vl}{S:List Slt}{Z:Zone}{F:List Asr}{H:Heap}{lv:Value}{r:Nat}(h:Holds Z (blkA b #[lv,.pointer (some ⟨r,0,none⟩)] 229::own VlT lv L::rmA r S::F) H):Holds Z (rtA b L S::F) H:=
 Holds.shut_ex lv (Holds.shut_ex r (Holds.shut_st trivial h))
theorem rt_inv{b:Nat}{L:List Vl}{S:List Slt}{Z:Zone}{F:List Asr}{H:Heap}(h:Holds Z (rtA b L S::F) H):OInv S:=by
 obtain⟨_,_,_,h⟩:=rt_open h;exact rm_inv (h.re [2] [])
theorem whole_not{k:Vl}(h:k.kind≠2∨validB k=false):whole k=0:=by
 unfold whole;rcases h with h|h<;>simp[h]
theorem whole_yes{k:Vl}(h1:k.kind=2)(h2:validB k=true):whole k=if k.q=1 then k.p else 0:=by
 unfold whole;simp[h1,h2]
theorem num_valid{k:Vl}(h1:k.kind=2)(h2:validB k=true):validN k.p k.q=true:=by
 unfold validB at h2;rw[h1,if_neg (by decide),if_neg (by decide),if_pos rfl,Bool.and_eq_true]at h2;exact h2.2
theorem oget_valid0{S:List Slt}(h:OInv S){k:Vl}(hk:validB k=false):oget S k=zVl:=oget_bad h (by simp[okKey,hk])
theorem tget_ref{T:Tb}(h:OInv T.rest){k:Vl}(hb:¬(1≤whole k∧whole k≤(T.list.length:Int))):tget T k=oget T.rest k:=by
 cases hv:validB k with
 | false=>rw[tget_bad hv,oget_valid0 h hv]
 | true=>exact tget_out hv hb
theorem whole_valid{k:Vl}(h:1≤whole k):validB k=true:=by
 cases hv:validB k with
 | true=>rfl
 | false=>rw[whole_not (.inr hv)]at h;omega
theorem rwhole_s{Z:Zone}(p q:Int):SF Tryz.prog 239 #[.agg #[iw p,iw q]] Z [] fun r Bs=>r=.tuple #[iw (if validN p q=true∧q=1 then p else 0),.bool (validN p q&&decide (q=1))]∧Bs=[]:=by
 refine sf_enter Tryz.func239 13 [(0,.agg #[iw p,iw q])] (fun w0=>?_);refine k_sr<|s_box #[iw p,iw q] (fun g1=>?_)
 refine sP (iw 0)<|sP (.bool false)<|s_nt<|k_seq<|k_sr<|sL (t_loadA 0 #[iw p,iw q])<|sV (fun _ h=>rvnum_s p q)<|sP (.bool (validN p q))<|s_fork 6 (validN p q) (fun c2=>?_) (fun c2=>?_)
 .refine sP (pB g1 1)<|sL (t_load 0 (iw q))<|sL t_cmp<|sP (.bool (decide (q=1)))<|s_nt<|k_cond (decide (q=1)) (fun c3=>?_) (fun c3=>?_)
  .have p4:=dY c3;refine k_sr<|sP (pB g1 0)<|sL (t_load 0 (iw p))<|sP (iw p)<|sP (.bool true)<|s_nt<|k_ret<|xs_ret<|xs_fin [iw p,.bool true] [] (SI.tmp 2 (SI.tmp 3 SI.nil)) (rr [] [0]) ⟨?_,rfl⟩
   show Value.tuple _=Value.tuple _;first|(simp[c2,c3,c2,p4];done)|simp_all
  have p5:=dF c3;refine k_st<|k_sr<|sP (iw 0)<|sP (.bool false)<|s_nt<|k_ret<|xs_fin [iw 0,.bool false] [] (SI.tmp 2 (SI.tmp 3 SI.nil)) (rr [] [0]) ⟨?_,rfl⟩
  show Value.tuple _=Value.tuple _;first|(simp[c2,c3,c2,p5];done)|simp_all
 refine sK<|sK<|sK<|sP (.bool false)<|s_nt<|k_false<|k_st<|k_sr<|sP (iw 0)<|sP (.bool false)<|s_nt<|k_ret<|xs_fin [iw 0,.bool false] [] (SI.tmp 2 (SI.tmp 3 SI.nil)) (rr [] [0]) ⟨?_,rfl⟩
 show Value.tuple _=Value.tuple _;first|(simp[c2,c2];done)|simp_all
theorem rwhole2_s{Z:Zone}(k:Vl):SF Tryz.prog 197 #[k.v] Z [] fun r Bs=>r=iw (whole k)∧Bs=[]:=by
 refine sf_enter Tryz.func197 20 [(0,.agg (vc k))] (fun w0=>?_);refine k_sr<|s_box (vc k) (fun g1=>?_)
 refine sP (iw 0)<|s_nt<|k_seq<|k_cut (ι:=Unit) (fun _=>True) (fun _=>[(1,pB g1 0),(12,.bool ((decide (k.kind≠2))||(!(validB k))))]) (fun _=>[blkA g1 (vc k) 71]) ?_ (fun _ _=>?_)
 .refine k_reg<|sP (pB g1 0)<|sL (t_load 0 (iw k.kind))<|sL t_cmp<|sP (.bool (decide (k.kind≠2)))<|s_fork 8 (decide (k.kind≠2)) (fun c2=>?_) (fun c2=>?_)
  .have p3:=dY c2;refine sK<|sK<|sK<|sP (.bool true)<|s_nil ?_
   exact xs_cut () trivial (sub_of rfl (rQ ⟨⟨rfl,cB (by simp[c2])⟩,trivial⟩)) (rr [0] [])
  have p4:=Decidable.not_not.1 (dF c2);refine sL (t_loadA 0 (vc k))<|sV (fun _ h=>rvalid_s k)<|sP2 (.bool (!(validB k)))<|s_nil ?_
  exact xs_cut () trivial (sub_of rfl (rQ ⟨⟨rfl,cB (by simp[c2])⟩,trivial⟩)) (rr [0] [])
 refine k_cond ((decide (k.kind≠2))||(!(validB k))) (fun c5=>?_) (fun c5=>?_)
 .have p6:=c5;simp only[Bool.and_eq_true,Bool.or_eq_true,Bool.and_eq_false_iff,Bool.or_eq_false_iff,Bool.not_eq_true',Bool.not_eq_false',decide_eq_true_eq,decide_eq_false_iff_not]at p6;refine k_sr<|sP (iw 0)<|s_nt<|k_ret<|xs_ret<|xs_fin _ _ (SI.tmp 2 SI.nil) (rr [] [0]) ⟨cI ?_,rfl⟩
  exact (whole_not (by first|exact p6|exact .inl p6|exact .inr p6)).symm
 obtain⟨c7,c8⟩:=or_f c5;have p9:=Decidable.not_not.1 (dF c7);have c10:=not_f c8;refine k_st<|k_sr<|sP (pB g1 1)<|sL (t_loadA 0 #[iw k.p,iw k.q])<|sV (fun _ h=>rwhole_s k.p k.q)<|sP (.tuple #[iw (if validN k.p k.q=true∧k.q=1 then k.p else 0),.bool (validN k.p k.q&&decide (k.q=1))])<|sP (iw (if validN k.p k.q=true∧k.q=1 then k.p else 0))<|sP (.bool (validN k.p k.q&&decide (k.q=1)))<|sP (iw (if validN k.p k.q=true∧k.q=1 then k.p else 0))<|sP (.bool (validN k.p k.q&&decide (k.q=1)))<|s_nr<|sP2 (iw (if validN k.p k.q=true∧k.q=1 then k.p else 0))<|s_nt<|k_ret<|xs_fin _ _ (SI.tmp 2 SI.nil) (rr [] [0]) ⟨cI ?_,rfl⟩
 have h2:k.kind=2:=Decidable.not_not.1 (dF c7);rw[whole_yes h2 c10,num_valid h2 c10];simp
theorem rtnew_s{Z:Zone}:SF Tryz.prog 138 #[] Z [] fun r Bs=>∃b,r=.pointer (some ⟨b,0,none⟩)∧Bs=[rtA b [] []]:=by
 refine sf_enter Tryz.func138 4 [] (fun w0=>?_);refine k_sr<|sP (.pointer none)<|s_nr<|s_pcall (fun _ h=>rmnew_s) ?_
 rintro _ _ ⟨r1,rfl,rfl⟩;refine sL (t_kern (.agg #[nS,pB r1 0]))<|s_box #[nS,pB r1 0] (fun g2=>?_)
 refine sP (pB g2 0)<|s_nt<|k_ret<|xs_fin _ _ (SI.tmp 0 SI.nil) (fun _ h=>rt_shut (b:=g2) (lv:=nS) (r:=r1) ((Holds.nilS (T:=VlT) h).re [1,0,0] [])) ⟨g2,rfl,rfl⟩
theorem rtget_s{Z:Zone}{F:List Asr}{b:Nat}{L:List Vl}{S:List Slt}(hl:L.length≤1000000)(hs:S.length≤1000000)(k:Vl):SF Tryz.prog 207 #[.pointer (some ⟨b,0,none⟩),k.v] Z (rtA b L S::F) fun r Bs=>r=(tget ⟨L,S⟩ k).v∧Bs=rtA b L S::F:=by
 refine sf_enter Tryz.func207 36 [(0,pB b 0),(1,.agg (vc k))] (fun w0=>?_);refine k_fact (fun H h=>rt_inv (h.re [0] [])) (fun hinv0=>?_);have hol:=okeys_len S;refine k_sr<|s_box (vc k) (fun g1=>?_)
 refine s_alloc (.agg zc) zc (fun g2=>?_);refine s_nt<|k_seq<|k_sr<|sP (pB b 0)<|sP (.bool false)<|s_nt<|k_false<|k_st<|k_seq<|k_sr<|sL (t_loadA 1 (vc k))<|sV (fun _ h=>rwhole2_s k)<|sP (iw (whole k))<|s_nr<|sP (iw (whole k))<|sL t_cmp<|sP (.bool (decide ((1:Int)≤(whole k))))<|s_fork 13 (decide ((1:Int)≤(whole k))) (fun c3=>?_) (fun c3=>?_)
 .have p4:=dY c3;refine sP (iw (whole k))<|sP3 (pB b 0)<|s_mem2 (fun H h=>rt_open (h.re [2] [])) (fun lv5 r6 hw=>?_)
  refine sL (t_load 0 lv5)<|sL (t_len VlT_ok Tryz.underlying28 (.own 1))<|sL t_cmp<|sP (.bool (decide ((whole k)≤(L.length:Int))))<|s_nt<|k_cond (decide ((whole k)≤(L.length:Int))) (fun c7=>?_) (fun c7=>?_)
  .have p8:=dY c7;refine k_sr<|sP3 (pB b 0)<|sL (t_load 0 lv5)<|sP (iw (whole k))<|sL (t_sub (whole k) 1 ol)<|sL (t_index VlT_ok Tryz.underlying28 (.own 1) ((whole k)-1) ((((whole k)-1)).toNat) om ol om) ?_
   obtain⟨y9,hy10⟩:∃y,L[(((whole k)-1)).toNat]?=some y:=⟨_,List.getElem?_eq_getElem ol⟩;refine sL (t_loadE VlT_ok (.own 1) hy10)<|s_store 3 (vc y9) ?_
   refine s_nt<|k_ret<|xs_ret<|xs_mem (fun _ h=>rt_shut (h.re [0,0,0] [])) ?_
   refine xs_fin [.agg (vc y9)] (rtA b L S::F) (SI.agg 4 71 1 SI.nil) (rr [0] [1,1]) ⟨?_,rfl⟩;rw[tget_in (T:=⟨L,S⟩) (whole_valid om) om (by show _≤(L.length:Int);omega) hy10];rfl
  have p11:=dF c7;refine k_st<|k_seq<|k_draw<|sP2 (pB b 0)<|sP (pB b 1)<|sL (t_load 0 (pB r6 0))<|sL (t_loadA 4 (vc k))<|sC [2] (rmget_s (S:=S) ol k) ?_
  refine s_store 3 (vc (oget S k)) ?_;refine s_nil<|x_dynS (fun _ h=>by kernel_rfl) ?_
  refine xs_then<|k_ret<|xs_mem (fun _ h=>rt_shut (h.re [1,1,0] [])) ?_
  refine xs_fin [.agg (vc (oget S k))] (rtA b L S::F) (SI.agg 4 71 1 SI.nil) (rr [0] [1,1]) ⟨?_,rfl⟩;rw[tget_ref (T:=⟨L,S⟩) hinv0 (by show ¬(_∧_≤(L.length:Int));omega)];rfl
 have p12:=dF c3;refine sK<|sK<|sK<|sK<|sK<|sK<|sK<|sP (.bool false)<|s_nt<|k_false<|k_st<|k_seq<|k_draw<|sP2 (pB b 0)<|sP (pB b 1)<|s_mem2 (fun H h=>rt_open (h.re [2] [])) (fun lv13 r14 hw=>?_)
 refine sL (t_load 0 (pB r14 0))<|sL (t_loadA 4 (vc k))<|sC [2] (rmget_s (S:=S) ol k) ?_
 refine s_store 3 (vc (oget S k)) ?_;refine s_nil<|x_dynS (fun _ h=>by kernel_rfl) ?_
 refine xs_then<|k_ret<|xs_mem (fun _ h=>rt_shut (h.re [1,1,0] [])) ?_
 refine xs_fin [.agg (vc (oget S k))] (rtA b L S::F) (SI.agg 4 71 1 SI.nil) (rr [0] [1,1]) ⟨?_,rfl⟩;rw[tget_ref (T:=⟨L,S⟩) hinv0 (by show ¬(_∧_≤(L.length:Int));omega)];rfl
theorem rtpurge_s{Z:Zone}{F:List Asr}{b:Nat}{L:List Vl}{S:List Slt}(hl:L.length≤1000000)(hs:S.length≤100000){n:Nat}{x:Int}(hn:n≤L.length)(hx:x=(n:Int)+1):SF Tryz.prog 201 #[.pointer (some ⟨b,0,none⟩),iw x] Z (rtA b L S::F) fun r Bs=>r=.tuple #[]∧Bs=rtA b L (if staleB S n L.length then purge S L.length else S)::F:=by
 refine sf_enter Tryz.func201 90 [(0,pB b 0),(1,iw x)] (fun w0=>?_);refine k_fact (fun H h=>rt_inv (h.re [0] [])) (fun hinv0=>?_);have hol:=okeys_len S;refine k_sr<|sP (.bool false)<|s_nt<|k_seq<|k_sr<|sP2 (iw x)<|s_nt<|k_block<|k_loop (ι:=Nat) (fun j=>n≤j∧j≤L.length) (fun j=>[(0,pB b 0),(4,.bool (staleB S n j)),(5,iw ((j:Int)+1))]) (fun j=>rtA b L S::F) (fun j=>L.length-j) n ⟨Nat.le_refl _,hn⟩ (sub_of rfl (rQ ⟨⟨rfl,cB (staleB_self S n).symm⟩,⟨⟨rfl,cI hx⟩,trivial⟩⟩)) (rr [0] []) ?_
 rintro j hi1;show SK _ _ _ _ _ [(0,.pointer (some ⟨b,0,none⟩)),(4,.bool (staleB S n j)),(5,iw ((j:Int)+1))] _ (rtA b L S::F);refine k_seq<|k_sr<|sP (iw ((j:Int)+1))<|sP3 (pB b 0)<|s_mem2 (fun H h=>rt_open (h.re [0] [])) (fun lv2 r3 hw=>?_)
 refine sL (t_load 0 lv2)<|sL (t_len VlT_ok Tryz.underlying28 (.own 1))<|sL t_cmp<|s_nt<|k_cond (decide (((j:Int)+1)≤(L.length:Int))) (fun c4=>?_) (fun c4=>?_)
 .have p5:=dY c4;refine k_st<|k_seq<|k_block<|k_cut (ι:=Unit) (fun _=>True) (fun _=>[(0,pB b 0),(4,.bool (staleB S n j)),(5,iw ((j:Int)+1)),(9,iw ((onext S (ofI ((j:Int)+1))).2.2.2))]) (fun _=>blkA b #[lv2,pB r3 0] 229::own VlT lv2 L::rmA r3 S::F) ?_ (fun _ _=>?_)
  .refine k_held [blkA b #[lv2,pB r3 0] 229,own VlT lv2 L] ?_;refine hp_ 0 [0,0] (pB b 0) ?_;refine hp_ 1 [0,0] (pB b 0) ?_;refine hp_ 2 [0,0] (pB b 1) ?_;refine h_l 3 rfl [0,0] (fun _=>(t_load 0 (pB r3 0))) ?_;refine hp_ 4 [0,0] (iw ((j:Int)+1)) ?_;refine h_stepS3 5 12 13 ?_ ?_ ?_
   .refine sV (fun _ h=>rkey_s ((j:Int)+1))<|nH [0,0]<|h_stepS3 6 12 13 ?_ ?_ ?_
    .refine sC [2] (rmnext_s (S:=S) ol (ofI ((j:Int)+1))) ?_;refine nH [1,1]<|hp_ 7 [1,1] (.tuple #[.agg (vc ((onext S (ofI ((j:Int)+1))).1)),.agg (vc ((onext S (ofI ((j:Int)+1))).2.1)),.bool ((onext S (ofI ((j:Int)+1))).2.2.1),iw ((onext S (ofI ((j:Int)+1))).2.2.2)]) ?_
     refine hp_ 8 [1,1] (.agg (vc ((onext S (ofI ((j:Int)+1))).1))) ?_;refine hp_ 9 [1,1] (.agg (vc ((onext S (ofI ((j:Int)+1))).2.1))) ?_;refine hp_ 10 [1,1] (.bool ((onext S (ofI ((j:Int)+1))).2.2.1)) ?_;refine hp_ 11 [1,1] (iw ((onext S (ofI ((j:Int)+1))).2.2.2)) ?_;refine h_stepS2 12 13 ?_ ?_
     .refine s_alloc (.agg zc) zc (fun g6=>?_);refine nH [2,2]<|h_stepS 13 ?_
      refine s_alloc (.agg zc) zc (fun g7=>?_);refine nH [3,3]<|h_stepS 14 ?_
      refine s_store 1 (vc ((onext S (ofI ((j:Int)+1))).1)) ?_;refine nH [3,3]<|h_stepS 15 ?_
      refine s_store 0 (vc ((onext S (ofI ((j:Int)+1))).2.1)) ?_;refine nH [3,3]<|hp_ 16 [3,3] (.bool ((onext S (ofI ((j:Int)+1))).2.2.1)) ?_
      refine hp_ 17 [3,3] (iw ((onext S (ofI ((j:Int)+1))).2.2.2)) ?_;refine h_doneS ?_;exact xcut () (rr [3,3,2] [3,3])
     refine s_alloc (.agg zc) zc (fun g8=>?_);refine nH [2,2]<|h_stepS 12 ?_
     refine s_alloc (.agg zc) zc (fun g9=>?_);refine nH [3,3]<|h_stepS 14 ?_
     refine s_store 0 (vc ((onext S (ofI ((j:Int)+1))).1)) ?_;refine nH [3,3]<|h_stepS 15 ?_
     refine s_store 1 (vc ((onext S (ofI ((j:Int)+1))).2.1)) ?_;refine nH [3,3]<|hp_ 16 [3,3] (.bool ((onext S (ofI ((j:Int)+1))).2.2.1)) ?_
     refine hp_ 17 [3,3] (iw ((onext S (ofI ((j:Int)+1))).2.2.2)) ?_;refine h_doneS ?_;exact xcut () (rr [3,3,2] [3,3])
    .refine s_alloc (.agg zc) zc (fun g10=>?_);refine nH [1,1]<|h_stepS2 6 13 ?_ ?_
     .refine sC [3] (rmnext_s (S:=S) ol (ofI ((j:Int)+1))) ?_;refine nH [2,2]<|hp_ 7 [2,2] (.tuple #[.agg (vc ((onext S (ofI ((j:Int)+1))).1)),.agg (vc ((onext S (ofI ((j:Int)+1))).2.1)),.bool ((onext S (ofI ((j:Int)+1))).2.2.1),iw ((onext S (ofI ((j:Int)+1))).2.2.2)]) ?_
      refine hp_ 8 [2,2] (.agg (vc ((onext S (ofI ((j:Int)+1))).1))) ?_;refine hp_ 9 [2,2] (.agg (vc ((onext S (ofI ((j:Int)+1))).2.1))) ?_;refine hp_ 10 [2,2] (.bool ((onext S (ofI ((j:Int)+1))).2.2.1)) ?_;refine hp_ 11 [2,2] (iw ((onext S (ofI ((j:Int)+1))).2.2.2)) ?_;refine h_stepS 13 ?_;refine s_alloc (.agg zc) zc (fun g11=>?_);refine nH [3,3]<|h_stepS 14 ?_
      refine s_store 2 (vc ((onext S (ofI ((j:Int)+1))).1)) ?_;refine nH [3,3]<|h_stepS 15 ?_
      refine s_store 0 (vc ((onext S (ofI ((j:Int)+1))).2.1)) ?_;refine nH [3,3]<|hp_ 16 [3,3] (.bool ((onext S (ofI ((j:Int)+1))).2.2.1)) ?_
      refine hp_ 17 [3,3] (iw ((onext S (ofI ((j:Int)+1))).2.2.2)) ?_;refine h_doneS ?_;exact xcut () (rr [3,3,1] [3,3])
     refine s_alloc (.agg zc) zc (fun g12=>?_);refine nH [2,2]<|h_stepS 6 ?_
     refine sC [4] (rmnext_s (S:=S) ol (ofI ((j:Int)+1))) ?_;refine nH [3,3]<|hp_ 7 [3,3] (.tuple #[.agg (vc ((onext S (ofI ((j:Int)+1))).1)),.agg (vc ((onext S (ofI ((j:Int)+1))).2.1)),.bool ((onext S (ofI ((j:Int)+1))).2.2.1),iw ((onext S (ofI ((j:Int)+1))).2.2.2)]) ?_
     refine hp_ 8 [3,3] (.agg (vc ((onext S (ofI ((j:Int)+1))).1))) ?_;refine hp_ 9 [3,3] (.agg (vc ((onext S (ofI ((j:Int)+1))).2.1))) ?_;refine hp_ 10 [3,3] (.bool ((onext S (ofI ((j:Int)+1))).2.2.1)) ?_;refine hp_ 11 [3,3] (iw ((onext S (ofI ((j:Int)+1))).2.2.2)) ?_;refine h_stepS 14 ?_;refine s_store 2 (vc ((onext S (ofI ((j:Int)+1))).1)) ?_;refine nH [3,3]<|h_stepS 15 ?_
     refine s_store 1 (vc ((onext S (ofI ((j:Int)+1))).2.1)) ?_;refine nH [3,3]<|hp_ 16 [3,3] (.bool ((onext S (ofI ((j:Int)+1))).2.2.1)) ?_
     refine hp_ 17 [3,3] (iw ((onext S (ofI ((j:Int)+1))).2.2.2)) ?_;refine h_doneS ?_;exact xcut () (rr [3,3,0] [3,3])
    refine s_alloc (.agg zc) zc (fun g13=>?_);refine nH [1,1]<|h_stepS2 6 12 ?_ ?_
    .refine sC [3] (rmnext_s (S:=S) ol (ofI ((j:Int)+1))) ?_;refine nH [2,2]<|hp_ 7 [2,2] (.tuple #[.agg (vc ((onext S (ofI ((j:Int)+1))).1)),.agg (vc ((onext S (ofI ((j:Int)+1))).2.1)),.bool ((onext S (ofI ((j:Int)+1))).2.2.1),iw ((onext S (ofI ((j:Int)+1))).2.2.2)]) ?_
     refine hp_ 8 [2,2] (.agg (vc ((onext S (ofI ((j:Int)+1))).1))) ?_;refine hp_ 9 [2,2] (.agg (vc ((onext S (ofI ((j:Int)+1))).2.1))) ?_;refine hp_ 10 [2,2] (.bool ((onext S (ofI ((j:Int)+1))).2.2.1)) ?_;refine hp_ 11 [2,2] (iw ((onext S (ofI ((j:Int)+1))).2.2.2)) ?_;refine h_stepS 12 ?_;refine s_alloc (.agg zc) zc (fun g14=>?_);refine nH [3,3]<|h_stepS 14 ?_
     refine s_store 0 (vc ((onext S (ofI ((j:Int)+1))).1)) ?_;refine nH [3,3]<|h_stepS 15 ?_
     refine s_store 2 (vc ((onext S (ofI ((j:Int)+1))).2.1)) ?_;refine nH [3,3]<|hp_ 16 [3,3] (.bool ((onext S (ofI ((j:Int)+1))).2.2.1)) ?_
     refine hp_ 17 [3,3] (iw ((onext S (ofI ((j:Int)+1))).2.2.2)) ?_;refine h_doneS ?_;exact xcut () (rr [3,3,1] [3,3])
    refine s_alloc (.agg zc) zc (fun g15=>?_);refine nH [2,2]<|h_stepS 6 ?_
    refine sC [4] (rmnext_s (S:=S) ol (ofI ((j:Int)+1))) ?_;refine nH [3,3]<|hp_ 7 [3,3] (.tuple #[.agg (vc ((onext S (ofI ((j:Int)+1))).1)),.agg (vc ((onext S (ofI ((j:Int)+1))).2.1)),.bool ((onext S (ofI ((j:Int)+1))).2.2.1),iw ((onext S (ofI ((j:Int)+1))).2.2.2)]) ?_
    refine hp_ 8 [3,3] (.agg (vc ((onext S (ofI ((j:Int)+1))).1))) ?_;refine hp_ 9 [3,3] (.agg (vc ((onext S (ofI ((j:Int)+1))).2.1))) ?_;refine hp_ 10 [3,3] (.bool ((onext S (ofI ((j:Int)+1))).2.2.1)) ?_;refine hp_ 11 [3,3] (iw ((onext S (ofI ((j:Int)+1))).2.2.2)) ?_;refine h_stepS 14 ?_;refine s_store 1 (vc ((onext S (ofI ((j:Int)+1))).1)) ?_;refine nH [3,3]<|h_stepS 15 ?_
    refine s_store 2 (vc ((onext S (ofI ((j:Int)+1))).2.1)) ?_;refine nH [3,3]<|hp_ 16 [3,3] (.bool ((onext S (ofI ((j:Int)+1))).2.2.1)) ?_
    refine hp_ 17 [3,3] (iw ((onext S (ofI ((j:Int)+1))).2.2.2)) ?_;refine h_doneS ?_;exact xcut () (rr [3,3,0] [3,3])
   .refine s_alloc (.agg zc) zc (fun g16=>?_);refine nH [1,1]<|h_stepS2 5 13 ?_ ?_
    .refine sV (fun _ h=>rkey_s ((j:Int)+1))<|nH [1,1]<|h_stepS2 6 13 ?_ ?_
     .refine sC [3] (rmnext_s (S:=S) ol (ofI ((j:Int)+1))) ?_;refine nH [2,2]<|hp_ 7 [2,2] (.tuple #[.agg (vc ((onext S (ofI ((j:Int)+1))).1)),.agg (vc ((onext S (ofI ((j:Int)+1))).2.1)),.bool ((onext S (ofI ((j:Int)+1))).2.2.1),iw ((onext S (ofI ((j:Int)+1))).2.2.2)]) ?_
      refine hp_ 8 [2,2] (.agg (vc ((onext S (ofI ((j:Int)+1))).1))) ?_;refine hp_ 9 [2,2] (.agg (vc ((onext S (ofI ((j:Int)+1))).2.1))) ?_;refine hp_ 10 [2,2] (.bool ((onext S (ofI ((j:Int)+1))).2.2.1)) ?_;refine hp_ 11 [2,2] (iw ((onext S (ofI ((j:Int)+1))).2.2.2)) ?_;refine h_stepS 13 ?_;refine s_alloc (.agg zc) zc (fun g17=>?_);refine nH [3,3]<|h_stepS 14 ?_
      refine s_store 2 (vc ((onext S (ofI ((j:Int)+1))).1)) ?_;refine nH [3,3]<|h_stepS 15 ?_
      refine s_store 0 (vc ((onext S (ofI ((j:Int)+1))).2.1)) ?_;refine nH [3,3]<|hp_ 16 [3,3] (.bool ((onext S (ofI ((j:Int)+1))).2.2.1)) ?_
      refine hp_ 17 [3,3] (iw ((onext S (ofI ((j:Int)+1))).2.2.2)) ?_;refine h_doneS ?_;exact xcut () (rr [3,3,1] [3,3])
     refine s_alloc (.agg zc) zc (fun g18=>?_);refine nH [2,2]<|h_stepS 6 ?_
     refine sC [4] (rmnext_s (S:=S) ol (ofI ((j:Int)+1))) ?_;refine nH [3,3]<|hp_ 7 [3,3] (.tuple #[.agg (vc ((onext S (ofI ((j:Int)+1))).1)),.agg (vc ((onext S (ofI ((j:Int)+1))).2.1)),.bool ((onext S (ofI ((j:Int)+1))).2.2.1),iw ((onext S (ofI ((j:Int)+1))).2.2.2)]) ?_
     refine hp_ 8 [3,3] (.agg (vc ((onext S (ofI ((j:Int)+1))).1))) ?_;refine hp_ 9 [3,3] (.agg (vc ((onext S (ofI ((j:Int)+1))).2.1))) ?_;refine hp_ 10 [3,3] (.bool ((onext S (ofI ((j:Int)+1))).2.2.1)) ?_;refine hp_ 11 [3,3] (iw ((onext S (ofI ((j:Int)+1))).2.2.2)) ?_;refine h_stepS 14 ?_;refine s_store 2 (vc ((onext S (ofI ((j:Int)+1))).1)) ?_;refine nH [3,3]<|h_stepS 15 ?_
     refine s_store 1 (vc ((onext S (ofI ((j:Int)+1))).2.1)) ?_;refine nH [3,3]<|hp_ 16 [3,3] (.bool ((onext S (ofI ((j:Int)+1))).2.2.1)) ?_
     refine hp_ 17 [3,3] (iw ((onext S (ofI ((j:Int)+1))).2.2.2)) ?_;refine h_doneS ?_;exact xcut () (rr [3,3,0] [3,3])
    refine s_alloc (.agg zc) zc (fun g19=>?_);refine nH [2,2]<|h_stepS 5 ?_
    refine sV (fun _ h=>rkey_s ((j:Int)+1))<|nH [2,2]<|h_stepS 6 ?_
    refine sC [4] (rmnext_s (S:=S) ol (ofI ((j:Int)+1))) ?_;refine nH [3,3]<|hp_ 7 [3,3] (.tuple #[.agg (vc ((onext S (ofI ((j:Int)+1))).1)),.agg (vc ((onext S (ofI ((j:Int)+1))).2.1)),.bool ((onext S (ofI ((j:Int)+1))).2.2.1),iw ((onext S (ofI ((j:Int)+1))).2.2.2)]) ?_
    refine hp_ 8 [3,3] (.agg (vc ((onext S (ofI ((j:Int)+1))).1))) ?_;refine hp_ 9 [3,3] (.agg (vc ((onext S (ofI ((j:Int)+1))).2.1))) ?_;refine hp_ 10 [3,3] (.bool ((onext S (ofI ((j:Int)+1))).2.2.1)) ?_;refine hp_ 11 [3,3] (iw ((onext S (ofI ((j:Int)+1))).2.2.2)) ?_;refine h_stepS 14 ?_;refine s_store 2 (vc ((onext S (ofI ((j:Int)+1))).1)) ?_;refine nH [3,3]<|h_stepS 15 ?_
    refine s_store 1 (vc ((onext S (ofI ((j:Int)+1))).2.1)) ?_;refine nH [3,3]<|hp_ 16 [3,3] (.bool ((onext S (ofI ((j:Int)+1))).2.2.1)) ?_
    refine hp_ 17 [3,3] (iw ((onext S (ofI ((j:Int)+1))).2.2.2)) ?_;refine h_doneS ?_;exact xcut () (rr [3,3,0] [3,3])
   refine s_alloc (.agg zc) zc (fun g20=>?_);refine nH [1,1]<|h_stepS2 5 12 ?_ ?_
   .refine sV (fun _ h=>rkey_s ((j:Int)+1))<|nH [1,1]<|h_stepS2 6 12 ?_ ?_
    .refine sC [3] (rmnext_s (S:=S) ol (ofI ((j:Int)+1))) ?_;refine nH [2,2]<|hp_ 7 [2,2] (.tuple #[.agg (vc ((onext S (ofI ((j:Int)+1))).1)),.agg (vc ((onext S (ofI ((j:Int)+1))).2.1)),.bool ((onext S (ofI ((j:Int)+1))).2.2.1),iw ((onext S (ofI ((j:Int)+1))).2.2.2)]) ?_
     refine hp_ 8 [2,2] (.agg (vc ((onext S (ofI ((j:Int)+1))).1))) ?_;refine hp_ 9 [2,2] (.agg (vc ((onext S (ofI ((j:Int)+1))).2.1))) ?_;refine hp_ 10 [2,2] (.bool ((onext S (ofI ((j:Int)+1))).2.2.1)) ?_;refine hp_ 11 [2,2] (iw ((onext S (ofI ((j:Int)+1))).2.2.2)) ?_;refine h_stepS 12 ?_;refine s_alloc (.agg zc) zc (fun g21=>?_);refine nH [3,3]<|h_stepS 14 ?_
     refine s_store 0 (vc ((onext S (ofI ((j:Int)+1))).1)) ?_;refine nH [3,3]<|h_stepS 15 ?_
     refine s_store 2 (vc ((onext S (ofI ((j:Int)+1))).2.1)) ?_;refine nH [3,3]<|hp_ 16 [3,3] (.bool ((onext S (ofI ((j:Int)+1))).2.2.1)) ?_
     refine hp_ 17 [3,3] (iw ((onext S (ofI ((j:Int)+1))).2.2.2)) ?_;refine h_doneS ?_;exact xcut () (rr [3,3,1] [3,3])
    refine s_alloc (.agg zc) zc (fun g22=>?_);refine nH [2,2]<|h_stepS 6 ?_
    refine sC [4] (rmnext_s (S:=S) ol (ofI ((j:Int)+1))) ?_;refine nH [3,3]<|hp_ 7 [3,3] (.tuple #[.agg (vc ((onext S (ofI ((j:Int)+1))).1)),.agg (vc ((onext S (ofI ((j:Int)+1))).2.1)),.bool ((onext S (ofI ((j:Int)+1))).2.2.1),iw ((onext S (ofI ((j:Int)+1))).2.2.2)]) ?_
    refine hp_ 8 [3,3] (.agg (vc ((onext S (ofI ((j:Int)+1))).1))) ?_;refine hp_ 9 [3,3] (.agg (vc ((onext S (ofI ((j:Int)+1))).2.1))) ?_;refine hp_ 10 [3,3] (.bool ((onext S (ofI ((j:Int)+1))).2.2.1)) ?_;refine hp_ 11 [3,3] (iw ((onext S (ofI ((j:Int)+1))).2.2.2)) ?_;refine h_stepS 14 ?_;refine s_store 1 (vc ((onext S (ofI ((j:Int)+1))).1)) ?_;refine nH [3,3]<|h_stepS 15 ?_
    refine s_store 2 (vc ((onext S (ofI ((j:Int)+1))).2.1)) ?_;refine nH [3,3]<|hp_ 16 [3,3] (.bool ((onext S (ofI ((j:Int)+1))).2.2.1)) ?_
    refine hp_ 17 [3,3] (iw ((onext S (ofI ((j:Int)+1))).2.2.2)) ?_;refine h_doneS ?_;exact xcut () (rr [3,3,0] [3,3])
   refine s_alloc (.agg zc) zc (fun g23=>?_);refine nH [2,2]<|h_stepS 5 ?_
   refine sV (fun _ h=>rkey_s ((j:Int)+1))<|nH [2,2]<|h_stepS 6 ?_
   refine sC [4] (rmnext_s (S:=S) ol (ofI ((j:Int)+1))) ?_;refine nH [3,3]<|hp_ 7 [3,3] (.tuple #[.agg (vc ((onext S (ofI ((j:Int)+1))).1)),.agg (vc ((onext S (ofI ((j:Int)+1))).2.1)),.bool ((onext S (ofI ((j:Int)+1))).2.2.1),iw ((onext S (ofI ((j:Int)+1))).2.2.2)]) ?_
   refine hp_ 8 [3,3] (.agg (vc ((onext S (ofI ((j:Int)+1))).1))) ?_;refine hp_ 9 [3,3] (.agg (vc ((onext S (ofI ((j:Int)+1))).2.1))) ?_;refine hp_ 10 [3,3] (.bool ((onext S (ofI ((j:Int)+1))).2.2.1)) ?_;refine hp_ 11 [3,3] (iw ((onext S (ofI ((j:Int)+1))).2.2.2)) ?_;refine h_stepS 14 ?_;refine s_store 1 (vc ((onext S (ofI ((j:Int)+1))).1)) ?_;refine nH [3,3]<|h_stepS 15 ?_
   refine s_store 2 (vc ((onext S (ofI ((j:Int)+1))).2.1)) ?_;refine nH [3,3]<|hp_ 16 [3,3] (.bool ((onext S (ofI ((j:Int)+1))).2.2.1)) ?_
   refine hp_ 17 [3,3] (iw ((onext S (ofI ((j:Int)+1))).2.2.2)) ?_;refine h_doneS ?_;exact xcut () (rr [3,3,0] [3,3])
  refine k_reg<|sP2 (.bool (staleB S n j))<|s_fork 37 (staleB S n j) (fun c24=>?_) (fun c24=>?_)
  .refine sK<|sK<|sP2 (.bool true)<|s_nil<|xs_block<|xs_then<|k_reg<|sP (iw ((j:Int)+1))<|sL (t_add ((j:Int)+1) 1 ol)<|sP (iw (((j:Int)+1)+1))<|s_nil ?_
   have hst:true=staleB S n (j+1):=by rw[←stale_step S hi1.1];first|rfl|simp[c4,c24]
   refine xs_mem (fun _ h=>rt_shut (h.re [0,0,0] [])) ?_;exact xs_round (j+1) om ⟨by omega,by omega⟩ (sub_of rfl (rQ ⟨⟨rfl,cB hst⟩,(rQ trivial)⟩)) (rr [0] [])
  refine sP (iw ((onext S (ofI ((j:Int)+1))).2.2.2))<|sL t_cmp<|sP (.bool (decide ((onext S (ofI ((j:Int)+1))).2.2.2=0)))<|sP (.bool (decide ((onext S (ofI ((j:Int)+1))).2.2.2=0)))<|s_nil<|xs_block<|xs_then<|k_reg<|sP (iw ((j:Int)+1))<|sL (t_add ((j:Int)+1) 1 ol)<|sP (iw (((j:Int)+1)+1))<|s_nil ?_
  have hst:(decide ((onext S (ofI ((j:Int)+1))).2.2.2=0))=staleB S n (j+1):=by rw[←stale_step S hi1.1];first|rfl|simp[c4,c24]
  refine xs_mem (fun _ h=>rt_shut (h.re [0,0,0] [])) ?_;exact xs_round (j+1) om ⟨by omega,by omega⟩ (sub_of rfl (rQ ⟨⟨rfl,cB hst⟩,(rQ trivial)⟩)) (rr [0] [])
 have p25:=dF c4;refine k_exit<|xs_exit<|xs_exit<|xs_here<|xs_then<|k_seq<|k_sr<|sP (.bool (staleB S n j))<|sP (.bool (!(staleB S n j)))<|s_nt<|k_cond (!(staleB S n j)) (fun c26=>?_) (fun c26=>?_)
 .have c27:=not_t c26;refine k_ret<|xs_ret<|xs_mem (fun _ h=>rt_shut (h.re [0,0,0] [])) ?_
  have hj:j=L.length:=by omega
  have hT:(if staleB S n L.length then purge S L.length else S)=S:=by rw[if_neg (by rw[←hj,c27];decide)]
  refine xs_fin [] (rtA b L S::F) SI.nil (rr [0] []) ⟨rfl,?_⟩;rw[hT]
 have c28:=not_f c26;refine k_st<|k_sr<|s_pcall (fun _ h=>rmnew_s) ?_
 rintro _ _ ⟨r29,rfl,rfl⟩;refine sP (pB r29 0)<|s_nr<|sP2 (pB b 0)<|sP (pB b 1)<|sL (t_load 1 (pB r3 0))<|s_call [3] (rmkeys_s (S:=S) ol) ?_
 rintro v30 _ rfl;refine sF 0 (fun hf31=>?_);refine sP v30<|s_nt<|k_seq<|k_sr<|sP (iw 0)<|s_nt<|k_block<|k_mem (fun _ h=>rt_shut (h.re [3,3,1] [])) ?_
 refine k_loop (ι:=Nat) (fun i=>i≤(okeys S).length) (fun i=>[(0,pB b 0),(10,pB r29 0),(11,v30),(12,iw (i:Int))]) (fun i=>rtA b L S::own VlT v30 (okeys S)::rmA r29 (purgeS S L.length i)::F) (fun i=>(okeys S).length-i) 0 (Nat.zero_le _) sA (rr [0,0,0] []) ?_;rintro i hi32;show SK _ _ _ _ _ [(0,.pointer (some ⟨b,0,none⟩)),(10,.pointer (some ⟨r29,0,none⟩)),(11,v30),(12,iw (i:Int))] _ (rtA b L S::own VlT v30 (okeys S)::rmA r29 (purgeS S L.length i)::F);have hpl:=purgeS_len S L.length i;refine k_seq<|k_sr<|sP (iw (i:Int))<|sP v30<|sL (t_len VlT_ok Tryz.underlying28 (.own 1))<|sL t_cmp<|s_nt<|k_cond (decide ((i:Int)<((okeys S).length:Int))) (fun c33=>?_) (fun c33=>?_)
 .have p34:=dY c33;refine k_st<|k_seq<|k_block<|k_sr<|sP v30<|sP (iw (i:Int))<|sL (t_index VlT_ok Tryz.underlying28 (.own 1) (i:Int) i om ol om) ?_
  obtain⟨y35,hy36⟩:∃y,(okeys S)[i]?=some y:=⟨_,List.getElem?_eq_getElem ol⟩;obtain⟨s37,hs38,rfl⟩:=okeys_get hy36;refine sL (t_loadE VlT_ok (.own 1) hy36)<|sV (fun _ h=>rwhole2_s s37.key)<|sP (iw (whole s37.key))<|s_nr<|sP (iw (whole s37.key))<|sL t_cmp<|sP (.bool (decide ((whole s37.key)<1)))<|s_fork 62 (decide ((whole s37.key)<1)) (fun c39=>?_) (fun c39=>?_)
  .have p40:=dY c39;refine sK<|sK<|sK<|sK<|sK<|sK<|sK<|sP (.bool true)<|s_nt<|k_true<|k_mem2 (fun H h=>rt_open (h.re [0] [])) (fun lv41 r42 hw=>?_)
   refine k_held [blkA b #[lv41,pB r42 0] 229,own VlT lv41 L,own VlT v30 (okeys S)] ?_;refine hp_ 0 [0,0,1] (pB r29 0) ?_;refine hp_ 1 [0,0,1] v30 ?_;refine hp_ 2 [0,0,1] (iw (i:Int)) ?_;refine h_l 3 rfl [0,0,1] (fun _=>(t_index VlT_ok Tryz.underlying28 (.own 2) (i:Int) i om ol om)) ?_;refine h_l 4 rfl [0,0,1] (fun _=>(t_loadE VlT_ok (.own 2) hy36)) ?_;refine hp_ 5 [0,0,1] (pB b 0) ?_;refine hp_ 6 [0,0,1] (pB b 0) ?_;refine hp_ 7 [0,0,1] (pB b 1) ?_;refine h_l 8 rfl [0,0,1] (fun _=>(t_load 0 (pB r42 0))) ?_;refine hp_ 9 [0,0,1] v30 ?_;refine hp_ 10 [0,0,1] (iw (i:Int)) ?_;refine h_l 11 rfl [0,0,1] (fun _=>(t_index VlT_ok Tryz.underlying28 (.own 2) (i:Int) i om ol om)) ?_;refine h_l 12 rfl [0,0,1] (fun _=>(t_loadE VlT_ok (.own 2) hy36)) ?_;refine h_stepS 13 ?_;refine sC [2] (rmget_s (S:=S) ol s37.key) ?_;refine nH [1,1,1]<|h_stepS 14 ?_
   refine sC [4] (rmset_s (S:=(purgeS S L.length i)) ol s37.key (oget S s37.key)) ?_;refine nH [2,2,2]<|h_doneS ?_
   refine xs_block<|xs_then<|k_reg<|sP (iw (i:Int))<|sL (t_add (i:Int) 1 ol)<|sP (iw ((i:Int)+1))<|s_nil ?_
   have hps:=purge_step hinv0 (m:=L.length) hs38;have hib:inB (whole s37.key) L.length=false:=inB_false om;have hpe:=hps.1 hib;rw[hpe];refine xs_mem (fun _ h=>rt_shut (h.re [2,2,1] [])) ?_;exact xs_round (i+1) om om sA (rr [0,1,0] [])
  have p43:=dF c39;refine sP (iw (whole s37.key))<|sP3 (pB b 0)<|s_mem2 (fun H h=>rt_open (h.re [0] [])) (fun lv44 r45 hw=>?_)
  refine sL (t_load 0 lv44)<|sL (t_len VlT_ok Tryz.underlying28 (.own 1))<|sL t_cmp<|sP (.bool (decide ((L.length:Int)<(whole s37.key))))<|s_nt<|k_cond (decide ((L.length:Int)<(whole s37.key))) (fun c46=>?_) (fun c46=>?_)
  .have p47:=dY c46;refine k_held [blkA b #[lv44,pB r45 0] 229,own VlT lv44 L,own VlT v30 (okeys S)] ?_;refine hp_ 0 [0,0,1] (pB r29 0) ?_;refine hp_ 1 [0,0,1] v30 ?_;refine hp_ 2 [0,0,1] (iw (i:Int)) ?_;refine h_l 3 rfl [0,0,1] (fun _=>(t_index VlT_ok Tryz.underlying28 (.own 2) (i:Int) i om ol om)) ?_;refine h_l 4 rfl [0,0,1] (fun _=>(t_loadE VlT_ok (.own 2) hy36)) ?_;refine hp_ 5 [0,0,1] (pB b 0) ?_;refine hp_ 6 [0,0,1] (pB b 0) ?_;refine hp_ 7 [0,0,1] (pB b 1) ?_;refine h_l 8 rfl [0,0,1] (fun _=>(t_load 0 (pB r45 0))) ?_;refine hp_ 9 [0,0,1] v30 ?_;refine hp_ 10 [0,0,1] (iw (i:Int)) ?_;refine h_l 11 rfl [0,0,1] (fun _=>(t_index VlT_ok Tryz.underlying28 (.own 2) (i:Int) i om ol om)) ?_;refine h_l 12 rfl [0,0,1] (fun _=>(t_loadE VlT_ok (.own 2) hy36)) ?_;refine h_stepS 13 ?_;refine sC [2] (rmget_s (S:=S) ol s37.key) ?_;refine nH [1,1,1]<|h_stepS 14 ?_
   refine sC [4] (rmset_s (S:=(purgeS S L.length i)) ol s37.key (oget S s37.key)) ?_;refine nH [2,2,2]<|h_doneS ?_
   refine xs_block<|xs_then<|k_reg<|sP (iw (i:Int))<|sL (t_add (i:Int) 1 ol)<|sP (iw ((i:Int)+1))<|s_nil ?_
   have hps:=purge_step hinv0 (m:=L.length) hs38;have hib:inB (whole s37.key) L.length=false:=inB_false om;have hpe:=hps.1 hib;rw[hpe];refine xs_mem (fun _ h=>rt_shut (h.re [2,2,1] [])) ?_;exact xs_round (i+1) om om sA (rr [0,1,0] [])
  have p48:=dF c46;refine k_skip<|xs_block<|xs_then<|k_reg<|sP (iw (i:Int))<|sL (t_add (i:Int) 1 ol)<|sP (iw ((i:Int)+1))<|s_nil ?_
  have hps:=purge_step hinv0 (m:=L.length) hs38;have hib:inB (whole s37.key) L.length=true:=inB_iff.2 om;have hpe:=hps.2 hib;rw[hpe];refine xs_mem (fun _ h=>rt_shut (h.re [0,0,0] [])) ?_;exact xs_round (i+1) om om sA (rr [0,0,0] [])
 have p49:=dF c33;refine k_exit<|xs_exit<|xs_exit<|xs_here<|xs_then<|k_reg<|sP (pB b 0)<|sP (pB r29 0)<|sP (pB b 0)<|sP (pB b 1)<|s_mem2 (fun H h=>rt_open (h.re [0] [])) (fun lv50 r51 hw=>?_)
 refine s_store 0 #[lv50,pB r29 0] ?_;refine s_nil<|xs_mem (fun _ h=>rt_shut (h.re [0,0,2] [])) ?_
 have hj:j=L.length:=by omega
 have hpe:purgeS S L.length i=purge S L.length:=purge_end S L.length i (by rw[←okeys_length];omega);have hT:(if staleB S n L.length then purge S L.length else S)=purgeS S L.length i:=by rw[if_pos (by rw[←hj];exact c28),hpe]
 refine xs_finN [] (rtA b L (purgeS S L.length i)::F) SI.nil (rr [0] [1,1]) ⟨rfl,?_⟩;rw[hT]
theorem rtset_s{Z:Zone}{F:List Asr}{b:Nat}{L:List Vl}{S:List Slt}(hti:TInv ⟨L,S⟩)(hl:L.length≤100000)(hs:S.length≤100000)(k v:Vl):SF Tryz.prog 149 #[.pointer (some ⟨b,0,none⟩),k.v,v.v] Z (rtA b L S::F) fun r Bs=>r=iw (tsetE k v)∧Bs=rtA b (tset ⟨L,S⟩ k v).list (tset ⟨L,S⟩ k v).rest::F:=by
 refine sf_enter Tryz.func149 126 [(0,pB b 0),(1,.agg (vc k)),(2,.agg (vc v))] (fun w0=>?_);refine k_fact (fun H h=>rt_inv (h.re [0] [])) (fun hinv0=>?_);have hol:=okeys_len S;refine k_sr<|s_box (vc k) (fun g1=>?_)
 refine s_box (vc v) (fun g2=>?_);refine sP (iw 0)<|s_nt<|k_seq<|k_sr<|sP (pB b 0)<|sP (.bool false)<|s_nt<|k_false<|k_st<|k_seq<|k_sr<|sP (pB g1 0)<|sL (t_load 1 (iw k.kind))<|sL t_cmp<|sP (.bool (decide (k.kind=0)))<|s_fork 13 (decide (k.kind=0)) (fun c3=>?_) (fun c3=>?_)
 .have p4:=dY c3;refine sK<|sK<|sK<|sP (.bool true)<|s_nt<|k_true<|k_sr<|sP (iw 13)<|s_nt<|k_ret<|xs_ret ?_
  have hk:okKey k=false:=okKey_bad (by first|exact p4|exact .inl p4|exact .inr p4);refine xs_fin [iw 13] (rtA b L S::F) (SI.tmp 6 SI.nil) (rr [2] [1,1]) ⟨cI (tsetE_bad hk).symm,?_⟩;rw[tset_bad (v:=v) (.inl hk)]
 have p5:=dF c3;refine sL (t_loadA 1 (vc k))<|sV (fun _ h=>rvalid_s k)<|sP2 (.bool (!(validB k)))<|s_nt<|k_cond (!(validB k)) (fun c6=>?_) (fun c6=>?_)
 .have c7:=not_t c6;refine k_sr<|sP (iw 13)<|s_nt<|k_ret<|xs_ret ?_
  have hk:okKey k=false:=okKey_bad (by first|exact c7|exact .inl c7|exact .inr c7);refine xs_fin [iw 13] (rtA b L S::F) (SI.tmp 6 SI.nil) (rr [2] [1,1]) ⟨cI (tsetE_bad hk).symm,?_⟩;rw[tset_bad (v:=v) (.inl hk)]
 have c8:=not_f c6;refine k_st<|k_seq<|k_sr<|sL (t_loadA 0 (vc v))<|sV (fun _ h=>rvalid_s v)<|sP (.bool (!(validB v)))<|s_nt<|k_cond (!(validB v)) (fun c9=>?_) (fun c9=>?_)
 .have c10:=not_t c9;refine k_sr<|sP (iw 2)<|s_nt<|k_ret<|xs_ret ?_
  have hk:=okKey_good c3 c8;refine xs_fin [iw 2] (rtA b L S::F) (SI.tmp 6 SI.nil) (rr [2] [1,1]) ⟨cI (tsetE_val hk c10).symm,?_⟩;rw[tset_bad (v:=v) (.inr c10)]
 have c11:=not_f c9;refine k_st<|k_sr<|sL (t_loadA 1 (vc k))<|sV (fun _ h=>rwhole2_s k)<|sP (iw (whole k))<|s_nt<|k_seq<|k_sr<|sP (iw (whole k))<|sL t_cmp<|sP (.bool (decide ((1:Int)≤(whole k))))<|s_fork 25 (decide ((1:Int)≤(whole k))) (fun c12=>?_) (fun c12=>?_)
 .have p13:=dY c12;refine sP (iw (whole k))<|sP3 (pB b 0)<|s_mem2 (fun H h=>rt_open (h.re [2] [])) (fun lv14 r15 hw=>?_)
  refine sL (t_load 0 lv14)<|sL (t_len VlT_ok Tryz.underlying28 (.own 1))<|sL t_cmp<|sP (.bool (decide ((whole k)≤(L.length:Int))))<|s_nt<|k_cond (decide ((whole k)≤(L.length:Int))) (fun c16=>?_) (fun c16=>?_)
  .have p17:=dY c16;refine k_seq<|k_draw<|sP3 (pB b 0)<|sL (t_load 0 lv14)<|sP (iw (whole k))<|sL (t_sub (whole k) 1 ol)<|sL (t_loadA 3 (vc v))<|sL (t_index VlT_ok Tryz.underlying28 (.own 1) ((whole k)-1) ((((whole k)-1)).toNat) om ol om) ?_
   obtain⟨y18,hy19⟩:∃y,L[(((whole k)-1)).toNat]?=some y:=⟨_,List.getElem?_eq_getElem ol⟩;refine s_storeE 1 0 v VlT_ok hy19 ?_;refine s_nil<|x_dynS (fun _ h=>by kernel_rfl) ?_
   refine xs_then<|k_seq<|k_block ?_
   have hsl:(L.set (whole k-1).toNat v).length=L.length:=List.length_set;refine k_loop (ι:=Value×List Vl) (fun (lx,X)=>shr (L.set (whole k-1).toNat v)=shr X∧X.length≤L.length) (fun (lx,X)=>[(0,pB b 0)]) (fun (lx,X)=>blkA b #[lx,pB r15 0] 229::own VlT lx X::rmA r15 S::blkA g2 (vc v) 71::blkA g1 (vc k) 71::F) (fun (lx,X)=>X.length) (lv14,(L.set ((((whole k)-1)).toNat) v)) ⟨rfl,by omega⟩ sA (rr [0,0,0,0,0] []) ?_;rintro⟨lx,X⟩ hi20;replace hi20:shr (L.set (whole k-1).toNat v)=shr X∧X.length≤L.length:=hi20;show SK _ _ _ _ _ [(0,.pointer (some ⟨b,0,none⟩))] _ (blkA b #[lx,.pointer (some ⟨r15,0,none⟩)] 229::own VlT lx X::rmA r15 S::blkA g2 (vc v) 71::blkA g1 (vc k) 71::F);refine k_seq<|k_seq<|k_draw<|sP3 (pB b 0)<|sL (t_load 0 lx)<|sF 1 (fun hf21=>?_)
   refine sL (t_len VlT_ok Tryz.underlying28 (.own 1))<|sL t_cmp<|sP (.bool (decide ((0:Int)<(X.length:Int))))<|s_fork 48 (decide ((0:Int)<(X.length:Int))) (fun c22=>?_) (fun c22=>?_)
   .have p23:=dY c22;refine sP3 (pB b 0)<|sL (t_load 0 lx)<|sP3 (pB b 0)<|sL (t_load 0 lx)<|sL (t_len VlT_ok Tryz.underlying28 (.own 1))<|sL (t_sub (X.length:Int) 1 ol)<|sL (t_index VlT_ok Tryz.underlying28 (.own 1) ((X.length:Int)-1) (X.length-1) om ol om)<|sP (.pointer (some (elemAt VlT.size lx (X.length-1)))) ?_
    obtain⟨y24,hy25⟩:∃y,X[(X.length-1)]?=some y:=⟨_,List.getElem?_eq_getElem ol⟩;refine sL (t_loadF 0 VlT_ok (.own 1) hy25)<|sL t_cmp<|sP (.bool (decide (y24.kind=0)))<|s_nil<|x_dynS (fun _ h=>by obtain⟨_,_,e⟩:=hf21;subst e;kernel_rfl) ?_
    refine xs_then<|k_cond (decide (y24.kind=0)) (fun c26=>?_) (fun c26=>?_)
    .have p27:=dY c26;refine k_st<|k_block<|k_draw<|sP4 (pB b 0)<|sL (t_load 0 lx)<|sP3 (pB b 0)<|sL (t_load 0 lx)<|sL (t_len VlT_ok Tryz.underlying28 (.own 1))<|sL (t_sub (X.length:Int) 1 ol)<|sL (t_pre VlT_ok Tryz.underlying28 (.own 1) ((X.length:Int)-1) (X.length-1) om ol om)<|sP2 (pB b 0)<|s_mem (fun _ h=>Holds.pre (i:=1) h VlT_ok (X.length-1) rfl ol) ?_
     refine sF 1 (fun hf28=>?_);refine s_store (u:=(pre lx (X.length-1))) (m:=1) 0 #[(pre lx (X.length-1)),pB r15 0] ?_ (hm:=by (obtain⟨_,_,e⟩:=hf28;rw[e];rfl)) (h1:=by (obtain⟨_,_,e⟩:=hf28;rw[e];rfl)) (ha':=by (obtain⟨_,_,e⟩:=hf28;rw[e];rfl));refine s_nil<|x_dynS (fun _ h=>by obtain⟨_,_,e⟩:=hf21;subst e;kernel_rfl) ?_
     refine xs_block ?_;exact xs_round ((pre lx (X.length-1)),X.take (X.length-1)) (by show (X.take (X.length-1)).length<X.length;rw[List.length_take];omega) (by show shr _=shr (X.take (X.length-1))∧(X.take (X.length-1)).length≤L.length;rw[←shr_step (n:=X.length-1) om hy25 om,show X.length-1+1=X.length by omega,List.take_length];exact⟨hi20.1,by rw[List.length_take];omega⟩) sA (rr [0,0,0,0,0] [])
    have p29:=dF c26;refine k_exit<|xs_exit<|xs_exit<|xs_here<|xs_then<|k_sr<|sP (iw 0)<|s_nt<|k_ret<|xs_ret<|xs_mem (fun _ h=>rt_shut (h.re [0,0,0] [])) ?_
    have hk:=okKey_good c3 c8;have hS:shr X=X:=by have h1:=shr_stop (n:=X.length-1) hy25 om;rw[show X.length-1+1=X.length by omega,List.take_length]at h1;exact h1
    have hT:tset ⟨L,S⟩ k v=⟨X,S⟩:=by rw[tset_in (T:=⟨L,S⟩) hk c11 om (by show _≤(L.length:Int);omega)];show (⟨shr (L.set _ v),S⟩:Tb)=_;rw[hi20.1,hS]
    refine xs_fin [iw 0] (rtA b X S::F) (SI.tmp 6 SI.nil) (rr [0] [1,1]) ⟨cI (tsetE_ok hk c11).symm,?_⟩;rw[hT]
   have p30:=dF c22;refine sK<|sK<|sK<|sK<|sK<|sK<|sK<|sK<|sK<|sK<|sK<|sK<|sK<|sK<|sP (.bool false)<|s_nil<|x_dynS (fun _ h=>by obtain⟨_,_,e⟩:=hf21;subst e;kernel_rfl) ?_
   refine xs_then<|k_false<|k_exit<|xs_exit<|xs_exit<|xs_here<|xs_then<|k_sr<|sP (iw 0)<|s_nt<|k_ret<|xs_ret<|xs_mem (fun _ h=>rt_shut (h.re [0,0,0] [])) ?_
   have hk:=okKey_good c3 c8;have hS:shr X=X:=by obtain rfl:X=[]:=List.eq_nil_of_length_eq_zero om;rfl
   have hT:tset ⟨L,S⟩ k v=⟨X,S⟩:=by rw[tset_in (T:=⟨L,S⟩) hk c11 om (by show _≤(L.length:Int);omega)];show (⟨shr (L.set _ v),S⟩:Tb)=_;rw[hi20.1,hS]
   refine xs_fin [iw 0] (rtA b X S::F) (SI.tmp 6 SI.nil) (rr [0] [1,1]) ⟨cI (tsetE_ok hk c11).symm,?_⟩;rw[hT]
  have p31:=dF c16;refine k_st<|k_seq<|k_sr<|sP (iw (whole k))<|sP3 (pB b 0)<|sL (t_load 0 lv14)<|sL (t_len VlT_ok Tryz.underlying28 (.own 1))<|sL (t_add (L.length:Int) 1 ol)<|sL t_cmp<|sP (.bool (decide ((whole k)≠((L.length:Int)+1))))<|s_fork 86 (decide ((whole k)≠((L.length:Int)+1))) (fun c32=>?_) (fun c32=>?_)
  .have p33:=dY c32;refine sK<|sK<|sK<|sP (.bool true)<|s_nt<|k_true<|k_seq<|k_draw<|sP2 (pB b 0)<|sP (pB b 1)<|sL (t_load 0 (pB r15 0))<|sL (t_loadA 4 (vc k))<|sL (t_loadA 3 (vc v))<|sC [2] (rmset_s (S:=S) ol k v) ?_
   refine sP (iw (osetE k v))<|s_nil<|x_dynS (fun _ h=>by kernel_rfl) ?_
   refine xs_then<|k_ret<|xs_ret<|xs_mem (fun _ h=>rt_shut (h.re [1,1,0] [])) ?_
   have hk:=okKey_good c3 c8;refine xs_fin [iw (osetE k v)] (rtA b L (osetL S k v)::F) (SI.tmp 6 SI.nil) (rr [0] [1,1]) ⟨cI ((tsetE_oset k v)).symm,?_⟩;rw[tset_out (T:=⟨L,S⟩) hk c11 (by show ¬(_∧_≤(L.length:Int));omega) (by show ¬(_=(L.length:Int)+1∧_);rintro⟨e1,e2⟩;first|omega|(have hq:=p33;simp_all))]
  have p34:=Decidable.not_not.1 (dF c32);refine sP (pB g2 0)<|sL (t_load 3 (iw v.kind))<|sL t_cmp<|sP (.bool (decide (v.kind=0)))<|s_nt<|k_cond (decide (v.kind=0)) (fun c35=>?_) (fun c35=>?_)
  .have p36:=dY c35;refine k_seq<|k_draw<|sP2 (pB b 0)<|sP (pB b 1)<|sL (t_load 0 (pB r15 0))<|sL (t_loadA 4 (vc k))<|sL (t_loadA 3 (vc v))<|sC [2] (rmset_s (S:=S) ol k v) ?_
   refine sP (iw (osetE k v))<|s_nil<|x_dynS (fun _ h=>by kernel_rfl) ?_
   refine xs_then<|k_ret<|xs_ret<|xs_mem (fun _ h=>rt_shut (h.re [1,1,0] [])) ?_
   have hk:=okKey_good c3 c8;refine xs_fin [iw (osetE k v)] (rtA b L (osetL S k v)::F) (SI.tmp 6 SI.nil) (rr [0] [1,1]) ⟨cI ((tsetE_oset k v)).symm,?_⟩;rw[tset_out (T:=⟨L,S⟩) hk c11 (by show ¬(_∧_≤(L.length:Int));omega) (by show ¬(_=(L.length:Int)+1∧_);rintro⟨e1,e2⟩;first|omega|(have hq:=p36;simp_all))]
  have p37:=dF c35;refine k_st<|k_seq<|k_block ?_
  have hmu0:=mu_le S L.length v;refine k_loop (ι:=Value×List Vl×Vl×Nat) (fun (lx,X,x,f)=>grow S (S.length+2) L v=grow S f X x∧mu S X.length x≤f∧L.length≤X.length∧X.length+mu S X.length x≤L.length+S.length+1) (fun (lx,X,x,f)=>[(0,pB b 0),(5,pB g2 0),(7,iw (whole k))]) (fun (lx,X,x,f)=>blkA b #[lx,pB r15 0] 229::own VlT lx X::rmA r15 S::blkA g2 (vc x) 71::blkA g1 (vc k) 71::F) (fun (lx,X,x,f)=>mu S X.length x) (lv14,L,v,S.length+2) ⟨rfl,by omega,by omega,by omega⟩ sA (rr [0,0,0,0,0] []) ?_;rintro⟨lx,X,x,f⟩ hi38;replace hi38:grow S (S.length+2) L v=grow S f X x∧mu S X.length x≤f∧L.length≤X.length∧X.length+mu S X.length x≤L.length+S.length+1:=hi38;show SK _ _ _ _ _ [(0,.pointer (some ⟨b,0,none⟩)),(5,.pointer (some ⟨g2,0,none⟩)),(7,iw (whole k))] _ (blkA b #[lx,.pointer (some ⟨r15,0,none⟩)] 229::own VlT lx X::rmA r15 S::blkA g2 (vc x) 71::blkA g1 (vc k) 71::F);refine k_seq<|k_sr<|sP (pB g2 0)<|sL (t_load 3 (iw x.kind))<|sL t_cmp<|s_nt<|k_cond (decide (x.kind≠0)) (fun c39=>?_) (fun c39=>?_)
  .have p40:=dY c39;have hx0:x.kind≠0:=dY c39;obtain⟨f1,hf1,hg1⟩:=grow_step S X hx0 hi38.2.1;have hg2:grow S (S.length+2) L v=grow S (f-1) (X++[x]) (oget S (ofI ((X.length:Int)+2))):=by rw[hi38.1,hg1,hf1];rfl
   refine k_st<|k_block<|k_seq<|k_draw<|sP4 (pB b 0)<|sL (t_load 0 lx)<|sL (t_loadA 3 (vc x))<|s_buildSlice (e:=71) [(0,.agg (vc x))] (vc x) (fun g41=>?_) (hb:=by kernel_rfl)
   refine s_append (L:=X) 2 VlT_ok Tryz.underlying28 (.lit 0 VlT_ok [x]) (by show _*48≤_;(try simp only[lnm]);omega) ol (fun v42=>?_);obtain⟨L2,hL2⟩:∃y,y=X++[x]:=⟨_,rfl⟩;rw[←hL2];have ll2:L2.length=X.length+1:=by rw[hL2];simp
   refine sP2 (pB b 0)<|sF 2 (fun hf43=>?_)
   refine s_store (u:=v42) (m:=1) 1 #[v42,pB r15 0] ?_ (hm:=by (obtain⟨_,_,e⟩:=hf43;rw[e];rfl)) (h1:=by (obtain⟨_,_,e⟩:=hf43;rw[e];rfl)) (ha':=by (obtain⟨_,_,e⟩:=hf43;rw[e];rfl));refine s_nil<|x_dynS (fun _ h=>by kernel_rfl) ?_
   refine xs_then<|k_held [blkA g41 (vc x) 71,blkA b #[v42,pB r15 0] 229,own VlT v42 L2,blkA g1 (vc k) 71] ?_
   refine hp_ 0 [0,0,0,2] (pB b 0) ?_;refine hp_ 1 [0,0,0,2] (pB b 0) ?_;refine hp_ 2 [0,0,0,2] (pB b 1) ?_;refine h_l 3 rfl [0,0,0,2] (fun _=>(t_load 1 (pB r15 0))) ?_;refine hp_ 4 [0,0,0,2] (pB b 0) ?_;refine hp_ 5 [0,0,0,2] (pB b 0) ?_;refine hp_ 6 [0,0,0,2] (pB b 0) ?_;refine h_l 7 rfl [0,0,0,2] (fun _=>(t_load 1 v42)) ?_;refine h_l 8 rfl [0,0,0,2] (fun _=>(t_len VlT_ok Tryz.underlying28 (.own 2))) ?_;refine h_l 9 rfl [0,0,0,2] (fun _=>(Lt.to (v':=iw ((X.length:Int)+2)) (t_add (L2.length:Int) 1 om) (cI om))) ?_;refine h_stepS 10 ?_;refine sV (fun _ h=>rkey_s ((X.length:Int)+2))<|nH [0,0,0,2]<|h_stepS 11 ?_
   refine sC [3] (rmget_s (S:=S) ol (ofI ((X.length:Int)+2))) ?_;refine nH [1,1,1,2]<|h_stepS 12 ?_
   refine s_store 4 (vc (oget S (ofI ((X.length:Int)+2)))) ?_;refine nH [1,1,1,2]<|h_doneS ?_
   refine xs_block ?_;exact xs_round (v42,L2,(oget S (ofI ((X.length:Int)+2))),f-1) (by show mu S _ _<mu S _ _;rw[ll2];exact mu_lt hinv0 hx0) (by show grow S (S.length+2) L v=_∧_;exact⟨by rw[hg2,hL2],by rw[ll2];have:=mu_lt hinv0 (n:=X.length) hx0;omega,by omega,by rw[ll2];have:=mu_lt hinv0 (n:=X.length) hx0;omega⟩) sA (rr [2,2,0,1,1] [5])
  have p44:=Decidable.not_not.1 (dF c39);have hx0:x.kind=0:=Decidable.not_not.1 (dF c39);have hgr:grow S (S.length+2) L v=X:=by rw[hi38.1];exact grow_stop S X hx0
  refine k_exit<|xs_exit<|xs_exit<|xs_here<|xs_then<|k_sr<|sP (pB b 0)<|sP (iw (whole k))<|s_mem (fun _ h=>rt_shut (h.re [0,0,0] [])) ?_
  refine sC [0] (rtpurge_s (L:=X) (S:=S) (n:=L.length) om om om om) ?_;refine s_nr<|sP (iw 0)<|s_nt<|k_ret ?_
  have hk:=okKey_good c3 c8;have hT:tset ⟨L,S⟩ k v=⟨X,if staleB S L.length X.length then purge S X.length else S⟩:=by rw[tset_add (T:=⟨L,S⟩) hk c11 (by show _=(L.length:Int)+1;omega) (dF c35),tadd_eq hgr]
  refine xs_fin [iw 0] (rtA b X (if staleB S L.length X.length then purge S X.length else S)::F) (SI.tmp 6 SI.nil) (rr [0] [1,1]) ⟨cI (tsetE_ok hk c11).symm,?_⟩;rw[hT]
 have p45:=dF c12;refine sK<|sK<|sK<|sK<|sK<|sK<|sK<|sP (.bool false)<|s_nt<|k_false<|k_st<|k_seq<|k_sr<|sP (iw (whole k))<|sP3 (pB b 0)<|s_mem2 (fun H h=>rt_open (h.re [2] [])) (fun lv46 r47 hw=>?_)
 refine sL (t_load 0 lv46)<|sL (t_len VlT_ok Tryz.underlying28 (.own 1))<|sL (t_add (L.length:Int) 1 ol)<|sL t_cmp<|sP (.bool (decide ((whole k)≠((L.length:Int)+1))))<|s_fork 86 (decide ((whole k)≠((L.length:Int)+1))) (fun c48=>?_) (fun c48=>?_)
 .have p49:=dY c48;refine sK<|sK<|sK<|sP (.bool true)<|s_nt<|k_true<|k_seq<|k_draw<|sP2 (pB b 0)<|sP (pB b 1)<|sL (t_load 0 (pB r47 0))<|sL (t_loadA 4 (vc k))<|sL (t_loadA 3 (vc v))<|sC [2] (rmset_s (S:=S) ol k v) ?_
  refine sP (iw (osetE k v))<|s_nil<|x_dynS (fun _ h=>by kernel_rfl) ?_
  refine xs_then<|k_ret<|xs_ret<|xs_mem (fun _ h=>rt_shut (h.re [1,1,0] [])) ?_
  have hk:=okKey_good c3 c8;refine xs_fin [iw (osetE k v)] (rtA b L (osetL S k v)::F) (SI.tmp 6 SI.nil) (rr [0] [1,1]) ⟨cI ((tsetE_oset k v)).symm,?_⟩;rw[tset_out (T:=⟨L,S⟩) hk c11 (by show ¬(_∧_≤(L.length:Int));omega) (by show ¬(_=(L.length:Int)+1∧_);rintro⟨e1,e2⟩;first|omega|(have hq:=p49;simp_all))]
 have p50:=Decidable.not_not.1 (dF c48);refine sP (pB g2 0)<|sL (t_load 3 (iw v.kind))<|sL t_cmp<|sP (.bool (decide (v.kind=0)))<|s_nt<|k_cond (decide (v.kind=0)) (fun c51=>?_) (fun c51=>?_)
 .have p52:=dY c51;refine k_seq<|k_draw<|sP2 (pB b 0)<|sP (pB b 1)<|sL (t_load 0 (pB r47 0))<|sL (t_loadA 4 (vc k))<|sL (t_loadA 3 (vc v))<|sC [2] (rmset_s (S:=S) ol k v) ?_
  refine sP (iw (osetE k v))<|s_nil<|x_dynS (fun _ h=>by kernel_rfl) ?_
  refine xs_then<|k_ret<|xs_ret<|xs_mem (fun _ h=>rt_shut (h.re [1,1,0] [])) ?_
  have hk:=okKey_good c3 c8;refine xs_fin [iw (osetE k v)] (rtA b L (osetL S k v)::F) (SI.tmp 6 SI.nil) (rr [0] [1,1]) ⟨cI ((tsetE_oset k v)).symm,?_⟩;rw[tset_out (T:=⟨L,S⟩) hk c11 (by show ¬(_∧_≤(L.length:Int));omega) (by show ¬(_=(L.length:Int)+1∧_);rintro⟨e1,e2⟩;first|omega|(have hq:=p52;simp_all))]
 have p53:=dF c51;refine k_st<|k_seq<|k_block ?_
 have hmu0:=mu_le S L.length v;refine k_loop (ι:=Value×List Vl×Vl×Nat) (fun (lx,X,x,f)=>grow S (S.length+2) L v=grow S f X x∧mu S X.length x≤f∧L.length≤X.length∧X.length+mu S X.length x≤L.length+S.length+1) (fun (lx,X,x,f)=>[(0,pB b 0),(5,pB g2 0),(7,iw (whole k))]) (fun (lx,X,x,f)=>blkA b #[lx,pB r47 0] 229::own VlT lx X::rmA r47 S::blkA g2 (vc x) 71::blkA g1 (vc k) 71::F) (fun (lx,X,x,f)=>mu S X.length x) (lv46,L,v,S.length+2) ⟨rfl,by omega,by omega,by omega⟩ sA (rr [0,0,0,0,0] []) ?_;rintro⟨lx,X,x,f⟩ hi54;replace hi54:grow S (S.length+2) L v=grow S f X x∧mu S X.length x≤f∧L.length≤X.length∧X.length+mu S X.length x≤L.length+S.length+1:=hi54;show SK _ _ _ _ _ [(0,.pointer (some ⟨b,0,none⟩)),(5,.pointer (some ⟨g2,0,none⟩)),(7,iw (whole k))] _ (blkA b #[lx,.pointer (some ⟨r47,0,none⟩)] 229::own VlT lx X::rmA r47 S::blkA g2 (vc x) 71::blkA g1 (vc k) 71::F);refine k_seq<|k_sr<|sP (pB g2 0)<|sL (t_load 3 (iw x.kind))<|sL t_cmp<|s_nt<|k_cond (decide (x.kind≠0)) (fun c55=>?_) (fun c55=>?_)
 .have p56:=dY c55;have hx0:x.kind≠0:=dY c55;obtain⟨f1,hf1,hg1⟩:=grow_step S X hx0 hi54.2.1;have hg2:grow S (S.length+2) L v=grow S (f-1) (X++[x]) (oget S (ofI ((X.length:Int)+2))):=by rw[hi54.1,hg1,hf1];rfl
  refine k_st<|k_block<|k_seq<|k_draw<|sP4 (pB b 0)<|sL (t_load 0 lx)<|sL (t_loadA 3 (vc x))<|s_buildSlice (e:=71) [(0,.agg (vc x))] (vc x) (fun g57=>?_) (hb:=by kernel_rfl)
  refine s_append (L:=X) 2 VlT_ok Tryz.underlying28 (.lit 0 VlT_ok [x]) (by show _*48≤_;(try simp only[lnm]);omega) ol (fun v58=>?_);obtain⟨L2,hL2⟩:∃y,y=X++[x]:=⟨_,rfl⟩;rw[←hL2];have ll2:L2.length=X.length+1:=by rw[hL2];simp
  refine sP2 (pB b 0)<|sF 2 (fun hf59=>?_)
  refine s_store (u:=v58) (m:=1) 1 #[v58,pB r47 0] ?_ (hm:=by (obtain⟨_,_,e⟩:=hf59;rw[e];rfl)) (h1:=by (obtain⟨_,_,e⟩:=hf59;rw[e];rfl)) (ha':=by (obtain⟨_,_,e⟩:=hf59;rw[e];rfl));refine s_nil<|x_dynS (fun _ h=>by kernel_rfl) ?_
  refine xs_then<|k_held [blkA g57 (vc x) 71,blkA b #[v58,pB r47 0] 229,own VlT v58 L2,blkA g1 (vc k) 71] ?_
  refine hp_ 0 [0,0,0,2] (pB b 0) ?_;refine hp_ 1 [0,0,0,2] (pB b 0) ?_;refine hp_ 2 [0,0,0,2] (pB b 1) ?_;refine h_l 3 rfl [0,0,0,2] (fun _=>(t_load 1 (pB r47 0))) ?_;refine hp_ 4 [0,0,0,2] (pB b 0) ?_;refine hp_ 5 [0,0,0,2] (pB b 0) ?_;refine hp_ 6 [0,0,0,2] (pB b 0) ?_;refine h_l 7 rfl [0,0,0,2] (fun _=>(t_load 1 v58)) ?_;refine h_l 8 rfl [0,0,0,2] (fun _=>(t_len VlT_ok Tryz.underlying28 (.own 2))) ?_;refine h_l 9 rfl [0,0,0,2] (fun _=>(Lt.to (v':=iw ((X.length:Int)+2)) (t_add (L2.length:Int) 1 om) (cI om))) ?_;refine h_stepS 10 ?_;refine sV (fun _ h=>rkey_s ((X.length:Int)+2))<|nH [0,0,0,2]<|h_stepS 11 ?_
  refine sC [3] (rmget_s (S:=S) ol (ofI ((X.length:Int)+2))) ?_;refine nH [1,1,1,2]<|h_stepS 12 ?_
  refine s_store 4 (vc (oget S (ofI ((X.length:Int)+2)))) ?_;refine nH [1,1,1,2]<|h_doneS ?_
  refine xs_block ?_;exact xs_round (v58,L2,(oget S (ofI ((X.length:Int)+2))),f-1) (by show mu S _ _<mu S _ _;rw[ll2];exact mu_lt hinv0 hx0) (by show grow S (S.length+2) L v=_∧_;exact⟨by rw[hg2,hL2],by rw[ll2];have:=mu_lt hinv0 (n:=X.length) hx0;omega,by omega,by rw[ll2];have:=mu_lt hinv0 (n:=X.length) hx0;omega⟩) sA (rr [2,2,0,1,1] [5])
 have p60:=Decidable.not_not.1 (dF c55);have hx0:x.kind=0:=Decidable.not_not.1 (dF c55);have hgr:grow S (S.length+2) L v=X:=by rw[hi54.1];exact grow_stop S X hx0
 refine k_exit<|xs_exit<|xs_exit<|xs_here<|xs_then<|k_sr<|sP (pB b 0)<|sP (iw (whole k))<|s_mem (fun _ h=>rt_shut (h.re [0,0,0] [])) ?_
 refine sC [0] (rtpurge_s (L:=X) (S:=S) (n:=L.length) om om om om) ?_;refine s_nr<|sP (iw 0)<|s_nt<|k_ret ?_
 have hk:=okKey_good c3 c8;have hT:tset ⟨L,S⟩ k v=⟨X,if staleB S L.length X.length then purge S X.length else S⟩:=by rw[tset_add (T:=⟨L,S⟩) hk c11 (by show _=(L.length:Int)+1;omega) (dF c51),tadd_eq hgr]
 refine xs_fin [iw 0] (rtA b X (if staleB S L.length X.length then purge S X.length else S)::F) (SI.tmp 6 SI.nil) (rr [0] [1,1]) ⟨cI (tsetE_ok hk c11).symm,?_⟩;rw[hT]
end Go.Proofs.YtmhpcebiamkciaaGreat
end
section
set_option linter.unusedSimpArgs false
set_option linter.unusedVariables false
namespace Go.Proofs.YtmhpcebiamkciaaGreat
structure Hob where
 kind:Int
 tag:Int
 name:ByteArray
 tab:Tb
 mt:Vl
 vals:List Vl
 deriving DecidableEq
structure Hst where
 objs:List (Option Hob)
 tch:List Bool
 deriving DecidableEq
def noTb:Tb:=⟨[],[]⟩
def hp0:Hst:=⟨[],[]⟩
def refV(kind id:Int):Vl:=⟨kind,0,0,ByteArray.empty,id⟩
def strV(s:ByteArray):Vl:=⟨3,0,0,s,0⟩
def Hst.get(st:Hst)(id:Int):Option Hob:=if 1≤id then (st.objs[id.toNat-1]?).bind (fun x=>x) else none
def Hst.put(st:Hst)(id:Int)(o:Hob):Hst:={ st with objs:=st.objs.set (id.toNat-1) (some o) }
def Hst.touch(st:Hst)(id:Int):Hst:={ st with tch:=st.tch.set (id.toNat-1) true }
def Hst.count(st:Hst):Nat:=st.objs.countP Option.isSome
def isRef(k:Int):Bool:=decide (k=4)||(decide (k=5)||(decide (k=7)||decide (k=8)))
def hfind(st:Hst)(v:Vl):Option Hob:=(st.get v.ref).bind fun o=>if o.kind=v.kind then some o else none
def htab(st:Hst)(v:Vl):Option Tb:=(hfind st v).bind fun o=>if o.kind=4 then some o.tab else none
def newO(kind tag:Int)(name:ByteArray)(vals:List Vl):Hob:=⟨kind,tag,name,noTb,zVl,vals⟩
def hmakeV(st:Hst)(kind:Int):Vl:=if 65536≤st.count then zVl else refV kind ((st.objs.length:Int)+1)
def hmakeE(st:Hst):Int:=if 65536≤st.count then 17 else 0
def hmake(st:Hst)(o:Hob):Hst:=if 65536≤st.count then st else ⟨st.objs++[some o],st.tch++[true]⟩
def elemE(v:Vl):Int:=if v.kind=3∧4096<(v.str.size:Int) then 14 else if validB v=false then 2 else 0
def hgetV(st:Hst)(t k:Vl):Vl:=match htab st t with
 | some T=>tget T k
 | none=>zVl
def hgetE(st:Hst)(t:Vl):Int:=if (htab st t).isSome then 0 else 8
def hsetE(st:Hst)(t k v:Vl):Int:=match htab st t with
 | none=>8
 | some T=>if okKey k=false then 13 else elemE v
def Hst.setTab(st:Hst)(id:Int)(T:Tb):Hst:=match st.get id with
 | some o=>st.put id { o with tab:=T }
 | none=>st
def hset(st:Hst)(t k v:Vl):Hst:=match htab st t with
 | none=>st
 | some T=>if okKey k=false then st else if elemE v≠0 then st else (st.setTab t.ref (tset T k v)).touch t.ref
def hmeta(st:Hst)(v:Vl):Vl:=match hfind st v with
 | some o=>o.mt
 | none=>zVl
def hmetaOk(st:Hst)(v m:Vl):Bool:=match hfind st v with
 | some o=>(decide (o.kind=4)||decide (o.kind=8))&&(decide (m=zVl)||(htab st m).isSome)
 | none=>false
def hsetMetaE(st:Hst)(v m:Vl):Int:=if hmetaOk st v m=true then 0 else 8
def Hst.setMt(st:Hst)(id:Int)(m:Vl):Hst:=match st.get id with
 | some o=>st.put id { o with mt:=m }
 | none=>st
def hsetMeta(st:Hst)(v m:Vl):Hst:=if hmetaOk st v m=true then (st.setMt v.ref m).touch v.ref else st
structure ObInv(o:Hob):Prop where
 kind:isRef o.kind=true
 tab:TInv o.tab
 mt:o.kind≠4→o.kind≠8→o.mt=zVl
structure HInv(st:Hst):Prop where
 obs:∀o,some o∈st.objs→ObInv o
 tch:st.tch.length=st.objs.length
structure HSm(n:Nat)(st:Hst):Prop where
 len:st.objs.length≤n
 obs:∀o,some o∈st.objs→o.tab.rest.length≤n∧o.tab.list.length≤n*(n+1)∧o.vals.length≤n+20
theorem HInv.nil:HInv hp0:=⟨fun _ h=>(by cases h),rfl⟩
theorem HSm.nil:HSm 0 hp0:=⟨Nat.le_refl _,fun _ h=>(by cases h)⟩
theorem HSm.mono {n m : Nat} {st : Hst} (h : HSm n st) (hnm : n ≤ m) : HSm m st := ⟨Nat.le_trans h.len hnm, fun o ho => by
  obtain ⟨a, b, c⟩ := h.obs o ho
  have : n * (n + 1) ≤ m * (m + 1) := Nat.mul_le_mul hnm (by omega)
  exact ⟨by omega, by omega, by omega⟩⟩
theorem get_mem{st:Hst}{id:Int}{o:Hob}(h:st.get id=some o):some o∈st.objs∧1≤id∧id≤st.objs.length∧st.objs[id.toNat-1]?=some (some o):=by
 unfold Hst.get at h;split at h
 .rename_i h1;cases hx:st.objs[id.toNat-1]? with
  | none=>rw[hx]at h;cases h
  | some x=>
   rw[hx]at h;simp at h;subst h;have:=(List.getElem?_eq_some_iff.1 hx).1;exact⟨List.mem_of_getElem? hx,h1,by omega,rfl⟩
 cases h
theorem hfind_some{st:Hst}{v:Vl}{o:Hob}(h:hfind st v=some o):st.get v.ref=some o∧o.kind=v.kind:=by
 unfold hfind at h;cases hg:st.get v.ref with
 | none=>rw[hg]at h;cases h
 | some x=>
  rw[hg]at h;simp only[Option.bind_some]at h;split at h
  .injection h with e;subst e;exact⟨rfl,by assumption⟩
  cases h
theorem hfind_is{st:Hst}{v:Vl}{o:Hob}(h:st.get v.ref=some o)(hk:o.kind=v.kind):hfind st v=some o:=by unfold hfind;rw[h];simp[hk]
theorem hfind_kind{st:Hst}{v:Vl}{o:Hob}(h:st.get v.ref=some o)(hk:o.kind≠v.kind):hfind st v=none:=by unfold hfind;rw[h];simp[hk]
theorem hfind_none{st:Hst}{v:Vl}(h:st.get v.ref=none):hfind st v=none:=by unfold hfind;rw[h];rfl
theorem htab_some{st:Hst}{v:Vl}{T:Tb}(h:htab st v=some T):∃o,hfind st v=some o∧st.get v.ref=some o∧o.kind=4∧v.kind=4∧o.tab=T:=by
 unfold htab at h;cases hf:hfind st v with
 | none=>rw[hf]at h;cases h
 | some o=>
  rw[hf]at h;simp only[Option.bind_some]at h;split at h
  .rename_i h4;obtain⟨a,b⟩:=hfind_some hf;injection h with e
   exact⟨o,rfl,a,h4,by omega,e⟩
  cases h
theorem htab_is{st:Hst}{v:Vl}{o:Hob}(h:hfind st v=some o)(h4:o.kind=4):htab st v=some o.tab:=by unfold htab;rw[h];simp[h4]
theorem htab_not{st:Hst}{v:Vl}{o:Hob}(h:hfind st v=some o)(h4:o.kind≠4):htab st v=none:=by unfold htab;rw[h];simp[h4]
theorem htab_none{st:Hst}{v:Vl}(h:hfind st v=none):htab st v=none:=by unfold htab;rw[h];rfl
theorem get_put{st:Hst}{id:Int}{o o':Hob}(h:st.get id=some o)(id':Int):(st.put id o').get id'=if id'=id then some o' else st.get id':=by
 obtain⟨_,h1,h2,h3⟩:=get_mem h;unfold Hst.get Hst.put;by_cases e:id'=id
 .subst e;rw[if_pos h1,if_pos rfl,List.getElem?_set_self (by omega)];rfl
 rw[if_neg e];by_cases hp:1≤id'
 .rw [if_pos hp,if_pos hp,List.getElem?_set_ne (by omega)]
 rw[if_neg hp,if_neg hp]
theorem get_touch(st:Hst)(i id:Int):(st.touch i).get id=st.get id:=rfl
theorem mem_put{st:Hst}{id:Int}{o x:Hob}(h:some x∈(st.put id o).objs):some x∈st.objs∨x=o:=by
 rcases List.mem_or_eq_of_mem_set h with h|h
 .exact .inl h
 exact .inr (Option.some.inj h)
theorem put_inv{st:Hst}(h:HInv st){id:Int}{o:Hob}(ho:ObInv o):HInv (st.put id o):=by
 refine⟨fun x hx=>?_,?_⟩
 .rcases mem_put hx with hx|rfl
  .exact h.obs x hx
  exact ho
 unfold Hst.put;simp only[List.length_set];exact h.tch
theorem touch_inv{st:Hst}(h:HInv st)(id:Int):HInv (st.touch id):=by
 refine⟨h.obs,?_⟩;unfold Hst.touch;simp only[List.length_set];exact h.tch
theorem hset_cases(st:Hst)(t k v:Vl):(htab st t=none∧hset st t k v=st∧hsetE st t k v=8)∨(∃T,htab st t=some T∧okKey k=false∧hset st t k v=st∧hsetE st t k v=13)∨(∃T,htab st t=some T∧okKey k=true∧elemE v≠0∧hset st t k v=st∧hsetE st t k v=elemE v)∨
  ∃T o,htab st t=some T∧okKey k=true∧elemE v=0∧validB v=true∧st.get t.ref=some o∧o.kind=4∧t.kind=4∧o.tab=T∧hset st t k v=(st.put t.ref { o with tab:=tset T k v }).touch t.ref∧hsetE st t k v=0:=by
 unfold hset hsetE;cases hT:htab st t with
 | none=>exact .inl ⟨rfl,rfl,rfl⟩
 | some T=>
  simp only;cases hk:okKey k with
  | false=>exact .inr (.inl ⟨T,rfl,rfl,by simp,by simp⟩)
  | true=>
   by_cases he:elemE v=0
   .obtain ⟨o,h1,h2,h3,h4,h5⟩:=htab_some hT;refine .inr (.inr (.inr ⟨T,o,rfl,rfl,he,?_,h2,h3,h4,h5,?_,?_⟩))
    .unfold elemE at he;split at he
     .cases he
     split at he
     .cases he
     rename_i hv;simpa using hv
    .unfold Hst.setTab;rw[h2];simp[he]
    simp[he]
   exact .inr (.inr (.inl ⟨T,rfl,rfl,he,by simp[he],by simp⟩))
theorem hset_inv{st:Hst}(h:HInv st)(t k v:Vl):HInv (hset st t k v):=by
 rcases hset_cases st t k v with ⟨_,e,_⟩|⟨_,_,_,e,_⟩|⟨_,_,_,_,e,_⟩|⟨T,o,h1,h2,h3,hv,h4,h5,h6,h7,e,_⟩
 .rw [e];exact h
 .rw [e];exact h
 .rw [e];exact h
 rw[e];have ho:=h.obs o (get_mem h4).1;refine touch_inv (put_inv h (o:={ o with tab:=tset T k v }) ⟨ho.kind,?_,ho.mt⟩) _;rw[←h7];exact tset_inv ho.tab k v
theorem hset_sm{n:Nat}{st:Hst}(hi:HInv st)(h:HSm n st)(t k v:Vl):HSm (n+1) (hset st t k v):=by
 rcases hset_cases st t k v with ⟨_,e,_⟩|⟨_,_,_,e,_⟩|⟨_,_,_,_,e,_⟩|⟨T,o,h1,h2,h3,hv,h4,h5,h6,h7,e,_⟩
 .rw [e];exact h.mono (by omega)
 .rw [e];exact h.mono (by omega)
 .rw [e];exact h.mono (by omega)
 rw[e];have hm:=h.mono (Nat.le_succ n);have ho:=h.obs o (get_mem h4).1;have hl:=tset_len (hi.obs o (get_mem h4).1).tab k v;refine⟨by show (st.objs.set _ _).length≤_;rw[List.length_set];exact hm.len,fun x hx=>?_⟩;rcases mem_put hx with hx|rfl
 .exact hm.obs x hx
 have:(n+1)*(n+1+1)=n*(n+1)+2*(n+1):=by simp only[Nat.add_mul,Nat.mul_add];omega
 rw[←h7];exact⟨by show (tset o.tab k v).rest.length≤_;omega,by show (tset o.tab k v).list.length≤_;omega,by show o.vals.length≤_;omega⟩
theorem hmake_inv{st:Hst}(h:HInv st){o:Hob}(ho:ObInv o):HInv (hmake st o):=by
 unfold hmake;split
 .exact h
 refine⟨fun x hx=>?_,by simp[h.tch]⟩;rcases List.mem_append.1 hx with hx|hx
 .exact h.obs x hx
 rw[List.mem_singleton]at hx;injection hx with hx;rw[hx];exact ho
theorem hmake_sm{n:Nat}{st:Hst}(h:HSm n st){o:Hob}(h1:o.tab=noTb)(h2:o.vals.length≤20):HSm (n+1) (hmake st o):=by
 have hm:=h.mono (Nat.le_succ n);unfold hmake;split
 .exact hm
 refine⟨by simp;exact h.len,fun x hx=>?_⟩;rcases List.mem_append.1 hx with hx|hx
 .exact hm.obs x hx
 rw[List.mem_singleton]at hx;injection hx with hx;rw[hx,h1]
 exact⟨Nat.zero_le _,Nat.zero_le _,by omega⟩
theorem newO_inv{kind:Int}(tag:Int)(name:ByteArray)(vals:List Vl)(hk:isRef kind=true):ObInv (newO kind tag name vals):=⟨hk,TInv.nil,fun _ _=>rfl⟩
theorem hsetMeta_cases(st:Hst)(v m:Vl):(hsetMeta st v m=st∧hsetMetaE st v m=8∧hmetaOk st v m=false)∨∃o,st.get v.ref=some o∧o.kind=v.kind∧(o.kind=4∨o.kind=8)∧hsetMeta st v m=(st.put v.ref { o with mt:=m }).touch v.ref∧hsetMetaE st v m=0∧hmetaOk st v m=true:=by
 unfold hsetMeta hsetMetaE;cases hb:hmetaOk st v m with
 | false=>exact .inl ⟨rfl,rfl,rfl⟩
 | true=>
  unfold hmetaOk at hb;cases hf:hfind st v with
  | none=>rw[hf]at hb;cases hb
  | some o=>
   rw[hf]at hb;obtain⟨h1,h2⟩:=hfind_some hf;simp only[Bool.and_eq_true,Bool.or_eq_true,decide_eq_true_eq]at hb;refine .inr ⟨o,h1,h2,hb.1,?_,rfl,rfl⟩;unfold Hst.setMt;rw[h1];rfl
theorem hsetMeta_inv{st:Hst}(h:HInv st)(v m:Vl):HInv (hsetMeta st v m):=by
 rcases hsetMeta_cases st v m with ⟨e,_⟩|⟨o,h1,_,h2,e,_⟩
 .rw [e];exact h
 rw[e];have ho:=h.obs o (get_mem h1).1;exact touch_inv (put_inv h (o:={ o with mt:=m }) ⟨ho.kind,ho.tab,fun a b=>by rcases h2 with h|h<;>contradiction⟩) _
theorem hsetMeta_sm{n:Nat}{st:Hst}(h:HSm n st)(v m:Vl):HSm (n+1) (hsetMeta st v m):=by
 rcases hsetMeta_cases st v m with ⟨e,_⟩|⟨o,h1,_,h2,e,_⟩
 .rw [e];exact h.mono (by omega)
 rw[e];have hm:=h.mono (Nat.le_succ n);refine⟨by show (st.objs.set _ _).length≤_;rw[List.length_set];exact hm.len,fun x hx=>?_⟩;rcases mem_put hx with hx|rfl
 .exact hm.obs x hx
 exact hm.obs o (get_mem h1).1
/-! ### Objects beside a map of their places -/
def ob0:Hob:=⟨0,0,ByteArray.empty,noTb,zVl,[]⟩
def Hst.ob(st:Hst)(id:Int):Hob:=(st.get id).getD ob0
theorem ob_get{st:Hst}{id:Int}{o:Hob}(h:st.get id=some o):st.ob id=o:=by unfold Hst.ob;rw[h];rfl
theorem get_end(st:Hst):st.get ((st.objs.length:Int)+1)=none:=by
 unfold Hst.get;rw[if_pos (by omega),show ((st.objs.length:Int)+1).toNat-1=st.objs.length by omega,List.getElem?_eq_none (Nat.le_refl _)];rfl
theorem get_snoc(st:Hst)(o:Hob)(tch:List Bool)(id:Int):Hst.get ⟨st.objs++[some o],tch⟩ id=if id=(st.objs.length:Int)+1 then some o else st.get id:=by
 unfold Hst.get;by_cases h:id=(st.objs.length:Int)+1
 .subst h;rw[if_pos rfl,if_pos (by omega)];show ((st.objs++[some o])[_]?).bind _=_;rw[show ((st.objs.length:Int)+1).toNat-1=st.objs.length by omega,List.getElem?_append_right (Nat.le_refl _)];simp
 rw[if_neg h];by_cases hp:1≤id
 .rw [if_pos hp,if_pos hp];show ((st.objs++[some o])[_]?).bind _=_;by_cases hl:id.toNat-1<st.objs.length
  .rw [List.getElem?_append_left hl]
  rw[List.getElem?_eq_none (by simp;omega),List.getElem?_eq_none (by omega)]
 rw[if_neg hp,if_neg hp]
theorem count_snoc(st:Hst)(o:Hob)(tch:List Bool):Hst.count ⟨st.objs++[some o],tch⟩=st.count+1:=by unfold Hst.count;simp
theorem countP_set{α:Type}{p:α→Bool}:∀(l:List α) {i:Nat}{x y:α},l[i]?=some x→p x=p y→(l.set i y).countP p=l.countP p
 | [],_,_,_,h,_=>by cases h
 | a::r,0,x,y,h,e=>by
  simp only[List.getElem?_cons_zero,Option.some.injEq]at h;subst h;simp[List.countP_cons,e]
 | a::r,i+1,x,y,h,e=>by
  simp only[List.getElem?_cons_succ]at h;simp[List.countP_cons,countP_set r h e]
theorem count_put{st:Hst}{id:Int}{o o':Hob}(h:st.get id=some o):(st.put id o').count=st.count:=by
 obtain⟨_,h1,h2,h3⟩:=get_mem h;exact countP_set _ h3 rfl
end Go.Proofs.YtmhpcebiamkciaaGreat
end
section
set_option linter.unusedSimpArgs false
set_option linter.unusedVariables false
namespace Go.Proofs.YtmhpcebiamkciaaGreat
open Go.S Go.J Go.Hp
open Go.Mem (aget aset adel apos aget_aset aget_adel)
structure HA(ps:List (Int×(Nat×Nat)))(st:Hst):Prop where
 has:∀id,(aget ps id).isSome=(st.get id).isSome
 len:ps.length=st.count
def TA(tm:List (Int×Bool))(st:Hst):Prop:=∀id o,st.get id=some o→(aget tm id).isSome=(st.tch[id.toNat-1]?).getD false
abbrev ptrV(g:Nat):Value:=.pointer (some ⟨g,0,none⟩)
def fndV(ps:List (Int×(Nat×Nat)))(st:Hst)(v:Vl):Value:=match hfind st v,aget ps v.ref with
 | some _,some q=>ptrV q.1
 | _,_=>.pointer none
def tabV(q:Nat×Nat)(o:Hob):Value:=if o.kind=4 then ptrV q.2 else .pointer none
def tbV(ps:List (Int×(Nat×Nat)))(st:Hst)(v:Vl):Value:=match hfind st v,aget ps v.ref with
 | some o,some q=>tabV q o
 | _,_=>.pointer none
theorem get_cases{ps:List (Int×(Nat×Nat))}{st:Hst}(h:HA ps st)(id:Int):(st.get id=none∧aget ps id=none)∨∃o q,st.get id=some o∧aget ps id=some q:=by
 have:=h.has id;cases h1:st.get id with
 | none=>rw[h1]at this;exact .inl ⟨rfl,by cases h2:aget ps id with|none=>rfl|some q=>rw[h2]at this;cases this⟩
 | some o=>rw[h1]at this;exact .inr (by cases h2:aget ps id with|none=>rw[h2]at this;cases this|some q=>exact⟨o,q,rfl,rfl⟩)
theorem fnd_cases{ps:List (Int×(Nat×Nat))}{st:Hst}(h:HA ps st)(v:Vl):(hfind st v=none∧htab st v=none∧fndV ps st v=.pointer none∧tbV ps st v=.pointer none)∨∃o q,hfind st v=some o∧st.get v.ref=some o∧o.kind=v.kind∧aget ps v.ref=some q∧fndV ps st v=ptrV q.1∧tbV ps st v=tabV q o:=by
 cases hf:hfind st v with
 | none=>exact .inl ⟨rfl,htab_none hf,by unfold fndV;rw[hf],by unfold tbV;rw[hf]⟩
 | some o=>
  obtain⟨h1,h2⟩:=hfind_some hf;rcases get_cases h v.ref with ⟨h3,_⟩|⟨o',q,h3,h4⟩
  .rw [h1]at h3;cases h3
  exact .inr ⟨o,q,rfl,h1,h2,h4,by unfold fndV;rw[hf,h4],by unfold tbV;rw[hf,h4]⟩
theorem tb_cases{ps:List (Int×(Nat×Nat))}{st:Hst}(h:HA ps st)(v:Vl):(htab st v=none∧tbV ps st v=.pointer none)∨∃o q,htab st v=some o.tab∧st.get v.ref=some o∧o.kind=4∧v.kind=4∧aget ps v.ref=some q∧tbV ps st v=ptrV q.2:=by
 rcases fnd_cases h v with ⟨h1,h2,h3,h4⟩|⟨o,q,h1,h2,h3,h4,h5,h6⟩
 .exact .inl ⟨h2,h4⟩
 by_cases hk:o.kind=4
 .exact .inr ⟨o,q,htab_is h1 hk,h2,hk,by omega,h4,by rw[h6];unfold tabV;rw[if_pos hk]⟩
 exact .inl ⟨htab_not h1 hk,by rw[h6];unfold tabV;rw[if_neg hk]⟩
theorem HA.nil:HA [] hp0:=⟨fun id=>by unfold Hst.get hp0;by_cases h:1≤id<;>simp[h,aget],rfl⟩
theorem TA.nil:TA [] hp0:=fun id o h=>by
 have:=(get_mem h).1;cases this
theorem HA.put{ps:List (Int×(Nat×Nat))}{st:Hst}(h:HA ps st){id:Int}{o o':Hob}(hg:st.get id=some o):HA ps (st.put id o'):=by
 refine⟨fun id'=>?_,by rw[h.len,count_put hg]⟩;rw[h.has,get_put hg];by_cases e:id'=id
 .subst e;rw[hg,if_pos rfl];rfl
 rw[if_neg e]
theorem HA.touch{ps:List (Int×(Nat×Nat))}{st:Hst}(h:HA ps st)(id:Int):HA ps (st.touch id):=⟨h.has,h.len⟩
theorem TA.put{tm:List (Int×Bool)}{st:Hst}(h:TA tm st){id:Int}{o o':Hob}(hg:st.get id=some o):TA tm (st.put id o'):=fun id' x hx=>by
 rw[get_put hg]at hx;show _=(st.tch[_]?).getD false;by_cases e:id'=id
 .subst e;exact h id' o hg
 rw[if_neg e]at hx;exact h id' x hx
theorem TA.touch{tm:List (Int×Bool)}{st:Hst}(h:TA tm st)(hi:HInv st){id:Int}{o:Hob}(hg:st.get id=some o):TA (aset tm id true) (st.touch id):=fun id' x hx=>by
 obtain⟨_,h1,h2,_⟩:=get_mem hg;obtain⟨_,h3,h4,_⟩:=get_mem (show st.get id'=some x from hx);have ht:=hi.tch;show _=((st.tch.set _ true)[_]?).getD false;rw[aget_aset];by_cases e:id'=id
 .subst e;rw[if_pos rfl,List.getElem?_set_self (by omega)];rfl
 rw[if_neg e,List.getElem?_set_ne (by omega)];exact h id' x hx
theorem HA.make{ps:List (Int×(Nat×Nat))}{st:Hst}(h:HA ps st)(o:Hob)(q:Nat×Nat)(hf:st.count<65536):HA (aset ps ((st.objs.length:Int)+1) q) (hmake st o):=by
 unfold hmake;rw[if_neg (by omega)];have hnone:aget ps ((st.objs.length:Int)+1)=none:=by
  have:=h.has ((st.objs.length:Int)+1);rw[get_end]at this;cases hx:aget ps ((st.objs.length:Int)+1) with
  | none=>rfl
  | some q=>rw[hx]at this;cases this
 refine⟨fun id=>?_,?_⟩
 .rw [aget_aset,get_snoc];by_cases e:id=(st.objs.length:Int)+1
  .rw [if_pos e,if_pos e];rfl
  rw[if_neg e,if_neg e];exact h.has id
 rw[count_snoc,←h.len];have:apos ps ((st.objs.length:Int)+1)=none:=by
  cases hp:apos ps ((st.objs.length:Int)+1) with
  | none=>rfl
  | some i=>obtain⟨_,y,_,h2⟩:=Go.Mem.apos_lt hp;rw[hnone]at h2;cases h2
 rw[Go.Mem.aset_new this];simp
theorem TA.make{tm:List (Int×Bool)}{st:Hst}(h:TA tm st)(hi:HInv st)(o:Hob)(hf:st.count<65536):TA (aset tm ((st.objs.length:Int)+1) true) (hmake st o):=fun id x hx=>by
 unfold hmake at hx⊢;rw[if_neg (by omega)]at hx⊢;rw[get_snoc]at hx;have ht:=hi.tch;show _=((st.tch++[true])[_]?).getD false;rw[aget_aset];by_cases e:id=(st.objs.length:Int)+1
 .rw [if_pos e,e,show ((st.objs.length:Int)+1).toNat-1=st.objs.length by omega,List.getElem?_append_right (by omega)];simp[ht]
 rw[if_neg e]at hx⊢;obtain⟨_,h1,h2,_⟩:=get_mem hx;rw[List.getElem?_append_left (by omega)];exact h id x hx
end Go.Proofs.YtmhpcebiamkciaaGreat
end
section
set_option linter.unusedSimpArgs false
set_option linter.unusedVariables false
set_option maxRecDepth 100000
set_option maxHeartbeats 2000000
namespace Go.Proofs.YtmhpcebiamkciaaGreat
open Go.Hp Go.J Go.S
open Go.Mem (Ty KTy blk elemAt pre suf blk_pre blk_suf aget aset strK aggDesc)
open Go.Mem (adel apos aget_aset aget_adel)
abbrev oV(q:Nat×Nat):Value:=ptrV q.1
abbrev bV(b:Bool):Value:=.bool b
abbrev iK:KTy Int:=Go.Mem.intK 3
def tabO(q:Nat×Nat)(o:Hob):Asr:=star (if o.kind=4 then [tbA q.2 o.tab.list o.tab.rest] else [])
def obP(q:Nat×Nat)(o:Hob):Asr:=exA fun v=>stA True [blkA q.1 #[iw o.kind,iw o.tag,sw o.name,tabV q o,iw o.mt.kind,iw o.mt.p,iw o.mt.q,sw o.mt.str,iw o.mt.ref,v] 123,own VlT v o.vals,tabO q o]
def allP(ps:List (Int×(Nat×Nat)))(st:Hst):Asr:=star (ps.map fun p=>obP p.2 (st.ob p.1))
def holeP(ps:List (Int×(Nat×Nat)))(st:Hst)(id:Int):Asr:=star ((adel ps id).map fun p=>obP p.2 (st.ob p.1))
def hpP(b:Nat)(st:Hst)(ps:List (Int×(Nat×Nat))):Asr:=exA fun mb=>exA fun tb=>exA fun tm=>stA (HInv st∧HA ps st∧TA tm st) [blkA b #[.map (some mb),iw (st.objs.length:Int),.map (some tb)] 97,mpA iK oV mb ps,mpA iK bV tb tm,allP ps st]
def hpA(b:Nat)(st:Hst):Asr:=exA fun ps=>hpP b st ps
section
variable{Z:Zone}{F:List Asr}{H:Heap}{b:Nat}{st:Hst}{ps:List (Int×(Nat×Nat))}{id:Int}{q:Nat×Nat}{o o':Hob}
theorem ob_open(h:Holds Z (obP q o::F) H):∃v,True∧Holds Z (blkA q.1 #[iw o.kind,iw o.tag,sw o.name,tabV q o,iw o.mt.kind,iw o.mt.p,iw o.mt.q,sw o.mt.str,iw o.mt.ref,v] 123::own VlT v o.vals::tabO q o::F) H:=by
 obtain⟨v,h⟩:=h.open_ex;exact⟨v,h.open_st⟩
theorem ob_shut{v:Value}(h:Holds Z (blkA q.1 #[iw o.kind,iw o.tag,sw o.name,tabV q o,iw o.mt.kind,iw o.mt.p,iw o.mt.q,sw o.mt.str,iw o.mt.ref,v] 123::own VlT v o.vals::tabO q o::F) H):Holds Z (obP q o::F) H:=Holds.shut_ex v (Holds.shut_st trivial h)
theorem tabO_open(h4:o.kind=4)(h:Holds Z (tabO q o::F) H):Holds Z (tbA q.2 o.tab.list o.tab.rest::F) H:=by
 unfold tabO at h;rw[if_pos h4]at h;exact h.star_out
theorem tabO_shut{T:Tb}(h4:o.kind=4)(h:Holds Z (tbA q.2 T.list T.rest::F) H):Holds Z (tabO q { o with tab:=T }::F) H:=by
 unfold tabO;rw[if_pos h4];exact Holds.star_in (L:=[_]) h
theorem tabO_none(h4:o.kind≠4)(h:Holds Z F H):Holds Z (tabO q o::F) H:=by
 unfold tabO;rw[if_neg h4];exact h.star_nil
theorem all_focus(hq:aget ps id=some q)(ho:st.get id=some o)(h:Holds Z (allP ps st::F) H):∃v,True∧Holds Z (blkA q.1 #[iw o.kind,iw o.tag,sw o.name,tabV q o,iw o.mt.kind,iw o.mt.p,iw o.mt.q,sw o.mt.str,iw o.mt.ref,v] 123::own VlT v o.vals::tabO q o::holeP ps st id::F) H:=by
 obtain⟨i,hp⟩:∃i,apos ps id=some i:=by
  cases hp:apos ps id with
  | none=>rw[Go.Mem.apos_none hp]at hq;cases hq
  | some i=>exact⟨i,rfl⟩
 obtain⟨hi,y,hy,hq'⟩:=Go.Mem.apos_lt hp;rw[hq]at hq';cases hq';have h1:Holds Z (obP q (st.ob id)::star ((ps.eraseIdx i).map fun p=>obP p.2 (st.ob p.1))::F) H:=h.star_get hy;unfold holeP;rw[Go.Mem.adel_pos hp];rw[ob_get ho]at h1;exact ob_open h1
theorem put_same(ho:st.get id=some o):st.put id o=st:=by
 obtain⟨_,h1,h2,h3⟩:=get_mem ho;unfold Hst.put;rw[set_same h3]
theorem all_unfocus (hnd : (ps.map Prod.fst).Nodup) (hq : aget ps id = some q) (ho : st.get id = some o) (h : Holds Z (obP q o' :: holeP ps st id :: F) H) : Holds Z (allP ps (st.put id o') :: F) H := by
  obtain ⟨i, hp⟩ : ∃ i, apos ps id = some i := by
    cases hp : apos ps id with
    | none => rw [Go.Mem.apos_none hp] at hq; cases hq
    | some i => exact ⟨i, rfl⟩
  obtain ⟨hi, y, hy, hq'⟩ := Go.Mem.apos_lt hp
  rw [hq] at hq'; cases hq'
  unfold holeP at h
  rw [Go.Mem.adel_pos hp] at h
  refine Holds.star_set (f := fun p : Int × (Nat × Nat) => obP p.2 (st.ob p.1)) (g := fun p => obP p.2 ((st.put id o').ob p.1)) hy (fun j p hj hp' => ?_) ?_
  · show obP p.2 _ = obP p.2 _
    have hne : p.1 ≠ id := fun e => hj (by
      obtain ⟨hj1, e1⟩ := List.getElem?_eq_some_iff.1 hp'
      refine (List.getElem_inj (h₀ := by rw [List.length_map]; exact hj1) (h₁ := by rw [List.length_map]; exact hi) hnd).1 ?_
      simp only [List.getElem_map]
      rw [e1, (List.getElem?_eq_some_iff.1 hy).2]; exact e)
    unfold Hst.ob
    rw [get_put ho, if_neg hne]
  · have e : (st.put id o').ob id = o' := by unfold Hst.ob; rw [get_put ho, if_pos rfl]; rfl
    show Holds Z (obP q ((st.put id o').ob id) :: _ :: F) H
    rw [e]; exact h
theorem hp_open(h:Holds Z (hpP b st ps::F) H):∃(mb tb:Nat) (tm:List (Int×Bool)),(HInv st∧HA ps st∧TA tm st)∧Holds Z (blkA b #[.map (some mb),iw (st.objs.length:Int),.map (some tb)] 97::mpA iK oV mb ps::mpA iK bV tb tm::allP ps st::F) H:=by
 obtain⟨mb,h⟩:=h.open_ex;obtain⟨tb,h⟩:=h.open_ex;obtain⟨tm,h⟩:=h.open_ex;exact⟨mb,tb,tm,h.open_st⟩
theorem hp_shut{mb tb:Nat}{tm:List (Int×Bool)}{n:Int}(hp:(HInv st∧HA ps st∧TA tm st)∧n=(st.objs.length:Int))(h:Holds Z (blkA b #[.map (some mb),iw n,.map (some tb)] 97::mpA iK oV mb ps::mpA iK bV tb tm::allP ps st::F) H):Holds Z (hpP b st ps::F) H:=by
 obtain⟨h1,rfl⟩:=hp;exact Holds.shut_ex mb (Holds.shut_ex tb (Holds.shut_ex tm (Holds.shut_st h1 h)))
theorem hp_facts(h:Holds Z (hpP b st ps::F) H):HInv st∧HA ps st:=by
 obtain⟨_,_,_,h,_⟩:=hp_open h;exact⟨h.1,h.2.1⟩
theorem hpA_open(h:Holds Z (hpA b st::F) H):∃ps,True∧Holds Z (hpP b st ps::F) H:=by
 obtain⟨ps,h⟩:=h.open_ex;exact⟨ps,trivial,h⟩
theorem hpA_shut(h:Holds Z (hpP b st ps::F) H):Holds Z (hpA b st::F) H:=Holds.shut_ex ps h
theorem put_len:(st.put id o').objs.length=st.objs.length:=by unfold Hst.put;simp
def tholeP(b:Nat)(st:Hst)(ps:List (Int×(Nat×Nat)))(id:Int)(q:Nat×Nat)(o:Hob):Asr:=exA fun mb=>exA fun tb=>exA fun tm=>exA fun v=>stA (HInv st∧HA ps st∧TA tm st) [blkA b #[.map (some mb),iw (st.objs.length:Int),.map (some tb)] 97,mpA iK oV mb ps,mpA iK bV tb tm,blkA q.1 #[iw o.kind,iw o.tag,sw o.name,tabV q o,iw o.mt.kind,iw o.mt.p,iw o.mt.q,sw o.mt.str,iw o.mt.ref,v] 123,own VlT v o.vals,holeP ps st id]
theorem tab_out(hq:aget ps id=some q)(ho:st.get id=some o)(h4:o.kind=4)(h:Holds Z (hpP b st ps::F) H):Holds Z (tbA q.2 o.tab.list o.tab.rest::tholeP b st ps id q o::F) H:=by
 obtain⟨mb,tb,tm,hf,h⟩:=hp_open h;obtain⟨v,_,h⟩:=all_focus hq ho (h.re [3] []:Holds Z (allP ps st::_::_::_::F) H);have h1:=tabO_open h4 (h.re [2] []:Holds Z (tabO q o::_::_::_::_::_::_::F) H);refine Holds.swap (Holds.shut_ex mb (Holds.shut_ex tb (Holds.shut_ex tm (Holds.shut_ex v (Holds.shut_st hf ?_)))));exact h1.re [4,4,4,1,1,1] []
theorem tab_in{T:Tb}(hq:aget ps id=some q)(ho:st.get id=some o)(h4:o.kind=4)(hT:TInv T)(h:Holds Z (tbA q.2 T.list T.rest::tholeP b st ps id q o::F) H):Holds Z (hpP b (st.put id { o with tab:=T }) ps::F) H:=by
 obtain⟨mb,h⟩:=h.swap.open_ex;obtain⟨tb,h⟩:=h.open_ex;obtain⟨tm,h⟩:=h.open_ex;obtain⟨v,h⟩:=h.open_ex;obtain⟨hf,h⟩:=h.open_st;have hnd:=(h.mp (i:=1) rfl).nodup;have h1:=tabO_shut (o:=o) h4 (h.re [6] []:Holds Z (tbA q.2 T.list T.rest::_::_::_::_::_::_::F) H);have e:tabV q { o with tab:=T }=tabV q o:=rfl;have h2:Holds Z (obP q { o with tab:=T }::holeP ps st id::_::_::_::F) H:=ob_shut (o:={ o with tab:=T }) (by rw[e];exact h1.re [4,4,0,3] []);have h3:=all_unfocus hnd hq ho h2;have hi:ObInv o:=hf.1.obs o (get_mem ho).1;exact hp_shut ⟨⟨put_inv hf.1 ⟨hi.kind,hT,hi.mt⟩,hf.2.1.put ho,hf.2.2.put ho⟩,by rw[put_len]⟩ (h3.re [1,1,1,0] [])
theorem tab_back(hq:aget ps id=some q)(ho:st.get id=some o)(h4:o.kind=4)(h:Holds Z (tbA q.2 o.tab.list o.tab.rest::tholeP b st ps id q o::F) H):Holds Z (hpP b st ps::F) H:=by
 have hi:HInv st:=by
  obtain⟨_,h⟩:=h.swap.open_ex;obtain⟨_,h⟩:=h.open_ex;obtain⟨_,h⟩:=h.open_ex;obtain⟨_,h⟩:=h.open_ex;exact h.open_st.1.1
 have:=tab_in hq ho h4 (hi.obs o (get_mem ho).1).tab h;rwa [show st.put id { o with tab:=o.tab }=st from put_same ho]at this
end
theorem hfind_s{Z:Zone}{F:List Asr}{b:Nat}{st:Hst}{ps:List (Int×(Nat×Nat))}(v:Vl):SF Tryz.prog 150 #[.pointer (some ⟨b,0,none⟩),v.v] Z (hpP b st ps::F) fun r Bs=>r=fndV ps st v∧Bs=hpP b st ps::F:=by
 refine sf_enter Tryz.func150 27 [(0,pB b 0),(1,.agg (vc v))] (fun w0=>?_);refine k_mem3 (fun H h=>hp_open (h.re [0] [])) (fun mb1 tb2 tm3 hw=>?_);obtain⟨hi4,ha5,ht6⟩:=hw;refine k_sr<|s_box (vc v) (fun g7=>?_)
 refine sP (.pointer none)<|s_nt<|k_seq<|k_sr<|sP (pB b 0)<|sP (.bool false)<|s_nt<|k_false<|k_st<|k_seq<|k_draw<|sP3 (pB b 0)<|sL (t_load 1 (.map (some mb1)))<|sP (pB g7 4)<|sL (t_load 0 (iw v.ref)) ?_
 rcases get_cases ha5 v.ref with ⟨hg8,hq9⟩|⟨o10,q11,ho12,hq13⟩
 .refine sL (Lt.to (v':=.pointer none) (t_lookup 2 intOk Tryz.underlying94 (.pointer none) v.ref) (by rw[hq9];rfl))<|sP (.pointer none)<|s_nil<|x_dynS (fun _ h=>by kernel_rfl) ?_
  refine xs_then<|k_seq<|k_seq<|k_draw<|sP (.pointer none)<|sP2 (.bool true)<|sK<|sK<|sK<|sK<|sK<|sK<|sK<|sP (.bool true)<|s_nil<|x_dynS (fun _ h=>by kernel_rfl) ?_
  refine xs_then<|k_true<|k_sr<|sP (.pointer none)<|s_nt<|k_ret<|xs_ret<|xs_mem (fun _ h=>hp_shut (st:=st) (n:=(st.objs.length:Int)) ⟨⟨hi4,ha5,ht6⟩,rfl⟩ (h.re [1,1,1,1] [])) ?_
  refine xs_fin _ _ (SI.tmp 4 SI.nil) (rr [0] [1]) ⟨?_,rfl⟩;show Value.pointer none=fndV ps st v;unfold fndV;rw[hfind_none hg8]
 refine sL (Lt.to (v':=ptrV q11.1) (t_lookup 2 intOk Tryz.underlying94 (.pointer none) v.ref) (by rw[hq13];rfl))<|sP (pB q11.1 0)<|s_nil<|x_dynS (fun _ h=>by kernel_rfl) ?_
 refine xs_then<|k_seq<|k_seq<|k_draw<|sP (pB q11.1 0)<|sP2 (.bool false)<|sP3 (pB q11.1 0)<|s_memX (fun H h=>all_focus hq13 ho12 (h.re [4] [])) (fun v14 _=>?_)
 refine sL (t_load 0 (iw o10.kind))<|sP (pB g7 0)<|sL (t_load 4 (iw v.kind))<|sL t_cmp<|sP (.bool (decide (o10.kind≠v.kind)))<|s_nil<|x_dynS (fun _ h=>by kernel_rfl) ?_
 refine xs_then<|k_cond (decide (o10.kind≠v.kind)) (fun c15=>?_) (fun c15=>?_)
 .have p16:=dY c15;refine k_sr<|sP (.pointer none)<|s_nt<|k_ret<|xs_ret<|xs_fact (fun H h=>(h.mp (i:=6) rfl).nodup) (fun hnd17=>?_)
  refine xs_mem (fun _ h=>(put_same ho12)▸all_unfocus (o':=o10) hnd17 hq13 ho12 (ob_shut (o:=o10) (h.re [0,0,0,0] []))) ?_;refine xs_mem (Bs:=allP ps st::blkA g7 (vc v) 71::blkA b #[.map (some mb1),iw (st.objs.length:Int),.map (some tb2)] 97::mpA iK oV mb1 ps::mpA iK bV tb2 tm3::F) (fun _ h=>h) ?_;refine xs_mem (fun _ h=>hp_shut (st:=st) (n:=(st.objs.length:Int)) ⟨⟨hi4,ha5,ht6⟩,rfl⟩ (h.re [2,2,2,0] [])) ?_;refine xs_fin _ _ (SI.tmp 4 SI.nil) (rr [0] [1]) ⟨?_,rfl⟩;show Value.pointer none=fndV ps st v;unfold fndV;rw[hfind_kind ho12 om]
 have p18:=Decidable.not_not.1 (dF c15);refine k_st<|k_sr<|sP2 (pB q11.1 0)<|s_nt<|k_ret<|xs_fact (fun H h=>(h.mp (i:=6) rfl).nodup) (fun hnd19=>?_)
 refine xs_mem (fun _ h=>(put_same ho12)▸all_unfocus (o':=o10) hnd19 hq13 ho12 (ob_shut (o:=o10) (h.re [0,0,0,0] []))) ?_;refine xs_mem (Bs:=allP ps st::blkA g7 (vc v) 71::blkA b #[.map (some mb1),iw (st.objs.length:Int),.map (some tb2)] 97::mpA iK oV mb1 ps::mpA iK bV tb2 tm3::F) (fun _ h=>h) ?_;refine xs_mem (fun _ h=>hp_shut (st:=st) (n:=(st.objs.length:Int)) ⟨⟨hi4,ha5,ht6⟩,rfl⟩ (h.re [2,2,2,0] [])) ?_;refine xs_fin _ _ (SI.tmp 4 SI.nil) (rr [0] [1]) ⟨?_,rfl⟩;show ptrV _=fndV ps st v;unfold fndV;rw[hfind_is ho12 om,hq13]
theorem htab_s{Z:Zone}{F:List Asr}{b:Nat}{st:Hst}{ps:List (Int×(Nat×Nat))}(v:Vl):SF Tryz.prog 139 #[.pointer (some ⟨b,0,none⟩),v.v] Z (hpP b st ps::F) fun r Bs=>r=tbV ps st v∧Bs=hpP b st ps::F:=by
 refine sf_enter Tryz.func139 15 [(0,pB b 0),(1,.agg (vc v))] (fun w0=>?_);refine k_fact (fun H h=>hp_facts (h.re [0] [])) (fun hf1=>?_);obtain⟨hi2,ha3⟩:=hf1;refine k_sr<|s_box (vc v) (fun g4=>?_)
 refine sP (.pointer none)<|s_nr<|sP (pB b 0)<|sL (t_loadA 0 (vc v))<|s_call [1] (hfind_s (st:=st) (ps:=ps) v) ?_
 rintro u5 _ ⟨e6,rfl⟩;rcases fnd_cases ha3 v with ⟨hf7,ht8,hv9,hv10⟩|⟨o11,q12,hf13,ho14,hk15,hq16,hv17,hv18⟩
 .rw [hv9]at e6;subst e6;refine sP (.pointer none)<|s_nt<|k_seq<|k_sr<|sP (.pointer none)<|sP (.bool true)<|s_nt<|k_true<|k_sr<|sP (.pointer none)<|s_nt<|k_ret<|xs_ret<|xs_fin _ _ (SI.tmp 4 SI.nil) (rr [0] [1]) ⟨?_,rfl⟩
  exact (hv10).symm
 rw[hv17]at e6;subst e6;refine sP (pB q12.1 0)<|s_nt<|k_seq<|k_sr<|sP (pB q12.1 0)<|sP (.bool false)<|s_nt<|k_false<|k_st<|k_sr<|sP2 (pB q12.1 0)<|sP (pB q12.1 3)<|s_mem3 (fun H h=>hp_open (h.re [0] [])) (fun mb19 tb20 tm21 hw=>?_)
 obtain⟨hi22,ha23,ht24⟩:=hw;refine s_memX (fun H h=>all_focus hq16 ho14 (h.re [3] [])) (fun v25 _=>?_);refine sL (t_load 0 (tabV q12 o11))<|sP (tabV q12 o11)<|s_nt<|k_ret<|xs_fact (fun H h=>(h.mp (i:=5) rfl).nodup) (fun hnd26=>?_)
 refine xs_mem (fun _ h=>(put_same ho14)▸all_unfocus (o':=o11) hnd26 hq16 ho14 (ob_shut (o:=o11) (h.re [0,0,0,0] []))) ?_;refine xs_mem (Bs:=allP ps st::blkA b #[.map (some mb19),iw (st.objs.length:Int),.map (some tb20)] 97::mpA iK oV mb19 ps::mpA iK bV tb20 tm21::blkA g4 (vc v) 71::F) (fun _ h=>h) ?_;refine xs_mem (fun _ h=>hp_shut (st:=st) (n:=(st.objs.length:Int)) ⟨⟨hi22,ha23,ht24⟩,rfl⟩ (h.re [1,1,1,0] [])) ?_;refine xs_fin _ _ (SI.tmp 4 SI.nil) (rr [0] [1]) ⟨?_,rfl⟩;unfold tbV;rw[hf13,hq16];rfl
theorem hmiss_s{Z:Zone}{F:List Asr}{b:Nat}:SF Tryz.prog 140 #[.pointer (some ⟨b,0,none⟩)] Z F fun r Bs=>r=iw 8∧Bs=F:=by
 refine sf_enter Tryz.func140 5 [(0,pB b 0)] (fun w0=>?_);refine k_sr<|sP (iw 0)<|s_nt<|k_seq<|k_sr<|sP (pB b 0)<|sP (.bool false)<|s_nt<|k_false<|k_st<|k_sr<|sP (iw 8)<|s_nt<|k_ret ?_
 exact xs_fin [iw 8] F (SI.tmp 2 SI.nil) (fun _ h=>h) ⟨rfl,rfl⟩
theorem htouch_s{Z:Zone}{F:List Asr}{b:Nat}{st:Hst}{ps:List (Int×(Nat×Nat))}(v:Vl){o:Hob}(hg:st.get v.ref=some o)(e:Int):SF Tryz.prog 143 #[.pointer (some ⟨b,0,none⟩),v.v,iw e] Z (hpP b st ps::F) fun r Bs=>r=iw e∧Bs=(if e=0 then hpP b (st.touch v.ref) ps else hpP b st ps)::F:=by
 refine sf_enter Tryz.func143 16 [(0,pB b 0),(1,.agg (vc v)),(2,iw e)] (fun w0=>?_);refine k_sr<|s_box (vc v) (fun g1=>?_)
 refine sP (iw 0)<|s_nt<|k_seq<|k_sr<|sP (iw e)<|sL t_cmp<|s_nt<|k_cond (decide (e=0)) (fun c2=>?_) (fun c2=>?_)
 .have p3:=dY c2;refine k_draw<|sP2 (pB b 0)<|sP (pB b 2)<|s_mem3 (fun H h=>hp_open (h.re [1] [])) (fun mb4 tb5 tm6 hw=>?_)
  obtain⟨hi7,ha8,ht9⟩:=hw;refine sL (t_load 0 (.map (some tb5)))<|sP (pB g1 4)<|sL (t_load 4 (iw v.ref))<|s_update 2 intOk Tryz.underlying95 v.ref true ?_
  refine s_nil<|x_dynS (fun _ h=>by kernel_rfl) ?_
  refine xs_then<|k_sr<|sP2 (iw e)<|s_nt<|k_ret<|xs_mem (Bs:=blkA b #[.map (some mb4),iw (st.objs.length:Int),.map (some tb5)] 97::mpA iK oV mb4 ps::mpA iK bV tb5 (aset tm6 v.ref true)::allP ps (st.touch v.ref)::blkA g1 (vc v) 71::F) (fun _ h=>h) ?_
  refine xs_mem (fun _ h=>hp_shut (st:=(st.touch v.ref)) (n:=(st.objs.length:Int)) ⟨⟨touch_inv hi7 v.ref,HA.touch ha8 v.ref,TA.touch ht9 hi7 hg⟩,rfl⟩ (h.re [0,0,0,0] [])) ?_;rw[if_pos (dY c2)];exact xs_fin _ _ (SI.tmp 6 SI.nil) (rr [0] [1]) ⟨rfl,rfl⟩
 have p10:=dF c2;refine k_st<|k_sr<|sP2 (iw e)<|s_nt<|k_ret ?_
 rw[if_neg (dF c2)];exact xs_fin _ _ (SI.tmp 6 SI.nil) (rr [1] [1]) ⟨rfl,rfl⟩
theorem helem_s{Z:Zone}(v:Vl):SF Tryz.prog 142 #[v.v] Z [] fun r Bs=>r=iw (elemE v)∧Bs=[]:=by
 refine sf_enter Tryz.func142 17 [(0,.agg (vc v))] (fun w0=>?_);refine k_sr<|s_box (vc v) (fun g1=>?_)
 refine sP (iw 0)<|s_nt<|k_seq<|k_block<|k_sr<|sP (pB g1 0)<|sL (t_load 0 (iw v.kind))<|sL t_cmp<|sP (.bool (decide (v.kind=3)))<|s_fork 7 (decide (v.kind=3)) (fun c2=>?_) (fun c2=>?_)
 .have p3:=dY c2;refine sP (pB g1 3)<|sL (t_load 0 (sw v.str))<|sL (t_kern (iw (v.str.size:Int)))<|sL t_cmp<|sP2 (.bool (decide ((4096:Int)<(v.str.size:Int))))<|s_nt<|k_cond (decide ((4096:Int)<(v.str.size:Int))) (fun c4=>?_) (fun c4=>?_)
  .have p5:=dY c4;refine k_sr<|sP (iw 14)<|s_nt<|k_ret<|xs_retBlock<|xs_ret<|xs_fin _ _ (SI.tmp 2 SI.nil) (rr [] [0]) ⟨cI ?_,rfl⟩
   unfold elemE;simp[c2,c4,p3,p5]
  have p6:=dF c4;refine k_sr<|sL (t_loadA 0 (vc v))<|sV (fun _ h=>valid_s v)<|sP2 (.bool (!(validB v)))<|s_nt<|k_cond (!(validB v)) (fun c7=>?_) (fun c7=>?_)
  .have c8:=not_t c7;refine k_sr<|sP (iw 2)<|s_nt<|k_ret<|xs_retBlock<|xs_ret<|xs_fin _ _ (SI.tmp 2 SI.nil) (rr [] [0]) ⟨cI ?_,rfl⟩
   unfold elemE;simp[c2,c4,c7,p3,p6,c8]
  have c9:=not_f c7;refine k_skip<|xs_block<|xs_then<|k_sr<|sP (iw 0)<|s_nt<|k_ret<|xs_fin _ _ (SI.tmp 2 SI.nil) (rr [] [0]) ⟨cI ?_,rfl⟩
  unfold elemE;simp[c2,c4,c7,p3,p6,c9]
 have p10:=dF c2;refine sK<|sK<|sK<|sK<|sP2 (.bool false)<|s_nt<|k_false<|k_sr<|sL (t_loadA 0 (vc v))<|sV (fun _ h=>valid_s v)<|sP2 (.bool (!(validB v)))<|s_nt<|k_cond (!(validB v)) (fun c11=>?_) (fun c11=>?_)
 .have c12:=not_t c11;refine k_sr<|sP (iw 2)<|s_nt<|k_ret<|xs_retBlock<|xs_ret<|xs_fin _ _ (SI.tmp 2 SI.nil) (rr [] [0]) ⟨cI ?_,rfl⟩
  unfold elemE;simp[c2,c11,p10,c12]
 have c13:=not_f c11;refine k_skip<|xs_block<|xs_then<|k_sr<|sP (iw 0)<|s_nt<|k_ret<|xs_fin _ _ (SI.tmp 2 SI.nil) (rr [] [0]) ⟨cI ?_,rfl⟩
 unfold elemE;simp[c2,c11,p10,c13]
theorem hgetV_none{st:Hst}{t k:Vl}(h:htab st t=none):hgetV st t k=zVl:=by unfold hgetV;rw[h]
theorem hgetE_none{st:Hst}{t:Vl}(h:htab st t=none):hgetE st t=8:=by unfold hgetE;rw[h];rfl
theorem hgetV_some{st:Hst}{t k:Vl}{T:Tb}(h:htab st t=some T):hgetV st t k=tget T k:=by unfold hgetV;rw[h]
theorem hgetE_some{st:Hst}{t:Vl}{T:Tb}(h:htab st t=some T):hgetE st t=0:=by unfold hgetE;rw[h];rfl
abbrev pairV(v:Vl)(e:Int):Value:=.tuple #[v.v,iw e]
theorem hget_s{Z:Zone}{F:List Asr}{b:Nat}{st:Hst}{n:Nat}(hsm:HSm n st)(hn:n≤300)(t k:Vl):SF Tryz.prog 171 #[.pointer (some ⟨b,0,none⟩),t.v,k.v] Z (hpA b st::F) fun r Bs=>r=pairV (hgetV st t k) (hgetE st t)∧Bs=hpA b st::F:=by
 refine sf_enter Tryz.func171 20 [(0,pB b 0),(1,.agg (vc t)),(2,.agg (vc k))] (fun w0=>?_);refine k_sr<|s_box (vc t) (fun g1=>?_)
 refine s_box (vc k) (fun g2=>?_);refine s_alloc (.agg zc) zc (fun g3=>?_);refine sP (iw 0)<|s_nr<|sP (pB b 0)<|sL (t_loadA 2 (vc t))<|s_memX (fun H h=>hpA_open (h.re [3] [])) (fun ps4 _=>?_)
 refine s_fact (fun H h=>hp_facts (h.re [0] [])) (fun hf5=>?_);obtain⟨hi6,ha7⟩:=hf5;refine s_call [0] (htab_s (st:=st) (ps:=ps4) t) ?_;rintro u8 _ ⟨e9,rfl⟩;rcases tb_cases ha7 t with ⟨ht10,hv11⟩|⟨o12,q13,ht14,ho15,hk16,hk17,hq18,hv19⟩
 .rw [hv11]at e9;subst e9;refine sP (.pointer none)<|s_nt<|k_seq<|k_sr<|sP (.pointer none)<|sP (.bool true)<|s_nt<|k_true<|k_sr<|sL (t_kern (.agg zc))<|sP (pB b 0)<|sV (fun _ h=>hmiss_s (F:=[]))<|s_store 1 zc ?_
  refine sP (iw 8)<|s_nt<|k_ret<|xs_ret<|xs_mem (fun _ h=>hpA_shut (h.re [0] [])) ?_
  refine xs_fin [.agg zc,iw 8] (hpA b st::F) (SI.agg 6 71 1 (SI.tmp 7 SI.nil)) (rr [0] [1,1,1]) ⟨?_,rfl⟩;rw[hgetV_none ht10,hgetE_none ht10];rfl
 rw[hv19]at e9;subst e9;refine sP (pB q13.2 0)<|s_nt<|k_seq<|k_sr<|sP (pB q13.2 0)<|sP (.bool false)<|s_nt<|k_false<|k_st<|k_sr<|sP (pB q13.2 0)<|sL (t_loadA 2 (vc k))<|s_mem (fun _ h=>tab_out hq18 ho15 hk16 (h.re [0] [])) ?_
 obtain⟨hl20,hl202,_⟩:=hsm.obs o12 (get_mem ho15).1;have hl203:n*(n+1)≤300*301:=Nat.mul_le_mul om om;refine sC [0] (tbget_s (L:=o12.tab.list) (S:=o12.tab.rest) ol k) ?_;refine s_store 2 (vc (tget ⟨o12.tab.list,o12.tab.rest⟩ k)) ?_;refine sP (iw 0)<|s_nt<|k_ret<|xs_mem (fun _ h=>tab_back hq18 ho15 hk16 (h.re [0,0] [])) ?_
 refine xs_mem (fun _ h=>hpA_shut (h.re [0] [])) ?_;refine xs_fin [.agg (vc (tget ⟨o12.tab.list,o12.tab.rest⟩ k)),iw 0] (hpA b st::F) (SI.agg 6 71 1 (SI.tmp 7 SI.nil)) (rr [0] [1,1,1]) ⟨?_,rfl⟩;rw[hgetV_some ht14,hgetE_some ht14];rfl
theorem elem_valid{v:Vl}(h:elemE v=0):validB v=true:=by
 unfold elemE at h;split at h
 .cases h
 split at h
 .cases h
 rename_i hv;simpa using hv
theorem hset_none{st:Hst}{t k v:Vl}(h:htab st t=none):hset st t k v=st∧hsetE st t k v=8:=by unfold hset hsetE;rw[h];exact⟨rfl,rfl⟩
theorem hset_key{st:Hst}{t k v:Vl}{T:Tb}(h:htab st t=some T)(hk:okKey k=false):hset st t k v=st∧hsetE st t k v=13:=by unfold hset hsetE;rw[h];simp[hk]
theorem hset_elem{st:Hst}{t k v:Vl}{T:Tb}(h:htab st t=some T)(hk:okKey k=true)(he:elemE v≠0):hset st t k v=st∧hsetE st t k v=elemE v:=by unfold hset hsetE;rw[h];simp[hk,he]
theorem hset_ok{st:Hst}{t k v:Vl}{o:Hob}(h:htab st t=some o.tab)(ho:st.get t.ref=some o)(hk:okKey k=true)(he:elemE v=0):hset st t k v=(st.put t.ref { o with tab:=tset o.tab k v }).touch t.ref∧hsetE st t k v=0:=by unfold hset hsetE Hst.setTab;rw[h,ho];simp[hk,he]
theorem hset_s{Z:Zone}{F:List Asr}{b:Nat}{st:Hst}{n:Nat}(hsm:HSm n st)(hn:n≤300)(t k x:Vl):SF Tryz.prog 81 #[.pointer (some ⟨b,0,none⟩),t.v,k.v,x.v] Z (hpA b st::F) fun r Bs=>r=iw (hsetE st t k x)∧Bs=hpA b (hset st t k x)::F:=by
 refine sf_enter Tryz.func81 40 [(0,pB b 0),(1,.agg (vc t)),(2,.agg (vc k)),(3,.agg (vc x))] (fun w0=>?_);refine k_sr<|s_box (vc t) (fun g1=>?_)
 refine s_box (vc k) (fun g2=>?_);refine s_box (vc x) (fun g3=>?_);refine sP (iw 0)<|s_nr<|sP (pB b 0)<|sL (t_loadA 2 (vc t))<|s_memX (fun H h=>hpA_open (h.re [3] [])) (fun ps4 _=>?_)
 refine s_fact (fun H h=>hp_facts (h.re [0] [])) (fun hf5=>?_);obtain⟨hi6,ha7⟩:=hf5;refine s_call [0] (htab_s (st:=st) (ps:=ps4) t) ?_;rintro u8 _ ⟨e9,rfl⟩;rcases tb_cases ha7 t with ⟨ht10,hv11⟩|⟨o12,q13,ht14,ho15,hk16,hk17,hq18,hv19⟩
 .rw [hv11]at e9;subst e9;refine sP (.pointer none)<|s_nt<|k_seq<|k_block<|k_sr<|sP (.pointer none)<|sP2 (.bool true)<|s_nt<|k_true<|k_sr<|sP (pB b 0)<|sV (fun _ h=>hmiss_s (F:=[]))<|sP (iw 8)<|s_nt<|k_ret<|xs_retBlock<|xs_ret<|xs_mem (fun _ h=>hpA_shut (h.re [0] [])) ?_
  have hp:=hset_none (k:=k) (v:=x) ht10;refine xs_fin [iw 8] (hpA b st::F) (SI.tmp 8 SI.nil) (rr [0] [1,1,1]) ⟨?_,?_⟩
  .rw [hp.2];exact cI (by first|rfl|exact tsetE_ok hk hv0)
  rw[hp.1]
 rw[hv19]at e9;subst e9;refine sP (pB q13.2 0)<|s_nt<|k_seq<|k_block<|k_sr<|sP (pB q13.2 0)<|sP2 (.bool false)<|s_nt<|k_false<|k_cut (ι:=Unit) (fun _=>True) (fun _=>[(0,pB b 0),(5,pB g1 0),(6,pB g2 0),(7,pB g3 0),(9,pB q13.2 0),(19,.bool ((decide (k.kind=0))||(!(validB k))))]) (fun _=>hpP b st ps4::blkA g3 (vc x) 71::blkA g2 (vc k) 71::blkA g1 (vc t) 71::F) ?_ (fun _ _=>?_)
 .refine k_reg<|sP (pB g2 0)<|sL (t_load 2 (iw k.kind))<|sL t_cmp<|sP (.bool (decide (k.kind=0)))<|s_fork 23 (decide (k.kind=0)) (fun c20=>?_) (fun c20=>?_)
  .have p21:=dY c20;refine sK<|sK<|sK<|sP2 (.bool true)<|s_nil ?_
   exact xs_cut () trivial (sub_of rfl (rQ (rQ (rQ (rQ (rQ ⟨⟨rfl,cB (by simp[c20])⟩,trivial⟩)))))) (rr [0,0,0,0] [])
  have p22:=dF c20;refine sL (t_loadA 2 (vc k))<|sV (fun _ h=>valid_s k)<|sP3 (.bool (!(validB k)))<|s_nil ?_
  exact xs_cut () trivial (sub_of rfl (rQ (rQ (rQ (rQ (rQ ⟨⟨rfl,cB (by simp[c20])⟩,trivial⟩)))))) (rr [0,0,0,0] [])
 refine k_cond ((decide (k.kind=0))||(!(validB k))) (fun c23=>?_) (fun c23=>?_)
 .have p24:=c23;simp only[Bool.and_eq_true,Bool.or_eq_true,Bool.and_eq_false_iff,Bool.or_eq_false_iff,Bool.not_eq_true',Bool.not_eq_false',decide_eq_true_eq,decide_eq_false_iff_not]at p24;refine k_sr<|sP (iw 13)<|s_nt<|k_ret<|xs_retBlock<|xs_ret<|xs_mem (fun _ h=>hpA_shut (h.re [0] [])) ?_
  have hk:okKey k=false:=okKey_bad (by first|exact p24|exact .inl p24|exact .inr p24);have hp:=hset_key (v:=x) ht14 hk;refine xs_fin [iw 13] (hpA b st::F) (SI.tmp 8 SI.nil) (rr [0] [1,1,1]) ⟨?_,?_⟩
  .rw [hp.2];exact cI (by first|rfl|exact tsetE_ok hk hv0)
  rw[hp.1]
 obtain⟨c25,c26⟩:=or_f c23;have p27:=dF c25;have c28:=not_f c26;refine k_skip<|xs_block<|xs_then<|k_seq<|k_sr<|sL (t_loadA 1 (vc x))<|sV (fun _ h=>helem_s x)<|sP (iw (elemE x))<|s_nr<|sP (iw (elemE x))<|sL t_cmp<|s_nt<|k_cond (decide ((elemE x)≠0)) (fun c29=>?_) (fun c29=>?_)
 .have p30:=dY c29;refine k_sr<|sP2 (iw (elemE x))<|s_nt<|k_ret<|xs_ret<|xs_mem (fun _ h=>hpA_shut (h.re [0] [])) ?_
  have hk:=okKey_good c25 c28;have hp:=hset_elem (v:=x) ht14 hk (dY c29);refine xs_fin [iw (elemE x)] (hpA b st::F) (SI.tmp 8 SI.nil) (rr [0] [1,1,1]) ⟨?_,?_⟩
  .rw [hp.2];exact cI (by first|rfl|exact tsetE_ok hk hv0)
  rw[hp.1]
 have p31:=Decidable.not_not.1 (dF c29);refine k_st<|k_seq<|k_held [blkA g3 (vc x) 71,blkA g2 (vc k) 71,blkA g1 (vc t) 71] ?_
 refine hp_ 0 [1,1,1] (pB b 0) ?_;refine h_l 1 rfl [1,1,1] (fun _=>(t_loadA 2 (vc t))) ?_;refine hp_ 2 [1,1,1] (pB q13.2 0) ?_;refine h_l 3 rfl [1,1,1] (fun _=>(t_loadA 1 (vc k))) ?_;refine h_l 4 rfl [1,1,1] (fun _=>(t_loadA 0 (vc x))) ?_;refine h_stepS 5 ?_;refine s_mem (fun _ h=>tab_out hq18 ho15 hk16 (h.re [0] [])) ?_;obtain⟨hl32,hl322,_⟩:=hsm.obs o12 (get_mem ho15).1;have hl323:n*(n+1)≤300*301:=Nat.mul_le_mul om om;refine sC [0] (tbset_s (L:=o12.tab.list) (S:=o12.tab.rest) (hi6.obs o12 (get_mem ho15).1).tab ol ol k x) ?_;refine nH [2,2,2]<|h_stepS 6 ?_
 refine s_mem (fun _ h=>tab_in (T:=(tset ⟨o12.tab.list,o12.tab.rest⟩ k x)) hq18 ho15 hk16 (tset_inv (hi6.obs o12 (get_mem ho15).1).tab _ _) (h.re [0,0] [])) ?_;have hk:=okKey_good c25 c28;have he0:elemE x=0:=Decidable.not_not.1 (dF c29);have hv0:=elem_valid he0;refine s_call [0] (htouch_s (st:=(st.put t.ref { o12 with tab:=(tset ⟨o12.tab.list,o12.tab.rest⟩ k x) })) (ps:=ps4) t (show Hst.get _ _=some { o12 with tab:=(tset ⟨o12.tab.list,o12.tab.rest⟩ k x) } from by rw[get_put ho15,if_pos rfl]) (tsetE k x)) ?_;rw[if_pos (tsetE_ok hk hv0)];rintro _ _ ⟨rfl,rfl⟩;refine nH [1,1,1]<|hp_ 7 [1,1,1] (iw (tsetE k x)) ?_
 refine h_doneS ?_;refine xs_then<|k_ret<|xs_mem (fun _ h=>hpA_shut (h.re [0] [])) ?_
 have hp:=hset_ok ht14 ho15 hk he0;refine xs_fin [iw (tsetE k x)] (hpA b ((st.put t.ref { o12 with tab:=(tset ⟨o12.tab.list,o12.tab.rest⟩ k x) }).touch t.ref)::F) (SI.tmp 8 SI.nil) (rr [0] [1,1,1]) ⟨?_,?_⟩
 .rw [hp.2];exact cI (by first|rfl|exact tsetE_ok hk hv0)
 rw[hp.1]
theorem hmeta_s{Z:Zone}{F:List Asr}{b:Nat}{st:Hst}(v:Vl):SF Tryz.prog 170 #[.pointer (some ⟨b,0,none⟩),v.v] Z (hpA b st::F) fun r Bs=>r=(hmeta st v).v∧Bs=hpA b st::F:=by
 refine sf_enter Tryz.func170 16 [(0,pB b 0),(1,.agg (vc v))] (fun w0=>?_);refine k_sr<|s_box (vc v) (fun g1=>?_)
 refine s_alloc (.agg zc) zc (fun g2=>?_);refine s_nr<|sP (pB b 0)<|sL (t_loadA 1 (vc v))<|s_memX (fun H h=>hpA_open (h.re [2] [])) (fun ps3 _=>?_)
 refine s_fact (fun H h=>hp_facts (h.re [0] [])) (fun hf4=>?_);obtain⟨hi5,ha6⟩:=hf4;refine s_call [0] (hfind_s (st:=st) (ps:=ps3) v) ?_;rintro u7 _ ⟨e8,rfl⟩;rcases fnd_cases ha6 v with ⟨hf9,ht10,hv11,hv12⟩|⟨o13,q14,hf15,ho16,hk17,hq18,hv19,hv20⟩
 .rw [hv11]at e8;subst e8;refine sP (.pointer none)<|s_nt<|k_seq<|k_sr<|sP (.pointer none)<|sP (.bool true)<|s_nt<|k_true<|k_sr<|sL (t_kern (.agg zc))<|s_store 1 zc ?_
  refine s_nt<|k_ret<|xs_ret<|xs_mem (fun _ h=>hpA_shut (h.re [0] [])) ?_
  refine xs_fin [.agg zc] (hpA b st::F) (SI.agg 4 71 1 SI.nil) (rr [0] [1,1]) ⟨?_,rfl⟩;unfold hmeta;rw[hf9];rfl
 rw[hv19]at e8;subst e8;refine sP (pB q14.1 0)<|s_nt<|k_seq<|k_sr<|sP (pB q14.1 0)<|sP (.bool false)<|s_nt<|k_false<|k_st<|k_sr<|sP2 (pB q14.1 0)<|sP (pB q14.1 4)<|s_mem3 (fun H h=>hp_open (h.re [0] [])) (fun mb21 tb22 tm23 hw=>?_)
 obtain⟨hi24,ha25,ht26⟩:=hw;refine s_memX (fun H h=>all_focus hq18 ho16 (h.re [3] [])) (fun v27 _=>?_);refine sL (t_loadA 0 (vc o13.mt))<|s_store 7 (vc o13.mt) ?_
 refine s_nt<|k_ret<|xs_fact (fun H h=>(h.mp (i:=5) rfl).nodup) (fun hnd28=>?_)
 refine xs_mem (fun _ h=>(put_same ho16)▸all_unfocus (o':=o13) hnd28 hq18 ho16 (ob_shut (o:=o13) (h.re [0,0,0,0] []))) ?_;refine xs_mem (Bs:=allP ps3 st::blkA b #[.map (some mb21),iw (st.objs.length:Int),.map (some tb22)] 97::mpA iK oV mb21 ps3::mpA iK bV tb22 tm23::blkA g2 (vc o13.mt) 71::blkA g1 (vc v) 71::F) (fun _ h=>h) ?_;refine xs_mem (fun _ h=>hp_shut (st:=st) (n:=(st.objs.length:Int)) ⟨⟨hi24,ha25,ht26⟩,rfl⟩ (h.re [1,1,1,0] [])) ?_;refine xs_mem (fun _ h=>hpA_shut (h.re [0] [])) ?_;refine xs_fin [.agg (vc o13.mt)] (hpA b st::F) (SI.agg 4 71 1 SI.nil) (rr [0] [1,1]) ⟨?_,rfl⟩;unfold hmeta;rw[hf15];rfl
theorem hsetmeta_s{Z:Zone}{F:List Asr}{b:Nat}{st:Hst}(v m:Vl):SF Tryz.prog 83 #[.pointer (some ⟨b,0,none⟩),v.v,m.v] Z (hpA b st::F) fun r Bs=>r=iw (hsetMetaE st v m)∧Bs=hpA b (hsetMeta st v m)::F:=by
 refine sf_enter Tryz.func83 47 [(0,pB b 0),(1,.agg (vc v)),(2,.agg (vc m))] (fun w0=>?_);refine k_sr<|s_box (vc v) (fun g1=>?_)
 refine s_box (vc m) (fun g2=>?_);refine sP (iw 0)<|s_nr<|sP (pB b 0)<|sL (t_loadA 1 (vc v))<|s_memX (fun H h=>hpA_open (h.re [2] [])) (fun ps3 _=>?_)
 refine s_fact (fun H h=>hp_facts (h.re [0] [])) (fun hf4=>?_);obtain⟨hi5,ha6⟩:=hf4;refine s_call [0] (hfind_s (st:=st) (ps:=ps3) v) ?_;rintro u7 _ ⟨e8,rfl⟩;rcases fnd_cases ha6 v with ⟨hf9,ht10,hv11,hv12⟩|⟨o13,q14,hf15,ho16,hk17,hq18,hv19,hv20⟩
 .rw [hv11]at e8;subst e8;refine sP (.pointer none)<|s_nt<|k_seq<|k_sr<|sP (.pointer none)<|sP2 (.bool true)<|sK<|sK<|sK<|sK<|sK<|sK<|sK<|sK<|sK<|sK<|sK<|sK<|sP2 (.bool true)<|sK<|sK<|sK<|sK<|sK<|sK<|sK<|sK<|sK<|sP (.bool true) ?_
  refine s_nt<|k_true<|k_sr<|sP (pB b 0)<|sV (fun _ h=>hmiss_s (F:=[]))<|sP (iw 8)<|s_nt<|k_ret<|xs_ret<|xs_mem (fun _ h=>hpA_shut (h.re [0] [])) ?_
  have hb:hmetaOk st v m=false:=by unfold hmetaOk;rw[hf9]
  refine xs_fin _ _ (SI.tmp 6 SI.nil) (rr [0] [1,1]) ⟨?_,?_⟩
  .unfold hsetMetaE;rw[hb];rfl
  unfold hsetMeta;rw[hb];rfl
 rw[hv19]at e8;subst e8;refine sP (pB q14.1 0)<|s_nt<|k_seq<|k_sr<|sP (pB q14.1 0)<|sP2 (.bool false)<|sP3 (pB q14.1 0)<|s_mem3 (fun H h=>hp_open (h.re [0] [])) (fun mb21 tb22 tm23 hw=>?_)
 obtain⟨hi24,ha25,ht26⟩:=hw;refine s_memX (fun H h=>all_focus hq18 ho16 (h.re [3] [])) (fun v27 _=>?_);refine sL (t_load 0 (iw o13.kind))<|sL t_cmp<|sP (.bool (decide (o13.kind≠4)))<|s_fork 19 (decide (o13.kind≠4)) (fun c28=>?_) (fun c28=>?_)
 .have p29:=dY c28;refine sP3 (pB q14.1 0)<|sL (t_load 0 (iw o13.kind))<|sL t_cmp<|sP3 (.bool (decide (o13.kind≠8)))<|s_fork 27 (decide (o13.kind≠8)) (fun c30=>?_) (fun c30=>?_)
  .have p31:=dY c30;refine sK<|sK<|sK<|sK<|sK<|sK<|sK<|sK<|sK<|sP (.bool true)<|s_nt<|k_true<|k_sr<|sP (pB b 0)<|sV (fun _ h=>hmiss_s (F:=[]))<|sP (iw 8)<|s_nt<|k_ret<|xs_ret<|xs_fact (fun H h=>(h.mp (i:=5) rfl).nodup) (fun hnd32=>?_)
   refine xs_mem (fun _ h=>(put_same ho16)▸all_unfocus (o':=o13) hnd32 hq18 ho16 (ob_shut (o:=o13) (h.re [0,0,0,0] []))) ?_;refine xs_mem (Bs:=allP ps3 st::blkA b #[.map (some mb21),iw (st.objs.length:Int),.map (some tb22)] 97::mpA iK oV mb21 ps3::mpA iK bV tb22 tm23::blkA g2 (vc m) 71::blkA g1 (vc v) 71::F) (fun _ h=>h) ?_;refine xs_mem (fun _ h=>hp_shut (st:=st) (n:=(st.objs.length:Int)) ⟨⟨hi24,ha25,ht26⟩,rfl⟩ (h.re [1,1,1,0] [])) ?_;refine xs_mem (fun _ h=>hpA_shut (h.re [0] [])) ?_;have hb:hmetaOk st v m=false:=by unfold hmetaOk;rw[hf15];simp_all
   refine xs_fin _ _ (SI.tmp 6 SI.nil) (rr [0] [1,1]) ⟨?_,?_⟩
   .unfold hsetMetaE;rw[hb];rfl
   unfold hsetMeta;rw[hb];rfl
  have p33:=Decidable.not_not.1 (dF c30);refine sL (t_loadA 7 (vc m))<|sL (t_kern (.agg zc))<|sL (t_eqS (fun w=>(eqVlT m zVl w).2))<|sP (.bool (!(decide (m=zVl))))<|s_fork 31 (!(decide (m=zVl))) (fun c34=>?_) (fun c34=>?_)
  .have c35:=not_t c34;have p36:=dF c35;refine sP (pB b 0)<|sL (t_loadA 7 (vc m))<|s_fact (fun H h=>(h.mp (i:=5) rfl).nodup) (fun hnd37=>?_)
   refine s_mem (fun _ h=>(put_same ho16)▸all_unfocus (o':=o13) hnd37 hq18 ho16 (ob_shut (o:=o13) (h.re [0,0,0,0] []))) ?_;refine s_mem (Bs:=allP ps3 st::blkA b #[.map (some mb21),iw (st.objs.length:Int),.map (some tb22)] 97::mpA iK oV mb21 ps3::mpA iK bV tb22 tm23::blkA g2 (vc m) 71::blkA g1 (vc v) 71::F) (fun _ h=>h) ?_;refine s_mem (fun _ h=>hp_shut (st:=st) (n:=(st.objs.length:Int)) ⟨⟨hi24,ha25,ht26⟩,rfl⟩ (h.re [1,1,1,0] [])) ?_;refine s_call [0] (htab_s (st:=st) (ps:=ps3) m) ?_;rintro u38 _ ⟨e39,rfl⟩;rcases tb_cases ha6 m with ⟨ht40,hv41⟩|⟨o42,q43,ht44,ho45,hk46,hk47,hq48,hv49⟩
   .rw [hv41]at e39;subst e39;refine sP3 (.bool true)<|s_nt<|k_true<|k_sr<|sP (pB b 0)<|sV (fun _ h=>hmiss_s (F:=[]))<|sP (iw 8)<|s_nt<|k_ret<|xs_ret<|xs_mem (fun _ h=>hpA_shut (h.re [0] [])) ?_
    have hb:hmetaOk st v m=false:=by unfold hmetaOk;rw[hf15];simp_all
    refine xs_fin _ _ (SI.tmp 6 SI.nil) (rr [0] [1,1]) ⟨?_,?_⟩
    .unfold hsetMetaE;rw[hb];rfl
    unfold hsetMeta;rw[hb];rfl
   rw[hv49]at e39;subst e39;refine sP3 (.bool false)<|s_nt<|k_false<|k_st<|k_sr<|sP (pB q14.1 0)<|sL (t_loadA 1 (vc m))<|sP (pB q14.1 0)<|sP (pB q14.1 4)<|s_mem3 (fun H h=>hp_open (h.re [0] [])) (fun mb50 tb51 tm52 hw=>?_)
   obtain⟨hi53,ha54,ht55⟩:=hw;refine s_memX (fun H h=>all_focus hq18 ho16 (h.re [3] [])) (fun v56 _=>?_);refine s_store 0 #[iw o13.kind,iw o13.tag,sw o13.name,(tabV q14 o13),iw m.kind,iw m.p,iw m.q,sw m.str,iw m.ref,v56] ?_;refine s_nr<|sP (pB b 0)<|sL (t_loadA 8 (vc v))<|s_fact (fun H h=>(h.mp (i:=5) rfl).nodup) (fun hnd57=>?_)
   refine s_mem (fun _ h=>all_unfocus (o':={ o13 with mt:=m }) hnd57 hq18 ho16 (ob_shut (o:={ o13 with mt:=m }) (h.re [0,0,0,0] []))) ?_;refine s_mem (Bs:=allP ps3 (st.put v.ref { o13 with mt:=m })::blkA b #[.map (some mb50),iw (st.objs.length:Int),.map (some tb51)] 97::mpA iK oV mb50 ps3::mpA iK bV tb51 tm52::blkA g2 (vc m) 71::blkA g1 (vc v) 71::F) (fun _ h=>h) ?_;have hob58:=hi53.obs o13 (get_mem ho16).1;refine s_mem (fun _ h=>hp_shut (st:=(st.put v.ref { o13 with mt:=m })) (n:=(st.objs.length:Int)) ⟨⟨put_inv hi53 ⟨hob58.kind,hob58.tab,(fun a b=>by exfalso;have a1:o13.kind≠4:=a;have b1:o13.kind≠8:=b;omega)⟩,ha54.put ho16,ht55.put ho16⟩,by rw[put_len]⟩ (h.re [1,1,1,0] [])) ?_;refine s_call [0] (htouch_s (st:=(st.put v.ref { o13 with mt:=m })) (ps:=ps3) v (show Hst.get _ _=some { o13 with mt:=m } from by rw[get_put ho16,if_pos rfl]) 0) ?_;rw[if_pos (rfl)];rintro _ _ ⟨rfl,rfl⟩;refine sP (iw 0)<|s_nt<|k_ret<|xs_mem (fun _ h=>hpA_shut (h.re [0] [])) ?_
   have hb:hmetaOk st v m=true:=by unfold hmetaOk;rw[hf15];simp_all
   refine xs_fin _ _ (SI.tmp 6 SI.nil) (rr [0] [1,1]) ⟨?_,?_⟩
   .unfold hsetMetaE;rw[hb];rfl
   unfold hsetMeta;rw[hb];unfold Hst.setMt;rw[ho16];rfl
  have c60:=not_f c34;have p61:=dY c60;refine sK<|sK<|sK<|sK<|sP2 (.bool false)<|s_nt<|k_false<|k_st<|k_sr<|sP (pB q14.1 0)<|sL (t_loadA 7 (vc m))<|sP (pB q14.1 0)<|sP (pB q14.1 4)<|s_store 0 #[iw o13.kind,iw o13.tag,sw o13.name,(tabV q14 o13),iw m.kind,iw m.p,iw m.q,sw m.str,iw m.ref,v27] ?_
  refine s_nr<|sP (pB b 0)<|sL (t_loadA 8 (vc v))<|s_fact (fun H h=>(h.mp (i:=5) rfl).nodup) (fun hnd62=>?_)
  refine s_mem (fun _ h=>all_unfocus (o':={ o13 with mt:=m }) hnd62 hq18 ho16 (ob_shut (o:={ o13 with mt:=m }) (h.re [0,0,0,0] []))) ?_;refine s_mem (Bs:=allP ps3 (st.put v.ref { o13 with mt:=m })::blkA b #[.map (some mb21),iw (st.objs.length:Int),.map (some tb22)] 97::mpA iK oV mb21 ps3::mpA iK bV tb22 tm23::blkA g2 (vc m) 71::blkA g1 (vc v) 71::F) (fun _ h=>h) ?_;have hob63:=hi24.obs o13 (get_mem ho16).1;refine s_mem (fun _ h=>hp_shut (st:=(st.put v.ref { o13 with mt:=m })) (n:=(st.objs.length:Int)) ⟨⟨put_inv hi24 ⟨hob63.kind,hob63.tab,(fun a b=>by exfalso;have a1:o13.kind≠4:=a;have b1:o13.kind≠8:=b;omega)⟩,ha25.put ho16,ht26.put ho16⟩,by rw[put_len]⟩ (h.re [1,1,1,0] [])) ?_;refine s_call [0] (htouch_s (st:=(st.put v.ref { o13 with mt:=m })) (ps:=ps3) v (show Hst.get _ _=some { o13 with mt:=m } from by rw[get_put ho16,if_pos rfl]) 0) ?_;rw[if_pos (rfl)];rintro _ _ ⟨rfl,rfl⟩;refine sP (iw 0)<|s_nt<|k_ret<|xs_mem (fun _ h=>hpA_shut (h.re [0] [])) ?_
  have hb:hmetaOk st v m=true:=by unfold hmetaOk;rw[hf15];simp_all
  refine xs_fin _ _ (SI.tmp 6 SI.nil) (rr [0] [1,1]) ⟨?_,?_⟩
  .unfold hsetMetaE;rw[hb];rfl
  unfold hsetMeta;rw[hb];unfold Hst.setMt;rw[ho16];rfl
 have p65:=Decidable.not_not.1 (dF c28);refine sK<|sK<|sK<|sK<|sK<|sP3 (.bool false)<|sL (t_loadA 7 (vc m))<|sL (t_kern (.agg zc))<|sL (t_eqS (fun w=>(eqVlT m zVl w).2))<|sP (.bool (!(decide (m=zVl))))<|s_fork 31 (!(decide (m=zVl))) (fun c66=>?_) (fun c66=>?_)
 .have c67:=not_t c66;have p68:=dF c67;refine sP (pB b 0)<|sL (t_loadA 7 (vc m))<|s_fact (fun H h=>(h.mp (i:=5) rfl).nodup) (fun hnd69=>?_)
  refine s_mem (fun _ h=>(put_same ho16)▸all_unfocus (o':=o13) hnd69 hq18 ho16 (ob_shut (o:=o13) (h.re [0,0,0,0] []))) ?_;refine s_mem (Bs:=allP ps3 st::blkA b #[.map (some mb21),iw (st.objs.length:Int),.map (some tb22)] 97::mpA iK oV mb21 ps3::mpA iK bV tb22 tm23::blkA g2 (vc m) 71::blkA g1 (vc v) 71::F) (fun _ h=>h) ?_;refine s_mem (fun _ h=>hp_shut (st:=st) (n:=(st.objs.length:Int)) ⟨⟨hi24,ha25,ht26⟩,rfl⟩ (h.re [1,1,1,0] [])) ?_;refine s_call [0] (htab_s (st:=st) (ps:=ps3) m) ?_;rintro u70 _ ⟨e71,rfl⟩;rcases tb_cases ha6 m with ⟨ht72,hv73⟩|⟨o74,q75,ht76,ho77,hk78,hk79,hq80,hv81⟩
  .rw [hv73]at e71;subst e71;refine sP3 (.bool true)<|s_nt<|k_true<|k_sr<|sP (pB b 0)<|sV (fun _ h=>hmiss_s (F:=[]))<|sP (iw 8)<|s_nt<|k_ret<|xs_ret<|xs_mem (fun _ h=>hpA_shut (h.re [0] [])) ?_
   have hb:hmetaOk st v m=false:=by unfold hmetaOk;rw[hf15];simp_all
   refine xs_fin _ _ (SI.tmp 6 SI.nil) (rr [0] [1,1]) ⟨?_,?_⟩
   .unfold hsetMetaE;rw[hb];rfl
   unfold hsetMeta;rw[hb];rfl
  rw[hv81]at e71;subst e71;refine sP3 (.bool false)<|s_nt<|k_false<|k_st<|k_sr<|sP (pB q14.1 0)<|sL (t_loadA 1 (vc m))<|sP (pB q14.1 0)<|sP (pB q14.1 4)<|s_mem3 (fun H h=>hp_open (h.re [0] [])) (fun mb82 tb83 tm84 hw=>?_)
  obtain⟨hi85,ha86,ht87⟩:=hw;refine s_memX (fun H h=>all_focus hq18 ho16 (h.re [3] [])) (fun v88 _=>?_);refine s_store 0 #[iw o13.kind,iw o13.tag,sw o13.name,(tabV q14 o13),iw m.kind,iw m.p,iw m.q,sw m.str,iw m.ref,v88] ?_;refine s_nr<|sP (pB b 0)<|sL (t_loadA 8 (vc v))<|s_fact (fun H h=>(h.mp (i:=5) rfl).nodup) (fun hnd89=>?_)
  refine s_mem (fun _ h=>all_unfocus (o':={ o13 with mt:=m }) hnd89 hq18 ho16 (ob_shut (o:={ o13 with mt:=m }) (h.re [0,0,0,0] []))) ?_;refine s_mem (Bs:=allP ps3 (st.put v.ref { o13 with mt:=m })::blkA b #[.map (some mb82),iw (st.objs.length:Int),.map (some tb83)] 97::mpA iK oV mb82 ps3::mpA iK bV tb83 tm84::blkA g2 (vc m) 71::blkA g1 (vc v) 71::F) (fun _ h=>h) ?_;have hob90:=hi85.obs o13 (get_mem ho16).1;refine s_mem (fun _ h=>hp_shut (st:=(st.put v.ref { o13 with mt:=m })) (n:=(st.objs.length:Int)) ⟨⟨put_inv hi85 ⟨hob90.kind,hob90.tab,(fun a b=>by exfalso;have a1:o13.kind≠4:=a;have b1:o13.kind≠8:=b;omega)⟩,ha86.put ho16,ht87.put ho16⟩,by rw[put_len]⟩ (h.re [1,1,1,0] [])) ?_;refine s_call [0] (htouch_s (st:=(st.put v.ref { o13 with mt:=m })) (ps:=ps3) v (show Hst.get _ _=some { o13 with mt:=m } from by rw[get_put ho16,if_pos rfl]) 0) ?_;rw[if_pos (rfl)];rintro _ _ ⟨rfl,rfl⟩;refine sP (iw 0)<|s_nt<|k_ret<|xs_mem (fun _ h=>hpA_shut (h.re [0] [])) ?_
  have hb:hmetaOk st v m=true:=by unfold hmetaOk;rw[hf15];simp_all
  refine xs_fin _ _ (SI.tmp 6 SI.nil) (rr [0] [1,1]) ⟨?_,?_⟩
  .unfold hsetMetaE;rw[hb];rfl
  unfold hsetMeta;rw[hb];unfold Hst.setMt;rw[ho16];rfl
 have c92:=not_f c66;have p93:=dY c92;refine sK<|sK<|sK<|sK<|sP2 (.bool false)<|s_nt<|k_false<|k_st<|k_sr<|sP (pB q14.1 0)<|sL (t_loadA 7 (vc m))<|sP (pB q14.1 0)<|sP (pB q14.1 4)<|s_store 0 #[iw o13.kind,iw o13.tag,sw o13.name,(tabV q14 o13),iw m.kind,iw m.p,iw m.q,sw m.str,iw m.ref,v27] ?_
 refine s_nr<|sP (pB b 0)<|sL (t_loadA 8 (vc v))<|s_fact (fun H h=>(h.mp (i:=5) rfl).nodup) (fun hnd94=>?_)
 refine s_mem (fun _ h=>all_unfocus (o':={ o13 with mt:=m }) hnd94 hq18 ho16 (ob_shut (o:={ o13 with mt:=m }) (h.re [0,0,0,0] []))) ?_;refine s_mem (Bs:=allP ps3 (st.put v.ref { o13 with mt:=m })::blkA b #[.map (some mb21),iw (st.objs.length:Int),.map (some tb22)] 97::mpA iK oV mb21 ps3::mpA iK bV tb22 tm23::blkA g2 (vc m) 71::blkA g1 (vc v) 71::F) (fun _ h=>h) ?_;have hob95:=hi24.obs o13 (get_mem ho16).1;refine s_mem (fun _ h=>hp_shut (st:=(st.put v.ref { o13 with mt:=m })) (n:=(st.objs.length:Int)) ⟨⟨put_inv hi24 ⟨hob95.kind,hob95.tab,(fun a b=>by exfalso;have a1:o13.kind≠4:=a;have b1:o13.kind≠8:=b;omega)⟩,ha25.put ho16,ht26.put ho16⟩,by rw[put_len]⟩ (h.re [1,1,1,0] [])) ?_;refine s_call [0] (htouch_s (st:=(st.put v.ref { o13 with mt:=m })) (ps:=ps3) v (show Hst.get _ _=some { o13 with mt:=m } from by rw[get_put ho16,if_pos rfl]) 0) ?_;rw[if_pos (rfl)];rintro _ _ ⟨rfl,rfl⟩;refine sP (iw 0)<|s_nt<|k_ret<|xs_mem (fun _ h=>hpA_shut (h.re [0] [])) ?_
 have hb:hmetaOk st v m=true:=by unfold hmetaOk;rw[hf15];simp_all
 refine xs_fin _ _ (SI.tmp 6 SI.nil) (rr [0] [1,1]) ⟨?_,?_⟩
 .unfold hsetMetaE;rw[hb];rfl
 unfold hsetMeta;rw[hb];unfold Hst.setMt;rw[ho16];rfl
theorem all_add{Z:Zone}{F:List Asr}{H:Heap}{st:Hst}{ps:List (Int×(Nat×Nat))}{q:Nat×Nat}{o:Hob}(ha:HA ps st)(hf:st.count<65536)(hi:(ps.map Prod.fst).Nodup)(h:Holds Z (obP q o::allP ps st::F) H):Holds Z (allP (aset ps ((st.objs.length:Int)+1) q) (hmake st o)::F) H:=by
 have hnone:apos ps ((st.objs.length:Int)+1)=none:=by
  have:=ha.has ((st.objs.length:Int)+1);rw[get_end]at this;cases hp:apos ps ((st.objs.length:Int)+1) with
  | none=>rfl
  | some i=>obtain⟨_,y,_,h2⟩:=Go.Mem.apos_lt hp;rw[h2]at this;cases this
 have e0:hmake st o=⟨st.objs++[some o],st.tch++[true]⟩:=by unfold hmake;rw[if_neg om]
 unfold allP;rw[Go.Mem.aset_new hnone,List.map_append,List.map_cons,List.map_nil];have e1:(hmake st o).ob ((st.objs.length:Int)+1)=o:=by
  unfold Hst.ob;rw[e0,get_snoc,if_pos rfl];rfl
 have e2:ps.map (fun p=>obP p.2 ((hmake st o).ob p.1))=ps.map fun p=>obP p.2 (st.ob p.1):=by
  refine List.map_congr_left fun p hp=>?_
  have hne:p.1≠(st.objs.length:Int)+1:=fun e=>by
   have:=(Go.Mem.aget_none_iff ps ((st.objs.length:Int)+1)).1 (Go.Mem.apos_none hnone);exact this (List.mem_map.2 ⟨p,hp,e⟩)
  unfold Hst.ob;rw[e0,get_snoc,if_neg hne]
 rw[e2];show Holds Z (star (_++[obP q ((hmake st o).ob _)])::F) H;rw[e1];exact Holds.star_add h
theorem hmake_len{st:Hst}{o:Hob}(hf:st.count<65536):(hmake st o).objs.length=st.objs.length+1:=by unfold hmake;rw[if_neg om];simp
theorem hmakeV_full{st:Hst}{k:Int}(hf:65536≤st.count):hmakeV st k=zVl∧hmakeE st=17:=by unfold hmakeV hmakeE;rw[if_pos hf,if_pos hf];exact⟨rfl,rfl⟩
theorem hmakeV_ok{st:Hst}{k:Int}(hf:st.count<65536):hmakeV st k=refV k ((st.objs.length:Int)+1)∧hmakeE st=0:=by unfold hmakeV hmakeE;rw[if_neg om,if_neg om];exact⟨rfl,rfl⟩
theorem hmake_full{st:Hst}{o:Hob}(hf:65536≤st.count):hmake st o=st:=by unfold hmake;rw[if_pos hf]
theorem hcreate_s{Z:Zone}{F:List Asr}{b:Nat}{st:Hst}{ps:List (Int×(Nat×Nat))}{q:Nat×Nat}{o:Hob}(hob:ObInv o)(hl:st.objs.length≤1000000):SF Tryz.prog 72 #[.pointer (some ⟨b,0,none⟩),ptrV q.1] Z (hpP b st ps::obP q o::F) fun r Bs=>r=pairV (hmakeV st o.kind) (hmakeE st)∧Bs=hpA b (hmake st o)::F:=by
 refine sf_enter Tryz.func72 46 [(0,pB b 0),(1,pB q.1 0)] (fun w0=>?_);refine k_mem3 (fun H h=>hp_open (h.re [0] [])) (fun mb1 tb2 tm3 hw=>?_);obtain⟨hi4,ha5,ht6⟩:=hw;refine k_fact (fun H h=>(h.mp (i:=1) rfl).nodup) (fun hnd0=>?_);have hlen:=ha5.len;refine k_sr<|s_alloc (.agg zc) zc (fun g7=>?_)
 refine sP (iw 0)<|s_nt<|k_seq<|k_sr<|sP3 (pB b 0)<|sL (t_load 1 (.map (some mb1)))<|sL (t_lenM 2 Tryz.underlying94)<|sL t_cmp<|s_nt<|k_cond (decide ((65536:Int)≤(ps.length:Int))) (fun c8=>?_) (fun c8=>?_)
 .have p9:=dY c8;refine k_sr<|sL (t_kern (.agg zc))<|s_store 0 zc ?_
  refine sP (iw 17)<|s_nt<|k_ret<|xs_ret<|xs_mem (fun _ h=>hp_shut (st:=st) (n:=(st.objs.length:Int)) ⟨⟨hi4,ha5,ht6⟩,rfl⟩ (h.re [1,1,1,1] [])) ?_
  have hf:65536≤st.count:=by omega
  refine xs_fin [.agg zc,iw 17] (hpA b st::F) (SI.agg 4 71 1 (SI.tmp 5 SI.nil)) (fun _ h=>hpA_shut (h.re [0] [1,1])) ⟨?_,?_⟩
  .rw [(hmakeV_full hf).1,(hmakeV_full (k:=0) hf).2];rfl
  rw[hmake_full hf]
 have p10:=dF c8;refine k_st<|k_sr<|sP2 (pB b 0)<|sP (pB b 1)<|sL (t_load 1 (iw (st.objs.length:Int)))<|sL (t_add (st.objs.length:Int) 1 ol)<|sP (pB b 0)<|sP (pB b 1)<|s_store 1 #[.map (some mb1),iw ((st.objs.length:Int)+1),.map (some tb2)] ?_
 refine s_nt<|k_seq<|k_draw<|sP3 (pB b 0)<|sL (t_load 1 (.map (some mb1)))<|sP2 (pB b 0)<|sP (pB b 1)<|sL (t_load 1 (iw ((st.objs.length:Int)+1)))<|sP (pB q.1 0)<|s_update 2 intOk Tryz.underlying94 ((st.objs.length:Int)+1) q ?_
 refine s_nil<|x_dynS (fun _ h=>by kernel_rfl) ?_
 refine xs_then<|k_seq<|k_draw<|sP2 (pB b 0)<|sP (pB b 2)<|sL (t_load 1 (.map (some tb2)))<|sP2 (pB b 0)<|sP (pB b 1)<|sL (t_load 1 (iw ((st.objs.length:Int)+1)))<|s_update 3 intOk Tryz.underlying95 ((st.objs.length:Int)+1) true ?_
 refine s_nil<|x_dynS (fun _ h=>by kernel_rfl) ?_
 refine xs_then<|k_seq<|k_draw<|sP3 (pB q.1 0)<|s_memX (fun H h=>ob_open (h.re [5] [])) (fun v11 hw=>?_)
 refine sL (t_load 0 (iw o.kind))<|sP2 (pB b 0)<|sP (pB b 1)<|sL (t_load 4 (iw ((st.objs.length:Int)+1)))<|sL (t_kern (.agg #[iw o.kind,iw 0,iw 0,sw eb,iw ((st.objs.length:Int)+1)]))<|s_store 3 #[iw o.kind,iw 0,iw 0,sw eb,iw ((st.objs.length:Int)+1)] ?_
 refine sP (iw 0)<|s_nil<|x_dynS (fun _ h=>by kernel_rfl) ?_
 refine xs_then<|k_ret<|xs_mem (fun _ h=>ob_shut (o:=o) (h.re [0,0,0] [])) ?_
 have hf:st.count<65536:=by omega
 refine xs_fact (fun H h=>hnd0) (fun hnd=>?_);refine xs_mem (fun _ h=>all_add ha5 hf hnd (h.re [0,4] [])) ?_;refine xs_mem (fun _ h=>hp_shut (st:=(hmake st o)) (n:=((st.objs.length:Int)+1)) ⟨⟨hmake_inv hi4 hob,HA.make ha5 o q hf,TA.make ht6 hi4 o hf⟩,by rw[hmake_len hf];rfl⟩ (h.re [2,2,2,0] [])) ?_;refine xs_fin [.agg #[iw o.kind,iw 0,iw 0,sw eb,iw ((st.objs.length:Int)+1)],iw 0] (hpA b (hmake st o)::F) (SI.agg 4 71 1 (SI.tmp 5 SI.nil)) (fun _ h=>hpA_shut (h.re [0] [1])) ⟨?_,rfl⟩;rw[(hmakeV_ok hf).1,(hmakeV_ok (k:=0) hf).2];rfl
theorem hnewtable_s{Z:Zone}{F:List Asr}{b:Nat}{st:Hst}(hl:st.objs.length≤1000000):SF Tryz.prog 33 #[.pointer (some ⟨b,0,none⟩)] Z (hpA b st::F) fun r Bs=>r=pairV (hmakeV st 4) (hmakeE st)∧Bs=hpA b (hmake st (newO 4 0 eb []))::F:=by
 refine sf_enter Tryz.func33 14 [(0,pB b 0)] (fun w0=>?_);refine k_sr<|s_alloc (.agg zc) zc (fun g1=>?_)
 refine sP (iw 0)<|s_nt<|k_seq<|k_sr<|sP (pB b 0)<|sP (.bool false)<|s_nt<|k_false<|k_st<|k_sr<|sP (pB b 0)<|s_pcall (fun _ h=>tbnew_s) ?_
 rintro _ _ ⟨tg2,rfl,rfl⟩;refine sL (t_kern (.agg #[iw 4,iw 0,sw eb,pB tg2 0,iw 0,iw 0,iw 0,sw eb,iw 0,nS]))<|s_box #[iw 4,iw 0,sw eb,pB tg2 0,iw 0,iw 0,iw 0,sw eb,iw 0,nS] (fun g3=>?_)
 refine s_memX (fun H h=>hpA_open (h.re [3] [])) (fun ps4 _=>?_);refine s_fact (fun H h=>hp_facts (h.re [0] [])) (fun hf5=>?_);obtain⟨hi6,ha7⟩:=hf5;refine s_mem (fun _ h=>Holds.nilS (T:=VlT) h) ?_;refine s_mem (fun _ h=>tabO_shut (q:=(g3,tg2)) (o:=(newO 4 0 eb [])) (T:=noTb) rfl (h.re [3] [])) ?_;refine s_mem (fun _ h=>ob_shut (q:=(g3,tg2)) (o:=(newO 4 0 eb [])) (h.re [3,1,0] [])) ?_;refine sC [1,0] (hcreate_s (st:=st) (ps:=ps4) (q:=(g3,tg2)) (o:=(newO 4 0 eb [])) (newO_inv _ _ _ (by decide)) om) ?_;refine sP (.agg (vc (hmakeV st 4)))<|sP (iw (hmakeE st))<|s_store 1 (vc (hmakeV st 4)) ?_
 refine sP (iw (hmakeE st))<|s_nt<|k_ret ?_
 exact xs_fin _ _ (SI.agg 2 71 1 (SI.tmp 3 SI.nil)) (rr [0] [1]) ⟨rfl,rfl⟩
theorem hnewfunc_s{Z:Zone}{F:List Asr}{b:Nat}{st:Hst}(hl:st.objs.length≤1000000)(tag:Int):SF Tryz.prog 79 #[.pointer (some ⟨b,0,none⟩),iw tag] Z (hpA b st::F) fun r Bs=>r=pairV (hmakeV st 5) (hmakeE st)∧Bs=hpA b (hmake st (newO 5 tag eb []))::F:=by
 refine sf_enter Tryz.func79 16 [(0,pB b 0),(1,iw tag)] (fun w0=>?_);refine k_sr<|s_alloc (.agg zc) zc (fun g1=>?_)
 refine sP (iw 0)<|s_nt<|k_seq<|k_sr<|sP (pB b 0)<|sP (.bool false)<|s_nt<|k_false<|k_st<|k_sr<|sP (pB b 0)<|sP (iw tag)<|sL (t_kern (.agg #[iw 5,iw tag,sw eb,.pointer none,iw 0,iw 0,iw 0,sw eb,iw 0,nS]))<|s_box #[iw 5,iw tag,sw eb,.pointer none,iw 0,iw 0,iw 0,sw eb,iw 0,nS] (fun g2=>?_)
 refine s_memX (fun H h=>hpA_open (h.re [2] [])) (fun ps3 _=>?_);refine s_fact (fun H h=>hp_facts (h.re [0] [])) (fun hf4=>?_);obtain⟨hi5,ha6⟩:=hf4;refine s_mem (fun _ h=>Holds.nilS (T:=VlT) h) ?_;refine s_mem (fun _ h=>tabO_none (q:=(g2,0)) (o:=(newO 5 tag eb [])) (show (5:Int)≠4 by decide) h) ?_;refine s_mem (fun _ h=>ob_shut (q:=(g2,0)) (o:=(newO 5 tag eb [])) (h.re [3,1,0] [])) ?_;refine sC [1,0] (hcreate_s (st:=st) (ps:=ps3) (q:=(g2,0)) (o:=(newO 5 tag eb [])) (newO_inv _ _ _ (by decide)) om) ?_;refine sP (.agg (vc (hmakeV st 5)))<|sP (iw (hmakeE st))<|s_store 1 (vc (hmakeV st 5)) ?_
 refine sP (iw (hmakeE st))<|s_nt<|k_ret ?_
 exact xs_fin _ _ (SI.agg 4 71 1 (SI.tmp 5 SI.nil)) (rr [0] [1]) ⟨rfl,rfl⟩
def hdataV(st:Hst)(name:ByteArray):Vl:=if 40<(name.size:Int) then zVl else hmakeV st 8
def hdataE(st:Hst)(name:ByteArray):Int:=if 40<(name.size:Int) then 14 else hmakeE st
def hdata(st:Hst)(name:ByteArray):Hst:=if 40<(name.size:Int) then st else hmake st (newO 8 0 name (List.replicate 16 zVl))
theorem hnewdata_s{Z:Zone}{F:List Asr}{b:Nat}{st:Hst}(hl:st.objs.length≤1000000)(name:ByteArray):SF Tryz.prog 77 #[.pointer (some ⟨b,0,none⟩),sw name] Z (hpA b st::F) fun r Bs=>r=pairV (hdataV st name) (hdataE st name)∧Bs=hpA b (hdata st name)::F:=by
 refine sf_enter Tryz.func77 23 [(0,pB b 0),(1,sw name)] (fun w0=>?_);refine k_sr<|s_alloc (.agg zc) zc (fun g1=>?_)
 refine sP (iw 0)<|s_nt<|k_seq<|k_block<|k_sr<|sP (pB b 0)<|sP2 (.bool false)<|s_nt<|k_false<|k_sr<|sP (sw name)<|sL (t_kern (iw (name.size:Int)))<|sL t_cmp<|sP (.bool (decide ((40:Int)<(name.size:Int))))<|s_nt<|k_cond (decide ((40:Int)<(name.size:Int))) (fun c2=>?_) (fun c2=>?_)
 .have p3:=dY c2;refine k_sr<|sL (t_kern (.agg zc))<|s_store 0 zc ?_
  refine sP (iw 14)<|s_nt<|k_ret<|xs_retBlock<|xs_ret ?_
  have hp:=dY c2;refine xs_fin [.agg zc,iw 14] (hpA b st::F) (SI.agg 4 71 0 (SI.tmp 5 SI.nil)) (rr [1] [1]) ⟨?_,?_⟩
  .unfold hdataV hdataE;rw[if_pos hp,if_pos hp];rfl
  unfold hdata;rw[if_pos hp]
 have p4:=dF c2;refine k_skip<|xs_block<|xs_then<|k_sr<|sP (pB b 0)<|sP (sw name)<|s_make VlT_ok Tryz.underlying28 16 om (by show 48*_≤_;omega) om (fun v5=>?_)
 refine sF 0 (fun hf6=>?_);refine sL (show Lt _ _ _ _ _ (.agg #[iw 8,iw 0,sw name,.pointer none,iw 0,iw 0,iw 0,sw eb,iw 0,v5]) from by obtain⟨_,_,e⟩:=hf6;rw[e];clear e;exact t_kern _)<|s_box #[iw 8,iw 0,sw name,.pointer none,iw 0,iw 0,iw 0,sw eb,iw 0,v5] (fun g7=>?_)
 refine s_memX (fun H h=>hpA_open (h.re [3] [])) (fun ps8 _=>?_);refine s_fact (fun H h=>hp_facts (h.re [0] [])) (fun hf9=>?_);obtain⟨hi10,ha11⟩:=hf9;refine s_mem (fun _ h=>tabO_none (q:=(g7,0)) (o:=(newO 8 0 name (List.replicate 16 VlT.zero))) (show (8:Int)≠4 by decide) h) ?_;refine s_mem (fun _ h=>ob_shut (q:=(g7,0)) (o:=(newO 8 0 name (List.replicate 16 VlT.zero))) (h.re [2,2,0] [])) ?_;refine sC [1,0] (hcreate_s (st:=st) (ps:=ps8) (q:=(g7,0)) (o:=(newO 8 0 name (List.replicate 16 VlT.zero))) (newO_inv _ _ _ (by decide)) om) ?_;refine sP (.agg (vc (hmakeV st 8)))<|sP (iw (hmakeE st))<|s_store 1 (vc (hmakeV st 8)) ?_
 refine sP (iw (hmakeE st))<|s_nt<|k_ret ?_
 have hp:=dF c2;refine xs_fin [.agg (vc (hmakeV st 8)),iw (hmakeE st)] (hpA b (hmake st (newO 8 0 name (List.replicate 16 VlT.zero)))::F) (SI.agg 4 71 1 (SI.tmp 5 SI.nil)) (rr [0] [1]) ⟨?_,?_⟩
 .unfold hdataV hdataE;rw[if_neg hp,if_neg hp];rfl
 unfold hdata;rw[if_neg hp];rfl
theorem hnew_s{Z:Zone}:SF Tryz.prog 32 #[] Z [] fun r Bs=>∃b,r=.pointer (some ⟨b,0,none⟩)∧Bs=[hpA b hp0]:=by
 refine sf_enter Tryz.func32 5 [] (fun w0=>?_);refine k_sr<|sP (.pointer none)<|s_nr<|s_makeMap iK oV (fun b1=>?_)
 refine s_makeMap iK bV (fun b2=>?_);refine sL (t_kern (.agg #[.map (some b1),iw 0,.map (some b2)]))<|s_box #[.map (some b1),iw 0,.map (some b2)] (fun g3=>?_)
 refine sP (pB g3 0)<|s_nt<|k_ret<|xs_fin _ _ (SI.tmp 0 SI.nil) (fun _ h=>hpA_shut (ps:=[]) (hp_shut (b:=g3) (st:=hp0) (tm:=[]) ⟨⟨HInv.nil,HA.nil,TA.nil⟩,rfl⟩ ((Holds.star_nil h).re [1,2,1,0] []))) ⟨g3,rfl,rfl⟩
end Go.Proofs.YtmhpcebiamkciaaGreat
end
section
set_option linter.unusedSimpArgs false
set_option linter.unusedVariables false
namespace Go.Proofs.YtmhpcebiamkciaaGreat
theorem zr_of{v:Vl}(h:validB v=true)(hk:v.kind=0):v=zVl:=by
 unfold validB at h;rw[if_pos hk]at h;exact of_decide_eq_true h
section
variable{S:List Slt}{k v:Vl}
theorem live_mem{s:Slt}:s∈live S↔s∈S∧s.gone=false:=by unfold live;rw[List.mem_filter];simp
theorem oget_mem(h:OInv S){s:Slt}(hs:s∈live S):oget S s.key=s.val:=by
 obtain⟨h1,hg⟩:=live_mem.1 hs;obtain⟨j,hj⟩:=List.mem_iff_getElem?.1 h1;exact oget_some (h.last hj hg) hj
theorem oget_not(h:OInv S)(hn:∀s∈live S,s.key≠k):oget S k=zVl:=by
 cases hl:lastAt S k with
 | none=>exact oget_none hl
 | some i=>
  obtain⟨s,h1,h2,_⟩:=lastAt_some hl;rw[oget_some hl h1];have hm:=List.mem_of_getElem? h1;cases hg:s.gone with
  | true=>exact h.zero s hm hg
  | false=>exact absurd h2 (hn s (live_mem.2 ⟨hm,hg⟩))
theorem live_oset(h:OInv S)(hk:okKey k=true)(hv:validB v=true)(s:Slt):s∈live (osetL S k v)↔(s.key≠k∧s∈live S)∨(v.kind≠0∧s=⟨k,v,false⟩):=by
 have hset:∀{i:Nat}{t u:Slt},S[i]?=some t→t.gone=false→t.key=k→∀s,s∈S.set i u∧s.gone=false↔(s.key≠k∧s∈live S)∨(s=u∧u.gone=false):=by
  intro i t u hi hg htk s;constructor
  .rintro ⟨h1,h2⟩;obtain⟨j,hj⟩:=List.mem_iff_getElem?.1 h1;by_cases e:i=j
   .subst e;rw[List.getElem?_set_self (List.getElem?_eq_some_iff.1 hi).1]at hj;injection hj with e;subst e
    exact .inr ⟨rfl,h2⟩
   rw[List.getElem?_set_ne e]at hj;refine .inl ⟨fun hk'=>?_,live_mem.2 ⟨List.mem_of_getElem? hj,h2⟩⟩;have a:=h.last hj h2;have b:=h.last hi hg;rw[hk']at a;rw[htk]at b;rw[a]at b;injection b with b;exact e b.symm
  rintro (⟨h1,h2⟩|⟨rfl,h2⟩)
  .obtain ⟨h3,h4⟩:=live_mem.1 h2;obtain⟨j,hj⟩:=List.mem_iff_getElem?.1 h3;refine⟨?_,h4⟩;have e:i≠j:=fun e=>by subst e;rw[hi]at hj;injection hj with e;subst e;exact h1 htk
   exact List.mem_of_getElem? (i:=j) (by rw[List.getElem?_set_ne e];exact hj)
  exact⟨List.mem_of_getElem? (i:=i) (by rw[List.getElem?_set_self (List.getElem?_eq_some_iff.1 hi).1]),h2⟩
 have hno:thereAt S k=none→∀s∈live S,s.key≠k:=fun ht s hs e=>by
  obtain⟨h1,h2⟩:=live_mem.1 hs;rw[there_none h ht s h1 e]at h2;cases h2
 rw[live_mem];unfold osetL;rw[if_neg (by rw[hk];decide),if_neg (by rw[hv];decide)];split
 .rename_i h0;cases ht:thereAt S k with
  | none=>
   simp only;rw[←live_mem];exact⟨fun hs=>.inl ⟨hno ht s hs,hs⟩,fun hs=>by rcases hs with hs|hs;exact hs.2;exact absurd h0 hs.1⟩
  | some i=>
   obtain⟨_,t,h1,h2,h3⟩:=thereAt_some ht;simp only;rw[hset h1 h3 h2];constructor
   .rintro (hs|⟨rfl,hs⟩)
    .exact .inl hs
    cases hs
   rintro (hs|hs)
   .exact .inl hs
   exact absurd h0 hs.1
 rename_i h0
 cases ht:thereAt S k with
 | some i=>
  obtain⟨_,t,h1,h2,h3⟩:=thereAt_some ht;simp only;rw[hset h1 h3 h2];constructor
  .rintro (hs|⟨rfl,hs⟩)
   .exact .inl hs
   exact .inr ⟨h0,rfl⟩
  rintro (hs|hs)
  .exact .inl hs
  exact .inr ⟨hs.2,rfl⟩
 | none=>
  simp only;rw[List.mem_append,List.mem_singleton];have hlv:∀s,s.gone=false→(s∈(if cnt S+8<S.length-cnt S then live S else S)↔s∈live S):=fun s hg=>by
   split
   .exact Iff.rfl
   rw[live_mem];simp[hg]
  constructor
  .rintro ⟨h1|h1,h2⟩
   .have:=(hlv s h2).1 h1;exact .inl ⟨hno ht s this,this⟩
   exact .inr ⟨h0,h1⟩
  rintro (⟨h1,h2⟩|⟨h1,rfl⟩)
  .exact ⟨.inl ((hlv s (live_mem.1 h2).2).2 h2),(live_mem.1 h2).2⟩
  exact⟨.inr rfl,rfl⟩
theorem oget_oset(h:OInv S)(hk:okKey k=true)(hv:validB v=true)(k':Vl):oget (osetL S k v) k'=if k'=k then v else oget S k':=by
 have hi:=osetL_inv h k v;by_cases e:k'=k
 .subst e;rw[if_pos rfl];by_cases h0:v.kind=0
  .rw [oget_not hi fun s hs=>?_]
   .exact (zr_of hv h0).symm
   rcases (live_oset h hk hv s).1 hs with h1|h1
   .exact h1.1
   exact absurd h0 h1.1
  exact oget_mem hi ((live_oset h hk hv ⟨k',v,false⟩).2 (.inr ⟨h0,rfl⟩))
 rw[if_neg e];by_cases hx:∃s∈live S,s.key=k'
 .obtain ⟨s,hs,rfl⟩:=hx;rw[oget_mem h hs,oget_mem hi ((live_oset h hk hv s).2 (.inl ⟨e,hs⟩))]
 have hn:∀s∈live S,s.key≠k':=fun s hs he=>hx ⟨s,hs,he⟩
 rw[oget_not h hn,oget_not hi fun s hs=>?_];rcases (live_oset h hk hv s).1 hs with h1|h1
 .exact hn s h1.2
 rw[h1.2];exact fun he=>e he.symm
end
def TW(T:Tb):Prop:=∀s∈live T.rest,inB (whole s.key) T.list.length=false
theorem TW.nil:TW ⟨[],[]⟩:=fun _ h=>by cases h
theorem shr_getN:∀(n:Nat) {L:List Vl},L.length=n→(∀x∈L,validB x=true)→∀i:Nat,((shr L)[i]?).getD zVl=(L[i]?).getD zVl
 | 0,L,hn,_,i=>by rw[List.length_eq_zero_iff.1 hn];rfl
 | n+1,L,hn,hL,i=>by
  rcases List.eq_nil_or_concat L with rfl|⟨r,x,rfl⟩
  .rfl
  rw[List.concat_eq_append]at*;rw[shr_snoc];split
  .rename_i h0;rw[shr_getN n (by simp at hn;omega) (fun y hy=>hL y (List.mem_append_left _ hy))];by_cases hi:i<r.length
   .rw [List.getElem?_append_left hi]
   rw[List.getElem?_append_right (by omega),List.getElem?_eq_none (by omega)];by_cases h1:i-r.length=0
   .rw [h1];simp[zr_of (hL x (by simp)) h0]
   rw[List.getElem?_eq_none (by simp;omega)]
  rfl
theorem shr_get{L:List Vl}(hL:∀x∈L,validB x=true)(i:Nat):((shr L)[i]?).getD zVl=(L[i]?).getD zVl:=shr_getN _ rfl hL i
theorem grow_get(S:List Slt):∀(f:Nat) (L:List Vl) (v:Vl) (i:Nat),i<(grow S f L v).length→(grow S f L v)[i]?=if i<L.length then L[i]? else if i=L.length then some v else some (oget S (ofI ((i:Int)+1)))
 | 0,L,v,i,hi=>by
  rw[grow]at hi⊢;rw[if_pos hi]
 | f+1,L,v,i,hi=>by
  rw[grow]at hi⊢;split at hi
  .rename_i h0;rw[if_pos h0,if_pos hi]
  rename_i h0
  rw[if_neg h0,grow_get S f _ _ i hi];have e:(L++[v]).length=L.length+1:=by simp
  rw[e];by_cases h1:i<L.length
  .rw [if_pos (by omega),if_pos h1,List.getElem?_append_left h1]
  rw[if_neg h1];by_cases h2:i=L.length
  .rw [if_pos (by omega),if_pos h2,h2];simp
  rw[if_neg (by omega),if_neg h2];by_cases h3:i=L.length+1
  .rw [if_pos h3,h3,show (((L.length+1:Nat):Int)+1)=(L.length:Int)+2 by omega]
  rw[if_neg h3]
theorem grow_lt(S:List Slt)(f:Nat){L:List Vl}{v:Vl}(h0:v.kind≠0):L.length<(grow S (f+1) L v).length:=by
 rw[grow,if_neg h0];have:=grow_le S f (L++[v]) (oget S (ofI ((L.length:Int)+2)));rw[List.length_append,List.length_singleton]at this;omega
theorem stale_no{S:List Slt}{n m:Nat}(h:staleB S n m=false){s:Slt}(hs:s∈S)(h1:n<whole s.key):¬whole s.key≤m:=fun h2=>by
 unfold staleB at h;rw[List.any_eq_false]at h;obtain⟨e,h3⟩:=whole_key (k:=s.key) (n:=whole s.key) rfl (by omega);refine h (whole s.key).toNat (List.mem_range'_1.2 ⟨by omega,by omega⟩) ?_;unfold hasK;rw[show (((whole s.key).toNat:Nat):Int)=whole s.key by omega,←e];cases hl:lastAt S s.key with
 | some j=>simp
 | none=>exact absurd rfl (lastAt_none hl s hs)
section
variable{T:Tb}{k v:Vl}
theorem tadd_tw(h:TInv T)(hw:TW T)(v:Vl):TW (tadd T v):=by
 intro s hs;have hle:=grow_le T.rest (T.rest.length+2) T.list v;show inB _ (grow T.rest (T.rest.length+2) T.list v).length=false;have hs':s∈live (if staleB T.rest T.list.length (grow T.rest (T.rest.length+2) T.list v).length=true then purge T.rest (grow T.rest (T.rest.length+2) T.list v).length else T.rest):=hs;split at hs'
 .have h1:=(live_mem.1 hs').1;unfold purge at h1;have:=(List.mem_filter.1 h1).2;simpa using this
 rename_i hst
 have h1:=hw s hs';refine inB_false fun hb=>?_
 have h2:¬(1≤whole s.key∧whole s.key≤(T.list.length:Int)):=fun hc=>by rw[inB_iff.2 hc]at h1;cases h1
 exact stale_no (by simpa using hst) (live_mem.1 hs').1 (by omega) hb.2
theorem tset_tw(h:TInv T)(hw:TW T)(k v:Vl):TW (tset T k v):=by
 unfold tset;split
 .exact hw
 rename_i hk
 split
 .exact hw
 rename_i hv
 split
 .intro s hs;have h1:=hw s hs;have h2:=shr_len (T.list.set (whole k-1).toNat v);rw[List.length_set]at h2;refine inB_false fun hb=>?_
  have hb2:whole s.key≤((shr (T.list.set (whole k-1).toNat v)).length:Int):=hb.2;rw[inB_iff.2 ⟨hb.1,by omega⟩]at h1;cases h1
 rename_i hb
 split
 .exact tadd_tw h hw v
 intro s hs;rcases (live_oset h.rest (by simpa using hk) (by simpa using hv) s).1 hs with h1|h1
 .exact hw s h1.2
 rw[h1.2];simpa using hb
theorem tadd_get(h:TInv T)(hw:TW T)(hk:okKey k=true)(hv:validB v=true)(h1:whole k=(T.list.length:Int)+1)(h0:v.kind≠0)(k':Vl):tget (tadd T v) k'=if k'=k then v else tget T k':=by
 obtain⟨hk1,hk2⟩:=whole_key h1 (by omega);have hlt:T.list.length<(grow T.rest (T.rest.length+2) T.list v).length:=grow_lt T.rest (T.rest.length+1) h0;have hg:=grow_get T.rest (T.rest.length+2) T.list v;have hkv:=(okKey_iff.1 hk).1;by_cases hv':validB k'=false
 .rw [tget_bad hv',tget_bad hv',if_neg fun e=>by rw[e,hkv]at hv';cases hv']
 have hvv:validB k'=true:=by simpa using hv'
 unfold tget;rw[if_neg hv',if_neg hv'];show (if inB (whole k') (grow T.rest (T.rest.length+2) T.list v).length=true then ((grow T.rest (T.rest.length+2) T.list v)[(whole k'-1).toNat]?).getD zVl else oget (tadd T v).rest k')=_;by_cases hin:inB (whole k') (grow T.rest (T.rest.length+2) T.list v).length=true
 .rw [if_pos hin];obtain⟨a,b⟩:=inB_iff.1 hin;rw[hg _ (by omega)];obtain⟨ek,_⟩:=whole_key (k:=k') rfl a;by_cases h2:whole k'≤(T.list.length:Int)
  .rw [if_pos (by omega),if_neg fun e=>by rw[e]at h2;omega,if_pos (inB_iff.2 ⟨a,h2⟩)]
  rw[if_neg (by omega)];by_cases h3:whole k'=(T.list.length:Int)+1
  .rw [if_pos (by omega),if_pos (by rw[ek,h3,hk1])];rfl
  rw[if_neg (by omega),if_neg fun e=>h3 (by rw[e,h1]),if_neg fun e=>h2 (inB_iff.1 e).2];rw[show ((((whole k'-1).toNat:Nat):Int)+1)=whole k' by omega,←ek];rfl
 rw[if_neg hin];have hn:¬(1≤whole k'∧whole k'≤((grow T.rest (T.rest.length+2) T.list v).length:Int)):=fun hc=>hin (inB_iff.2 hc)
 rw[if_neg fun e=>hn (by rw[e,h1];omega),if_neg fun e=>hn (by have:=inB_iff.1 e;omega)];show oget (if staleB T.rest T.list.length (grow T.rest (T.rest.length+2) T.list v).length=true then purge T.rest (grow T.rest (T.rest.length+2) T.list v).length else T.rest) k'=_;split
 .have hp:=purge_inv h.rest (grow T.rest (T.rest.length+2) T.list v).length;by_cases hx:∃s∈live T.rest,s.key=k'
  .obtain ⟨s,hs,e⟩:=hx;have hs2:s∈live (purge T.rest (grow T.rest (T.rest.length+2) T.list v).length):=by
    rw[live_mem];unfold purge;rw[List.mem_filter];refine⟨⟨hs,?_⟩,(live_mem.1 hs).2⟩;rw[e,inB_false hn];rfl
   rw[←e,oget_mem h.rest hs,oget_mem hp hs2]
  have hno:∀s∈live T.rest,s.key≠k':=fun s hs he=>hx ⟨s,hs,he⟩
  rw[oget_not h.rest hno,oget_not hp fun s hs=>?_];rw[live_mem]at hs;unfold purge at hs;exact hno s (List.mem_filter.1 hs.1).1
 rfl
theorem tget_tset(h:TInv T)(hw:TW T)(hk:okKey k=true)(hv:validB v=true)(k':Vl):tget (tset T k v) k'=if k'=k then v else tget T k':=by
 have hkv:=(okKey_iff.1 hk).1;by_cases hin:1≤whole k∧whole k≤(T.list.length:Int)
 .rw [tset_in hk hv hin.1 hin.2];by_cases hv':validB k'=false
  .rw [tget_bad hv',tget_bad hv',if_neg fun e=>by rw[e,hkv]at hv';cases hv']
  obtain⟨ek,_⟩:=whole_key (k:=k) rfl hin.1;unfold tget;rw[if_neg hv',if_neg hv'];have hall:∀x∈T.list.set (whole k-1).toNat v,validB x=true:=fun x hx=>by
   rcases List.mem_or_eq_of_mem_set hx with hx|rfl
   .exact h.list x hx
   exact hv
  have hsl:=shr_len (T.list.set (whole k-1).toNat v);rw[List.length_set]at hsl;by_cases hb:1≤whole k'∧whole k'≤(T.list.length:Int)
  .obtain ⟨ek',_⟩:=whole_key (k:=k') rfl hb.1;have e1:(if inB (whole k') (shr (T.list.set (whole k-1).toNat v)).length=true then ((shr (T.list.set (whole k-1).toNat v))[(whole k'-1).toNat]?).getD zVl else oget T.rest k')=((T.list.set (whole k-1).toNat v)[(whole k'-1).toNat]?).getD zVl:=by
    rw[←shr_get hall];split
    .rfl
    rename_i hn
    rw[List.getElem?_eq_none (by apply Decidable.byContradiction;intro hc;exact hn (inB_iff.2 ⟨hb.1,by omega⟩))];refine oget_not h.rest fun s hs e=>?_
    have:=hw s hs;rw[e,inB_iff.2 hb]at this;cases this
   show (if _ then _ else oget T.rest k')=_;rw[e1];by_cases e:k'=k
   .subst e;rw[if_pos rfl,List.getElem?_set_self (by omega)];rfl
   rw[if_neg e,if_pos (inB_iff.2 hb)];have hne:(whole k-1).toNat≠(whole k'-1).toNat:=fun hc=>e (by rw[ek',ek];congr 1;omega)
   rw[List.getElem?_set_ne hne]
  have hb2:¬(1≤whole k'∧whole k'≤((shr (T.list.set (whole k-1).toNat v)).length:Int)):=fun hc=>hb ⟨hc.1,by omega⟩
  show (if inB (whole k') (shr (T.list.set (whole k-1).toNat v)).length=true then _ else oget T.rest k')=_;rw[if_neg (by rw[inB_false hb2];decide),if_neg fun e=>hb (by rw[e];exact hin),if_neg (by rw[inB_false hb];decide)]
 by_cases hadd:whole k=(T.list.length:Int)+1∧v.kind≠0
 .rw [tset_add hk hv hadd.1 hadd.2];exact tadd_get h hw hk hv hadd.1 hadd.2 k'
 rw[tset_out hk hv hin hadd];by_cases hv':validB k'=false
 .rw [tget_bad hv',tget_bad hv',if_neg fun e=>by rw[e,hkv]at hv';cases hv']
 unfold tget;rw[if_neg hv',if_neg hv'];show (if inB (whole k') T.list.length=true then _ else oget (osetL T.rest k v) k')=_;rw[oget_oset h.rest hk hv];by_cases hb:inB (whole k') T.list.length=true
 .rw [if_pos hb,if_pos hb,if_neg fun e=>hin (by rw[←e];exact inB_iff.1 hb)]
 rw[if_neg hb,if_neg hb]
end
end Go.Proofs.YtmhpcebiamkciaaGreat
end
section
set_option linter.unusedSimpArgs false
set_option linter.unusedVariables false
namespace Go.Proofs.YtmhpcebiamkciaaGreat
/-! ### What follows a key -/
def seek:List Vl→Nat→Option (Nat×Vl)
 | [],_=>none
 | v::r,i=>if v.kind≠0 then some (i,v) else seek r (i+1)
theorem seek_drop{L:List Vl}{i:Nat}{y:Vl}(h:L[i]?=some y):seek (L.drop i) i=if y.kind≠0 then some (i,y) else seek (L.drop (i+1)) (i+1):=by
 obtain⟨hi,e⟩:=List.getElem?_eq_some_iff.1 h;rw[List.drop_eq_getElem_cons hi,e,seek]
theorem seek_end{L:List Vl}{i:Nat}(h:L.length≤i):seek (L.drop i) i=none:=by rw[List.drop_of_length_le h];rfl
def tafter(T:Tb)(n:Nat):Vl×Vl×Bool×Int:=match seek (T.list.drop n) n with
 | some p=>(ofI ((p.1:Int)+1),p.2,true,0)
 | none=>onext T.rest zVl
def tnext(T:Tb)(k:Vl):Vl×Vl×Bool×Int:=
 if k=zVl then tafter T 0 else if inB (whole k) T.list.length=true then tafter T (whole k).toNat else
 if (onext T.rest k).2.2.2≠0∧1≤whole k then onext T.rest zVl else onext T.rest k
section
variable{T:Tb}{k:Vl}{n i:Nat}{y:Vl}
theorem after_found(h:seek (T.list.drop i) i=seek (T.list.drop n) n)(hy:T.list[i]?=some y)(h0:y.kind≠0):tafter T n=(ofI ((i:Int)+1),y,true,0):=by
 unfold tafter;rw[←h,seek_drop hy,if_pos h0]
theorem after_none(h:seek (T.list.drop i) i=seek (T.list.drop n) n)(hi:T.list.length≤i):tafter T n=onext T.rest zVl:=by
 unfold tafter;rw[←h,seek_end hi]
theorem seek_step{L:List Vl}(h:seek (L.drop i) i=seek (L.drop n) n)(hy:L[i]?=some y)(h0:¬y.kind≠0):seek (L.drop (i+1)) (i+1)=seek (L.drop n) n:=by
 rw[←h,seek_drop hy,if_neg h0]
theorem onext_err{S:List Slt}{k:Vl}(h:(onext S k).2.2.2≠0):onext S k=(zVl,zVl,false,13):=by
 unfold onext at h⊢;by_cases hk:k=zVl
 .rw [if_pos hk]at h;exact absurd rfl h
 rw[if_neg hk]at h⊢;cases hl:lastAt S k with
 | none=>rfl
 | some i=>rw[hl]at h;exact absurd rfl h
theorem tnext_nil:tnext T zVl=tafter T 0:=by unfold tnext;rw[if_pos rfl]
theorem tnext_in(hk:k≠zVl)(h1:1≤whole k)(h2:whole k≤(T.list.length:Int)):tnext T k=tafter T (whole k).toNat:=by unfold tnext;rw[if_neg hk,if_pos (inB_iff.2 ⟨h1,h2⟩)]
theorem tnext_rest(hk:k≠zVl)(h:¬(1≤whole k∧whole k≤(T.list.length:Int)))(he:(onext T.rest k).2.2.2=0):tnext T k=onext T.rest k:=by
 unfold tnext;rw[if_neg hk,if_neg (by rw[inB_false h];decide),if_neg fun hc=>hc.1 he]
theorem tnext_over(hk:k≠zVl)(h:¬(1≤whole k∧whole k≤(T.list.length:Int)))(he:(onext T.rest k).2.2.2≠0)(h1:1≤whole k):tnext T k=onext T.rest zVl:=by
 unfold tnext;rw[if_neg hk,if_neg (by rw[inB_false h];decide),if_pos ⟨he,h1⟩]
theorem tnext_bad(hk:k≠zVl)(h:¬(1≤whole k∧whole k≤(T.list.length:Int)))(he:(onext T.rest k).2.2.2≠0)(h1:¬1≤whole k):tnext T k=(zVl,zVl,false,13):=by
 unfold tnext;rw[if_neg hk,if_neg (by rw[inB_false h];decide),if_neg fun hc=>h1 hc.2,onext_err he]
end
def tabSize(T:Tb):Int:=4+2*(T.list.length:Int)+4*(T.rest.length:Int)
/-! ### Insertion and removal -/
def tremE(T:Tb)(p:Int):Int:=if p<1∨(T.list.length:Int)<p then 6 else 0
def trem(T:Tb)(p:Int):Tb:=if p<1∨(T.list.length:Int)<p then T else { T with list:=shr (T.list.eraseIdx (p-1).toNat++[zVl]) }
section
variable{T:Tb}{p:Int}{v:Vl}
end
end Go.Proofs.YtmhpcebiamkciaaGreat
end
section
set_option linter.unusedSimpArgs false
set_option linter.unusedVariables false
namespace Go.S
open Go.Hp Go.J
open Go.Mem (Ty blk pre suf)
section
variable{P:Program}{E:Env}{Z:Zone}{As:List Asr}{o:Oper}{α:Type}{T:Ty α}{v:Value}{L:List α}{w:World}
end
end Go.S
end
section
set_option linter.unusedSimpArgs false
set_option linter.unusedVariables false
set_option maxRecDepth 100000
set_option maxHeartbeats 2000000
namespace Go.Proofs.YtmhpcebiamkciaaGreat
open Go.Hp Go.J Go.S
open Go.Mem (Ty KTy blk elemAt pre suf blk_pre blk_suf aget aset strK aggDesc)
open Go.Mem (adel apos aget_aset aget_adel)
theorem tbafter_s{Z:Zone}{F:List Asr}{b:Nat}{L:List Vl}{S:List Slt}(hl:L.length≤100000)(hs:S.length≤100000)(x:Int)(hx0:0≤x)(hx1:x≤L.length):SF Tryz.prog 209 #[.pointer (some ⟨b,0,none⟩),iw x] Z (tbA b L S::F) fun r Bs=>r=nextV (tafter ⟨L,S⟩ x.toNat)∧Bs=tbA b L S::F:=by
 refine sf_enter Tryz.func209 48 [(0,pB b 0),(1,iw x)] (fun w0=>?_);refine k_sr<|s_alloc (.agg zc) zc (fun g1=>?_)
 refine s_alloc (.agg zc) zc (fun g2=>?_);refine sP (.bool false)<|sP (iw 0)<|s_nt<|k_seq<|k_sr<|sP2 (iw x)<|s_nt<|k_block<|k_loop (ι:=Nat) (fun i=>x.toNat≤i∧i≤L.length∧seek (L.drop i) i=seek (L.drop x.toNat) x.toNat) (fun i=>[(0,pB b 0),(4,pB g1 0),(5,pB g2 0),(8,iw (i:Int))]) (fun i=>blkA g2 zc 71::blkA g1 zc 71::tbA b L S::F) (fun i=>L.length-i) x.toNat ⟨by omega,by omega,rfl⟩ (sub_of rfl (rQ (rQ (rQ ⟨⟨rfl,cI om⟩,trivial⟩)))) (rr [0,0,0] []) ?_
 rintro i hi3;show SK _ _ _ _ _ [(0,pB b 0),(4,pB g1 0),(5,pB g2 0),(8,iw (i:Int))] _ (blkA g2 zc 71::blkA g1 zc 71::tbA b L S::F);refine k_seq<|k_sr<|sP (iw (i:Int))<|sP3 (pB b 0)<|s_mem2 (fun H h=>tb_open (h.re [2] [])) (fun lv4 r5 hw=>?_)
 refine sL (t_load 0 lv4)<|sL (t_len VlT_ok Tryz.underlying28 (.own 1))<|sL t_cmp<|s_nt<|k_cond (decide ((i:Int)<(L.length:Int))) (fun c6=>?_) (fun c6=>?_)
 .have p7:=dY c6;refine k_st<|k_seq<|k_block<|k_sr<|sP3 (pB b 0)<|sL (t_load 0 lv4)<|sP (iw (i:Int))<|sL (t_index VlT_ok Tryz.underlying28 (.own 1) (i:Int) i om ol om)<|sP (.pointer (some (elemAt VlT.size lv4 i))) ?_
  obtain⟨y8,hy9⟩:∃y,L[i]?=some y:=⟨_,List.getElem?_eq_getElem ol⟩;refine sL (t_loadF 0 VlT_ok (.own 1) hy9)<|sL t_cmp<|s_nt<|k_cond (decide (y8.kind≠0)) (fun c10=>?_) (fun c10=>?_)
  .have p11:=dY c10;refine k_seq<|k_held [blkA b #[lv4,pB r5 0] 185,own VlT lv4 L] ?_
   refine hp_ 0 [0,0] (iw (i:Int)) ?_;refine h_l 1 rfl [0,0] (fun _=>(t_add (i:Int) 1 ol)) ?_;refine hp_ 3 [0,0] (pB b 0) ?_;refine hp_ 4 [0,0] (pB b 0) ?_;refine hp_ 5 [0,0] (pB b 0) ?_;refine h_l 6 rfl [0,0] (fun _=>(t_load 0 lv4)) ?_;refine hp_ 7 [0,0] (iw (i:Int)) ?_;refine h_l 8 rfl [0,0] (fun _=>(t_index VlT_ok Tryz.underlying28 (.own 1) (i:Int) i om ol om)) ?_;refine h_l 9 rfl [0,0] (fun _=>(t_loadE VlT_ok (.own 1) hy9)) ?_;refine h_stepS 2 ?_;refine sV (fun _ h=>ofint_s ((i:Int)+1))<|nH [0,0]<|h_stepS 10 ?_
   refine s_store 4 (vc (ofI ((i:Int)+1))) ?_;refine nH [0,0]<|h_stepS 11 ?_
   refine s_store 3 (vc y8) ?_;refine nH [0,0]<|hp_ 12 [0,0] (.bool true) ?_
   refine hp_ 13 [0,0] (iw 0) ?_;refine h_doneS ?_;refine xs_then<|k_ret<|xs_retBlock<|xs_ret<|xs_ret<|xs_retBlock<|xs_ret<|xs_mem (fun _ h=>tb_shut (h.re [0,0,0] [])) ?_
   have hp:tafter ⟨L,S⟩ x.toNat=(ofI ((i:Int)+1),y8,true,0):=after_found (T:=⟨L,S⟩) hi3.2.2 hy9 (dY c10);refine xs_fin [.agg (vc (ofI ((i:Int)+1))),.agg (vc y8),.bool true,iw 0] (tbA b L S::F) (SI.agg 4 71 2 (SI.agg 5 71 1 (SI.tmp 6 (SI.tmp 7 SI.nil)))) (rr [0] [1,1]) ⟨?_,rfl⟩;rw[hp];rfl
  have p12:=Decidable.not_not.1 (dF c10);refine k_skip<|xs_block<|xs_then<|k_reg<|sP (iw (i:Int))<|sL (t_add (i:Int) 1 ol)<|sP (iw ((i:Int)+1))<|s_nil<|xs_mem (fun _ h=>tb_shut (h.re [0,0,0] [])) ?_
  exact xs_round (i+1) om ⟨by omega,by omega,seek_step hi3.2.2 hy9 (dF c10)⟩ sA (rr [1,1,0] [])
 have p13:=dF c6;refine k_exit<|xs_exit<|xs_exit<|xs_here<|xs_then<|k_sr<|sP2 (pB b 0)<|sP (pB b 1)<|sL (t_load 0 (pB r5 0))<|sL (t_kern (.agg zc))<|sC [2] (omnext_s (S:=S) ol zVl) ?_
 refine sP (.agg (vc ((onext S zVl).1)))<|sP (.agg (vc ((onext S zVl).2.1)))<|sP (.bool ((onext S zVl).2.2.1))<|sP (iw ((onext S zVl).2.2.2))<|s_store 4 (vc ((onext S zVl).1)) ?_
 refine s_store 3 (vc ((onext S zVl).2.1)) ?_;refine sP (.bool ((onext S zVl).2.2.1))<|sP (iw ((onext S zVl).2.2.2))<|s_nt<|k_ret<|xs_mem (fun _ h=>tb_shut (h.re [1,1,0] [])) ?_
 have hp:tafter ⟨L,S⟩ x.toNat=onext S zVl:=after_none (T:=⟨L,S⟩) hi3.2.2 (by show L.length≤i;omega);refine xs_fin [.agg (vc ((onext S zVl).1)),.agg (vc ((onext S zVl).2.1)),.bool ((onext S zVl).2.2.1),iw ((onext S zVl).2.2.2)] (tbA b L S::F) (SI.agg 4 71 2 (SI.agg 5 71 1 (SI.tmp 6 (SI.tmp 7 SI.nil)))) (rr [0] [1,1]) ⟨?_,rfl⟩;rw[hp];rfl
theorem tbnext_s{Z:Zone}{F:List Asr}{b:Nat}{L:List Vl}{S:List Slt}(hl:L.length≤100000)(hs:S.length≤100000)(k:Vl):SF Tryz.prog 169 #[.pointer (some ⟨b,0,none⟩),k.v] Z (tbA b L S::F) fun r Bs=>r=nextV (tnext ⟨L,S⟩ k)∧Bs=tbA b L S::F:=by
 refine sf_enter Tryz.func169 89 [(0,pB b 0),(1,.agg (vc k))] (fun w0=>?_);refine k_sr<|s_box (vc k) (fun g1=>?_)
 refine s_alloc (.agg zc) zc (fun g2=>?_);refine s_alloc (.agg zc) zc (fun g3=>?_);refine sP (.bool false)<|sP (iw 0)<|s_nt<|k_seq<|k_sr<|sP (pB b 0)<|sP (.bool false)<|s_nt<|k_false<|k_st<|k_seq<|k_sr<|sL (t_loadA 2 (vc k))<|sL (t_kern (.agg zc))<|sL (t_eqS (fun w=>(eqVlT k zVl w).1))<|s_nt<|k_cond (decide (k=zVl)) (fun c4=>?_) (fun c4=>?_)
 .have p5:=dY c4;refine k_sr<|sP (pB b 0)<|sC [3] (tbafter_s (L:=L) (S:=S) ol ol 0 om ol) ?_
  refine sP (.agg (vc ((tafter ⟨L,S⟩ (0:Int).toNat).1)))<|sP (.agg (vc ((tafter ⟨L,S⟩ (0:Int).toNat).2.1)))<|sP (.bool ((tafter ⟨L,S⟩ (0:Int).toNat).2.2.1))<|sP (iw ((tafter ⟨L,S⟩ (0:Int).toNat).2.2.2))<|s_store 2 (vc ((tafter ⟨L,S⟩ (0:Int).toNat).1)) ?_
  refine s_store 1 (vc ((tafter ⟨L,S⟩ (0:Int).toNat).2.1)) ?_;refine sP (.bool ((tafter ⟨L,S⟩ (0:Int).toNat).2.2.1))<|sP (iw ((tafter ⟨L,S⟩ (0:Int).toNat).2.2.2))<|s_nt<|k_ret<|xs_ret ?_
  have hp:tnext ⟨L,S⟩ k=tafter ⟨L,S⟩ 0:=by rw[dY c4];exact tnext_nil
  refine xs_fin [.agg (vc ((tafter ⟨L,S⟩ (0:Int).toNat).1)),.agg (vc ((tafter ⟨L,S⟩ (0:Int).toNat).2.1)),.bool ((tafter ⟨L,S⟩ (0:Int).toNat).2.2.1),iw ((tafter ⟨L,S⟩ (0:Int).toNat).2.2.2)] (tbA b L S::F) (SI.agg 4 71 2 (SI.agg 5 71 1 (SI.tmp 6 (SI.tmp 7 SI.nil)))) (rr [0] [1,1,1]) ⟨?_,rfl⟩;rw[hp];rfl
 have p6:=dF c4;refine k_st<|k_sr<|sL (t_loadA 2 (vc k))<|s_vcall (fun _ h=>integer_s k) ?_
 rintro u7 e8;rcases int_cases k with ⟨hi9,hp10,hv11⟩|⟨hi12,hw13⟩
 .rw [hi9,hp10]at e8;subst e8;refine sP (.tuple #[iw (whole k),.bool true])<|sP (iw (whole k))<|sP (.bool true)<|sP (iw (whole k))<|sP (.bool true)<|s_nt<|k_seq<|k_sr<|sP2 (.bool true)<|sP (iw (whole k))<|sL t_cmp<|sP2 (.bool (decide ((1:Int)≤(whole k))))<|s_fork 37 (decide ((1:Int)≤(whole k))) (fun c14=>?_) (fun c14=>?_)
  .have p15:=dY c14;refine sP (iw (whole k))<|sP3 (pB b 0)<|s_mem2 (fun H h=>tb_open (h.re [3] [])) (fun lv16 r17 hw=>?_)
   refine sL (t_load 0 lv16)<|sL (t_len VlT_ok Tryz.underlying28 (.own 1))<|sL t_cmp<|sP (.bool (decide ((whole k)≤(L.length:Int))))<|s_nt<|k_cond (decide ((whole k)≤(L.length:Int))) (fun c18=>?_) (fun c18=>?_)
   .have p19:=dY c18;refine k_sr<|sP (pB b 0)<|sP (iw (whole k))<|s_mem (fun _ h=>tb_shut (h.re [0,0,0] [])) ?_
    refine sC [0] (tbafter_s (L:=L) (S:=S) ol ol (whole k) om ol) ?_;refine sP (.agg (vc ((tafter ⟨L,S⟩ ((whole k):Int).toNat).1)))<|sP (.agg (vc ((tafter ⟨L,S⟩ ((whole k):Int).toNat).2.1)))<|sP (.bool ((tafter ⟨L,S⟩ ((whole k):Int).toNat).2.2.1))<|sP (iw ((tafter ⟨L,S⟩ ((whole k):Int).toNat).2.2.2))<|s_store 2 (vc ((tafter ⟨L,S⟩ ((whole k):Int).toNat).1)) ?_
    refine s_store 1 (vc ((tafter ⟨L,S⟩ ((whole k):Int).toNat).2.1)) ?_;refine sP (.bool ((tafter ⟨L,S⟩ ((whole k):Int).toNat).2.2.1))<|sP (iw ((tafter ⟨L,S⟩ ((whole k):Int).toNat).2.2.2))<|s_nt<|k_ret<|xs_ret ?_
    have hz:k≠zVl:=dF c4;have hp:tnext ⟨L,S⟩ k=tafter ⟨L,S⟩ (whole k).toNat:=tnext_in hz om (by show _≤(L.length:Int);omega);refine xs_fin [.agg (vc ((tafter ⟨L,S⟩ ((whole k):Int).toNat).1)),.agg (vc ((tafter ⟨L,S⟩ ((whole k):Int).toNat).2.1)),.bool ((tafter ⟨L,S⟩ ((whole k):Int).toNat).2.2.1),iw ((tafter ⟨L,S⟩ ((whole k):Int).toNat).2.2.2)] (tbA b L S::F) (SI.agg 4 71 2 (SI.agg 5 71 1 (SI.tmp 6 (SI.tmp 7 SI.nil)))) (rr [0] [1,1,1]) ⟨?_,rfl⟩;rw[hp];rfl
   have p20:=dF c18;refine k_st<|k_cut (ι:=Nat×Nat) (fun _=>True) (fun (jb10,jb11)=>[(0,pB b 0),(4,pB g2 0),(5,pB g3 0),(8,iw (whole k)),(9,.bool true),(10,pB jb10 0),(11,pB jb11 0),(12,.bool ((onext S k).2.2.1)),(13,iw ((onext S k).2.2.2))]) (fun (jb10,jb11)=>blkA jb10 (vc ((onext S k).1)) 71::blkA jb11 (vc ((onext S k).2.1)) 71::blkA b #[lv16,pB r17 0] 185::own VlT lv16 L::omA r17 S::blkA g3 zc 71::blkA g2 zc 71::blkA g1 (vc k) 71::F) ?_ (fun ix _=>?_)
   .refine k_held [blkA b #[lv16,pB r17 0] 185,own VlT lv16 L,blkA g3 zc 71,blkA g2 zc 71,blkA g1 (vc k) 71] ?_;refine hp_ 0 [0,0,1,1,1] (pB b 0) ?_;refine hp_ 1 [0,0,1,1,1] (pB b 0) ?_;refine hp_ 2 [0,0,1,1,1] (pB b 1) ?_;refine h_l 3 rfl [0,0,1,1,1] (fun _=>(t_load 0 (pB r17 0))) ?_;refine h_l 4 rfl [0,0,1,1,1] (fun _=>(t_loadA 4 (vc k))) ?_;refine h_stepS3 5 11 12 ?_ ?_ ?_
    .refine sC [2] (omnext_s (S:=S) ol k) ?_;refine nH [1,1,1,1,1]<|hp_ 6 [1,1,1,1,1] (.tuple #[.agg (vc ((onext S k).1)),.agg (vc ((onext S k).2.1)),.bool ((onext S k).2.2.1),iw ((onext S k).2.2.2)]) ?_
     refine hp_ 7 [1,1,1,1,1] (.agg (vc ((onext S k).1))) ?_;refine hp_ 8 [1,1,1,1,1] (.agg (vc ((onext S k).2.1))) ?_;refine hp_ 9 [1,1,1,1,1] (.bool ((onext S k).2.2.1)) ?_;refine hp_ 10 [1,1,1,1,1] (iw ((onext S k).2.2.2)) ?_;refine h_stepS2 11 12 ?_ ?_
     .refine s_alloc (.agg zc) zc (fun g21=>?_);refine nH [2,2,2,2,2]<|h_stepS 12 ?_
      refine s_alloc (.agg zc) zc (fun g22=>?_);refine nH [3,3,3,3,3]<|h_stepS 13 ?_
      refine s_store 1 (vc ((onext S k).1)) ?_;refine nH [3,3,3,3,3]<|h_stepS 14 ?_
      refine s_store 0 (vc ((onext S k).2.1)) ?_;refine nH [3,3,3,3,3]<|hp_ 15 [3,3,3,3,3] (.bool ((onext S k).2.2.1)) ?_
      refine hp_ 16 [3,3,3,3,3] (iw ((onext S k).2.2.2)) ?_;refine h_doneS ?_;exact xcut (g21,g22) (rr [1,0,1,1,0,0,0,0] [])
     refine s_alloc (.agg zc) zc (fun g23=>?_);refine nH [2,2,2,2,2]<|h_stepS 11 ?_
     refine s_alloc (.agg zc) zc (fun g24=>?_);refine nH [3,3,3,3,3]<|h_stepS 13 ?_
     refine s_store 0 (vc ((onext S k).1)) ?_;refine nH [3,3,3,3,3]<|h_stepS 14 ?_
     refine s_store 1 (vc ((onext S k).2.1)) ?_;refine nH [3,3,3,3,3]<|hp_ 15 [3,3,3,3,3] (.bool ((onext S k).2.2.1)) ?_
     refine hp_ 16 [3,3,3,3,3] (iw ((onext S k).2.2.2)) ?_;refine h_doneS ?_;exact xcut (g24,g23) (rr [0,0,1,1,0,0,0,0] [])
    .refine s_alloc (.agg zc) zc (fun g25=>?_);refine nH [1,1,2,2,2]<|h_stepS2 5 12 ?_ ?_
     .refine sC [3] (omnext_s (S:=S) ol k) ?_;refine nH [2,2,2,2,2]<|hp_ 6 [2,2,2,2,2] (.tuple #[.agg (vc ((onext S k).1)),.agg (vc ((onext S k).2.1)),.bool ((onext S k).2.2.1),iw ((onext S k).2.2.2)]) ?_
      refine hp_ 7 [2,2,2,2,2] (.agg (vc ((onext S k).1))) ?_;refine hp_ 8 [2,2,2,2,2] (.agg (vc ((onext S k).2.1))) ?_;refine hp_ 9 [2,2,2,2,2] (.bool ((onext S k).2.2.1)) ?_;refine hp_ 10 [2,2,2,2,2] (iw ((onext S k).2.2.2)) ?_;refine h_stepS 12 ?_;refine s_alloc (.agg zc) zc (fun g26=>?_);refine nH [3,3,3,3,3]<|h_stepS 13 ?_
      refine s_store 2 (vc ((onext S k).1)) ?_;refine nH [3,3,3,3,3]<|h_stepS 14 ?_
      refine s_store 0 (vc ((onext S k).2.1)) ?_;refine nH [3,3,3,3,3]<|hp_ 15 [3,3,3,3,3] (.bool ((onext S k).2.2.1)) ?_
      refine hp_ 16 [3,3,3,3,3] (iw ((onext S k).2.2.2)) ?_;refine h_doneS ?_;exact xcut (g25,g26) (rr [2,0,1,1,0,0,0,0] [])
     refine s_alloc (.agg zc) zc (fun g27=>?_);refine nH [2,2,3,3,3]<|h_stepS 5 ?_
     refine sC [4] (omnext_s (S:=S) ol k) ?_;refine nH [3,3,3,3,3]<|hp_ 6 [3,3,3,3,3] (.tuple #[.agg (vc ((onext S k).1)),.agg (vc ((onext S k).2.1)),.bool ((onext S k).2.2.1),iw ((onext S k).2.2.2)]) ?_
     refine hp_ 7 [3,3,3,3,3] (.agg (vc ((onext S k).1))) ?_;refine hp_ 8 [3,3,3,3,3] (.agg (vc ((onext S k).2.1))) ?_;refine hp_ 9 [3,3,3,3,3] (.bool ((onext S k).2.2.1)) ?_;refine hp_ 10 [3,3,3,3,3] (iw ((onext S k).2.2.2)) ?_;refine h_stepS 13 ?_;refine s_store 2 (vc ((onext S k).1)) ?_;refine nH [3,3,3,3,3]<|h_stepS 14 ?_
     refine s_store 1 (vc ((onext S k).2.1)) ?_;refine nH [3,3,3,3,3]<|hp_ 15 [3,3,3,3,3] (.bool ((onext S k).2.2.1)) ?_
     refine hp_ 16 [3,3,3,3,3] (iw ((onext S k).2.2.2)) ?_;refine h_doneS ?_;exact xcut (g25,g27) (rr [2,1,1,1,0,0,0,0] [])
    refine s_alloc (.agg zc) zc (fun g28=>?_);refine nH [1,1,2,2,2]<|h_stepS2 5 11 ?_ ?_
    .refine sC [3] (omnext_s (S:=S) ol k) ?_;refine nH [2,2,2,2,2]<|hp_ 6 [2,2,2,2,2] (.tuple #[.agg (vc ((onext S k).1)),.agg (vc ((onext S k).2.1)),.bool ((onext S k).2.2.1),iw ((onext S k).2.2.2)]) ?_
     refine hp_ 7 [2,2,2,2,2] (.agg (vc ((onext S k).1))) ?_;refine hp_ 8 [2,2,2,2,2] (.agg (vc ((onext S k).2.1))) ?_;refine hp_ 9 [2,2,2,2,2] (.bool ((onext S k).2.2.1)) ?_;refine hp_ 10 [2,2,2,2,2] (iw ((onext S k).2.2.2)) ?_;refine h_stepS 11 ?_;refine s_alloc (.agg zc) zc (fun g29=>?_);refine nH [3,3,3,3,3]<|h_stepS 13 ?_
     refine s_store 0 (vc ((onext S k).1)) ?_;refine nH [3,3,3,3,3]<|h_stepS 14 ?_
     refine s_store 2 (vc ((onext S k).2.1)) ?_;refine nH [3,3,3,3,3]<|hp_ 15 [3,3,3,3,3] (.bool ((onext S k).2.2.1)) ?_
     refine hp_ 16 [3,3,3,3,3] (iw ((onext S k).2.2.2)) ?_;refine h_doneS ?_;exact xcut (g29,g28) (rr [0,1,1,1,0,0,0,0] [])
    refine s_alloc (.agg zc) zc (fun g30=>?_);refine nH [2,2,3,3,3]<|h_stepS 5 ?_
    refine sC [4] (omnext_s (S:=S) ol k) ?_;refine nH [3,3,3,3,3]<|hp_ 6 [3,3,3,3,3] (.tuple #[.agg (vc ((onext S k).1)),.agg (vc ((onext S k).2.1)),.bool ((onext S k).2.2.1),iw ((onext S k).2.2.2)]) ?_
    refine hp_ 7 [3,3,3,3,3] (.agg (vc ((onext S k).1))) ?_;refine hp_ 8 [3,3,3,3,3] (.agg (vc ((onext S k).2.1))) ?_;refine hp_ 9 [3,3,3,3,3] (.bool ((onext S k).2.2.1)) ?_;refine hp_ 10 [3,3,3,3,3] (iw ((onext S k).2.2.2)) ?_;refine h_stepS 13 ?_;refine s_store 1 (vc ((onext S k).1)) ?_;refine nH [3,3,3,3,3]<|h_stepS 14 ?_
    refine s_store 2 (vc ((onext S k).2.1)) ?_;refine nH [3,3,3,3,3]<|hp_ 15 [3,3,3,3,3] (.bool ((onext S k).2.2.1)) ?_
    refine hp_ 16 [3,3,3,3,3] (iw ((onext S k).2.2.2)) ?_;refine h_doneS ?_;exact xcut (g30,g28) (rr [1,1,1,1,0,0,0,0] [])
   obtain⟨jb10,jb11⟩:=ix;show SK _ _ _ _ _ [(0,pB b 0),(4,pB g2 0),(5,pB g3 0),(8,iw (whole k)),(9,.bool true),(10,pB jb10 0),(11,pB jb11 0),(12,.bool ((onext S k).2.2.1)),(13,iw ((onext S k).2.2.2))] _ (blkA jb10 (vc ((onext S k).1)) 71::blkA jb11 (vc ((onext S k).2.1)) 71::blkA b #[lv16,pB r17 0] 185::own VlT lv16 L::omA r17 S::blkA g3 zc 71::blkA g2 zc 71::blkA g1 (vc k) 71::F);refine k_seq<|k_block<|k_sr<|sP (iw ((onext S k).2.2.2))<|sL t_cmp<|sP (.bool (decide ((onext S k).2.2.2=0)))<|s_nt<|k_cond (decide ((onext S k).2.2.2=0)) (fun c31=>?_) (fun c31=>?_)
   .have p32:=dY c31;refine k_seq<|k_held [blkA jb10 (vc ((onext S k).1)) 71,blkA jb11 (vc ((onext S k).2.1)) 71,blkA b #[lv16,pB r17 0] 185,own VlT lv16 L,blkA g1 (vc k) 71] ?_
    refine h_l 0 rfl [0,0,0,0,3] (fun _=>(t_loadA 0 (vc ((onext S k).1)))) ?_;refine h_l 1 rfl [0,0,0,0,3] (fun _=>(t_loadA 1 (vc ((onext S k).2.1)))) ?_;refine hp_ 2 [0,0,0,0,3] (.bool ((onext S k).2.2.1)) ?_;refine hp_ 3 [0,0,0,0,3] (iw ((onext S k).2.2.2)) ?_;refine h_stepS 4 ?_;refine s_store 6 (vc ((onext S k).1)) ?_;refine nH [0,0,0,0,3]<|h_stepS 5 ?_
    refine s_store 5 (vc ((onext S k).2.1)) ?_;refine nH [0,0,0,0,3]<|hp_ 6 [0,0,0,0,3] (.bool ((onext S k).2.2.1)) ?_
    refine hp_ 7 [0,0,0,0,3] (iw ((onext S k).2.2.2)) ?_;refine h_doneS ?_;refine xs_then<|k_ret<|xs_retBlock<|xs_ret<|xs_mem (fun _ h=>tb_shut (h.re [2,2,2] [])) ?_
    have hz:k≠zVl:=dF c4;have hr:¬(1≤whole k∧whole k≤((⟨L,S⟩:Tb).list.length:Int)):=by show ¬(_∧_≤(L.length:Int));omega
    have hp:tnext ⟨L,S⟩ k=onext S k:=tnext_rest hz hr (dY c31);refine xs_fin [.agg (vc ((onext S k).1)),.agg (vc ((onext S k).2.1)),.bool ((onext S k).2.2.1),iw ((onext S k).2.2.2)] (tbA b L S::F) (SI.agg 4 71 4 (SI.agg 5 71 3 (SI.tmp 6 (SI.tmp 7 SI.nil)))) (rr [0] [1,1,1,1,1]) ⟨?_,rfl⟩;rw[hp];rfl
   have p33:=dF c31;refine k_sr<|sP2 (.bool true)<|sP (iw (whole k))<|sL (Lt.to t_cmp (cB (c14:(decide ((1:Int)≤(whole k)))=true)))<|sP2 (.bool true)<|s_nt<|k_true<|k_sr<|sP2 (pB b 0)<|sP (pB b 1)<|sL (t_load 2 (pB r17 0))<|sL (t_kern (.agg zc))<|sC [4] (omnext_s (S:=S) ol zVl) ?_
   refine sP (.agg (vc ((onext S zVl).1)))<|sP (.agg (vc ((onext S zVl).2.1)))<|sP (.bool ((onext S zVl).2.2.1))<|sP (iw ((onext S zVl).2.2.2))<|s_store 6 (vc ((onext S zVl).1)) ?_
   refine s_store 5 (vc ((onext S zVl).2.1)) ?_;refine sP (.bool ((onext S zVl).2.2.1))<|sP (iw ((onext S zVl).2.2.2))<|s_nt<|k_ret<|xs_retBlock<|xs_ret<|xs_mem (fun _ h=>tb_shut (h.re [3,3,0] [])) ?_
   have hz:k≠zVl:=dF c4;have hr:¬(1≤whole k∧whole k≤((⟨L,S⟩:Tb).list.length:Int)):=by show ¬(_∧_≤(L.length:Int));omega
   have hp:tnext ⟨L,S⟩ k=onext S zVl:=tnext_over hz hr (dF c31) om;refine xs_fin [.agg (vc ((onext S zVl).1)),.agg (vc ((onext S zVl).2.1)),.bool ((onext S zVl).2.2.1),iw ((onext S zVl).2.2.2)] (tbA b L S::F) (SI.agg 4 71 4 (SI.agg 5 71 3 (SI.tmp 6 (SI.tmp 7 SI.nil)))) (rr [0] [1,1,1,1,1]) ⟨?_,rfl⟩;rw[hp];rfl
  have p34:=dF c14;refine sK<|sK<|sK<|sK<|sK<|sK<|sK<|sP (.bool false)<|s_nt<|k_false<|k_st<|k_mem2 (fun H h=>tb_open (h.re [3] [])) (fun lv35 r36 hw=>?_)
  refine k_cut (ι:=Nat×Nat) (fun _=>True) (fun (jb10,jb11)=>[(0,pB b 0),(4,pB g2 0),(5,pB g3 0),(8,iw (whole k)),(9,.bool true),(10,pB jb10 0),(11,pB jb11 0),(12,.bool ((onext S k).2.2.1)),(13,iw ((onext S k).2.2.2))]) (fun (jb10,jb11)=>blkA jb10 (vc ((onext S k).1)) 71::blkA jb11 (vc ((onext S k).2.1)) 71::blkA b #[lv35,pB r36 0] 185::own VlT lv35 L::omA r36 S::blkA g3 zc 71::blkA g2 zc 71::blkA g1 (vc k) 71::F) ?_ (fun ix _=>?_)
  .refine k_held [blkA b #[lv35,pB r36 0] 185,own VlT lv35 L,blkA g3 zc 71,blkA g2 zc 71,blkA g1 (vc k) 71] ?_;refine hp_ 0 [0,0,1,1,1] (pB b 0) ?_;refine hp_ 1 [0,0,1,1,1] (pB b 0) ?_;refine hp_ 2 [0,0,1,1,1] (pB b 1) ?_;refine h_l 3 rfl [0,0,1,1,1] (fun _=>(t_load 0 (pB r36 0))) ?_;refine h_l 4 rfl [0,0,1,1,1] (fun _=>(t_loadA 4 (vc k))) ?_;refine h_stepS3 5 11 12 ?_ ?_ ?_
   .refine sC [2] (omnext_s (S:=S) ol k) ?_;refine nH [1,1,1,1,1]<|hp_ 6 [1,1,1,1,1] (.tuple #[.agg (vc ((onext S k).1)),.agg (vc ((onext S k).2.1)),.bool ((onext S k).2.2.1),iw ((onext S k).2.2.2)]) ?_
    refine hp_ 7 [1,1,1,1,1] (.agg (vc ((onext S k).1))) ?_;refine hp_ 8 [1,1,1,1,1] (.agg (vc ((onext S k).2.1))) ?_;refine hp_ 9 [1,1,1,1,1] (.bool ((onext S k).2.2.1)) ?_;refine hp_ 10 [1,1,1,1,1] (iw ((onext S k).2.2.2)) ?_;refine h_stepS2 11 12 ?_ ?_
    .refine s_alloc (.agg zc) zc (fun g37=>?_);refine nH [2,2,2,2,2]<|h_stepS 12 ?_
     refine s_alloc (.agg zc) zc (fun g38=>?_);refine nH [3,3,3,3,3]<|h_stepS 13 ?_
     refine s_store 1 (vc ((onext S k).1)) ?_;refine nH [3,3,3,3,3]<|h_stepS 14 ?_
     refine s_store 0 (vc ((onext S k).2.1)) ?_;refine nH [3,3,3,3,3]<|hp_ 15 [3,3,3,3,3] (.bool ((onext S k).2.2.1)) ?_
     refine hp_ 16 [3,3,3,3,3] (iw ((onext S k).2.2.2)) ?_;refine h_doneS ?_;exact xcut (g37,g38) (rr [1,0,1,1,0,0,0,0] [])
    refine s_alloc (.agg zc) zc (fun g39=>?_);refine nH [2,2,2,2,2]<|h_stepS 11 ?_
    refine s_alloc (.agg zc) zc (fun g40=>?_);refine nH [3,3,3,3,3]<|h_stepS 13 ?_
    refine s_store 0 (vc ((onext S k).1)) ?_;refine nH [3,3,3,3,3]<|h_stepS 14 ?_
    refine s_store 1 (vc ((onext S k).2.1)) ?_;refine nH [3,3,3,3,3]<|hp_ 15 [3,3,3,3,3] (.bool ((onext S k).2.2.1)) ?_
    refine hp_ 16 [3,3,3,3,3] (iw ((onext S k).2.2.2)) ?_;refine h_doneS ?_;exact xcut (g40,g39) (rr [0,0,1,1,0,0,0,0] [])
   .refine s_alloc (.agg zc) zc (fun g41=>?_);refine nH [1,1,2,2,2]<|h_stepS2 5 12 ?_ ?_
    .refine sC [3] (omnext_s (S:=S) ol k) ?_;refine nH [2,2,2,2,2]<|hp_ 6 [2,2,2,2,2] (.tuple #[.agg (vc ((onext S k).1)),.agg (vc ((onext S k).2.1)),.bool ((onext S k).2.2.1),iw ((onext S k).2.2.2)]) ?_
     refine hp_ 7 [2,2,2,2,2] (.agg (vc ((onext S k).1))) ?_;refine hp_ 8 [2,2,2,2,2] (.agg (vc ((onext S k).2.1))) ?_;refine hp_ 9 [2,2,2,2,2] (.bool ((onext S k).2.2.1)) ?_;refine hp_ 10 [2,2,2,2,2] (iw ((onext S k).2.2.2)) ?_;refine h_stepS 12 ?_;refine s_alloc (.agg zc) zc (fun g42=>?_);refine nH [3,3,3,3,3]<|h_stepS 13 ?_
     refine s_store 2 (vc ((onext S k).1)) ?_;refine nH [3,3,3,3,3]<|h_stepS 14 ?_
     refine s_store 0 (vc ((onext S k).2.1)) ?_;refine nH [3,3,3,3,3]<|hp_ 15 [3,3,3,3,3] (.bool ((onext S k).2.2.1)) ?_
     refine hp_ 16 [3,3,3,3,3] (iw ((onext S k).2.2.2)) ?_;refine h_doneS ?_;exact xcut (g41,g42) (rr [2,0,1,1,0,0,0,0] [])
    refine s_alloc (.agg zc) zc (fun g43=>?_);refine nH [2,2,3,3,3]<|h_stepS 5 ?_
    refine sC [4] (omnext_s (S:=S) ol k) ?_;refine nH [3,3,3,3,3]<|hp_ 6 [3,3,3,3,3] (.tuple #[.agg (vc ((onext S k).1)),.agg (vc ((onext S k).2.1)),.bool ((onext S k).2.2.1),iw ((onext S k).2.2.2)]) ?_
    refine hp_ 7 [3,3,3,3,3] (.agg (vc ((onext S k).1))) ?_;refine hp_ 8 [3,3,3,3,3] (.agg (vc ((onext S k).2.1))) ?_;refine hp_ 9 [3,3,3,3,3] (.bool ((onext S k).2.2.1)) ?_;refine hp_ 10 [3,3,3,3,3] (iw ((onext S k).2.2.2)) ?_;refine h_stepS 13 ?_;refine s_store 2 (vc ((onext S k).1)) ?_;refine nH [3,3,3,3,3]<|h_stepS 14 ?_
    refine s_store 1 (vc ((onext S k).2.1)) ?_;refine nH [3,3,3,3,3]<|hp_ 15 [3,3,3,3,3] (.bool ((onext S k).2.2.1)) ?_
    refine hp_ 16 [3,3,3,3,3] (iw ((onext S k).2.2.2)) ?_;refine h_doneS ?_;exact xcut (g41,g43) (rr [2,1,1,1,0,0,0,0] [])
   refine s_alloc (.agg zc) zc (fun g44=>?_);refine nH [1,1,2,2,2]<|h_stepS2 5 11 ?_ ?_
   .refine sC [3] (omnext_s (S:=S) ol k) ?_;refine nH [2,2,2,2,2]<|hp_ 6 [2,2,2,2,2] (.tuple #[.agg (vc ((onext S k).1)),.agg (vc ((onext S k).2.1)),.bool ((onext S k).2.2.1),iw ((onext S k).2.2.2)]) ?_
    refine hp_ 7 [2,2,2,2,2] (.agg (vc ((onext S k).1))) ?_;refine hp_ 8 [2,2,2,2,2] (.agg (vc ((onext S k).2.1))) ?_;refine hp_ 9 [2,2,2,2,2] (.bool ((onext S k).2.2.1)) ?_;refine hp_ 10 [2,2,2,2,2] (iw ((onext S k).2.2.2)) ?_;refine h_stepS 11 ?_;refine s_alloc (.agg zc) zc (fun g45=>?_);refine nH [3,3,3,3,3]<|h_stepS 13 ?_
    refine s_store 0 (vc ((onext S k).1)) ?_;refine nH [3,3,3,3,3]<|h_stepS 14 ?_
    refine s_store 2 (vc ((onext S k).2.1)) ?_;refine nH [3,3,3,3,3]<|hp_ 15 [3,3,3,3,3] (.bool ((onext S k).2.2.1)) ?_
    refine hp_ 16 [3,3,3,3,3] (iw ((onext S k).2.2.2)) ?_;refine h_doneS ?_;exact xcut (g45,g44) (rr [0,1,1,1,0,0,0,0] [])
   refine s_alloc (.agg zc) zc (fun g46=>?_);refine nH [2,2,3,3,3]<|h_stepS 5 ?_
   refine sC [4] (omnext_s (S:=S) ol k) ?_;refine nH [3,3,3,3,3]<|hp_ 6 [3,3,3,3,3] (.tuple #[.agg (vc ((onext S k).1)),.agg (vc ((onext S k).2.1)),.bool ((onext S k).2.2.1),iw ((onext S k).2.2.2)]) ?_
   refine hp_ 7 [3,3,3,3,3] (.agg (vc ((onext S k).1))) ?_;refine hp_ 8 [3,3,3,3,3] (.agg (vc ((onext S k).2.1))) ?_;refine hp_ 9 [3,3,3,3,3] (.bool ((onext S k).2.2.1)) ?_;refine hp_ 10 [3,3,3,3,3] (iw ((onext S k).2.2.2)) ?_;refine h_stepS 13 ?_;refine s_store 1 (vc ((onext S k).1)) ?_;refine nH [3,3,3,3,3]<|h_stepS 14 ?_
   refine s_store 2 (vc ((onext S k).2.1)) ?_;refine nH [3,3,3,3,3]<|hp_ 15 [3,3,3,3,3] (.bool ((onext S k).2.2.1)) ?_
   refine hp_ 16 [3,3,3,3,3] (iw ((onext S k).2.2.2)) ?_;refine h_doneS ?_;exact xcut (g46,g44) (rr [1,1,1,1,0,0,0,0] [])
  obtain⟨jb10,jb11⟩:=ix;show SK _ _ _ _ _ [(0,pB b 0),(4,pB g2 0),(5,pB g3 0),(8,iw (whole k)),(9,.bool true),(10,pB jb10 0),(11,pB jb11 0),(12,.bool ((onext S k).2.2.1)),(13,iw ((onext S k).2.2.2))] _ (blkA jb10 (vc ((onext S k).1)) 71::blkA jb11 (vc ((onext S k).2.1)) 71::blkA b #[lv35,pB r36 0] 185::own VlT lv35 L::omA r36 S::blkA g3 zc 71::blkA g2 zc 71::blkA g1 (vc k) 71::F);refine k_seq<|k_block<|k_sr<|sP (iw ((onext S k).2.2.2))<|sL t_cmp<|sP (.bool (decide ((onext S k).2.2.2=0)))<|s_nt<|k_cond (decide ((onext S k).2.2.2=0)) (fun c47=>?_) (fun c47=>?_)
  .have p48:=dY c47;refine k_seq<|k_held [blkA jb10 (vc ((onext S k).1)) 71,blkA jb11 (vc ((onext S k).2.1)) 71,blkA b #[lv35,pB r36 0] 185,own VlT lv35 L,blkA g1 (vc k) 71] ?_
   refine h_l 0 rfl [0,0,0,0,3] (fun _=>(t_loadA 0 (vc ((onext S k).1)))) ?_;refine h_l 1 rfl [0,0,0,0,3] (fun _=>(t_loadA 1 (vc ((onext S k).2.1)))) ?_;refine hp_ 2 [0,0,0,0,3] (.bool ((onext S k).2.2.1)) ?_;refine hp_ 3 [0,0,0,0,3] (iw ((onext S k).2.2.2)) ?_;refine h_stepS 4 ?_;refine s_store 6 (vc ((onext S k).1)) ?_;refine nH [0,0,0,0,3]<|h_stepS 5 ?_
   refine s_store 5 (vc ((onext S k).2.1)) ?_;refine nH [0,0,0,0,3]<|hp_ 6 [0,0,0,0,3] (.bool ((onext S k).2.2.1)) ?_
   refine hp_ 7 [0,0,0,0,3] (iw ((onext S k).2.2.2)) ?_;refine h_doneS ?_;refine xs_then<|k_ret<|xs_retBlock<|xs_ret<|xs_mem (fun _ h=>tb_shut (h.re [2,2,2] [])) ?_
   have hz:k≠zVl:=dF c4;have hr:¬(1≤whole k∧whole k≤((⟨L,S⟩:Tb).list.length:Int)):=by show ¬(_∧_≤(L.length:Int));omega
   have hp:tnext ⟨L,S⟩ k=onext S k:=tnext_rest hz hr (dY c47);refine xs_fin [.agg (vc ((onext S k).1)),.agg (vc ((onext S k).2.1)),.bool ((onext S k).2.2.1),iw ((onext S k).2.2.2)] (tbA b L S::F) (SI.agg 4 71 4 (SI.agg 5 71 3 (SI.tmp 6 (SI.tmp 7 SI.nil)))) (rr [0] [1,1,1,1,1]) ⟨?_,rfl⟩;rw[hp];rfl
  have p49:=dF c47;refine k_sr<|sP2 (.bool true)<|sP (iw (whole k))<|sL (Lt.to t_cmp (cB (c14:(decide ((1:Int)≤(whole k)))=false)))<|sP2 (.bool false)<|s_nt<|k_false<|k_skip<|xs_block<|xs_then<|k_sr<|sL (t_kern (.agg zc))<|sL (t_kern (.agg zc))<|s_store 6 zc ?_
  refine s_store 5 zc ?_;refine sP (.bool false)<|sP (iw 13)<|s_nt<|k_ret<|xs_mem (fun _ h=>tb_shut (h.re [2,2,2] [])) ?_
  have hz:k≠zVl:=dF c4;have hr:¬(1≤whole k∧whole k≤((⟨L,S⟩:Tb).list.length:Int)):=by show ¬(_∧_≤(L.length:Int));omega
  have hp:tnext ⟨L,S⟩ k=(zVl,zVl,false,13):=tnext_bad hz hr (dF c47) om;refine xs_fin [.agg zc,.agg zc,.bool false,iw 13] (tbA b L S::F) (SI.agg 4 71 4 (SI.agg 5 71 3 (SI.tmp 6 (SI.tmp 7 SI.nil)))) (rr [0] [1,1,1,1,1]) ⟨?_,rfl⟩;rw[hp];rfl
 rw[hi12]at e8;subst e8;refine sP (.tuple #[iw k.p,.bool false])<|sP (iw k.p)<|sP (.bool false)<|sP (iw k.p)<|sP (.bool false)<|s_nt<|k_seq<|k_sr<|sP2 (.bool false)<|sK<|sK<|sP2 (.bool false)<|sK<|sK<|sK<|sK<|sK<|sK<|sK<|sP (.bool false)<|s_nt<|k_false<|k_st<|k_mem2 (fun H h=>tb_open (h.re [3] [])) (fun lv50 r51 hw=>?_)
 refine k_cut (ι:=Nat×Nat) (fun _=>True) (fun (jb10,jb11)=>[(0,pB b 0),(4,pB g2 0),(5,pB g3 0),(8,iw k.p),(9,.bool false),(10,pB jb10 0),(11,pB jb11 0),(12,.bool ((onext S k).2.2.1)),(13,iw ((onext S k).2.2.2))]) (fun (jb10,jb11)=>blkA jb10 (vc ((onext S k).1)) 71::blkA jb11 (vc ((onext S k).2.1)) 71::blkA b #[lv50,pB r51 0] 185::own VlT lv50 L::omA r51 S::blkA g3 zc 71::blkA g2 zc 71::blkA g1 (vc k) 71::F) ?_ (fun ix _=>?_)
 .refine k_held [blkA b #[lv50,pB r51 0] 185,own VlT lv50 L,blkA g3 zc 71,blkA g2 zc 71,blkA g1 (vc k) 71] ?_;refine hp_ 0 [0,0,1,1,1] (pB b 0) ?_;refine hp_ 1 [0,0,1,1,1] (pB b 0) ?_;refine hp_ 2 [0,0,1,1,1] (pB b 1) ?_;refine h_l 3 rfl [0,0,1,1,1] (fun _=>(t_load 0 (pB r51 0))) ?_;refine h_l 4 rfl [0,0,1,1,1] (fun _=>(t_loadA 4 (vc k))) ?_;refine h_stepS3 5 11 12 ?_ ?_ ?_
  .refine sC [2] (omnext_s (S:=S) ol k) ?_;refine nH [1,1,1,1,1]<|hp_ 6 [1,1,1,1,1] (.tuple #[.agg (vc ((onext S k).1)),.agg (vc ((onext S k).2.1)),.bool ((onext S k).2.2.1),iw ((onext S k).2.2.2)]) ?_
   refine hp_ 7 [1,1,1,1,1] (.agg (vc ((onext S k).1))) ?_;refine hp_ 8 [1,1,1,1,1] (.agg (vc ((onext S k).2.1))) ?_;refine hp_ 9 [1,1,1,1,1] (.bool ((onext S k).2.2.1)) ?_;refine hp_ 10 [1,1,1,1,1] (iw ((onext S k).2.2.2)) ?_;refine h_stepS2 11 12 ?_ ?_
   .refine s_alloc (.agg zc) zc (fun g52=>?_);refine nH [2,2,2,2,2]<|h_stepS 12 ?_
    refine s_alloc (.agg zc) zc (fun g53=>?_);refine nH [3,3,3,3,3]<|h_stepS 13 ?_
    refine s_store 1 (vc ((onext S k).1)) ?_;refine nH [3,3,3,3,3]<|h_stepS 14 ?_
    refine s_store 0 (vc ((onext S k).2.1)) ?_;refine nH [3,3,3,3,3]<|hp_ 15 [3,3,3,3,3] (.bool ((onext S k).2.2.1)) ?_
    refine hp_ 16 [3,3,3,3,3] (iw ((onext S k).2.2.2)) ?_;refine h_doneS ?_;exact xcut (g52,g53) (rr [1,0,1,1,0,0,0,0] [])
   refine s_alloc (.agg zc) zc (fun g54=>?_);refine nH [2,2,2,2,2]<|h_stepS 11 ?_
   refine s_alloc (.agg zc) zc (fun g55=>?_);refine nH [3,3,3,3,3]<|h_stepS 13 ?_
   refine s_store 0 (vc ((onext S k).1)) ?_;refine nH [3,3,3,3,3]<|h_stepS 14 ?_
   refine s_store 1 (vc ((onext S k).2.1)) ?_;refine nH [3,3,3,3,3]<|hp_ 15 [3,3,3,3,3] (.bool ((onext S k).2.2.1)) ?_
   refine hp_ 16 [3,3,3,3,3] (iw ((onext S k).2.2.2)) ?_;refine h_doneS ?_;exact xcut (g55,g54) (rr [0,0,1,1,0,0,0,0] [])
  .refine s_alloc (.agg zc) zc (fun g56=>?_);refine nH [1,1,2,2,2]<|h_stepS2 5 12 ?_ ?_
   .refine sC [3] (omnext_s (S:=S) ol k) ?_;refine nH [2,2,2,2,2]<|hp_ 6 [2,2,2,2,2] (.tuple #[.agg (vc ((onext S k).1)),.agg (vc ((onext S k).2.1)),.bool ((onext S k).2.2.1),iw ((onext S k).2.2.2)]) ?_
    refine hp_ 7 [2,2,2,2,2] (.agg (vc ((onext S k).1))) ?_;refine hp_ 8 [2,2,2,2,2] (.agg (vc ((onext S k).2.1))) ?_;refine hp_ 9 [2,2,2,2,2] (.bool ((onext S k).2.2.1)) ?_;refine hp_ 10 [2,2,2,2,2] (iw ((onext S k).2.2.2)) ?_;refine h_stepS 12 ?_;refine s_alloc (.agg zc) zc (fun g57=>?_);refine nH [3,3,3,3,3]<|h_stepS 13 ?_
    refine s_store 2 (vc ((onext S k).1)) ?_;refine nH [3,3,3,3,3]<|h_stepS 14 ?_
    refine s_store 0 (vc ((onext S k).2.1)) ?_;refine nH [3,3,3,3,3]<|hp_ 15 [3,3,3,3,3] (.bool ((onext S k).2.2.1)) ?_
    refine hp_ 16 [3,3,3,3,3] (iw ((onext S k).2.2.2)) ?_;refine h_doneS ?_;exact xcut (g56,g57) (rr [2,0,1,1,0,0,0,0] [])
   refine s_alloc (.agg zc) zc (fun g58=>?_);refine nH [2,2,3,3,3]<|h_stepS 5 ?_
   refine sC [4] (omnext_s (S:=S) ol k) ?_;refine nH [3,3,3,3,3]<|hp_ 6 [3,3,3,3,3] (.tuple #[.agg (vc ((onext S k).1)),.agg (vc ((onext S k).2.1)),.bool ((onext S k).2.2.1),iw ((onext S k).2.2.2)]) ?_
   refine hp_ 7 [3,3,3,3,3] (.agg (vc ((onext S k).1))) ?_;refine hp_ 8 [3,3,3,3,3] (.agg (vc ((onext S k).2.1))) ?_;refine hp_ 9 [3,3,3,3,3] (.bool ((onext S k).2.2.1)) ?_;refine hp_ 10 [3,3,3,3,3] (iw ((onext S k).2.2.2)) ?_;refine h_stepS 13 ?_;refine s_store 2 (vc ((onext S k).1)) ?_;refine nH [3,3,3,3,3]<|h_stepS 14 ?_
   refine s_store 1 (vc ((onext S k).2.1)) ?_;refine nH [3,3,3,3,3]<|hp_ 15 [3,3,3,3,3] (.bool ((onext S k).2.2.1)) ?_
   refine hp_ 16 [3,3,3,3,3] (iw ((onext S k).2.2.2)) ?_;refine h_doneS ?_;exact xcut (g56,g58) (rr [2,1,1,1,0,0,0,0] [])
  refine s_alloc (.agg zc) zc (fun g59=>?_);refine nH [1,1,2,2,2]<|h_stepS2 5 11 ?_ ?_
  .refine sC [3] (omnext_s (S:=S) ol k) ?_;refine nH [2,2,2,2,2]<|hp_ 6 [2,2,2,2,2] (.tuple #[.agg (vc ((onext S k).1)),.agg (vc ((onext S k).2.1)),.bool ((onext S k).2.2.1),iw ((onext S k).2.2.2)]) ?_
   refine hp_ 7 [2,2,2,2,2] (.agg (vc ((onext S k).1))) ?_;refine hp_ 8 [2,2,2,2,2] (.agg (vc ((onext S k).2.1))) ?_;refine hp_ 9 [2,2,2,2,2] (.bool ((onext S k).2.2.1)) ?_;refine hp_ 10 [2,2,2,2,2] (iw ((onext S k).2.2.2)) ?_;refine h_stepS 11 ?_;refine s_alloc (.agg zc) zc (fun g60=>?_);refine nH [3,3,3,3,3]<|h_stepS 13 ?_
   refine s_store 0 (vc ((onext S k).1)) ?_;refine nH [3,3,3,3,3]<|h_stepS 14 ?_
   refine s_store 2 (vc ((onext S k).2.1)) ?_;refine nH [3,3,3,3,3]<|hp_ 15 [3,3,3,3,3] (.bool ((onext S k).2.2.1)) ?_
   refine hp_ 16 [3,3,3,3,3] (iw ((onext S k).2.2.2)) ?_;refine h_doneS ?_;exact xcut (g60,g59) (rr [0,1,1,1,0,0,0,0] [])
  refine s_alloc (.agg zc) zc (fun g61=>?_);refine nH [2,2,3,3,3]<|h_stepS 5 ?_
  refine sC [4] (omnext_s (S:=S) ol k) ?_;refine nH [3,3,3,3,3]<|hp_ 6 [3,3,3,3,3] (.tuple #[.agg (vc ((onext S k).1)),.agg (vc ((onext S k).2.1)),.bool ((onext S k).2.2.1),iw ((onext S k).2.2.2)]) ?_
  refine hp_ 7 [3,3,3,3,3] (.agg (vc ((onext S k).1))) ?_;refine hp_ 8 [3,3,3,3,3] (.agg (vc ((onext S k).2.1))) ?_;refine hp_ 9 [3,3,3,3,3] (.bool ((onext S k).2.2.1)) ?_;refine hp_ 10 [3,3,3,3,3] (iw ((onext S k).2.2.2)) ?_;refine h_stepS 13 ?_;refine s_store 1 (vc ((onext S k).1)) ?_;refine nH [3,3,3,3,3]<|h_stepS 14 ?_
  refine s_store 2 (vc ((onext S k).2.1)) ?_;refine nH [3,3,3,3,3]<|hp_ 15 [3,3,3,3,3] (.bool ((onext S k).2.2.1)) ?_
  refine hp_ 16 [3,3,3,3,3] (iw ((onext S k).2.2.2)) ?_;refine h_doneS ?_;exact xcut (g61,g59) (rr [1,1,1,1,0,0,0,0] [])
 obtain⟨jb10,jb11⟩:=ix;show SK _ _ _ _ _ [(0,pB b 0),(4,pB g2 0),(5,pB g3 0),(8,iw k.p),(9,.bool false),(10,pB jb10 0),(11,pB jb11 0),(12,.bool ((onext S k).2.2.1)),(13,iw ((onext S k).2.2.2))] _ (blkA jb10 (vc ((onext S k).1)) 71::blkA jb11 (vc ((onext S k).2.1)) 71::blkA b #[lv50,pB r51 0] 185::own VlT lv50 L::omA r51 S::blkA g3 zc 71::blkA g2 zc 71::blkA g1 (vc k) 71::F);refine k_seq<|k_block<|k_sr<|sP (iw ((onext S k).2.2.2))<|sL t_cmp<|sP (.bool (decide ((onext S k).2.2.2=0)))<|s_nt<|k_cond (decide ((onext S k).2.2.2=0)) (fun c62=>?_) (fun c62=>?_)
 .have p63:=dY c62;refine k_seq<|k_held [blkA jb10 (vc ((onext S k).1)) 71,blkA jb11 (vc ((onext S k).2.1)) 71,blkA b #[lv50,pB r51 0] 185,own VlT lv50 L,blkA g1 (vc k) 71] ?_
  refine h_l 0 rfl [0,0,0,0,3] (fun _=>(t_loadA 0 (vc ((onext S k).1)))) ?_;refine h_l 1 rfl [0,0,0,0,3] (fun _=>(t_loadA 1 (vc ((onext S k).2.1)))) ?_;refine hp_ 2 [0,0,0,0,3] (.bool ((onext S k).2.2.1)) ?_;refine hp_ 3 [0,0,0,0,3] (iw ((onext S k).2.2.2)) ?_;refine h_stepS 4 ?_;refine s_store 6 (vc ((onext S k).1)) ?_;refine nH [0,0,0,0,3]<|h_stepS 5 ?_
  refine s_store 5 (vc ((onext S k).2.1)) ?_;refine nH [0,0,0,0,3]<|hp_ 6 [0,0,0,0,3] (.bool ((onext S k).2.2.1)) ?_
  refine hp_ 7 [0,0,0,0,3] (iw ((onext S k).2.2.2)) ?_;refine h_doneS ?_;refine xs_then<|k_ret<|xs_retBlock<|xs_ret<|xs_mem (fun _ h=>tb_shut (h.re [2,2,2] [])) ?_
  have hz:k≠zVl:=dF c4;have hr:¬(1≤whole k∧whole k≤((⟨L,S⟩:Tb).list.length:Int)):=by show ¬(_∧_≤(L.length:Int));omega
  have hp:tnext ⟨L,S⟩ k=onext S k:=tnext_rest hz hr (dY c62);refine xs_fin [.agg (vc ((onext S k).1)),.agg (vc ((onext S k).2.1)),.bool ((onext S k).2.2.1),iw ((onext S k).2.2.2)] (tbA b L S::F) (SI.agg 4 71 4 (SI.agg 5 71 3 (SI.tmp 6 (SI.tmp 7 SI.nil)))) (rr [0] [1,1,1,1,1]) ⟨?_,rfl⟩;rw[hp];rfl
 have p64:=dF c62;refine k_sr<|sP2 (.bool false)<|sK<|sK<|sP2 (.bool false)<|s_nt<|k_false<|k_skip<|xs_block<|xs_then<|k_sr<|sL (t_kern (.agg zc))<|sL (t_kern (.agg zc))<|s_store 6 zc ?_
 refine s_store 5 zc ?_;refine sP (.bool false)<|sP (iw 13)<|s_nt<|k_ret<|xs_mem (fun _ h=>tb_shut (h.re [2,2,2] [])) ?_
 have hz:k≠zVl:=dF c4;have hr:¬(1≤whole k∧whole k≤((⟨L,S⟩:Tb).list.length:Int)):=by show ¬(_∧_≤(L.length:Int));omega
 have hp:tnext ⟨L,S⟩ k=(zVl,zVl,false,13):=tnext_bad hz hr (dF c62) om;refine xs_fin [.agg zc,.agg zc,.bool false,iw 13] (tbA b L S::F) (SI.agg 4 71 4 (SI.agg 5 71 3 (SI.tmp 6 (SI.tmp 7 SI.nil)))) (rr [0] [1,1,1,1,1]) ⟨?_,rfl⟩;rw[hp];rfl
theorem tbsize_s{Z:Zone}{F:List Asr}{b:Nat}{L:List Vl}{S:List Slt}(hl:L.length≤100000)(hs:S.length≤100000):SF Tryz.prog 168 #[.pointer (some ⟨b,0,none⟩)] Z (tbA b L S::F) fun r Bs=>r=iw (tabSize ⟨L,S⟩)∧Bs=tbA b L S::F:=by
 refine sf_enter Tryz.func168 19 [(0,pB b 0)] (fun w0=>?_);refine k_sr<|sP (iw 0)<|s_nt<|k_seq<|k_sr<|sP (pB b 0)<|sP (.bool false)<|s_nt<|k_false<|k_st<|k_seq<|k_mem2 (fun H h=>tb_open (h.re [0] [])) (fun lv1 r2 hw=>?_)
 refine k_held [blkA b #[lv1,pB r2 0] 185,own VlT lv1 L] ?_;refine hp_ 0 [0,0] (pB b 0) ?_;refine hp_ 1 [0,0] (pB b 0) ?_;refine hp_ 2 [0,0] (pB b 0) ?_;refine h_l 3 rfl [0,0] (fun _=>(t_load 0 lv1)) ?_;refine h_l 4 rfl [0,0] (fun _=>(t_len VlT_ok Tryz.underlying28 (.own 1))) ?_;refine h_l 5 rfl [0,0] (fun _=>(t_mul 2 (L.length:Int) ol)) ?_;refine h_l 6 rfl [0,0] (fun _=>(t_add 4 (2*(L.length:Int)) ol)) ?_;refine hp_ 7 [0,0] (pB b 0) ?_;refine hp_ 8 [0,0] (pB b 0) ?_;refine hp_ 9 [0,0] (pB b 1) ?_;refine h_l 10 rfl [0,0] (fun _=>(t_load 0 (pB r2 0))) ?_;refine h_stepS 11 ?_;refine sC [2] (omslots_s (S:=S)) ?_;refine nH [1,1]<|h_l 12 rfl [1,1] (fun _=>(t_mul 4 (S.length:Int) ol)) ?_
 refine h_l 13 rfl [1,1] (fun _=>(t_add (4+(2*(L.length:Int))) (4*(S.length:Int)) ol)) ?_;refine hp_ 14 [1,1] (iw ((4+(2*(L.length:Int)))+(4*(S.length:Int)))) ?_;refine h_doneS ?_;refine xs_then<|k_ret<|xs_mem (fun _ h=>tb_shut (h.re [1,1,0] [])) ?_
 refine xs_fin _ _ (SI.tmp 2 SI.nil) (rr [0] []) ⟨?_,rfl⟩;rfl
end Go.Proofs.YtmhpcebiamkciaaGreat
end
section
set_option linter.unusedSimpArgs false
set_option linter.unusedVariables false
namespace Go.Proofs.YtmhpcebiamkciaaGreat
section
variable{st st':Hst}{v k t m:Vl}{o:Hob}
theorem count_le(st:Hst):st.count≤st.objs.length:=List.countP_le_length
end
end Go.Proofs.YtmhpcebiamkciaaGreat
end
section
set_option linter.unusedSimpArgs false
set_option linter.unusedVariables false
namespace Go.Proofs.YtmhpcebiamkciaaGreat
def Hst.upd(st:Hst)(id:Int)(f:Hob→Hob):Hst:=match st.get id with
 | some o=>st.put id (f o)
 | none=>st
def hnext(st:Hst)(t k:Vl):Vl×Vl×Bool×Int:=match htab st t with
 | some T=>tnext T k
 | none=>(zVl,zVl,false,8)
def hrem(st:Hst)(t:Vl)(p:Int):Hst:=match htab st t with
 | none=>st
 | some T=>if tremE T p≠0 then st else (st.setTab t.ref (trem T p)).touch t.ref
def halive(st:Hst)(id:Int):Bool:=(st.get id).isSome
def hdropE(st:Hst)(id:Int):Int:=if halive st id=true then 0 else 19
def hdrop(st:Hst)(id:Int):Hst:=if halive st id=true then { st with objs:=st.objs.set (id.toNat-1) none } else st
def hids(st:Hst):List Int:=((List.range st.objs.length).map fun i:Nat=>(i:Int)+1).filter fun id=>halive st id
def idn(v:Vl):Int:=if isRef v.kind=true then v.ref else 0
def refsOf(o:Hob):List Int:=((o.mt::o.vals).map idn).filter fun i=>decide (i≠0)
def obSize(o:Hob):Int:=if o.kind=4 then 8+tabSize o.tab else if o.kind=5 then 8+(o.vals.length:Int) else if o.kind=7 then 16+(o.vals.length:Int) else 12
/-! ### What an object is, further -/
structure ObW(o:Hob):Prop where
 tw:TW o.tab
 vals:∀v∈o.vals,validB v=true
 mt:isRef o.mt.kind=true→1≤o.mt.ref
 data:o.kind=8→o.vals.length=16
def HW(st:Hst):Prop:=∀o,some o∈st.objs→ObW o
theorem HW.nil:HW hp0:=fun _ h=>by cases h
section
variable{st:Hst}{v t k x:Vl}{id p i:Int}{o o':Hob}{n:Nat}{l:List Vl}
theorem HW.put(h:HW st)(ho:ObW o'):HW (st.put id o'):=fun x hx=>by
 rcases mem_put hx with hx|rfl
 .exact h x hx
 exact ho
theorem HW.touch(h:HW st)(id:Int):HW (st.touch id):=h
theorem HW.of(h:HW st)(hg:st.get id=some o):ObW o:=h o (get_mem hg).1
theorem HW.make(h:HW st)(ho:ObW o):HW (hmake st o):=by
 unfold hmake;split
 .exact h
 intro x hx;rcases List.mem_append.1 hx with hx|hx
 .exact h x hx
 rw[List.mem_singleton]at hx;injection hx with hx;rw[hx];exact ho
theorem newO_w(kind tag:Int)(name:ByteArray){vals:List Vl}(hv:∀v∈vals,validB v=true)(h8:kind=8→vals.length=16):ObW (newO kind tag name vals):=⟨TW.nil,hv,fun h=>(by cases h),h8⟩
theorem data_w(name:ByteArray):ObW (newO 8 0 name (List.replicate 16 zVl)):=newO_w _ _ _ (fun v hv=>by rw[(List.mem_replicate.1 hv).2];decide) fun _=>by simp
theorem HW.set(hi:HInv st)(h:HW st)(t k v:Vl):HW (hset st t k v):=by
 rcases hset_cases st t k v with ⟨_,e,_⟩|⟨_,_,_,e,_⟩|⟨_,_,_,_,e,_⟩|⟨T,o,h1,h2,h3,hv,h4,h5,h6,h7,e,_⟩
 .rw [e];exact h
 .rw [e];exact h
 .rw [e];exact h
 rw[e];have ho:=h.of h4;have hob:=hi.obs o (get_mem h4).1;refine HW.touch (HW.put h (o':={ o with tab:=tset T k v }) ⟨?_,ho.vals,ho.mt,ho.data⟩) _;rw[←h7];exact tset_tw hob.tab ho.tw k v
/-! ### Inserting and removing -/
theorem put_len'{st:Hst}{id:Int}{o:Hob}:(st.put id o).objs.length=st.objs.length:=by unfold Hst.put;simp
/-! ### Values of objects -/
theorem setMeta_w(h:HW st)(v m:Vl):HW (hsetMeta st v m):=by
 rcases hsetMeta_cases st v m with ⟨e,_⟩|⟨o,h1,_,h2,e,_,hb⟩
 .rw [e];exact h
 rw[e];have ho:=h.of h1;refine HW.touch (HW.put h (o':={ o with mt:=m }) ⟨ho.tw,ho.vals,fun hr=>?_,ho.data⟩) _;have hm:m=zVl∨(htab st m).isSome=true:=by
  unfold hmetaOk at hb;cases hf:hfind st v with
  | none=>rw[hf]at hb;cases hb
  | some x=>
   rw[hf]at hb;simp only[Bool.and_eq_true,Bool.or_eq_true,decide_eq_true_eq]at hb;exact hb.2
 rcases hm with rfl|hm
 .cases hr
 cases hT:htab st m with
 | none=>rw[hT]at hm;cases hm
 | some T=>
  obtain⟨x,_,hx,_⟩:=htab_some hT;exact (get_mem hx).2.1
/-! ### Dropping -/
theorem drop_cases(st:Hst)(id:Int):(hdrop st id=st∧hdropE st id=19∧st.get id=none)∨∃o,st.get id=some o∧hdropE st id=0∧hdrop st id={ st with objs:=st.objs.set (id.toNat-1) none }:=by
 unfold hdrop hdropE halive;cases hg:st.get id with
 | none=>exact .inl ⟨rfl,rfl,rfl⟩
 | some o=>exact .inr ⟨o,rfl,rfl,rfl⟩
theorem get_drop(st:Hst)(id id':Int):(hdrop st id).get id'=if id'=id then none else st.get id':=by
 rcases drop_cases st id with ⟨e,_,hn⟩|⟨o,hg,_,e⟩
 .rw [e];by_cases h:id'=id
  .rw [if_pos h,h,hn]
  rw[if_neg h]
 obtain⟨_,h1,h2,h3⟩:=get_mem hg;rw[e];unfold Hst.get;by_cases h:id'=id
 .subst h;rw[if_pos h1,if_pos rfl,List.getElem?_set_self (by omega)];rfl
 rw[if_neg h];by_cases hp:1≤id'
 .rw [if_pos hp,if_pos hp,List.getElem?_set_ne (by omega)]
 rw[if_neg hp,if_neg hp]
theorem mem_drop(h:some o∈(hdrop st id).objs):some o∈st.objs:=by
 rcases drop_cases st id with ⟨e,_⟩|⟨_,_,_,e⟩
 .rw [e]at h;exact h
 rw[e]at h;rcases List.mem_or_eq_of_mem_set h with h|h
 .exact h
 cases h
theorem drop_len:(hdrop st id).objs.length=st.objs.length∧(hdrop st id).tch=st.tch:=by
 rcases drop_cases st id with ⟨e,_⟩|⟨_,_,_,e⟩
 .rw [e];exact⟨rfl,rfl⟩
 rw[e];exact⟨by simp,rfl⟩
theorem drop_inv(h:HInv st)(id:Int):HInv (hdrop st id):=⟨fun o ho=>h.obs o (mem_drop ho),by rw[drop_len.1,drop_len.2];exact h.tch⟩
theorem drop_w(h:HW st)(id:Int):HW (hdrop st id):=fun o ho=>h o (mem_drop ho)
end
/-! ### Answers, by cases -/
section
variable{st:Hst}{v x:Vl}{i:Int}{o:Hob}{l:List Vl}
end
end Go.Proofs.YtmhpcebiamkciaaGreat
end
section
set_option linter.unusedSimpArgs false
set_option linter.unusedVariables false
namespace Go.S
open Go.Hp Go.J Go.RowKit
open Go.Mem (Ty KTy blk aggDesc)
section
variable{P:Program}
def srt(L:List Int):List Int:=L.mergeSort fun x y=>decide (x≤y)
theorem srt_len(L:List Int):(srt L).length=L.length:=List.length_mergeSort _
theorem get_putCells(L:List Int)(arr:Array Value)(h:L.length≤arr.size):(Sort.putCells (Value.int .i64) 0 L.toArray arr).toList.take L.length=L.map fun n=>Value.int .i64 n:=by
 apply List.ext_getElem?;intro k;by_cases hk:k<L.length
 .rw [List.getElem?_take,if_pos hk,Array.getElem?_toList];unfold Sort.putCells;rw[Array.getElem?_mapIdx,Array.getElem?_eq_getElem (by omega)];simp[hk]
 rw[List.getElem?_eq_none (by simp;omega),List.getElem?_eq_none (by simp;omega)]
theorem sf_sort{f:FuncId}{e:TypeId}{Z:Zone}{F:List Asr}{v:Value}{L:List Int}(hl:L.length<4611686018427387904)
  (hs:∀(b off cap:Nat) (zs:List Int) (w:World),Sort.Holds (Value.int .i64) w b off zs.toArray→b<w.heap.size→zs.length<4611686018427387904→Calls P f #[.slice (some ⟨b,off,none⟩) zs.length cap] w fun e w'=>e=.returned (.tuple #[])∧∃n os,w'=Sort.grow (Sort.putRow (Value.int .i64) (Sort.ahead w n) b off (zs.mergeSort fun x y=>decide (x≤y)).toArray) os)
  (h0:∀(p:Option Addr) (cap:Nat) (w:World),Calls P f #[.slice p 0 cap] w fun e w'=>e=.returned (.tuple #[])∧w'=w):
  SF P f #[v] Z (own (iT e) v L::F) fun r Bs=>r=.tuple #[]∧Bs=own (iT e) v (srt L)::F:=
 sf_of (A:=own (iT e) v L) (A':=own (iT e) v (srt L)) fun H S ⟨ow,hS⟩=>by
  rcases ow with ⟨rfl,rfl⟩|⟨g,cap,arr,rfl,h1,h2,h3,h4,h5⟩
  .intro w hw;refine (h0 none 0 w).mono fun e' w' ⟨he,hw'⟩=>⟨_,he,?_,rfl,S,⟨?_,hS⟩,?_,fun k hk=>.inl hk⟩
   .subst hw';exact At.self _
   .exact .inl ⟨rfl,by simp[srt]⟩
   subst hw';rw[hw];exact Chg.refl _ _
  intro w hw;have h4':L.length≤arr.size:=by have:(iT e).size=1:=rfl;rw[this]at h4;omega
  have h5':arr.toList.take L.length=L.map fun n=>Value.int .i64 n:=by have:=h5;rw[flat_int,show (iT e).size=1 from rfl,Nat.mul_one]at this;exact this
  have hH:Sort.Holds (Value.int .i64) w g 0 L.toArray:=fun j hj=>by
   have hj':j<L.length:=by simpa using hj
   have hg:w.heap[g]?=some (.cells arr e (0,0)):=by rw[hw];exact h1
   constructor
   .have:=cell_of_row w g (0+j) arr e (0,0) hg;rw[this];have h6:=congrArg (·[j]?) h5';simp only[List.getElem?_take,if_pos hj',List.getElem?_map]at h6;rw[Array.getElem?_toList]at h6;rw[Nat.zero_add,h6];simp[hj']
   unfold World.frozen?;simp[hg]
  refine (hs g 0 cap L w hH (by rw[hw];exact lt_of_some h1) hl).mono fun e' w' ⟨he,n,os,hw'⟩=>⟨_,he,?_,rfl,S,⟨?_,hS⟩,?_,fun k hk=>.inl hk⟩
  .subst hw';exact⟨rfl,rfl,rfl,rfl⟩
  .have hg:w'.heap[g]?=some (.cells (Sort.putCells (Value.int .i64) 0 (srt L).toArray arr) e (0,0)):=by
    subst hw';have hg:w.heap[g]?=some (.cells arr e (0,0)):=by rw[hw];exact h1
    show (((w.heap.modify g (Sort.onCells (Sort.putCells (Value.int .i64) 0 (srt L).toArray)))++os)[g]?)=_;rw[Array.getElem?_append_left (by rw[Array.size_modify];exact lt_of_some hg),Array.getElem?_modify,if_pos rfl,hg];rfl
   refine .inr ⟨g,cap,_,by rw[srt_len],hg,by rw[srt_len];exact h2,h3,?_,?_⟩
   .have:(Sort.putCells (Value.int .i64) 0 (srt L).toArray arr).size=arr.size:=by simp[Sort.putCells]
    rw[this];exact h4
   rw[show (iT e).size=1 from rfl,Nat.mul_one,flat_int];exact get_putCells (srt L) arr (by rw[srt_len];exact h4')
  subst hw';rw[←hw];refine⟨?_,fun k hk hn=>?_⟩
  .show w.heap.size≤((w.heap.modify g _)++os).size;simp
  show (((w.heap.modify g (Sort.onCells (Sort.putCells (Value.int .i64) 0 (srt L).toArray)))++os)[k]?)=_;rw[Array.getElem?_append_left (by rw[Array.size_modify];exact hk),Array.getElem?_modify,if_neg];intro e1;exact hn ((hS k).2 (by rw[←e1];rfl))
theorem sf_find{f:FuncId}{e:TypeId}{Z:Zone}{v:Value}{L:List Int}(x:Int)(hk:Kn Z (iT e) v L)(hl:L.length<4611686018427387904)(hp:L.Pairwise (· ≤ ·))
  (hs:∀(b off n c:Nat) (zs:List Int) (x:Int) (w:World),n≤zs.length→n<4611686018427387904→(∀j,j<zs.length→w.cell? ⟨b,off+j,none⟩=some (.int .i64 (zs.getD j 0)))→(zs.take n).Pairwise (· ≤ ·)→Calls P f #[.slice (some ⟨b,off,none⟩) n c,.int .i64 x] w fun e w'=>e=.returned (.tuple #[.int .i64 ((zs.take n).countP (· < x):Nat),.bool ((zs.take n).contains x)])∧∃q,w'=w.drewN q)
  (h0:∀(a:Option Addr) (c:Nat) (x:Int) (w:World),Calls P f #[.slice a 0 c,.int .i64 x] w fun e w'=>e=.returned (.tuple #[.int .i64 0,.bool false])∧w'=w):
  SF P f #[v,.int .i64 x] Z [] fun r Bs=>r=.tuple #[.int .i64 (L.countP (· < x):Nat),.bool (decide (x∈L))]∧Bs=[]:=
 sf_val fun H hH w hw=>by
  have sl:=hk.get hH;rcases sl with ⟨⟨p,rfl⟩,rfl⟩|⟨g,off,cap,arr,e',fr,rfl,h1,h2,h3,h4,h5⟩
  .refine (h0 p 0 x w).mono fun e' w' ⟨he,hw'⟩=>⟨_,he,?_,rfl,?_⟩
   .subst hw';exact At.self _
   subst hw';rw[hw];exact Chg.refl _ _
  have h5':(arr.toList.drop off).take L.length=L.map fun n=>Value.int .i64 n:=by have:=h5;rw[flat_int,show (iT e).size=1 from rfl,Nat.mul_one]at this;exact this
  have hg:w.heap[g]?=some (.cells arr e' fr):=by rw[hw];exact h1
  refine (hs g off L.length cap L x w (Nat.le_refl _) hl (fun j hj=>?_) (by rw[List.take_length];exact hp)).mono fun e' w' ⟨he,q,hw'⟩=>⟨_,he,?_,?_,?_⟩
  .rw [cell_of_row w g (off+j) arr e' fr hg];have h6:=congrArg (·[j]?) h5';simp only[List.getElem?_take,if_pos hj,List.getElem?_map,List.getElem?_drop]at h6;rw[Array.getElem?_toList]at h6;rw[h6];simp[hj,List.getD_eq_getElem?_getD]
  .subst hw';exact⟨rfl,rfl,rfl,rfl⟩
  .rw [List.take_length];congr 4;simp
  subst hw';rw[←hw];exact Chg.refl _ _
end
end Go.S
end
section
set_option linter.unusedSimpArgs false
set_option linter.unusedVariables false
namespace Go.Proofs.YtmhpcebiamkciaaGreat
open Go.S Go.J Go.Hp
open Go.Mem (aget aset adel apos aget_aset aget_adel)
section
variable{ps:List (Int×(Nat×Nat))}{st:Hst}{id:Int}{o:Hob}{tm:List (Int×Bool)}
theorem countP_unset{α:Type}{p:α→Bool}:∀(l:List α) {i:Nat}{x y:α},l[i]?=some x→p x=true→p y=false→(l.set i y).countP p+1=l.countP p
 | [],_,_,_,h,_,_=>by cases h
 | a::r,0,x,y,h,e,f=>by
  simp only[List.getElem?_cons_zero,Option.some.injEq]at h;subst h;simp[List.countP_cons,e,f]
 | a::r,i+1,x,y,h,e,f=>by
  simp only[List.getElem?_cons_succ]at h;have:=countP_unset r h e f;simp only[List.set_cons_succ,List.countP_cons];omega
theorem count_drop(hg:st.get id=some o):(hdrop st id).count+1=st.count:=by
 obtain⟨_,h1,h2,h3⟩:=get_mem hg;rcases drop_cases st id with ⟨_,_,hn⟩|⟨_,_,_,e⟩
 .rw [hg]at hn;cases hn
 rw[e];exact countP_unset st.objs h3 rfl rfl
theorem aget_some_mem{κ β:Type}[DecidableEq κ]{m:List (κ×β)}{k:κ}{u:β}(h:aget m k=some u):∃i,apos m k=some i:=by
 cases hp:apos m k with
 | none=>rw[Go.Mem.apos_none hp]at h;cases h
 | some i=>exact⟨i,rfl⟩
theorem adel_len{κ β:Type}[DecidableEq κ]{m:List (κ×β)}{k:κ}{u:β}(h:aget m k=some u):(adel m k).length+1=m.length:=by
 obtain⟨i,hp⟩:=aget_some_mem h;rw[Go.Mem.adel_pos hp];have:=(Go.Mem.apos_lt hp).1;rw[List.length_eraseIdx_of_lt this];omega
theorem HA.drop(h:HA ps st)(hnd:(ps.map Prod.fst).Nodup){q:Nat×Nat}(hq:aget ps id=some q)(hg:st.get id=some o):HA (adel ps id) (hdrop st id):=by
 refine⟨fun id'=>?_,?_⟩
 .rw [aget_adel hnd,get_drop];by_cases e:id'=id
  .subst e;simp
  rw[if_neg e,if_neg e];exact h.has id'
 have h1:=adel_len hq;have h2:=count_drop hg;have:=h.len;omega
theorem TA.drop(h:TA tm st)(id:Int):TA tm (hdrop st id):=fun id' x hx=>by
 rw[get_drop]at hx;by_cases e:id'=id
 .rw [if_pos e]at hx;cases hx
 rw[if_neg e]at hx;rw[drop_len.2];exact h id' x hx
/-! ### Identities -/
theorem halive_iff:halive st id=true↔∃o,st.get id=some o:=by
 unfold halive;rw[Option.isSome_iff_exists]
theorem mem_hids:id∈hids st↔halive st id=true:=by
 unfold hids;rw[List.mem_filter,List.mem_map];constructor
 .exact fun h=>h.2
 intro h;obtain⟨o,ho⟩:=halive_iff.1 h;obtain⟨_,h1,h2,_⟩:=get_mem ho;exact⟨⟨id.toNat-1,List.mem_range.2 (by omega),by omega⟩,h⟩
theorem hids_asc(st:Hst):(hids st).Pairwise (· < ·):=by
 unfold hids;refine List.Pairwise.filter _ (List.Pairwise.map _ (fun a b hab=>?_) List.pairwise_lt_range);show (a:Int)+1<(b:Int)+1;omega
theorem srt_perm'{A B:List Int}(h:A.Perm B):srt A=srt B:=by
 unfold srt;refine List.Perm.eq_of_pairwise (le:=fun x y:Int=>decide (x≤y)) ?_ (List.pairwise_mergeSort (by simp;omega) (by simp;omega) A) (List.pairwise_mergeSort (by simp;omega) (by simp;omega) B) ((List.mergeSort_perm A _).trans (h.trans (List.mergeSort_perm B _).symm));intro a b _ _ h1 h2;simp at h1 h2;omega
theorem srt_asc'{A:List Int}(h:A.Pairwise (· < ·)):srt A=A:=List.mergeSort_of_pairwise (h.imp fun h=>by simp;omega)
theorem perm_of_mem{A B:List Int}(ha:A.Nodup)(hb:B.Nodup)(h:∀x,x∈A↔x∈B):A.Perm B:=(List.perm_ext_iff_of_nodup ha hb).2 h
theorem asc_nodup{A:List Int}(h:A.Pairwise (· < ·)):A.Nodup:=h.imp fun h=>by omega
theorem mem_keys(h:HA ps st):id∈ps.map Prod.fst↔halive st id=true:=by
 have h1:=Go.Mem.aget_none_iff ps id;unfold halive;rw[←h.has id];cases hq:aget ps id with
 | none=>simp[h1.1 hq]
 | some q=>
  simp only[Option.isSome_some,iff_true];apply Decidable.byContradiction;intro hc;rw[h1.2 hc]at hq;cases hq
theorem keys_perm(h:HA ps st)(hnd:(ps.map Prod.fst).Nodup):(ps.map Prod.fst).Perm (hids st):=perm_of_mem hnd (asc_nodup (hids_asc st)) fun x=>(mem_keys h).trans mem_hids.symm
theorem keys_srt(h:HA ps st)(hnd:(ps.map Prod.fst).Nodup):srt (ps.map Prod.fst)=hids st:=by rw[srt_perm' (keys_perm h hnd),srt_asc' (hids_asc st)]
theorem hids_len(st:Hst):(hids st).length≤st.objs.length:=by
 unfold hids;refine Nat.le_trans (List.length_filter_le _ _) ?_;simp
end
end Go.Proofs.YtmhpcebiamkciaaGreat
end
section
set_option linter.unusedSimpArgs false
set_option linter.unusedVariables false
set_option maxRecDepth 100000
set_option maxHeartbeats 2000000
namespace Go.Proofs.YtmhpcebiamkciaaGreat
open Go.Hp Go.J Go.S
open Go.Mem (Ty KTy blk elemAt pre suf blk_pre blk_suf aget aset strK aggDesc)
open Go.Mem (adel apos aget_aset aget_adel)
section
variable{Z:Zone}{F:List Asr}{H:Heap}{b:Nat}{st:Hst}{ps:List (Int×(Nat×Nat))}{id:Int}{q:Nat×Nat}{o:Hob}
theorem hnext_none{t k:Vl}(h:htab st t=none):hnext st t k=(zVl,zVl,false,8):=by unfold hnext;rw[h]
theorem hnext_some{t k:Vl}{T:Tb}(h:htab st t=some T):hnext st t k=tnext T k:=by unfold hnext;rw[h]
theorem all_drop(hnd:(ps.map Prod.fst).Nodup)(hq:aget ps id=some q)(ho:st.get id=some o)(h:Holds Z (allP ps st::F) H):Holds Z (allP (adel ps id) (hdrop st id)::F) H:=by
 obtain⟨v,_,h⟩:=all_focus hq ho h;have e:holeP ps st id=allP (adel ps id) (hdrop st id):=by
  unfold holeP allP;congr 1;refine List.map_congr_left fun p hp=>?_
  have hne:p.1≠id:=fun e=>by
   have h1:aget (adel ps id) id=none:=by rw[aget_adel hnd,if_pos rfl]
   exact (Go.Mem.aget_none_iff (adel ps id) id).1 h1 (List.mem_map.2 ⟨p,hp,e⟩)
  show obP p.2 (st.ob p.1)=obP p.2 ((hdrop st id).ob p.1);unfold Hst.ob;rw[get_drop,if_neg hne]
 rw[←e];exact h.re [3] [1,1,1]
end
theorem hnext_s{Z:Zone}{F:List Asr}{b:Nat}{st:Hst}{n:Nat}(hsm:HSm n st)(hn:n≤300)(t k:Vl):SF Tryz.prog 118 #[.pointer (some ⟨b,0,none⟩),t.v,k.v] Z (hpA b st::F) fun r Bs=>r=nextV (hnext st t k)∧Bs=hpA b st::F:=by
 refine sf_enter Tryz.func118 27 [(0,pB b 0),(1,.agg (vc t)),(2,.agg (vc k))] (fun w0=>?_);refine k_sr<|s_box (vc t) (fun g1=>?_)
 refine s_box (vc k) (fun g2=>?_);refine s_alloc (.agg zc) zc (fun g3=>?_);refine s_alloc (.agg zc) zc (fun g4=>?_);refine sP (.bool false)<|sP (iw 0)<|s_nr<|sP (pB b 0)<|sL (t_loadA 3 (vc t))<|s_memX (fun H h=>hpA_open (h.re [4] [])) (fun ps5 _=>?_)
 refine s_fact (fun H h=>hp_facts (h.re [0] [])) (fun hf6=>?_);obtain⟨hi7,ha8⟩:=hf6;refine s_call [0] (htab_s (st:=st) (ps:=ps5) t) ?_;rintro u9 _ ⟨e10,rfl⟩;rcases tb_cases ha8 t with ⟨ht11,hv12⟩|⟨o13,q14,ht15,ho16,hk17,hk18,hq19,hv20⟩
 .rw [hv12]at e10;subst e10;refine sP (.pointer none)<|s_nt<|k_seq<|k_sr<|sP (.pointer none)<|sP (.bool true)<|s_nt<|k_true<|k_sr<|sL (t_kern (.agg zc))<|sL (t_kern (.agg zc))<|sP (pB b 0)<|sV (fun _ h=>hmiss_s (F:=[]))<|s_store 2 zc ?_
  refine s_store 1 zc ?_;refine sP (.bool false)<|sP (iw 8)<|s_nt<|k_ret<|xs_ret<|xs_mem (fun _ h=>hpA_shut (h.re [0] [])) ?_
  refine xs_fin [.agg zc,.agg zc,.bool false,iw 8] (hpA b st::F) (SI.agg 6 71 2 (SI.agg 7 71 1 (SI.tmp 8 (SI.tmp 9 SI.nil)))) (rr [0] [1,1,1,1]) ⟨?_,?_⟩
  .rw [hnext_none ht11];rfl
  rfl
 rw[hv20]at e10;subst e10;refine sP (pB q14.2 0)<|s_nt<|k_seq<|k_sr<|sP (pB q14.2 0)<|sP (.bool false)<|s_nt<|k_false<|k_st<|k_sr<|sP (pB q14.2 0)<|sL (t_loadA 3 (vc k))<|s_mem (fun _ h=>tab_out hq19 ho16 hk17 (h.re [0] [])) ?_
 obtain⟨hl21,hl212,_⟩:=hsm.obs o13 (get_mem ho16).1;have hl213:n*(n+1)≤300*301:=Nat.mul_le_mul om om;refine sC [0] (tbnext_s (L:=o13.tab.list) (S:=o13.tab.rest) ol ol k) ?_;refine sP (.agg (vc ((tnext ⟨o13.tab.list,o13.tab.rest⟩ k).1)))<|sP (.agg (vc ((tnext ⟨o13.tab.list,o13.tab.rest⟩ k).2.1)))<|sP (.bool ((tnext ⟨o13.tab.list,o13.tab.rest⟩ k).2.2.1))<|sP (iw ((tnext ⟨o13.tab.list,o13.tab.rest⟩ k).2.2.2))<|s_store 3 (vc ((tnext ⟨o13.tab.list,o13.tab.rest⟩ k).1)) ?_
 refine s_store 2 (vc ((tnext ⟨o13.tab.list,o13.tab.rest⟩ k).2.1)) ?_;refine sP (.bool ((tnext ⟨o13.tab.list,o13.tab.rest⟩ k).2.2.1))<|sP (iw ((tnext ⟨o13.tab.list,o13.tab.rest⟩ k).2.2.2))<|s_nt<|k_ret<|xs_mem (fun _ h=>tab_back hq19 ho16 hk17 (h.re [0,0] [])) ?_
 refine xs_mem (fun _ h=>hpA_shut (h.re [0] [])) ?_;refine xs_fin [.agg (vc ((tnext ⟨o13.tab.list,o13.tab.rest⟩ k).1)),.agg (vc ((tnext ⟨o13.tab.list,o13.tab.rest⟩ k).2.1)),.bool ((tnext ⟨o13.tab.list,o13.tab.rest⟩ k).2.2.1),iw ((tnext ⟨o13.tab.list,o13.tab.rest⟩ k).2.2.2)] (hpA b st::F) (SI.agg 6 71 2 (SI.agg 7 71 1 (SI.tmp 8 (SI.tmp 9 SI.nil)))) (rr [0] [1,1,1,1]) ⟨?_,?_⟩
 .rw [hnext_some ht15];rfl
 rfl
theorem halive_s{Z:Zone}{F:List Asr}{b:Nat}{st:Hst}(id:Int):SF Tryz.prog 17 #[.pointer (some ⟨b,0,none⟩),iw id] Z (hpA b st::F) fun r Bs=>r=.bool (halive st id)∧Bs=hpA b st::F:=by
 refine sf_enter Tryz.func17 16 [(0,pB b 0),(1,iw id)] (fun w0=>?_);refine k_memX (fun H h=>hpA_open (h.re [0] [])) (fun ps1 _=>?_);refine k_fact (fun H h=>hp_facts (h.re [0] [])) (fun hf2=>?_);obtain⟨hi3,ha4⟩:=hf2;refine k_mem3 (fun H h=>hp_open (h.re [0] [])) (fun mb5 tb6 tm7 hw=>?_);obtain⟨hi8,ha9,ht10⟩:=hw;refine k_sr<|sP (.bool false)<|s_nr<|sP (pB b 0)<|sP2 (.bool true)<|sP3 (pB b 0)<|sL (t_load 0 (.map (some mb5)))<|sP (iw id) ?_
 rcases get_cases ha9 id with ⟨hg11,hq12⟩|⟨o13,q14,ho15,hq16⟩
 .refine sL (Lt.to (v':=.pointer none) (t_lookup 1 intOk Tryz.underlying94 (.pointer none) id) (by rw[hq12];rfl))<|sP3 (.bool false)<|s_nt<|k_ret<|xs_mem (fun _ h=>hp_shut (st:=st) (n:=(st.objs.length:Int)) ⟨⟨hi8,ha9,ht10⟩,rfl⟩ (h.re [0,0,0,0] [])) ?_
  refine xs_mem (fun _ h=>hpA_shut (h.re [0] [])) ?_;refine xs_fin _ _ (SI.tmp 4 SI.nil) (rr [0] []) ⟨?_,?_⟩
  .unfold halive;rw[hg11];rfl
  rfl
 refine sL (Lt.to (v':=ptrV q14.1) (t_lookup 1 intOk Tryz.underlying94 (.pointer none) id) (by rw[hq16];rfl))<|sP3 (.bool true)<|s_nt<|k_ret<|xs_mem (fun _ h=>hp_shut (st:=st) (n:=(st.objs.length:Int)) ⟨⟨hi8,ha9,ht10⟩,rfl⟩ (h.re [0,0,0,0] [])) ?_
 refine xs_mem (fun _ h=>hpA_shut (h.re [0] [])) ?_;refine xs_fin _ _ (SI.tmp 4 SI.nil) (rr [0] []) ⟨?_,?_⟩
 .unfold halive;rw[ho15];rfl
 rfl
theorem hdrop_s{Z:Zone}{F:List Asr}{b:Nat}{st:Hst}(id:Int):SF Tryz.prog 55 #[.pointer (some ⟨b,0,none⟩),iw id] Z (hpA b st::F) fun r Bs=>r=iw (hdropE st id)∧Bs=hpA b (hdrop st id)::F:=by
 refine sf_enter Tryz.func55 21 [(0,pB b 0),(1,iw id)] (fun w0=>?_);refine k_memX (fun H h=>hpA_open (h.re [0] [])) (fun ps1 _=>?_);refine k_fact (fun H h=>hp_facts (h.re [0] [])) (fun hf2=>?_);obtain⟨hi3,ha4⟩:=hf2;refine k_mem3 (fun H h=>hp_open (h.re [0] [])) (fun mb5 tb6 tm7 hw=>?_);obtain⟨hi8,ha9,ht10⟩:=hw;refine k_fact (fun H h=>(h.mp (i:=1) rfl).nodup) (fun hnd0=>?_);refine k_sr<|sP (iw 0)<|s_nt<|k_seq<|k_block<|k_sr<|sP (pB b 0)<|sP2 (.bool false)<|s_nt<|k_false<|k_sr<|sP3 (pB b 0)<|sL (t_load 0 (.map (some mb5)))<|sP (iw id) ?_
 rcases get_cases ha9 id with ⟨hg11,hq12⟩|⟨o13,q14,ho15,hq16⟩
 .refine sL (Lt.to (v':=.pointer none) (t_lookup 1 intOk Tryz.underlying94 (.pointer none) id) (by rw[hq12];rfl))<|sP2 (.bool true)<|s_nt<|k_true<|k_sr<|sP (iw 19)<|s_nt<|k_ret<|xs_retBlock<|xs_ret<|xs_mem (fun _ h=>hp_shut (st:=st) (n:=(st.objs.length:Int)) ⟨⟨hi8,ha9,ht10⟩,rfl⟩ (h.re [0,0,0,0] [])) ?_
  refine xs_mem (fun _ h=>hpA_shut (h.re [0] [])) ?_;refine xs_fin _ _ (SI.tmp 4 SI.nil) (rr [0] []) ⟨?_,?_⟩
  .unfold hdropE halive;rw[hg11];rfl
  unfold hdrop halive;rw[hg11];rfl
 refine sL (Lt.to (v':=ptrV q14.1) (t_lookup 1 intOk Tryz.underlying94 (.pointer none) id) (by rw[hq16];rfl))<|sP2 (.bool false)<|s_nt<|k_false<|k_skip<|xs_block<|xs_then<|k_sr<|sP3 (pB b 0)<|sL (t_load 0 (.map (some mb5)))<|sP (iw id)<|s_delete0 1 intOk Tryz.underlying94 id ?_
 refine s_mem (fun _ h=>all_drop hnd0 hq16 ho15 (h.re [3] [])) ?_;refine s_nr<|sP (iw 0)<|s_nt<|k_ret<|xs_mem (fun _ h=>hp_shut (st:=(hdrop st id)) (n:=(st.objs.length:Int)) ⟨⟨drop_inv hi8 id,HA.drop ha9 hnd0 hq16 ho15,TA.drop ht10 id⟩,by rw[drop_len.1]⟩ (h.re [1,1,1,0] [])) ?_
 refine xs_mem (fun _ h=>hpA_shut (h.re [0] [])) ?_;refine xs_fin _ _ (SI.tmp 4 SI.nil) (rr [0] []) ⟨?_,?_⟩
 .unfold hdropE halive;rw[ho15];rfl
 rfl
end Go.Proofs.YtmhpcebiamkciaaGreat
end
section
set_option linter.unusedSimpArgs false
set_option linter.unusedVariables false
namespace Go.Proofs.YtmhpcebiamkciaaGreat
def listE:List Vl→Nat→List (Vl×Vl)
 | [],_=>[]
 | v::r,i=>if v.kind≠0 then (ofI ((i:Int)+1),v)::listE r (i+1) else listE r (i+1)
def liveE(S:List Slt):List (Vl×Vl):=(live S).map fun s=>(s.key,s.val)
def tents(T:Tb):List (Vl×Vl):=listE T.list 0++liveE T.rest
def hdE:List (Vl×Vl)→Vl×Vl×Bool×Int
 | []=>(zVl,zVl,false,0)
 | p::_=>(p.1,p.2,true,0)
theorem hd_some{l:List (Vl×Vl)}(h:(hdE l).2.2.1=true):∃p tl,l=p::tl:=by
 cases l with
 | nil=>cases h
 | cons p tl=>exact⟨p,tl,rfl⟩
theorem hd_none{l:List (Vl×Vl)}(h:(hdE l).2.2.1=false):l=[]:=by
 cases l with
 | nil=>rfl
 | cons p tl=>cases h
theorem hd_err(l:List (Vl×Vl)):(hdE l).2.2.2=0:=by cases l<;>rfl
theorem onext_zero(S:List Slt):onext S zVl=hdE (liveE S):=by
 rw[onext_nil0];unfold liveE;cases live S<;>rfl
where onext_nil0:onext S zVl=((slotV (live S).head?).1,(slotV (live S).head?).2.1,(slotV (live S).head?).2.2,0):=by unfold onext;rw[if_pos rfl]
theorem seek_listE:∀(L:List Vl) (i:Nat),match seek L i with
  | none=>listE L i=[]
  | some p=>∃tl,listE L i=(ofI ((p.1:Int)+1),p.2)::tl
 | [],i=>rfl
 | v::r,i=>by
  rw[seek];by_cases h:v.kind≠0
  .rw [if_pos h];exact⟨_,by rw[listE,if_pos h]⟩
  rw[if_neg h];have:=seek_listE r (i+1);rw[listE,if_neg h];exact this
theorem after_hd(T:Tb)(n:Nat):tafter T n=hdE (listE (T.list.drop n) n++liveE T.rest):=by
 have h:=seek_listE (T.list.drop n) n;unfold tafter;cases hs:seek (T.list.drop n) n with
 | none=>rw[hs]at h;simp only at h;rw[h];exact onext_zero _
 | some p=>rw[hs]at h;obtain⟨tl,h⟩:=h;rw[h];rfl
theorem next_first(T:Tb):tnext T zVl=hdE (tents T):=by rw[tnext_nil,after_hd];rfl
theorem listE_split{R:List (Vl×Vl)}:∀(L:List Vl) (i:Nat) (pre:List (Vl×Vl)) (p:Vl×Vl) (tl:List (Vl×Vl)),listE L i++R=pre++p::tl→
  (∃j:Nat,i≤j∧j<i+L.length∧p.1=ofI ((j:Int)+1)∧tl=listE (L.drop (j+1-i)) (j+1)++R)∨∃pre',R=pre'++p::tl
 | [],i,pre,p,tl,h=>.inr ⟨pre,h⟩
 | y::r,i,pre,p,tl,h=>by
  rw[listE]at h;have go:∀pre',listE r (i+1)++R=pre'++p::tl→(∃j:Nat,i≤j∧j<i+(y::r).length∧p.1=ofI ((j:Int)+1)∧tl=listE ((y::r).drop (j+1-i)) (j+1)++R)∨∃pre',R=pre'++p::tl:=fun pre' h'=>by
   rcases listE_split r (i+1) pre' p tl h' with ⟨j,h1,h2,h3,h4⟩|h4
   .refine .inl ⟨j,by omega,by simp only[List.length_cons];omega,h3,?_⟩;rw[h4,show j+1-i=(j+1-(i+1))+1 by omega,List.drop_succ_cons]
   exact .inr h4
  split at h
  .cases pre with
   | nil=>
    simp only[List.cons_append,List.nil_append,List.cons.injEq]at h;refine .inl ⟨i,Nat.le_refl _,by simp,by rw[←h.1],?_⟩;rw[←h.2,show i+1-i=1 by omega];rfl
   | cons q pre'=>
    simp only[List.cons_append,List.cons.injEq]at h;exact go pre' h.2
  exact go pre h
theorem next_step{T:Tb}(h:TInv T)(hw:TW T)(hl:T.list.length≤2147483646){pre:List (Vl×Vl)}{p:Vl×Vl}{tl:List (Vl×Vl)}(he:tents T=pre++p::tl):tnext T p.1=hdE tl:=by
 rcases listE_split T.list 0 pre p tl he with ⟨j,_,h2,h3,h4⟩|⟨pre',h4⟩
 .obtain ⟨w1,w2,w3⟩:=whole_ofI (n:=(j:Int)+1) (by omega) (by omega);rw[h3,tnext_in w3 (by omega) (by omega),w1,show ((j:Int)+1).toNat=j+1 by omega,after_hd,h4];rfl
 unfold liveE at h4;obtain⟨A,B,hlv,hA,hB⟩:=List.map_eq_append_iff.1 h4;obtain⟨s,B',hB1,hp,hB2⟩:=List.map_eq_cons_iff.1 hB;subst hB1;subst hp;unfold live at hlv;obtain⟨l1,l2,hS,hl1,hl2⟩:=List.filter_eq_append_iff.1 hlv;obtain⟨m1,m2,hS2,hm1,hs,hm2⟩:=List.filter_eq_cons_iff.1 hl2;have hat:T.rest[(l1++m1).length]?=some s:=by rw[hS,hS2,←List.append_assoc,List.getElem?_append_right (Nat.le_refl _)];simp
 have hg:s.gone=false:=by simpa using hs
 have hm:=List.mem_of_getElem? hat;have hk:=h.rest.keys s hm;have hz:s.key≠zVl:=fun e=>hk.2 (by rw[e];rfl)
 have hout:=hw s (live_mem.2 ⟨hm,hg⟩);have hr:¬(1≤whole s.key∧whole s.key≤(T.list.length:Int)):=fun hc=>by rw[inB_iff.2 hc]at hout;cases hout
 have hlast:=h.rest.last hat hg;have hon:onext T.rest s.key=hdE tl:=by
  unfold onext;rw[if_neg hz,hlast];simp only;have hd:T.rest.drop ((l1++m1).length+1)=m2:=by
   rw[hS,hS2,←List.append_assoc,List.drop_append];simp
  rw[hd,←hB2];show _=hdE (List.map _ B');have:live m2=B':=hm2;rw[this];cases B'<;>rfl
 show tnext T s.key=_;rw[tnext_rest hz hr (by rw[hon];exact hd_err _),hon]
theorem listE_len:∀(L:List Vl) (i:Nat),(listE L i).length≤L.length
 | [],_=>Nat.le_refl _
 | v::r,i=>by
  have:=listE_len r (i+1);rw[listE];split<;>simp only[List.length_cons]<;>omega
theorem tents_len(T:Tb):(tents T).length≤T.list.length+T.rest.length:=by
 unfold tents liveE;rw[List.length_append,List.length_map];have h1:=listE_len T.list 0;have h2:=cnt_le T.rest;unfold cnt at h2;omega
/-! ### What an object shows -/
def refsL(l:List Vl)(i:Nat):List Int:=((l.take i).map idn).filter fun n=>decide (n≠0)
theorem refsL_step{l:List Vl}{i:Nat}{y:Vl}(h:l[i]?=some y):refsL l (i+1)=if idn y≠0 then refsL l i++[idn y] else refsL l i:=by
 unfold refsL;rw[List.take_add_one,h];simp only[Option.toList_some,List.map_append,List.map_cons,List.map_nil,List.filter_append];by_cases hy:idn y≠0
 .rw [if_pos hy,List.filter_cons_of_pos (by simpa using hy)];rfl
 rw[if_neg hy,List.filter_cons_of_neg (by simpa using hy)];simp
theorem refsL_end{l:List Vl}{i:Nat}(h:l.length≤i):refsL l i=(l.map idn).filter fun n=>decide (n≠0):=by unfold refsL;rw[List.take_of_length_le h]
theorem refsL_len(l:List Vl)(i:Nat):(refsL l i).length≤i:=by
 unfold refsL;refine Nat.le_trans (List.length_filter_le _ _) ?_;rw[List.length_map,List.length_take];omega
def hweak(o:Hob)(weak:Int):Int:=if o.kind=4∧0≤weak∧weak≤3 then weak else 0
end Go.Proofs.YtmhpcebiamkciaaGreat
end
section
set_option linter.unusedSimpArgs false
set_option linter.unusedVariables false
namespace Go.S
open Go.Hp Go.J Go.RowKit Go.Maps
open Go.Mem (Ty KTy blk intK)
open Go.WideElems (Fit rd rg rd_mk rg_of)
open Go.WideShapes (sorted_perm)
section
variable{P:Program}
def anyR:Value→Option (DataW Unit×List MemPlace):=fun _=>some (.lit (.bool true),[])
theorem own_of_row{w:World}{base:Nat}{e:TypeId}{v:Value}{ss:List Int}(h:w.ownsRow base e 1 v ss.length (ss.map encZ)):Ow w.heap (iT e) v ss∧∀k,blk v=some k→base≤k:=by
 obtain⟨_,⟨rfl,h0⟩|⟨g,cap,cur,rfl,hg,hb,hc,hm,hs,ht⟩⟩:=h
 .exact ⟨.inl ⟨rfl,List.length_eq_zero_iff.1 h0⟩,fun k hk=>by simp[blk,Value.ownBlock]at hk⟩
 refine⟨.inr ⟨g,cap,cur,rfl,hb,hc,hm,by rw[hs];exact Nat.le_refl _,?_⟩,fun k hk=>?_⟩
 .rw [flat_int];exact ht
 simp only[blk,Value.ownBlock,Option.some.injEq]at hk;omega
theorem srt_perm2{A B:List Int}(h:A.Perm B):srt A=srt B:=mergeSort_of_perm_i h
def intV:Value→Int
 | .int _ n=>n
 | _=>0
theorem map_owns{w:World}{k:TypeId}{β:Type}{V:β→Value}{b:Nat}{m:List (Int×β)}(h:Mp w.heap (intK k) V b m)(hk:P.underlying k=some (.int .i64))(hw:∀p∈m,(Lit.int .i64 p.1).wf=true)(hl:m.length≤maxLen):
  ∃D0:DataW Unit,w.ownsMap P k anyR b m.length D0∧Maps.size D0=m.length∧(intKeys D0).Perm (m.map Prod.fst):=by
 obtain⟨es,clock,hb,he,hn,hs⟩:=h;have hlen:es.toList.length=m.length:=by have:=congrArg List.length he;simpa using this
 have hkeys:es.toList.map (·.key)=m.map fun p=>Value.int .i64 p.1:=by
  have:=congrArg (List.map Prod.fst) he;rw[List.map_map,List.map_map]at this;exact this
 have hrd:∀x∈es.toList,∃n:Int,x.key=.int .i64 n∧rd P k anyR x=some (.int .i64 n,.lit (.bool true)):=fun x hx=>by
  have hm:x.key∈es.toList.map (·.key):=List.mem_map.2 ⟨x,hx,rfl⟩;rw[hkeys]at hm;obtain⟨p,hp,e⟩:=List.mem_map.1 hm;have hko:keyOf P k x.key=some (.int .i64 p.1):=by
   rw[←e];unfold keyOf;rw[hk];simp only[mapKey,hk,hw p hp,and_self,if_true]
  exact⟨p.1,e.symm,rd_mk (kl:=.int .i64 p.1) (yv:=(.lit (.bool true),[])) hko rfl⟩
 refine⟨.map ((es.toList.map (rg P k anyR)).foldr DataW.insert []),⟨es,clock,hb,⟨?_,⟨fun x hx=>hs.2 x hx,hs.1,?_⟩,fun x hx=>?_⟩,?_,rfl⟩,?_,?_⟩
 .rw [←Array.length_toList,hlen];exact hl
 .rw [hkeys];have h1:(m.map Prod.fst).Pairwise (· ≠ ·):=hn;rw[List.pairwise_map]at h1;exact List.pairwise_map.2 (h1.imp fun hne e=>hne (by injection e))
 .obtain ⟨n,_,h⟩:=hrd x hx;exact⟨_,h⟩
 .rw [←Array.length_toList,hlen];exact Nat.le_refl _
 .rw [Maps.size_eq,(sorted_perm _).length_eq,List.length_map,hlen]
 .show ((((es.toList.map (rg P k anyR)).foldr DataW.insert []).map fun p=>intOf p.1)).Perm _;refine ((sorted_perm _).map _).trans ?_;rw[List.map_map];have e1:es.toList.map ((fun p:Lit×DataW Unit=>intOf p.1) ∘ rg P k anyR)=(es.toList.map (·.key)).map intV:=by
   rw[List.map_map];refine List.map_congr_left fun x hx=>?_
   obtain⟨n,h1,h2⟩:=hrd x hx;show intOf (rg P k anyR x).1=intV x.key;rw[rg_of h2,h1];rfl
  rw[e1,hkeys,List.map_map];exact List.Perm.of_eq rfl
theorem sf_sorted {f it : FuncId} {k tt : TypeId} {β : Type} {V : β → Value} {b g : Nat} {m : List (Int × β)} {Z : Zone} {F : List Asr} (hk : P.underlying k = some (.int .i64)) (hw : ∀ p ∈ m, (Lit.int .i64 p.1).wf = true) (hl : m.length ≤ 1000000)
    (hs : ∀ (nn : Nat) (D0 : DataW Unit) (w : World), g < w.heap.size → w.cell? ⟨g, 0, none⟩ = some (.map (some b)) → w.ownsMap P k anyR b nn D0 → Maps.size D0 ≤ maxLen → Maps.size D0 * 8 ≤ 140737488355328 →
      Calls P f #[.func (.func it) #[] #[.pointer (some ⟨g, 0, none⟩)]] w fun e w' => ∃ (v : Value) (ss : List Int), e = .returned v ∧ ss.Perm (intKeys D0) ∧ w'.ownsRow w.heap.size k 1 v ss.length ((ss.mergeSort (fun x y => decide (x ≤ y))).map encZ) ∧ (v = .slice none 0 0 ↔ ss = []) ∧ Below w.heap.size w w') :
    SF P f #[.func (.func it) #[] #[.pointer (some ⟨g, 0, none⟩)]] Z (blkA g #[.map (some b)] tt :: mpA (intK k) V b m :: F) fun v Bs => Bs = own (iT k) v (srt (m.map Prod.fst)) :: mpA (intK k) V b m :: F := fun H hH w hwh => by
  have hblk := hH.blk (i := 0) rfl
  have hmp := hH.mp (i := 1) rfl
  rw [← hwh] at hblk hmp
  obtain ⟨D0, h1, h2, h3⟩ := map_owns hmp hk hw (Nat.le_trans hl (by decide))
  have hc : w.cell? ⟨g, 0, none⟩ = some (.map (some b)) := by rw [cell_of_row w g 0 _ _ _ hblk]; rfl
  refine (hs _ D0 w (lt_of_some hblk) hc h1 (by rw [h2]; exact Nat.le_trans hl (by decide)) (by rw [h2]; omega)).mono fun e w' ⟨v, ss, he, hp, hrow, _, hb⟩ => ⟨v, he, ⟨rfl, hb.os, hb.tape, hb.output⟩, _, rfl, ?_⟩
  have e1 : ss.mergeSort (fun x y => decide (x ≤ y)) = srt (m.map Prod.fst) := srt_perm2 (hp.trans h3)
  have e2 : ss.length = (srt (m.map Prod.fst)).length := by rw [← e1, List.length_mergeSort]
  rw [e1, e2] at hrow
  obtain ⟨ow, hlo⟩ := own_of_row hrow
  have hch : Chg (fun _ => False) H w'.heap := by
    rw [← hwh]; exact ⟨hb.size, fun j hj _ => hb.block j hj⟩
  exact (hH.tail).new hch (S' := fun j => blk v = some j) ⟨ow, fun j => Iff.rfl⟩ fun j hj => by rw [← hwh]; exact hlo j hj
end
end Go.S
end
section
set_option linter.unusedVariables false
namespace Go.Proofs
open Go.Shelf
def Tryz.keysA_ren:Go.Shelf.Ren:=⟨fun|7=>61|10=>127|n=>n,fun|23=>94|26=>3|3=>93|28=>114|0=>0|27=>113|33=>46|4=>4|n=>n,fun|n=>n⟩
theorem Tryz.keysA : Go.Proofs.SlLaysZI.n7 Tryz.prog Tryz.keysA_ren := {
  mixed := by kernel_rfl
  f7 := ⟨Tryz.f61.name, by decide, Tryz.func61.trans (congrArg some (by kernel_rfl))⟩
  f10 := ⟨Tryz.f127.name, by decide, Tryz.func127.trans (congrArg some (by kernel_rfl))⟩
  t0 := Tryz.underlying0
  a0 := Tryz.isAgg0
  z0 := Tryz.sizeOf0
  v0 := Tryz.zeroValue0
  t4 := Tryz.underlying4
  a4 := Tryz.isAgg4
  z4 := Tryz.sizeOf4
  v4 := Tryz.zeroValue4
  t23 := Tryz.underlying94
  a23 := Tryz.isAgg94
  z23 := Tryz.sizeOf94
  v23 := Tryz.zeroValue94
  t26 := Tryz.underlying3
  a26 := Tryz.isAgg3
  z26 := Tryz.sizeOf3
  v26 := Tryz.zeroValue3
  t27 := Tryz.underlying113
  a27 := Tryz.isAgg113
  z27 := Tryz.sizeOf113
  v27 := Tryz.zeroValue113
  t28 := Tryz.underlying114
  a28 := Tryz.isAgg114
  z28 := Tryz.sizeOf114
  v28 := Tryz.zeroValue114
  t33 := Tryz.underlying46
  a33 := Tryz.isAgg46
  z33 := Tryz.sizeOf46
  v33 := Tryz.zeroValue46 }
def Tryz.sortedA_ren:Go.Shelf.Ren:=⟨fun|6=>60|8=>125|9=>126|11=>180|13=>182|12=>181|23=>227|24=>228|14=>218|15=>219|16=>220|17=>221|18=>222|19=>223|20=>224|21=>225|22=>226|25=>256|26=>257|27=>258|28=>259|29=>260|30=>261|31=>269|n=>n,fun|26=>3|28=>114|24=>23|0=>0|3=>3|37=>217|48=>251|50=>253|4=>4|40=>244|39=>243|45=>48|5=>5|9=>9|51=>273|55=>277|57=>283|58=>284|33=>46|n=>n,fun|n=>n⟩
theorem Tryz.sortedA : Go.Proofs.SlLaysZI.n6 Tryz.prog Tryz.sortedA_ren := {
  mixed := by kernel_rfl
  f6 := ⟨Tryz.f60.name, by decide, Tryz.func60.trans (congrArg some (by kernel_rfl))⟩
  f8 := ⟨Tryz.f125.name, by decide, Tryz.func125.trans (congrArg some (by kernel_rfl))⟩
  f11 := ⟨Tryz.f180.name, by decide, Tryz.func180.trans (congrArg some (by kernel_rfl))⟩
  t0 := Tryz.underlying0
  a0 := Tryz.isAgg0
  z0 := Tryz.sizeOf0
  v0 := Tryz.zeroValue0
  t24 := Tryz.underlying23
  a24 := Tryz.isAgg23
  z24 := Tryz.sizeOf23
  v24 := Tryz.zeroValue23
  t26 := Tryz.underlying3
  a26 := Tryz.isAgg3
  z26 := Tryz.sizeOf3
  v26 := Tryz.zeroValue3
  t28 := Tryz.underlying114
  a28 := Tryz.isAgg114
  z28 := Tryz.sizeOf114
  v28 := Tryz.zeroValue114
  i26 := by kernel_rfl }
def Tryz.sortA_ren:Go.Shelf.Ren:=⟨fun|5=>126|8=>182|7=>181|19=>227|20=>228|10=>218|11=>219|12=>220|13=>221|14=>222|15=>223|16=>224|17=>225|18=>226|30=>256|31=>257|32=>258|33=>259|34=>260|35=>261|40=>269|n=>n,fun|23=>23|25=>3|3=>3|32=>217|22=>23|0=>0|44=>251|46=>253|4=>4|36=>244|35=>243|41=>48|5=>5|9=>9|53=>273|57=>277|63=>283|64=>284|n=>n,fun|n=>n⟩
theorem Tryz.sortA : Go.Proofs.SlLaysM.n5 Tryz.prog Tryz.sortA_ren := {
  mixed := by kernel_rfl
  f5 := ⟨Tryz.f126.name, by decide, Tryz.func126.trans (congrArg some (by kernel_rfl))⟩
  f7 := ⟨Tryz.f181.name, by decide, Tryz.func181.trans (congrArg some (by kernel_rfl))⟩
  f8 := Tryz.func182.trans (congrArg some (by kernel_rfl))
  f10 := ⟨Tryz.f218.name, by decide, Tryz.func218.trans (congrArg some (by kernel_rfl))⟩
  f11 := ⟨Tryz.f219.name, by decide, Tryz.func219.trans (congrArg some (by kernel_rfl))⟩
  f12 := ⟨Tryz.f220.name, by decide, Tryz.func220.trans (congrArg some (by kernel_rfl))⟩
  f13 := ⟨Tryz.f221.name, by decide, Tryz.func221.trans (congrArg some (by kernel_rfl))⟩
  f14 := ⟨Tryz.f222.name, by decide, Tryz.func222.trans (congrArg some (by kernel_rfl))⟩
  f15 := ⟨Tryz.f223.name, by decide, Tryz.func223.trans (congrArg some (by kernel_rfl))⟩
  f16 := ⟨Tryz.f224.name, by decide, Tryz.func224.trans (congrArg some (by kernel_rfl))⟩
  f17 := ⟨Tryz.f225.name, by decide, Tryz.func225.trans (congrArg some (by kernel_rfl))⟩
  f18 := ⟨Tryz.f226.name, by decide, Tryz.func226.trans (congrArg some (by kernel_rfl))⟩
  f19 := Tryz.func227.trans (congrArg some (by kernel_rfl))
  f20 := Tryz.func228.trans (congrArg some (by kernel_rfl))
  f30 := ⟨Tryz.f256.name, by decide, Tryz.func256.trans (congrArg some (by kernel_rfl))⟩
  f31 := Tryz.func257.trans (congrArg some (by kernel_rfl))
  f32 := Tryz.func258.trans (congrArg some (by kernel_rfl))
  f33 := ⟨Tryz.f259.name, by decide, Tryz.func259.trans (congrArg some (by kernel_rfl))⟩
  f34 := ⟨Tryz.f260.name, by decide, Tryz.func260.trans (congrArg some (by kernel_rfl))⟩
  f35 := ⟨Tryz.f261.name, by decide, Tryz.func261.trans (congrArg some (by kernel_rfl))⟩
  f40 := ⟨Tryz.f269.name, by decide, Tryz.func269.trans (congrArg some (by kernel_rfl))⟩
  t0 := Tryz.underlying0
  a0 := Tryz.isAgg0
  z0 := Tryz.sizeOf0
  v0 := Tryz.zeroValue0
  t3 := Tryz.underlying3
  a3 := Tryz.isAgg3
  z3 := Tryz.sizeOf3
  v3 := Tryz.zeroValue3
  t4 := Tryz.underlying4
  a4 := Tryz.isAgg4
  z4 := Tryz.sizeOf4
  v4 := Tryz.zeroValue4
  t5 := Tryz.underlying5
  a5 := Tryz.isAgg5
  z5 := Tryz.sizeOf5
  v5 := Tryz.zeroValue5
  t9 := Tryz.underlying9
  a9 := Tryz.isAgg9
  z9 := Tryz.sizeOf9
  v9 := Tryz.zeroValue9
  t22 := Tryz.underlying23
  a22 := Tryz.isAgg23
  z22 := Tryz.sizeOf23
  v22 := Tryz.zeroValue23
  t23 := Tryz.underlying23
  a23 := Tryz.isAgg23
  z23 := Tryz.sizeOf23
  v23 := Tryz.zeroValue23
  t25 := Tryz.underlying3
  a25 := Tryz.isAgg3
  z25 := Tryz.sizeOf3
  v25 := Tryz.zeroValue3
  t32 := Tryz.underlying217
  a32 := Tryz.isAgg217
  z32 := Tryz.sizeOf217
  v32 := Tryz.zeroValue217
  t35 := Tryz.underlying243
  a35 := Tryz.isAgg243
  z35 := Tryz.sizeOf243
  v35 := Tryz.zeroValue243
  t36 := Tryz.underlying244
  a36 := Tryz.isAgg244
  z36 := Tryz.sizeOf244
  v36 := Tryz.zeroValue244
  t41 := Tryz.underlying48
  a41 := Tryz.isAgg48
  z41 := Tryz.sizeOf48
  v41 := Tryz.zeroValue48
  t44 := Tryz.underlying251
  a44 := Tryz.isAgg251
  z44 := Tryz.sizeOf251
  v44 := Tryz.zeroValue251
  t46 := Tryz.underlying253
  a46 := Tryz.isAgg253
  z46 := Tryz.sizeOf253
  v46 := Tryz.zeroValue253
  t53 := Tryz.underlying273
  a53 := Tryz.isAgg273
  z53 := Tryz.sizeOf273
  v53 := Tryz.zeroValue273
  t57 := Tryz.underlying277
  a57 := Tryz.isAgg277
  z57 := Tryz.sizeOf277
  v57 := Tryz.zeroValue277
  t63 := Tryz.underlying283
  a63 := Tryz.isAgg283
  z63 := Tryz.sizeOf283
  v63 := Tryz.zeroValue283
  t64 := Tryz.underlying284
  a64 := Tryz.isAgg284
  z64 := Tryz.sizeOf284
  v64 := Tryz.zeroValue284 }
open Go.RowKit Go.Maps Go.Sort in
theorem Tryz.sortsA (m : Nat) : AnyZI.SortsIn Tryz.prog Tryz.sortedA_ren Fence.wide m :=
  ⟨fun blk off cap ss W hH hblk hsz => callsIn_wide.2 (AnyM.slices_Sort_int Tryz.sortA blk off cap ss W hH hblk hsz),
   fun p cap W => callsIn_wide.2 (AnyM.slices_Sort_int_none Tryz.sortA p cap W)⟩
namespace YtmhpcebiamkciaaGreat
open Go.Hp Go.J Go.S Go.RowKit Go.Maps Go.Sort
open Go.Mem (aget aset adel)
theorem keys_s{Z:Zone}(mb:Nat):SF Tryz.prog 61 #[.map (some mb)] Z [] fun r Bs=>∃g,r=.func (.func 127) #[] #[.pointer (some ⟨g,0,none⟩)]∧Bs=[blkA g #[.map (some mb)] 94]:=fun H hH w hw=>
 ((callsIn_wide (n:=5)).1 (AnyZI.keys_in Tryz.keysA Fence.wide 5 trivial rfl (some mb) w)).mono fun e w' ⟨he,hw'⟩=>by
  subst hw';refine⟨_,he,⟨rfl,rfl,rfl,rfl⟩,_,⟨w.heap.size,rfl,rfl⟩,?_⟩;have hc:=Chg.of_mem ((Mem.Chg.refl (fun _=>False) w).alloc (.cells #[.map (some mb)] 94));rw[hw]at hc;exact hH.new hc (S':=fun k=>k=w.heap.size) ⟨heap_alloc_new w _,fun k=>Iff.rfl⟩ fun k hk=>by rw[hk,hw];exact Nat.le_refl _
theorem sorted_s {Z : Zone} {F : List Asr} {g b : Nat} {ps : List (Int × (Nat × Nat))} (hw : ∀ p ∈ ps, (Lit.int .i64 p.1).wf = true) (hl : ps.length ≤ 1000000) : SF Tryz.prog 60 #[.func (.func 127) #[] #[.pointer (some ⟨g, 0, none⟩)]] Z (blkA g #[.map (some b)] 94 :: mpA iK oV b ps :: F) fun v Bs => Bs = own iTy v (srt (ps.map Prod.fst)) :: mpA iK oV b ps :: F :=
  sf_sorted Tryz.underlying3 hw hl fun nn D0 w hg hc ho h1 h2 => (callsIn_wide (n := 5)).1 (by
    have hseq : SeqGives Fence.wide 2 Tryz.prog 127 #[.pointer (some ⟨g, 0, none⟩)] encZ (fun ss => ss.Perm (intKeys D0)) (Maps.size D0) w :=
      AnyZI.keys_gives (ρ := Tryz.keysA_ren) { Tryz.keysA with } Fence.wide _ trivial rfl om g b nn D0 w hg hc ho
    exact AnyZI.sorted_in Tryz.sortedA Fence.wide 5 trivial trivial trivial trivial rfl om (Tryz.sortsA _) (enters_of Tryz.func126 (by kernel_rfl) rfl) 127 #[.pointer (some ⟨g, 0, none⟩)] trivial (enters_of Tryz.func127 (by kernel_rfl) rfl) _ _ h1 h2 _ hseq)
theorem sort_s{Z:Zone}{F:List Asr}{v:Value}{L:List Int}(hl:L.length<4611686018427387904):SF Tryz.prog 126 #[v] Z (own iTy v L::F) fun r Bs=>r=.tuple #[]∧Bs=own iTy v (srt L)::F:=
 sf_sort hl (fun b off cap zs w h1 h2 h3=>AnyM.slices_Sort_int Tryz.sortA b off cap zs w h1 h2 h3) (fun p cap w=>AnyM.slices_Sort_int_none Tryz.sortA p cap w)
end YtmhpcebiamkciaaGreat
end Go.Proofs
end
section
set_option linter.unusedSimpArgs false
set_option linter.unusedVariables false
set_option maxRecDepth 100000
set_option maxHeartbeats 2000000
namespace Go.Proofs.YtmhpcebiamkciaaGreat
open Go.Hp Go.J Go.S
open Go.Mem (Ty KTy blk elemAt pre suf blk_pre blk_suf aget aset strK aggDesc)
open Go.Mem (adel apos aget_aset aget_adel)
structure Ent where
 key:Int
 val:Int
 deriving DecidableEq
abbrev Ent.v(x:Ent):Value:=.agg #[iw x.key,iw x.val]
def EntT:Ty Ent:=⟨167,2,16,true,Ent.v,⟨0,0⟩⟩
theorem EntT_ok:EntT.Ok Tryz.prog:=ok_of EntT _ Tryz.t167 (by decide) (fun _=>rfl) (fun x u hu=>by simp[Ty.enc,EntT,Value.cells]at hu;rcases hu with rfl|rfl<;>rfl) (fun _=>rfl) Tryz.underlying167 rfl (fun h=>by cases h) (by kernel_rfl) (by kernel_rfl) (by kernel_rfl) (by kernel_rfl)
theorem eqEntT(x y:Ent)(w:World):(binOp .eql 167 x.v y.v).run Tryz.prog w=.ok (.bool (decide (x=y))) w∧(binOp .neq 167 x.v y.v).run Tryz.prog w=.ok (.bool (!decide (x=y))) w:=by
 have h:=J.run_eqS (P:=Tryz.prog) (t:=167) [0,0] (by kernel_rfl) (by kernel_rfl) #[iw x.key,iw x.val] #[iw y.key,iw y.val] rfl rfl w;have e:J.cellsEq [iw x.key,iw x.val] [iw y.key,iw y.val]=decide (x=y):=by
  cases x;cases y;rw[Bool.eq_iff_iff];simp[J.cellsEq,J.cellEq]
 rw[e]at h;exact h
def entL(l:List (Vl×Vl)):List Ent:=(l.map fun p=>(⟨idn p.1,idn p.2⟩:Ent)).filter fun e=>decide (e≠⟨0,0⟩)
def entsOf(T:Tb):List Ent:=entL (tents T)
theorem entL_step(l:List (Vl×Vl))(p:Vl×Vl):entL (l++[p])=if (⟨idn p.1,idn p.2⟩:Ent)≠⟨0,0⟩ then entL l++[⟨idn p.1,idn p.2⟩] else entL l:=by
 unfold entL;rw[List.map_append,List.filter_append,List.map_cons,List.map_nil];by_cases h:(⟨idn p.1,idn p.2⟩:Ent)≠⟨0,0⟩
 .rw [if_pos h];congr 1;simp only[List.filter_cons,List.filter_nil];rw[if_pos (decide_eq_true h)]
 rw[if_neg h];simp only[List.filter_cons,List.filter_nil];rw[if_neg (fun hc=>h (dY hc)),List.append_nil]
theorem entL_len(l:List (Vl×Vl)):(entL l).length≤l.length:=by
 unfold entL;refine Nat.le_trans (List.length_filter_le _ _) ?_;rw[List.length_map];exact Nat.le_refl _
def hrefs(st:Hst)(id:Int):List Int:=match st.get id with
 | some o=>refsOf o
 | none=>[]
def hents(st:Hst)(id:Int):List Ent:=match st.get id with
 | some o=>if o.kind=4 then entsOf o.tab else []
 | none=>[]
def hoId(st:Hst)(id:Int):Int:=if halive st id=true then id else 0
def hoSz(st:Hst)(id:Int):Int:=match st.get id with
 | some o=>obSize o
 | none=>0
def hoWk(st:Hst)(id weak:Int):Int:=match st.get id with
 | some o=>hweak o weak
 | none=>0
theorem obj_none{st:Hst}{id:Int}(h:st.get id=none)(weak:Int):halive st id=false∧hoId st id=0∧hoSz st id=0∧hoWk st id weak=0∧hrefs st id=[]∧hents st id=[]:=by
 have h1:halive st id=false:=by unfold halive;rw[h];rfl
 refine⟨h1,?_,?_,?_,?_,?_⟩
 .unfold hoId;rw[h1];rfl
 all_goals first|(unfold hoSz;rw[h])|(unfold hoWk;rw[h])|(unfold hrefs;rw[h])|(unfold hents;rw[h])
theorem obj_some{st:Hst}{id:Int}{o:Hob}(h:st.get id=some o)(weak:Int):halive st id=true∧hoId st id=id∧hoSz st id=obSize o∧hoWk st id weak=hweak o weak∧hrefs st id=refsOf o∧hents st id=if o.kind=4 then entsOf o.tab else []:=by
 have h1:halive st id=true:=by unfold halive;rw[h];rfl
 refine⟨h1,?_,?_,?_,?_,?_⟩
 .unfold hoId;rw[h1];rfl
 all_goals first|(unfold hoSz;rw[h])|(unfold hoWk;rw[h])|(unfold hrefs;rw[h])|(unfold hents;rw[h])
section
variable{Z:Zone}{F:List Asr}{H:Heap}{b:Nat}{st:Hst}{ps:List (Int×(Nat×Nat))}{id:Int}{q:Nat×Nat}{o:Hob}
theorem all_take(hq:aget ps id=some q)(ho:st.get id=some o)(h:Holds Z (allP ps st::F) H):Holds Z (obP q o::holeP ps st id::F) H:=by
 obtain⟨v,_,h⟩:=all_focus hq ho h;exact ob_shut h
theorem all_back(hnd:(ps.map Prod.fst).Nodup)(hq:aget ps id=some q)(ho:st.get id=some o)(h:Holds Z (obP q o::holeP ps st id::F) H):Holds Z (allP ps st::F) H:=by
 have:=all_unfocus hnd hq ho h;rwa [put_same ho]at this
theorem keys_wf(ha:HA ps st)(hl:st.objs.length≤1000000):∀p∈ps,(Lit.int .i64 p.1).wf=true:=fun p hp=>by
 have h1:halive st p.1=true:=(mem_keys ha).1 (List.mem_map.2 ⟨p,hp,rfl⟩);obtain⟨o,ho⟩:=halive_iff.1 h1;obtain⟨_,h2,h3,_⟩:=get_mem ho;have e1:IntKind.i64.min = -9223372036854775808:=by rfl
 have e2:IntKind.i64.max=9223372036854775807:=by rfl
 simp only[Lit.wf,Bool.and_eq_true,decide_eq_true_eq,e1,e2];omega
end
theorem ident_s{Z:Zone}(v:Vl):SF Tryz.prog 110 #[v.v] Z [] fun r Bs=>r=iw (idn v)∧Bs=[]:=by
 refine sf_enter Tryz.func110 12 [(0,.agg (vc v))] (fun w0=>?_);refine k_sr<|s_box (vc v) (fun g1=>?_)
 refine sP (iw 0)<|s_nt<|k_seq<|k_sr<|sP (pB g1 0)<|sL (t_load 0 (iw v.kind))<|s_nt<|k_block<|k_seq<|k_sr<|sL t_cmp<|sP (.bool (decide (v.kind=4)))<|s_nt<|k_cond (decide (v.kind=4)) (fun c2=>?_) (fun c2=>?_)
 .have p3:=dY c2;refine k_st<|k_true (hv:=cB c2)<|k_sr<|sP (pB g1 4)<|sL (t_load 0 (iw v.ref))<|sP (iw v.ref)<|s_nt<|k_ret<|xs_retBlock<|xs_ret ?_
  have hp:idn v=v.ref:=by unfold idn isRef;rw[if_pos (by simp only[Bool.or_eq_true,decide_eq_true_eq];omega)]
  exact xs_fin _ _ (SI.tmp 2 SI.nil) (rr [] [0]) ⟨by rw[hp];rfl,rfl⟩
 have p4:=dF c2;refine k_sr<|sL t_cmp<|sP (.bool (decide (v.kind=5)))<|s_nt<|k_cond (decide (v.kind=5)) (fun c5=>?_) (fun c5=>?_)
 .have p6:=dY c5;refine k_st<|k_true (hv:=cB c5)<|k_sr<|sP (pB g1 4)<|sL (t_load 0 (iw v.ref))<|sP (iw v.ref)<|s_nt<|k_ret<|xs_retBlock<|xs_ret ?_
  have hp:idn v=v.ref:=by unfold idn isRef;rw[if_pos (by simp only[Bool.or_eq_true,decide_eq_true_eq];omega)]
  exact xs_fin _ _ (SI.tmp 2 SI.nil) (rr [] [0]) ⟨by rw[hp];rfl,rfl⟩
 have p7:=dF c5;refine k_sr<|sL t_cmp<|sP (.bool (decide (v.kind=7)))<|s_nt<|k_cond (decide (v.kind=7)) (fun c8=>?_) (fun c8=>?_)
 .have p9:=dY c8;refine k_st<|k_true (hv:=cB c8)<|k_sr<|sP (pB g1 4)<|sL (t_load 0 (iw v.ref))<|sP (iw v.ref)<|s_nt<|k_ret<|xs_retBlock<|xs_ret ?_
  have hp:idn v=v.ref:=by unfold idn isRef;rw[if_pos (by simp only[Bool.or_eq_true,decide_eq_true_eq];omega)]
  exact xs_fin _ _ (SI.tmp 2 SI.nil) (rr [] [0]) ⟨by rw[hp];rfl,rfl⟩
 have p10:=dF c8;refine k_reg<|sL t_cmp<|sP (.bool (decide (v.kind=8)))<|s_nt<|k_cond (decide (v.kind=8)) (fun c11=>?_) (fun c11=>?_)
 .have p12:=dY c11;refine k_sr<|sP (pB g1 4)<|sL (t_load 0 (iw v.ref))<|sP (iw v.ref)<|s_nt<|k_ret<|xs_retBlock<|xs_ret ?_
  have hp:idn v=v.ref:=by unfold idn isRef;rw[if_pos (by simp only[Bool.or_eq_true,decide_eq_true_eq];omega)]
  exact xs_fin _ _ (SI.tmp 2 SI.nil) (rr [] [0]) ⟨by rw[hp];rfl,rfl⟩
 have p13:=dF c11;refine k_skip<|xs_block<|xs_then<|k_sr<|sP (iw 0)<|s_nt<|k_ret ?_
 have hp:idn v=0:=by unfold idn isRef;rw[if_neg (by simp only[Bool.or_eq_true,decide_eq_true_eq];omega)]
 exact xs_fin _ _ (SI.tmp 2 SI.nil) (rr [] [0]) ⟨by rw[hp];rfl,rfl⟩
theorem entries_s{Z:Zone}{F:List Asr}{b:Nat}{L:List Vl}{S:List Slt}(hti:TInv ⟨L,S⟩)(htw:TW ⟨L,S⟩)(hl:L.length≤100000)(hs:S.length≤100000):SF Tryz.prog 111 #[.pointer (some ⟨b,0,none⟩)] Z (tbA b L S::F) fun r Bs=>Bs=own EntT r (entsOf ⟨L,S⟩)::tbA b L S::F:=by
 refine sf_enter Tryz.func111 43 [(0,pB b 0)] (fun w0=>?_);have htl:=tents_len ⟨L,S⟩;refine k_sr<|sP (.slice none 0 0)<|s_nr<|sP (.slice none 0 0)<|s_nr<|sP (pB b 0)<|sL (t_kern (.agg zc))<|sC [0] (tbnext_s (L:=L) (S:=S) ol ol zVl) ?_
 refine sP (.tuple #[.agg (vc ((tnext ⟨L,S⟩ zVl).1)),.agg (vc ((tnext ⟨L,S⟩ zVl).2.1)),.bool ((tnext ⟨L,S⟩ zVl).2.2.1),iw ((tnext ⟨L,S⟩ zVl).2.2.2)])<|sP (.agg (vc ((tnext ⟨L,S⟩ zVl).1)))<|sP (.agg (vc ((tnext ⟨L,S⟩ zVl).2.1)))<|sP (.bool ((tnext ⟨L,S⟩ zVl).2.2.1))<|sP (iw ((tnext ⟨L,S⟩ zVl).2.2.2))<|s_alloc (.agg zc) zc (fun g1=>?_)
 refine s_alloc (.agg zc) zc (fun g2=>?_);refine s_store 1 (vc ((tnext ⟨L,S⟩ zVl).1)) ?_;refine s_store 0 (vc ((tnext ⟨L,S⟩ zVl).2.1)) ?_;refine sP (.bool ((tnext ⟨L,S⟩ zVl).2.2.1))<|sP (iw ((tnext ⟨L,S⟩ zVl).2.2.2))<|s_nt<|k_seq<|k_block ?_
 rw[next_first];refine k_mem (fun _ h=>Holds.nilS (T:=EntT) h) ?_;refine k_mem (Bs:=own EntT (.slice none 0 0) (entL [])::blkA g2 (vc ((hdE (tents ⟨L,S⟩)).2.1)) 71::blkA g1 (vc ((hdE (tents ⟨L,S⟩)).1)) 71::tbA b L S::F) (fun _ h=>h) ?_;refine k_loop (ι:=Value×List (Vl×Vl)×List (Vl×Vl)) (fun (lx,dn,rem)=>tents ⟨L,S⟩=dn++rem) (fun (lx,dn,rem)=>[(0,pB b 0),(3,lx),(4,pB g1 0),(5,pB g2 0),(6,.bool ((hdE rem).2.2.1)),(7,iw ((hdE rem).2.2.2))]) (fun (lx,dn,rem)=>own EntT lx (entL dn)::blkA g2 (vc ((hdE rem).2.1)) 71::blkA g1 (vc ((hdE rem).1)) 71::tbA b L S::F) (fun (lx,dn,rem)=>rem.length) ((.slice none 0 0),[],tents ⟨L,S⟩) rfl sA (rr [0,0,0,0] []) ?_;rintro⟨lx,dn,rem⟩ hi3;replace hi3:tents ⟨L,S⟩=dn++rem:=hi3;show SK _ _ _ _ _ [(0,pB b 0),(3,lx),(4,pB g1 0),(5,pB g2 0),(6,.bool ((hdE rem).2.2.1)),(7,iw ((hdE rem).2.2.2))] _ (own EntT lx (entL dn)::blkA g2 (vc ((hdE rem).2.1)) 71::blkA g1 (vc ((hdE rem).1)) 71::tbA b L S::F);have hel:=entL_len dn;have hdl:dn.length≤L.length+S.length:=by have h0:=congrArg List.length hi3;rw[List.length_append]at h0;have h1:(⟨L,S⟩:Tb).list.length=L.length:=rfl;have h2:(⟨L,S⟩:Tb).rest.length=S.length:=rfl;omega
 refine k_seq<|k_cut (ι:=Unit) (fun _=>True) (fun _=>[(0,pB b 0),(3,lx),(4,pB g1 0),(5,pB g2 0),(21,.bool ((hdE rem).2.2.1))]) (fun _=>own EntT lx (entL dn)::blkA g2 (vc ((hdE rem).2.1)) 71::blkA g1 (vc ((hdE rem).1)) 71::tbA b L S::F) ?_ (fun _ _=>?_)
 .refine k_reg<|sP2 (.bool ((hdE rem).2.2.1))<|s_fork 18 ((hdE rem).2.2.1) (fun c4=>?_) (fun c4=>?_)
  .refine sP (iw ((hdE rem).2.2.2))<|sL (Lt.to t_cmp (cB (decide_eq_true (hd_err rem):(decide ((hdE rem).2.2.2=0))=true)))<|sP (.bool true)<|s_nil ?_
   exact xs_cut () trivial (sub_of rfl (rQ (rQ (rQ (rQ ⟨⟨rfl,cB (by simp[c4])⟩,trivial⟩))))) (rr [0,0,0,0] [])
  refine sK<|sK<|sP (.bool false)<|s_nil ?_
  exact xs_cut () trivial (sub_of rfl (rQ (rQ (rQ (rQ ⟨⟨rfl,cB (by simp[c4])⟩,trivial⟩))))) (rr [0,0,0,0] [])
 refine k_cond ((hdE rem).2.2.1) (fun c5=>?_) (fun c5=>?_)
 .obtain ⟨p,tl,hrem⟩:=hd_some c5;refine k_st<|k_block<|k_cut (ι:=Nat) (fun _=>True) (fun jb8=>[(0,pB b 0),(3,lx),(4,pB g1 0),(5,pB g2 0),(8,pB jb8 0)]) (fun jb8=>blkA jb8 #[iw (idn ((hdE rem).1)),iw (idn ((hdE rem).2.1))] 167::own EntT lx (entL dn)::blkA g2 (vc ((hdE rem).2.1)) 71::blkA g1 (vc ((hdE rem).1)) 71::tbA b L S::F) ?_ (fun ix _=>?_)
  .refine k_held [own EntT lx (entL dn),blkA g2 (vc ((hdE rem).2.1)) 71,blkA g1 (vc ((hdE rem).1)) 71] ?_;refine h_l 0 rfl [0,0,0] (fun _=>(t_loadA 2 (vc ((hdE rem).1)))) ?_;refine h_l 2 rfl [0,0,0] (fun _=>(t_loadA 1 (vc ((hdE rem).2.1)))) ?_;refine h_stepS2 1 5 ?_ ?_
   .refine sV (fun _ h=>ident_s ((hdE rem).1))<|nH [0,0,0]<|h_stepS2 3 5 ?_ ?_
    .refine sV (fun _ h=>ident_s ((hdE rem).2.1))<|nH [0,0,0]<|h_l 4 rfl [0,0,0] (fun _=>(t_kern (.agg #[iw (idn ((hdE rem).1)),iw (idn ((hdE rem).2.1))]))) ?_
     refine h_stepS 5 ?_;refine s_alloc (.agg #[iw 0,iw 0]) #[iw 0,iw 0] (fun g6=>?_);refine nH [1,1,1]<|h_stepS 6 ?_
     refine s_store 0 #[iw (idn ((hdE rem).1)),iw (idn ((hdE rem).2.1))] ?_;refine nH [1,1,1]<|h_doneS ?_
     exact xcut g6 (rr [0,0,0,0,0] [])
    refine s_alloc (.agg #[iw 0,iw 0]) #[iw 0,iw 0] (fun g7=>?_);refine nH [1,1,1]<|h_stepS 3 ?_
    refine sV (fun _ h=>ident_s ((hdE rem).2.1))<|nH [1,1,1]<|h_l 4 rfl [1,1,1] (fun _=>(t_kern (.agg #[iw (idn ((hdE rem).1)),iw (idn ((hdE rem).2.1))]))) ?_
    refine h_stepS 6 ?_;refine s_store 0 #[iw (idn ((hdE rem).1)),iw (idn ((hdE rem).2.1))] ?_;refine nH [1,1,1]<|h_doneS ?_
    exact xcut g7 (rr [0,0,0,0,0] [])
   refine s_alloc (.agg #[iw 0,iw 0]) #[iw 0,iw 0] (fun g8=>?_);refine nH [1,1,1]<|h_stepS 1 ?_
   refine sV (fun _ h=>ident_s ((hdE rem).1))<|nH [1,1,1]<|h_stepS 3 ?_
   refine sV (fun _ h=>ident_s ((hdE rem).2.1))<|nH [1,1,1]<|h_l 4 rfl [1,1,1] (fun _=>(t_kern (.agg #[iw (idn ((hdE rem).1)),iw (idn ((hdE rem).2.1))]))) ?_
   refine h_stepS 6 ?_;refine s_store 0 #[iw (idn ((hdE rem).1)),iw (idn ((hdE rem).2.1))] ?_;refine nH [1,1,1]<|h_doneS ?_
   exact xcut g8 (rr [0,0,0,0,0] [])
  revert ix;intro jb8
  show SK _ _ _ _ _ [(0,pB b 0),(3,lx),(4,pB g1 0),(5,pB g2 0),(8,pB jb8 0)] _ (blkA jb8 #[iw (idn ((hdE rem).1)),iw (idn ((hdE rem).2.1))] 167::own EntT lx (entL dn)::blkA g2 (vc ((hdE rem).2.1)) 71::blkA g1 (vc ((hdE rem).1)) 71::tbA b L S::F);refine k_seq<|k_sr<|sL (t_loadA 0 #[iw (idn ((hdE rem).1)),iw (idn ((hdE rem).2.1))])<|sL (t_kern (.agg #[iw 0,iw 0]))<|sL (t_eqS (fun w=>(eqEntT (⟨(idn ((hdE rem).1)),(idn ((hdE rem).2.1))⟩:Ent) (⟨0,0⟩:Ent) w).2))<|s_nt<|k_cond (!(decide ((⟨(idn ((hdE rem).1)),(idn ((hdE rem).2.1))⟩:Ent)=(⟨0,0⟩:Ent)))) (fun c9=>?_) (fun c9=>?_)
  .have c10:=not_t c9;have p11:=dF c10;refine k_reg<|sP lx<|sL (t_loadA 0 #[iw (idn ((hdE rem).1)),iw (idn ((hdE rem).2.1))])<|s_buildSlice (e:=167) [(0,.agg #[iw (idn ((hdE rem).1)),iw (idn ((hdE rem).2.1))])] #[iw (idn ((hdE rem).1)),iw (idn ((hdE rem).2.1))] (fun g12=>?_) (hb:=by kernel_rfl)
   refine s_append (L:=(entL dn)) 2 EntT_ok Tryz.underlying98 (.lit 0 EntT_ok [(⟨(idn ((hdE rem).1)),(idn ((hdE rem).2.1))⟩:Ent)]) (by show _*16≤_;(try simp only[lnm]);omega) ol (fun v13=>?_);refine sP v13<|s_nt<|k_reg<|sP (pB b 0)<|sL (t_loadA 4 (vc ((hdE rem).1)))<|sC [5] (tbnext_s (L:=L) (S:=S) ol ol ((hdE rem).1)) ?_
   refine sP (.tuple #[.agg (vc ((tnext ⟨L,S⟩ ((hdE rem).1)).1)),.agg (vc ((tnext ⟨L,S⟩ ((hdE rem).1)).2.1)),.bool ((tnext ⟨L,S⟩ ((hdE rem).1)).2.2.1),iw ((tnext ⟨L,S⟩ ((hdE rem).1)).2.2.2)])<|sP (.agg (vc ((tnext ⟨L,S⟩ ((hdE rem).1)).1)))<|sP (.agg (vc ((tnext ⟨L,S⟩ ((hdE rem).1)).2.1)))<|sP (.bool ((tnext ⟨L,S⟩ ((hdE rem).1)).2.2.1))<|sP (iw ((tnext ⟨L,S⟩ ((hdE rem).1)).2.2.2))<|s_store 5 (vc ((tnext ⟨L,S⟩ ((hdE rem).1)).1)) ?_
   refine s_store 4 (vc ((tnext ⟨L,S⟩ ((hdE rem).1)).2.1)) ?_;refine sP (.bool ((tnext ⟨L,S⟩ ((hdE rem).1)).2.2.1))<|sP (iw ((tnext ⟨L,S⟩ ((hdE rem).1)).2.2.2))<|s_nil<|xs_block ?_
   have hn:tnext ⟨L,S⟩ ((hdE rem).1)=hdE tl:=by rw[hrem];exact next_step hti htw (by show L.length≤_;omega) (pre:=dn) (by rw[hi3,hrem])
   rw[hn];have hE:(⟨(idn ((hdE rem).1)),(idn ((hdE rem).2.1))⟩:Ent)=(⟨idn p.1,idn p.2⟩:Ent):=by rw[hrem];rfl
   have hes:((entL dn)++[(⟨(idn ((hdE rem).1)),(idn ((hdE rem).2.1))⟩:Ent)])=entL (dn++[p]):=by rw[entL_step,if_pos (by rw[←hE];exact dF c10),←hE]
   refine xs_mem (Bs:=tbA b L S::blkA g12 #[iw (idn ((hdE rem).1)),iw (idn ((hdE rem).2.1))] 167::blkA jb8 #[iw (idn ((hdE rem).1)),iw (idn ((hdE rem).2.1))] 167::own EntT v13 (entL (dn++[p]))::blkA g2 (vc ((hdE tl).2.1)) 71::blkA g1 (vc ((hdE tl).1)) 71::F) (fun _ h=>by rw[hes]at h;exact h) ?_;exact xs_round (v13,dn++[p],tl) (by show tl.length<rem.length;rw[hrem];simp) (by show _=(dn++[p])++tl;rw[hi3,hrem];simp) sA (rr [3,3,3,0] [4,4])
  have c14:=not_f c9;have p15:=dY c14;refine k_st<|k_reg<|sP (pB b 0)<|sL (t_loadA 3 (vc ((hdE rem).1)))<|sC [4] (tbnext_s (L:=L) (S:=S) ol ol ((hdE rem).1)) ?_
  refine sP (.tuple #[.agg (vc ((tnext ⟨L,S⟩ ((hdE rem).1)).1)),.agg (vc ((tnext ⟨L,S⟩ ((hdE rem).1)).2.1)),.bool ((tnext ⟨L,S⟩ ((hdE rem).1)).2.2.1),iw ((tnext ⟨L,S⟩ ((hdE rem).1)).2.2.2)])<|sP (.agg (vc ((tnext ⟨L,S⟩ ((hdE rem).1)).1)))<|sP (.agg (vc ((tnext ⟨L,S⟩ ((hdE rem).1)).2.1)))<|sP (.bool ((tnext ⟨L,S⟩ ((hdE rem).1)).2.2.1))<|sP (iw ((tnext ⟨L,S⟩ ((hdE rem).1)).2.2.2))<|s_store 4 (vc ((tnext ⟨L,S⟩ ((hdE rem).1)).1)) ?_
  refine s_store 3 (vc ((tnext ⟨L,S⟩ ((hdE rem).1)).2.1)) ?_;refine sP (.bool ((tnext ⟨L,S⟩ ((hdE rem).1)).2.2.1))<|sP (iw ((tnext ⟨L,S⟩ ((hdE rem).1)).2.2.2))<|s_nil<|xs_block ?_
  have hn:tnext ⟨L,S⟩ ((hdE rem).1)=hdE tl:=by rw[hrem];exact next_step hti htw (by show L.length≤_;omega) (pre:=dn) (by rw[hi3,hrem])
  rw[hn];have hE:(⟨(idn ((hdE rem).1)),(idn ((hdE rem).2.1))⟩:Ent)=(⟨idn p.1,idn p.2⟩:Ent):=by rw[hrem];rfl
  have hes:(entL dn)=entL (dn++[p]):=by rw[entL_step,if_neg (fun hc=>hc (by rw[←hE];exact dY c14))]
  refine xs_mem (Bs:=tbA b L S::blkA jb8 #[iw (idn ((hdE rem).1)),iw (idn ((hdE rem).2.1))] 167::own EntT lx (entL (dn++[p]))::blkA g2 (vc ((hdE tl).2.1)) 71::blkA g1 (vc ((hdE tl).1)) 71::F) (fun _ h=>by rw[hes]at h;exact h) ?_;exact xs_round (lx,dn++[p],tl) (by show tl.length<rem.length;rw[hrem];simp) (by show _=(dn++[p])++tl;rw[hi3,hrem];simp) sA (rr [2,2,2,0] [4])
 have hrem:=hd_none c5;refine k_exit<|xs_exit<|xs_exit<|xs_here<|xs_then<|k_sr<|sP2 lx<|s_nt<|k_ret ?_
 have hend:entL dn=entsOf ⟨L,S⟩:=by unfold entsOf;rw[hi3,hrem,List.append_nil]
 rw[hend];exact xs_fin _ _ (SI.tmp 2 SI.nil) (rr [0,2] [2,2]) rfl
theorem obsize_s{Z:Zone}{F:List Asr}{q:Nat×Nat}{o:Hob}(hl:o.tab.list.length≤100000)(hs:o.tab.rest.length≤100000)(hv:o.vals.length≤100000):SF Tryz.prog 109 #[ptrV q.1] Z (obP q o::F) fun r Bs=>r=iw (obSize o)∧Bs=obP q o::F:=by
 refine sf_enter Tryz.func109 31 [(0,pB q.1 0)] (fun w0=>?_);refine k_memX (fun H h=>ob_open (h.re [0] [])) (fun v1 hw=>?_);have htz:0≤tabSize ⟨o.tab.list,o.tab.rest⟩∧tabSize ⟨o.tab.list,o.tab.rest⟩≤700000:=by unfold tabSize;dsimp only;omega
 refine k_sr<|sP (iw 0)<|s_nt<|k_seq<|k_sr<|sP3 (pB q.1 0)<|sL (t_load 0 (iw o.kind))<|s_nt<|k_block<|k_sr<|sL t_cmp<|sP (.bool (decide (o.kind=4)))<|s_nt<|k_cond (decide (o.kind=4)) (fun c2=>?_) (fun c2=>?_)
 .have p3:=dY c2;refine k_sr<|sP2 (pB q.1 0)<|sP (pB q.1 3)<|sL (Lt.to (v':=ptrV q.2) (t_load 0 (tabV q o)) (by unfold tabV;rw[if_pos (dY c2)]))<|s_mem (fun _ h=>tabO_open (dY c2) (h.re [2] [])) ?_
  refine sC [0] (tbsize_s (L:=o.tab.list) (S:=o.tab.rest) ol ol) ?_;refine sL (t_add 8 (tabSize ⟨o.tab.list,o.tab.rest⟩) ol)<|sP (iw (8+(tabSize ⟨o.tab.list,o.tab.rest⟩)))<|s_nt<|k_ret<|xs_retBlock<|xs_ret<|xs_mem (fun _ h=>tabO_shut (T:=o.tab) (dY c2) (h.re [0] [])) ?_
  refine xs_mem (Bs:=tabO q o::blkA q.1 #[iw o.kind,iw o.tag,sw o.name,(tabV q o),iw o.mt.kind,iw o.mt.p,iw o.mt.q,sw o.mt.str,iw o.mt.ref,v1] 123::own VlT v1 o.vals::F) (fun _ h=>h) ?_;refine xs_mem (fun _ h=>ob_shut (o:=o) (h.re [1,1,0] [])) ?_;have hp:obSize o=(8+(tabSize ⟨o.tab.list,o.tab.rest⟩)):=by unfold obSize;rw[if_pos (dY c2)]
  exact xs_fin _ _ (SI.tmp 2 SI.nil) (rr [0] []) ⟨by rw[hp];rfl,rfl⟩
 have p4:=dF c2;refine k_sr<|sL t_cmp<|sP (.bool (decide (o.kind=5)))<|s_nt<|k_cond (decide (o.kind=5)) (fun c5=>?_) (fun c5=>?_)
 .have p6:=dY c5;refine k_sr<|sP2 (pB q.1 0)<|sP (pB q.1 9)<|sL (t_load 0 v1)<|sL (t_len VlT_ok Tryz.underlying28 (.own 1))<|sL (t_add 8 (o.vals.length:Int) ol)<|sP (iw (8+(o.vals.length:Int)))<|s_nt<|k_ret<|xs_retBlock<|xs_ret<|xs_mem (fun _ h=>ob_shut (o:=o) (h.re [0,0,0] [])) ?_
  have hp:obSize o=(8+(o.vals.length:Int)):=by unfold obSize;rw[if_neg (dF c2),if_pos (dY c5)]
  exact xs_fin _ _ (SI.tmp 2 SI.nil) (rr [0] []) ⟨by rw[hp];rfl,rfl⟩
 have p7:=dF c5;refine k_sr<|sL t_cmp<|sP (.bool (decide (o.kind=7)))<|s_nt<|k_cond (decide (o.kind=7)) (fun c8=>?_) (fun c8=>?_)
 .have p9:=dY c8;refine k_sr<|sP2 (pB q.1 0)<|sP (pB q.1 9)<|sL (t_load 0 v1)<|sL (t_len VlT_ok Tryz.underlying28 (.own 1))<|sL (t_add 16 (o.vals.length:Int) ol)<|sP (iw (16+(o.vals.length:Int)))<|s_nt<|k_ret<|xs_retBlock<|xs_ret<|xs_mem (fun _ h=>ob_shut (o:=o) (h.re [0,0,0] [])) ?_
  have hp:obSize o=(16+(o.vals.length:Int)):=by unfold obSize;rw[if_neg (dF c2),if_neg (dF c5),if_pos (dY c8)]
  exact xs_fin _ _ (SI.tmp 2 SI.nil) (rr [0] []) ⟨by rw[hp];rfl,rfl⟩
 have p10:=dF c8;refine k_skip<|xs_block<|xs_then<|k_sr<|sP (iw 12)<|s_nt<|k_ret<|xs_mem (fun _ h=>ob_shut (o:=o) (h.re [0,0,0] [])) ?_
 have hp:obSize o=12:=by unfold obSize;rw[if_neg (dF c2),if_neg (dF c5),if_neg (dF c8)]
 exact xs_fin _ _ (SI.tmp 2 SI.nil) (rr [0] []) ⟨by rw[hp];rfl,rfl⟩
theorem ob_bound{st:Hst}{n:Nat}(hsm:HSm n st)(hn:n≤300){id:Int}{o:Hob}(ho:st.get id=some o):o.tab.list.length≤90300∧o.tab.rest.length≤300∧o.vals.length≤320:=by
 obtain⟨h1,h2,h3⟩:=hsm.obs o (get_mem ho).1;have h4:n*(n+1)≤300*301:=Nat.mul_le_mul om om;exact⟨by omega,by omega,by omega⟩
theorem obsize_bound{st:Hst}{n:Nat}(hsm:HSm n st)(hn:n≤300){id:Int}{o:Hob}(ho:st.get id=some o):0≤obSize o∧obSize o≤200000:=by
 obtain⟨h1,h2,h3⟩:=ob_bound hsm hn ho;unfold obSize tabSize;repeat' split
 all_goals omega
theorem hids_s{Z:Zone}{F:List Asr}{b:Nat}{st:Hst}{n:Nat}(hsm:HSm n st)(hn:n≤300):SF Tryz.prog 23 #[.pointer (some ⟨b,0,none⟩)] Z (hpA b st::F) fun r Bs=>Bs=own iTy r (hids st)::hpA b st::F:=by
 refine sf_enter Tryz.func23 11 [(0,pB b 0)] (fun w0=>?_);refine k_memX (fun H h=>hpA_open (h.re [0] [])) (fun ps1 _=>?_);refine k_fact (fun H h=>hp_facts (h.re [0] [])) (fun hf2=>?_);obtain⟨hi3,ha4⟩:=hf2;refine k_mem3 (fun H h=>hp_open (h.re [0] [])) (fun mb5 tb6 tm7 hw=>?_);obtain⟨hi8,ha9,ht10⟩:=hw;refine k_fact (fun H h=>(h.mp (i:=1) rfl).nodup) (fun hnd0=>?_);refine k_sr<|sP nS<|s_nt<|k_seq<|k_sr<|sP (pB b 0)<|sP (.bool false)<|s_nt<|k_false<|k_st<|k_sr<|sP3 (pB b 0)<|sL (t_load 0 (.map (some mb5)))<|s_pcall (fun _ h=>keys_s mb5) ?_
 rintro _ _ ⟨g11,rfl,rfl⟩;refine s_call [0,1] (sorted_s (ps:=ps1) (keys_wf ha9 (by have:=hsm.len;omega)) (by have:=ha9.len;have:=count_le st;have:=hsm.len;omega)) ?_;rintro v12 _ rfl;refine sP v12<|s_nt<|k_ret<|xs_mem (fun _ h=>hp_shut (st:=st) (n:=(st.objs.length:Int)) ⟨⟨hi8,ha9,ht10⟩,rfl⟩ (h.re [2,1,1,1] [])) ?_
 refine xs_mem (fun _ h=>hpA_shut (h.re [0] [])) ?_;have hk:(srt (ps1.map Prod.fst))=hids st:=keys_srt ha9 hnd0;rw[hk];exact xs_fin _ _ (SI.tmp 2 SI.nil) (rr [1,0] []) rfl
end Go.Proofs.YtmhpcebiamkciaaGreat
end
section
set_option linter.unusedSimpArgs false
set_option linter.unusedVariables false
set_option maxRecDepth 100000
set_option maxHeartbeats 2000000
namespace Go.Proofs.YtmhpcebiamkciaaGreat
open Go.Hp Go.J Go.S
open Go.Mem (Ty KTy blk elemAt pre suf blk_pre blk_suf aget aset strK aggDesc)
open Go.Mem (adel apos aget_aset aget_adel)
theorem hobject_s{Z:Zone}{F:List Asr}{b:Nat}{st:Hst}{n:Nat}(hsm:HSm n st)(hn:n≤300)(hw:HW st)(id weak:Int):SF Tryz.prog 51 #[.pointer (some ⟨b,0,none⟩),iw id,iw weak] Z (hpA b st::F) fun r Bs=>∃rv ev,r=.tuple #[.agg #[iw (hoId st id),iw (hoSz st id),iw (hoWk st id weak),rv,ev],.bool (halive st id)]∧Bs=own iTy rv (hrefs st id)::own EntT ev (hents st id)::hpA b st::F:=by
 refine sf_enter Tryz.func51 73 [(0,pB b 0),(1,iw id),(2,iw weak)] (fun w0=>?_);refine k_sr<|s_alloc (.agg #[iw 0,iw 0,iw 0,(.slice none 0 0),(.slice none 0 0)]) #[iw 0,iw 0,iw 0,(.slice none 0 0),(.slice none 0 0)] (fun g1=>?_)
 refine sP (.bool false)<|s_nt<|k_seq<|k_sr<|sP (pB b 0)<|sP (iw id)<|sC [1] (halive_s (st:=st) id) ?_
 refine sP (.bool (!(halive st id)))<|s_nt<|k_cond (!(halive st id)) (fun c2=>?_) (fun c2=>?_)
 .have c3:=not_t c2;refine k_sr<|sL (t_kern (.agg #[iw 0,iw 0,iw 0,(.slice none 0 0),(.slice none 0 0)]))<|s_store 1 #[iw 0,iw 0,iw 0,(.slice none 0 0),(.slice none 0 0)] ?_
  refine sP (.bool false)<|s_nt<|k_ret<|xs_ret<|xs_mem (fun _ h=>Holds.nilS (T:=EntT) h) ?_
  refine xs_mem (fun _ h=>Holds.nilS (T:=iTy) h) ?_;have hg0:st.get id=none:=by have h0:=c3;unfold halive at h0;cases hg:st.get id with|none=>rfl|some o=>rw[hg]at h0;cases h0
  have ho:=obj_none hg0 weak;exact xs_fin [.agg #[iw 0,iw 0,iw 0,(.slice none 0 0),(.slice none 0 0)],.bool false] (own iTy (.slice none 0 0) []::own EntT (.slice none 0 0) []::hpA b st::F) (SI.agg 6 100 3 (SI.tmp 7 SI.nil)) (rr [0,0,0] [3]) ⟨(.slice none 0 0),(.slice none 0 0),by rw[ho.1,ho.2.1,ho.2.2.1,ho.2.2.2.1];rfl,by rw[ho.2.2.2.2.1,ho.2.2.2.2.2]⟩
 have c4:=not_f c2;refine k_st<|k_seq<|k_memX (fun H h=>hpA_open (h.re [0] [])) (fun ps5 _=>?_)
 refine k_fact (fun H h=>hp_facts (h.re [0] [])) (fun hf6=>?_);obtain⟨hi7,ha8⟩:=hf6;refine k_mem3 (fun H h=>hp_open (h.re [0] [])) (fun mb9 tb10 tm11 hw=>?_);obtain⟨hi12,ha13,ht14⟩:=hw;refine k_reg<|sP3 (pB b 0)<|sL (t_load 0 (.map (some mb9)))<|sP (iw id) ?_
 rcases get_cases ha13 id with ⟨hg15,hq16⟩|⟨o17,q18,ho19,hq20⟩
 .exfalso;simp_all[halive]
 refine sL (Lt.to (v':=ptrV q18.1) (t_lookup 1 intOk Tryz.underlying94 (.pointer none) id) (by rw[hq20];rfl))<|sP (pB q18.1 0)<|s_nr<|sP (iw id)<|sP (pB q18.1 0)<|s_fact (fun H h=>(h.mp (i:=1) rfl).nodup) (fun hnd21=>?_)
 obtain⟨hz1,hz2,hz3⟩:=ob_bound hsm hn ho19;refine s_mem (fun _ h=>all_take hq20 ho19 (h.re [3] [])) ?_;refine sC [0] (obsize_s (q:=q18) (o:=o17) om om om) ?_;refine s_mem (fun _ h=>all_back hnd21 hq20 ho19 h) ?_;refine sL (t_kern (.agg #[iw id,iw (obSize o17),iw 0,(.slice none 0 0),(.slice none 0 0)]))<|s_alloc (.agg #[iw 0,iw 0,iw 0,(.slice none 0 0),(.slice none 0 0)]) #[iw 0,iw 0,iw 0,(.slice none 0 0),(.slice none 0 0)] (fun g22=>?_)
 refine s_store 0 #[iw id,iw (obSize o17),iw 0,(.slice none 0 0),(.slice none 0 0)] ?_;refine s_nt<|k_seq<|k_seq ?_
 obtain⟨hb1,hb2,hb3⟩:=ob_bound hsm hn ho19;refine k_memX (fun H h=>all_focus hq20 ho19 (h.re [1] [])) (fun v23 _=>?_);refine k_held [blkA q18.1 #[iw o17.kind,iw o17.tag,sw o17.name,(tabV q18 o17),iw o17.mt.kind,iw o17.mt.p,iw o17.mt.q,sw o17.mt.str,iw o17.mt.ref,v23] 123,own VlT v23 o17.vals,blkA g22 #[iw id,iw (obSize o17),iw 0,(.slice none 0 0),(.slice none 0 0)] 100,blkA b #[.map (some mb9),iw (st.objs.length:Int),.map (some tb10)] 97,mpA iK oV mb9 ps5,mpA iK bV tb10 tm11,blkA g1 #[iw 0,iw 0,iw 0,(.slice none 0 0),(.slice none 0 0)] 100] ?_;refine hp_ 0 [0,0,2,2,2,2,2] (pB q18.1 0) ?_;refine hp_ 1 [0,0,2,2,2,2,2] (pB q18.1 0) ?_;refine hp_ 2 [0,0,2,2,2,2,2] (pB q18.1 4) ?_;refine h_l 3 rfl [0,0,2,2,2,2,2] (fun _=>(t_loadA 0 (vc o17.mt))) ?_;refine hp_ 5 [0,0,2,2,2,2,2] (pB q18.1 0) ?_;refine hp_ 6 [0,0,2,2,2,2,2] (pB q18.1 0) ?_;refine hp_ 7 [0,0,2,2,2,2,2] (pB q18.1 9) ?_;refine h_l 8 rfl [0,0,2,2,2,2,2] (fun _=>(t_load 0 v23)) ?_;refine hp_ 11 [0,0,2,2,2,2,2] (iw 0) ?_;refine h_stepS 4 ?_;refine s_buildSlice (e:=71) [(0,.agg (vc o17.mt))] (vc o17.mt) (fun g24=>?_) (hb:=by kernel_rfl);refine nH [1,1,3,3,3,3,3]<|h_stepS 9 ?_
 refine s_mem (fun _ h=>Holds.slice 0 h VlT_ok [o17.mt]) ?_;refine s_append (L:=[o17.mt]) 0 VlT_ok Tryz.underlying28 (.own 2) (by show _*48≤_;(try simp only[lnm]);omega) ol (fun v25=>?_);refine nH [1,1,3,3,3,3,3]<|h_stepS 10 ?_
 refine sL (t_len VlT_ok Tryz.underlying28 (.own 0))<|nH [1,1,3,3,3,3,3]<|h_doneS ?_
 refine xs_then<|k_block<|k_fact (fun H h=>(h.mp (i:=7) rfl).nodup) (fun hnd26=>?_)
 refine k_mem (fun _ h=>(put_same ho19)▸all_unfocus (o':=o17) hnd26 hq20 ho19 (ob_shut (o:=o17) (h.re [1,1,1,1] []))) ?_;refine k_mem (Bs:=allP ps5 st::own VlT v25 ([o17.mt]++o17.vals)::blkA g22 #[iw id,iw (obSize o17),iw 0,(.slice none 0 0),(.slice none 0 0)] 100::blkA b #[.map (some mb9),iw (st.objs.length:Int),.map (some tb10)] 97::mpA iK oV mb9 ps5::mpA iK bV tb10 tm11::blkA g1 #[iw 0,iw 0,iw 0,(.slice none 0 0),(.slice none 0 0)] 100::F) (fun _ h=>h) ?_;refine k_mem (fun _ h=>hp_shut (st:=st) (n:=(st.objs.length:Int)) ⟨⟨hi12,ha13,ht14⟩,rfl⟩ (h.re [3,3,3,0] [])) ?_;refine k_mem (fun _ h=>Holds.nilS (T:=iTy) h) ?_;refine k_mem (Bs:=own iTy (.slice none 0 0) (refsL (o17.mt::o17.vals) 0)::hpP b st ps5::own VlT v25 (o17.mt::o17.vals)::blkA g22 #[iw id,iw (obSize o17),iw 0,(.slice none 0 0),(.slice none 0 0)] 100::blkA g1 #[iw 0,iw 0,iw 0,(.slice none 0 0),(.slice none 0 0)] 100::F) (fun _ h=>h) ?_;have hll:(o17.mt::o17.vals).length=o17.vals.length+1:=rfl;refine k_loop (ι:=Value×Nat) (fun (rx,i)=>i≤(o17.mt::o17.vals).length) (fun (rx,i)=>[(2,iw weak),(6,pB g1 0),(8,pB q18.1 0),(9,pB g22 0),(36,v25),(37,iw ((o17.mt::o17.vals).length:Int)),(38,iw (i:Int))]) (fun (rx,i)=>own iTy rx (refsL (o17.mt::o17.vals) i)::hpP b st ps5::own VlT v25 (o17.mt::o17.vals)::blkA g22 #[iw id,iw (obSize o17),iw 0,rx,(.slice none 0 0)] 100::blkA g1 #[iw 0,iw 0,iw 0,(.slice none 0 0),(.slice none 0 0)] 100::F) (fun (rx,i)=>(o17.mt::o17.vals).length-i) ((.slice none 0 0),0) (Nat.zero_le _) (sub_of rfl (rQ (rQ (rQ (rQ (rQ ⟨⟨rfl,cI (by first|rfl|(simp only[lnm];omega))⟩,(rQ trivial)⟩)))))) (rr [0,0,0,0,0] []) ?_;rintro⟨rx,i⟩ hi27;replace hi27:i≤(o17.mt::o17.vals).length:=hi27;show SK _ _ _ _ _ [(2,iw weak),(6,.pointer (some ⟨g1,0,none⟩)),(8,.pointer (some ⟨q18.1,0,none⟩)),(9,.pointer (some ⟨g22,0,none⟩)),(36,v25),(37,iw ((o17.mt::o17.vals).length:Int)),(38,iw (i:Int))] _ (own iTy rx (refsL (o17.mt::o17.vals) i)::hpP b st ps5::own VlT v25 (o17.mt::o17.vals)::blkA g22 #[iw id,iw (obSize o17),iw 0,rx,(.slice none 0 0)] 100::blkA g1 #[iw 0,iw 0,iw 0,(.slice none 0 0),(.slice none 0 0)] 100::F);have hrl:=refsL_len (o17.mt::o17.vals) i;refine k_sr<|sL t_cmp<|s_nt<|k_seq<|k_cond (decide ((i:Int)<((o17.mt::o17.vals).length:Int))) (fun c28=>?_) (fun c28=>?_)
 .have p29:=dY c28;refine k_st<|k_seq<|k_block<|k_sr<|sL (t_index VlT_ok Tryz.underlying28 (.own 2) (i:Int) i om ol om) ?_
  obtain⟨y30,hy31⟩:∃y,(o17.mt::o17.vals)[i]?=some y:=⟨_,List.getElem?_eq_getElem ol⟩;refine sL (t_loadE VlT_ok (.own 2) hy31)<|s_alloc (.agg zc) zc (fun g32=>?_)
  refine s_store 0 (vc y30) ?_;refine s_nr<|sL (t_loadA 0 (vc y30))<|sV (fun _ h=>ident_s y30)<|sL t_cmp<|s_nt<|k_cond (decide ((idn y30)≠0)) (fun c33=>?_) (fun c33=>?_)
  .have p34:=dY c33;refine k_held [blkA g32 (vc y30) 71,own VlT v25 (o17.mt::o17.vals),blkA g1 #[iw 0,iw 0,iw 0,(.slice none 0 0),(.slice none 0 0)] 100] ?_;refine hp_ 0 [0,2,3] (pB g22 3) ?_;refine h_l 2 rfl [0,2,3] (fun _=>(t_loadA 0 (vc y30))) ?_;refine h_stepS2 1 3 ?_ ?_
   .refine sL (t_load 4 rx)<|nH [0,2,3]<|h_stepS 3 ?_
    refine sV (fun _ h=>ident_s y30)<|nH [0,2,3]<|h_stepS 4 ?_
    refine s_buildSlice (e:=3) [(0,iw (idn y30))] #[iw (idn y30)] (fun g35=>?_) (hb:=by kernel_rfl);refine nH [1,3,4]<|h_stepS 5 ?_
    refine s_append (L:=(refsL (o17.mt::o17.vals) i)) 2 iTy_ok Tryz.underlying23 (.lit 0 iTy_ok [(idn y30)]) (by show _*8≤_;(try simp only[lnm]);omega) ol (fun v36=>?_);refine nH [1,3,4]<|hp_ 6 [1,3,4] (pB g22 3) ?_
    refine h_stepS 7 ?_;refine sF 2 (fun hf37=>?_);refine s_store (u:=v36) (m:=1) 5 #[iw id,iw (obSize o17),iw 0,v36,(.slice none 0 0)] ?_ (hm:=by (obtain⟨_,_,e⟩:=hf37;rw[e];rfl)) (h1:=by (obtain⟨_,_,e⟩:=hf37;rw[e];rfl)) (ha':=by (obtain⟨_,_,e⟩:=hf37;rw[e];rfl));refine nH [1,3,4]<|h_doneS ?_
    refine xs_block<|xs_then<|k_reg<|sL (t_add (i:Int) 1 ol)<|sP (iw ((i:Int)+1))<|s_nil ?_
    have hst:=refsL_step hy31;rw[if_pos (dY c33)]at hst;rw[←hst];exact xs_round (v36,i+1) (by show (o17.mt::o17.vals).length-(i+1)<(o17.mt::o17.vals).length-i;omega) (by show i+1≤(o17.mt::o17.vals).length;omega) sA (rr [2,2,2,2,2] [5,5])
   refine sV (fun _ h=>ident_s y30)<|nH [0,2,3]<|h_stepS2 1 4 ?_ ?_
   .refine sL (t_load 4 rx)<|nH [0,2,3]<|h_stepS 4 ?_
    refine s_buildSlice (e:=3) [(0,iw (idn y30))] #[iw (idn y30)] (fun g38=>?_) (hb:=by kernel_rfl);refine nH [1,3,4]<|h_stepS 5 ?_
    refine s_append (L:=(refsL (o17.mt::o17.vals) i)) 2 iTy_ok Tryz.underlying23 (.lit 0 iTy_ok [(idn y30)]) (by show _*8≤_;(try simp only[lnm]);omega) ol (fun v39=>?_);refine nH [1,3,4]<|hp_ 6 [1,3,4] (pB g22 3) ?_
    refine h_stepS 7 ?_;refine sF 2 (fun hf40=>?_);refine s_store (u:=v39) (m:=1) 5 #[iw id,iw (obSize o17),iw 0,v39,(.slice none 0 0)] ?_ (hm:=by (obtain⟨_,_,e⟩:=hf40;rw[e];rfl)) (h1:=by (obtain⟨_,_,e⟩:=hf40;rw[e];rfl)) (ha':=by (obtain⟨_,_,e⟩:=hf40;rw[e];rfl));refine nH [1,3,4]<|h_doneS ?_
    refine xs_block<|xs_then<|k_reg<|sL (t_add (i:Int) 1 ol)<|sP (iw ((i:Int)+1))<|s_nil ?_
    have hst:=refsL_step hy31;rw[if_pos (dY c33)]at hst;rw[←hst];exact xs_round (v39,i+1) (by show (o17.mt::o17.vals).length-(i+1)<(o17.mt::o17.vals).length-i;omega) (by show i+1≤(o17.mt::o17.vals).length;omega) sA (rr [2,2,2,2,2] [5,5])
   refine s_buildSlice (e:=3) [(0,iw (idn y30))] #[iw (idn y30)] (fun g41=>?_) (hb:=by kernel_rfl);refine nH [1,3,4]<|h_stepS 1 ?_
   refine sL (t_load 5 rx)<|nH [1,3,4]<|h_stepS 5 ?_
   refine s_append (L:=(refsL (o17.mt::o17.vals) i)) 2 iTy_ok Tryz.underlying23 (.lit 0 iTy_ok [(idn y30)]) (by show _*8≤_;(try simp only[lnm]);omega) ol (fun v42=>?_);refine nH [1,3,4]<|hp_ 6 [1,3,4] (pB g22 3) ?_
   refine h_stepS 7 ?_;refine sF 2 (fun hf43=>?_);refine s_store (u:=v42) (m:=1) 5 #[iw id,iw (obSize o17),iw 0,v42,(.slice none 0 0)] ?_ (hm:=by (obtain⟨_,_,e⟩:=hf43;rw[e];rfl)) (h1:=by (obtain⟨_,_,e⟩:=hf43;rw[e];rfl)) (ha':=by (obtain⟨_,_,e⟩:=hf43;rw[e];rfl));refine nH [1,3,4]<|h_doneS ?_
   refine xs_block<|xs_then<|k_reg<|sL (t_add (i:Int) 1 ol)<|sP (iw ((i:Int)+1))<|s_nil ?_
   have hst:=refsL_step hy31;rw[if_pos (dY c33)]at hst;rw[←hst];exact xs_round (v42,i+1) (by show (o17.mt::o17.vals).length-(i+1)<(o17.mt::o17.vals).length-i;omega) (by show i+1≤(o17.mt::o17.vals).length;omega) sA (rr [2,2,2,2,2] [5,5])
  have p44:=Decidable.not_not.1 (dF c33);refine k_skip<|xs_block<|xs_then<|k_reg<|sL (t_add (i:Int) 1 ol)<|sP (iw ((i:Int)+1))<|s_nil ?_
  have hst:=refsL_step hy31;rw[if_neg (dF c33)]at hst;rw[←hst];exact xs_round (rx,i+1) (by show (o17.mt::o17.vals).length-(i+1)<(o17.mt::o17.vals).length-i;omega) (by show i+1≤(o17.mt::o17.vals).length;omega) sA (rr [1,1,1,1,1] [5])
 have p45:=dF c28;refine k_exit<|xs_exit<|xs_exit<|xs_here<|xs_then<|k_seq<|k_sr<|sP3 (pB q18.1 0)<|s_mem3 (fun H h=>hp_open (h.re [1] [])) (fun mb46 tb47 tm48 hw=>?_)
 obtain⟨hi49,ha50,ht51⟩:=hw;refine s_memX (fun H h=>all_focus hq20 ho19 (h.re [3] [])) (fun v52 _=>?_);refine sL (t_load 0 (iw o17.kind))<|sL t_cmp<|s_nt<|k_cond (decide (o17.kind=4)) (fun c53=>?_) (fun c53=>?_)
 .have p54:=dY c53;refine k_seq<|k_cut (ι:=Unit) (fun _=>True) (fun _=>[(2,iw weak),(6,pB g1 0),(8,pB q18.1 0),(9,pB g22 0),(63,.bool ((decide ((0:Int)≤weak))&&(decide (weak≤3))))]) (fun _=>blkA q18.1 #[iw o17.kind,iw o17.tag,sw o17.name,(tabV q18 o17),iw o17.mt.kind,iw o17.mt.p,iw o17.mt.q,sw o17.mt.str,iw o17.mt.ref,v52] 123::own VlT v52 o17.vals::tabO q18 o17::holeP ps5 st id::blkA b #[.map (some mb46),iw (st.objs.length:Int),.map (some tb47)] 97::mpA iK oV mb46 ps5::mpA iK bV tb47 tm48::own iTy rx (refsL (o17.mt::o17.vals) i)::own VlT v25 (o17.mt::o17.vals)::blkA g22 #[iw id,iw (obSize o17),iw 0,rx,(.slice none 0 0)] 100::blkA g1 #[iw 0,iw 0,iw 0,(.slice none 0 0),(.slice none 0 0)] 100::F) ?_ (fun _ _=>?_)
  .refine k_reg<|sP (iw weak)<|sL t_cmp<|sP (.bool (decide ((0:Int)≤weak)))<|s_fork 60 (decide ((0:Int)≤weak)) (fun c55=>?_) (fun c55=>?_)
   .have p56:=dY c55;refine sP (iw weak)<|sL t_cmp<|sP (.bool (decide (weak≤3)))<|s_nil ?_
    exact xs_cut () trivial (sub_of rfl (rQ (rQ (rQ (rQ ⟨⟨rfl,show Value.bool (decide (weak≤3))=Value.bool ((decide ((0:Int)≤weak))&&(decide (weak≤3))) by first|(simp only[c55,bls];done)|simp[c55]⟩,trivial⟩))))) (rr [0,0,0,0,0,0,0,0,0,0,0] [])
   have p57:=dF c55;refine sK<|sK<|sP (.bool false)<|s_nil ?_
   exact xs_cut () trivial (sub_of rfl (rQ (rQ (rQ (rQ ⟨⟨rfl,show Value.bool false=Value.bool ((decide ((0:Int)≤weak))&&(decide (weak≤3))) by first|(simp only[c55,bls];done)|simp[c55]⟩,trivial⟩))))) (rr [0,0,0,0,0,0,0,0,0,0,0] [])
  refine k_cond ((decide ((0:Int)≤weak))&&(decide (weak≤3))) (fun c58=>?_) (fun c58=>?_)
  .obtain ⟨c59,c60⟩:=and_t c58;have p61:=dY c59;have p62:=dY c60;refine k_reg<|sP (iw weak)<|sP (pB g22 2)<|s_store 9 #[iw id,iw (obSize o17),iw weak,rx,(.slice none 0 0)] ?_
   refine s_nt<|k_reg<|sP2 (pB q18.1 0)<|sP (pB q18.1 3)<|sL (Lt.to (v':=ptrV q18.2) (t_load 0 (tabV q18 o17)) (by unfold tabV;rw[if_pos (dY c53)]))<|s_mem (fun _ h=>tabO_open (dY c53) (h.re [2] [])) ?_
   refine s_call [0] (entries_s (L:=o17.tab.list) (S:=o17.tab.rest) (hi49.obs o17 (get_mem ho19).1).tab (hw.of ho19).tw ol ol) ?_;rintro v63 _ rfl;refine sF 0 (fun hf64=>?_);refine sP (pB g22 4)<|s_store (u:=v63) (m:=1) 10 #[iw id,iw (obSize o17),iw weak,rx,v63] ?_ (hm:=by (obtain⟨_,_,e⟩:=hf64;rw[e];rfl)) (h1:=by (obtain⟨_,_,e⟩:=hf64;rw[e];rfl)) (ha':=by (obtain⟨_,_,e⟩:=hf64;rw[e];rfl))
   refine s_nr<|sL (t_loadA 10 #[iw id,iw (obSize o17),iw weak,rx,v63])<|sF 8 (fun hf65=>?_)
   refine s_store (u:=.agg #[iw id,iw (obSize o17),iw weak,rx,v63]) (m:=5) 11 #[iw id,iw (obSize o17),iw weak,rx,v63] ?_ (hm:=by (obtain⟨_,_,e⟩:=hf65;rw[e];obtain⟨_,_,e⟩:=hf64;rw[e];rfl)) (h1:=by (obtain⟨_,_,e⟩:=hf65;rw[e];obtain⟨_,_,e⟩:=hf64;rw[e];rfl)) (ha':=by (obtain⟨_,_,e⟩:=hf65;rw[e];obtain⟨_,_,e⟩:=hf64;rw[e];rfl));refine sP (.bool true)<|s_nt<|k_ret<|xs_mem (fun _ h=>tabO_shut (T:=o17.tab) (dY c53) (h.re [1] [])) ?_
   refine xs_mem (Bs:=tabO q18 o17::own EntT v63 (entsOf ⟨o17.tab.list,o17.tab.rest⟩)::blkA q18.1 #[iw o17.kind,iw o17.tag,sw o17.name,(tabV q18 o17),iw o17.mt.kind,iw o17.mt.p,iw o17.mt.q,sw o17.mt.str,iw o17.mt.ref,v52] 123::own VlT v52 o17.vals::holeP ps5 st id::blkA b #[.map (some mb46),iw (st.objs.length:Int),.map (some tb47)] 97::mpA iK oV mb46 ps5::mpA iK bV tb47 tm48::own iTy rx (refsL (o17.mt::o17.vals) i)::own VlT v25 (o17.mt::o17.vals)::blkA g22 #[iw id,iw (obSize o17),iw weak,rx,v63] 100::blkA g1 #[iw id,iw (obSize o17),iw weak,rx,v63] 100::F) (fun _ h=>h) ?_;refine xs_fact (fun H h=>(h.mp (i:=6) rfl).nodup) (fun hnd66=>?_);refine xs_mem (fun _ h=>(put_same ho19)▸all_unfocus (o':=o17) hnd66 hq20 ho19 (ob_shut (o:=o17) (h.re [2,2,0,1] []))) ?_;refine xs_mem (Bs:=allP ps5 st::own EntT v63 (entsOf ⟨o17.tab.list,o17.tab.rest⟩)::blkA b #[.map (some mb46),iw (st.objs.length:Int),.map (some tb47)] 97::mpA iK oV mb46 ps5::mpA iK bV tb47 tm48::own iTy rx (refsL (o17.mt::o17.vals) i)::own VlT v25 (o17.mt::o17.vals)::blkA g22 #[iw id,iw (obSize o17),iw weak,rx,v63] 100::blkA g1 #[iw id,iw (obSize o17),iw weak,rx,v63] 100::F) (fun _ h=>h) ?_;refine xs_mem (fun _ h=>hp_shut (st:=st) (n:=(st.objs.length:Int)) ⟨⟨hi49,ha50,ht51⟩,rfl⟩ (h.re [2,2,2,0] [])) ?_;refine xs_mem (fun _ h=>hpA_shut (h.re [0] [])) ?_;have hend:refsL (o17.mt::o17.vals) i=refsOf o17:=refsL_end om;have hob:=obj_some ho19 weak;have hwk:hweak o17 weak=weak:=by unfold hweak;rw[if_pos ⟨(dY c53),by omega,by omega⟩]
   have hen:hents st id=entsOf o17.tab:=by rw[hob.2.2.2.2.2];exact if_pos (dY c53)
   exact xs_fin [.agg #[iw id,iw (obSize o17),iw weak,rx,v63],.bool true] (own iTy rx (refsL (o17.mt::o17.vals) i)::own EntT v63 (entsOf o17.tab)::hpA b st::F) (SI.agg 6 100 5 (SI.tmp 7 SI.nil)) (rr [2,1,0] [3,3,3]) ⟨rx,v63,by rw[hob.1,hob.2.1,hob.2.2.1,hob.2.2.2.1,hwk];rfl,by rw[hen,hob.2.2.2.2.1,hend]⟩
  have p67:=c58;simp only[Bool.and_eq_true,Bool.or_eq_true,Bool.and_eq_false_iff,Bool.or_eq_false_iff,Bool.not_eq_true',Bool.not_eq_false',decide_eq_true_eq,decide_eq_false_iff_not]at p67;refine k_st<|k_reg<|sP2 (pB q18.1 0)<|sP (pB q18.1 3)<|sL (Lt.to (v':=ptrV q18.2) (t_load 0 (tabV q18 o17)) (by unfold tabV;rw[if_pos (dY c53)]))<|s_mem (fun _ h=>tabO_open (dY c53) (h.re [2] [])) ?_
  refine s_call [0] (entries_s (L:=o17.tab.list) (S:=o17.tab.rest) (hi49.obs o17 (get_mem ho19).1).tab (hw.of ho19).tw ol ol) ?_;rintro v68 _ rfl;refine sF 0 (fun hf69=>?_);refine sP (pB g22 4)<|s_store (u:=v68) (m:=1) 10 #[iw id,iw (obSize o17),iw 0,rx,v68] ?_ (hm:=by (obtain⟨_,_,e⟩:=hf69;rw[e];rfl)) (h1:=by (obtain⟨_,_,e⟩:=hf69;rw[e];rfl)) (ha':=by (obtain⟨_,_,e⟩:=hf69;rw[e];rfl))
  refine s_nr<|sL (t_loadA 10 #[iw id,iw (obSize o17),iw 0,rx,v68])<|sF 8 (fun hf70=>?_)
  refine s_store (u:=.agg #[iw id,iw (obSize o17),iw 0,rx,v68]) (m:=5) 11 #[iw id,iw (obSize o17),iw 0,rx,v68] ?_ (hm:=by (obtain⟨_,_,e⟩:=hf70;rw[e];obtain⟨_,_,e⟩:=hf69;rw[e];rfl)) (h1:=by (obtain⟨_,_,e⟩:=hf70;rw[e];obtain⟨_,_,e⟩:=hf69;rw[e];rfl)) (ha':=by (obtain⟨_,_,e⟩:=hf70;rw[e];obtain⟨_,_,e⟩:=hf69;rw[e];rfl));refine sP (.bool true)<|s_nt<|k_ret<|xs_mem (fun _ h=>tabO_shut (T:=o17.tab) (dY c53) (h.re [1] [])) ?_
  refine xs_mem (Bs:=tabO q18 o17::own EntT v68 (entsOf ⟨o17.tab.list,o17.tab.rest⟩)::blkA q18.1 #[iw o17.kind,iw o17.tag,sw o17.name,(tabV q18 o17),iw o17.mt.kind,iw o17.mt.p,iw o17.mt.q,sw o17.mt.str,iw o17.mt.ref,v52] 123::own VlT v52 o17.vals::holeP ps5 st id::blkA b #[.map (some mb46),iw (st.objs.length:Int),.map (some tb47)] 97::mpA iK oV mb46 ps5::mpA iK bV tb47 tm48::own iTy rx (refsL (o17.mt::o17.vals) i)::own VlT v25 (o17.mt::o17.vals)::blkA g22 #[iw id,iw (obSize o17),iw 0,rx,v68] 100::blkA g1 #[iw id,iw (obSize o17),iw 0,rx,v68] 100::F) (fun _ h=>h) ?_;refine xs_fact (fun H h=>(h.mp (i:=6) rfl).nodup) (fun hnd71=>?_);refine xs_mem (fun _ h=>(put_same ho19)▸all_unfocus (o':=o17) hnd71 hq20 ho19 (ob_shut (o:=o17) (h.re [2,2,0,1] []))) ?_;refine xs_mem (Bs:=allP ps5 st::own EntT v68 (entsOf ⟨o17.tab.list,o17.tab.rest⟩)::blkA b #[.map (some mb46),iw (st.objs.length:Int),.map (some tb47)] 97::mpA iK oV mb46 ps5::mpA iK bV tb47 tm48::own iTy rx (refsL (o17.mt::o17.vals) i)::own VlT v25 (o17.mt::o17.vals)::blkA g22 #[iw id,iw (obSize o17),iw 0,rx,v68] 100::blkA g1 #[iw id,iw (obSize o17),iw 0,rx,v68] 100::F) (fun _ h=>h) ?_;refine xs_mem (fun _ h=>hp_shut (st:=st) (n:=(st.objs.length:Int)) ⟨⟨hi49,ha50,ht51⟩,rfl⟩ (h.re [2,2,2,0] [])) ?_;refine xs_mem (fun _ h=>hpA_shut (h.re [0] [])) ?_;have hend:refsL (o17.mt::o17.vals) i=refsOf o17:=refsL_end om;have hob:=obj_some ho19 weak;have hwk:hweak o17 weak=0:=by unfold hweak;rw[if_neg];rintro⟨h1,h2,h3⟩;omega
  have hen:hents st id=entsOf o17.tab:=by rw[hob.2.2.2.2.2];exact if_pos (dY c53)
  exact xs_fin [.agg #[iw id,iw (obSize o17),iw 0,rx,v68],.bool true] (own iTy rx (refsL (o17.mt::o17.vals) i)::own EntT v68 (entsOf o17.tab)::hpA b st::F) (SI.agg 6 100 5 (SI.tmp 7 SI.nil)) (rr [2,1,0] [3,3,3]) ⟨rx,v68,by rw[hob.1,hob.2.1,hob.2.2.1,hob.2.2.2.1,hwk];rfl,by rw[hen,hob.2.2.2.2.1,hend]⟩
 have p72:=dF c53;refine k_st<|k_sr<|sL (t_loadA 9 #[iw id,iw (obSize o17),iw 0,rx,(.slice none 0 0)])<|sF 7 (fun hf73=>?_)
 refine s_store (u:=.agg #[iw id,iw (obSize o17),iw 0,rx,(.slice none 0 0)]) (m:=5) 10 #[iw id,iw (obSize o17),iw 0,rx,(.slice none 0 0)] ?_ (hm:=by (obtain⟨_,_,e⟩:=hf73;rw[e];rfl)) (h1:=by (obtain⟨_,_,e⟩:=hf73;rw[e];rfl)) (ha':=by (obtain⟨_,_,e⟩:=hf73;rw[e];rfl));refine sP (.bool true)<|s_nt<|k_ret<|xs_fact (fun H h=>(h.mp (i:=5) rfl).nodup) (fun hnd74=>?_)
 refine xs_mem (fun _ h=>(put_same ho19)▸all_unfocus (o':=o17) hnd74 hq20 ho19 (ob_shut (o:=o17) (h.re [0,0,0,0] []))) ?_;refine xs_mem (Bs:=allP ps5 st::blkA b #[.map (some mb46),iw (st.objs.length:Int),.map (some tb47)] 97::mpA iK oV mb46 ps5::mpA iK bV tb47 tm48::own iTy rx (refsL (o17.mt::o17.vals) i)::own VlT v25 (o17.mt::o17.vals)::blkA g22 #[iw id,iw (obSize o17),iw 0,rx,(.slice none 0 0)] 100::blkA g1 #[iw id,iw (obSize o17),iw 0,rx,(.slice none 0 0)] 100::F) (fun _ h=>h) ?_;refine xs_mem (fun _ h=>hp_shut (st:=st) (n:=(st.objs.length:Int)) ⟨⟨hi49,ha50,ht51⟩,rfl⟩ (h.re [1,1,1,0] [])) ?_;refine xs_mem (fun _ h=>Holds.nilS (T:=EntT) h) ?_;refine xs_mem (fun _ h=>hpA_shut (h.re [1] [])) ?_;have hend:refsL (o17.mt::o17.vals) i=refsOf o17:=refsL_end om;have hob:=obj_some ho19 weak;have hwk:hweak o17 weak=0:=by unfold hweak;rw[if_neg];rintro⟨h1,h2,h3⟩;exact absurd h1 (dF c53)
 have hen:hents st id=[]:=by rw[hob.2.2.2.2.2];exact if_neg (dF c53)
 exact xs_fin [.agg #[iw id,iw (obSize o17),iw 0,rx,(.slice none 0 0)],.bool true] (own iTy rx (refsL (o17.mt::o17.vals) i)::own EntT (.slice none 0 0) []::hpA b st::F) (SI.agg 6 100 5 (SI.tmp 7 SI.nil)) (rr [2,1,0] [3,3,3]) ⟨rx,(.slice none 0 0),by rw[hob.1,hob.2.1,hob.2.2.1,hob.2.2.2.1,hwk];rfl,by rw[hen,hob.2.2.2.2.1,hend]⟩
end Go.Proofs.YtmhpcebiamkciaaGreat
end
section
set_option linter.unusedSimpArgs false
set_option linter.unusedVariables false
namespace Go.Proofs.YtmhpcebiamkciaaGreat
def sr1(al:Int→Bool)(G:List Int)(id:Int):List Int:=if al id=true∧id∉G then G++[id] else G
def srs(al:Int→Bool)(G X:List Int):List Int:=X.foldl (sr1 al) G
inductive Rq(al:Int→Bool)(rf:Int→List Int)(R:List Int):Int→Prop
 | root {x:Int}:x∈R→al x=true→Rq al rf R x
 | step {x z:Int}:Rq al rf R x→z∈rf x→al z=true→Rq al rf R z
section
variable{al:Int→Bool}{rf:Int→List Int}{R G X:List Int}{id x y z:Int}{h k i:Nat}
theorem sr1_yes(h1:al id=true)(hn:id∉G):sr1 al G id=G++[id]:=if_pos ⟨h1,hn⟩
structure Srs(al:Int→Bool)(G X N:List Int):Prop where
 pre:G <+: N
 got:∀z∈X,al z=true→z∈N
 sound:∀x∈N,x∈G∨x∈X∧al x=true
 nodup:G.Nodup→N.Nodup
theorem srs_ok(al:Int→Bool)(X:List Int):∀G,Srs al G X (srs al G X):=by
 induction X with
 | nil=>exact fun G=>⟨List.prefix_refl _,by simp,fun x h=>.inl h,fun h=>h⟩
 | cons a r ih=>
  intro G;have k:=ih (sr1 al G a);have e:srs al G (a::r)=srs al (sr1 al G a) r:=rfl;rw[e];have hp:G <+: sr1 al G a:=by
   unfold sr1;split
   .exact List.prefix_append _ _
   exact List.prefix_refl _
  refine⟨hp.trans k.pre,fun z hz hi=>?_,fun x hx=>?_,fun h=>k.nodup ?_⟩
  .rcases List.mem_cons.1 hz with rfl|hz
   .refine k.pre.subset ?_;by_cases hG:z∈G
    .exact hp.subset hG
    rw[sr1_yes hi hG];simp
   exact k.got z hz hi
  .rcases k.sound x hx with h|⟨h,hi⟩
   .unfold sr1 at h;split at h
    .rename_i q;rcases List.mem_append.1 h with h|h
     .exact .inl h
     rw[List.mem_singleton.1 h];exact .inr ⟨by simp,q.1⟩
    exact .inl h
   exact .inr ⟨List.mem_cons_of_mem _ h,hi⟩
  unfold sr1;split
  .rename_i q;rw[List.nodup_append];exact⟨h,by simp,fun a ha b hb=>by simp at hb;subst hb;exact fun e=>q.2 (e▸ha)⟩
  exact h
structure Bq(al:Int→Bool)(rf:Int→List Int)(R:List Int)(h:Nat)(G:List Int):Prop where
 top:h≤G.length
 nodup:G.Nodup
 snd:∀x∈G,al x=true∧Rq al rf R x
 roots:∀r∈R,al r=true→r∈G
 done:∀(i:Nat) (x:Int),i<h→G[i]?=some x→∀z∈rf x,al z=true→z∈G
theorem pre_at{A B:List Int}(h:A <+: B){i:Nat}(hi:i<A.length):B[i]?=A[i]?:=by
 obtain⟨t,rfl⟩:=h;exact List.getElem?_append_left hi
theorem Bq.step(b:Bq al rf R h G)(hx:G[h]?=some x):Bq al rf R (h+1) (srs al G (rf x)):=by
 have k:=srs_ok al (rf x) G;have hlt:h<G.length:=(List.getElem?_eq_some_iff.1 hx).1;refine⟨by have:=k.pre.length_le;omega,k.nodup b.nodup,fun y hy=>?_,fun r hr hi=>k.pre.subset (b.roots r hr hi),fun i y hi hy z hz hz'=>?_⟩
 .rcases k.sound y hy with h1|⟨h1,hi⟩
  .exact b.snd y h1
  exact⟨hi,.step (b.snd x (List.mem_of_getElem? hx)).2 h1 hi⟩
 rw[pre_at k.pre (by omega)]at hy;by_cases e:i=h
 .subst e;rw[hx]at hy;cases hy;exact k.got z hz hz'
 exact k.pre.subset (b.done i y (by omega) hy z hz hz')
theorem Bq.fin(b:Bq al rf R h G)(hh:G.length≤h)(x:Int):x∈G↔Rq al rf R x:=by
 refine⟨fun hx=>(b.snd x hx).2,fun hx=>?_⟩;induction hx with
 | root h1 h2=>exact b.roots _ h1 h2
 | step h1 h2 h3 ih=>
  obtain⟨i,hi⟩:=List.mem_iff_getElem?.1 ih;exact b.done i _ (by have:=(List.getElem?_eq_some_iff.1 hi).1;omega) hi _ h2 h3
theorem Bq.len(b:Bq al rf R h G){A:List Int}(hA:∀x,al x=true→x∈A):G.length≤A.length:=
 b.nodup.length_le_of_subset fun x hx=>hA x (b.snd x hx).1
theorem rq_al(h1:Rq al rf R x):al x=true:=by cases h1<;>assumption
end
end Go.Proofs.YtmhpcebiamkciaaGreat
end
