/-
  Graphs with weak tables, in plain Lean.
-/
import Derived.Test.YtmhpcebiamkciaaGreatG5
import Derived.Test.YtmhpcebiamkciaaGreatG2
import Derived.Lib.AppendZeros
import Derived.Lib.SliceRun
import Derived.Shelf.Slices.SearchI
import Derived.Shelf.Slices.Empties
import Derived.Test.YtmhpcebiamkciaaGreatG3
import Derived.Test.YtmhpcebiamkciaaGreatG4
set_option linter.unusedSimpArgs false
set_option linter.unusedVariables false
set_option maxRecDepth 100000
set_option maxHeartbeats 2000000
namespace Go.Proofs.YtmhpcebiamkciaaGreat
open Go.Hp Go.J Go.S
open Go.Mem (fS Ty eB bN dg cL cm db dO blk blk_pre fM elemAt pre rF suf)
section
variable{l:List Ob}{M W R N G Q A:List Int}{id x y w:Int}{st:bp}{o:Ob}{α β:Type}{i k n b:Nat}{p:Int→Prop}{c f:Int→Int}{Z:bK}{e:iF}{s t:List Int×Bool}{ov rv:Value}{L:List iF}{F:List aW}{m:List (Int×Int)}
def cP(weak:Int)(e:iF):List Int:=if weak=1 then (if e.key=0 then [e.val] else []) else if weak=2 then [e.key] else if weak=3 then [] else [e.key,e.val]
theorem Kr(weak:Int)(e:iF):(cP weak e).length≤2:=by unfold cP;split<;>(try split)<;>(try split)<;>simp
def gB(o:Ob):List Int:=o.refs++o.ents.flatMap (cP o.weak)
theorem yt(weak:Int):∀L:List iF,(L.flatMap (cP weak)).length≤2*L.length
 | []=>by simp
 | e::r=>by
  have h1:=yt weak r;have h2:=Kr weak e;simp only[List.flatMap_cons,List.length_append,List.length_cons];omega
theorem Kt(o:Ob):(gB o).length≤o.refs.length+2*o.ents.length:=by
 unfold gB;rw[List.length_append];have:=yt o.weak o.ents;omega
theorem j4{weak:Int}(h:L[k]?=some e):(L.take k).flatMap (cP weak)++cP weak e=(L.take (k+1)).flatMap (cP weak):=by
 rw[List.take_add_one,h];simp[List.flatMap_append]
def kC:List Ob→List Int→Nat
 | [],_=>0
 | o::r,M=>(if o.id∈M then 0 else 1+(gB o).length)+kC r M
theorem pT(h:∀x∈M,x∈N):∀l,kC l N≤kC l M
 | []=>Nat.le_refl _
 | o::r=>by
  have:=pT h r;simp only[kC];by_cases h1:o.id∈M
  .simp [h1,h _ h1];exact this
  by_cases h2:o.id∈N<;>simp[h1,h2]<;>omega
theorem qK(hn:id∉M):∀{l:List Ob},fnd l id=some o→kC l (M++[id])+1+(gB o).length≤kC l M
 | [],h=>by simp[fnd]at h
 | p::r,h=>by
  unfold fnd at h;rw[List.find?_cons]at h;split at h
  .rename_i hp;injection h with h;subst h
   have hp:p.id=id:=by simpa using hp
   have:=pT (M:=M) (N:=M++[id]) (fun x hx=>List.mem_append_left _ hx) r;simp only[kC,hp,List.mem_append,List.mem_singleton,or_true,if_true,hn,if_false];omega
  rename_i hp
  have hp:p.id≠id:=by simpa using hp
  have ih:=qK hn (l:=r) h;simp only[kC,List.mem_append,List.mem_singleton,hp,or_false];omega
theorem yu:∀l:List Ob,(∀o∈l,o.refs.length≤400∧o.ents.length≤100000)→∀M,kC l M≤200401*l.length
 | [],_,_=>by simp[kC]
 | o::r,h,M=>by
  have h1:=yu r (fun x hx=>h x (List.mem_cons_of_mem _ hx)) M;have h2:=h o (by simp);have h3:=Kt o;simp only[kC,List.length_cons];split<;>omega
theorem last_pos(h:W.getLast?=some id):0<W.length:=by
 cases W with
 | nil=>simp at h
 | cons a r=>simp
def dfs(l:List Ob)(M W:List Int):List Int:=
 match hw:W.getLast? with
 | none=>M
 | some id=>
  match hf:fnd l id with
  | none=>dfs l M W.dropLast
  | some o=>if hm:id∈M then dfs l M W.dropLast else dfs l (M++[id]) (W.dropLast++gB o)
termination_by kC l M+W.length
decreasing_by
  all_goals have qV:=last_pos hw
  · simp only[List.length_dropLast];omega
  · simp only[List.length_dropLast];omega
  · have:=qK hm hf
    simp only[List.length_dropLast,List.length_append];omega
theorem tG(l:List Ob)(M:List Int):dfs l M []=M:=by
 rw[dfs];rfl
theorem O4(hf:fnd l id=none):dfs l M (W++[id])=dfs l M W:=by
 rw[dfs];split
 .rename_i h;simp at h
 rename_i oM h
 simp at h;subst h;split
 .simp
 rename_i o h;rw[hf]at h;cases h
theorem YW(hm:id∈M):dfs l M (W++[id])=dfs l M W:=by
 rw[dfs];split
 .rename_i h;simp at h
 rename_i oM h
 simp at h;subst h;split
 .simp
 rename_i o h;rw[dif_pos hm];simp
theorem tH(hf:fnd l id=some o)(hm:id∉M):dfs l M (W++[id])=dfs l (M++[id]) (W++gB o):=by
 rw[dfs];split
 .rename_i h;simp at h
 rename_i oM h
 simp at h;subst h;split
 .rename_i h;rw[hf]at h;cases h
 rename_i o' h;rw[hf]at h;cases h;rw[dif_neg hm];simp
theorem Il{C:List Int→List Int→Prop}(h0:∀M,C M [])(h1:∀M W id,fnd l id=none∨id∈M→C M W→C M (W++[id]))
  (h2:∀M W id o,fnd l id=some o→id∉M→C (M++[id]) (W++gB o)→C M (W++[id])) (M W:List Int):C M W:=by
 have key:∀n M W,kC l M+W.length≤n→C M W:=by
  intro n;induction n with
  | zero=>
   intro M W h;have:W=[]:=List.eq_nil_of_length_eq_zero om;subst this;exact h0 M
  | succ n ih=>
   intro M W h;rcases List.eq_nil_or_concat W with rfl|⟨W',id,rfl⟩
   .exact h0 M
   rw[List.concat_eq_append]at h⊢;simp only[List.length_append,List.length_singleton]at h;cases hf:fnd l id with
   | none=>exact h1 M W' id (.inl hf) (ih M W' om)
   | some o=>
    by_cases hm:id∈M
    .exact h1 M W' id (.inr hm) (ih M W' om)
    have:=qK hm hf;exact h2 M W' id o hf hm (ih _ _ (by simp only[List.length_append];omega))
 exact key _ M W (Nat.le_refl _)
theorem kD(h:fnd l id=none∨id∈M):dfs l M (W++[id])=dfs l M W:=by
 rcases h with h|h
 .exact O4 h
 exact YW h
theorem lf(h:W[W.length-1]?=some y):W.take (W.length-1)++[y]=W:=by
 obtain⟨hi,e⟩:=List.getElem?_eq_some_iff.1 h;have h3:W.take (W.length-1+1)=W.take (W.length-1)++[y]:=by rw[List.take_add_one,h];rfl
 rw[←h3,show W.length-1+1=W.length by omega,List.take_length]
/-! ### What the search finds -/
inductive Rn(l:List Ob):Int→Int→Prop
 | self {w:Int}:Is l w→Rn l w w
 | step {w y z:Int}{o:Ob}:Is l w→fnd l w=some o→y∈gB o→Rn l y z→Rn l w z
theorem Rn.is(h:Rn l w x):Is l w∧Is l x:=by
 induction h with
 | self h=>exact⟨h,h⟩
 | step h _ _ _ ih=>exact⟨h,ih.2⟩
structure Found(l:List Ob)(M W N:List Int):Prop where
 old:∀x∈M,x∈N
 got:∀w∈W,Is l w→w∈N
 closed:∀x∈N,x∉M→∃o,fnd l x=some o∧∀z∈gB o,Is l z→z∈N
 sound:∀x∈N,x∈M∨∃w∈W,Rn l w x
 nodup:M.Nodup→N.Nodup
 len:M.length≤N.length
theorem found(l:List Ob)(M W:List Int):Found l M W (dfs l M W):=by
 refine Il (l:=l) (C:=fun M W=>Found l M W (dfs l M W)) ?_ ?_ ?_ M W
 .intro M;rw[tG];exact⟨fun x h=>h,by simp,fun x h1 h2=>absurd h1 h2,fun x h=>.inl h,fun h=>h,Nat.le_refl _⟩
 .intro M W id hs ih;rw[kD hs];refine⟨ih.old,fun w hw hi=>?_,ih.closed,fun x hx=>?_,ih.nodup,ih.len⟩
  .rcases List.mem_append.1 hw with h|h
   .exact ih.got w h hi
   simp at h;subst h;rcases hs with h|h
   .rw [Is,h]at hi;cases hi
   exact ih.old _ h
  rcases ih.sound x hx with h|⟨w,h,r⟩
  .exact .inl h
  exact .inr ⟨w,List.mem_append_left _ h,r⟩
 intro M W id o hf hm ih;rw[tH hf hm];have hid:Is l id:=by rw[Is,hf];rfl
 have sX:id∈dfs l (M++[id]) (W++gB o):=ih.old _ (by simp);refine⟨fun x h=>ih.old x (List.mem_append_left _ h),fun w hw hi=>?_,fun x hx hn=>?_,fun x hx=>?_,fun h=>ih.nodup ?_,?_⟩
 .rcases List.mem_append.1 hw with h|h
  .exact ih.got w (List.mem_append_left _ h) hi
  simp at h;subst h;exact sX
 .by_cases e:x=id
  .subst e;exact⟨o,hf,fun z hz hi=>ih.got z (List.mem_append_right _ hz) hi⟩
  exact ih.closed x hx (by simp[hn,e])
 .rcases ih.sound x hx with h|⟨w,h,r⟩
  .rcases List.mem_append.1 h with h|h
   .exact .inl h
   simp at h;subst h;exact .inr ⟨x,by simp,.self hid⟩
  rcases List.mem_append.1 h with h|h
  .exact .inr ⟨w,List.mem_append_left _ h,r⟩
  exact .inr ⟨id,by simp,.step hid hf h r⟩
 .rw [List.nodup_append];exact⟨h,by simp,fun a ha b hb=>by simp at hb;subst hb;exact fun e=>hm (e▸ha)⟩
 have:=ih.len;simp only[List.length_append,List.length_singleton]at this;omega
def YX(l:List Ob)(M:List Int):Prop:=(∀x∈M,Is l x)∧∀x∈M,∀o,fnd l x=some o→∀z∈gB o,Is l z→z∈M
theorem Im(l:List Ob):YX l []:=⟨by simp,by simp⟩
theorem YY(hc:YX l N)(h:Rn l w x):w∈N→x∈N:=by
 induction h with
 | self _=>exact fun h=>h
 | step _ hf hy r ih=>exact fun h=>ih (hc.2 _ h _ hf _ hy r.is.1)
theorem Io(hc:YX l M):YX l (dfs l M W):=by
 have f:=found l M W;refine⟨fun x hx=>?_,fun x hx o hf z hz hi=>?_⟩
 .rcases f.sound x hx with h|⟨w,_,r⟩
  .exact hc.1 x h
  exact r.is.2
 by_cases hm:x∈M
 .exact f.old z (hc.2 x hm o hf z hz hi)
 obtain⟨o',h1,h2⟩:=f.closed x hx hm;rw[hf]at h1;cases h1;exact h2 z hz hi
theorem wV(hc:YX l M)(x:Int):x∈dfs l M W↔x∈M∨∃w∈W,Rn l w x:=by
 have f:=found l M W;refine⟨f.sound x,?_⟩;rintro (h|⟨w,hw,r⟩)
 .exact f.old x h
 exact YY (Io hc) r (f.got w hw r.is.1)
theorem yw{B:List Int}(h:A.Perm B):srt A=srt B:=by
 have tr:∀a b c:Int,decide (a≤b)=true→decide (b≤c)=true→decide (a≤c)=true:=fun a b c h1 h2=>by simp at *;omega
 have to:∀a b:Int,(decide (a≤b)||decide (b≤a))=true:=fun a b=>by simp;omega
 refine List.Perm.eq_of_pairwise (le:=fun a b=>decide (a≤b)=true) (fun a b _ _ h1 h2=>by simp at *;omega) (List.pairwise_mergeSort tr to A) (List.pairwise_mergeSort tr to B) ?_;exact (List.mergeSort_perm A _).trans (h.trans (List.mergeSort_perm B _).symm)
theorem wW(h:A.Pairwise (· < ·)):srt A=A:=List.mergeSort_of_pairwise (h.imp fun h=>by simp;omega)
def jz(l:List Ob):List Ob:=l.filter fun o=>decide (o.weak=1)
def jO(l:List Ob)(s:List Int×Bool)(e:iF):List Int×Bool:=if e.key∈s.1 then (dfs l s.1 [e.val],s.2||decide (s.1.length<(dfs l s.1 [e.val]).length)) else s
def stepT(l:List Ob)(s:List Int×Bool)(o:Ob):List Int×Bool:=if o.id∈s.1 then o.ents.foldl (jO l) s else s
def oo(l:List Ob)(M:List Int):List Int×Bool:=(jz l).foldl (stepT l) (M,false)
def runs(l:List Ob):Nat→List Int×Nat→List Int×Nat
 | 0,s=>s
 | k+1,s=>if (oo l s.1).2=true then runs l k ((oo l s.1).1,s.2+1) else ((oo l s.1).1,s.2)
def oq(l:List Ob)(M:List Int)(R:List Int):List Int:=R.foldl (fun M id=>dfs l M [id]) M
def pU(l:List Ob)(R:List Int):List Int×Nat:=runs l (l.length+1) (oq l [] R,1)
def ot(l:List Ob)(R:List Int):List Int×Nat:=runs l (l.length+1) (dfs l [] R,1)
theorem gZ{f:β→α→β}{L:List α}{e:α}{s:β}(h:L[k]?=some e):(L.take (k+1)).foldl f s=f ((L.take k).foldl f s) e:=by
 rw[List.take_add_one,h,List.foldl_append];rfl
theorem yx{f:β→α→β}{L:List α}{s:β}(h:L.length≤k):(L.take k).foldl f s=L.foldl f s:=by rw[List.take_of_length_le h]
structure Good(l:List Ob)(M:List Int):Prop where
 clo:YX l M
 nodup:M.Nodup
theorem kE(l:List Ob):Good l []:=⟨Im l,List.nodup_nil⟩
theorem Good.dfs(h:Good l M)(W:List Int):Good l (dfs l M W):=⟨Io h.clo,(found l M W).nodup h.nodup⟩
theorem Good.len(h:Good l M):M.length≤l.length:=by
 have:=h.nodup.length_le_of_subset (l₂:=l.map Ob.id) fun x hx=>by
  have:=h.clo.1 x hx;obtain⟨o,ho⟩:=Option.isSome_iff_exists.1 this;obtain⟨h1,h2⟩:=j2 ho;exact List.mem_map.2 ⟨o,h2,h1⟩
 rwa [List.length_map]at this
theorem Good.roots(R:List Int):∀{M:List Int},Good l M→Good l (oq l M R):=by
 induction R with
 | nil=>exact fun h=>h
 | cons a r ih=>exact fun h=>ih (h.dfs [a])
structure Step(l:List Ob)(s t:List Int×Bool):Prop where
 good:Good l s.1→Good l t.1
 sub:∀x∈s.1,x∈t.1
 len:s.1.length≤t.1.length
 flag:t.2=(s.2||decide (s.1.length<t.1.length))
theorem Step.refl(s:List Int×Bool):Step l s s:=⟨fun h=>h,fun x h=>h,Nat.le_refl _,by simp⟩
theorem Step.trans{u:List Int×Bool}(h:Step l s t)(k:Step l t u):Step l s u:=by
 refine⟨fun g=>k.good (h.good g),fun x hx=>k.sub x (h.sub x hx),Nat.le_trans h.len k.len,?_⟩;rw[k.flag,h.flag,Bool.or_assoc];congr 1;rw[←Bool.decide_or,decide_eq_decide];have:=h.len;have:=k.len;omega
theorem BW(l:List Ob)(s:List Int×Bool)(e:iF):Step l s (jO l s e):=by
 unfold jO;split
 .have f:=found l s.1 [e.val];exact⟨fun g=>g.dfs _,f.old,f.len,rfl⟩
 exact Step.refl s
theorem lr{f:List Int×Bool→α→List Int×Bool}(hf:∀s a,Step l s (f s a))(L:List α):∀s,Step l s (L.foldl f s):=by
 induction L with
 | nil=>exact fun s=>Step.refl s
 | cons a r ih=>exact fun s=>(hf s a).trans (ih _)
theorem BZ(l:List Ob)(s:List Int×Bool)(o:Ob):Step l s (stepT l s o):=by
 unfold stepT;split
 .exact lr (BW l) o.ents s
 exact Step.refl s
theorem r8(l:List Ob)(M:List Int):Step l (M,false) (oo l M):=lr (BZ l) (jz l) (M,false)
theorem tI(l:List Ob)(M:List Int):(oo l M).2=decide (M.length<(oo l M).1.length):=by rw[(r8 l M).flag];simp
theorem qL(h:(oo l M).2=true):runs l (k+1) (M,n)=runs l k ((oo l M).1,n+1):=by simp[runs,h]
theorem tJ(h:(oo l M).2=false):runs l (k+1) (M,n)=((oo l M).1,n):=by simp[runs,h]
theorem uV:∀(k:Nat) (s:List Int×Nat),Good l s.1→Good l (runs l k s).1
 | 0,s,h=>h
 | k+1,s,h=>by
  unfold runs;have hg:=(r8 l s.1).good h;split
  .exact uV k _ hg
  exact hg
/-! ### Sets that are the same -/
def O5(M N:List Int):Prop:=∀x,x∈M↔x∈N
theorem O5.len(h:O5 M N)(h1:M.Nodup)(h2:N.Nodup):M.length=N.length:=
 Nat.le_antisymm (h1.length_le_of_subset fun x hx=>(h x).1 hx) (h2.length_le_of_subset fun x hx=>(h x).2 hx)
theorem TL{V:List Int}(hM:Good l M)(hN:Good l N)(h:O5 M N)(hw:O5 V W):O5 (dfs l M V) (dfs l N W):=fun x=>by
 rw[wV hM.clo,wV hN.clo,h x];constructor
 .rintro (h|⟨w,h1,h2⟩)
  .exact .inl h
  exact .inr ⟨w,(hw w).1 h1,h2⟩
 rintro (h|⟨w,h1,h2⟩)
 .exact .inl h
 exact .inr ⟨w,(hw w).2 h1,h2⟩
structure tK(l:List Ob)(s t:List Int×Bool):Prop where
 g1:Good l s.1
 g2:Good l t.1
 eqv:O5 s.1 t.1
 flag:s.2=t.2
theorem YZ(h:tK l s t)(e:iF):tK l (jO l s e) (jO l t e):=by
 unfold jO;by_cases h1:e.key∈s.1
 .rw [if_pos h1,if_pos ((h.eqv _).1 h1)];have hd:=TL (V:=[e.val]) (W:=[e.val]) h.g1 h.g2 h.eqv (fun _=>Iff.rfl);refine⟨h.g1.dfs _,h.g2.dfs _,hd,?_⟩;show (s.2||_)=(t.2||_);rw[h.flag,h.eqv.len h.g1.nodup h.g2.nodup,hd.len (h.g1.dfs _).nodup (h.g2.dfs _).nodup]
 rw[if_neg h1,if_neg fun h2=>h1 ((h.eqv _).2 h2)];exact h
theorem AX{f:List Int×Bool→α→List Int×Bool}(hf:∀s t a,tK l s t→tK l (f s a) (f t a))(L:List α):∀{s t},tK l s t→tK l (L.foldl f s) (L.foldl f t):=by
 induction L with
 | nil=>exact fun h=>h
 | cons a r ih=>exact fun h=>ih (hf _ _ a h)
theorem Y0(o:Ob)(h:tK l s t):tK l (stepT l s o) (stepT l t o):=by
 unfold stepT;by_cases h1:o.id∈s.1
 .rw [if_pos h1,if_pos ((h.eqv _).1 h1)];exact AX (fun s t e h=>YZ h e) o.ents h
 rw[if_neg h1,if_neg fun h2=>h1 ((h.eqv _).2 h2)];exact h
theorem Y3(h1:Good l M)(h2:Good l N)(h:O5 M N):tK l (oo l M) (oo l N):=AX (fun s t o h=>Y0 o h) (jz l) ⟨h1,h2,h,rfl⟩
theorem AY:∀(k:Nat) {M N:List Int} (n:Nat),Good l M→Good l N→O5 M N→O5 (runs l k (M,n)).1 (runs l k (N,n)).1∧(runs l k (M,n)).2=(runs l k (N,n)).2
 | 0,M,N,n,h1,h2,h=>⟨h,rfl⟩
 | k+1,M,N,n,h1,h2,h=>by
  have hs:=Y3 h1 h2 h;by_cases hf:(oo l M).2=true
  .rw [qL hf,qL (hs.flag▸hf)];exact AY k (n+1) hs.g1 hs.g2 hs.eqv
  have hf:(oo l M).2=false:=by simpa using hf
  rw[tJ hf,tJ (hs.flag▸hf)];exact⟨hs.eqv,rfl⟩
theorem Ku(R:List Int):∀{M:List Int},Good l M→∀x,x∈oq l M R↔x∈M∨∃w∈R,Rn l w x:=by
 induction R with
 | nil=>intro M h x;simp[oq]
 | cons a r ih=>
  intro M h x;show x∈oq l (dfs l M [a]) r↔_;rw[ih (h.dfs [a]) x,wV h.clo];simp[or_assoc]
theorem O6(l:List Ob)(R:List Int):O5 (pU l R).1 (ot l R).1∧(pU l R).2=(ot l R).2:=
 AY _ 1 ((kE l).roots R) ((kE l).dfs R) fun x=>by rw[Ku R (kE l) x,wV (Im l)]
def ik(l:List Ob)(M:List Int):List Int:=(l.filter fun o=>decide (o.id∈M)).map Ob.id
theorem tL(h:oK l)(M:List Int):(ik l M).Pairwise (· < ·):=by
 unfold ik;rw[List.pairwise_map];exact h.filter _
theorem D6(hM:YX l M)(x:Int):x∈ik l M↔x∈M:=by
 simp only[ik,List.mem_map,List.mem_filter,decide_eq_true_eq];constructor
 .rintro ⟨o,⟨_,h⟩,rfl⟩;exact h
 intro h;obtain⟨o,ho⟩:=Option.isSome_iff_exists.1 (hM.1 x h);obtain⟨h1,h2⟩:=j2 ho;exact⟨o,⟨h2,h1▸h⟩,h1⟩
theorem O7(h:oK l)(hM:Good l M):srt M=ik l M:=by
 have hp:M.Perm (ik l M):=(List.perm_ext_iff_of_nodup hM.nodup ((tL h M).imp fun h=>by omega)).2 fun x=>(D6 hM.clo x).symm
 rw[yw hp,wW (tL h M)]
theorem O8(h:O5 M N):ik l M=ik l N:=by
 unfold ik;congr 1;apply List.filter_congr;intro o _;rw[decide_eq_decide];exact h o.id
/-! ### The least set -/
structure kQ(l:List Ob)(R:List Int)(p:Int→Prop):Prop where
 roots:∀r∈R,Is l r→p r
 kept:∀x o,p x→fnd l x=some o→∀z∈gB o,Is l z→p z
 eph:∀x o,p x→fnd l x=some o→o.weak=1→∀e∈o.ents,p e.key→Is l e.val→p e.val
theorem ac1(h:kQ l R p)(r:Rn l w x):p w→p x:=by
 induction r with
 | self _=>exact fun h=>h
 | step _ hf hy r ih=>exact fun hp=>ih (h.kept _ _ hp hf _ hy r.is.1)
theorem AZ(h:kQ l R p)(hM:∀x∈M,p x)(hW:∀w∈W,Is l w→p w):∀x∈dfs l M W,p x:=fun x hx=>by
 rcases (found l M W).sound x hx with h1|⟨w,h1,r⟩
 .exact hM x h1
 exact ac1 h r (hW w h1 r.is.1)
theorem yy{f:List Int×Bool→α→List Int×Bool}{L:List α}(hf:∀s,∀a∈L,(∀x∈s.1,p x)→∀x∈(f s a).1,p x):∀{s:List Int×Bool},(∀x∈s.1,p x)→∀x∈(L.foldl f s).1,p x:=by
 induction L with
 | nil=>exact fun h=>h
 | cons a r ih=>exact fun {s} h=>ih (fun s b hb=>hf s b (List.mem_cons_of_mem _ hb)) (hf s a (by simp) h)
theorem A0(hl:oK l)(h:kQ l R p)(hM:∀x∈M,p x):∀x∈(oo l M).1,p x:=by
 refine yy (fun s o ho hs=>?_) hM;unfold stepT;split
 .rename_i sX;have QZ:o∈l∧o.weak=1:=by simpa [jz]using ho
  refine yy (fun s' e he QY=>?_) hs;unfold jO;split
  .rename_i hk;refine AZ h QY fun w hw hi=>?_
   simp at hw;subst hw;exact h.eph o.id o (hs _ sX) (qJ hl QZ.1) QZ.2 e he (QY _ hk) hi
  exact QY
 exact hs
theorem yz(hl:oK l)(h:kQ l R p):∀(k:Nat) (s:List Int×Nat),(∀x∈s.1,p x)→∀x∈(runs l k s).1,p x
 | 0,s,hs=>hs
 | k+1,s,hs=>by
  unfold runs;split
  .exact yz hl h k _ (A0 hl h hs)
  exact A0 hl h hs
theorem A1(hl:oK l)(h:kQ l R p):∀x∈(ot l R).1,p x:=
 yz hl h _ _ (AZ h (by simp) h.roots)
theorem yA{f:List Int×Bool→α→List Int×Bool}(hf:∀s a,Step l s (f s a))(hid:∀s a,s.1.length=(f s a).1.length→f s a=s){L:List α}:∀{s:List Int×Bool},(L.foldl f s).1.length=s.1.length→∀a∈L,f s a=s:=by
 induction L with
 | nil=>intro s _ a ha;cases ha
 | cons b r ih=>
  intro s h a ha;have h1:=(hf s b).len;have h2:=(lr hf r (f s b)).len;have h3:((b::r).foldl f s).1.length=s.1.length:=h;rw[List.foldl_cons]at h3;have hb:=hid s b om;rcases List.mem_cons.1 ha with rfl|ha
  .exact hb
  exact ih (by rw[hb]at h3;exact h3) a ha
theorem B0:∀(W:List Int),(dfs l M W).length=M.length→dfs l M W=M:=fun W h=>by
 have key:∀M W,(dfs l M W).length=M.length→dfs l M W=M:=by
  refine Il (l:=l) (C:=fun M W=>(dfs l M W).length=M.length→dfs l M W=M) ?_ ?_ ?_
  .intro M _;exact tG l M
  .intro M W id hs ih h;rw[kD hs]at h ⊢;exact ih h
  intro M W id o hf hm ih h;rw[tH hf hm]at h;have:=(found l (M++[id]) (W++gB o)).len;simp only[List.length_append,List.length_singleton]at this;omega
 exact key M W h
theorem D7(s:List Int×Bool)(e:iF)(h:s.1.length=(jO l s e).1.length):jO l s e=s:=by
 unfold jO at h⊢;split
 .rename_i hk;rw[if_pos hk]at h;have:=B0 [e.val] h.symm;rw[this];simp
 rfl
theorem B1{f:List Int×Bool→α→List Int×Bool}(hf:∀s a,Step l s (f s a))(hid:∀s a,s.1.length=(f s a).1.length→f s a=s):∀(L:List α) (s:List Int×Bool),s.1.length=(L.foldl f s).1.length→L.foldl f s=s
 | [],s,_=>rfl
 | b::r,s,h=>by
  rw[List.foldl_cons]at h⊢;have h1:=(hf s b).len;have h2:=(lr hf r (f s b)).len;have hb:=hid s b om;rw[hb]at h⊢;exact B1 hf hid r s h
theorem D8(s:List Int×Bool)(o:Ob)(h:s.1.length=(stepT l s o).1.length):stepT l s o=s:=by
 unfold stepT at h⊢;split
 .rename_i hk;rw[if_pos hk]at h;exact B1 (BW l) D7 o.ents s h
 rfl
theorem A2(h:(oo l M).2=false):(oo l M).1=M:=by
 rw[tI,decide_eq_false_iff_not]at h;have h1:=(r8 l M).len;have:oo l M=(M,false):=B1 (BZ l) D8 (jz l) (M,false) (by show M.length=(oo l M).1.length;have:M.length≤(oo l M).1.length:=h1;omega);rw[this]
theorem TM(h:(oo l M).2=false)(ho:o∈l)(hw:o.weak=1)(sX:o.id∈M)(he:e∈o.ents)(hk:e.key∈M)(hi:Is l e.val):e.val∈M:=by
 have hlen:((jz l).foldl (stepT l) (M,false)).1.length=M.length:=by
  rw[show ((jz l).foldl (stepT l) (M,false))=oo l M from rfl,A2 h]
 have h1:=yA (BZ l) D8 hlen o (by simp[jz,ho,hw]);unfold stepT at h1;rw[if_pos sX]at h1;have h2:=yA (BW l) D7 (L:=o.ents) (s:=(M,false)) (by rw[h1]) e he;unfold jO at h2;rw[if_pos hk]at h2;have h3:dfs l M [e.val]=M:=congrArg Prod.fst h2;rw[←h3];exact (found l M [e.val]).got _ (by simp) hi
theorem vO:∀(k:Nat) (s:List Int×Nat),Good l s.1→l.length<k+s.1.length→(oo l (runs l k s).1).2=false
 | 0,s,hg,h=>by have:=hg.len;omega
 | k+1,s,hg,h=>by
  have hs:=r8 l s.1;unfold runs;split
  .rename_i hf;rw[tI,decide_eq_true_eq]at hf;exact vO k _ (hs.good hg) (by show l.length<k+(oo l s.1).1.length;omega)
  rename_i hf
  have hf:(oo l s.1).2=false:=by simpa using hf
  show (oo l (oo l s.1).1).2=false;rw[A2 hf];exact hf
theorem D9:∀(k:Nat) (s:List Int×Nat),∀x∈s.1,x∈(runs l k s).1
 | 0,s,x,h=>h
 | k+1,s,x,h=>by
  unfold runs;have h1:=(r8 l s.1).sub x h;split
  .exact D9 k _ x h1
  exact h1
theorem Ea(l:List Ob)(R:List Int):Good l (ot l R).1:=uV _ _ ((kE l).dfs R)
theorem A3(l:List Ob)(R:List Int):Good l (pU l R).1:=uV _ _ ((kE l).roots R)
theorem yB(hl:oK l)(R:List Int):kQ l R (· ∈ (ot l R).1):=by
 have hg:=Ea l R;refine⟨fun r hr hi=>D9 _ _ r ((found l [] R).got r hr hi),fun x o hx hf z hz hi=>hg.clo.2 x hx o hf z hz hi,fun x o hx hf hw e he hk hi=>?_⟩;obtain⟨h1,h2⟩:=j2 hf;exact TM (vO _ _ ((kE l).dfs R) (by show l.length<l.length+1+_;omega)) h2 hw (by rw[h1];exact hx) he hk hi
def j5(e:iF):List Int:=[e.key,e.val]
def eQ(o:Ob):List Int:=o.refs++o.ents.flatMap j5
def iO(l:List Ob)(id:Int):Bool:=(fnd l id).isSome
def CR(l:List Ob)(id:Int):List Int:=match fnd l id with
 | some o=>eQ o
 | none=>[]
theorem GJ(h:fnd l id=some o):CR l id=eQ o:=by unfold CR;rw[h]
theorem GK(h:fnd l id=some o):iO l id=true:=by unfold iO;rw[h];rfl
theorem GL(h:fnd l id=none):iO l id=false:=by unfold iO;rw[h];rfl
theorem yC(h:L[i]?=some e):(L.take i).flatMap j5++[e.key,e.val]=(L.take (i+1)).flatMap j5:=by
 rw[List.take_add_one,h];simp[List.flatMap_append,j5]
theorem ou:∀L:List iF,(L.flatMap j5).length=2*L.length
 | []=>rfl
 | e::r=>by simp only[List.flatMap_cons,List.length_append,List.length_cons,ou r];simp[j5];omega
theorem map_set{g:Int→Int}(hs:oK l)(ho:l[i]?=some o)(hn:∀x,x≠o.id→g x=f x):(l.map fun o=>f o.id).set i (g o.id)=l.map fun o=>g o.id:=by
 apply List.ext_getElem?;intro j;rw[List.getElem?_set,List.getElem?_map,List.getElem?_map];have hi:i<l.length:=(List.getElem?_eq_some_iff.1 ho).1;by_cases e:i=j
 .subst e;rw[if_pos rfl,if_pos (by rw[List.length_map];exact hi),ho];rfl
 rw[if_neg e];cases hj:l[j]? with
 | none=>rfl
 | some y=>
  show some (f y.id)=some (g y.id);rw[hn y.id fun q=>e (wT hs ho hj q.symm)]
theorem Eb(g:Int→Int)(v:Int)(hs:oK l)(ho:l[i]?=some o)(hv:g o.id=v)(hn:∀x,x≠o.id→g x=f x):(l.map fun o=>f o.id).set i v=l.map fun o=>g o.id:=by
 subst hv;exact map_set hs ho hn
theorem TN(l:List Ob):List.replicate l.length (0:Int)=l.map fun o=>kI [] 0 o.id:=by
 apply List.ext_getElem?;intro j;rw[List.getElem?_replicate,List.getElem?_map];by_cases h:j<l.length
 .rw [if_pos h,List.getElem?_eq_getElem h];exact congrArg some Tw.symm
 rw[if_neg h,List.getElem?_eq_none om];rfl
theorem Kv(h:oK l)(hi:iO l id=true):∃i o,l[i]?=some o∧o.id=id∧fnd l id=some o∧Wf l id=((i:Nat):Int):=by
 rcases j3 h id with ⟨h1,_⟩|h1
 .rw [GL h1]at hi;cases hi
 exact h1
theorem drop_one(G:List Int)(i:Nat):(G.drop i).drop 1=G.drop (i+1):=by rw[List.drop_drop]
theorem A4(h:(G.drop i)[0]?=some y):G[i]?=some y:=by
 rw[List.getElem?_drop,Nat.add_zero]at h;exact h
theorem B2(h:iO l x=true):x∈l.map Ob.id:=by
 unfold iO at h;obtain⟨o,ho⟩:=Option.isSome_iff_exists.1 h;obtain⟨h1,h2⟩:=j2 ho;exact List.mem_map.2 ⟨o,h2,h1⟩
def pV(l:List Ob)(G:List Int):List Int:=(l.map Ob.id).filter fun x=>decide (x∈G)
theorem Ip{y:Ob}(hy:l[i]?=some y)(h:y.id∈G):pV (l.take i) G++[y.id]=pV (l.take (i+1)) G:=by
 unfold pV;rw[List.take_add_one,hy];simp[List.filter_append,h]
theorem O9{y:Ob}(hy:l[i]?=some y)(h:y.id∉G):pV (l.take i) G=pV (l.take (i+1)) G:=by
 unfold pV;rw[List.take_add_one,hy];simp[List.filter_append,h]
theorem wX(l:List Ob)(G:List Int):(pV l G).length≤l.length:=by
 unfold pV;refine Nat.le_trans (List.length_filter_le _ _) ?_;rw[List.length_map];exact Nat.le_refl _
def yD(b:Nat)(l:List Ob)(G:List Int)(k q:Nat):aW:=lj fun ov=>lj fun cv=>lj fun qv=>zr True [aa b #[ov,.slice none 0 0,cv,qv] 111,own dT ov l,own an cv (l.map fun o=>kI G k o.id),ownO an qv (G.drop q)]
section
variable{Z:bK}{F:List aW}{H:bb}{b:Nat}{l:List Ob}{G:List Int}{k q:Nat}
theorem tM(h:Holds Z (yD b l G k q::F) H):∃ov cv qv,True∧Holds Z (aa b #[ov,.slice none 0 0,cv,qv] 111::own dT ov l::own an cv (l.map fun o=>kI G k o.id)::ownO an qv (G.drop q)::F) H:=by
 obtain⟨ov,h⟩:=h.open_ex;obtain⟨cv,h⟩:=h.open_ex;obtain⟨qv,h⟩:=h.open_ex;exact⟨ov,cv,qv,h.open_st⟩
theorem jI{cv qv:Value}{C:List Int}(hC:C=l.map fun o=>kI G k o.id)(hQ:Q=G.drop q)(h:Holds Z (aa b #[ov,.slice none 0 0,cv,qv] 111::own dT ov l::own an cv C::ownO an qv Q::F) H):Holds Z (yD b l G k q::F) H:=by
 subst hC hQ;exact Holds.shut_ex ov (Holds.shut_ex cv (Holds.shut_ex qv (Holds.shut_st trivial h)))
end
theorem Ec{q:Nat}(hO:∀x∈l,Fk Z x)(hs:oK l)(hl:l.length≤100000)(hk:k≤G.length)(hq:q≤G.length)(hG:G.length≤1000000)(id:Int):MF 123 #[pB b 0,iw id] Z (yD b l G k q::F) (.tuple #[]) (yD b l (Gv (iO l) G id) k q::F):=by
 refine bO Tryz.func123 39 (fun w0=>?_);refine kN (fun H h=>tM (rB h)) (fun LQ cv2 qv3 hw=>?_);have ajZ:(l.map fun o=>kI G k o.id).length=l.length:=List.length_map _;refine gy ?_;refine sV (fun _ h=>oj (show oO _ _ _ l [] from ⟨Acc.kn (T:=dT) (.own 1) h,Acc.kn (T:=an) .nil h,fun x hx=>⟨Kn.up (hO x hx).1 h,Kn.up (hO x hx).2 h⟩⟩) hs om id) ?_;rcases j3 hs id with ⟨J7,Y4⟩|⟨Y5,ob6,hx8,TO,kK,Y4⟩
 .rw [Y4];refine gy ?_;refine ab (fun _ h=>jI (l:=l) (G:=G) (k:=k) (q:=q) rfl rfl (rB h)) ?_;refine eN [] (yD b l G k q::F) SI.nil rA ⟨rfl,?_⟩;rw[DU (GL J7)]
 rw[Y4];have Kw:=hO ob6 (List.mem_of_getElem? hx8);have aix:Y5<l.length:=(List.getElem?_eq_some_iff.1 hx8).1;refine sL (ai (iw (Y5:Int)))<|a8<|ax<|aE<|bd<|sL (ai (iw (Y5:Int)))<|sL aT<|sL (ai (.bool (decide ((0:Int)≤(Y5:Int))))) ?_
 refine dW 13 (decide ((0:Int)≤(Y5:Int))) (fun kj=>?_) (fun kj=>?_)
 .have kO:=dY kj;refine gy ?_;refine sL (bC ak (.own 2) (show ((l.map fun o=>kI G k o.id))[Y5]?=some (kI G k ob6.id) by rw[List.getElem?_map,hx8];rfl)) ?_;refine gy ?_;refine bg (decide ((kI G k ob6.id)=0)) (fun vV=>?_) (fun vV=>?_)
  .have mM:=dY vV;refine gy ?_;refine dX 2 0 1 ak (show ((l.map fun o=>kI G k o.id))[Y5]?=some (kI G k ob6.id) by rw[List.getElem?_map,hx8];rfl) ?_;refine gy ?_;refine ah (e:=3) [(0,iw id)] #[iw id] (fun g18=>?_) (hb:=by kernel_rfl);refine gX (L:=(G.drop q)) 4 ak Tryz.underlying23 (.lit 0 ak [id]) (by show _*8≤_;(try simp only[cD]);omega) ol (fun v19=>?_);refine bl (fun H h=>((Acc.ownO (T:=an) (L:=((G.drop q)++[id])) 4 rfl) H h).form) (fun Y6=>?_);refine gy ?_;have hz:=tu (dY vV);rw[TO]at hz;refine ab (fun _ h=>jI (l:=l) (G:=(G++[id])) (k:=k) (q:=q) (Eb (f:=kI G k) (kI (G++[id]) k) 1 hs hx8 (by rw[TO,wR hk hz,if_pos rfl]) (fun x hx=>(wR hk hz).trans (if_neg (by rw[←TO];exact hx)))) (List.drop_append_of_le_length hq).symm (rB h)) ?_;refine eN [] (yD b l (G++[id]) k q::F) SI.nil rA ⟨rfl,?_⟩;rw[BQ (GK kK) hz]
  have oQ:=dF vV;refine gy ?_;refine ab (fun _ h=>jI (l:=l) (G:=G) (k:=k) (q:=q) rfl rfl (rB h)) ?_;refine eN [] (yD b l G k q::F) SI.nil rA ⟨rfl,?_⟩;rw[OD (by have:=OE (dF vV);rwa [TO]at this)]
 refine gy ?_;refine ab (fun _ h=>jI (l:=l) (G:=G) (k:=k) (q:=q) rfl rfl (rB h)) ?_;refine eN _ _ SI.nil rA ⟨rfl,?_⟩;exfalso;have:=dF kj;omega
theorem B3{x:Ob}(hx:Fk Z x)(h1:x.refs.length≤100000)(h2:x.ents.length≤100000):SF Tryz.prog 124 #[x.v] Z [] fun r Bs=>Bs=[own an r (eQ x)]:=by
 refine bO Tryz.func124 32 (fun w0=>?_);refine gA fun g1=>?_
 refine gA fun g2=>?_
 refine aC (fun _ h=>Holds.slice 0 h ak []) ?_;refine gP _ fun v3 _=>?_
 rw[List.nil_append];skip;refine gy ?_;refine bk (fun H h=>(hx.2.get h).len_le) (fun le=>?_);refine aK (Bs:=[own an v3 (x.refs++(x.ents.take 0).flatMap j5),aa g1 #[iw x.id,iw x.size,iw x.weak,x.rv.v,x.ev.v] 100]) (fun _ h=>by rw[show x.refs++(x.ents.take 0).flatMap j5=x.refs from List.append_nil _];exact h) ?_;refine aD (ι:=Value×Nat) (fun (sx,i)=>i≤x.ents.length) (fun (sx,i)=>[(1,pB g1 0),(2,nS),(3,sx),(4,iw (i:Int))]) (fun (sx,i)=>[own an sx (x.refs++(x.ents.take i).flatMap j5),aa g1 #[iw x.id,iw x.size,iw x.weak,x.rv.v,x.ev.v] 100]) (fun (sx,i)=>x.ents.length-i) (v3,0) (Nat.zero_le _) sA rA ?_;rintro⟨sx,i⟩ wN;replace wN:i≤x.ents.length:=wN;show SK _ _ _ _ _ [(1,pB g1 0),(2,nS),(3,sx),(4,iw (i:Int))] _ [own an sx (x.refs++(x.ents.take i).flatMap j5),aa g1 #[iw x.id,iw x.size,iw x.weak,x.rv.v,x.ev.v] 100];have VX:=ou (x.ents.take i);rw[List.length_take]at VX;refine fk (fun p7=>?_) (fun fL=>?_)
 .obtain ⟨y8,oH⟩:∃y,x.ents[i]?=some y:=⟨_,List.getElem?_eq_getElem ol⟩;refine gy ?_;refine ah (e:=3) [(0,iw y8.key),(1,iw y8.val)] #[iw y8.key,iw y8.val] (fun g10=>?_) (hb:=by kernel_rfl);refine gP [y8.key,y8.val] fun v11 uU=>?_
  rw[List.append_assoc,yC oH];exact xr (v11,i+1) (by show i+1≤x.ents.length;omega)
 refine gz ?_;exact fg rfl (fun _ h=>by rw[List.take_of_length_le om]at h;exact h.re [0] [1])
theorem Y7(hg:oO Z ov rv l R)(hc:chk 0 l=true)(hs:oK l)(hl:l.length≤100000)(hr:R.length≤100000):SF Tryz.prog 58 #[.agg #[ov,rv]] Z [] fun r Bs=>∃b,r=.tuple #[pB b 0,iw 0]∧Bs=[yD b l (srs (iO l) [] R) 0 0]:=by
 refine bO Tryz.func58 38 (fun w0=>?_);have hO:=hg.each;refine gy ?_;refine bj #[ov,rv] (fun g1=>?_);refine gy ?_;refine sV (fun _ h=>tE (hg.up h)) ?_;refine sL (Lt.to aT (cB (decide_eq_false (fun e=>e (by rw[hc];rfl)):(decide ((fa (chk 0 l))≠0))=false)))<|a8<|ax<|eh<|jB<|ax<|aE<|bd<|sL (ai (pB g1 0))<|sL (aJ 0 ov) ?_
 refine gy ?_;refine FJ ak Tryz.underlying23 (l.length:Int) om (by show 8*_≤_;omega) om (fun v2=>?_);refine sF 0 (fun Ro=>?_);refine sL (show Lt _ _ _ _ _ (.agg #[nS,nS,v2,nS]) from by obtain⟨_,_,e⟩:=Ro;rw[e];clear e;exact ay _)<|bj #[nS,nS,v2,nS] (fun g4=>?_)
 refine gy ?_;refine ah (e:=100) [] #[] (fun g5=>?_) (hb:=by kernel_rfl);refine gy ?_;refine aC (fun _ h=>Holds.slice 0 h bt []) ?_;refine aq (L:=[]) 0 bt Tryz.underlying55 (.zn hg.obs) (by show _*72≤_;(try simp only[cD]);omega) ol (fun v6=>?_);rw[List.nil_append];refine sF 0 (fun J7=>?_);refine gy ?_;refine aK (fun _ h=>Holds.nilO (T:=an) h) ?_;refine aK (fun _ h=>jI (l:=l) (G:=[]) (k:=0) (q:=0) (TN l) rfl (h.re [2,1,1,0] [])) ?_;refine aK (Bs:=[yD g4 l (srs (iO l) [] (R.take 0)) 0 0,aa g1 #[ov,rv] 57]) (fun _ h=>h) ?_;refine aD (ι:=Nat) (fun j=>j≤R.length) (fun j=>[(1,pB g1 0),(2,.pointer none),(3,iw 0),(4,pB g4 0),(5,iw (j:Int))]) (fun j=>[yD g4 l (srs (iO l) [] (R.take j)) 0 0,aa g1 #[ov,rv] 57]) (fun j=>R.length-j) 0 (Nat.zero_le _) sA rA ?_;rintro j BD;show SK _ _ _ _ _ [(1,pB g1 0),(2,.pointer none),(3,iw 0),(4,pB g4 0),(5,iw (j:Int))] _ [yD g4 l (srs (iO l) [] (R.take j)) 0 0,aa g1 #[ov,rv] 57];have Jp:=Ie (iO l) (R.take j) [];rw[List.length_take]at Jp;simp only[List.length_nil]at Jp;refine aE<|aE<|bd<|sL (ai (iw (j:Int)))<|sL (ai (pB g1 1))<|sL (aJ 1 rv)<|sL (bL ak Tryz.underlying23 (.zn hg.roots))<|sL aT<|a8<|ax ?_
 refine bg (decide ((j:Int)<(R.length:Int))) (fun c9=>?_) (fun c9=>?_)
 .have gQ:=dY c9;refine jB<|ax<|aE<|cE<|bd<|sL (ai (pB g4 0))<|sL (ai (pB g1 1))<|sL (aJ 1 rv)<|sL (ai (iw (j:Int)))<|sL (aF ak Tryz.underlying23 (.zn hg.roots) (j:Int) j om ol om) ?_
  obtain⟨dp,jC⟩:∃y,R[j]?=some y:=⟨_,List.getElem?_eq_getElem ol⟩;refine sL (bC ak (.zn hg.roots) jC) ?_;refine sC [0] (Ec (G:=(srs (iO l) [] (R.take j))) (k:=0) (q:=0) hO hs hl (Nat.zero_le _) (Nat.zero_le _) om dp) ?_;refine gy ?_;rw[←tq jC];exact xr (j+1) om
 have fL:=dF c9;refine gz ?_;exact fg ⟨g4,rfl,rfl⟩ (fun _ h=>by rw[List.take_of_length_le om]at h;exact h.re [0] [1])
theorem TP(hO:∀x∈l,Fk Z x)(hs:oK l)(hl:l.length≤100000)(ca:∀o∈l,o.refs.length≤100000∧o.ents.length≤100000)(hB:Bq (iO l) (CR l) R 0 G):SF Tryz.prog 59 #[pB b 0,iw (l.length:Int)] Z (yD b l G 0 0::F) fun r Bs=>∃G1 k,Bq (iO l) (CR l) R k G1∧G1.length≤k∧Bs=yD b l G1 k k::F:=by
 refine bO Tryz.func59 78 (fun w0=>?_);refine gy ?_;refine aD (ι:=List Int×Nat) (fun (G1,i)=>i≤l.length∧Bq (iO l) (CR l) R i G1) (fun (G1,i)=>[(0,pB b 0),(1,iw (l.length:Int)),(4,.bool false),(5,iw (i:Int))]) (fun (G1,i)=>yD b l G1 i i::F) (fun (G1,i)=>l.length-i) (G,0) ⟨Nat.zero_le _,hB⟩ sA rA ?_;rintro⟨G1,i⟩ cQ;replace cQ:i≤l.length∧Bq (iO l) (CR l) R i G1:=cQ;show SK _ _ _ _ _ [(0,pB b 0),(1,iw (l.length:Int)),(4,.bool false),(5,iw (i:Int))] _ (yD b l G1 i i::F);obtain⟨zy,tF⟩:=id cQ;have hGl:=tF.len (fun x hx=>B2 hx);rw[List.length_map]at hGl;have ud:(G1.drop i).length=G1.length-i:=List.length_drop;refine gy ?_;refine dW 15 (decide ((i:Int)<(l.length:Int))) (fun c2=>?_) (fun c2=>?_)
 .have p3:=dY c2;refine gy ?_;refine dc (fun H h=>tM (rB h)) (fun ov4 cv5 Kx hw=>?_);have aj0:(l.map fun o=>kI G1 i o.id).length=l.length:=List.length_map _;refine gy ?_;refine bg (decide ((0:Int)<((G1.drop i).length:Int))) (fun c8=>?_) (fun c8=>?_)
  .have p9:=dY c8;obtain⟨bB,nm⟩:∃y,(G1.drop i)[0]?=some y:=⟨_,List.getElem?_eq_getElem ol⟩;refine gy ?_;refine aC (fun _ h=>Holds.sufO (i:=3) h ak 1 rfl ol) ?_;refine bl (fun H h=>((Acc.ownO (T:=an) (L:=((G1.drop i).drop 1)) 3 rfl) H h).form) (fun uU=>?_);refine gV ?_ (c:=fun _ h=>oj (show oO _ _ _ l [] from ⟨Acc.kn (T:=dT) (.own 1) h,Acc.kn (T:=an) .nil h,fun x hx=>⟨Kn.up (hO x hx).1 h,Kn.up (hO x hx).2 h⟩⟩) hs om bB);have TQ:=A4 nm;have hGi:=(List.getElem?_eq_some_iff.1 TQ).1;obtain⟨zM,fI,Ed,Wg,zD,agy⟩:=Kv hs (tF.snd bB (List.mem_of_getElem? TQ)).1;rw[agy];have agx:=hO fI (List.mem_of_getElem? Ed);have abK:zM<l.length:=(List.getElem?_eq_some_iff.1 Ed).1;refine gy ?_;have RF:=ca fI (List.mem_of_getElem? Ed);refine a6 (fun _ h=>B3 (x:=fI) ⟨Kn.up (hO fI (List.mem_of_getElem? Ed)).1 h,Kn.up (hO fI (List.mem_of_getElem? Ed)).2 h⟩ RF.1 RF.2) ?_;rintro v21 _ rfl;skip;refine gy ?_;refine aK (fun _ h=>jI (l:=l) (G:=G1) (k:=i) (q:=(i+1)) rfl (drop_one _ _) (rB h)) ?_;have CS:=tF.step TQ;rw[GJ zD]at CS;have Iq:=CS;have O':(srs (iO l) G1 (eQ fI))[i]?=some bB:=by rw[Gw (rZ (iO l) (eQ fI) G1).pre om];exact TQ
   have RF:=ca fI (List.mem_of_getElem? Ed);have hao:(eQ fI).length=fI.refs.length+2*fI.ents.length:=by unfold eQ;rw[List.length_append,ou]
   refine aK (Bs:=yD b l (srs (iO l) G1 ((eQ fI).take 0)) i (i+1)::own an v21 (eQ fI)::F) (fun _ h=>h) ?_;refine aD (ι:=Nat) (fun j=>j≤(eQ fI).length) (fun j=>[(0,pB b 0),(1,iw (l.length:Int)),(4,.bool false),(5,iw (i:Int)),(6,iw bB),(7,iw (zM:Int)),(8,v21),(9,iw (j:Int)),(12,iw (i:Int)),(13,iw (l.length:Int)),(14,.bool (decide ((i:Int)<(l.length:Int)))),(15,.bool true),(16,pB b 0),(17,pB b 0),(18,pB b 3),(19,Kx),(20,iw ((G1.drop i).length:Int)),(21,.bool (decide ((0:Int)<((G1.drop i).length:Int)))),(22,.bool (decide ((0:Int)<((G1.drop i).length:Int)))),(25,pB b 0),(26,pB b 0),(27,pB b 3),(28,Kx),(29,.pointer (some (elemAt an.size Kx 0))),(30,iw bB),(31,pB b 0),(32,pB b 0),(33,pB b 0),(34,pB b 3),(35,Kx),(36,(suf an.size Kx 1)),(37,pB b 0),(38,pB b 3),(39,pB b 0),(40,pB b 0),(41,pB b 0),(42,.agg #[ov4,nS]),(43,iw bB),(44,iw (zM:Int)),(45,pB b 0),(46,pB b 0),(47,pB b 0),(48,pB b 0),(49,ov4),(50,iw (zM:Int)),(51,.pointer (some (elemAt dT.size ov4 zM))),(52,.agg #[iw fI.id,iw fI.size,iw fI.weak,fI.rv.v,fI.ev.v]),(53,v21)]) (fun j=>yD b l (srs (iO l) G1 ((eQ fI).take j)) i (i+1)::own an v21 (eQ fI)::F) (fun j=>(eQ fI).length-j) 0 (Nat.zero_le _) sA rA ?_;rintro j Pa;show SK _ _ _ _ _ [(0,pB b 0),(1,iw (l.length:Int)),(4,.bool false),(5,iw (i:Int)),(6,iw bB),(7,iw (zM:Int)),(8,v21),(9,iw (j:Int)),(12,iw (i:Int)),(13,iw (l.length:Int)),(14,.bool (decide ((i:Int)<(l.length:Int)))),(15,.bool true),(16,pB b 0),(17,pB b 0),(18,pB b 3),(19,Kx),(20,iw ((G1.drop i).length:Int)),(21,.bool (decide ((0:Int)<((G1.drop i).length:Int)))),(22,.bool (decide ((0:Int)<((G1.drop i).length:Int)))),(25,pB b 0),(26,pB b 0),(27,pB b 3),(28,Kx),(29,.pointer (some (elemAt an.size Kx 0))),(30,iw bB),(31,pB b 0),(32,pB b 0),(33,pB b 0),(34,pB b 3),(35,Kx),(36,(suf an.size Kx 1)),(37,pB b 0),(38,pB b 3),(39,pB b 0),(40,pB b 0),(41,pB b 0),(42,.agg #[ov4,nS]),(43,iw bB),(44,iw (zM:Int)),(45,pB b 0),(46,pB b 0),(47,pB b 0),(48,pB b 0),(49,ov4),(50,iw (zM:Int)),(51,.pointer (some (elemAt dT.size ov4 zM))),(52,.agg #[iw fI.id,iw fI.size,iw fI.weak,fI.rv.v,fI.ev.v]),(53,v21)] _ (yD b l (srs (iO l) G1 ((eQ fI).take j)) i (i+1)::own an v21 (eQ fI)::F);have hgl:=(rZ (iO l) ((eQ fI).take j) G1).pre.length_le;have Wh:=Ie (iO l) ((eQ fI).take j) G1;rw[List.length_take]at Wh;refine gy ?_;refine bg (decide ((j:Int)<((eQ fI).length:Int))) (fun BU=>?_) (fun BU=>?_)
   .have mE:=dY BU;obtain⟨fl,Ef⟩:∃y,(eQ fI)[j]?=some y:=⟨_,List.getElem?_eq_getElem ol⟩;refine gC [0] ?_ (c:=Ec (G:=(srs (iO l) G1 ((eQ fI).take j))) (k:=i) (q:=(i+1)) hO hs hl om om om fl);rw[←tq Ef];exact xr (j+1) om
   have pD:=dF BU;refine cW ?_;obtain rfl:j=(eQ fI).length:=by omega
   rw[List.take_length];refine gy ?_;refine dc (fun H h=>tM (rB h)) (fun aj1 aj2 aj3 hw=>?_);have aiy:(l.map fun o=>kI (srs (iO l) G1 (eQ fI)) i o.id).length=l.length:=List.length_map _;refine gy ?_;refine dX 2 0 2 ak (show ((l.map fun o=>kI (srs (iO l) G1 (eQ fI)) i o.id))[zM]?=some (kI (srs (iO l) G1 (eQ fI)) i fI.id) by rw[List.getElem?_map,Ed];rfl) ?_;refine gy ?_;refine ab (fun _ h=>jI (l:=l) (G:=(srs (iO l) G1 (eQ fI))) (k:=(i+1)) (q:=(i+1)) (Eb (f:=kI (srs (iO l) G1 (eQ fI)) i) (kI (srs (iO l) G1 (eQ fI)) (i+1)) 2 hs Ed (by rw[Wg];exact (qI O').trans (if_pos rfl)) (fun x hx=>(qI O').trans (if_neg (by rw[←Wg];exact hx)))) rfl (rB h)) ?_;exact xr (srs (iO l) G1 (eQ fI),i+1) ⟨by omega,Iq⟩
  have VJ:=dF c8;refine cW<|cM<|cM<|gL<|ax<|aE<|bd<|sL (ai (pB b 0))<|sL (ai (pB b 0))<|sL (ai (pB b 3))<|sL (aJ 0 Kx)<|sL (bL ak Tryz.underlying23 (.ownO 3))<|sL aT<|sL (ai (.bool (decide (((G1.drop i).length:Int)=0))))<|a8<|ax<|eM ?_
  refine ab (fun _ h=>jI (l:=l) (G:=G1) (k:=i) (q:=i) rfl rfl (rB h)) ?_;refine ad [.bool (decide (((G1.drop i).length:Int)=0))] (yD b l G1 i i::F) (SI.tmp 4 SI.nil) rA ⟨G1,i,tF,by omega,rfl⟩
 have kt:=dF c2;refine gy ?_;refine dc (fun H h=>tM (rB h)) (fun aj4 aj5 agz hw=>?_);have aiz:(l.map fun o=>kI G1 i o.id).length=l.length:=List.length_map _;refine sL (aJ 0 agz)<|sL (bL ak Tryz.underlying23 (.ownO 3))<|sL aT<|sL (ai (.bool (decide (((G1.drop i).length:Int)=0))))<|a8<|ax<|eM ?_
 refine ab (fun _ h=>jI (l:=l) (G:=G1) (k:=i) (q:=i) rfl rfl (rB h)) ?_;refine ad [.bool (decide (((G1.drop i).length:Int)=0))] (yD b l G1 i i::F) (SI.tmp 4 SI.nil) rA ⟨G1,i,tF,by omega,rfl⟩
theorem Pb(hg:oO Z ov rv l R)(hc:chk 0 l=true)(hs:oK l)(hl:l.length≤100000)(hr:R.length≤100000)(ca:∀o∈l,o.refs.length≤100000∧o.ents.length≤100000):SF Tryz.prog 21 #[.agg #[ov,rv]] Z [] fun r Bs=>∃v G k,r=.tuple #[v,iw 0]∧Bq (iO l) (CR l) R k G∧G.length≤k∧Bs=[own an v (pV l G)]:=by
 refine bO Tryz.func21 46 (fun w0=>?_);refine bk (fun H h=>(hg.obs.get h).len_le) (fun lA=>?_);refine gA fun g1=>?_
 refine a6 (fun _ h=>Y7 (hg.up h) hc hs hl hr) ?_;rintro _ _ ⟨b2,rfl,rfl⟩;refine gy ?_;refine aH [0] (TP hg.each hs hl ca (DV (iO l) (CR l) R)) ?_;rintro v5 _ ⟨G3,k4,hB,Ky,rfl⟩;refine gy ?_;refine aK (fun _ h=>Holds.nilS (T:=an) h) ?_;refine aK (Bs:=[own an nS (pV (l.take 0) G3),yD b2 l G3 k4 k4,aa g1 #[ov,rv] 57]) (fun _ h=>h) ?_;refine aD (ι:=Value×Nat) (fun (sx,i)=>i≤l.length) (fun (sx,i)=>[(1,pB g1 0),(2,nS),(3,iw 0),(4,pB b2 0),(6,sx),(7,iw (i:Int))]) (fun (sx,i)=>[own an sx (pV (l.take i) G3),yD b2 l G3 k4 k4,aa g1 #[ov,rv] 57]) (fun (sx,i)=>l.length-i) (nS,0) (Nat.zero_le _) sA rA ?_;rintro⟨sx,i⟩ kV;replace kV:i≤l.length:=kV;show SK _ _ _ _ _ [(1,pB g1 0),(2,nS),(3,iw 0),(4,pB b2 0),(6,sx),(7,iw (i:Int))] _ [own an sx (pV (l.take i) G3),yD b2 l G3 k4 k4,aa g1 #[ov,rv] 57];have vU:=wX (l.take i) G3;rw[List.length_take]at vU;refine gy ?_;refine bg (decide ((i:Int)<(l.length:Int))) (fun c7=>?_) (fun c7=>?_)
 .have p8:=dY c7;refine gy ?_;refine dc (fun H h=>tM (rB h)) (fun ov9 agA agB hw=>?_);have aiA:(l.map fun o=>kI G3 k4 o.id).length=l.length:=List.length_map _;refine gy ?_;obtain⟨fQ,oe⟩:∃y,l[i]?=some y:=⟨_,List.getElem?_eq_getElem ol⟩;have ae8:=hg.each fQ (List.mem_of_getElem? oe);refine sL (bC ak (.own 2) (show ((l.map fun o=>kI G3 k4 o.id))[i]?=some (kI G3 k4 fQ.id) by rw[List.getElem?_map,oe];rfl)) ?_;refine gy ?_;refine bg (decide ((kI G3 k4 fQ.id)=2)) (fun vV=>?_) (fun vV=>?_)
  .have mM:=dY vV;refine gA fun g18=>?_
   refine gP [fQ.id] fun v19 Y6=>?_
   refine ab (fun _ h=>jI (l:=l) (G:=G3) (k:=k4) (q:=k4) rfl rfl (rB h)) ?_;rw[Ip oe ((wS Ky).1 mM)];exact xr (v19,i+1) (by show i+1≤l.length;omega)
  have oQ:=dF vV;refine gy ?_;refine ab (fun _ h=>jI (l:=l) (G:=G3) (k:=k4) (q:=k4) rfl rfl (rB h)) ?_;rw[O9 oe (fun q=>oQ ((wS Ky).2 q))];exact xr (sx,i+1) (by show i+1≤l.length;omega)
 have nQ:=dF c7;refine gz ?_;exact fg ⟨sx,G3,k4,rfl,hB,Ky,rfl⟩ (fun _ h=>by rw[List.take_of_length_le om]at h;exact h.re [0] [1,1])
def dh(c:Int→Int)(k v:Int):Int→Int:=fun x=>if x=k then v else c x
def c0:Int→Int:=fun _=>0
theorem np(c:Int→Int)(k v:Int):dh c k v k=v:=if_pos rfl
theorem iI{k v:Int}(h:x≠k):dh c k v x=c x:=if_neg h
def mgt(m:List (Int×Int))(k:Int):Int:=(bN m k).getD 0
def Ir(m:List (Int×Int))(c:Int→Int):Prop:=∀id,mgt m id=c id
theorem Ir.nil:Ir [] c0:=fun _=>rfl
theorem Ir.set(h:Ir m c)(k v:Int):Ir (dO m k v) (dh c k v):=fun id=>by
 unfold mgt dh;rw[cL];by_cases e:id=k
 .rw [if_pos e,if_pos e];rfl
 rw[if_neg e,if_neg e];exact h id
theorem Ir.del(h:Ir m c)(hn:(m.map Prod.fst).Nodup)(k:Int):Ir (eB m k) (dh c k 0):=fun id=>by
 unfold mgt dh;rw[dg hn];by_cases e:id=k
 .rw [if_pos e,if_pos e];rfl
 rw[if_neg e,if_neg e];exact h id
def eJ(st:bp)(id:Int):List Int:=hrefs st id++(aY st id).flatMap j5
theorem hJ(ca:jv n st)(hn:n≤300)(id:Int):(hrefs st id).length≤400∧(aY st id).length≤91000∧(eJ st id).length≤190000:=by
 have key:(hrefs st id).length≤400∧(aY st id).length≤91000:=by
  cases hg:st.get id with
  | none=>have:=yj hg 0;rw[this.2.2.2.2.1,this.2.2.2.2.2];exact⟨Nat.zero_le _,Nat.zero_le _⟩
  | some o=>
   obtain⟨h1,h2,h3⟩:=nj ca hn hg;have ho:=iC hg 0;grind[AS,gG,n',qF,dC,yi,a7,ni]
 grind[eJ,ou]
def j6(st:bp)(m:Int→Int)(id:Int):Int→Int:=if aw st id=true∧m id=0 then dh m id 1 else m
def kR(st:bp)(m:Int→Int)(Q:List Int)(id:Int):List Int:=if aw st id=true∧m id=0 then Q++[id] else Q
def TR(st:bp)(s:(Int→Int)×List Int)(id:Int):(Int→Int)×List Int:=(j6 st s.1 id,kR st s.1 s.2 id)
def rchA(st:bp)(s:(Int→Int)×List Int)(X:List Int):(Int→Int)×List Int:=X.foldl (TR st) s
theorem lu{s:(Int→Int)×List Int}{X:List Int}(h:X[i]?=some y):rchA st s (X.take (i+1))=TR st (rchA st s (X.take i)) y:=by
 unfold rchA;rw[List.take_add_one,h,List.foldl_append];rfl
theorem Pc(st:bp)(m:Int→Int)(Q:List Int)(id:Int):(kR st m Q id).length≤Q.length+1:=by grind[kR]
theorem lO(st:bp)(X:List Int):∀s:(Int→Int)×List Int,(rchA st s X).2.length≤s.2.length+X.length:=by
 induction X with
 | nil=>exact fun s=>Nat.le_refl _
 | cons a r ih=>exact fun s=>by have:=ih (TR st s a);have h2:=Pc st s.1 s.2 a;simp only[List.length_cons];unfold rchA at *;simp only[List.foldl_cons];unfold TR at *;dsimp only at *;omega
structure dU where
 ph:Int
 col:Int→Int
 Q:List Int
 L:List Int
 Fr:List Int
 G:List Int
 P:List Int
def dU.rts(s:dU)(R:List Int):List Int:=R++(s.G++s.P)
def bgn(st:bp)(R:List Int)(s:dU):dU:={ s with ph:=1,col:=(rchA st (c0,[]) (s.rts R)).1,Q:=(rchA st (c0,[]) (s.rts R)).2 }
def setl(st:bp)(R:List Int)(s:dU):dU:=
 if s.ph=1∧s.Q=[] then
  if (rchA st (s.col,[]) (s.rts R)).2=[] then { s with ph:=2,col:=(rchA st (s.col,[]) (s.rts R)).1,L:=aQ st }
  else { s with col:=(rchA st (s.col,[]) (s.rts R)).1,Q:=(rchA st (s.col,[]) (s.rts R)).2 }
 else s
def mrk(st:bp)(s:dU):dU:=match s.Q with
 | x::Q=>{ s with col:=dh (rchA st (s.col,Q) (eJ st x)).1 x 2,Q:=(rchA st (s.col,Q) (eJ st x)).2 }
 | []=>s
def swp(st:bp)(s:dU):bp×dU:=match s.L with
 | x::L=>if s.col x=0 then (dA st x,{ s with L:=L,Fr:=s.Fr++[x] }) else (st,{ s with L:=L,col:=dh s.col x 0 })
 | []=>(st,s)
def cK(s:dU):dU:=if s.L=[] then { s with ph:=0 } else s
def itr(st:bp)(R:List Int)(s:dU):bp×dU×Bool:=
 if (setl st R s).ph=1 then (st,mrk st (setl st R s),true)
 else if (setl st R s).L=[] then (st,cK (setl st R s),false)
 else ((swp st (setl st R s)).1,cK (swp st (setl st R s)).2,true)
def wrk:Nat→bp→List Int→dU→bp×dU×Nat
 | 0,st,_,s=>(st,s,0)
 | k+1,st,R,s=>if s.ph=0 then (st,s,0) else
  if (itr st R s).2.2=true then ((wrk k (itr st R s).1 R (itr st R s).2.1).1,(wrk k (itr st R s).1 R (itr st R s).2.1).2.1,(wrk k (itr st R s).1 R (itr st R s).2.1).2.2+1)
  else ((itr st R s).1,(itr st R s).2.1,0)
def work(k:Nat)(st:bp)(R:List Int)(s:dU):bp×dU×Nat:=if k=0 then (st,s,0) else wrk k st R (if s.ph=0 then bgn st R s else s)
def lP(reg:List Int)(id:Int):Int:=if id<1 then 2 else if id∈reg then 10 else 0
def gO(reg:List Int)(id:Int):List Int:=if id<1 then reg else if id∈reg then reg else reg++[id]
def k8(st:bp)(id:Int):Int:=if aw st id=true then 0 else 2
def wrt(st:bp)(s:dU)(a b:Int):dU:=if aw st a=true∧s.ph=1∧s.col a=2 then { s with col:=j6 st s.col b,Q:=kR st s.col s.Q b } else s
def mO(L:List Int)(id:Int):List Int:=L.filter fun x=>!decide (x=id)
def brt(st:bp)(s:dU)(id:Int):dU:=if aw st id=true then (if s.ph=1 then { s with col:=dh s.col id 2,Q:=mO s.Q id } else { s with col:=dh s.col id 0,L:=mO s.L id }) else s
def dU.doom(s:dU)(id:Int):Prop:=s.ph=2∧s.col id=0∧id∈s.L
instance(s:dU)(id:Int):Decidable (s.doom id):=by unfold dU.doom;infer_instance
def l6(st:bp)(s:dU)(id:Int):Int:=if aw st id=true then (if s.doom id then 19 else lP s.G id) else 2
def rgs(st:bp)(s:dU)(id:Int):dU:=if aw st id=true∧¬s.doom id then (if lP s.G id=0∧s.ph=1 then { s with G:=gO s.G id,col:=j6 st s.col id,Q:=kR st s.col s.Q id } else { s with G:=gO s.G id }) else s
/-! ### What every state keeps -/
def QI(st:bp)(c:Int→Int)(Q:List Int):Prop:=Q.Nodup∧∀x∈Q,aw st x=true∧c x≠0
theorem QI.nil(st:bp)(c:Int→Int):QI st c []:=⟨List.nodup_nil,fun x h=>by cases h⟩
theorem QI.len(h:QI st c Q):Q.length≤(aQ st).length:=h.1.length_le_of_subset fun x hx=>dj.2 (h.2 x hx).1
theorem It(h:c x≠0):j6 st c id x=c x:=by
 unfold j6;split
 .rename_i q;exact iI fun e=>h (by grind)
 rfl
theorem QI.rch(h:QI st c Q)(id:Int):QI st (j6 st c id) (kR st c Q id):=by
 unfold kR;by_cases q:aw st id=true∧c id=0
 .rw [if_pos q];refine⟨?_,fun x hx=>?_⟩
  .rw [List.nodup_append];refine⟨h.1,by simp,fun a ha b hb=>?_⟩;simp at hb;subst hb;exact fun e=>(h.2 a ha).2 (by grind)
  rcases List.mem_append.1 hx with hx|hx
  .exact ⟨(h.2 x hx).1,by rw[It (h.2 x hx).2];exact (h.2 x hx).2⟩
  simp at hx;subst hx;exact⟨q.1,by unfold j6;rw[if_pos q,np];decide⟩
 rw[if_neg q];exact⟨h.1,fun x hx=>⟨(h.2 x hx).1,by rw[It (h.2 x hx).2];exact (h.2 x hx).2⟩⟩
theorem QI.rchA(X:List Int):∀{c:Int→Int}{Q:List Int},QI st c Q→QI st (rchA st (c,Q) X).1 (rchA st (c,Q) X).2:=by
 induction X with
 | nil=>exact fun h=>h
 | cons a r ih=>exact fun h=>ih (h.rch a)
structure CI(N:Nat)(st:bp)(s:dU):Prop where
 ph:s.ph=0∨s.ph=1∨s.ph=2
 q:s.ph=1→QI st s.col s.Q
 q0:s.ph≠1→s.Q=[]
 l:s.ph=2→s.L.Nodup∧∀x∈s.L,aw st x=true
 l0:s.ph≠2→s.L=[]
 fr:s.Fr.length+(aQ st).length≤N
 gp:s.G.length+s.P.length≤N
 sm:jv N st
 w:HW st
 i:fe st
theorem CI.ql{N:Nat}{s:dU}(h:CI N st s):s.Q.length≤N:=by
 by_cases e:s.ph=1
 .have h1:=(h.q e).len;have h2:=h.fr;omega
 rw[h.q0 e];exact Nat.zero_le _
theorem CI.ll{N:Nat}{s:dU}(h:CI N st s):s.L.length≤N:=by
 by_cases e:s.ph=2
 .have h1:=(h.l e).1.length_le_of_subset (l₂:=aQ st) fun x hx=>dj.2 ((h.l e).2 x hx)
  have h2:=h.fr;omega
 rw[h.l0 e];exact Nat.zero_le _
end
end Go.Proofs.YtmhpcebiamkciaaGreat
section
namespace Go.S
open Go.Hp Go.J Go.RowKit
open Go.Mem (Ty fS blk suf addr_add)
section
variable{P:Program}{w0:World}{ops:Array Oper}{Q:Exit→Act→World→Prop}{n:Nat}{E:Env}{Z:bK}{As:List aW}{o:Oper}{rest:List Oper}{α:Type}{T:Ty α}
theorem Kz{s x:Operand}{t tn:TypeId}{d:Nat}{q kq:IntKind}{y:Int}(k:Nat)(hT:T.Ok P)(ht:P.underlying t=some (.slice T.id))(htn:P.underlying tn=some (.int kq))(hy:y=(k:Int))(h0:0<k)(hb:k*T.bytes≤140737488355328)(zg:k≤9223372036854775807)(h:∀v',SL P w0 ops Q n rest ((d,v')::E) Z (own T v' (List.replicate k T.zero)::As))(ho:o.op=.call { callee:=.builtin .append,args:=#[s,x],argTypes:=#[t,tn] }:=by rfl)(hs:ev E s=.slice none 0 0:=by rfl)(hx:ev E x=.int q y:=by rfl)(hd:o.dst=some d:=by rfl)(hk:cU ops n E o=true:=by kernel_rfl):SL P w0 ops Q n (o::rest) E Z As:=fun H hH=>by
 subst hy;refine sG (R:=fun v' H'=>Ow H' T v' (List.replicate k T.zero)∧Chg (fun _=>False) H H'∧blk v'=some H.size) hk (fun w ha=>?_) (fun v' H' ⟨a1,a2,a3⟩=>?_)
 .obtain ⟨i,hi,mm,WA,hz⟩:=hT.info;rw[←WA]at hb;have hr:=Go.Lib.run_append_nil_zeros (P:=P) w t tn o.type T.id i _ q kq ht htn hi hz k h0 (by rw[mm];exact hT.pos) (by omega) (by omega);have WC:=grownCap_ge w k 0 T.id;have Ht:=grownCap_le_maxLen w k 0 T.id (by simpa [maxLen]using zg);have hzs:(T.val T.zero).cells.size=T.size:=by have:=hT.len T.zero;simpa [Ty.enc]using this
  have Xo:=Chg.of_mem ((Mem.Chg.refl (fun _=>False) w).drew.alloc (.cells (Builtin.zeroCells (T.val T.zero).cells k++Builtin.zeroCells (T.val T.zero).cells (grownCap w k 0 T.id-k)) T.id));refine⟨.slice (some ⟨w.heap.size,0,none⟩) k (grownCap w k 0 T.id),w.drew.alloc (.cells (Builtin.zeroCells (T.val T.zero).cells k++Builtin.zeroCells (T.val T.zero).cells (grownCap w k 0 T.id-k)) T.id),?_,⟨rfl,ha.os,ha.tape,ha.output⟩,.inr ⟨w.heap.size,_,_,by rw[List.length_replicate],heap_alloc_new w.drew _,by simpa using WC,Ht,?_,?_⟩,by rw[←ha.heap];exact Xo,by rw[←ha.heap];rfl⟩
  .unfold execOp;simp only[ho,resolve,invoke,builtin,Sem.run_bind,Sem.run_pure,Result.andThen_ok,List.map_toArray,List.map_cons,List.map_nil,hs,hx,hr]
  .simp only[Array.size_append,size_zeroCells,hzs,←Nat.add_mul];exact Nat.le_of_eq (by congr 1;omega)
  have e:(Builtin.zeroCells (T.val T.zero).cells k).toList=T.flat (List.replicate k T.zero):=by
   rw[←Go.Mem.madeCells_flat hT,←hzs];rfl
  have hl:=hT.flat_len (List.replicate k T.zero);rw[Array.toList_append,e,←hl];exact List.take_left
 rw[hd];exact h v' H' (hH.new (a2.mono fun k _ hk=>hk.elim) (S':=fun k=>blk v'=some k) ⟨a1,fun k=>Iff.rfl⟩ fun k hk=>by rw[a3]at hk;cases hk;omega)
end
end Go.S
end
section
namespace Go.S
open Go.Hp Go.J Go.RowKit
open Go.Mem (Ty fS blk pre suf addr_add elemAt spliceAt)
section
variable{α:Type}{T:Ty α}{v:Value}{L M:List α}{H H':bb}{S:Nat→Prop}{P:Program}{Z:bK}{As:List aW}
theorem vW.pre(h:vW H T v L S)(hT:T.Ok P)(n:Nat)(hn:n≤L.length):vW H T (Go.Mem.pre v n) (L.take n) S:=by
 rcases h with ⟨⟨p,rfl⟩,rfl,h⟩|⟨g,off,cap,arr,rfl,h1,h2,h3,h4,h5,hS⟩
 .simp at hn;subst hn;exact .inl ⟨⟨p,rfl⟩,rfl,h⟩
 have hl:(L.take n).length=n:=by rw[List.length_take];omega
 have hm:n*T.size≤L.length*T.size:=Nat.mul_le_mul_right _ hn;refine .inr ⟨g,off,cap,arr,by rw[hl];rfl,h1,by omega,h3,h4,?_,hS⟩;rw[hl,←hT.flat_take,←h5,List.take_take,Nat.min_eq_left hm]
theorem Holds.preO{i:Nat}(h:Holds Z As H)(hT:T.Ok P)(n:Nat)(hi:gt As i=some (ownO T v L))(hn:n≤L.length):Holds Z (upd As i (ownO T (Go.Mem.pre v n) (L.take n))) H:=
 h.step hi fun S hS=>⟨S,vW.pre hS hT n hn,Chg.refl _ _,fun k hk=>.inl hk⟩
theorem Eg(l:List Value)(o p:Nat)(cs:List Value)(ho:o≤l.length):(spliceAt l (o+p) cs).drop o=spliceAt (l.drop o) p cs:=by
 have e:l=l.take o++l.drop o:=(List.take_append_drop o l).symm;have hl:(l.take o).length=o:=by rw[List.length_take];omega
 generalize l.take o=A at e hl
 generalize l.drop o=B at e
 subst e;subst hl;unfold spliceAt;rw[List.take_length_add_append,Nat.add_assoc,List.drop_length_add_append,List.append_assoc,List.append_assoc,List.drop_left,List.append_assoc]
theorem vW.put{w:World}{g off cap p:Nat}{arr:Array Value}{cs:List Value}{L':List α}(hT:T.Ok P)(h1:w.heap[g]?=some (.cells arr T.id (0,0)))(h2:L.length≤cap)(h3:cap≤maxLen)(h4:off+cap*T.size≤arr.size)(h5:(arr.toList.drop off).take (L.length*T.size)=T.flat L)(hS:∀k,S k↔k=g)(hp:p+cs.length≤L.length*T.size)(hl:L'.length=L.length)(he:T.flat L'=spliceAt (T.flat L) p cs):
  vW (w.setRow g (spliceAt arr.toList (off+p) cs).toArray).heap T (.slice (some ⟨g,off,none⟩) L.length cap) L' S∧Chg S w.heap (w.setRow g (spliceAt arr.toList (off+p) cs).toArray).heap:=by
 have hm:L.length*T.size≤cap*T.size:=Nat.mul_le_mul_right _ h2;have mm:(spliceAt arr.toList (off+p) cs).length=arr.size:=by unfold spliceAt;simp;omega
 refine⟨.inr ⟨g,off,cap,_,by rw[hl],sH w g _ arr T.id (0,0) h1,by omega,h3,by simp[mm];omega,?_,hS⟩,⟨by simp,fun k _ hk=>setRow_other w g k _ fun e=>hk ((hS k).2 e)⟩⟩;rw[List.toList_toArray,Eg _ _ _ _ (by simp;omega),hl,he,←h5];have:=Go.Mem.take_splice (arr.toList.drop off) (L.length*T.size) p cs hp (by simp;omega);rw[←this];rfl
theorem yE{w:World}(hT:T.Ok P){t:TypeId}{i:TypeInfo}(hi:P.info? t=some i)(hs:i.size=T.size)(hv:vW w.heap T v L S){k:Nat}{z:α}(z':α)(hz:L[k]?=some z):
  ∃w',(storeVar t (elemAt T.size v k) (T.val z')).run P w=.ok () w'∧vW w'.heap T v (L.set k z') S∧Chg S w.heap w'.heap∧w'.os=w.os∧w'.tape=w.tape∧w'.output=w.output:=by
 have Fo:k<L.length:=(List.getElem?_eq_some_iff.1 hz).1;rcases hv with ⟨_,rfl,_⟩|⟨g,off,cap,arr,rfl,h1,h2,h3,h4,h5,hS⟩
 .simp at hz
 .have Gs:(T.val z').cells.toList=T.enc z':=rfl;have hlen:=hT.len z';have hb:(k+1)*T.size≤L.length*T.size:=Nat.mul_le_mul_right _ Fo;have hc:L.length*T.size≤cap*T.size:=Nat.mul_le_mul_right _ h2;rw[Nat.add_mul]at hb;have Q4:(T.val z').cells.size=T.size:=by have:=hlen;rw[←Gs]at this;simpa using this
  have hr:=xm (P:=P) hi h1 (T.val z') (k:=off+k*T.size) (by omega) (by omega) (fun c hc=>hT.one z' c (by rw[←Gs];exact hc));have hx:=hT.len z;have ac2:T.enc z'=spliceAt (T.enc z) 0 (T.enc z'):=by unfold spliceAt;rw[List.drop_of_length_le (by omega)];simp
  have q:=vW.put (w:=w) (S:=S) (p:=k*T.size) (cs:=T.enc z') (L':=L.set k z') hT h1 h2 h3 h4 h5 hS (by omega) (by simp) (by have:=hT.flat_set hz (j:=0) (by omega) ac2;simpa using this);refine⟨_,?_,q.1,q.2,rfl,rfl,rfl⟩;simp only[elemAt,addr_add];exact hr
theorem yF{w:World}(hT:T.Ok P){t ty:TypeId}(ht:P.underlying t=some (.slice T.id)){z:Value}(hz:T.val T.zero=z)(hzv:∀w,(zeroValue T.id).run P w=.ok z w)(hzc:z.cells=#[z])(h1:z.oneCell'=true)(hv:vW w.heap T v L S){k:Nat}(hk:k≤L.length)(l7:L≠[]):
  ∃w',(Builtin.clear_ #[t] ty #[suf T.size v k]).run P w=.ok (.tuple #[]) w'∧vW w'.heap T v (L.take k++List.replicate (L.length-k) T.zero) S∧Chg S w.heap w'.heap∧w'.os=w.os∧w'.tape=w.tape∧w'.output=w.output:=by
 have mm:T.size=1:=by have:=hT.len T.zero;unfold Ty.enc at this;rw[hz,hzc]at this;simpa using this.symm
 have hzz:T.enc T.zero=[z]:=by unfold Ty.enc;rw[hz,hzc]
 rcases hv with ⟨_,rfl,_⟩|⟨g,off,cap,arr,rfl,hg,h2,h3,h4,h5,hS⟩
 .exact absurd rfl l7
 .rw [mm,Nat.mul_one]at h4;by_cases Fo:k=L.length
  .subst Fo;refine⟨w,?_,.inr ⟨g,off,cap,arr,by simp,hg,by simpa using h2,h3,by rw[mm];omega,by simpa using h5,hS⟩,Chg.refl _ _,rfl,rfl,rfl⟩;unfold suf;by_cases hc:cap=L.length
   .simp [Builtin.clear_,run_underlying ht,hzv,hc,Builtin.zeroCells,storeCells]
   simp[Builtin.clear_,run_underlying ht,hzv,hc,Builtin.zeroCells,storeCells]
  have nC:k<cap:=by omega
  have he:suf T.size (.slice (some ⟨g,off,none⟩) L.length cap) k=.slice (some ⟨g,off+k,none⟩) (L.length-k) (cap-k):=by
   unfold suf;simp only[show ¬cap=k by omega,if_false,Option.map_some,addr_add,mm,Nat.mul_one]
  have hr:=Go.Lib.run_clear_slice (P:=P) w t T.id ty z ht hzv hzc h1 g (off+k) (L.length-k) (cap-k) (by omega)
   (fun j hj=>by rw[cell_of_row w g _ arr T.id (0,0) hg,Array.getElem?_eq_getElem (by omega)];rfl) (fun j hj=>by simp[World.frozen?,hg])
  obtain⟨c1,c2,c3,c4,c5,c6⟩:=mA g (List.replicate (L.length-k) z) (off+k) w arr T.id (0,0) hg (by simp;omega);rw[he];refine⟨_,hr,.inr ⟨g,off,cap,_,by simp;omega,c1,by simp;omega,h3,?_,?_,hS⟩,⟨Nat.le_of_eq c2.symm,fun k hk hn=>c3 k fun e=>hn ((hS k).2 e)⟩,c4,c5,c6⟩
  .rw [mm];simp;omega
  have vq:T.flat (List.replicate (L.length-k) T.zero)=List.replicate (L.length-k) z:=by
   unfold Ty.flat;generalize L.length-k=m;induction m with
   | zero=>rfl
   | succ m ih=>rw[List.replicate_succ,List.flatMap_cons,ih,hzz];rfl
  have hA:arr.toList.take (off+k)=arr.toList.take off++T.flat (L.take k):=by
   rw[List.take_add,←hT.flat_take,←h5,mm,Nat.mul_one,Nat.mul_one,List.take_take,Nat.min_eq_left (by omega)]
  have ad7:(arr.toList.take off).length=off:=by rw[List.length_take,Array.length_toList];omega
  have hfk:(T.flat (L.take k)).length=k:=by rw[hT.flat_len,mm,List.length_take];omega
  rw[List.toList_toArray,hA,Ty.flat_append,vq,List.append_assoc,List.append_assoc];conv=>lhs;rw[show ∀X:List Value,(arr.toList.take off++X).drop off=X from fun X=>by rw[List.drop_append_of_le_length (by omega),List.drop_of_length_le (by omega)];rfl]
  rw[←List.append_assoc];refine List.take_left' ?_;rw[List.length_append,hfk,mm,List.length_replicate,List.length_append,List.length_take,List.length_replicate];omega
end
section
variable{P:Program}{w0:World}{ops:Array Oper}{Q:Exit→Act→World→Prop}{n:Nat}{E:Env}{Z:bK}{As:List aW}{o:Oper}{rest:List Oper}{α:Type}{T:Ty α}{v:Value}{L M:List α}
theorem Pd{t:TypeId}{x y:Operand}{k:Nat}{z:α}(i:Nat)(z':α)(hT:T.Ok P)(hz:L[k]?=some z)(h:SL P w0 ops Q n rest E Z (upd As i (ownO T v (L.set k z'))))(ho:o.op=.store t x y:=by rfl)(hA:gt As i=some (ownO T v L):=by rfl)(hx:ev E x=.pointer (some (elemAt T.size v k)):=by rfl)(hy:ev E y=T.val z':=by rfl)(hs:l8 P t T.size=true:=by kernel_rfl)(hd:o.dst=none:=by rfl)(hk:cU ops n E o=true:=by kernel_rfl):SL P w0 ops Q n (o::rest) E Z As:=fun H hH=>by
 unfold l8 at hs;cases hi:P.info? t with
 | none=>rw[hi]at hs;simp at hs
 | some inf=>
  rw[hi]at hs;have mm:inf.size=T.size:=Nat.eq_of_beq_eq_true hs;refine Bu (R:=fun H'=>Holds Z (upd As i (ownO T v (L.set k z'))) H') hk (fun w ha=>?_) (fun H' h'=>by rw[hd];exact h H' h');obtain⟨hw,hos,Dh,Di⟩:=ha;subst hw;obtain⟨S,hS,_⟩:=(hH.part hA);obtain⟨w',hr,q1,q2,q3,q4,q5⟩:=yE (S:=S) hT hi mm hS z' hz;refine⟨w',?_,⟨rfl,q3.trans hos,q4.trans Dh,q5.trans Di⟩,?_⟩
  .unfold execOp;simp only[ho,hx,hy];exact Mem.run_u (by unfold Instr.storeAt Instr.sureAddr;rw[Sem.run_bind,Sem.run_pure,Result.andThen_ok];exact hr)
  refine hH.step hA fun S2 Vx=>?_
  obtain⟨w2',Lz,r1,r2,_⟩:=yE (S:=S2) hT hi mm Vx z' hz;rw[hr]at Lz;injection Lz with e1 e2
  subst e2;exact⟨S2,r1,r2,fun k hk=>.inl hk⟩
theorem KA{x:Operand}{t:TypeId}{k:Nat}{z:Value}(i:Nat)(hT:T.Ok P)(ht:P.underlying t=some (.slice T.id))(hl:k≤L.length)(l7:L≠[])(h:SL P w0 ops Q n rest E Z (upd As i (ownO T v (L.take k++List.replicate (L.length-k) T.zero))))(ho:o.op=.call { callee:=.builtin .clear,args:=#[x],argTypes:=#[t] }:=by rfl)(hA:gt As i=some (ownO T v L):=by rfl)(hx:ev E x=suf T.size v k:=by rfl)(hz:T.val T.zero=z:=by rfl)(hzv:∀w,(zeroValue T.id).run P w=.ok z w:=by intro _;kernel_rfl)(hzc:z.cells=#[z]:=by rfl)(h1:z.oneCell'=true:=by rfl)(hd:o.dst=none:=by rfl)(hk:cU ops n E o=true:=by kernel_rfl):SL P w0 ops Q n (o::rest) E Z As:=fun H hH=>by
 refine sG (R:=fun _ H'=>Holds Z (upd As i (ownO T v (L.take k++List.replicate (L.length-k) T.zero))) H') hk (fun w ha=>?_) (fun v' H' h'=>by rw[hd];exact h H' h');obtain⟨hw,hos,Dh,Di⟩:=ha;subst hw;obtain⟨S,hS,_⟩:=(hH.part hA);obtain⟨w',hr,q1,q2,q3,q4,q5⟩:=yF (S:=S) (ty:=o.type) hT ht hz hzv hzc h1 hS hl l7;refine⟨.tuple #[],w',?_,⟨rfl,q3.trans hos,q4.trans Dh,q5.trans Di⟩,?_⟩
 .unfold execOp;simp only[ho,resolve,invoke,builtin,Sem.run_bind,Sem.run_pure,Result.andThen_ok,List.map_toArray,List.map_cons,List.map_nil,hx,hr]
 refine hH.step hA fun S2 Vx=>?_
 obtain⟨w2',Lz,r1,r2,_⟩:=yF (S:=S2) (ty:=o.type) hT ht hz hzv hzc h1 Vx hl l7;rw[hr]at Lz;injection Lz with e1 e2
 subst e2;exact⟨S2,r1,r2,fun k hk=>.inl hk⟩
end
end Go.S
end
namespace Go.Proofs.YtmhpcebiamkciaaGreat
open Go.Hp Go.J Go.S
open Go.Mem (fS Ty eB bN dg cL aget_none_iff cm db dO aset_new blk blk_pre fM elemAt pre rF suf)
section
variable{Z:bK}{b:Nat}{F:List aW}{reg pend L:List Int}{lv:Value}{H:bb}{c:Code}
abbrev eV(n:Int):Value:=.agg #[iw n]
def rC:Ty Int:=⟨153,1,8,true,eV,0⟩
theorem iM:rC.Ok Tryz.prog:=pg rC _ Tryz.t153 (by decide) (fun _=>rfl) (fun x u hu=>by simp[Ty.enc,rC,Value.cells]at hu;subst hu;rfl) (fun _=>rfl) Tryz.underlying153 rfl (fun h=>by cases h) (by kernel_rfl) (by kernel_rfl) (by kernel_rfl) (by kernel_rfl)
theorem eqE(x y:Int)(w:World):(binOp .eql 153 (eV x) (eV y)).run Tryz.prog w=.ok (.bool (decide (x=y))) w∧(binOp .neq 153 (eV x) (eV y)).run Tryz.prog w=.ok (.bool (!decide (x=y))) w:=by
 have h:=J.run_eqS (P:=Tryz.prog) (t:=153) [0] (by kernel_rfl) (by kernel_rfl) #[iw x] #[iw y] rfl rfl w;have e:J.cellsEq [iw x] [iw y]=decide (x=y):=by rw[Bool.eq_iff_iff];simp[J.cellsEq,J.cellEq]
 rw[e]at h;exact h
theorem bA{α:Type}{L:List α}{i:Nat}{y:α}(h:L[i]?=some y):L.take i++[y]=L.take (i+1):=by rw[List.take_add_one,h];rfl
def qA(b:Nat)(reg pend:List Int):aW:=lj fun rv=>lj fun pv=>zr True [aa b #[rv,pv] 151,own rC rv reg,ownO rC pv pend]
theorem uW(h:Holds Z (qA b reg pend::F) H):∃rv pv,True∧Holds Z (aa b #[rv,pv] 151::own rC rv reg::ownO rC pv pend::F) H:=by
 obtain⟨a,h⟩:=h.open_ex;obtain⟨m,h⟩:=h.open_ex;exact⟨a,m,h.open_st⟩
theorem oz{rv pv:Value}(h:Holds Z (aa b #[rv,pv] 151::own rC rv reg::ownO rC pv pend::F) H):Holds Z (qA b reg pend::F) H:=
 Holds.shut_ex rv (Holds.shut_ex pv (Holds.shut_st trivial h))
theorem Y8:SF Tryz.prog 62 #[] Z [] fun r Bs=>∃b,r=pB b 0∧Bs=[qA b [] []]:=by
 refine sfe Tryz.func62 3 (fun w0=>?_);refine go ?_;refine sL (ay (.agg #[nS,nS]))<|bj #[nS,nS] (fun g1=>?_)
 refine go ?_;refine ad _ _ (SI.tmp 0 SI.nil) (fun _ h=>oz (b:=g1) (rv:=nS) (pv:=nS) ((Holds.nilS (T:=rC) (Holds.nilO (T:=rC) h)).re [2,0] [])) ⟨g1,rfl,rfl⟩
theorem Pe(hL:Kn Z rC lv L)(hl:L.length≤1000000):SF Tryz.prog 121 #[lv] Z [] fun r Bs=>Bs=[own an r L]:=by
 refine bO Tryz.func121 19 (fun w0=>?_);refine gy ?_;refine aK (fun _ h=>Holds.nilS (T:=an) h) ?_;refine aK (Bs:=[own an nS (L.take 0)]) (fun _ h=>h) ?_;refine aD (ι:=Value×Nat) (fun (sx,i)=>i≤L.length) (fun (sx,i)=>[(3,sx),(6,lv),(7,iw (L.length:Int)),(8,iw (i:Int))]) (fun (sx,i)=>[own an sx (L.take i)]) (fun (sx,i)=>L.length-i) (nS,0) (Nat.zero_le _) sA rA ?_;rintro⟨sx,i⟩ cQ;try dsimp only at cQ⊢
 refine gc ?_;refine b9 (fun p3=>?_) (fun p9=>?_)
 .obtain ⟨y4,mN⟩:∃y,L[i]?=some y:=⟨_,List.getElem?_eq_getElem ol⟩;refine gy ?_;refine ae (.agg #[iw 0]) #[iw 0] (fun g6=>?_);refine go ?_;refine ah (e:=3) [(0,iw y4)] #[iw y4] (fun g7=>?_) (hb:=by kernel_rfl);refine aq (L:=(L.take i)) 2 ak Tryz.underlying23 (.lit 0 ak [y4]) (by show _*8≤_;(try simp only[cD]);omega) ol (fun v8=>?_);refine gy ?_;rw[bA mN];exact xr (v8,i+1) (by show i+1≤L.length;omega)
 refine gz ?_;exact fg rfl (fun _ h=>by rw[List.take_of_length_le om]at h;exact h.re [0] [])
theorem ac3(id:Int)(hr:reg.length≤100000):NF 107 #[pB b 0,iw id] Z (qA b reg pend::F) (.bool (decide (id∈reg))):=by
 refine bO Tryz.func107 23 (fun w0=>?_);refine mC (fun H h=>uW (rB h)) (fun GM Iu hw=>?_);refine gy ?_;refine aD (ι:=Nat) (fun i=>i≤reg.length∧id∉reg.take i) (fun i=>[(1,iw id),(12,GM),(13,iw (reg.length:Int)),(14,iw (i:Int))]) (fun i=>aa b #[GM,Iu] 151::own rC GM reg::ownO rC Iu pend::F) (fun i=>reg.length-i) 0 ⟨Nat.zero_le _,by simp⟩ sA rA ?_;rintro i gE;try dsimp only at gE⊢
 refine gc ?_;refine b9 (fun p5=>?_) (fun my=>?_)
 .obtain ⟨y6,s9⟩:∃y,reg[i]?=some y:=⟨_,List.getElem?_eq_getElem ol⟩;refine gy ?_;refine ae (.agg #[iw 0]) #[iw 0] (fun g8=>?_);refine go ?_;refine sL (ay (.agg #[iw id]))<|sL (fY (fun w=>(eqE y6 id w).1))<|bH ?_
  refine b9 (fun gQ=>?_) (fun im=>?_)
  .refine go ?_;refine ab (fun _ h=>oz (rB h)) ?_;refine ad _ _ (SI.tmp 4 SI.nil) rA ⟨cB ?_,rfl⟩;exact (decide_eq_true (by rw[←gQ];exact List.mem_of_getElem? s9)).symm
  refine gy ?_;exact xr (i+1) (by obtain⟨cQ,cg⟩:=gE;refine⟨by omega,?_⟩;rw[←bA s9,List.mem_append,List.mem_singleton];rintro (h|h);exact cg h;exact im h.symm)
 refine go ?_;refine ab (fun _ h=>oz (rB h)) ?_;refine ad _ _ (SI.tmp 4 SI.nil) rA ⟨cB ?_,rfl⟩;exact (decide_eq_false (by have h:=gE.2;rwa [List.take_of_length_le om]at h)).symm
theorem Pf(id:Int)(hr:reg.length≤90000):MF 45 #[pB b 0,iw id] Z (qA b reg pend::F) (iw (lP reg id)) (qA b (gO reg id) pend::F):=by
 refine bx Tryz.func45 26 [(0,pB b 0),(1,iw id)] (fun w0=>?_);refine gc ?_;refine b9 (fun p2=>?_) (fun p3=>?_)
 .refine go ?_;have h1:lP reg id=2:=by simp[lP,p2]
  have h2:gO reg id=reg:=by simp[gO,p2]
  refine ad _ _ (SI.tmp 4 SI.nil) rA ?_;rw[h1,h2];exact⟨rfl,rfl⟩
 refine gC [0] ?_ (c:=ac3 (reg:=reg) id ol);refine b9 (fun p5=>?_) (fun p6=>?_)
 .refine go ?_;have h1:lP reg id=10:=by simp[lP,p3,p5]
  have h2:gO reg id=reg:=by simp[gO,p3,p5]
  refine ad _ _ (SI.tmp 4 SI.nil) rA ?_;rw[h1,h2];exact⟨rfl,rfl⟩
 refine go ?_;refine cF (fun H h=>uW (rB h)) (fun rq7 pq8 hw=>?_);refine go ?_;refine sL (ay (.agg #[iw id]))<|ah (e:=153) [(0,.agg #[iw id])] #[iw id] (fun g9=>?_) (hb:=by kernel_rfl)
 refine aq (L:=reg) 2 iM Tryz.underlying149 (.lit 0 iM [id]) (by show _*8≤_;(try simp only[cD]);omega) ol (fun v10=>?_);refine oN (pB b 0)<|sF 2 (fun DA=>?_)
 refine sE DA 1 #[v10,pq8] ?_;refine go ?_;refine ab (fun _ h=>oz (rB h)) ?_;have h1:lP reg id=0:=by simp[lP,p3,p6]
 have h2:gO reg id=(reg++[id]):=by simp[gO,p3,p6]
 refine ad _ _ (SI.tmp 4 SI.nil) (rr [0] [1]) ?_;rw[h1,h2];exact⟨rfl,rfl⟩
def sN(l:List Int):Int:=l.headD 0
def sO(l:List Int):Bool:= !l.isEmpty
theorem A5{l:List Int}{y:Int}(h:l[0]?=some y):sN l=y∧sO l=true∧l.drop 1=l.tail:=by
 cases l with
 | nil=>cases h
 | cons a r=>simp at h;subst h;exact⟨rfl,rfl,rfl⟩
theorem Xf(hp:pend.length≤1000000):MF 57 #[pB b 0] Z (qA b reg pend::F) (.tuple #[iw (sN pend),.bool (sO pend)]) (qA b reg pend.tail::F):=by
 refine bO Tryz.func57 31 (fun w0=>?_);refine go ?_;refine cF (fun H h=>uW (rB h)) (fun GM Iu hw=>?_);refine gy ?_;refine b9 (fun p4=>?_) (fun p5=>?_)
 .refine go ?_;refine ab (fun _ h=>oz (rB h)) ?_;obtain rfl:pend=[]:=List.eq_nil_of_length_eq_zero om;refine gz ?_;exact fg ⟨rfl,rfl⟩
 obtain⟨y6,s9⟩:∃y,pend[0]?=some y:=⟨_,List.getElem?_eq_getElem ol⟩;refine gy ?_;refine ae (.agg #[iw 0]) #[iw 0] (fun g8=>?_);refine gy ?_;refine aC (fun _ h=>Holds.sufO (i:=3) h iM 1 rfl ol) ?_;refine bl (fun H h=>((Acc.ownO (T:=rC) (L:=(pend.drop 1)) 3 rfl) H h).form) (fun mw=>?_);refine gy ?_;refine ab (fun _ h=>oz (rB h)) ?_;have hn:sN pend=y6∧sO pend=true∧pend.drop 1=pend.tail:=A5 s9;rw[hn.1,hn.2.1,←hn.2.2];refine gz ?_;exact fg ⟨rfl,rfl⟩
theorem uX(hl:pend.length≤1000000):SF Tryz.prog 56 #[pB b 0] Z (qA b reg pend::F) fun r Bs=>Bs=own an r pend::qA b reg pend::F:=by
 refine bO Tryz.func56 10 (fun w0=>?_);refine go ?_;refine cF (fun H h=>uW (rB h)) (fun GM Iu hw=>?_);refine gy ?_;refine a6 (fun _ h=>Pe (L:=pend) (Acc.kn (.ownO 2) h) ol) ?_;rintro v3 _ rfl;skip;refine gy ?_;refine ab (fun _ h=>oz (rB h)) ?_;exact ad _ _ (SI.tmp 2 SI.nil) (rr [1,0] []) rfl
theorem B4(hl:reg.length≤1000000):SF Tryz.prog 130 #[pB b 0] Z (qA b reg pend::F) fun r Bs=>Bs=own an r reg::qA b reg pend::F:=by
 refine bO Tryz.func130 10 (fun w0=>?_);refine go ?_;refine cF (fun H h=>uW (rB h)) (fun GM Iu hw=>?_);refine gy ?_;refine a6 (fun _ h=>Pe (L:=reg) (Acc.kn (.own 1) h) ol) ?_;rintro v3 _ rfl;skip;refine gy ?_;refine ab (fun _ h=>oz (rB h)) ?_;exact ad _ _ (SI.tmp 2 SI.nil) (rr [1,0] []) rfl
section
variable{P:Program}{w0:World}{Q:Exit→Act→World→Prop}{n:Nat}{E:Env}{Z:bK}{As:List aW}{ops:Array Oper}{α β γ δ ε:Type}
theorem r9{p:α→β→γ→δ→ε→Prop}{Bs:α→β→γ→δ→ε→List aW}(hA:∀H,Holds Z As H→∃x y z u v,p x y z u v∧Holds Z (Bs x y z u v) H)(h:∀x y z u v,p x y z u v→SK P w0 c Q n E Z (Bs x y z u v)):SK P w0 c Q n E Z As:=fun H hH=>by
 obtain⟨x,y,z,u,v,hp,hB⟩:=hA H hH;exact h x y z u v hp H hB
theorem cC{l:List Oper}{p:α→β→γ→δ→ε→Prop}{Bs:α→β→γ→δ→ε→List aW}(hA:∀H,Holds Z As H→∃x y z u v,p x y z u v∧Holds Z (Bs x y z u v) H)(h:∀x y z u v,p x y z u v→SL P w0 ops Q n l E Z (Bs x y z u v)):SL P w0 ops Q n l E Z As:=fun H hH=>by
 obtain⟨x,y,z,u,v,hp,hB⟩:=hA H hH;exact h x y z u v hp H hB
end
abbrev cV(n:Int):Value:=iw n
theorem pW(m:List (Int×Int))(k:Int):((bN m k).map cV).getD (iw 0)=iw (mgt m k):=by
 unfold mgt;cases bN m k<;>rfl
def KB(mb:Nat)(c:Int→Int):aW:=lj fun m=>zr (Ir m c) [dr iK cV mb m]
def ef(b q hb:Nat)(ph:Int)(c:Int→Int)(Q L Fr G P:List Int):aW:=lj fun mb=>lj fun qv=>lj fun lv=>lj fun fv=>lj fun c'=>zr (ph=0∨c'=c) [aa b #[.pointer (some ⟨q,0,none⟩),.pointer (some ⟨hb,0,none⟩),iw ph,.map (some mb),qv,lv,fv] 91,qA q G P,KB mb c',ownO an qv Q,ownO an lv L,ownO an fv Fr]
section
variable{Z:bK}{F:List aW}{H:bb}{b q hb mb:Nat}{ph:Int}{c c':Int→Int}{Q L Fr G P:List Int}{m:List (Int×Int)}
theorem jb(h:Holds Z (KB mb c::F) H):∃m,(Ir m c∧(m.map Prod.fst).Nodup)∧Holds Z (dr iK cV mb m::F) H:=by
 obtain⟨m,h⟩:=h.open_ex;obtain⟨hc,h⟩:=h.open_st;exact⟨m,⟨hc,(h.mp (i:=0) rfl).nodup⟩,h⟩
theorem dK(hc:Ir m c)(h:Holds Z (dr iK cV mb m::F) H):Holds Z (KB mb c::F) H:=Holds.shut_ex m (Holds.shut_st hc h)
theorem dS(h:Holds Z (ef b q hb ph c Q L Fr G P::F) H):∃mb qv lv fv c',(ph=0∨c'=c)∧Holds Z (aa b #[.pointer (some ⟨q,0,none⟩),.pointer (some ⟨hb,0,none⟩),iw ph,.map (some mb),qv,lv,fv] 91::qA q G P::KB mb c'::ownO an qv Q::ownO an lv L::ownO an fv Fr::F) H:=by
 obtain⟨mb,h⟩:=h.open_ex;obtain⟨qv,h⟩:=h.open_ex;obtain⟨lv,h⟩:=h.open_ex;obtain⟨fv,h⟩:=h.open_ex;obtain⟨c',h⟩:=h.open_ex;exact⟨mb,qv,lv,fv,c',h.open_st⟩
theorem eG(hp:ph≠0)(h:Holds Z (ef b q hb ph c Q L Fr G P::F) H):∃mb qv lv fv,True∧Holds Z (aa b #[.pointer (some ⟨q,0,none⟩),.pointer (some ⟨hb,0,none⟩),iw ph,.map (some mb),qv,lv,fv] 91::qA q G P::KB mb c::ownO an qv Q::ownO an lv L::ownO an fv Fr::F) H:=by
 obtain⟨mb,qv,lv,fv,c',hc,h2⟩:=dS h;have e:=hc.resolve_left hp;rw[e]at h2;exact⟨mb,qv,lv,fv,trivial,h2⟩
theorem aV{qv fv:Value}(hc:ph=0∨c'=c)(h:Holds Z (aa b #[.pointer (some ⟨q,0,none⟩),.pointer (some ⟨hb,0,none⟩),iw ph,.map (some mb),qv,lv,fv] 91::qA q G P::KB mb c'::ownO an qv Q::ownO an lv L::ownO an fv Fr::F) H):Holds Z (ef b q hb ph c Q L Fr G P::F) H:=
 Holds.shut_ex mb (Holds.shut_ex qv (Holds.shut_ex lv (Holds.shut_ex fv (Holds.shut_ex c' (Holds.shut_st hc h)))))
end
theorem pX{q hb:Nat}{m:Int→Int}{Q Fr G P:List Int}{st:bp}(hQ:Q.length≤1000000)(id:Int):MF 46 #[pB b 0,iw id] Z (ef b q hb 1 m Q L Fr G P::bJ hb st::F) (.tuple #[]) (ef b q hb 1 (j6 st m id) (kR st m Q id) L Fr G P::bJ hb st::F):=by
 refine bO Tryz.func46 34 (fun w0=>?_);refine go ?_;refine dL (fun H h=>eG (show (1:Int)≠0 by decide) (rB h)) (fun uw zv Bw mr hw=>?_);refine gC [6] ?_ (c:=ir (st:=st) id);refine oW 10 (fun c5=>?_) (fun c5=>?_)
 .refine go ?_;refine cr (fun H h=>jb (rB h)) (fun m6 hw=>?_);have Rp:=hw;refine gl ?_ (t:=Lt.to (v':=iw (m id)) (cn 0 dx Tryz.underlying89 (iw 0) id) ((pW _ _).trans (cI (Rp.1 id))));refine b9 (fun p9=>?_) (fun fL=>?_)
  .refine go ?_;refine eE 0 dx Tryz.underlying89 id (1:Int) ?_;refine go ?_;refine ah (e:=3) [(0,iw id)] #[iw id] (fun g10=>?_) (hb:=by kernel_rfl);refine gX (L:=Q) 5 ak Tryz.underlying23 (.lit 0 ak [id]) (by show _*8≤_;(try simp only[cD]);omega) ol (fun v11=>?_);refine bl (fun H h=>((Acc.ownO (T:=an) (L:=(Q++[id])) 5 rfl) H h).form) (fun uU=>?_);refine gy ?_;refine ab (fun _ h=>dK (Rp.1.set id (1:Int)) (rB h)) ?_;refine ab (fun _ h=>aV (c:=(dh m id (1:Int))) (.inr rfl) (rB h)) ?_;refine eN [] (ef b q hb 1 (dh m id (1:Int)) (Q++[id]) L Fr G P::bJ hb st::F) SI.nil rA ⟨rfl,?_⟩;unfold j6 kR;rw[if_pos ⟨c5,p9⟩,if_pos ⟨c5,p9⟩]
  refine gy ?_;refine ab (fun _ h=>dK Rp.1 (rB h)) ?_;refine ab (fun _ h=>aV (c:=m) (.inr rfl) (rB h)) ?_;refine eN [] (ef b q hb 1 m Q L Fr G P::bJ hb st::F) SI.nil rA ⟨rfl,?_⟩;unfold j6 kR;rw[if_neg (fun e=>fL e.2),if_neg (fun e=>fL e.2)]
 refine go ?_;refine ab (fun _ h=>aV (c:=m) (.inr rfl) (rB h)) ?_;refine eN [] (ef b q hb 1 m Q L Fr G P::bJ hb st::F) SI.nil rA ⟨rfl,?_⟩;unfold j6 kR;rw[if_neg (fun e=>by rw[c5]at e;exact absurd e.1 (by decide)),if_neg (fun e=>by rw[c5]at e;exact absurd e.1 (by decide))]
theorem Iv{P:Program}{w0:World}{Q:Exit→Act→World→Prop}{n:Nat}{E:Env}{As:List aW}{p:bb→Prop}(hA:∀H,Holds Z As H→p H)(h:∀H,p H→SK P w0 c Q n E Z As):SK P w0 c Q n E Z As:=fun H hH=>h H (hA H hH) H hH
theorem k6(hL:Kn Z an lv L)(hl:L.length≤1000000):SF Tryz.prog 50 #[lv] Z [] fun r Bs=>Bs=[own an r L]:=by
 refine bO Tryz.func50 8 (fun w0=>?_);refine Iv (fun H h=>hL.get h) (fun H0 Jp=>?_);refine go ?_;refine sL (MU Tryz.underlying23 (.zn hL))<|bH<|kd (fun c1=>?_) (fun c1=>?_)
 .refine go ?_;have hn:L=[]:=(Aj Jp c1).2;refine gz ?_;exact fg rfl (fun _ h=>by rw[hn];exact h.nilS.re [0] [])
 refine eT<|bn<|ah (e:=3) [] #[] (fun g2=>?_) (hb:=by kernel_rfl)
 refine sP lv<|aC (fun _ h=>Holds.slice 0 h ak []) ?_
 refine aq (L:=[]) 0 ak Tryz.underlying23 (.zn hL) (by show _*8≤_;(try simp only[cD]);omega) ol (fun v3=>?_);skip;refine gz ?_;exact fg rfl
structure Sq where
 p:Option Addr
 c:Nat
 xs:List Int
end
section
variable{Z:bK}{F As:List aW}{b hb q i n N g f j:Nat}{L R Q Fr G P M X M0:List Int}{l:List Ob}{st:bp}{rv lv ov:Value}{id x y k ph p u:Int}{m m2:Int→Int}{s:dU}{e:iF}{S:List Sq}{o:Ob}{E:Env}{xs:Array Operand}{t:TypeId}{H:bb}
abbrev Sq.v(s:Sq):Value:=.slice s.p s.xs.length s.c
def SqT:Ty Sq:=⟨23,1,24,false,Sq.v,⟨none,0,[]⟩⟩
theorem BA:SqT.Ok Tryz.prog:=⟨Nat.one_pos,fun _=>rfl,fun x u hu=>by simp[Ty.enc,SqT,Value.cells]at hu;subst hu;rfl,fun _=>rfl,⟨_,Tryz.underlying23,rfl⟩,fun _=>rfl,⟨Tryz.t23,by kernel_rfl,by kernel_rfl,by kernel_rfl,by kernel_rfl⟩⟩
def cat(S:List Sq):List Int:=S.flatMap Sq.xs
theorem yG{y:Sq}(h:S[i]?=some y):cat (S.take i)++y.xs=cat (S.take (i+1)):=by
 unfold cat;rw[List.take_add_one,h];simp[List.flatMap_append]
theorem wY(h:∀s∈S,s.xs.length≤1000000):∀i:Nat,(cat (S.take i)).length≤1000000*i
 | 0=>by simp[cat]
 | i+1=>by
  cases hy:S[i]? with
  | none=>
   have e:S.take (i+1)=S.take i:=by rw[List.take_add_one,hy];simp
   rw[e];have:=wY h i;omega
  | some y=>rw[←yG hy,List.length_append];have:=wY h i;have:=h y (List.mem_of_getElem? hy);omega
theorem Y9(n:Int)(h0:0≤n)(h1:n≤1000000000):SF Tryz.prog 183 #[.slice none 0 0,iw n] Z [] fun r Bs=>Bs=[own an r []]:=by
 refine bO Tryz.func183 27 (fun w0=>?_);refine go ?_;refine sL (Lt.to aT (cB (decide_eq_false om:(decide (n<0))=false))) ?_;refine go ?_;refine sL (ay (iw 0))<|sP nS<|sL (ay (iw 0))<|sP (iw 0) ?_
 refine fk (fun p2=>?_) (fun p5=>?_)
 .refine bd<|oN nS<|sL (ay (iw 0))<|sL (sS ak Tryz.underlying23 .nil 0 0 om ol om)<|sP (iw (n-0)) ?_
  refine Kz (y:=(n-0)) (((n-0)).toNat) ak Tryz.underlying23 Tryz.underlying3 om om (by show _*8≤_;omega) om (fun v3=>?_);skip;refine sP nS<|sL (ay (iw 0))<|sL (sS ak Tryz.underlying23 (.own 0) 0 0 om ol om) ?_
  refine gz ?_;exact fg rfl (fun _ h=>(Holds.pre (i:=0) h ak 0 rfl (Nat.zero_le _)).re [0] [])
 refine gz ?_;exact fg rfl (fun _ h=>h.nilS.re [0] [])
theorem Eh{sv:Value}(hS:Kn Z SqT sv S)(hE:∀s∈S,Kn Z an s.v s.xs)(hl:S.length≤100)(hB:∀s∈S,s.xs.length≤1000000):SF Tryz.prog 129 #[sv] Z [] fun r Bs=>Bs=[own an r (cat S)]:=by
 refine bO Tryz.func129 36 (fun w0=>?_);refine gy ?_;refine aD (ι:=Int×Nat) (fun (sz,i)=>i≤S.length∧sz=((cat (S.take i)).length:Int)) (fun (sz,i)=>[(0,sv),(3,iw sz),(9,sv),(10,iw (S.length:Int)),(11,iw (i:Int))]) (fun (sz,i)=>[]) (fun (sz,i)=>S.length-i) (0,0) ⟨Nat.zero_le _,rfl⟩ sA rA ?_;rintro⟨sz,i⟩ cQ;try dsimp only at cQ⊢
 have nF:=wY hB i;obtain⟨zy,tF⟩:=id cQ;refine fk (fun p3=>?_) (fun p7=>?_)
 .refine gy ?_;obtain⟨y4,mN⟩:∃y,S[i]?=some y:=⟨_,List.getElem?_eq_getElem ol⟩;have hb6:=hB y4 (List.mem_of_getElem? mN);refine gl ?_ (t:=bL ak Tryz.underlying23 (.zn (hE y4 (List.mem_of_getElem? mN))));exact xr ((sz+(y4.xs.length:Int)),i+1) (by obtain⟨cQ,cg⟩:=cQ;refine⟨by omega,?_⟩;rw[←yG mN,List.length_append];omega)
 refine go ?_;refine a6 (fun _ h=>Y9 sz om om) ?_;rintro v8 _ rfl;skip;refine gy ?_;refine aK (Bs:=[own an v8 (cat (S.take 0))]) (fun _ h=>h) ?_;refine aD (ι:=Value×Nat) (fun (sx,k)=>k≤S.length) (fun (sx,k)=>[(6,sx),(25,sv),(26,iw (S.length:Int)),(27,iw (k:Int))]) (fun (sx,k)=>[own an sx (cat (S.take k))]) (fun (sx,k)=>S.length-k) (v8,0) (Nat.zero_le _) sA rA ?_;rintro⟨sx,k⟩ DM;try dsimp only at DM⊢
 have nF:=wY hB k;refine fk (fun my=>?_) (fun jW=>?_)
 .refine gy ?_;obtain⟨fQ,oe⟩:∃y,S[k]?=some y:=⟨_,List.getElem?_eq_getElem ol⟩;have TG:=hB fQ (List.mem_of_getElem? oe);refine gy ?_;refine aq (L:=(cat (S.take k))) 0 ak Tryz.underlying23 (.zn (hE fQ (List.mem_of_getElem? oe))) (by show _*8≤_;(try simp only[cD]);omega) ol (fun Pg=>?_);refine sF 0 (fun zD=>?_);refine gy ?_;rw[yG oe];exact xr (Pg,k+1) (by show k+1≤S.length;omega)
 refine gz ?_;exact fg rfl (fun _ h=>by rw[List.take_of_length_le om]at h;exact h.re [0] [])
theorem qM{p:Sq→Prop}:∀x∈([]:List Sq),p x:=by simp
theorem fJ{p:Sq→Prop}{a:Sq}{r:List Sq}(h:p a)(hr:∀x∈r,p x):∀x∈a::r,p x:=by
 intro x hx;rcases List.mem_cons.1 hx with rfl|hx
 .exact h
 exact hr x hx
theorem ML:SF Tryz.prog 26 #[pB hb 0] Z [] fun r Bs=>∃b q,r=.tuple #[pB b 0,iw 0]∧Bs=[ef b q hb 0 c0 [] [] [] [] []]:=by
 refine bO Tryz.func26 11 (fun w0=>?_);refine go ?_;refine a6 (fun _ h=>Y8) ?_;rintro _ _ ⟨q1,rfl,rfl⟩;refine sP (pB hb 0)<|fZ iK cV (fun b2=>?_)
 refine sL (ay (.agg #[pB q1 0,pB hb 0,iw 0,.map (some b2),nS,nS,nS]))<|bj #[pB q1 0,pB hb 0,iw 0,.map (some b2),nS,nS,nS] (fun g3=>?_)
 refine go ?_;refine ab (fun _ h=>dK Ir.nil (rB h)) ?_;refine ab (fun _ h=>Holds.nilO (T:=an) h) ?_;refine ab (fun _ h=>Holds.nilO (T:=an) h) ?_;refine ab (fun _ h=>Holds.nilO (T:=an) h) ?_;refine ab (fun _ h=>aV (c:=c0) (.inl rfl) (rB h)) ?_;refine gz ?_;exact fg ⟨g3,q1,rfl,rfl⟩
theorem B5(ca:jv n st)(hn:n≤300)(hW:HW st):SF Tryz.prog 66 #[pB b 0,iw x] Z (ef b q hb ph m Q L Fr G P::bJ hb st::F) fun r Bs=>Bs=own an r (eJ st x)::ef b q hb ph m Q L Fr G P::bJ hb st::F:=by
 refine bO Tryz.func66 38 (fun w0=>?_);refine go ?_;refine cC (fun H h=>dS (rB h)) (fun uw zv Bw mr sM hw=>?_);have kT:=hw;refine go ?_;refine aH [6] (qH (st:=st) ca om hW x 0) ?_;rintro _ _ ⟨TS,Rs,rfl,rfl⟩;refine sF 0 (fun mw=>?_);refine sF 1 (fun kK=>?_);obtain⟨hrl,VX,nF⟩:=hJ ca hn x;refine go ?_;refine ae (.agg #[iw 0,iw 0,iw 0,nS,nS]) #[iw 0,iw 0,iw 0,nS,nS] (fun g11=>?_);refine ar (u:=.agg #[iw (cR st x),iw (cT st x),iw (cG st x 0),TS,Rs]) (m:=5) 0 #[iw (cR st x),iw (cT st x),iw (cG st x 0),TS,Rs] ?_ (hm:=by (obtain⟨_,_,e⟩:=mw;rw[e];obtain⟨_,_,e⟩:=kK;rw[e];rfl)) (h1:=by (obtain⟨_,_,e⟩:=mw;rw[e];obtain⟨_,_,e⟩:=kK;rw[e];rfl)) (ha':=by (obtain⟨_,_,e⟩:=mw;rw[e];obtain⟨_,_,e⟩:=kK;rw[e];rfl));refine go ?_;refine a6 (fun _ h=>k6 (Acc.kn (.own 1) h) ol) ?_;rintro v12 _ rfl;skip;refine gy ?_;refine aK (fun _ h=>aV (c:=m) kT (rB h)) ?_;refine aK (Bs:=ef b q hb ph m Q L Fr G P::own an v12 (hrefs st x++((aY st x).take 0).flatMap j5)::aa g11 #[iw (cR st x),iw (cT st x),iw (cG st x 0),TS,Rs] 100::own an TS (hrefs st x)::own cq Rs (aY st x)::bJ hb st::F) (fun _ h=>by rw[show hrefs st x++((aY st x).take 0).flatMap j5=hrefs st x from List.append_nil _];exact h) ?_;refine aD (ι:=Value×Nat) (fun (sx,i)=>i≤(aY st x).length) (fun (sx,i)=>[(7,sx),(23,Rs),(24,iw ((aY st x).length:Int)),(25,iw (i:Int))]) (fun (sx,i)=>ef b q hb ph m Q L Fr G P::own an sx (hrefs st x++((aY st x).take i).flatMap j5)::aa g11 #[iw (cR st x),iw (cT st x),iw (cG st x 0),TS,Rs] 100::own an TS (hrefs st x)::own cq Rs (aY st x)::bJ hb st::F) (fun (sx,i)=>(aY st x).length-i) (v12,0) (Nat.zero_le _) sA rA ?_;rintro⟨sx,i⟩ F6;try dsimp only at F6⊢
 have vq:=ou ((aY st x).take i);rw[List.length_take]at vq;refine gc ?_;refine b9 (fun so=>?_) (fun zA=>?_)
 .obtain ⟨Ik,pS⟩:∃y,(aY st x)[i]?=some y:=⟨_,List.getElem?_eq_getElem ol⟩;refine gy ?_;refine ae (.agg #[iw 0,iw 0]) #[iw 0,iw 0] (fun g19=>?_);refine go ?_;refine ah (e:=3) [(0,iw Ik.key),(1,iw Ik.val)] #[iw Ik.key,iw Ik.val] (fun g20=>?_) (hb:=by kernel_rfl);refine aq (L:=(hrefs st x++((aY st x).take i).flatMap j5)) 3 ak Tryz.underlying23 (.lit 0 ak [Ik.key,Ik.val]) (by show _*8≤_;(try simp only[cD]);omega) ol (fun v21=>?_);skip;refine gy ?_;rw[List.append_assoc,yC pS];exact xr (v21,i+1) (by show i+1≤(aY st x).length;omega)
 refine gz ?_;exact fg rfl (fun _ h=>by rw[List.take_of_length_le om]at h;exact h.re [1,0,3] [3,3,3])
theorem Ph(hR:R.length≤100000)(hG:G.length+P.length≤80000):SF Tryz.prog 67 #[pB b 0,rv] Z (own an rv R::ef b q hb ph m Q L Fr G P::F) fun r Bs=>Bs=own an r (R++(G++P))::own an rv R::ef b q hb ph m Q L Fr G P::F:=by
 refine bO Tryz.func67 18 (fun w0=>?_);refine bk (fun H h=>((Acc.own (T:=an) (L:=R) 0 rfl) H h).form) (fun hf=>?_);obtain⟨pp,cc,e⟩:=hf;subst e;refine go ?_;refine r9 (fun H h=>dS (rB h)) (fun uw zv Bw mr sM hw=>?_);have kT:=hw;refine br [aa b #[pB q 0,pB hb 0,iw ph,.map (some uw),zv,Bw,mr] 91,own an (.slice pp R.length cc) R] ?_;refine gH [0,1,2,3,4,6,7,8,9] [0,5] ?_;refine ag 5 ?_;refine aH [1] (B4 (reg:=G) ol) ?_;rintro v7 _ rfl;refine sF 0 (fun wB=>?_);refine nH [2,6]<|ag 10 ?_
 refine aH [1] (uX (pend:=P) ol) ?_;rintro v9 _ rfl;refine sF 0 (fun kK=>?_);refine nH [3,7]<|ag 11 ?_
 obtain⟨GN,GO,e⟩:=wB;subst e;obtain⟨GP,GQ,e⟩:=kK;subst e;refine ah (e:=23) [(0,(.slice pp R.length cc)),(1,(.slice GN G.length GO)),(2,(.slice GP P.length GQ))] #[(.slice pp R.length cc),(.slice GN G.length GO),(.slice GP P.length GQ)] (fun g15=>?_) (hb:=by kernel_rfl);refine nH [4,8]<|ag 12 ?_
 refine a6 (fun _ h=>Eh (S:=[⟨pp,cc,R⟩,⟨GN,GO,G⟩,⟨GP,GQ,P⟩]) (Acc.kn (T:=SqT) (Acc.lit 0 BA [⟨pp,cc,R⟩,⟨GN,GO,G⟩,⟨GP,GQ,P⟩]) h) (fJ (Acc.kn (T:=an) (.own 9) h) (fJ (Acc.kn (T:=an) (.own 3) h) (fJ (Acc.kn (T:=an) (.own 1) h) qM))) (by show 3≤100;decide) (fJ (by show R.length≤_;(try simp only[cD]);omega) (fJ (by show G.length≤_;(try simp only[cD]);omega) (fJ (by show P.length≤_;(try simp only[cD]);omega) qM)))) ?_;rintro Pg _ rfl;have Y':cat [⟨pp,cc,R⟩,⟨GN,GO,G⟩,⟨GP,GQ,P⟩]=(R++(G++(P))):=by simp[cat]
 refine aC (Bs:=own an Pg (R++(G++(P)))::aa g15 #[(.slice pp R.length cc),(.slice GN G.length GO),(.slice GP P.length GQ)] 23::own an (.slice GP P.length GQ) P::qA q G P::own an (.slice GN G.length GO) G::aa b #[pB q 0,pB hb 0,iw ph,.map (some uw),zv,Bw,mr] 91::KB uw sM::ownO an zv Q::ownO an Bw L::ownO an mr Fr::own an (.slice pp R.length cc) R::F) (fun _ h=>by rw[Y']at h;exact h) ?_;skip;refine nH [5,9]<|fq 13 [5,9] Pg ?_
 refine aI ?_;refine gy ?_;refine ab (fun _ h=>aV (c:=m) kT (rB h)) ?_;exact ad _ _ (SI.tmp 4 SI.nil) (rr [1,4,0] [3,3,3]) rfl
theorem uY(hR:R.length≤10000)(hG:G.length+P.length≤10000)(hQ:Q.length≤100000):MF 108 #[pB b 0,rv] Z (own an rv R::ef b q hb 1 m Q L Fr G P::bJ hb st::F) (.tuple #[]) (own an rv R::ef b q hb 1 ((rchA st (m,Q) (R++(G++P))).1) ((rchA st (m,Q) (R++(G++P))).2) L Fr G P::bJ hb st::F):=by
 refine bO Tryz.func108 18 (fun w0=>?_);refine go ?_;refine aH [0,0] (Ph (R:=R) (G:=G) (P:=P) om om) ?_;rintro v1 _ rfl;skip;refine gy ?_;have hRl:(R++(G++P)).length=R.length+(G.length+P.length):=by rw[List.length_append,List.length_append]
 refine aK (Bs:=own an v1 (R++(G++P))::own an rv R::ef b q hb 1 ((rchA st (m,Q) ((R++(G++P)).take 0)).1) ((rchA st (m,Q) ((R++(G++P)).take 0)).2) L Fr G P::bJ hb st::F) (fun _ h=>h) ?_;refine aD (ι:=Nat) (fun i=>i≤(R++(G++P)).length) (fun i=>[(0,pB b 0),(8,v1),(9,iw ((R++(G++P)).length:Int)),(10,iw (i:Int))]) (fun i=>own an v1 (R++(G++P))::own an rv R::ef b q hb 1 ((rchA st (m,Q) ((R++(G++P)).take i)).1) ((rchA st (m,Q) ((R++(G++P)).take i)).2) L Fr G P::bJ hb st::F) (fun i=>(R++(G++P)).length-i) 0 (Nat.zero_le _) sA rA ?_;rintro i gE;try dsimp only at gE⊢
 have CT:=lO st ((R++(G++P)).take i) (m,Q);rw[List.length_take]at CT;dsimp only at CT;refine fk (fun p5=>?_) (fun p8=>?_)
 .obtain ⟨y6,s9⟩:∃y,(R++(G++P))[i]?=some y:=⟨_,List.getElem?_eq_getElem ol⟩;refine gC [2,2] ?_ (c:=pX (Q:=(rchA st (m,Q) ((R++(G++P)).take i)).2) om y6);exact xr (i+1) om (hA:=by dsimp only;rw[lu s9];exact rA)
 refine gy ?_;obtain rfl:i=(R++(G++P)).length:=by omega
 rw[List.take_length];exact ge
theorem Pj(hR:R.length≤10000)(hG:G.length+P.length≤10000):MF 47 #[pB b 0,rv] Z (own an rv R::ef b q hb 0 m [] L Fr G P::bJ hb st::F) (.tuple #[]) (own an rv R::ef b q hb 1 ((rchA st (c0,[]) (R++(G++P))).1) ((rchA st (c0,[]) (R++(G++P))).2) L Fr G P::bJ hb st::F):=by
 refine bO Tryz.func47 17 (fun w0=>?_);refine gy ?_;refine fZ iK cV (fun b1=>?_);refine go ?_;refine cC (fun H h=>dS (rB h)) (fun ru qv3 wO fv5 cl6 hw=>?_);have hc7:=hw;refine go ?_;refine aC (fun _ h=>dK Ir.nil (rB h)) ?_;refine aC (fun _ h=>Holds.nilO (T:=an) h) ?_;refine aC (fun _ h=>aV (c:=c0) (.inr rfl) (rB h)) ?_;refine gC [3,0,2] ?_ (c:=uY (R:=R) (G:=G) (P:=P) (Q:=([]:List Int)) (m:=c0) om om (by first|omega|simp));refine gz ?_;exact fg ⟨rfl,rfl⟩
section
variable{st:bp}{R:List Int}{s:dU}{k N:Nat}{x:Int}{L:List Int}
def mks(st:bp)(R:List Int)(s:dU):dU:=if (setl st R s).ph=1 then mrk st (setl st R s) else setl st R s
def ra(n:Nat)(t:bp×dU×Nat):bp×dU×Nat:=(t.1,t.2.1,t.2.2+n)
theorem lQ(h:s.ph≠1):setl st R s=s:=by grind[setl]
theorem TT(h:s.Q≠[]):setl st R s=s:=by grind[setl]
theorem pY(h:s.ph≠0):wrk (k+1) st R s=if (itr st R s).2.2=true then ra 1 (wrk k (itr st R s).1 R (itr st R s).2.1) else ((itr st R s).1,(itr st R s).2.1,0):=by
 rw[wrk,if_neg h];rfl
theorem B6(h:s.ph=1):(setl st R s).ph=1∨(setl st R s).ph=2:=by grind[setl]
theorem KC:setl st R (setl st R s)=setl st R s:=by grind[setl,rchA,aQ,lQ,TT]
theorem Pm(h1:s.ph=1)(h2:(setl st R s).ph=1):wrk (k+1) st R s=ra 1 (wrk k st R (mks st R s)):=by
 have e:itr st R s=(st,mks st R s,true):=by unfold itr mks;rw[if_pos h2,if_pos h2]
 rw[pY om,e];rfl
theorem Pn(h1:s.ph=1)(h2:(setl st R s).ph≠1):wrk (k+1) st R s=wrk (k+1) st R (mks st R s):=by
 have e1:mks st R s=setl st R s:=by unfold mks;rw[if_neg h2]
 have e2:itr st R (setl st R s)=itr st R s:=by unfold itr;rw[KC]
 have h3:=B6 (st:=st) (R:=R) h1;rw[e1,pY om,pY (s:=setl st R s) om,e2]
theorem A6(h1:s.ph=2)(h2:s.L≠[]):wrk (k+1) st R s=ra 1 (wrk k (swp st s).1 R (cK (swp st s).2)):=by
 have h3:=lQ (st:=st) (R:=R) (s:=s) om;have e:itr st R s=((swp st s).1,cK (swp st s).2,true):=by unfold itr;rw[h3,if_neg om,if_neg h2]
 rw[pY om,e];rfl
theorem mg(h:s.ph=0):wrk k st R s=(st,s,0):=by
 cases k with
 | zero=>rfl
 | succ k=>rw[wrk,if_pos h]
theorem gU(h:s.L=[]):cK s={ s with ph:=0 }:=if_pos h
theorem qN(h:s.L≠[]):cK s=s:=if_neg h
theorem Po(h1:s.ph=2)(h2:s.L=[]):wrk (k+1) st R s=wrk k st R (cK s):=by
 have h3:=lQ (st:=st) (R:=R) (s:=s) om;have e:itr st R s=(st,cK s,false):=by unfold itr;rw[h3,if_neg om,if_pos h2]
 rw[mg (s:=cK s) (by rw[gU h2]),pY om,e];rfl
theorem nq(a b:Nat)(t:bp×dU×Nat):ra a (ra b t)=ra (a+b) t:=by grind[ra]
/-! ### What every state keeps -/
theorem qO(h:s.L=x::L)(hw:s.col x=0):swp st s=(dA st x,{ s with L:=L,Fr:=s.Fr++[x] }):=by grind[swp]
theorem qP(h:s.L=x::L)(hw:s.col x≠0):swp st s=(st,{ s with L:=L,col:=dh s.col x 0 }):=by grind[swp]
theorem ma(st:bp)(x y:Int):aw (dA st x) y=if y=x then false else aw st y:=by grind[aw,kg]
theorem Ej{A B:List Int}(hA:A.Pairwise (· < ·))(hB:B.Pairwise (· < ·))(hm:∀x,x∈A↔x∈B):A=B:=by
 rw[←yg hA,←yg hB];exact AP (vE (qE hA) (qE hB) hm)
theorem KD(st:bp)(x:Int):aQ (dA st x)=(aQ st).filter fun y=>!decide (y=x):=by
 refine Ej (iR _) ((iR st).filter _) fun y=>?_
 grind[dj,ma]
theorem zN(h:aw st x=true):(aQ (dA st x)).length+1≤(aQ st).length:=by
 rw[KD];have hm:=dj.2 h;have:∀l:List Int,x∈l→(l.filter fun y=>!decide (y=x)).length+1≤l.length:=by
  intro l;induction l with
  | nil=>intro h;cases h
  | cons a r ih=>grind
 grind
theorem Ek(h:jv n st)(x:Int):jv n (dA st x):=⟨by rw[nh.1];exact h.len,fun o ho=>h.obs o (ye ho)⟩
theorem CI.bgn(h:CI N st s)(h0:s.ph=0)(R:List Int):CI N st (bgn st R s) where
 ph:=.inr (.inl rfl)
 q _:=(QI.nil st c0).rchA _
 q0 e:=absurd rfl e
 l e:=by exact absurd e (show (1:Int)≠2 by decide)
 l0 _:=h.l0 om
 fr:=h.fr
 gp:=h.gp
 sm:=h.sm
 w:=h.w
 i:=h.i
theorem nL(st:bp):(aQ st).Nodup:=qE (iR st)
theorem CI.setl(h:CI N st s)(h1:s.ph=1)(R:List Int):CI N st (setl st R s):=by
 by_cases q:s.ph=1∧s.Q=[]
 .have hq:=(QI.nil st s.col).rchA (s.rts R);unfold Go.Proofs.YtmhpcebiamkciaaGreat.setl;rw[if_pos q];by_cases e:(rchA st (s.col,[]) (s.rts R)).2=[]
  .rw [if_pos e];exact⟨.inr (.inr rfl),fun e=>absurd e (show (2:Int)≠1 by decide),fun _=>q.2,fun _=>⟨nL st,fun x hx=>dj.1 hx⟩,fun e=>absurd rfl e,h.fr,h.gp,h.sm,h.w,h.i⟩
  rw[if_neg e];exact⟨.inr (.inl h1),fun _=>hq,fun e=>absurd h1 e,fun e=>by have:s.ph=2:=e;omega,fun _=>h.l0 om,h.fr,h.gp,h.sm,h.w,h.i⟩
 grind[Go.Proofs.YtmhpcebiamkciaaGreat.setl]
theorem QI.pop{c:Int→Int}(h:QI st c (x::Q)):QI st c Q:=⟨(List.nodup_cons.1 h.1).2,fun y hy=>h.2 y (List.mem_cons_of_mem _ hy)⟩
theorem QI.black{c : Int → Int}(h : QI st c Q)(x : Int) : QI st (dh c x 2) Q := ⟨h.1, fun y hy => ⟨(h.2 y hy).1, by
  unfold dh; split
  · decide
  · exact (h.2 y hy).2⟩⟩
theorem CI.mrk(h:CI N st s)(h1:s.ph=1):CI N st (mrk st s):=by
 unfold Go.Proofs.YtmhpcebiamkciaaGreat.mrk;have hq:=h.q h1;split
 .rename_i x Q e;rw[e]at hq;exact⟨h.ph,fun _=>(hq.pop.rchA _).black x,fun q=>absurd h1 q,fun q=>by have:s.ph=2:=q;omega,h.l0,h.fr,h.gp,h.sm,h.w,h.i⟩
 omega
theorem CI.mks(h:CI N st s)(h1:s.ph=1)(R:List Int):CI N st (mks st R s):=by
 unfold Go.Proofs.YtmhpcebiamkciaaGreat.mks;split
 .rename_i q;exact (h.setl h1 R).mrk q
 exact h.setl h1 R
theorem CI.swp(h:CI N st s)(h2:s.ph=2)(hL:s.L=x::L):CI N (swp st s).1 (swp st s).2:=by
 obtain⟨hn,ha⟩:=h.l h2;rw[hL]at hn ha;rw[List.nodup_cons]at hn;have hx:=ha x (by simp);by_cases e:s.col x=0
 .rw [qO hL e];have hl:=zN hx;have hf:=h.fr;refine⟨.inr (.inr h2),fun q=>by have:s.ph=1:=q;omega,h.q0,fun _=>⟨hn.2,fun y hy=>?_⟩,fun q=>absurd h2 q,?_,h.gp,Ek h.sm x,Om h.w x,tj h.i x⟩;all_goals grind[aw,dA,ma,aQ]
 rw[qP hL e];exact⟨.inr (.inr h2),fun q=>by have:s.ph=1:=q;omega,h.q0,fun _=>⟨hn.2,fun y hy=>ha y (List.mem_cons_of_mem _ hy)⟩,fun q=>absurd h2 q,h.fr,h.gp,h.sm,h.w,h.i⟩
theorem CI.fin(h:CI N st s)(h2:s.ph=2):CI N st (cK s):=by
 by_cases e:s.L=[]
 .rw [gU e];exact⟨.inl rfl,fun q=>absurd q (show (0:Int)≠1 by decide),fun _=>h.q0 om,fun q=>absurd q (show (0:Int)≠2 by decide),fun _=>e,h.fr,h.gp,h.sm,h.w,h.i⟩
 grind[qN]
theorem xt(h:s.ph=2):(swp st s).2.ph=2:=by grind[swp]
theorem wZ{t:bp×dU×Nat}(hu:¬u≤0)(h:wrk u.toNat st R (if s.ph=0 then bgn st R s else s)=t):work u.toNat st R s=t:=by
 unfold work;rw[if_neg om];exact h
theorem A7(hu:u≤0):work u.toNat st R s=(st,s,0):=by
 unfold work;rw[if_pos om]
def tN(ph:Int):Nat:=if ph=1 then 2 else if ph=0 then 0 else 1
theorem agC(h:p=1):tN p=2:=if_pos h
theorem ac4(h:p=2):tN p=1:=by unfold tN;rw[if_neg om,if_neg om]
theorem ac5(h:p=0):tN p=0:=by unfold tN;rw[if_neg om,if_pos h]
theorem uZ(p:Int):tN p≤2:=by grind[tN]
end
theorem Pp(hQ:Q.length≤100000)(ca:jv n st)(hn:n≤300)(hW:HW st):MF 48 #[pB b 0,rv] Z (own an rv R::ef b q hb 1 m (x::Q) L Fr G P::bJ hb st::F) (.bool true) (own an rv R::ef b q hb 1 (dh (rchA st (m,Q) (eJ st x)).1 x 2) ((rchA st (m,Q) (eJ st x)).2) L Fr G P::bJ hb st::F):=by
 refine bO Tryz.func48 65 (fun w0=>?_);refine go ?_;refine dL (fun H h=>eG (show (1:Int)≠0 by decide) (rB h)) (fun uw zv Bw mr hw=>?_);refine gy ?_;refine aC (fun _ h=>Holds.sufO (i:=3) h ak 1 rfl ol) ?_;refine bl (fun H h=>((Acc.ownO (T:=an) (L:=((x::Q).drop 1)) 3 rfl) H h).form) (fun rS=>?_);refine gy ?_;refine aC (fun _ h=>aV (c:=m) (.inr rfl) (rB h)) ?_;refine aH [0,1] (B5 (x:=x) ca hn hW) ?_;rintro v6 _ rfl;skip;refine gy ?_;refine aK (Bs:=own an v6 (eJ st x)::ef b q hb 1 ((rchA st (m,Q) ((eJ st x).take 0)).1) ((rchA st (m,Q) ((eJ st x).take 0)).2) L Fr G P::bJ hb st::own an rv R::F) (fun _ h=>h) ?_;obtain⟨_,_,nF⟩:=hJ ca hn x;refine Q6 0 (fun i=>i≤(eJ st x).length) (fun i=>[(52,iw (i:Int))]) (fun i=>[(1,ef b q hb 1 ((rchA st (m,Q) ((eJ st x).take i)).1) ((rchA st (m,Q) ((eJ st x).take i)).2) L Fr G P)]) (fun i=>(eJ st x).length-i) (Nat.zero_le _) ?_;intro i BD;have CT:=lO st ((eJ st x).take i) (m,Q);rw[List.length_take]at CT;dsimp only at CT;refine fk (fun gQ=>?_) (fun fL=>?_)
 .obtain ⟨dp,jC⟩:∃y,(eJ st x)[i]?=some y:=⟨_,List.getElem?_eq_getElem ol⟩;refine gC [1,1] ?_ (c:=pX (Q:=(rchA st (m,Q) ((eJ st x).take i)).2) om dp);refine ab (Bs:=ef b q hb 1 ((rchA st (m,Q) ((eJ st x).take (i+1))).1) ((rchA st (m,Q) ((eJ st x).take (i+1))).2) L Fr G P::bJ hb st::own an v6 (eJ st x)::own an rv R::F) (fun _ h=>by rw[lu jC];exact h) ?_;exact xr (i+1) om
 refine cW ?_;obtain rfl:i=(eJ st x).length:=by omega
 rw[List.take_length];refine go ?_;refine dL (fun H h=>eG (show (1:Int)≠0 by decide) (rB h)) (fun agD agE uQ agF hw=>?_);refine go ?_;refine cr (fun H h=>jb (rB h)) (fun m18 hw=>?_);have XR:=hw;refine eE 0 dx Tryz.underlying89 x (2:Int) ?_;refine go ?_;refine ab (fun _ h=>dK (XR.1.set x (2:Int)) (rB h)) ?_;refine ab (fun _ h=>aV (c:=(dh ((rchA st (m,Q) (eJ st x)).1) x (2:Int))) (.inr rfl) (rB h)) ?_;refine gz ?_;exact fg ⟨rfl,rfl⟩
theorem Pq(hR:R.length≤10000)(hG:G.length+P.length≤10000)(hz:rchA st (m,[]) (R++(G++P))=(m2,[]))(ca:jv n st)(hn:n≤300):MF 48 #[pB b 0,rv] Z (own an rv R::ef b q hb 1 m [] L Fr G P::bJ hb st::F) (.bool false) (own an rv R::ef b q hb 2 m2 [] (aQ st) Fr G P::bJ hb st::F):=by
 refine bO Tryz.func48 65 (fun w0=>?_);refine go ?_;refine dL (fun H h=>eG (show (1:Int)≠0 by decide) (rB h)) (fun uw zv Bw mr hw=>?_);refine gy ?_;refine aC (fun _ h=>aV (c:=m) (.inr rfl) (rB h)) ?_;refine sC [1,0,0] (uY (R:=R) (G:=G) (P:=P) (Q:=([]:List Int)) (m:=m) om om (by first|omega|simp)) ?_;refine aC (Bs:=own an rv R::ef b q hb 1 m2 ([]:List Int) L Fr G P::bJ hb st::F) (fun _ h=>by rw[hz]at h;exact h) ?_;refine go ?_;refine dL (fun H h=>eG (show (1:Int)≠0 by decide) (rB h)) (fun mb5 Kx lv7 fv8 hw=>?_);refine gy ?_;refine aH [7] (uy (st:=st) ca om) ?_;rintro v9 _ rfl;skip;refine gy ?_;refine ab (fun _ h=>Holds.toO (rB h)) ?_;refine ab (fun _ h=>aV (c:=m2) (.inr rfl) (rB h)) ?_;refine gz ?_;exact fg ⟨rfl,rfl⟩
theorem Pr(hR:R.length≤10000)(hG:G.length+P.length≤10000)(hQ:Q.length≤100000)(hz:rchA st (m,[]) (R++(G++P))=(m2,x::Q))(ca:jv n st)(hn:n≤300)(hW:HW st):MF 48 #[pB b 0,rv] Z (own an rv R::ef b q hb 1 m [] L Fr G P::bJ hb st::F) (.bool true) (own an rv R::ef b q hb 1 (dh (rchA st (m2,Q) (eJ st x)).1 x 2) ((rchA st (m2,Q) (eJ st x)).2) L Fr G P::bJ hb st::F):=by
 refine bO Tryz.func48 65 (fun w0=>?_);refine go ?_;refine dL (fun H h=>eG (show (1:Int)≠0 by decide) (rB h)) (fun uw zv Bw mr hw=>?_);refine gy ?_;refine aC (fun _ h=>aV (c:=m) (.inr rfl) (rB h)) ?_;refine sC [1,0,0] (uY (R:=R) (G:=G) (P:=P) (Q:=([]:List Int)) (m:=m) om om (by first|omega|simp)) ?_;refine aC (Bs:=own an rv R::ef b q hb 1 m2 (x::Q) L Fr G P::bJ hb st::F) (fun _ h=>by rw[hz]at h;exact h) ?_;refine go ?_;refine dL (fun H h=>eG (show (1:Int)≠0 by decide) (rB h)) (fun mb5 Kx lv7 fv8 hw=>?_);refine gy ?_;refine aC (fun _ h=>Holds.sufO (i:=3) h ak 1 rfl ol) ?_;refine bl (fun H h=>((Acc.ownO (T:=an) (L:=((x::Q).drop 1)) 3 rfl) H h).form) (fun mw=>?_);refine gy ?_;refine aC (fun _ h=>aV (c:=m2) (.inr rfl) (rB h)) ?_;refine aH [0,1] (B5 (x:=x) ca hn hW) ?_;rintro v10 _ rfl;skip;refine gy ?_;refine aK (Bs:=own an v10 (eJ st x)::ef b q hb 1 ((rchA st (m2,Q) ((eJ st x).take 0)).1) ((rchA st (m2,Q) ((eJ st x).take 0)).2) L Fr G P::bJ hb st::own an rv R::F) (fun _ h=>h) ?_;obtain⟨_,_,nF⟩:=hJ ca hn x;refine Q6 0 (fun i=>i≤(eJ st x).length) (fun i=>[(52,iw (i:Int))]) (fun i=>[(1,ef b q hb 1 ((rchA st (m2,Q) ((eJ st x).take i)).1) ((rchA st (m2,Q) ((eJ st x).take i)).2) L Fr G P)]) (fun i=>(eJ st x).length-i) (Nat.zero_le _) ?_;intro i DO;have CT:=lO st ((eJ st x).take i) (m2,Q);rw[List.length_take]at CT;dsimp only at CT;refine fk (fun iU=>?_) (fun mM=>?_)
 .obtain ⟨y15,Ps⟩:∃y,(eJ st x)[i]?=some y:=⟨_,List.getElem?_eq_getElem ol⟩;refine gC [1,1] ?_ (c:=pX (Q:=(rchA st (m2,Q) ((eJ st x).take i)).2) om y15);refine ab (Bs:=ef b q hb 1 ((rchA st (m2,Q) ((eJ st x).take (i+1))).1) ((rchA st (m2,Q) ((eJ st x).take (i+1))).2) L Fr G P::bJ hb st::own an v10 (eJ st x)::own an rv R::F) (fun _ h=>by rw[lu Ps];exact h) ?_;exact xr (i+1) om
 refine cW ?_;obtain rfl:i=(eJ st x).length:=by omega
 rw[List.take_length];refine go ?_;refine dL (fun H h=>eG (show (1:Int)≠0 by decide) (rB h)) (fun KE KF KG KH hw=>?_);refine go ?_;refine cr (fun H h=>jb (rB h)) (fun m22 hw=>?_);have agG:=hw;refine eE 0 dx Tryz.underlying89 x (2:Int) ?_;refine go ?_;refine ab (fun _ h=>dK (agG.1.set x (2:Int)) (rB h)) ?_;refine ab (fun _ h=>aV (c:=(dh ((rchA st (m2,Q) (eJ st x)).1) x (2:Int))) (.inr rfl) (rB h)) ?_;refine gz ?_;exact fg ⟨rfl,rfl⟩
abbrev fW(b q hb:Nat)(s:dU):aW:=ef b q hb s.ph s.col s.Q s.L s.Fr s.G s.P
theorem Pt(h:CI N st s)(hN:N≤300)(hR:R.length≤9000)(h1:s.ph=1):MF 48 #[pB b 0,rv] Z (own an rv R::fW b q hb s::bJ hb st::F) (.bool (decide ((setl st R s).ph=1))) (own an rv R::fW b q hb (mks st R s)::bJ hb st::F):=by
 have hq:=h.ql;have El:=h.gp;obtain⟨ph,m,Q,L,Fr,G,P⟩:=s;have Vg:ph=1:=h1;subst Vg;cases Q with
 | cons x Q=>
  have hQ:Q.length≤100000:=by simp only[List.length_cons]at hq;omega
  exact Pp (x:=x) (Q:=Q) hQ h.sm hN h.w
 | nil=>
  rcases hz:rchA st (m,[]) (R++(G++P)) with ⟨m2,Q2⟩
  have hz2:rchA st (m,[]) (dU.rts ⟨1,m,[],L,Fr,G,P⟩ R)=(m2,Q2):=hz;have hqi:=((QI.nil st m).rchA (R++(G++P))).len;rw[hz]at hqi;have hil:=kh st;have LO:=h.sm.len;have hG:G.length+P.length≤10000:=by have:G.length+P.length≤N:=El;omega
  have e:setl st R ⟨1,m,[],L,Fr,G,P⟩=if Q2=[] then ⟨2,m2,[],aQ st,Fr,G,P⟩ else ⟨1,m2,Q2,L,Fr,G,P⟩:=by
   unfold setl;rw[if_pos ⟨rfl,rfl⟩,hz2]
  cases Q2 with
  | nil=>
   rw[if_pos rfl]at e;unfold mks;rw[e];exact Pq om hG hz h.sm hN
  | cons x Q=>
   rw[if_neg (by simp)]at e;unfold mks;rw[e];have hQ:Q.length≤100000:=by have:(x::Q).length≤(aQ st).length:=hqi;simp only[List.length_cons]at this;omega
   exact Pr (x:=x) om hG hQ hz h.sm hN h.w
theorem KJ(hz:¬m x=0):MF 49 #[pB b 0] Z (ef b q hb 2 m Q (x::L) Fr G P::F) (.tuple #[]) (ef b q hb 2 (dh m x 0) Q L Fr G P::F):=by
 refine bO Tryz.func49 45 (fun w0=>?_);refine go ?_;refine dL (fun H h=>eG (show (2:Int)≠0 by decide) (rB h)) (fun uw zv Bw mr hw=>?_);refine gy ?_;refine aC (fun _ h=>Holds.sufO (i:=4) h ak 1 rfl ol) ?_;refine bl (fun H h=>((Acc.ownO (T:=an) (L:=((x::L).drop 1)) 4 rfl) H h).form) (fun rS=>?_);refine gy ?_;refine cr (fun H h=>jb (rB h)) (fun m6 hw=>?_);have Rp:=hw;refine gl ?_ (t:=Lt.to (v':=iw (m x)) (cn 0 dx Tryz.underlying89 (iw 0) x) ((pW _ _).trans (cI (Rp.1 x))));refine qj 0 dx Tryz.underlying89 x ?_;refine gy ?_;refine ab (fun _ h=>dK (Rp.1.del Rp.2 x) (rB h)) ?_;refine ab (fun _ h=>aV (c:=(dh m x 0)) (.inr rfl) (rB h)) ?_;refine gz ?_;exact fg ⟨rfl,rfl⟩
theorem KK(hz:m x=0)(hF:Fr.length≤100000):MF 49 #[pB b 0] Z (ef b q hb 2 m Q (x::L) Fr G P::bJ hb st::F) (.tuple #[]) (ef b q hb 2 m Q L (Fr++[x]) G P::bJ hb (dA st x)::F):=by
 refine bO Tryz.func49 45 (fun w0=>?_);refine go ?_;refine dL (fun H h=>eG (show (2:Int)≠0 by decide) (rB h)) (fun uw zv Bw mr hw=>?_);refine gy ?_;refine aC (fun _ h=>Holds.sufO (i:=4) h ak 1 rfl ol) ?_;refine bl (fun H h=>((Acc.ownO (T:=an) (L:=((x::L).drop 1)) 4 rfl) H h).form) (fun rS=>?_);refine gy ?_;refine cr (fun H h=>jb (rB h)) (fun m6 hw=>?_);have Rp:=hw;refine sL (Lt.to (v':=iw (m x)) (cn 0 dx Tryz.underlying89 (iw 0) x) ((pW _ _).trans (cI (Rp.1 x)))) ?_;refine gC [6] ?_ (c:=Ib (st:=st) x);refine ah (e:=3) [(0,iw x)] #[iw x] (fun g8=>?_) (hb:=by kernel_rfl);refine gX (L:=Fr) 7 ak Tryz.underlying23 (.lit 0 ak [x]) (by show _*8≤_;(try simp only[cD]);omega) ol (fun v9=>?_);refine bl (fun H h=>((Acc.ownO (T:=an) (L:=(Fr++[x])) 7 rfl) H h).form) (fun kK=>?_);refine gy ?_;refine ab (fun _ h=>dK Rp.1 (rB h)) ?_;refine ab (fun _ h=>aV (c:=m) (.inr rfl) (rB h)) ?_;exact eN _ _ SI.nil (rr [0,1] [2]) ⟨rfl,rfl⟩
theorem KL(h:CI N st s)(hN:N≤300)(h2:s.ph=2)(hl:s.L≠[]):MF 49 #[pB b 0] Z (fW b q hb s::bJ hb st::F) (.tuple #[]) (fW b q hb (swp st s).2::bJ hb (swp st s).1::F):=by
 have hf:=h.fr;obtain⟨ph,m,Q,L,Fr,G,P⟩:=s;have WZ:ph=2:=h2;subst WZ;cases L with
 | nil=>exact absurd rfl hl
 | cons x L=>
  by_cases e:m x=0
  .rw [qO (s:=⟨2,m,Q,x::L,Fr,G,P⟩) rfl e];exact KK e (by have:Fr.length+(aQ st).length≤N:=hf;omega)
  rw[qP (s:=⟨2,m,Q,x::L,Fr,G,P⟩) rfl e];exact KJ (F:=bJ hb st::F) e
theorem HK{st0:bp}{s0:dU}(u:Int)(hu9:u≤1000)(h0:CI N st0 s0)(hN:N≤300)(hR:R.length≤9000):MF 16 #[pB b 0,iw u,rv] Z (own an rv R::fW b q hb s0::bJ hb st0::F) (iw ((work u.toNat st0 R s0).2.2:Int)) (own an rv R::fW b q hb (work u.toNat st0 R s0).2.1::bJ hb (work u.toNat st0 R s0).1::F):=by
 refine bO Tryz.func16 62 (fun w0=>?_);refine gc ?_;refine b9 (fun p2=>?_) (fun p3=>?_)
 .refine go ?_;rw[A7 om];refine gz ?_;exact fg ⟨rfl,rfl⟩
 refine eT<|b6 (ι:=Unit) (fun _=>True) (fun _=>[(0,pB b 0),(1,iw u),(2,rv)]) (fun _=>ef b q hb ((if s0.ph=0 then bgn st0 R s0 else s0).ph) ((if s0.ph=0 then bgn st0 R s0 else s0).col) ((if s0.ph=0 then bgn st0 R s0 else s0).Q) ((if s0.ph=0 then bgn st0 R s0 else s0).L) ((if s0.ph=0 then bgn st0 R s0 else s0).Fr) ((if s0.ph=0 then bgn st0 R s0 else s0).G) ((if s0.ph=0 then bgn st0 R s0 else s0).P)::own an rv R::bJ hb st0::F) ?_ (fun _ _=>?_)
 .by_cases xw:s0.ph=0
  .refine aK (Bs:=own an rv R::ef b q hb 0 s0.col [] s0.L s0.Fr s0.G s0.P::bJ hb st0::F) (fun _ h=>by unfold fW at h;rw[show s0.Q=[] from h0.q0 om,xw]at h;exact h) ?_;refine go ?_;refine cC (fun H h=>dS (rB h)) (fun mb4 qv5 lv6 fv7 cl8 hw=>?_);have hc9:=hw;refine gy ?_;refine aC (fun _ h=>aV (c:=s0.col) (.inl rfl) (rB h)) ?_;refine gC [1,0,0] ?_ (c:=Pj (R:=R) (G:=s0.G) (P:=s0.P) om (by have:=h0.gp;omega));exact vY () (fun _ h=>by rw[if_pos xw];exact h.re [1,0,0] [])
  refine go ?_;refine cC (fun H h=>dS (rB h)) (fun aj6 agB aj7 agH agI hw=>?_);have Za:=hw;refine gy ?_;refine ab (fun _ h=>aV (c:=s0.col) Za (rB h)) ?_;exact vY () (fun _ h=>by rw[if_neg xw];exact h.re [0,0,0] [])
 obtain⟨s1,GR⟩:∃z,z=(if s0.ph=0 then bgn st0 R s0 else s0):=⟨_,rfl⟩;have hc1:CI N st0 s1:=by rw[GR];split;exact h0.bgn (by assumption) R;exact h0
 rw[←GR];refine go ?_;refine aD (ι:=bp×dU×Nat) (fun (st,s,z)=>CI N st s∧z≤u.toNat∧wrk u.toNat st0 R s1=ra z (wrk (u.toNat-z) st R s)) (fun (st,s,z)=>[(0,pB b 0),(1,iw u),(2,rv),(7,iw (z:Int))]) (fun (st,s,z)=>ef b q hb s.ph s.col s.Q s.L s.Fr s.G s.P::own an rv R::bJ hb st::F) (fun (st,s,z)=>3*(u.toNat-z)+tN s.ph) (st0,s1,0) ⟨hc1,Nat.zero_le _,rfl⟩ sA rA ?_;rintro⟨st,s,z⟩ GS;replace GS:CI N st s∧z≤u.toNat∧wrk u.toNat st0 R s1=ra z (wrk (u.toNat-z) st R s):=GS;show SK _ _ _ _ _ [(0,pB b 0),(1,iw u),(2,rv),(7,iw (z:Int))] _ (ef b q hb s.ph s.col s.Q s.L s.Fr s.G s.P::own an rv R::bJ hb st::F);obtain⟨du,hzk,vI⟩:=GS;refine gc ?_;refine eF 25 (fun jW=>?_) (fun LJ=>?_)
 .refine go ?_;refine cC (fun H h=>dS (rB h)) (fun Yj aj8 ae6 agJ agK hw=>?_);have KM:=hw;refine gc ?_;refine b9 (fun oP=>?_) (fun q25=>?_)
  .refine gc ?_;refine b9 (fun pD=>?_) (fun uI=>?_)
   .refine go ?_;refine aC (fun _ h=>aV (c:=s.col) KM (rB h)) ?_;refine sC [1,0,0] (Pt (s:=s) (R:=R) du hN hR pD) ?_;refine bH ?_;refine b9 (fun oE=>?_) (fun vA=>?_)
    .refine gy ?_;have vP:=Pm (k:=u.toNat-(z+1)) (st:=st) (R:=R) pD oE;rw[show u.toNat-(z+1)+1=u.toNat-z by omega]at vP;exact az (st,mks st R s,z+1) (by show 3*(u.toNat-(z+1))+tN (mks st R s).ph<3*(u.toNat-z)+tN s.ph;have w1:=uZ (mks st R s).ph;omega) ⟨du.mks pD R,by omega,by rw[vI,vP,nq]⟩ sA (rr [1,0,0] [])
    refine go ?_;have vP:=Pn (k:=u.toNat-z-1) (st:=st) (R:=R) pD vA;rw[show u.toNat-z-1+1=u.toNat-z by omega]at vP;have hmp:(mks st R s).ph=2:=by unfold mks;rw[if_neg vA];exact (B6 pD).resolve_left vA
    exact az (st,mks st R s,z) (by show 3*(u.toNat-z)+tN (mks st R s).ph<3*(u.toNat-z)+tN s.ph;rw[agC pD,ac4 hmp];omega) ⟨du.mks pD R,by omega,by rw[vI,vP]⟩ sA (rr [1,0,0] [])
   have mL:s.ph=2:=by rcases du.ph with e|e|e<;>omega
   refine gy ?_;refine b9 (fun kt=>?_) (fun uJ=>?_)
   .have TU:s.L≠[]:=fun e=>by rw[e]at kt;simp at kt
    refine gy ?_;refine aC (fun _ h=>aV (c:=s.col) KM (rB h)) ?_;refine gC [0,1] ?_ (c:=KL (s:=s) du hN mL TU);refine dL (fun H h=>eG (show (swp st s).2.ph≠0 by rw[xt mL];decide) (rB h)) (fun agL agM agN agO hw=>?_);refine gy ?_;refine b9 (fun qn=>?_) (fun Ni=>?_)
    .refine go ?_;refine ab (fun _ h=>aV (c:=(swp st s).2.col) (.inl rfl) (rB h)) ?_;have nF:fW b q hb (cK (swp st s).2)=ef b q hb 0 ((swp st s).2.col) ((swp st s).2.Q) ((swp st s).2.L) ((swp st s).2.Fr) ((swp st s).2.G) ((swp st s).2.P):=by rw[gU (List.eq_nil_of_length_eq_zero om)]
     refine ab (Bs:=ef b q hb ((cK (swp st s).2).ph) ((cK (swp st s).2).col) ((cK (swp st s).2).Q) ((cK (swp st s).2).L) ((cK (swp st s).2).Fr) ((cK (swp st s).2).G) ((cK (swp st s).2).P)::bJ hb ((swp st s).1)::own an rv R::F) (fun _ h=>by rw[←nF]at h;exact h) ?_;have vP:=A6 (k:=u.toNat-(z+1)) (st:=st) (R:=R) mL TU;rw[show u.toNat-(z+1)+1=u.toNat-z by omega]at vP;obtain⟨x,Lx,hLx⟩:=List.exists_cons_of_ne_nil TU;exact az ((swp st s).1,cK (swp st s).2,z+1) (by show 3*(u.toNat-(z+1))+tN (cK (swp st s).2).ph<3*(u.toNat-z)+tN s.ph;have w1:=uZ (cK (swp st s).2).ph;omega) ⟨(du.swp mL hLx).fin (xt mL),by omega,by rw[vI,vP,nq]⟩ sA (rr [0,1,0] [])
    refine gy ?_;refine ab (fun _ h=>aV (c:=(swp st s).2.col) (.inr rfl) (rB h)) ?_;have nF:fW b q hb (cK (swp st s).2)=ef b q hb ((swp st s).2.ph) ((swp st s).2.col) ((swp st s).2.Q) ((swp st s).2.L) ((swp st s).2.Fr) ((swp st s).2.G) ((swp st s).2.P):=by rw[qN (fun e=>by rw[e]at Ni;exact Ni rfl)]
    refine ab (Bs:=ef b q hb ((cK (swp st s).2).ph) ((cK (swp st s).2).col) ((cK (swp st s).2).Q) ((cK (swp st s).2).L) ((cK (swp st s).2).Fr) ((cK (swp st s).2).G) ((cK (swp st s).2).P)::bJ hb ((swp st s).1)::own an rv R::F) (fun _ h=>by rw[←nF]at h;exact h) ?_;have vP:=A6 (k:=u.toNat-(z+1)) (st:=st) (R:=R) mL TU;rw[show u.toNat-(z+1)+1=u.toNat-z by omega]at vP;obtain⟨x,Lx,hLx⟩:=List.exists_cons_of_ne_nil TU;exact az ((swp st s).1,cK (swp st s).2,z+1) (by show 3*(u.toNat-(z+1))+tN (cK (swp st s).2).ph<3*(u.toNat-z)+tN s.ph;have w1:=uZ (cK (swp st s).2).ph;omega) ⟨(du.swp mL hLx).fin (xt mL),by omega,by rw[vI,vP,nq]⟩ sA (rr [0,1,0] [])
   have Rt:s.L=[]:=List.eq_nil_of_length_eq_zero om;refine gy ?_;refine ab (fun _ h=>aV (c:=s.col) (.inl rfl) (rB h)) ?_;have nF:fW b q hb (cK s)=ef b q hb 0 s.col s.Q s.L s.Fr s.G s.P:=by rw[gU Rt]
   refine ab (Bs:=ef b q hb ((cK s).ph) ((cK s).col) ((cK s).Q) ((cK s).L) ((cK s).Fr) ((cK s).G) ((cK s).P)::own an rv R::bJ hb st::F) (fun _ h=>by rw[←nF]at h;exact h) ?_;have vP:=Po (k:=u.toNat-z-1) (st:=st) (R:=R) mL Rt;rw[show u.toNat-z-1+1=u.toNat-z by omega,mg (s:=cK s) (by rw[gU Rt])]at vP;exact az (st,cK s,z) (by show 3*(u.toNat-z)+tN (cK s).ph<3*(u.toNat-z)+tN s.ph;rw[ac4 mL,ac5 (by rw[gU Rt])];omega) ⟨du.fin mL,by omega,by rw[vI,vP,mg (s:=cK s) (by rw[gU Rt])]⟩ sA (rr [0,0,0] [])
  have NQ:=Decidable.not_not.1 q25;refine go ?_;refine ab (fun _ h=>aV (c:=s.col) KM (rB h)) ?_;have Zb:wrk (u.toNat-z) st R s=(st,s,0):=by first|(rw[show u.toNat-z=0 by omega];rfl)|exact mg om
  rw[wZ (t:=(st,s,z)) om (by rw[←GR,vI,Zb];simp[ra])];refine gz ?_;exact fg ⟨rfl,rfl⟩
 refine go ?_;have Zb:wrk (u.toNat-z) st R s=(st,s,0):=by first|(rw[show u.toNat-z=0 by omega];rfl)|exact mg om
 rw[wZ (t:=(st,s,z)) om (by rw[←GR,vI,Zb];simp[ra])];refine gz ?_;exact fg ⟨rfl,rfl⟩
theorem Iw{P:Program}{w0:World}{ops:Array Oper}{Q:Exit→Act→World→Prop}{n:Nat}{E:Env}{As:List aW}{o:Oper}{rest:List Oper}{f:FuncId}{x:Operand}{xs:Array Operand}{ts:Array TypeId}{first cap:Array Value}{vals:List Value}{R:Value→List aW→Prop}{d:Nat}{Ah:List aW}(is:List Nat)(hc:SF P f vals.toArray Z Ah R)
  (h:∀v Bs,R v Bs→SL P w0 ops Q n rest ((d,v)::E) Z Bs) (hp:rearr As is=Ah:=by rfl)
  (ho:o.op=.call { callee:=.value x,args:=xs,argTypes:=ts }:=by rfl) (hf:ev E x=.func (.func f) first cap:=by rfl) (hx:(first.toList++(xs.toList.map (ev E)))++cap.toList=vals:=by rfl) (hd:o.dst=some d:=by rfl) (hfn:rI P f=true:=by kernel_rfl) (hk:cU ops n E o=true:=by kernel_rfl):SL P w0 ops Q n (o::rest) E Z As:=
 Ss is hc h hp ho hf (by apply Array.toList_inj.1;simpa using hx) hd hfn hk
theorem Wi{P:Program}{o:Oper}(f:FuncId)(vs us:List Value){ys:Array Operand}(ho:o.op=.makeFunc (.func f) xs ys:=by rfl)(hx:xs.toList.map (ev E)=vs:=by rfl)(hy:ys.toList.map (ev E)=us:=by rfl):Lt P E o Z As (.func (.func f) vs.toArray us.toArray):=ai _ fun w=>by
 unfold execOp;simp only[ho];have a:xs.map (ev E)=vs.toArray:=by apply Array.toList_inj.1;simpa using hx
 have b:ys.map (ev E)=us.toArray:=by apply Array.toList_inj.1;simpa using hy
 rw[a,b];rfl
theorem TV(hL:Kn Z an lv L)(x:Int):SF Tryz.prog 106 #[lv,iw x] Z [] fun r Bs=>∃k:Int,r=iw k∧(0≤k↔x∈L)∧Bs=[]:=by
 refine bO Tryz.func106 19 (fun w0=>?_);refine bk (fun H h=>(hL.get h).len_le) (fun lL=>?_);refine gy ?_;refine Q6 0 (fun i=>i≤L.length∧x∉L.take i) (fun i=>[(8,iw (i:Int))]) (fun i=>[]) (fun i=>L.length-i) ⟨Nat.zero_le _,by simp⟩ ?_;intro i cQ;refine fk (fun p3=>?_) (fun p9=>?_)
 .obtain ⟨y4,mN⟩:∃y,L[i]?=some y:=⟨_,List.getElem?_eq_getElem ol⟩;refine fk (fun p7=>?_) (fun p8=>?_)
  .refine go ?_;refine ad _ _ (SI.tmp 4 SI.nil) rA ⟨(i:Int),rfl,?_,rfl⟩;exact⟨fun _=>by rw[p7];exact List.mem_of_getElem? mN,fun _=>by omega⟩
  refine gy ?_;exact xr (i+1) (by obtain⟨cQ,cg⟩:=cQ;refine⟨by omega,?_⟩;rw[←bA mN,List.mem_append,List.mem_singleton];rintro (h|h);exact cg h;exact p8 h)
 refine go ?_;refine ad _ _ (SI.tmp 4 SI.nil) rA ⟨(-1),rfl,?_,rfl⟩;exact⟨fun h=>absurd h (by decide),fun h=>absurd h (by have h:=cQ.2;rwa [List.take_of_length_le om]at h)⟩
theorem yH(hL:Kn Z an lv L)(x:Int):NF 44 #[lv,iw x] Z [] (.bool (decide (x∈L))):=by
 refine bO Tryz.func44 9 (fun w0=>?_);refine go ?_;refine a6 (fun _ h=>TV (L:=L) (Acc.kn (.zn hL) h) x) ?_;rintro _ _ ⟨k1,rfl,eW,rfl⟩;refine gc ?_;refine ad _ _ (SI.tmp 4 SI.nil) rA ⟨cB (decide_eq_decide.2 eW),rfl⟩
theorem TX(x:Int):NF 64 #[iw x,pB g 0] Z (aa g #[iw id] 3::F) (.bool (decide (x=id))):=by
 refine bO Tryz.func64 7 (fun w0=>?_);exact ge
theorem TY(x:Int):NF 65 #[iw x,pB g 0] Z (aa g #[iw id] 3::F) (.bool (decide (x=id))):=by
 refine bO Tryz.func65 7 (fun w0=>?_);exact ge
def IsF(f:Nat):Prop:=f=64∨f=65
theorem Wj(hf:IsF f)(x:Int):NF f #[iw x,pB g 0] Z (aa g #[iw id] 3::F) (.bool (decide (x=id))):=by
 rcases hf with rfl|rfl
 .exact TX x
 exact TY x
theorem Pu(hf:IsF f):rI Tryz.prog f=true:=by
 rcases hf with rfl|rfl<;>kernel_rfl
def agP(L:List Int)(id k:Int):Prop:=(k = -1∧∀z∈L,z≠id)∨∃i:Nat,k=(i:Int)∧i<L.length∧L[i]?=some id∧∀z∈L.take i,z≠id
theorem Pv(hf:IsF f):SF Tryz.prog 128 #[lv,.func (.func f) #[] #[pB g 0]] Z (ownO an lv L::aa g #[iw id] 3::F) fun r Bs=>∃k:Int,r=iw k∧agP L id k∧Bs=ownO an lv L::aa g #[iw id] 3::F:=by
 refine bO Tryz.func128 19 (fun w0=>?_);refine bk (fun H h=>((Acc.ownO (T:=an) (L:=L) 0 rfl) H h).len_le) (fun lL=>?_);refine gy ?_;refine Q6 0 (fun i=>i≤L.length∧∀z∈L.take i,z≠id) (fun i=>[(8,iw (i:Int))]) (fun i=>[]) (fun i=>L.length-i) ⟨Nat.zero_le _,by simp⟩ ?_;intro i cQ;refine fk (fun p3=>?_) (fun p9=>?_)
 .obtain ⟨y4,mN⟩:∃y,L[i]?=some y:=⟨_,List.getElem?_eq_getElem ol⟩;refine gy ?_;refine Iw [1] (Wj hf y4) ?_ (hfn:=Pu hf);rintro _ _ ⟨rfl,rfl⟩;refine bH ?_;refine b9 (fun p7=>?_) (fun p8=>?_)
  .refine gy ?_;refine ad [iw (i:Int)] (ownO an lv L::aa g #[iw id] 3::F) (SI.tmp 4 SI.nil) rA ⟨(i:Int),rfl,?_,rfl⟩;exact .inr ⟨i,rfl,by omega,by rw[←p7];exact mN,cQ.2⟩
  refine gy ?_;exact xr (i+1) (by obtain⟨cQ,cg⟩:=cQ;refine⟨by omega,fun z hz=>?_⟩;rw[←bA mN,List.mem_append,List.mem_singleton]at hz;rcases hz with h|h;exact cg z h;rw[h];exact p8)
 refine gy ?_;refine ad [iw (-1)] (ownO an lv L::aa g #[iw id] 3::F) (SI.tmp 4 SI.nil) rA ⟨(-1),rfl,?_,rfl⟩;exact .inl ⟨rfl,by have h:=cQ.2;rwa [List.take_of_length_le om]at h⟩
theorem Em(h:∀z∈L,z≠id):mO L id=L:=by
 unfold mO;rw[List.filter_eq_self];intro a ha;simp[h a ha]
structure Ix(L:List Int)(id:Int)(X:List Int)(i j:Nat):Prop where
 len:X.length=L.length
 lt:i<j
 le:j≤L.length
 pre:X.take i=mO (L.take j) id
 suf:X.drop j=L.drop j
theorem Ix.start(hi:i<L.length)(h:L[i]?=some id)(hn:∀z∈L.take i,z≠id):Ix L id L i (i+1) where
 len:=rfl
 lt:=Nat.lt_succ_self i
 le:=hi
 pre:=by
  have:=Em hn;unfold mO at this⊢;rw[List.take_add_one,h,List.filter_append,this];simp
 suf:=rfl
theorem Ix.at(h:Ix L id X i j)(hy:X[j]?=some y):L[j]?=some y:=by
 have e:=congrArg (fun l=>l[0]?) h.suf;simp only[List.getElem?_drop,Nat.add_zero]at e;rw[←e];exact hy
theorem Ix.skip(h:Ix L id X i j)(hj:j<L.length)(hy:X[j]?=some y)(e:y=id):Ix L id X i (j+1) where
 len:=h.len
 lt:=by have:=h.lt;omega
 le:=hj
 pre:=by
  have:=h.pre;unfold mO at this⊢;rw[List.take_add_one,h.at hy,List.filter_append,←this];simp[e]
 suf:=by have:=congrArg (List.drop 1) h.suf;rw[List.drop_drop,List.drop_drop]at this;exact this
theorem Ix.keep(h:Ix L id X i j)(hj:j<L.length)(hy:X[j]?=some y)(e:¬y=id):Ix L id (X.set i y) (i+1) (j+1) where
 len:=by rw[List.length_set];exact h.len
 lt:=by have:=h.lt;omega
 le:=hj
 pre:=by
  have h1:=h.pre;have h2:=h.lt;have h3:=h.len;unfold mO at h1⊢;have h4:=h.at hy;rw[List.take_add_one,List.getElem?_set_self om,List.take_set_of_le (Nat.le_refl _),List.take_add_one,h4,List.filter_append,←h1];simp[e]
 suf:=by
  have:=congrArg (List.drop 1) h.suf;rw[List.drop_drop,List.drop_drop]at this;have h2:=h.lt;rw[List.drop_set_of_lt om];exact this
theorem Ix.fin{z:Int}{k:Nat}(h:Ix L id X i j)(hj:¬j<L.length):(X.take i++List.replicate k z).take i=mO L id:=by
 have h1:=h.pre;have h2:=h.lt;have h3:=h.len;have h4:=h.le;rw[List.take_append_of_le_length (by rw[List.length_take];omega),List.take_take,Nat.min_self,h1,List.take_of_length_le om]
theorem A8(hf:IsF f)(hl:L.length≤1000000):SF Tryz.prog 63 #[lv,.func (.func f) #[] #[pB g 0]] Z (ownO an lv L::aa g #[iw id] 3::F) fun r Bs=>Bs=ownO an r (mO L id)::aa g #[iw id] 3::F:=by
 refine bO Tryz.func63 42 (fun w0=>?_);refine bk (fun H h=>((Acc.ownO (T:=an) (L:=L) 0 rfl) H h).len_le) (fun lL=>?_);refine gy ?_;refine aH [0,0] (Pv (L:=L) hf) ?_;rintro _ _ ⟨k1,rfl,eW,rfl⟩;rcases eW with ⟨rfl,LA⟩|⟨i0,rfl,AU,HH,agQ⟩
 .refine gz ?_;exact fg rfl (fun _ h=>by rw[Em LA];exact h.re [0,0] [])
 refine gy ?_;refine kL3 L i0 (i0+1) (fun X i j=>Ix L id X i j) (fun X i j=>[(5,iw (i:Int)),(6,iw (j:Int))]) (fun X i j=>[(0,ownO an lv X)]) (fun X i j=>L.length-j) (Ix.start AU HH agQ) ?_;intro X i j gE;have hXl:=gE.len;have L0:=gE.lt;have Xl:=gE.le;refine fk (fun p5=>?_) (fun kO=>?_)
 .obtain ⟨y6,s9⟩:∃y,X[j]?=some y:=⟨_,List.getElem?_eq_getElem ol⟩;refine gy ?_;refine Iw [1] (Wj hf y6) ?_ (hfn:=Pu hf);rintro _ _ ⟨rfl,rfl⟩;refine gy ?_;refine kd (fun c8=>?_) (fun c8=>?_)
  .have c9:=cO c8;have gQ:=dF c9;refine gy ?_;obtain⟨dp,jC⟩:∃y,X[i]?=some y:=⟨_,List.getElem?_eq_getElem ol⟩;refine Pd 1 y6 ak jC ?_;refine gy ?_;exact xr ((X.set i y6),i+1,j+1) (gE.keep (by have:=gE.len;omega) s9 (dF c9))
  have ux:=cu c8;have iU:=dY ux;refine gy ?_;exact xr (X,i,j+1) (gE.skip (by have:=gE.len;omega) s9 (dY ux))
 refine cW ?_;have hj0:¬j<L.length:=by have:=gE.len;omega
 refine cM ?_;have hj0:¬j<L.length:=by have:=gE.len;omega
 refine cM ?_;have hj0:¬j<L.length:=by have:=gE.len;omega
 refine gy ?_;refine KA (L:=X) (k:=i) 0 ak Tryz.underlying23 ol (fun e=>by have h9:X.length=0:=(by rw[e];rfl);omega) ?_;refine gy ?_;refine ab (fun _ h=>Holds.preO (i:=0) h ak i rfl ol) ?_;refine gz ?_;exact fg rfl (fun _ h=>by rw[gE.fin hj0]at h;exact h.re [0,0] [])
theorem Da(du:CI N st s)(hN:N≤300)(x y:Int):MF 27 #[pB b 0,iw x,iw y] Z (fW b q hb s::bJ hb st::F) (iw (k8 st x)) (fW b q hb (wrt st s x y)::bJ hb st::F):=by
 refine bO Tryz.func27 33 (fun w0=>?_);refine gy ?_;refine cC (fun H h=>dS (rB h)) (fun uw zv Bw mr sM hw=>?_);have kT:=hw;refine gC [6] ?_ (c:=ir (st:=st) x);refine kd (fun c7=>?_) (fun c7=>?_)
 .have c8:=cO c7;refine gy ?_;refine ab (fun _ h=>aV (c:=s.col) kT (rB h)) ?_;have dM:fW b q hb (wrt st s x y)=ef b q hb s.ph s.col s.Q s.L s.Fr s.G s.P:=by unfold wrt;simp[fW,c7,c8,c8]
  refine ad [iw 2] (fW b q hb (wrt st s x y)::bJ hb st::F) (SI.tmp 6 SI.nil) (fun _ h=>by rw[dM];exact h.re [0,0] []) ⟨?_,rfl⟩;exact cI (by unfold k8;simp[c7,c8,c8])
 have c9:=cu c7;refine gy ?_;refine eF 21 (fun im=>?_) (fun mM=>?_)
 .obtain rfl:=kT.resolve_left om;refine gy ?_;refine cr (fun H h=>jb (rB h)) (fun m12 hw=>?_);have wa:=hw;refine gl ?_ (t:=Lt.to (v':=iw (s.col x)) (cn 0 dx Tryz.underlying89 (iw 0) x) ((pW _ _).trans (cI (wa.1 x))));refine b9 (fun kO=>?_) (fun so=>?_)
  .refine gy ?_;refine aC (fun _ h=>dK wa.1 (rB h)) ?_;refine aC (fun _ h=>aV (c:=s.col) (.inr rfl) (rB h)) ?_;refine aC (Bs:=ef b q hb 1 s.col s.Q s.L s.Fr s.G s.P::bJ hb st::F) (fun _ h=>by rw[show s.ph=1 by omega]at h;exact h) ?_;refine gC [0,0] ?_ (c:=pX (Q:=s.Q) (by have:=du.ql;omega) y);have dM:fW b q hb (wrt st s x y)=ef b q hb 1 (j6 st s.col y) (kR st s.col s.Q y) s.L s.Fr s.G s.P:=by unfold wrt;simp[fW,c7,c9,im,kO,c9,kO]
   refine ad [iw 0] (fW b q hb (wrt st s x y)::bJ hb st::F) (SI.tmp 6 SI.nil) (fun _ h=>by rw[dM];exact h.re [0,0] []) ⟨?_,rfl⟩;exact cI (by unfold k8;simp[c7,c9,im,kO,c9,kO])
  refine gy ?_;refine ab (fun _ h=>dK wa.1 (rB h)) ?_;refine ab (fun _ h=>aV (c:=s.col) (.inr rfl) (rB h)) ?_;have dM:fW b q hb (wrt st s x y)=ef b q hb s.ph s.col s.Q s.L s.Fr s.G s.P:=by unfold wrt;simp[fW,c7,c9,im,so,c9,so]
  refine ad [iw 0] (fW b q hb (wrt st s x y)::bJ hb st::F) (SI.tmp 6 SI.nil) (fun _ h=>by rw[dM];exact h.re [0,0] []) ⟨?_,rfl⟩;exact cI (by unfold k8;simp[c7,c9,im,so,c9,so])
 refine gy ?_;refine ab (fun _ h=>aV (c:=s.col) kT (rB h)) ?_;have dM:fW b q hb (wrt st s x y)=ef b q hb s.ph s.col s.Q s.L s.Fr s.G s.P:=by unfold wrt;simp[fW,c7,c9,mM,c9]
 refine ad [iw 0] (fW b q hb (wrt st s x y)::bJ hb st::F) (SI.tmp 6 SI.nil) (fun _ h=>by rw[dM];exact h.re [0,0] []) ⟨?_,rfl⟩;exact cI (by unfold k8;simp[c7,c9,mM,c9])
theorem Pw(du:CI N st s)(hN:N≤300)(x:Int):MF 28 #[pB b 0,iw x] Z (fW b q hb s::bJ hb st::F) (iw (k8 st x)) (fW b q hb (brt st s x)::bJ hb st::F):=by
 refine bO Tryz.func28 47 (fun w0=>?_);refine bn ?_;refine gA fun g1=>?_
 refine gy ?_;refine cC (fun H h=>dS (rB h)) (fun ru qv3 wO fv5 cl6 hw=>?_);have hc7:=hw;refine gC [7] ?_ (c:=ir (st:=st) x);refine kd (fun c8=>?_) (fun c8=>?_)
 .have c9:=cO c8;refine gy ?_;refine ab (fun _ h=>aV (c:=s.col) hc7 (rB h)) ?_;have dM:fW b q hb (brt st s x)=ef b q hb s.ph s.col s.Q s.L s.Fr s.G s.P:=by unfold brt;simp[fW,c8,c9,c9]
  refine ad [iw 2] (fW b q hb (brt st s x)::bJ hb st::F) (SI.tmp 4 SI.nil) (fun _ h=>by rw[dM];exact h.re [0,0] [2]) ⟨?_,rfl⟩;exact cI (by unfold k8;simp[c8,c9,c9])
 have l4:=cu c8;refine fk (fun my=>?_) (fun mM=>?_)
 .obtain rfl:=hc7.resolve_left om;refine gy ?_;refine sL (Wi 64 [] [pB g1 0])<|aH [4,6] (A8 (L:=s.Q) (id:=x) (.inl rfl) (by have:=du.ql;have:=du.ll;omega)) ?_
  rintro CO _ rfl;refine bl (fun H h=>((Acc.ownO (T:=an) (L:=(mO s.Q x)) 0 rfl) H h).form) (fun KN=>?_);refine gy ?_;refine cr (fun H h=>jb (rB h)) (fun m15 hw=>?_);have agR:=hw;refine eE 0 dx Tryz.underlying89 x (2:Int) ?_;refine gy ?_;refine ab (fun _ h=>dK (agR.1.set x (2:Int)) (rB h)) ?_;refine ab (fun _ h=>aV (c:=(dh s.col x (2:Int))) (.inr rfl) (rB h)) ?_;have dM:fW b q hb (brt st s x)=ef b q hb s.ph (dh s.col x (2:Int)) (mO s.Q x) s.L s.Fr s.G s.P:=by unfold brt;simp[fW,c8,l4,my,l4]
  refine ad [iw 0] (fW b q hb (brt st s x)::bJ hb st::F) (SI.tmp 4 SI.nil) (fun _ h=>by rw[dM];exact h.re [0,1] [2]) ⟨?_,rfl⟩;exact cI (by unfold k8;simp[c8,l4,my,l4])
 refine gy ?_;refine sL (Wi 65 [] [pB g1 0])<|aH [5,6] (A8 (L:=s.L) (id:=x) (.inr rfl) (by have:=du.ql;have:=du.ll;omega)) ?_
 rintro Vr _ rfl;refine bl (fun H h=>((Acc.ownO (T:=an) (L:=(mO s.L x)) 0 rfl) H h).form) (fun lZ=>?_);refine gy ?_;refine cr (fun H h=>jb (rB h)) (fun m20 hw=>?_);have SJ:=hw;refine qj 0 dx Tryz.underlying89 x ?_;refine gy ?_;refine ab (fun _ h=>dK (SJ.1.del SJ.2 x) (rB h)) ?_;refine ab (fun _ h=>aV (c:=(dh s.col x 0)) (hc7.imp (fun h=>h) (fun e=>congrArg (fun cl6=>(dh cl6 x 0)) e)) (rB h)) ?_;have dM:fW b q hb (brt st s x)=ef b q hb s.ph (dh s.col x 0) s.Q (mO s.L x) s.Fr s.G s.P:=by unfold brt;simp[fW,c8,l4,mM,l4]
 refine ad [iw 0] (fW b q hb (brt st s x)::bJ hb st::F) (SI.tmp 4 SI.nil) (fun _ h=>by rw[dM];exact h.re [0,1] [2]) ⟨?_,rfl⟩;exact cI (by unfold k8;simp[c8,l4,mM,l4])
theorem Zc(du:CI N st s)(hN:N≤300)(x:Int):MF 14 #[pB b 0,iw x] Z (fW b q hb s::bJ hb st::F) (iw (l6 st s x)) (fW b q hb (rgs st s x)::bJ hb st::F):=by
 refine bO Tryz.func14 56 (fun w0=>?_);refine go ?_;refine cC (fun H h=>dS (rB h)) (fun uw zv Bw mr sM hw=>?_);have kT:=hw;refine gC [6] ?_ (c:=ir (st:=st) x);refine kd (fun c7=>?_) (fun c7=>?_)
 .have c8:=cO c7;refine go ?_;refine ab (fun _ h=>aV (c:=s.col) kT (rB h)) ?_;have dM:fW b q hb (rgs st s x)=ef b q hb s.ph s.col s.Q s.L s.Fr s.G s.P:=by unfold rgs dU.doom;simp[fW,c7,c8,c8]
  refine ad _ _ (SI.tmp 4 SI.nil) (fun _ h=>by rw[dM];exact h.re [0,0] []) ⟨?_,rfl⟩;exact cI (by unfold l6 dU.doom;simp[c7,c8,c8])
 have c9:=cu c7;refine gc ?_;refine eF 20 (fun im=>?_) (fun oP=>?_)
 .obtain rfl:=kT.resolve_left om;refine go ?_;refine cr (fun H h=>jb (rB h)) (fun m12 hw=>?_);have wa:=hw;refine gl ?_ (t:=Lt.to (v':=iw (s.col x)) (cn 0 dx Tryz.underlying89 (iw 0) x) ((pW _ _).trans (cI (wa.1 x))));refine eF 29 (fun kO=>?_) (fun nQ=>?_)
  .refine gV ?_ (c:=fun _ h=>yH (L:=s.L) (Acc.kn (.ownO 5) h) x);refine b9 (fun mM=>?_) (fun jW=>?_)
   .refine go ?_;refine ab (fun _ h=>dK wa.1 (rB h)) ?_;refine ab (fun _ h=>aV (c:=s.col) (.inr rfl) (rB h)) ?_;have dM:fW b q hb (rgs st s x)=ef b q hb s.ph s.col s.Q s.L s.Fr s.G s.P:=by unfold rgs dU.doom;simp[fW,c7,c9,im,kO,mM,c9,kO,mM]
    refine ad _ _ (SI.tmp 4 SI.nil) (fun _ h=>by rw[dM];exact h.re [0,0] []) ⟨?_,rfl⟩;exact cI (by unfold l6 dU.doom;simp[c7,c9,im,kO,mM,c9,kO,mM])
   refine gC [3] ?_ (c:=Pf (reg:=s.G) x (by have:=du.gp;omega));refine eF 45 (fun zj=>?_) (fun oQ=>?_)
   .refine gy ?_;refine ab (fun _ h=>dK wa.1 (rB h)) ?_;refine ab (fun _ h=>aV (c:=s.col) (.inr rfl) (rB h)) ?_;have dM:fW b q hb (rgs st s x)=ef b q hb s.ph s.col s.Q s.L s.Fr (gO s.G x) s.P:=by unfold rgs dU.doom;simp[fW,c7,c9,im,kO,jW,zj,c9,kO,jW,zj]
    refine ad _ _ (SI.tmp 4 SI.nil) (fun _ h=>by rw[dM];exact h.re [0,0] []) ⟨?_,rfl⟩;exact cI (by unfold l6 dU.doom;simp[c7,c9,im,kO,jW,zj,c9,kO,jW,zj])
   refine go ?_;refine ab (fun _ h=>dK wa.1 (rB h)) ?_;refine ab (fun _ h=>aV (c:=s.col) (.inr rfl) (rB h)) ?_;have dM:fW b q hb (rgs st s x)=ef b q hb s.ph s.col s.Q s.L s.Fr (gO s.G x) s.P:=by unfold rgs dU.doom;simp[fW,c7,c9,im,kO,jW,oQ,c9,kO,jW,oQ]
   refine ad _ _ (SI.tmp 4 SI.nil) (fun _ h=>by rw[dM];exact h.re [0,0] []) ⟨?_,rfl⟩;exact cI (by unfold l6 dU.doom;simp[c7,c9,im,kO,jW,oQ,c9,kO,jW,oQ])
  refine gC [3] ?_ (c:=Pf (reg:=s.G) x (by have:=du.gp;omega));refine eF 45 (fun kU=>?_) (fun mE=>?_)
  .refine gy ?_;refine ab (fun _ h=>dK wa.1 (rB h)) ?_;refine ab (fun _ h=>aV (c:=s.col) (.inr rfl) (rB h)) ?_;have dM:fW b q hb (rgs st s x)=ef b q hb s.ph s.col s.Q s.L s.Fr (gO s.G x) s.P:=by unfold rgs dU.doom;simp[fW,c7,c9,im,nQ,kU,c9,nQ,kU]
   refine ad _ _ (SI.tmp 4 SI.nil) (fun _ h=>by rw[dM];exact h.re [0,0] []) ⟨?_,rfl⟩;exact cI (by unfold l6 dU.doom;simp[c7,c9,im,nQ,kU,c9,nQ,kU])
  refine go ?_;refine ab (fun _ h=>dK wa.1 (rB h)) ?_;refine ab (fun _ h=>aV (c:=s.col) (.inr rfl) (rB h)) ?_;have dM:fW b q hb (rgs st s x)=ef b q hb s.ph s.col s.Q s.L s.Fr (gO s.G x) s.P:=by unfold rgs dU.doom;simp[fW,c7,c9,im,nQ,mE,c9,nQ,mE]
  refine ad _ _ (SI.tmp 4 SI.nil) (fun _ h=>by rw[dM];exact h.re [0,0] []) ⟨?_,rfl⟩;exact cI (by unfold l6 dU.doom;simp[c7,c9,im,nQ,mE,c9,nQ,mE])
 refine gC [2] ?_ (c:=Pf (reg:=s.G) x (by have:=du.gp;omega));refine eF 45 (fun pD=>?_) (fun uI=>?_)
 .refine fk (fun oE=>?_) (fun vA=>?_)
  .obtain rfl:=kT.resolve_left om;refine go ?_;refine aC (fun _ h=>aV (c:=s.col) (.inr rfl) (rB h)) ?_;refine aC (Bs:=ef b q hb 1 s.col s.Q s.L s.Fr (gO s.G x) s.P::bJ hb st::F) (fun _ h=>by rw[show s.ph=1 by omega]at h;exact h) ?_;refine gC [0,0] ?_ (c:=pX (Q:=s.Q) (by have:=du.ql;omega) x);have dM:fW b q hb (rgs st s x)=ef b q hb 1 (j6 st s.col x) (kR st s.col s.Q x) s.L s.Fr (gO s.G x) s.P:=by unfold rgs dU.doom;simp[fW,c7,c9,oP,pD,oE,c9,pD,oE]
   refine ad _ _ (SI.tmp 4 SI.nil) (fun _ h=>by rw[dM];exact h.re [0,0] []) ⟨?_,rfl⟩;exact cI (by unfold l6 dU.doom;simp[c7,c9,oP,pD,oE,c9,pD,oE])
  refine go ?_;refine ab (fun _ h=>aV (c:=s.col) kT (rB h)) ?_;have dM:fW b q hb (rgs st s x)=ef b q hb s.ph s.col s.Q s.L s.Fr (gO s.G x) s.P:=by unfold rgs dU.doom;simp[fW,c7,c9,oP,pD,vA,c9,pD,vA]
  refine ad _ _ (SI.tmp 4 SI.nil) (fun _ h=>by rw[dM];exact h.re [0,0] []) ⟨?_,rfl⟩;exact cI (by unfold l6 dU.doom;simp[c7,c9,oP,pD,vA,c9,pD,vA])
 refine go ?_;refine ab (fun _ h=>aV (c:=s.col) kT (rB h)) ?_;have dM:fW b q hb (rgs st s x)=ef b q hb s.ph s.col s.Q s.L s.Fr (gO s.G x) s.P:=by unfold rgs dU.doom;simp[fW,c7,c9,oP,uI,c9,uI]
 refine ad _ _ (SI.tmp 4 SI.nil) (fun _ h=>by rw[dM];exact h.re [0,0] []) ⟨?_,rfl⟩;exact cI (by unfold l6 dU.doom;simp[c7,c9,oP,uI,c9,uI])
theorem De:NF 15 #[pB b 0] Z (ef b q hb ph m Q L Fr G P::F) (iw ph):=by
 refine bO Tryz.func15 9 (fun w0=>?_);refine go ?_;refine cC (fun H h=>dS (rB h)) (fun uw zv Bw mr sM hw=>?_);have kT:=hw;refine go ?_;refine ab (fun _ h=>aV (c:=m) kT (rB h)) ?_;refine gz ?_;exact fg ⟨rfl,rfl⟩
theorem yI(hg:oO Z ov rv l R):NF 114 #[.agg #[ov,rv]] Z [] (iw (fa (chk 0 l))):=by
 refine bO Tryz.func114 35 (fun w0=>?_);refine bk (fun H h=>(hg.obs.get h).len_le) (fun lA=>?_);refine gy ?_;refine gA fun g1=>?_
 refine go ?_;refine kL2 0 0 (fun last i=>i≤l.length∧chk 0 l=chk last (l.drop i)∧0≤last) (fun last i=>[(3,iw last),(9,iw (i:Int))]) (fun last i=>[]) (fun last i=>l.length-i) ⟨Nat.zero_le _,rfl,Int.le_refl _⟩ ?_;intro last i cg;refine fk (fun p4=>?_) (fun oE=>?_)
 .refine go ?_;refine sL (aF bt Tryz.underlying55 (.zn hg.obs) (i:Int) i om ol om) ?_;obtain⟨y5,kJ⟩:∃y,l[i]?=some y:=⟨_,List.getElem?_eq_getElem ol⟩;have YV:=hg.each y5 (List.mem_of_getElem? kJ);refine sL (bC bt (.zn hg.obs) kJ) ?_;refine ae (.agg #[iw 0,iw 0,iw 0,nS,nS]) #[iw 0,iw 0,iw 0,nS,nS] (fun g8=>?_);refine gs ?_;refine aE<|kB 31 (.bool ((decide (y5.id≤last))||((decide (y5.size<0))||((decide (y5.weak<0))||(decide ((3:Int)<y5.weak)))))) ?_ ?_
  .refine gc ?_;refine eF 17 (fun gQ=>?_) (fun im=>?_)
   .refine go ?_;exact xc
   refine gc ?_;refine eF 22 (fun fL=>?_) (fun iU=>?_)
   .refine go ?_;exact xc
   refine gc ?_;refine eF 27 (fun so=>?_) (fun mM=>?_)
   .refine go ?_;exact xc
   refine gc ?_;exact xc
  refine kd (fun wE=>?_) (fun wE=>?_)
  .have lp:=wE;simp only[Bool.and_eq_true,Bool.or_eq_true,Bool.and_eq_false_iff,Bool.or_eq_false_iff,Bool.not_eq_true',Bool.not_eq_false',decide_eq_true_eq,decide_eq_false_iff_not]at lp;refine gy ?_;refine ad _ _ (SI.tmp 2 SI.nil) rA ⟨cI ?_,rfl⟩;rw[cg.2.1,fB kJ];simp only[fa];rw[if_neg];simp only[Bool.and_eq_true,Bool.not_eq_true',Bool.or_eq_false_iff,decide_eq_false_iff_not];omega
  obtain⟨oD,Mx⟩:=l5 wE;have nQ:=dF oD;obtain⟨Rj,BU⟩:=l5 Mx;have mE:=dF Rj;obtain⟨SA,En⟩:=l5 BU;have pD:=dF SA;have Dt:=dF En;refine gy ?_;exact xr (y5.id,i+1) (by obtain⟨cQ,cg,gE⟩:=cg;have hd:=fB (last:=last) kJ;refine⟨by omega,?_,by omega⟩;rw[cg,hd,decide_eq_false om,decide_eq_false om,decide_eq_false om,decide_eq_false om];rfl)
 refine gy ?_;refine ad _ _ (SI.tmp 2 SI.nil) rA ⟨cI ?_,rfl⟩;rw[cg.2.1,List.drop_of_length_le om];rfl
def keyed(l:List Ob):List Int:=(jz l).map Ob.id
def Fl(l:List Ob):List (Int×Ob):=l.map fun o=>(o.id,o)
def yJ(M:List Int):List (Int×Int):=M.map fun x=>(x,1)
def B7(M:List Int)(k:Int):Int:=if k∈M then 1 else 0
theorem B8(h:B7 M k≠0):k∈M:=by unfold B7 at h;split at h<;>simp_all
theorem yK(h:B7 M k=0):k∉M:=by unfold B7 at h;split at h<;>simp_all
theorem B9(l:List Ob)(k:Int):bN (Fl l) k=fnd l k:=by
 unfold Fl fnd;induction l with
 | nil=>rfl
 | cons o r ih=>simp only[List.map_cons,bN,List.find?_cons,ih];by_cases h:o.id=k<;>simp[h]
theorem TZ(M:List Int)(k:Int):bN (yJ M) k=if k∈M then some 1 else none:=by
 unfold yJ;induction M with
 | nil=>rfl
 | cons x r ih=>
  simp only[List.map_cons,bN,ih,List.mem_cons];by_cases h:x=k
  .simp [h]
  have h2:¬k=x:=fun e=>h e.symm
  simp[h,h2]
theorem GU(M:List Int)(k:Int):((bN (yJ M) k).map cV).getD (iw 0)=iw (B7 M k):=by
 rw[TZ];unfold B7;split<;>rfl
theorem tO{β:Type}{m:List (Int×β)}(h:k∉m.map Prod.fst):db m k=none:=by
 cases hp:db m k with
 | none=>rfl
 | some i=>obtain⟨_,x,h1,_⟩:=Go.Mem.apos_lt hp;exact absurd (List.mem_map.2 ⟨_,List.mem_of_getElem? h1,rfl⟩) h
theorem T0(h:k∉M):dO (yJ M) k 1=yJ (M++[k]):=by
 rw[aset_new (tO (by simpa [yJ,List.map_map,Function.comp_def]using h))];simp[yJ]
theorem Iy(hl:oK l){y:Ob}(hy:l[i]?=some y):dO (Fl (l.take i)) y.id y=Fl (l.take (i+1)):=by
 rw[aset_new (tO ?_),List.take_add_one,hy]
 .simp [Fl]
 intro hm;simp only[Fl,List.map_map,List.mem_map,Function.comp_def]at hm;obtain⟨o,ho,e⟩:=hm;obtain⟨j,hj⟩:=List.mem_iff_getElem?.1 ho;rw[List.getElem?_take]at hj;split at hj
 .rename_i nC;have:=BV hl hj hy nC;omega
 cases hj
theorem KO{y:Ob}(hy:l[i]?=some y)(h:y.weak=1):keyed (l.take i)++[y.id]=keyed (l.take (i+1)):=by
 rw[List.take_add_one,hy];simp[keyed,jz,List.filter_append,h]
theorem Px{y:Ob}(hy:l[i]?=some y)(h:¬y.weak=1):keyed (l.take i)=keyed (l.take (i+1)):=by
 rw[List.take_add_one,hy];simp[keyed,jz,List.filter_append,h]
theorem KP(h:oK l):(keyed l).Pairwise (· < ·):=by
 unfold keyed jz;rw[List.pairwise_map];exact h.filter _
theorem u0(l:List Ob):(keyed l).length≤l.length:=by
 unfold keyed jz;rw[List.length_map];exact List.length_filter_le _ _
theorem KQ(hl:oK l)(h:(keyed l)[i]?=some y):∃o,(jz l)[i]?=some o∧o.id=y∧o.weak=1∧fnd l y=some o∧o∈l:=by
 unfold keyed at h;rw[List.getElem?_map,Option.map_eq_some_iff]at h;obtain⟨o,ho,rfl⟩:=h;have hm:=List.mem_of_getElem? ho;have RT:o∈l∧o.weak=1:=by simpa [jz]using hm
 exact⟨o,ho,rfl,RT.2,qJ hl RT.1,RT.1⟩
theorem GV(l:List Ob):(keyed l).length=(jz l).length:=List.length_map _
theorem Py(W:List Int)(o:Ob):W++o.refs++o.ents.flatMap (cP o.weak)=W++gB o:=by rw[List.append_assoc];rfl
theorem yL(o:Ob)(k:Nat):o.refs.length+((o.ents.take k).flatMap (cP o.weak)).length≤(gB o).length:=by
 have:o.ents.flatMap (cP o.weak)=(o.ents.take k).flatMap (cP o.weak)++(o.ents.drop k).flatMap (cP o.weak):=by rw[←List.flatMap_append,List.take_append_drop]
 unfold gB;rw[this];simp only[List.length_append];omega
theorem KR{k:Nat}(h:o.ents[k]?=some e):o.refs.length+((o.ents.take k).flatMap (cP o.weak)).length+(cP o.weak e).length≤(gB o).length:=by
 have h1:=yL o (k+1);rw[←j4 h,List.length_append]at h1;omega
theorem KS{weak:Int}{L:List iF}{k:Nat}(A:List Int)(h:L[k]?=some e):A++(L.take k).flatMap (cP weak)++cP weak e=A++(L.take (k+1)).flatMap (cP weak):=by rw[List.append_assoc,j4 h]
def nr(t:TypeId)(b:Nat)(l:List Ob)(M:List Int):aW:=lj fun a=>lj fun m=>lj fun kv=>zr True [aa b #[.map (some a),.map (some m),kv] t,dr (Go.Mem.intK 3) Ob.v a (Fl l),dr (Go.Mem.intK 3) cV m (yJ M),own an kv (keyed l)]
theorem pZ(h:Holds Z (nr t b l M::F) H):∃a m kv,True∧Holds Z (aa b #[.map (some a),.map (some m),kv] t::dr (Go.Mem.intK 3) Ob.v a (Fl l)::dr (Go.Mem.intK 3) cV m (yJ M)::own an kv (keyed l)::F) H:=by
 obtain⟨a,h⟩:=h.open_ex;obtain⟨m,h⟩:=h.open_ex;obtain⟨kv,h⟩:=h.open_ex;exact⟨a,m,kv,h.open_st⟩
theorem kF{a m:Nat}{kv:Value}(h:Holds Z (aa b #[.map (some a),.map (some m),kv] t::dr (Go.Mem.intK 3) Ob.v a (Fl l)::dr (Go.Mem.intK 3) cV m (yJ M)::own an kv (keyed l)::F) H):Holds Z (nr t b l M::F) H:=
 Holds.shut_ex a (Holds.shut_ex m (Holds.shut_ex kv (Holds.shut_st trivial h)))
theorem T3(weak:Int)(e:iF):SF Tryz.prog 267 #[iw weak,e.v] Z [] fun r Bs=>Bs=[own an r (cP weak e)]:=by
 refine bO Tryz.func267 26 (fun w0=>?_);refine gy ?_;refine gA fun g1=>?_
 refine fk (fun p3=>?_) (fun p8=>?_)
 .refine fk (fun p5=>?_) (fun p7=>?_)
  .refine gA fun g6=>?_
   refine gy ?_;have hq:cP weak e=[e.val]:=by simp[cP,p3,p5]
   refine gz ?_;exact fg rfl (fun _ h=>by rw[hq];exact (Holds.slice 0 h ak [e.val]).re [0] [1])
  refine gy ?_;have hq:cP weak e=[]:=by simp[cP,p3,p7]
  refine gz ?_;exact fg rfl (fun _ h=>by rw[hq];exact h.nilS.re [0] [1])
 refine fk (fun gQ=>?_) (fun my=>?_)
 .refine gA fun g11=>?_
  refine gy ?_;have hq:cP weak e=[e.key]:=by simp[cP,p8,gQ]
  refine gz ?_;exact fg rfl (fun _ h=>by rw[hq];exact (Holds.slice 0 h ak [e.key]).re [0] [1])
 refine fk (fun iU=>?_) (fun kO=>?_)
 .refine gy ?_;have hq:cP weak e=[]:=by simp[cP,p8,my,iU]
  refine gz ?_;exact fg rfl (fun _ h=>by rw[hq];exact h.nilS.re [0] [1])
 refine go ?_;refine ah (e:=3) [(0,iw e.key),(1,iw e.val)] #[iw e.key,iw e.val] (fun g16=>?_) (hb:=by kernel_rfl);refine gy ?_;have hq:cP weak e=[e.key,e.val]:=by simp[cP,p8,my,kO]
 refine gz ?_;exact fg rfl (fun _ h=>by rw[hq];exact (Holds.slice 0 h ak [e.key,e.val]).re [0] [1])
theorem Eo(hg:oO Z ov rv l R)(hs:oK l)(hl:l.length≤100000):SF Tryz.prog 213 #[.agg #[ov,rv]] Z [] fun r Bs=>∃b,r=pB b 0∧Bs=[nr 270 b l []]:=by
 refine bO Tryz.func213 45 (fun w0=>?_);refine gy ?_;refine bj #[ov,rv] (fun g1=>?_);refine gy ?_;refine fZ (Go.Mem.intK 3) Ob.v (fun b2=>?_);refine fZ (Go.Mem.intK 3) cV (fun b3=>?_);refine sL (ay (.agg #[.map (some b2),.map (some b3),nS])) ?_;refine bj #[.map (some b2),.map (some b3),nS] (fun g4=>?_);refine go ?_;refine sL (bL bt Tryz.underlying55 (.zn hg.obs))<|sL (ai (iw 0)) ?_
 refine go ?_;refine aK (fun _ h=>Holds.nilS (T:=an) h) ?_;rw[show ([]:List Int)=keyed (l.take 0) from rfl];rw[show dr (Go.Mem.intK 3) Ob.v b2 []=dr (Go.Mem.intK 3) Ob.v b2 (Fl (l.take 0)) from rfl];refine aD (ι:=Value×Nat) (fun (kx,i)=>i≤l.length) (fun (kx,i)=>[(2,.pointer none),(3,pB g4 0),(11,ov),(12,iw (l.length:Int)),(13,iw (i:Int))]) (fun (kx,i)=>[own an kx (keyed (l.take i)),aa g4 #[.map (some b2),.map (some b3),kx] 270,dr (Go.Mem.intK 3) cV b3 [],dr (Go.Mem.intK 3) Ob.v b2 (Fl (l.take i)),aa g1 #[ov,rv] 57]) (fun (kx,i)=>l.length-i) (nS,0) (Nat.zero_le _) sA rA ?_;rintro⟨kx,i⟩ wN;try dsimp only at wN⊢
 have Fo:=u0 (l.take i);rw[List.length_take]at Fo;refine gc ?_;refine b9 (fun p7=>?_) (fun jW=>?_)
 .refine go ?_;refine sL (aF bt Tryz.underlying55 (.zn hg.obs) (i:Int) i om ol om) ?_;obtain⟨y8,oH⟩:∃y,l[i]?=some y:=⟨_,List.getElem?_eq_getElem ol⟩;have Yv:=hg.each y8 (List.mem_of_getElem? oH);refine sL (bC bt (.zn hg.obs) oH) ?_;refine ae (.agg #[iw 0,iw 0,iw 0,nS,nS]) #[iw 0,iw 0,iw 0,nS,nS] (fun g11=>?_);refine gy ?_;refine eE 4 dx Tryz.underlying268 y8.id y8 ?_;refine gy ?_;refine b9 (fun fL=>?_) (fun mM=>?_)
  .refine go ?_;refine ah (e:=3) [(0,iw y8.id)] #[iw y8.id] (fun g14=>?_) (hb:=by kernel_rfl);refine aq (L:=(keyed (l.take i))) 2 ak Tryz.underlying23 (.lit 0 ak [y8.id]) (by show _*8≤_;(try simp only[cD]);omega) ol (fun m0=>?_);refine go ?_;refine sF 2 (fun mJ=>?_);refine ar (u:=m0) (m:=1) 3 #[.map (some b2),.map (some b3),m0] ?_ (hm:=by (obtain⟨_,_,e⟩:=mJ;rw[e];rfl)) (h1:=by (obtain⟨_,_,e⟩:=mJ;rw[e];rfl)) (ha':=by (obtain⟨_,_,e⟩:=mJ;rw[e];rfl));refine go ?_;refine gy ?_;rw[Iy hs oH,KO oH fL];exact xr (m0,i+1) mz
  refine gy ?_;rw[Iy hs oH,Px oH mM];exact xr (kx,i+1) mz
 refine cW ?_;obtain rfl:i=l.length:=by omega
 have aj9:=u0 l;rw[List.take_length];refine go ?_;refine sC [0] (Oz (L:=(keyed l)) ol) ?_;refine gz ?_;exact fg ⟨g4,rfl,rfl⟩ (fun _ h=>kF (by rw[wW (KP hs)]at h;exact h.re [1,2,1,0] [4]))
theorem Iz(hO:∀x∈l,Fk Z x)(hp:kC l []≤100000000)(id:Int):MF 252 #[pB b 0,iw id] Z (nr 270 b l M0::F) (.bool (decide (M0.length<(dfs l M0 [id]).length))) (nr 270 b l (dfs l M0 [id])::F):=by
 refine bO Tryz.func252 72 (fun w0=>?_);refine kN (fun H h=>pZ (rB h)) (fun C2 ru LR hw=>?_);refine gy ?_;refine ah (e:=3) [(0,iw id)] #[iw id] (fun g4=>?_) (hb:=by kernel_rfl);refine gy ?_;refine aK (fun _ h=>Holds.slice 0 h ak [id]) ?_;refine aD (ι:=Value×List Int×List Int×Bool) (fun (sx,M,W,fr)=>dfs l M0 [id]=dfs l M W∧M0.length≤M.length∧kC l M+W.length≤100000001∧fr=decide (M0.length<M.length)) (fun (sx,M,W,fr)=>[(0,pB b 0),(4,.bool false),(5,sx),(6,.bool fr)]) (fun (sx,M,W,fr)=>own an sx W::aa b #[.map (some C2),.map (some ru),LR] 270::dr (Go.Mem.intK 3) Ob.v C2 (Fl l)::dr (Go.Mem.intK 3) cV ru (yJ M)::own an LR (keyed l)::F) (fun (sx,M,W,fr)=>kC l M+W.length) ((.slice (some ⟨g4,0,none⟩) 1 1),M0,[id],false) ⟨rfl,Nat.le_refl _,by have:=pT (M:=[]) (N:=M0) (by simp) l;simp;omega,(decide_eq_false (Nat.lt_irrefl _)).symm⟩ sA rA ?_;rintro⟨sx,M,W,fr⟩ wN;replace wN:dfs l M0 [id]=dfs l M W∧M0.length≤M.length∧kC l M+W.length≤100000001∧fr=decide (M0.length<M.length):=wN;show SK _ _ _ _ _ [(0,pB b 0),(4,.bool false),(5,sx),(6,.bool fr)] _ (own an sx W::aa b #[.map (some C2),.map (some ru),LR] 270::dr (Go.Mem.intK 3) Ob.v C2 (Fl l)::dr (Go.Mem.intK 3) cV ru (yJ M)::own an LR (keyed l)::F);have ac6:=wN.2.2.1;refine gy ?_;refine b9 (fun p7=>?_) (fun pD=>?_)
 .refine go ?_;refine sL (bL ak Tryz.underlying23 (.own 0)) ?_;refine sL (fX (W.length:Int) 1 ol) ?_;refine sL (aF ak Tryz.underlying23 (.own 0) ((W.length:Int)-1) (W.length-1) om ol om) ?_;obtain⟨y8,oH⟩:∃y,W[(W.length-1)]?=some y:=⟨_,List.getElem?_eq_getElem ol⟩;refine sL (bC ak (.own 0) oH) ?_;refine go ?_;refine sL (bL ak Tryz.underlying23 (.own 0)) ?_;refine sL (fX (W.length:Int) 1 ol) ?_;refine sL (sS ak Tryz.underlying23 (.own 0) ((W.length:Int)-1) (W.length-1) om ol om) ?_;refine go ?_;rcases kK:fnd l y8 with _|ct
  .refine sL (Lt.to (v':=.tuple #[.agg #[iw 0,iw 0,iw 0,nS,nS],.bool false]) (fF 2 dx Tryz.underlying268 (.agg #[iw 0,iw 0,iw 0,nS,nS]) y8) (by rw[B9,kK];rfl)) ?_;refine go ?_;refine ae (.agg #[iw 0,iw 0,iw 0,nS,nS]) #[iw 0,iw 0,iw 0,nS,nS] (fun g12=>?_);refine gy ?_;refine ab (fun _ h=>Holds.pre (i:=1) h ak (W.length-1) rfl ol) ?_;exact az ((pre sx (W.length-1)),M,(W.take (W.length-1)),fr) (by show kC l M+(W.take (W.length-1)).length<kC l M+W.length;rw[List.length_take];omega) (by obtain⟨cQ,cg,gE,fA⟩:=wN;refine⟨(by rw[←lf oH]at cQ;rw[cQ];exact kD (.inl kK)),cg,by rw[List.length_take];omega,fA⟩) sA (rr [1,1,1,1,1] [5])
  refine sL (Lt.to (v':=.tuple #[ct.v,.bool true]) (fF 2 dx Tryz.underlying268 (.agg #[iw 0,iw 0,iw 0,nS,nS]) y8) (by rw[B9,kK];rfl)) ?_;have KT:=hO ct (j2 kK).2;refine go ?_;refine ae (.agg #[iw 0,iw 0,iw 0,nS,nS]) #[iw 0,iw 0,iw 0,nS,nS] (fun g14=>?_);refine go ?_;refine sL (Lt.to (v':=iw (B7 M y8)) (cn 4 dx Tryz.underlying89 (iw 0) y8) (GU _ _)) ?_;refine gc ?_;refine b9 (fun so=>?_) (fun Yh=>?_)
  .refine go ?_;refine ab (fun _ h=>Holds.pre (i:=1) h ak (W.length-1) rfl ol) ?_;exact az ((pre sx (W.length-1)),M,(W.take (W.length-1)),fr) (by show kC l M+(W.take (W.length-1)).length<kC l M+W.length;rw[List.length_take];omega) (by obtain⟨cQ,cg,gE,fA⟩:=wN;refine⟨(by rw[←lf oH]at cQ;rw[cQ];exact kD (.inr (B8 so))),cg,by rw[List.length_take];omega,fA⟩) sA (rr [1,1,1,1,1] [5])
  have mM:=Decidable.not_not.1 Yh;refine go ?_;refine eE 4 dx Tryz.underlying89 y8 (1:Int) ?_;rw[T0 (yK mM)];have hmk:=mM;have hpa:=qK (yK mM) kK;have hk0:=yL ct 0;refine go ?_;refine aC (fun _ h=>Holds.pre (i:=1) h ak (W.length-1) rfl ol) ?_;refine aq (L:=(W.take (W.length-1))) 1 ak Tryz.underlying23 (.zn KT.1) (by show _*8≤_;(try simp only[cD]);omega) ol (fun Vr=>?_);refine go ?_;refine sL (bL dy Tryz.underlying98 (.zn KT.2))<|sL (ai (iw 0)) ?_
  refine go ?_;refine bk (fun H h=>(KT.2.get h).len_le) (fun le=>?_);rw[show (W.take (W.length-1))++ct.refs=(W.take (W.length-1))++ct.refs++(ct.ents.take 0).flatMap (cP ct.weak) from (List.append_nil _).symm];refine aD (ι:=Value×Nat) (fun (sy,k)=>k≤ct.ents.length) (fun (sy,k)=>[(0,pB b 0),(4,.bool false),(5,sy),(6,.bool true),(7,iw y8),(8,pB g14 0),(9,.bool true),(14,sx),(15,iw (W.length:Int)),(16,.bool (decide ((0:Int)<(W.length:Int)))),(17,sx),(18,sx),(19,iw (W.length:Int)),(20,iw ((W.length:Int)-1)),(21,.pointer (some (elemAt an.size sx (W.length-1)))),(22,iw y8),(23,sx),(24,sx),(25,iw (W.length:Int)),(26,iw ((W.length:Int)-1)),(27,(pre sx (W.length-1))),(28,.tuple #[.agg #[iw ct.id,iw ct.size,iw ct.weak,ct.rv.v,ct.ev.v],.bool true]),(29,pB b 0),(30,pB b 0),(31,pB b 0),(32,.map (some C2)),(33,iw y8),(34,.tuple #[.agg #[iw ct.id,iw ct.size,iw ct.weak,ct.rv.v,ct.ev.v],.bool true]),(35,.agg #[iw ct.id,iw ct.size,iw ct.weak,ct.rv.v,ct.ev.v]),(36,.bool true),(37,.bool true),(38,.bool false),(39,.bool false),(40,pB b 0),(41,pB b 0),(42,pB b 1),(43,.map (some ru)),(44,iw y8),(45,iw (B7 M y8)),(46,.bool (decide ((B7 M y8)≠0))),(47,.bool (decide ((B7 M y8)≠0))),(48,pB b 0),(49,pB b 0),(50,pB b 1),(51,.map (some ru)),(52,iw y8),(53,(pre sx (W.length-1))),(54,pB g14 3),(55,ct.rv.v),(56,Vr),(57,pB g14 4),(58,ct.ev.v),(59,iw (ct.ents.length:Int)),(60,iw (k:Int))]) (fun (sy,k)=>aa g14 #[iw ct.id,iw ct.size,iw ct.weak,ct.rv.v,ct.ev.v] 100::own an sy ((W.take (W.length-1))++ct.refs++(ct.ents.take k).flatMap (cP ct.weak))::aa b #[.map (some C2),.map (some ru),LR] 270::dr (Go.Mem.intK 3) Ob.v C2 (Fl l)::dr (Go.Mem.intK 3) cV ru (yJ (M++[y8]))::own an LR (keyed l)::F) (fun (sy,k)=>ct.ents.length-k) (Vr,0) (Nat.zero_le _) sA rA ?_;rintro⟨sy,k⟩ yM;replace yM:k≤ct.ents.length:=yM;show SK _ _ _ _ _ [(0,pB b 0),(4,.bool false),(5,sy),(6,.bool true),(7,iw y8),(8,pB g14 0),(9,.bool true),(14,sx),(15,iw (W.length:Int)),(16,.bool (decide ((0:Int)<(W.length:Int)))),(17,sx),(18,sx),(19,iw (W.length:Int)),(20,iw ((W.length:Int)-1)),(21,.pointer (some (elemAt an.size sx (W.length-1)))),(22,iw y8),(23,sx),(24,sx),(25,iw (W.length:Int)),(26,iw ((W.length:Int)-1)),(27,(pre sx (W.length-1))),(28,.tuple #[.agg #[iw ct.id,iw ct.size,iw ct.weak,ct.rv.v,ct.ev.v],.bool true]),(29,pB b 0),(30,pB b 0),(31,pB b 0),(32,.map (some C2)),(33,iw y8),(34,.tuple #[.agg #[iw ct.id,iw ct.size,iw ct.weak,ct.rv.v,ct.ev.v],.bool true]),(35,.agg #[iw ct.id,iw ct.size,iw ct.weak,ct.rv.v,ct.ev.v]),(36,.bool true),(37,.bool true),(38,.bool false),(39,.bool false),(40,pB b 0),(41,pB b 0),(42,pB b 1),(43,.map (some ru)),(44,iw y8),(45,iw (B7 M y8)),(46,.bool (decide ((B7 M y8)≠0))),(47,.bool (decide ((B7 M y8)≠0))),(48,pB b 0),(49,pB b 0),(50,pB b 1),(51,.map (some ru)),(52,iw y8),(53,(pre sx (W.length-1))),(54,pB g14 3),(55,ct.rv.v),(56,Vr),(57,pB g14 4),(58,ct.ev.v),(59,iw (ct.ents.length:Int)),(60,iw (k:Int))] _ (aa g14 #[iw ct.id,iw ct.size,iw ct.weak,ct.rv.v,ct.ev.v] 100::own an sy ((W.take (W.length-1))++ct.refs++(ct.ents.take k).flatMap (cP ct.weak))::aa b #[.map (some C2),.map (some ru),LR] 270::dr (Go.Mem.intK 3) Ob.v C2 (Fl l)::dr (Go.Mem.intK 3) cV ru (yJ (M++[y8]))::own an LR (keyed l)::F);have hkp:=yL ct k;refine gc ?_;refine b9 (fun oQ=>?_) (fun LK=>?_)
  .refine go ?_;refine sL (aF dy Tryz.underlying98 (.zn KT.2) (k:Int) k om ol om) ?_;obtain⟨Zd,KU⟩:∃y,ct.ents[k]?=some y:=⟨_,List.getElem?_eq_getElem ol⟩;have hkq:=KR KU;refine sL (bC dy (.zn KT.2) KU) ?_;refine ae (.agg #[iw 0,iw 0]) #[iw 0,iw 0] (fun g24=>?_);refine gy ?_;refine a6 (fun _ h=>T3 ct.weak Zd) ?_;rintro v25 _ rfl;refine aq (L:=((W.take (W.length-1))++ct.refs++(ct.ents.take k).flatMap (cP ct.weak))) 3 ak Tryz.underlying23 (.own 0) (by show _*8≤_;(try simp only[cD]);omega) ol (fun v26=>?_);refine gy ?_;rw[KS _ KU];exact xr (v26,k+1) mz
  refine gy ?_;obtain rfl:k=ct.ents.length:=by omega
  rw[List.take_length,Py];refine go ?_;exact az (sy,M++[y8],(W.take (W.length-1))++gB ct,true) (by show kC l (M++[y8])+((W.take (W.length-1))++gB ct).length<kC l M+W.length;rw[List.length_append,List.length_take];omega) (by obtain⟨cQ,cg,gE,fA⟩:=wN;refine⟨(by rw[←lf oH]at cQ;rw[cQ];exact tH kK (yK hmk)),by rw[List.length_append];omega,by rw[List.length_append,List.length_take];omega,(decide_eq_true (by rw[List.length_append];show M0.length<M.length+1;omega)).symm⟩) sA (rr [1,1,1,1,1] [5])
 refine gy ?_;refine ab (fun _ h=>kF (rB h)) ?_;obtain⟨cQ,cg,gE,fA⟩:=wN;obtain rfl:W=[]:=List.eq_nil_of_length_eq_zero om;rw[tG]at cQ;refine ad [.bool fr] (nr 270 b l M::F) (SI.tmp 4 SI.nil) rA ?_;rw[cQ,←fA];exact⟨rfl,rfl⟩
theorem tP{s:List Int×Bool}(h:e.key∈s.1):jO l s e=(dfs l s.1 [e.val],s.2||decide (s.1.length<(dfs l s.1 [e.val]).length)):=if_pos h
theorem A9{s:List Int×Bool}(h:e.key∉s.1):jO l s e=s:=if_neg h
theorem Ep{s:List Int×Bool}(h:o.id∈s.1):stepT l s o=o.ents.foldl (jO l) s:=if_pos h
theorem Ba{s:List Int×Bool}(h:o.id∉s.1):stepT l s o=s:=if_neg h
theorem Pz(hO:∀x∈l,Fk Z x)(hs:oK l)(hl:l.length≤100000)(hp:kC l []≤100000000):MF 253 #[pB b 0] Z (nr 270 b l M0::F) (.bool (oo l M0).2) (nr 270 b l (oo l M0).1::F):=by
 refine bO Tryz.func253 59 (fun w0=>?_);refine kN (fun H h=>pZ (rB h)) (fun C2 ru LR hw=>?_);refine gy ?_;refine aK (fun _ h=>kF (rB h)) ?_;refine aD (ι:=List Int×Bool×Nat) (fun (M,ch,i)=>i≤(jz l).length∧(M,ch)=((jz l).take i).foldl (stepT l) (M0,false)) (fun (M,ch,i)=>[(0,pB b 0),(2,.bool false),(3,.bool ch),(12,iw ((keyed l).length:Int)),(13,iw (i:Int))]) (fun (M,ch,i)=>nr 270 b l M::F) (fun (M,ch,i)=>(jz l).length-i) (M0,false,0) ⟨Nat.zero_le _,rfl⟩ sA rA ?_;rintro⟨M,ch,i⟩ fA;replace fA:i≤(jz l).length∧(M,ch)=((jz l).take i).foldl (stepT l) (M0,false):=fA;show SK _ _ _ _ _ [(0,pB b 0),(2,.bool false),(3,.bool ch),(12,iw ((keyed l).length:Int)),(13,iw (i:Int))] _ (nr 270 b l M::F);have hkt:=GV l;have Fo:=u0 l;refine gc ?_;refine b9 (fun p6=>?_) (fun qn=>?_)
 .refine gy ?_;refine dc (fun H h=>pZ (rB h)) (fun at7 XQ kv9 hw=>?_);refine gy ?_;obtain⟨bB,nm⟩:∃y,(keyed l)[i]?=some y:=⟨_,List.getElem?_eq_getElem ol⟩;obtain⟨lT,ac7,wb,acu,abR,agS⟩:=KQ hs nm;have XV:=hO lT agS;refine gy ?_;refine gl ?_ (t:=Lt.to (v':=iw (B7 M bB)) (cn 2 dx Tryz.underlying89 (iw 0) bB) (GU _ _));refine b9 (fun zj=>?_) (fun oQ=>?_)
  .refine gy ?_;refine ab (fun _ h=>kF (rB h)) ?_;exact xr (M,ch,i+1) (by obtain⟨cQ,cg⟩:=fA;refine⟨by omega,?_⟩;rw[gZ ac7,←cg];exact (Ba (by rw[wb];exact yK zj)).symm)
  refine gy ?_;refine gl ?_ (t:=Lt.to (v':=lT.v) (cn 1 dx Tryz.underlying268 (.agg #[iw 0,iw 0,iw 0,nS,nS]) bB) (by rw[B9,abR];rfl));refine aK (fun _ h=>kF (rB h)) ?_;refine bk (fun H h=>(XV.2.get h).len_le) (fun le=>?_);refine aD (ι:=List Int×Bool×Nat) (fun (N,ci,k)=>k≤lT.ents.length∧(N,ci)=(lT.ents.take k).foldl (jO l) (M,ch)) (fun (N,ci,k)=>[(0,pB b 0),(2,.bool false),(3,.bool ci),(4,iw (i:Int)),(5,iw bB),(12,iw ((keyed l).length:Int)),(13,iw (i:Int)),(14,.bool (decide ((i:Int)<((keyed l).length:Int)))),(15,iw (i:Int)),(16,pB b 0),(17,pB b 0),(18,pB b 2),(19,kv9),(20,iw (i:Int)),(21,.pointer (some (elemAt an.size kv9 i))),(22,iw bB),(23,pB b 0),(24,pB b 0),(25,pB b 1),(26,.map (some XQ)),(27,iw bB),(28,iw (B7 M bB)),(29,.bool (decide ((B7 M bB)=0))),(30,pB b 0),(31,pB b 0),(32,pB b 0),(33,.map (some at7)),(34,iw bB),(35,.agg #[iw lT.id,iw lT.size,iw lT.weak,lT.rv.v,lT.ev.v]),(36,lT.ev.v),(37,iw (lT.ents.length:Int)),(38,iw (k:Int))]) (fun (N,ci,k)=>nr 270 b l N::F) (fun (N,ci,k)=>lT.ents.length-k) (M,ch,0) ⟨Nat.zero_le _,rfl⟩ sA rA ?_;rintro⟨N,ci,k⟩ mF;replace mF:k≤lT.ents.length∧(N,ci)=(lT.ents.take k).foldl (jO l) (M,ch):=mF;show SK _ _ _ _ _ [(0,pB b 0),(2,.bool false),(3,.bool ci),(4,iw (i:Int)),(5,iw bB),(12,iw ((keyed l).length:Int)),(13,iw (i:Int)),(14,.bool (decide ((i:Int)<((keyed l).length:Int)))),(15,iw (i:Int)),(16,pB b 0),(17,pB b 0),(18,pB b 2),(19,kv9),(20,iw (i:Int)),(21,.pointer (some (elemAt an.size kv9 i))),(22,iw bB),(23,pB b 0),(24,pB b 0),(25,pB b 1),(26,.map (some XQ)),(27,iw bB),(28,iw (B7 M bB)),(29,.bool (decide ((B7 M bB)=0))),(30,pB b 0),(31,pB b 0),(32,pB b 0),(33,.map (some at7)),(34,iw bB),(35,.agg #[iw lT.id,iw lT.size,iw lT.weak,lT.rv.v,lT.ev.v]),(36,lT.ev.v),(37,iw (lT.ents.length:Int)),(38,iw (k:Int))] _ (nr 270 b l N::F);refine gc ?_;refine b9 (fun oP=>?_) (fun VK=>?_)
  .obtain ⟨H6,BC⟩:∃y,lT.ents[k]?=some y:=⟨_,List.getElem?_eq_getElem ol⟩;refine gy ?_;refine ae (.agg #[iw 0,iw 0]) #[iw 0,iw 0] (fun AW=>?_);refine gy ?_;refine dc (fun H h=>pZ (rB h)) (fun aj' aka akb hw=>?_);refine gy ?_;refine gl ?_ (t:=Lt.to (v':=iw (B7 N H6.key)) (cn 2 dx Tryz.underlying89 (iw 0) H6.key) (GU _ _));refine eF 50 (fun kt=>?_) (fun q33=>?_)
   .refine gy ?_;refine aC (fun _ h=>kF (rB h)) ?_;refine sC [0] (Iz hO hp H6.val) ?_;refine gy ?_;refine b9 (fun jr=>?_) (fun zB=>?_)
    .refine gy ?_;exact xr ((dfs l N [H6.val]),true,k+1) (by obtain⟨cQ,cg⟩:=mF;refine⟨by omega,?_⟩;rw[gZ BC,←cg];rw[tP (B8 kt)];rw[decide_eq_true jr,Bool.or_true])
    refine gy ?_;exact xr ((dfs l N [H6.val]),ci,k+1) (by obtain⟨cQ,cg⟩:=mF;refine⟨by omega,?_⟩;rw[gZ BC,←cg];rw[tP (B8 kt)];rw[decide_eq_false zB,Bool.or_false])
   have mD:=Decidable.not_not.1 q33;refine gy ?_;refine ab (fun _ h=>kF (rB h)) ?_;exact xr (N,ci,k+1) (by obtain⟨cQ,cg⟩:=mF;refine⟨by omega,?_⟩;rw[gZ BC,←cg];exact (A9 (yK mD)).symm)
  refine cW ?_;obtain rfl:k=lT.ents.length:=by omega
  refine gy ?_;exact xr (N,ci,i+1) (by obtain⟨cQ,cg⟩:=fA;refine⟨by omega,?_⟩;rw[gZ ac7,←cg];rw[Ep (by rw[wb];exact B8 oQ)];rw[←yx (Nat.le_refl _)];exact mF.2)
 refine gy ?_;have iA:(M,ch)=oo l M0:=by rw[fA.2,yx om];rfl
 refine ad [.bool ch] (nr 270 b l M::F) (SI.tmp 2 SI.nil) rA ?_;rw[←iA];exact⟨rfl,rfl⟩
theorem Ze(hO:∀x∈l,Fk Z x)(hs:oK l)(hl:l.length≤100000)(hp:kC l []≤100000000)(hR:Kn Z an rv R):MF 214 #[pB b 0,rv] Z (nr 270 b l []::F) (iw ((pU l R).2:Int)) (nr 270 b l (pU l R).1::F):=by
 refine bO Tryz.func214 23 (fun w0=>?_);refine bk (fun H h=>(hR.get h).len_le) (fun lR=>?_);refine gy ?_;refine Q6 0 (fun i=>i≤R.length) (fun i=>[(10,iw (i:Int))]) (fun i=>[(0,nr 270 b l (oq l [] (R.take i)))]) (fun i=>R.length-i) (Nat.zero_le _) ?_;intro i cQ;refine fk (fun p3=>?_) (fun p6=>?_)
 .obtain ⟨y4,mN⟩:∃y,R[i]?=some y:=⟨_,List.getElem?_eq_getElem ol⟩;refine gC [0] ?_ (c:=Iz hO hp y4);rw[show dfs l (oq l [] (R.take i)) [y4]=oq l [] (R.take (i+1)) from (gZ (f:=fun M id=>dfs l M [id]) mN).symm];exact xr (i+1) mz
 refine gy ?_;obtain rfl:i=R.length:=by omega
 rw[List.take_length];refine kL3 (l.length+1) (oq l [] R) 1 (fun k M n=>pU l R=runs l k (M,n)∧Good l M∧l.length+1≤k+M.length∧n+k=l.length+2) (fun k M n=>[(7,iw (n:Int))]) (fun k M n=>[(0,nr 270 b l M)]) (fun k M n=>k) ⟨rfl,(kE l).roots R,by omega,by omega⟩ ?_;intro k M n wM;have hgl:=wM.2.1.len;have hbk:=wM.2.2;refine gC [0] ?_ (c:=Pz hO hs hl hp);refine kd (fun c8=>?_) (fun c8=>?_)
 .refine gy ?_;exact xr (k-1,(oo l M).1,n+1) (by obtain⟨cQ,cg,gE,fA⟩:=wM;obtain⟨k,rfl⟩:∃j,k=j+1:=⟨k-1,by omega⟩;have hf:=c8;rw[tI,decide_eq_true_eq]at hf;refine⟨cQ.trans (qL c8),(r8 l M).good cg,?_,?_⟩<;>simp only[Nat.add_sub_cancel]<;>omega)
 refine gy ?_;have iA:pU l R=((oo l M).1,n):=by obtain⟨cQ,cg,gE,fA⟩:=wM;obtain⟨k,rfl⟩:∃j,k=j+1:=⟨k-1,by omega⟩;exact cQ.trans (tJ c8)
 refine ad [iw (n:Int)] (nr 270 b l ((oo l M).1)::F) (SI.tmp 4 SI.nil) rA ?_;rw[iA];exact⟨rfl,rfl⟩
theorem PA(hlM:M.length≤1000000):SF Tryz.prog 215 #[pB b 0] Z (nr 270 b l M::F) fun r Bs=>Bs=own an r (srt M)::nr 270 b l M::F:=by
 refine bO Tryz.func215 25 (fun w0=>?_);refine kN (fun H h=>pZ (rB h)) (fun C2 ru LR hw=>?_);refine gy ?_;refine Sg 2 Tryz.underlying89 (fun r4=>?_);refine go ?_;refine aK (fun _ h=>Holds.nilS (T:=an) h) ?_;rw[show ([]:List Int)=([]:List (Int×Int)).map Prod.fst from rfl];refine aD (ι:=Value×List (Int×Int)) (fun (sx,dn)=>dn.length≤(yJ M).length) (fun (sx,dn)=>[(2,nS),(3,sx),(10,pB r4 0)]) (fun (sx,dn)=>own an sx (dn.map Prod.fst)::aa b #[.map (some C2),.map (some ru),LR] 270::dr (Go.Mem.intK 3) Ob.v C2 (Fl l)::rgA (Go.Mem.intK 3) cV ru r4 (yJ M) dn::own an LR (keyed l)::F) (fun (sx,dn)=>(yJ M).length-dn.length) (nS,[]) (Nat.zero_le _) sA rA ?_;rintro⟨sx,dn⟩ wN;try dsimp only at wN⊢
 have hml:(yJ M).length=M.length:=List.length_map _;have ud:(dn.map Prod.fst).length=dn.length:=List.length_map _;refine gy ?_;refine Xr 3 (fun hd6=>?_) (fun Wk u8 hm9 akc ac8=>?_)
 .refine sL (ai (.bool false))<|a8<|ax<|aE<|eh<|cW ?_
  refine ab (fun _ h=>Holds.unrange 3 h) ?_;refine go ?_;refine sC [0] (Oz (L:=(dn.map Prod.fst)) ol) ?_;refine gy ?_;refine ab (fun _ h=>kF (rB h)) ?_;have hsr:srt (dn.map Prod.fst)=srt M:=yw (by have:=hd6.map Prod.fst;simpa [yJ,List.map_map,Function.comp_def]using this);rw[hsr];exact ad _ _ (SI.tmp 2 SI.nil) (rr [1,0] []) rfl
 obtain rfl:u8=1:=by have:=hm9;simp only[yJ,List.mem_map]at this;obtain⟨_,_,e⟩:=this;exact (Prod.mk.inj e).2.symm
 refine gy ?_;refine sL (Sk 3) ?_;refine gy ?_;refine ah (e:=3) [(0,iw Wk)] #[iw Wk] (fun g12=>?_) (hb:=by kernel_rfl);refine aq (L:=(dn.map Prod.fst)) 1 ak Tryz.underlying23 (.lit 0 ak [Wk]) (by show _*8≤_;(try simp only[cD]);omega) ol (fun CO=>?_);refine go ?_;rw[show dn.map Prod.fst++[Wk]=(dn++[(Wk,(1:Int))]).map Prod.fst by simp];exact az (CO,dn++[(Wk,1)]) (by show (yJ M).length-(dn++[(Wk,(1:Int))]).length<(yJ M).length-dn.length;rw[List.length_append];have:=ac8;simp only[List.length_singleton];omega) (by show (dn++[(Wk,(1:Int))]).length≤(yJ M).length;rw[List.length_append];have:=ac8;simp only[List.length_singleton];omega) sA (rr [1,1,1,1,1] [5])
theorem mh{b:Bool}(h:fa b=0):b=true:=by cases b<;>simp_all[fa]
theorem kG{b:Bool}(h:fa b≠0):b=false:=by cases b<;>simp_all[fa]
def Ca(l:List Ob)(R:List Int):List Int:=if chk 0 l=true then srt (pU l R).1 else []
theorem Bb(h:chk 0 l=true):Ca l R=srt (pU l R).1:=if_pos h
theorem yN(h:chk 0 l=false):Ca l R=[]:=if_neg (by simp[h])
theorem IA(hg:oO Z ov rv l R)(hl:l.length≤100000)(hp:kC l []≤100000000):SF Tryz.prog 174 #[.agg #[ov,rv]] Z [] fun r Bs=>∃v,r=.tuple #[v,iw (fa (chk 0 l))]∧Bs=[own an v (Ca l R)]:=by
 refine bO Tryz.func174 19 (fun w0=>?_);refine gy ?_;refine gA fun g1=>?_
 refine gV ?_ (c:=fun _ h=>yI (hg.up h));refine fk (fun p3=>?_) (fun p4=>?_)
 .have hc:=kG p3;refine gz ?_;exact fg ⟨_,rfl,by rw[yN hc]⟩ (fun _ h=>h.nilS.re [0] [1])
 have hc:=mh p4;have hs:=iH hc;refine go ?_;refine a6 (fun _ h=>Eo (hg.up h) hs hl) ?_;rintro _ _ ⟨b5,rfl,rfl⟩;refine gC [0] ?_ (c:=Ze hg.each hs hl hp hg.roots);refine aH [0] (PA (M:=(pU l R).1) (by have:=(A3 l R).len;omega)) ?_;rintro v6 _ rfl;skip;refine gy ?_;refine ad [v6,iw 0] [own an v6 (srt (pU l R).1)] (SI.tmp 2 (SI.tmp 3 SI.nil)) rA ⟨v6,by rw[hc];rfl,by rw[Bb hc]⟩
end
end Go.Proofs.YtmhpcebiamkciaaGreat
section
namespace Go.Proofs
open Go.Shelf
def Tryz.laysFind_ren:Go.Shelf.Ren:=⟨fun|25=>255|31=>224|32=>268|37=>261|n=>n,fun|22=>23|3=>3|4=>4|40=>217|0=>0|n=>n,fun|n=>n⟩
theorem Tryz.laysFind : Go.Proofs.Lays2.n25 Tryz.prog Tryz.laysFind_ren := {
  mixed := by kernel_rfl
  f25 := Tryz.func255.trans (congrArg some (by kernel_rfl))
  f31 := Tryz.func224.trans (congrArg some (by kernel_rfl))
  f32 := Tryz.func268.trans (congrArg some (by kernel_rfl))
  f37 := Tryz.func261.trans (congrArg some (by kernel_rfl))
  t0 := Tryz.underlying0
  a0 := Tryz.isAgg0
  z0 := Tryz.sizeOf0
  v0 := Tryz.zeroValue0
  t3 := Tryz.underlying3
  a3 := Tryz.isAgg3
  z3 := Tryz.sizeOf3
  v3 := Tryz.zeroValue3
  t4 := Tryz.underlying4
  a4 := Tryz.isAgg4
  z4 := Tryz.sizeOf4
  v4 := Tryz.zeroValue4
  t22 := Tryz.underlying23
  a22 := Tryz.isAgg23
  z22 := Tryz.sizeOf23
  v22 := Tryz.zeroValue23
  t40 := Tryz.underlying217
  a40 := Tryz.isAgg217
  z40 := Tryz.sizeOf217
  v40 := Tryz.zeroValue217 }
namespace YtmhpcebiamkciaaGreat
open Go.Hp Go.J Go.S
theorem Zf{Z:bK}{v:Value}{L:List Int}(x:Int)(hk:Kn Z an v L)(hl:L.length<4611686018427387904)(hp:L.Pairwise (· ≤ ·)):SF Tryz.prog 255 #[v,iw x] Z [] fun r Bs=>r=.tuple #[iw (L.countP (· < x):Nat),.bool (decide (x∈L))]∧Bs=[]:=
 Ts x hk hl hp (fun b off n c zs x w h1 h2 h3 h4=>Any.slices_BinarySearch_int Tryz.laysFind b off n c zs x w h1 h2 h3 h4) (fun a c x w=>Any.slices_BinarySearch_int_empty Tryz.laysFind a c x w)
end YtmhpcebiamkciaaGreat
end Go.Proofs
end
namespace Go.Proofs.YtmhpcebiamkciaaGreat
open Go.Hp Go.J Go.S
open Go.Mem (fS Ty eB bN dg cL cm db dO blk blk_pre fM elemAt pre rF suf)
abbrev Core:=Int×Int×Int×List Int×List iF
def dD(L:List Ob)(H:bb):Prop:=∀x∈L,Sl H an x.rv.v x.refs∧Sl H cq x.ev.v x.ents
theorem lU{Z:bK}{As:List aW}{H:bb}{L:List Ob}(nb:Ob)(h:Holds Z (own an nb.rv.v nb.refs::own cq nb.ev.v nb.ents::frz (dD L)::As) H):Holds Z (frz (dD (L++[nb]))::As) H:=by
 have h1:Holds Z (own cq nb.ev.v nb.ents::frz (dD L)::own an nb.rv.v nb.refs::As) H:=h.re [1,1] [];have h2:=h1.frzO;have h3:Holds Z (own an nb.rv.v nb.refs::frz (fun H=>Sl H cq nb.ev.v nb.ents∧dD L H)::As) H:=h2.re [1] [];refine h3.frzO.frzM fun H ⟨a,b,c⟩ x hx=>?_
 rcases List.mem_append.1 hx with hx|hx
 .exact c x hx
 simp at hx;subst hx;exact⟨a,b⟩
def yO(st:bp)(id:Int):Core:=(cR st id,cT st id,cG st id 0,hrefs st id,aY st id)
theorem Er{st:bp}{X:List Int}{N:List Ob}{j:Nat}{y:Int}{z:Ob}(hy:X[j]?=some y)(h:N.map Ob.c=(X.take j).map (yO st))(hz:z.c=yO st y):(N++[z]).map Ob.c=(X.take (j+1)).map (yO st):=by
 rw[List.take_add_one,hy,List.map_append,List.map_append,h];simp[hz]
end Go.Proofs.YtmhpcebiamkciaaGreat
