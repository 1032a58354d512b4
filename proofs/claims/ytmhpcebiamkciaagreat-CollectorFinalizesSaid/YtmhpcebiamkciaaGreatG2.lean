/-
  Parts side by side as one part (stars); delete, len and clear of maps; calls of closures; s[:n:n]. No condition but those that each rule says.
-/
import Derived.Test.YtmhpcebiamkciaaGreatG1
import Derived.ProofKit
import Derived.Deep.Slices
import Derived.Test.YtmhpcebiamkciaaGreatProg
section
set_option linter.unusedSimpArgs false
set_option linter.unusedVariables false
set_option linter.unusedSectionVars false
namespace Go.J
open Go.Hp
variable{P:Program}{w0:World}{Q:Exit→Act→World→Prop}{n:Nat}{E:Env}{H:Heap}{o o' o2:Oper}{l:List Oper}{S:Heap→Prop}{fuel:Nat}{listed:Array Bool}
theorem h_step3(i j m:Nat)(hi:l[i]?=some o)(hj:l[j]?=some o')(hm:l[m]?=some o2)(hr:Region.ready .any l.toArray listed=[i,j,m])
  (h:JL P w0 l.toArray (heldQ P l Q S fuel (listed.setIfInBounds i true)) n [o] E H)
  (h':JL P w0 l.toArray (heldQ P l Q S fuel (listed.setIfInBounds j true)) n [o'] E H)
  (h2:JL P w0 l.toArray (heldQ P l Q S fuel (listed.setIfInBounds m true)) n [o2] E H):JH P w0 l Q n S (fuel+1) listed E H:=by
 intro a w hf ha;refine wpAnyH_all hr (by simp) ?_;intro k hk;rcases List.mem_cons.1 hk with rfl|hk
 .have:=h a w hf ha;unfold wpOp;rw[show l.toArray[k]?=some o by simpa using hi];exact this
 .rcases List.mem_cons.1 hk with rfl|hk
  .have:=h' a w hf ha;unfold wpOp;rw[show l.toArray[k]?=some o' by simpa using hj];exact this
  rw[List.mem_singleton]at hk;subst hk;have:=h2 a w hf ha;unfold wpOp;rw[show l.toArray[k]?=some o2 by simpa using hm];exact this
theorem h_stepN(L:List (Nat×Oper))(hL:(L.all fun p=>(l[p.1]?).isSome)=true)(hr:Region.ready .any l.toArray listed=L.map (·.1))(hne:L≠[])
  (h:∀p∈L,l[p.1]?=some p.2∧JL P w0 l.toArray (heldQ P l Q S fuel (listed.setIfInBounds p.1 true)) n [p.2] E H):JH P w0 l Q n S (fuel+1) listed E H:=by
 intro a w hf ha;refine wpAnyH_all hr (by simpa using hne) ?_;intro k hk;obtain⟨p,hp,rfl⟩:=List.mem_map.1 hk;obtain⟨h1,h2⟩:=h p hp;have:=h2 a w hf ha;unfold wpOp;rw[show l.toArray[p.1]?=some p.2 by simpa using h1];exact this
end Go.J
namespace Go.S
open Go.Hp Go.J
theorem h_stepS4 {P : Program} {w0 : World} {Q : Exit → Act → World → Prop} {n : Nat} {E : Env} {Z : Zone} {As : List Asr} {o o' o2 o3 : Oper} {l : List Oper} {Ks : List Asr} {fuel : Nat} {listed : Array Bool} (i j m q : Nat) (h : SL P w0 l.toArray (heldQ P l Q (HS Z Ks) fuel (listed.setIfInBounds i true)) n [o] E Z As) (h' : SL P w0 l.toArray (heldQ P l Q (HS Z Ks) fuel (listed.setIfInBounds j true)) n [o'] E Z As) (h2 : SL P w0 l.toArray (heldQ P l Q (HS Z Ks) fuel (listed.setIfInBounds m true)) n [o2] E Z As) (h3 : SL P w0 l.toArray (heldQ P l Q (HS Z Ks) fuel (listed.setIfInBounds q true)) n [o3] E Z As) (hi : l[i]? = some o := by rfl) (hj : l[j]? = some o' := by rfl) (hm : l[m]? = some o2 := by rfl) (hq : l[q]? = some o3 := by rfl) (hr : Region.ready .any l.toArray listed = [i, j, m, q] := by kernel_rfl) : SH P w0 l Q n Z Ks (fuel + 1) listed E As :=
  fun H hH => h_stepN [(i, o), (j, o'), (m, o2), (q, o3)] (by simp [hi, hj, hm, hq]) hr (by simp) (by
    intro p hp
    simp only [List.mem_cons, List.not_mem_nil, or_false] at hp
    rcases hp with rfl | rfl | rfl | rfl
    · exact ⟨hi, h H hH⟩
    · exact ⟨hj, h' H hH⟩
    · exact ⟨hm, h2 H hH⟩
    · exact ⟨hq, h3 H hH⟩)
theorem h_stepS3{P:Program}{w0:World}{Q:Exit→Act→World→Prop}{n:Nat}{E:Env}{Z:Zone}{As:List Asr}{o o' o2:Oper}{l:List Oper}{Ks:List Asr}{fuel:Nat}{listed:Array Bool}(i j m:Nat)(h:SL P w0 l.toArray (heldQ P l Q (HS Z Ks) fuel (listed.setIfInBounds i true)) n [o] E Z As)(h':SL P w0 l.toArray (heldQ P l Q (HS Z Ks) fuel (listed.setIfInBounds j true)) n [o'] E Z As)(h2:SL P w0 l.toArray (heldQ P l Q (HS Z Ks) fuel (listed.setIfInBounds m true)) n [o2] E Z As)(hi:l[i]?=some o:=by rfl)(hj:l[j]?=some o':=by rfl)(hm:l[m]?=some o2:=by rfl)(hr:Region.ready .any l.toArray listed=[i,j,m]:=by kernel_rfl):SH P w0 l Q n Z Ks (fuel+1) listed E As:=
 fun H hH=>h_step3 i j m hi hj hm hr (h H hH) (h' H hH) (h2 H hH)
open Go.Mem (Ty KTy blk Stamps elemAt pre suf aget aset adel apos nodup_adel adel_pos adel_none)
/-! ### Stars -/
theorem erase_map{α β:Type}(f:α→β):∀(l:List α) (i:Nat),(l.map f).eraseIdx i=(l.eraseIdx i).map f
 | [],_=>rfl
 | _::_,0=>rfl
 | a::r,i+1=>congrArg (f a::·) (erase_map f r i)
theorem gt_eq:∀(L:List Asr) (i:Nat),gt L i=L[i]?
 | [],_=>rfl
 | _::_,0=>rfl
 | _::r,i+1=>by rw[List.getElem?_cons_succ];exact gt_eq r i
theorem upd_eq:∀(L:List Asr) (i:Nat) (B:Asr),upd L i B=L.set i B
 | [],_,_=>rfl
 | _::_,0,_=>rfl
 | A::r,i+1,B=>congrArg (A::·) (upd_eq r i B)
theorem del_eq:∀(L:List Asr) (i:Nat),del L i=L.eraseIdx i
 | [],_=>rfl
 | _::_,0=>rfl
 | A::r,i+1=>congrArg (A::·) (del_eq r i)
abbrev star(L:List Asr):Asr:=stA True L
section
variable{Z:Zone}{As Bs L:List Asr}{H:Heap}{A A':Asr}{i:Nat}
theorem Holds.star_out(h:Holds Z (star L::As) H):Holds Z (L++As) H:=h.open_st.2
theorem Holds.star_in(h:Holds Z (L++As) H):Holds Z (star L::As) H:=Holds.shut_st trivial h
theorem gt_append{M:List Asr}(hi:gt L i=some A):gt (L++M) i=some A∧del (L++M) i=del L i++M:=by
 rw[gt_eq]at hi;have hl:=(List.getElem?_eq_some_iff.1 hi).1;rw[gt_eq,del_eq,del_eq,List.getElem?_append_left hl,List.eraseIdx_append_of_lt_length hl];exact⟨hi,rfl⟩
theorem Holds.star_pull(h:Holds Z (star L::As) H)(hi:gt L i=some A):Holds Z (A::star (del L i)::As) H:=by
 have h1:=h.star_out.pull (gt_append hi).1;rw[(gt_append hi).2]at h1;have h2:Holds Z (del L i++(A::As)) H:=h1.perm List.perm_middle.symm;exact h2.star_in.swap
theorem Holds.star_push(hi:gt L i=some A)(h:Holds Z (A'::star (del L i)::As) H):Holds Z (star (upd L i A')::As) H:=by
 have h1:Holds Z (del L i++(A'::As)) H:=h.swap.star_out;have h2:Holds Z (A'::(del L i++As)) H:=h1.perm List.perm_middle;have h3:Holds Z (upd (L++As) i A') H:=by
  refine Holds.push (gt_append hi).1 ?_;rw[(gt_append hi).2];exact h2
 rw[upd_eq,List.set_append_left _ _ (by rw[gt_eq]at hi;exact (List.getElem?_eq_some_iff.1 hi).1),←upd_eq]at h3;exact h3.star_in
theorem Holds.star_add(h:Holds Z (A::star L::As) H):Holds Z (star (L++[A])::As) H:=by
 have h1:Holds Z (L++(A::As)) H:=h.swap.star_out;refine Holds.star_in ?_;rw[List.append_assoc];exact h1
theorem Holds.star_nil(h:Holds Z As H):Holds Z (star []::As) H:=Holds.star_in h
theorem Holds.star_get{ι:Type}{f:ι→Asr}{l:List ι}{x:ι}(h:Holds Z (star (l.map f)::As) H)(hi:l[i]?=some x):Holds Z (f x::star ((l.eraseIdx i).map f)::As) H:=by
 have h1:=h.star_pull (i:=i) (A:=f x) (by rw[gt_eq,List.getElem?_map,hi];rfl);rw[del_eq]at h1;rwa [erase_map]at h1
theorem Holds.star_set{ι:Type}{f g:ι→Asr}{l:List ι}{x:ι}(hi:l[i]?=some x)(hg:∀j y,j≠i→l[j]?=some y→g y=f y)(h:Holds Z (g x::star ((l.eraseIdx i).map f)::As) H):Holds Z (star (l.map g)::As) H:=by
 rw[←erase_map,←del_eq]at h;have h1:=Holds.star_push (i:=i) (A:=f x) (by rw[gt_eq,List.getElem?_map,hi];rfl) h;rw[upd_eq]at h1;have e:(l.map f).set i (g x)=l.map g:=by
  apply List.ext_getElem?;intro j;by_cases hj:i=j
  .subst hj;rw[List.getElem?_set_self (by rw[List.length_map];exact (List.getElem?_eq_some_iff.1 hi).1),List.getElem?_map,hi];rfl
  rw[List.getElem?_set_ne hj,List.getElem?_map,List.getElem?_map];cases hy:l[j]? with
  | none=>rfl
  | some y=>simp[hg j y (Ne.symm hj) hy]
 rw[←e];exact h1
end
/-! ### Maps -/
section
variable{κ β:Type}[DecidableEq κ]{P:Program}
theorem run_delete{w:World}{K:KTy κ}{V:β→Value}{b:Nat}{m:List (κ×β)}(h:Mem.Mp w K V b m)(hK:KTy.Ok (β:=β) K P){t e k':TypeId}(ht:P.underlying t=some (.map K.id e))(k:κ)(ty:TypeId):
  ∃w',(Builtin.delete_ #[t,k'] ty #[.map (some b),K.val k]).run P w=.ok (.tuple #[]) w'∧Mem.Mp w' K V b (adel m k)∧Mem.Chg (fun j=>j=b) w w':=by
 obtain⟨es,clock,hb,he,hn,hs⟩:=h;have hf:=hK.find k es.toList m (Mem.keys_of he) w;have hr:∀ob,(setObj b ob).run P w=.ok () { w with heap:=w.heap.setIfInBounds b ob }:=fun ob=>Mem.run_setObj_map hb ob
 unfold Builtin.delete_;simp only[List.getElem?_toArray,List.getElem?_cons_zero,List.getElem?_cons_succ,Sem.run_bind,run_underlying ht,Result.andThen_ok,Mem.run_getObj_map hb,hK.check,hf];cases hp:apos m k with
 | none=>
  refine⟨_,by simp only[Option.bind_none,Sem.run_bind,hr,Result.andThen_ok,Sem.run_pure],⟨_,_,Mem.heap_setObj hb _,?_,nodup_adel hn k,hs⟩,Mem.chg_setObj _ _ _⟩;rw[adel_none hp];exact he
 | some i=>
  obtain⟨hi,y,hy,_⟩:=Mem.apos_lt hp;obtain⟨e0,h1,h2,h3⟩:=Mem.entry_at he hy;refine⟨{ w with heap:=w.heap.setIfInBounds b (.map (es.eraseIdxIfInBounds i) clock) },by simp only[Option.bind_some,h1,Option.map_some,Sem.run_bind,hr,Result.andThen_ok,Sem.run_pure],⟨es.eraseIdxIfInBounds i,clock,Mem.heap_setObj hb _,?_,nodup_adel hn k,?_⟩,Mem.chg_setObj _ _ _⟩
  .rw [adel_pos hp,Array.toList_eraseIdxIfInBounds,←erase_map,←erase_map,he]
  refine⟨?_,fun e' he'=>?_⟩
  .rw [Array.toList_eraseIdxIfInBounds,←erase_map];exact hs.1.sublist (List.eraseIdx_sublist _ _)
  rw[Array.toList_eraseIdxIfInBounds]at he';exact hs.2 e' ((List.eraseIdx_sublist _ _).subset he')
end
section
variable{κ β:Type}[DecidableEq κ]{P:Program}{w0:World}{ops:Array Oper}{Q:Exit→Act→World→Prop}{n:Nat}{E:Env}{Z:Zone}{As:List Asr}{o:Oper}{rest:List Oper}{K:KTy κ}{V:β→Value}{b:Nat}{m:List (κ×β)}
theorem s_delete0{x y:Operand}{t e k':TypeId}(i:Nat)(hK:KTy.Ok (β:=β) K P)(ht:P.underlying t=some (.map K.id e))(k:κ)(h:SL P w0 ops Q n rest E Z (upd As i (mpA K V b (adel m k))))(ho:o.op=.call { callee:=.builtin .delete,args:=#[x,y],argTypes:=#[t,k'] }:=by rfl)(hA:gt As i=some (mpA K V b m):=by rfl)(hx:ev E x=.map (some b):=by rfl)(hy:ev E y=K.val k:=by rfl)(hd:o.dst=none:=by rfl)(hk:okOp ops n E o=true:=by kernel_rfl):SL P w0 ops Q n (o::rest) E Z As:=fun H hH=>by
 refine l_run (R:=fun _ H'=>Upd H H' K V b (adel m k)) hk (fun w ha=>?_) (fun v' H' u=>by rw[hd];exact h H' (mp_step hH hA u));have hm':Mem.Mp w K V b m:=by have:=hH.mp hA;rw[←ha.heap]at this;exact this
 obtain⟨w',hr,h1,h2⟩:=run_delete (k':=k') (ty:=o.type) hm' hK ht k;refine⟨.tuple #[],w',?_,⟨rfl,h2.os.trans ha.os,h2.tape.trans ha.tape,h2.output.trans ha.output⟩,⟨h1,?_⟩⟩
 .unfold execOp;simp only[ho,resolve,invoke,builtin,Sem.run_bind,Sem.run_pure,Result.andThen_ok,List.map_toArray,List.map_cons,List.map_nil,hx,hy,hr]
 rw[←ha.heap];exact Chg.of_mem h2
theorem t_lenM{x:Operand}{t e:TypeId}(i:Nat)(ht:P.underlying t=some (.map K.id e))(ho:o.op=.call { callee:=.builtin .len,args:=#[x],argTypes:=#[t] }:=by rfl)(hA:gt As i=some (mpA K V b m):=by rfl)(hx:ev E x=.map (some b):=by rfl):Lt P E o Z As (.int .i64 m.length):=fun H hH=>by
 obtain⟨es,clock,hb,he,hn,hs⟩:=hH.mp hA;have hl:es.size=m.length:=by have:=congrArg List.length he;simpa using this
 refine⟨fun w hw=>?_⟩;have hb':w.heap[b]?=some (.map es clock):=by rw[hw];exact hb
 unfold execOp;have:(Builtin.len_ #[t] o.type #[.map (some b)]).run P w=.ok (.int .i64 m.length) w:=by
  simp[Builtin.len_,run_underlying ht,Mem.run_getObj_map hb',goInt,hl]
 simp only[ho,resolve,invoke,builtin,Sem.run_bind,Sem.run_pure,Result.andThen_ok,List.map_toArray,List.map_cons,List.map_nil,hx,this]
/-! ### Calls of closures -/
end
/-! ### s[:n:n] -/
section
variable{P:Program}{w0:World}{ops:Array Oper}{Q:Exit→Act→World→Prop}{n:Nat}{E:Env}{Z:Zone}{As:List Asr}{o:Oper}{rest:List Oper}{α:Type}{T:Ty α}{v:Value}{L:List α}
def pre3(v:Value)(m:Nat):Value:=match v with|.slice p _ _=>.slice p m m|x=>x
theorem blk_pre3(v:Value)(m:Nat):blk (pre3 v m)=blk v:=by
 cases v with
 | slice p l c=>cases p<;>rfl
 | _=>rfl
theorem Ow.pre3 {H : Heap} (hv : Ow H T v L) (hT : T.Ok P) (m : Nat) (hm : m ≤ L.length) : Ow H T (S.pre3 v m) (L.take m) := by
  rcases hv with ⟨rfl, rfl⟩ | ⟨g, cap, arr, rfl, hg, hc, hx, hf, hr⟩
  · simp at hm; subst hm; exact .inl ⟨rfl, rfl⟩
  · have hl : (L.take m).length = m := by rw [List.length_take]; omega
    have := Nat.mul_le_mul_right T.size (Nat.le_trans hm hc)
    refine .inr ⟨g, m, arr, by rw [hl]; rfl, hg, by rw [hl]; exact Nat.le_refl _, by have : m ≤ cap := by omega
                                                                                     exact Nat.le_trans this hx, by omega, ?_⟩
    rw [hl, ← hT.flat_take, ← hr, List.take_take, Nat.min_eq_left (Nat.mul_le_mul_right _ hm)]
theorem Holds.pre3{i:Nat}{H:Heap}(h:Holds Z As H)(hT:T.Ok P)(m:Nat)(hi:gt As i=some (own T v L))(hm:m≤L.length):Holds Z (upd As i (own T (S.pre3 v m) (L.take m))) H:=by
 refine h.step hi fun S ⟨h1,h2⟩=>⟨S,⟨Ow.pre3 h1 hT m hm,fun k=>?_⟩,Chg.refl _ _,fun k hk=>.inl hk⟩
 rw[h2 k,blk_pre3]
theorem run_pre3{w:World}(hv:Mem.Sl w T v L){t:TypeId}(ht:P.underlying t=some (.slice T.id))(hT:T.Ok P)(q q':IntKind)(m:Int)(h0:0≤m)(hm:m≤L.length):
  (Instr.sliceAt t v none (some (.int q m)) (some (.int q' m))).run P w=.ok (pre3 v m.toNat) w:=by
 obtain⟨p,cap,rfl⟩:=hv.form;have hc:(m:Int)≤(cap:Int):=by
  rcases hv with ⟨⟨_,h⟩,rfl⟩|⟨g,off,cap',arr,e,fr,h,hg,hc,_⟩
  .simp at h hm;omega
  simp at h;obtain⟨_,rfl⟩:=h;omega
 have hz:∀p:Option Addr,(p.map fun x=>x.add 0)=p:=fun p=>by cases p<;>simp[Addr.add]
 simp[Instr.sliceAt,Instr.slice,run_underlying ht,Instr.sliceBounds,Instr.sliceBound,asIntOf,h0,hc,hT.run_sizeOf,pre3,hz];intro hcc;exfalso;omega
theorem t_pre3{x i j:Operand}{t:TypeId}{q q':IntKind}(hT:T.Ok P)(ht:P.underlying t=some (.slice T.id))(a:Acc Z As T v L)(k:Int)(m:Nat)(h0:0≤k)(hl:k≤L.length)(hm:m=k.toNat)(ho:o.op=.slice t x none (some i) (some j):=by rfl)(hx:ev E x=v:=by rfl)(hi:ev E i=.int q k:=by rfl)(hj:ev E j=.int q' k:=by rfl):Lt P E o Z As (pre3 v m):=fun H hH=>by
 subst hm;refine⟨fun w hw=>?_⟩;have hv:Mem.Sl w T v L:=by have:=a H hH;rw[←hw]at this;exact this
 unfold execOp;simp only[ho,hx,hi,hj,Option.map_none,Option.map_some];exact Mem.run_v (run_pre3 hv ht hT q q' k h0 hl)
end
/-! ### Short spellings -/
abbrev pB(g k:Nat):Value:=.pointer (some ⟨g,k,none⟩)
theorem lnm{α:Type}:(([]:List α).length=0)∧(∀(a:α) (l:List α),(a::l).length=l.length+1)∧(∀(l r:List α),(l++r).length=l.length+r.length)∧(∀(n:Nat) (l:List α),(l.take n).length=min n l.length)∧(∀(n:Nat) (l:List α),(l.drop n).length=l.length-n)∧(∀(l:List α) (i:Nat) (a:α),(l.set i a).length=l.length)∧(∀(n:Nat) (a:α),(List.replicate n a).length=n)∧(∀(l:List α),l.reverse.length=l.length):=
 ⟨rfl,fun _ _=>rfl,fun _ _=>List.length_append,fun _ _=>List.length_take,fun _ _=>List.length_drop,fun _ _ _=>List.length_set,fun _ _=>List.length_replicate,fun _=>List.length_reverse⟩
theorem bls:(∀b,(true&&b)=b)∧(∀b,(false&&b)=false)∧(∀b,(b&&true)=b)∧(∀b,(b&&false)=false)∧(∀b,(true||b)=true)∧(∀b,(b||true)=true)∧(∀b,(false||b)=b)∧(∀b,(b||false)=b)∧(!true)=false∧(!false)=true:=
 ⟨Bool.true_and,Bool.false_and,Bool.and_true,Bool.and_false,Bool.true_or,Bool.or_true,Bool.false_or,Bool.or_false,rfl,rfl⟩
section
variable{P:Program}{w0:World}{ops:Array Oper}{Q:Exit→Act→World→Prop}{n:Nat}{E:Env}{Z:Zone}{As:List Asr}{o:Oper}{rest:List Oper}{l:List Oper}{Ks:List Asr}{fuel:Nat}{listed:Array Bool}
theorem sp(v:Value){d:Nat}(h:SL P w0 ops Q n rest ((d,v)::E) Z As)(hr:∀w,(execOp (ev E) o).run P w=.ok (.value v) w:=by exact fun _=>rfl)(hd:o.dst=some d:=by rfl)(hk:okOp ops n E o=true:=by kernel_rfl):SL P w0 ops Q n (o::rest) E Z As:=
 s_lt (t_pure v hr) h hd hk
theorem h_l{d:Nat}{v:Value}(i:Nat)(hi:l[i]?=some o)(is:List Nat){Fs:List Asr}(t:∀Fs,Lt P E o Z (Ks++Fs) v)(h:SH P w0 l Q n Z Ks fuel (listed.setIfInBounds i true) ((d,v)::E) As)(hQ:NP Q:=by repeat (first|with_reducible exact np_finS|with_reducible apply np_then|with_reducible apply np_block))(hd:o.dst=some d:=by rfl)(hS:rearr As is=Ks++Fs:=by rfl)(hc:canTake l listed i=true:=by kernel_rfl)(hk:okOp l.toArray n E o=true:=by kernel_rfl):SH P w0 l Q n Z Ks (fuel+1) listed E As:=
 h_lt i hi hQ is t h hd hS hc hk
theorem hp_{d:Nat}(i:Nat)(is:List Nat)(v:Value){Fs:List Asr}(h:SH P w0 l Q n Z Ks fuel (listed.setIfInBounds i true) ((d,v)::E) As)(hi:l[i]?=some o:=by rfl)(hr:∀w,(execOp (ev E) o).run P w=.ok (.value v) w:=by exact fun _=>rfl)(hQ:NP Q:=by repeat (first|with_reducible exact np_finS|with_reducible apply np_then|with_reducible apply np_block))(hd:o.dst=some d:=by rfl)(hS:rearr As is=Ks++Fs:=by rfl)(hc:canTake l listed i=true:=by kernel_rfl)(hk:okOp l.toArray n E o=true:=by kernel_rfl):SH P w0 l Q n Z Ks (fuel+1) listed E As:=
 h_lt i hi hQ is (fun _=>t_pure v hr) h hd hS hc hk
theorem h_sk{d:Nat}(i:Nat)(is:List Nat){Fs:List Asr}(h:SH P w0 l Q n Z Ks fuel (listed.setIfInBounds i true) ((d,undef)::E) As)(hQ:NP Q:=by repeat (first|with_reducible exact np_finS|with_reducible apply np_then|with_reducible apply np_block))(hi:l[i]?=some o:=by rfl)(hd:o.dst=some d:=by rfl)(hS:rearr As is=Ks++Fs:=by rfl)(hc:canTake l listed i=true:=by kernel_rfl)(hu:unwant l.toArray E o=true:=by kernel_rfl)(hk:dstOk n o.dst=true:=by rfl):SH P w0 l Q n Z Ks (fuel+1) listed E As:=
 h_skipS i hQ is h hi hd hS hc hu hk
end
end Go.S
end
section
set_option linter.unusedSimpArgs false
set_option linter.unusedVariables false
namespace Go.Proofs.YtmhpcebiamkciaaGreat
open Go.Mem (aget aset adel aget_aset aget_adel)
def Agr(m:List (Vl×Nat))(S:List Slt):Prop:=∀k,aget m k=lastAt S k
theorem agr_nil:Agr [] []:=fun _=>rfl
theorem agr_set{m:List (Vl×Nat)}{S:List Slt}(h:Agr m S){k:Vl}{i:Nat}{s:Slt}(hl:lastAt S k=some i)(hs:s.key=k):Agr m (S.set i s):=fun k'=>by rw[h,lastAt_set S k k' hl hs]
theorem agr_snoc{m:List (Vl×Nat)}{S:List Slt}(h:Agr m S)(k v:Vl):Agr (aset m k S.length) (S++[⟨k,v,false⟩]):=fun k'=>by
 rw[aget_aset,lastAt_snoc,h];by_cases e:k'=k
 .simp [e]
 rw[if_neg e,if_neg (fun h=>e h.symm)]
theorem last_cases{m:List (Vl×Nat)}{S:List Slt}(h:Agr m S)(hi:OInv S)(k:Vl):(lastAt S k=none∧aget m k=none∧thereAt S k=none∧oget S k=zVl)∨
  ∃i s,lastAt S k=some i∧aget m k=some i∧S[i]?=some s∧s.key=k∧oget S k=s.val∧thereAt S k=if s.gone then none else some i:=by
 cases hl:lastAt S k with
 | none=>exact .inl ⟨rfl,by rw[h,hl],thereAt_none hl,oget_none hl⟩
 | some i=>
  obtain⟨s,h1,h2,_⟩:=lastAt_some hl;exact .inr ⟨i,s,rfl,by rw[h,hl],h1,h2,oget_some hl h1,thereAt_is hl h1⟩
theorem cnt_set{S:List Slt}{i:Nat}{s t:Slt}(h:S[i]?=some t):cnt (S.set i s)+(live [t]).length=cnt S+(live [s]).length:=by
 obtain⟨h1,h2⟩:=live_set (s:=s) h;unfold cnt;rw[h1,h2];simp only[List.length_append];omega
theorem cnt_gone{S:List Slt}{i:Nat}{t:Slt}(h:S[i]?=some t)(hg:t.gone=false)(k:Vl):((cnt (S.set i ⟨k,zVl,true⟩):Nat):Int)=(cnt S:Int)-1:=by
 have:=cnt_set (s:=⟨k,zVl,true⟩) h;simp[live,hg]at this;omega
theorem cnt_val{S:List Slt}{i:Nat}{t:Slt}(h:S[i]?=some t)(hg:t.gone=false)(k v:Vl):cnt (S.set i ⟨k,v,false⟩)=cnt S:=by
 have:=cnt_set (s:=⟨k,v,false⟩) h;simp[live,hg]at this;omega
theorem cnt_snoc(S:List Slt)(k v:Vl):cnt (S++[⟨k,v,false⟩])=cnt S+1:=by unfold cnt;rw[live_snoc];simp
theorem cnt_live(S:List Slt):cnt (live S)=cnt S:=by unfold cnt;rw[live_live]
theorem osetL_bad{S:List Slt}{k v:Vl}(h:okKey k=false∨validB v=false):osetL S k v=S:=by
 unfold osetL;rcases h with h|h
 .rw [if_pos h]
 rw[if_pos h];split<;>rfl
theorem osetL_rem{S:List Slt}{k v:Vl}(h1:okKey k=true)(h2:validB v=true)(h0:v.kind=0):osetL S k v=match thereAt S k with|some i=>S.set i ⟨k,zVl,true⟩|none=>S:=by
 unfold osetL;rw[if_neg (by rw[h1];decide),if_neg (by rw[h2];decide),if_pos h0]<;>(cases thereAt S k<;>rfl)
theorem osetL_put{S:List Slt}{k v:Vl}(h1:okKey k=true)(h2:validB v=true)(h0:v.kind≠0):osetL S k v=match thereAt S k with|some i=>S.set i ⟨k,v,false⟩|none=>(if cnt S+8<S.length-cnt S then live S else S)++[⟨k,v,false⟩]:=by
 unfold osetL;rw[if_neg (by rw[h1];decide),if_neg (by rw[h2];decide),if_neg h0]<;>(cases thereAt S k<;>rfl)
/-! ### Dropping the removed slots -/
def dropAt(S:List Slt)(i:Nat)(k:Vl):Option Nat:=match lastAt (live (S.take i)) k with
 | some j=>some j
 | none=>(lastAt S k).bind fun j=>if i≤j then some j else none
theorem drop_old{S:List Slt}(h:OInv S){i:Nat}{s:Slt}(hs:S[i]?=some s):lastAt (live (S.take i)) s.key=none:=by
 refine lastAt_nokey fun t ht e=>?_
 have hg:=live_gone ht;obtain⟨j,hj⟩:=List.mem_iff_getElem?.1 (List.mem_filter.1 ht).1;rw[List.getElem?_take]at hj;split at hj
 .rename_i hji;obtain⟨hj1,e2⟩:=List.getElem?_eq_some_iff.1 hj;obtain⟨hi1,e3⟩:=List.getElem?_eq_some_iff.1 hs;have:=List.pairwise_iff_getElem.1 h.uniq j i hj1 hi1 hji (by rw[e2,e3,e]);rw[e2,hg]at this;cases this
 cases hj
theorem drop_last{S:List Slt}{i:Nat}{s:Slt}(hs:S[i]?=some s):∃j,lastAt S s.key=some j∧i≤j:=by
 cases hl:lastAt S s.key with
 | none=>exact absurd rfl (lastAt_none hl s (List.mem_of_getElem? hs))
 | some j=>
  refine⟨j,rfl,Nat.le_of_not_lt fun hlt=>?_⟩;obtain⟨t,_,_,e3⟩:=lastAt_some hl;exact e3 i s hlt hs rfl
theorem drop_other{S:List Slt}{i:Nat}{s:Slt}(hs:S[i]?=some s){k:Vl}(hk:s.key≠k):((lastAt S k).bind fun j=>if i≤j then some j else none)=(lastAt S k).bind fun j=>if i+1≤j then some j else none:=by
 cases hl:lastAt S k with
 | none=>rfl
 | some j=>
  obtain⟨t,e1,e2,_⟩:=lastAt_some hl;have:j≠i:=fun e=>by subst e;rw[hs]at e1;cases e1;exact hk e2
  simp only[Option.bind_some];by_cases h:i≤j
  .rw [if_pos h,if_pos (by omega)]
  rw[if_neg h,if_neg (by omega)]
def DropI(S:List Slt)(i:Nat)(m:List (Vl×Nat)):Prop:=∀k,aget m k=dropAt S i k
theorem drop0{S:List Slt}{m:List (Vl×Nat)}(h:Agr m S):DropI S 0 m:=fun k=>by
 rw[h];unfold dropAt;simp[live,lastAt]
theorem drop_end{S:List Slt}{m:List (Vl×Nat)}{i:Nat}(h:DropI S i m)(hi:S.length≤i):Agr m (live S):=fun k=>by
 rw[h];unfold dropAt;rw[List.take_of_length_le hi];cases hl:lastAt (live S) k with
 | some j=>rfl
 | none=>
  cases h2:lastAt S k with
  | none=>rfl
  | some j=>have:=lastAt_lt h2;simp;omega
theorem drop_gone{S:List Slt}(ho:OInv S){m:List (Vl×Nat)}{i:Nat}{s:Slt}(h:DropI S i m)(hs:S[i]?=some s)(hg:s.gone=true):∃j,aget m s.key=some j∧(j≠i→DropI S (i+1) m)∧(j=i→(m.map Prod.fst).Nodup→DropI S (i+1) (adel m s.key)):=by
 have h1:=drop_old ho hs;obtain⟨j,h2,h3⟩:=drop_last hs;have hv:live (S.take (i+1))=live (S.take i):=by rw[live_take hs,if_pos hg]
 have hj:aget m s.key=some j:=by rw[h];unfold dropAt;rw[h1,h2];simp[h3]
 have hoth:∀k,s.key≠k→dropAt S i k=dropAt S (i+1) k:=fun k hk=>by
  unfold dropAt;rw[hv,drop_other hs hk]
 refine⟨j,hj,fun hne k=>?_,fun he hn k=>?_⟩
 .by_cases hk:s.key=k
  .subst hk;rw[hj];unfold dropAt;rw[hv,h1,h2];simp;omega
  rw[h,hoth k hk]
 rw[aget_adel hn];by_cases hk:s.key=k
 .subst hk;rw[if_pos rfl];unfold dropAt;rw[hv,h1,h2];simp;omega
 rw[if_neg (fun e=>hk e.symm),h,hoth k hk]
theorem drop_live{S:List Slt}(ho:OInv S){m:List (Vl×Nat)}{i:Nat}{s:Slt}(h:DropI S i m)(hs:S[i]?=some s)(hg:s.gone=false):DropI S (i+1) (aset m s.key (live (S.take i)).length):=fun k=>by
 have hv:live (S.take (i+1))=live (S.take i)++[s]:=by rw[live_take hs,if_neg (by rw[hg];decide)]
 rw[aget_aset];unfold dropAt;rw[hv,lastAt_snoc];by_cases hk:s.key=k
 .subst hk;simp
 rw[if_neg (fun e=>hk e.symm),if_neg hk,h];unfold dropAt;rw[drop_other hs hk]
/-! ### What follows -/
theorem head_live{S:List Slt}{a i:Nat}{s:Slt}(h:live ((S.drop a).take i)=[])(hs:(S.drop a)[i]?=some s)(hg:s.gone=false):(live (S.drop a)).head?=some s:=by
 have:S.drop a=(S.drop a).take i++s::(S.drop a).drop (i+1):=by
  obtain⟨hi,e⟩:=List.getElem?_eq_some_iff.1 hs;rw[←e,←List.drop_eq_getElem_cons hi,List.take_append_drop]
 rw[this];unfold live at*;rw[List.filter_append,h];simp[hg]
theorem live_gone_step{S:List Slt}{i:Nat}{s:Slt}(h:live (S.take i)=[])(hs:S[i]?=some s)(hg:s.gone=true):live (S.take (i+1))=[]:=by rw[live_take hs,if_pos hg,h]
theorem head_none{S:List Slt}{i:Nat}(h:live (S.take i)=[])(hi:S.length≤i):(live S).head?=none:=by rw[List.take_of_length_le hi]at h;rw[h];rfl
theorem onext_nil(S:List Slt):onext S zVl=((slotV (live S).head?).1,(slotV (live S).head?).2.1,(slotV (live S).head?).2.2,0):=by unfold onext;rw[if_pos rfl]
theorem onext_none{S:List Slt}{k:Vl}(h:k≠zVl)(hl:lastAt S k=none):onext S k=(zVl,zVl,false,13):=by unfold onext;rw[if_neg h,hl]
theorem onext_some{S:List Slt}{k:Vl}{i:Nat}(h:k≠zVl)(hl:lastAt S k=some i):onext S k=((slotV (live (S.drop (i+1))).head?).1,(slotV (live (S.drop (i+1))).head?).2.1,(slotV (live (S.drop (i+1))).head?).2.2,0):=by unfold onext;rw[if_neg h,hl]
/-! ### The search for a slot -/
def findI(S:List Slt)(k:Vl):Int:=match lastAt S k with
 | some i=>(i:Int)
 | none => -1
theorem find_step{S:List Slt}{i:Nat}{s:Slt}(k:Vl)(hs:S[i]?=some s):findI (S.take (i+1)) k=if s.key=k then (i:Int) else findI (S.take i) k:=by
 have hl:(S.take i).length=i:=by rw[List.length_take];have:=(List.getElem?_eq_some_iff.1 hs).1;omega
 have:S.take (i+1)=S.take i++[s]:=by rw[List.take_add_one,hs];rfl
 unfold findI;rw[this,lastAt_snoc,hl];by_cases h:s.key=k
 .simp [h]
 simp[h]
theorem find_here{S:List Slt}(h:OInv S){i:Nat}{s:Slt}(hs:S[i]?=some s)(hg:s.gone=false):findI S s.key=(i:Int):=by unfold findI;rw[h.last hs hg]
theorem find_end{S:List Slt}{i:Nat}(k:Vl)(hi:S.length≤i):findI (S.take i) k=findI S k:=by rw[List.take_of_length_le hi]
theorem find_cases{S:List Slt}(k:Vl):(findI S k = -1∧lastAt S k=none∧thereAt S k=none∧oget S k=zVl)∨∃(i:Nat) (s:Slt),findI S k=(i:Int)∧lastAt S k=some i∧S[i]?=some s∧s.key=k∧oget S k=s.val∧thereAt S k=if s.gone then none else some i:=by
 unfold findI;cases hl:lastAt S k with
 | none=>exact .inl ⟨rfl,rfl,thereAt_none hl,oget_none hl⟩
 | some i=>
  obtain⟨s,h1,h2,_⟩:=lastAt_some hl;exact .inr ⟨i,s,rfl,rfl,h1,h2,oget_some hl h1,thereAt_is hl h1⟩
end Go.Proofs.YtmhpcebiamkciaaGreat
end
section
set_option linter.unusedSimpArgs false
set_option linter.unusedVariables false
namespace Go.J
open Go.Hp Go.RowKit Go.ChangeShapes Go.WideShapes Go.ChangeAt
open Go.Mem (Ty blk)
section
variable{H:Type}{enc:TypeId×Value→H}{P:Program}
theorem trodAll_below(hl:laidOutB P=true){W W':World}(hb:Below W.heap.size W W'):∀{ts:List TypeId}{vs:List Value}{ds:List (DataW H)}{ps:List MemPlace},
  (ts.all fun t=>P.readableRec t&&Nat.blt t P.types.size)=true→DataW.TrodAll enc P W 0 (fun _=>true) true ts vs ds ps→(∀x∈ps,x.block<W.heap.size)→
  DataW.TrodAll enc P W' 0 (fun b=>decide (b<W.heap.size)) true ts vs ds ps
 | [],[],[],ps,_,h,_=>h
 | t::ts,v::vs,d::ds,ps,ht,h,hlt=>by
  obtain⟨p,q,h1,h2,rfl⟩:=h;simp only[List.all_cons,Bool.and_eq_true]at ht;refine⟨p,q,Below.trod hl ht.1.1 (by simpa [Nat.blt_eq]using ht.1.2) h1 hb (fun x hx=>hlt x (by simp[hx])),trodAll_below hl hb ht.2 h2 (fun x hx=>hlt x (by simp[hx])),rfl⟩
 | [],[],_::_,_,_,h,_=>h.elim
 | [],_::_,_,_,_,h,_=>h.elim
 | _::_,[],_,_,_,h,_=>h.elim
 | _::_,_::_,[],_,_,h,_=>h.elim
theorem keptBut_below{W W':World}{may:MemPlace→Prop}(hb:Below W.heap.size W W'):W.keptBut W' may:=by
 refine⟨hb.os,hb.output,fun i hi=>?_⟩;rw[hb.block i hi];have:=World.keptBut_refl W may;exact this.2.2 i hi
theorem law_post{f:Func}{s:ChangeSpec}{W W':World}{args:Array Value}{ds:List (DataW H)}{before:List MemPlace}{tb:TypeId}(hl:laidOutB P=true)(hts:(f.params.toList.all fun t=>P.readableRec t&&Nat.blt t P.types.size)=true)
  (hv:s.vars=[]) (hr:f.resultTypes=#[tb]) (htb:P.underlying tb=some .bool) (hb:Below W.heap.size W W') (hW:DataW.Whole enc P f.params.toList s.vars false W args.toList ds [] before)
  (hfn:s.fn H ds={ results:=[.lit (.bool true)],args:=ds }):s.post enc P f false true false false W args (.bool true) W':=by
 have hlt:∀x∈before,x.block<W.heap.size:=fun x hx=>hW.lt x hx
 obtain⟨p,q,hA,hV,rfl,hz,hn⟩:=hW;rw[hv]at hV;have hq:q=[]:=hV;subst hq;refine⟨ds,[],p++[],[],p,[],⟨p,[],hA,by rw[hv];rfl,rfl,hz,hn⟩,?_,?_,?_,?_,by simp⟩
 .rw [List.append_nil,hfn,hr];refine⟨[],[],⟨1,?_⟩,rfl,rfl⟩;simp[DataW.trod,htb,Value.cells]
 .rw [List.append_nil,hfn];exact trodAll_below hl hb hts hA (fun x hx=>hlt x (by simp[hx]))
 .rw [hv,List.append_nil,hfn];rfl
 .exact keptBut_below hb
theorem calls_of_hc{f:FuncId}{args:Array Value}{W:World}(h:HC P f args W.heap fun v H'=>v=.bool true∧Chg (fun _=>False) W.heap H'):
  Calls P f args W fun e W'=>e=.returned (.bool true)∧Below W.heap.size W W':=
 (h W rfl).mono fun e W' ⟨v,he,hat,hv,hc⟩=>by
  subst he hv;exact⟨rfl,⟨hat.os,hat.tape,hat.output,hc.size,fun k hk=>hc.block k hk (fun h=>h)⟩⟩
variable{w:World}{base:Nat}{spare:Nat→Bool}{held:Bool}
theorem take_one_of{l:List Value}{n:Nat}{v:Value}(h:l.take n=[v]):l.take 1=[v]:=by
 cases l with
 | nil=>simp at h
 | cons x l=>
  cases n with
  | zero=>simp at h
  | succ n=>simp only[List.take_succ_cons,List.cons.injEq]at h;simp[h.1]
theorem fitsL_join:∀{ks ks':List Nat}{vs:List Value},fitsL ks (vs.take ks.length)=true→fitsL ks' ((vs.drop ks.length).take ks'.length)=true→fitsL (ks++ks') (vs.take (ks++ks').length)=true
 | [],ks',vs,_,h=>by simpa using h
 | k::ks,ks',[],h,_=>by simp[fitsL]at h
 | k::ks,ks',v::vs,h,h'=>by
  simp only[List.length_cons,List.take_succ_cons,List.drop_succ_cons,fitsL,Bool.and_eq_true]at h h';simp only[List.cons_append,List.length_cons,List.take_succ_cons,fitsL,Bool.and_eq_true];exact⟨h.1,fitsL_join h.2 h'⟩
mutual
theorem fits_trod : ∀ (d : Nat) (t : TypeId) (ks : List Nat), kindsOf P d t = some ks → ∀ (fuel : Nat) (l : List Value) (m : Nat) (x : DataW H × List MemPlace), DataW.trod enc P w base spare held fuel t (l.take m) = some x → fitsL ks (l.take ks.length) = true ∧ ((match P.underlying t with | some (.struct _) => true | _ => false) = true → (l.take m).length = ks.length)
  | 0, _, _, hk, _, _, _, _, _ => by simp [kindsOf] at hk
  | d + 1, t, ks, hk, fuel, l, m, x, hx => by
    unfold kindsOf at hk
    cases hu : P.underlying t with
    | none => rw [hu] at hk; simp at hk
    | some u =>
      rw [hu] at hk
      cases u <;> first | (simp at hk; done) | skip
      case int q =>
        cases q <;> first | (simp at hk; done) | skip
        simp only [Option.some.injEq] at hk
        subst hk
        obtain ⟨n, h1, _, _⟩ := DataW.trod_int hu hx
        exact ⟨by rw [show [0].length = 1 from rfl, take_one_of h1]; rfl, by simp⟩
      case bool =>
        simp only [Option.some.injEq] at hk
        subst hk
        obtain ⟨n, h1, _⟩ := DataW.trod_bool hu hx
        exact ⟨by rw [show [2].length = 1 from rfl, take_one_of h1]; rfl, by simp⟩
      case string =>
        simp only [Option.some.injEq] at hk
        subst hk
        obtain ⟨n, h1, _⟩ := DataW.trod_string hu hx
        exact ⟨by rw [show [1].length = 1 from rfl, take_one_of h1]; rfl, by simp⟩
      case struct fs =>
        simp only at hk
        split at hk
        · simp at hk
        · cases hf : kindsOfFields P d fs.toList 0 with
          | none => rw [hf] at hk; simp at hk
          | some ks' =>
            rw [hf] at hk
            cases hi : P.info? t with
            | none => rw [hi] at hk; simp at hk
            | some i =>
              rw [hi] at hk
              simp only at hk
              split at hk
              · rename_i hs
                simp only [Option.some.injEq] at hk
                subst hk
                have hs := Nat.eq_of_beq_eq_true hs
                obtain ⟨xs, n, _, _, hlen, hxl, hall⟩ := DataW.trod_struct hu hx
                have hc : P.cellsOf t = ks'.length := by simp [Program.cellsOf, hi, hs]
                have := fits_fields d fs.toList 0 ks' hf n (l.take m) (fun f hf' => by
                  obtain ⟨j, hj, rfl⟩ := List.getElem_of_mem hf'
                  have hj' : j < fs.size := by simpa using hj
                  have h2 := hall j fs[j] (Array.getElem?_eq_getElem hj')
                  rw [List.getElem?_eq_getElem (by omega)] at h2
                  exact ⟨_, _, by simpa using h2⟩)
                rw [hc] at hlen
                refine ⟨?_, fun _ => hlen⟩
                rw [List.drop_zero, ← hlen, List.take_length] at this
                have e : l.take ks'.length = l.take m := by
                  rw [List.length_take] at hlen
                  rw [List.take_eq_take_iff]; omega
                rw [e]; exact this
              · simp at hk
theorem fits_fields:∀(d:Nat) (fs:List Field) (off:Nat) (ks:List Nat),kindsOfFields P d fs off=some ks→∀(n:Nat) (cs:List Value),(∀f∈fs,∃m x,DataW.trod enc P w base spare held n f.type ((cs.drop f.offset).take m)=some x)→fitsL ks ((cs.drop off).take ks.length)=true
 | _,[],off,ks,hk,n,cs,_=>by
  unfold kindsOfFields at hk;simp only[Option.some.injEq]at hk;subst hk;rfl
 | 0,_::_,_,_,hk,_,_,_=>by simp[kindsOfFields]at hk
 | d+1,f::fs,off,ks,hk,n,cs,hall=>by
  unfold kindsOfFields at hk;split at hk
  .rename_i hn;cases h1:kindsOf P d f.type with
   | none=>rw[h1]at hk;simp at hk
   | some k1=>
    rw[h1]at hk;simp only at hk;cases h2:kindsOfFields P d fs (off+k1.length) with
    | none=>rw[h2]at hk;simp at hk
    | some k2=>
     rw[h2]at hk;simp only[Option.some.injEq]at hk;subst hk;obtain⟨m,x,hx⟩:=hall f (by simp);rw[hn.2]at hx;have a1:=(fits_trod d f.type k1 h1 n _ m x hx).1;have a2:=fits_fields d fs (off+k1.length) k2 h2 n cs (fun g hg=>hall g (by simp[hg]));rw[←List.drop_drop]at a2;exact fitsL_join a1 a2
  simp at hk
end
theorem open_sl {α : Type} [Inhabited α] {T : Ty α} (hT : T.Ok P) {t : TypeId} {b0 : Nat} {W : World} {v : Value} {dd : DataW H} {pp : List MemPlace} (ht : P.underlying t = some (.slice T.id)) (ks : List Nat) (hk : kindsOf P 20 T.id = some ks) (hc : P.cellsOf T.id = T.size) (hks : ks.length = T.size)
    (hdec : ∀ cs, fitsL ks cs = true → ∃ x, T.enc x = cs) (hv : Value.okWide P W .any b0 t v) (h : DataW.Trod enc P W 0 (fun _ => true) true t v dd pp) : ∃ L, Sl W.heap T v L := by
  obtain ⟨a0, len0, cap0, rfl⟩ := okWide_slice ht hv
  obtain ⟨fuel, hf⟩ := h
  have hcs : (Value.slice a0 len0 cap0).cells.toList = [.slice a0 len0 cap0] := rfl
  rw [hcs] at hf
  rcases Deep.open_slice ht hf with ⟨h0, _⟩ | ⟨a, len, cap, m, n, D, Pl, h0, _, hl, hm, hmm, _, hx⟩
  · rw [List.cons.injEq] at h0
    exact ⟨[], .inl ⟨⟨none, h0.1⟩, rfl⟩⟩
  · rw [List.cons.injEq] at h0
    obtain ⟨h0, _⟩ := h0
    injection h0 with e1 e2 e3
    subst e1 e2 e3
    simp only [Value.okWide, ht, Cell.okWide, Cell.ok] at hv
    obtain ⟨_, _, _, hsp, row, cells, hsh, _⟩ := hv
    obtain ⟨g, off, spot⟩ := a
    simp only at hsp
    subst hsp
    simp only [if_true] at hmm
    subst hmm
    unfold World.shape? at hsh
    cases hg : W.heap[g]? with
    | none => rw [hg] at hsh; simp at hsh
    | some ob =>
      rw [hg] at hsh
      cases ob <;> simp at hsh
      rename_i arr e fr
      rw [hc] at hx
      obtain ⟨X, hX⟩ := Deep.choose_lt (α := α) (p := fun i x => ∀ j u, (T.enc x)[j]? = some u → arr[off + i * T.size + j]? = some u) (fun i hi => by
        obtain ⟨cs', h1, h2⟩ := hx i hi
        obtain ⟨_, hlen, hcell⟩ := World.cells?_some h1
        rw [← List.take_length (l := cs')] at h2
        have hfit := (fits_trod 20 T.id ks hk n cs' cs'.length _ h2).1
        rw [hks, ← hlen, List.take_length] at hfit
        obtain ⟨x, hx'⟩ := hdec cs' hfit
        refine ⟨x, fun j u hj => ?_⟩
        rw [hx'] at hj
        have hjl : j < T.size := by rw [← hlen]; exact (List.getElem?_eq_some_iff.1 hj).1
        have := hcell j hjl
        rw [Mem.addr_add, Mem.addr_add, cell_of_row W g _ arr e fr hg, hj] at this
        exact this)
      have hpos := hT.pos
      have hget : ∀ i j, i < m → j < T.size → ∃ u, (T.enc (X i))[j]? = some u ∧ arr[off + i * T.size + j]? = some u := fun i j hi hj => by
        have : j < (T.enc (X i)).length := by rw [hT.len]; exact hj
        exact ⟨_, List.getElem?_eq_getElem this, hX i hi j _ (List.getElem?_eq_getElem this)⟩
      refine ⟨(List.range len0).map X, .inr ⟨g, off, m, arr, e, fr, by simp, hg, by simpa using hl, hm, ?_, ?_⟩⟩
      · intro hcp
        obtain ⟨u, _, hu⟩ := hget (m - 1) (T.size - 1) (by omega) (by omega)
        have hlt := (Array.getElem?_eq_some_iff.1 hu).1
        have : m * T.size = (m - 1) * T.size + T.size := by rw [Nat.sub_mul]; have : T.size ≤ m * T.size := Nat.le_mul_of_pos_left _ hcp; omega
        omega
      · apply List.ext_getElem?
        intro q
        have hfl := hT.flat_len ((List.range len0).map X)
        simp only [List.length_map, List.length_range] at hfl ⊢
        by_cases hq : q < len0 * T.size
        · have hi : q / T.size < len0 := Nat.div_lt_of_lt_mul (by rw [Nat.mul_comm]; exact hq)
          have hj : q % T.size < T.size := Nat.mod_lt _ hpos
          have e1 : q = q / T.size * T.size + q % T.size := by rw [Nat.mul_comm]; exact (Nat.div_add_mod _ _).symm
          obtain ⟨u, h1, h2⟩ := hget (q / T.size) (q % T.size) (by omega) hj
          have hL : ((List.range len0).map X)[q / T.size]? = some (X (q / T.size)) := by simp [hi]
          have h3 := hT.flat_get hL hj
          rw [← e1, h1] at h3
          rw [h3, List.getElem?_take, if_pos hq, List.getElem?_drop, Array.getElem?_toList]
          rw [← h2]
          congr 1
          omega
        · rw [List.getElem?_eq_none (by simp; omega), List.getElem?_eq_none (by rw [hfl]; omega)]
end
end Go.J
end
section
set_option linter.unusedSimpArgs false
set_option linter.unusedVariables false
namespace Go.S
open Go.Hp Go.J
open Go.Mem (Ty KTy blk aggDesc)
def iT(e:TypeId):Ty Int:=⟨e,1,8,false,fun n=>.int .i64 n,0⟩
section
variable{P:Program}
theorem iT_ok{e:TypeId}{i:TypeInfo}(hd:P.underlying e=some (.int .i64))(hi:P.info? e=some i)(hs:i.size=1)(hb:i.bytes=8)(hz:i.zero=some (.int .i64 0)):(iT e).Ok P:=
 ⟨Nat.one_pos,fun _=>rfl,fun x u hu=>by simp[Ty.enc,iT,Value.cells]at hu;subst hu;rfl,fun _=>rfl,⟨_,hd,rfl⟩,fun _=>rfl,⟨i,hi,hs,hb,hz⟩⟩
theorem flat_int{e:TypeId}(L:List Int):(iT e).flat L=L.map fun n=>Value.int .i64 n:=by
 induction L with
 | nil=>rfl
 | cons a r ih=>rw[show a::r=[a]++r from rfl,Ty.flat_append,ih];rfl
def bT(e:TypeId):Ty Bool:=⟨e,1,1,false,fun b=>.bool b,false⟩
theorem bT_ok{e:TypeId}{i:TypeInfo}(hd:P.underlying e=some .bool)(hi:P.info? e=some i)(hs:i.size=1)(hb:i.bytes=1)(hz:i.zero=some (.bool false)):(bT e).Ok P:=
 ⟨Nat.one_pos,fun _=>rfl,fun x u hu=>by simp[Ty.enc,bT,Value.cells]at hu;subst hu;rfl,fun _=>rfl,⟨_,hd,rfl⟩,fun _=>rfl,⟨i,hi,hs,hb,hz⟩⟩
end
end Go.S
end
section
set_option linter.unusedSimpArgs false
set_option linter.unusedVariables false
namespace Go.Mem
section
variable{κ β:Type}[DecidableEq κ]{P:Program}
theorem findAsking_spec{K:KTy κ}(hs:∀k k' w,(Op.equal K.id (K.val k) (K.val k')).run P w=.ok (decide (k=k')) w)(k:κ)(w:World):∀(es:List MapEntry) (m:List (κ×β)) (n:Nat),es.map (·.key)=m.map (K.val ·.1)→
  (Instr.findAsking K.id (K.val k) es n).run P w=.ok ((apos m k).bind fun i=>(es[i]?).map fun e=>(i+n,e.val)) w
 | [],m,n,h=>by
  cases m with
  | nil=>rfl
  | cons p r=>simp at h
 | e::es,m,n,h=>by
  cases m with
  | nil=>simp at h
  | cons p r=>
   simp only[List.map_cons,List.cons.injEq]at h;unfold Instr.findAsking;rw[Sem.run_bind,h.1,hs,Result.andThen_ok];by_cases hp:k=p.1
   .simp [hp,apos,Sem.run_pure]
   have ih:=findAsking_spec hs k w es r (n+1) h.2;have hp':¬p.1=k:=fun e=>hp e.symm
   simp only[hp,decide_false,ih,apos,hp',if_false,Bool.false_eq_true];cases apos r k with
   | none=>rfl
   | some i=>simp[Nat.add_assoc,Nat.add_comm 1 n]
theorem structK_ok{K:KTy κ}{fs:Array Field}(h:P.underlying K.id=some (.struct fs))(hagg:∀k,∃cs,K.val k=.agg cs)(hc:∀(b:Bool) (k:κ) (w:World),(Instr.checkKey b 10000 K.id (K.val k)).run P w=.ok () w)(hb:∀k,Instr.sameBits 10000 (K.val k) (K.val k)=true)
  (hs:∀k k' w,(Op.equal K.id (K.val k) (K.val k')).run P w=.ok (decide (k=k')) w):KTy.Ok (β:=β) K P:=by
 refine⟨hc,hb,fun k es m he w=>?_⟩;unfold Instr.findKey;rw[Sem.run_bind,run_underlying h w,Result.andThen_ok];cases es with
 | nil=>
  cases m with
  | nil=>rfl
  | cons p r=>simp at he
 | cons e es=>
  cases m with
  | nil=>simp at he
  | cons p r=>
   have h1:Instr.findNow (.struct fs) (K.val k) (e::es) 0=none:=by
    unfold Instr.findNow;obtain⟨cs,e1⟩:=hagg k;rw[e1];rfl
   rw[h1];have:=findAsking_spec hs k w (e::es) (p::r) 0 he;simpa using this
theorem equal_of_bin{t:TypeId}{a b:Array Value}{c:Bool}{w:World}(h:(binOp .eql t (.agg a) (.agg b)).run P w=.ok (.bool c) w):(Op.equal t (.agg a) (.agg b)).run P w=.ok c w:=by
 have h1:binOp .eql t (.agg a) (.agg b)=(do pure (.bool (←Op.equal t (.agg a) (.agg b)))):=rfl;rw[h1,Sem.run_bind]at h;cases hr:(Op.equal t (.agg a) (.agg b)).run P w with
 | ok x w'=>rw[hr,Result.andThen_ok,Sem.run_pure]at h;injection h with e1 e2;injection e1 with e1;subst e1;subst e2;rfl
 | _=>rw[hr]at h;cases h
end
end Go.Mem
end
section
set_option linter.unusedSimpArgs false
set_option linter.unusedVariables false
namespace Go.S
open Go.Hp Go.J
section
variable{P:Program}{w0:World}{Q:Exit→Act→World→Prop}{n:Nat}{E:Env}{Z:Zone}{As:List Asr}{l:List Oper}{Ks:List Asr}{fuel:Nat}{listed:Array Bool}
theorem h_join{ι:Type}(fuel2:Nat)(listed2:Array Bool)(Ei:ι→Env)(Ai:ι→List Asr)(hj:∀i,SH P w0 l Q n Z Ks fuel2 listed2 (Ei i) (Ai i))(h:(∀i,SH P w0 l Q n Z Ks fuel2 listed2 (Ei i) (Ai i))→SH P w0 l Q n Z Ks fuel listed E As):SH P w0 l Q n Z Ks fuel listed E As:=h hj
theorem h_use{ι:Type}{fuel2:Nat}{listed2:Array Bool}{Ei:ι→Env}{Ai:ι→List Asr}(hj:∀i,SH P w0 l Q n Z Ks fuel2 listed2 (Ei i) (Ai i))(i:ι)(hA:∀H,Holds Z As H→Holds Z (Ai i) H)(hE:subB E (Ei i):=by exact sub_of rfl (by repeat first|exact trivial|refine⟨⟨rfl,rfl⟩,?_⟩))(hf:fuel=fuel2:=by kernel_rfl)(hl:listed=listed2:=by kernel_rfl):SH P w0 l Q n Z Ks fuel listed E As:=fun H hH=>by
 subst hf;subst hl;exact fun a w hfit ha=>hj i H (hA H hH) a w (hfit.of_sub hE) ha
theorem s_nt{ops:Array Oper}{y:Code}(h:SK P w0 y Q n E Z As):SL P w0 ops (Exit.then (y.wp P Q) Q) n [] E Z As:=s_nil (xs_then h)
theorem k_sr{id:Nat}{y:Code}(h:SL P w0 l.toArray (Exit.then (y.wp P Q) Q) n l E Z As):SK P w0 (.seq (.region id l.toArray false) y) Q n E Z As:=k_seq (k_reg h)
theorem k_st{y:Code}(h:SK P w0 y Q n E Z As):SK P w0 .skip (Exit.then (y.wp P Q) Q) n E Z As:=k_skip (xs_then h)
theorem s_nr{ops:Array Oper}{id:Nat}{y:Code}(h:SL P w0 l.toArray (Exit.then (y.wp P Q) Q) n l E Z As):SL P w0 ops (Exit.then ((Code.seq (.region id l.toArray false) y).wp P Q) Q) n [] E Z As:=s_nt (k_sr h)
theorem xcut{ι:Type}{p:ι→Prop}{Ei:ι→Env}{Ai:ι→List Asr}(i:ι)(hA:∀H,Holds Z As H→Holds Z (Ai i) H)(hp:p i:=by exact trivial)(hE:subB E (Ei i):=by exact sub_of rfl (by repeat first|exact trivial|refine⟨⟨rfl,rfl⟩,?_⟩)):SX w0 .normal (Exit.then (Cut w0 n p Ei Ai Z) Q) n E Z As:=xs_cut i hp hE hA
end
end Go.S
end
section
set_option linter.unusedSimpArgs false
set_option linter.unusedVariables false
set_option maxRecDepth 100000
namespace Go.Proofs.YtmhpcebiamkciaaGreat
open Go.Hp Go.J Go.S
open Go.Mem (Ty KTy blk elemAt pre suf blk_pre blk_suf aget aset strK aggDesc)
theorem Tryz.mixed:Tryz.prog.follows .mixedOrders=true:=by kernel_rfl
theorem ok_of{α:Type}(T:Ty α)(d:TypeDesc)(i:TypeInfo)(hpos:0<T.size)(hlen:∀x,(T.enc x).length=T.size)(hone:∀x,∀u∈T.enc x,u.oneCell'=true)(hval:∀x,T.val x=if T.agg then .agg (T.enc x).toArray else (T.enc x).headD undef)
  (hd:Tryz.prog.underlying T.id=some d) (ha:aggDesc d=T.agg) (h1:T.agg=false→T.size=1) (hi:Tryz.prog.info? T.id=some i) (hs:i.size=T.size) (hb:i.bytes=T.bytes) (hz:i.zero=some (T.val T.zero)):T.Ok Tryz.prog:=
 ⟨hpos,hlen,hone,hval,⟨d,hd,ha⟩,h1,⟨i,hi,hs,hb,hz⟩⟩
theorem fit_int{v:Value}(h:fitsK 0 v=true):∃n,v=.int .i64 n:=by
 cases v<;>simp[fitsK]at h
 rename_i k n
 cases k<;>simp[fitsK]at h
 exact⟨n,rfl⟩
theorem fit_str{v:Value}(h:fitsK 1 v=true):∃n,v=.string n:=by
 cases v<;>simp[fitsK]at h
 exact⟨_,rfl⟩
abbrev Vl.v(x:Vl):Value:=.agg #[.int .i64 x.kind,.int .i64 x.p,.int .i64 x.q,.string x.str,.int .i64 x.ref]
abbrev vc(x:Vl):Array Value:=#[.int .i64 x.kind,.int .i64 x.p,.int .i64 x.q,.string x.str,.int .i64 x.ref]
abbrev zc:Array Value:=#[.int .i64 0,.int .i64 0,.int .i64 0,.string ByteArray.empty,.int .i64 0]
abbrev iw(n:Int):Value:=.int .i64 n
abbrev sw(s:ByteArray):Value:=.string s
abbrev eb:ByteArray:=ByteArray.empty
theorem sP{P:Program}{w0:World}{ops:Array Oper}{Q:Exit→Act→World→Prop}{n:Nat}{E:Env}{Z:Zone}{As:List Asr}{rest:List Oper}(v:Value){d:Nat}{op:Op}{ty:TypeId}{ps:String}{af:Array Edge}{gd:Option (Nat×Bool)}(h:SL P w0 ops Q n rest ((d,v)::E) Z As)(hr:∀w,(execOp (ev E) ⟨some d,op,ty,ps,af,gd⟩).run P w=.ok (.value v) w:=by exact fun _=>rfl)(hk:okOp ops n E ⟨some d,op,ty,ps,af,gd⟩=true:=by kernel_rfl):SL P w0 ops Q n (⟨some d,op,ty,ps,af,gd⟩::rest) E Z As:=sp v h hr rfl hk
theorem sL{P:Program}{w0:World}{ops:Array Oper}{Q:Exit→Act→World→Prop}{n:Nat}{E:Env}{Z:Zone}{As:List Asr}{rest:List Oper}{v:Value}{d:Nat}{op:Op}{ty:TypeId}{ps:String}{af:Array Edge}{gd:Option (Nat×Bool)}(t:Lt P E ⟨some d,op,ty,ps,af,gd⟩ Z As v)(h:SL P w0 ops Q n rest ((d,v)::E) Z As)(hk:okOp ops n E ⟨some d,op,ty,ps,af,gd⟩=true:=by kernel_rfl):SL P w0 ops Q n (⟨some d,op,ty,ps,af,gd⟩::rest) E Z As:=s_lt t h rfl hk
theorem sK{P:Program}{w0:World}{ops:Array Oper}{Q:Exit→Act→World→Prop}{n:Nat}{E:Env}{Z:Zone}{As:List Asr}{rest:List Oper}{d:Nat}{op:Op}{ty:TypeId}{ps:String}{af:Array Edge}{gd:Option (Nat×Bool)}(h:SL P w0 ops Q n rest ((d,undef)::E) Z As)(hu:unwant ops E ⟨some d,op,ty,ps,af,gd⟩=true:=by kernel_rfl)(hk:dstOk n (some d)=true:=by rfl):SL P w0 ops Q n (⟨some d,op,ty,ps,af,gd⟩::rest) E Z As:=s_skip h rfl hu hk
theorem rr{Z:Zone}{As Bs:List Asr}(is ds:List Nat)(e:Go.S.dels (Go.S.rearr As is) ds=Bs:=by rfl):∀H,Holds Z As H→Holds Z Bs H:=fun _ h=>h.re is ds e
theorem sA{E E':Env}(h:subB E E':=by exact sub_of rfl (by repeat first|exact trivial|refine⟨⟨rfl,rfl⟩,?_⟩)):subB E E':=h
theorem om{P:Prop}(h:P:=by omega):P:=h
theorem ol{P:Prop}(h:P:=by (try simp only[lnm]);omega):P:=h
theorem dY{p:Prop}[Decidable p](h:decide p=true):p:=of_decide_eq_true h
theorem dF{p:Prop}[Decidable p](h:decide p=false):¬p:=of_decide_eq_false h
theorem cB{a b:Bool}(h:a=b):Value.bool a=Value.bool b:=congrArg _ h
theorem cI{a b:Int}(h:a=b):Value.int .i64 a=Value.int .i64 b:=congrArg _ h
theorem nH{P:Program}{w0:World}{Q:Exit→Act→World→Prop}{n:Nat}{E:Env}{Z:Zone}{As:List Asr}{l:List Oper}{Ks:List Asr}{fuel:Nat}{listed:Array Bool}{ops:Array Oper}(is:List Nat){Fs:List Asr}(h:SH P w0 l Q n Z Ks fuel listed E As)(hS:rearr As is=Ks++Fs:=by rfl):SL P w0 ops (heldQ P l Q (HS Z Ks) fuel listed) n [] E Z As:=s_nil (xs_held is h hS)
theorem sC{P:Program}{w0:World}{ops:Array Oper}{Q:Exit→Act→World→Prop}{n:Nat}{E:Env}{Z:Zone}{As:List Asr}{rest:List Oper}{f:FuncId}{xs:Array Operand}{ts:Array TypeId}{vals:List Value}{d:Nat}{ty:TypeId}{ps:String}{af:Array Edge}{gd:Option (Nat×Bool)}{v:Value}{As0 Bs:List Asr}(is:List Nat)(hc:SF P f vals.toArray Z As0 fun r Bs'=>r=v∧Bs'=Bs)(h:SL P w0 ops Q n rest ((d,v)::E) Z Bs)(hp:rearr As is=As0:=by rfl)(hx:(xs.toList.map (ev E))=vals:=by rfl)(hfn:isFn P f=true:=by kernel_rfl)(hk:okOp ops n E ⟨some d,.call { callee:=.value (.func f),args:=xs,argTypes:=ts },ty,ps,af,gd⟩=true:=by kernel_rfl):SL P w0 ops Q n (⟨some d,.call { callee:=.value (.func f),args:=xs,argTypes:=ts },ty,ps,af,gd⟩::rest) E Z As:=s_call is hc (by rintro _ _ ⟨rfl,rfl⟩;exact h) hp rfl hx rfl hfn hk
theorem sV{P:Program}{w0:World}{ops:Array Oper}{Q:Exit→Act→World→Prop}{n:Nat}{E:Env}{Z:Zone}{As:List Asr}{rest:List Oper}{f:FuncId}{xs:Array Operand}{ts:Array TypeId}{vals:List Value}{d:Nat}{ty:TypeId}{ps:String}{af:Array Edge}{gd:Option (Nat×Bool)}{v:Value}(hc:∀H,Holds Z As H→SF P f vals.toArray (zoneOf H) [] fun r Bs=>r=v∧Bs=[])(h:SL P w0 ops Q n rest ((d,v)::E) Z As)(hx:(xs.toList.map (ev E))=vals:=by rfl)(hfn:isFn P f=true:=by kernel_rfl)(hk:okOp ops n E ⟨some d,.call { callee:=.value (.func f),args:=xs,argTypes:=ts },ty,ps,af,gd⟩=true:=by kernel_rfl):SL P w0 ops Q n (⟨some d,.call { callee:=.value (.func f),args:=xs,argTypes:=ts },ty,ps,af,gd⟩::rest) E Z As:=s_vcall hc (by rintro _ rfl;exact h) rfl hx rfl hfn hk
theorem sF{P:Program}{w0:World}{ops:Array Oper}{Q:Exit→Act→World→Prop}{n:Nat}{E:Env}{Z:Zone}{As:List Asr}{l:List Oper}{α:Type}{T:Ty α}{v:Value}{L:List α}(i:Nat)(h:(∃p c,v=.slice p L.length c)→SL P w0 ops Q n l E Z As)(hi:gt As i=some (own T v L):=by rfl):SL P w0 ops Q n l E Z As:=s_fact (fun H h=>((Acc.own (T:=T) (L:=L) i hi) H h).form) h
theorem fE{P:Value→Prop}{v:Value}{n:Nat}(h:∃p c,v=.slice p n c)(k:∀p c,P (.slice p n c):=by intro _ _;exact rfl):P v:=by
 obtain⟨p,c,e⟩:=h;rw[e];exact k p c
theorem sE{P:Program}{w0:World}{ops:Array Oper}{Q:Exit→Act→World→Prop}{n:Nat}{E:Env}{Z:Zone}{As:List Asr}{rest:List Oper}{o:Oper}{t:TypeId}{x y:Operand}{g k j:Nat}{arr:Array Value}{e:TypeId}{v:Value}(hf:∃p c,v=.slice p j c)(i:Nat)(arr':Array Value)(h:SL P w0 ops Q n rest E Z (upd As i (blkA g arr' e)))(ho:o.op=.store t x y:=by rfl)(hx:ev E x=.pointer (some ⟨g,k,none⟩):=by rfl)(hy:ev E y=v:=by rfl)(hA:gt As i=some (blkA g arr e):=by rfl)(hs:sizeT P t 1=true:=by kernel_rfl)(hfit:Nat.ble (k+1) arr.size=true:=by rfl)(ha':(Go.Mem.spliceAt arr.toList k [v])=arr'.toList:=by rfl)(hd:o.dst=none:=by rfl)(hk:okOp ops n E o=true:=by kernel_rfl):SL P w0 ops Q n (o::rest) E Z As:=
 s_store (u:=v) (m:=1) i arr' h ho hx hy hA (by obtain⟨p,c,rfl⟩:=hf;rfl) hs hfit (by obtain⟨p,c,rfl⟩:=hf;rfl) (by obtain⟨p,c,rfl⟩:=hf;exact ha') hd hk
abbrev nS:Value:=.slice none 0 0
def tfB:Bool→List Nat→List Bool
 | _,[]=>[]
 | b,n::r=>List.replicate n b++tfB (!b) r
abbrev tf(l:List Nat):Array Bool:=(tfB true l).toArray
theorem rQ{α β:Type}{a:α}{b:β}{C:Prop}(h:C):(a=a∧b=b)∧C:=⟨⟨rfl,rfl⟩,h⟩
theorem sP2{P:Program}{w0:World}{ops:Array Oper}{Q:Exit→Act→World→Prop}{n:Nat}{E:Env}{Z:Zone}{As:List Asr}{rest:List Oper}(v:Value){d1:Nat}{op1:Op}{ty1:TypeId}{ps1:String}{af1:Array Edge}{gd1:Option (Nat×Bool)}{d2:Nat}{op2:Op}{ty2:TypeId}{ps2:String}{af2:Array Edge}{gd2:Option (Nat×Bool)}(h:SL P w0 ops Q n rest ((d2,v)::(d1,v)::E) Z As)(r1:∀w,(execOp (ev (E)) ⟨some d1,op1,ty1,ps1,af1,gd1⟩).run P w=.ok (.value v) w:=by exact fun _=>rfl)(k1:okOp ops n (E) ⟨some d1,op1,ty1,ps1,af1,gd1⟩=true:=by kernel_rfl)(r2:∀w,(execOp (ev ((d1,v)::E)) ⟨some d2,op2,ty2,ps2,af2,gd2⟩).run P w=.ok (.value v) w:=by exact fun _=>rfl)(k2:okOp ops n ((d1,v)::E) ⟨some d2,op2,ty2,ps2,af2,gd2⟩=true:=by kernel_rfl):SL P w0 ops Q n (⟨some d1,op1,ty1,ps1,af1,gd1⟩::⟨some d2,op2,ty2,ps2,af2,gd2⟩::rest) E Z As:=sP v (sP v h r2 k2) r1 k1
theorem sP3{P:Program}{w0:World}{ops:Array Oper}{Q:Exit→Act→World→Prop}{n:Nat}{E:Env}{Z:Zone}{As:List Asr}{rest:List Oper}(v:Value){d1:Nat}{op1:Op}{ty1:TypeId}{ps1:String}{af1:Array Edge}{gd1:Option (Nat×Bool)}{d2:Nat}{op2:Op}{ty2:TypeId}{ps2:String}{af2:Array Edge}{gd2:Option (Nat×Bool)}{d3:Nat}{op3:Op}{ty3:TypeId}{ps3:String}{af3:Array Edge}{gd3:Option (Nat×Bool)}(h:SL P w0 ops Q n rest ((d3,v)::(d2,v)::(d1,v)::E) Z As)(r1:∀w,(execOp (ev (E)) ⟨some d1,op1,ty1,ps1,af1,gd1⟩).run P w=.ok (.value v) w:=by exact fun _=>rfl)(k1:okOp ops n (E) ⟨some d1,op1,ty1,ps1,af1,gd1⟩=true:=by kernel_rfl)(r2:∀w,(execOp (ev ((d1,v)::E)) ⟨some d2,op2,ty2,ps2,af2,gd2⟩).run P w=.ok (.value v) w:=by exact fun _=>rfl)(k2:okOp ops n ((d1,v)::E) ⟨some d2,op2,ty2,ps2,af2,gd2⟩=true:=by kernel_rfl)(r3:∀w,(execOp (ev ((d2,v)::(d1,v)::E)) ⟨some d3,op3,ty3,ps3,af3,gd3⟩).run P w=.ok (.value v) w:=by exact fun _=>rfl)(k3:okOp ops n ((d2,v)::(d1,v)::E) ⟨some d3,op3,ty3,ps3,af3,gd3⟩=true:=by kernel_rfl):SL P w0 ops Q n (⟨some d1,op1,ty1,ps1,af1,gd1⟩::⟨some d2,op2,ty2,ps2,af2,gd2⟩::⟨some d3,op3,ty3,ps3,af3,gd3⟩::rest) E Z As:=sP v (sP v (sP v h r3 k3) r2 k2) r1 k1
theorem sP4{P:Program}{w0:World}{ops:Array Oper}{Q:Exit→Act→World→Prop}{n:Nat}{E:Env}{Z:Zone}{As:List Asr}{rest:List Oper}(v:Value){d1:Nat}{op1:Op}{ty1:TypeId}{ps1:String}{af1:Array Edge}{gd1:Option (Nat×Bool)}{d2:Nat}{op2:Op}{ty2:TypeId}{ps2:String}{af2:Array Edge}{gd2:Option (Nat×Bool)}{d3:Nat}{op3:Op}{ty3:TypeId}{ps3:String}{af3:Array Edge}{gd3:Option (Nat×Bool)}{d4:Nat}{op4:Op}{ty4:TypeId}{ps4:String}{af4:Array Edge}{gd4:Option (Nat×Bool)}(h:SL P w0 ops Q n rest ((d4,v)::(d3,v)::(d2,v)::(d1,v)::E) Z As)(r1:∀w,(execOp (ev (E)) ⟨some d1,op1,ty1,ps1,af1,gd1⟩).run P w=.ok (.value v) w:=by exact fun _=>rfl)(k1:okOp ops n (E) ⟨some d1,op1,ty1,ps1,af1,gd1⟩=true:=by kernel_rfl)(r2:∀w,(execOp (ev ((d1,v)::E)) ⟨some d2,op2,ty2,ps2,af2,gd2⟩).run P w=.ok (.value v) w:=by exact fun _=>rfl)(k2:okOp ops n ((d1,v)::E) ⟨some d2,op2,ty2,ps2,af2,gd2⟩=true:=by kernel_rfl)(r3:∀w,(execOp (ev ((d2,v)::(d1,v)::E)) ⟨some d3,op3,ty3,ps3,af3,gd3⟩).run P w=.ok (.value v) w:=by exact fun _=>rfl)(k3:okOp ops n ((d2,v)::(d1,v)::E) ⟨some d3,op3,ty3,ps3,af3,gd3⟩=true:=by kernel_rfl)(r4:∀w,(execOp (ev ((d3,v)::(d2,v)::(d1,v)::E)) ⟨some d4,op4,ty4,ps4,af4,gd4⟩).run P w=.ok (.value v) w:=by exact fun _=>rfl)(k4:okOp ops n ((d3,v)::(d2,v)::(d1,v)::E) ⟨some d4,op4,ty4,ps4,af4,gd4⟩=true:=by kernel_rfl):SL P w0 ops Q n (⟨some d1,op1,ty1,ps1,af1,gd1⟩::⟨some d2,op2,ty2,ps2,af2,gd2⟩::⟨some d3,op3,ty3,ps3,af3,gd3⟩::⟨some d4,op4,ty4,ps4,af4,gd4⟩::rest) E Z As:=sP v (sP v (sP v (sP v h r4 k4) r3 k3) r2 k2) r1 k1
def VlT:Ty Vl:=⟨71,5,48,true,Vl.v,⟨0,0,0,ByteArray.empty,0⟩⟩
theorem VlT_ok:VlT.Ok Tryz.prog:=ok_of VlT _ Tryz.t71 (by decide) (fun _=>rfl) (fun x u hu=>by simp[Ty.enc,VlT,Value.cells]at hu;rcases hu with rfl|rfl|rfl|rfl|rfl<;>rfl) (fun _=>rfl) Tryz.underlying71 rfl (fun h=>by cases h) (by kernel_rfl) (by kernel_rfl) (by kernel_rfl) (by kernel_rfl)
theorem eqVlT(x y:Vl)(w:World):(binOp .eql 71 x.v y.v).run Tryz.prog w=.ok (.bool (decide (x=y))) w∧(binOp .neq 71 x.v y.v).run Tryz.prog w=.ok (.bool (!decide (x=y))) w:=by
 have h:=J.run_eqS (P:=Tryz.prog) (t:=71) [0,0,0,1,0] (by kernel_rfl) (by kernel_rfl) #[.int .i64 x.kind,.int .i64 x.p,.int .i64 x.q,.string x.str,.int .i64 x.ref] #[.int .i64 y.kind,.int .i64 y.p,.int .i64 y.q,.string y.str,.int .i64 y.ref] rfl rfl w;have e:J.cellsEq [.int .i64 x.kind,.int .i64 x.p,.int .i64 x.q,.string x.str,.int .i64 x.ref] [.int .i64 y.kind,.int .i64 y.p,.int .i64 y.q,.string y.str,.int .i64 y.ref]=decide (x=y):=by
  cases x;cases y;rw[Bool.eq_iff_iff];simp[J.cellsEq,J.cellEq]
 rw[e]at h;exact h
abbrev iTy:Ty Int:=iT 3
theorem iTy_ok:iTy.Ok Tryz.prog:=iT_ok (i:=Tryz.t3) Tryz.underlying3 (by kernel_rfl) (by kernel_rfl) (by kernel_rfl) (by kernel_rfl)
abbrev bTy:Ty Bool:=bT 4
theorem bTy_ok:bTy.Ok Tryz.prog:=bT_ok (i:=Tryz.t4) Tryz.underlying4 (by kernel_rfl) (by kernel_rfl) (by kernel_rfl) (by kernel_rfl)
abbrev Slt.v(x:Slt):Value:=.agg #[.int .i64 x.key.kind,.int .i64 x.key.p,.int .i64 x.key.q,.string x.key.str,.int .i64 x.key.ref,.int .i64 x.val.kind,.int .i64 x.val.p,.int .i64 x.val.q,.string x.val.str,.int .i64 x.val.ref,.bool x.gone]
def SltT:Ty Slt:=⟨261,11,104,true,Slt.v,⟨zVl,zVl,false⟩⟩
theorem SltT_ok:SltT.Ok Tryz.prog:=ok_of SltT _ Tryz.t261 (by decide) (fun _=>rfl) (fun x u hu=>by simp[Ty.enc,SltT,Value.cells]at hu;rcases hu with rfl|rfl|rfl|rfl|rfl|rfl|rfl|rfl|rfl|rfl|rfl<;>rfl) (fun _=>rfl) Tryz.underlying261 rfl (fun h=>by cases h) (by kernel_rfl) (by kernel_rfl) (by kernel_rfl) (by kernel_rfl)
def RSltT:Ty Slt:=⟨264,11,104,true,Slt.v,⟨zVl,zVl,false⟩⟩
theorem RSltT_ok:RSltT.Ok Tryz.prog:=ok_of RSltT _ Tryz.t264 (by decide) (fun _=>rfl) (fun x u hu=>by simp[Ty.enc,RSltT,Value.cells]at hu;rcases hu with rfl|rfl|rfl|rfl|rfl|rfl|rfl|rfl|rfl|rfl|rfl<;>rfl) (fun _=>rfl) Tryz.underlying264 rfl (fun h=>by cases h) (by kernel_rfl) (by kernel_rfl) (by kernel_rfl) (by kernel_rfl)
def vK:KTy Vl:=⟨71,Vl.v⟩
theorem vK_ok{β:Type}:KTy.Ok (β:=β) vK Tryz.prog:=by
 refine Go.Mem.structK_ok (K:=vK) Tryz.underlying71 (fun k=>⟨_,rfl⟩) (fun b k w=>by kernel_rfl) (fun k=>?_) (fun k k' w=>Go.Mem.equal_of_bin (eqVlT k k' w).1);show Instr.sameBits 10000 (Vl.v k) (Vl.v k)=true;unfold Instr.sameBits;simp[Instr.sameBits,Go.Mem.bytes_beq]
abbrev nV(n:Nat):Value:=.int .i64 n
theorem intOk{β:Type}:KTy.Ok (β:=β) (Go.Mem.intK 3) Tryz.prog:=Go.Mem.intK_ok Tryz.underlying3
end Go.Proofs.YtmhpcebiamkciaaGreat
end
section
set_option linter.unusedSimpArgs false
set_option linter.unusedVariables false
set_option maxRecDepth 100000
set_option maxHeartbeats 2000000
namespace Go.Proofs.YtmhpcebiamkciaaGreat
open Go.Hp Go.J Go.S
open Go.Mem (Ty KTy blk elemAt pre suf blk_pre blk_suf aget aset strK aggDesc)
open Go.Mem (adel apos aget_aset aget_adel)
theorem gcd_s{Z:Zone}(x y:Nat):SF Tryz.prog 232 #[iw x,iw y] Z [] fun v Bs=>v=iw (Nat.gcd x y)∧Bs=[]:=by
 refine sf_enter Tryz.func232 12 [(0,iw (x:Int)),(1,iw (y:Int))] (fun w0=>?_);refine k_seq<|k_reg<|sL (t_pure (iw 0))<|s_nil<|xs_then<|k_seq<|k_block<|k_loop (ι:=Nat×Nat) (fun (a,b)=>Nat.gcd a b=Nat.gcd x y) (fun (a,b)=>[(0,iw (a:Int)),(1,iw (b:Int)),(4,iw 0)]) (fun (a,b)=>[]) (fun (a,b)=>b) (x,y) rfl sA (rr [] []) ?_
 rintro⟨a,b⟩ hi1;replace hi1:Nat.gcd a b=Nat.gcd x y:=hi1;show SK _ _ _ _ _ [(0,iw (a:Int)),(1,iw (b:Int)),(4,iw 0)] _ [];refine k_seq<|k_seq<|k_reg<|sL (t_pure (iw (b:Int)))<|sL t_cmp<|s_nil<|xs_then<|k_cond (decide ((b:Int)≠0)) (fun c2=>?_) (fun c2=>?_)
 .have p3:=dY c2;refine k_skip<|xs_then<|k_block<|k_draw<|sL (t_pure (iw (b:Int)))<|sL (t_pure (iw (a:Int)))<|sL (t_pure (iw (b:Int)))<|sL (Lt.to (v':=iw ((a % b:Nat):Int)) (t_rem (a:Int) (b:Int) om) rfl)<|sL (t_pure (iw (b:Int)))<|sL (t_pure (iw ((a % b:Nat):Int)))<|s_nil<|x_dynS (fun _ h=>by kernel_rfl) ?_
  refine xs_block ?_;exact xs_round (b,a % b) (by exact Nat.mod_lt _ om) (by show Nat.gcd b (a % b)=_;rw[gcd_step];exact hi1) sA (rr [] [])
 have p4:=Decidable.not_not.1 (dF c2);refine k_exit<|xs_exit<|xs_exit<|xs_here<|xs_then<|k_seq<|k_reg<|sL (t_pure (iw (a:Int)))<|sL (t_pure (iw (a:Int)))<|s_nil<|xs_then<|k_ret ?_
 obtain rfl:b=0:=by omega
 refine xs_fin _ _ (SI.tmp 4 SI.nil) (rr [] []) ⟨?_,rfl⟩;rw[←hi1,Nat.gcd_zero_right];rfl
theorem gcd_i{Z:Zone}(x y:Int)(hx:0≤x)(hy:0≤y):SF Tryz.prog 232 #[iw x,iw y] Z [] fun v Bs=>v=iw (Nat.gcd x.toNat y.toNat)∧Bs=[]:=by
 have h:=gcd_s (Z:=Z) x.toNat y.toNat;rw[show ((x.toNat:Nat):Int)=x by omega,show ((y.toNat:Nat):Int)=y by omega]at h;exact h
theorem rgcd_s{Z:Zone}(x y:Nat):SF Tryz.prog 237 #[iw x,iw y] Z [] fun v Bs=>v=iw (Nat.gcd x y)∧Bs=[]:=by
 refine sf_enter Tryz.func237 12 [(0,iw (x:Int)),(1,iw (y:Int))] (fun w0=>?_);refine k_seq<|k_reg<|sL (t_pure (iw 0))<|s_nil<|xs_then<|k_seq<|k_block<|k_loop (ι:=Nat×Nat) (fun (a,b)=>Nat.gcd a b=Nat.gcd x y) (fun (a,b)=>[(0,iw (a:Int)),(1,iw (b:Int)),(4,iw 0)]) (fun (a,b)=>[]) (fun (a,b)=>b) (x,y) rfl sA (rr [] []) ?_
 rintro⟨a,b⟩ hi1;replace hi1:Nat.gcd a b=Nat.gcd x y:=hi1;show SK _ _ _ _ _ [(0,iw (a:Int)),(1,iw (b:Int)),(4,iw 0)] _ [];refine k_seq<|k_seq<|k_reg<|sL (t_pure (iw (b:Int)))<|sL t_cmp<|s_nil<|xs_then<|k_cond (decide ((b:Int)≠0)) (fun c2=>?_) (fun c2=>?_)
 .have p3:=dY c2;refine k_skip<|xs_then<|k_block<|k_draw<|sL (t_pure (iw (b:Int)))<|sL (t_pure (iw (a:Int)))<|sL (t_pure (iw (b:Int)))<|sL (Lt.to (v':=iw ((a % b:Nat):Int)) (t_rem (a:Int) (b:Int) om) rfl)<|sL (t_pure (iw (b:Int)))<|sL (t_pure (iw ((a % b:Nat):Int)))<|s_nil<|x_dynS (fun _ h=>by kernel_rfl) ?_
  refine xs_block ?_;exact xs_round (b,a % b) (by exact Nat.mod_lt _ om) (by show Nat.gcd b (a % b)=_;rw[gcd_step];exact hi1) sA (rr [] [])
 have p4:=Decidable.not_not.1 (dF c2);refine k_exit<|xs_exit<|xs_exit<|xs_here<|xs_then<|k_seq<|k_reg<|sL (t_pure (iw (a:Int)))<|sL (t_pure (iw (a:Int)))<|s_nil<|xs_then<|k_ret ?_
 obtain rfl:b=0:=by omega
 refine xs_fin _ _ (SI.tmp 4 SI.nil) (rr [] []) ⟨?_,rfl⟩;rw[←hi1,Nat.gcd_zero_right];rfl
theorem rgcd_i{Z:Zone}(x y:Int)(hx:0≤x)(hy:0≤y):SF Tryz.prog 237 #[iw x,iw y] Z [] fun v Bs=>v=iw (Nat.gcd x.toNat y.toNat)∧Bs=[]:=by
 have h:=rgcd_s (Z:=Z) x.toNat y.toNat;rw[show ((x.toNat:Nat):Int)=x by omega,show ((y.toNat:Nat):Int)=y by omega]at h;exact h
theorem abs_s{Z:Zone}(x:Int)(h1 : -2147483647≤x)(h2:x≤2147483647):SF Tryz.prog 238 #[iw x] Z [] fun v Bs=>v=iw (if x < -x then -x else x)∧Bs=[]:=by
 refine sf_enter Tryz.func238 8 [(0,iw x)] (fun w0=>?_);refine k_seq<|k_reg<|sL (t_pure (iw 0))<|s_nil<|xs_then<|k_seq<|k_seq<|k_reg<|sL (t_pure (iw x))<|sL t_cmp<|s_nil<|xs_then<|k_cond (decide (x<0)) (fun c1=>?_) (fun c1=>?_)
 .have p2:=dY c1;refine k_seq<|k_reg<|sL (t_pure (iw x))<|sL (t_neg x om)<|sL (t_pure (iw (-x)))<|s_nil<|xs_then<|k_ret<|xs_ret<|xs_fin _ _ (SI.tmp 2 SI.nil) (rr [] []) ⟨?_,rfl⟩
  exact cI om
 have p3:=dF c1;refine k_skip<|xs_then<|k_seq<|k_reg<|sL (t_pure (iw x))<|sL (t_pure (iw x))<|s_nil<|xs_then<|k_ret<|xs_fin _ _ (SI.tmp 2 SI.nil) (rr [] []) ⟨?_,rfl⟩
 exact cI om
theorem vnum_s{Z:Zone}(p q:Int):SF Tryz.prog 191 #[.agg #[iw p,iw q]] Z [] fun v Bs=>v=.bool (validN p q)∧Bs=[]:=by
 refine sf_enter Tryz.func191 33 [(0,.agg #[iw p,iw q])] (fun w0=>?_);refine k_seq<|k_reg<|s_box #[iw p,iw q] (fun g1=>?_)
 refine sL (t_pure (.bool false))<|s_nil<|xs_then<|k_cut (ι:=Unit) (fun _=>True) (fun _=>[(2,.bool ((decide ((1:Int)≤q))&&((decide (q≤2147483647))&&((decide ((-2147483647)≤p))&&((decide (p≤2147483647))&&(decide (((Nat.gcd ((if p<(-p) then (-p) else p)).toNat (q).toNat:Nat):Int)=1)))))))]) (fun _=>[blkA g1 #[iw p,iw q] 69]) ?_ (fun _ _=>?_)
 .refine k_reg<|sL (t_pure (pB g1 1))<|sL (t_load 0 (iw q))<|sL t_cmp<|sL (t_pure (.bool (decide ((1:Int)≤q))))<|s_fork 6 (decide ((1:Int)≤q)) (fun c2=>?_) (fun c2=>?_)
  .have p3:=dY c2;refine sL (t_pure (pB g1 1))<|sL (t_load 0 (iw q))<|sL t_cmp<|sL (t_pure (.bool (decide (q≤2147483647))))<|sL (t_pure (.bool (decide (q≤2147483647))))<|s_fork 11 (decide (q≤2147483647)) (fun c4=>?_) (fun c4=>?_)
   .have p5:=dY c4;refine sL (t_pure (pB g1 0))<|sL (t_load 0 (iw p))<|sL t_cmp<|sL (t_pure (.bool (decide ((-2147483647)≤p))))<|sL (t_pure (.bool (decide ((-2147483647)≤p))))<|s_fork 16 (decide ((-2147483647)≤p)) (fun c6=>?_) (fun c6=>?_)
    .have p7:=dY c6;refine sL (t_pure (pB g1 0))<|sL (t_load 0 (iw p))<|sL t_cmp<|sL (t_pure (.bool (decide (p≤2147483647))))<|sL (t_pure (.bool (decide (p≤2147483647))))<|s_fork 21 (decide (p≤2147483647)) (fun c8=>?_) (fun c8=>?_)
     .have p9:=dY c8;refine sL (t_pure (pB g1 0))<|sL (t_load 0 (iw p))<|sL (t_pure (pB g1 0))<|sL (t_load 0 (iw p))<|sL (t_neg p om)<|sL t_max<|sL (t_pure (pB g1 1))<|sL (t_load 0 (iw q))<|sV (fun _ h=>gcd_i (if p<(-p) then (-p) else p) q om om)<|sL t_cmp<|sL (t_pure (.bool (decide (((Nat.gcd ((if p<(-p) then (-p) else p)).toNat (q).toNat:Nat):Int)=1))))<|sL (t_pure (.bool (decide (((Nat.gcd ((if p<(-p) then (-p) else p)).toNat (q).toNat:Nat):Int)=1))))<|s_nil ?_
      exact xs_cut () trivial (sub_of rfl ⟨⟨rfl,cB (by simp[c2,c4,c6,c8])⟩,trivial⟩) (rr [0] [])
     have p10:=dF c8;refine sK<|sK<|sK<|sK<|sK<|sK<|sK<|sK<|sK<|sK<|sL (t_pure (.bool false))<|sL (t_pure (.bool false))<|s_nil ?_
     exact xs_cut () trivial (sub_of rfl ⟨⟨rfl,cB (by simp[c2,c4,c6,c8])⟩,trivial⟩) (rr [0] [])
    have p11:=dF c6;refine sK<|sK<|sK<|sL (t_pure (.bool false))<|sL (t_pure (.bool false))<|sK<|sK<|sK<|sK<|sK<|sK<|sK<|sK<|sK<|sK<|sL (t_pure (.bool false))<|sL (t_pure (.bool false))<|s_nil ?_
    exact xs_cut () trivial (sub_of rfl ⟨⟨rfl,cB (by simp[c2,c4,c6])⟩,trivial⟩) (rr [0] [])
   have p12:=dF c4;refine sK<|sK<|sK<|sL (t_pure (.bool false))<|sL (t_pure (.bool false))<|sK<|sK<|sK<|sL (t_pure (.bool false))<|sL (t_pure (.bool false))<|sK<|sK<|sK<|sK<|sK<|sK<|sK<|sK<|sK<|sK<|sL (t_pure (.bool false))<|sL (t_pure (.bool false))<|s_nil ?_
   exact xs_cut () trivial (sub_of rfl ⟨⟨rfl,cB (by simp[c2,c4])⟩,trivial⟩) (rr [0] [])
  have p13:=dF c2;refine sK<|sK<|sK<|sL (t_pure (.bool false))<|sL (t_pure (.bool false))<|sK<|sK<|sK<|sL (t_pure (.bool false))<|sL (t_pure (.bool false))<|sK<|sK<|sK<|sL (t_pure (.bool false))<|sL (t_pure (.bool false))<|sK<|sK<|sK<|sK<|sK<|sK<|sK<|sK<|sK<|sK<|sL (t_pure (.bool false))<|sL (t_pure (.bool false))<|s_nil ?_
  exact xs_cut () trivial (sub_of rfl ⟨⟨rfl,cB (by simp[c2])⟩,trivial⟩) (rr [0] [])
 refine k_ret<|xs_fin _ _ (SI.tmp 2 SI.nil) (rr [] [0]) ⟨?_,rfl⟩
 exact cB (validN_eq p q)
theorem rvnum_s{Z:Zone}(p q:Int):SF Tryz.prog 196 #[.agg #[iw p,iw q]] Z [] fun v Bs=>v=.bool (validN p q)∧Bs=[]:=by
 refine sf_enter Tryz.func196 30 [(0,.agg #[iw p,iw q])] (fun w0=>?_);refine k_seq<|k_reg<|s_box #[iw p,iw q] (fun g1=>?_)
 refine sL (t_pure (.bool false))<|s_nil<|xs_then<|k_cut (ι:=Unit) (fun _=>True) (fun _=>[(2,.bool ((decide ((1:Int)≤q))&&((decide (q≤2147483647))&&((decide (p≤2147483647))&&((decide ((-2147483647)≤p))&&(decide (((Nat.gcd ((if p<(-p) then (-p) else p)).toNat (q).toNat:Nat):Int)=1)))))))]) (fun _=>[blkA g1 #[iw p,iw q] 69]) ?_ (fun _ _=>?_)
 .refine k_held [blkA g1 #[iw p,iw q] 69] ?_;refine h_lt 0 rfl (np_then np_finS) [0] (fun _=>(t_pure (pB g1 1))) ?_;refine h_lt 1 rfl (np_then np_finS) [0] (fun _=>(t_load 0 (iw q))) ?_;refine h_lt 2 rfl (np_then np_finS) [0] (fun _=>t_cmp) ?_;refine h_lt 3 rfl (np_then np_finS) [0] (fun _=>(t_pure (.bool (decide ((1:Int)≤q))))) ?_;refine h_forkS 6 (decide ((1:Int)≤q)) (fun c2=>?_) (fun c2=>?_)
  .have p3:=dY c2;refine h_lt 4 rfl (np_then np_finS) [0] (fun _=>(t_pure (pB g1 1))) ?_;refine h_lt 5 rfl (np_then np_finS) [0] (fun _=>(t_load 0 (iw q))) ?_;refine h_lt 6 rfl (np_then np_finS) [0] (fun _=>t_cmp) ?_;refine h_lt 7 rfl (np_then np_finS) [0] (fun _=>(t_pure (.bool (decide (q≤2147483647))))) ?_;refine h_lt 8 rfl (np_then np_finS) [0] (fun _=>(t_pure (.bool (decide (q≤2147483647))))) ?_;refine h_forkS 11 (decide (q≤2147483647)) (fun c4=>?_) (fun c4=>?_)
   .have p5:=dY c4;refine h_lt 9 rfl (np_then np_finS) [0] (fun _=>(t_pure (pB g1 0))) ?_;refine h_lt 10 rfl (np_then np_finS) [0] (fun _=>(t_load 0 (iw p))) ?_;refine h_lt 11 rfl (np_then np_finS) [0] (fun _=>t_cmp) ?_;refine h_lt 12 rfl (np_then np_finS) [0] (fun _=>(t_pure (.bool (decide (p≤2147483647))))) ?_;refine h_lt 13 rfl (np_then np_finS) [0] (fun _=>(t_pure (.bool (decide (p≤2147483647))))) ?_;refine h_forkS 16 (decide (p≤2147483647)) (fun c6=>?_) (fun c6=>?_)
    .have p7:=dY c6;refine h_lt 14 rfl (np_then np_finS) [0] (fun _=>(t_pure (pB g1 0))) ?_;refine h_lt 15 rfl (np_then np_finS) [0] (fun _=>(t_load 0 (iw p))) ?_;refine h_lt 16 rfl (np_then np_finS) [0] (fun _=>t_cmp) ?_;refine h_lt 17 rfl (np_then np_finS) [0] (fun _=>(t_pure (.bool (decide ((-2147483647)≤p))))) ?_;refine h_lt 18 rfl (np_then np_finS) [0] (fun _=>(t_pure (.bool (decide ((-2147483647)≤p))))) ?_;refine h_forkS 21 (decide ((-2147483647)≤p)) (fun c8=>?_) (fun c8=>?_)
     .have p9:=dY c8;refine h_lt 19 rfl (np_then np_finS) [0] (fun _=>(t_pure (pB g1 0))) ?_;refine h_lt 20 rfl (np_then np_finS) [0] (fun _=>(t_load 0 (iw p))) ?_;refine h_lt 22 rfl (np_then np_finS) [0] (fun _=>(t_pure (pB g1 1))) ?_;refine h_lt 23 rfl (np_then np_finS) [0] (fun _=>(t_load 0 (iw q))) ?_;refine h_stepS 21 ?_;refine sV (fun _ h=>abs_s p om om)<|nH [0]<|h_stepS 24 ?_
      refine sV (fun _ h=>rgcd_i (if p<(-p) then (-p) else p) q om om)<|nH [0]<|h_lt 25 rfl (np_then np_finS) [0] (fun _=>t_cmp) ?_
      refine h_lt 26 rfl (np_then np_finS) [0] (fun _=>(t_pure (.bool (decide (((Nat.gcd ((if p<(-p) then (-p) else p)).toNat (q).toNat:Nat):Int)=1))))) ?_;refine h_lt 27 rfl (np_then np_finS) [0] (fun _=>(t_pure (.bool (decide (((Nat.gcd ((if p<(-p) then (-p) else p)).toNat (q).toNat:Nat):Int)=1))))) ?_;refine h_doneS ?_;exact xs_cut () trivial (sub_of rfl ⟨⟨rfl,cB (by simp[c2,c4,c6,c8])⟩,trivial⟩) (rr [0] [])
     have p10:=dF c8;refine h_skipS 19 (np_then np_finS) [0] ?_;refine h_skipS 20 (np_then np_finS) [0] ?_;refine h_skipS 22 (np_then np_finS) [0] ?_;refine h_skipS 23 (np_then np_finS) [0] ?_;refine h_stepS 21 ?_;refine sK<|nH [0]<|h_stepS 24 ?_
     refine sK<|nH [0]<|h_skipS 25 (np_then np_finS) [0] ?_
     refine h_lt 26 rfl (np_then np_finS) [0] (fun _=>(t_pure (.bool false))) ?_;refine h_lt 27 rfl (np_then np_finS) [0] (fun _=>(t_pure (.bool false))) ?_;refine h_doneS ?_;exact xs_cut () trivial (sub_of rfl ⟨⟨rfl,cB (by simp[c2,c4,c6,c8])⟩,trivial⟩) (rr [0] [])
    have p11:=dF c6;refine h_skipS 14 (np_then np_finS) [0] ?_;refine h_skipS 15 (np_then np_finS) [0] ?_;refine h_skipS 16 (np_then np_finS) [0] ?_;refine h_lt 17 rfl (np_then np_finS) [0] (fun _=>(t_pure (.bool false))) ?_;refine h_lt 18 rfl (np_then np_finS) [0] (fun _=>(t_pure (.bool false))) ?_;refine h_skipS 19 (np_then np_finS) [0] ?_;refine h_skipS 20 (np_then np_finS) [0] ?_;refine h_skipS 22 (np_then np_finS) [0] ?_;refine h_skipS 23 (np_then np_finS) [0] ?_;refine h_stepS 21 ?_;refine sK<|nH [0]<|h_stepS 24 ?_
    refine sK<|nH [0]<|h_skipS 25 (np_then np_finS) [0] ?_
    refine h_lt 26 rfl (np_then np_finS) [0] (fun _=>(t_pure (.bool false))) ?_;refine h_lt 27 rfl (np_then np_finS) [0] (fun _=>(t_pure (.bool false))) ?_;refine h_doneS ?_;exact xs_cut () trivial (sub_of rfl ⟨⟨rfl,cB (by simp[c2,c4,c6])⟩,trivial⟩) (rr [0] [])
   have p12:=dF c4;refine h_skipS 9 (np_then np_finS) [0] ?_;refine h_skipS 10 (np_then np_finS) [0] ?_;refine h_skipS 11 (np_then np_finS) [0] ?_;refine h_lt 12 rfl (np_then np_finS) [0] (fun _=>(t_pure (.bool false))) ?_;refine h_lt 13 rfl (np_then np_finS) [0] (fun _=>(t_pure (.bool false))) ?_;refine h_skipS 14 (np_then np_finS) [0] ?_;refine h_skipS 15 (np_then np_finS) [0] ?_;refine h_skipS 16 (np_then np_finS) [0] ?_;refine h_lt 17 rfl (np_then np_finS) [0] (fun _=>(t_pure (.bool false))) ?_;refine h_lt 18 rfl (np_then np_finS) [0] (fun _=>(t_pure (.bool false))) ?_;refine h_skipS 19 (np_then np_finS) [0] ?_;refine h_skipS 20 (np_then np_finS) [0] ?_;refine h_skipS 22 (np_then np_finS) [0] ?_;refine h_skipS 23 (np_then np_finS) [0] ?_;refine h_stepS 21 ?_;refine sK<|nH [0]<|h_stepS 24 ?_
   refine sK<|nH [0]<|h_skipS 25 (np_then np_finS) [0] ?_
   refine h_lt 26 rfl (np_then np_finS) [0] (fun _=>(t_pure (.bool false))) ?_;refine h_lt 27 rfl (np_then np_finS) [0] (fun _=>(t_pure (.bool false))) ?_;refine h_doneS ?_;exact xs_cut () trivial (sub_of rfl ⟨⟨rfl,cB (by simp[c2,c4])⟩,trivial⟩) (rr [0] [])
  have p13:=dF c2;refine h_skipS 4 (np_then np_finS) [0] ?_;refine h_skipS 5 (np_then np_finS) [0] ?_;refine h_skipS 6 (np_then np_finS) [0] ?_;refine h_lt 7 rfl (np_then np_finS) [0] (fun _=>(t_pure (.bool false))) ?_;refine h_lt 8 rfl (np_then np_finS) [0] (fun _=>(t_pure (.bool false))) ?_;refine h_skipS 9 (np_then np_finS) [0] ?_;refine h_skipS 10 (np_then np_finS) [0] ?_;refine h_skipS 11 (np_then np_finS) [0] ?_;refine h_lt 12 rfl (np_then np_finS) [0] (fun _=>(t_pure (.bool false))) ?_;refine h_lt 13 rfl (np_then np_finS) [0] (fun _=>(t_pure (.bool false))) ?_;refine h_skipS 14 (np_then np_finS) [0] ?_;refine h_skipS 15 (np_then np_finS) [0] ?_;refine h_skipS 16 (np_then np_finS) [0] ?_;refine h_lt 17 rfl (np_then np_finS) [0] (fun _=>(t_pure (.bool false))) ?_;refine h_lt 18 rfl (np_then np_finS) [0] (fun _=>(t_pure (.bool false))) ?_;refine h_skipS 19 (np_then np_finS) [0] ?_;refine h_skipS 20 (np_then np_finS) [0] ?_;refine h_skipS 22 (np_then np_finS) [0] ?_;refine h_skipS 23 (np_then np_finS) [0] ?_;refine h_stepS 21 ?_;refine sK<|nH [0]<|h_stepS 24 ?_
  refine sK<|nH [0]<|h_skipS 25 (np_then np_finS) [0] ?_
  refine h_lt 26 rfl (np_then np_finS) [0] (fun _=>(t_pure (.bool false))) ?_;refine h_lt 27 rfl (np_then np_finS) [0] (fun _=>(t_pure (.bool false))) ?_;refine h_doneS ?_;exact xs_cut () trivial (sub_of rfl ⟨⟨rfl,cB (by simp[c2])⟩,trivial⟩) (rr [0] [])
 refine k_ret<|xs_fin _ _ (SI.tmp 2 SI.nil) (rr [] [0]) ⟨?_,rfl⟩
 exact cB (rvalidN_eq p q)
theorem valid_s{Z:Zone}(v:Vl):SF Tryz.prog 141 #[v.v] Z [] fun r Bs=>r=.bool (validB v)∧Bs=[]:=by
 refine sf_enter Tryz.func141 74 [(0,.agg (vc v))] (fun w0=>?_);refine k_sr<|s_box (vc v) (fun g1=>?_)
 refine sP (.bool false)<|s_nr<|sP (pB g1 0)<|sL (t_load 0 (iw v.kind))<|sL (t_kern (.agg #[iw v.kind,iw 0,iw 0,sw eb,iw 0]))<|s_alloc (.agg zc) zc (fun g2=>?_)
 refine s_store 0 #[iw v.kind,iw 0,iw 0,sw eb,iw 0] ?_;refine s_nr<|sP (.bool true)<|s_nt<|k_seq<|k_sr<|sP (pB g1 0)<|sL (t_load 1 (iw v.kind))<|s_nt<|k_block<|k_sr<|sL t_cmp<|sP (.bool (decide (v.kind=0)))<|s_nt<|k_cond (decide (v.kind=0)) (fun c3=>?_) (fun c3=>?_)
 .have p4:=dY c3;refine k_skip<|xs_block<|xs_then<|k_sr<|sP2 (.bool true)<|sL (t_loadA 1 (vc v))<|sL (t_loadA 0 #[iw v.kind,iw 0,iw 0,sw eb,iw 0])<|sL (t_eqS (fun w=>(eqVlT v (⟨v.kind,0,0,eb,0⟩:Vl) w).1))<|sP2 (.bool (decide (v=(⟨v.kind,0,0,eb,0⟩:Vl))))<|s_nt<|k_ret<|xs_fin _ _ (SI.tmp 2 SI.nil) (rr [] [0,0]) ⟨?_,rfl⟩
  refine cB ?_;first|(simp[validB,p4];done)|(rw[Bool.and_comm];simp[validB,p4];done)|(rw[Bool.eq_iff_iff];simp[validB,p4,and_comm,and_left_comm,and_assoc];done)
 have p5:=dF c3;refine k_sr<|sL t_cmp<|sP (.bool (decide (v.kind=1)))<|s_nt<|k_cond (decide (v.kind=1)) (fun c6=>?_) (fun c6=>?_)
 .have p7:=dY c6;refine k_sr<|sP (pB g1 4)<|sL (t_load 1 (iw v.ref))<|sP (pB g2 4)<|s_store 0 #[iw v.kind,iw 0,iw 0,sw eb,iw v.ref] ?_
  refine s_nt<|k_reg<|sP (pB g1 4)<|sL (t_load 1 (iw v.ref))<|sL t_cmp<|sP (.bool (decide (v.ref=0)))<|s_fork 20 (decide (v.ref=0)) (fun c8=>?_) (fun c8=>?_)
  .have p9:=dY c8;refine sK<|sK<|sK<|sP2 (.bool true)<|s_nil<|xs_block<|xs_then<|k_sr<|sP2 (.bool true)<|sL (t_loadA 1 (vc v))<|sL (t_loadA 0 #[iw v.kind,iw 0,iw 0,sw eb,iw v.ref])<|sL (t_eqS (fun w=>(eqVlT v (⟨v.kind,0,0,eb,v.ref⟩:Vl) w).1))<|sP2 (.bool (decide (v=(⟨v.kind,0,0,eb,v.ref⟩:Vl))))<|s_nt<|k_ret<|xs_fin _ _ (SI.tmp 2 SI.nil) (rr [] [0,0]) ⟨?_,rfl⟩
   refine cB ?_;first|(simp[validB,p5,p7,p9];done)|(rw[Bool.and_comm];simp[validB,p5,p7,p9];done)|(rw[Bool.eq_iff_iff];simp[validB,p5,p7,p9,and_comm,and_left_comm,and_assoc];done)
  have p10:=dF c8;refine sP (pB g1 4)<|sL (t_load 1 (iw v.ref))<|sL t_cmp<|sP2 (.bool (decide (v.ref=1)))<|s_nil<|xs_block<|xs_then<|k_cut (ι:=Unit) (fun _=>True) (fun _=>[(2,.bool ((decide (v.ref=1))&&(decide (v=(⟨v.kind,0,0,eb,v.ref⟩:Vl)))))]) (fun _=>[blkA g2 #[iw v.kind,iw 0,iw 0,sw eb,iw v.ref] 71,blkA g1 (vc v) 71]) ?_ (fun _ _=>?_)
  .refine k_reg<|sP2 (.bool (decide (v.ref=1)))<|s_fork 69 (decide (v.ref=1)) (fun c11=>?_) (fun c11=>?_)
   .have p12:=dY c11;refine sL (t_loadA 1 (vc v))<|sL (t_loadA 0 #[iw v.kind,iw 0,iw 0,sw eb,iw v.ref])<|sL (t_eqS (fun w=>(eqVlT v (⟨v.kind,0,0,eb,v.ref⟩:Vl) w).1))<|sP2 (.bool (decide (v=(⟨v.kind,0,0,eb,v.ref⟩:Vl))))<|s_nil ?_
    exact xs_cut () trivial (sub_of rfl ⟨⟨rfl,cB (by simp[c11])⟩,trivial⟩) (rr [0,0] [])
   have p13:=dF c11;refine sK<|sK<|sK<|sP2 (.bool false)<|s_nil ?_
   exact xs_cut () trivial (sub_of rfl ⟨⟨rfl,cB (by simp[c11])⟩,trivial⟩) (rr [0,0] [])
  refine k_ret<|xs_fin _ _ (SI.tmp 2 SI.nil) (rr [] [0,0]) ⟨?_,rfl⟩
  refine cB ?_;first|(simp[validB,p5,p7,p10];done)|(rw[Bool.and_comm];simp[validB,p5,p7,p10];done)|(rw[Bool.eq_iff_iff];simp[validB,p5,p7,p10,and_comm,and_left_comm,and_assoc];done)
 have p14:=dF c6;refine k_sr<|sL t_cmp<|sP (.bool (decide (v.kind=2)))<|s_nt<|k_cond (decide (v.kind=2)) (fun c15=>?_) (fun c15=>?_)
 .have p16:=dY c15;refine k_sr<|sP (pB g1 1)<|sL (t_loadA 1 #[iw v.p,iw v.q])<|sP (pB g2 1)<|s_store 0 #[iw v.kind,iw v.p,iw v.q,sw eb,iw 0] ?_
  refine s_nt<|k_reg<|sP (pB g1 1)<|sL (t_loadA 1 #[iw v.p,iw v.q])<|sV (fun _ h=>vnum_s v.p v.q)<|sP (.bool (validN v.p v.q))<|s_nil<|xs_block<|xs_then<|k_cut (ι:=Unit) (fun _=>True) (fun _=>[(2,.bool ((validN v.p v.q)&&(decide (v=(⟨v.kind,v.p,v.q,eb,0⟩:Vl)))))]) (fun _=>[blkA g2 #[iw v.kind,iw v.p,iw v.q,sw eb,iw 0] 71,blkA g1 (vc v) 71]) ?_ (fun _ _=>?_)
  .refine k_reg<|sP2 (.bool (validN v.p v.q))<|s_fork 69 (validN v.p v.q) (fun c17=>?_) (fun c17=>?_)
   .refine sL (t_loadA 1 (vc v))<|sL (t_loadA 0 #[iw v.kind,iw v.p,iw v.q,sw eb,iw 0])<|sL (t_eqS (fun w=>(eqVlT v (⟨v.kind,v.p,v.q,eb,0⟩:Vl) w).1))<|sP2 (.bool (decide (v=(⟨v.kind,v.p,v.q,eb,0⟩:Vl))))<|s_nil ?_
    exact xs_cut () trivial (sub_of rfl ⟨⟨rfl,cB (by simp[c17])⟩,trivial⟩) (rr [0,0] [])
   refine sK<|sK<|sK<|sP2 (.bool false)<|s_nil ?_
   exact xs_cut () trivial (sub_of rfl ⟨⟨rfl,cB (by simp[c17])⟩,trivial⟩) (rr [0,0] [])
  refine k_ret<|xs_fin _ _ (SI.tmp 2 SI.nil) (rr [] [0,0]) ⟨?_,rfl⟩
  refine cB ?_;first|(simp[validB,p5,p14,p16];done)|(rw[Bool.and_comm];simp[validB,p5,p14,p16];done)|(rw[Bool.eq_iff_iff];simp[validB,p5,p14,p16,and_comm,and_left_comm,and_assoc];done)
 have p18:=dF c15;refine k_sr<|sL t_cmp<|sP (.bool (decide (v.kind=3)))<|s_nt<|k_cond (decide (v.kind=3)) (fun c19=>?_) (fun c19=>?_)
 .have p20:=dY c19;refine k_sr<|sP (pB g1 3)<|sL (t_load 1 (sw v.str))<|sP (pB g2 3)<|s_store 0 #[iw v.kind,iw 0,iw 0,sw v.str,iw 0] ?_
  refine s_nt<|k_reg<|sP (pB g1 3)<|sL (t_load 1 (sw v.str))<|sL (t_kern (iw (v.str.size:Int)))<|sL t_cmp<|sP (.bool (decide ((v.str.size:Int)≤4096)))<|s_nil<|xs_block<|xs_then<|k_cut (ι:=Unit) (fun _=>True) (fun _=>[(2,.bool ((decide ((v.str.size:Int)≤4096))&&(decide (v=(⟨v.kind,0,0,v.str,0⟩:Vl)))))]) (fun _=>[blkA g2 #[iw v.kind,iw 0,iw 0,sw v.str,iw 0] 71,blkA g1 (vc v) 71]) ?_ (fun _ _=>?_)
  .refine k_reg<|sP2 (.bool (decide ((v.str.size:Int)≤4096)))<|s_fork 69 (decide ((v.str.size:Int)≤4096)) (fun c21=>?_) (fun c21=>?_)
   .have p22:=dY c21;refine sL (t_loadA 1 (vc v))<|sL (t_loadA 0 #[iw v.kind,iw 0,iw 0,sw v.str,iw 0])<|sL (t_eqS (fun w=>(eqVlT v (⟨v.kind,0,0,v.str,0⟩:Vl) w).1))<|sP2 (.bool (decide (v=(⟨v.kind,0,0,v.str,0⟩:Vl))))<|s_nil ?_
    exact xs_cut () trivial (sub_of rfl ⟨⟨rfl,cB (by simp[c21])⟩,trivial⟩) (rr [0,0] [])
   have p23:=dF c21;refine sK<|sK<|sK<|sP2 (.bool false)<|s_nil ?_
   exact xs_cut () trivial (sub_of rfl ⟨⟨rfl,cB (by simp[c21])⟩,trivial⟩) (rr [0,0] [])
  refine k_ret<|xs_fin _ _ (SI.tmp 2 SI.nil) (rr [] [0,0]) ⟨?_,rfl⟩
  refine cB ?_;first|(simp[validB,p5,p14,p18,p20];done)|(rw[Bool.and_comm];simp[validB,p5,p14,p18,p20];done)|(rw[Bool.eq_iff_iff];simp[validB,p5,p14,p18,p20,and_comm,and_left_comm,and_assoc];done)
 have p24:=dF c19;refine k_seq<|k_sr<|sL t_cmp<|sP (.bool (decide (v.kind=4)))<|s_nt<|k_cond (decide (v.kind=4)) (fun c25=>?_) (fun c25=>?_)
 .have p26:=dY c25;refine k_st<|k_true (hv:=cB c25)<|k_sr<|sP (pB g1 4)<|sL (t_load 1 (iw v.ref))<|sP (pB g2 4)<|s_store 0 #[iw v.kind,iw 0,iw 0,sw eb,iw v.ref] ?_
  refine s_nt<|k_reg<|sP (pB g1 4)<|sL (t_load 1 (iw v.ref))<|sL t_cmp<|sP (.bool (decide ((1:Int)≤v.ref)))<|s_nil<|xs_block<|xs_then<|k_cut (ι:=Unit) (fun _=>True) (fun _=>[(2,.bool ((decide ((1:Int)≤v.ref))&&(decide (v=(⟨v.kind,0,0,eb,v.ref⟩:Vl)))))]) (fun _=>[blkA g2 #[iw v.kind,iw 0,iw 0,sw eb,iw v.ref] 71,blkA g1 (vc v) 71]) ?_ (fun _ _=>?_)
  .refine k_reg<|sP2 (.bool (decide ((1:Int)≤v.ref)))<|s_fork 69 (decide ((1:Int)≤v.ref)) (fun c27=>?_) (fun c27=>?_)
   .have p28:=dY c27;refine sL (t_loadA 1 (vc v))<|sL (t_loadA 0 #[iw v.kind,iw 0,iw 0,sw eb,iw v.ref])<|sL (t_eqS (fun w=>(eqVlT v (⟨v.kind,0,0,eb,v.ref⟩:Vl) w).1))<|sP2 (.bool (decide (v=(⟨v.kind,0,0,eb,v.ref⟩:Vl))))<|s_nil ?_
    exact xs_cut () trivial (sub_of rfl ⟨⟨rfl,cB (by simp[c27])⟩,trivial⟩) (rr [0,0] [])
   have p29:=dF c27;refine sK<|sK<|sK<|sP2 (.bool false)<|s_nil ?_
   exact xs_cut () trivial (sub_of rfl ⟨⟨rfl,cB (by simp[c27])⟩,trivial⟩) (rr [0,0] [])
  refine k_ret<|xs_fin _ _ (SI.tmp 2 SI.nil) (rr [] [0,0]) ⟨?_,rfl⟩
  refine cB ?_;first|(simp[validB,p5,p14,p18,p24,p26];done)|(rw[Bool.and_comm];simp[validB,p5,p14,p18,p24,p26];done)|(rw[Bool.eq_iff_iff];simp[validB,p5,p14,p18,p24,p26,and_comm,and_left_comm,and_assoc];done)
 have p30:=dF c25;refine k_sr<|sL t_cmp<|sP (.bool (decide (v.kind=5)))<|s_nt<|k_cond (decide (v.kind=5)) (fun c31=>?_) (fun c31=>?_)
 .have p32:=dY c31;refine k_st<|k_true (hv:=cB c31)<|k_sr<|sP (pB g1 4)<|sL (t_load 1 (iw v.ref))<|sP (pB g2 4)<|s_store 0 #[iw v.kind,iw 0,iw 0,sw eb,iw v.ref] ?_
  refine s_nt<|k_reg<|sP (pB g1 4)<|sL (t_load 1 (iw v.ref))<|sL t_cmp<|sP (.bool (decide ((1:Int)≤v.ref)))<|s_nil<|xs_block<|xs_then<|k_cut (ι:=Unit) (fun _=>True) (fun _=>[(2,.bool ((decide ((1:Int)≤v.ref))&&(decide (v=(⟨v.kind,0,0,eb,v.ref⟩:Vl)))))]) (fun _=>[blkA g2 #[iw v.kind,iw 0,iw 0,sw eb,iw v.ref] 71,blkA g1 (vc v) 71]) ?_ (fun _ _=>?_)
  .refine k_reg<|sP2 (.bool (decide ((1:Int)≤v.ref)))<|s_fork 69 (decide ((1:Int)≤v.ref)) (fun c33=>?_) (fun c33=>?_)
   .have p34:=dY c33;refine sL (t_loadA 1 (vc v))<|sL (t_loadA 0 #[iw v.kind,iw 0,iw 0,sw eb,iw v.ref])<|sL (t_eqS (fun w=>(eqVlT v (⟨v.kind,0,0,eb,v.ref⟩:Vl) w).1))<|sP2 (.bool (decide (v=(⟨v.kind,0,0,eb,v.ref⟩:Vl))))<|s_nil ?_
    exact xs_cut () trivial (sub_of rfl ⟨⟨rfl,cB (by simp[c33])⟩,trivial⟩) (rr [0,0] [])
   have p35:=dF c33;refine sK<|sK<|sK<|sP2 (.bool false)<|s_nil ?_
   exact xs_cut () trivial (sub_of rfl ⟨⟨rfl,cB (by simp[c33])⟩,trivial⟩) (rr [0,0] [])
  refine k_ret<|xs_fin _ _ (SI.tmp 2 SI.nil) (rr [] [0,0]) ⟨?_,rfl⟩
  refine cB ?_;first|(simp[validB,p5,p14,p18,p24,p30,p32];done)|(rw[Bool.and_comm];simp[validB,p5,p14,p18,p24,p30,p32];done)|(rw[Bool.eq_iff_iff];simp[validB,p5,p14,p18,p24,p30,p32,and_comm,and_left_comm,and_assoc];done)
 have p36:=dF c31;refine k_sr<|sL t_cmp<|sP (.bool (decide (v.kind=7)))<|s_nt<|k_cond (decide (v.kind=7)) (fun c37=>?_) (fun c37=>?_)
 .have p38:=dY c37;refine k_st<|k_true (hv:=cB c37)<|k_sr<|sP (pB g1 4)<|sL (t_load 1 (iw v.ref))<|sP (pB g2 4)<|s_store 0 #[iw v.kind,iw 0,iw 0,sw eb,iw v.ref] ?_
  refine s_nt<|k_reg<|sP (pB g1 4)<|sL (t_load 1 (iw v.ref))<|sL t_cmp<|sP (.bool (decide ((1:Int)≤v.ref)))<|s_nil<|xs_block<|xs_then<|k_cut (ι:=Unit) (fun _=>True) (fun _=>[(2,.bool ((decide ((1:Int)≤v.ref))&&(decide (v=(⟨v.kind,0,0,eb,v.ref⟩:Vl)))))]) (fun _=>[blkA g2 #[iw v.kind,iw 0,iw 0,sw eb,iw v.ref] 71,blkA g1 (vc v) 71]) ?_ (fun _ _=>?_)
  .refine k_reg<|sP2 (.bool (decide ((1:Int)≤v.ref)))<|s_fork 69 (decide ((1:Int)≤v.ref)) (fun c39=>?_) (fun c39=>?_)
   .have p40:=dY c39;refine sL (t_loadA 1 (vc v))<|sL (t_loadA 0 #[iw v.kind,iw 0,iw 0,sw eb,iw v.ref])<|sL (t_eqS (fun w=>(eqVlT v (⟨v.kind,0,0,eb,v.ref⟩:Vl) w).1))<|sP2 (.bool (decide (v=(⟨v.kind,0,0,eb,v.ref⟩:Vl))))<|s_nil ?_
    exact xs_cut () trivial (sub_of rfl ⟨⟨rfl,cB (by simp[c39])⟩,trivial⟩) (rr [0,0] [])
   have p41:=dF c39;refine sK<|sK<|sK<|sP2 (.bool false)<|s_nil ?_
   exact xs_cut () trivial (sub_of rfl ⟨⟨rfl,cB (by simp[c39])⟩,trivial⟩) (rr [0,0] [])
  refine k_ret<|xs_fin _ _ (SI.tmp 2 SI.nil) (rr [] [0,0]) ⟨?_,rfl⟩
  refine cB ?_;first|(simp[validB,p5,p14,p18,p24,p30,p36,p38];done)|(rw[Bool.and_comm];simp[validB,p5,p14,p18,p24,p30,p36,p38];done)|(rw[Bool.eq_iff_iff];simp[validB,p5,p14,p18,p24,p30,p36,p38,and_comm,and_left_comm,and_assoc];done)
 have p42:=dF c37;refine k_reg<|sL t_cmp<|sP (.bool (decide (v.kind=8)))<|s_nt<|k_cond (decide (v.kind=8)) (fun c43=>?_) (fun c43=>?_)
 .have p44:=dY c43;refine k_sr<|sP (pB g1 4)<|sL (t_load 1 (iw v.ref))<|sP (pB g2 4)<|s_store 0 #[iw v.kind,iw 0,iw 0,sw eb,iw v.ref] ?_
  refine s_nt<|k_reg<|sP (pB g1 4)<|sL (t_load 1 (iw v.ref))<|sL t_cmp<|sP (.bool (decide ((1:Int)≤v.ref)))<|s_nil<|xs_block<|xs_then<|k_cut (ι:=Unit) (fun _=>True) (fun _=>[(2,.bool ((decide ((1:Int)≤v.ref))&&(decide (v=(⟨v.kind,0,0,eb,v.ref⟩:Vl)))))]) (fun _=>[blkA g2 #[iw v.kind,iw 0,iw 0,sw eb,iw v.ref] 71,blkA g1 (vc v) 71]) ?_ (fun _ _=>?_)
  .refine k_reg<|sP2 (.bool (decide ((1:Int)≤v.ref)))<|s_fork 69 (decide ((1:Int)≤v.ref)) (fun c45=>?_) (fun c45=>?_)
   .have p46:=dY c45;refine sL (t_loadA 1 (vc v))<|sL (t_loadA 0 #[iw v.kind,iw 0,iw 0,sw eb,iw v.ref])<|sL (t_eqS (fun w=>(eqVlT v (⟨v.kind,0,0,eb,v.ref⟩:Vl) w).1))<|sP2 (.bool (decide (v=(⟨v.kind,0,0,eb,v.ref⟩:Vl))))<|s_nil ?_
    exact xs_cut () trivial (sub_of rfl ⟨⟨rfl,cB (by simp[c45])⟩,trivial⟩) (rr [0,0] [])
   have p47:=dF c45;refine sK<|sK<|sK<|sP2 (.bool false)<|s_nil ?_
   exact xs_cut () trivial (sub_of rfl ⟨⟨rfl,cB (by simp[c45])⟩,trivial⟩) (rr [0,0] [])
  refine k_ret<|xs_fin _ _ (SI.tmp 2 SI.nil) (rr [] [0,0]) ⟨?_,rfl⟩
  refine cB ?_;first|(simp[validB,p5,p14,p18,p24,p30,p36,p42,p44];done)|(rw[Bool.and_comm];simp[validB,p5,p14,p18,p24,p30,p36,p42,p44];done)|(rw[Bool.eq_iff_iff];simp[validB,p5,p14,p18,p24,p30,p36,p42,p44,and_comm,and_left_comm,and_assoc];done)
 have p48:=dF c43;refine k_sr<|sL t_cmp<|sP (.bool (decide (v.kind=6)))<|s_nt<|k_cond (decide (v.kind=6)) (fun c49=>?_) (fun c49=>?_)
 .have p50:=dY c49;refine k_sr<|sP (pB g1 3)<|sL (t_load 1 (sw v.str))<|sP (pB g2 3)<|s_store 0 #[iw v.kind,iw 0,iw 0,sw v.str,iw 0] ?_
  refine s_nt<|k_reg<|sP (pB g1 3)<|sL (t_load 1 (sw v.str))<|sL (t_kern (iw (v.str.size:Int)))<|sL t_cmp<|sP (.bool (decide ((1:Int)≤(v.str.size:Int))))<|s_fork 62 (decide ((1:Int)≤(v.str.size:Int))) (fun c51=>?_) (fun c51=>?_)
  .have p52:=dY c51;refine sP (pB g1 3)<|sL (t_load 1 (sw v.str))<|sL (t_kern (iw (v.str.size:Int)))<|sL t_cmp<|sP2 (.bool (decide ((v.str.size:Int)≤4096)))<|s_nil<|xs_block<|xs_then<|k_cut (ι:=Unit) (fun _=>True) (fun _=>[(2,.bool ((decide ((v.str.size:Int)≤4096))&&(decide (v=(⟨v.kind,0,0,v.str,0⟩:Vl)))))]) (fun _=>[blkA g2 #[iw v.kind,iw 0,iw 0,sw v.str,iw 0] 71,blkA g1 (vc v) 71]) ?_ (fun _ _=>?_)
   .refine k_reg<|sP2 (.bool (decide ((v.str.size:Int)≤4096)))<|s_fork 69 (decide ((v.str.size:Int)≤4096)) (fun c53=>?_) (fun c53=>?_)
    .have p54:=dY c53;refine sL (t_loadA 1 (vc v))<|sL (t_loadA 0 #[iw v.kind,iw 0,iw 0,sw v.str,iw 0])<|sL (t_eqS (fun w=>(eqVlT v (⟨v.kind,0,0,v.str,0⟩:Vl) w).1))<|sP2 (.bool (decide (v=(⟨v.kind,0,0,v.str,0⟩:Vl))))<|s_nil ?_
     exact xs_cut () trivial (sub_of rfl ⟨⟨rfl,cB (by simp[c53])⟩,trivial⟩) (rr [0,0] [])
    have p55:=dF c53;refine sK<|sK<|sK<|sP2 (.bool false)<|s_nil ?_
    exact xs_cut () trivial (sub_of rfl ⟨⟨rfl,cB (by simp[c53])⟩,trivial⟩) (rr [0,0] [])
   refine k_ret<|xs_fin _ _ (SI.tmp 2 SI.nil) (rr [] [0,0]) ⟨?_,rfl⟩
   refine cB ?_;first|(simp[validB,p5,p14,p18,p24,p30,p36,p42,p48,p50,p52];done)|(rw[Bool.and_comm];simp[validB,p5,p14,p18,p24,p30,p36,p42,p48,p50,p52];done)|(rw[Bool.eq_iff_iff];simp[validB,p5,p14,p18,p24,p30,p36,p42,p48,p50,p52,and_comm,and_left_comm,and_assoc];done)
  have p56:=dF c51;refine sK<|sK<|sK<|sK<|sP2 (.bool false)<|s_nil<|xs_block<|xs_then<|k_sr<|sP2 (.bool false)<|sK<|sK<|sK<|sP2 (.bool false)<|s_nt<|k_ret<|xs_fin _ _ (SI.tmp 2 SI.nil) (rr [] [0,0]) ⟨?_,rfl⟩
  refine cB ?_;first|(simp[validB,p5,p14,p18,p24,p30,p36,p42,p48,p50,p56];done)|(rw[Bool.and_comm];simp[validB,p5,p14,p18,p24,p30,p36,p42,p48,p50,p56];done)|(rw[Bool.eq_iff_iff];simp[validB,p5,p14,p18,p24,p30,p36,p42,p48,p50,p56,and_comm,and_left_comm,and_assoc];done)
 have p57:=dF c49;refine k_reg<|sP (.bool false)<|s_nil<|xs_block<|xs_then<|k_sr<|sP2 (.bool false)<|sK<|sK<|sK<|sP2 (.bool false)<|s_nt<|k_ret<|xs_fin _ _ (SI.tmp 2 SI.nil) (rr [] [0,0]) ⟨?_,rfl⟩
 refine cB ?_;first|(simp[validB,p5,p14,p18,p24,p30,p36,p42,p48,p57];done)|(rw[Bool.and_comm];simp[validB,p5,p14,p18,p24,p30,p36,p42,p48,p57];done)|(rw[Bool.eq_iff_iff];simp[validB,p5,p14,p18,p24,p30,p36,p42,p48,p57,and_comm,and_left_comm,and_assoc];done)
theorem rvalid_s{Z:Zone}(v:Vl):SF Tryz.prog 146 #[v.v] Z [] fun r Bs=>r=.bool (validB v)∧Bs=[]:=by
 refine sf_enter Tryz.func146 88 [(0,.agg (vc v))] (fun w0=>?_);refine k_sr<|s_box (vc v) (fun g1=>?_)
 refine sP (.bool false)<|s_nt<|k_seq<|k_sr<|sP (pB g1 0)<|sL (t_load 0 (iw v.kind))<|s_nt<|k_block<|k_sr<|sL t_cmp<|sP (.bool (decide (v.kind=0)))<|s_nt<|k_cond (decide (v.kind=0)) (fun c2=>?_) (fun c2=>?_)
 .have p3:=dY c2;refine k_sr<|sL (t_loadA 0 (vc v))<|sL (t_kern (.agg zc))<|sL (t_eqS (fun w=>(eqVlT v (⟨0,0,0,eb,0⟩:Vl) w).1))<|sP (.bool (decide (v=(⟨0,0,0,eb,0⟩:Vl))))<|s_nt<|k_ret<|xs_retBlock<|xs_ret<|xs_fin _ _ (SI.tmp 2 SI.nil) (rr [] [0]) ⟨?_,rfl⟩
  refine cB ?_;first|(simp[validB,p3];done)|(rw[Bool.and_comm];simp[validB,p3];done)|(rw[Bool.eq_iff_iff];simp[validB,p3,and_comm,and_left_comm,and_assoc];done)
 have p4:=dF c2;refine k_sr<|sL t_cmp<|sP (.bool (decide (v.kind=1)))<|s_nt<|k_cond (decide (v.kind=1)) (fun c5=>?_) (fun c5=>?_)
 .have p6:=dY c5;refine k_cut (ι:=Unit) (fun _=>True) (fun _=>[(2,.bool ((decide (v=(⟨1,0,0,eb,v.ref⟩:Vl)))&&((decide (v.ref=0))||(decide (v.ref=1)))))]) (fun _=>[blkA g1 (vc v) 71]) ?_ (fun _ _=>?_)
  .refine k_reg<|sL (t_loadA 0 (vc v))<|sP (pB g1 4)<|sL (t_load 0 (iw v.ref))<|sL (t_kern (.agg #[iw 1,iw 0,iw 0,sw eb,iw v.ref]))<|sL (t_eqS (fun w=>(eqVlT v (⟨1,0,0,eb,v.ref⟩:Vl) w).1))<|sP (.bool (decide (v=(⟨1,0,0,eb,v.ref⟩:Vl))))<|s_fork 17 (decide (v=(⟨1,0,0,eb,v.ref⟩:Vl))) (fun c7=>?_) (fun c7=>?_)
   .have p8:=dY c7;refine sP (pB g1 4)<|sL (t_load 0 (iw v.ref))<|sL t_cmp<|sP (.bool (decide (v.ref=0)))<|s_fork 21 (decide (v.ref=0)) (fun c9=>?_) (fun c9=>?_)
    .have p10:=dY c9;refine sK<|sK<|sK<|sP3 (.bool true)<|s_nil ?_
     exact xs_cut () trivial (sub_of rfl ⟨⟨rfl,cB (by simp[c7,c9])⟩,trivial⟩) (rr [0] [])
    have p11:=dF c9;refine sP (pB g1 4)<|sL (t_load 0 (iw v.ref))<|sL t_cmp<|sP3 (.bool (decide (v.ref=1)))<|s_nil ?_
    exact xs_cut () trivial (sub_of rfl ⟨⟨rfl,cB (by simp[c7,c9])⟩,trivial⟩) (rr [0] [])
   have p12:=dF c7;refine sK<|sK<|sK<|sK<|sK<|sK<|sK<|sK<|sP2 (.bool false)<|s_nil ?_
   exact xs_cut () trivial (sub_of rfl ⟨⟨rfl,cB (by simp[c7])⟩,trivial⟩) (rr [0] [])
  refine k_ret<|xs_retBlock<|xs_ret<|xs_fin _ _ (SI.tmp 2 SI.nil) (rr [] [0]) ⟨?_,rfl⟩
  refine cB ?_;first|(simp[validB,p4,p6];done)|(rw[Bool.and_comm];simp[validB,p4,p6];done)|(rw[Bool.eq_iff_iff];simp[validB,p4,p6,and_comm,and_left_comm,and_assoc];done)
 have p13:=dF c5;refine k_sr<|sL t_cmp<|sP (.bool (decide (v.kind=2)))<|s_nt<|k_cond (decide (v.kind=2)) (fun c14=>?_) (fun c14=>?_)
 .have p15:=dY c14;refine k_cut (ι:=Unit) (fun _=>True) (fun _=>[(2,.bool ((decide (v=(⟨2,v.p,v.q,eb,0⟩:Vl)))&&(validN v.p v.q)))]) (fun _=>[blkA g1 (vc v) 71]) ?_ (fun _ _=>?_)
  .refine k_reg<|sL (t_loadA 0 (vc v))<|sP (pB g1 1)<|sL (t_loadA 0 #[iw v.p,iw v.q])<|sL (t_kern (.agg #[iw 2,iw v.p,iw v.q,sw eb,iw 0]))<|sL (t_eqS (fun w=>(eqVlT v (⟨2,v.p,v.q,eb,0⟩:Vl) w).1))<|sP (.bool (decide (v=(⟨2,v.p,v.q,eb,0⟩:Vl))))<|s_fork 34 (decide (v=(⟨2,v.p,v.q,eb,0⟩:Vl))) (fun c16=>?_) (fun c16=>?_)
   .have p17:=dY c16;refine sP (pB g1 1)<|sL (t_loadA 0 #[iw v.p,iw v.q])<|sV (fun _ h=>rvnum_s v.p v.q)<|sP2 (.bool (validN v.p v.q))<|s_nil ?_
    exact xs_cut () trivial (sub_of rfl ⟨⟨rfl,cB (by simp[c16])⟩,trivial⟩) (rr [0] [])
   have p18:=dF c16;refine sK<|sK<|sK<|sP2 (.bool false)<|s_nil ?_
   exact xs_cut () trivial (sub_of rfl ⟨⟨rfl,cB (by simp[c16])⟩,trivial⟩) (rr [0] [])
  refine k_ret<|xs_retBlock<|xs_ret<|xs_fin _ _ (SI.tmp 2 SI.nil) (rr [] [0]) ⟨?_,rfl⟩
  refine cB ?_;first|(simp[validB,p4,p13,p15];done)|(rw[Bool.and_comm];simp[validB,p4,p13,p15];done)|(rw[Bool.eq_iff_iff];simp[validB,p4,p13,p15,and_comm,and_left_comm,and_assoc];done)
 have p19:=dF c14;refine k_sr<|sL t_cmp<|sP (.bool (decide (v.kind=3)))<|s_nt<|k_cond (decide (v.kind=3)) (fun c20=>?_) (fun c20=>?_)
 .have p21:=dY c20;refine k_cut (ι:=Unit) (fun _=>True) (fun _=>[(2,.bool ((decide ((v.str.size:Int)≤4096))&&(decide (v=(⟨3,0,0,v.str,0⟩:Vl)))))]) (fun _=>[blkA g1 (vc v) 71]) ?_ (fun _ _=>?_)
  .refine k_reg<|sP (pB g1 3)<|sL (t_load 0 (sw v.str))<|sL (t_kern (iw (v.str.size:Int)))<|sL t_cmp<|sP (.bool (decide ((v.str.size:Int)≤4096)))<|s_fork 45 (decide ((v.str.size:Int)≤4096)) (fun c22=>?_) (fun c22=>?_)
   .have p23:=dY c22;refine sL (t_loadA 0 (vc v))<|sP (pB g1 3)<|sL (t_load 0 (sw v.str))<|sL (t_kern (.agg #[iw 3,iw 0,iw 0,sw v.str,iw 0]))<|sL (t_eqS (fun w=>(eqVlT v (⟨3,0,0,v.str,0⟩:Vl) w).1))<|sP2 (.bool (decide (v=(⟨3,0,0,v.str,0⟩:Vl))))<|s_nil ?_
    exact xs_cut () trivial (sub_of rfl ⟨⟨rfl,cB (by simp[c22])⟩,trivial⟩) (rr [0] [])
   have p24:=dF c22;refine sK<|sK<|sK<|sK<|sK<|sP2 (.bool false)<|s_nil ?_
   exact xs_cut () trivial (sub_of rfl ⟨⟨rfl,cB (by simp[c22])⟩,trivial⟩) (rr [0] [])
  refine k_ret<|xs_retBlock<|xs_ret<|xs_fin _ _ (SI.tmp 2 SI.nil) (rr [] [0]) ⟨?_,rfl⟩
  refine cB ?_;first|(simp[validB,p4,p13,p19,p21];done)|(rw[Bool.and_comm];simp[validB,p4,p13,p19,p21];done)|(rw[Bool.eq_iff_iff];simp[validB,p4,p13,p19,p21,and_comm,and_left_comm,and_assoc];done)
 have p25:=dF c20;refine k_sr<|sL t_cmp<|sP (.bool (decide (v.kind=6)))<|s_nt<|k_cond (decide (v.kind=6)) (fun c26=>?_) (fun c26=>?_)
 .have p27:=dY c26;refine k_cut (ι:=Unit) (fun _=>True) (fun _=>[(2,.bool ((decide ((1:Int)≤(v.str.size:Int)))&&((decide ((v.str.size:Int)≤4096))&&(decide (v=(⟨6,0,0,v.str,0⟩:Vl))))))]) (fun _=>[blkA g1 (vc v) 71]) ?_ (fun _ _=>?_)
  .refine k_reg<|sP (pB g1 3)<|sL (t_load 0 (sw v.str))<|sL (t_kern (iw (v.str.size:Int)))<|sL t_cmp<|sP (.bool (decide ((1:Int)≤(v.str.size:Int))))<|s_fork 58 (decide ((1:Int)≤(v.str.size:Int))) (fun c28=>?_) (fun c28=>?_)
   .have p29:=dY c28;refine sP (pB g1 3)<|sL (t_load 0 (sw v.str))<|sL (t_kern (iw (v.str.size:Int)))<|sL t_cmp<|sP2 (.bool (decide ((v.str.size:Int)≤4096)))<|s_fork 64 (decide ((v.str.size:Int)≤4096)) (fun c30=>?_) (fun c30=>?_)
    .have p31:=dY c30;refine sL (t_loadA 0 (vc v))<|sP (pB g1 3)<|sL (t_load 0 (sw v.str))<|sL (t_kern (.agg #[iw 6,iw 0,iw 0,sw v.str,iw 0]))<|sL (t_eqS (fun w=>(eqVlT v (⟨6,0,0,v.str,0⟩:Vl) w).1))<|sP2 (.bool (decide (v=(⟨6,0,0,v.str,0⟩:Vl))))<|s_nil ?_
     exact xs_cut () trivial (sub_of rfl ⟨⟨rfl,cB (by simp[c28,c30])⟩,trivial⟩) (rr [0] [])
    have p32:=dF c30;refine sK<|sK<|sK<|sK<|sK<|sP2 (.bool false)<|s_nil ?_
    exact xs_cut () trivial (sub_of rfl ⟨⟨rfl,cB (by simp[c28,c30])⟩,trivial⟩) (rr [0] [])
   have p33:=dF c28;refine sK<|sK<|sK<|sK<|sP2 (.bool false)<|sK<|sK<|sK<|sK<|sK<|sP2 (.bool false)<|s_nil ?_
   exact xs_cut () trivial (sub_of rfl ⟨⟨rfl,cB (by simp[c28])⟩,trivial⟩) (rr [0] [])
  refine k_ret<|xs_retBlock<|xs_ret<|xs_fin _ _ (SI.tmp 2 SI.nil) (rr [] [0]) ⟨?_,rfl⟩
  refine cB ?_;first|(simp[validB,p4,p13,p19,p25,p27];done)|(rw[Bool.and_comm];simp[validB,p4,p13,p19,p25,p27];done)|(rw[Bool.eq_iff_iff];simp[validB,p4,p13,p19,p25,p27,and_comm,and_left_comm,and_assoc];done)
 have p34:=dF c26;refine k_seq<|k_sr<|sL t_cmp<|sP (.bool (decide (v.kind=4)))<|s_nt<|k_cond (decide (v.kind=4)) (fun c35=>?_) (fun c35=>?_)
 .have p36:=dY c35;refine k_st<|k_true (hv:=cB c35)<|k_cut (ι:=Unit) (fun _=>True) (fun _=>[(2,.bool ((decide (v=(⟨v.kind,0,0,eb,v.ref⟩:Vl)))&&(decide ((1:Int)≤v.ref))))]) (fun _=>[blkA g1 (vc v) 71]) ?_ (fun _ _=>?_)
  .refine k_reg<|sL (t_loadA 0 (vc v))<|sP (pB g1 0)<|sL (t_load 0 (iw v.kind))<|sP (pB g1 4)<|sL (t_load 0 (iw v.ref))<|sL (t_kern (.agg #[iw v.kind,iw 0,iw 0,sw eb,iw v.ref]))<|sL (t_eqS (fun w=>(eqVlT v (⟨v.kind,0,0,eb,v.ref⟩:Vl) w).1))<|sP (.bool (decide (v=(⟨v.kind,0,0,eb,v.ref⟩:Vl))))<|s_fork 83 (decide (v=(⟨v.kind,0,0,eb,v.ref⟩:Vl))) (fun c37=>?_) (fun c37=>?_)
   .have p38:=dY c37;refine sP (pB g1 4)<|sL (t_load 0 (iw v.ref))<|sL t_cmp<|sP2 (.bool (decide ((1:Int)≤v.ref)))<|s_nil ?_
    exact xs_cut () trivial (sub_of rfl ⟨⟨rfl,cB (by simp[c37])⟩,trivial⟩) (rr [0] [])
   have p39:=dF c37;refine sK<|sK<|sK<|sP2 (.bool false)<|s_nil ?_
   exact xs_cut () trivial (sub_of rfl ⟨⟨rfl,cB (by simp[c37])⟩,trivial⟩) (rr [0] [])
  refine k_ret<|xs_retBlock<|xs_ret<|xs_fin _ _ (SI.tmp 2 SI.nil) (rr [] [0]) ⟨?_,rfl⟩
  refine cB ?_;first|(simp[validB,p4,p13,p19,p25,p34,p36];done)|(rw[Bool.and_comm];simp[validB,p4,p13,p19,p25,p34,p36];done)|(rw[Bool.eq_iff_iff];simp[validB,p4,p13,p19,p25,p34,p36,and_comm,and_left_comm,and_assoc];done)
 have p40:=dF c35;refine k_sr<|sL t_cmp<|sP (.bool (decide (v.kind=5)))<|s_nt<|k_cond (decide (v.kind=5)) (fun c41=>?_) (fun c41=>?_)
 .have p42:=dY c41;refine k_st<|k_true (hv:=cB c41)<|k_cut (ι:=Unit) (fun _=>True) (fun _=>[(2,.bool ((decide (v=(⟨v.kind,0,0,eb,v.ref⟩:Vl)))&&(decide ((1:Int)≤v.ref))))]) (fun _=>[blkA g1 (vc v) 71]) ?_ (fun _ _=>?_)
  .refine k_reg<|sL (t_loadA 0 (vc v))<|sP (pB g1 0)<|sL (t_load 0 (iw v.kind))<|sP (pB g1 4)<|sL (t_load 0 (iw v.ref))<|sL (t_kern (.agg #[iw v.kind,iw 0,iw 0,sw eb,iw v.ref]))<|sL (t_eqS (fun w=>(eqVlT v (⟨v.kind,0,0,eb,v.ref⟩:Vl) w).1))<|sP (.bool (decide (v=(⟨v.kind,0,0,eb,v.ref⟩:Vl))))<|s_fork 83 (decide (v=(⟨v.kind,0,0,eb,v.ref⟩:Vl))) (fun c43=>?_) (fun c43=>?_)
   .have p44:=dY c43;refine sP (pB g1 4)<|sL (t_load 0 (iw v.ref))<|sL t_cmp<|sP2 (.bool (decide ((1:Int)≤v.ref)))<|s_nil ?_
    exact xs_cut () trivial (sub_of rfl ⟨⟨rfl,cB (by simp[c43])⟩,trivial⟩) (rr [0] [])
   have p45:=dF c43;refine sK<|sK<|sK<|sP2 (.bool false)<|s_nil ?_
   exact xs_cut () trivial (sub_of rfl ⟨⟨rfl,cB (by simp[c43])⟩,trivial⟩) (rr [0] [])
  refine k_ret<|xs_retBlock<|xs_ret<|xs_fin _ _ (SI.tmp 2 SI.nil) (rr [] [0]) ⟨?_,rfl⟩
  refine cB ?_;first|(simp[validB,p4,p13,p19,p25,p34,p40,p42];done)|(rw[Bool.and_comm];simp[validB,p4,p13,p19,p25,p34,p40,p42];done)|(rw[Bool.eq_iff_iff];simp[validB,p4,p13,p19,p25,p34,p40,p42,and_comm,and_left_comm,and_assoc];done)
 have p46:=dF c41;refine k_sr<|sL t_cmp<|sP (.bool (decide (v.kind=7)))<|s_nt<|k_cond (decide (v.kind=7)) (fun c47=>?_) (fun c47=>?_)
 .have p48:=dY c47;refine k_st<|k_true (hv:=cB c47)<|k_cut (ι:=Unit) (fun _=>True) (fun _=>[(2,.bool ((decide (v=(⟨v.kind,0,0,eb,v.ref⟩:Vl)))&&(decide ((1:Int)≤v.ref))))]) (fun _=>[blkA g1 (vc v) 71]) ?_ (fun _ _=>?_)
  .refine k_reg<|sL (t_loadA 0 (vc v))<|sP (pB g1 0)<|sL (t_load 0 (iw v.kind))<|sP (pB g1 4)<|sL (t_load 0 (iw v.ref))<|sL (t_kern (.agg #[iw v.kind,iw 0,iw 0,sw eb,iw v.ref]))<|sL (t_eqS (fun w=>(eqVlT v (⟨v.kind,0,0,eb,v.ref⟩:Vl) w).1))<|sP (.bool (decide (v=(⟨v.kind,0,0,eb,v.ref⟩:Vl))))<|s_fork 83 (decide (v=(⟨v.kind,0,0,eb,v.ref⟩:Vl))) (fun c49=>?_) (fun c49=>?_)
   .have p50:=dY c49;refine sP (pB g1 4)<|sL (t_load 0 (iw v.ref))<|sL t_cmp<|sP2 (.bool (decide ((1:Int)≤v.ref)))<|s_nil ?_
    exact xs_cut () trivial (sub_of rfl ⟨⟨rfl,cB (by simp[c49])⟩,trivial⟩) (rr [0] [])
   have p51:=dF c49;refine sK<|sK<|sK<|sP2 (.bool false)<|s_nil ?_
   exact xs_cut () trivial (sub_of rfl ⟨⟨rfl,cB (by simp[c49])⟩,trivial⟩) (rr [0] [])
  refine k_ret<|xs_retBlock<|xs_ret<|xs_fin _ _ (SI.tmp 2 SI.nil) (rr [] [0]) ⟨?_,rfl⟩
  refine cB ?_;first|(simp[validB,p4,p13,p19,p25,p34,p40,p46,p48];done)|(rw[Bool.and_comm];simp[validB,p4,p13,p19,p25,p34,p40,p46,p48];done)|(rw[Bool.eq_iff_iff];simp[validB,p4,p13,p19,p25,p34,p40,p46,p48,and_comm,and_left_comm,and_assoc];done)
 have p52:=dF c47;refine k_reg<|sL t_cmp<|sP (.bool (decide (v.kind=8)))<|s_nt<|k_cond (decide (v.kind=8)) (fun c53=>?_) (fun c53=>?_)
 .have p54:=dY c53;refine k_cut (ι:=Unit) (fun _=>True) (fun _=>[(2,.bool ((decide (v=(⟨v.kind,0,0,eb,v.ref⟩:Vl)))&&(decide ((1:Int)≤v.ref))))]) (fun _=>[blkA g1 (vc v) 71]) ?_ (fun _ _=>?_)
  .refine k_reg<|sL (t_loadA 0 (vc v))<|sP (pB g1 0)<|sL (t_load 0 (iw v.kind))<|sP (pB g1 4)<|sL (t_load 0 (iw v.ref))<|sL (t_kern (.agg #[iw v.kind,iw 0,iw 0,sw eb,iw v.ref]))<|sL (t_eqS (fun w=>(eqVlT v (⟨v.kind,0,0,eb,v.ref⟩:Vl) w).1))<|sP (.bool (decide (v=(⟨v.kind,0,0,eb,v.ref⟩:Vl))))<|s_fork 83 (decide (v=(⟨v.kind,0,0,eb,v.ref⟩:Vl))) (fun c55=>?_) (fun c55=>?_)
   .have p56:=dY c55;refine sP (pB g1 4)<|sL (t_load 0 (iw v.ref))<|sL t_cmp<|sP2 (.bool (decide ((1:Int)≤v.ref)))<|s_nil ?_
    exact xs_cut () trivial (sub_of rfl ⟨⟨rfl,cB (by simp[c55])⟩,trivial⟩) (rr [0] [])
   have p57:=dF c55;refine sK<|sK<|sK<|sP2 (.bool false)<|s_nil ?_
   exact xs_cut () trivial (sub_of rfl ⟨⟨rfl,cB (by simp[c55])⟩,trivial⟩) (rr [0] [])
  refine k_ret<|xs_retBlock<|xs_ret<|xs_fin _ _ (SI.tmp 2 SI.nil) (rr [] [0]) ⟨?_,rfl⟩
  refine cB ?_;first|(simp[validB,p4,p13,p19,p25,p34,p40,p46,p52,p54];done)|(rw[Bool.and_comm];simp[validB,p4,p13,p19,p25,p34,p40,p46,p52,p54];done)|(rw[Bool.eq_iff_iff];simp[validB,p4,p13,p19,p25,p34,p40,p46,p52,p54,and_comm,and_left_comm,and_assoc];done)
 have p58:=dF c53;refine k_skip<|xs_block<|xs_then<|k_sr<|sP (.bool false)<|s_nt<|k_ret<|xs_fin _ _ (SI.tmp 2 SI.nil) (rr [] [0]) ⟨?_,rfl⟩
 refine cB ?_;first|(simp[validB,p4,p13,p19,p25,p34,p40,p46,p52,p58];done)|(rw[Bool.and_comm];simp[validB,p4,p13,p19,p25,p34,p40,p46,p52,p58];done)|(rw[Bool.eq_iff_iff];simp[validB,p4,p13,p19,p25,p34,p40,p46,p52,p58,and_comm,and_left_comm,and_assoc];done)
def omA(b:Nat)(S:List Slt):Asr:=exA fun sv=>exA fun mb=>exA fun m=>stA (OInv S∧Agr m S) [blkA b #[sv,.map (some mb),iw (cnt S:Int)] 225,own SltT sv S,mpA vK nV mb m]
theorem om_open{b:Nat}{S:List Slt}{Z:Zone}{F:List Asr}{H:Heap}(h:Holds Z (omA b S::F) H):∃(sv:Value) (mb:Nat) (m:List (Vl×Nat)),(OInv S∧Agr m S)∧Holds Z (blkA b #[sv,.map (some mb),iw (cnt S:Int)] 225::own SltT sv S::mpA vK nV mb m::F) H:=by
 obtain⟨sv,h⟩:=h.open_ex;obtain⟨mb,h⟩:=h.open_ex;obtain⟨m,h⟩:=h.open_ex;exact⟨sv,mb,m,h.open_st⟩
theorem om_shut{b:Nat}{S:List Slt}{Z:Zone}{F:List Asr}{H:Heap}{sv:Value}{mb:Nat}{m:List (Vl×Nat)}{n:Int}(hp:(OInv S∧Agr m S)∧n=(cnt S:Int))(h:Holds Z (blkA b #[sv,.map (some mb),iw n] 225::own SltT sv S::mpA vK nV mb m::F) H):Holds Z (omA b S::F) H:=by
 obtain⟨h1,rfl⟩:=hp;exact Holds.shut_ex sv (Holds.shut_ex mb (Holds.shut_ex m (Holds.shut_st h1 h)))
theorem om_inv{b:Nat}{S:List Slt}{Z:Zone}{F:List Asr}{H:Heap}(h:Holds Z (omA b S::F) H):OInv S:=by
 obtain⟨_,_,_,h,_⟩:=om_open h;exact h.1
theorem omnew_s{Z:Zone}:SF Tryz.prog 136 #[] Z [] fun r Bs=>∃b,r=.pointer (some ⟨b,0,none⟩)∧Bs=[omA b []]:=by
 refine sf_enter Tryz.func136 4 [] (fun w0=>?_);refine k_sr<|sP (.pointer none)<|s_nr<|s_makeMap vK nV (fun b1=>?_)
 refine sL (t_kern (.agg #[nS,.map (some b1),iw 0]))<|s_box #[nS,.map (some b1),iw 0] (fun g2=>?_)
 refine sP (pB g2 0)<|s_nt<|k_ret<|xs_fin _ _ (SI.tmp 0 SI.nil) (fun _ h=>om_shut (b:=g2) (sv:=nS) ⟨⟨OInv.nil,agr_nil⟩,rfl⟩ ((Holds.nilS (T:=SltT) h).re [1,0] [])) ⟨g2,rfl,rfl⟩
theorem omget_s{Z:Zone}{F:List Asr}{b:Nat}{S:List Slt}(k:Vl):SF Tryz.prog 234 #[.pointer (some ⟨b,0,none⟩),k.v] Z (omA b S::F) fun r Bs=>r=(oget S k).v∧Bs=omA b S::F:=by
 refine sf_enter Tryz.func234 30 [(0,pB b 0),(1,.agg (vc k))] (fun w0=>?_);refine k_sr<|s_box (vc k) (fun g1=>?_)
 refine s_alloc (.agg zc) zc (fun g2=>?_);refine s_nt<|k_seq<|k_sr<|sP (pB b 0)<|sP (.bool false)<|s_nt<|k_false<|k_st<|k_seq<|k_draw<|sP2 (pB b 0)<|sP (pB b 1)<|s_mem3 (fun H h=>om_open (h.re [2] [])) (fun sv3 mb4 m5 hw=>?_)
 obtain⟨hinv6,hag7⟩:=hw;refine sL (t_load 0 (.map (some mb4)))<|sL (t_loadA 4 (vc k)) ?_
 rcases last_cases hag7 hinv6 k with ⟨hl8,hm9,ht10,hg11⟩|⟨i12,s13,hl14,hm15,hs16,hk17,hg18,ht19⟩
 .refine sL (Lt.to (v':=.tuple #[iw 0,.bool false]) (t_lookupOk 2 vK_ok Tryz.underlying222 (iw 0) k) (by rw[hm9];rfl))<|sP (.tuple #[iw 0,.bool false])<|sP (iw 0)<|sP (.bool false)<|sP (iw 0)<|sP (.bool false)<|s_nil<|x_dynS (fun _ h=>by kernel_rfl) ?_
  refine xs_then<|k_seq<|k_sr<|sP (.bool false)<|sP (.bool true)<|s_nt<|k_true<|k_sr<|sL (t_kern (.agg zc))<|s_store 3 zc ?_
  refine s_nt<|k_ret<|xs_ret<|xs_mem (fun _ h=>om_shut (S:=S) (n:=(cnt S:Int)) ⟨⟨hinv6,hag7⟩,rfl⟩ (h.re [0,0,0] [])) ?_
  refine xs_fin [.agg zc] (omA b S::F) (SI.agg 4 71 1 SI.nil) (rr [0] [1,1]) ⟨?_,rfl⟩;exact (congrArg Vl.v hg11).symm
 have hlt20:i12<S.length:=(List.getElem?_eq_some_iff.1 hs16).1;refine sL (Lt.to (v':=.tuple #[iw (i12:Int),.bool true]) (t_lookupOk 2 vK_ok Tryz.underlying222 (iw 0) k) (by rw[hm15];rfl))<|sP (.tuple #[iw (i12:Int),.bool true])<|sP (iw (i12:Int))<|sP (.bool true)<|sP (iw (i12:Int))<|sP (.bool true)<|s_nil<|x_dynS (fun _ h=>by kernel_rfl) ?_
 refine xs_then<|k_seq<|k_sr<|sP (.bool true)<|sP (.bool false)<|s_nt<|k_false<|k_st<|k_sr<|sP3 (pB b 0)<|sL (t_load 0 sv3)<|sP (iw (i12:Int))<|sL (t_index SltT_ok Tryz.underlying223 (.own 1) (i12:Int) i12 om ol om)<|sP (.pointer (some ((elemAt SltT.size sv3 i12).add 5)))<|sL (t_loadG 5 (vc s13.val) SltT_ok (.own 1) hs16)<|s_store 3 (vc s13.val) ?_
 refine s_nt<|k_ret<|xs_mem (fun _ h=>om_shut (S:=S) (n:=(cnt S:Int)) ⟨⟨hinv6,hag7⟩,rfl⟩ (h.re [0,0,0] [])) ?_
 refine xs_fin [.agg (vc s13.val)] (omA b S::F) (SI.agg 4 71 1 SI.nil) (rr [0] [1,1]) ⟨?_,rfl⟩;exact (congrArg Vl.v hg18).symm
theorem omdrop_s{Z:Zone}{F:List Asr}{b:Nat}{S:List Slt}(hs:S.length≤1000000):SF Tryz.prog 236 #[.pointer (some ⟨b,0,none⟩)] Z (omA b S::F) fun r Bs=>r=.tuple #[]∧Bs=omA b (live S)::F:=by
 refine sf_enter Tryz.func236 49 [(0,pB b 0)] (fun w0=>?_);refine k_sr<|sP (.slice none 0 0)<|s_nt<|k_seq<|k_sr<|sP3 (pB b 0)<|s_mem3 (fun H h=>om_open (h.re [0] [])) (fun sv1 mb2 m3 hw=>?_)
 obtain⟨hinv4,hag5⟩:=hw;refine sL (t_load 0 sv1)<|sL (t_len SltT_ok Tryz.underlying223 (.own 1))<|sP (iw 0)<|s_nt<|k_block<|k_mem (fun _ h=>Holds.nilS (T:=SltT) h) ?_
 refine k_mem (Bs:=own SltT (.slice none 0 0) (live (S.take 0))::blkA b #[sv1,.map (some mb2),iw (cnt S:Int)] 225::own SltT sv1 S::mpA vK nV mb2 m3::F) (fun _ h=>h) ?_;have hinv0:=hinv4;have hag0:=hag5;refine k_loop (ι:=Value×List (Vl×Nat)×Nat) (fun (lx,md,i)=>i≤S.length∧DropI S i md) (fun (lx,md,i)=>[(0,pB b 0),(2,lx),(8,sv1),(9,iw (S.length:Int)),(10,iw (i:Int))]) (fun (lx,md,i)=>own SltT lx (live (S.take i))::blkA b #[sv1,.map (some mb2),iw (cnt S:Int)] 225::own SltT sv1 S::mpA vK nV mb2 md::F) (fun (lx,md,i)=>S.length-i) ((.slice none 0 0),m3,0) ⟨Nat.zero_le _,drop0 hag0⟩ sA (rr [0,0,0,0] []) ?_;rintro⟨lx,md,i⟩ hi6;replace hi6:i≤S.length∧DropI S i md:=hi6;show SK _ _ _ _ _ [(0,pB b 0),(2,lx),(8,sv1),(9,iw (S.length:Int)),(10,iw (i:Int))] _ (own SltT lx (live (S.take i))::blkA b #[sv1,.map (some mb2),iw (cnt S:Int)] 225::own SltT sv1 S::mpA vK nV mb2 md::F);refine k_fact (fun H h=>(h.mp (i:=3) rfl).nodup) (fun hnd=>?_);have hli:(live (S.take i)).length≤i:=Nat.le_trans (cnt_le _) (by rw[List.length_take];omega);refine k_sr<|sL t_cmp<|s_nt<|k_seq<|k_cond (decide ((i:Int)<(S.length:Int))) (fun c7=>?_) (fun c7=>?_)
 .have p8:=dY c7;refine k_st<|k_seq<|k_block<|k_sr<|sP (iw (i:Int))<|sL (t_index SltT_ok Tryz.underlying223 (.own 2) (i:Int) i om ol om) ?_
  obtain⟨y9,hy10⟩:∃y,S[i]?=some y:=⟨_,List.getElem?_eq_getElem ol⟩;refine sL (t_loadE SltT_ok (.own 2) hy10)<|s_alloc (.agg #[iw 0,iw 0,iw 0,sw eb,iw 0,iw 0,iw 0,iw 0,sw eb,iw 0,.bool false]) #[iw 0,iw 0,iw 0,sw eb,iw 0,iw 0,iw 0,iw 0,sw eb,iw 0,.bool false] (fun g11=>?_)
  refine sP (iw (i:Int))<|s_store 0 #[iw y9.key.kind,iw y9.key.p,iw y9.key.q,sw y9.key.str,iw y9.key.ref,iw y9.val.kind,iw y9.val.p,iw y9.val.q,sw y9.val.str,iw y9.val.ref,.bool y9.gone] ?_
  refine s_nt<|k_seq<|k_sr<|sP (pB g11 10)<|sL (t_load 0 (.bool y9.gone))<|s_nt<|k_cond y9.gone (fun c12=>?_) (fun c12=>?_)
  .refine k_seq<|k_seq<|k_draw<|sP2 (pB b 0)<|sP (pB b 1)<|sL (t_load 2 (.map (some mb2)))<|sP (pB g11 0)<|sL (t_loadA 0 (vc y9.key)) ?_
   obtain⟨j13,hj14,hd15⟩:=drop_gone hinv0 hi6.2 hy10 c12;refine sL (Lt.to (v':=iw (j13:Int)) (t_lookup 4 vK_ok Tryz.underlying222 (iw 0) y9.key) (by rw[hj14];rfl))<|sP (iw (i:Int))<|sL t_cmp<|s_nil<|x_dynS (fun _ h=>by kernel_rfl) ?_
   refine xs_then<|k_cond (decide ((j13:Int)=(i:Int))) (fun c16=>?_) (fun c16=>?_)
   .have p17:=dY c16;refine k_draw<|sP2 (pB b 0)<|sP (pB b 1)<|sL (t_load 2 (.map (some mb2)))<|sP (pB g11 0)<|sL (t_loadA 0 (vc y9.key))<|s_delete0 4 vK_ok Tryz.underlying222 y9.key ?_
    refine s_nil<|x_dynS (fun _ h=>by kernel_rfl) ?_
    refine xs_then<|k_exit<|xs_exit<|xs_here<|xs_then<|k_reg<|sL (t_add (i:Int) 1 ol)<|sP (iw ((i:Int)+1))<|s_nil ?_
    have hlv:=live_take hy10;rw[if_pos c12]at hlv;rw[←hlv];exact xs_round (lx,(adel md y9.key),i+1) (by show S.length-(i+1)<S.length-i;omega) ⟨by show i+1≤S.length;omega,by first|exact hd15.2.2 (Int.ofNat_inj.1 p17) hnd|(obtain⟨_,hd1,hd2⟩:=(⟨trivial,hd15⟩:True∧_∧_);first|exact hd1 (fun e=>p17 (by rw[e]))|exact hd2 (Int.ofNat_inj.1 p17) hnd)⟩ sA (rr [1,1,1,1] [4])
   have p18:=dF c16;refine k_st<|k_exit<|xs_exit<|xs_here<|xs_then<|k_reg<|sL (t_add (i:Int) 1 ol)<|sP (iw ((i:Int)+1))<|s_nil ?_
   have hlv:=live_take hy10;rw[if_pos c12]at hlv;rw[←hlv];exact xs_round (lx,md,i+1) (by show S.length-(i+1)<S.length-i;omega) ⟨by show i+1≤S.length;omega,by first|exact hd15.2.1 (by intro e;exact p18 (congrArg _ e))|(obtain⟨_,hd1,hd2⟩:=(⟨trivial,hd15⟩:True∧_∧_);first|exact hd1 (fun e=>p18 (by rw[e]))|exact hd2 (Int.ofNat_inj.1 p18) hnd)⟩ sA (rr [1,1,1,1] [4])
  refine k_st<|k_seq<|k_draw<|sP2 (pB b 0)<|sP (pB b 1)<|sL (t_load 2 (.map (some mb2)))<|sP (pB g11 0)<|sL (t_loadA 0 (vc y9.key))<|sP lx<|sF 1 (fun hf19=>?_)
  refine sL (t_len SltT_ok Tryz.underlying223 (.own 1))<|s_update 4 vK_ok Tryz.underlying222 y9.key ((live (S.take i)).length) ?_
  refine s_nil<|x_dynS (fun _ h=>by obtain⟨_,_,e⟩:=hf19;subst e;kernel_rfl) ?_
  refine xs_then<|k_reg<|sP lx<|sL (t_loadA 0 #[iw y9.key.kind,iw y9.key.p,iw y9.key.q,sw y9.key.str,iw y9.key.ref,iw y9.val.kind,iw y9.val.p,iw y9.val.q,sw y9.val.str,iw y9.val.ref,.bool y9.gone])<|s_buildSlice (e:=261) [(0,.agg #[iw y9.key.kind,iw y9.key.p,iw y9.key.q,sw y9.key.str,iw y9.key.ref,iw y9.val.kind,iw y9.val.p,iw y9.val.q,sw y9.val.str,iw y9.val.ref,.bool y9.gone])] #[iw y9.key.kind,iw y9.key.p,iw y9.key.q,sw y9.key.str,iw y9.key.ref,iw y9.val.kind,iw y9.val.p,iw y9.val.q,sw y9.val.str,iw y9.val.ref,.bool y9.gone] (fun g20=>?_) (hb:=by kernel_rfl)
  refine s_append (L:=(live (S.take i))) 2 SltT_ok Tryz.underlying223 (.lit 0 SltT_ok [y9]) (by show _*104≤_;(try simp only[lnm]);omega) ol (fun v21=>?_);refine sP v21<|s_nil<|xs_block<|xs_then<|k_reg<|sL (t_add (i:Int) 1 ol)<|sP (iw ((i:Int)+1))<|s_nil ?_
  have hlv:=live_take hy10;rw[if_neg (by rw[c12];decide)]at hlv;rw[←hlv];exact xs_round (v21,(aset md y9.key ((live (S.take i)).length)),i+1) (by show S.length-(i+1)<S.length-i;omega) ⟨by show i+1≤S.length;omega,by first|exact drop_live hinv0 hi6.2 hy10 c12|(obtain⟨_,hd1,hd2⟩:=hlv;first|exact hd1 (fun e=>c12 (by rw[e]))|exact hd2 (Int.ofNat_inj.1 c12) hnd)⟩ sA (rr [2,2,2,2] [4,4])
 have p22:=dF c7;refine k_exit<|xs_exit<|xs_exit<|xs_here<|xs_then<|k_reg<|sP (pB b 0)<|sP lx<|sP2 (pB b 0)<|sF 0 (fun hf23=>?_)
 refine s_store (u:=lx) (m:=1) 1 #[lx,.map (some mb2),iw (cnt S:Int)] ?_ (hm:=by (obtain⟨_,_,e⟩:=hf23;rw[e];rfl)) (h1:=by (obtain⟨_,_,e⟩:=hf23;rw[e];rfl)) (ha':=by (obtain⟨_,_,e⟩:=hf23;rw[e];rfl));refine s_nil ?_;have hend:live (S.take i)=live S:=by rw[List.take_of_length_le om]
 rw[hend];exact xs_finN _ _ SI.nil (fun _ h=>om_shut ⟨⟨live_inv hinv0,drop_end hi6.2 om⟩,by rw[cnt_live]⟩ (h.re [1,0,1] [3])) ⟨rfl,rfl⟩
abbrev nextV(x:Vl×Vl×Bool×Int):Value:=.tuple #[x.1.v,x.2.1.v,.bool x.2.2.1,iw x.2.2.2]
theorem next_found{S:List Slt}{a j:Nat}{s:Slt}(h:live ((S.drop a).take j)=[])(hs:(S.drop a)[j]?=some s)(hg:s.gone=false):slotV (live (S.drop a)).head?=(s.key,s.val,true):=by rw[head_live h hs hg];rfl
theorem next_end{S:List Slt}{a j:Nat}(h:live ((S.drop a).take j)=[])(hj:(S.drop a).length≤j):slotV (live (S.drop a)).head?=(zVl,zVl,false):=by rw[head_none h hj];rfl
theorem okeys_step{S:List Slt}{i:Nat}{s:Slt}(h:S[i]?=some s):okeys (S.take (i+1))=if s.gone then okeys (S.take i) else okeys (S.take i)++[s.key]:=by
 unfold okeys;rw[live_take h];split<;>simp
theorem okeys_len(S:List Slt):(okeys S).length≤S.length:=by unfold okeys;rw[List.length_map];exact cnt_le S
theorem set_same{α:Type}{L:List α}{i:Nat}{x:α}(h:L[i]?=some x):L.set i x=L:=by
 obtain⟨hi,e⟩:=List.getElem?_eq_some_iff.1 h;rw[←e];simp
theorem okKey_bad{k:Vl}(h:k.kind=0∨validB k=false):okKey k=false:=by unfold okKey;rcases h with h|h<;>simp[h]
theorem okKey_good{k:Vl}(h0:decide (k.kind=0)=false)(h:validB k=true):okKey k=true:=by unfold okKey;rw[h0,h];rfl
theorem osetE_bad{k v:Vl}(h:okKey k=false):osetE k v=13:=by unfold osetE;rw[if_pos h]
theorem osetE_val{k v:Vl}(h:okKey k=true)(hv:validB v=false):osetE k v=2:=by unfold osetE;rw[if_neg (by rw[h];decide),if_pos hv]
theorem osetE_ok{k v:Vl}(h:okKey k=true)(hv:validB v=true):osetE k v=0:=by unfold osetE;rw[if_neg (by rw[h];decide),if_neg (by rw[hv];decide)]
theorem omset_s{Z:Zone}{F:List Asr}{b:Nat}{S:List Slt}(hs:S.length≤1000000)(k v:Vl):SF Tryz.prog 195 #[.pointer (some ⟨b,0,none⟩),k.v,v.v] Z (omA b S::F) fun r Bs=>r=iw (osetE k v)∧Bs=omA b (osetL S k v)::F:=by
 refine sf_enter Tryz.func195 130 [(0,pB b 0),(1,.agg (vc k)),(2,.agg (vc v))] (fun w0=>?_);refine k_fact (fun H h=>om_inv (h.re [0] [])) (fun hinv0=>?_);have hcl0:=cnt_le S;refine k_sr<|s_box (vc k) (fun g1=>?_)
 refine s_box (vc v) (fun g2=>?_);refine sP (iw 0)<|s_nt<|k_seq<|k_block<|k_sr<|sP (pB b 0)<|sP2 (.bool false)<|s_nt<|k_false<|k_cut (ι:=Unit) (fun _=>True) (fun _=>[(0,pB b 0),(4,pB g1 0),(5,pB g2 0),(13,.bool ((decide (k.kind=0))||(!(validB k))))]) (fun _=>blkA g2 (vc v) 71::blkA g1 (vc k) 71::omA b S::F) ?_ (fun _ _=>?_)
 .refine k_reg<|sP (pB g1 0)<|sL (t_load 1 (iw k.kind))<|sL t_cmp<|sP (.bool (decide (k.kind=0)))<|s_fork 17 (decide (k.kind=0)) (fun c3=>?_) (fun c3=>?_)
  .have p4:=dY c3;refine sK<|sK<|sK<|sP2 (.bool true)<|s_nil ?_
   exact xs_cut () trivial (sub_of rfl (rQ (rQ (rQ ⟨⟨rfl,show Value.bool true=Value.bool ((decide (k.kind=0))||(!(validB k))) by first|(simp only[c3,bls];done)|simp[c3]⟩,trivial⟩)))) (rr [0,0,0] [])
  have p5:=dF c3;refine sL (t_loadA 1 (vc k))<|sV (fun _ h=>valid_s k)<|sP3 (.bool (!(validB k)))<|s_nil ?_
  exact xs_cut () trivial (sub_of rfl (rQ (rQ (rQ ⟨⟨rfl,show Value.bool (!(validB k))=Value.bool ((decide (k.kind=0))||(!(validB k))) by first|(simp only[c3,bls];done)|simp[c3]⟩,trivial⟩)))) (rr [0,0,0] [])
 refine k_cond ((decide (k.kind=0))||(!(validB k))) (fun c6=>?_) (fun c6=>?_)
 .have p7:=c6;simp only[Bool.and_eq_true,Bool.or_eq_true,Bool.and_eq_false_iff,Bool.or_eq_false_iff,Bool.not_eq_true',Bool.not_eq_false',decide_eq_true_eq,decide_eq_false_iff_not]at p7;refine k_sr<|sP (iw 13)<|s_nt<|k_ret<|xs_retBlock<|xs_ret ?_
  have hk:=okKey_bad p7;refine xs_fin [iw 13] (omA b S::F) (SI.tmp 6 SI.nil) (rr [2] [1,1]) ⟨cI (osetE_bad hk).symm,?_⟩;rw[osetL_bad (v:=v) (.inl hk)]
 obtain⟨c8,c9⟩:=or_f c6;have p10:=dF c8;have c11:=not_f c9;refine k_sr<|sL (t_loadA 0 (vc v))<|sV (fun _ h=>valid_s v)<|sP2 (.bool (!(validB v)))<|s_nt<|k_cond (!(validB v)) (fun c12=>?_) (fun c12=>?_)
 .have c13:=not_t c12;refine k_sr<|sP (iw 2)<|s_nt<|k_ret<|xs_retBlock<|xs_ret ?_
  have hk:=okKey_good c8 c11;refine xs_fin [iw 2] (omA b S::F) (SI.tmp 6 SI.nil) (rr [2] [1,1]) ⟨cI (osetE_val hk c13).symm,?_⟩;rw[osetL_bad (v:=v) (.inr c13)]
 have c14:=not_f c12;refine k_skip<|xs_block<|xs_then<|k_seq<|k_draw<|sP2 (pB b 0)<|sP (pB b 1)<|s_mem3 (fun H h=>om_open (h.re [2] [])) (fun sv15 mb16 m17 hw=>?_)
 obtain⟨hinv18,hag19⟩:=hw;refine sL (t_load 0 (.map (some mb16)))<|sL (t_loadA 4 (vc k)) ?_
 rcases last_cases hag19 hinv18 k with ⟨hl20,hm21,ht22,hg23⟩|⟨i24,s25,hl26,hm27,hs28,hk29,hg30,ht31⟩
 .refine sL (Lt.to (v':=.tuple #[iw 0,.bool false]) (t_lookupOk 2 vK_ok Tryz.underlying222 (iw 0) k) (by rw[hm21];rfl))<|sP (.tuple #[iw 0,.bool false])<|sP (iw 0)<|sP (.bool false)<|sP (iw 0)<|sP (.bool false)<|s_nil<|x_dynS (fun _ h=>by kernel_rfl) ?_
  refine xs_then<|k_sr<|sP2 (.bool false)<|sK<|sK<|sK<|sK<|sK<|sK<|sK<|sK<|sK<|sP2 (.bool false)<|s_nt<|k_seq<|k_block<|k_cut (ι:=Unit) (fun _=>True) (fun _=>[(0,pB b 0),(4,pB g1 0),(5,pB g2 0),(7,iw 0),(9,.bool false),(94,.bool false)]) (fun _=>blkA b #[sv15,.map (some mb16),iw (cnt S:Int)] 225::own SltT sv15 S::mpA vK nV mb16 m17::blkA g2 (vc v) 71::blkA g1 (vc k) 71::F) ?_ (fun _ _=>?_)
  .refine k_reg<|sP (pB g2 0)<|sL (t_load 3 (iw v.kind))<|sL t_cmp<|sP (.bool (decide (v.kind=0)))<|s_fork 98 (decide (v.kind=0)) (fun c32=>?_) (fun c32=>?_)
   .have p33:=dY c32;refine sP3 (.bool false)<|s_nil ?_
    exact xcut () (rr [0,0,0,0,0] [])
   have p34:=dF c32;refine sK<|sP2 (.bool false)<|s_nil ?_
   exact xcut () (rr [0,0,0,0,0] [])
  refine k_false<|k_sr<|sP (pB g2 0)<|sL (t_load 3 (iw v.kind))<|sL t_cmp<|sP (.bool (decide (v.kind=0)))<|s_nt<|k_cond (decide (v.kind=0)) (fun c35=>?_) (fun c35=>?_)
  .have p36:=dY c35;refine k_skip<|xs_block<|xs_then<|k_sr<|sP (iw 0)<|s_nt<|k_ret ?_
   have hk:=okKey_good c8 c11;have hS:osetL S k v=S:=by rw[osetL_rem hk c14 (dY c35),ht22]
   have hinv1:OInv S:=by rw[←hS];exact osetL_inv hinv0 k v
   refine xs_mem (fun _ h=>om_shut (S:=S) (n:=(cnt S:Int)) ⟨⟨hinv1,hag19⟩,rfl⟩ (h.re [0,0,0] [])) ?_;refine xs_fin [iw 0] (omA b S::F) (SI.tmp 6 SI.nil) (rr [0] [1,1]) ⟨cI (osetE_ok hk c14).symm,?_⟩;rw[hS]
  have p37:=dF c35;refine k_sr<|sP2 (.bool false)<|s_nt<|k_false<|k_seq<|k_seq<|k_draw<|sP3 (pB b 0)<|sL (t_load 0 sv15)<|sF 1 (fun hf38=>?_)
  refine sL (t_len SltT_ok Tryz.underlying223 (.own 1))<|sP2 (pB b 0)<|sP (pB b 2)<|sL (t_load 0 (iw (cnt S:Int)))<|sL (t_sub (S.length:Int) (cnt S:Int) ol)<|sP2 (pB b 0)<|sP (pB b 2)<|sL (t_load 0 (iw (cnt S:Int)))<|sL (t_add (cnt S:Int) 8 ol)<|sL t_cmp<|s_nil<|x_dynS (fun _ h=>by obtain⟨_,_,e⟩:=hf38;subst e;kernel_rfl) ?_
  refine xs_then<|k_cond (decide (((cnt S:Int)+8)<((S.length:Int)-(cnt S:Int)))) (fun c39=>?_) (fun c39=>?_)
  .have p40:=dY c39;refine k_reg<|sP (pB b 0)<|s_mem (fun _ h=>om_shut (S:=S) (n:=(cnt S:Int)) ⟨⟨hinv18,hag19⟩,rfl⟩ (h.re [0,0,0] [])) ?_
   refine sC [0] (omdrop_s (S:=S) om) ?_;have hll41:=cnt_le S;have hll42:=cnt_live S;have hll43:(live S).length=cnt S:=rfl;refine s_nt<|k_seq<|k_draw<|sP2 (pB b 0)<|sP (pB b 1)<|s_mem3 (fun H h=>om_open (h.re [0] [])) (fun sv44 mb45 m46 hw=>?_)
   obtain⟨hinv47,hag48⟩:=hw;refine sL (t_load 0 (.map (some mb45)))<|sL (t_loadA 4 (vc k))<|sP3 (pB b 0)<|sL (t_load 0 sv44)<|sF 1 (fun hf49=>?_)
   refine sL (t_len SltT_ok Tryz.underlying223 (.own 1))<|s_update 2 vK_ok Tryz.underlying222 k ((live S).length) ?_
   refine s_nil<|x_dynS (fun _ h=>by obtain⟨_,_,e⟩:=hf49;subst e;kernel_rfl) ?_
   refine xs_then<|k_seq<|k_draw<|sP4 (pB b 0)<|sL (t_load 0 sv44)<|sL (t_loadA 4 (vc k))<|sL (t_loadA 3 (vc v))<|sL (t_kern (.agg #[iw k.kind,iw k.p,iw k.q,sw k.str,iw k.ref,iw v.kind,iw v.p,iw v.q,sw v.str,iw v.ref,.bool false]))<|s_buildSlice (e:=261) [(0,.agg #[iw k.kind,iw k.p,iw k.q,sw k.str,iw k.ref,iw v.kind,iw v.p,iw v.q,sw v.str,iw v.ref,.bool false])] #[iw k.kind,iw k.p,iw k.q,sw k.str,iw k.ref,iw v.kind,iw v.p,iw v.q,sw v.str,iw v.ref,.bool false] (fun g50=>?_) (hb:=by kernel_rfl)
   refine s_append (L:=(live S)) 2 SltT_ok Tryz.underlying223 (.lit 0 SltT_ok [(⟨k,v,false⟩:Slt)]) (by show _*104≤_;(try simp only[lnm]);omega) ol (fun v51=>?_);refine sP2 (pB b 0)<|sF 2 (fun hf52=>?_)
   refine s_store (u:=v51) (m:=1) 1 #[v51,.map (some mb45),iw (cnt (live S):Int)] ?_ (hm:=by (obtain⟨_,_,e⟩:=hf52;rw[e];rfl)) (h1:=by (obtain⟨_,_,e⟩:=hf52;rw[e];rfl)) (ha':=by (obtain⟨_,_,e⟩:=hf52;rw[e];rfl));refine s_nil<|x_dynS (fun _ h=>by kernel_rfl) ?_
   refine xs_then<|k_reg<|sP2 (pB b 0)<|sP (pB b 2)<|sL (t_load 1 (iw (cnt (live S):Int)))<|sL (t_add (cnt (live S):Int) 1 ol)<|sP (pB b 0)<|sP (pB b 2)<|s_store 1 #[v51,.map (some mb45),iw ((cnt (live S):Int)+1)] ?_
   refine s_nil<|xs_block<|xs_then<|k_sr<|sP (iw 0)<|s_nt<|k_ret ?_
   have hk:=okKey_good c8 c11;have hcl:=cnt_le S;have hS:osetL S k v=((live S)++[(⟨k,v,false⟩:Slt)]):=by rw[osetL_put hk c14 (dF c35),ht22];show (if _ then _ else _)++_=_;rw[if_pos (by have hx:=dY c39;omega)]
   have hinv1:OInv ((live S)++[(⟨k,v,false⟩:Slt)]):=by rw[←hS];exact osetL_inv hinv0 k v
   refine xs_mem (fun _ h=>om_shut (S:=((live S)++[(⟨k,v,false⟩:Slt)])) (n:=((cnt (live S):Int)+1)) ⟨⟨hinv1,agr_snoc hag48 k v⟩,by rw[cnt_snoc];try rfl⟩ (h.re [1,1,1] [])) ?_;refine xs_fin [iw 0] (omA b ((live S)++[(⟨k,v,false⟩:Slt)])::F) (SI.tmp 6 SI.nil) (rr [0] [1,1,1]) ⟨cI (osetE_ok hk c14).symm,?_⟩;rw[hS]
  have p53:=dF c39;refine k_st<|k_seq<|k_draw<|sP2 (pB b 0)<|sP (pB b 1)<|sL (t_load 0 (.map (some mb16)))<|sL (t_loadA 4 (vc k))<|sP3 (pB b 0)<|sL (t_load 0 sv15)<|sL (t_len SltT_ok Tryz.underlying223 (.own 1))<|s_update 2 vK_ok Tryz.underlying222 k S.length ?_
  refine s_nil<|x_dynS (fun _ h=>by obtain⟨_,_,e⟩:=hf38;subst e;kernel_rfl) ?_
  refine xs_then<|k_seq<|k_draw<|sP4 (pB b 0)<|sL (t_load 0 sv15)<|sL (t_loadA 4 (vc k))<|sL (t_loadA 3 (vc v))<|sL (t_kern (.agg #[iw k.kind,iw k.p,iw k.q,sw k.str,iw k.ref,iw v.kind,iw v.p,iw v.q,sw v.str,iw v.ref,.bool false]))<|s_buildSlice (e:=261) [(0,.agg #[iw k.kind,iw k.p,iw k.q,sw k.str,iw k.ref,iw v.kind,iw v.p,iw v.q,sw v.str,iw v.ref,.bool false])] #[iw k.kind,iw k.p,iw k.q,sw k.str,iw k.ref,iw v.kind,iw v.p,iw v.q,sw v.str,iw v.ref,.bool false] (fun g54=>?_) (hb:=by kernel_rfl)
  refine s_append (L:=S) 2 SltT_ok Tryz.underlying223 (.lit 0 SltT_ok [(⟨k,v,false⟩:Slt)]) (by show _*104≤_;(try simp only[lnm]);omega) ol (fun v55=>?_);refine sP2 (pB b 0)<|sF 2 (fun hf56=>?_)
  refine s_store (u:=v55) (m:=1) 1 #[v55,.map (some mb16),iw (cnt S:Int)] ?_ (hm:=by (obtain⟨_,_,e⟩:=hf56;rw[e];rfl)) (h1:=by (obtain⟨_,_,e⟩:=hf56;rw[e];rfl)) (ha':=by (obtain⟨_,_,e⟩:=hf56;rw[e];rfl));refine s_nil<|x_dynS (fun _ h=>by kernel_rfl) ?_
  refine xs_then<|k_reg<|sP2 (pB b 0)<|sP (pB b 2)<|sL (t_load 1 (iw (cnt S:Int)))<|sL (t_add (cnt S:Int) 1 ol)<|sP (pB b 0)<|sP (pB b 2)<|s_store 1 #[v55,.map (some mb16),iw ((cnt S:Int)+1)] ?_
  refine s_nil<|xs_block<|xs_then<|k_sr<|sP (iw 0)<|s_nt<|k_ret ?_
  have hk:=okKey_good c8 c11;have hcl:=cnt_le S;have hS:osetL S k v=(S++[(⟨k,v,false⟩:Slt)]):=by rw[osetL_put hk c14 (dF c35),ht22];show (if _ then _ else _)++_=_;rw[if_neg (by have hx:=dF c39;omega)]
  have hinv1:OInv (S++[(⟨k,v,false⟩:Slt)]):=by rw[←hS];exact osetL_inv hinv0 k v
  refine xs_mem (fun _ h=>om_shut (S:=(S++[(⟨k,v,false⟩:Slt)])) (n:=((cnt S:Int)+1)) ⟨⟨hinv1,agr_snoc hag19 k v⟩,by rw[cnt_snoc];try rfl⟩ (h.re [1,1,1] [])) ?_;refine xs_fin [iw 0] (omA b (S++[(⟨k,v,false⟩:Slt)])::F) (SI.tmp 6 SI.nil) (rr [0] [1,1,1]) ⟨cI (osetE_ok hk c14).symm,?_⟩;rw[hS]
 have hlt57:i24<S.length:=(List.getElem?_eq_some_iff.1 hs28).1;refine sL (Lt.to (v':=.tuple #[iw (i24:Int),.bool true]) (t_lookupOk 2 vK_ok Tryz.underlying222 (iw 0) k) (by rw[hm27];rfl))<|sP (.tuple #[iw (i24:Int),.bool true])<|sP (iw (i24:Int))<|sP (.bool true)<|sP (iw (i24:Int))<|sP (.bool true)<|s_nil<|x_dynS (fun _ h=>by kernel_rfl) ?_
 refine xs_then<|k_sr<|sP2 (.bool true)<|sP3 (pB b 0)<|sL (t_load 0 sv15)<|sP (iw (i24:Int))<|sL (t_index SltT_ok Tryz.underlying223 (.own 1) (i24:Int) i24 om ol om)<|sP (.pointer (some ((elemAt SltT.size sv15 i24).add 10)))<|sL (t_loadF 10 SltT_ok (.own 1) hs28)<|sP3 (.bool (!s25.gone))<|s_nt<|k_seq<|k_block<|k_cut (ι:=Unit) (fun _=>True) (fun _=>[(0,pB b 0),(4,pB g1 0),(5,pB g2 0),(7,iw (i24:Int)),(9,.bool (!s25.gone)),(94,.bool ((decide (v.kind=0))&&(!s25.gone)))]) (fun _=>blkA b #[sv15,.map (some mb16),iw (cnt S:Int)] 225::own SltT sv15 S::mpA vK nV mb16 m17::blkA g2 (vc v) 71::blkA g1 (vc k) 71::F) ?_ (fun _ _=>?_)
 .refine k_reg<|sP (pB g2 0)<|sL (t_load 3 (iw v.kind))<|sL t_cmp<|sP (.bool (decide (v.kind=0)))<|s_fork 98 (decide (v.kind=0)) (fun c58=>?_) (fun c58=>?_)
  .have p59:=dY c58;refine sP3 (.bool (!s25.gone))<|s_nil ?_
   exact xs_cut () trivial (sub_of rfl (rQ (rQ (rQ (rQ (rQ ⟨⟨rfl,show Value.bool (!s25.gone)=Value.bool ((decide (v.kind=0))&&(!s25.gone)) by first|(simp only[c58,bls];done)|simp[c58]⟩,trivial⟩)))))) (rr [0,0,0,0,0] [])
  have p60:=dF c58;refine sK<|sP2 (.bool false)<|s_nil ?_
  exact xs_cut () trivial (sub_of rfl (rQ (rQ (rQ (rQ (rQ ⟨⟨rfl,show Value.bool false=Value.bool ((decide (v.kind=0))&&(!s25.gone)) by first|(simp only[c58,bls];done)|simp[c58]⟩,trivial⟩)))))) (rr [0,0,0,0,0] [])
 refine k_cond ((decide (v.kind=0))&&(!s25.gone)) (fun c61=>?_) (fun c61=>?_)
 .obtain ⟨c62,c63⟩:=and_t c61;have p64:=dY c62;have c65:=not_t c63;refine k_seq<|k_draw<|sP3 (pB b 0)<|sL (t_load 0 sv15)<|sP (iw (i24:Int))<|sL (t_loadA 4 (vc k))<|sL (t_kern (.agg #[iw k.kind,iw k.p,iw k.q,sw k.str,iw k.ref,iw 0,iw 0,iw 0,sw eb,iw 0,.bool true]))<|sL (t_index SltT_ok Tryz.underlying223 (.own 1) (i24:Int) i24 om ol om)<|s_storeE 1 0 (⟨k,zVl,true⟩:Slt) SltT_ok hs28 ?_
  refine s_nil<|x_dynS (fun _ h=>by kernel_rfl) ?_
  refine xs_then<|k_reg<|sP2 (pB b 0)<|sP (pB b 2)<|sL (t_load 0 (iw (cnt S:Int)))<|sL (t_sub (cnt S:Int) 1 ol)<|sP (pB b 0)<|sP (pB b 2)<|s_store 0 #[sv15,.map (some mb16),iw ((cnt S:Int)-1)] ?_
  refine s_nil<|xs_block<|xs_then<|k_sr<|sP (iw 0)<|s_nt<|k_ret ?_
  have hk:=okKey_good c8 c11;have hS:osetL S k v=(S.set i24 (⟨k,zVl,true⟩:Slt)):=by rw[osetL_rem hk c14 (dY c62),ht31,if_neg (by rw[c65];decide)]
  have hinv1:OInv (S.set i24 (⟨k,zVl,true⟩:Slt)):=by rw[←hS];exact osetL_inv hinv0 k v
  refine xs_mem (fun _ h=>om_shut (S:=(S.set i24 (⟨k,zVl,true⟩:Slt))) (n:=((cnt S:Int)-1)) ⟨⟨hinv1,agr_set hag19 hl26 rfl⟩,(cnt_gone hs28 c65 k).symm⟩ (h.re [0,0,0] [])) ?_;refine xs_fin [iw 0] (omA b (S.set i24 (⟨k,zVl,true⟩:Slt))::F) (SI.tmp 6 SI.nil) (rr [0] [1,1]) ⟨cI (osetE_ok hk c14).symm,?_⟩;rw[hS]
 have p66:=c61;simp only[Bool.and_eq_true,Bool.or_eq_true,Bool.and_eq_false_iff,Bool.or_eq_false_iff,Bool.not_eq_true',Bool.not_eq_false',decide_eq_true_eq,decide_eq_false_iff_not]at p66;refine k_sr<|sP (pB g2 0)<|sL (t_load 3 (iw v.kind))<|sL t_cmp<|sP (.bool (decide (v.kind=0)))<|s_nt<|k_cond (decide (v.kind=0)) (fun c67=>?_) (fun c67=>?_)
 .have p68:=dY c67;refine k_skip<|xs_block<|xs_then<|k_sr<|sP (iw 0)<|s_nt<|k_ret ?_
  have hk:=okKey_good c8 c11;have hgg:s25.gone=true:=by have hx:=p66;have hy:=dY c67;simpa [hy]using hx
  have hS:osetL S k v=S:=by rw[osetL_rem hk c14 (dY c67),ht31,if_pos hgg]
  have hinv1:OInv S:=by rw[←hS];exact osetL_inv hinv0 k v
  refine xs_mem (fun _ h=>om_shut (S:=S) (n:=(cnt S:Int)) ⟨⟨hinv1,hag19⟩,rfl⟩ (h.re [0,0,0] [])) ?_;refine xs_fin [iw 0] (omA b S::F) (SI.tmp 6 SI.nil) (rr [0] [1,1]) ⟨cI (osetE_ok hk c14).symm,?_⟩;rw[hS]
 have p69:=dF c67;refine k_sr<|sP2 (.bool (!s25.gone))<|s_nt<|k_cond (!s25.gone) (fun c70=>?_) (fun c70=>?_)
 .have c71:=not_t c70;refine k_draw<|sP3 (pB b 0)<|sL (t_load 0 sv15)<|sP (iw (i24:Int))<|sL (t_loadA 3 (vc v))<|sL (t_index SltT_ok Tryz.underlying223 (.own 1) (i24:Int) i24 om ol om)<|sP (.pointer (some ((elemAt SltT.size sv15 i24).add 5)))<|s_storeE 1 5 (⟨s25.key,v,s25.gone⟩:Slt) SltT_ok hs28 ?_
  refine s_nil<|x_dynS (fun _ h=>by kernel_rfl) ?_
  refine xs_block<|xs_then<|k_sr<|sP (iw 0)<|s_nt<|k_ret ?_
  have hk:=okKey_good c8 c11;have hS:osetL S k v=(S.set i24 (⟨s25.key,v,s25.gone⟩:Slt)):=by rw[osetL_put hk c14 (dF c67),ht31,if_neg (by rw[c71];decide),hk29,c71]
  have hinv1:OInv (S.set i24 (⟨s25.key,v,s25.gone⟩:Slt)):=by rw[←hS];exact osetL_inv hinv0 k v
  refine xs_mem (fun _ h=>om_shut (S:=(S.set i24 (⟨s25.key,v,s25.gone⟩:Slt))) (n:=(cnt S:Int)) ⟨⟨hinv1,agr_set hag19 hl26 hk29⟩,by rw[c71];exact congrArg (fun n:Nat=>(n:Int)) (cnt_val hs28 c71 _ _).symm⟩ (h.re [0,0,0] [])) ?_;refine xs_fin [iw 0] (omA b (S.set i24 (⟨s25.key,v,s25.gone⟩:Slt))::F) (SI.tmp 6 SI.nil) (rr [0] [1,1]) ⟨cI (osetE_ok hk c14).symm,?_⟩;rw[hS]
 have c72:=not_f c70;refine k_seq<|k_seq<|k_draw<|sP3 (pB b 0)<|sL (t_load 0 sv15)<|sF 1 (fun hf73=>?_)
 refine sL (t_len SltT_ok Tryz.underlying223 (.own 1))<|sP2 (pB b 0)<|sP (pB b 2)<|sL (t_load 0 (iw (cnt S:Int)))<|sL (t_sub (S.length:Int) (cnt S:Int) ol)<|sP2 (pB b 0)<|sP (pB b 2)<|sL (t_load 0 (iw (cnt S:Int)))<|sL (t_add (cnt S:Int) 8 ol)<|sL t_cmp<|s_nil<|x_dynS (fun _ h=>by obtain⟨_,_,e⟩:=hf73;subst e;kernel_rfl) ?_
 refine xs_then<|k_cond (decide (((cnt S:Int)+8)<((S.length:Int)-(cnt S:Int)))) (fun c74=>?_) (fun c74=>?_)
 .have p75:=dY c74;refine k_reg<|sP (pB b 0)<|s_mem (fun _ h=>om_shut (S:=S) (n:=(cnt S:Int)) ⟨⟨hinv18,hag19⟩,rfl⟩ (h.re [0,0,0] [])) ?_
  refine sC [0] (omdrop_s (S:=S) om) ?_;have hll76:=cnt_le S;have hll77:=cnt_live S;have hll78:(live S).length=cnt S:=rfl;refine s_nt<|k_seq<|k_draw<|sP2 (pB b 0)<|sP (pB b 1)<|s_mem3 (fun H h=>om_open (h.re [0] [])) (fun sv79 mb80 m81 hw=>?_)
  obtain⟨hinv82,hag83⟩:=hw;refine sL (t_load 0 (.map (some mb80)))<|sL (t_loadA 4 (vc k))<|sP3 (pB b 0)<|sL (t_load 0 sv79)<|sF 1 (fun hf84=>?_)
  refine sL (t_len SltT_ok Tryz.underlying223 (.own 1))<|s_update 2 vK_ok Tryz.underlying222 k ((live S).length) ?_
  refine s_nil<|x_dynS (fun _ h=>by obtain⟨_,_,e⟩:=hf84;subst e;kernel_rfl) ?_
  refine xs_then<|k_seq<|k_draw<|sP4 (pB b 0)<|sL (t_load 0 sv79)<|sL (t_loadA 4 (vc k))<|sL (t_loadA 3 (vc v))<|sL (t_kern (.agg #[iw k.kind,iw k.p,iw k.q,sw k.str,iw k.ref,iw v.kind,iw v.p,iw v.q,sw v.str,iw v.ref,.bool false]))<|s_buildSlice (e:=261) [(0,.agg #[iw k.kind,iw k.p,iw k.q,sw k.str,iw k.ref,iw v.kind,iw v.p,iw v.q,sw v.str,iw v.ref,.bool false])] #[iw k.kind,iw k.p,iw k.q,sw k.str,iw k.ref,iw v.kind,iw v.p,iw v.q,sw v.str,iw v.ref,.bool false] (fun g85=>?_) (hb:=by kernel_rfl)
  refine s_append (L:=(live S)) 2 SltT_ok Tryz.underlying223 (.lit 0 SltT_ok [(⟨k,v,false⟩:Slt)]) (by show _*104≤_;(try simp only[lnm]);omega) ol (fun v86=>?_);refine sP2 (pB b 0)<|sF 2 (fun hf87=>?_)
  refine s_store (u:=v86) (m:=1) 1 #[v86,.map (some mb80),iw (cnt (live S):Int)] ?_ (hm:=by (obtain⟨_,_,e⟩:=hf87;rw[e];rfl)) (h1:=by (obtain⟨_,_,e⟩:=hf87;rw[e];rfl)) (ha':=by (obtain⟨_,_,e⟩:=hf87;rw[e];rfl));refine s_nil<|x_dynS (fun _ h=>by kernel_rfl) ?_
  refine xs_then<|k_reg<|sP2 (pB b 0)<|sP (pB b 2)<|sL (t_load 1 (iw (cnt (live S):Int)))<|sL (t_add (cnt (live S):Int) 1 ol)<|sP (pB b 0)<|sP (pB b 2)<|s_store 1 #[v86,.map (some mb80),iw ((cnt (live S):Int)+1)] ?_
  refine s_nil<|xs_block<|xs_then<|k_sr<|sP (iw 0)<|s_nt<|k_ret ?_
  have hk:=okKey_good c8 c11;have hcl:=cnt_le S;have hS:osetL S k v=((live S)++[(⟨k,v,false⟩:Slt)]):=by rw[osetL_put hk c14 (dF c67),ht31,if_pos c72];show (if _ then _ else _)++_=_;rw[if_pos (by have hx:=dY c74;omega)]
  have hinv1:OInv ((live S)++[(⟨k,v,false⟩:Slt)]):=by rw[←hS];exact osetL_inv hinv0 k v
  refine xs_mem (fun _ h=>om_shut (S:=((live S)++[(⟨k,v,false⟩:Slt)])) (n:=((cnt (live S):Int)+1)) ⟨⟨hinv1,agr_snoc hag83 k v⟩,by rw[cnt_snoc];try rfl⟩ (h.re [1,1,1] [])) ?_;refine xs_fin [iw 0] (omA b ((live S)++[(⟨k,v,false⟩:Slt)])::F) (SI.tmp 6 SI.nil) (rr [0] [1,1,1]) ⟨cI (osetE_ok hk c14).symm,?_⟩;rw[hS]
 have p88:=dF c74;refine k_st<|k_seq<|k_draw<|sP2 (pB b 0)<|sP (pB b 1)<|sL (t_load 0 (.map (some mb16)))<|sL (t_loadA 4 (vc k))<|sP3 (pB b 0)<|sL (t_load 0 sv15)<|sL (t_len SltT_ok Tryz.underlying223 (.own 1))<|s_update 2 vK_ok Tryz.underlying222 k S.length ?_
 refine s_nil<|x_dynS (fun _ h=>by obtain⟨_,_,e⟩:=hf73;subst e;kernel_rfl) ?_
 refine xs_then<|k_seq<|k_draw<|sP4 (pB b 0)<|sL (t_load 0 sv15)<|sL (t_loadA 4 (vc k))<|sL (t_loadA 3 (vc v))<|sL (t_kern (.agg #[iw k.kind,iw k.p,iw k.q,sw k.str,iw k.ref,iw v.kind,iw v.p,iw v.q,sw v.str,iw v.ref,.bool false]))<|s_buildSlice (e:=261) [(0,.agg #[iw k.kind,iw k.p,iw k.q,sw k.str,iw k.ref,iw v.kind,iw v.p,iw v.q,sw v.str,iw v.ref,.bool false])] #[iw k.kind,iw k.p,iw k.q,sw k.str,iw k.ref,iw v.kind,iw v.p,iw v.q,sw v.str,iw v.ref,.bool false] (fun g89=>?_) (hb:=by kernel_rfl)
 refine s_append (L:=S) 2 SltT_ok Tryz.underlying223 (.lit 0 SltT_ok [(⟨k,v,false⟩:Slt)]) (by show _*104≤_;(try simp only[lnm]);omega) ol (fun v90=>?_);refine sP2 (pB b 0)<|sF 2 (fun hf91=>?_)
 refine s_store (u:=v90) (m:=1) 1 #[v90,.map (some mb16),iw (cnt S:Int)] ?_ (hm:=by (obtain⟨_,_,e⟩:=hf91;rw[e];rfl)) (h1:=by (obtain⟨_,_,e⟩:=hf91;rw[e];rfl)) (ha':=by (obtain⟨_,_,e⟩:=hf91;rw[e];rfl));refine s_nil<|x_dynS (fun _ h=>by kernel_rfl) ?_
 refine xs_then<|k_reg<|sP2 (pB b 0)<|sP (pB b 2)<|sL (t_load 1 (iw (cnt S:Int)))<|sL (t_add (cnt S:Int) 1 ol)<|sP (pB b 0)<|sP (pB b 2)<|s_store 1 #[v90,.map (some mb16),iw ((cnt S:Int)+1)] ?_
 refine s_nil<|xs_block<|xs_then<|k_sr<|sP (iw 0)<|s_nt<|k_ret ?_
 have hk:=okKey_good c8 c11;have hcl:=cnt_le S;have hS:osetL S k v=(S++[(⟨k,v,false⟩:Slt)]):=by rw[osetL_put hk c14 (dF c67),ht31,if_pos c72];show (if _ then _ else _)++_=_;rw[if_neg (by have hx:=dF c74;omega)]
 have hinv1:OInv (S++[(⟨k,v,false⟩:Slt)]):=by rw[←hS];exact osetL_inv hinv0 k v
 refine xs_mem (fun _ h=>om_shut (S:=(S++[(⟨k,v,false⟩:Slt)])) (n:=((cnt S:Int)+1)) ⟨⟨hinv1,agr_snoc hag19 k v⟩,by rw[cnt_snoc];try rfl⟩ (h.re [1,1,1] [])) ?_;refine xs_fin [iw 0] (omA b (S++[(⟨k,v,false⟩:Slt)])::F) (SI.tmp 6 SI.nil) (rr [0] [1,1,1]) ⟨cI (osetE_ok hk c14).symm,?_⟩;rw[hS]
theorem omnext_s{Z:Zone}{F:List Asr}{b:Nat}{S:List Slt}(hs:S.length≤1000000)(k:Vl):SF Tryz.prog 210 #[.pointer (some ⟨b,0,none⟩),k.v] Z (omA b S::F) fun r Bs=>r=nextV (onext S k)∧Bs=omA b S::F:=by
 refine sf_enter Tryz.func210 56 [(0,pB b 0),(1,.agg (vc k))] (fun w0=>?_);refine k_sr<|s_box (vc k) (fun g1=>?_)
 refine s_alloc (.agg zc) zc (fun g2=>?_);refine s_alloc (.agg zc) zc (fun g3=>?_);refine sP (.bool false)<|sP (iw 0)<|s_nt<|k_seq<|k_sr<|sP (pB b 0)<|sP (.bool false)<|s_nt<|k_false<|k_st<|k_sr<|sP (iw 0)<|s_nt<|k_seq<|k_sr<|sL (t_loadA 2 (vc k))<|sL (t_kern (.agg zc))<|sL (t_eqS (fun w=>(eqVlT k zVl w).2))<|s_nt<|k_cond (!(decide (k=zVl))) (fun c4=>?_) (fun c4=>?_)
 .have c5:=not_t c4;have p6:=dF c5;refine k_seq<|k_draw<|sP2 (pB b 0)<|sP (pB b 1)<|s_mem3 (fun H h=>om_open (h.re [3] [])) (fun sv7 mb8 m9 hw=>?_)
  obtain⟨hinv10,hag11⟩:=hw;refine sL (t_load 0 (.map (some mb8)))<|sL (t_loadA 5 (vc k)) ?_
  rcases last_cases hag11 hinv10 k with ⟨hl12,hm13,ht14,hg15⟩|⟨i16,s17,hl18,hm19,hs20,hk21,hg22,ht23⟩
  .refine sL (Lt.to (v':=.tuple #[iw 0,.bool false]) (t_lookupOk 2 vK_ok Tryz.underlying222 (iw 0) k) (by rw[hm13];rfl))<|sP (.tuple #[iw 0,.bool false])<|sP (iw 0)<|sP (.bool false)<|sP (iw 0)<|sP (.bool false)<|s_nil<|x_dynS (fun _ h=>by kernel_rfl) ?_
   refine xs_then<|k_seq<|k_sr<|sP (.bool false)<|sP (.bool true)<|s_nt<|k_true<|k_sr<|sL (t_kern (.agg zc))<|sL (t_kern (.agg zc))<|s_store 4 zc ?_
   refine s_store 3 zc ?_;refine sP (.bool false)<|sP (iw 13)<|s_nt<|k_ret<|xs_ret<|xs_ret<|xs_mem (fun _ h=>om_shut (S:=S) (n:=(cnt S:Int)) ⟨⟨hinv10,hag11⟩,rfl⟩ (h.re [0,0,0] [])) ?_
   have hp:onext S k=(zVl,zVl,false,13):=(onext_none (dF c5) hl12);refine xs_fin [.agg zc,.agg zc,.bool false,iw 13] (omA b S::F) (SI.agg 4 71 2 (SI.agg 5 71 1 (SI.tmp 6 (SI.tmp 7 SI.nil)))) (rr [0] [1,1,1]) ⟨?_,rfl⟩;rw[hp];rfl
  have hlt24:i16<S.length:=(List.getElem?_eq_some_iff.1 hs20).1;refine sL (Lt.to (v':=.tuple #[iw (i16:Int),.bool true]) (t_lookupOk 2 vK_ok Tryz.underlying222 (iw 0) k) (by rw[hm19];rfl))<|sP (.tuple #[iw (i16:Int),.bool true])<|sP (iw (i16:Int))<|sP (.bool true)<|sP (iw (i16:Int))<|sP (.bool true)<|s_nil<|x_dynS (fun _ h=>by kernel_rfl) ?_
  refine xs_then<|k_seq<|k_sr<|sP (.bool true)<|sP (.bool false)<|s_nt<|k_false<|k_st<|k_reg<|sP (iw (i16:Int))<|sL (t_add (i16:Int) 1 ol)<|sP (iw ((i16:Int)+1))<|s_nt<|k_seq<|k_sr<|sP3 (pB b 0)<|sL (t_load 0 sv7)<|sP (iw ((i16:Int)+1))<|sL (t_suf SltT_ok Tryz.underlying223 (.own 1) ((i16:Int)+1) (i16+1) om ol om)<|sL (t_len SltT_ok Tryz.underlying223 (Acc.suf (.own 1) SltT_ok (i16+1) ol))<|sP (iw 0)<|s_nt<|k_block ?_
  have hdl:(S.drop (i16+1)).length=S.length-(i16+1):=List.length_drop;refine k_loop (ι:=Nat) (fun j=>j≤(S.drop (i16+1)).length∧live ((S.drop (i16+1)).take j)=[]) (fun j=>[(4,pB g2 0),(5,pB g3 0),(40,(suf SltT.size sv7 (i16+1))),(41,iw ((S.drop (i16+1)).length:Int)),(42,iw (j:Int))]) (fun j=>blkA b #[sv7,.map (some mb8),iw (cnt S:Int)] 225::own SltT sv7 S::mpA vK nV mb8 m9::blkA g3 zc 71::blkA g2 zc 71::blkA g1 (vc k) 71::F) (fun j=>(S.drop (i16+1)).length-j) 0 ⟨Nat.zero_le _,rfl⟩ sA (rr [0,0,0,0,0,0] []) ?_;rintro j hi25;show SK _ _ _ _ _ [(4,.pointer (some ⟨g2,0,none⟩)),(5,.pointer (some ⟨g3,0,none⟩)),(40,(suf SltT.size sv7 (i16+1))),(41,iw ((S.drop (i16+1)).length:Int)),(42,iw (j:Int))] _ (blkA b #[sv7,.map (some mb8),iw (cnt S:Int)] 225::own SltT sv7 S::mpA vK nV mb8 m9::blkA g3 zc 71::blkA g2 zc 71::blkA g1 (vc k) 71::F);refine k_sr<|sL t_cmp<|s_nt<|k_seq<|k_cond (decide ((j:Int)<((S.drop (i16+1)).length:Int))) (fun c26=>?_) (fun c26=>?_)
  .have p27:=dY c26;refine k_st<|k_seq<|k_block<|k_sr<|sL (t_index SltT_ok Tryz.underlying223 (Acc.suf (.own 1) SltT_ok (i16+1) ol) (j:Int) j om ol om) ?_
   obtain⟨y28,hy29⟩:∃y,(S.drop (i16+1))[j]?=some y:=⟨_,List.getElem?_eq_getElem ol⟩;refine sL (t_loadE SltT_ok (Acc.suf (.own 1) SltT_ok (i16+1) ol) hy29)<|s_alloc (.agg #[iw 0,iw 0,iw 0,sw eb,iw 0,iw 0,iw 0,iw 0,sw eb,iw 0,.bool false]) #[iw 0,iw 0,iw 0,sw eb,iw 0,iw 0,iw 0,iw 0,sw eb,iw 0,.bool false] (fun g30=>?_)
   refine s_store 0 #[iw y28.key.kind,iw y28.key.p,iw y28.key.q,sw y28.key.str,iw y28.key.ref,iw y28.val.kind,iw y28.val.p,iw y28.val.q,sw y28.val.str,iw y28.val.ref,.bool y28.gone] ?_;refine s_nr<|sP (pB g30 10)<|sL (t_load 0 (.bool y28.gone))<|sP (.bool (!y28.gone))<|s_nt<|k_cond (!y28.gone) (fun c31=>?_) (fun c31=>?_)
   .have c32:=not_t c31;refine k_seq<|k_held [blkA g30 #[iw y28.key.kind,iw y28.key.p,iw y28.key.q,sw y28.key.str,iw y28.key.ref,iw y28.val.kind,iw y28.val.p,iw y28.val.q,sw y28.val.str,iw y28.val.ref,.bool y28.gone] 261,blkA b #[sv7,.map (some mb8),iw (cnt S:Int)] 225,own SltT sv7 S,mpA vK nV mb8 m9,blkA g1 (vc k) 71] ?_
    refine hp_ 0 [0,0,0,0,2] (pB g30 0) ?_;refine h_l 1 rfl [0,0,0,0,2] (fun _=>(t_loadA 0 (vc y28.key))) ?_;refine hp_ 2 [0,0,0,0,2] (pB g30 5) ?_;refine h_l 3 rfl [0,0,0,0,2] (fun _=>(t_loadA 0 (vc y28.val))) ?_;refine h_stepS 4 ?_;refine s_store 5 (vc y28.key) ?_;refine nH [0,0,0,0,2]<|h_stepS 5 ?_
    refine s_store 4 (vc y28.val) ?_;refine nH [0,0,0,0,2]<|hp_ 6 [0,0,0,0,2] (.bool true) ?_
    refine hp_ 7 [0,0,0,0,2] (iw 0) ?_;refine h_doneS ?_;refine xs_then<|k_ret<|xs_retBlock<|xs_ret<|xs_ret<|xs_retBlock<|xs_ret<|xs_mem (fun _ h=>om_shut (S:=S) (n:=(cnt S:Int)) ⟨⟨hinv10,hag11⟩,rfl⟩ (h.re [1,1,1] [])) ?_
    have hr:=next_found (a:=(i16+1)) hi25.2 hy29 c32;have hp:onext S k=(y28.key,y28.val,true,0):=by rw[(onext_some (dF c5) hl18)];first|(rw[hr];done)|(have hr0:slotV (live S).head?=_:=hr;rw[hr0])
    refine xs_fin [.agg (vc y28.key),.agg (vc y28.val),.bool true,iw 0] (omA b S::F) (SI.agg 4 71 3 (SI.agg 5 71 2 (SI.tmp 6 (SI.tmp 7 SI.nil)))) (rr [0] [1,1,1,1]) ⟨?_,rfl⟩;rw[hp];rfl
   have c33:=not_f c31;refine k_skip<|xs_block<|xs_then<|k_reg<|sL (t_add (j:Int) 1 ol)<|sP (iw ((j:Int)+1))<|s_nil ?_
   exact xs_round (j+1) om ⟨by omega,live_gone_step hi25.2 hy29 c33⟩ sA (rr [1,1,1,1,1,1] [6])
  have p34:=dF c26;refine k_exit<|xs_exit<|xs_exit<|xs_here<|xs_then<|k_sr<|sL (t_kern (.agg zc))<|sL (t_kern (.agg zc))<|s_store 4 zc ?_
  refine s_store 3 zc ?_;refine sP (.bool false)<|sP (iw 0)<|s_nt<|k_ret<|xs_mem (fun _ h=>om_shut (S:=S) (n:=(cnt S:Int)) ⟨⟨hinv10,hag11⟩,rfl⟩ (h.re [0,0,0] [])) ?_
  have hr:=next_end (a:=(i16+1)) hi25.2 ol;have hp:onext S k=(zVl,zVl,false,0):=by rw[(onext_some (dF c5) hl18)];first|(rw[hr];done)|(have hr0:slotV (live S).head?=_:=hr;rw[hr0])
  refine xs_fin [.agg zc,.agg zc,.bool false,iw 0] (omA b S::F) (SI.agg 4 71 2 (SI.agg 5 71 1 (SI.tmp 6 (SI.tmp 7 SI.nil)))) (rr [0] [1,1,1]) ⟨?_,rfl⟩;rw[hp];rfl
 have c35:=not_f c4;have p36:=dY c35;refine k_st<|k_seq<|k_sr<|sP3 (pB b 0)<|s_mem3 (fun H h=>om_open (h.re [3] [])) (fun sv37 mb38 m39 hw=>?_)
 obtain⟨hinv40,hag41⟩:=hw;refine sL (t_load 0 sv37)<|sP (iw 0)<|sL (t_suf SltT_ok Tryz.underlying223 (.own 1) 0 0 om ol om)<|sL (t_len SltT_ok Tryz.underlying223 (Acc.suf (.own 1) SltT_ok 0 ol))<|sP (iw 0)<|s_nt<|k_block ?_
 have hdl:(S.drop 0).length=S.length-0:=List.length_drop;refine k_loop (ι:=Nat) (fun j=>j≤(S.drop 0).length∧live ((S.drop 0).take j)=[]) (fun j=>[(4,pB g2 0),(5,pB g3 0),(40,(suf SltT.size sv37 0)),(41,iw ((S.drop 0).length:Int)),(42,iw (j:Int))]) (fun j=>blkA b #[sv37,.map (some mb38),iw (cnt S:Int)] 225::own SltT sv37 S::mpA vK nV mb38 m39::blkA g3 zc 71::blkA g2 zc 71::blkA g1 (vc k) 71::F) (fun j=>(S.drop 0).length-j) 0 ⟨Nat.zero_le _,rfl⟩ sA (rr [0,0,0,0,0,0] []) ?_;rintro j hi42;show SK _ _ _ _ _ [(4,pB g2 0),(5,pB g3 0),(40,(suf SltT.size sv37 0)),(41,iw ((S.drop 0).length:Int)),(42,iw (j:Int))] _ (blkA b #[sv37,.map (some mb38),iw (cnt S:Int)] 225::own SltT sv37 S::mpA vK nV mb38 m39::blkA g3 zc 71::blkA g2 zc 71::blkA g1 (vc k) 71::F);refine k_sr<|sL t_cmp<|s_nt<|k_seq<|k_cond (decide ((j:Int)<((S.drop 0).length:Int))) (fun c43=>?_) (fun c43=>?_)
 .have p44:=dY c43;refine k_st<|k_seq<|k_block<|k_sr<|sL (t_index SltT_ok Tryz.underlying223 (Acc.suf (.own 1) SltT_ok 0 ol) (j:Int) j om ol om) ?_
  obtain⟨y45,hy46⟩:∃y,(S.drop 0)[j]?=some y:=⟨_,List.getElem?_eq_getElem ol⟩;refine sL (t_loadE SltT_ok (Acc.suf (.own 1) SltT_ok 0 ol) hy46)<|s_alloc (.agg #[iw 0,iw 0,iw 0,sw eb,iw 0,iw 0,iw 0,iw 0,sw eb,iw 0,.bool false]) #[iw 0,iw 0,iw 0,sw eb,iw 0,iw 0,iw 0,iw 0,sw eb,iw 0,.bool false] (fun g47=>?_)
  refine s_store 0 #[iw y45.key.kind,iw y45.key.p,iw y45.key.q,sw y45.key.str,iw y45.key.ref,iw y45.val.kind,iw y45.val.p,iw y45.val.q,sw y45.val.str,iw y45.val.ref,.bool y45.gone] ?_;refine s_nr<|sP (pB g47 10)<|sL (t_load 0 (.bool y45.gone))<|sP (.bool (!y45.gone))<|s_nt<|k_cond (!y45.gone) (fun c48=>?_) (fun c48=>?_)
  .have c49:=not_t c48;refine k_seq<|k_held [blkA g47 #[iw y45.key.kind,iw y45.key.p,iw y45.key.q,sw y45.key.str,iw y45.key.ref,iw y45.val.kind,iw y45.val.p,iw y45.val.q,sw y45.val.str,iw y45.val.ref,.bool y45.gone] 261,blkA b #[sv37,.map (some mb38),iw (cnt S:Int)] 225,own SltT sv37 S,mpA vK nV mb38 m39,blkA g1 (vc k) 71] ?_
   refine hp_ 0 [0,0,0,0,2] (pB g47 0) ?_;refine h_l 1 rfl [0,0,0,0,2] (fun _=>(t_loadA 0 (vc y45.key))) ?_;refine hp_ 2 [0,0,0,0,2] (pB g47 5) ?_;refine h_l 3 rfl [0,0,0,0,2] (fun _=>(t_loadA 0 (vc y45.val))) ?_;refine h_stepS 4 ?_;refine s_store 5 (vc y45.key) ?_;refine nH [0,0,0,0,2]<|h_stepS 5 ?_
   refine s_store 4 (vc y45.val) ?_;refine nH [0,0,0,0,2]<|hp_ 6 [0,0,0,0,2] (.bool true) ?_
   refine hp_ 7 [0,0,0,0,2] (iw 0) ?_;refine h_doneS ?_;refine xs_then<|k_ret<|xs_retBlock<|xs_ret<|xs_ret<|xs_retBlock<|xs_ret<|xs_mem (fun _ h=>om_shut (S:=S) (n:=(cnt S:Int)) ⟨⟨hinv40,hag41⟩,rfl⟩ (h.re [1,1,1] [])) ?_
   have hz:k=zVl:=(dY c35);subst hz;have hr:=next_found (a:=0) hi42.2 hy46 c49;have hp:onext S zVl=(y45.key,y45.val,true,0):=by rw[(onext_nil S)];first|(rw[hr];done)|(have hr0:slotV (live S).head?=_:=hr;rw[hr0])
   refine xs_fin [.agg (vc y45.key),.agg (vc y45.val),.bool true,iw 0] (omA b S::F) (SI.agg 4 71 3 (SI.agg 5 71 2 (SI.tmp 6 (SI.tmp 7 SI.nil)))) (rr [0] [1,1,1,1]) ⟨?_,rfl⟩;rw[hp];rfl
  have c50:=not_f c48;refine k_skip<|xs_block<|xs_then<|k_reg<|sL (t_add (j:Int) 1 ol)<|sP (iw ((j:Int)+1))<|s_nil ?_
  exact xs_round (j+1) om ⟨by omega,live_gone_step hi42.2 hy46 c50⟩ sA (rr [1,1,1,1,1,1] [6])
 have p51:=dF c43;refine k_exit<|xs_exit<|xs_exit<|xs_here<|xs_then<|k_sr<|sL (t_kern (.agg zc))<|sL (t_kern (.agg zc))<|s_store 4 zc ?_
 refine s_store 3 zc ?_;refine sP (.bool false)<|sP (iw 0)<|s_nt<|k_ret<|xs_mem (fun _ h=>om_shut (S:=S) (n:=(cnt S:Int)) ⟨⟨hinv40,hag41⟩,rfl⟩ (h.re [0,0,0] [])) ?_
 have hz:k=zVl:=(dY c35);subst hz;have hr:=next_end (a:=0) hi42.2 ol;have hp:onext S zVl=(zVl,zVl,false,0):=by rw[(onext_nil S)];first|(rw[hr];done)|(have hr0:slotV (live S).head?=_:=hr;rw[hr0])
 refine xs_fin [.agg zc,.agg zc,.bool false,iw 0] (omA b S::F) (SI.agg 4 71 2 (SI.agg 5 71 1 (SI.tmp 6 (SI.tmp 7 SI.nil)))) (rr [0] [1,1,1]) ⟨?_,rfl⟩;rw[hp];rfl
theorem omslots_s{Z:Zone}{F:List Asr}{b:Nat}{S:List Slt}:SF Tryz.prog 208 #[.pointer (some ⟨b,0,none⟩)] Z (omA b S::F) fun r Bs=>r=iw (S.length:Int)∧Bs=omA b S::F:=by
 refine sf_enter Tryz.func208 10 [(0,pB b 0)] (fun w0=>?_);refine k_sr<|sP (iw 0)<|s_nt<|k_seq<|k_sr<|sP (pB b 0)<|sP (.bool false)<|s_nt<|k_false<|k_st<|k_sr<|sP3 (pB b 0)<|s_mem3 (fun H h=>om_open (h.re [0] [])) (fun sv1 mb2 m3 hw=>?_)
 obtain⟨hinv4,hag5⟩:=hw;refine sL (t_load 0 sv1)<|sL (t_len SltT_ok Tryz.underlying223 (.own 1))<|sP (iw (S.length:Int))<|s_nt<|k_ret<|xs_mem (fun _ h=>om_shut (S:=S) (n:=(cnt S:Int)) ⟨⟨hinv4,hag5⟩,rfl⟩ (h.re [0,0,0] [])) ?_
 refine xs_fin _ _ (SI.tmp 2 SI.nil) (rr [0] []) ⟨?_,rfl⟩;rfl
theorem omkeys_s{Z:Zone}{F:List Asr}{b:Nat}{S:List Slt}(hs:S.length≤1000000):SF Tryz.prog 235 #[.pointer (some ⟨b,0,none⟩)] Z (omA b S::F) fun r Bs=>Bs=own VlT r (okeys S)::omA b S::F:=by
 refine sf_enter Tryz.func235 27 [(0,pB b 0)] (fun w0=>?_);refine k_sr<|sP (.slice none 0 0)<|s_nt<|k_seq<|k_sr<|sP (pB b 0)<|sP (.bool false)<|s_nt<|k_false<|k_st<|k_sr<|sP (.slice none 0 0)<|s_nt<|k_seq<|k_sr<|sP3 (pB b 0)<|s_mem3 (fun H h=>om_open (h.re [0] [])) (fun sv1 mb2 m3 hw=>?_)
 obtain⟨hinv4,hag5⟩:=hw;refine sL (t_load 0 sv1)<|sL (t_len SltT_ok Tryz.underlying223 (.own 1))<|sP (iw 0)<|s_nt<|k_block<|k_mem (fun _ h=>Holds.nilS (T:=VlT) h) ?_
 refine k_mem (Bs:=own VlT (.slice none 0 0) (okeys (S.take 0))::blkA b #[sv1,.map (some mb2),iw (cnt S:Int)] 225::own SltT sv1 S::mpA vK nV mb2 m3::F) (fun _ h=>h) ?_;refine k_loop (ι:=Value×Nat) (fun (lx,i)=>i≤S.length) (fun (lx,i)=>[(3,lx),(11,sv1),(12,iw (S.length:Int)),(13,iw (i:Int))]) (fun (lx,i)=>own VlT lx (okeys (S.take i))::blkA b #[sv1,.map (some mb2),iw (cnt S:Int)] 225::own SltT sv1 S::mpA vK nV mb2 m3::F) (fun (lx,i)=>S.length-i) ((.slice none 0 0),0) (Nat.zero_le _) sA (rr [0,0,0,0] []) ?_;rintro⟨lx,i⟩ hi6;replace hi6:i≤S.length:=hi6;show SK _ _ _ _ _ [(3,lx),(11,sv1),(12,iw (S.length:Int)),(13,iw (i:Int))] _ (own VlT lx (okeys (S.take i))::blkA b #[sv1,.map (some mb2),iw (cnt S:Int)] 225::own SltT sv1 S::mpA vK nV mb2 m3::F);have hli:(okeys (S.take i)).length≤i:=Nat.le_trans (okeys_len _) (by rw[List.length_take];omega);refine k_sr<|sL t_cmp<|s_nt<|k_seq<|k_cond (decide ((i:Int)<(S.length:Int))) (fun c7=>?_) (fun c7=>?_)
 .have p8:=dY c7;refine k_st<|k_seq<|k_block<|k_sr<|sL (t_index SltT_ok Tryz.underlying223 (.own 2) (i:Int) i om ol om) ?_
  obtain⟨y9,hy10⟩:∃y,S[i]?=some y:=⟨_,List.getElem?_eq_getElem ol⟩;refine sL (t_loadE SltT_ok (.own 2) hy10)<|s_alloc (.agg #[iw 0,iw 0,iw 0,sw eb,iw 0,iw 0,iw 0,iw 0,sw eb,iw 0,.bool false]) #[iw 0,iw 0,iw 0,sw eb,iw 0,iw 0,iw 0,iw 0,sw eb,iw 0,.bool false] (fun g11=>?_)
  refine s_store 0 #[iw y9.key.kind,iw y9.key.p,iw y9.key.q,sw y9.key.str,iw y9.key.ref,iw y9.val.kind,iw y9.val.p,iw y9.val.q,sw y9.val.str,iw y9.val.ref,.bool y9.gone] ?_;refine s_nr<|sP (pB g11 10)<|sL (t_load 0 (.bool y9.gone))<|sP (.bool (!y9.gone))<|s_nt<|k_cond (!y9.gone) (fun c12=>?_) (fun c12=>?_)
  .have c13:=not_t c12;refine k_reg<|sP lx<|sP (pB g11 0)<|sL (t_loadA 0 (vc y9.key))<|s_buildSlice (e:=71) [(0,.agg (vc y9.key))] (vc y9.key) (fun g14=>?_) (hb:=by kernel_rfl)
   refine s_append (L:=(okeys (S.take i))) 2 VlT_ok Tryz.underlying28 (.lit 0 VlT_ok [y9.key]) (by show _*48≤_;(try simp only[lnm]);omega) ol (fun v15=>?_);refine sP v15<|s_nil<|xs_block<|xs_then<|k_reg<|sL (t_add (i:Int) 1 ol)<|sP (iw ((i:Int)+1))<|s_nil ?_
   have hks:=okeys_step hy10;rw[if_neg (by rw[c13];decide)]at hks;rw[←hks];exact xs_round (v15,i+1) (by show S.length-(i+1)<S.length-i;omega) (by show i+1≤S.length;omega) sA (rr [2,2,2,2] [4,4])
  have c16:=not_f c12;refine k_skip<|xs_block<|xs_then<|k_reg<|sL (t_add (i:Int) 1 ol)<|sP (iw ((i:Int)+1))<|s_nil ?_
  have hks:=okeys_step hy10;rw[if_pos c16]at hks;rw[←hks];exact xs_round (lx,i+1) (by show S.length-(i+1)<S.length-i;omega) (by show i+1≤S.length;omega) sA (rr [1,1,1,1] [4])
 have p17:=dF c7;refine k_exit<|xs_exit<|xs_exit<|xs_here<|xs_then<|k_sr<|sP2 lx<|s_nt<|k_ret<|xs_mem (fun _ h=>om_shut (S:=S) (n:=(cnt S:Int)) ⟨⟨hinv4,hag5⟩,rfl⟩ (h.re [1,1,1] [])) ?_
 have hend:okeys (S.take i)=okeys S:=by rw[List.take_of_length_le om]
 rw[hend];exact xs_fin _ _ (SI.tmp 2 SI.nil) (rr [1,0] []) rfl
end Go.Proofs.YtmhpcebiamkciaaGreat
end
section
set_option linter.unusedSimpArgs false
set_option linter.unusedVariables false
set_option maxRecDepth 100000
set_option maxHeartbeats 2000000
namespace Go.Proofs.YtmhpcebiamkciaaGreat
open Go.Hp Go.J Go.S
open Go.Mem (Ty KTy blk elemAt pre suf blk_pre blk_suf aget aset strK aggDesc)
open Go.Mem (adel apos aget_aset aget_adel)
def rmA(b:Nat)(S:List Slt):Asr:=exA fun sv=>stA (OInv S) [blkA b #[sv] 257,own RSltT sv S]
theorem rm_open{b:Nat}{S:List Slt}{Z:Zone}{F:List Asr}{H:Heap}(h:Holds Z (rmA b S::F) H):∃(sv:Value),OInv S∧Holds Z (blkA b #[sv] 257::own RSltT sv S::F) H:=by
 obtain⟨sv,h⟩:=h.open_ex;exact⟨sv,h.open_st⟩
theorem rm_shut{b:Nat}{S:List Slt}{Z:Zone}{F:List Asr}{H:Heap}{sv:Value}(hp:OInv S)(h:Holds Z (blkA b #[sv] 257::own RSltT sv S::F) H):Holds Z (rmA b S::F) H:=
 Holds.shut_ex sv (Holds.shut_st hp h)
theorem rm_inv{b:Nat}{S:List Slt}{Z:Zone}{F:List Asr}{H:Heap}(h:Holds Z (rmA b S::F) H):OInv S:=by
 obtain⟨_,h,_⟩:=rm_open h;exact h
theorem cnt_step{S:List Slt}{i:Nat}{s:Slt}(h:S[i]?=some s):cnt (S.take (i+1))=if s.gone then cnt (S.take i) else cnt (S.take i)+1:=by
 unfold cnt;rw[live_take h];split<;>simp
theorem set_gone{S:List Slt}(h:OInv S){k:Vl}{i:Nat}{s:Slt}(hs:S[i]?=some s)(hk:s.key=k)(hg:s.gone=true):S=S.set i ⟨k,zVl,true⟩:=by
 have e:=h.zero s (List.mem_of_getElem? hs) hg;have:s=⟨k,zVl,true⟩:=by rw[←hk,←e,←hg]
 rw[←this];exact (set_same hs).symm
theorem rmnew_s{Z:Zone}:SF Tryz.prog 190 #[] Z [] fun r Bs=>∃b,r=.pointer (some ⟨b,0,none⟩)∧Bs=[rmA b []]:=by
 refine sf_enter Tryz.func190 3 [] (fun w0=>?_);refine k_sr<|sP (.pointer none)<|s_nr<|sL (t_kern (.agg #[nS]))<|s_box #[nS] (fun g1=>?_)
 refine sP (pB g1 0)<|s_nt<|k_ret<|xs_fin _ _ (SI.tmp 0 SI.nil) (fun _ h=>rm_shut (b:=g1) (sv:=nS) OInv.nil ((Holds.nilS (T:=RSltT) h).re [1,0] [])) ⟨g1,rfl,rfl⟩
theorem rmfind_s{Z:Zone}{F:List Asr}{b:Nat}{S:List Slt}(hs:S.length≤1000000)(k:Vl):SF Tryz.prog 240 #[.pointer (some ⟨b,0,none⟩),k.v] Z (rmA b S::F) fun r Bs=>r=iw (findI S k)∧Bs=rmA b S::F:=by
 refine sf_enter Tryz.func240 38 [(0,pB b 0),(1,.agg (vc k))] (fun w0=>?_);refine k_fact (fun H h=>rm_inv (h.re [0] [])) (fun hinv0=>?_);refine k_sr<|s_box (vc k) (fun g1=>?_)
 refine sP (iw 0)<|s_nr<|sP (iw (-1))<|s_nt<|k_seq<|k_sr<|sP (iw 0)<|s_nt<|k_block<|k_loop (ι:=Nat) (fun i=>i≤S.length) (fun i=>[(0,pB b 0),(3,pB g1 0),(5,iw (findI (S.take i) k)),(6,iw (i:Int))]) (fun i=>blkA g1 (vc k) 71::rmA b S::F) (fun i=>S.length-i) 0 (Nat.zero_le _) sA (rr [0,0] []) ?_
 rintro i hi2;show SK _ _ _ _ _ [(0,pB b 0),(3,pB g1 0),(5,iw (findI (S.take i) k)),(6,iw (i:Int))] _ (blkA g1 (vc k) 71::rmA b S::F);refine k_seq<|k_sr<|sP (iw (i:Int))<|sP3 (pB b 0)<|s_memX (fun H h=>rm_open (h.re [1] [])) (fun sv3 hw=>?_)
 refine sL (t_load 0 sv3)<|sL (t_len RSltT_ok Tryz.underlying255 (.own 1))<|sL t_cmp<|s_nt<|k_cond (decide ((i:Int)<(S.length:Int))) (fun c5=>?_) (fun c5=>?_)
 .have p6:=dY c5;refine k_st<|k_seq<|k_block<|k_seq<|k_draw<|sP3 (pB b 0)<|sL (t_load 0 sv3)<|sP (iw (i:Int))<|sL (t_index RSltT_ok Tryz.underlying255 (.own 1) (i:Int) i om ol om)<|sP (.pointer (some (elemAt RSltT.size sv3 i))) ?_
  obtain⟨y7,hy8⟩:∃y,S[i]?=some y:=⟨_,List.getElem?_eq_getElem ol⟩;refine sL (t_loadG 0 (vc y7.key) RSltT_ok (.own 1) hy8)<|sL (t_loadA 2 (vc k))<|sL (t_eqS (fun w=>(eqVlT y7.key k w).1))<|s_nil<|x_dynS (fun _ h=>by kernel_rfl) ?_
  refine xs_then<|k_cond (decide (y7.key=k)) (fun c9=>?_) (fun c9=>?_)
  .have p10:=dY c9;refine k_sr<|sP2 (iw (i:Int))<|s_nr<|sP3 (pB b 0)<|sL (t_load 0 sv3)<|sP (iw (i:Int))<|sL (t_index RSltT_ok Tryz.underlying255 (.own 1) (i:Int) i om ol om)<|sP (.pointer (some ((elemAt RSltT.size sv3 i).add 10)))<|sL (t_loadF 10 RSltT_ok (.own 1) hy8)<|sP (.bool (!y7.gone))<|s_nt<|k_cond (!y7.gone) (fun c11=>?_) (fun c11=>?_)
   .have c12:=not_t c11;refine k_sr<|sP2 (iw (i:Int))<|s_nt<|k_ret<|xs_retBlock<|xs_ret<|xs_ret<|xs_retBlock<|xs_ret<|xs_mem (fun _ h=>rm_shut (S:=S) hinv0 (h.re [0,0] [])) ?_
    refine xs_fin _ _ (SI.tmp 4 SI.nil) (rr [0] [1]) ⟨cI ?_,rfl⟩;rw[←dY c9];exact (find_here hinv0 hy8 c12).symm
   have c13:=not_f c11;refine k_skip<|xs_block<|xs_then<|k_reg<|sP (iw (i:Int))<|sL (t_add (i:Int) 1 ol)<|sP (iw ((i:Int)+1))<|s_nil ?_
   have hst:=find_step k hy8;rw[if_pos (dY c9)]at hst;refine xs_mem (fun _ h=>rm_shut (S:=S) hinv0 (h.re [0,0] [])) ?_;exact xs_round (i+1) om om (sub_of rfl (rQ (rQ ⟨⟨rfl,cI hst.symm⟩,(rQ trivial)⟩))) (rr [1,0] [])
  have p14:=dF c9;refine k_skip<|xs_block<|xs_then<|k_reg<|sP (iw (i:Int))<|sL (t_add (i:Int) 1 ol)<|sP (iw ((i:Int)+1))<|s_nil ?_
  have hst:=find_step k hy8;rw[if_neg (dF c9)]at hst;refine xs_mem (fun _ h=>rm_shut (S:=S) hinv0 (h.re [0,0] [])) ?_;exact xs_round (i+1) om om (sub_of rfl (rQ (rQ ⟨⟨rfl,cI hst.symm⟩,(rQ trivial)⟩))) (rr [1,0] [])
 have p15:=dF c5;refine k_exit<|xs_exit<|xs_exit<|xs_here<|xs_then<|k_sr<|sP2 (iw (findI (S.take i) k))<|s_nt<|k_ret<|xs_mem (fun _ h=>rm_shut (S:=S) hinv0 (h.re [0,0] [])) ?_
 refine xs_fin _ _ (SI.tmp 4 SI.nil) (rr [0] [1]) ⟨cI ?_,rfl⟩;exact find_end k om
theorem rmget_s{Z:Zone}{F:List Asr}{b:Nat}{S:List Slt}(hs:S.length≤1000000)(k:Vl):SF Tryz.prog 199 #[.pointer (some ⟨b,0,none⟩),k.v] Z (rmA b S::F) fun r Bs=>r=(oget S k).v∧Bs=rmA b S::F:=by
 refine sf_enter Tryz.func199 33 [(0,pB b 0),(1,.agg (vc k))] (fun w0=>?_);refine k_fact (fun H h=>rm_inv (h.re [0] [])) (fun hinv0=>?_);refine k_sr<|s_box (vc k) (fun g1=>?_)
 refine s_alloc (.agg zc) zc (fun g2=>?_);refine s_nt<|k_seq<|k_sr<|sP (pB b 0)<|sP (.bool false)<|s_nt<|k_false<|k_st<|k_sr<|sP (pB b 0)<|sL (t_loadA 1 (vc k))<|s_call [2] (rmfind_s (S:=S) om k) ?_
 rintro u3 _ ⟨e4,rfl⟩;rcases find_cases (S:=S) k with ⟨hf5,hl6,ht7,hg8⟩|⟨i9,s10,hf11,hl12,hs13,hk14,hg15,ht16⟩
 .rw [hf5]at e4;subst e4;refine sP (iw (-1))<|s_nt<|k_seq<|k_sr<|sP (iw (-1))<|sL (t_cmp (c:=true))<|sP (.bool true)<|sK<|sK<|sK<|sK<|sK<|sK<|sK<|sK<|sP (.bool true)<|s_nt<|k_true<|k_sr<|sL (t_kern (.agg zc))<|s_store 1 zc ?_
  refine s_nt<|k_ret<|xs_ret<|xs_fin [.agg zc] (rmA b S::F) (SI.agg 4 71 1 SI.nil) (rr [0] [1,1]) ⟨?_,rfl⟩
  exact (congrArg Vl.v hg8).symm
 rw[hf11]at e4;subst e4;have hlt17:i9<S.length:=(List.getElem?_eq_some_iff.1 hs13).1;refine sP (iw (i9:Int))<|s_nt<|k_seq<|k_sr<|sP (iw (i9:Int))<|sL (Lt.to t_cmp (cB (decide_eq_false om:(decide ((i9:Int)<0))=false)))<|sP (.bool false)<|sP3 (pB b 0)<|s_memX (fun H h=>rm_open (h.re [0] [])) (fun sv18 hw=>?_)
 refine sL (t_load 0 sv18)<|sP (iw (i9:Int))<|sL (t_index RSltT_ok Tryz.underlying255 (.own 1) (i9:Int) i9 om ol om)<|sP (.pointer (some ((elemAt RSltT.size sv18 i9).add 10)))<|sL (t_loadF 10 RSltT_ok (.own 1) hs13)<|sP (.bool s10.gone)<|s_nt<|k_cond s10.gone (fun c20=>?_) (fun c20=>?_)
 .refine k_sr<|sL (t_kern (.agg zc))<|s_store 2 zc ?_
  refine s_nt<|k_ret<|xs_ret<|xs_mem (fun _ h=>rm_shut (S:=S) hinv0 (h.re [0,0] [])) ?_
  refine xs_fin [.agg zc] (rmA b S::F) (SI.agg 4 71 1 SI.nil) (rr [0] [1,1]) ⟨?_,rfl⟩;exact (congrArg Vl.v (hg15.trans (hinv0.zero _ (List.mem_of_getElem? hs13) c20))).symm
 refine k_st<|k_sr<|sP3 (pB b 0)<|sL (t_load 0 sv18)<|sP (iw (i9:Int))<|sL (t_index RSltT_ok Tryz.underlying255 (.own 1) (i9:Int) i9 om ol om)<|sP (.pointer (some ((elemAt RSltT.size sv18 i9).add 5)))<|sL (t_loadG 5 (vc s10.val) RSltT_ok (.own 1) hs13)<|s_store 2 (vc s10.val) ?_
 refine s_nt<|k_ret<|xs_mem (fun _ h=>rm_shut (S:=S) hinv0 (h.re [0,0] [])) ?_
 refine xs_fin [.agg (vc s10.val)] (rmA b S::F) (SI.agg 4 71 1 SI.nil) (rr [0] [1,1]) ⟨?_,rfl⟩;exact (congrArg Vl.v hg15).symm
theorem rmlen_s{Z:Zone}{F:List Asr}{b:Nat}{S:List Slt}(hs:S.length≤1000000):SF Tryz.prog 241 #[.pointer (some ⟨b,0,none⟩)] Z (rmA b S::F) fun r Bs=>r=iw (cnt S:Int)∧Bs=rmA b S::F:=by
 refine sf_enter Tryz.func241 28 [(0,pB b 0)] (fun w0=>?_);refine k_fact (fun H h=>rm_inv (h.re [0] [])) (fun hinv0=>?_);refine k_sr<|sP (iw 0)<|s_nt<|k_seq<|k_sr<|sP (pB b 0)<|sP (.bool false)<|s_nt<|k_false<|k_st<|k_sr<|sP (iw 0)<|s_nt<|k_seq<|k_sr<|sP (iw 0)<|s_nt<|k_block<|k_loop (ι:=Nat) (fun i=>i≤S.length) (fun i=>[(0,pB b 0),(3,iw (cnt (S.take i):Int)),(4,iw (i:Int))]) (fun i=>rmA b S::F) (fun i=>S.length-i) 0 (Nat.zero_le _) sA (rr [0] []) ?_
 rintro i hi1;show SK _ _ _ _ _ [(0,pB b 0),(3,iw (cnt (S.take i):Int)),(4,iw (i:Int))] _ (rmA b S::F);have hcl:cnt (S.take i)≤i:=Nat.le_trans (cnt_le _) (by rw[List.length_take];omega);refine k_seq<|k_sr<|sP (iw (i:Int))<|sP3 (pB b 0)<|s_memX (fun H h=>rm_open (h.re [0] [])) (fun sv2 hw=>?_)
 refine sL (t_load 0 sv2)<|sL (t_len RSltT_ok Tryz.underlying255 (.own 1))<|sL t_cmp<|s_nt<|k_cond (decide ((i:Int)<(S.length:Int))) (fun c4=>?_) (fun c4=>?_)
 .have p5:=dY c4;refine k_st<|k_seq<|k_block<|k_sr<|sP3 (pB b 0)<|sL (t_load 0 sv2)<|sP (iw (i:Int))<|sL (t_index RSltT_ok Tryz.underlying255 (.own 1) (i:Int) i om ol om)<|sP (.pointer (some ((elemAt RSltT.size sv2 i).add 10))) ?_
  obtain⟨y6,hy7⟩:∃y,S[i]?=some y:=⟨_,List.getElem?_eq_getElem ol⟩;refine sL (t_loadF 10 RSltT_ok (.own 1) hy7)<|sP (.bool (!y6.gone))<|s_nt<|k_cond (!y6.gone) (fun c8=>?_) (fun c8=>?_)
  .have c9:=not_t c8;refine k_reg<|sP (iw (cnt (S.take i):Int))<|sL (t_add (cnt (S.take i):Int) 1 ol)<|sP (iw ((cnt (S.take i):Int)+1))<|s_nil<|xs_block<|xs_then<|k_reg<|sP (iw (i:Int))<|sL (t_add (i:Int) 1 ol)<|sP (iw ((i:Int)+1))<|s_nil ?_
   have hst:=cnt_step hy7;rw[if_neg (by rw[c9];decide)]at hst;rw[show ((cnt (S.take i):Int)+1)=((cnt (S.take (i+1)):Nat):Int) by omega];refine xs_mem (fun _ h=>rm_shut (S:=S) hinv0 (h.re [0,0] [])) ?_;exact xs_round (i+1) om om sA (rr [0] [])
  have c10:=not_f c8;refine k_skip<|xs_block<|xs_then<|k_reg<|sP (iw (i:Int))<|sL (t_add (i:Int) 1 ol)<|sP (iw ((i:Int)+1))<|s_nil ?_
  have hst:=cnt_step hy7;rw[if_pos c10]at hst;rw[←hst];refine xs_mem (fun _ h=>rm_shut (S:=S) hinv0 (h.re [0,0] [])) ?_;exact xs_round (i+1) om om sA (rr [0] [])
 have p11:=dF c4;refine k_exit<|xs_exit<|xs_exit<|xs_here<|xs_then<|k_sr<|sP2 (iw (cnt (S.take i):Int))<|s_nt<|k_ret<|xs_mem (fun _ h=>rm_shut (S:=S) hinv0 (h.re [0,0] [])) ?_
 refine xs_fin _ _ (SI.tmp 2 SI.nil) (rr [0] []) ⟨?_,rfl⟩;show Value.int .i64 (cnt (S.take i):Int)=_;rw[List.take_of_length_le om]
theorem rmkeys_s{Z:Zone}{F:List Asr}{b:Nat}{S:List Slt}(hs:S.length≤1000000):SF Tryz.prog 244 #[.pointer (some ⟨b,0,none⟩)] Z (rmA b S::F) fun r Bs=>Bs=own VlT r (okeys S)::rmA b S::F:=by
 refine sf_enter Tryz.func244 38 [(0,pB b 0)] (fun w0=>?_);refine k_fact (fun H h=>rm_inv (h.re [0] [])) (fun hinv0=>?_);refine k_sr<|sP (.slice none 0 0)<|s_nr<|sP (.slice none 0 0)<|s_nt<|k_seq<|k_sr<|sP (pB b 0)<|sP (.bool false)<|s_nt<|k_false<|k_st<|k_seq<|k_sr<|sP (iw 0)<|s_nt<|k_block<|k_mem (fun _ h=>Holds.nilS (T:=VlT) h) ?_
 refine k_mem (Bs:=own VlT (.slice none 0 0) (okeys (S.take 0))::rmA b S::F) (fun _ h=>h) ?_;refine k_loop (ι:=Value×Nat) (fun (lx,i)=>i≤S.length) (fun (lx,i)=>[(0,pB b 0),(3,lx),(4,iw (i:Int))]) (fun (lx,i)=>own VlT lx (okeys (S.take i))::rmA b S::F) (fun (lx,i)=>S.length-i) ((.slice none 0 0),0) (Nat.zero_le _) sA (rr [0,0] []) ?_;rintro⟨lx,i⟩ hi1;replace hi1:i≤S.length:=hi1;show SK _ _ _ _ _ [(0,pB b 0),(3,lx),(4,iw (i:Int))] _ (own VlT lx (okeys (S.take i))::rmA b S::F);have hli:(okeys (S.take i)).length≤i:=Nat.le_trans (okeys_len _) (by rw[List.length_take];omega);refine k_seq<|k_sr<|sP (iw (i:Int))<|sP3 (pB b 0)<|s_memX (fun H h=>rm_open (h.re [1] [])) (fun sv2 hw=>?_)
 refine sL (t_load 0 sv2)<|sL (t_len RSltT_ok Tryz.underlying255 (.own 1))<|sL t_cmp<|s_nt<|k_cond (decide ((i:Int)<(S.length:Int))) (fun c4=>?_) (fun c4=>?_)
 .have p5:=dY c4;refine k_st<|k_seq<|k_block<|k_sr<|sP3 (pB b 0)<|sL (t_load 0 sv2)<|sP (iw (i:Int))<|sL (t_index RSltT_ok Tryz.underlying255 (.own 1) (i:Int) i om ol om)<|sP (.pointer (some ((elemAt RSltT.size sv2 i).add 10))) ?_
  obtain⟨y6,hy7⟩:∃y,S[i]?=some y:=⟨_,List.getElem?_eq_getElem ol⟩;refine sL (t_loadF 10 RSltT_ok (.own 1) hy7)<|sP (.bool (!y6.gone))<|s_nt<|k_cond (!y6.gone) (fun c8=>?_) (fun c8=>?_)
  .have c9:=not_t c8;refine k_reg<|sP lx<|sP3 (pB b 0)<|sL (t_load 0 sv2)<|sP (iw (i:Int))<|sL (t_index RSltT_ok Tryz.underlying255 (.own 1) (i:Int) i om ol om)<|sP (.pointer (some (elemAt RSltT.size sv2 i)))<|sL (t_loadG 0 (vc y6.key) RSltT_ok (.own 1) hy7)<|s_buildSlice (e:=71) [(0,.agg (vc y6.key))] (vc y6.key) (fun g10=>?_) (hb:=by kernel_rfl)
   refine s_append (L:=(okeys (S.take i))) 3 VlT_ok Tryz.underlying28 (.lit 0 VlT_ok [y6.key]) (by show _*48≤_;(try simp only[lnm]);omega) ol (fun v11=>?_);refine sP v11<|s_nil<|xs_block<|xs_then<|k_reg<|sP (iw (i:Int))<|sL (t_add (i:Int) 1 ol)<|sP (iw ((i:Int)+1))<|s_nil ?_
   have hks:=okeys_step hy7;rw[if_neg (by rw[c9];decide)]at hks;rw[←hks];refine xs_mem (fun _ h=>rm_shut (S:=S) hinv0 (h.re [1,1] [])) ?_;exact xs_round (v11,i+1) (by show S.length-(i+1)<S.length-i;omega) (by show i+1≤S.length;omega) sA (rr [2,0] [2])
  have c12:=not_f c8;refine k_skip<|xs_block<|xs_then<|k_reg<|sP (iw (i:Int))<|sL (t_add (i:Int) 1 ol)<|sP (iw ((i:Int)+1))<|s_nil ?_
  have hks:=okeys_step hy7;rw[if_pos c12]at hks;rw[←hks];refine xs_mem (fun _ h=>rm_shut (S:=S) hinv0 (h.re [0,0] [])) ?_;exact xs_round (lx,i+1) (by show S.length-(i+1)<S.length-i;omega) (by show i+1≤S.length;omega) sA (rr [1,0] [])
 have p13:=dF c4;refine k_exit<|xs_exit<|xs_exit<|xs_here<|xs_then<|k_sr<|sP2 lx<|s_nt<|k_ret<|xs_mem (fun _ h=>rm_shut (S:=S) hinv0 (h.re [0,0] [])) ?_
 have hend:okeys (S.take i)=okeys S:=by rw[List.take_of_length_le om]
 rw[hend];exact xs_fin _ _ (SI.tmp 2 SI.nil) (rr [1,0] []) rfl
theorem next_found2{S:List Slt}{a j:Nat}{s:Slt}(ha:a≤j)(h:live ((S.drop a).take (j-a))=[])(hs:S[j]?=some s)(hg:s.gone=false):slotV (live (S.drop a)).head?=(s.key,s.val,true):=
 next_found h (by rw[List.getElem?_drop,show a+(j-a)=j by omega];exact hs) hg
theorem next_end2{S:List Slt}{a j:Nat}(ha:a≤j)(h:live ((S.drop a).take (j-a))=[])(hj:S.length≤j):slotV (live (S.drop a)).head?=(zVl,zVl,false):=
 next_end h (by rw[List.length_drop];omega)
theorem next_step2{S:List Slt}{a j:Nat}{s:Slt}(ha:a≤j)(h:live ((S.drop a).take (j-a))=[])(hs:S[j]?=some s)(hg:s.gone=true):live ((S.drop a).take (j+1-a))=[]:=by
 rw[show j+1-a=(j-a)+1 by omega];exact live_gone_step h (by rw[List.getElem?_drop,show a+(j-a)=j by omega];exact hs) hg
theorem rmnext_s{Z:Zone}{F:List Asr}{b:Nat}{S:List Slt}(hs:S.length≤1000000)(k:Vl):SF Tryz.prog 243 #[.pointer (some ⟨b,0,none⟩),k.v] Z (rmA b S::F) fun r Bs=>r=nextV (onext S k)∧Bs=rmA b S::F:=by
 refine sf_enter Tryz.func243 62 [(0,pB b 0),(1,.agg (vc k))] (fun w0=>?_);refine k_fact (fun H h=>rm_inv (h.re [0] [])) (fun hinv0=>?_);refine k_sr<|s_box (vc k) (fun g1=>?_)
 refine s_alloc (.agg zc) zc (fun g2=>?_);refine s_alloc (.agg zc) zc (fun g3=>?_);refine sP (.bool false)<|sP (iw 0)<|s_nt<|k_seq<|k_sr<|sP (pB b 0)<|sP (.bool false)<|s_nt<|k_false<|k_st<|k_sr<|sP (iw (-1))<|s_nt<|k_seq<|k_sr<|sL (t_loadA 2 (vc k))<|sL (t_kern (.agg zc))<|sL (t_eqS (fun w=>(eqVlT k zVl w).2))<|s_nt<|k_cond (!(decide (k=zVl))) (fun c4=>?_) (fun c4=>?_)
 .have c5:=not_t c4;have p6:=dF c5;refine k_sr<|sP (pB b 0)<|sL (t_loadA 2 (vc k))<|s_call [3] (rmfind_s (S:=S) om k) ?_
  rintro u7 _ ⟨e8,rfl⟩;rcases find_cases (S:=S) k with ⟨hf9,hl10,ht11,hg12⟩|⟨i13,s14,hf15,hl16,hs17,hk18,hg19,ht20⟩
  .rw [hf9]at e8;subst e8;refine sP (iw (-1))<|s_nr<|sP (iw (-1))<|sL (t_cmp (c:=true))<|s_nt<|k_true<|k_sr<|sL (t_kern (.agg zc))<|sL (t_kern (.agg zc))<|s_store 2 zc ?_
   refine s_store 1 zc ?_;refine sP (.bool false)<|sP (iw 13)<|s_nt<|k_ret<|xs_ret ?_
   have hp:onext S k=(zVl,zVl,false,13):=(onext_none (dF c5) hl10);refine xs_fin [.agg zc,.agg zc,.bool false,iw 13] (rmA b S::F) (SI.agg 4 71 2 (SI.agg 5 71 1 (SI.tmp 6 (SI.tmp 7 SI.nil)))) (rr [0] [1,1,1]) ⟨?_,rfl⟩;rw[hp];rfl
  rw[hf15]at e8;subst e8;have hlt21:i13<S.length:=(List.getElem?_eq_some_iff.1 hs17).1;refine sP (iw (i13:Int))<|s_nr<|sP (iw (i13:Int))<|sL (Lt.to t_cmp (cB (decide_eq_false om:(decide ((i13:Int)<0))=false)))<|s_nt<|k_false<|k_st<|k_seq<|k_sr<|sP (iw (i13:Int))<|sL (t_add (i13:Int) 1 ol)<|sP (iw ((i13:Int)+1))<|s_nt<|k_block<|k_loop (ι:=Nat) (fun j=>(i13+1)≤j∧j≤S.length∧live ((S.drop (i13+1)).take (j-(i13+1)))=[]) (fun j=>[(0,pB b 0),(4,pB g2 0),(5,pB g3 0),(9,iw (j:Int))]) (fun j=>rmA b S::blkA g3 zc 71::blkA g2 zc 71::blkA g1 (vc k) 71::F) (fun j=>S.length-j) (i13+1) ⟨Nat.le_refl _,by omega,by rw[Nat.sub_self];rfl⟩ sA (rr [0,0,0,0] []) ?_
  rintro j hi22;show SK _ _ _ _ _ [(0,.pointer (some ⟨b,0,none⟩)),(4,.pointer (some ⟨g2,0,none⟩)),(5,.pointer (some ⟨g3,0,none⟩)),(9,iw (j:Int))] _ (rmA b S::blkA g3 zc 71::blkA g2 zc 71::blkA g1 (vc k) 71::F);refine k_seq<|k_sr<|sP (iw (j:Int))<|sP3 (pB b 0)<|s_memX (fun H h=>rm_open (h.re [0] [])) (fun sv23 hw=>?_)
  refine sL (t_load 0 sv23)<|sL (t_len RSltT_ok Tryz.underlying255 (.own 1))<|sL t_cmp<|s_nt<|k_cond (decide ((j:Int)<(S.length:Int))) (fun c25=>?_) (fun c25=>?_)
  .have p26:=dY c25;refine k_st<|k_seq<|k_block<|k_sr<|sP3 (pB b 0)<|sL (t_load 0 sv23)<|sP (iw (j:Int))<|sL (t_index RSltT_ok Tryz.underlying255 (.own 1) (j:Int) j om ol om)<|sP (.pointer (some ((elemAt RSltT.size sv23 j).add 10))) ?_
   obtain⟨y27,hy28⟩:∃y,S[j]?=some y:=⟨_,List.getElem?_eq_getElem ol⟩;refine sL (t_loadF 10 RSltT_ok (.own 1) hy28)<|sP (.bool (!y27.gone))<|s_nt<|k_cond (!y27.gone) (fun c29=>?_) (fun c29=>?_)
   .have c30:=not_t c29;refine k_seq<|k_held [blkA b #[sv23] 257,own RSltT sv23 S,blkA g1 (vc k) 71] ?_
    refine hp_ 0 [0,0,2] (pB b 0) ?_;refine hp_ 1 [0,0,2] (pB b 0) ?_;refine hp_ 2 [0,0,2] (pB b 0) ?_;refine h_l 3 rfl [0,0,2] (fun _=>(t_load 0 sv23)) ?_;refine hp_ 4 [0,0,2] (iw (j:Int)) ?_;refine h_l 5 rfl [0,0,2] (fun _=>(t_index RSltT_ok Tryz.underlying255 (.own 1) (j:Int) j om ol om)) ?_;refine hp_ 6 [0,0,2] (.pointer (some (elemAt RSltT.size sv23 j))) ?_;refine h_l 7 rfl [0,0,2] (fun _=>(t_loadG 0 (vc y27.key) RSltT_ok (.own 1) hy28)) ?_;refine hp_ 8 [0,0,2] (pB b 0) ?_;refine hp_ 9 [0,0,2] (pB b 0) ?_;refine hp_ 10 [0,0,2] (pB b 0) ?_;refine h_l 11 rfl [0,0,2] (fun _=>(t_load 0 sv23)) ?_;refine hp_ 12 [0,0,2] (iw (j:Int)) ?_;refine h_l 13 rfl [0,0,2] (fun _=>(t_index RSltT_ok Tryz.underlying255 (.own 1) (j:Int) j om ol om)) ?_;refine hp_ 14 [0,0,2] (.pointer (some ((elemAt RSltT.size sv23 j).add 5))) ?_;refine h_l 15 rfl [0,0,2] (fun _=>(t_loadG 5 (vc y27.val) RSltT_ok (.own 1) hy28)) ?_;refine h_stepS 16 ?_;refine s_store 3 (vc y27.key) ?_;refine nH [0,0,2]<|h_stepS 17 ?_
    refine s_store 2 (vc y27.val) ?_;refine nH [0,0,2]<|hp_ 18 [0,0,2] (.bool true) ?_
    refine hp_ 19 [0,0,2] (iw 0) ?_;refine h_doneS ?_;refine xs_then<|k_ret<|xs_retBlock<|xs_ret<|xs_ret<|xs_retBlock<|xs_ret<|xs_mem (fun _ h=>rm_shut (S:=S) hinv0 (h.re [0,0] [])) ?_
    have hr:=next_found2 (a:=(i13+1)) om hi22.2.2 hy28 c30;have hp:onext S k=(y27.key,y27.val,true,0):=by rw[(onext_some (dF c5) hl16)];first|(rw[hr];done)|(have hr0:slotV (live S).head?=_:=hr;rw[hr0])
    refine xs_fin [.agg (vc y27.key),.agg (vc y27.val),.bool true,iw 0] (rmA b S::F) (SI.agg 4 71 2 (SI.agg 5 71 1 (SI.tmp 6 (SI.tmp 7 SI.nil)))) (rr [0] [1,1,1]) ⟨?_,rfl⟩;rw[hp];rfl
   have c31:=not_f c29;refine k_skip<|xs_block<|xs_then<|k_reg<|sP (iw (j:Int))<|sL (t_add (j:Int) 1 ol)<|sP (iw ((j:Int)+1))<|s_nil<|xs_mem (fun _ h=>rm_shut (S:=S) hinv0 (h.re [0,0] [])) ?_
   exact xs_round (j+1) om ⟨by omega,by omega,next_step2 om hi22.2.2 hy28 c31⟩ sA (rr [0,0,0,0] [])
  have p32:=dF c25;refine k_exit<|xs_exit<|xs_exit<|xs_here<|xs_then<|k_sr<|sL (t_kern (.agg zc))<|sL (t_kern (.agg zc))<|s_store 3 zc ?_
  refine s_store 2 zc ?_;refine sP (.bool false)<|sP (iw 0)<|s_nt<|k_ret<|xs_mem (fun _ h=>rm_shut (S:=S) hinv0 (h.re [0,0] [])) ?_
  have hr:=next_end2 (a:=(i13+1)) om hi22.2.2 om;have hp:onext S k=(zVl,zVl,false,0):=by rw[(onext_some (dF c5) hl16)];first|(rw[hr];done)|(have hr0:slotV (live S).head?=_:=hr;rw[hr0])
  refine xs_fin [.agg zc,.agg zc,.bool false,iw 0] (rmA b S::F) (SI.agg 4 71 2 (SI.agg 5 71 1 (SI.tmp 6 (SI.tmp 7 SI.nil)))) (rr [0] [1,1,1]) ⟨?_,rfl⟩;rw[hp];rfl
 have c33:=not_f c4;have p34:=dY c33;refine k_st<|k_seq<|k_sr<|sP (iw (-1))<|sP2 (iw 0)<|s_nt<|k_block<|k_loop (ι:=Nat) (fun j=>0≤j∧j≤S.length∧live ((S.drop 0).take (j-0))=[]) (fun j=>[(0,pB b 0),(4,pB g2 0),(5,pB g3 0),(9,iw (j:Int))]) (fun j=>blkA g3 zc 71::blkA g2 zc 71::blkA g1 (vc k) 71::rmA b S::F) (fun j=>S.length-j) 0 ⟨Nat.le_refl _,by omega,by rw[Nat.sub_self];rfl⟩ sA (rr [0,0,0,0] []) ?_
 rintro j hi35;show SK _ _ _ _ _ [(0,pB b 0),(4,pB g2 0),(5,pB g3 0),(9,iw (j:Int))] _ (blkA g3 zc 71::blkA g2 zc 71::blkA g1 (vc k) 71::rmA b S::F);refine k_seq<|k_sr<|sP (iw (j:Int))<|sP3 (pB b 0)<|s_memX (fun H h=>rm_open (h.re [3] [])) (fun sv36 hw=>?_)
 refine sL (t_load 0 sv36)<|sL (t_len RSltT_ok Tryz.underlying255 (.own 1))<|sL t_cmp<|s_nt<|k_cond (decide ((j:Int)<(S.length:Int))) (fun c38=>?_) (fun c38=>?_)
 .have p39:=dY c38;refine k_st<|k_seq<|k_block<|k_sr<|sP3 (pB b 0)<|sL (t_load 0 sv36)<|sP (iw (j:Int))<|sL (t_index RSltT_ok Tryz.underlying255 (.own 1) (j:Int) j om ol om)<|sP (.pointer (some ((elemAt RSltT.size sv36 j).add 10))) ?_
  obtain⟨y40,hy41⟩:∃y,S[j]?=some y:=⟨_,List.getElem?_eq_getElem ol⟩;refine sL (t_loadF 10 RSltT_ok (.own 1) hy41)<|sP (.bool (!y40.gone))<|s_nt<|k_cond (!y40.gone) (fun c42=>?_) (fun c42=>?_)
  .have c43:=not_t c42;refine k_seq<|k_held [blkA b #[sv36] 257,own RSltT sv36 S,blkA g1 (vc k) 71] ?_
   refine hp_ 0 [0,0,2] (pB b 0) ?_;refine hp_ 1 [0,0,2] (pB b 0) ?_;refine hp_ 2 [0,0,2] (pB b 0) ?_;refine h_l 3 rfl [0,0,2] (fun _=>(t_load 0 sv36)) ?_;refine hp_ 4 [0,0,2] (iw (j:Int)) ?_;refine h_l 5 rfl [0,0,2] (fun _=>(t_index RSltT_ok Tryz.underlying255 (.own 1) (j:Int) j om ol om)) ?_;refine hp_ 6 [0,0,2] (.pointer (some (elemAt RSltT.size sv36 j))) ?_;refine h_l 7 rfl [0,0,2] (fun _=>(t_loadG 0 (vc y40.key) RSltT_ok (.own 1) hy41)) ?_;refine hp_ 8 [0,0,2] (pB b 0) ?_;refine hp_ 9 [0,0,2] (pB b 0) ?_;refine hp_ 10 [0,0,2] (pB b 0) ?_;refine h_l 11 rfl [0,0,2] (fun _=>(t_load 0 sv36)) ?_;refine hp_ 12 [0,0,2] (iw (j:Int)) ?_;refine h_l 13 rfl [0,0,2] (fun _=>(t_index RSltT_ok Tryz.underlying255 (.own 1) (j:Int) j om ol om)) ?_;refine hp_ 14 [0,0,2] (.pointer (some ((elemAt RSltT.size sv36 j).add 5))) ?_;refine h_l 15 rfl [0,0,2] (fun _=>(t_loadG 5 (vc y40.val) RSltT_ok (.own 1) hy41)) ?_;refine h_stepS 16 ?_;refine s_store 3 (vc y40.key) ?_;refine nH [0,0,2]<|h_stepS 17 ?_
   refine s_store 2 (vc y40.val) ?_;refine nH [0,0,2]<|hp_ 18 [0,0,2] (.bool true) ?_
   refine hp_ 19 [0,0,2] (iw 0) ?_;refine h_doneS ?_;refine xs_then<|k_ret<|xs_retBlock<|xs_ret<|xs_ret<|xs_retBlock<|xs_ret<|xs_mem (fun _ h=>rm_shut (S:=S) hinv0 (h.re [0,0] [])) ?_
   have hz:k=zVl:=(dY c33);subst hz;have hr:=next_found2 (a:=0) om hi35.2.2 hy41 c43;have hp:onext S zVl=(y40.key,y40.val,true,0):=by rw[(onext_nil S)];first|(rw[hr];done)|(have hr0:slotV (live S).head?=_:=hr;rw[hr0])
   refine xs_fin [.agg (vc y40.key),.agg (vc y40.val),.bool true,iw 0] (rmA b S::F) (SI.agg 4 71 2 (SI.agg 5 71 1 (SI.tmp 6 (SI.tmp 7 SI.nil)))) (rr [0] [1,1,1]) ⟨?_,rfl⟩;rw[hp];rfl
  have c44:=not_f c42;refine k_skip<|xs_block<|xs_then<|k_reg<|sP (iw (j:Int))<|sL (t_add (j:Int) 1 ol)<|sP (iw ((j:Int)+1))<|s_nil<|xs_mem (fun _ h=>rm_shut (S:=S) hinv0 (h.re [0,0] [])) ?_
  exact xs_round (j+1) om ⟨by omega,by omega,next_step2 om hi35.2.2 hy41 c44⟩ sA (rr [1,1,1,0] [])
 have p45:=dF c38;refine k_exit<|xs_exit<|xs_exit<|xs_here<|xs_then<|k_sr<|sL (t_kern (.agg zc))<|sL (t_kern (.agg zc))<|s_store 3 zc ?_
 refine s_store 2 zc ?_;refine sP (.bool false)<|sP (iw 0)<|s_nt<|k_ret<|xs_mem (fun _ h=>rm_shut (S:=S) hinv0 (h.re [0,0] [])) ?_
 have hz:k=zVl:=(dY c33);subst hz;have hr:=next_end2 (a:=0) om hi35.2.2 om;have hp:onext S zVl=(zVl,zVl,false,0):=by rw[(onext_nil S)];first|(rw[hr];done)|(have hr0:slotV (live S).head?=_:=hr;rw[hr0])
 refine xs_fin [.agg zc,.agg zc,.bool false,iw 0] (rmA b S::F) (SI.agg 4 71 2 (SI.agg 5 71 1 (SI.tmp 6 (SI.tmp 7 SI.nil)))) (rr [0] [1,1,1]) ⟨?_,rfl⟩;rw[hp];rfl
theorem rmset_s{Z:Zone}{F:List Asr}{b:Nat}{S:List Slt}(hs:S.length≤1000000)(k v:Vl):SF Tryz.prog 198 #[.pointer (some ⟨b,0,none⟩),k.v,v.v] Z (rmA b S::F) fun r Bs=>r=iw (osetE k v)∧Bs=rmA b (osetL S k v)::F:=by
 refine sf_enter Tryz.func198 117 [(0,pB b 0),(1,.agg (vc k)),(2,.agg (vc v))] (fun w0=>?_);refine k_fact (fun H h=>rm_inv (h.re [0] [])) (fun hinv0=>?_);refine k_sr<|s_box (vc k) (fun g1=>?_)
 refine s_box (vc v) (fun g2=>?_);refine sP (iw 0)<|s_nt<|k_seq<|k_sr<|sP (pB b 0)<|sP (.bool false)<|s_nt<|k_false<|k_st<|k_seq<|k_cut (ι:=Unit) (fun _=>True) (fun _=>[(0,pB b 0),(4,pB g1 0),(5,pB g2 0),(20,.bool ((decide (k.kind=0))||(!(validB k))))]) (fun _=>blkA g2 (vc v) 71::blkA g1 (vc k) 71::rmA b S::F) ?_ (fun _ _=>?_)
 .refine k_reg<|sP (pB g1 0)<|sL (t_load 1 (iw k.kind))<|sL t_cmp<|sP (.bool (decide (k.kind=0)))<|s_fork 16 (decide (k.kind=0)) (fun c3=>?_) (fun c3=>?_)
  .have p4:=dY c3;refine sK<|sK<|sK<|sP (.bool true)<|s_nil ?_
   exact xs_cut () trivial (sub_of rfl (rQ (rQ (rQ ⟨⟨rfl,show Value.bool true=Value.bool ((decide (k.kind=0))||(!(validB k))) by first|(simp only[c3,bls];done)|simp[c3]⟩,trivial⟩)))) (rr [0,0,0] [])
  have p5:=dF c3;refine sL (t_loadA 1 (vc k))<|sV (fun _ h=>rvalid_s k)<|sP2 (.bool (!(validB k)))<|s_nil ?_
  exact xs_cut () trivial (sub_of rfl (rQ (rQ (rQ ⟨⟨rfl,show Value.bool (!(validB k))=Value.bool ((decide (k.kind=0))||(!(validB k))) by first|(simp only[c3,bls];done)|simp[c3]⟩,trivial⟩)))) (rr [0,0,0] [])
 refine k_cond ((decide (k.kind=0))||(!(validB k))) (fun c6=>?_) (fun c6=>?_)
 .have p7:=c6;simp only[Bool.and_eq_true,Bool.or_eq_true,Bool.and_eq_false_iff,Bool.or_eq_false_iff,Bool.not_eq_true',Bool.not_eq_false',decide_eq_true_eq,decide_eq_false_iff_not]at p7;refine k_sr<|sP (iw 13)<|s_nt<|k_ret<|xs_ret ?_
  have hk:=okKey_bad p7;refine xs_fin [iw 13] (rmA b S::F) (SI.tmp 6 SI.nil) (rr [2] [1,1]) ⟨cI (osetE_bad hk).symm,?_⟩;rw[osetL_bad (v:=v) (.inl hk)]
 obtain⟨c8,c9⟩:=or_f c6;have p10:=dF c8;have c11:=not_f c9;refine k_st<|k_seq<|k_sr<|sL (t_loadA 0 (vc v))<|sV (fun _ h=>rvalid_s v)<|sP (.bool (!(validB v)))<|s_nt<|k_cond (!(validB v)) (fun c12=>?_) (fun c12=>?_)
 .have c13:=not_t c12;refine k_sr<|sP (iw 2)<|s_nt<|k_ret<|xs_ret ?_
  have hk:=okKey_good c8 c11;refine xs_fin [iw 2] (rmA b S::F) (SI.tmp 6 SI.nil) (rr [2] [1,1]) ⟨cI (osetE_val hk c13).symm,?_⟩;rw[osetL_bad (v:=v) (.inr c13)]
 have c14:=not_f c12;refine k_st<|k_sr<|sP (pB b 0)<|sL (t_loadA 1 (vc k))<|s_call [2] (rmfind_s (S:=S) om k) ?_
 rintro u15 _ ⟨e16,rfl⟩;rcases find_cases (S:=S) k with ⟨hf17,hl18,ht19,hg20⟩|⟨i21,s22,hf23,hl24,hs25,hk26,hg27,ht28⟩
 .rw [hf17]at e16;subst e16;refine sP (iw (-1))<|s_nt<|k_seq<|k_sr<|sP (pB g2 0)<|sL (t_load 1 (iw v.kind))<|sL t_cmp<|s_nt<|k_cond (decide (v.kind=0)) (fun c29=>?_) (fun c29=>?_)
  .have p30:=dY c29;refine k_seq<|k_sr<|sP (iw (-1))<|sL (t_cmp (c:=false))<|s_nt<|k_false<|k_st<|k_sr<|sP (iw 0)<|s_nt<|k_ret<|xs_ret ?_
   have hk:=okKey_good c8 c11;have hS:osetL S k v=S:=by rw[osetL_rem hk c14 (dY c29),ht19]
   refine xs_fin [iw 0] (rmA b S::F) (SI.tmp 6 SI.nil) (rr [0] [1,1]) ⟨cI (osetE_ok hk c14).symm,?_⟩;rw[hS]
  have p31:=dF c29;refine k_st<|k_seq<|k_sr<|sP (iw (-1))<|sL (t_cmp (c:=false))<|sP (.bool false)<|sK<|sK<|sK<|sK<|sK<|sK<|sK<|sK<|sK<|sP (.bool false)<|s_nt<|k_false<|k_st<|k_sr<|sP (pB b 0)<|sC [0] (rmlen_s (S:=S) om) ?_
  have hcl32:=cnt_le S;refine sP (iw (cnt S:Int))<|s_nt<|k_seq<|k_sr<|sP3 (pB b 0)<|s_memX (fun H h=>rm_open (h.re [0] [])) (fun sv33 hw=>?_)
  refine sL (t_load 0 sv33)<|sL (t_len RSltT_ok Tryz.underlying255 (.own 1))<|sP (iw (cnt S:Int))<|sL (t_sub (S.length:Int) (cnt S:Int) ol)<|sP (iw (cnt S:Int))<|sL (t_add (cnt S:Int) 8 ol)<|sL t_cmp<|s_nt<|k_cond (decide (((cnt S:Int)+8)<((S.length:Int)-(cnt S:Int)))) (fun c35=>?_) (fun c35=>?_)
  .have p36:=dY c35;refine k_sr<|sP (.slice none 0 0)<|s_nt<|k_seq<|k_sr<|sP (iw 0)<|s_nt<|k_block<|k_mem (fun _ h=>rm_shut (S:=S) hinv0 (h.re [0,0] [])) ?_
   refine k_mem (fun _ h=>Holds.nilS (T:=RSltT) h) ?_;refine k_mem (Bs:=own RSltT (.slice none 0 0) (live (S.take 0))::rmA b S::blkA g2 (vc v) 71::blkA g1 (vc k) 71::F) (fun _ h=>h) ?_;refine k_loop (ι:=Value×Nat) (fun (lx,i)=>i≤S.length) (fun (lx,i)=>[(0,pB b 0),(4,pB g1 0),(5,pB g2 0),(9,lx),(10,iw (i:Int))]) (fun (lx,i)=>own RSltT lx (live (S.take i))::rmA b S::blkA g2 (vc v) 71::blkA g1 (vc k) 71::F) (fun (lx,i)=>S.length-i) ((.slice none 0 0),0) (Nat.zero_le _) sA (rr [0,0,0,0] []) ?_;rintro⟨lx,i⟩ hi37;replace hi37:i≤S.length:=hi37;show SK _ _ _ _ _ [(0,.pointer (some ⟨b,0,none⟩)),(4,.pointer (some ⟨g1,0,none⟩)),(5,.pointer (some ⟨g2,0,none⟩)),(9,lx),(10,iw (i:Int))] _ (own RSltT lx (live (S.take i))::rmA b S::blkA g2 (vc v) 71::blkA g1 (vc k) 71::F);have hli:(live (S.take i)).length≤i:=Nat.le_trans (cnt_le _) (by rw[List.length_take];omega);refine k_seq<|k_sr<|sP (iw (i:Int))<|sP3 (pB b 0)<|s_memX (fun H h=>rm_open (h.re [1] [])) (fun sv38 hw=>?_)
   refine sL (t_load 0 sv38)<|sL (t_len RSltT_ok Tryz.underlying255 (.own 1))<|sL t_cmp<|s_nt<|k_cond (decide ((i:Int)<(S.length:Int))) (fun c40=>?_) (fun c40=>?_)
   .have p41:=dY c40;refine k_st<|k_seq<|k_block<|k_sr<|sP3 (pB b 0)<|sL (t_load 0 sv38)<|sP (iw (i:Int))<|sL (t_index RSltT_ok Tryz.underlying255 (.own 1) (i:Int) i om ol om)<|sP (.pointer (some ((elemAt RSltT.size sv38 i).add 10))) ?_
    obtain⟨y42,hy43⟩:∃y,S[i]?=some y:=⟨_,List.getElem?_eq_getElem ol⟩;refine sL (t_loadF 10 RSltT_ok (.own 1) hy43)<|sP (.bool (!y42.gone))<|s_nt<|k_cond (!y42.gone) (fun c44=>?_) (fun c44=>?_)
    .have c45:=not_t c44;refine k_reg<|sP lx<|sP3 (pB b 0)<|sL (t_load 0 sv38)<|sP (iw (i:Int))<|sL (t_index RSltT_ok Tryz.underlying255 (.own 1) (i:Int) i om ol om)<|sL (t_loadE RSltT_ok (.own 1) hy43)<|s_buildSlice (e:=264) [(0,.agg #[iw y42.key.kind,iw y42.key.p,iw y42.key.q,sw y42.key.str,iw y42.key.ref,iw y42.val.kind,iw y42.val.p,iw y42.val.q,sw y42.val.str,iw y42.val.ref,.bool y42.gone])] #[iw y42.key.kind,iw y42.key.p,iw y42.key.q,sw y42.key.str,iw y42.key.ref,iw y42.val.kind,iw y42.val.p,iw y42.val.q,sw y42.val.str,iw y42.val.ref,.bool y42.gone] (fun g46=>?_) (hb:=by kernel_rfl)
     refine s_append (L:=(live (S.take i))) 3 RSltT_ok Tryz.underlying255 (.lit 0 RSltT_ok [y42]) (by show _*104≤_;(try simp only[lnm]);omega) ol (fun v47=>?_);refine sP v47<|s_nil<|xs_block<|xs_then<|k_reg<|sP (iw (i:Int))<|sL (t_add (i:Int) 1 ol)<|sP (iw ((i:Int)+1))<|s_nil ?_
     have hks:=live_take hy43;rw[if_neg (by rw[c45];decide)]at hks;rw[←hks];refine xs_mem (fun _ h=>rm_shut (S:=S) hinv0 (h.re [1,1] [])) ?_;exact xs_round (v47,i+1) (by show S.length-(i+1)<S.length-i;omega) (by show i+1≤S.length;omega) sA (rr [2,0,1,1] [4])
    have c48:=not_f c44;refine k_skip<|xs_block<|xs_then<|k_reg<|sP (iw (i:Int))<|sL (t_add (i:Int) 1 ol)<|sP (iw ((i:Int)+1))<|s_nil ?_
    have hks:=live_take hy43;rw[if_pos c48]at hks;rw[←hks];refine xs_mem (fun _ h=>rm_shut (S:=S) hinv0 (h.re [0,0] [])) ?_;exact xs_round (lx,i+1) (by show S.length-(i+1)<S.length-i;omega) (by show i+1≤S.length;omega) sA (rr [1,0,0,0] [])
   have p49:=dF c40;refine k_exit ?_;have hend:live (S.take i)=live S:=by rw[List.take_of_length_le om]
   rw[hend];rw[hend]at hli;have hinv1:=live_inv hinv0;refine xs_exit<|xs_exit<|xs_here<|xs_then<|k_reg<|sP (pB b 0)<|sP lx<|sP2 (pB b 0)<|sF 2 (fun hf50=>?_)
   refine s_store (u:=lx) (m:=1) 0 #[lx] ?_ (hm:=by (obtain⟨_,_,e⟩:=hf50;rw[e];rfl)) (h1:=by (obtain⟨_,_,e⟩:=hf50;rw[e];rfl)) (ha':=by (obtain⟨_,_,e⟩:=hf50;rw[e];rfl));refine s_nt<|k_seq<|k_draw<|sP4 (pB b 0)<|sL (t_load 0 lx)<|sL (t_loadA 4 (vc k))<|sL (t_loadA 3 (vc v))<|sL (t_kern (.agg #[iw k.kind,iw k.p,iw k.q,sw k.str,iw k.ref,iw v.kind,iw v.p,iw v.q,sw v.str,iw v.ref,.bool false]))<|s_buildSlice (e:=264) [(0,.agg #[iw k.kind,iw k.p,iw k.q,sw k.str,iw k.ref,iw v.kind,iw v.p,iw v.q,sw v.str,iw v.ref,.bool false])] #[iw k.kind,iw k.p,iw k.q,sw k.str,iw k.ref,iw v.kind,iw v.p,iw v.q,sw v.str,iw v.ref,.bool false] (fun g51=>?_) (hb:=by kernel_rfl)
   refine s_append (L:=(live S)) 3 RSltT_ok Tryz.underlying255 (.lit 0 RSltT_ok [(⟨k,v,false⟩:Slt)]) (by show _*104≤_;(try simp only[lnm]);omega) ol (fun v52=>?_);refine sP2 (pB b 0)<|sF 3 (fun hf53=>?_)
   refine s_store (u:=v52) (m:=1) 1 #[v52] ?_ (hm:=by (obtain⟨_,_,e⟩:=hf53;rw[e];rfl)) (h1:=by (obtain⟨_,_,e⟩:=hf53;rw[e];rfl)) (ha':=by (obtain⟨_,_,e⟩:=hf53;rw[e];rfl));refine s_nil<|x_dynS (fun _ h=>by kernel_rfl) ?_
   refine xs_then<|k_sr<|sP (iw 0)<|s_nt<|k_ret ?_
   have hk:=okKey_good c8 c11;have hcl:=cnt_le S;have hS:osetL S k v=((live S)++[(⟨k,v,false⟩:Slt)]):=by rw[osetL_put hk c14 (dF c29),ht19];show (if _ then _ else _)++_=_;rw[if_pos (by have hx:=dY c35;omega)]
   refine xs_mem (fun _ h=>rm_shut (S:=((live S)++[(⟨k,v,false⟩:Slt)])) (by rw[←hS];exact osetL_inv hinv0 k v) (h.re [1,2] [])) ?_;refine xs_fin [iw 0] (rmA b ((live S)++[(⟨k,v,false⟩:Slt)])::F) (SI.tmp 6 SI.nil) (rr [0] [1,1,1,1]) ⟨cI (osetE_ok hk c14).symm,?_⟩;rw[hS]
  have p54:=dF c35;refine k_st<|k_seq<|k_draw<|sP4 (pB b 0)<|sL (t_load 0 sv33)<|sL (t_loadA 3 (vc k))<|sL (t_loadA 2 (vc v))<|sL (t_kern (.agg #[iw k.kind,iw k.p,iw k.q,sw k.str,iw k.ref,iw v.kind,iw v.p,iw v.q,sw v.str,iw v.ref,.bool false]))<|s_buildSlice (e:=264) [(0,.agg #[iw k.kind,iw k.p,iw k.q,sw k.str,iw k.ref,iw v.kind,iw v.p,iw v.q,sw v.str,iw v.ref,.bool false])] #[iw k.kind,iw k.p,iw k.q,sw k.str,iw k.ref,iw v.kind,iw v.p,iw v.q,sw v.str,iw v.ref,.bool false] (fun g55=>?_) (hb:=by kernel_rfl)
  refine s_append (L:=S) 2 RSltT_ok Tryz.underlying255 (.lit 0 RSltT_ok [(⟨k,v,false⟩:Slt)]) (by show _*104≤_;(try simp only[lnm]);omega) ol (fun v56=>?_);refine sP2 (pB b 0)<|sF 2 (fun hf57=>?_)
  refine s_store (u:=v56) (m:=1) 1 #[v56] ?_ (hm:=by (obtain⟨_,_,e⟩:=hf57;rw[e];rfl)) (h1:=by (obtain⟨_,_,e⟩:=hf57;rw[e];rfl)) (ha':=by (obtain⟨_,_,e⟩:=hf57;rw[e];rfl));refine s_nil<|x_dynS (fun _ h=>by kernel_rfl) ?_
  refine xs_then<|k_sr<|sP (iw 0)<|s_nt<|k_ret ?_
  have hk:=okKey_good c8 c11;have hcl:=cnt_le S;have hS:osetL S k v=(S++[(⟨k,v,false⟩:Slt)]):=by rw[osetL_put hk c14 (dF c29),ht19];show (if _ then _ else _)++_=_;rw[if_neg (by have hx:=dF c35;omega)]
  refine xs_mem (fun _ h=>rm_shut (S:=(S++[(⟨k,v,false⟩:Slt)])) (by rw[←hS];exact osetL_inv hinv0 k v) (h.re [1,1] [])) ?_;refine xs_fin [iw 0] (rmA b (S++[(⟨k,v,false⟩:Slt)])::F) (SI.tmp 6 SI.nil) (rr [0] [1,1,1]) ⟨cI (osetE_ok hk c14).symm,?_⟩;rw[hS]
 rw[hf23]at e16;subst e16;have hlt58:i21<S.length:=(List.getElem?_eq_some_iff.1 hs25).1;refine sP (iw (i21:Int))<|s_nt<|k_seq<|k_sr<|sP (pB g2 0)<|sL (t_load 1 (iw v.kind))<|sL t_cmp<|s_nt<|k_cond (decide (v.kind=0)) (fun c59=>?_) (fun c59=>?_)
 .have p60:=dY c59;refine k_seq<|k_sr<|sP (iw (i21:Int))<|sL (Lt.to t_cmp (cB (decide_eq_true om:(decide ((0:Int)≤(i21:Int)))=true)))<|s_nt<|k_true<|k_draw<|sP3 (pB b 0)<|s_memX (fun H h=>rm_open (h.re [0] [])) (fun sv61 hw=>?_)
  refine sL (t_load 0 sv61)<|sP (iw (i21:Int))<|sL (t_loadA 3 (vc k))<|sL (t_kern (.agg #[iw k.kind,iw k.p,iw k.q,sw k.str,iw k.ref,iw 0,iw 0,iw 0,sw eb,iw 0,.bool true]))<|sL (t_index RSltT_ok Tryz.underlying255 (.own 1) (i21:Int) i21 om ol om)<|s_storeE 1 0 (⟨k,zVl,true⟩:Slt) RSltT_ok hs25 ?_
  refine s_nil<|x_dynS (fun _ h=>by kernel_rfl) ?_
  refine xs_then<|k_sr<|sP (iw 0)<|s_nt<|k_ret<|xs_ret ?_
  have hk:=okKey_good c8 c11;have hS:osetL S k v=(S.set i21 (⟨k,zVl,true⟩:Slt)):=by rw[osetL_rem hk c14 (dY c59),ht28];cases hg:s22.gone with|true=>exact set_gone hinv0 hs25 hk26 hg|false=>rfl
  refine xs_mem (fun _ h=>rm_shut (S:=(S.set i21 (⟨k,zVl,true⟩:Slt))) (by rw[←hS];exact osetL_inv hinv0 k v) (h.re [0,0] [])) ?_;refine xs_fin [iw 0] (rmA b (S.set i21 (⟨k,zVl,true⟩:Slt))::F) (SI.tmp 6 SI.nil) (rr [0] [1,1]) ⟨cI (osetE_ok hk c14).symm,?_⟩;rw[hS]
 have p63:=dF c59;refine k_st<|k_seq<|k_sr<|sP (iw (i21:Int))<|sL (Lt.to t_cmp (cB (decide_eq_true om:(decide ((0:Int)≤(i21:Int)))=true)))<|sP (.bool true)<|sP3 (pB b 0)<|s_memX (fun H h=>rm_open (h.re [0] [])) (fun sv64 hw=>?_)
 refine sL (t_load 0 sv64)<|sP (iw (i21:Int))<|sL (t_index RSltT_ok Tryz.underlying255 (.own 1) (i21:Int) i21 om ol om)<|sP (.pointer (some ((elemAt RSltT.size sv64 i21).add 10)))<|sL (t_loadF 10 RSltT_ok (.own 1) hs25)<|sP2 (.bool (!s22.gone))<|s_nt<|k_cond (!s22.gone) (fun c66=>?_) (fun c66=>?_)
 .have c67:=not_t c66;refine k_seq<|k_draw<|sP3 (pB b 0)<|sL (t_load 0 sv64)<|sP (iw (i21:Int))<|sL (t_loadA 2 (vc v))<|sL (t_index RSltT_ok Tryz.underlying255 (.own 1) (i21:Int) i21 om ol om)<|sP (.pointer (some ((elemAt RSltT.size sv64 i21).add 5)))<|s_storeE 1 5 (⟨s22.key,v,s22.gone⟩:Slt) RSltT_ok hs25 ?_
  refine s_nil<|x_dynS (fun _ h=>by kernel_rfl) ?_
  refine xs_then<|k_sr<|sP (iw 0)<|s_nt<|k_ret<|xs_ret ?_
  have hk:=okKey_good c8 c11;have hS:osetL S k v=(S.set i21 (⟨s22.key,v,s22.gone⟩:Slt)):=by rw[osetL_put hk c14 (dF c59),ht28,if_neg (by rw[c67];decide),hk26,c67]
  refine xs_mem (fun _ h=>rm_shut (S:=(S.set i21 (⟨s22.key,v,s22.gone⟩:Slt))) (by rw[←hS];exact osetL_inv hinv0 k v) (h.re [0,0] [])) ?_;refine xs_fin [iw 0] (rmA b (S.set i21 (⟨s22.key,v,s22.gone⟩:Slt))::F) (SI.tmp 6 SI.nil) (rr [0] [1,1]) ⟨cI (osetE_ok hk c14).symm,?_⟩;rw[hS]
 have c68:=not_f c66;refine k_st<|k_sr<|sP (pB b 0)<|s_mem (fun _ h=>rm_shut (S:=S) hinv0 (h.re [0,0] [])) ?_
 refine sC [0] (rmlen_s (S:=S) om) ?_;have hcl69:=cnt_le S;refine sP (iw (cnt S:Int))<|s_nt<|k_seq<|k_sr<|sP3 (pB b 0)<|s_memX (fun H h=>rm_open (h.re [0] [])) (fun sv70 hw=>?_)
 refine sL (t_load 0 sv70)<|sL (t_len RSltT_ok Tryz.underlying255 (.own 1))<|sP (iw (cnt S:Int))<|sL (t_sub (S.length:Int) (cnt S:Int) ol)<|sP (iw (cnt S:Int))<|sL (t_add (cnt S:Int) 8 ol)<|sL t_cmp<|s_nt<|k_cond (decide (((cnt S:Int)+8)<((S.length:Int)-(cnt S:Int)))) (fun c72=>?_) (fun c72=>?_)
 .have p73:=dY c72;refine k_sr<|sP (.slice none 0 0)<|s_nt<|k_seq<|k_sr<|sP (iw 0)<|s_nt<|k_block<|k_mem (fun _ h=>rm_shut (S:=S) hinv0 (h.re [0,0] [])) ?_
  refine k_mem (fun _ h=>Holds.nilS (T:=RSltT) h) ?_;refine k_mem (Bs:=own RSltT (.slice none 0 0) (live (S.take 0))::rmA b S::blkA g2 (vc v) 71::blkA g1 (vc k) 71::F) (fun _ h=>h) ?_;refine k_loop (ι:=Value×Nat) (fun (lx,i)=>i≤S.length) (fun (lx,i)=>[(0,pB b 0),(4,pB g1 0),(5,pB g2 0),(9,lx),(10,iw (i:Int))]) (fun (lx,i)=>own RSltT lx (live (S.take i))::rmA b S::blkA g2 (vc v) 71::blkA g1 (vc k) 71::F) (fun (lx,i)=>S.length-i) ((.slice none 0 0),0) (Nat.zero_le _) sA (rr [0,0,0,0] []) ?_;rintro⟨lx,i⟩ hi74;replace hi74:i≤S.length:=hi74;show SK _ _ _ _ _ [(0,.pointer (some ⟨b,0,none⟩)),(4,.pointer (some ⟨g1,0,none⟩)),(5,.pointer (some ⟨g2,0,none⟩)),(9,lx),(10,iw (i:Int))] _ (own RSltT lx (live (S.take i))::rmA b S::blkA g2 (vc v) 71::blkA g1 (vc k) 71::F);have hli:(live (S.take i)).length≤i:=Nat.le_trans (cnt_le _) (by rw[List.length_take];omega);refine k_seq<|k_sr<|sP (iw (i:Int))<|sP3 (pB b 0)<|s_memX (fun H h=>rm_open (h.re [1] [])) (fun sv75 hw=>?_)
  refine sL (t_load 0 sv75)<|sL (t_len RSltT_ok Tryz.underlying255 (.own 1))<|sL t_cmp<|s_nt<|k_cond (decide ((i:Int)<(S.length:Int))) (fun c77=>?_) (fun c77=>?_)
  .have p78:=dY c77;refine k_st<|k_seq<|k_block<|k_sr<|sP3 (pB b 0)<|sL (t_load 0 sv75)<|sP (iw (i:Int))<|sL (t_index RSltT_ok Tryz.underlying255 (.own 1) (i:Int) i om ol om)<|sP (.pointer (some ((elemAt RSltT.size sv75 i).add 10))) ?_
   obtain⟨y79,hy80⟩:∃y,S[i]?=some y:=⟨_,List.getElem?_eq_getElem ol⟩;refine sL (t_loadF 10 RSltT_ok (.own 1) hy80)<|sP (.bool (!y79.gone))<|s_nt<|k_cond (!y79.gone) (fun c81=>?_) (fun c81=>?_)
   .have c82:=not_t c81;refine k_reg<|sP lx<|sP3 (pB b 0)<|sL (t_load 0 sv75)<|sP (iw (i:Int))<|sL (t_index RSltT_ok Tryz.underlying255 (.own 1) (i:Int) i om ol om)<|sL (t_loadE RSltT_ok (.own 1) hy80)<|s_buildSlice (e:=264) [(0,.agg #[iw y79.key.kind,iw y79.key.p,iw y79.key.q,sw y79.key.str,iw y79.key.ref,iw y79.val.kind,iw y79.val.p,iw y79.val.q,sw y79.val.str,iw y79.val.ref,.bool y79.gone])] #[iw y79.key.kind,iw y79.key.p,iw y79.key.q,sw y79.key.str,iw y79.key.ref,iw y79.val.kind,iw y79.val.p,iw y79.val.q,sw y79.val.str,iw y79.val.ref,.bool y79.gone] (fun g83=>?_) (hb:=by kernel_rfl)
    refine s_append (L:=(live (S.take i))) 3 RSltT_ok Tryz.underlying255 (.lit 0 RSltT_ok [y79]) (by show _*104≤_;(try simp only[lnm]);omega) ol (fun v84=>?_);refine sP v84<|s_nil<|xs_block<|xs_then<|k_reg<|sP (iw (i:Int))<|sL (t_add (i:Int) 1 ol)<|sP (iw ((i:Int)+1))<|s_nil ?_
    have hks:=live_take hy80;rw[if_neg (by rw[c82];decide)]at hks;rw[←hks];refine xs_mem (fun _ h=>rm_shut (S:=S) hinv0 (h.re [1,1] [])) ?_;exact xs_round (v84,i+1) (by show S.length-(i+1)<S.length-i;omega) (by show i+1≤S.length;omega) sA (rr [2,0,1,1] [4])
   have c85:=not_f c81;refine k_skip<|xs_block<|xs_then<|k_reg<|sP (iw (i:Int))<|sL (t_add (i:Int) 1 ol)<|sP (iw ((i:Int)+1))<|s_nil ?_
   have hks:=live_take hy80;rw[if_pos c85]at hks;rw[←hks];refine xs_mem (fun _ h=>rm_shut (S:=S) hinv0 (h.re [0,0] [])) ?_;exact xs_round (lx,i+1) (by show S.length-(i+1)<S.length-i;omega) (by show i+1≤S.length;omega) sA (rr [1,0,0,0] [])
  have p86:=dF c77;refine k_exit ?_;have hend:live (S.take i)=live S:=by rw[List.take_of_length_le om]
  rw[hend];rw[hend]at hli;have hinv1:=live_inv hinv0;refine xs_exit<|xs_exit<|xs_here<|xs_then<|k_reg<|sP (pB b 0)<|sP lx<|sP2 (pB b 0)<|sF 2 (fun hf87=>?_)
  refine s_store (u:=lx) (m:=1) 0 #[lx] ?_ (hm:=by (obtain⟨_,_,e⟩:=hf87;rw[e];rfl)) (h1:=by (obtain⟨_,_,e⟩:=hf87;rw[e];rfl)) (ha':=by (obtain⟨_,_,e⟩:=hf87;rw[e];rfl));refine s_nt<|k_seq<|k_draw<|sP4 (pB b 0)<|sL (t_load 0 lx)<|sL (t_loadA 4 (vc k))<|sL (t_loadA 3 (vc v))<|sL (t_kern (.agg #[iw k.kind,iw k.p,iw k.q,sw k.str,iw k.ref,iw v.kind,iw v.p,iw v.q,sw v.str,iw v.ref,.bool false]))<|s_buildSlice (e:=264) [(0,.agg #[iw k.kind,iw k.p,iw k.q,sw k.str,iw k.ref,iw v.kind,iw v.p,iw v.q,sw v.str,iw v.ref,.bool false])] #[iw k.kind,iw k.p,iw k.q,sw k.str,iw k.ref,iw v.kind,iw v.p,iw v.q,sw v.str,iw v.ref,.bool false] (fun g88=>?_) (hb:=by kernel_rfl)
  refine s_append (L:=(live S)) 3 RSltT_ok Tryz.underlying255 (.lit 0 RSltT_ok [(⟨k,v,false⟩:Slt)]) (by show _*104≤_;(try simp only[lnm]);omega) ol (fun v89=>?_);refine sP2 (pB b 0)<|sF 3 (fun hf90=>?_)
  refine s_store (u:=v89) (m:=1) 1 #[v89] ?_ (hm:=by (obtain⟨_,_,e⟩:=hf90;rw[e];rfl)) (h1:=by (obtain⟨_,_,e⟩:=hf90;rw[e];rfl)) (ha':=by (obtain⟨_,_,e⟩:=hf90;rw[e];rfl));refine s_nil<|x_dynS (fun _ h=>by kernel_rfl) ?_
  refine xs_then<|k_sr<|sP (iw 0)<|s_nt<|k_ret ?_
  have hk:=okKey_good c8 c11;have hcl:=cnt_le S;have hS:osetL S k v=((live S)++[(⟨k,v,false⟩:Slt)]):=by rw[osetL_put hk c14 (dF c59),ht28,if_pos c68];show (if _ then _ else _)++_=_;rw[if_pos (by have hx:=dY c72;omega)]
  refine xs_mem (fun _ h=>rm_shut (S:=((live S)++[(⟨k,v,false⟩:Slt)])) (by rw[←hS];exact osetL_inv hinv0 k v) (h.re [1,2] [])) ?_;refine xs_fin [iw 0] (rmA b ((live S)++[(⟨k,v,false⟩:Slt)])::F) (SI.tmp 6 SI.nil) (rr [0] [1,1,1,1]) ⟨cI (osetE_ok hk c14).symm,?_⟩;rw[hS]
 have p91:=dF c72;refine k_st<|k_seq<|k_draw<|sP4 (pB b 0)<|sL (t_load 0 sv70)<|sL (t_loadA 3 (vc k))<|sL (t_loadA 2 (vc v))<|sL (t_kern (.agg #[iw k.kind,iw k.p,iw k.q,sw k.str,iw k.ref,iw v.kind,iw v.p,iw v.q,sw v.str,iw v.ref,.bool false]))<|s_buildSlice (e:=264) [(0,.agg #[iw k.kind,iw k.p,iw k.q,sw k.str,iw k.ref,iw v.kind,iw v.p,iw v.q,sw v.str,iw v.ref,.bool false])] #[iw k.kind,iw k.p,iw k.q,sw k.str,iw k.ref,iw v.kind,iw v.p,iw v.q,sw v.str,iw v.ref,.bool false] (fun g92=>?_) (hb:=by kernel_rfl)
 refine s_append (L:=S) 2 RSltT_ok Tryz.underlying255 (.lit 0 RSltT_ok [(⟨k,v,false⟩:Slt)]) (by show _*104≤_;(try simp only[lnm]);omega) ol (fun v93=>?_);refine sP2 (pB b 0)<|sF 2 (fun hf94=>?_)
 refine s_store (u:=v93) (m:=1) 1 #[v93] ?_ (hm:=by (obtain⟨_,_,e⟩:=hf94;rw[e];rfl)) (h1:=by (obtain⟨_,_,e⟩:=hf94;rw[e];rfl)) (ha':=by (obtain⟨_,_,e⟩:=hf94;rw[e];rfl));refine s_nil<|x_dynS (fun _ h=>by kernel_rfl) ?_
 refine xs_then<|k_sr<|sP (iw 0)<|s_nt<|k_ret ?_
 have hk:=okKey_good c8 c11;have hcl:=cnt_le S;have hS:osetL S k v=(S++[(⟨k,v,false⟩:Slt)]):=by rw[osetL_put hk c14 (dF c59),ht28,if_pos c68];show (if _ then _ else _)++_=_;rw[if_neg (by have hx:=dF c72;omega)]
 refine xs_mem (fun _ h=>rm_shut (S:=(S++[(⟨k,v,false⟩:Slt)])) (by rw[←hS];exact osetL_inv hinv0 k v) (h.re [1,1] [])) ?_;refine xs_fin [iw 0] (rmA b (S++[(⟨k,v,false⟩:Slt)])::F) (SI.tmp 6 SI.nil) (rr [0] [1,1,1]) ⟨cI (osetE_ok hk c14).symm,?_⟩;rw[hS]
end Go.Proofs.YtmhpcebiamkciaaGreat
end
section
set_option linter.unusedSimpArgs false
set_option linter.unusedVariables false
set_option maxRecDepth 100000
set_option maxHeartbeats 2000000
namespace Go.Proofs.YtmhpcebiamkciaaGreat
open Go.Hp Go.J Go.S
open Go.Mem (Ty KTy blk elemAt pre suf blk_pre blk_suf aget aset strK aggDesc)
open Go.Mem (adel apos aget_aset aget_adel)
def tbA(b:Nat)(L:List Vl)(S:List Slt):Asr:=exA fun lv=>exA fun r=>stA True [blkA b #[lv,.pointer (some ⟨r,0,none⟩)] 185,own VlT lv L,omA r S]
theorem tb_open{b:Nat}{L:List Vl}{S:List Slt}{Z:Zone}{F:List Asr}{H:Heap}(h:Holds Z (tbA b L S::F) H):∃(lv:Value) (r:Nat),True∧Holds Z (blkA b #[lv,.pointer (some ⟨r,0,none⟩)] 185::own VlT lv L::omA r S::F) H:=by
 obtain⟨lv,h⟩:=h.open_ex;obtain⟨r,h⟩:=h.open_ex;exact⟨lv,r,h.open_st⟩
theorem tb_shut{b:Nat}{L:List Vl}{S:List Slt}{Z:Zone}{F:List Asr}{H:Heap}{lv:Value}{r:Nat}(h:Holds Z (blkA b #[lv,.pointer (some ⟨r,0,none⟩)] 185::own VlT lv L::omA r S::F) H):Holds Z (tbA b L S::F) H:=
 Holds.shut_ex lv (Holds.shut_ex r (Holds.shut_st trivial h))
theorem tb_inv{b:Nat}{L:List Vl}{S:List Slt}{Z:Zone}{F:List Asr}{H:Heap}(h:Holds Z (tbA b L S::F) H):OInv S:=by
 obtain⟨_,_,_,h⟩:=tb_open h;exact om_inv (h.re [2] [])
theorem ofint_s{Z:Zone}(x:Int):SF Tryz.prog 233 #[iw x] Z [] fun r Bs=>r=(ofI x).v∧Bs=[]:=by
 refine sf_enter Tryz.func233 13 [(0,iw x)] (fun w0=>?_);refine k_sr<|s_alloc (.agg zc) zc (fun g1=>?_)
 refine s_nt<|k_seq<|k_cut (ι:=Unit) (fun _=>True) (fun _=>[(0,iw x),(2,pB g1 0),(8,.bool ((decide (x<(-2147483647)))||(decide ((2147483647:Int)<x))))]) (fun _=>[blkA g1 zc 71]) ?_ (fun _ _=>?_)
 .refine k_reg<|sP (iw x)<|sL t_cmp<|sP (.bool (decide (x<(-2147483647))))<|s_fork 5 (decide (x<(-2147483647))) (fun c2=>?_) (fun c2=>?_)
  .have p3:=dY c2;refine sK<|sK<|sP (.bool true)<|s_nil ?_
   exact xs_cut () trivial (sub_of rfl (rQ (rQ ⟨⟨rfl,cB (by simp[c2])⟩,trivial⟩))) (rr [0] [])
  have p4:=dF c2;refine sP (iw x)<|sL t_cmp<|sP (.bool (decide ((2147483647:Int)<x)))<|s_nil ?_
  exact xs_cut () trivial (sub_of rfl (rQ (rQ ⟨⟨rfl,cB (by simp[c2])⟩,trivial⟩))) (rr [0] [])
 refine k_cond ((decide (x<(-2147483647)))||(decide ((2147483647:Int)<x))) (fun c5=>?_) (fun c5=>?_)
 .have p6:=c5;simp only[Bool.and_eq_true,Bool.or_eq_true,Bool.and_eq_false_iff,Bool.or_eq_false_iff,Bool.not_eq_true',Bool.not_eq_false',decide_eq_true_eq,decide_eq_false_iff_not]at p6;refine k_sr<|sL (t_kern (.agg zc))<|s_store 0 zc ?_
  refine s_nt<|k_ret<|xs_ret<|xs_fin [.agg zc] [] (SI.agg 2 71 0 SI.nil) (rr [] [0]) ⟨?_,rfl⟩
  show Value.agg _=Vl.v (ofI x);unfold ofI;rw[if_pos om];rfl
 obtain⟨c7,c8⟩:=or_f c5;have p9:=dF c7;have p10:=dF c8;refine k_st<|k_sr<|sP (iw x)<|sL (t_kern (.agg #[iw x,iw 1]))<|sL (t_kern (.agg #[iw 2,iw x,iw 1,sw eb,iw 0]))<|s_store 0 #[iw 2,iw x,iw 1,sw eb,iw 0] ?_
 refine s_nt<|k_ret<|xs_fin [.agg #[iw 2,iw x,iw 1,sw eb,iw 0]] [] (SI.agg 2 71 0 SI.nil) (rr [] [0]) ⟨?_,rfl⟩
 show Value.agg _=Vl.v (ofI x);unfold ofI;rw[if_neg om]
theorem rofint_s{Z:Zone}(x:Int):SF Tryz.prog 242 #[iw x] Z [] fun r Bs=>r=(ofI x).v∧Bs=[]:=by
 refine sf_enter Tryz.func242 13 [(0,iw x)] (fun w0=>?_);refine k_sr<|s_alloc (.agg zc) zc (fun g1=>?_)
 refine s_nt<|k_seq<|k_cut (ι:=Unit) (fun _=>True) (fun _=>[(0,iw x),(2,pB g1 0),(8,.bool ((decide (x<(-2147483647)))||(decide ((2147483647:Int)<x))))]) (fun _=>[blkA g1 zc 71]) ?_ (fun _ _=>?_)
 .refine k_reg<|sP (iw x)<|sL t_cmp<|sP (.bool (decide (x<(-2147483647))))<|s_fork 5 (decide (x<(-2147483647))) (fun c2=>?_) (fun c2=>?_)
  .have p3:=dY c2;refine sK<|sK<|sP (.bool true)<|s_nil ?_
   exact xs_cut () trivial (sub_of rfl (rQ (rQ ⟨⟨rfl,cB (by simp[c2])⟩,trivial⟩))) (rr [0] [])
  have p4:=dF c2;refine sP (iw x)<|sL t_cmp<|sP (.bool (decide ((2147483647:Int)<x)))<|s_nil ?_
  exact xs_cut () trivial (sub_of rfl (rQ (rQ ⟨⟨rfl,cB (by simp[c2])⟩,trivial⟩))) (rr [0] [])
 refine k_cond ((decide (x<(-2147483647)))||(decide ((2147483647:Int)<x))) (fun c5=>?_) (fun c5=>?_)
 .have p6:=c5;simp only[Bool.and_eq_true,Bool.or_eq_true,Bool.and_eq_false_iff,Bool.or_eq_false_iff,Bool.not_eq_true',Bool.not_eq_false',decide_eq_true_eq,decide_eq_false_iff_not]at p6;refine k_sr<|sL (t_kern (.agg zc))<|s_store 0 zc ?_
  refine s_nt<|k_ret<|xs_ret<|xs_fin [.agg zc] [] (SI.agg 2 71 0 SI.nil) (rr [] [0]) ⟨?_,rfl⟩
  show Value.agg _=Vl.v (ofI x);unfold ofI;rw[if_pos om];rfl
 obtain⟨c7,c8⟩:=or_f c5;have p9:=dF c7;have p10:=dF c8;refine k_st<|k_sr<|sP (iw x)<|sL (t_kern (.agg #[iw x,iw 1]))<|sL (t_kern (.agg #[iw 2,iw x,iw 1,sw eb,iw 0]))<|s_store 0 #[iw 2,iw x,iw 1,sw eb,iw 0] ?_
 refine s_nt<|k_ret<|xs_fin [.agg #[iw 2,iw x,iw 1,sw eb,iw 0]] [] (SI.agg 2 71 0 SI.nil) (rr [] [0]) ⟨?_,rfl⟩
 show Value.agg _=Vl.v (ofI x);unfold ofI;rw[if_neg om]
theorem rkey_s{Z:Zone}(x:Int):SF Tryz.prog 200 #[iw x] Z [] fun r Bs=>r=(ofI x).v∧Bs=[]:=by
 refine sf_enter Tryz.func200 5 [(0,iw x)] (fun w0=>?_);refine k_sr<|s_alloc (.agg zc) zc (fun g1=>?_)
 refine s_nr<|sP (iw x)<|sV (fun _ h=>rofint_s x)<|s_store 0 (vc (ofI x)) ?_
 refine s_nt<|k_ret<|xs_fin [.agg (vc (ofI x))] [] (SI.agg 2 71 0 SI.nil) (rr [] [0]) ⟨?_,rfl⟩
 rfl
theorem integer_s{Z:Zone}(k:Vl):SF Tryz.prog 192 #[k.v] Z [] fun r Bs=>r=.tuple #[iw k.p,.bool (isIntB k)]∧Bs=[]:=by
 refine sf_enter Tryz.func192 20 [(0,.agg (vc k))] (fun w0=>?_);refine k_sr<|s_box (vc k) (fun g1=>?_)
 refine sP (iw 0)<|sP (.bool false)<|s_nt<|k_seq<|k_held [blkA g1 (vc k) 71] ?_
 refine hp_ 0 [0] (pB g1 1) ?_;refine hp_ 1 [0] (pB g1 1) ?_;refine h_l 2 rfl [0] (fun _=>(t_load 0 (iw k.p))) ?_;refine hp_ 3 [0] (pB g1 0) ?_;refine h_l 4 rfl [0] (fun _=>(t_load 0 (iw k.kind))) ?_;refine h_l 5 rfl [0] (fun _=>t_cmp) ?_;refine hp_ 6 [0] (.bool (decide (k.kind=2))) ?_;refine h_forkS 10 (decide (k.kind=2)) (fun c2=>?_) (fun c2=>?_)
 .have p3:=dY c2;refine hp_ 7 [0] (pB g1 1) ?_;refine hp_ 8 [0] (pB g1 2) ?_;refine h_l 9 rfl [0] (fun _=>(t_load 0 (iw k.q))) ?_;refine h_l 10 rfl [0] (fun _=>t_cmp) ?_;refine hp_ 11 [0] (.bool (decide (k.q=1))) ?_;refine hp_ 12 [0] (.bool (decide (k.q=1))) ?_;refine h_forkS 16 (decide (k.q=1)) (fun c4=>?_) (fun c4=>?_)
  .have p5:=dY c4;refine h_l 13 rfl [0] (fun _=>(t_loadA 0 (vc k))) ?_;refine h_stepS 14 ?_;refine sV (fun _ h=>valid_s k)<|nH [0]<|hp_ 15 [0] (.bool (validB k)) ?_
   refine hp_ 16 [0] (iw k.p) ?_;refine hp_ 17 [0] (.bool (validB k)) ?_;refine h_doneS ?_;refine xs_then<|k_ret<|xs_fin _ _ (SI.tmp 2 (SI.tmp 3 SI.nil)) (rr [] [0]) ⟨?_,rfl⟩
   show Value.tuple #[iw k.p,.bool (validB k)]=Value.tuple #[iw k.p,.bool (isIntB k)];unfold isIntB;simp[c2,c4]
  have p6:=dF c4;refine h_sk 13 [0] ?_;refine h_stepS 14 ?_;refine sK<|nH [0]<|hp_ 15 [0] (.bool false) ?_
  refine hp_ 16 [0] (iw k.p) ?_;refine hp_ 17 [0] (.bool false) ?_;refine h_doneS ?_;refine xs_then<|k_ret<|xs_fin _ _ (SI.tmp 2 (SI.tmp 3 SI.nil)) (rr [] [0]) ⟨?_,rfl⟩
  show Value.tuple #[iw k.p,.bool false]=Value.tuple #[iw k.p,.bool (isIntB k)];unfold isIntB;simp[c2,c4]
 have p7:=dF c2;refine h_sk 7 [0] ?_;refine h_sk 8 [0] ?_;refine h_sk 9 [0] ?_;refine h_sk 10 [0] ?_;refine hp_ 11 [0] (.bool false) ?_;refine hp_ 12 [0] (.bool false) ?_;refine h_sk 13 [0] ?_;refine h_stepS 14 ?_;refine sK<|nH [0]<|hp_ 15 [0] (.bool false) ?_
 refine hp_ 16 [0] (iw k.p) ?_;refine hp_ 17 [0] (.bool false) ?_;refine h_doneS ?_;refine xs_then<|k_ret<|xs_fin _ _ (SI.tmp 2 (SI.tmp 3 SI.nil)) (rr [] [0]) ⟨?_,rfl⟩
 show Value.tuple #[iw k.p,.bool false]=Value.tuple #[iw k.p,.bool (isIntB k)];unfold isIntB;simp[c2]
theorem tbnew_s{Z:Zone}:SF Tryz.prog 73 #[] Z [] fun r Bs=>∃b,r=.pointer (some ⟨b,0,none⟩)∧Bs=[tbA b [] []]:=by
 refine sf_enter Tryz.func73 4 [] (fun w0=>?_);refine k_sr<|sP (.pointer none)<|s_nr<|s_pcall (fun _ h=>omnew_s) ?_
 rintro _ _ ⟨r1,rfl,rfl⟩;refine sL (t_kern (.agg #[nS,pB r1 0]))<|s_box #[nS,pB r1 0] (fun g2=>?_)
 refine sP (pB g2 0)<|s_nt<|k_ret<|xs_fin _ _ (SI.tmp 0 SI.nil) (fun _ h=>tb_shut (b:=g2) (lv:=nS) (r:=r1) ((Holds.nilS (T:=VlT) h).re [1,0,0] [])) ⟨g2,rfl,rfl⟩
theorem tbget_s{Z:Zone}{F:List Asr}{b:Nat}{L:List Vl}{S:List Slt}(hl:L.length≤1000000)(k:Vl):SF Tryz.prog 211 #[.pointer (some ⟨b,0,none⟩),k.v] Z (tbA b L S::F) fun r Bs=>r=(tget ⟨L,S⟩ k).v∧Bs=tbA b L S::F:=by
 refine sf_enter Tryz.func211 48 [(0,pB b 0),(1,.agg (vc k))] (fun w0=>?_);refine k_sr<|s_box (vc k) (fun g1=>?_)
 refine s_alloc (.agg zc) zc (fun g2=>?_);refine s_nt<|k_seq<|k_sr<|sP (pB b 0)<|sP2 (.bool false)<|sL (t_loadA 1 (vc k))<|sV (fun _ h=>valid_s k)<|sP2 (.bool (!(validB k)))<|s_nt<|k_cond (!(validB k)) (fun c3=>?_) (fun c3=>?_)
 .have c4:=not_t c3;refine k_sr<|sL (t_kern (.agg zc))<|s_store 0 zc ?_
  refine s_nt<|k_ret<|xs_ret<|xs_fin [.agg zc] (tbA b L S::F) (SI.agg 4 71 0 SI.nil) (rr [2] [1,1]) ⟨?_,rfl⟩
  rw[tget_bad c4];rfl
 have c5:=not_f c3;refine k_st<|k_seq<|k_sr<|sL (t_loadA 1 (vc k))<|s_vcall (fun _ h=>integer_s k) ?_
 rintro u6 e7;rcases int_cases k with ⟨hi8,hp9,hv10⟩|⟨hi11,hw12⟩
 .rw [hi8,hp9]at e7;subst e7;refine sP (.tuple #[iw (whole k),.bool true])<|sP (iw (whole k))<|sP (.bool true)<|sP (iw (whole k))<|sP (.bool true)<|s_nr<|sP2 (.bool true)<|sP (iw (whole k))<|sL t_cmp<|sP2 (.bool (decide ((1:Int)≤(whole k))))<|s_fork 25 (decide ((1:Int)≤(whole k))) (fun c13=>?_) (fun c13=>?_)
  .have p14:=dY c13;refine sP (iw (whole k))<|sP3 (pB b 0)<|s_mem2 (fun H h=>tb_open (h.re [2] [])) (fun lv15 r16 hw=>?_)
   refine sL (t_load 0 lv15)<|sL (t_len VlT_ok Tryz.underlying28 (.own 1))<|sL t_cmp<|sP (.bool (decide ((whole k)≤(L.length:Int))))<|s_nt<|k_cond (decide ((whole k)≤(L.length:Int))) (fun c17=>?_) (fun c17=>?_)
   .have p18:=dY c17;refine k_sr<|sP3 (pB b 0)<|sL (t_load 0 lv15)<|sP (iw (whole k))<|sL (t_sub (whole k) 1 ol)<|sL (t_index VlT_ok Tryz.underlying28 (.own 1) ((whole k)-1) ((((whole k)-1)).toNat) om ol om) ?_
    obtain⟨y19,hy20⟩:∃y,L[(((whole k)-1)).toNat]?=some y:=⟨_,List.getElem?_eq_getElem ol⟩;refine sL (t_loadE VlT_ok (.own 1) hy20)<|s_store 3 (vc y19) ?_
    refine s_nt<|k_ret<|xs_ret<|xs_mem (fun _ h=>tb_shut (h.re [0,0,0] [])) ?_
    refine xs_fin [.agg (vc y19)] (tbA b L S::F) (SI.agg 4 71 1 SI.nil) (rr [0] [1,1]) ⟨?_,rfl⟩;rw[tget_in (T:=⟨L,S⟩) c5 om (by show _≤(L.length:Int);omega) hy20];rfl
   have p21:=dF c17;refine k_st<|k_seq<|k_draw<|sP2 (pB b 0)<|sP (pB b 1)<|sL (t_load 0 (pB r16 0))<|sL (t_loadA 4 (vc k))<|sC [2] (omget_s (S:=S) k) ?_
   refine s_store 3 (vc (oget S k)) ?_;refine s_nil<|x_dynS (fun _ h=>by kernel_rfl) ?_
   refine xs_then<|k_ret<|xs_mem (fun _ h=>tb_shut (h.re [1,1,0] [])) ?_
   refine xs_fin [.agg (vc (oget S k))] (tbA b L S::F) (SI.agg 4 71 1 SI.nil) (rr [0] [1,1]) ⟨?_,rfl⟩;rw[tget_out (T:=⟨L,S⟩) c5 (by show ¬(_∧_≤(L.length:Int));omega)];rfl
  have p22:=dF c13;refine sK<|sK<|sK<|sK<|sK<|sK<|sK<|sP (.bool false)<|s_nt<|k_false<|k_st<|k_seq<|k_draw<|sP2 (pB b 0)<|sP (pB b 1)<|s_mem2 (fun H h=>tb_open (h.re [2] [])) (fun lv23 r24 hw=>?_)
  refine sL (t_load 0 (pB r24 0))<|sL (t_loadA 4 (vc k))<|sC [2] (omget_s (S:=S) k) ?_
  refine s_store 3 (vc (oget S k)) ?_;refine s_nil<|x_dynS (fun _ h=>by kernel_rfl) ?_
  refine xs_then<|k_ret<|xs_mem (fun _ h=>tb_shut (h.re [1,1,0] [])) ?_
  refine xs_fin [.agg (vc (oget S k))] (tbA b L S::F) (SI.agg 4 71 1 SI.nil) (rr [0] [1,1]) ⟨?_,rfl⟩;rw[tget_out (T:=⟨L,S⟩) c5 (by show ¬(_∧_≤(L.length:Int));omega)];rfl
 rw[hi11]at e7;subst e7;refine sP (.tuple #[iw k.p,.bool false])<|sP (iw k.p)<|sP (.bool false)<|sP (iw k.p)<|sP (.bool false)<|s_nr<|sP2 (.bool false)<|sK<|sK<|sP2 (.bool false)<|sK<|sK<|sK<|sK<|sK<|sK<|sK<|sP (.bool false)<|s_nt<|k_false<|k_st<|k_seq<|k_draw<|sP2 (pB b 0)<|sP (pB b 1)<|s_mem2 (fun H h=>tb_open (h.re [2] [])) (fun lv25 r26 hw=>?_)
 refine sL (t_load 0 (pB r26 0))<|sL (t_loadA 4 (vc k))<|sC [2] (omget_s (S:=S) k) ?_
 refine s_store 3 (vc (oget S k)) ?_;refine s_nil<|x_dynS (fun _ h=>by kernel_rfl) ?_
 refine xs_then<|k_ret<|xs_mem (fun _ h=>tb_shut (h.re [1,1,0] [])) ?_
 refine xs_fin [.agg (vc (oget S k))] (tbA b L S::F) (SI.agg 4 71 1 SI.nil) (rr [0] [1,1]) ⟨?_,rfl⟩;rw[tget_out (T:=⟨L,S⟩) c5 (by show ¬(_∧_≤(L.length:Int));omega)];rfl
theorem tbshrink_s{Z:Zone}{F:List Asr}{b:Nat}{L:List Vl}{S:List Slt}(hl:L.length≤1000000):SF Tryz.prog 193 #[.pointer (some ⟨b,0,none⟩)] Z (tbA b L S::F) fun r Bs=>r=.tuple #[]∧Bs=tbA b (shr L) S::F:=by
 refine sf_enter Tryz.func193 34 [(0,pB b 0)] (fun w0=>?_);refine k_sr<|sP3 (pB b 0)<|s_mem2 (fun H h=>tb_open (h.re [0] [])) (fun lv1 r2 hw=>?_)
 refine sL (t_load 0 lv1)<|sL (t_len VlT_ok Tryz.underlying28 (.own 1))<|sP (iw (L.length:Int))<|s_nt<|k_seq<|k_block<|k_mem (fun _ h=>tb_shut (h.re [0,0,0] [])) ?_
 refine k_loop (ι:=Nat) (fun n=>n≤L.length∧shr L=shr (L.take n)) (fun n=>[(0,pB b 0),(2,iw (n:Int))]) (fun n=>tbA b L S::F) (fun n=>n) L.length ⟨Nat.le_refl _,by rw[List.take_length]⟩ sA (rr [0] []) ?_;rintro n hi3;show SK _ _ _ _ _ [(0,.pointer (some ⟨b,0,none⟩)),(2,iw (n:Int))] _ (tbA b L S::F);refine k_seq<|k_sr<|sP (iw (n:Int))<|sL t_cmp<|sP (.bool (decide ((0:Int)<(n:Int))))<|s_fork 10 (decide ((0:Int)<(n:Int))) (fun c4=>?_) (fun c4=>?_)
 .have p5:=dY c4;refine sP3 (pB b 0)<|s_mem2 (fun H h=>tb_open (h.re [0] [])) (fun lv6 r7 hw=>?_)
  refine sL (t_load 0 lv6)<|sP (iw (n:Int))<|sL (t_sub (n:Int) 1 ol)<|sL (t_index VlT_ok Tryz.underlying28 (.own 1) ((n:Int)-1) (n-1) om ol om)<|sP (.pointer (some (elemAt VlT.size lv6 (n-1)))) ?_
  obtain⟨y8,hy9⟩:∃y,L[(n-1)]?=some y:=⟨_,List.getElem?_eq_getElem ol⟩;refine sL (t_loadF 0 VlT_ok (.own 1) hy9)<|sL t_cmp<|sP (.bool (decide (y8.kind=0)))<|s_nt<|k_cond (decide (y8.kind=0)) (fun c10=>?_) (fun c10=>?_)
  .have p11:=dY c10;refine k_st<|k_block<|k_reg<|sP (iw (n:Int))<|sL (t_sub (n:Int) 1 ol)<|sP (iw ((n:Int)-1))<|s_nil<|xs_block<|xs_mem (fun _ h=>tb_shut (h.re [0,0,0] [])) ?_
   exact xs_round (n-1) om ⟨by omega,by rw[←shr_step (n:=n-1) om hy9 om,show n-1+1=n by omega];exact hi3.2⟩ (sub_of rfl (rQ ⟨⟨rfl,cI om⟩,trivial⟩)) (rr [0] [])
  have p12:=dF c10;refine k_exit<|xs_exit<|xs_exit<|xs_here<|xs_then<|k_reg<|sP4 (pB b 0)<|sL (t_load 0 lv6)<|sP2 (iw (n:Int))<|sL (t_pre3 VlT_ok Tryz.underlying28 (.own 1) (n:Int) n om ol om)<|sP2 (pB b 0)<|s_mem (fun _ h=>Holds.pre3 (i:=1) h VlT_ok n rfl ol) ?_
  refine sF 1 (fun hf13=>?_);refine s_store (u:=(pre3 lv6 n)) (m:=1) 0 #[(pre3 lv6 n),pB r7 0] ?_ (hm:=by (obtain⟨_,_,e⟩:=hf13;rw[e];rfl)) (h1:=by (obtain⟨_,_,e⟩:=hf13;rw[e];rfl)) (ha':=by (obtain⟨_,_,e⟩:=hf13;rw[e];rfl));refine s_nil<|xs_mem (fun _ h=>tb_shut (h.re [0,0,0] [])) ?_
  have hS:shr L=L.take n:=by rw[hi3.2,show n=n-1+1 by omega];exact shr_stop hy9 om
  refine xs_finN [] (tbA b (L.take n) S::F) SI.nil (rr [0] []) ⟨rfl,?_⟩;rw[hS]
 have p14:=dF c4;refine sK<|sK<|sK<|sK<|sK<|sK<|sK<|sK<|sK<|sK<|sP (.bool false)<|s_nt<|k_false<|k_exit<|xs_exit<|xs_exit<|xs_here<|xs_then<|k_reg<|sP4 (pB b 0)<|s_mem2 (fun H h=>tb_open (h.re [0] [])) (fun lv15 r16 hw=>?_)
 refine sL (t_load 0 lv15)<|sP2 (iw (n:Int))<|sL (t_pre3 VlT_ok Tryz.underlying28 (.own 1) (n:Int) n om ol om)<|sP2 (pB b 0)<|s_mem (fun _ h=>Holds.pre3 (i:=1) h VlT_ok n rfl ol) ?_
 refine sF 1 (fun hf17=>?_);refine s_store (u:=(pre3 lv15 n)) (m:=1) 0 #[(pre3 lv15 n),pB r16 0] ?_ (hm:=by (obtain⟨_,_,e⟩:=hf17;rw[e];rfl)) (h1:=by (obtain⟨_,_,e⟩:=hf17;rw[e];rfl)) (ha':=by (obtain⟨_,_,e⟩:=hf17;rw[e];rfl));refine s_nil<|xs_mem (fun _ h=>tb_shut (h.re [0,0,0] [])) ?_
 have hS:shr L=L.take n:=by obtain rfl:n=0:=om;rw[hi3.2];rfl
 refine xs_finN [] (tbA b (L.take n) S::F) SI.nil (rr [0] []) ⟨rfl,?_⟩;rw[hS]
theorem stale_step(S:List Slt){n m:Nat}(h:n≤m):(staleB S n m||decide ((onext S (ofI ((m:Int)+1))).2.2.2=0))=staleB S n (m+1):=by
 rw[staleB_snoc S h,hasK_iff];cases hasK S (ofI ((m:Int)+1))<;>simp
theorem tadd_eq{L L':List Vl}{S:List Slt}{v:Vl}(h:grow S (S.length+2) L v=L'):tadd ⟨L,S⟩ v=⟨L',if staleB S L.length L'.length then purge S L'.length else S⟩:=by
 unfold tadd;simp only[h]
theorem purgeS_len(S:List Slt)(m i:Nat):(purgeS S m i).length≤S.length:=by
 unfold purgeS;refine Nat.le_trans (List.length_filter_le _ _) ?_;rw[List.length_take];have:=cnt_le S;unfold cnt at this;omega
theorem okeys_length(S:List Slt):(okeys S).length=(live S).length:=by unfold okeys;simp
theorem mu_le(S:List Slt)(n:Nat)(v:Vl):mu S n v≤S.length+1:=by
 unfold mu;have:=more_le S (n+1);split<;>omega
theorem tbadd_s{Z:Zone}{F:List Asr}{b:Nat}{L:List Vl}{S:List Slt}(hl:L.length≤100000)(hs:S.length≤100000)(v:Vl):SF Tryz.prog 194 #[.pointer (some ⟨b,0,none⟩),v.v] Z (tbA b L S::F) fun r Bs=>r=.tuple #[]∧Bs=tbA b (tadd ⟨L,S⟩ v).list (tadd ⟨L,S⟩ v).rest::F:=by
 refine sf_enter Tryz.func194 107 [(0,pB b 0),(1,.agg (vc v))] (fun w0=>?_);refine k_fact (fun H h=>tb_inv (h.re [0] [])) (fun hinv0=>?_);have hol:=okeys_len S;refine k_sr<|s_box (vc v) (fun g1=>?_)
 refine s_nr<|sP (.bool false)<|s_nt<|k_seq<|k_block<|k_mem2 (fun H h=>tb_open (h.re [1] [])) (fun lv2 r3 hw=>?_)
 have hmu0:=mu_le S L.length v;refine k_loop (ι:=Value×List Vl×Vl×Nat) (fun (lx,X,x,f)=>grow S (S.length+2) L v=grow S f X x∧mu S X.length x≤f∧L.length≤X.length∧X.length+mu S X.length x≤L.length+S.length+1) (fun (lx,X,x,f)=>[(0,pB b 0),(3,pB g1 0),(4,.bool (staleB S L.length X.length))]) (fun (lx,X,x,f)=>blkA b #[lx,pB r3 0] 185::own VlT lx X::omA r3 S::blkA g1 (vc x) 71::F) (fun (lx,X,x,f)=>mu S X.length x) (lv2,L,v,S.length+2) ⟨rfl,by omega,by omega,by omega⟩ (sub_of rfl (rQ (rQ ⟨⟨rfl,cB (staleB_self S L.length).symm⟩,trivial⟩))) (rr [0,0,0,0] []) ?_;rintro⟨lx,X,x,f⟩ hi4;replace hi4:grow S (S.length+2) L v=grow S f X x∧mu S X.length x≤f∧L.length≤X.length∧X.length+mu S X.length x≤L.length+S.length+1:=hi4;show SK _ _ _ _ _ [(0,.pointer (some ⟨b,0,none⟩)),(3,.pointer (some ⟨g1,0,none⟩)),(4,.bool (staleB S L.length X.length))] _ (blkA b #[lx,.pointer (some ⟨r3,0,none⟩)] 185::own VlT lx X::omA r3 S::blkA g1 (vc x) 71::F);refine k_seq<|k_sr<|sP (pB g1 0)<|sL (t_load 3 (iw x.kind))<|sL t_cmp<|s_nt<|k_cond (decide (x.kind≠0)) (fun c5=>?_) (fun c5=>?_)
 .have p6:=dY c5;have hx0:x.kind≠0:=dY c5;obtain⟨f1,hf1,hg1⟩:=grow_step S X hx0 hi4.2.1;have hg2:grow S (S.length+2) L v=grow S (f-1) (X++[x]) (oget S (ofI ((X.length:Int)+2))):=by rw[hi4.1,hg1,hf1];rfl
  refine k_st<|k_block<|k_seq<|k_draw<|sP4 (pB b 0)<|sL (t_load 0 lx)<|sL (t_loadA 3 (vc x))<|s_buildSlice (e:=71) [(0,.agg (vc x))] (vc x) (fun g7=>?_) (hb:=by kernel_rfl)
  refine s_append (L:=X) 2 VlT_ok Tryz.underlying28 (.lit 0 VlT_ok [x]) (by show _*48≤_;(try simp only[lnm]);omega) ol (fun v8=>?_);obtain⟨L2,hL2⟩:∃y,y=X++[x]:=⟨_,rfl⟩;rw[←hL2];have ll2:L2.length=X.length+1:=by rw[hL2];simp
  refine sP2 (pB b 0)<|sF 2 (fun hf9=>?_)
  refine s_store (u:=v8) (m:=1) 1 #[v8,pB r3 0] ?_ (hm:=by (obtain⟨_,_,e⟩:=hf9;rw[e];rfl)) (h1:=by (obtain⟨_,_,e⟩:=hf9;rw[e];rfl)) (ha':=by (obtain⟨_,_,e⟩:=hf9;rw[e];rfl));refine s_nil<|x_dynS (fun _ h=>by kernel_rfl) ?_
  refine xs_then<|k_cut (ι:=Unit) (fun _=>True) (fun _=>[(0,pB b 0),(3,pB g1 0),(4,.bool (staleB S L.length X.length)),(8,iw ((onext S (ofI ((X.length:Int)+1))).2.2.2))]) (fun _=>blkA g7 (vc x) 71::blkA b #[v8,pB r3 0] 185::own VlT v8 L2::omA r3 S::blkA g1 (vc x) 71::F) ?_ (fun _ _=>?_)
  .refine k_held [blkA g7 (vc x) 71,blkA b #[v8,pB r3 0] 185,own VlT v8 L2,blkA g1 (vc x) 71] ?_;refine hp_ 0 [0,0,0,1] (pB b 0) ?_;refine hp_ 1 [0,0,0,1] (pB b 0) ?_;refine hp_ 2 [0,0,0,1] (pB b 1) ?_;refine h_l 3 rfl [0,0,0,1] (fun _=>(t_load 1 (pB r3 0))) ?_;refine hp_ 4 [0,0,0,1] (pB b 0) ?_;refine hp_ 5 [0,0,0,1] (pB b 0) ?_;refine hp_ 6 [0,0,0,1] (pB b 0) ?_;refine h_l 7 rfl [0,0,0,1] (fun _=>(t_load 1 v8)) ?_;refine h_l 8 rfl [0,0,0,1] (fun _=>(t_len VlT_ok Tryz.underlying28 (.own 2))) ?_;refine h_stepS3 9 16 17 ?_ ?_ ?_
   .refine s_vcall (fun _ h=>ofint_s (L2.length:Int)) ?_;rintro u11 e10;obtain rfl:u11=(ofI ((X.length:Int)+1)).v:=by rw[e10,show (L2.length:Int)=(X.length:Int)+1 by omega]
    refine nH [0,0,0,1]<|h_stepS3 10 16 17 ?_ ?_ ?_
    .refine sC [3] (omnext_s (S:=S) ol (ofI ((X.length:Int)+1))) ?_;refine nH [1,1,1,1]<|hp_ 11 [1,1,1,1] (.tuple #[.agg (vc ((onext S (ofI ((X.length:Int)+1))).1)),.agg (vc ((onext S (ofI ((X.length:Int)+1))).2.1)),.bool ((onext S (ofI ((X.length:Int)+1))).2.2.1),iw ((onext S (ofI ((X.length:Int)+1))).2.2.2)]) ?_
     refine hp_ 12 [1,1,1,1] (.agg (vc ((onext S (ofI ((X.length:Int)+1))).1))) ?_;refine hp_ 13 [1,1,1,1] (.agg (vc ((onext S (ofI ((X.length:Int)+1))).2.1))) ?_;refine hp_ 14 [1,1,1,1] (.bool ((onext S (ofI ((X.length:Int)+1))).2.2.1)) ?_;refine hp_ 15 [1,1,1,1] (iw ((onext S (ofI ((X.length:Int)+1))).2.2.2)) ?_;refine h_stepS2 16 17 ?_ ?_
     .refine s_alloc (.agg zc) zc (fun g12=>?_);refine nH [2,2,2,2]<|h_stepS 17 ?_
      refine s_alloc (.agg zc) zc (fun g13=>?_);refine nH [3,3,3,3]<|h_stepS 18 ?_
      refine s_store 1 (vc ((onext S (ofI ((X.length:Int)+1))).1)) ?_;refine nH [3,3,3,3]<|h_stepS 19 ?_
      refine s_store 0 (vc ((onext S (ofI ((X.length:Int)+1))).2.1)) ?_;refine nH [3,3,3,3]<|hp_ 20 [3,3,3,3] (.bool ((onext S (ofI ((X.length:Int)+1))).2.2.1)) ?_
      refine hp_ 21 [3,3,3,3] (iw ((onext S (ofI ((X.length:Int)+1))).2.2.2)) ?_;refine h_doneS ?_;exact xcut () (rr [3,3,3,2,2] [5,5])
     refine s_alloc (.agg zc) zc (fun g14=>?_);refine nH [2,2,2,2]<|h_stepS 16 ?_
     refine s_alloc (.agg zc) zc (fun g15=>?_);refine nH [3,3,3,3]<|h_stepS 18 ?_
     refine s_store 0 (vc ((onext S (ofI ((X.length:Int)+1))).1)) ?_;refine nH [3,3,3,3]<|h_stepS 19 ?_
     refine s_store 1 (vc ((onext S (ofI ((X.length:Int)+1))).2.1)) ?_;refine nH [3,3,3,3]<|hp_ 20 [3,3,3,3] (.bool ((onext S (ofI ((X.length:Int)+1))).2.2.1)) ?_
     refine hp_ 21 [3,3,3,3] (iw ((onext S (ofI ((X.length:Int)+1))).2.2.2)) ?_;refine h_doneS ?_;exact xcut () (rr [3,3,3,2,2] [5,5])
    .refine s_alloc (.agg zc) zc (fun g16=>?_);refine nH [1,1,1,2]<|h_stepS2 10 17 ?_ ?_
     .refine sC [4] (omnext_s (S:=S) ol (ofI ((X.length:Int)+1))) ?_;refine nH [2,2,2,2]<|hp_ 11 [2,2,2,2] (.tuple #[.agg (vc ((onext S (ofI ((X.length:Int)+1))).1)),.agg (vc ((onext S (ofI ((X.length:Int)+1))).2.1)),.bool ((onext S (ofI ((X.length:Int)+1))).2.2.1),iw ((onext S (ofI ((X.length:Int)+1))).2.2.2)]) ?_
      refine hp_ 12 [2,2,2,2] (.agg (vc ((onext S (ofI ((X.length:Int)+1))).1))) ?_;refine hp_ 13 [2,2,2,2] (.agg (vc ((onext S (ofI ((X.length:Int)+1))).2.1))) ?_;refine hp_ 14 [2,2,2,2] (.bool ((onext S (ofI ((X.length:Int)+1))).2.2.1)) ?_;refine hp_ 15 [2,2,2,2] (iw ((onext S (ofI ((X.length:Int)+1))).2.2.2)) ?_;refine h_stepS 17 ?_;refine s_alloc (.agg zc) zc (fun g17=>?_);refine nH [3,3,3,3]<|h_stepS 18 ?_
      refine s_store 2 (vc ((onext S (ofI ((X.length:Int)+1))).1)) ?_;refine nH [3,3,3,3]<|h_stepS 19 ?_
      refine s_store 0 (vc ((onext S (ofI ((X.length:Int)+1))).2.1)) ?_;refine nH [3,3,3,3]<|hp_ 20 [3,3,3,3] (.bool ((onext S (ofI ((X.length:Int)+1))).2.2.1)) ?_
      refine hp_ 21 [3,3,3,3] (iw ((onext S (ofI ((X.length:Int)+1))).2.2.2)) ?_;refine h_doneS ?_;exact xcut () (rr [3,3,3,1,2] [5,5])
     refine s_alloc (.agg zc) zc (fun g18=>?_);refine nH [2,2,2,3]<|h_stepS 10 ?_
     refine sC [5] (omnext_s (S:=S) ol (ofI ((X.length:Int)+1))) ?_;refine nH [3,3,3,3]<|hp_ 11 [3,3,3,3] (.tuple #[.agg (vc ((onext S (ofI ((X.length:Int)+1))).1)),.agg (vc ((onext S (ofI ((X.length:Int)+1))).2.1)),.bool ((onext S (ofI ((X.length:Int)+1))).2.2.1),iw ((onext S (ofI ((X.length:Int)+1))).2.2.2)]) ?_
     refine hp_ 12 [3,3,3,3] (.agg (vc ((onext S (ofI ((X.length:Int)+1))).1))) ?_;refine hp_ 13 [3,3,3,3] (.agg (vc ((onext S (ofI ((X.length:Int)+1))).2.1))) ?_;refine hp_ 14 [3,3,3,3] (.bool ((onext S (ofI ((X.length:Int)+1))).2.2.1)) ?_;refine hp_ 15 [3,3,3,3] (iw ((onext S (ofI ((X.length:Int)+1))).2.2.2)) ?_;refine h_stepS 18 ?_;refine s_store 2 (vc ((onext S (ofI ((X.length:Int)+1))).1)) ?_;refine nH [3,3,3,3]<|h_stepS 19 ?_
     refine s_store 1 (vc ((onext S (ofI ((X.length:Int)+1))).2.1)) ?_;refine nH [3,3,3,3]<|hp_ 20 [3,3,3,3] (.bool ((onext S (ofI ((X.length:Int)+1))).2.2.1)) ?_
     refine hp_ 21 [3,3,3,3] (iw ((onext S (ofI ((X.length:Int)+1))).2.2.2)) ?_;refine h_doneS ?_;exact xcut () (rr [3,3,3,0,2] [5,5])
    refine s_alloc (.agg zc) zc (fun g19=>?_);refine nH [1,1,1,2]<|h_stepS2 10 16 ?_ ?_
    .refine sC [4] (omnext_s (S:=S) ol (ofI ((X.length:Int)+1))) ?_;refine nH [2,2,2,2]<|hp_ 11 [2,2,2,2] (.tuple #[.agg (vc ((onext S (ofI ((X.length:Int)+1))).1)),.agg (vc ((onext S (ofI ((X.length:Int)+1))).2.1)),.bool ((onext S (ofI ((X.length:Int)+1))).2.2.1),iw ((onext S (ofI ((X.length:Int)+1))).2.2.2)]) ?_
     refine hp_ 12 [2,2,2,2] (.agg (vc ((onext S (ofI ((X.length:Int)+1))).1))) ?_;refine hp_ 13 [2,2,2,2] (.agg (vc ((onext S (ofI ((X.length:Int)+1))).2.1))) ?_;refine hp_ 14 [2,2,2,2] (.bool ((onext S (ofI ((X.length:Int)+1))).2.2.1)) ?_;refine hp_ 15 [2,2,2,2] (iw ((onext S (ofI ((X.length:Int)+1))).2.2.2)) ?_;refine h_stepS 16 ?_;refine s_alloc (.agg zc) zc (fun g20=>?_);refine nH [3,3,3,3]<|h_stepS 18 ?_
     refine s_store 0 (vc ((onext S (ofI ((X.length:Int)+1))).1)) ?_;refine nH [3,3,3,3]<|h_stepS 19 ?_
     refine s_store 2 (vc ((onext S (ofI ((X.length:Int)+1))).2.1)) ?_;refine nH [3,3,3,3]<|hp_ 20 [3,3,3,3] (.bool ((onext S (ofI ((X.length:Int)+1))).2.2.1)) ?_
     refine hp_ 21 [3,3,3,3] (iw ((onext S (ofI ((X.length:Int)+1))).2.2.2)) ?_;refine h_doneS ?_;exact xcut () (rr [3,3,3,1,2] [5,5])
    refine s_alloc (.agg zc) zc (fun g21=>?_);refine nH [2,2,2,3]<|h_stepS 10 ?_
    refine sC [5] (omnext_s (S:=S) ol (ofI ((X.length:Int)+1))) ?_;refine nH [3,3,3,3]<|hp_ 11 [3,3,3,3] (.tuple #[.agg (vc ((onext S (ofI ((X.length:Int)+1))).1)),.agg (vc ((onext S (ofI ((X.length:Int)+1))).2.1)),.bool ((onext S (ofI ((X.length:Int)+1))).2.2.1),iw ((onext S (ofI ((X.length:Int)+1))).2.2.2)]) ?_
    refine hp_ 12 [3,3,3,3] (.agg (vc ((onext S (ofI ((X.length:Int)+1))).1))) ?_;refine hp_ 13 [3,3,3,3] (.agg (vc ((onext S (ofI ((X.length:Int)+1))).2.1))) ?_;refine hp_ 14 [3,3,3,3] (.bool ((onext S (ofI ((X.length:Int)+1))).2.2.1)) ?_;refine hp_ 15 [3,3,3,3] (iw ((onext S (ofI ((X.length:Int)+1))).2.2.2)) ?_;refine h_stepS 18 ?_;refine s_store 1 (vc ((onext S (ofI ((X.length:Int)+1))).1)) ?_;refine nH [3,3,3,3]<|h_stepS 19 ?_
    refine s_store 2 (vc ((onext S (ofI ((X.length:Int)+1))).2.1)) ?_;refine nH [3,3,3,3]<|hp_ 20 [3,3,3,3] (.bool ((onext S (ofI ((X.length:Int)+1))).2.2.1)) ?_
    refine hp_ 21 [3,3,3,3] (iw ((onext S (ofI ((X.length:Int)+1))).2.2.2)) ?_;refine h_doneS ?_;exact xcut () (rr [3,3,3,0,2] [5,5])
   .refine s_alloc (.agg zc) zc (fun g22=>?_);refine nH [1,1,1,2]<|h_stepS2 9 17 ?_ ?_
    .refine s_vcall (fun _ h=>ofint_s (L2.length:Int)) ?_;rintro u24 e23;obtain rfl:u24=(ofI ((X.length:Int)+1)).v:=by rw[e23,show (L2.length:Int)=(X.length:Int)+1 by omega]
     refine nH [1,1,1,2]<|h_stepS2 10 17 ?_ ?_
     .refine sC [4] (omnext_s (S:=S) ol (ofI ((X.length:Int)+1))) ?_;refine nH [2,2,2,2]<|hp_ 11 [2,2,2,2] (.tuple #[.agg (vc ((onext S (ofI ((X.length:Int)+1))).1)),.agg (vc ((onext S (ofI ((X.length:Int)+1))).2.1)),.bool ((onext S (ofI ((X.length:Int)+1))).2.2.1),iw ((onext S (ofI ((X.length:Int)+1))).2.2.2)]) ?_
      refine hp_ 12 [2,2,2,2] (.agg (vc ((onext S (ofI ((X.length:Int)+1))).1))) ?_;refine hp_ 13 [2,2,2,2] (.agg (vc ((onext S (ofI ((X.length:Int)+1))).2.1))) ?_;refine hp_ 14 [2,2,2,2] (.bool ((onext S (ofI ((X.length:Int)+1))).2.2.1)) ?_;refine hp_ 15 [2,2,2,2] (iw ((onext S (ofI ((X.length:Int)+1))).2.2.2)) ?_;refine h_stepS 17 ?_;refine s_alloc (.agg zc) zc (fun g25=>?_);refine nH [3,3,3,3]<|h_stepS 18 ?_
      refine s_store 2 (vc ((onext S (ofI ((X.length:Int)+1))).1)) ?_;refine nH [3,3,3,3]<|h_stepS 19 ?_
      refine s_store 0 (vc ((onext S (ofI ((X.length:Int)+1))).2.1)) ?_;refine nH [3,3,3,3]<|hp_ 20 [3,3,3,3] (.bool ((onext S (ofI ((X.length:Int)+1))).2.2.1)) ?_
      refine hp_ 21 [3,3,3,3] (iw ((onext S (ofI ((X.length:Int)+1))).2.2.2)) ?_;refine h_doneS ?_;exact xcut () (rr [3,3,3,1,2] [5,5])
     refine s_alloc (.agg zc) zc (fun g26=>?_);refine nH [2,2,2,3]<|h_stepS 10 ?_
     refine sC [5] (omnext_s (S:=S) ol (ofI ((X.length:Int)+1))) ?_;refine nH [3,3,3,3]<|hp_ 11 [3,3,3,3] (.tuple #[.agg (vc ((onext S (ofI ((X.length:Int)+1))).1)),.agg (vc ((onext S (ofI ((X.length:Int)+1))).2.1)),.bool ((onext S (ofI ((X.length:Int)+1))).2.2.1),iw ((onext S (ofI ((X.length:Int)+1))).2.2.2)]) ?_
     refine hp_ 12 [3,3,3,3] (.agg (vc ((onext S (ofI ((X.length:Int)+1))).1))) ?_;refine hp_ 13 [3,3,3,3] (.agg (vc ((onext S (ofI ((X.length:Int)+1))).2.1))) ?_;refine hp_ 14 [3,3,3,3] (.bool ((onext S (ofI ((X.length:Int)+1))).2.2.1)) ?_;refine hp_ 15 [3,3,3,3] (iw ((onext S (ofI ((X.length:Int)+1))).2.2.2)) ?_;refine h_stepS 18 ?_;refine s_store 2 (vc ((onext S (ofI ((X.length:Int)+1))).1)) ?_;refine nH [3,3,3,3]<|h_stepS 19 ?_
     refine s_store 1 (vc ((onext S (ofI ((X.length:Int)+1))).2.1)) ?_;refine nH [3,3,3,3]<|hp_ 20 [3,3,3,3] (.bool ((onext S (ofI ((X.length:Int)+1))).2.2.1)) ?_
     refine hp_ 21 [3,3,3,3] (iw ((onext S (ofI ((X.length:Int)+1))).2.2.2)) ?_;refine h_doneS ?_;exact xcut () (rr [3,3,3,0,2] [5,5])
    refine s_alloc (.agg zc) zc (fun g27=>?_);refine nH [2,2,2,3]<|h_stepS 9 ?_
    refine s_vcall (fun _ h=>ofint_s (L2.length:Int)) ?_;rintro u29 e28;obtain rfl:u29=(ofI ((X.length:Int)+1)).v:=by rw[e28,show (L2.length:Int)=(X.length:Int)+1 by omega]
    refine nH [2,2,2,3]<|h_stepS 10 ?_
    refine sC [5] (omnext_s (S:=S) ol (ofI ((X.length:Int)+1))) ?_;refine nH [3,3,3,3]<|hp_ 11 [3,3,3,3] (.tuple #[.agg (vc ((onext S (ofI ((X.length:Int)+1))).1)),.agg (vc ((onext S (ofI ((X.length:Int)+1))).2.1)),.bool ((onext S (ofI ((X.length:Int)+1))).2.2.1),iw ((onext S (ofI ((X.length:Int)+1))).2.2.2)]) ?_
    refine hp_ 12 [3,3,3,3] (.agg (vc ((onext S (ofI ((X.length:Int)+1))).1))) ?_;refine hp_ 13 [3,3,3,3] (.agg (vc ((onext S (ofI ((X.length:Int)+1))).2.1))) ?_;refine hp_ 14 [3,3,3,3] (.bool ((onext S (ofI ((X.length:Int)+1))).2.2.1)) ?_;refine hp_ 15 [3,3,3,3] (iw ((onext S (ofI ((X.length:Int)+1))).2.2.2)) ?_;refine h_stepS 18 ?_;refine s_store 2 (vc ((onext S (ofI ((X.length:Int)+1))).1)) ?_;refine nH [3,3,3,3]<|h_stepS 19 ?_
    refine s_store 1 (vc ((onext S (ofI ((X.length:Int)+1))).2.1)) ?_;refine nH [3,3,3,3]<|hp_ 20 [3,3,3,3] (.bool ((onext S (ofI ((X.length:Int)+1))).2.2.1)) ?_
    refine hp_ 21 [3,3,3,3] (iw ((onext S (ofI ((X.length:Int)+1))).2.2.2)) ?_;refine h_doneS ?_;exact xcut () (rr [3,3,3,0,2] [5,5])
   refine s_alloc (.agg zc) zc (fun g30=>?_);refine nH [1,1,1,2]<|h_stepS2 9 16 ?_ ?_
   .refine s_vcall (fun _ h=>ofint_s (L2.length:Int)) ?_;rintro u32 e31;obtain rfl:u32=(ofI ((X.length:Int)+1)).v:=by rw[e31,show (L2.length:Int)=(X.length:Int)+1 by omega]
    refine nH [1,1,1,2]<|h_stepS2 10 16 ?_ ?_
    .refine sC [4] (omnext_s (S:=S) ol (ofI ((X.length:Int)+1))) ?_;refine nH [2,2,2,2]<|hp_ 11 [2,2,2,2] (.tuple #[.agg (vc ((onext S (ofI ((X.length:Int)+1))).1)),.agg (vc ((onext S (ofI ((X.length:Int)+1))).2.1)),.bool ((onext S (ofI ((X.length:Int)+1))).2.2.1),iw ((onext S (ofI ((X.length:Int)+1))).2.2.2)]) ?_
     refine hp_ 12 [2,2,2,2] (.agg (vc ((onext S (ofI ((X.length:Int)+1))).1))) ?_;refine hp_ 13 [2,2,2,2] (.agg (vc ((onext S (ofI ((X.length:Int)+1))).2.1))) ?_;refine hp_ 14 [2,2,2,2] (.bool ((onext S (ofI ((X.length:Int)+1))).2.2.1)) ?_;refine hp_ 15 [2,2,2,2] (iw ((onext S (ofI ((X.length:Int)+1))).2.2.2)) ?_;refine h_stepS 16 ?_;refine s_alloc (.agg zc) zc (fun g33=>?_);refine nH [3,3,3,3]<|h_stepS 18 ?_
     refine s_store 0 (vc ((onext S (ofI ((X.length:Int)+1))).1)) ?_;refine nH [3,3,3,3]<|h_stepS 19 ?_
     refine s_store 2 (vc ((onext S (ofI ((X.length:Int)+1))).2.1)) ?_;refine nH [3,3,3,3]<|hp_ 20 [3,3,3,3] (.bool ((onext S (ofI ((X.length:Int)+1))).2.2.1)) ?_
     refine hp_ 21 [3,3,3,3] (iw ((onext S (ofI ((X.length:Int)+1))).2.2.2)) ?_;refine h_doneS ?_;exact xcut () (rr [3,3,3,1,2] [5,5])
    refine s_alloc (.agg zc) zc (fun g34=>?_);refine nH [2,2,2,3]<|h_stepS 10 ?_
    refine sC [5] (omnext_s (S:=S) ol (ofI ((X.length:Int)+1))) ?_;refine nH [3,3,3,3]<|hp_ 11 [3,3,3,3] (.tuple #[.agg (vc ((onext S (ofI ((X.length:Int)+1))).1)),.agg (vc ((onext S (ofI ((X.length:Int)+1))).2.1)),.bool ((onext S (ofI ((X.length:Int)+1))).2.2.1),iw ((onext S (ofI ((X.length:Int)+1))).2.2.2)]) ?_
    refine hp_ 12 [3,3,3,3] (.agg (vc ((onext S (ofI ((X.length:Int)+1))).1))) ?_;refine hp_ 13 [3,3,3,3] (.agg (vc ((onext S (ofI ((X.length:Int)+1))).2.1))) ?_;refine hp_ 14 [3,3,3,3] (.bool ((onext S (ofI ((X.length:Int)+1))).2.2.1)) ?_;refine hp_ 15 [3,3,3,3] (iw ((onext S (ofI ((X.length:Int)+1))).2.2.2)) ?_;refine h_stepS 18 ?_;refine s_store 1 (vc ((onext S (ofI ((X.length:Int)+1))).1)) ?_;refine nH [3,3,3,3]<|h_stepS 19 ?_
    refine s_store 2 (vc ((onext S (ofI ((X.length:Int)+1))).2.1)) ?_;refine nH [3,3,3,3]<|hp_ 20 [3,3,3,3] (.bool ((onext S (ofI ((X.length:Int)+1))).2.2.1)) ?_
    refine hp_ 21 [3,3,3,3] (iw ((onext S (ofI ((X.length:Int)+1))).2.2.2)) ?_;refine h_doneS ?_;exact xcut () (rr [3,3,3,0,2] [5,5])
   refine s_alloc (.agg zc) zc (fun g35=>?_);refine nH [2,2,2,3]<|h_stepS 9 ?_
   refine s_vcall (fun _ h=>ofint_s (L2.length:Int)) ?_;rintro u37 e36;obtain rfl:u37=(ofI ((X.length:Int)+1)).v:=by rw[e36,show (L2.length:Int)=(X.length:Int)+1 by omega]
   refine nH [2,2,2,3]<|h_stepS 10 ?_
   refine sC [5] (omnext_s (S:=S) ol (ofI ((X.length:Int)+1))) ?_;refine nH [3,3,3,3]<|hp_ 11 [3,3,3,3] (.tuple #[.agg (vc ((onext S (ofI ((X.length:Int)+1))).1)),.agg (vc ((onext S (ofI ((X.length:Int)+1))).2.1)),.bool ((onext S (ofI ((X.length:Int)+1))).2.2.1),iw ((onext S (ofI ((X.length:Int)+1))).2.2.2)]) ?_
   refine hp_ 12 [3,3,3,3] (.agg (vc ((onext S (ofI ((X.length:Int)+1))).1))) ?_;refine hp_ 13 [3,3,3,3] (.agg (vc ((onext S (ofI ((X.length:Int)+1))).2.1))) ?_;refine hp_ 14 [3,3,3,3] (.bool ((onext S (ofI ((X.length:Int)+1))).2.2.1)) ?_;refine hp_ 15 [3,3,3,3] (iw ((onext S (ofI ((X.length:Int)+1))).2.2.2)) ?_;refine h_stepS 18 ?_;refine s_store 1 (vc ((onext S (ofI ((X.length:Int)+1))).1)) ?_;refine nH [3,3,3,3]<|h_stepS 19 ?_
   refine s_store 2 (vc ((onext S (ofI ((X.length:Int)+1))).2.1)) ?_;refine nH [3,3,3,3]<|hp_ 20 [3,3,3,3] (.bool ((onext S (ofI ((X.length:Int)+1))).2.2.1)) ?_
   refine hp_ 21 [3,3,3,3] (iw ((onext S (ofI ((X.length:Int)+1))).2.2.2)) ?_;refine h_doneS ?_;exact xcut () (rr [3,3,3,0,2] [5,5])
  refine k_cut (ι:=Unit) (fun _=>True) (fun _=>[(0,pB b 0),(3,pB g1 0),(4,.bool ((staleB S L.length X.length)||(decide ((onext S (ofI ((X.length:Int)+1))).2.2.2=0))))]) (fun _=>blkA g7 (vc x) 71::blkA b #[v8,pB r3 0] 185::own VlT v8 L2::omA r3 S::blkA g1 (vc x) 71::F) ?_ (fun _ _=>?_)
  .refine k_reg<|sP2 (.bool (staleB S L.length X.length))<|s_fork 44 (staleB S L.length X.length) (fun c38=>?_) (fun c38=>?_)
   .refine sK<|sK<|sP2 (.bool true)<|s_nil ?_
    exact xs_cut () trivial (sub_of rfl (rQ (rQ ⟨⟨rfl,show Value.bool true=Value.bool ((staleB S L.length X.length)||(decide ((onext S (ofI ((X.length:Int)+1))).2.2.2=0))) by first|(simp only[c38,bls];done)|simp[c38]⟩,trivial⟩))) (rr [0,0,0,0,0] [])
   refine sP (iw ((onext S (ofI ((X.length:Int)+1))).2.2.2))<|sL t_cmp<|sP (.bool (decide ((onext S (ofI ((X.length:Int)+1))).2.2.2=0)))<|sP (.bool (decide ((onext S (ofI ((X.length:Int)+1))).2.2.2=0)))<|s_nil ?_
   exact xs_cut () trivial (sub_of rfl (rQ (rQ ⟨⟨rfl,show Value.bool (decide ((onext S (ofI ((X.length:Int)+1))).2.2.2=0))=Value.bool ((staleB S L.length X.length)||(decide ((onext S (ofI ((X.length:Int)+1))).2.2.2=0))) by first|(simp only[c38,bls];done)|simp[c38]⟩,trivial⟩))) (rr [0,0,0,0,0] [])
  refine k_held [blkA g7 (vc x) 71,blkA b #[v8,pB r3 0] 185,own VlT v8 L2] ?_;refine hp_ 0 [0,0,0] (pB b 0) ?_;refine hp_ 1 [0,0,0] (pB b 0) ?_;refine hp_ 2 [0,0,0] (pB b 1) ?_;refine h_l 3 rfl [0,0,0] (fun _=>(t_load 1 (pB r3 0))) ?_;refine hp_ 4 [0,0,0] (pB b 0) ?_;refine hp_ 5 [0,0,0] (pB b 0) ?_;refine hp_ 6 [0,0,0] (pB b 0) ?_;refine h_l 7 rfl [0,0,0] (fun _=>(t_load 1 v8)) ?_;refine h_l 8 rfl [0,0,0] (fun _=>(t_len VlT_ok Tryz.underlying28 (.own 2))) ?_;refine h_l 9 rfl [0,0,0] (fun _=>(Lt.to (v':=iw ((X.length:Int)+2)) (t_add (L2.length:Int) 1 om) (cI om))) ?_;refine h_stepS 10 ?_;refine sV (fun _ h=>ofint_s ((X.length:Int)+2))<|nH [0,0,0]<|h_stepS 11 ?_
  refine sC [3] (omget_s (S:=S) (ofI ((X.length:Int)+2))) ?_;refine nH [1,1,1]<|h_stepS 12 ?_
  refine s_store 4 (vc (oget S (ofI ((X.length:Int)+2)))) ?_;refine nH [1,1,1]<|h_doneS ?_
  refine xs_block ?_;have hst:((staleB S L.length X.length)||(decide ((onext S (ofI ((X.length:Int)+1))).2.2.2=0)))=staleB S L.length L2.length:=by rw[ll2,←stale_step S hi4.2.2.1]
  rw[hst];exact xs_round (v8,L2,(oget S (ofI ((X.length:Int)+2))),f-1) (by show mu S _ _<mu S _ _;rw[ll2];exact mu_lt hinv0 hx0) (by show grow S (S.length+2) L v=_∧_;exact⟨by rw[hg2,hL2],by rw[ll2];have:=mu_lt hinv0 (n:=X.length) hx0;omega,by omega,by rw[ll2];have:=mu_lt hinv0 (n:=X.length) hx0;omega⟩) sA (rr [2,2,0,1] [4])
 have p39:=Decidable.not_not.1 (dF c5);have hx0:x.kind=0:=Decidable.not_not.1 (dF c5);have hgr:grow S (S.length+2) L v=X:=by rw[hi4.1];exact grow_stop S X hx0
 refine k_exit<|xs_exit<|xs_exit<|xs_here<|xs_then<|k_seq<|k_sr<|sP (.bool (staleB S L.length X.length))<|sP (.bool (!(staleB S L.length X.length)))<|s_nt<|k_cond (!(staleB S L.length X.length)) (fun c40=>?_) (fun c40=>?_)
 .have c41:=not_t c40;refine k_ret<|xs_ret<|xs_mem (fun _ h=>tb_shut (h.re [0,0,0] [])) ?_
  have hT:tadd ⟨L,S⟩ v=⟨X,S⟩:=by rw[tadd_eq hgr,if_neg (by rw[c41];decide)]
  refine xs_fin [] (tbA b X S::F) SI.nil (rr [0] [1]) ⟨rfl,?_⟩;rw[hT]
 have c42:=not_f c40;refine k_st<|k_sr<|s_pcall (fun _ h=>omnew_s) ?_
 rintro _ _ ⟨r43,rfl,rfl⟩;refine sP (pB r43 0)<|s_nt<|k_seq<|k_sr<|sP2 (pB b 0)<|sP (pB b 1)<|sL (t_load 1 (pB r3 0))<|s_call [3] (omkeys_s (S:=S) ol) ?_
 rintro v44 _ rfl;refine sF 0 (fun hf45=>?_);refine sL (t_len VlT_ok Tryz.underlying28 (.own 0))<|sP (iw 0)<|s_nt<|k_block<|k_loop (ι:=Nat) (fun i=>i≤(okeys S).length) (fun i=>[(0,pB b 0),(9,pB r43 0),(67,v44),(68,iw ((okeys S).length:Int)),(69,iw (i:Int))]) (fun i=>own VlT v44 (okeys S)::omA r3 S::omA r43 (purgeS S X.length i)::blkA b #[lx,pB r3 0] 185::own VlT lx X::blkA g1 (vc x) 71::F) (fun i=>(okeys S).length-i) 0 (Nat.zero_le _) sA (rr [0,0,0,0,0,0] []) ?_
 rintro i hi46;show SK _ _ _ _ _ [(0,.pointer (some ⟨b,0,none⟩)),(9,.pointer (some ⟨r43,0,none⟩)),(67,v44),(68,iw ((okeys S).length:Int)),(69,iw (i:Int))] _ (own VlT v44 (okeys S)::omA r3 S::omA r43 (purgeS S X.length i)::blkA b #[lx,.pointer (some ⟨r3,0,none⟩)] 185::own VlT lx X::blkA g1 (vc x) 71::F);have hpl:=purgeS_len S X.length i;refine k_sr<|sL t_cmp<|s_nt<|k_seq<|k_cond (decide ((i:Int)<((okeys S).length:Int))) (fun c47=>?_) (fun c47=>?_)
 .have p48:=dY c47;refine k_st<|k_seq<|k_block<|k_sr<|sL (t_index VlT_ok Tryz.underlying28 (.own 0) (i:Int) i om ol om) ?_
  obtain⟨y49,hy50⟩:∃y,(okeys S)[i]?=some y:=⟨_,List.getElem?_eq_getElem ol⟩;obtain⟨s51,hs52,rfl⟩:=okeys_get hy50;refine sL (t_loadE VlT_ok (.own 0) hy50)<|s_alloc (.agg zc) zc (fun g53=>?_)
  refine s_store 0 (vc s51.key) ?_;refine s_nr<|sL (t_loadA 0 (vc s51.key))<|s_vcall (fun _ h=>integer_s s51.key) ?_
  rintro u54 e55;rcases int_cases s51.key with ⟨hi56,hp57,hv58⟩|⟨hi59,hw60⟩
  .rw [hi56,hp57]at e55;subst e55;refine sP (.tuple #[iw (whole s51.key),.bool true])<|sP (iw (whole s51.key))<|sP (.bool true)<|sP (iw (whole s51.key))<|sP (.bool true)<|s_nt<|k_cut (ι:=Unit) (fun _=>True) (fun _=>[(0,pB b 0),(9,pB r43 0),(11,pB g53 0),(67,v44),(68,iw ((okeys S).length:Int)),(69,iw (i:Int)),(92,.bool ((decide ((whole s51.key)<1))||(decide ((X.length:Int)<(whole s51.key)))))]) (fun _=>blkA g53 (vc s51.key) 71::own VlT v44 (okeys S)::omA r3 S::omA r43 (purgeS S X.length i)::blkA b #[lx,pB r3 0] 185::own VlT lx X::blkA g1 (vc x) 71::F) ?_ (fun _ _=>?_)
   .refine k_reg<|sP (.bool true)<|sP2 (.bool false)<|sP (iw (whole s51.key))<|sL t_cmp<|sP2 (.bool (decide ((whole s51.key)<1)))<|s_fork 84 (decide ((whole s51.key)<1)) (fun c61=>?_) (fun c61=>?_)
    .have p62:=dY c61;refine sK<|sK<|sK<|sK<|sK<|sK<|sK<|sP (.bool true)<|s_nil ?_
     exact xs_cut () trivial (sub_of rfl (rQ (rQ (rQ (rQ (rQ (rQ ⟨⟨rfl,show Value.bool true=Value.bool ((decide ((whole s51.key)<1))||(decide ((X.length:Int)<(whole s51.key)))) by first|(simp only[c61,bls];done)|simp[c61]⟩,trivial⟩))))))) (rr [0,0,0,0,0,0,0] [])
    have p63:=dF c61;refine sP (iw (whole s51.key))<|sP3 (pB b 0)<|sL (t_load 4 lx)<|sL (t_len VlT_ok Tryz.underlying28 (.own 5))<|sL t_cmp<|sP (.bool (decide ((X.length:Int)<(whole s51.key))))<|s_nil ?_
    exact xs_cut () trivial (sub_of rfl (rQ (rQ (rQ (rQ (rQ (rQ ⟨⟨rfl,show Value.bool (decide ((X.length:Int)<(whole s51.key)))=Value.bool ((decide ((whole s51.key)<1))||(decide ((X.length:Int)<(whole s51.key)))) by first|(simp only[c61,bls];done)|simp[c61]⟩,trivial⟩))))))) (rr [0,0,0,0,0,0,0] [])
   refine k_cond ((decide ((whole s51.key)<1))||(decide ((X.length:Int)<(whole s51.key)))) (fun c64=>?_) (fun c64=>?_)
   .have p65:=c64;simp only[Bool.and_eq_true,Bool.or_eq_true,Bool.and_eq_false_iff,Bool.or_eq_false_iff,Bool.not_eq_true',Bool.not_eq_false',decide_eq_true_eq,decide_eq_false_iff_not]at p65;refine k_held [blkA g53 (vc s51.key) 71,own VlT v44 (okeys S),blkA b #[lx,pB r3 0] 185,own VlT lx X,blkA g1 (vc x) 71] ?_;refine hp_ 0 [0,0,2,2,2] (pB r43 0) ?_;refine h_l 1 rfl [0,0,2,2,2] (fun _=>(t_loadA 0 (vc s51.key))) ?_;refine hp_ 2 [0,0,2,2,2] (pB b 0) ?_;refine hp_ 3 [0,0,2,2,2] (pB b 0) ?_;refine hp_ 4 [0,0,2,2,2] (pB b 1) ?_;refine h_l 5 rfl [0,0,2,2,2] (fun _=>(t_load 2 (pB r3 0))) ?_;refine h_l 6 rfl [0,0,2,2,2] (fun _=>(t_loadA 0 (vc s51.key))) ?_;refine h_stepS 7 ?_;refine sC [2] (omget_s (S:=S) s51.key) ?_;refine nH [1,1,2,2,2]<|h_stepS 8 ?_
    refine sC [3] (omset_s (S:=(purgeS S X.length i)) ol s51.key (oget S s51.key)) ?_;refine nH [2,2,2,2,2]<|h_doneS ?_
    refine xs_block<|xs_then<|k_reg<|sL (t_add (i:Int) 1 ol)<|sP (iw ((i:Int)+1))<|s_nil ?_
    have hps:=purge_step hinv0 (m:=X.length) hs52;have hib:inB (whole s51.key) X.length=false:=inB_false om;have hpe:=hps.1 hib;rw[hpe];exact xs_round (i+1) om om sA (rr [3,1,0,1,1,1] [6])
   obtain⟨c66,c67⟩:=or_f c64;have p68:=dF c66;have p69:=dF c67;refine k_skip<|xs_block<|xs_then<|k_reg<|sL (t_add (i:Int) 1 ol)<|sP (iw ((i:Int)+1))<|s_nil ?_
   have hps:=purge_step hinv0 (m:=X.length) hs52;have hib:inB (whole s51.key) X.length=true:=inB_iff.2 om;have hpe:=hps.2 hib;rw[hpe];exact xs_round (i+1) om om sA (rr [1,1,1,1,1,1] [6])
  rw[hi59]at e55;subst e55;refine sP (.tuple #[iw s51.key.p,.bool false])<|sP (iw s51.key.p)<|sP (.bool false)<|sP (iw s51.key.p)<|sP (.bool false)<|s_nr<|sP (.bool false)<|sP2 (.bool true)<|sK<|sK<|sP2 (.bool true)<|sK<|sK<|sK<|sK<|sK<|sK<|sK<|sP (.bool true)<|s_nt<|k_true<|k_held [blkA g53 (vc s51.key) 71,own VlT v44 (okeys S),blkA b #[lx,pB r3 0] 185,own VlT lx X,blkA g1 (vc x) 71] ?_
  refine hp_ 0 [0,0,2,2,2] (pB r43 0) ?_;refine h_l 1 rfl [0,0,2,2,2] (fun _=>(t_loadA 0 (vc s51.key))) ?_;refine hp_ 2 [0,0,2,2,2] (pB b 0) ?_;refine hp_ 3 [0,0,2,2,2] (pB b 0) ?_;refine hp_ 4 [0,0,2,2,2] (pB b 1) ?_;refine h_l 5 rfl [0,0,2,2,2] (fun _=>(t_load 2 (pB r3 0))) ?_;refine h_l 6 rfl [0,0,2,2,2] (fun _=>(t_loadA 0 (vc s51.key))) ?_;refine h_stepS 7 ?_;refine sC [2] (omget_s (S:=S) s51.key) ?_;refine nH [1,1,2,2,2]<|h_stepS 8 ?_
  refine sC [3] (omset_s (S:=(purgeS S X.length i)) ol s51.key (oget S s51.key)) ?_;refine nH [2,2,2,2,2]<|h_doneS ?_
  refine xs_block<|xs_then<|k_reg<|sL (t_add (i:Int) 1 ol)<|sP (iw ((i:Int)+1))<|s_nil ?_
  have hps:=purge_step hinv0 (m:=X.length) hs52;have hib:inB (whole s51.key) X.length=false:=inB_false om;have hpe:=hps.1 hib;rw[hpe];exact xs_round (i+1) om om sA (rr [3,1,0,1,1,1] [6])
 have p70:=dF c47;refine k_exit<|xs_exit<|xs_exit<|xs_here<|xs_then<|k_reg<|sP (pB b 0)<|sP (pB r43 0)<|sP (pB b 0)<|sP (pB b 1)<|s_store 3 #[lx,pB r43 0] ?_
 refine s_nil<|xs_mem (fun _ h=>tb_shut (h.re [3,3,2] [])) ?_
 have hpe:purgeS S X.length i=purge S X.length:=purge_end S X.length i (by rw[←okeys_length];omega);have hT:tadd ⟨L,S⟩ v=⟨X,purgeS S X.length i⟩:=by rw[tadd_eq hgr,if_pos c42,hpe]
 refine xs_finN [] (tbA b X (purgeS S X.length i)::F) SI.nil (rr [0] [1,1,1]) ⟨rfl,?_⟩;rw[hT]
theorem tsetE_bad{k v:Vl}(h:okKey k=false):tsetE k v=13:=by unfold tsetE;rw[if_pos h]
theorem tsetE_val{k v:Vl}(h:okKey k=true)(hv:validB v=false):tsetE k v=2:=by unfold tsetE;rw[if_neg (by rw[h];decide),if_pos hv]
theorem tsetE_ok{k v:Vl}(h:okKey k=true)(hv:validB v=true):tsetE k v=0:=by unfold tsetE;rw[if_neg (by rw[h];decide),if_neg (by rw[hv];decide)]
theorem tsetE_oset(k v:Vl):tsetE k v=osetE k v:=rfl
theorem tbset_s{Z:Zone}{F:List Asr}{b:Nat}{L:List Vl}{S:List Slt}(hti:TInv ⟨L,S⟩)(hl:L.length≤100000)(hs:S.length≤100000)(k v:Vl):SF Tryz.prog 144 #[.pointer (some ⟨b,0,none⟩),k.v,v.v] Z (tbA b L S::F) fun r Bs=>r=iw (tsetE k v)∧Bs=tbA b (tset ⟨L,S⟩ k v).list (tset ⟨L,S⟩ k v).rest::F:=by
 refine sf_enter Tryz.func144 86 [(0,pB b 0),(1,.agg (vc k)),(2,.agg (vc v))] (fun w0=>?_);refine k_sr<|s_box (vc k) (fun g1=>?_)
 refine s_box (vc v) (fun g2=>?_);refine sP (iw 0)<|s_nt<|k_seq<|k_sr<|sP (pB b 0)<|sP (.bool false)<|s_nt<|k_false<|k_st<|k_seq<|k_sr<|sP (pB g1 0)<|sL (t_load 1 (iw k.kind))<|sL t_cmp<|sP (.bool (decide (k.kind=0)))<|s_fork 14 (decide (k.kind=0)) (fun c3=>?_) (fun c3=>?_)
 .have p4:=dY c3;refine sK<|sK<|sK<|sP (.bool true)<|s_nt<|k_true<|k_sr<|sP (iw 13)<|s_nt<|k_ret<|xs_ret ?_
  have hk:okKey k=false:=okKey_bad (by first|exact p4|exact .inl p4|exact .inr p4);refine xs_fin [iw 13] (tbA b L S::F) (SI.tmp 6 SI.nil) (rr [2] [1,1]) ⟨cI (tsetE_bad hk).symm,?_⟩;rw[tset_bad (v:=v) (.inl hk)]
 have p5:=dF c3;refine sL (t_loadA 1 (vc k))<|sV (fun _ h=>valid_s k)<|sP2 (.bool (!(validB k)))<|s_nt<|k_cond (!(validB k)) (fun c6=>?_) (fun c6=>?_)
 .have c7:=not_t c6;refine k_sr<|sP (iw 13)<|s_nt<|k_ret<|xs_ret ?_
  have hk:okKey k=false:=okKey_bad (by first|exact c7|exact .inl c7|exact .inr c7);refine xs_fin [iw 13] (tbA b L S::F) (SI.tmp 6 SI.nil) (rr [2] [1,1]) ⟨cI (tsetE_bad hk).symm,?_⟩;rw[tset_bad (v:=v) (.inl hk)]
 have c8:=not_f c6;refine k_st<|k_seq<|k_sr<|sL (t_loadA 0 (vc v))<|sV (fun _ h=>valid_s v)<|sP (.bool (!(validB v)))<|s_nt<|k_cond (!(validB v)) (fun c9=>?_) (fun c9=>?_)
 .have c10:=not_t c9;refine k_sr<|sP (iw 2)<|s_nt<|k_ret<|xs_ret ?_
  have hk:=okKey_good c3 c8;refine xs_fin [iw 2] (tbA b L S::F) (SI.tmp 6 SI.nil) (rr [2] [1,1]) ⟨cI (tsetE_val hk c10).symm,?_⟩;rw[tset_bad (v:=v) (.inr c10)]
 have c11:=not_f c9;refine k_st<|k_sr<|sL (t_loadA 1 (vc k))<|s_vcall (fun _ h=>integer_s k) ?_
 rintro u12 e13;rcases int_cases k with ⟨hi14,hp15,hv16⟩|⟨hi17,hw18⟩
 .rw [hi14,hp15]at e13;subst e13;refine sP (.tuple #[iw (whole k),.bool true])<|sP (iw (whole k))<|sP (.bool true)<|sP (iw (whole k))<|sP (.bool true)<|s_nt<|k_seq<|k_block<|k_sr<|sP2 (.bool true)<|sP (iw (whole k))<|sL t_cmp<|sP2 (.bool (decide ((1:Int)≤(whole k))))<|s_fork 40 (decide ((1:Int)≤(whole k))) (fun c19=>?_) (fun c19=>?_)
  .have p20:=dY c19;refine sP (iw (whole k))<|sP3 (pB b 0)<|s_mem2 (fun H h=>tb_open (h.re [2] [])) (fun lv21 r22 hw=>?_)
   refine sL (t_load 0 lv21)<|sL (t_len VlT_ok Tryz.underlying28 (.own 1))<|sL t_cmp<|sP2 (.bool (decide ((whole k)≤(L.length:Int))))<|s_nt<|k_cond (decide ((whole k)≤(L.length:Int))) (fun c23=>?_) (fun c23=>?_)
   .have p24:=dY c23;refine k_seq<|k_draw<|sP3 (pB b 0)<|sL (t_load 0 lv21)<|sP (iw (whole k))<|sL (t_sub (whole k) 1 ol)<|sL (t_loadA 3 (vc v))<|sL (t_index VlT_ok Tryz.underlying28 (.own 1) ((whole k)-1) ((((whole k)-1)).toNat) om ol om) ?_
    obtain⟨y25,hy26⟩:∃y,L[(((whole k)-1)).toNat]?=some y:=⟨_,List.getElem?_eq_getElem ol⟩;refine s_storeE 1 0 v VlT_ok hy26 ?_;refine s_nil<|x_dynS (fun _ h=>by kernel_rfl) ?_
    refine xs_then<|k_sr<|sP (iw (whole k))<|sP3 (pB b 0)<|sL (t_load 0 lv21)<|sL (t_len VlT_ok Tryz.underlying28 (.own 1))<|sL t_cmp<|s_nt<|k_cond (decide ((whole k)=((L.set ((((whole k)-1)).toNat) v).length:Int))) (fun c27=>?_) (fun c27=>?_)
    .have p28:=dY c27;refine k_reg<|sP (pB b 0)<|s_mem (fun _ h=>tb_shut (h.re [0,0,0] [])) ?_
     refine sC [0] (tbshrink_s (L:=(L.set ((((whole k)-1)).toNat) v)) (S:=S) ol) ?_;refine s_nil<|xs_block<|xs_then<|k_sr<|sP (iw 0)<|s_nt<|k_ret ?_
     have hk:=okKey_good c3 c8;have hsl:(L.set (whole k-1).toNat v).length=L.length:=List.length_set;have hT:tset ⟨L,S⟩ k v=⟨(shr (L.set ((((whole k)-1)).toNat) v)),S⟩:=by rw[tset_in (T:=⟨L,S⟩) hk c11 om (by show _≤(L.length:Int);omega)]
     refine xs_fin [iw 0] (tbA b (shr (L.set ((((whole k)-1)).toNat) v)) S::F) (SI.tmp 6 SI.nil) (rr [0] [1,1]) ⟨cI (tsetE_ok hk c11).symm,?_⟩;rw[hT]
    have p29:=dF c27;refine k_skip<|xs_block<|xs_then<|k_sr<|sP (iw 0)<|s_nt<|k_ret ?_
    have hk:=okKey_good c3 c8;refine xs_mem (fun _ h=>tb_shut (h.re [0,0,0] [])) ?_;have hsl:(L.set (whole k-1).toNat v).length=L.length:=List.length_set;have hT:tset ⟨L,S⟩ k v=⟨(L.set ((((whole k)-1)).toNat) v),S⟩:=by rw[tset_in (T:=⟨L,S⟩) hk c11 om (by show _≤(L.length:Int);omega)];show (⟨shr (L.set _ v),S⟩:Tb)=_;rw[shr_set hti.last (by show _≠L.length;omega)]
    refine xs_fin [iw 0] (tbA b (L.set ((((whole k)-1)).toNat) v) S::F) (SI.tmp 6 SI.nil) (rr [0] [1,1]) ⟨cI (tsetE_ok hk c11).symm,?_⟩;rw[hT]
   have p30:=dF c23;refine k_sr<|sP2 (.bool true)<|sP (iw (whole k))<|sP3 (pB b 0)<|sL (t_load 0 lv21)<|sL (t_len VlT_ok Tryz.underlying28 (.own 1))<|sL (t_add (L.length:Int) 1 ol)<|sL t_cmp<|sP (.bool (decide ((whole k)=((L.length:Int)+1))))<|sP (.bool (decide ((whole k)=((L.length:Int)+1))))<|s_fork 78 (decide ((whole k)=((L.length:Int)+1))) (fun c31=>?_) (fun c31=>?_)
   .have p32:=dY c31;refine sP (pB g2 0)<|sL (t_load 3 (iw v.kind))<|sL t_cmp<|sP2 (.bool (decide (v.kind≠0)))<|s_nt<|k_cond (decide (v.kind≠0)) (fun c33=>?_) (fun c33=>?_)
    .have p34:=dY c33;refine k_reg<|sP (pB b 0)<|sL (t_loadA 3 (vc v))<|s_mem (fun _ h=>tb_shut (h.re [0,0,0] [])) ?_
     refine sC [0] (tbadd_s (L:=L) (S:=S) ol ol v) ?_;refine s_nil<|xs_block<|xs_then<|k_sr<|sP (iw 0)<|s_nt<|k_ret ?_
     have hk:=okKey_good c3 c8;refine xs_fin [iw 0] (tbA b ((tadd ⟨L,S⟩ v).list) ((tadd ⟨L,S⟩ v).rest)::F) (SI.tmp 6 SI.nil) (rr [0] [1,1]) ⟨cI (tsetE_ok hk c11).symm,?_⟩;rw[tset_add (T:=⟨L,S⟩) hk c11 (by show _=(L.length:Int)+1;omega) (dY c33)]
    have p35:=Decidable.not_not.1 (dF c33);refine k_seq<|k_draw<|sP2 (pB b 0)<|sP (pB b 1)<|sL (t_load 0 (pB r22 0))<|sL (t_loadA 4 (vc k))<|sL (t_loadA 3 (vc v))<|sC [2] (omset_s (S:=S) ol k v) ?_
    refine sP (iw (osetE k v))<|s_nil<|x_dynS (fun _ h=>by kernel_rfl) ?_
    refine xs_then<|k_ret<|xs_retBlock<|xs_ret ?_
    have hk:=okKey_good c3 c8;refine xs_mem (fun _ h=>tb_shut (h.re [1,1,0] [])) ?_;refine xs_fin [iw (osetE k v)] (tbA b L (osetL S k v)::F) (SI.tmp 6 SI.nil) (rr [0] [1,1]) ⟨cI ((tsetE_oset k v)).symm,?_⟩;rw[tset_out (T:=⟨L,S⟩) hk c11 (by show ¬(_∧_≤(L.length:Int));omega) (by show ¬(_=(L.length:Int)+1∧_);rintro⟨e1,e2⟩;first|omega|(have hq:=p35;simp_all))]
   have p36:=dF c31;refine sK<|sK<|sK<|sP2 (.bool false)<|s_nt<|k_false<|k_seq<|k_draw<|sP2 (pB b 0)<|sP (pB b 1)<|sL (t_load 0 (pB r22 0))<|sL (t_loadA 4 (vc k))<|sL (t_loadA 3 (vc v))<|sC [2] (omset_s (S:=S) ol k v) ?_
   refine sP (iw (osetE k v))<|s_nil<|x_dynS (fun _ h=>by kernel_rfl) ?_
   refine xs_then<|k_ret<|xs_retBlock<|xs_ret ?_
   have hk:=okKey_good c3 c8;refine xs_mem (fun _ h=>tb_shut (h.re [1,1,0] [])) ?_;refine xs_fin [iw (osetE k v)] (tbA b L (osetL S k v)::F) (SI.tmp 6 SI.nil) (rr [0] [1,1]) ⟨cI ((tsetE_oset k v)).symm,?_⟩;rw[tset_out (T:=⟨L,S⟩) hk c11 (by show ¬(_∧_≤(L.length:Int));omega) (by show ¬(_=(L.length:Int)+1∧_);rintro⟨e1,e2⟩;first|omega|(have hq:=p36;simp_all))]
  have p37:=dF c19;refine sK<|sK<|sK<|sK<|sK<|sK<|sK<|sP2 (.bool false)<|s_nt<|k_false<|k_sr<|sP2 (.bool true)<|sP (iw (whole k))<|sP3 (pB b 0)<|s_mem2 (fun H h=>tb_open (h.re [2] [])) (fun lv38 r39 hw=>?_)
  refine sL (t_load 0 lv38)<|sL (t_len VlT_ok Tryz.underlying28 (.own 1))<|sL (t_add (L.length:Int) 1 ol)<|sL t_cmp<|sP (.bool (decide ((whole k)=((L.length:Int)+1))))<|sP (.bool (decide ((whole k)=((L.length:Int)+1))))<|s_fork 78 (decide ((whole k)=((L.length:Int)+1))) (fun c40=>?_) (fun c40=>?_)
  .have p41:=dY c40;refine sP (pB g2 0)<|sL (t_load 3 (iw v.kind))<|sL t_cmp<|sP2 (.bool (decide (v.kind≠0)))<|s_nt<|k_cond (decide (v.kind≠0)) (fun c42=>?_) (fun c42=>?_)
   .have p43:=dY c42;refine k_reg<|sP (pB b 0)<|sL (t_loadA 3 (vc v))<|s_mem (fun _ h=>tb_shut (h.re [0,0,0] [])) ?_
    refine sC [0] (tbadd_s (L:=L) (S:=S) ol ol v) ?_;refine s_nil<|xs_block<|xs_then<|k_sr<|sP (iw 0)<|s_nt<|k_ret ?_
    have hk:=okKey_good c3 c8;refine xs_fin [iw 0] (tbA b ((tadd ⟨L,S⟩ v).list) ((tadd ⟨L,S⟩ v).rest)::F) (SI.tmp 6 SI.nil) (rr [0] [1,1]) ⟨cI (tsetE_ok hk c11).symm,?_⟩;rw[tset_add (T:=⟨L,S⟩) hk c11 (by show _=(L.length:Int)+1;omega) (dY c42)]
   have p44:=Decidable.not_not.1 (dF c42);refine k_seq<|k_draw<|sP2 (pB b 0)<|sP (pB b 1)<|sL (t_load 0 (pB r39 0))<|sL (t_loadA 4 (vc k))<|sL (t_loadA 3 (vc v))<|sC [2] (omset_s (S:=S) ol k v) ?_
   refine sP (iw (osetE k v))<|s_nil<|x_dynS (fun _ h=>by kernel_rfl) ?_
   refine xs_then<|k_ret<|xs_retBlock<|xs_ret ?_
   have hk:=okKey_good c3 c8;refine xs_mem (fun _ h=>tb_shut (h.re [1,1,0] [])) ?_;refine xs_fin [iw (osetE k v)] (tbA b L (osetL S k v)::F) (SI.tmp 6 SI.nil) (rr [0] [1,1]) ⟨cI ((tsetE_oset k v)).symm,?_⟩;rw[tset_out (T:=⟨L,S⟩) hk c11 (by show ¬(_∧_≤(L.length:Int));omega) (by show ¬(_=(L.length:Int)+1∧_);rintro⟨e1,e2⟩;first|omega|(have hq:=p44;simp_all))]
  have p45:=dF c40;refine sK<|sK<|sK<|sP2 (.bool false)<|s_nt<|k_false<|k_seq<|k_draw<|sP2 (pB b 0)<|sP (pB b 1)<|sL (t_load 0 (pB r39 0))<|sL (t_loadA 4 (vc k))<|sL (t_loadA 3 (vc v))<|sC [2] (omset_s (S:=S) ol k v) ?_
  refine sP (iw (osetE k v))<|s_nil<|x_dynS (fun _ h=>by kernel_rfl) ?_
  refine xs_then<|k_ret<|xs_retBlock<|xs_ret ?_
  have hk:=okKey_good c3 c8;refine xs_mem (fun _ h=>tb_shut (h.re [1,1,0] [])) ?_;refine xs_fin [iw (osetE k v)] (tbA b L (osetL S k v)::F) (SI.tmp 6 SI.nil) (rr [0] [1,1]) ⟨cI ((tsetE_oset k v)).symm,?_⟩;rw[tset_out (T:=⟨L,S⟩) hk c11 (by show ¬(_∧_≤(L.length:Int));omega) (by show ¬(_=(L.length:Int)+1∧_);rintro⟨e1,e2⟩;first|omega|(have hq:=p45;simp_all))]
 rw[hi17]at e13;subst e13;refine sP (.tuple #[iw k.p,.bool false])<|sP (iw k.p)<|sP (.bool false)<|sP (iw k.p)<|sP (.bool false)<|s_nt<|k_seq<|k_block<|k_sr<|sP2 (.bool false)<|sK<|sK<|sP2 (.bool false)<|sK<|sK<|sK<|sK<|sK<|sK<|sK<|sP2 (.bool false)<|s_nt<|k_false<|k_sr<|sP2 (.bool false)<|sK<|sK ?_
 refine sK<|sK<|sK<|sK<|sK<|sK<|sP2 (.bool false)<|sK<|sK<|sK<|sP2 (.bool false)<|s_nt<|k_false<|k_seq<|k_draw<|sP2 (pB b 0)<|sP (pB b 1)<|s_mem2 (fun H h=>tb_open (h.re [2] [])) (fun lv46 r47 hw=>?_)
 refine sL (t_load 0 (pB r47 0))<|sL (t_loadA 4 (vc k))<|sL (t_loadA 3 (vc v))<|sC [2] (omset_s (S:=S) ol k v) ?_
 refine sP (iw (osetE k v))<|s_nil<|x_dynS (fun _ h=>by kernel_rfl) ?_
 refine xs_then<|k_ret<|xs_retBlock<|xs_ret ?_
 have hk:=okKey_good c3 c8;refine xs_mem (fun _ h=>tb_shut (h.re [1,1,0] [])) ?_;refine xs_fin [iw (osetE k v)] (tbA b L (osetL S k v)::F) (SI.tmp 6 SI.nil) (rr [0] [1,1]) ⟨cI ((tsetE_oset k v)).symm,?_⟩;rw[tset_out (T:=⟨L,S⟩) hk c11 (by show ¬(_∧_≤(L.length:Int));omega) (by show ¬(_=(L.length:Int)+1∧_);rintro⟨e1,e2⟩;first|omega|(have hq:=c11;simp_all))]
end Go.Proofs.YtmhpcebiamkciaaGreat
end
