/-
  Slices in memory as lists: what 'len', an index, a load, a store, a cut and 'append' do. Each law says its conditions.
-/
import Derived.WalkKit
import Derived.WalkSpells
import Derived.Orders
import Derived.Tactics
import Derived.Laws.World
import Derived.OrdersHeld
import Derived.ArgAppend
import Derived.Laws.BytesString
import Derived.Laws.IdiomRangeMap
section
set_option linter.unusedSimpArgs false
set_option linter.unusedVariables false
namespace Go.Mem
open Go.RowKit
/-! ### What may have turned -/
structure Chg(S:Nat→Prop)(w w':World):Prop where
 os:w'.os=w.os
 tape:w'.tape=w.tape
 output:w'.output=w.output
 size:w.heap.size≤w'.heap.size
 block:∀k,k<w.heap.size→¬S k→w'.heap[k]?=w.heap[k]?
section
variable{S T:Nat→Prop}{a b c w w':World}
theorem Chg.refl(S:Nat→Prop)(w:World):Chg S w w:=⟨rfl,rfl,rfl,Nat.le_refl _,fun _ _ _=>rfl⟩
theorem Chg.trans(h:Chg S a b)(k:Chg S b c):Chg S a c:=
 ⟨k.os.trans h.os,k.tape.trans h.tape,k.output.trans h.output,Nat.le_trans h.size k.size,fun i hi hS=>(k.block i (Nat.lt_of_lt_of_le hi h.size) hS).trans (h.block i hi hS)⟩
theorem Chg.trans'(h:Chg S a b)(k:Chg T b c)(hT:∀i,T i→i<a.heap.size→S i):Chg S a c:=
 ⟨k.os.trans h.os,k.tape.trans h.tape,k.output.trans h.output,Nat.le_trans h.size k.size,fun i hi hS=>(k.block i (Nat.lt_of_lt_of_le hi h.size) fun ht=>hS (hT i ht hi)).trans (h.block i hi hS)⟩
theorem Chg.mono(h:Chg S w w')(hS:∀i,S i→T i):Chg T w w':=⟨h.os,h.tape,h.output,h.size,fun k hk ht=>h.block k hk fun hs=>ht (hS k hs)⟩
theorem Chg.drew(h:Chg S a w):Chg S a w.drew:=⟨h.os,h.tape,h.output,h.size,h.block⟩
theorem Chg.alloc(h:Chg S a w)(o:Obj):Chg S a (w.alloc o):=
 h.trans ⟨rfl,rfl,rfl,by simp,fun k hk _=>Below.heap_alloc _ _ _ hk⟩
theorem Chg.setCell(h:Chg S a w){p:Addr}(hp:p.block<a.heap.size→S p.block)(u:Value):Chg S a (w.setCell p u):=by
 refine h.trans' (T:=fun k=>k=p.block) ⟨rfl,rfl,rfl,by simp[World.setCell],fun k _ hk=>Below.heap_setCell _ _ _ _ hk⟩ ?_;rintro i rfl hi;exact hp hi
theorem Chg.below(h:Chg S a w)(hS:∀k,S k→a.heap.size≤k):Below a.heap.size a w:=
 ⟨h.os,h.tape,h.output,h.size,fun k hk=>h.block k hk fun hs=>by have:=hS k hs;omega⟩
theorem Chg.heap(h:Chg S w w'){k:Nat}{o:Obj}(hk:w.heap[k]?=some o)(hS:¬S k):w'.heap[k]?=some o:=
 (h.block k (Array.getElem?_eq_some_iff.1 hk).1 hS).trans hk
theorem Chg.cell(h:Chg S w w'){p:Addr}{v:Value}(hc:w.cell? p=some v)(hS:¬S p.block):w'.cell? p=some v:=
 (World.cell?_of_block (h.block p.block (World.block_lt_of_cell? w p hc) hS)).trans hc
theorem Chg.cells(h:Chg S w w')(g:Nat)(hS:¬S g):∀o,(w.cell? ⟨g,o,none⟩).isSome=true→w'.cell? ⟨g,o,none⟩=w.cell? ⟨g,o,none⟩:=fun o ho=>by
 obtain⟨u,hu⟩:=Option.isSome_iff_exists.1 ho;rw[hu];exact h.cell hu hS
end
/-! ### Types of elements -/
structure Ty(α:Type) where
 id:TypeId
 size:Nat
 bytes:Nat
 agg:Bool
 val:α→Value
 zero:α
def Ty.enc{α:Type}(T:Ty α)(x:α):List Value:=(T.val x).cells.toList
def aggDesc:TypeDesc→Bool
 | .struct _|.array _ _=>true
 | _=>false
structure Ty.Ok{α:Type}(T:Ty α)(P:Program):Prop where
 pos:0<T.size
 len:∀x,(T.enc x).length=T.size
 one:∀x,∀u∈T.enc x,u.oneCell'=true
 val:∀x,T.val x=if T.agg then .agg (T.enc x).toArray else (T.enc x).headD undef
 desc:∃d,P.underlying T.id=some d∧aggDesc d=T.agg
 one1:T.agg=false→T.size=1
 info:∃i,P.info? T.id=some i∧i.size=T.size∧i.bytes=T.bytes∧i.zero=some (T.val T.zero)
section
variable{α:Type}{T:Ty α}{P:Program}
def Ty.flat(T:Ty α)(L:List α):List Value:=L.flatMap T.enc
theorem Ty.Ok.flat_len(h:T.Ok P):∀L:List α,(T.flat L).length=L.length*T.size
 | []=>by simp[Ty.flat]
 | x::r=>by
  have:=h.flat_len r;unfold Ty.flat at*;simp only[List.flatMap_cons,List.length_append,List.length_cons,h.len,this,Nat.add_mul];omega
theorem Ty.flat_append(L M:List α):T.flat (L++M)=T.flat L++T.flat M:=by simp[Ty.flat]
theorem Ty.Ok.flat_one1(h:T.Ok P)(L:List α):∀u∈T.flat L,u.oneCell'=true:=by
 intro u hu;obtain⟨x,_,hx⟩:=List.mem_flatMap.1 hu;exact h.one x u hx
theorem Ty.Ok.flat_take(h:T.Ok P)(n:Nat):∀L:List α,(T.flat L).take (n*T.size)=T.flat (L.take n):=by
 induction n with
 | zero=>intro L;simp[Ty.flat]
 | succ n ih=>
  intro L;cases L with
  | nil=>simp[Ty.flat]
  | cons x r=>
   have e:(n+1)*T.size=T.size+n*T.size:=by rw[Nat.add_mul];omega
   have h1:=ih r;unfold Ty.flat at*;simp only[List.flatMap_cons,List.take_succ_cons];rw[e,←h.len x,List.take_length_add_append,h.len x,h1]
theorem Ty.Ok.flat_drop(h:T.Ok P)(n:Nat):∀L:List α,(T.flat L).drop (n*T.size)=T.flat (L.drop n):=by
 induction n with
 | zero=>intro L;simp[Ty.flat]
 | succ n ih=>
  intro L;cases L with
  | nil=>simp[Ty.flat]
  | cons x r=>
   have e:(n+1)*T.size=T.size+n*T.size:=by rw[Nat.add_mul];omega
   have h1:=ih r;unfold Ty.flat at*;simp only[List.flatMap_cons,List.drop_succ_cons];rw[e,←h.len x,List.drop_length_add_append,h.len x,h1]
theorem Ty.Ok.flat_get(h:T.Ok P){L:List α}{k:Nat}{x:α}(hk:L[k]?=some x){j:Nat}(hj:j<T.size):(T.flat L)[k*T.size+j]?=(T.enc x)[j]?:=by
 have h1:=h.flat_drop k L;have h2:L.drop k=x::L.drop (k+1):=by
  obtain⟨hlt,rfl⟩:=List.getElem?_eq_some_iff.1 hk;exact List.drop_eq_getElem_cons hlt
 rw[←List.getElem?_drop,h1,h2];unfold Ty.flat;rw[List.flatMap_cons,List.getElem?_append_left (by rw[h.len];exact hj)]
/-! ### Slices -/
def Sl(w:World)(T:Ty α)(v:Value)(L:List α):Prop:=
 ((∃p,v=.slice p 0 0)∧L=[])∨
 ∃g off cap arr e fr,v=.slice (some ⟨g,off,none⟩) L.length cap∧w.heap[g]?=some (.cells arr e fr)∧L.length≤cap∧cap≤maxLen∧(0<cap→off+cap*T.size≤arr.size)∧
  (arr.toList.drop off).take (L.length*T.size)=T.flat L
def Ow(w:World)(T:Ty α)(v:Value)(L:List α):Prop:=
 (v=.slice none 0 0∧L=[])∨
 ∃g cap arr,v=.slice (some ⟨g,0,none⟩) L.length cap∧w.heap[g]?=some (.cells arr T.id (0,0))∧L.length≤cap∧cap≤maxLen∧cap*T.size≤arr.size∧
  arr.toList.take (L.length*T.size)=T.flat L
def blk(v:Value):Option Nat:=v.ownBlock
variable{w w':World}{v:Value}{L:List α}
theorem Ow.sl(h:Ow w T v L):Sl w T v L:=by
 rcases h with h|⟨g,cap,arr,rfl,h1,h2,h3,h4,h5⟩
 .exact .inl ⟨⟨none,h.1⟩,h.2⟩
 exact .inr ⟨g,0,cap,arr,_,_,rfl,h1,h2,h3,by omega,by simpa using h5⟩
theorem Sl.nil(w:World)(T:Ty α):Sl w T (.slice none 0 0) []:=.inl ⟨⟨none,rfl⟩,rfl⟩
theorem Ow.nil(w:World)(T:Ty α):Ow w T (.slice none 0 0) []:=.inl ⟨rfl,rfl⟩
theorem Sl.kept(h:Sl w T v L)(hb:∀g,blk v=some g→w'.heap[g]?=w.heap[g]?):Sl w' T v L:=by
 rcases h with h|⟨g,off,cap,arr,e,fr,rfl,h1,r⟩
 .exact .inl h
 exact .inr ⟨g,off,cap,arr,e,fr,rfl,by rw[hb g rfl];exact h1,r⟩
theorem Ow.kept(h:Ow w T v L)(hb:∀g,blk v=some g→w'.heap[g]?=w.heap[g]?):Ow w' T v L:=by
 rcases h with h|⟨g,cap,arr,rfl,h1,r⟩
 .exact .inl h
 exact .inr ⟨g,cap,arr,rfl,by rw[hb g rfl];exact h1,r⟩
theorem Ow.lt(h:Ow w T v L){g:Nat}(hg:blk v=some g):g<w.heap.size:=by
 rcases h with ⟨rfl,_⟩|⟨g',cap,arr,rfl,h1,r⟩
 .simp [blk,Value.ownBlock]at hg
 simp[blk,Value.ownBlock]at hg;subst hg;exact (Array.getElem?_eq_some_iff.1 h1).1
theorem Sl.kept'(h:Sl w T v L)(hb:∀g,blk v=some g→g<w.heap.size→w'.heap[g]?=w.heap[g]?):Sl w' T v L:=by
 rcases h with h|⟨g,off,cap,arr,e,fr,rfl,h1,r⟩
 .exact .inl h
 exact .inr ⟨g,off,cap,arr,e,fr,rfl,by rw[hb g rfl (Array.getElem?_eq_some_iff.1 h1).1];exact h1,r⟩
theorem Sl.alloc(h:Sl w T v L)(o:Obj):Sl (w.alloc o) T v L:=h.kept' fun _ _ hl=>Below.heap_alloc _ _ _ hl
theorem Ow.alloc(h:Ow w T v L)(o:Obj):Ow (w.alloc o) T v L:=h.kept fun _ hg=>Below.heap_alloc _ _ _ (h.lt hg)
theorem Sl.drew(h:Sl w T v L):Sl w.drew T v L:=h
theorem Ow.drew(h:Ow w T v L):Ow w.drew T v L:=h
theorem Sl.setCell(h:Sl w T v L){p:Addr}(hp:blk v≠some p.block)(u:Value):Sl (w.setCell p u) T v L:=h.kept fun g hg=>Below.heap_setCell _ _ _ _ fun e=>hp (by rw[hg,e])
theorem Ow.setCell(h:Ow w T v L){p:Addr}(hp:blk v≠some p.block)(u:Value):Ow (w.setCell p u) T v L:=h.kept fun g hg=>Below.heap_setCell _ _ _ _ fun e=>hp (by rw[hg,e])
theorem Sl.chg{S:Nat→Prop}(h:Sl w T v L)(c:Chg S w w')(hS:∀g,blk v=some g→¬S g):Sl w' T v L:=h.kept' fun g hg hl=>c.block g hl (hS g hg)
theorem Ow.chg{S:Nat→Prop}(h:Ow w T v L)(c:Chg S w w')(hS:∀g,blk v=some g→¬S g):Ow w' T v L:=h.kept fun g hg=>c.block g (h.lt hg) (hS g hg)
theorem Sl.len_le(h:Sl w T v L):L.length≤9223372036854775807:=by
 rcases h with ⟨_,rfl⟩|⟨g,off,cap,arr,e,fr,rfl,h1,h2,h3,_⟩
 .simp
 have:cap≤9223372036854775807:=by simpa [maxLen]using h3
 omega
theorem Sl.form(h:Sl w T v L):∃p cap,v=.slice p L.length cap:=by
 rcases h with ⟨⟨p,rfl⟩,rfl⟩|⟨g,off,cap,arr,e,fr,rfl,_⟩
 .exact ⟨_,_,rfl⟩
 exact⟨_,_,rfl⟩
def elemAt(size:Nat)(v:Value)(k:Nat):Addr:=
 match v with
 | .slice (some p) _ _=>p.add (k*size)
 | _=>⟨0,0,none⟩
theorem addr_add(g off k:Nat):(⟨g,off,none⟩:Addr).add k=⟨g,off+k,none⟩:=by unfold Addr.add;split<;>simp_all
theorem addr_add_add(p:Addr)(hp:p.spot=none)(i j:Nat):(p.add i).add j=p.add (i+j):=by
 obtain⟨g,off,sp⟩:=p;simp only at hp;subst hp;simp only[addr_add,Nat.add_assoc]
theorem Sl.cell(h:Sl w T v L)(hT:T.Ok P){k:Nat}{x:α}(hk:L[k]?=some x){j:Nat}{u:Value}(hj:(T.enc x)[j]?=some u):w.cell? ((elemAt T.size v k).add j)=some u:=by
 have hjs:j<T.size:=by rw[←hT.len x];exact (List.getElem?_eq_some_iff.1 hj).1
 rcases h with ⟨_,rfl⟩|⟨g,off,cap,arr,e,fr,rfl,h1,h2,h3,h4,h5⟩
 .simp at hk
 have h6:=hT.flat_get hk hjs;rw[hj,←h5,List.getElem?_take]at h6;split at h6
 .rw [List.getElem?_drop]at h6;simp only[elemAt,addr_add];rw[cell_of_row w g _ arr e fr h1,←Array.getElem?_toList,←h6,Nat.add_assoc]
 cases h6
theorem Sl.elem_spot(h:Sl w T v L){k:Nat}(hk:k<L.length):(elemAt T.size v k).spot=none:=by
 rcases h with ⟨_,rfl⟩|⟨g,off,cap,arr,e,fr,rfl,_⟩
 .simp at hk
 simp only[elemAt,addr_add]
end
end Go.Mem
end
section
set_option linter.unusedSimpArgs false
set_option linter.unusedVariables false
namespace Go.Mem
open Go.RowKit
section
variable{P:Program}{ops:Array Oper}{Q:Exit→Act→World→Prop}{a:Act}{w:World}{rest:List Oper}{o:Oper}
theorem wpList_run{v:Value}{w':World}(hw:Region.wanted o (yielded ops a.tmps)=true)(hr:(execOp a.eval o).run P w=.ok (.value v) w')(h:wpList P ops Q rest (a.put o.dst v) w'):wpList P ops Q (o::rest) a w:=by
 unfold wpList;rw[if_pos hw];exact .inl (by unfold Oper.wp;rw[hr];exact h)
theorem wpList_runs{w':World}(hw:Region.wanted o (yielded ops a.tmps)=true)(hr:(execOp a.eval o).run P w=.ok .skip w')(h:wpList P ops Q rest (a.put o.dst undef) w'):wpList P ops Q (o::rest) a w:=by
 unfold wpList;rw[if_pos hw];exact .inl (by unfold Oper.wp;rw[hr];exact h)
theorem run_v{s:Sem Value}{v:Value}{w':World}(h:s.run P w=.ok v w'):(do pure (Next.value (←s)):Sem Next).run P w=.ok (.value v) w':=by
 rw[Sem.run_bind,h,Result.andThen_ok];rfl
theorem run_u{s:Sem Unit}{w':World}(h:s.run P w=.ok () w'):(do s;pure Next.skip:Sem Next).run P w=.ok .skip w':=by
 rw[Sem.run_bind,h,Result.andThen_ok];rfl
variable{α:Type}{T:Ty α}{v:Value}{L:List α}
theorem Ty.Ok.run_sizeOf(hT:T.Ok P)(w:World):(Go.sizeOf T.id).run P w=.ok T.size w:=by
 obtain⟨i,hi,hs,_⟩:=hT.info;simp[Go.sizeOf,typeInfo,hi,hs]
theorem run_len(hv:Sl w T v L){t e ty:TypeId}(ht:P.underlying t=some (.slice e)):(Builtin.len_ #[t] ty #[v]).run P w=.ok (.int .i64 L.length) w:=by
 obtain⟨p,cap,rfl⟩:=hv.form;simp[Builtin.len_,run_underlying ht,goInt]
theorem run_index(hv:Sl w T v L)(hT:T.Ok P){t:TypeId}(ht:P.underlying t=some (.slice T.id)){k:Nat}(hk:k<L.length)(q:IntKind):
  (Instr.indexAt t v (.int q k)).run P w=.ok (.pointer (some (elemAt T.size v k))) w:=by
 rcases hv with ⟨_,rfl⟩|⟨g,off,cap,arr,e,fr,rfl,h1,h2,h3,h4,h5⟩
 .simp at hk
 .have:(k:Int)<(L.length:Int):=by omega
  simp[Instr.indexAt,asIntOf,run_underlying ht,this,hT.run_sizeOf,elemAt];omega
theorem run_loadElem(hv:Sl w T v L)(hT:T.Ok P){k:Nat}{x:α}(hk:L[k]?=some x):
  (Instr.loadAt T.id (.pointer (some (elemAt T.size v k)))).run P w=.ok (T.val x) w:=by
 obtain⟨d,hd,hagg⟩:=hT.desc;have hsp:=hv.elem_spot (List.getElem?_eq_some_iff.1 hk).1;have hadd0:∀p:Addr,p.add 0=p:=fun p=>by simp[Addr.add]
 have hia:(isAgg T.id).run P w=.ok T.agg w:=by
  unfold isAgg;rw[Sem.run_bind,run_underlying hd,Result.andThen_ok,←hagg];cases d<;>rfl
 unfold Instr.loadAt Instr.sureAddr loadVar;rw[Sem.run_bind,Sem.run_pure,Result.andThen_ok,Sem.run_bind,hia,Result.andThen_ok,hT.val x];cases hg:T.agg with
 | true=>
  simp only[if_true];have hl:=run_loadCells_list (P:=P) w (elemAt T.size v k) (T.enc x) (fun j u hj=>hv.cell hT hk hj);rw[hT.len x]at hl;simp[hT.run_sizeOf,hl]
 | false=>
  have h1:=hT.one1 hg;have hl:=hT.len x;rw[h1]at hl;obtain⟨u,hu⟩:=List.length_eq_one_iff.1 hl;have:=hv.cell hT hk (j:=0) (u:=u) (by rw[hu];rfl);rw[hadd0]at this;simp[load,Sem.run,this,hu]
/-! ### A store into an element -/
def spliceAt(l:List Value)(j:Nat)(cs:List Value):List Value:=l.take j++cs++l.drop (j+cs.length)
theorem Ty.Ok.flat_set(hT:T.Ok P):∀{L:List α}{k:Nat}{x x':α}{j:Nat}{cs:List Value},L[k]?=some x→j+cs.length≤T.size→T.enc x'=spliceAt (T.enc x) j cs→
  T.flat (L.set k x')=spliceAt (T.flat L) (k*T.size+j) cs
 | [],k,x,x',j,cs,hk,_,_=>by simp at hk
 | y::r,0,x,x',j,cs,hk,hj,he=>by
  simp only[List.getElem?_cons_zero,Option.some.injEq]at hk;subst hk;have hl:=hT.len y;unfold Ty.flat spliceAt at*;simp only[List.set_cons_zero,List.flatMap_cons,he,Nat.zero_mul,Nat.zero_add];rw[List.take_append_of_le_length (by omega),List.drop_append_of_le_length (by omega)];simp
 | y::r,k+1,x,x',j,cs,hk,hj,he=>by
  simp only[List.getElem?_cons_succ]at hk;have ih:=hT.flat_set hk hj he;have hl:=hT.len y;unfold Ty.flat spliceAt at*;simp only[List.set_cons_succ,List.flatMap_cons,ih];have e1:(k+1)*T.size+j=(T.enc y).length+(k*T.size+j):=by rw[hl,Nat.add_mul];omega
  have e2:(k+1)*T.size+j+cs.length=(T.enc y).length+(k*T.size+j+cs.length):=by rw[e1];omega
  rw[e2,e1,List.take_length_add_append,List.drop_length_add_append];simp
theorem take_splice(l:List Value)(n p:Nat)(cs:List Value)(h:p+cs.length≤n)(hn:n≤l.length:=by simp;omega):(l.take p++cs++l.drop (p+cs.length)).take n=spliceAt (l.take n) p cs:=by
 unfold spliceAt;apply List.ext_getElem?;intro i;rw[List.getElem?_take];split
 .rw [List.getElem?_append,List.getElem?_append,List.getElem?_append,List.getElem?_append];simp only[List.length_append,List.length_take,List.getElem?_take,List.getElem?_drop,Nat.min_def];grind
 rw[List.getElem?_append_right (by simp;omega)];simp;omega
theorem run_storePart(hv:Ow w T v L)(hT:T.Ok P){k j:Nat}{x x':α}{cs:List Value}(hk:L[k]?=some x)(hj:j+cs.length≤T.size)(h1:∀u∈cs,u.oneCell'=true)(he:T.enc x'=spliceAt (T.enc x) j cs):
  ∃w',(storeCells ((elemAt T.size v k).add j) cs).run P w=.ok () w'∧Ow w' T v (L.set k x')∧Chg (fun b=>blk v=some b) w w':=by
 rcases hv with ⟨rfl,rfl⟩|⟨g,cap,arr,rfl,hg,h2,h3,h4,h5⟩
 .simp at hk
 .have hkl:k<L.length:=(List.getElem?_eq_some_iff.1 hk).1;have hlen:=hT.flat_len L;have hbound:(k+1)*T.size≤L.length*T.size:=Nat.mul_le_mul_right _ hkl;have hcap:L.length*T.size≤cap*T.size:=Nat.mul_le_mul_right _ h2;rw[Nat.add_mul]at hbound;have hst:=run_storeCells_at P g (k*T.size+j) T.id cs 0 arr w hg (by omega) h1;refine⟨w.setRow g (List.take (k*T.size+j+0) arr.toList++cs++List.drop (k*T.size+j+0+cs.length) arr.toList).toArray,?_,?_,?_⟩
  .simp only[elemAt,addr_add,Nat.zero_add];exact hst
  .refine .inr ⟨g,cap,_,by simp,setRow_heap w g arr _ T.id _ hg,by simpa using h2,h3,?_,?_⟩
   .simp;omega
   simp only[Nat.add_zero,List.toList_toArray,List.length_set];rw[hT.flat_set hk hj he,←h5];exact take_splice _ _ _ _ (by omega)
  exact⟨rfl,rfl,rfl,by simp,fun b _ hb=>setRow_other w g b _ fun e=>hb (by simp[blk,Value.ownBlock,e])⟩
end
end Go.Mem
end
section
set_option linter.unusedSimpArgs false
set_option linter.unusedVariables false
namespace Go.Mem
open Go.RowKit
section
variable{P:Program}{ops:Array Oper}{Q:Exit→Act→World→Prop}{a:Act}{w:World}{rest:List Oper}{o:Oper}{α:Type}{T:Ty α}{v:Value}{L M:List α}
def Moved(w:World)(v v':Value):Prop:=∀g,blk v'=some g→blk v=some g∨w.heap.size≤g
theorem run_append (hT : T.Ok P) {t ty : TypeId} (ht : P.underlying t = some (.slice T.id)) {v2 : Value} (hv : Ow w T v L) (h2 : Sl w T v2 M) (hbytes : (L.length + M.length) * T.bytes ≤ 140737488355328) (h63 : L.length + M.length ≤ 9223372036854775807) :
    ∃ v' w', (Builtin.append_ #[t, t] ty #[v, v2]).run P w = .ok v' w' ∧ Ow w' T v' (L ++ M) ∧ Chg (fun k => blk v = some k) w w' ∧ Moved w v v' ∧ (v' = .slice none 0 0 ↔ v = .slice none 0 0 ∧ M = []) := by
  obtain ⟨i, hi, hsz, hby, hz⟩ := hT.info
  have h63' : L.length + M.length ≤ maxLen := by simpa [maxLen] using h63
  rw [← hby] at hbytes
  have hlenL := hT.flat_len L
  have hlenM := hT.flat_len M
  have hlen : (T.flat (L ++ M)).length = (L ++ M).length * T.size := hT.flat_len _
  have hzs : (T.val T.zero).cells.size = T.size := by have := hT.len T.zero; simpa [Ty.enc] using this
  -- what a grown row is
  have grown : ∀ old, old < L.length + M.length → ∃ v' w', v' = Value.slice (some ⟨w.heap.size, 0, none⟩) (L.length + M.length) (grownCap w (L.length + M.length) old T.id) ∧
      w' = w.drew.alloc (.cells ((T.flat L).toArray ++ (T.flat M).toArray ++ Builtin.zeroCells (T.val T.zero).cells (grownCap w (L.length + M.length) old T.id - (L.length + M.length))) T.id) ∧
      Ow w' T v' (L ++ M) ∧ Chg (fun k => blk v = some k) w w' ∧ Moved w v v' := by
    intro old ho
    have hge := grownCap_ge w (L.length + M.length) old T.id
    have hcm := grownCap_le_maxLen w (L.length + M.length) old T.id h63'
    refine ⟨_, _, rfl, rfl, .inr ⟨w.heap.size, _, _, by simp, heap_alloc_new w.drew _, by simpa using hge, hcm, ?_, ?_⟩, (Chg.refl _ w).drew.alloc _, ?_⟩
    · simp only [Array.size_append, List.size_toArray, size_zeroCells, hzs, hlenL, hlenM, ← Nat.add_mul]
      exact Nat.le_of_eq (by congr 1; omega)
    · simp only [Array.toList_append, List.append_assoc]
      rw [← hlen, Ty.flat_append, ← List.append_assoc]
      exact List.take_left
    · intro g hg
      simp only [blk, Value.ownBlock, Option.some.injEq] at hg
      right; omega
  rcases h2 with ⟨⟨p2, rfl⟩, rfl⟩ | ⟨g2, off2, cap2, arr2, e2, fr2, rfl, hg2, hc2, hm2, hf2, hr2⟩
  · -- nothing is appended
    refine ⟨v, w, ?_, by simpa using hv, Chg.refl _ _, fun g hg => .inl hg, by simp⟩
    rcases hv with ⟨rfl, rfl⟩ | ⟨g, cap, arr, rfl, hg, hc, hm, hf, hr⟩
    · cases p2 <;> simp [Builtin.append_, run_underlying ht, sizeOf, typeInfo, hi, Builtin.lenOf, Builtin.firstCells, loadCells, loadCellsFrom]
    · cases p2 <;> simp [Builtin.append_, run_underlying ht, sizeOf, typeInfo, hi, Builtin.lenOf, Builtin.firstCells, loadCells, loadCellsFrom, hc, storeCells]
  · have hnews : ∀ j u, (T.flat M)[j]? = some u → w.cell? ((⟨g2, off2, none⟩ : Addr).add j) = some u := by
      intro j u hj
      rw [← hr2, List.getElem?_take] at hj
      split at hj
      · rw [List.getElem?_drop] at hj
        rw [addr_add, cell_of_row w g2 _ arr2 e2 fr2 hg2, ← Array.getElem?_toList]; exact hj
      · cases hj
    have hl2 : (T.flat M).length = M.length * i.size := by rw [hlenM, hsz]
    rcases hv with ⟨rfl, rfl⟩ | ⟨g, cap, arr, rfl, hg, hc, hm, hf, hr⟩
    · by_cases hm0 : M = []
      · subst hm0
        refine ⟨.slice none 0 0, w, ?_, Ow.nil _ _, Chg.refl _ _, fun g hg => .inl hg, by simp⟩
        simp [Builtin.append_, run_underlying ht, sizeOf, typeInfo, hi, Builtin.lenOf, Builtin.firstCells, loadCells, loadCellsFrom]
      · have hpos : 0 < M.length := List.length_pos_iff.2 hm0
        have hrun := run_append_nil (P := P) w t ty T.id i _ ht hi hz ⟨g2, off2, none⟩ M.length cap2 (T.flat M) hl2 hnews hpos (by simp at h63; omega) (by simp at hbytes; omega)
        obtain ⟨v', w', rfl, rfl, q1, q2, q3⟩ := grown 0 (by simpa using hpos)
        simp only [List.length_nil, Nat.zero_add, Ty.flat, List.flatMap_nil, Array.empty_append] at hrun q1 q2 q3 ⊢
        exact ⟨_, _, hrun, q1, q2, q3, by simp [hm0]⟩
    · by_cases hroom : L.length + M.length ≤ cap
      · have hfit : L.length * i.size + (T.flat M).length ≤ arr.size := by
          rw [hlenM, hsz, ← Nat.add_mul]
          exact Nat.le_trans (Nat.mul_le_mul_right _ hroom) hf
        have hrun := run_append_room (P := P) w t ty T.id i ht hi g L.length cap arr hg ⟨g2, off2, none⟩ M.length cap2 (T.flat M) hl2 hnews (hT.flat_one1 M) hroom hfit
        refine ⟨_, _, hrun, .inr ⟨g, cap, _, by simp, setRow_heap w g arr _ T.id _ hg, by simpa using hroom, hm, ?_, ?_⟩, ?_, fun k hk => .inl hk, by simp⟩
        · simp only [List.size_toArray, List.length_append, List.length_take, List.length_drop, Array.length_toList]; omega
        · rw [hsz, hr, ← hlen, Ty.flat_append]
          exact List.take_left
        · exact ⟨rfl, rfl, rfl, by simp, fun b _ hb => setRow_other w g b _ fun e => hb (by simp [blk, Value.ownBlock, e])⟩
      · have holds : ∀ j u, (T.flat L)[j]? = some u → w.cell? ((⟨g, 0, none⟩ : Addr).add j) = some u := by
          intro j u hj
          rw [← hr, List.getElem?_take] at hj
          split at hj
          · rw [addr_add, cell_of_row w g _ arr T.id _ hg, ← Array.getElem?_toList]; simpa using hj
          · cases hj
        have hrun := run_append_grow (P := P) w t ty T.id i _ ht hi hz ⟨g, 0, none⟩ L.length cap (T.flat L) (by rw [hlenL, hsz]) holds ⟨g2, off2, none⟩ M.length cap2 (T.flat M) hl2 hnews (by omega) (by omega) (growslice_fits (by omega) hbytes)
        obtain ⟨v', w', rfl, rfl, q1, q2, q3⟩ := grown cap (by omega)
        exact ⟨_, _, hrun, q1, q2, q3, by simp⟩
/-! ### A cut -/
def pre(v:Value)(n:Nat):Value:=match v with|.slice p _ c=>.slice p n c|x=>x
def suf(size:Nat)(v:Value)(n:Nat):Value:=match v with|.slice p l c=>.slice (if c=n then p else p.map (·.add (n*size))) (l-n) (c-n)|x=>x
theorem blk_pre(v:Value)(n:Nat):blk (pre v n)=blk v:=by
 cases v with
 | slice p l c=>cases p<;>rfl
 | _=>rfl
theorem blk_suf(size:Nat)(v:Value)(n:Nat):blk (suf size v n)=blk v:=by
 cases v with
 | slice p l c=>
  cases p with
  | none=>simp[suf,blk,Value.ownBlock]
  | some p=>
   by_cases h:c=n
   .simp [suf,h,blk,Value.ownBlock]
   have:(p.add (n*size)).block=p.block:=by unfold Addr.add;split<;>rfl
   simp[suf,h,blk,Value.ownBlock,this]
 | _=>rfl
theorem Ow.pre(hv:Ow w T v L)(hT:T.Ok P)(n:Nat)(hn:n≤L.length):Ow w T (pre v n) (L.take n):=by
 rcases hv with ⟨rfl,rfl⟩|⟨g,cap,arr,rfl,hg,hc,hm,hf,hr⟩
 .simp at hn;subst hn;exact .inl ⟨rfl,rfl⟩
 refine .inr ⟨g,cap,arr,by simp[Mem.pre,Nat.min_eq_left hn],hg,by simp;omega,hm,hf,?_⟩;rw[←hT.flat_take,←hr,List.take_take,List.length_take,Nat.min_eq_left hn,Nat.min_eq_left (Nat.mul_le_mul_right _ hn)]
theorem Sl.pre(hv:Sl w T v L)(hT:T.Ok P)(n:Nat)(hn:n≤L.length):Sl w T (pre v n) (L.take n):=by
 rcases hv with ⟨⟨p,rfl⟩,rfl⟩|⟨g,off,cap,arr,e,fr,rfl,hg,hc,hm,hf,hr⟩
 .simp at hn;subst hn;exact .inl ⟨⟨p,rfl⟩,rfl⟩
 refine .inr ⟨g,off,cap,arr,e,fr,by simp[Mem.pre,Nat.min_eq_left hn],hg,by simp;omega,hm,hf,?_⟩;rw[←hT.flat_take,←hr,List.take_take,List.length_take,Nat.min_eq_left hn,Nat.min_eq_left (Nat.mul_le_mul_right _ hn)]
theorem Sl.suf(hv:Sl w T v L)(hT:T.Ok P)(n:Nat)(hn:n≤L.length):Sl w T (suf T.size v n) (L.drop n):=by
 rcases hv with ⟨⟨p,rfl⟩,rfl⟩|⟨g,off,cap,arr,e,fr,rfl,hg,hc,hm,hf,hr⟩
 .simp at hn;subst hn;exact .inl ⟨⟨_,rfl⟩,rfl⟩
 by_cases hcn:cap=n
 .have:L.length=n:=by omega
  refine .inr ⟨g,off,0,arr,e,fr,by simp[Mem.suf,hcn,this],hg,by simp;omega,by simp,by omega,?_⟩;rw[List.drop_of_length_le (by omega)];simp[Ty.flat]
 refine .inr ⟨g,off+n*T.size,cap-n,arr,e,fr,by simp[Mem.suf,hcn,addr_add],hg,by simp;omega,by omega,?_,?_⟩
 .have:(cap-n)*T.size+n*T.size=cap*T.size:=by rw[←Nat.add_mul];congr 1;omega
  omega
 rw[←hT.flat_drop,←hr,List.drop_take,List.drop_drop,List.length_drop,Nat.sub_mul]
theorem run_pre(hv:Sl w T v L){t:TypeId}(ht:P.underlying t=some (.slice T.id))(hT:T.Ok P)(q:IntKind)(n:Int)(h0:0≤n)(hn:n≤L.length):
  (Instr.sliceAt t v none (some (.int q n)) none).run P w=.ok (pre v n.toNat) w:=by
 obtain⟨p,cap,rfl⟩:=hv.form;have hc:(n:Int)≤(cap:Int):=by
  rcases hv with ⟨⟨_,h⟩,rfl⟩|⟨g,off,cap',arr,e,fr,h,hg,hc,_⟩
  .simp at h hn;omega
  simp at h;obtain⟨_,rfl⟩:=h;omega
 have hz:∀p:Option Addr,(p.map fun x=>x.add 0)=p:=fun p=>by cases p<;>simp[Addr.add]
 simp[Instr.sliceAt,Instr.slice,run_underlying ht,Instr.sliceBounds,Instr.sliceBound,asIntOf,h0,hc,hT.run_sizeOf,pre,hz]
theorem run_suf(hv:Sl w T v L){t:TypeId}(ht:P.underlying t=some (.slice T.id))(hT:T.Ok P)(q:IntKind)(n:Int)(h0:0≤n)(hn:n≤L.length):
  (Instr.sliceAt t v (some (.int q n)) none none).run P w=.ok (suf T.size v n.toNat) w:=by
 obtain⟨p,cap,rfl⟩:=hv.form;simp[Instr.sliceAt,Instr.slice,run_underlying ht,Instr.sliceBounds,Instr.sliceBound,asIntOf,h0,hn,hT.run_sizeOf,suf]
/-! ### A slice that is built, and 'make' -/
theorem Ow.built(w:World)(hT:T.Ok P)(L:List α)(hl:L.length≤9223372036854775807):Ow (w.alloc (.cells (T.flat L).toArray T.id)) T (.slice (some ⟨w.heap.size,0,none⟩) L.length L.length) L:=by
 refine .inr ⟨w.heap.size,L.length,_,rfl,heap_alloc_new w _,Nat.le_refl _,by simpa [maxLen]using hl,?_,?_⟩
 .simp [hT.flat_len]
 rw[List.toList_toArray,←hT.flat_len,List.take_length]
theorem Ow.lit{w':World}(hT:T.Ok P)(L:List α)(g n:Nat)(arr:Array Value)(hg:w'.heap[g]?=some (.cells arr T.id (0,0)))(he:arr.toList=T.flat L)(hn:n=L.length)(hl:L.length≤9223372036854775807):Ow w' T (.slice (some ⟨g,0,none⟩) n n) L:=by
 subst hn;have h1:=hT.flat_len L;refine .inr ⟨g,L.length,arr,rfl,hg,Nat.le_refl _,by simpa [maxLen]using hl,?_,?_⟩
 .rw [←h1,←he];simp
 rw[he,←h1,List.take_length]
theorem madeCells_flat(hT:T.Ok P)(n:Nat):(madeCells (T.val T.zero).cells (n*T.size)).toList=T.flat (List.replicate n T.zero):=by
 have hz:(T.val T.zero).cells.size=T.size:=by have:=hT.len T.zero;simpa [Ty.enc]using this
 apply List.ext_getElem?;intro i;have hlen:=hT.flat_len (List.replicate n T.zero);rw[List.length_replicate]at hlen;by_cases hi:i<n*T.size
 .have hpos:=hT.pos;have hdm:i=(i / T.size)*T.size+i % T.size:=by rw[Nat.mul_comm];exact (Nat.div_add_mod i T.size).symm
  have hq:i / T.size<n:=by rw[Nat.div_lt_iff_lt_mul hpos];exact hi
  have hr:i % T.size<T.size:=Nat.mod_lt _ hpos;have h1:=hT.flat_get (L:=List.replicate n T.zero) (k:=i / T.size) (x:=T.zero) (by simp[hq]) hr;rw[←hdm]at h1;rw[h1];simp[madeCells,hi,hz,Ty.enc,hr]
 rw[List.getElem?_eq_none (by simp[size_madeCells];omega),List.getElem?_eq_none (by omega)]
end
end Go.Mem
end
section
set_option linter.unusedSimpArgs false
set_option linter.unusedVariables false
namespace Go.Mem
open Go.RowKit
/-! ### Lists of pairs -/
section
variable{κ β:Type}[DecidableEq κ]
def aget:List (κ×β)→κ→Option β
 | [],_=>none
 | p::r,k=>if p.1=k then some p.2 else aget r k
def aset:List (κ×β)→κ→β→List (κ×β)
 | [],k,x=>[(k,x)]
 | p::r,k,x=>if p.1=k then (k,x)::r else p::aset r k x
def adel:List (κ×β)→κ→List (κ×β)
 | [],_=>[]
 | p::r,k=>if p.1=k then r else p::adel r k
def apos:List (κ×β)→κ→Option Nat
 | [],_=>none
 | p::r,k=>if p.1=k then some 0 else (apos r k).map (· + 1)
theorem aget_aset(m:List (κ×β))(k:κ)(x:β)(k':κ):aget (aset m k x) k'=if k'=k then some x else aget m k':=by
 induction m with
 | nil=>simp only[aset,aget];by_cases h:k=k'<;>simp[h,eq_comm]
 | cons p r ih=>
  unfold aset;split
  .rename_i h;subst h;simp only[aget];by_cases e:p.1=k'
   .simp [e]
   simp only[e,if_false];rw[if_neg fun h:k'=p.1=>e h.symm]
  simp only[aget,ih];split<;>split<;>simp_all
theorem mem_keys_aset(m:List (κ×β))(k:κ)(x:β)(k':κ):k'∈(aset m k x).map Prod.fst↔k'=k∨k'∈m.map Prod.fst:=by
 induction m with
 | nil=>simp[aset]
 | cons p r ih=>
  unfold aset;split
  .rename_i h;subst h;simp
  simp only[List.map_cons,List.mem_cons,ih];grind
theorem nodup_aset{m:List (κ×β)}(h:(m.map Prod.fst).Nodup)(k:κ)(x:β):((aset m k x).map Prod.fst).Nodup:=by
 induction m with
 | nil=>simp[aset]
 | cons p r ih=>
  simp only[List.map_cons,List.nodup_cons]at h;unfold aset;split
  .rename_i e;subst e;simpa using h
  rename_i e
  simp only[List.map_cons,List.nodup_cons];refine⟨fun hm=>?_,ih h.2⟩;rcases (mem_keys_aset r k x p.1).1 hm with h1|h1
  .exact e h1
  exact h.1 h1
theorem aget_none_iff(m:List (κ×β))(k:κ):aget m k=none↔k∉m.map Prod.fst:=by
 induction m with
 | nil=>simp[aget]
 | cons p r ih=>simp only[aget,List.map_cons,List.mem_cons];split<;>grind
theorem mem_adel_sub(m:List (κ×β))(k:κ):∀p,p∈adel m k→p∈m:=by
 induction m with
 | nil=>simp[adel]
 | cons p r ih=>
  intro q hq;unfold adel at hq;split at hq
  .exact List.mem_cons_of_mem _ hq
  rcases List.mem_cons.1 hq with rfl|h
  .simp
  exact List.mem_cons_of_mem _ (ih q h)
theorem nodup_adel{m:List (κ×β)}(h:(m.map Prod.fst).Nodup)(k:κ):((adel m k).map Prod.fst).Nodup:=by
 induction m with
 | nil=>simp[adel]
 | cons p r ih=>
  simp only[List.map_cons,List.nodup_cons]at h;unfold adel;split
  .exact h.2
  simp only[List.map_cons,List.nodup_cons];refine⟨fun hm=>h.1 ?_,ih h.2⟩;obtain⟨q,hq,e⟩:=List.mem_map.1 hm;exact List.mem_map.2 ⟨q,mem_adel_sub _ _ _ hq,e⟩
theorem aget_adel{m:List (κ×β)}(h:(m.map Prod.fst).Nodup)(k k':κ):aget (adel m k) k'=if k'=k then none else aget m k':=by
 induction m with
 | nil=>simp[adel,aget]
 | cons p r ih=>
  simp only[List.map_cons,List.nodup_cons]at h;unfold adel;split
  .rename_i e;subst e;by_cases hk:k'=p.1
   .subst hk;rw[if_pos rfl];exact (aget_none_iff _ _).2 h.1
   rw[if_neg hk];simp only[aget];rw[if_neg (fun e=>hk e.symm)]
  rename_i e
  simp only[aget,ih h.2];split<;>split<;>simp_all
theorem apos_lt{m:List (κ×β)}{k:κ}{i:Nat}(h:apos m k=some i):i<m.length∧∃x,m[i]?=some (k,x)∧aget m k=some x:=by
 induction m generalizing i with
 | nil=>simp[apos]at h
 | cons p r ih=>
  unfold apos at h;split at h
  .rename_i e;subst e;simp only[Option.some.injEq]at h;subst h;exact⟨by simp,p.2,by simp,by simp[aget]⟩
  rename_i e
  cases hp:apos r k with
  | none=>rw[hp]at h;simp at h
  | some j=>
   rw[hp]at h;simp only[Option.map_some,Option.some.injEq]at h;subst h;obtain⟨h1,x,h2,h3⟩:=ih hp;exact⟨by simp;omega,x,by simpa using h2,by simp[aget,e,h3]⟩
theorem apos_none{m:List (κ×β)}{k:κ}(h:apos m k=none):aget m k=none:=by
 induction m with
 | nil=>rfl
 | cons p r ih=>
  unfold apos at h;split at h
  .cases h
  rename_i e
  simp only[aget,e,if_false];exact ih (by simpa using h)
theorem aset_pos{m:List (κ×β)}{k:κ}{i:Nat}(h:apos m k=some i)(x:β):aset m k x=m.set i (k,x):=by
 induction m generalizing i with
 | nil=>simp[apos]at h
 | cons p r ih=>
  unfold apos at h;split at h
  .rename_i e;simp only[Option.some.injEq]at h;subst h;simp[aset,e]
  rename_i e
  cases hp:apos r k with
  | none=>rw[hp]at h;simp at h
  | some j=>rw[hp]at h;simp only[Option.map_some,Option.some.injEq]at h;subst h;simp[aset,e,ih hp]
theorem aset_new{m:List (κ×β)}{k:κ}(h:apos m k=none)(x:β):aset m k x=m++[(k,x)]:=by
 induction m with
 | nil=>rfl
 | cons p r ih=>
  unfold apos at h;split at h
  .cases h
  rename_i e;simp[aset,e,ih (by simpa using h)]
theorem adel_pos{m:List (κ×β)}{k:κ}{i:Nat}(h:apos m k=some i):adel m k=m.eraseIdx i:=by
 induction m generalizing i with
 | nil=>simp[apos]at h
 | cons p r ih=>
  unfold apos at h;split at h
  .rename_i e;simp only[Option.some.injEq]at h;subst h;simp[adel,e]
  rename_i e
  cases hp:apos r k with
  | none=>rw[hp]at h;simp at h
  | some j=>rw[hp]at h;simp only[Option.map_some,Option.some.injEq]at h;subst h;simp[adel,e,ih hp]
theorem adel_none{m:List (κ×β)}{k:κ}(h:apos m k=none):adel m k=m:=by
 induction m with
 | nil=>rfl
 | cons p r ih=>
  unfold apos at h;split at h
  .cases h
  rename_i e;simp[adel,e,ih (by simpa using h)]
end
/-! ### Keys -/
structure KTy(κ:Type) where
 id:TypeId
 val:κ→Value
section
variable{κ β:Type}[DecidableEq κ]{P:Program}
structure KTy.Ok(K:KTy κ)(P:Program):Prop where
 check:∀(b:Bool) (k:κ) (w:World),(Instr.checkKey b 10000 K.id (K.val k)).run P w=.ok () w
 bits:∀k,Instr.sameBits 10000 (K.val k) (K.val k)=true
 find:∀(k:κ) (es:List MapEntry) (m:List (κ×β)),es.map (·.key)=m.map (K.val ·.1)→∀w:World,
  (Instr.findKey K.id (K.val k) es).run P w=.ok ((apos m k).bind fun i=>(es[i]?).map fun e=>(i,e.val)) w
theorem findNow_spec{K:KTy κ}{d:TypeDesc}(hs:∀k k',Instr.sameNow d (K.val k) (K.val k')=some (decide (k'=k)))(k:κ):∀(es:List MapEntry) (m:List (κ×β)) (n:Nat),es.map (·.key)=m.map (K.val ·.1)→
  Instr.findNow d (K.val k) es n=some ((apos m k).bind fun i=>(es[i]?).map fun e=>(i+n,e.val))
 | [],m,n,h=>by
  cases m with
  | nil=>rfl
  | cons p r=>simp at h
 | e::es,m,n,h=>by
  cases m with
  | nil=>simp at h
  | cons p r=>
   simp only[List.map_cons,List.cons.injEq]at h;unfold Instr.findNow;rw[h.1,hs];by_cases hp:p.1=k
   .simp [hp,apos]
   have ih:=findNow_spec hs k es r (n+1) h.2;simp only[hp,decide_false,ih,apos,if_false];cases apos r k with
   | none=>rfl
   | some i=>simp[Nat.add_assoc,Nat.add_comm 1 n]
def intK(id:TypeId):KTy Int:=⟨id,fun n=>.int .i64 n⟩
def strK(id:TypeId):KTy ByteArray:=⟨id,fun s=>.string s⟩
theorem bytes_beq(a b:ByteArray):(a == b)=decide (a=b):=by
 obtain⟨a⟩:=a;obtain⟨b⟩:=b;rw[Bool.eq_iff_iff];show (a == b)=true↔_;simp
theorem checkKey_plain{id:TypeId}{d:TypeDesc}(h:P.underlying id=some d)(v:Value)(hd:∀ms,d≠.interface ms)(ha:∀n e,d≠.array n e)(hs:∀fs,d≠.struct fs)(b:Bool)(n:Nat)(w:World):(Instr.checkKey b (n+1) id v).run P w=.ok () w:=by
 unfold Instr.checkKey;rw[Sem.run_bind,run_underlying h,Result.andThen_ok];cases d<;>first
  | rfl
  | exact absurd rfl (hd _)
  | exact absurd rfl (ha _ _)
  | exact absurd rfl (hs _)
theorem intK_ok{id:TypeId}(h:P.underlying id=some (.int .i64)):KTy.Ok (β:=β) (intK id) P:=by
 refine⟨fun b k w=>checkKey_plain h _ (by simp) (by simp) (by simp) b 9999 w,fun k=>by simp[intK,Instr.sameBits],fun k es m he w=>?_⟩;have:=findNow_spec (K:=intK id) (d:=.int .i64) (fun k k'=>by simp[Instr.sameNow,intK,eq_comm,Bool.beq_eq_decide_eq]) k es m 0 he;unfold Instr.findKey;rw[Sem.run_bind];have hu:(underlying (intK id).id).run P w=.ok (.int .i64) w:=run_underlying h w;rw[hu,Result.andThen_ok,this];simp[Sem.run_pure]
end
end Go.Mem
end
section
set_option linter.unusedSimpArgs false
set_option linter.unusedVariables false
set_option linter.unusedSectionVars false
namespace Go.Mem
open Go.RowKit
section
variable{κ β:Type}[DecidableEq κ]{P:Program}{K:KTy κ}{V:β→Value}{ops:Array Oper}{Q:Exit→Act→World→Prop}{a:Act}{w w':World}{rest:List Oper}{o:Oper}{b:Nat}{m:List (κ×β)}
def Stamps(es:List MapEntry)(clock:Nat):Prop:=(es.map (·.born)).Nodup∧∀e∈es,e.born<clock
def Mp(w:World)(K:KTy κ)(V:β→Value)(b:Nat)(m:List (κ×β)):Prop:=
 ∃es clock,w.heap[b]?=some (.map es clock)∧es.toList.map (fun e=>(e.key,e.val))=m.map (fun p=>(K.val p.1,V p.2))∧(m.map Prod.fst).Nodup∧Stamps es.toList clock
theorem Mp.lt(h:Mp w K V b m):b<w.heap.size:=by
 obtain⟨es,clock,hb,_⟩:=h;exact (Array.getElem?_eq_some_iff.1 hb).1
theorem Mp.kept(h:Mp w K V b m)(hb:w'.heap[b]?=w.heap[b]?):Mp w' K V b m:=by
 obtain⟨es,clock,h1,r⟩:=h;exact⟨es,clock,hb.trans h1,r⟩
theorem Mp.alloc(h:Mp w K V b m)(ob:Obj):Mp (w.alloc ob) K V b m:=h.kept (Below.heap_alloc _ _ _ h.lt)
theorem Mp.drew(h:Mp w K V b m):Mp w.drew K V b m:=h
theorem Mp.setCell(h:Mp w K V b m){p:Addr}(hp:b≠p.block)(u:Value):Mp (w.setCell p u) K V b m:=h.kept (Below.heap_setCell _ _ _ _ hp)
theorem Mp.chg{S:Nat→Prop}(h:Mp w K V b m)(c:Chg S w w')(hS:¬S b):Mp w' K V b m:=h.kept (c.block b h.lt hS)
theorem Mp.nodup(h:Mp w K V b m):(m.map Prod.fst).Nodup:=by obtain⟨_,_,_,_,h,_⟩:=h;exact h
theorem Mp.made(w:World)(K:KTy κ)(V:β→Value):Mp (w.alloc (.map #[] 0)) K V w.heap.size []:=
 ⟨#[],0,heap_alloc_new w _,rfl,by simp,by simp[Stamps]⟩
theorem run_getObj_map{es:Array MapEntry}{clock:Nat}(h:w.heap[b]?=some (.map es clock)):(getObj b).run P w=.ok (.map es clock) w:=by
 simp[getObj,Sem.run,h]
theorem run_setObj_map{es:Array MapEntry}{clock:Nat}(h:w.heap[b]?=some (.map es clock))(ob:Obj):(setObj b ob).run P w=.ok () { w with heap:=w.heap.setIfInBounds b ob }:=by
 simp[setObj,Sem.run,h]
theorem chg_setObj(w:World)(b:Nat)(ob:Obj):Chg (fun k=>k=b) w { w with heap:=w.heap.setIfInBounds b ob }:=
 ⟨rfl,rfl,rfl,by simp,fun k _ hk=>by show (w.heap.setIfInBounds b ob)[k]?=_;rw[Array.getElem?_setIfInBounds_ne (fun h=>hk h.symm)]⟩
theorem heap_setObj{es:Array MapEntry}{clock:Nat}(h:w.heap[b]?=some (.map es clock))(ob:Obj):({ w with heap:=w.heap.setIfInBounds b ob }:World).heap[b]?=some ob:=by
 have:=(Array.getElem?_eq_some_iff.1 h).1;show (w.heap.setIfInBounds b ob)[b]?=_;simp[this]
theorem keys_of{es:Array MapEntry}(h:es.toList.map (fun e=>(e.key,e.val))=m.map (fun p=>(K.val p.1,V p.2))):es.toList.map (·.key)=m.map (K.val ·.1):=by
 have:=congrArg (List.map Prod.fst) h;simpa [List.map_map,Function.comp_def]using this
theorem entry_at{es:Array MapEntry}(h:es.toList.map (fun e=>(e.key,e.val))=m.map (fun p=>(K.val p.1,V p.2))){i:Nat}{k:κ}{x:β}(hi:m[i]?=some (k,x)):∃e,es.toList[i]?=some e∧e.key=K.val k∧e.val=V x:=by
 have:=congrArg (·[i]?) h;simp only[List.getElem?_map,hi,Option.map_some]at this;cases he:es.toList[i]? with
 | none=>rw[he]at this;simp at this
 | some e=>rw[he]at this;simp at this;exact⟨e,rfl,this.1,this.2⟩
theorem run_lookup(h:Mp w K V b m)(hK:KTy.Ok (β:=β) K P){t e:TypeId}(ht:P.underlying t=some (.map K.id e))(k:κ){z:Value}(hz:∀w,(zeroValue e).run P w=.ok z w)(ok:Bool):
  (Instr.lookup t (.map (some b)) (K.val k) ok).run P w=.ok (if ok then .tuple #[((aget m k).map V).getD z,.bool (aget m k).isSome] else ((aget m k).map V).getD z) w:=by
 obtain⟨es,clock,hb,he,hn,hs⟩:=h;have hf:=hK.find k es.toList m (keys_of he) w;unfold Instr.lookup;simp only[Sem.run_bind,run_underlying ht,Result.andThen_ok,run_getObj_map hb,Sem.run_pure,hK.check,hf];cases hp:apos m k with
 | none=>
  rw[apos_none hp];simp[hz]
 | some i=>
  obtain⟨_,x,hx,hg⟩:=apos_lt hp;obtain⟨e0,h1,h2,h3⟩:=entry_at he hx;rw[hg];simp only[Option.bind_some,h1,Option.map_some,Option.getD_some,Option.isSome_some,h3];rfl
theorem stamps_push{es:List MapEntry}{clock:Nat}(h:Stamps es clock)(k v:Value):Stamps (es++[{ key:=k,val:=v,born:=clock }]) (clock+1):=by
 obtain⟨h1,h2⟩:=h;refine⟨?_,fun e he=>?_⟩
 .simp only[List.map_append,List.map_cons,List.map_nil];rw[List.nodup_append];refine⟨h1,by simp,fun x hx y hy=>?_⟩;simp only[List.mem_singleton]at hy;obtain⟨e,he,rfl⟩:=List.mem_map.1 hx;have:=h2 e he;omega
 rcases List.mem_append.1 he with h|h
 .have:=h2 e h;omega
 simp only[List.mem_singleton]at h;subst h;simp
theorem run_update(h:Mp w K V b m)(hK:KTy.Ok (β:=β) K P){t e:TypeId}(ht:P.underlying t=some (.map K.id e))(k:κ)(x:β):
  ∃w',(Instr.mapUpdate t (.map (some b)) (K.val k) (V x)).run P w=.ok () w'∧Mp w' K V b (aset m k x)∧Chg (fun j=>j=b) w w':=by
 obtain⟨es,clock,hb,he,hn,hs⟩:=h;have hf:=hK.find k es.toList m (keys_of he) w;unfold Instr.mapUpdate;simp only[Sem.run_bind,run_underlying ht,Result.andThen_ok,run_getObj_map hb,hK.check,hf];cases hp:apos m k with
 | none=>
  refine⟨_,run_setObj_map hb _,⟨_,_,heap_setObj hb _,?_,nodup_aset hn k x,?_⟩,chg_setObj _ _ _⟩
  .rw [aset_new hp];simp[he]
  simpa using stamps_push hs (K.val k) (V x)
 | some i=>
  obtain⟨hi,y,hy,_⟩:=apos_lt hp;obtain⟨e0,h1,h2,h3⟩:=entry_at he hy;have h1':es[i]?=some e0:=by simpa using h1
  simp only[Option.bind_some,h1,Option.map_some,h1',h2,Option.getD_some];have hst:(Instr.keyThatStays (K.val k) (K.val k)).run P w=.ok (K.val k) w:=by
   unfold Instr.keyThatStays;rw[if_pos (hK.bits k)];rfl
  simp only[Sem.run_bind,hst,Result.andThen_ok];refine⟨_,run_setObj_map hb _,⟨_,_,heap_setObj hb _,?_,nodup_aset hn k x,?_⟩,chg_setObj _ _ _⟩
  .rw [aset_pos hp];apply List.ext_getElem?;intro j;have hj:=congrArg (·[j]?) he;simp only[List.getElem?_map,Array.getElem?_toList,Array.getElem?_modify,List.getElem?_set]at hj⊢;by_cases hij:i=j
   .subst hij;simp[h1',hi]
   simp only[hij,if_false,if_neg];simpa using hj
  obtain⟨s1,s2⟩:=hs;have hborn:((es.modify i fun e=>{ e with key:=K.val k,val:=V x }).toList.map (·.born))=es.toList.map (·.born):=by
   apply List.ext_getElem?;intro j;simp only[List.getElem?_map,Array.getElem?_toList,Array.getElem?_modify];split
   .simp [Function.comp_def]
   rfl
  refine⟨by rw[hborn];exact s1,fun e he'=>?_⟩;have:e.born∈es.toList.map (·.born):=by rw[←hborn];exact List.mem_map_of_mem he'
  obtain⟨e',h1,h2⟩:=List.mem_map.1 this;rw[←h2];exact s2 e' h1
end
end Go.Mem
end
section
set_option linter.unusedSimpArgs false
set_option linter.unusedVariables false
set_option linter.unusedSectionVars false
namespace Go.Hp
open Go.RowKit
open Go.Mem (Ty KTy blk elemAt addr_add addr_add_add pre suf blk_pre blk_suf aget aset adel apos Stamps)
abbrev Heap:=Array Obj
/-! ### What may have turned -/
structure Chg(S:Nat→Prop)(H H':Heap):Prop where
 size:H.size≤H'.size
 block:∀k,k<H.size→¬S k→H'[k]?=H[k]?
section
variable{S T:Nat→Prop}{A B C H H':Heap}
theorem Chg.refl(S:Nat→Prop)(H:Heap):Chg S H H:=⟨Nat.le_refl _,fun _ _ _=>rfl⟩
theorem Chg.trans(h:Chg S A B)(k:Chg S B C):Chg S A C:=
 ⟨Nat.le_trans h.size k.size,fun i hi hS=>(k.block i (Nat.lt_of_lt_of_le hi h.size) hS).trans (h.block i hi hS)⟩
theorem Chg.trans'(h:Chg S A B)(k:Chg T B C)(hT:∀i,T i→i<A.size→S i):Chg S A C:=
 ⟨Nat.le_trans h.size k.size,fun i hi hS=>(k.block i (Nat.lt_of_lt_of_le hi h.size) fun ht=>hS (hT i ht hi)).trans (h.block i hi hS)⟩
theorem Chg.mono(h:Chg S H H')(hS:∀i,i<H.size→S i→T i):Chg T H H':=⟨h.size,fun k hk ht=>h.block k hk fun hs=>ht (hS k hk hs)⟩
theorem lt_of_some{k:Nat}{o:Obj}(h:H[k]?=some o):k<H.size:=(Array.getElem?_eq_some_iff.1 h).1
theorem Chg.get(h:Chg S H H'){k:Nat}{o:Obj}(hk:H[k]?=some o)(hS:¬S k):H'[k]?=some o:=(h.block k (lt_of_some hk) hS).trans hk
theorem Chg.push(H:Heap)(o:Obj)(S:Nat→Prop):Chg S H (H.push o):=⟨by simp,fun k hk _=>by rw[Array.getElem?_push,if_neg (by omega)]⟩
theorem Chg.set(H:Heap)(g:Nat)(o:Obj):Chg (fun k=>k=g) H (H.setIfInBounds g o):=⟨by simp,fun k _ hk=>by rw[Array.getElem?_setIfInBounds_ne (fun h=>hk h.symm)]⟩
theorem get_push(H:Heap)(o:Obj):(H.push o)[H.size]?=some o:=by simp
end
section
variable{α:Type}{T:Ty α}{P:Program}
/-! ### Slices -/
def Sl(H:Heap)(T:Ty α)(v:Value)(L:List α):Prop:=
 ((∃p,v=.slice p 0 0)∧L=[])∨
 ∃g off cap arr e fr,v=.slice (some ⟨g,off,none⟩) L.length cap∧H[g]?=some (.cells arr e fr)∧L.length≤cap∧cap≤maxLen∧(0<cap→off+cap*T.size≤arr.size)∧
  (arr.toList.drop off).take (L.length*T.size)=T.flat L
def Ow(H:Heap)(T:Ty α)(v:Value)(L:List α):Prop:=
 (v=.slice none 0 0∧L=[])∨
 ∃g cap arr,v=.slice (some ⟨g,0,none⟩) L.length cap∧H[g]?=some (.cells arr T.id (0,0))∧L.length≤cap∧cap≤maxLen∧cap*T.size≤arr.size∧
  arr.toList.take (L.length*T.size)=T.flat L
variable{H H':Heap}{v:Value}{L:List α}
theorem Ow.sl(h:Ow H T v L):Sl H T v L:=by
 rcases h with h|⟨g,cap,arr,rfl,h1,h2,h3,h4,h5⟩
 .exact .inl ⟨⟨none,h.1⟩,h.2⟩
 exact .inr ⟨g,0,cap,arr,_,_,rfl,h1,h2,h3,by omega,by simpa using h5⟩
theorem Sl.nil(H:Heap)(T:Ty α):Sl H T (.slice none 0 0) []:=.inl ⟨⟨none,rfl⟩,rfl⟩
theorem Ow.nil(H:Heap)(T:Ty α):Ow H T (.slice none 0 0) []:=.inl ⟨rfl,rfl⟩
theorem Sl.kept(h:Sl H T v L)(hb:∀g,blk v=some g→H'[g]?=H[g]?):Sl H' T v L:=by
 rcases h with h|⟨g,off,cap,arr,e,fr,rfl,h1,r⟩
 .exact .inl h
 exact .inr ⟨g,off,cap,arr,e,fr,rfl,by rw[hb g rfl];exact h1,r⟩
theorem Ow.kept(h:Ow H T v L)(hb:∀g,blk v=some g→H'[g]?=H[g]?):Ow H' T v L:=by
 rcases h with h|⟨g,cap,arr,rfl,h1,r⟩
 .exact .inl h
 exact .inr ⟨g,cap,arr,rfl,by rw[hb g rfl];exact h1,r⟩
theorem Ow.lt(h:Ow H T v L){g:Nat}(hg:blk v=some g):g<H.size:=by
 rcases h with ⟨rfl,_⟩|⟨g',cap,arr,rfl,h1,r⟩
 .simp [blk,Value.ownBlock]at hg
 simp[blk,Value.ownBlock]at hg;subst hg;exact (Array.getElem?_eq_some_iff.1 h1).1
theorem Sl.kept'(h:Sl H T v L)(hb:∀g,blk v=some g→g<H.size→H'[g]?=H[g]?):Sl H' T v L:=by
 rcases h with h|⟨g,off,cap,arr,e,fr,rfl,h1,r⟩
 .exact .inl h
 exact .inr ⟨g,off,cap,arr,e,fr,rfl,by rw[hb g rfl (Array.getElem?_eq_some_iff.1 h1).1];exact h1,r⟩
theorem Sl.chg{S:Nat→Prop}(h:Sl H T v L)(c:Chg S H H')(hS:∀g,blk v=some g→¬S g):Sl H' T v L:=h.kept' fun g hg hl=>c.block g hl (hS g hg)
theorem Ow.chg{S:Nat→Prop}(h:Ow H T v L)(c:Chg S H H')(hS:∀g,blk v=some g→¬S g):Ow H' T v L:=h.kept fun g hg=>c.block g (h.lt hg) (hS g hg)
theorem Sl.len_le(h:Sl H T v L):L.length≤9223372036854775807:=by
 rcases h with ⟨_,rfl⟩|⟨g,off,cap,arr,e,fr,rfl,h1,h2,h3,_⟩
 .simp
 have:cap≤9223372036854775807:=by simpa [maxLen]using h3
 omega
theorem Sl.form(h:Sl H T v L):∃p cap,v=.slice p L.length cap:=by
 rcases h with ⟨⟨p,rfl⟩,rfl⟩|⟨g,off,cap,arr,e,fr,rfl,_⟩
 .exact ⟨_,_,rfl⟩
 exact⟨_,_,rfl⟩
def cellH(H:Heap)(p:Addr):Option Value:=
 match H[p.block]? with
 | some (.cells c _ _)=>if p.spot.isSome then none else c[p.off]?
 | _=>none
theorem cellH_row{g j:Nat}{arr:Array Value}{e:TypeId}{fr:Nat×Nat}(h:H[g]?=some (.cells arr e fr)):cellH H ⟨g,j,none⟩=arr[j]?:=by simp[cellH,h]
theorem Sl.cell(h:Sl H T v L)(hT:T.Ok P){k:Nat}{x:α}(hk:L[k]?=some x){j:Nat}{u:Value}(hj:(T.enc x)[j]?=some u):cellH H ((elemAt T.size v k).add j)=some u:=by
 have hjs:j<T.size:=by rw[←hT.len x];exact (List.getElem?_eq_some_iff.1 hj).1
 rcases h with ⟨_,rfl⟩|⟨g,off,cap,arr,e,fr,rfl,h1,h2,h3,h4,h5⟩
 .simp at hk
 have h6:=hT.flat_get hk hjs;rw[hj,←h5,List.getElem?_take]at h6;split at h6
 .rw [List.getElem?_drop]at h6;simp only[elemAt,addr_add];rw[cellH_row h1,←Array.getElem?_toList,←h6,Nat.add_assoc]
 cases h6
theorem Sl.elem_spot(h:Sl H T v L){k:Nat}(hk:k<L.length):(elemAt T.size v k).spot=none:=by
 rcases h with ⟨_,rfl⟩|⟨g,off,cap,arr,e,fr,rfl,_⟩
 .simp at hk
 simp only[elemAt,addr_add]
theorem Sl.of_mem{w:World}(h:Mem.Sl w T v L):Sl w.heap T v L:=h
theorem Sl.mem{w:World}(h:Sl w.heap T v L):Mem.Sl w T v L:=h
theorem Ow.of_mem{w:World}(h:Mem.Ow w T v L):Ow w.heap T v L:=h
theorem Ow.mem{w:World}(h:Ow w.heap T v L):Mem.Ow w T v L:=h
theorem Chg.of_mem{S:Nat→Prop}{w w':World}(h:Mem.Chg S w w'):Chg S w.heap w'.heap:=⟨h.size,h.block⟩
def Moved(H:Heap)(v v':Value):Prop:=∀g,blk v'=some g→blk v=some g∨H.size≤g
theorem Ow.pre(hv:Ow H T v L)(hT:T.Ok P)(n:Nat)(hn:n≤L.length):Ow H T (pre v n) (L.take n):=Mem.Ow.pre (w:=⟨H,fun _ _=>0,0,default,#[]⟩) hv hT n hn
theorem Sl.pre(hv:Sl H T v L)(hT:T.Ok P)(n:Nat)(hn:n≤L.length):Sl H T (pre v n) (L.take n):=Mem.Sl.pre (w:=⟨H,fun _ _=>0,0,default,#[]⟩) hv hT n hn
theorem Sl.suf(hv:Sl H T v L)(hT:T.Ok P)(n:Nat)(hn:n≤L.length):Sl H T (suf T.size v n) (L.drop n):=Mem.Sl.suf (w:=⟨H,fun _ _=>0,0,default,#[]⟩) hv hT n hn
theorem Ow.lit(hT:T.Ok P)(L:List α){g n:Nat}{arr:Array Value}(hg:H[g]?=some (.cells arr T.id (0,0)))(he:arr.toList=T.flat L)(hn:n=L.length)(hl:L.length≤9223372036854775807):Ow H T (.slice (some ⟨g,0,none⟩) n n) L:=
 Mem.Ow.lit (w':=⟨H,fun _ _=>0,0,default,#[]⟩) hT L g n arr hg he hn hl
end
/-! ### Maps -/
section
variable{κ β:Type}[DecidableEq κ]{P:Program}{K:KTy κ}{V:β→Value}{H H':Heap}{b:Nat}{m:List (κ×β)}
def Mp(H:Heap)(K:KTy κ)(V:β→Value)(b:Nat)(m:List (κ×β)):Prop:=
 ∃es clock,H[b]?=some (.map es clock)∧es.toList.map (fun e=>(e.key,e.val))=m.map (fun p=>(K.val p.1,V p.2))∧(m.map Prod.fst).Nodup∧Stamps es.toList clock
theorem Mp.of_mem{w:World}(h:Mem.Mp w K V b m):Mp w.heap K V b m:=h
theorem Mp.mem{w:World}(h:Mp w.heap K V b m):Mem.Mp w K V b m:=h
theorem Mp.lt(h:Mp H K V b m):b<H.size:=by
 obtain⟨es,clock,hb,_⟩:=h;exact lt_of_some hb
theorem Mp.kept(h:Mp H K V b m)(hb:H'[b]?=H[b]?):Mp H' K V b m:=by
 obtain⟨es,clock,h1,r⟩:=h;exact⟨es,clock,hb.trans h1,r⟩
theorem Mp.chg{S:Nat→Prop}(h:Mp H K V b m)(c:Chg S H H')(hS:¬S b):Mp H' K V b m:=h.kept (c.block b h.lt hS)
theorem Mp.nodup(h:Mp H K V b m):(m.map Prod.fst).Nodup:=by obtain⟨_,_,_,_,h,_⟩:=h;exact h
theorem Mp.made{g:Nat}(h:H[g]?=some (.map #[] 0))(K:KTy κ)(V:β→Value):Mp H K V g []:=⟨#[],0,h,rfl,by simp,by simp[Stamps]⟩
end
end Go.Hp
end
section
set_option linter.unusedSimpArgs false
set_option linter.unusedVariables false
namespace Go.Ser
/-! ### What an operation does to the world -/
def St(P:Program){α:Type}(s:Sem α):Prop:=∀w a w1,s.run P w=.ok a w1→w1=w∧∀w',s.run P w'=.ok a w'
section
variable{P:Program}{α β:Type}
theorem St.pure(a:α):St P (Sem.pure a):=by
 intro w b w1 h;simp only[Sem.run,Result.ok.injEq]at h;obtain⟨rfl,rfl⟩:=h;exact⟨rfl,fun _=>rfl⟩
theorem St.pure'(a:α):St P (Pure.pure a:Sem α):=St.pure a
theorem St.halt(h:Halt):St P (Sem.halt h:Sem α):=by intro w b w1 h;simp[Sem.run]at h
theorem St.bind{s:Sem α}{f:α→Sem β}(hs:St P s)(hf:∀a,St P (f a)):St P (s >>= f):=by
 intro w b w1 h;rw[Sem.run_bind]at h;cases hr:s.run P w with
 | halt x w2=>rw[hr]at h;simp at h
 | ok a w2=>
  rw[hr]at h;simp only[Result.andThen_ok]at h;obtain⟨rfl,h1⟩:=hs _ _ _ hr;obtain⟨rfl,h2⟩:=hf a _ _ _ h;refine⟨rfl,fun w'=>?_⟩;rw[Sem.run_bind,h1 w',Result.andThen_ok];exact h2 w'
theorem St.program{k:Program→Sem α}(h:St P (k P)):St P (Sem.program k):=by
 intro w b w1 e;simp only[Sem.run]at e;exact⟨(h _ _ _ e).1,fun w'=>by simp only[Sem.run];exact (h _ _ _ e).2 w'⟩
theorem St.prog:St P Go.program:=St.program (St.pure _)
theorem St.ite{c:Prop}[Decidable c]{s t:Sem α}(h1:St P s)(h2:St P t):St P (if c then s else t):=by split<;>assumption
def Nv(P:Program){α:Type}(s:Sem α):Prop:=∀w a w1,s.run P w≠.ok a w1
theorem Nv.st{s:Sem α}(h:Nv P s):St P s:=fun w a w1 e=>absurd e (h w a w1)
theorem Nv.halt(h:Halt):Nv P (Sem.halt h:Sem α):=by intro w a w1 e;simp[Sem.run]at e
theorem Nv.bind{s:Sem α}{f:α→Sem β}(hf:∀a,Nv P (f a)):Nv P (s >>= f):=by
 intro w b w1 h;rw[Sem.run_bind]at h;cases hr:s.run P w with
 | halt x w2=>rw[hr]at h;simp at h
 | ok a w2=>rw[hr]at h;exact hf a _ _ _ h
theorem Nv.runtimePanic(e:RuntimeError):Nv P (Go.runtimePanic e:Sem α):=by
 unfold Go.runtimePanic;refine Nv.bind fun p=>?_
 cases e<;>first
  | exact Nv.halt _
  | (refine Nv.bind fun _=>?_;first|exact Nv.halt _|exact Nv.bind fun _=>Nv.halt _)
theorem Nv.boundsPanic(k:IntKind)(x y:Int)(c:BoundsCode):Nv P (Go.boundsPanic k x y c:Sem α):=by
 unfold Go.boundsPanic;dsimp only;split<;>exact Nv.bind fun _=>Nv.runtimePanic _
theorem st_underlying(t:TypeId):St P (underlying t):=by
 unfold underlying;refine St.bind St.prog fun p=>?_
 split<;>first|exact St.pure' _|exact St.halt _
theorem st_typeInfo(t:TypeId):St P (typeInfo t):=by
 unfold typeInfo;refine St.bind St.prog fun p=>?_
 split<;>first|exact St.pure' _|exact St.halt _
theorem st_sizeOf(t:TypeId):St P (Go.sizeOf t):=St.bind (st_typeInfo t) fun _=>St.pure' _
theorem st_zeroValue(t:TypeId):St P (zeroValue t):=by
 unfold zeroValue;refine St.bind (st_typeInfo t) fun i=>?_
 split<;>first|exact St.pure' _|exact St.halt _
theorem st_isAgg(t:TypeId):St P (isAgg t):=by
 unfold isAgg;refine St.bind (st_underlying t) fun i=>?_
 split<;>exact St.pure' _
theorem st_part(t:TypeId)(cs:Array Value)(off:Nat):St P (part t cs off):=by
 unfold part;refine St.bind (st_isAgg t) fun b=>?_
 split
 .exact St.bind (st_sizeOf t) fun _=>St.pure' _
 split<;>first|exact St.pure' _|exact St.halt _
theorem st_asIntOf(v:Value):St P (asIntOf v):=by unfold asIntOf;split<;>first|exact St.pure' _|exact St.halt _
theorem st_asInt(v:Value):St P (asInt v):=St.bind (st_asIntOf v) fun _=>St.pure' _
theorem st_asBool(v:Value):St P (asBool v):=by unfold asBool;split<;>first|exact St.pure' _|exact St.halt _
theorem st_asAgg(v:Value):St P (asAgg v):=by unfold asAgg;split<;>first|exact St.pure' _|exact St.halt _
theorem st_sureAddr(v:Value):St P (Instr.sureAddr v):=by unfold Instr.sureAddr;split<;>first|exact St.pure' _|exact St.halt _
theorem st_asAddr(v:Value):St P (asAddr v):=by unfold asAddr;split<;>first|exact St.pure' _|exact St.halt _|exact (Nv.runtimePanic _).st
theorem st_sliceBound(x:Value)(y:Nat)(c:BoundsCode):St P (Instr.sliceBound x y c):=by
 unfold Instr.sliceBound;refine St.bind (st_asIntOf x) fun p=>?_
 obtain⟨k,i⟩:=p;exact St.ite (St.pure' _) (Nv.boundsPanic _ _ _ _).st
theorem st_sliceBounds(b:Bool)(len cap:Nat)(lo hi mx:Option Value):St P (Instr.sliceBounds b len cap lo hi mx):=by
 unfold Instr.sliceBounds
 (repeat' (first|exact St.pure' _|exact St.halt _|exact (Nv.runtimePanic _).st|exact (Nv.boundsPanic _ _ _ _).st|exact st_underlying _|exact st_sizeOf _|exact st_asIntOf _|exact st_sureAddr _|exact st_asAddr _|exact st_part _ _ _|exact st_asAgg _|exact st_sliceBound _ _ _|(refine St.bind ?_ fun _=>?_)|split|dsimp only))
theorem st_slice(t:TypeId)(x:Value)(lo hi mx:Option Value):St P (Instr.slice t x lo hi mx):=by
 unfold Instr.slice
 (repeat' (first|exact St.pure' _|exact St.halt _|exact (Nv.runtimePanic _).st|exact (Nv.boundsPanic _ _ _ _).st|exact st_underlying _|exact st_sizeOf _|exact st_asIntOf _|exact st_sureAddr _|exact st_asAddr _|exact st_part _ _ _|exact st_asAgg _|exact st_sliceBound _ _ _|exact st_sliceBounds _ _ _ _ _ _|(refine St.bind ?_ fun _=>?_)|split|dsimp only))
theorem st_sliceAt(t:TypeId)(x:Value)(lo hi mx:Option Value):St P (Instr.sliceAt t x lo hi mx):=by
 unfold Instr.sliceAt;refine St.bind (st_underlying t) fun d=>?_
 split
 .refine St.bind (st_sureAddr _) fun a=>?_
  exact St.bind (st_sliceBounds _ _ _ _ _ _) fun _=>St.bind (st_sizeOf _) fun _=>St.pure' _
 exact st_slice _ _ _ _ _
theorem st_indexAt(t:TypeId)(x i:Value):St P (Instr.indexAt t x i):=by
 unfold Instr.indexAt
 (repeat' (first|exact St.pure' _|exact St.halt _|exact (Nv.runtimePanic _).st|exact (Nv.boundsPanic _ _ _ _).st|exact st_underlying _|exact st_sizeOf _|exact st_asIntOf _|exact st_sureAddr _|exact st_asAddr _|exact st_part _ _ _|exact st_asAgg _|exact st_sliceBound _ _ _|exact st_sliceBounds _ _ _ _ _ _|(refine St.bind ?_ fun _=>?_)|split|dsimp only))
theorem st_index(t:TypeId)(x i:Value):St P (Instr.index t x i):=by
 unfold Instr.index;refine St.bind (st_asIntOf _) fun p=>?_
 obtain⟨k,i⟩:=p;refine St.bind (st_underlying t) fun d=>?_
 split
 .exact St.ite (St.bind (st_sizeOf _) fun _=>st_part _ _ _) (Nv.boundsPanic _ _ _ _).st
 .split
  .exact St.pure' _
  exact (Nv.boundsPanic _ _ _ _).st
 exact St.halt _
theorem st_field(t:TypeId)(x:Value)(f:Nat):St P (Instr.field t x f):=by
 unfold Instr.field;refine St.bind (st_underlying t) fun d=>?_
 split
 .split
  .exact St.bind (st_asAgg _) fun _=>st_part _ _ _
  exact St.halt _
 exact St.halt _
theorem st_extract(x:Value)(f:Nat):St P (Instr.extract x f):=by
 unfold Instr.extract;split
 .split<;>first|exact St.pure' _|exact St.halt _
 exact St.halt _
theorem st_mapM{γ δ:Type}(f:γ→Sem δ)(hf:∀x,St P (f x)):∀(l:List γ),St P (l.mapM f)
 | []=>by simp only[List.mapM_nil];exact St.pure' _
 | x::r=>by
  rw[List.mapM_cons];exact St.bind (hf x) fun _=>St.bind (st_mapM f hf r) fun _=>St.pure' _
theorem st_arrMapM{γ δ:Type}(f:γ→Sem δ)(hf:∀x,St P (f x))(a:Array γ):St P (a.mapM f):=by
 rw[Array.mapM_eq_mapM_toList];exact St.bind (st_mapM f hf _) fun _=>St.pure' _
theorem st_build(t:TypeId)(ps:Array (Nat×Value)):St P (Instr.build t ps):=by
 unfold Instr.build;refine St.bind (st_zeroValue t) fun z=>?_
 refine St.bind (st_underlying t) fun d=>?_
 split
 .refine St.bind (st_arrMapM _ (fun f=>St.bind (st_sizeOf _) fun _=>St.pure' _) _) fun pl=>?_
  split<;>first|exact St.pure' _|exact St.halt _
 .refine St.bind (st_sizeOf _) fun _=>?_
  split<;>first|exact St.pure' _|exact St.halt _
 exact St.halt _
theorem st_makeInterface(t:TypeId)(x:Value):St P (Instr.makeInterface t x):=by
 unfold Instr.makeInterface;refine St.bind (st_underlying t) fun d=>?_
 split<;>first|exact St.pure' _|exact St.halt _
end
/-! ### The operations' classes -/
section
variable{P:Program}
def Pur(P:Program)(s:Sem Next):Prop:=∀w n w1,s.run P w=.ok n w1→w1=w∧(∃v,n=.value v)∧∀w',s.run P w'=.ok n w'
def Rd(P:Program)(s:Sem Next):Prop:=∀w n w1,s.run P w=.ok n w1→w1=w∧(∃v,n=.value v)∧∀o,s.run P (w.alloc o)=.ok n (w.alloc o)
def Alc(P:Program)(s:Sem Next):Prop:=∀w n w1,s.run P w=.ok n w1→(∃v,n=.value v)∧∃o,w1=w.alloc o
theorem pur_v{s:Sem Value}(hs:St P s):Pur P (do pure (Next.value (←s))):=by
 intro w n w1 h;obtain⟨h1,h2⟩:=(St.bind hs fun v=>St.pure' (Next.value v)) w n w1 h;refine⟨h1,?_,h2⟩;rw[Sem.run_bind]at h;cases hr:s.run P w with
 | halt x w2=>rw[hr]at h;simp at h
 | ok a w2=>rw[hr]at h;simp[Sem.run_pure]at h;exact⟨a,h.1.symm⟩
theorem pur_f{α:Type}{s:Sem α}(f:α→Value)(hs:St P s):Pur P (s >>= fun x=>pure (Next.value (f x))):=by
 intro w n w1 h;obtain⟨h1,h2⟩:=(St.bind hs fun v=>St.pure' (Next.value (f v))) w n w1 h;refine⟨h1,?_,h2⟩;rw[Sem.run_bind]at h;cases hr:s.run P w with
 | halt x w2=>rw[hr]at h;simp at h
 | ok a w2=>rw[hr]at h;simp[Sem.run_pure]at h;exact⟨f a,h.1.symm⟩
theorem pur_value(v:Value):Pur P (pure (Next.value v)):=by
 intro w n w1 h;obtain⟨h1,h2⟩:=St.pure' (P:=P) (Next.value v) w n w1 h;simp[Sem.run_pure]at h;exact⟨h1,⟨v,h.1.symm⟩,h2⟩
theorem pur_never{s:Sem Next}(hs:Nv P s):Pur P s:=fun w n w1 h=>absurd h (hs w n w1)
def noBox:Value→Bool
 | .map _|.chan _=>false
 | _=>true
def isInt:Value→Bool
 | .int _ _=>true
 | _=>false
def plain2:Value→Value→Bool
 | .int _ _,.int _ _|.string _,.string _|.bool _,.bool _|.pointer none,.pointer _|.pointer _,.pointer none
 | .slice none _ _,.slice _ _ _|.slice _ _ _,.slice none _ _|.map none,.map _|.map _,.map none
 | .nilIface,.iface _ _|.iface _ _,.nilIface=>true
 | _,_=>false
def dynOp(o:Oper)(a:Act):Bool:=
 match o.op with
 | .binOp _ _ x y _=>plain2 (a.eval x) (a.eval y)
 | .convert _ _ x=>isInt (a.eval x)
 | .nilCheck x=>match a.eval x with|.func _ _ _=>false|_=>true
 | .call { callee:=.builtin .len,args:=xs,.. }|.call { callee:=.builtin .cap,args:=xs,.. }=>match xs[0]? with|some x=>noBox (a.eval x)|none=>false
 | .call { callee:=.builtin .min,args:=xs,.. }|.call { callee:=.builtin .max,args:=xs,.. }=>xs.toList.all fun x=>isInt (a.eval x)
 | _=>true
def isDyn(o:Oper):Bool:=
 match o.op with
 | .binOp ..|.convert ..|.nilCheck _|.call _=>true
 | _=>false
def fieldSized(P:Program)(s:TypeId)(f:Nat):Bool:=
 match P.underlying s with
 | some (.struct fs)=>match fs[f]? with|some fd=>(match P.info? fd.type with|some i=>i.size != 0|none=>false)|none=>false
 | _=>false
def convPlain(P:Program)(s d:TypeId):Bool:=
 match P.underlying s,P.underlying d with
 | some (.int _),some (.int _)=>true
 | some (.int _),some .string=>true
 | _,_=>false
def pureOp(P:Program)(o:Oper):Bool:=
 match o.op with
 | .move _|.assign _|.pick ..|.build ..|.field ..|.nilCheck _|.slice ..|.indexAddr ..|.index ..|.binOp ..|.unOp ..|.makeInterface ..|.makeFunc ..|.extract ..=>true
 | .fieldAddr s _ f=>fieldSized P s f
 | .convert s d _=>convPlain P s d
 | .call { callee:=.builtin .len,.. }|.call { callee:=.builtin .cap,.. }|.call { callee:=.builtin .min,.. }|.call { callee:=.builtin .max,.. }=>true
 | _=>false
def readOp(o:Oper):Bool:=match o.op with|.load ..=>true|_=>false
def allocOp(o:Oper):Bool:=match o.op with|.alloc _|.box ..|.buildSlice ..|.makeMap ..=>true|_=>false
theorem st_unary(op:UnOp)(x:Value):St P (Op.unary op x):=by
 unfold Op.unary Op.intArith Op.intBits
 (repeat' split)<;>first|exact St.pure' _|exact St.halt _
theorem st_shift(op:BinOp)(k:IntKind)(x:Int)(k':IntKind)(y:Int):St P (Op.shift op k x k' y):=by
 unfold Op.shift
 (repeat' (first|split|dsimp only))<;>first|exact St.pure' _|exact St.halt _|exact (Nv.runtimePanic _).st
theorem st_intArith(op:BinOp)(k:IntKind)(x y:Int):St P (Op.intArith op k x y):=by
 unfold Op.intArith;split<;>first|exact St.pure' _|exact St.halt _
theorem st_intDiv(op:BinOp)(k:IntKind)(x y:Int):St P (Op.intDiv op k x y):=by
 unfold Op.intDiv
 (repeat' split)<;>first|exact St.pure' _|exact St.halt _|exact (Nv.runtimePanic _).st
theorem st_intBits(op:BinOp)(k:IntKind)(x y:Int):St P (Op.intBits op k x y):=by
 unfold Op.intBits
 (repeat' (first|split|dsimp only))<;>first|exact St.pure' _|exact St.halt _
theorem st_intCmp(op:BinOp)(x y:Int):St P (Op.intCmp op x y):=by
 unfold Op.intCmp;split<;>first|exact St.pure' _|exact St.halt _
theorem st_stringOp(op:BinOp)(x y:ByteArray):St P (Op.stringOp op x y):=by
 unfold Op.stringOp
 (repeat' (first|split|dsimp only))<;>first|exact St.pure' _|exact St.halt _
theorem st_binInt(op:BinOp)(t:TypeId)(k k':IntKind)(a b:Int):St P (binOp op t (.int k a) (.int k' b)):=by
 cases op<;>simp only[binOp]<;>first
  | exact st_shift _ _ _ _ _
  | (split<;>first|exact St.halt _|exact st_intArith _ _ _ _|exact st_intDiv _ _ _ _|exact st_intBits _ _ _ _|exact st_intCmp _ _ _)
theorem st_binString(op:BinOp)(t:TypeId)(a b:ByteArray):St P (binOp op t (.string a) (.string b)):=by
 cases op<;>simp only[binOp]<;>exact st_stringOp _ _ _
theorem st_samePointer{a b:Option Addr}(h:a=none∨b=none):St P (samePointer a b):=by
 rcases h with rfl|rfl
 .exact St.pure' _
 cases a<;>exact St.pure' _
theorem st_equalIn_plain(d:Nat)(t:TypeId)(x y:Value)(h:plain2 x y=true):St P (Op.equalIn d t x y):=by
 cases d with
 | zero=>exact St.halt _
 | succ d=>
  unfold Op.equalIn;refine St.bind (st_underlying t) fun u=>?_
  unfold plain2 at h;split at h<;>first
   | (cases h;done)
   | (split<;>first|exact St.pure' _|exact St.halt _|(split<;>first|exact St.pure' _|exact St.halt _)|exact st_samePointer (by simp_all)|simp_all)
theorem st_equal(t:TypeId)(x y:Value)(h:plain2 x y=true):St P (Op.equal t x y):=st_equalIn_plain _ t x y h
theorem st_binPlain(op:BinOp)(t:TypeId)(x y:Value)(h:plain2 x y=true):St P (binOp op t x y):=by
 have he:=st_equal (P:=P) t x y h;unfold plain2 at h;split at h;case h_1=>exact st_binInt _ _ _ _ _ _
 case h_2=>exact st_binString _ _ _ _
 all_goals first
  | (cases h;done)
  | (cases op<;>simp only[binOp]<;>first|exact St.bind he fun _=>St.pure' _|exact St.halt _)
theorem st_eqGuard(op:BinOp)(t:TypeId)(x y:Operand)(a b:Value)(h:plain2 a b=true):St P (eqGuard op t x y a b):=by
 unfold eqGuard;refine St.ite (St.pure' _) ?_;unfold plain2 at h;split at h<;>first|(cases h;done)|exact St.pure' _
theorem st_len(ts:Array TypeId)(t:TypeId)(xs:Array Value)(h:(xs[0]?).all noBox=true):St P (Builtin.len_ ts t xs):=by
 unfold Builtin.len_;split
 .rename_i u x hu;refine St.bind (st_underlying _) fun d=>?_
  split<;>first
   | exact St.pure' _
   | exact St.halt _
   | (simp_all[noBox];done)
   | (refine St.bind (st_underlying _) fun d=>?_;split<;>first|exact St.pure' _|exact St.halt _)
 exact St.halt _
theorem st_cap(ts:Array TypeId)(t:TypeId)(xs:Array Value)(h:(xs[0]?).all noBox=true):St P (Builtin.cap_ ts t xs):=by
 unfold Builtin.cap_;split
 .rename_i u x hu;refine St.bind (st_underlying _) fun d=>?_
  split<;>first
   | exact St.pure' _
   | exact St.halt _
   | (simp_all[noBox];done)
   | (refine St.bind (st_underlying _) fun d=>?_;split<;>first|exact St.pure' _|exact St.halt _)
 exact St.halt _
theorem st_foldM(f:Value→Value→Sem Value)(hf:∀x y,isInt x=true→isInt y=true→St P (f x y)∧∀w v w1,(f x y).run P w=.ok v w1→isInt v=true):
  ∀(l:List Value) (x:Value),isInt x=true→l.all isInt=true→St P (l.foldlM f x)
 | [],x,_,_=>by rw[List.foldlM_nil];exact St.pure' _
 | y::r,x,hx,hl=>by
  rw[List.foldlM_cons];simp only[List.all_cons,Bool.and_eq_true]at hl;intro w b w1 h;obtain⟨h1,h2⟩:=hf x y hx hl.1;rw[Sem.run_bind]at h;cases hr:(f x y).run P w with
  | halt z w2=>rw[hr]at h;simp at h
  | ok a w2=>
   rw[hr,Result.andThen_ok]at h;obtain⟨rfl,h3⟩:=h1 _ _ _ hr;obtain⟨rfl,h4⟩:=st_foldM f hf r a (h2 _ _ _ hr) hl.2 _ _ _ h;refine⟨rfl,fun w'=>?_⟩;rw[Sem.run_bind,h3 w',Result.andThen_ok];exact h4 w'
theorem st_min(ts:Array TypeId)(t:TypeId)(xs:Array Value)(h:xs.toList.all isInt=true):St P (Builtin.min_ ts t xs):=by
 unfold Builtin.min_;split
 .exact St.halt _
 rename_i x r hx
 rw[hx]at h;simp only[List.all_cons,Bool.and_eq_true]at h;refine st_foldM _ (fun x y hx hy=>?_) r x h.1 h.2;cases x<;>simp[isInt]at hx
 cases y<;>simp[isInt]at hy
 refine⟨St.pure' _,fun w v w1 e=>?_⟩;simp[Builtin.min2,Sem.run_pure]at e;rw[←e.1];rfl
theorem st_max(ts:Array TypeId)(t:TypeId)(xs:Array Value)(h:xs.toList.all isInt=true):St P (Builtin.max_ ts t xs):=by
 unfold Builtin.max_;split
 .exact St.halt _
 rename_i x r hx
 rw[hx]at h;simp only[List.all_cons,Bool.and_eq_true]at h;refine st_foldM _ (fun x y hx hy=>?_) r x h.1 h.2;cases x<;>simp[isInt]at hx
 cases y<;>simp[isInt]at hy
 refine⟨St.pure' _,fun w v w1 e=>?_⟩;simp[Builtin.max2,Sem.run_pure]at e;rw[←e.1];rfl
theorem St.congr{α:Type}{s t:Sem α}(h:∀w,s.run P w=t.run P w)(ht:St P t):St P s:=by
 intro w a w1 e;rw[h]at e;exact⟨(ht _ _ _ e).1,fun w'=>by rw[h];exact (ht _ _ _ e).2 w'⟩
theorem run_underlying'{t:TypeId}{d:TypeDesc}(h:P.underlying t=some d)(w:World):(underlying t).run P w=.ok d w:=by
 simp[underlying,Go.program,Sem.run,Sem.run_bind,h]
theorem st_convert(s d:TypeId)(x:Value)(h:isInt x=true)(hc:convPlain P s d=true):St P (convert s d x):=by
 cases x<;>simp[isInt]at h
 rename_i k n
 unfold convPlain at hc;split at hc
 .rename_i k1 k2 h1 h2;refine St.congr (t:=Conv.intToInt k2 n) (fun w=>?_) (St.pure' _);unfold convert;rw[Sem.run_bind,run_underlying' h1,Result.andThen_ok,Sem.run_bind,run_underlying' h2,Result.andThen_ok]
 .rename_i k1 h1 h2;refine St.congr (t:=Conv.intToString n) (fun w=>?_) (St.pure' _);unfold convert;rw[Sem.run_bind,run_underlying' h1,Result.andThen_ok,Sem.run_bind,run_underlying' h2,Result.andThen_ok]
 cases hc
theorem st_fieldAt(s:TypeId)(x:Value)(f:Nat)(h:fieldSized P s f=true):St P (Instr.fieldAt s x f):=by
 unfold fieldSized at h;cases hu:P.underlying s with
 | none=>rw[hu]at h;simp at h
 | some d=>
  rw[hu]at h;cases d<;>simp at h
  rename_i fs
  cases hf:fs[f]? with
  | none=>rw[hf]at h;simp at h
  | some fd=>
   rw[hf]at h;simp only at h;cases hi:P.info? fd.type with
   | none=>rw[hi]at h;simp at h
   | some i=>
    rw[hi]at h;simp only[bne_iff_ne,ne_eq]at h;have hs:∀w,(Go.sizeOf fd.type).run P w=.ok i.size w:=fun w=>by simp[Go.sizeOf,typeInfo,hi,Go.program,Sem.run,Sem.run_bind]
    refine St.congr (t:=do let a ←Instr.sureAddr x;pure (Value.pointer (some (←fieldPlace a fd)))) (fun w=>?_) ?_
    .unfold Instr.fieldAt;rw[Sem.run_bind,run_underlying' hu,Result.andThen_ok];simp only[hf]
    refine St.bind (st_sureAddr x) fun a=>St.bind ?_ fun _=>St.pure' _
    refine St.congr (t:=pure (a.add fd.offset)) (fun w=>?_) (St.pure' _);unfold fieldPlace;rw[Sem.run_bind,hs,Result.andThen_ok,if_neg h]
theorem pur_of(o:Oper)(a:Act)(hp:pureOp P o=true)(hd:dynOp o a=true):Pur P (execOp a.eval o):=by
 obtain⟨dst,op,ty,pos,after,guard⟩:=o;unfold pureOp at hp;unfold dynOp at hd;unfold execOp;cases op<;>simp only at hp hd ⊢ <;> first
  | (cases hp;done)
  | exact pur_value _
  | exact pur_f _ (st_asBool _)
  | exact pur_v (st_build _ _)
  | exact pur_v (st_field _ _ _)
  | exact pur_v (st_fieldAt _ _ _ hp)
  | exact pur_v (st_sliceAt _ _ _ _ _)
  | exact pur_v (st_indexAt _ _ _)
  | exact pur_v (st_index _ _ _)
  | exact pur_v (st_unary _ _)
  | exact pur_v (st_convert _ _ _ hd hp)
  | exact pur_v (st_makeInterface _ _)
  | exact pur_v (St.pure' _)
  | exact pur_v (st_extract _ _)
  | exact pur_v (St.bind (st_eqGuard _ _ _ _ _ _ hd) fun _=>st_binPlain _ _ _ _ hd)
  | skip
 case nilCheck x=>
  generalize a.eval x=v at hd⊢
  cases v with
  | pointer p=>cases p<;>first|exact pur_never (Nv.runtimePanic _)|exact pur_value _
  | func f g h=>simp at hd
  | _=>first|exact pur_never (Nv.runtimePanic _)|exact pur_value _
 case call c=>
  obtain⟨callee,xs,ts⟩:=c;cases callee with
  | value f=>simp at hp
  | invoke r m=>simp at hp
  | builtin b=>
   show Pur P (builtin b ts ty _ _);cases b<;>simp only at hp hd<;>first
    | (cases hp;done)
    | (refine pur_v (st_len _ _ _ ?_);simp only[Array.getElem?_map];cases hx:xs[0]?<;>simp_all)
    | (refine pur_v (st_cap _ _ _ ?_);simp only[Array.getElem?_map];cases hx:xs[0]?<;>simp_all)
    | (refine pur_v (st_min _ _ _ ?_);simpa [List.all_map,Function.comp_def]using hd)
    | (refine pur_v (st_max _ _ _ ?_);simpa [List.all_map,Function.comp_def]using hd)
end
end Go.Ser
end
section
set_option linter.unusedSimpArgs false
set_option linter.unusedVariables false
namespace Go.Ser
section
variable{P:Program}
/-! ### A load -/
theorem seen_alloc(w:World)(o:Obj)(at_:Addr)(u:TypeId)(k:Addr)(at1:Bool){r:_}(h:w.seen P at_ u k at1=.ok r):(w.alloc o).seen P at_ u k at1=.ok r:=by
 unfold World.seen at h⊢;have hb:∀(b:Nat) (ob:Obj),w.heap[b]?=some ob→(w.alloc o).heap[b]?=some ob:=fun b ob hb=>by
  show (w.heap.push o)[b]?=_;rw[Array.getElem?_push,if_neg (by have:=(Array.getElem?_eq_some_iff.1 hb).1;omega)];exact hb
 cases hx:w.heap[at_.block]? with
 | none=>simp only[hx]at h;exfalso;revert h;simp only[bind,Except.bind,pure,Except.pure,throw,throwThe,MonadExceptOf.throw];(repeat' split)<;>simp
 | some ob=>rw[hb _ _ hx];rw[hx]at h;exact h
def RdS(P:Program){α:Type}(s:Sem α):Prop:=∀w a w1,s.run P w=.ok a w1→w1=w∧∀o,s.run P (w.alloc o)=.ok a (w.alloc o)
theorem St.rd{α:Type}{s:Sem α}(h:St P s):RdS P s:=fun w a w1 e=>⟨(h _ _ _ e).1,fun o=>(h _ _ _ e).2 _⟩
theorem RdS.bind{α β:Type}{s:Sem α}{f:α→Sem β}(hs:RdS P s)(hf:∀a,RdS P (f a)):RdS P (s >>= f):=by
 intro w b w1 h;rw[Sem.run_bind]at h;cases hr:s.run P w with
 | halt x w2=>rw[hr]at h;simp at h
 | ok a w2=>
  rw[hr]at h;simp only[Result.andThen_ok]at h;obtain⟨rfl,h1⟩:=hs _ _ _ hr;obtain⟨rfl,h2⟩:=hf a _ _ _ h;refine⟨rfl,fun o=>?_⟩;rw[Sem.run_bind,h1 o,Result.andThen_ok];exact h2 o
theorem rd_load(p:Addr)(m:Mode):RdS P (load p m):=by
 intro w v w1 h;simp only[load,Sem.run]at h⊢;have hb:∀(b:Nat) (ob:Obj),w.heap[b]?=some ob→∀o,(w.alloc o).heap[b]?=some ob:=fun b ob hb o=>by
  show (w.heap.push o)[b]?=_;rw[Array.getElem?_push,if_neg (by have:=(Array.getElem?_eq_some_iff.1 hb).1;omega)];exact hb
 cases hx:w.heap[p.block]? with
 | none=>
  simp only[World.cell?,hx,World.farLoad,World.noCell]at h;simp at h
 | some ob=>
  have hc:∀o,(w.alloc o).cell? p=w.cell? p:=fun o=>by simp only[World.cell?,hb _ _ hx o,hx]
  cases hcell:w.cell? p with
  | some v'=>
   rw[hcell]at h;simp only[Sem.run,Result.ok.injEq]at h;obtain⟨rfl,rfl⟩:=h;exact⟨rfl,fun o=>by rw[hc,hcell]⟩
  | none=>
   rw[hcell]at h;simp only at h;cases hf:w.farLoad P p (m == .atomic) with
   | error e=>rw[hf]at h;simp at h
   | ok q=>
    rw[hf]at h;obtain⟨v',t⟩:=q;simp only[Sem.run,Result.ok.injEq]at h;obtain⟨rfl,rfl⟩:=h;refine⟨rfl,fun o=>?_⟩;rw[hc,hcell];have:(w.alloc o).farLoad P p (m == .atomic)=.ok (v',t):=by
     unfold World.farLoad at hf⊢;rw[hb _ _ hx o];rw[hx]at hf;cases ob with
     | view at_ u=>
      simp only at hf⊢;unfold World.viewLoad at hf⊢;cases hs:w.seen P at_ u p (m == .atomic) with
      | error e=>rw[hs]at hf;simp[bind,Except.bind]at hf
      | ok r=>rw[seen_alloc w o _ _ _ _ hs];rw[hs]at hf;exact hf
     | _=>simp at hf
    rw[this]
theorem rd_loadCellsFrom(p:Addr):∀(n i:Nat) (acc:Array Value),RdS P (loadCellsFrom p i n acc)
 | 0,_,_=>(St.pure' _).rd
 | n+1,i,acc=>RdS.bind (rd_load _ _) fun _=>rd_loadCellsFrom p n _ _
theorem rd_loadVar(t:TypeId)(p:Addr):RdS P (loadVar t p):=by
 unfold loadVar;refine RdS.bind (st_isAgg t).rd fun b=>?_
 split
 .exact RdS.bind (st_sizeOf t).rd fun _=>RdS.bind (rd_loadCellsFrom _ _ _ _) fun _=>(St.pure' _).rd
 exact rd_load _ _
theorem rd_of(o:Oper)(a:Act)(hp:readOp o=true):Rd P (execOp a.eval o):=by
 obtain⟨dst,op,ty,pos,after,guard⟩:=o;unfold readOp at hp;cases op<;>simp only at hp<;>first|(cases hp;done)|skip
 rename_i t x
 intro w n w1 h;have key:RdS P (do pure (Next.value (←Instr.loadAt t (a.eval x)))):=RdS.bind (RdS.bind (st_sureAddr _).rd fun _=>rd_loadVar _ _) fun _=>(St.pure' _).rd
 obtain⟨h1,h2⟩:=key w n w1 h;refine⟨h1,?_,h2⟩;change (do pure (Next.value (←Instr.loadAt t (a.eval x)))).run P w=.ok n w1 at h;rw[Sem.run_bind]at h;cases hr:(Instr.loadAt t (a.eval x)).run P w with
 | halt x w2=>rw[hr]at h;simp at h
 | ok v w2=>rw[hr]at h;simp[Sem.run_pure]at h;exact⟨v,h.1.symm⟩
/-! ### An allocation -/
def AlS(P:Program){α:Type}(s:Sem α):Prop:=∀w a w1,s.run P w=.ok a w1→∃o,w1=w.alloc o
theorem AlS.after{α β:Type}{s:Sem α}{f:α→Sem β}(hs:St P s)(hf:∀a,AlS P (f a)):AlS P (s >>= f):=by
 intro w b w1 h;rw[Sem.run_bind]at h;cases hr:s.run P w with
 | halt x w2=>rw[hr]at h;simp at h
 | ok a w2=>rw[hr,Result.andThen_ok]at h;obtain⟨rfl,_⟩:=hs _ _ _ hr;exact hf a _ _ _ h
theorem AlS.ahead{α β:Type}{s:Sem α}{f:α→Sem β}(hs:AlS P s)(hf:∀a,St P (f a)):AlS P (s >>= f):=by
 intro w b w1 h;rw[Sem.run_bind]at h;cases hr:s.run P w with
 | halt x w2=>rw[hr]at h;simp at h
 | ok a w2=>rw[hr,Result.andThen_ok]at h;obtain⟨o,rfl⟩:=hs _ _ _ hr;obtain⟨rfl,_⟩:=hf a _ _ _ h;exact⟨o,rfl⟩
theorem AlS.never{α:Type}{s:Sem α}(h:Nv P s):AlS P s:=fun w a w1 e=>absurd e (h w a w1)
theorem al_newObj(o:Obj):AlS P (newObj o):=by
 intro w a w1 h;simp only[newObj,Sem.run,Result.ok.injEq]at h;exact⟨o,h.2.symm⟩
theorem al_newRow(t:TypeId)(c:Array Value):AlS P (newRow t c):=AlS.ahead (al_newObj _) fun _=>St.pure' _
theorem alc_v{s:Sem Value}(hs:AlS P s):Alc P (do pure (Next.value (←s))):=by
 intro w n w1 h;have h0:=(AlS.ahead hs fun v=>St.pure' (Next.value v)) w n w1 h;refine⟨?_,h0⟩;rw[Sem.run_bind]at h;cases hr:s.run P w with
 | halt x w2=>rw[hr]at h;simp at h
 | ok a w2=>rw[hr]at h;simp[Sem.run_pure]at h;exact⟨a,h.1.symm⟩
theorem al_row(t:TypeId)(c:Array Value)(f:Addr→Value):AlS P (newRow t c >>= fun a=>pure (f a)):=AlS.ahead (al_newRow _ _) fun _=>St.pure' _
theorem al_buildSlice (t : TypeId) (n : Nat) (ps : Array (Nat × Value)) : AlS P (Instr.buildSlice t n ps) := by
  unfold Instr.buildSlice
  refine AlS.after (st_underlying _) fun d => ?_
  split
  · refine AlS.after (st_sizeOf _) fun n => ?_
    dsimp only
    have tail : ∀ (zero : Array Value) (e : TypeId) (m : Nat), AlS P (match Instr.fill (fun i => some (i * n, n)) (Array.map (fun x => zero[x % zero.size]!) (Array.range (m * n))) ps.toList with
          | some cells => do
            let __do_lift ← newRow e cells
            pure (Value.slice (some __do_lift) m m)
          | x => stuck "buildSlice: a part of the wrong size") := fun zero e m => by
      split
      · exact al_row _ _ _
      · exact AlS.never (Nv.halt _)
    have rest : ∀ (e : TypeId) (m : Nat), AlS P (if m * n = 0 then do
        let zero ← pure #[]
        match Instr.fill (fun i => some (i * n, n)) (Array.map (fun x => zero[x % zero.size]!) (Array.range (m * n))) ps.toList with
          | some cells => do
            let __do_lift ← newRow e cells
            pure (Value.slice (some __do_lift) m m)
          | x => stuck "buildSlice: a part of the wrong size"
      else do
        let __do_lift ← zeroValue e
        let zero ← pure __do_lift.cells
        match Instr.fill (fun i => some (i * n, n)) (Array.map (fun x => zero[x % zero.size]!) (Array.range (m * n))) ps.toList with
          | some cells => do
            let __do_lift ← newRow e cells
            pure (Value.slice (some __do_lift) m m)
          | x => stuck "buildSlice: a part of the wrong size") := fun e m => by
      split
      · exact AlS.after (St.pure' _) fun z => tail z e m
      · exact AlS.after (st_zeroValue _) fun z => AlS.after (St.pure' _) fun z => tail z e m
    split
    · exact AlS.after (St.halt _) fun _ => rest _ _
    · exact rest _ _
  · exact AlS.never (Nv.halt _)
theorem al_makeMap(t:TypeId)(r:Option Value):AlS P (Instr.makeMap t r):=by
 unfold Instr.makeMap;have fin:AlS P (newObj (.map #[] 0) >>= fun a=>pure (Value.map (some a))):=AlS.ahead (al_newObj _) fun _=>St.pure' _
 cases r with
 | none=>exact fin
 | some h=>
  refine AlS.after (st_underlying _) fun d=>?_
  split
  .exact AlS.after (st_asInt _) fun _=>fin
  exact AlS.never (Nv.halt _)
theorem alc_of(o:Oper)(a:Act)(hp:allocOp o=true):Alc P (execOp a.eval o):=by
 obtain⟨dst,op,ty,pos,after,guard⟩:=o;unfold allocOp at hp;cases op<;>simp only at hp<;>first|(cases hp;done)|skip
 .exact alc_v (AlS.after (st_zeroValue _) fun _=>AlS.ahead (al_newRow _ _) fun _=>St.pure' _)
 .exact alc_v (AlS.ahead (al_newRow _ _) fun _=>St.pure' _)
 .exact alc_v (al_buildSlice _ _ _)
 exact alc_v (al_makeMap _ _)
end
end Go.Ser
end
section
set_option linter.unusedSimpArgs false
set_option linter.unusedVariables false
namespace Go.Ser
section
variable{P:Program}{ops:Array Oper}{Q:Exit→Act→World→Prop}{i:Nat}{o:Oper}{a:Act}{w:World}{K:Act→World→Prop}
structure Calm(Q:Exit→Act→World→Prop):Prop where
 panic:∀c a w,¬Q (.panic c) a w
 out:∀a w,¬Q .outgrown a w
theorem Calm.lets(h:Calm Q):¬LetsOut Q:=fun ⟨a,w,hq⟩=>h.out a w hq
def Does(P:Program)(ops:Array Oper)(o:Oper)(a:Act)(w:World)(v:Value)(w':World):Prop:=
 (Region.wanted o (yielded ops a.tmps)=true∧(execOp a.eval o).run P w=.ok (.value v) w')∨(Region.wanted o (yielded ops a.tmps)=false∧v=undef∧w'=w)
theorem of_does{v:Value}{w':World}(hi:ops[i]?=some o)(h:Does P ops o a w v w')(hk:K (a.put o.dst v) w'):wpOp P ops Q i K a w:=by
 unfold wpOp;simp only[hi];rcases h with ⟨hw,hr⟩|⟨hw,rfl,rfl⟩
 .rw [if_pos hw];exact .inl (by unfold Oper.wp;rw[hr];exact hk)
 rw[if_neg (by simp[hw])];exact hk
theorem does_of(hc:Calm Q)(hi:ops[i]?=some o)(hv:Region.wanted o (yielded ops a.tmps)=true→∀w n w1,(execOp a.eval o).run P w=.ok n w1→∃v,n=.value v)
  (h:wpOp P ops Q i K a w):∃v w',Does P ops o a w v w'∧K (a.put o.dst v) w':=by
 unfold wpOp at h;simp only[hi]at h;split at h
 .rename_i hw;rcases h with h|⟨_,h⟩
  .unfold Oper.wp at h;cases hr:(execOp a.eval o).run P w with
   | ok n w'=>
    obtain⟨v,rfl⟩:=hv hw _ _ _ hr;rw[hr]at h;exact⟨v,w',.inl ⟨hw,hr⟩,h⟩
   | halt x w'=>
    rw[hr]at h;cases x<;>simp only[Oper.upon]at h
    exact absurd h (hc.panic _ _ _)
  exact absurd h hc.lets
 .rename_i hw;exact⟨undef,w,.inr ⟨by simpa using hw,rfl,rfl⟩,h⟩
def Cl(P:Program)(ops:Array Oper)(c:Nat)(o:Oper)(a:Act):Prop:=
 match c with
 | 0=>pureOp P o=true∧(Region.wanted o (yielded ops a.tmps)=true→dynOp o a=true)
 | 1=>readOp o=true
 | 2=>allocOp o=true
 | _=>True
theorem Cl.value{c:Nat}(hc:c≤2)(h:Cl P ops c o a):Region.wanted o (yielded ops a.tmps)=true→∀w n w1,(execOp a.eval o).run P w=.ok n w1→∃v,n=.value v:=by
 intro hw w n w1 hr;match c,hc,h with
 | 0,_,h=>exact (pur_of o a h.1 (h.2 hw) w n w1 hr).2.1
 | 1,_,h=>exact (rd_of o a h w n w1 hr).2.1
 | 2,_,h=>exact (alc_of o a h w n w1 hr).1
def Out(o:Oper)(a a':Act):Prop:=∃u df,a'=({ a with defers:=df }:Act).put o.dst u
theorem Act.eval_defers(a:Act)(df:List Deferred):({ a with defers:=df }:Act).eval=a.eval:=by funext x;cases x<;>rfl
theorem Out.same{x y:Oper}{a':Act}(h:Out y a a')(hs:∀cs b,x.op≠.select cs b)(hl:∀t,y.dst=some t→t∉x.looksAt ops):
  execOp a'.eval x=execOp a.eval x∧Region.wanted x (yielded ops a'.tmps)=Region.wanted x (yielded ops a.tmps):=by
 obtain⟨u,df,rfl⟩:=h;refine⟨?_,?_⟩
 .rw [execOp_put x hs _ y.dst u hl,Act.eval_defers]
 .rw [wanted_put x _ y.dst u hl]
theorem Out.eval{x y:Oper}{a':Act}(h:Out y a a')(hl:∀t,y.dst=some t→t∉x.looksAt ops):∀e∈x.op.operands,a'.eval e=a.eval e:=by
 obtain⟨u,df,rfl⟩:=h;intro e he;rw[Act.eval_put fun d hd hx=>hl d hd (by subst hx;exact List.mem_append_left _ (List.mem_filterMap.2 ⟨.tmp d,by simpa using he,rfl⟩)),Act.eval_defers]
theorem dynOp_congr {a' : Act} (h : ∀ e ∈ o.op.operands, a'.eval e = a.eval e) : dynOp o a' = dynOp o a := by
  obtain ⟨dst, op, ty, pos, after, guard⟩ := o
  unfold dynOp
  cases op <;> simp only [Op.operands] at h ⊢
  case binOp op t x y u => rw [h x (by simp), h y (by simp)]
  case convert s d x => rw [h x (by simp)]
  case nilCheck x => rw [h x (by simp)]
  case call c =>
    obtain ⟨callee, xs, ts⟩ := c
    cases callee with
    | value f => rfl
    | invoke r m => rfl
    | builtin b =>
      simp only [Call.operands] at h
      cases b <;> simp only <;> first
        | rfl
        | (cases hx : xs[0]? with
           | none => rfl
           | some x => simp only; rw [h x (by simp; exact Array.mem_of_getElem? hx)])
        | (rw [Bool.eq_iff_iff, List.all_eq_true, List.all_eq_true]
           constructor <;> intro g x hx <;> have := g x hx <;> have e := h x (by simpa using hx) <;> simp_all)
theorem Cl.out{c:Nat}{x y:Oper}{a':Act}(h:Out y a a')(hs:∀cs b,x.op≠.select cs b)(hl:∀t,y.dst=some t→t∉x.looksAt ops):Cl P ops c x a'↔Cl P ops c x a:=by
 unfold Cl;split
 .rw [(h.same hs hl).2,dynOp_congr (h.eval hl)]
 all_goals exact Iff.rfl
theorem Does.out{x y:Oper}{a':Act}{v:Value}{w':World}(h:Out y a a')(hs:∀cs b,x.op≠.select cs b)(hl:∀t,y.dst=some t→t∉x.looksAt ops):Does P ops x a' w v w'↔Does P ops x a w v w':=by
 unfold Does;rw[(h.same hs hl).1,(h.same hs hl).2]
theorem Out.put(o:Oper)(a:Act)(u:Value):Out o a (a.put o.dst u):=⟨u,a.defers,rfl⟩
theorem wpOp_out(hc:Calm Q)(hi:ops[i]?=some o)(h:wpOp P ops Q i K a w):wpOp P ops Q i (fun a' w'=>Out o a a'∧K a' w') a w:=by
 unfold wpOp at*;simp only[hi]at*;split
 .rename_i hw;simp only[hw,if_true]at h;rcases h with h|⟨_,hl⟩
  case inr=>exact absurd hl hc.lets
  refine .inl ?_;unfold Oper.wp at*;generalize (execOp a.eval o).run P w=r at*;cases r with
  | ok n w'=>
   cases n<;>simp only[Oper.upon]at h⊢
   case value u=>exact⟨Out.put _ _ _,h⟩
   case skip=>exact⟨Out.put _ _ _,h⟩
   case defer d=>exact⟨⟨undef,d::a.defers,rfl⟩,h⟩
   case enter f args=>
    refine Calls.mono h fun e w'' he=>?_
    cases e with
    | returned u=>exact⟨Out.put _ _ _,he⟩
    | panicked c=>exact he
    | outgrown=>exact he
   case row row args=>exact Rows.mono h fun u w'' he=>⟨Out.put _ _ _,he⟩
  | halt x w'=>cases x<;>simp only[Oper.upon]at h ⊢;exact h
 rename_i hw
 simp only[hw]at h;exact⟨Out.put _ _ _,h⟩
theorem wpOp_ex(hc:Calm Q)(hi:ops[i]?=some o)(h:wpOp P ops Q i K a w):∃a' w',K a' w':=by
 unfold wpOp at h;simp only[hi]at h;split at h
 .rcases h with h|⟨_,hl⟩
  case inr=>exact absurd hl hc.lets
  unfold Oper.wp at h;generalize (execOp a.eval o).run P w=r at*;cases r with
  | ok n w'=>
   cases n<;>simp only[Oper.upon]at h
   case value u=>exact⟨_,_,h⟩
   case skip=>exact⟨_,_,h⟩
   case defer d=>exact⟨_,_,h⟩
   case enter f args=>
    obtain⟨e,w'',fr,hR,_⟩:=h [];cases e with
    | returned u=>exact⟨_,_,hR⟩
    | panicked c=>exact absurd hR (hc.panic _ _ _)
    | outgrown=>exact absurd hR hc.lets
   case row row args=>
    obtain⟨u,w'',hR,_⟩:=h default [];exact⟨_,_,hR⟩
  | halt x w'=>cases x<;>simp only[Oper.upon]at h;exact absurd h (hc.panic _ _ _)
 exact⟨_,_,h⟩
theorem wpOp_put_iff(hc:Calm Q)(hi:ops[i]?=some o)(hs:∀cs b,o.op≠.select cs b){d:Option Tmp}{v:Value}(hl:∀t,d=some t→t∉o.looksAt ops)(hd:∀t,d=some t→o.dst≠some t):
  wpOp P ops Q i K (a.put d v) w↔wpOp P ops Q i (fun a' w'=>K (a'.put d v) w') a w:=by
 unfold wpOp;simp only[hi];rw[wanted_put o a d v hl];have hcm:∀(b:Act) (u:Value),(b.put d v).put o.dst u=(b.put o.dst u).put d v:=fun b u=>Act.put_comm b v u hd
 split
 .unfold Oper.asks Oper.wp;rw[execOp_put o hs a d v hl];have hno:∀(A B:Prop),(A∨(B∧LetsOut Q))↔A:=fun A B=>⟨fun h=>h.resolve_right fun h=>hc.lets h.2,.inl⟩
  rw[hno,hno];generalize (execOp a.eval o).run P w=r;cases r with
  | ok n w'=>
   cases n<;>simp only[Oper.upon]
   case value u=>rw[hcm]
   case skip=>rw[hcm]
   case defer e=>rw[Act.put_defers,hcm]
   case enter f args=>
    constructor<;>intro h<;>refine Calls.mono h fun e w'' he=>?_<;>cases e with
    | returned u=>simp only at he ⊢;first|(rw[hcm]at he;exact he)|(rw[hcm];exact he)
    | panicked c=>exact absurd he (hc.panic _ _ _)
    | outgrown=>exact he
   case row row args=>
    constructor<;>intro h<;>refine Rows.mono h fun u w'' he=>?_
    .rw [←hcm];exact he
    rw[hcm];exact he
  | halt x w'=>
   cases x<;>simp only[Oper.upon]
   exact⟨fun h=>absurd h (hc.panic _ _ _),fun h=>absurd h (hc.panic _ _ _)⟩
 .rw [hcm]
def okPair(cx ci:Nat):Bool:=cx == 0||ci == 0||(cx == 1&&ci == 1)||(cx == 1&&ci == 2)
theorem does_swap{x y:Oper}{cx cy:Nat}(hcx:cx≤2)(hcy:cy≤2)(hok:okPair cx cy=true)(hX:Cl P ops cx x a)(hY:Cl P ops cy y a){v u:Value}{w1 w2:World}
  (h1:Does P ops x a w v w1) (h2:Does P ops y a w1 u w2):∃w1',Does P ops y a w u w1'∧Does P ops x a w1' v w2:=by
 rcases h1 with ⟨hwx,hrx⟩|⟨hwx,rfl,rfl⟩
 case inr=>exact⟨w2,h2,.inr ⟨hwx,rfl,rfl⟩⟩
 rcases h2 with ⟨hwy,hry⟩|⟨hwy,rfl,rfl⟩
 case inr=>exact⟨w,.inr ⟨hwy,rfl,rfl⟩,.inl ⟨hwx,hrx⟩⟩
 by_cases e0:cx=0
 .subst e0;obtain⟨rfl,_,h3⟩:=pur_of x a hX.1 (hX.2 hwx) _ _ _ hrx;exact⟨w2,.inl ⟨hwy,hry⟩,.inl ⟨hwx,h3 _⟩⟩
 by_cases e1:cy=0
 .subst e1;obtain⟨rfl,_,h3⟩:=pur_of y a hY.1 (hY.2 hwy) _ _ _ hry;exact⟨w,.inl ⟨hwy,h3 _⟩,.inl ⟨hwx,hrx⟩⟩
 have e2:cx=1∧(cy=1∨cy=2):=by unfold okPair at hok;simp only[Bool.or_eq_true,Bool.and_eq_true,beq_iff_eq]at hok;omega
 obtain⟨rfl,rfl|rfl⟩:=e2
 .obtain ⟨rfl,_,_⟩:=rd_of x a hX _ _ _ hrx;obtain⟨rfl,_,_⟩:=rd_of y a hY _ _ _ hry;exact⟨_,.inl ⟨hwy,hry⟩,.inl ⟨hwx,hrx⟩⟩
 .obtain ⟨rfl,_,h3⟩:=rd_of x a hX _ _ _ hrx;obtain⟨_,ob,rfl⟩:=alc_of y a hY _ _ _ hry;exact⟨_,.inl ⟨hwy,hry⟩,.inl ⟨hwx,h3 ob⟩⟩
def W(P:Program)(ops:Array Oper)(Q:Exit→Act→World→Prop)(cl:Nat→Nat):List Nat→Act→World→Prop
 | [],a,w=>Q .normal a w
 | i::r,a,w=>(∀o,ops[i]?=some o→Cl P ops (cl i) o a)∧wpOp P ops Q i (W P ops Q cl r) a w
theorem W.congr{cl:Nat→Nat}{r r':List Nat}(h:∀a w,W P ops Q cl r a w→W P ops Q cl r' a w)(hw:W P ops Q cl (i::r) a w):W P ops Q cl (i::r') a w:=
 ⟨hw.1,wpOp_mono h hw.2⟩
theorem W.swap(hc:Calm Q){cl:Nat→Nat}{x y:Nat}{ox oy:Oper}{r:List Nat}(hx:ops[x]?=some ox)(hy:ops[y]?=some oy)(hsx:∀cs b,ox.op≠.select cs b)(hsy:∀cs b,oy.op≠.select cs b)
  (hap:ox.apart ops oy=true) (hok:okPair (cl x) (cl y)=true) (h:W P ops Q cl (x::y::r) a w):W P ops Q cl (y::x::r) a w:=by
 obtain⟨l1,l2,l3⟩:=Oper.apart_spec hap;have l2':∀t,oy.dst=some t→ox.dst≠some t:=fun t h1 h2=>l2 t h2 h1
 obtain⟨hX,h⟩:=h;have hX:=hX ox hx;by_cases hcx:cl x≤2
 .obtain ⟨v,w1,d1,hY,h⟩:=does_of hc hx (hX.value hcx) h;have hY:=(Cl.out (Out.put ox a v) hsy l1).1 (hY oy hy);by_cases hcy:cl y≤2
  .obtain ⟨u,w2,d2,h⟩:=does_of hc hy (Cl.value hcy ((Cl.out (Out.put ox a v) hsy l1).2 hY)) h;have d2:=(Does.out (Out.put ox a v) hsy l1).1 d2;obtain⟨w1',e1,e2⟩:=does_swap hcx hcy hok hX hY d1 d2;refine⟨fun o ho=>?_,of_does hy e1 ⟨fun o ho=>?_,of_does hx ((Does.out (Out.put oy a u) hsx l3).2 e2) ?_⟩⟩
   .rw [hy]at ho;cases ho;exact hY
   .rw [hx]at ho;cases ho;exact (Cl.out (Out.put oy a u) hsx l3).2 hX
   rw[←Act.put_comm a v u l2];exact h
  have h0:cl x=0:=by unfold okPair at hok;simp only[Bool.or_eq_true,Bool.and_eq_true,beq_iff_eq]at hok;omega
  rw[h0]at hX;have e1:=(wpOp_put_iff hc hy hsy l1 l2).1 h;have e2:=wpOp_out hc hy e1;have hw1:w1=w∧∀w',Does P ops ox a w' v w':=by
   rcases d1 with ⟨hw,hr⟩|⟨hw,rfl,rfl⟩
   .obtain ⟨rfl,_,h3⟩:=pur_of ox a hX.1 (hX.2 hw) _ _ _ hr;exact⟨rfl,fun w'=>.inl ⟨hw,h3 w'⟩⟩
   exact⟨rfl,fun w'=>.inr ⟨hw,rfl,rfl⟩⟩
  obtain⟨rfl,hall⟩:=hw1;refine⟨fun o ho=>by rw[hy]at ho;cases ho;exact hY,wpOp_mono (fun a' w' hh=>⟨fun o ho=>?_,of_does hx ((Does.out hh.1 hsx l3).2 (hall w')) hh.2⟩) e2⟩;rw[hx]at ho;cases ho;rw[h0];exact (Cl.out hh.1 hsx l3).2 hX
 .have h0:cl y=0:=by unfold okPair at hok;simp only[Bool.or_eq_true,Bool.and_eq_true,beq_iff_eq]at hok;omega
  have e2:=wpOp_out hc hx h;obtain⟨a1,w1,o1,hY1,h1⟩:=wpOp_ex hc hx e2;have hY:=(Cl.out o1 hsy l1).1 (hY1 oy hy);obtain⟨v,w1',d1,_⟩:=does_of hc hy (Cl.value (by omega) (hY1 oy hy)) h1;have d1:=(Does.out o1 hsy l1).1 d1;rw[h0]at hY;have hall:∀w',Does P ops oy a w' v w':=by
   rcases d1 with ⟨hw,hr⟩|⟨hw,rfl,rfl⟩
   .obtain ⟨_,_,h3⟩:=pur_of oy a hY.1 (hY.2 hw) _ _ _ hr;exact fun w'=>.inl ⟨hw,h3 w'⟩
   exact fun w'=>.inr ⟨hw,rfl,rfl⟩
  refine⟨fun o ho=>by rw[hy]at ho;cases ho;rw[h0];exact hY,of_does hy (hall w) ⟨fun o ho=>?_,?_⟩⟩
  .unfold Cl;split<;>first|omega|trivial
  refine (wpOp_put_iff hc hx hsx l3 l2').2 (wpOp_mono (fun a' w' hh=>?_) e2);obtain⟨o2,hY2,h2⟩:=hh;obtain⟨v',w3,d2,h3⟩:=does_of hc hy (Cl.value (by omega) (hY2 oy hy)) h2;have d2:=(Does.out o2 hsy l1).1 d2;have hv:v'=v∧w3=w':=by
   rcases hall w' with ⟨hw,hr⟩|⟨hw,rfl,_⟩
   .rcases d2 with ⟨_,hr'⟩|⟨hw',_⟩
    .rw [hr]at hr';simp only[Result.ok.injEq,Next.value.injEq]at hr';exact⟨hr'.1.symm,hr'.2.symm⟩
    rw[hw]at hw';cases hw'
   rcases d2 with ⟨hw',_⟩|⟨_,rfl,rfl⟩
   .rw [hw]at hw';cases hw'
   exact⟨rfl,rfl⟩
  obtain⟨rfl,rfl⟩:=hv;exact h3
end
end Go.Ser
end
section
set_option linter.unusedSimpArgs false
set_option linter.unusedVariables false
namespace Go.Ser
section
variable{P:Program}{ops:Array Oper}{Q:Exit→Act→World→Prop}{i:Nat}{o:Oper}{a:Act}{w:World}{K:Act→World→Prop}
/-! ### From the order of the text to every order -/
structure Cert(ops:Array Oper)(M:Nat→Nat)(ok:Nat→Nat→Prop):Prop where
 down:∀i o,ops[i]?=some o→∀e∈o.after,Region.binds .any e=true→e.on<i
 anc:∀i o,ops[i]?=some o→∀x,x<i→(M i).testBit x=true→∃e∈o.after,Region.binds .any e=true∧(e.on=x∨(x<e.on∧(M e.on).testBit x=true))
 pair:∀i,i<ops.size→∀x,x<i→(M i).testBit x=true∨ok x i
theorem W.front{cl:Nat→Nat}{ok:Nat→Nat→Prop}(hswap:∀x i r a w,ok x i→W P ops Q cl (x::i::r) a w→W P ops Q cl (i::x::r) a w){i:Nat}{r:List Nat}:
  ∀(p:List Nat) (a:Act) (w:World),(∀x∈p,ok x i)→W P ops Q cl (p++i::r) a w→W P ops Q cl (i::(p++r)) a w
 | [],_,_,_,h=>h
 | x::p,a,w,hp,h=>by
  refine hswap x i (p++r) a w (hp x (by simp)) ?_;exact W.congr (fun a w h=>W.front hswap p a w (fun y hy=>hp y (by simp[hy])) h) h
theorem any_core{cl:Nat→Nat}{M:Nat→Nat}{ok:Nat→Nat→Prop}(C:Cert ops M ok)
  (hswap:∀x i r a w,ok x i→W P ops Q cl (x::i::r) a w→W P ops Q cl (i::x::r) a w):
  ∀(n:Nat) (l:List Nat) (listed:Array Bool) (a:Act) (w:World),l.length=n→listed.size=ops.size→
   (∀j,j∈l↔listed[j]?=some false)→l.Pairwise (· < ·)→
   (∀k x:Nat,listed[k]?=some true→x<k→(M k).testBit x=true→listed[x]?=some true)→
   W P ops Q cl l a w→wpAny P .any ops Q n listed a w:=by
 intro n;induction n with
 | zero=>
  intro l listed a w hl hsz hmem _ _ hW;have:l=[]:=List.eq_nil_of_length_eq_zero hl;subst this;refine⟨?_,hW⟩;rw[List.eq_nil_iff_forall_not_mem];intro j hj;obtain⟨h0,o,ho,_⟩:=mem_ready.1 hj;have hlt:j<listed.size:=by rw[hsz];exact (Array.getElem?_eq_some_iff.1 ho).1
  have:=(hmem j).2 (by rw[Array.getD_eq_getD_getElem?,Array.getElem?_eq_getElem hlt]at h0;rw[Array.getElem?_eq_getElem hlt];simpa using h0);simp at this
 | succ n ih=>
  intro l listed a w hl hsz hmem hsort hclosed hW;have lst:∀j,j<ops.size→(listed[j]?=some true∨listed[j]?=some false):=fun j hj=>by
   have hj':j<listed.size:=by rw[hsz];exact hj
   rw[Array.getElem?_eq_getElem hj'];cases listed[j]<;>simp
  refine⟨fun hr=>?_,fun i hi=>?_⟩
  .exfalso;match l,hl,hmem,hsort with
   | h::t,_,hmem,hsort=>
    have hh:=(hmem h).1 (by simp);have hlt:h<ops.size:=by rw[←hsz];exact (Array.getElem?_eq_some_iff.1 hh).1
    have:h∈Region.ready .any ops listed:=by
     rw[mem_ready];refine⟨by rw[Array.getD_eq_getD_getElem?,hh];rfl,ops[h],Array.getElem?_eq_getElem hlt,fun e he hb=>?_⟩;have hd:=C.down h _ (Array.getElem?_eq_getElem hlt) e he hb;rcases lst e.on (by omega) with h1|h1
     .rw [Array.getD_eq_getD_getElem?,h1];rfl
     have:=(hmem e.on).2 h1;rcases List.mem_cons.1 this with h2|h2
     .omega
     have:=(List.pairwise_cons.1 hsort).1 _ h2;omega
    rw[hr]at this;cases this
  obtain⟨h0,o,ho,hdeps⟩:=mem_ready.1 hi;have hlt:i<ops.size:=(Array.getElem?_eq_some_iff.1 ho).1;have hun:listed[i]?=some false:=by
   rcases lst i hlt with h1|h1
   .rw [Array.getD_eq_getD_getElem?,h1]at h0;simp at h0
   exact h1
  have hdep:∀e∈o.after,Region.binds .any e=true→listed[e.on]?=some true:=fun e he hb=>by
   have h1:=hdeps e he hb;have hd:=C.down i o ho e he hb;rcases lst e.on (by omega) with h2|h2
   .exact h2
   rw[Array.getD_eq_getD_getElem?,h2]at h1;simp at h1
  have hanc:∀x,x<i→(M i).testBit x=true→listed[x]?=some true:=fun x hx hb=>by
   obtain⟨e,he,hbe,h1|⟨h1,h2⟩⟩:=C.anc i o ho x hx hb
   .rw [←h1];exact hdep e he hbe
   exact hclosed e.on x (hdep e he hbe) h1 h2
  obtain⟨p,r,hpr⟩:=List.append_of_mem ((hmem i).2 hun);subst hpr;have hsplit:=List.pairwise_append.1 hsort;have hp:∀x∈p,ok x i:=fun x hx=>by
   have hxi:=hsplit.2.2 x hx i (by simp);rcases C.pair i hlt x hxi with h1|h1
   .have h2:=hanc x hxi h1;have h3:=(hmem x).1 (by simp[hx]);rw[h2]at h3;simp at h3
   exact h1
  have hW':=(W.front hswap p a w hp hW).2;refine wpOp_mono (fun a' w' h'=>ih (p++r) _ a' w' (by simp at hl ⊢;omega) (by simp[hsz]) (fun j=>?_) ?_ ?_ h') hW'
  .have hnd:(p++i::r).Nodup:=hsort.imp (fun h=>by omega);by_cases hji:j=i
   .subst hji;have:j∉p++r:=fun h=>by
     rw[List.nodup_append]at hnd;rcases List.mem_append.1 h with h|h
     .exact hnd.2.2 j h j (by simp) rfl
     exact (List.nodup_cons.1 hnd.2.1).1 h
    simp only[this,false_iff];rw[Array.getElem?_setIfInBounds_self_of_lt (by omega)];simp
   rw[Array.getElem?_setIfInBounds_ne (fun h=>hji h.symm),←hmem j];simp[hji]
  .rw [List.pairwise_append];refine⟨hsplit.1,(List.pairwise_cons.1 hsplit.2.1).2,fun x hx y hy=>hsplit.2.2 x hx y (by simp[hy])⟩
  intro k x hk hx hb;have key:listed[x]?=some true:=by
   by_cases hki:k=i
   .subst hki;exact hanc x hx hb
   rw[Array.getElem?_setIfInBounds_ne (fun h=>hki h.symm)]at hk;exact hclosed k x hk hx hb
  by_cases hxi:x=i
  .subst hxi;rw[hun]at key;simp at key
  rw[Array.getElem?_setIfInBounds_ne (fun h=>hxi h.symm)];exact key
/-! ### The check, by evaluation -/
def clsOf(P:Program)(o:Oper):Nat:=
 let konst:Operand→Bool:=fun|.const _=>true|_=>false
 match o.op with
 | .binOp op t x y _=>
  match P.underlying t with
  | some (.int _)|some .string|some .bool=>0
  | some (.pointer _)|some (.slice _)|some (.map _ _)|some (.interface _)=>if konst x||konst y then 0 else 3
  | _=>3
 | _=>if pureOp P o then 0 else if readOp o then 1 else if allocOp o then 2 else 3
def notSelect(o:Oper):Bool:=match o.op with|.select ..=>false|_=>true
def masks:List Oper→List Nat→List Nat
 | [],acc=>acc
 | o::r,acc=>masks r (acc++[o.after.toList.foldl (fun s e=>if Region.binds .any e then s ||| 2 ^ e.on ||| acc.getD e.on 0 else s) 0])
def stays(l:List Oper)(o:Oper)(i:Nat):Bool:=
 !(isDyn o)||(o.looksAt l.toArray).all fun t=>(l.drop i).all fun o'=>o'.dst != some t
def checkAt(P:Program)(l:List Oper)(m cl:List Nat)(i:Nat)(o:Oper):Bool:=
 notSelect o&&o.after.toList.all (fun e=>!Region.binds .any e||Nat.blt e.on i)&&stays l o i&&
 (l.take i).zipIdx.all fun (ox,x)=>
  if (m.getD i 0).testBit x then o.after.toList.any fun e=>Region.binds .any e&&(e.on == x||(Nat.blt x e.on&&(m.getD e.on 0).testBit x))
  else okPair (cl.getD x 3) (cl.getD i 3)&&ox.apart l.toArray o
def check(P:Program)(l:List Oper):Bool:=
 let m:=masks l []
 let cl:=l.map (clsOf P)
 l.zipIdx.all fun (o,i)=>checkAt P l m cl i o
theorem check_spec{l:List Oper}(h:check P l=true){i:Nat}{o:Oper}(hi:l[i]?=some o):checkAt P l (masks l []) (l.map (clsOf P)) i o=true:=by
 unfold check at h;rw[List.all_eq_true]at h;exact h (o,i) (by rw[List.mem_zipIdx_iff_getElem?];exact hi)
def dynAll(P:Program)(l:List Oper)(a:Act):Bool:=
 l.all fun o=>!(clsOf P o == 0)||!(isDyn o)||!(Region.wanted o (yielded l.toArray a.tmps))||dynOp o a
def DynQ(P:Program)(l:List Oper)(Q:Exit→Act→World→Prop):Exit→Act→World→Prop
 | .normal,a,w=>dynAll P l a=true∧Q .normal a w
 | _,_,_=>False
theorem DynQ.calm(l:List Oper):Calm (DynQ P l Q):=⟨fun _ _ _ h=>h,fun _ _ h=>h⟩
theorem DynQ.imp{l:List Oper}:∀(e:Exit) (a:Act) (w:World),DynQ P l Q e a w→Q e a w:=fun e a w h=>by cases e<;>first|exact h.2|exact h.elim
theorem fin{l:List Oper}(h1:dynAll P l a=true)(h2:Q .normal a w):DynQ P l Q .normal a w:=⟨h1,h2⟩
theorem wpList_op{l:List Oper}(hi:ops[i]?=some o)(h:wpList P ops Q (o::l) a w):wpOp P ops Q i (wpList P ops Q l) a w:=by
 unfold wpOp;simp only[hi];exact h
theorem final_ex(hc:Calm Q):∀(l:List Oper) (k:Nat),(∀j,l[j]?=ops[k+j]?∨l[j]?=none)→∀(a:Act) (w:World),wpList P ops Q l a w→
  ∃a' w',Q .normal a' w'∧∀t,(∀o∈l,o.dst≠some t)→a'.tmps[t]?=a.tmps[t]?
 | [],_,_,a,w,h=>⟨a,w,h,fun _ _=>rfl⟩
 | o::l,k,hk,a,w,h=>by
  have hi:ops[k]?=some o:=by
   rcases hk 0 with h0|h0
   .simpa using h0.symm
   simp at h0
  obtain⟨a1,w1,o1,h1⟩:=wpOp_ex hc hi (wpOp_out hc hi (wpList_op hi h));obtain⟨a2,w2,hq,hs⟩:=final_ex hc l (k+1) (fun j=>by have:=hk (j+1);simpa [Nat.add_assoc,Nat.add_comm 1 j]using this) a1 w1 h1;refine⟨a2,w2,hq,fun t ht=>?_⟩;rw[hs t fun o ho=>ht o (by simp[ho])];obtain⟨u,df,rfl⟩:=o1;have:=ht o (by simp);cases hd:o.dst with
  | none=>rfl
  | some d=>
   rw[hd]at this;simp only[Act.put];exact Array.getElem?_setIfInBounds_ne (fun h=>this (by rw[h]))
theorem eval_tmps{a a':Act}{e:Operand}(h:∀t,e=.tmp t→a'.tmps[t]?=a.tmps[t]?):a'.eval e=a.eval e:=by
 cases e with
 | tmp t=>simp only[Act.eval,Array.getD_eq_getD_getElem?,h t rfl]
 | _=>rfl
theorem init {l : List Oper} (hk : check P l = true) : ∀ (s : List Oper) (k : Nat), (s = l.drop k) → ∀ (a : Act) (w : World), wpList P l.toArray (DynQ P l Q) s a w →
    W P l.toArray (DynQ P l Q) (fun i => (l.map (clsOf P)).getD i 3) (List.range' k s.length) a w
  | [], _, _, a, w, h => h
  | o :: s, k, hs, a, w, h => by
    have hi : l[k]? = some o := by
      have : (l.drop k)[0]? = some o := by rw [← hs]; rfl
      simpa using this
    have hia : l.toArray[k]? = some o := by simpa using hi
    have hs' : s = l.drop (k + 1) := by
      have : (l.drop k).tail = s := by rw [← hs]; rfl
      rw [← this]; simp
    have hop := wpList_op hia h
    refine ⟨fun o' ho' => ?_, wpOp_mono (fun a' w' h' => init hk s (k + 1) hs' a' w' h') hop⟩
    rw [hia] at ho'
    cases ho'
    have hcl : (l.map (clsOf P)).getD k 3 = clsOf P o := by simp [List.getD_eq_getElem?_getD, List.getElem?_map, hi]
    show Cl P l.toArray ((l.map (clsOf P)).getD k 3) o a
    rw [hcl]
    have hcls : ∀ c, clsOf P o = c → c ≤ 2 → (c = 0 → pureOp P o = true) ∧ (c = 1 → readOp o = true) ∧ (c = 2 → allocOp o = true) := by
      intro c hc hle
      subst hc
      unfold clsOf at *
      simp only at *
      split
      · rename_i hop
        have : pureOp P o = true := by unfold pureOp; rw [hop]
        refine ⟨fun _ => this, ?_, ?_⟩ <;> (intro h1; revert h1; (repeat' split) <;> simp)
      · refine ⟨?_, ?_, ?_⟩ <;> (intro h1; revert h1; (repeat' split) <;> simp_all)
    unfold Cl
    split
    · rename_i hc
      refine ⟨(hcls 0 hc (by omega)).1 rfl, fun hw => ?_⟩
      by_cases hd : isDyn o = true
      · obtain ⟨a', w', ⟨hall, _⟩, hsame⟩ := final_ex (DynQ.calm l) (o :: s) k (fun j => by rw [hs]; left; simp) a w h
        have hst : stays l o k = true := by
          have := check_spec hk hi
          unfold checkAt at this
          simp only [Bool.and_eq_true] at this
          exact this.1.2
        have hkeep : ∀ t ∈ o.looksAt l.toArray, a'.tmps[t]? = a.tmps[t]? := fun t ht => hsame t fun o' ho' => by
          unfold stays at hst
          rw [hd] at hst
          simp only [Bool.not_true, Bool.false_or, List.all_eq_true] at hst
          have := hst t ht o' (by rw [← hs]; exact ho')
          simpa using this
        have hdyn : dynOp o a' = dynOp o a := dynOp_congr fun e he => eval_tmps fun t et => hkeep t (by
          subst et
          exact List.mem_append_left _ (List.mem_filterMap.2 ⟨.tmp t, by simpa using he, rfl⟩))
        have hwant : Region.wanted o (yielded l.toArray a'.tmps) = Region.wanted o (yielded l.toArray a.tmps) := by
          unfold Region.wanted
          cases hg : o.guard with
          | none => rfl
          | some gw =>
            obtain ⟨g, want⟩ := gw
            have hy : yielded l.toArray a'.tmps g = yielded l.toArray a.tmps g := by
              unfold yielded
              cases ht : (l.toArray[g]?).bind (·.dst) with
              | none => rfl
              | some t =>
                have := hkeep t (by simp only [Oper.looksAt, hg, ht]; simp)
                simp only [Option.bind_some, this]
            simp only [hy]
        unfold dynAll at hall
        rw [List.all_eq_true] at hall
        have := hall o (List.mem_of_getElem? hi)
        rw [hwant, hw, hdyn, hd, hc] at this
        simpa using this
      · unfold dynOp
        unfold isDyn at hd
        cases hop : o.op <;> rw [hop] at hd <;> simp at hd ⊢
    · rename_i hc; exact (hcls 1 hc (by omega)).2.1 rfl
    · rename_i hc; exact (hcls 2 hc (by omega)).2.2 rfl
    · trivial
theorem cert_of{l:List Oper}(hk:check P l=true):Cert l.toArray (fun i=>(masks l []).getD i 0)
  (fun x i=>∃ox oi,l[x]?=some ox∧l[i]?=some oi∧notSelect ox=true∧notSelect oi=true∧okPair ((l.map (clsOf P)).getD x 3) ((l.map (clsOf P)).getD i 3)=true∧ox.apart l.toArray oi=true):=by
 have sp:∀i o,l[i]?=some o→checkAt P l (masks l []) (l.map (clsOf P)) i o=true:=fun i o hi=>check_spec hk hi
 refine⟨fun i o hi e he hb=>?_,fun i o hi x hx hbit=>?_,fun i hi x hx=>?_⟩
 .have:=sp i o (by simpa using hi);unfold checkAt at this;simp only[Bool.and_eq_true,List.all_eq_true]at this;have:=this.1.1.2 e (by simpa using he);rw[hb]at this;simpa [Nat.blt_eq]using this
 .have hi':l[i]?=some o:=by simpa using hi
  have:=sp i o hi';unfold checkAt at this;simp only[Bool.and_eq_true,List.all_eq_true]at this;have hlt:i<l.length:=(List.getElem?_eq_some_iff.1 hi').1;have hx':l[x]?=some l[x]:=List.getElem?_eq_getElem (by omega);have h2:=this.2 (l[x],x) (by rw[List.mem_zipIdx_iff_getElem?];simp only[List.getElem?_take];rw[if_pos hx];exact hx');simp only[hbit,if_true,List.any_eq_true,Bool.and_eq_true,Bool.or_eq_true,beq_iff_eq,Nat.blt_eq]at h2;obtain⟨e,he,hb,h3⟩:=h2;exact⟨e,by simpa using he,hb,h3⟩
 .have hlt:i<l.length:=by simpa using hi
  have hi':l[i]?=some l[i]:=List.getElem?_eq_getElem hlt;have hx':l[x]?=some l[x]:=List.getElem?_eq_getElem (by omega);have hc:=sp i l[i] hi';have hcx:=sp x l[x] hx';unfold checkAt at hc hcx;simp only[Bool.and_eq_true,List.all_eq_true]at hc hcx;have h2:=hc.2 (l[x],x) (by rw[List.mem_zipIdx_iff_getElem?];simp only[List.getElem?_take];rw[if_pos hx];exact hx');by_cases hbit:((masks l []).getD i 0).testBit x=true
  .exact .inl hbit
  right
  simp only[hbit,Bool.false_eq_true,if_false,Bool.and_eq_true]at h2;exact⟨l[x],l[i],hx',hi',hcx.1.1.1,hc.1.1.1,h2.1,h2.2⟩
theorem wp_ser{id:Nat}{l:List Oper}(hm:P.follows .mixedOrders=true)(hk:check P l=true)(h:wpList P l.toArray (DynQ P l Q) l a w.drew):(Code.region id l.toArray true).wp P Q a w:=by
 refine Code.wp_mono (DynQ.imp (P:=P) (l:=l)) (wp_region_any hm ?_);have hW:=init hk l 0 (by simp) a _ h;refine any_core (cert_of hk) (fun x i r a w hok hw=>?_) _ (List.range' 0 l.length) _ a _ (by simp) (by simp) (fun j=>?_) ?_ ?_ hW
 .obtain ⟨ox,oi,hx,hi,sx,si,hp,hap⟩:=hok;refine W.swap (DynQ.calm l) (by simpa using hx) (by simpa using hi) (fun cs b e=>?_) (fun cs b e=>?_) hap hp hw
  .unfold notSelect at sx;rw[e]at sx;simp at sx
  unfold notSelect at si;rw[e]at si;simp at si
 .simp only[List.mem_range'_1,Nat.zero_le,true_and,Nat.zero_add,Array.getElem?_replicate];split<;>simp_all
 .exact List.pairwise_lt_range' ..
 intro k x hk1;rw[Array.getElem?_replicate]at hk1;split at hk1<;>simp at hk1
end
end Go.Ser
end
section
set_option linter.unusedSimpArgs false
set_option linter.unusedVariables false
namespace Go.J
open Go.Hp
abbrev Env:=List (Nat×Value)
def look:Env→Nat→Value
 | [],_=>undef
 | (k,v)::r,t=>bif Nat.beq k t then v else look r t
def has:Env→Nat→Bool
 | [],_=>false
 | (k,_)::r,t=>Nat.beq k t||has r t
def ev(E:Env):Operand→Value
 | .tmp t=>look E t
 | .const v=>v
 | .global g=>.pointer (some ⟨g,0,none⟩)
 | .func f=>.func (.func f) #[] #[]
def knows(E:Env):Operand→Bool
 | .tmp t=>has E t
 | _=>true
def put(E:Env):Option Tmp→Value→Env
 | some d,v=>(d,v)::E
 | none,_=>E
def dstOk(n:Nat):Option Tmp→Bool
 | some d=>Nat.blt d n
 | none=>true
structure Fits(n:Nat)(a:Act)(E:Env):Prop where
 size:a.tmps.size=n
 defers:a.defers=[]
 get:∀t,has E t=true→a.tmps[t]?=some (look E t)
section
variable{n:Nat}{a:Act}{E:Env}
theorem beq_false{k t:Nat}(h:¬k=t):Nat.beq k t=false:=by
 cases hb:Nat.beq k t with
 | true=>exact absurd (Nat.eq_of_beq_eq_true hb) h
 | false=>rfl
theorem look_cons(k:Nat)(v:Value)(r:Env)(t:Nat):look ((k,v)::r) t=if k=t then v else look r t:=by
 show (bif Nat.beq k t then v else look r t)=_;by_cases h:k=t
 .subst h;simp
 simp[beq_false h,h]
theorem has_cons(k:Nat)(v:Value)(r:Env)(t:Nat):has ((k,v)::r) t=(decide (k=t)||has r t):=by
 show (Nat.beq k t||has r t)=_;by_cases h:k=t
 .subst h;simp
 simp[beq_false h,h]
theorem Fits.put(h:Fits n a E)(d:Option Tmp)(v:Value)(hd:dstOk n d=true):Fits n (a.put d v) (J.put E d v):=by
 cases d with
 | none=>exact h
 | some d=>
  have hlt:d<n:=by simpa [dstOk,Nat.blt_eq]using hd
  refine⟨by simp[Act.put,h.size],by simp[Act.put,h.defers],fun t ht=>?_⟩;simp only[J.put]at ht⊢;rw[look_cons];rw[has_cons]at ht;simp only[Act.put];by_cases e:d=t
  .subst e;rw[if_pos rfl,Array.getElem?_setIfInBounds_self_of_lt (by rw[h.size];exact hlt)]
  rw[if_neg e,Array.getElem?_setIfInBounds_ne e];exact h.get t (by simpa [e]using ht)
theorem Fits.eval(h:Fits n a E){x:Operand}(hk:knows E x=true):a.eval x=ev E x:=by
 cases x with
 | tmp t=>simp only[Act.eval,ev,Array.getD_eq_getD_getElem?,h.get t hk,Option.getD_some]
 | _=>rfl
theorem Fits.sub(h:Fits n a E){E':Env}(hs:∀t,has E' t=true→has E t=true∧look E t=look E' t):Fits n a E':=
 ⟨h.size,h.defers,fun t ht=>by rw[h.get t (hs t ht).1,(hs t ht).2]⟩
def subB(E E':Env):Prop:=∀p∈E',has E p.1=true∧look E p.1=look E' p.1
theorem has_mem:∀{E:Env}{t:Nat},has E t=true→∃v,(t,v)∈E
 | [],_,h=>by simp[has]at h
 | (k,v)::r,t,h=>by
  rw[has_cons]at h;by_cases e:k=t
  .subst e;exact⟨v,by simp⟩
  obtain⟨u,hu⟩:=has_mem (E:=r) (by simpa [e]using h);exact⟨u,by simp[hu]⟩
theorem Fits.of_sub(h:Fits n a E){E':Env}(hs:subB E E'):Fits n a E':=h.sub fun t ht=>by
 obtain⟨v,hv⟩:=has_mem ht;exact hs (t,v) hv
def subL(E:Env):Env→Prop
 | []=>True
 | (t,v)::r=>(has E t=true∧look E t=v)∧subL E r
def distinctB:Env→Bool
 | []=>true
 | (t,_)::r=>!has r t&&distinctB r
theorem sub_of{E':Env}(hd:distinctB E'=true)(h:subL E E'):subB E E':=by
 have key:∀(E':Env),distinctB E'=true→subL E E'→∀t,has E' t=true→has E t=true∧look E t=look E' t:=by
  intro E';induction E' with
  | nil=>intro _ _ t ht;simp[has]at ht
  | cons p r ih=>
   obtain⟨k,v⟩:=p;intro hd hs t ht;simp only[distinctB,Bool.and_eq_true,Bool.not_eq_true']at hd;obtain⟨⟨h1,h2⟩,h3⟩:=hs;rw[look_cons];rw[has_cons]at ht;by_cases e:k=t
   .subst e;rw[if_pos rfl];exact⟨h1,h2⟩
   rw[if_neg e];exact ih hd.2 h3 t (by simpa [e]using ht)
 intro p hp;refine key E' hd h p.1 ?_;have:∀(E:Env) (p:Nat×Value),p∈E→has E p.1=true:=by
  intro E;induction E with
  | nil=>intro p hp;cases hp
  | cons q r ih=>
   intro p hp;obtain⟨k,v⟩:=q;rw[has_cons];rcases List.mem_cons.1 hp with rfl|h
   .simp
   simp[ih p h]
 exact this E' p hp
theorem Fits.args{args:Array Value}{m:Nat}(hm:args.size≤m):Fits m { tmps:=args++Array.replicate (m-args.size) undef,defers:=[] } (args.toList.zipIdx.map fun p=>(p.2,p.1)):=by
 refine⟨by simp;omega,rfl,fun t ht=>?_⟩;obtain⟨v,hv⟩:=has_mem ht;simp only[List.mem_map,Prod.mk.injEq,Prod.exists]at hv;obtain⟨x,i,hx,rfl,rfl⟩:=hv;have hx':=List.mem_zipIdx_iff_getElem?.1 hx;simp only at hx';have hlook:∀(l:List Value) (k t:Nat) (x:Value),k≤t→l[t-k]?=some x→look ((l.zipIdx k).map fun p=>(p.2,p.1)) t=x:=by
  intro l;induction l with
  | nil=>intro k t x _ h;simp at h
  | cons y r ih=>
   intro k t x hk h;simp only[List.zipIdx_cons,List.map_cons,look_cons];by_cases e:k=t
   .subst e;simp at h;rw[if_pos rfl];exact h
   rw[if_neg e];refine ih (k+1) t x (by omega) ?_;have e2:t-k=(t-(k+1))+1:=by omega
   rw[e2]at h;simpa using h
 have h1:=hlook args.toList 0 i x (Nat.zero_le _) (by simpa using hx');rw[h1];have hlt:i<args.size:=by have:=(List.getElem?_eq_some_iff.1 hx').1;simpa using this
 rw[Array.getElem?_append_left hlt];simpa using hx'
end
structure At(w0:World)(H:Heap)(w:World):Prop where
 heap:w.heap=H
 os:w.os=w0.os
 tape:w.tape=w0.tape
 output:w.output=w0.output
theorem At.self(w:World):At w w.heap w:=⟨rfl,rfl,rfl,rfl⟩
theorem At.trans{w0 w w':World}{H H':Heap}(h:At w0 H w)(k:At w H' w'):At w0 H' w':=⟨k.heap,k.os.trans h.os,k.tape.trans h.tape,k.output.trans h.output⟩
theorem At.of_mem{S:Nat→Prop}{w w':World}(h:Mem.Chg S w w'):At w w'.heap w':=⟨rfl,h.os,h.tape,h.output⟩
def HC(P:Program)(f:FuncId)(args:Array Value)(H:Heap)(R:Value→Heap→Prop):Prop:=
 ∀w:World,w.heap=H→Calls P f args w fun e w'=>∃v,e=.returned v∧At w w'.heap w'∧R v w'.heap
theorem HC.mono{P:Program}{f:FuncId}{args:Array Value}{H:Heap}{R R':Value→Heap→Prop}(h:HC P f args H R)(hR:∀v H',R v H'→R' v H'):HC P f args H R':=
 fun w hw=>(h w hw).mono fun _ _ ⟨v,e,hA,hr⟩=>⟨v,e,hA,hR _ _ hr⟩
section
variable{P:Program}{w0:World}{ops:Array Oper}{Q:Exit→Act→World→Prop}{n:Nat}{E:Env}{H:Heap}
def JL(P:Program)(w0:World)(ops:Array Oper)(Q:Exit→Act→World→Prop)(n:Nat)(l:List Oper)(E:Env)(H:Heap):Prop:=
 ∀a w,Fits n a E→At w0 H w→wpList P ops Q l a w
def JC(P:Program)(w0:World)(c:Code)(Q:Exit→Act→World→Prop)(n:Nat)(E:Env)(H:Heap):Prop:=
 ∀a w,Fits n a E→At w0 H w→c.wp P Q a w
def JX(w0:World)(x:Exit)(Q:Exit→Act→World→Prop)(n:Nat)(E:Env)(H:Heap):Prop:=
 ∀a w,Fits n a E→At w0 H w→Q x a w
theorem JC.sub{c:Code}(E':Env)(hs:subB E E')(h:JC P w0 c Q n E' H):JC P w0 c Q n E H:=fun a w hf ha=>h a w (hf.of_sub hs) ha
theorem JX.sub{x:Exit}(E':Env)(hs:subB E E')(h:JX w0 x Q n E' H):JX w0 x Q n E H:=fun a w hf ha=>h a w (hf.of_sub hs) ha
/-! ### Control -/
theorem c_seq{x y:Code}(h:JC P w0 x (Exit.then (y.wp P Q) Q) n E H):JC P w0 (.seq x y) Q n E H:=fun a w hf ha=>wp_seq (h a w hf ha)
theorem c_skip(h:JX w0 .normal Q n E H):JC P w0 .skip Q n E H:=fun a w hf ha=>wp_skip (h a w hf ha)
theorem c_ret(h:JX w0 .ret Q n E H):JC P w0 .ret Q n E H:=fun a w hf ha=>wp_ret (h a w hf ha)
theorem c_exit{id:Nat}(h:JX w0 (.exit id) Q n E H):JC P w0 (.exit id) Q n E H:=fun a w hf ha=>wp_exit (h a w hf ha)
theorem c_block{id:Nat}{c:Code}(h:JC P w0 c (Exit.inBlock id Q) n E H):JC P w0 (.block id c) Q n E H:=fun a w hf ha=>wp_block (h a w hf ha)
theorem c_true{t:Operand}{x y:Code}(hk:knows E t=true)(hv:ev E t=.bool true)(h:JC P w0 x Q n E H):JC P w0 (.cond t x y) Q n E H:=
 fun a w hf ha=>wp_cond_true ((hf.eval hk).trans hv) (h a w hf ha)
theorem c_false{t:Operand}{x y:Code}(hk:knows E t=true)(hv:ev E t=.bool false)(h:JC P w0 y Q n E H):JC P w0 (.cond t x y) Q n E H:=
 fun a w hf ha=>wp_cond_false ((hf.eval hk).trans hv) (h a w hf ha)
theorem c_cond{t:Operand}{x y:Code}{c:Bool}(hk:knows E t=true)(hv:ev E t=.bool c)(h1:c=true→JC P w0 x Q n E H)(h2:c=false→JC P w0 y Q n E H):JC P w0 (.cond t x y) Q n E H:=by
 cases c with
 | true=>exact c_true hk hv (h1 rfl)
 | false=>exact c_false hk hv (h2 rfl)
theorem c_reg{id:Nat}{l:List Oper}(h:JL P w0 l.toArray Q n l E H):JC P w0 (.region id l.toArray false) Q n E H:=
 fun a w hf ha=>wp_region_lit (h a w hf ha)
theorem c_draw{id:Nat}{l:List Oper}(hm:P.follows .mixedOrders=true)(hk:Ser.check P l=true)(h:JL P w0 l.toArray (Ser.DynQ P l Q) n l E H):JC P w0 (.region id l.toArray true) Q n E H:=
 fun a w hf ha=>Ser.wp_ser hm hk (h a w.drew hf ⟨ha.heap,ha.os,ha.tape,ha.output⟩)
theorem l_nil(h:JX w0 .normal Q n E H):JL P w0 ops Q n [] E H:=fun a w hf ha=>wpList_nil (h a w hf ha)
def dynOne (ops : List Oper) (E : Env) (o : Oper) : Bool :=
  let plain := o.op.operands.toList.all (knows E) && (match o.op with
    | .binOp _ _ x y _ => Ser.plain2 (ev E x) (ev E y)
    | .convert _ _ x => Ser.isInt (ev E x)
    | .nilCheck x => (match ev E x with | .func _ _ _ => false | _ => true)
    | .call { callee := .builtin .len, args := xs, .. } | .call { callee := .builtin .cap, args := xs, .. } => (match xs[0]? with | some x => Ser.noBox (ev E x) | none => false)
    | .call { callee := .builtin .min, args := xs, .. } | .call { callee := .builtin .max, args := xs, .. } => xs.toList.all fun x => Ser.isInt (ev E x)
    | _ => true)
  match o.guard with
  | none => plain
  | some (g, b) => match ((ops[g]?).bind (·.dst)) with
    | some d => has E d && (match look E d with | .bool c => (c != b) || plain | .tuple _ => true | _ => false)
    | none => false
theorem x_dyn {l : List Oper} (hd : (l.all fun o => !(Ser.clsOf P o == 0) || !(Ser.isDyn o) || dynOne l E o) = true) (h : JX w0 .normal Q n E H) : JX w0 .normal (Ser.DynQ P l Q) n E H := by
  intro a w hf ha
  refine ⟨?_, h a w hf ha⟩
  unfold Ser.dynAll
  rw [List.all_eq_true] at hd ⊢
  intro o ho
  have h1 := hd o ho
  cases hc : (Ser.clsOf P o == 0) with
  | false => rfl
  | true =>
    cases hi : Ser.isDyn o with
    | false => rfl
    | true =>
      rw [hc, hi] at h1
      simp only [Bool.not_true, Bool.false_or] at h1 ⊢
      have plain : ∀ (hk : o.op.operands.toList.all (knows E) = true), (match o.op with
          | .binOp _ _ x y _ => Ser.plain2 (ev E x) (ev E y)
          | .convert _ _ x => Ser.isInt (ev E x)
          | .nilCheck x => (match ev E x with | .func _ _ _ => false | _ => true)
          | .call { callee := .builtin .len, args := xs, .. } | .call { callee := .builtin .cap, args := xs, .. } => (match xs[0]? with | some x => Ser.noBox (ev E x) | none => false)
          | .call { callee := .builtin .min, args := xs, .. } | .call { callee := .builtin .max, args := xs, .. } => xs.toList.all fun x => Ser.isInt (ev E x)
          | _ => true) = true → Ser.dynOp o a = true := by
        intro hk hp
        have hev : ∀ x ∈ o.op.operands, a.eval x = ev E x := fun x hx => hf.eval (List.all_eq_true.1 hk x (by simpa using hx))
        obtain ⟨dst, op, ty, pos, after, guard⟩ := o
        unfold Ser.dynOp
        cases op <;> simp only [Op.operands] at hev hp ⊢
        case binOp op t x y u => rw [hev x (by simp), hev y (by simp)]; exact hp
        case convert s d x => rw [hev x (by simp)]; exact hp
        case nilCheck x => rw [hev x (by simp)]; exact hp
        case call c =>
          obtain ⟨callee, xs, ts⟩ := c
          cases callee with
          | value f => rfl
          | invoke r m => rfl
          | builtin b =>
            simp only [Call.operands] at hev
            cases b <;> simp only at hp ⊢ <;> first
              | rfl
              | (cases hx : xs[0]? with
                 | none => rw [hx] at hp; simp at hp
                 | some x => rw [hx] at hp; simp only at hp ⊢; rw [hev x (by simp; exact Array.mem_of_getElem? hx)]; exact hp)
              | (rw [List.all_eq_true] at hp ⊢
                 intro x hx
                 rw [hev x (by simpa using hx)]; exact hp x hx)
      unfold dynOne at h1
      cases hg : o.guard with
      | none =>
        rw [hg] at h1
        simp only [Bool.and_eq_true] at h1
        rw [Bool.or_eq_true]
        exact .inr (plain h1.1 h1.2)
      | some gb =>
        obtain ⟨g, b⟩ := gb
        rw [hg] at h1
        simp only at h1
        cases hgd : (l[g]?).bind (·.dst) with
        | none => rw [hgd] at h1; simp at h1
        | some d =>
          rw [hgd] at h1
          simp only [Bool.and_eq_true] at h1
          obtain ⟨hh, h2⟩ := h1
          have hy : yielded l.toArray a.tmps g = match look E d with | .bool c => some c | _ => none := by
            unfold yielded
            simp only [List.getElem?_toArray, hgd, Option.bind_some, hf.get d hh]
            cases look E d <;> rfl
          cases hl : look E d <;> rw [hl] at h2 hy <;> simp only at h2 hy <;> first | (cases h2; done) | skip
          case bool c =>
            rw [Bool.or_eq_true] at h2 ⊢
            rcases h2 with h2 | h2
            · left
              unfold Region.wanted
              rw [hg]
              simp only [hy]
              simpa using h2
            · right
              rw [Bool.and_eq_true] at h2
              exact plain h2.1 h2.2
          case tuple xs =>
            rw [Bool.or_eq_true]
            left
            unfold Region.wanted
            rw [hg]
            simp only [hy]
            rfl
/-! ### Ways out -/
theorem x_here{id:Nat}(h:JX w0 .normal Q n E H):JX w0 (.exit id) (Exit.inBlock id Q) n E H:=fun a w hf ha=>by
 show (if id=id then Q .normal a w else _);rw[if_pos rfl];exact h a w hf ha
/-! ### The function -/
def Fin(P:Program)(fn:Func)(w0:World)(R:Value→Heap→Prop):Exit→Act→World→Prop:=
 bodyPost P fn fun e w'=>∃v,e=.returned v∧At w0 w'.heap w'∧R v w'.heap
theorem enter{f:FuncId}{fn:Func}{c:Code}{args:Array Value}{R:Value→Heap→Prop}(hf:P.funcs[f]?=some fn)(hb:fn.body=some c)(m:Nat)(hm:fn.ntmps=m)(hle:Nat.ble args.size m=true)(E:Env)(hE:(args.toList.zipIdx.map fun p=>(p.2,p.1))=E)
  (h:∀w0,JC P w0 c (Fin P fn w0 R) m E H):HC P f args H R:=by
 intro w hw;subst hm hE;exact calls_of_wp hf hb (h w _ w (Fits.args (Nat.le_of_ble_eq_true hle)) ⟨hw,rfl,rfl,rfl⟩)
def Res(P:Program)(w0:World)(fn:Func)(n:Nat)(E:Env)(H:Heap)(v:Value):Prop:=
 ∀a w,Fits n a E→At w0 H w→(results fn a.tmps).run P w=.ok v w
theorem x_fin{fn:Func}{R:Value→Heap→Prop}(v:Value)(hr:Res P w0 fn n E H v)(h:R v H):JX w0 .ret (Fin P fn w0 R) n E H:=fun a w hf ha=>by
 refine⟨hf.defers,v,hr a w hf ha,v,rfl,⟨rfl,ha.os,ha.tape,ha.output⟩,?_⟩;rw[ha.heap];exact h
theorem x_finN{fn:Func}{R:Value→Heap→Prop}(v:Value)(hr:Res P w0 fn n E H v)(h:R v H):JX w0 .normal (Fin P fn w0 R) n E H:=fun a w hf ha=>by
 refine⟨hf.defers,v,hr a w hf ha,v,rfl,⟨rfl,ha.os,ha.tape,ha.output⟩,?_⟩;rw[ha.heap];exact h
inductive Item(P:Program)(E:Env)(H:Heap):ResultVar→Value→Prop
 | tmp (t:Tmp) (v:Value) (hk:has E t=true) (hv:look E t=v):Item P E H (.tmp t) v
 | cell (t:Tmp) (ty:TypeId) (v:Value) (p:Addr) (hk:has E t=true) (hv:look E t=.pointer (some p)) (hl:∀w:World,w.heap=H→(loadVar ty p).run P w=.ok v w):Item P E H (.cell t ty) v
inductive Items(P:Program)(E:Env)(H:Heap):List ResultVar→List Value→Prop
 | nil:Items P E H [] []
 | cons {r:ResultVar}{v:Value}{rs:List ResultVar}{vs:List Value} (h:Item P E H r v) (hs:Items P E H rs vs):Items P E H (r::rs) (v::vs)
def itemRun(tmps:Array Value):ResultVar→Sem Value
 | .tmp t=>pure (tmps.getD t undef)
 | .cell p t=>do loadVar t (←asAddr (tmps.getD p undef))
theorem run_items{a:Act}{w:World}(hf:Fits n a E)(hw:w.heap=H){rs:List ResultVar}{vs:List Value}(h:Items P E H rs vs):
  (rs.mapM (itemRun a.tmps)).run P w=.ok vs w:=by
 induction h with
 | nil=>rfl
 | cons h hs ih=>
  rw[List.mapM_cons];cases h with
  | tmp t v hk hv=>
   have:a.tmps.getD t undef=look E t:=by rw[Array.getD_eq_getD_getElem?,hf.get t hk,Option.getD_some]
   simp only[itemRun,Sem.run_bind,Sem.run_pure,Result.andThen_ok,this,ih,hv]
  | cell t ty v p hk hv hl=>
   have:a.tmps.getD t undef=.pointer (some p):=by rw[Array.getD_eq_getD_getElem?,hf.get t hk,Option.getD_some,hv]
   have h2:(asAddr (a.tmps.getD t undef)).run P w=.ok p w:=by rw[this];rfl
   simp only[itemRun,Sem.run_bind,Sem.run_pure,Result.andThen_ok,h2,hl w hw,ih]
theorem run_map{α β:Type}(f:α→β)(x:Sem α)(w:World):(f <$> x).run P w=(x.run P w).andThen fun a w'=>.ok (f a) w':=Sem.run_bind' P x (fun a=>pure (f a)) w
def pack:List Value→Value
 | [x]=>x
 | vs=>.tuple vs.toArray
theorem res_of{fn:Func}{rs:List ResultVar}{vs:List Value}(hr:fn.results.toList=rs)(h:Items P E H rs vs):Res P w0 fn n E H (pack vs):=by
 intro a w hf ha;have h1:=run_items hf ha.heap h;have h0:results fn a.tmps=(do let vs ←fn.results.mapM (itemRun a.tmps);pure (if h:vs.size=1 then vs[0] else .tuple vs)):=rfl;rw[h0,Array.mapM_eq_mapM_toList,hr];simp only[Sem.run_bind,Sem.run_pure,Result.andThen_ok,run_map,h1];congr 1;match vs with
 | []=>rfl
 | [x]=>rfl
 | x::y::r=>simp[pack]
/-! ### Loops -/
theorem wp_loopI{c:Code}{ι:Type}(I:ι→Act→World→Prop)(μ:ι→Nat){a:Act}{w:World}(i0:ι)(h₀:I i0 a w)
  (round:∀i a w,I i a w→c.wp P (Exit.then (fun a' w'=>∃i',μ i'<μ i∧I i' a' w') Q) a w):(Code.loop c).wp P Q a w:=by
 intro b k cs;have key:∀n i a w,μ i=n→I i a w→
   ∃e a' w',Q e a' w'∧Arrives P (lone (b.at a (.code c::.inLoop c::k)) cs w) b k cs e a' w':=by
  intro n;induction n using Nat.strongRecOn with
  | _ n ih=>
   intro i a w hn hI;obtain⟨e,a₁,w₁,hq,harr⟩:=round i a w hI b (.inLoop c::k) cs;cases e with
   | normal=>
    obtain⟨i₁,hlt,hI₁⟩:=hq;obtain⟨e₂,a₂,w₂,hq₂,harr₂⟩:=ih (μ i₁) (hn▸hlt) i₁ a₁ w₁ rfl hI₁;exact⟨e₂,a₂,w₂,hq₂,.of_steps (Steps.trans harr (.one step_inLoop)) harr₂⟩
   | exit id=>exact⟨_,a₁,w₁,hq,.pass (x:=.inLoop c) rfl (fun _ _=>.inl (by simp)) harr⟩
   | goto l=>exact⟨_,a₁,w₁,hq,.pass (x:=.inLoop c) rfl (fun _ _=>.inl (by simp)) harr⟩
   | ret=>exact⟨_,a₁,w₁,hq,.pass (x:=.inLoop c) rfl (fun _ _=>.inl (by simp)) harr⟩
   | panic ch=>exact⟨_,a₁,w₁,hq,.pass (x:=.inLoop c) rfl (fun _ _=>.inl (by simp)) harr⟩
   | outgrown=>exact⟨_,a₁,w₁,hq,.pass (x:=.inLoop c) rfl (fun _ _=>.inl (by simp)) harr⟩
 obtain⟨e,a',w',hq,harr⟩:=key _ i0 a w rfl h₀;exact⟨e,a',w',hq,.of_steps (.one step_loop) harr⟩
def LoopK(w0:World)(n:Nat){ι:Type}(Ei:ι→Env)(Hi:ι→Heap→Prop)(μ:ι→Nat)(i:ι):Act→World→Prop:=
 fun a w=>∃i' H',μ i'<μ i∧Fits n a (Ei i')∧At w0 H' w∧Hi i' H'
theorem c_loop{c:Code}{ι:Type}(Ei:ι→Env)(Hi:ι→Heap→Prop)(μ:ι→Nat)(i0:ι)(hE:subB E (Ei i0))(h0:Hi i0 H)
  (round:∀i H,Hi i H→JC P w0 c (Exit.then (LoopK w0 n Ei Hi μ i) Q) n (Ei i) H):JC P w0 (.loop c) Q n E H:=fun a w hf ha=>by
 refine wp_loopI (fun i a w=>∃H,Fits n a (Ei i)∧At w0 H w∧Hi i H) μ i0 ⟨H,hf.of_sub hE,ha,h0⟩ ?_;rintro i a w ⟨H',hf',ha',hi⟩;refine Code.wp_mono (fun e a w q=>?_) (round i H' hi a w hf' ha');cases e<;>first|exact q|skip
 obtain⟨i',H'',h1,h2,h3,h4⟩:=q;exact⟨i',h1,H'',h2,h3,h4⟩
theorem x_round{ι:Type}{Ei:ι→Env}{Hi:ι→Heap→Prop}{μ:ι→Nat}{i:ι}(i':ι)(hμ:μ i'<μ i)(hE:subB E (Ei i'))(h:Hi i' H):JX w0 .normal (Exit.then (LoopK w0 n Ei Hi μ i) Q) n E H:=
 fun a w hf ha=>⟨i',H,hμ,hf.of_sub hE,ha,h⟩
end
end Go.J
end
section
set_option linter.unusedSimpArgs false
set_option linter.unusedVariables false
set_option linter.unusedSectionVars false
namespace Go.J
open Go.Hp
open Go.Mem (Ty KTy blk elemAt addr_add addr_add_add pre suf aget aset adel apos Stamps aggDesc spliceAt)
section
variable{P:Program}{w0:World}{ops:Array Oper}{Q:Exit→Act→World→Prop}{n:Nat}{E:Env}{H:Heap}{o:Oper}{rest:List Oper}
def want(ops:Array Oper)(E:Env)(o:Oper):Bool:=
 match o.guard with
 | none=>true
 | some (g,b)=>match (ops[g]?).bind (·.dst) with
  | some d=>has E d&&(match look E d with|.bool c=>c == b|_=>false)
  | none=>false
def unwant(ops:Array Oper)(E:Env)(o:Oper):Bool:=
 match o.guard with
 | none=>false
 | some (g,b)=>match (ops[g]?).bind (·.dst) with
  | some d=>has E d&&(match look E d with|.bool c=>c != b|.tuple _=>true|_=>false)
  | none=>false
theorem yields_of{a:Act}(hf:Fits n a E){g:Nat}{d:Tmp}(hd:(ops[g]?).bind (·.dst)=some d)(hh:has E d=true){c:Bool}(hc:look E d=.bool c):yielded ops a.tmps g=some c:=by
 unfold yielded;simp only[hd,Option.bind_some,hf.get d hh,hc]
theorem want_spec{a:Act}(hf:Fits n a E)(h:want ops E o=true):Region.wanted o (yielded ops a.tmps)=true:=by
 unfold want at h;unfold Region.wanted;cases hg:o.guard with
 | none=>rfl
 | some gb=>
  obtain⟨g,b⟩:=gb;rw[hg]at h;simp only at h⊢;cases hd:(ops[g]?).bind (·.dst) with
  | none=>rw[hd]at h;simp at h
  | some d=>
   rw[hd]at h;simp only[Bool.and_eq_true]at h;cases hl:look E d<;>rw[hl]at h<;>simp only at h<;>first|(simp at h;done)|skip
   rename_i c
   rw[yields_of hf hd h.1 hl];simpa using h.2
theorem unwant_spec{a:Act}(hf:Fits n a E)(h:unwant ops E o=true):Region.wanted o (yielded ops a.tmps)=false:=by
 unfold unwant at h;unfold Region.wanted;cases hg:o.guard with
 | none=>rw[hg]at h;simp at h
 | some gb=>
  obtain⟨g,b⟩:=gb;rw[hg]at h;simp only at h⊢;cases hd:(ops[g]?).bind (·.dst) with
  | none=>rw[hd]at h;simp at h
  | some d=>
   rw[hd]at h;simp only[Bool.and_eq_true]at h;cases hl:look E d<;>rw[hl]at h<;>simp only at h<;>first|(simp at h;done)|skip
   case bool c=>
    rw[yields_of hf hd h.1 hl];simpa using h.2
   case tuple xs=>
    have hy:yielded ops a.tmps g=none:=by
     unfold yielded;simp only[hd,Option.bind_some,hf.get d h.1,hl]
    rw[hy];rfl
theorem l_skip(hu:unwant ops E o=true)(hd:dstOk n o.dst=true)(h:JL P w0 ops Q n rest (put E o.dst undef) H):JL P w0 ops Q n (o::rest) E H:=fun a w hf ha=>
 wpList_skip (unwant_spec hf hu) (h _ w (hf.put o.dst undef hd) ha)
def notSel(o:Oper):Bool:=match o.op with|.select ..=>false|_=>true
def okOp(ops:Array Oper)(n:Nat)(E:Env)(o:Oper):Bool:=want ops E o&&o.op.operands.toList.all (knows E)&&dstOk n o.dst&&notSel o
theorem exec_eq{a:Act}(hf:Fits n a E)(hk:o.op.operands.toList.all (knows E)=true)(hs:notSel o=true):execOp a.eval o=execOp (ev E) o:=
 execOp_congr o (fun cs b e=>by unfold notSel at hs;rw[e]at hs;simp at hs) fun x hx=>hf.eval (List.all_eq_true.1 hk x (by simpa using hx))
theorem l_run{R:Value→Heap→Prop}(hk:okOp ops n E o=true)(hr:∀w,At w0 H w→∃v w',(execOp (ev E) o).run P w=.ok (.value v) w'∧At w0 w'.heap w'∧R v w'.heap)
  (h:∀v H',R v H'→JL P w0 ops Q n rest (put E o.dst v) H'):JL P w0 ops Q n (o::rest) E H:=by
 intro a w hf ha;unfold okOp at hk;simp only[Bool.and_eq_true]at hk;obtain⟨⟨⟨h1,h2⟩,h3⟩,h4⟩:=hk;obtain⟨v,w',hrun,hat,hR⟩:=hr w ha;exact Mem.wpList_run (want_spec hf h1) (by rw[exec_eq hf h2 h4];exact hrun) (h v _ hR _ w' (hf.put o.dst v h3) hat)
theorem l_runs{R:Heap→Prop}(hk:okOp ops n E o=true)(hr:∀w,At w0 H w→∃w',(execOp (ev E) o).run P w=.ok .skip w'∧At w0 w'.heap w'∧R w'.heap)
  (h:∀H',R H'→JL P w0 ops Q n rest (put E o.dst undef) H'):JL P w0 ops Q n (o::rest) E H:=by
 intro a w hf ha;unfold okOp at hk;simp only[Bool.and_eq_true]at hk;obtain⟨⟨⟨h1,h2⟩,h3⟩,h4⟩:=hk;obtain⟨w',hrun,hat,hR⟩:=hr w ha;exact Mem.wpList_runs (want_spec hf h1) (by rw[exec_eq hf h2 h4];exact hrun) (h _ hR _ w' (hf.put o.dst undef h3) hat)
theorem l_read(v:Value)(hk:okOp ops n E o=true)(hr:∀w:World,w.heap=H→(execOp (ev E) o).run P w=.ok (.value v) w)(h:JL P w0 ops Q n rest (put E o.dst v) H):JL P w0 ops Q n (o::rest) E H:=
 l_run (R:=fun v' H'=>v'=v∧H'=H) hk (fun w ha=>⟨v,w,hr w ha.heap,⟨rfl,ha.os,ha.tape,ha.output⟩,rfl,ha.heap⟩) (by rintro _ _ ⟨rfl,rfl⟩;exact h)
/-! ### Arithmetic -/
theorem bin_run{op:BinOp}{t u:TypeId}{x y:Operand}{v:Value}(ho:o.op=.binOp op t x y u)(vx vy:Value)(hx:ev E x=vx)(hy:ev E y=vy)(hg:∀w,(eqGuard op t x y vx vy).run P w=.ok () w)(hr:∀w,(binOp op t vx vy).run P w=.ok v w)(w:World):
  (execOp (ev E) o).run P w=.ok (.value v) w:=by
 unfold execOp;simp only[ho,hx,hy,Sem.run_bind,hg,hr,Result.andThen_ok,Sem.run_pure]
theorem wrap64{z:Int}(h : -9223372036854775808≤z∧z≤9223372036854775807):IntKind.i64.wrap z=z:=by rw[IntKind.wrap_i64];omega
theorem eqg_int{op:BinOp}{t:TypeId}{x y:Operand}{k k':IntKind}{a b:Int}(w:World):(eqGuard op t x y (.int k a) (.int k' b)).run P w=.ok () w:=by
 unfold eqGuard;split<;>rfl
def cmpI:BinOp→Int→Int→Option Bool
 | .eql,a,b=>some (decide (a=b))
 | .neq,a,b=>some (decide (a≠b))
 | .lss,a,b=>some (decide (a<b))
 | .leq,a,b=>some (decide (a≤b))
 | .gtr,a,b=>some (decide (b<a))
 | .geq,a,b=>some (decide (b≤a))
 | _,_,_=>none
theorem toList_eq{a b:ByteArray}:(a.toList == b.toList)=decide (a=b):=by
 rw[Bool.eq_iff_iff];simp only[beq_iff_eq,decide_eq_true_eq];constructor
 .intro h;rw[ByteArray.toList_eq,ByteArray.toList_eq]at h;obtain⟨a⟩:=a;obtain⟨b⟩:=b;simp at h;rw[h]
 rintro rfl;rfl
theorem eqg_agg {op : BinOp} {t : TypeId} {x y : Operand} {xs ys : Array Value} (hg : P.eqGuardType P.depth t = false) (w : World) : (eqGuard op t x y (.agg xs) (.agg ys)).run P w = .ok () w := by
  have h1 : (do let p ← program; let q ← program; if (!p.eqGuardType q.depth t) = true then pure () else do
      let b ← Op.eqGuardIn Op.maxDepth t (Value.agg xs) (Value.agg ys)
      if b = true then unsupported (Unsupported.noEntry "binop/eql: two nil values of an interface type with methods, in a part of a struct or an array") else pure () : Sem Unit).run P w = .ok () w := by
    simp [program, Sem.run, hg]
  cases op <;> first | rfl | exact h1
theorem l_fork{l:List Oper}(t:Nat)(c:Bool)(hh:has E t=true)(hv:look E t=.bool c)(h1:c=true→JL P w0 ops Q n l ((t,.bool true)::E) H)(h2:c=false→JL P w0 ops Q n l ((t,.bool false)::E) H):JL P w0 ops Q n l E H:=by
 have key:∀b,c=b→∀a,Fits n a E→Fits n a ((t,.bool b)::E):=fun b hb a hf=>hf.sub fun t' ht'=>by
  rw[look_cons];rw[has_cons]at ht';by_cases e:t=t'
  .subst e;rw[if_pos rfl,hv,hb];exact⟨hh,rfl⟩
  rw[if_neg e];exact⟨by simpa [e]using ht',rfl⟩
 cases hc:c with
 | true=>exact fun a w hf ha=>h1 hc a w (key _ hc a hf) ha
 | false=>exact fun a w hf ha=>h2 hc a w (key _ hc a hf) ha
end
end Go.J
end
section
set_option linter.unusedSimpArgs false
set_option linter.unusedVariables false
set_option linter.unusedSectionVars false
namespace Go.J
open Go.Hp
open Go.Mem (Ty KTy blk elemAt addr_add addr_add_add pre suf aget aset adel apos Stamps aggDesc spliceAt)
section
variable{P:Program}{w0:World}{ops:Array Oper}{Q:Exit→Act→World→Prop}{n:Nat}{E:Env}{H:Heap}{o:Oper}{rest:List Oper}
theorem at_push{w:World}(ha:At w0 H w)(ob:Obj):At w0 (H.push ob) (w.alloc ob):=⟨by show w.heap.push ob=_;rw[ha.heap],ha.os,ha.tape,ha.output⟩
structure New(H H':Heap)(g:Nat)(ob:Obj):Prop where
 at_:g=H.size
 is:H'[g]?=some ob
 chg:∀S,Chg S H H'
 size:H'.size=H.size+1
theorem new_push(H:Heap)(ob:Obj):New H (H.push ob) H.size ob:=⟨rfl,get_push H ob,fun S=>Chg.push H ob S,by simp⟩
theorem l_new{v:Nat→Value}{ob:Obj}(hk:okOp ops n E o=true)(hr:∀w:World,w.heap=H→(execOp (ev E) o).run P w=.ok (.value (v w.heap.size)) (w.alloc ob))
  (h:∀g H',New H H' g ob→JL P w0 ops Q n rest (put E o.dst (v g)) H'):JL P w0 ops Q n (o::rest) E H:=by
 refine l_run (R:=fun v' H'=>v'=v H.size∧New H H' H.size ob) hk (fun w ha=>⟨_,_,hr w ha.heap,?_,?_,?_⟩) ?_
 .exact ⟨rfl,ha.os,ha.tape,ha.output⟩
 .rw [ha.heap]
 .have:=at_push ha ob;rw[this.heap];exact new_push H ob
 .rintro _ H' ⟨rfl,hn⟩;exact h _ _ hn
theorem l_box{t:TypeId}{x:Operand}(ho:o.op=.box t x)(u:Value)(cs:Array Value)(hk:okOp ops n E o=true)(hx:ev E x=u)(hc:u.cells=cs)
  (h:∀g H',New H H' g (.cells cs t (0,0))→JL P w0 ops Q n rest (put E o.dst (.pointer (some ⟨g,0,none⟩))) H'):JL P w0 ops Q n (o::rest) E H:=by
 refine l_new (v:=fun g=>.pointer (some ⟨g,0,none⟩)) hk (fun w _=>?_) h;unfold execOp;simp only[ho,hx];exact Mem.run_v (by simp[Instr.box,newVar,newRow,hc])
theorem l_alloc{t:TypeId}(ho:o.op=.alloc t)(z:Value)(cs:Array Value)(hk:okOp ops n E o=true)(hz:∀w,(zeroValue t).run P w=.ok z w)(hc:z.cells=cs)
  (h:∀g H',New H H' g (.cells cs t (0,0))→JL P w0 ops Q n rest (put E o.dst (.pointer (some ⟨g,0,none⟩))) H'):JL P w0 ops Q n (o::rest) E H:=by
 refine l_new (v:=fun g=>.pointer (some ⟨g,0,none⟩)) hk (fun w _=>?_) h;unfold execOp;simp only[ho];exact Mem.run_v (by simp[Instr.alloc,newVar,newRow,hz,hc])
theorem l_makeMap{t:TypeId}(ho:o.op=.makeMap t none)(hk:okOp ops n E o=true)
  (h:∀g H',New H H' g (.map #[] 0)→JL P w0 ops Q n rest (put E o.dst (.map (some g))) H'):JL P w0 ops Q n (o::rest) E H:=by
 refine l_new (v:=fun g=>.map (some g)) hk (fun w _=>?_) h;unfold execOp;simp only[ho];exact Mem.run_v (by simp[Instr.makeMap])
def builtCells(P:Program)(t:TypeId)(len:Nat)(parts:List (Nat×Value)):Option (TypeId×Array Value):=
 match P.underlying t with
 | some (.slice e)=>match P.info? e with
  | some i=>match i.zero with
   | some z=>if len*i.size>2 ^ 24 then none else
    (Instr.fill (fun j=>some (j*i.size,i.size)) ((Array.range (len*i.size)).map ((if len*i.size=0 then #[] else z.cells)[· % (if len*i.size=0 then #[] else z.cells).size]!)) parts).map fun c=>(e,c)
   | none=>none
  | none=>none
 | _=>none
theorem l_buildSlice{t:TypeId}{len:Nat}{ps:Array (Nat×Operand)}(ho:o.op=.buildSlice t len ps)(pl:List (Nat×Value))(e:TypeId)(cs:Array Value)(hk:okOp ops n E o=true)(hpl:(ps.toList.map fun p=>(p.1,ev E p.2))=pl)(hb:builtCells P t len pl=some (e,cs))
  (h:∀g H',New H H' g (.cells cs e (0,0))→JL P w0 ops Q n rest (put E o.dst (.slice (some ⟨g,0,none⟩) len len)) H'):JL P w0 ops Q n (o::rest) E H:=by
 refine l_new (v:=fun g=>.slice (some ⟨g,0,none⟩) len len) hk (fun w _=>?_) h;have hp:(ps.map fun (i,x)=>(i,ev E x))=pl.toArray:=by rw[←hpl];apply Array.ext';simp
 unfold execOp;simp only[ho,hp];refine Mem.run_v ?_;unfold builtCells at hb;cases hu:P.underlying t with
 | none=>rw[hu]at hb;simp at hb
 | some d=>
  rw[hu]at hb;cases d<;>simp only at hb<;>first|(simp at hb;done)|skip
  rename_i e'
  cases hi:P.info? e' with
  | none=>rw[hi]at hb;simp at hb
  | some i=>
   rw[hi]at hb;simp only at hb;cases hz:i.zero with
   | none=>rw[hz]at hb;simp at hb
   | some z=>
    rw[hz]at hb;simp only at hb;by_cases h24:len*i.size>2 ^ 24
    .rw [if_pos h24]at hb;simp at hb
    rw[if_neg h24]at hb;simp only[Option.map_eq_some_iff,Prod.mk.injEq]at hb;obtain⟨c,hf,rfl,rfl⟩:=hb;by_cases h0:len*i.size=0
    .have hf':Instr.fill (fun j=>some (j*i.size,i.size)) #[] pl=some c:=by
      simp only[h0,if_true,Array.range_zero',List.map_toArray,List.map_nil]at hf;exact hf
     simp only[Instr.buildSlice,Sem.run_bind,run_underlying hu,Result.andThen_ok,sizeOf,typeInfo,program,Sem.run,hi,Sem.run_pure,h24,if_false,h0,if_true,Array.range_zero',List.map_toArray,List.map_nil,hf'];simp[newRow]
    simp only[h0,if_false]at hf;simp only[Instr.buildSlice,Sem.run_bind,run_underlying hu,Result.andThen_ok,sizeOf,typeInfo,program,Sem.run,hi,Sem.run_pure,h24,if_false,h0,hf,zeroValue,hz];simp[newRow]
/-! ### Loads -/
def scalarT(P:Program)(t:TypeId):Bool:=match P.underlying t with|some d=>!aggDesc d|none=>false
def aggT(P:Program)(t:TypeId)(m:Nat):Bool:=(match P.underlying t with|some d=>aggDesc d|none=>false)&&(match P.info? t with|some i=>Nat.beq i.size m|none=>false)
theorem run_isAgg{t:TypeId}{d:TypeDesc}(h:P.underlying t=some d)(w:World):(isAgg t).run P w=.ok (aggDesc d) w:=by
 unfold isAgg;rw[Sem.run_bind,run_underlying h,Result.andThen_ok];cases d<;>rfl
theorem run_loadC{t:TypeId}(ht:scalarT P t=true){w:World}{p:Addr}{u:Value}(hc:w.cell? p=some u):(loadVar t p).run P w=.ok u w:=by
 unfold scalarT at ht;cases hu:P.underlying t with
 | none=>rw[hu]at ht;simp at ht
 | some d=>
  rw[hu]at ht;unfold loadVar;rw[Sem.run_bind,run_isAgg hu,Result.andThen_ok];have:aggDesc d=false:=by simpa using ht
  rw[this];simp[load,Sem.run,hc]
theorem run_loadA{t:TypeId}{m:Nat}(ht:aggT P t m=true){w:World}{g k:Nat}{arr:Array Value}{e:TypeId}{fr:Nat×Nat}(hB:w.heap[g]?=some (.cells arr e fr))(cs:Array Value)(hl:cs.size=m)(hc:∀j u,cs[j]?=some u→arr[k+j]?=some u):
  (loadVar t ⟨g,k,none⟩).run P w=.ok (.agg cs) w:=by
 unfold aggT at ht;rw[Bool.and_eq_true]at ht;cases hu:P.underlying t with
 | none=>rw[hu]at ht;simp at ht
 | some d=>
  rw[hu]at ht;cases hi:P.info? t with
  | none=>rw[hi]at ht;simp at ht
  | some i=>
   rw[hi]at ht;have hs:i.size=m:=Nat.eq_of_beq_eq_true ht.2;have hd:aggDesc d=true:=ht.1;have hs':(sizeOf t).run P w=.ok m w:=by simp[sizeOf,typeInfo,hi,hs]
   have hload:=run_loadCells_list (P:=P) w ⟨g,k,none⟩ cs.toList (fun j u hj=>by rw[addr_add,cell_of_row w g (k+j) arr e fr hB];exact hc j u (by simpa using hj));unfold loadVar;rw[Sem.run_bind,run_isAgg hu,Result.andThen_ok,hd];simp only[if_true,Sem.run_bind,hs',Result.andThen_ok];have hl':cs.toList.length=m:=by simpa using hl
   rw[hl']at hload;rw[hload];simp
theorem run_loadX{t:TypeId}{m:Nat}(ht:aggT P t m=true){H:Heap}{w:World}(hw:w.heap=H){g k:Nat}{arr:Array Value}{e:TypeId}{fr:Nat×Nat}(hB:H[g]?=some (.cells arr e fr))(cs:Array Value)(hl:cs.size=m)(hc:arr.toList.extract k (k+m)=cs.toList):
  (loadVar t ⟨g,k,none⟩).run P w=.ok (.agg cs) w:=by
 refine run_loadA ht (by rw[hw];exact hB) cs hl (fun j u hj=>?_);have h1:cs.toList[j]?=some u:=by simpa using hj
 rw[←hc,List.extract_eq_take_drop,List.getElem?_take]at h1;split at h1
 .rw [List.getElem?_drop]at h1;simpa using h1
 .cases h1
/-! ### Stores -/
theorem setRow_heap'(w:World)(g:Nat)(cs cur:Array Value)(t:TypeId)(fr:Nat×Nat)(h:w.heap[g]?=some (.cells cur t fr)):(w.setRow g cs).heap[g]?=some (.cells cs t fr):=setRow_heap w g cur cs t fr h
theorem run_storeR{t:TypeId}{i:TypeInfo}(hi:P.info? t=some i){w:World}{g k:Nat}{arr:Array Value}{e:TypeId}(hB:w.heap[g]?=some (.cells arr e (0,0)))(u:Value)(hs:u.cells.size=i.size)(hfit:k+u.cells.size≤arr.size)(h1:∀c∈u.cells.toList,c.oneCell'=true):
  (storeVar t ⟨g,k,none⟩ u).run P w=.ok () (w.setRow g (spliceAt arr.toList k u.cells.toList).toArray):=by
 have hst:=run_storeCells_at P g k e u.cells.toList 0 arr w hB (by simpa using hfit) h1;unfold storeVar;have:(sizeOf t).run P w=.ok i.size w:=by simp[sizeOf,typeInfo,hi]
 rw[Sem.run_bind,this,Result.andThen_ok];simp only[hs,ne_eq,not_true_eq_false,if_false];simpa [spliceAt]using hst
def sizeT(P:Program)(t:TypeId)(m:Nat):Bool:=match P.info? t with|some i=>Nat.beq i.size m|none=>false
structure Put(H H':Heap)(g:Nat)(ob:Obj):Prop where
 is:H'[g]?=some ob
 chg:Chg (fun k=>k=g) H H'
 size:H'.size=H.size
theorem l_store{t:TypeId}{x y:Operand}(ho:o.op=.store t x y)(g k m:Nat)(arr arr':Array Value)(e:TypeId)(u:Value)(hk:okOp ops n E o=true)(hx:ev E x=.pointer (some ⟨g,k,none⟩))(hy:ev E y=u)(hs:sizeT P t m=true)(hB:H[g]?=some (.cells arr e (0,0)))(hm:u.cells.size=m)(hfit:Nat.ble (k+m) arr.size=true)(h1:(u.cells.toList.all fun c=>c.oneCell')=true)(ha':(spliceAt arr.toList k u.cells.toList)=arr'.toList)
  (h:∀H',Put H H' g (.cells arr' e (0,0))→JL P w0 ops Q n rest (put E o.dst undef) H'):JL P w0 ops Q n (o::rest) E H:=by
 refine l_runs (R:=fun H'=>Put H H' g (.cells arr' e (0,0))) hk (fun w ha=>?_) h;unfold sizeT at hs;cases hi:P.info? t with
 | none=>rw[hi]at hs;simp at hs
 | some i=>
  rw[hi]at hs;have hsz:i.size=m:=Nat.eq_of_beq_eq_true hs;have hB':w.heap[g]?=some (.cells arr e (0,0)):=by rw[ha.heap];exact hB
  have hrun:=run_storeR (P:=P) hi hB' u (by omega) (k:=k) (by rw[hm];exact Nat.le_of_ble_eq_true hfit) (fun c hc=>List.all_eq_true.1 h1 c hc);refine⟨w.setRow g (spliceAt arr.toList k u.cells.toList).toArray,?_,⟨rfl,ha.os,ha.tape,ha.output⟩,?_,?_,?_⟩
  .unfold execOp;simp only[ho,hx,hy];exact Mem.run_u (by unfold Instr.storeAt Instr.sureAddr;rw[Sem.run_bind,Sem.run_pure,Result.andThen_ok];exact hrun)
  .rw [setRow_heap' w g _ arr e (0,0) hB',ha']
  .refine ⟨by rw[←ha.heap];simp,fun j hj hne=>?_⟩;rw[←ha.heap];exact setRow_other w g j _ hne
  rw[←ha.heap];simp
theorem l_storeE{α:Type}{T:Ty α}{t:TypeId}{x y:Operand}(ho:o.op=.store t x y)(hT:T.Ok P)(v:Value)(k j m:Nat)(z z':α)(u:Value)(L:List α)(hk:okOp ops n E o=true)(hx:ev E x=.pointer (some ((elemAt T.size v k).add j)))(hy:ev E y=u)(hs:sizeT P t m=true)(hv:Ow H T v L)(hz:L[k]?=some z)(hm:u.cells.size=m)(hfit:Nat.ble (j+m) T.size=true)(h1:(u.cells.toList.all fun c=>c.oneCell')=true)(he:T.enc z'=spliceAt (T.enc z) j u.cells.toList)
  (h:∀H',Ow H' T v (L.set k z')→Chg (fun b=>blk v=some b) H H'→JL P w0 ops Q n rest (put E o.dst undef) H'):JL P w0 ops Q n (o::rest) E H:=by
 refine l_runs (R:=fun H'=>Ow H' T v (L.set k z')∧Chg (fun b=>blk v=some b) H H') hk (fun w ha=>?_) (fun H' ⟨a1,a2⟩=>h H' a1 a2);unfold sizeT at hs;cases hi:P.info? t with
 | none=>rw[hi]at hs;simp at hs
 | some i=>
  rw[hi]at hs;have hsz:i.size=m:=Nat.eq_of_beq_eq_true hs;have hv':Mem.Ow w T v L:=by have:=hv;rw[←ha.heap]at this;exact this
  obtain⟨w',hr,h2,h3⟩:=Mem.run_storePart (P:=P) hv' hT hz (j:=j) (by have:=Nat.le_of_ble_eq_true hfit;simp;omega) (fun c hc=>List.all_eq_true.1 h1 c hc) he;refine⟨w',?_,⟨rfl,h3.os.trans ha.os,h3.tape.trans ha.tape,h3.output.trans ha.output⟩,h2,?_⟩
  .unfold execOp;simp only[ho,hx,hy];refine Mem.run_u ?_;unfold Instr.storeAt Instr.sureAddr storeVar;have:(sizeOf t).run P w=.ok i.size w:=by simp[sizeOf,typeInfo,hi]
   rw[Sem.run_bind,Sem.run_pure,Result.andThen_ok,Sem.run_bind,this,Result.andThen_ok];simp only[show u.cells.size=i.size by omega,ne_eq,not_true_eq_false,if_false];exact hr
  rw[←ha.heap];exact Chg.of_mem h3
/-! ### Slices -/
section
variable{α:Type}{T:Ty α}{v:Value}{L M:List α}
structure Apd(H H':Heap)(T:Ty α)(v v':Value)(L:List α):Prop where
 ow:Ow H' T v' L
 chg:Chg (fun k=>blk v=some k) H H'
 moved:Moved H v v'
theorem l_append{s x:Operand}{t:TypeId}(ho:o.op=.call { callee:=.builtin .append,args:=#[s,x],argTypes:=#[t,t] })(hT:T.Ok P)(ht:P.underlying t=some (.slice T.id))(v2:Value)(hk:okOp ops n E o=true)(hs:ev E s=v)(hx:ev E x=v2)(hv:Ow H T v L)(h2:Sl H T v2 M)(hb:(L.length+M.length)*T.bytes≤140737488355328)(h63:L.length+M.length≤9223372036854775807)
  (h:∀v' H',Apd H H' T v v' (L++M)→JL P w0 ops Q n rest (put E o.dst v') H'):JL P w0 ops Q n (o::rest) E H:=by
 refine l_run (R:=fun v' H'=>Apd H H' T v v' (L++M)) hk (fun w ha=>?_) h;have hv':Mem.Ow w T v L:=by have:=hv;rw[←ha.heap]at this;exact this
 have h2':Mem.Sl w T v2 M:=by have:=h2;rw[←ha.heap]at this;exact this
 obtain⟨v',w',hr,q1,q2,q3,_⟩:=Mem.run_append (ty:=o.type) hT ht hv' h2' hb h63;refine⟨v',w',?_,⟨rfl,q2.os.trans ha.os,q2.tape.trans ha.tape,q2.output.trans ha.output⟩,q1,?_,?_⟩
 .unfold execOp;simp only[ho,resolve,invoke,builtin,Sem.run_bind,Sem.run_pure,Result.andThen_ok,List.map_toArray,List.map_cons,List.map_nil,hs,hx,hr]
 .rw [←ha.heap];exact Chg.of_mem q2
 .intro g hg;rw[←ha.heap];exact q3 g hg
theorem l_make{t:TypeId}{x y:Operand}(ho:o.op=.makeSlice t x y)(hT:T.Ok P)(ht:P.underlying t=some (.slice T.id))(q q':IntKind)(k:Int)(hk:okOp ops n E o=true)(hx:ev E x=.int q k)(hy:ev E y=.int q' k)(h0:0≤k)(hb:T.bytes*k.toNat≤281474976710656)(h63:k≤9223372036854775807)
  (h:∀g H' v',g=H.size→Ow H' T v' (List.replicate k.toNat T.zero)→(∀S,Chg S H H')→blk v'=some g→H'.size=H.size+1→JL P w0 ops Q n rest (put E o.dst v') H'):JL P w0 ops Q n (o::rest) E H:=by
 refine l_run (R:=fun v' H'=>Ow H' T v' (List.replicate k.toNat T.zero)∧(∀S,Chg S H H')∧blk v'=some H.size∧H'.size=H.size+1) hk (fun w ha=>?_) (fun v' H' ⟨a1,a2,a3,a4⟩=>h _ H' v' rfl a1 a2 a3 a4);obtain⟨i,hi,hsz,hby,hz⟩:=hT.info;have e:k=(k.toNat:Int):=by omega
 have hb2:((T.bytes*k.toNat:Nat):Int)≤281474976710656:=by omega
 rw[Int.natCast_mul,←hby]at hb2;have hr:=run_make (P:=P) w t T.id i _ ht hi hz q q' k.toNat k.toNat (by omega) (Int.le_refl _) hb2 (by omega);rw[hsz]at hr;simp only[Int.toNat_natCast]at hr;refine⟨.slice (some ⟨w.heap.size,0,none⟩) k.toNat k.toNat,w.alloc (.cells (madeCells (T.val T.zero).cells (k.toNat*T.size)) T.id),?_,⟨rfl,ha.os,ha.tape,ha.output⟩,?_,?_,?_,?_⟩
 .unfold execOp;simp only[ho,hx,hy];rw[e];exact Mem.run_v hr
 .refine .inr ⟨w.heap.size,k.toNat,_,by simp,heap_alloc_new w _,by simp,by unfold maxLen;omega,?_,?_⟩
  .simp [size_madeCells]
  rw[Mem.madeCells_flat hT,List.length_replicate];have:=hT.flat_len (List.replicate k.toNat T.zero);rw[List.length_replicate]at this;rw[←this,List.take_length]
 .intro S;rw[←ha.heap];exact Chg.push w.heap _ S
 .rw [←ha.heap];rfl
 .rw [←ha.heap];simp
end
/-! ### Maps -/
section
variable{κ β:Type}[DecidableEq κ]{K:KTy κ}{V:β→Value}{b:Nat}{m:List (κ×β)}
structure Upd(H H':Heap)(K:KTy κ)(V:β→Value)(b:Nat)(m:List (κ×β)):Prop where
 mp:Mp H' K V b m
 chg:Chg (fun j=>j=b) H H'
theorem l_update{x y z:Operand}{t e:TypeId}(ho:o.op=.mapUpdate t x y z)(hK:KTy.Ok (β:=β) K P)(ht:P.underlying t=some (.map K.id e))(k:κ)(u:β)(hk:okOp ops n E o=true)(hx:ev E x=.map (some b))(hy:ev E y=K.val k)(hu:ev E z=V u)(hm:Mp H K V b m)
  (h:∀H',Upd H H' K V b (aset m k u)→JL P w0 ops Q n rest (put E o.dst undef) H'):JL P w0 ops Q n (o::rest) E H:=by
 refine l_runs (R:=fun H'=>Upd H H' K V b (aset m k u)) hk (fun w ha=>?_) h;have hm':Mem.Mp w K V b m:=by have:=hm;rw[←ha.heap]at this;exact this
 obtain⟨w',hr,h1,h2⟩:=Mem.run_update hm' hK ht k u;refine⟨w',?_,⟨rfl,h2.os.trans ha.os,h2.tape.trans ha.tape,h2.output.trans ha.output⟩,h1,?_⟩
 .unfold execOp;simp only[ho,hx,hy,hu];exact Mem.run_u hr
 .rw [←ha.heap];exact Chg.of_mem h2
end
/-! ### Calls -/
def isFn (P : Program) (f : FuncId) : Bool := match P.funcs[f]? with | some fn => !(fn.name == "runtime.NumGoroutine") && fn.body.isSome | none => false
theorem run_callFunc{f:FuncId}(hf:isFn P f=true)(args:Array Value)(w:World):(callFunc f args).run P w=.ok (.enter f args) w:=by
 unfold isFn at hf;cases h:P.funcs[f]? with
 | none=>rw[h]at hf;simp at hf
 | some fn=>
  rw[h]at hf;simp only[Bool.and_eq_true,Bool.not_eq_true']at hf;obtain⟨h1,h2⟩:=hf;cases hb:fn.body with
  | none=>rw[hb]at h2;simp at h2
  | some c=>
   simp only[callFunc,program,Sem.run_bind,Sem.run,Result.andThen_ok,h,h1,hb];rfl
theorem l_enter{f:FuncId}{vals:Array Value}{R:Value→Heap→Prop}(hk:okOp ops n E o=true)(hrun:∀w,(execOp (ev E) o).run P w=.ok (.enter f vals) w)(hc:HC P f vals H R)
  (h:∀v H',R v H'→JL P w0 ops Q n rest (put E o.dst v) H'):JL P w0 ops Q n (o::rest) E H:=by
 intro a w hf ha;unfold okOp at hk;simp only[Bool.and_eq_true]at hk;obtain⟨⟨⟨h1,h2⟩,h3⟩,h4⟩:=hk;unfold wpList;rw[if_pos (want_spec hf h1)];refine .inl ?_;unfold Oper.wp;rw[exec_eq hf h2 h4,hrun w];simp only[Oper.upon];refine (hc w ha.heap).mono fun e w' ⟨v,he,hat,hR⟩=>?_
 subst he;exact h v _ hR _ w' (hf.put o.dst v h3) (ha.trans hat)
theorem l_call{f:FuncId}{xs:Array Operand}{ts:Array TypeId}(ho:o.op=.call { callee:=.value (.func f),args:=xs,argTypes:=ts })(vals:List Value){R:Value→Heap→Prop}(hk:okOp ops n E o=true)(hx:(xs.toList.map (ev E))=vals)(hfn:isFn P f=true)(hc:HC P f vals.toArray H R)
  (h:∀v H',R v H'→JL P w0 ops Q n rest (put E o.dst v) H'):JL P w0 ops Q n (o::rest) E H:=by
 have hx':xs.map (ev E)=vals.toArray:=by rw[←hx];apply Array.ext';simp
 refine l_enter hk (fun w=>?_) hc h;unfold execOp;simp only[ho,resolve,Deferred.ofValue,ev,Sem.run_bind,Sem.run_pure,Result.andThen_ok,invoke,hx',Array.empty_append,Array.append_empty];exact run_callFunc hfn _ w
end
end Go.J
end
section
set_option linter.unusedSimpArgs false
set_option linter.unusedVariables false
namespace Go.J
open Go.Mem (aggDesc)
def fitsK:Nat→Value→Bool
 | 0,.int .i64 _=>true
 | 1,.string _=>true
 | 2,.bool _=>true
 | _,_=>false
def fitsL:List Nat→List Value→Bool
 | [],[]=>true
 | k::ks,v::vs=>fitsK k v&&fitsL ks vs
 | _,_=>false
def cellEq:Value→Value→Bool
 | .int _ a,.int _ b=>decide (a=b)
 | .string a,.string b=>decide (a=b)
 | .bool a,.bool b=>decide (a=b)
 | _,_=>false
def cellsEq:List Value→List Value→Bool
 | [],[]=>true
 | x::xs,y::ys=>cellEq x y&&cellsEq xs ys
 | _,_=>false
mutual
def kindsOf(P:Program):Nat→TypeId→Option (List Nat)
 | 0,_=>none
 | d+1,t=>
  match P.underlying t with
  | some (.int .i64)=>some [0]
  | some .string=>some [1]
  | some .bool=>some [2]
  | some (.struct fs)=>if P.stoodInHeld t then none else
   match kindsOfFields P d fs.toList 0 with
   | some ks=>(match P.info? t with|some i=>if Nat.beq i.size ks.length then some ks else none|none=>none)
   | none=>none
  | _=>none
def kindsOfFields(P:Program):Nat→List Field→Nat→Option (List Nat)
 | _,[],_=>some []
 | 0,_::_,_=>none
 | d+1,f::fs,off=>
  if f.name ≠ "_" ∧ f.offset = off then
   match kindsOf P d f.type with
   | some ks=>(match kindsOfFields P d fs (off+ks.length) with|some ks'=>some (ks++ks')|none=>none)
   | none=>none
  else none
end
theorem fitsL_len:∀{ks:List Nat}{vs:List Value},fitsL ks vs=true→vs.length=ks.length
 | [],[],_=>rfl
 | k::ks,v::vs,h=>by simp only[fitsL,Bool.and_eq_true]at h;simp[fitsL_len h.2]
 | [],_::_,h=>by simp[fitsL]at h
 | _::_,[],h=>by simp[fitsL]at h
theorem fitsL_append:∀{ks ks':List Nat}{vs:List Value},fitsL (ks++ks') vs=true→fitsL ks (vs.take ks.length)=true∧fitsL ks' (vs.drop ks.length)=true
 | [],ks',vs,h=>by simpa [fitsL]using h
 | k::ks,ks',[],h=>by simp[fitsL]at h
 | k::ks,ks',v::vs,h=>by
  simp only[List.cons_append,fitsL,Bool.and_eq_true]at h;have:=fitsL_append h.2;simp[fitsL,h.1,this.1,this.2]
theorem cellsEq_append:∀(n:Nat) (xs ys:List Value),xs.length=ys.length→cellsEq xs ys=(cellsEq (xs.take n) (ys.take n)&&cellsEq (xs.drop n) (ys.drop n))
 | 0,xs,ys,_=>by simp[cellsEq]
 | n+1,[],[],_=>by simp[cellsEq]
 | n+1,x::xs,y::ys,h=>by
  simp only[List.take_succ_cons,List.drop_succ_cons,cellsEq];rw[cellsEq_append n xs ys (by simpa using h),Bool.and_assoc]
 | n+1,[],y::ys,h=>by simp at h
 | n+1,x::xs,[],h=>by simp at h
section
variable{P:Program}
def ofCells(P:Program)(t:TypeId)(vs:List Value):Value:=match P.underlying t with|some (.struct _)=>.agg vs.toArray|_=>vs.headD undef
theorem part_cells{t:TypeId}{d:Nat}{ks:List Nat}(hk:kindsOf P d t=some ks)(xs:Array Value)(off:Nat)(hfit:fitsL ks ((xs.toList.drop off).take ks.length)=true)(w:World):
  (part t xs off).run P w=.ok (ofCells P t ((xs.toList.drop off).take ks.length)) w:=by
 cases d with
 | zero=>simp[kindsOf]at hk
 | succ d=>
  unfold kindsOf at hk;cases hu:P.underlying t with
  | none=>rw[hu]at hk;simp at hk
  | some u=>
   rw[hu]at hk;have hlen:=fitsL_len hfit;have scalar:aggDesc u=false→ks.length=1→(part t xs off).run P w=.ok (ofCells P t ((xs.toList.drop off).take ks.length)) w:=by
    intro ha h1;unfold part;rw[Sem.run_bind,run_isAgg hu,Result.andThen_ok,ha];rw[h1]at hlen⊢;obtain⟨v,hv⟩:=List.length_eq_one_iff.1 hlen;have hx:xs[off]?=some v:=by
     have:=congrArg (·[0]?) hv;simpa [List.getElem?_take,List.getElem?_drop]using this
    rw[hv];simp only[Bool.false_eq_true,if_false,hx];unfold ofCells;rw[hu];cases u<;>simp[aggDesc]at ha<;>rfl
   cases u<;>first|(simp at hk;done)|skip
   case int q=>cases q<;>first|(simp at hk;done)|(simp only[Option.some.injEq]at hk;exact scalar rfl (by rw[←hk];rfl))
   case bool=>simp only[Option.some.injEq]at hk;exact scalar rfl (by rw[←hk];rfl)
   case string=>simp only[Option.some.injEq]at hk;exact scalar rfl (by rw[←hk];rfl)
   case struct fs=>
    simp only at hk;split at hk
    .simp at hk
    cases hf:kindsOfFields P d fs.toList 0 with
    | none=>rw[hf]at hk;simp at hk
    | some ks'=>
     rw[hf]at hk;cases hi:P.info? t with
     | none=>rw[hi]at hk;simp at hk
     | some i=>
      rw[hi]at hk;simp only at hk;split at hk
      .rename_i hs;simp only[Option.some.injEq]at hk;subst hk;have hs:=Nat.eq_of_beq_eq_true hs;unfold part;rw[Sem.run_bind,run_isAgg hu,Result.andThen_ok];simp only[aggDesc,if_true,Sem.run_bind,sizeOf,typeInfo,program,Sem.run,Result.andThen_ok,hi,Sem.run_pure,hs];unfold ofCells;rw[hu];congr 2;apply Array.ext';simp[List.take_drop,Array.toList_extract,List.extract_eq_take_drop]
      simp at hk
mutual
theorem equalIn_plain:∀(d:Nat) (t:TypeId) (ks:List Nat),kindsOf P d t=some ks→∀(xs ys:List Value),fitsL ks xs=true→fitsL ks ys=true→∀(D:Nat) (w:World),d≤D→
  (Op.equalIn D t (ofCells P t xs) (ofCells P t ys)).run P w=.ok (cellsEq xs ys) w
 | 0,_,_,hk,_,_,_,_,_,_,_=>by simp[kindsOf]at hk
 | d+1,t,ks,hk,xs,ys,hx,hy,D,w,hD=>by
  obtain⟨D,rfl⟩:∃D',D=D'+1:=⟨D-1,by omega⟩;unfold kindsOf at hk;cases hu:P.underlying t with
  | none=>rw[hu]at hk;simp at hk
  | some u=>
   rw[hu]at hk;cases u<;>first|(simp at hk;done)|skip
   case int q=>
    cases q<;>first|(simp at hk;done)|skip
    simp only[Option.some.injEq]at hk;subst hk;obtain⟨x,rfl⟩:=List.length_eq_one_iff.1 (fitsL_len hx);obtain⟨y,rfl⟩:=List.length_eq_one_iff.1 (fitsL_len hy);cases x<;>simp[fitsL,fitsK]at hx
    cases y<;>simp[fitsL,fitsK]at hy
    rename_i k a k' b
    cases k<;>simp[fitsK]at hx
    cases k'<;>simp[fitsK]at hy
    simp only[ofCells,hu,List.headD_cons];rw[run_equalIn_int w D t _ _ a b hu];simp[cellsEq,cellEq,Bool.beq_eq_decide_eq]
   case bool=>
    simp only[Option.some.injEq]at hk;subst hk;obtain⟨x,rfl⟩:=List.length_eq_one_iff.1 (fitsL_len hx);obtain⟨y,rfl⟩:=List.length_eq_one_iff.1 (fitsL_len hy);cases x<;>simp[fitsL,fitsK]at hx
    cases y<;>simp[fitsL,fitsK]at hy
    rename_i a b
    simp only[ofCells,hu,List.headD_cons];rw[run_equalIn_bool' w D t a b hu];simp[cellsEq,cellEq,Bool.beq_eq_decide_eq]
   case string=>
    simp only[Option.some.injEq]at hk;subst hk;obtain⟨x,rfl⟩:=List.length_eq_one_iff.1 (fitsL_len hx);obtain⟨y,rfl⟩:=List.length_eq_one_iff.1 (fitsL_len hy);cases x<;>simp[fitsL,fitsK]at hx
    cases y<;>simp[fitsL,fitsK]at hy
    rename_i a b
    simp only[ofCells,hu,List.headD_cons];rw[run_equalIn_string w D t a b hu,toList_eq];simp[cellsEq,cellEq]
   case struct fs=>
    simp only at hk;split at hk
    .simp at hk
    rename_i hst
    cases hf:kindsOfFields P d fs.toList 0 with
    | none=>rw[hf]at hk;simp at hk
    | some ks'=>
     rw[hf]at hk;cases hi:P.info? t with
     | none=>rw[hi]at hk;simp at hk
     | some i=>
      rw[hi]at hk;simp only at hk;split at hk
      .simp only[Option.some.injEq]at hk;subst hk;have hfo:P.fieldsOf t=fs:=by simp[Program.fieldsOf,hu]
       simp only[ofCells,hu];rw[run_equalIn_struct w D t _ _ (by rw[hfo];exact hu) (by simpa using hst),hfo];have:=eqFields_plain d fs.toList 0 ks' hf xs.toArray ys.toArray (by simpa using hx) (by simpa using hy) D w (by omega);simpa using this
      simp at hk
theorem eqFields_plain:∀(d:Nat) (fs:List Field) (off:Nat) (ks:List Nat),kindsOfFields P d fs off=some ks→∀(xs ys:Array Value),fitsL ks (xs.toList.drop off)=true→fitsL ks (ys.toList.drop off)=true→∀(D:Nat) (w:World),d≤D+1→
  (Op.eqFields D xs ys fs).run P w=.ok (cellsEq (xs.toList.drop off) (ys.toList.drop off)) w
 | _,[],off,ks,hk,xs,ys,hx,hy,D,w,_=>by
  unfold kindsOfFields at hk;simp only[Option.some.injEq]at hk;subst hk;have h1:=fitsL_len hx;have h2:=fitsL_len hy;rw[List.eq_nil_of_length_eq_zero h1,List.eq_nil_of_length_eq_zero h2];rfl
 | 0,_::_,_,_,hk,_,_,_,_,_,_,_=>by simp[kindsOfFields]at hk
 | d+1,f::fs,off,ks,hk,xs,ys,hx,hy,D,w,hD=>by
  unfold kindsOfFields at hk;split at hk
  .rename_i hn;cases h1:kindsOf P d f.type with
   | none=>rw[h1]at hk;simp at hk
   | some k1=>
    rw[h1]at hk;simp only at hk;cases h2:kindsOfFields P d fs (off+k1.length) with
    | none=>rw[h2]at hk;simp at hk
    | some k2=>
     rw[h2]at hk;simp only[Option.some.injEq]at hk;subst hk;have fx:=fitsL_append hx;have fy:=fitsL_append hy;rw[List.drop_drop]at fx fy;have px:=part_cells h1 xs off fx.1 w;have py:=part_cells h1 ys off fy.1 w;have he:=equalIn_plain d f.type k1 h1 _ _ fx.1 fy.1 D w (by omega);have ih:=eqFields_plain d fs (off+k1.length) k2 h2 xs ys fx.2 fy.2 D w (by omega);have hl:(xs.toList.drop off).length=(ys.toList.drop off).length:=(fitsL_len hx).trans (fitsL_len hy).symm;rw[cellsEq_append k1.length _ _ hl,List.drop_drop,List.drop_drop];unfold Op.eqFields;rw[if_pos hn.1,hn.2];simp only[Sem.run_bind,px,py,he,Result.andThen_ok];cases cellsEq ((xs.toList.drop off).take k1.length) ((ys.toList.drop off).take k1.length) with
     | true=>simp[ih]
     | false=>simp
  simp at hk
end
theorem run_eqS{t:TypeId}(ks:List Nat)(hk:kindsOf P 20 t=some ks)(hs:(match P.underlying t with|some (.struct _)=>true|_=>false)=true)(xs ys:Array Value)(hx:fitsL ks xs.toList=true)(hy:fitsL ks ys.toList=true)(w:World):
  (binOp .eql t (.agg xs) (.agg ys)).run P w=.ok (.bool (cellsEq xs.toList ys.toList)) w∧(binOp .neq t (.agg xs) (.agg ys)).run P w=.ok (.bool (!cellsEq xs.toList ys.toList)) w:=by
 have h:=equalIn_plain 20 t ks hk xs.toList ys.toList hx hy 10000 w (by omega);have ho:∀zs:Array Value,ofCells P t zs.toList=.agg zs:=by
  intro zs;unfold ofCells;cases hu:P.underlying t with
  | none=>rw[hu]at hs;simp at hs
  | some u=>rw[hu]at hs;cases u<;>simp at hs⊢
 rw[ho,ho]at h;refine⟨?_,?_⟩
 .rw [run_eql_struct,h];rfl
 .rw [run_neq_struct,h];rfl
end
end Go.J
end
section
set_option linter.unusedSimpArgs false
set_option linter.unusedVariables false
set_option linter.unusedSectionVars false
namespace Go.J
open Go.Hp
open Go.Mem (Ty KTy blk elemAt addr_add addr_add_add pre suf aget aset adel apos Stamps aggDesc spliceAt)
section
variable{P:Program}{w0:World}{Q:Exit→Act→World→Prop}{n:Nat}{E:Env}{H:Heap}{o:Oper}{rest l:List Oper}{S:Heap→Prop}{fuel:Nat}{listed:Array Bool}
structure Light(P:Program)(E:Env)(o:Oper)(H:Heap)(v:Value):Prop where
 run:∀w:World,w.heap=H→(execOp (ev E) o).run P w=.ok (.value v) w
theorem r_pure(v:Value)(hr:∀w,(execOp (ev E) o).run P w=.ok (.value v) w):Light P E o H v:=⟨fun w _=>hr w⟩
theorem r_add{t u:TypeId}{x y:Operand}(ho:o.op=.binOp .add t x y u)(a b:Int)(hx:ev E x=.int .i64 a)(hy:ev E y=.int .i64 b)(hb : -9223372036854775808≤a+b∧a+b≤9223372036854775807):Light P E o H ((.int .i64 (a+b))):=
 ⟨fun w _=>(bin_run ho _ _ hx hy eqg_int fun w=>by simp[binOp,Op.intArith,wrap64 hb,Sem.run_pure]) w⟩
theorem r_sub{t u:TypeId}{x y:Operand}(ho:o.op=.binOp .sub t x y u)(a b:Int)(hx:ev E x=.int .i64 a)(hy:ev E y=.int .i64 b)(hb : -9223372036854775808≤a-b∧a-b≤9223372036854775807):Light P E o H ((.int .i64 (a-b))):=
 ⟨fun w _=>(bin_run ho _ _ hx hy eqg_int fun w=>by simp[binOp,Op.intArith,wrap64 hb,Sem.run_pure]) w⟩
theorem r_mul{t u:TypeId}{x y:Operand}(ho:o.op=.binOp .mul t x y u)(a b:Int)(hx:ev E x=.int .i64 a)(hy:ev E y=.int .i64 b)(hb : -9223372036854775808≤a*b∧a*b≤9223372036854775807):Light P E o H ((.int .i64 (a*b))):=
 ⟨fun w _=>(bin_run ho _ _ hx hy eqg_int fun w=>by simp[binOp,Op.intArith,wrap64 hb,Sem.run_pure]) w⟩
theorem r_cmp{op:BinOp}{t u:TypeId}{x y:Operand}(ho:o.op=.binOp op t x y u)(k:IntKind)(a b:Int)(c:Bool)(hx:ev E x=.int k a)(hy:ev E y=.int k b)(hc:cmpI op a b=some c):Light P E o H ((.bool c)):=by
 refine⟨fun w _=>bin_run ho _ _ hx hy eqg_int (fun w=>?_) w⟩;cases op<;>simp only[cmpI,Option.some.injEq]at hc<;>first|(cases hc;done)|skip
 all_goals
  subst hc;simp only[binOp,ne_eq,not_true_eq_false,if_false,Op.intCmp];first
  | rfl
  | (simp[Sem.run_pure,bne,BEq.beq])
theorem r_eqS{op:BinOp}{t u:TypeId}{x y:Operand}(ho:o.op=.binOp op t x y u)(xs ys:Array Value)(c:Bool)(hx:ev E x=.agg xs)(hy:ev E y=.agg ys)(hg:P.eqGuardType P.depth t=false)(hr:∀w,(binOp op t (.agg xs) (.agg ys)).run P w=.ok (.bool c) w):Light P E o H ((.bool c)):=
 ⟨fun w _=>(bin_run ho _ _ hx hy (eqg_agg hg) hr) w⟩
theorem r_loadC{t:TypeId}{x:Operand}(ho:o.op=.load t x)(g k:Nat)(arr:Array Value)(e:TypeId)(fr:Nat×Nat)(u:Value)(hx:ev E x=.pointer (some ⟨g,k,none⟩))(ht:scalarT P t=true)(hB:H[g]?=some (.cells arr e fr))(hu:arr[k]?=some u):Light P E o H (u):=by
 refine⟨fun w hw=>?_⟩;unfold execOp;simp only[ho,hx];refine Mem.run_v ?_;unfold Instr.loadAt Instr.sureAddr;rw[Sem.run_bind,Sem.run_pure,Result.andThen_ok];exact run_loadC ht (by rw[cell_of_row w g k arr e fr (by rw[hw];exact hB)];exact hu)
theorem r_loadA{t:TypeId}{x:Operand}(ho:o.op=.load t x)(g k m:Nat)(arr:Array Value)(e:TypeId)(fr:Nat×Nat)(cs:Array Value)(hx:ev E x=.pointer (some ⟨g,k,none⟩))(ht:aggT P t m=true)(hB:H[g]?=some (.cells arr e fr))(hl:cs.size=m)(hc:arr.toList.extract k (k+m)=cs.toList):Light P E o H ((.agg cs)):=by
 refine⟨fun w hw=>?_⟩;unfold execOp;simp only[ho,hx];refine Mem.run_v ?_;unfold Instr.loadAt Instr.sureAddr;rw[Sem.run_bind,Sem.run_pure,Result.andThen_ok];refine run_loadA ht (by rw[hw];exact hB) cs hl (fun j u hj=>?_);have h1:cs.toList[j]?=some u:=by simpa using hj
 rw[←hc,List.extract_eq_take_drop,List.getElem?_take]at h1;split at h1
 .rw [List.getElem?_drop]at h1;simpa using h1
 cases h1
theorem r_loadE{α:Type}{T:Ty α}{t:TypeId}{x:Operand}(ho:o.op=.load t x)(hT:T.Ok P)(hid:T.id=t)(v:Value)(k:Nat)(y:α)(u:Value)(L:List α)(hx:ev E x=.pointer (some (elemAt T.size v k)))(hv:Sl H T v L)(hy:L[k]?=some y)(hu:T.val y=u):Light P E o H (u):=by
 subst hid hu;refine⟨fun w hw=>?_⟩;subst hw;unfold execOp;simp only[ho,hx];exact Mem.run_v (Mem.run_loadElem hv.mem hT hy)
theorem r_loadF{α:Type}{T:Ty α}{t:TypeId}{x:Operand}(ho:o.op=.load t x)(hT:T.Ok P)(v:Value)(k j:Nat)(y:α)(u:Value)(L:List α)(hx:ev E x=.pointer (some ((elemAt T.size v k).add j)))(ht:scalarT P t=true)(hv:Sl H T v L)(hy:L[k]?=some y)(hu:(T.enc y)[j]?=some u):Light P E o H (u):=by
 refine⟨fun w hw=>?_⟩;subst hw;unfold execOp;simp only[ho,hx];refine Mem.run_v ?_;unfold Instr.loadAt Instr.sureAddr;rw[Sem.run_bind,Sem.run_pure,Result.andThen_ok];exact run_loadC ht (hv.cell hT hy hu)
section
variable{α:Type}{T:Ty α}{v:Value}{L M:List α}
theorem r_len{x:Operand}{t:TypeId}(ho:o.op=.call { callee:=.builtin .len,args:=#[x],argTypes:=#[t] })(hT:T.Ok P)(ht:P.underlying t=some (.slice T.id))(hx:ev E x=v)(hv:Sl H T v L):Light P E o H ((.int .i64 L.length)):=by
 refine⟨fun w hw=>?_⟩;subst hw;unfold execOp;simp only[ho,resolve,invoke,builtin,Sem.run_bind,Sem.run_pure,Result.andThen_ok,List.map_toArray,List.map_cons,List.map_nil,hx,Mem.run_len hv.mem ht]
theorem r_index{x i:Operand}{t:TypeId}(ho:o.op=.indexAddr t x i)(hT:T.Ok P)(ht:P.underlying t=some (.slice T.id))(q:IntKind)(k:Int)(hx:ev E x=v)(hi:ev E i=.int q k)(hv:Sl H T v L)(h0:0≤k)(hl:k<L.length)(m:Nat)(hm:m=k.toNat):Light P E o H ((.pointer (some (elemAt T.size v m)))):=by
 subst hm;refine⟨fun w hw=>?_⟩;subst hw;have e:k=(k.toNat:Int):=by omega
 unfold execOp;simp only[ho,hx,hi];rw[e];exact Mem.run_v (Mem.run_index hv.mem hT ht (by omega) q)
theorem r_pre{x i:Operand}{t:TypeId}(ho:o.op=.slice t x none (some i) none)(hT:T.Ok P)(ht:P.underlying t=some (.slice T.id))(q:IntKind)(k:Int)(hx:ev E x=v)(hi:ev E i=.int q k)(hv:Sl H T v L)(h0:0≤k)(hl:k≤L.length)(m:Nat)(hm:m=k.toNat):Light P E o H ((pre v m)):=by
 subst hm;refine⟨fun w hw=>?_⟩;subst hw;unfold execOp;simp only[ho,hx,hi,Option.map_none,Option.map_some];exact Mem.run_v (Mem.run_pre hv.mem ht hT q k h0 hl)
theorem r_suf{x i:Operand}{t:TypeId}(ho:o.op=.slice t x (some i) none none)(hT:T.Ok P)(ht:P.underlying t=some (.slice T.id))(q:IntKind)(k:Int)(hx:ev E x=v)(hi:ev E i=.int q k)(hv:Sl H T v L)(h0:0≤k)(hl:k≤L.length)(m:Nat)(hm:m=k.toNat):Light P E o H ((suf T.size v m)):=by
 subst hm;refine⟨fun w hw=>?_⟩;subst hw;unfold execOp;simp only[ho,hx,hi,Option.map_none,Option.map_some];exact Mem.run_v (Mem.run_suf hv.mem ht hT q k h0 hl)
end
section
variable{κ β:Type}[DecidableEq κ]{K:KTy κ}{V:β→Value}{b:Nat}{m:List (κ×β)}
theorem r_lookup{x y:Operand}{t e:TypeId}(ho:o.op=.lookup t x y false)(hK:KTy.Ok (β:=β) K P)(ht:P.underlying t=some (.map K.id e))(z:Value)(hz:∀w,(zeroValue e).run P w=.ok z w)(k:κ)(hx:ev E x=.map (some b))(hy:ev E y=K.val k)(hm:Mp H K V b m):Light P E o H ((((aget m k).map V).getD z)):=by
 refine⟨fun w hw=>?_⟩;subst hw;unfold execOp;simp only[ho,hx,hy];exact Mem.run_v (Mem.run_lookup hm.mem hK ht k hz false)
theorem r_lookupOk{x y:Operand}{t e:TypeId}(ho:o.op=.lookup t x y true)(hK:KTy.Ok (β:=β) K P)(ht:P.underlying t=some (.map K.id e))(z:Value)(hz:∀w,(zeroValue e).run P w=.ok z w)(k:κ)(hx:ev E x=.map (some b))(hy:ev E y=K.val k)(hm:Mp H K V b m):Light P E o H ((.tuple #[((aget m k).map V).getD z,.bool (aget m k).isSome])):=by
 refine⟨fun w hw=>?_⟩;subst hw;unfold execOp;simp only[ho,hx,hy];exact Mem.run_v (Mem.run_lookup hm.mem hK ht k hz true)
end
theorem fin_panic{fn:Func}{R:Value→Heap→Prop}{c:List PanicEntry}{a:Act}{w:World}(h:Fin P fn w0 R (.panic c) a w):False:=by
 obtain⟨_,v,hv,_⟩:=h;cases hv
def NP(Q:Exit→Act→World→Prop):Prop:=∀c a w,Q (.panic c) a w→False
theorem np_then{K:Act→World→Prop}(h:NP Q):NP (Exit.then K Q):=h
theorem np_block{id:Nat}(h:NP Q):NP (Exit.inBlock id Q):=h
theorem np_fin{fn:Func}{R:Value→Heap→Prop}:NP (Fin P fn w0 R):=fun _ _ _ h=>fin_panic h
def JH(P:Program)(w0:World)(l:List Oper)(Q:Exit→Act→World→Prop)(n:Nat)(S:Heap→Prop)(fuel:Nat)(listed:Array Bool)(E:Env)(H:Heap):Prop:=
 ∀a w,Fits n a E→At w0 H w→wpAnyH P .any l.toArray Q (fun w=>S w.heap) fuel listed a w
def heldQ(P:Program)(l:List Oper)(Q:Exit→Act→World→Prop)(S:Heap→Prop)(fuel:Nat)(listed:Array Bool):Exit→Act→World→Prop
 | .normal,a,w=>S w.heap∧wpAnyH P .any l.toArray Q (fun w=>S w.heap) fuel listed a w
 | e,a,w=>Q e a w
theorem c_held{id:Nat}(S:Heap→Prop)(hm:P.follows .mixedOrders=true)(h:JH P w0 l Q n S l.length (Array.replicate l.length false) E H):JC P w0 (.region id l.toArray true) Q n E H:=
 fun a w hf ha=>wp_region_held hm (by simpa using h a w.drew hf ⟨ha.heap,ha.os,ha.tape,ha.output⟩)
def canTake(l:List Oper)(listed:Array Bool)(i:Nat):Bool:=Region.noSelect l.toArray&&Region.free .any l.toArray listed i&&(Region.ready .any l.toArray listed).contains i
theorem take_core(i:Nat)(hi:l[i]?=some o)(hc:canTake l listed i=true)(hQ:NP Q)(v:Value)(hd:dstOk n o.dst=true)(hy:∀a,Fits n a E→YieldsIf P l.toArray (fun w=>S w.heap) o v a)(hS:S H)
  (h:JH P w0 l Q n S fuel (listed.setIfInBounds i true) (put E o.dst v) H):JH P w0 l Q n S (fuel+1) listed E H:=by
 intro a w hf ha;unfold canTake at hc;simp only[Bool.and_eq_true]at hc;exact wpAnyH_take (by simpa using hi) hc.1.1 hc.1.2 hc.2 (fun c a w hp=>(hQ _ _ _ hp).elim) (hy a hf) (by show S w.heap;rw[ha.heap];exact hS) (h _ w (hf.put o.dst v hd) ha)
theorem h_light(i:Nat)(hi:l[i]?=some o)(hc:canTake l listed i=true)(hQ:NP Q)(hk:okOp l.toArray n E o=true){v:Value}(hy:∀Hh,S Hh→Light P E o Hh v)(hS:S H)
  (h:JH P w0 l Q n S fuel (listed.setIfInBounds i true) (put E o.dst v) H):JH P w0 l Q n S (fuel+1) listed E H:=by
 unfold okOp at hk;simp only[Bool.and_eq_true]at hk;obtain⟨⟨⟨h1,h2⟩,h3⟩,h4⟩:=hk;exact take_core i hi hc hQ v h3 (fun a hf=>.inl ⟨want_spec hf h1,fun w hw=>by rw[exec_eq hf h2 h4];exact (hy _ hw).run w rfl⟩) hS h
theorem h_skip(i:Nat)(hi:l[i]?=some o)(hc:canTake l listed i=true)(hQ:NP Q)(hu:unwant l.toArray E o=true)(hd:dstOk n o.dst=true)(hS:S H)
  (h:JH P w0 l Q n S fuel (listed.setIfInBounds i true) (put E o.dst undef) H):JH P w0 l Q n S (fuel+1) listed E H:=
 take_core i hi hc hQ undef hd (fun a hf=>.inr ⟨unwant_spec hf hu,rfl⟩) hS h
theorem h_step(i:Nat)(hi:l[i]?=some o)(hr:Region.ready .any l.toArray listed=[i])(h:JL P w0 l.toArray (heldQ P l Q S fuel (listed.setIfInBounds i true)) n [o] E H):JH P w0 l Q n S (fuel+1) listed E H:=by
 intro a w hf ha;refine wpAnyH_all hr (by simp) ?_;intro j hj;rw[List.mem_singleton]at hj;subst hj;have:=h a w hf ha;unfold wpOp;rw[show l.toArray[j]?=some o by simpa using hi];exact this
theorem x_held(hS:S H)(h:JH P w0 l Q n S fuel listed E H):JX w0 .normal (heldQ P l Q S fuel listed) n E H:=fun a w hf ha=>⟨by rw[ha.heap];exact hS,h a w hf ha⟩
theorem h_done(hr:Region.ready .any l.toArray listed=[])(h:JX w0 .normal Q n E H):JH P w0 l Q n S fuel listed E H:=fun a w hf ha=>wpAnyH_done hr (h a w hf ha) _
theorem h_fork(t:Nat)(c:Bool)(hh:has E t=true)(hv:look E t=.bool c)(h1:c=true→JH P w0 l Q n S fuel listed ((t,.bool true)::E) H)(h2:c=false→JH P w0 l Q n S fuel listed ((t,.bool false)::E) H):JH P w0 l Q n S fuel listed E H:=by
 have key:∀b,c=b→∀a,Fits n a E→Fits n a ((t,.bool b)::E):=fun b hb a hf=>hf.sub fun t' ht'=>by
  rw[look_cons];rw[has_cons]at ht';by_cases e:t=t'
  .subst e;rw[if_pos rfl,hv,hb];exact⟨hh,rfl⟩
  rw[if_neg e];exact⟨by simpa [e]using ht',rfl⟩
 cases hc:c with
 | true=>exact fun a w hf ha=>h1 hc a w (key _ hc a hf) ha
 | false=>exact fun a w hf ha=>h2 hc a w (key _ hc a hf) ha
end
end Go.J
end
section
set_option linter.unusedSimpArgs false
set_option linter.unusedVariables false
namespace Go.J
open Go.Hp
open Go.Mem (Ty blk)
section
variable{P:Program}{w0:World}{ops:Array Oper}{Q:Exit→Act→World→Prop}{n:Nat}{E:Env}{H:Heap}{o:Oper}{rest:List Oper}{α:Type}{T:Ty α}{v:Value}{L M:List α}{w:World}
theorem r_max {x y : Operand} {ts : Array TypeId} (ho : o.op = .call { callee := .builtin .max, args := #[x, y], argTypes := ts }) (k : IntKind) (a b : Int) (hx : ev E x = .int k a) (hy : ev E y = .int k b) : Light P E o H (.int k (if a < b then b else a)) :=
  ⟨fun w _ => by
    unfold execOp
    simp only [ho, resolve, invoke, builtin, Sem.run_bind, Sem.run_pure, Result.andThen_ok, List.map_toArray, List.map_cons, List.map_nil, hx, hy, Builtin.max_, List.foldlM_cons, List.foldlM_nil, Builtin.max2]⟩
end
end Go.J
end
section
set_option linter.unusedSimpArgs false
set_option linter.unusedVariables false
namespace Go.S
open Go.Hp Go.J
open Go.Mem (Ty KTy blk)
structure Asr where
 on:Heap→(Nat→Prop)→Prop
 lt:∀{H S},on H S→∀k,S k→k<H.size
 keep:∀{H H' S},on H S→(∀k,S k→H'[k]?=H[k]?)→on H' S
def SepL:List Asr→Heap→(Nat→Prop)→Prop
 | [],_,S=>∀k,¬S k
 | A::r,H,S=>∃S1 S2,A.on H S1∧SepL r H S2∧(∀k,S1 k→¬S2 k)∧∀k,S k↔S1 k∨S2 k
theorem SepL.lt:∀{As:List Asr}{H:Heap}{S:Nat→Prop},SepL As H S→∀k,S k→k<H.size
 | [],_,_,h,k,hk=>absurd hk (h k)
 | A::r,H,S,⟨S1,S2,h1,h2,_,hS⟩,k,hk=>by
  rcases (hS k).1 hk with h|h
  .exact A.lt h1 k h
  exact SepL.lt h2 k h
theorem SepL.keep:∀{As:List Asr}{H H':Heap}{S:Nat→Prop},SepL As H S→(∀k,S k→H'[k]?=H[k]?)→SepL As H' S
 | [],_,_,_,h,_=>h
 | A::r,H,H',S,⟨S1,S2,h1,h2,hd,hS⟩,hk=>⟨S1,S2,A.keep h1 fun k h=>hk k ((hS k).2 (.inl h)),SepL.keep h2 fun k h=>hk k ((hS k).2 (.inr h)),hd,hS⟩
theorem SepL.ext{As:List Asr}{H:Heap}{S S':Nat→Prop}(h:SepL As H S)(e:∀k,S k↔S' k):SepL As H S':=by
 have:S=S':=funext fun k=>propext (e k)
 rwa [←this]
theorem SepL.swap{A B:Asr}{r:List Asr}{H:Heap}{S:Nat→Prop}(h:SepL (A::B::r) H S):SepL (B::A::r) H S:=by
 obtain⟨S1,S2,h1,⟨S3,S4,h3,h4,hd',hS'⟩,hd,hS⟩:=h;refine⟨S3,fun k=>S1 k∨S4 k,h3,⟨S1,S4,h1,h4,fun k a b=>hd k a ((hS' k).2 (.inr b)),fun k=>Iff.rfl⟩,?_,?_⟩
 .rintro k a (b|b)
  .exact hd k b ((hS' k).2 (.inl a))
  exact hd' k a b
 intro k;rw[hS k,hS' k];constructor
 .rintro (a|a|a)<;>simp[a]
 rintro (a|a|a)<;>simp[a]
theorem SepL.cons{A:Asr}{r r':List Asr}{H:Heap}{S:Nat→Prop}(h:SepL (A::r) H S)(hr:∀S,SepL r H S→SepL r' H S):SepL (A::r') H S:=by
 obtain⟨S1,S2,h1,h2,hd,hS⟩:=h;exact⟨S1,S2,h1,hr _ h2,hd,hS⟩
theorem SepL.append_iff:∀{As Bs:List Asr}{H:Heap}{S:Nat→Prop},SepL (As++Bs) H S↔∃S1 S2,SepL As H S1∧SepL Bs H S2∧(∀k,S1 k→¬S2 k)∧∀k,S k↔S1 k∨S2 k
 | [],Bs,H,S=>by
  constructor
  .intro h;exact⟨fun _=>False,S,fun k h=>h,h,fun k h=>h.elim,fun k=>by simp⟩
  rintro⟨S1,S2,h1,h2,_,hS⟩;exact h2.ext fun k=>by rw[hS k];simp[h1 k]
 | A::r,Bs,H,S=>by
  constructor
  .rintro ⟨S1,S2,h1,h2,hd,hS⟩;obtain⟨S3,S4,h3,h4,hd',hS'⟩:=SepL.append_iff.1 h2;refine⟨fun k=>S1 k∨S3 k,S4,⟨S1,S3,h1,h3,fun k a b=>hd k a ((hS' k).2 (.inl b)),fun k=>Iff.rfl⟩,h4,?_,?_⟩
   .rintro k (a|a) b
    .exact hd k a ((hS' k).2 (.inr b))
    exact hd' k a b
   intro k;rw[hS k,hS' k];simp[or_assoc]
  rintro⟨S1,S2,⟨S3,S4,h3,h4,hd',hS'⟩,h2,hd,hS⟩;refine⟨S3,fun k=>S4 k∨S2 k,h3,SepL.append_iff.2 ⟨S4,S2,h4,h2,fun k a b=>hd k ((hS' k).2 (.inr a)) b,fun k=>Iff.rfl⟩,?_,?_⟩
  .rintro k a (b|b)
   .exact hd' k a b
   exact hd k ((hS' k).2 (.inl a)) b
  intro k;rw[hS k,hS' k];simp[or_assoc]
def gt:List Asr→Nat→Option Asr
 | [],_=>none
 | A::_,0=>some A
 | _::r,i+1=>gt r i
def upd:List Asr→Nat→Asr→List Asr
 | [],_,_=>[]
 | _::r,0,B=>B::r
 | A::r,i+1,B=>A::upd r i B
def del:List Asr→Nat→List Asr
 | [],_=>[]
 | _::r,0=>r
 | A::r,i+1=>A::del r i
theorem SepL.pull:∀{As:List Asr}{i:Nat}{A:Asr}{H:Heap}{S:Nat→Prop},gt As i=some A→SepL As H S→SepL (A::del As i) H S
 | [],i,A,_,_,e,_=>by cases i<;>cases e
 | B::r,0,A,_,_,e,h=>by cases e;exact h
 | B::r,i+1,A,_,_,e,h=>SepL.swap (h.cons fun _ hr=>SepL.pull (i:=i) e hr)
theorem SepL.push:∀{As:List Asr}{i:Nat}{A B:Asr}{H:Heap}{S:Nat→Prop},gt As i=some A→SepL (B::del As i) H S→SepL (upd As i B) H S
 | [],i,A,_,_,_,e,_=>by cases i<;>cases e
 | C::r,0,A,_,_,_,e,h=>h
 | C::r,i+1,A,_,_,_,e,h=>(SepL.swap h).cons fun _ hr=>SepL.push (i:=i) e hr
structure Zone where
 heap:Heap
 dom:Nat→Prop
structure Holds(Z:Zone)(As:List Asr)(H:Heap):Prop where
 zone:∀k,Z.dom k→H[k]?=Z.heap[k]?∧k<H.size
 sep:∃S,SepL As H S∧∀k,S k→¬Z.dom k
abbrev zoneOf(H:Heap):Zone:=⟨H,fun k=>k<H.size⟩
section
variable{Z:Zone}{As Bs:List Asr}{H H':Heap}{A A':Asr}{i:Nat}
theorem Holds.start(H:Heap):Holds (zoneOf H) [] H:=⟨fun k hk=>⟨rfl,hk⟩,fun _=>False,fun k h=>h,fun k h=>h.elim⟩
theorem Holds.imp(h:Holds Z As H)(f:∀S,SepL As H S→SepL Bs H S):Holds Z Bs H:=by
 obtain⟨S,hS,hd⟩:=h.sep;exact⟨h.zone,S,f S hS,hd⟩
theorem Holds.pull(h:Holds Z As H)(hi:gt As i=some A):Holds Z (A::del As i) H:=h.imp fun _=>SepL.pull hi
theorem Holds.push(hi:gt As i=some A)(h:Holds Z (A'::del As i) H):Holds Z (upd As i A') H:=h.imp fun _=>SepL.push hi
theorem Holds.tail(h:Holds Z (A::As) H):Holds Z As H:=by
 obtain⟨S,⟨S1,S2,h1,h2,hd',hS⟩,hd⟩:=h.sep;exact⟨h.zone,S2,h2,fun k hk=>hd k ((hS k).2 (.inr hk))⟩
theorem Holds.drop(h:Holds Z As H)(hi:gt As i=some A):Holds Z (del As i) H:=(h.pull hi).tail
theorem Holds.swap{B:Asr}(h:Holds Z (A::B::As) H):Holds Z (B::A::As) H:=h.imp fun _=>SepL.swap
theorem Holds.part(h:Holds Z As H)(hi:gt As i=some A):∃S,A.on H S∧∀k,S k→¬Z.dom k:=by
 obtain⟨S,⟨S1,S2,h1,_,_,hS⟩,hd⟩:=(h.pull hi).sep;exact⟨S1,h1,fun k hk=>hd k ((hS k).2 (.inl hk))⟩
theorem Holds.step0(h:Holds Z (A::As) H)(hs:∀S,A.on H S→∃S',A'.on H' S'∧Chg S H H'∧∀k,S' k→S k∨H.size≤k):Holds Z (A'::As) H':=by
 obtain⟨S,⟨S1,S2,h1,h2,hd',hS⟩,hd⟩:=h.sep;obtain⟨S1',h1',hc,hsub⟩:=hs S1 h1;refine⟨fun k hk=>?_,fun k=>S1' k∨S2 k,⟨S1',S2,h1',h2.keep fun k hk=>?_,fun k a b=>?_,fun k=>Iff.rfl⟩,?_⟩
 .have hz:=h.zone k hk;refine⟨(hc.block k hz.2 fun h1k=>?_).trans hz.1,Nat.lt_of_lt_of_le hz.2 hc.size⟩;exact hd k ((hS k).2 (.inl h1k)) hk
 .exact hc.block k (h2.lt k hk) fun h1k=>hd' k h1k hk
 .rcases hsub k a with h|h
  .exact hd' k h b
  have:=h2.lt k b;omega
 rintro k (a|a) hz
 .rcases hsub k a with h'|h'
  .exact hd k ((hS k).2 (.inl h')) hz
  have:=(h.zone k hz).2;omega
 exact hd k ((hS k).2 (.inr a)) hz
theorem Holds.step(h:Holds Z As H)(hi:gt As i=some A)(hs:∀S,A.on H S→∃S',A'.on H' S'∧Chg S H H'∧∀k,S' k→S k∨H.size≤k):Holds Z (upd As i A') H':=
 Holds.push hi ((h.pull hi).step0 hs)
theorem Holds.ext(h:Holds Z As H)(hc:Chg (fun _=>False) H H'):Holds Z As H':=by
 obtain⟨S,hS,hd⟩:=h.sep;exact⟨fun k hk=>⟨(hc.block k (h.zone k hk).2 fun h=>h).trans (h.zone k hk).1,Nat.lt_of_lt_of_le (h.zone k hk).2 hc.size⟩,S,hS.keep fun k hk=>hc.block k (hS.lt k hk) fun h=>h,hd⟩
theorem Holds.news{S':Nat→Prop}(h:Holds Z As H)(hc:Chg (fun _=>False) H H')(hB:SepL Bs H' S')(hlo:∀k,S' k→H.size≤k):Holds Z (Bs++As) H':=by
 obtain⟨S,hS,hd⟩:=h.sep;refine⟨(h.ext hc).zone,fun k=>S' k∨S k,SepL.append_iff.2 ⟨S',S,hB,hS.keep fun k hk=>hc.block k (hS.lt k hk) fun h=>h,fun k a b=>?_,fun k=>Iff.rfl⟩,?_⟩
 .have:=hlo k a;have:=hS.lt k b;omega
 rintro k (a|a) hz
 .have:=hlo k a;have:=(h.zone k hz).2;omega
 exact hd k a hz
theorem Holds.new{S':Nat→Prop}(h:Holds Z As H)(hc:Chg (fun _=>False) H H')(hB:A.on H' S')(hlo:∀k,S' k→H.size≤k):Holds Z (A::As) H':=
 h.news (Bs:=[A]) hc ⟨S',fun _=>False,hB,fun k h=>h,fun k _ h=>h,fun k=>by simp⟩ hlo
theorem Holds.join(h:Holds Z As H)(k:Holds (zoneOf H) Bs H'):Holds Z (Bs++As) H':=by
 obtain⟨S,hS,hd⟩:=k.sep;refine h.news ⟨?_,fun j hj _=>(k.zone j hj).1⟩ hS fun j hj=>Nat.le_of_not_lt (hd j hj)
 cases hs:H.size with
 | zero=>exact Nat.zero_le _
 | succ m=>exact (k.zone m (show m<H.size by omega)).2
theorem Holds.chg(k:Holds (zoneOf H) Bs H'):Chg (fun _=>False) H H':=by
 refine⟨?_,fun j hj _=>(k.zone j hj).1⟩;cases hs:H.size with
 | zero=>exact Nat.zero_le _
 | succ m=>exact (k.zone m (show m<H.size by omega)).2
theorem Holds.perm(h:Holds Z As H)(hp:As.Perm Bs):Holds Z Bs H:=by
 refine h.imp fun S hS=>?_
 clear h;induction hp generalizing S with
 | nil=>exact hS
 | cons _ _ ih=>exact hS.cons ih
 | swap=>exact hS.swap
 | trans _ _ ih1 ih2=>exact ih2 _ (ih1 _ hS)
/-! ### Parts -/
def blkA(g:Nat)(arr:Array Value)(e:TypeId):Asr where
 on H S:=H[g]?=some (.cells arr e (0,0))∧∀k,S k↔k=g
 lt h k hk:=by obtain rfl:=(h.2 k).1 hk;exact lt_of_some h.1
 keep h hk:=⟨(hk g ((h.2 g).2 rfl)).trans h.1,h.2⟩
def own{α:Type}(T:Ty α)(v:Value)(L:List α):Asr where
 on H S:=Ow H T v L∧∀k,S k↔blk v=some k
 lt h k hk:=h.1.lt ((h.2 k).1 hk)
 keep h hk:=⟨h.1.kept fun g hg=>hk g ((h.2 g).2 hg),h.2⟩
def mpA{κ β:Type}[DecidableEq κ](K:KTy κ)(V:β→Value)(b:Nat)(m:List (κ×β)):Asr where
 on H S:=Mp H K V b m∧∀k,S k↔k=b
 lt h k hk:=by obtain rfl:=(h.2 k).1 hk;exact h.1.lt
 keep h hk:=⟨h.1.kept (hk b ((h.2 b).2 rfl)),h.2⟩
def exA{ι:Type}(A:ι→Asr):Asr where
 on H S:=∃x,(A x).on H S
 lt h k hk:=by obtain⟨x,h⟩:=h;exact (A x).lt h k hk
 keep h hk:=by obtain⟨x,h⟩:=h;exact⟨x,(A x).keep h hk⟩
def stA(p:Prop)(As:List Asr):Asr where
 on H S:=p∧SepL As H S
 lt h k hk:=h.2.lt k hk
 keep h hk:=⟨h.1,h.2.keep hk⟩
theorem Holds.open_st{p:Prop}(h:Holds Z (stA p As::Bs) H):p∧Holds Z (As++Bs) H:=by
 obtain⟨S,⟨S1,S2,h1,h2,hd',hS⟩,hd⟩:=h.sep;exact⟨h1.1,h.zone,S,SepL.append_iff.2 ⟨S1,S2,h1.2,h2,hd',hS⟩,hd⟩
theorem Holds.shut_st{p:Prop}(hp:p)(h:Holds Z (As++Bs) H):Holds Z (stA p As::Bs) H:=h.imp fun S hS=>by
 obtain⟨S1,S2,h1,h2,hd,hS'⟩:=SepL.append_iff.1 hS;exact⟨S1,S2,⟨hp,h1⟩,h2,hd,hS'⟩
theorem Holds.open_ex{ι:Type}{A:ι→Asr}(h:Holds Z (exA A::Bs) H):∃x,Holds Z (A x::Bs) H:=by
 obtain⟨S,⟨S1,S2,⟨x,h1⟩,h2,hd',hS⟩,hd⟩:=h.sep;exact⟨x,h.zone,S,⟨S1,S2,h1,h2,hd',hS⟩,hd⟩
theorem Holds.shut_ex{ι:Type}{A:ι→Asr}(x:ι)(h:Holds Z (A x::Bs) H):Holds Z (exA A::Bs) H:=h.imp fun S ⟨S1,S2,h1,h2,hd,hS⟩=>⟨S1,S2,⟨x,h1⟩,h2,hd,hS⟩
theorem Holds.blk{g:Nat}{arr:Array Value}{e:TypeId}(h:Holds Z As H)(hi:gt As i=some (blkA g arr e)):H[g]?=some (.cells arr e (0,0)):=by
 obtain⟨S,hS,_⟩:=h.part hi;exact hS.1
theorem Holds.ow{α:Type}{T:Ty α}{v:Value}{L:List α}(h:Holds Z As H)(hi:gt As i=some (own T v L)):Ow H T v L:=by
 obtain⟨S,hS,_⟩:=h.part hi;exact hS.1
theorem Holds.mp{κ β:Type}[DecidableEq κ]{K:KTy κ}{V:β→Value}{b:Nat}{m:List (κ×β)}(h:Holds Z As H)(hi:gt As i=some (mpA K V b m)):Mp H K V b m:=by
 obtain⟨S,hS,_⟩:=h.part hi;exact hS.1
def Kn{α:Type}(Z:Zone)(T:Ty α)(v:Value)(L:List α):Prop:=∀H:Heap,(∀k,Z.dom k→H[k]?=Z.heap[k]?∧k<H.size)→Sl H T v L
theorem Kn.of{α:Type}{T:Ty α}{v:Value}{L:List α}(h:Sl H T v L):Kn (zoneOf H) T v L:=fun _ hz=>h.kept' fun g _ hl=>(hz g hl).1
theorem Kn.get{α:Type}{T:Ty α}{v:Value}{L:List α}(k:Kn Z T v L)(h:Holds Z As H):Sl H T v L:=k H h.zone
end
end Go.S
end
section
set_option linter.unusedSimpArgs false
set_option linter.unusedVariables false
namespace Go.S
open Go.Hp Go.J
open Go.Mem (Ty KTy blk elemAt addr_add addr_add_add pre suf aget aset adel apos Stamps aggDesc spliceAt)
section
variable{P:Program}{w0:World}{ops:Array Oper}{Q:Exit→Act→World→Prop}{n:Nat}{E:Env}{Z:Zone}{As:List Asr}{o:Oper}{rest:List Oper}
def SL(P:Program)(w0:World)(ops:Array Oper)(Q:Exit→Act→World→Prop)(n:Nat)(l:List Oper)(E:Env)(Z:Zone)(As:List Asr):Prop:=∀H,Holds Z As H→JL P w0 ops Q n l E H
def SK(P:Program)(w0:World)(c:Code)(Q:Exit→Act→World→Prop)(n:Nat)(E:Env)(Z:Zone)(As:List Asr):Prop:=∀H,Holds Z As H→JC P w0 c Q n E H
def SX(w0:World)(x:Exit)(Q:Exit→Act→World→Prop)(n:Nat)(E:Env)(Z:Zone)(As:List Asr):Prop:=∀H,Holds Z As H→JX w0 x Q n E H
/-! ### Control -/
theorem k_seq{x y:Code}(h:SK P w0 x (Exit.then (y.wp P Q) Q) n E Z As):SK P w0 (.seq x y) Q n E Z As:=fun H hH=>c_seq (h H hH)
theorem k_skip(h:SX w0 .normal Q n E Z As):SK P w0 .skip Q n E Z As:=fun H hH=>c_skip (h H hH)
theorem k_ret(h:SX w0 .ret Q n E Z As):SK P w0 .ret Q n E Z As:=fun H hH=>c_ret (h H hH)
theorem k_exit{id:Nat}(h:SX w0 (.exit id) Q n E Z As):SK P w0 (.exit id) Q n E Z As:=fun H hH=>c_exit (h H hH)
theorem k_block{id:Nat}{c:Code}(h:SK P w0 c (Exit.inBlock id Q) n E Z As):SK P w0 (.block id c) Q n E Z As:=fun H hH=>c_block (h H hH)
theorem k_true{t:Operand}{x y:Code}(h:SK P w0 x Q n E Z As)(hv:ev E t=.bool true:=by rfl)(hk:knows E t=true:=by rfl):SK P w0 (.cond t x y) Q n E Z As:=fun H hH=>c_true hk hv (h H hH)
theorem k_false{t:Operand}{x y:Code}(h:SK P w0 y Q n E Z As)(hv:ev E t=.bool false:=by rfl)(hk:knows E t=true:=by rfl):SK P w0 (.cond t x y) Q n E Z As:=fun H hH=>c_false hk hv (h H hH)
theorem k_cond{t:Operand}{x y:Code}(c:Bool)(h1:c=true→SK P w0 x Q n E Z As)(h2:c=false→SK P w0 y Q n E Z As)(hv:ev E t=.bool c:=by rfl)(hk:knows E t=true:=by rfl):SK P w0 (.cond t x y) Q n E Z As:=
 fun H hH=>c_cond hk hv (fun e=>h1 e H hH) (fun e=>h2 e H hH)
theorem k_reg{id:Nat}{l:List Oper}(h:SL P w0 l.toArray Q n l E Z As):SK P w0 (.region id l.toArray false) Q n E Z As:=fun H hH=>c_reg (h H hH)
theorem k_draw{id:Nat}{l:List Oper}(h:SL P w0 l.toArray (Ser.DynQ P l Q) n l E Z As)(hm:P.follows .mixedOrders=true:=by kernel_rfl)(hk:Ser.check P l=true:=by kernel_rfl):SK P w0 (.region id l.toArray true) Q n E Z As:=fun H hH=>c_draw hm hk (h H hH)
theorem s_nil(h:SX w0 .normal Q n E Z As):SL P w0 ops Q n [] E Z As:=fun H hH=>l_nil (h H hH)
theorem x_dynS{l:List Oper}(hd:∀H,Holds Z As H→(l.all fun o=>!(Ser.clsOf P o == 0)||!(Ser.isDyn o)||dynOne l E o)=true)(h:SX w0 .normal Q n E Z As):SX w0 .normal (Ser.DynQ P l Q) n E Z As:=fun H hH=>x_dyn (hd H hH) (h H hH)
theorem xs_then{y:Code}(h:SK P w0 y Q n E Z As):SX w0 .normal (Exit.then (y.wp P Q) Q) n E Z As:=h
theorem xs_block{id:Nat}(h:SX w0 .normal Q n E Z As):SX w0 .normal (Exit.inBlock id Q) n E Z As:=h
theorem xs_exit{id:Nat}{K:Act→World→Prop}(h:SX w0 (.exit id) Q n E Z As):SX w0 (.exit id) (Exit.then K Q) n E Z As:=h
theorem xs_here{id:Nat}(h:SX w0 .normal Q n E Z As):SX w0 (.exit id) (Exit.inBlock id Q) n E Z As:=fun H hH=>x_here (h H hH)
theorem xs_ret{K:Act→World→Prop}(h:SX w0 .ret Q n E Z As):SX w0 .ret (Exit.then K Q) n E Z As:=h
theorem xs_retBlock{id:Nat}(h:SX w0 .ret Q n E Z As):SX w0 .ret (Exit.inBlock id Q) n E Z As:=h
/-! ### The state spelt otherwise -/
theorem k_mem{c:Code}{Bs:List Asr}(hA:∀H,Holds Z As H→Holds Z Bs H)(h:SK P w0 c Q n E Z Bs):SK P w0 c Q n E Z As:=fun H hH=>h H (hA H hH)
theorem s_mem{l:List Oper}{Bs:List Asr}(hA:∀H,Holds Z As H→Holds Z Bs H)(h:SL P w0 ops Q n l E Z Bs):SL P w0 ops Q n l E Z As:=fun H hH=>h H (hA H hH)
theorem xs_mem{x:Exit}{Bs:List Asr}(hA:∀H,Holds Z As H→Holds Z Bs H)(h:SX w0 x Q n E Z Bs):SX w0 x Q n E Z As:=fun H hH=>h H (hA H hH)
theorem k_memX{c:Code}{ι:Type}{Bs:ι→List Asr}{p:ι→Prop}(hA:∀H,Holds Z As H→∃x,p x∧Holds Z (Bs x) H)(h:∀x,p x→SK P w0 c Q n E Z (Bs x)):SK P w0 c Q n E Z As:=fun H hH=>by
 obtain⟨x,hx,hB⟩:=hA H hH;exact h x hx H hB
theorem s_memX{l:List Oper}{ι:Type}{Bs:ι→List Asr}{p:ι→Prop}(hA:∀H,Holds Z As H→∃x,p x∧Holds Z (Bs x) H)(h:∀x,p x→SL P w0 ops Q n l E Z (Bs x)):SL P w0 ops Q n l E Z As:=fun H hH=>by
 obtain⟨x,hx,hB⟩:=hA H hH;exact h x hx H hB
theorem k_fact{c:Code}{p:Prop}(hA:∀H,Holds Z As H→p)(h:p→SK P w0 c Q n E Z As):SK P w0 c Q n E Z As:=fun H hH=>h (hA H hH) H hH
theorem s_fact{l:List Oper}{p:Prop}(hA:∀H,Holds Z As H→p)(h:p→SL P w0 ops Q n l E Z As):SL P w0 ops Q n l E Z As:=fun H hH=>h (hA H hH) H hH
theorem xs_fact{x:Exit}{p:Prop}(hA:∀H,Holds Z As H→p)(h:p→SX w0 x Q n E Z As):SX w0 x Q n E Z As:=fun H hH=>h (hA H hH) H hH
def Cut(w0:World)(n:Nat){ι:Type}(p:ι→Prop)(Ei:ι→Env)(Ai:ι→List Asr)(Z:Zone):Act→World→Prop:=
 fun a w=>∃i H,p i∧Fits n a (Ei i)∧At w0 H w∧Holds Z (Ai i) H
theorem k_cut{x y:Code}{ι:Type}(p:ι→Prop)(Ei:ι→Env)(Ai:ι→List Asr)(hx:SK P w0 x (Exit.then (Cut w0 n p Ei Ai Z) Q) n E Z As)(hy:∀i,p i→SK P w0 y Q n (Ei i) Z (Ai i)):SK P w0 (.seq x y) Q n E Z As:=fun H hH a w hf ha=>by
 refine wp_seq (Code.wp_mono (fun e a w q=>?_) (hx H hH a w hf ha));cases e<;>first|exact q|skip
 obtain⟨i,H',hp,h1,h2,h3⟩:=q;exact hy i hp H' h3 a w h1 h2
theorem xs_cut{ι:Type}{p:ι→Prop}{Ei:ι→Env}{Ai:ι→List Asr}(i:ι)(hp:p i)(hE:subB E (Ei i))(hA:∀H,Holds Z As H→Holds Z (Ai i) H):SX w0 .normal (Exit.then (Cut w0 n p Ei Ai Z) Q) n E Z As:=
 fun H hH a w hf ha=>⟨i,H,hp,hf.of_sub hE,ha,hA H hH⟩
def rearr(As:List Asr):List Nat→List Asr
 | []=>As
 | i::is=>match gt As i with|some A=>A::rearr (del As i) is|none=>As
def dels(As:List Asr):List Nat→List Asr
 | []=>As
 | i::is=>dels (del As i) is
theorem SepL.rearr{H:Heap}:∀{is:List Nat}{As:List Asr}{S:Nat→Prop},SepL As H S→SepL (Go.S.rearr As is) H S:=by
 intro is;induction is with
 | nil=>intro As S h;exact h
 | cons i is ih=>
  intro As S h;show SepL (match gt As i with|some A=>A::Go.S.rearr (del As i) is|none=>As) H S;cases e:gt As i with
  | none=>exact h
  | some A=>exact (h.pull e).cons fun _ hr=>ih hr
theorem Holds.rearr{H:Heap}(h:Holds Z As H)(is:List Nat):Holds Z (Go.S.rearr As is) H:=h.imp fun _ hS=>hS.rearr
theorem del_none:∀{As:List Asr}{i:Nat},gt As i=none→del As i=As
 | [],i,_=>by cases i<;>rfl
 | _::_,0,h=>by cases h
 | A::r,i+1,h=>congrArg (A::·) (del_none (As:=r) (i:=i) h)
theorem Holds.dels {H : Heap} : ∀ {is : List Nat} {As : List Asr}, Holds Z As H → Holds Z (Go.S.dels As is) H
  | [], _, h => h
  | i :: is, As, h => Holds.dels (is := is) (As := del As i) (by
    cases e : gt As i with
    | none => rw [del_none e]; exact h
    | some A => exact h.drop e)
theorem Holds.re{H:Heap}{Bs:List Asr}(is ds:List Nat)(h:Holds Z As H)(e:Go.S.dels (Go.S.rearr As is) ds=Bs:=by rfl):Holds Z Bs H:=e▸(h.rearr is).dels
/-! ### Loops -/
theorem k_loop{c:Code}{ι:Type}(I:ι→Prop)(Ei:ι→Env)(Ai:ι→List Asr)(μ:ι→Nat)(i0:ι)(h0:I i0)(hE:subB E (Ei i0))(hA:∀H,Holds Z As H→Holds Z (Ai i0) H)
  (round:∀i,I i→SK P w0 c (Exit.then (LoopK w0 n Ei (fun i H=>I i∧Holds Z (Ai i) H) μ i) Q) n (Ei i) Z (Ai i)):SK P w0 (.loop c) Q n E Z As:=
 fun H hH=>c_loop Ei (fun i H=>I i∧Holds Z (Ai i) H) μ i0 hE ⟨h0,hA H hH⟩ fun i H' ⟨hi,hh⟩=>round i hi H' hh
theorem xs_round{ι:Type}{I:ι→Prop}{Ei:ι→Env}{Ai:ι→List Asr}{μ:ι→Nat}{i:ι}(i':ι)(hμ:μ i'<μ i)(hI:I i')(hE:subB E (Ei i'))(hA:∀H,Holds Z As H→Holds Z (Ai i') H):SX w0 .normal (Exit.then (LoopK w0 n Ei (fun i H=>I i∧Holds Z (Ai i) H) μ i) Q) n E Z As:=
 fun H hH=>x_round i' hμ hE ⟨hI,hA H hH⟩
/-! ### Calls, entry, results -/
def SF(P:Program)(f:FuncId)(args:Array Value)(Z:Zone)(As:List Asr)(R:Value→List Asr→Prop):Prop:=
 ∀H,Holds Z As H→HC P f args H fun v H'=>∃Bs,R v Bs∧Holds Z Bs H'
def FinS(P:Program)(fn:Func)(w0:World)(Z:Zone)(R:Value→List Asr→Prop):Exit→Act→World→Prop:=Fin P fn w0 fun v H'=>∃Bs,R v Bs∧Holds Z Bs H'
theorem sf_enter{f:FuncId}{fn:Func}{c:Code}{args:Array Value}{R:Value→List Asr→Prop}(hf:P.funcs[f]?=some fn)(m:Nat)(E:Env)(h:∀w0,SK P w0 c (FinS P fn w0 Z R) m E Z As)
  (hb:fn.body=some c:=by rfl) (hm:fn.ntmps=m:=by rfl) (hle:Nat.ble args.size m=true:=by rfl) (hE:(args.toList.zipIdx.map fun p=>(p.2,p.1))=E:=by rfl):SF P f args Z As R:=
 fun H hH=>enter hf hb m hm hle E hE fun w0=>h w0 H hH
theorem SF.mono{f:FuncId}{args:Array Value}{R R':Value→List Asr→Prop}(h:SF P f args Z As R)(hR:∀v Bs,R v Bs→R' v Bs):SF P f args Z As R':=
 fun H hH=>(h H hH).mono fun v H' ⟨Bs,hr,hB⟩=>⟨Bs,hR _ _ hr,hB⟩
theorem SF.hc{f:FuncId}{args:Array Value}{H:Heap}{R:Value→List Asr→Prop}(h:SF P f args (zoneOf H) [] R):HC P f args H fun v H'=>(∃Bs,R v Bs)∧Chg (fun _=>False) H H':=
 (h H (Holds.start H)).mono fun v H' ⟨Bs,hr,hB⟩=>⟨⟨Bs,hr⟩,hB.chg⟩
theorem s_call{f:FuncId}{xs:Array Operand}{ts:Array TypeId}{vals:List Value}{R:Value→List Asr→Prop}{d:Nat}{As0:List Asr}(is:List Nat)(hc:SF P f vals.toArray Z As0 R)
  (h:∀v Bs,R v Bs→SL P w0 ops Q n rest ((d,v)::E) Z Bs) (hp:rearr As is=As0:=by rfl)
  (ho:o.op=.call { callee:=.value (.func f),args:=xs,argTypes:=ts }:=by rfl) (hx:(xs.toList.map (ev E))=vals:=by rfl) (hd:o.dst=some d:=by rfl) (hfn:isFn P f=true:=by kernel_rfl) (hk:okOp ops n E o=true:=by kernel_rfl):SL P w0 ops Q n (o::rest) E Z As:=
 fun H hH=>l_call ho vals hk hx hfn (hc H (hp▸hH.rearr is)) fun v H' ⟨Bs,hr,hB⟩=>by rw[hd];exact h v Bs hr H' hB
theorem s_pcall{f:FuncId}{xs:Array Operand}{ts:Array TypeId}{vals:List Value}{R:Value→List Asr→Prop}{d:Nat}(hc:∀H,Holds Z As H→SF P f vals.toArray (zoneOf H) [] R)
  (h:∀v Bs,R v Bs→SL P w0 ops Q n rest ((d,v)::E) Z (Bs++As))
  (ho:o.op=.call { callee:=.value (.func f),args:=xs,argTypes:=ts }:=by rfl) (hx:(xs.toList.map (ev E))=vals:=by rfl) (hd:o.dst=some d:=by rfl) (hfn:isFn P f=true:=by kernel_rfl) (hk:okOp ops n E o=true:=by kernel_rfl):SL P w0 ops Q n (o::rest) E Z As:=
 fun H hH=>l_call ho vals hk hx hfn (hc H hH H (Holds.start H)) fun v H' ⟨Bs,hr,hB⟩=>by rw[hd];exact h v Bs hr H' (hH.join hB)
theorem s_vcall{f:FuncId}{xs:Array Operand}{ts:Array TypeId}{vals:List Value}{R:Value→Prop}{d:Nat}(hc:∀H,Holds Z As H→SF P f vals.toArray (zoneOf H) [] fun v Bs=>R v∧Bs=[])
  (h:∀v,R v→SL P w0 ops Q n rest ((d,v)::E) Z As)
  (ho:o.op=.call { callee:=.value (.func f),args:=xs,argTypes:=ts }:=by rfl) (hx:(xs.toList.map (ev E))=vals:=by rfl) (hd:o.dst=some d:=by rfl) (hfn:isFn P f=true:=by kernel_rfl) (hk:okOp ops n E o=true:=by kernel_rfl):SL P w0 ops Q n (o::rest) E Z As:=
 s_pcall hc (by rintro v _ ⟨hr,rfl⟩;exact h v hr) ho hx hd hfn hk
theorem and_t{a b:Bool}(h:(a&&b)=true):a=true∧b=true:=by simpa using h
theorem or_f{a b:Bool}(h:(a||b)=false):a=false∧b=false:=by simpa using h
theorem not_t{a:Bool}(h:(!a)=true):a=false:=by simpa using h
theorem not_f{a:Bool}(h:(!a)=false):a=true:=by simpa using h
def SI(P:Program)(E:Env)(Z:Zone)(As:List Asr)(rs:List ResultVar)(vs:List Value):Prop:=∀H,Holds Z As H→Items P E H rs vs
theorem SI.nil:SI P E Z As [] []:=fun _ _=>.nil
theorem SI.tmp(t:Tmp){v:Value}{rs:List ResultVar}{vs:List Value}(h:SI P E Z As rs vs)(hv:J.look E t=v:=by rfl)(hk:J.has E t=true:=by rfl):SI P E Z As (.tmp t::rs) (v::vs):=fun H hH=>.cons (.tmp t v hk hv) (h H hH)
theorem SI.cell(t:Tmp)(ty:TypeId){v:Value}{rs:List ResultVar}{vs:List Value}{g k:Nat}{arr:Array Value}{e:TypeId}(i:Nat)(h:SI P E Z As rs vs)(hv:J.look E t=.pointer (some ⟨g,k,none⟩):=by rfl)(hA:gt As i=some (blkA g arr e):=by rfl)(hu:arr[k]?=some v:=by rfl)(ht:scalarT P ty=true:=by kernel_rfl)(hk:J.has E t=true:=by rfl):SI P E Z As (.cell t ty::rs) (v::vs):=
 fun H hH=>.cons (.cell t ty v _ hk hv fun w hw=>run_loadC ht (by show cellH w.heap _=_;rw[hw];exact (cellH_row (hH.blk hA)).trans hu)) (h H hH)
theorem SI.agg(t:Tmp)(ty:TypeId){cs:Array Value}{rs:List ResultVar}{vs:List Value}{g k m:Nat}{arr:Array Value}{e:TypeId}(i:Nat)(h:SI P E Z As rs vs)(hv:J.look E t=.pointer (some ⟨g,k,none⟩):=by rfl)(hA:gt As i=some (blkA g arr e):=by rfl)(hl:cs.size=m:=by rfl)(hc:arr.toList.extract k (k+m)=cs.toList:=by rfl)(ht:aggT P ty m=true:=by kernel_rfl)(hk:J.has E t=true:=by rfl):SI P E Z As (.cell t ty::rs) (.agg cs::vs):=
 fun H hH=>.cons (.cell t ty _ _ hk hv fun w hw=>run_loadX ht hw (hH.blk hA) cs hl hc) (h H hH)
theorem xs_fin{fn:Func}{R:Value→List Asr→Prop}{rs:List ResultVar}(vs:List Value)(Bs:List Asr)(hi:SI P E Z As rs vs)(hA:∀H,Holds Z As H→Holds Z Bs H)(h:R (pack vs) Bs)(hr:fn.results.toList=rs:=by rfl):SX w0 .ret (FinS P fn w0 Z R) n E Z As:=
 fun H hH=>x_fin _ (res_of hr (hi H hH)) ⟨Bs,h,hA H hH⟩
theorem xs_finN{fn:Func}{R:Value→List Asr→Prop}{rs:List ResultVar}(vs:List Value)(Bs:List Asr)(hi:SI P E Z As rs vs)(hA:∀H,Holds Z As H→Holds Z Bs H)(h:R (pack vs) Bs)(hr:fn.results.toList=rs:=by rfl):SX w0 .normal (FinS P fn w0 Z R) n E Z As:=
 fun H hH=>x_finN _ (res_of hr (hi H hH)) ⟨Bs,h,hA H hH⟩
end
end Go.S
end
section
set_option linter.unusedSimpArgs false
set_option linter.unusedVariables false
namespace Go.S
open Go.Hp Go.J
open Go.Mem (Ty KTy blk elemAt addr_add addr_add_add pre suf aget aset adel apos Stamps aggDesc spliceAt)
section
variable{P:Program}{w0:World}{ops:Array Oper}{Q:Exit→Act→World→Prop}{n:Nat}{E:Env}{Z:Zone}{As:List Asr}{o:Oper}{rest:List Oper}
def Acc{α:Type}(Z:Zone)(As:List Asr)(T:Ty α)(v:Value)(L:List α):Prop:=∀H,Holds Z As H→Sl H T v L
section
variable{α:Type}{T:Ty α}{v:Value}{L M:List α}
theorem Acc.own(i:Nat)(hi:gt As i=some (own T v L):=by rfl):Acc Z As T v L:=fun H h=>(h.ow hi).sl
theorem Acc.zn(k:Kn Z T v L):Acc Z As T v L:=fun H h=>k.get h
theorem Acc.nil:Acc Z As T (.slice none 0 0) []:=fun H h=>Sl.nil _ _
theorem Acc.pre(a:Acc Z As T v L)(hT:T.Ok P)(m:Nat)(hm:m≤L.length):Acc Z As T (pre v m) (L.take m):=fun H h=>(a H h).pre hT m hm
theorem Acc.suf(a:Acc Z As T v L)(hT:T.Ok P)(m:Nat)(hm:m≤L.length):Acc Z As T (suf T.size v m) (L.drop m):=fun H h=>(a H h).suf hT m hm
theorem Acc.lit(i:Nat){g m:Nat}{arr:Array Value}{e:TypeId}(hT:T.Ok P)(L:List α)(hi:gt As i=some (blkA g arr e):=by rfl)(he:e=T.id:=by rfl)(ha:arr.toList=T.flat L:=by rfl)(hm:m=L.length:=by rfl)(hl:L.length≤9223372036854775807:=by simp):Acc Z As T (.slice (some ⟨g,0,none⟩) m m) L:=
 fun H h=>(Ow.lit hT L (by have:=h.blk hi;rw[he]at this;exact this) ha hm hl).sl
theorem Acc.kn{H:Heap}(a:Acc Z As T v L)(h:Holds Z As H):Kn (zoneOf H) T v L:=.of (a H h)
theorem Acc.len(a:Acc Z As T v L):∀H,Holds Z As H→L.length≤9223372036854775807:=fun H h=>(a H h).len_le
theorem Holds.slice(i:Nat){g m:Nat}{arr:Array Value}{e:TypeId}{H:Heap}(h:Holds Z As H)(hT:T.Ok P)(L:List α)(hi:gt As i=some (blkA g arr e):=by rfl)(he:e=T.id:=by rfl)(ha:arr.toList=T.flat L:=by rfl)(hm:m=L.length:=by rfl)(hl:L.length≤9223372036854775807:=by simp):Holds Z (upd As i (S.own T (.slice (some ⟨g,0,none⟩) m m) L)) H:=by
 refine h.step hi fun S ⟨h1,h2⟩=>⟨S,⟨Ow.lit hT L (by rw[he]at h1;exact h1) ha hm hl,fun k=>?_⟩,Chg.refl _ _,fun k hk=>.inl hk⟩
 rw[h2 k];show k=g↔some g=some k;simp[eq_comm]
theorem Holds.pre{i:Nat}{H:Heap}(h:Holds Z As H)(hT:T.Ok P)(m:Nat)(hi:gt As i=some (S.own T v L))(hm:m≤L.length):Holds Z (upd As i (S.own T (Go.Mem.pre v m) (L.take m))) H:=by
 refine h.step hi fun S ⟨h1,h2⟩=>⟨S,⟨h1.pre hT m hm,fun k=>?_⟩,Chg.refl _ _,fun k hk=>.inl hk⟩
 rw[h2 k,Go.Mem.blk_pre]
end
def Lt(P:Program)(E:Env)(o:Oper)(Z:Zone)(As:List Asr)(v:Value):Prop:=∀H,Holds Z As H→Light P E o H v
theorem s_lt{v:Value}{d:Nat}(t:Lt P E o Z As v)(h:SL P w0 ops Q n rest ((d,v)::E) Z As)(hd:o.dst=some d:=by rfl)(hk:okOp ops n E o=true:=by kernel_rfl):SL P w0 ops Q n (o::rest) E Z As:=
 fun H hH=>l_read v hk (fun w hw=>(t H hH).run w hw) (by rw[hd];exact h H hH)
theorem s_skip{d:Nat}(h:SL P w0 ops Q n rest ((d,undef)::E) Z As)(hd:o.dst=some d:=by rfl)(hu:unwant ops E o=true:=by kernel_rfl)(hk:dstOk n o.dst=true:=by rfl):SL P w0 ops Q n (o::rest) E Z As:=
 fun H hH=>l_skip hu hk (by rw[hd];exact h H hH)
theorem s_fork{l:List Oper}(t:Nat)(c:Bool)(h1:c=true→SL P w0 ops Q n l ((t,.bool true)::E) Z As)(h2:c=false→SL P w0 ops Q n l ((t,.bool false)::E) Z As)(hv:J.look E t=.bool c:=by rfl)(hh:J.has E t=true:=by rfl):SL P w0 ops Q n l E Z As:=
 fun H hH=>l_fork t c hh hv (fun e=>h1 e H hH) (fun e=>h2 e H hH)
theorem t_pure(v:Value)(hr:∀w,(execOp (ev E) o).run P w=.ok (.value v) w:=by exact fun _=>rfl):Lt P E o Z As v:=fun _ _=>r_pure v hr
theorem t_kern(v:Value)(hr:∀w,(execOp (ev E) o).run P w=.ok (.value v) w:=by intro _;kernel_rfl):Lt P E o Z As v:=fun _ _=>r_pure v hr
theorem t_add{t u:TypeId}{x y:Operand}(a b:Int)(hb : -9223372036854775808≤a+b∧a+b≤9223372036854775807)(ho:o.op=.binOp .add t x y u:=by rfl)(hx:ev E x=.int .i64 a:=by rfl)(hy:ev E y=.int .i64 b:=by rfl):Lt P E o Z As (.int .i64 (a+b)):=fun _ _=>r_add ho a b hx hy hb
theorem t_sub{t u:TypeId}{x y:Operand}(a b:Int)(hb : -9223372036854775808≤a-b∧a-b≤9223372036854775807)(ho:o.op=.binOp .sub t x y u:=by rfl)(hx:ev E x=.int .i64 a:=by rfl)(hy:ev E y=.int .i64 b:=by rfl):Lt P E o Z As (.int .i64 (a-b)):=fun _ _=>r_sub ho a b hx hy hb
theorem t_mul{t u:TypeId}{x y:Operand}(a b:Int)(hb : -9223372036854775808≤a*b∧a*b≤9223372036854775807)(ho:o.op=.binOp .mul t x y u:=by rfl)(hx:ev E x=.int .i64 a:=by rfl)(hy:ev E y=.int .i64 b:=by rfl):Lt P E o Z As (.int .i64 (a*b)):=fun _ _=>r_mul ho a b hx hy hb
theorem t_cmp{op:BinOp}{t u:TypeId}{x y:Operand}{k:IntKind}{a b:Int}{c:Bool}(ho:o.op=.binOp op t x y u:=by rfl)(hx:ev E x=.int k a:=by rfl)(hy:ev E y=.int k b:=by rfl)(hc:cmpI op a b=some c:=by rfl):Lt P E o Z As (.bool c):=fun _ _=>r_cmp ho k a b c hx hy hc
theorem t_eqS{op:BinOp}{t u:TypeId}{x y:Operand}{xs ys:Array Value}{c:Bool}(hr:∀w,(binOp op t (.agg xs) (.agg ys)).run P w=.ok (.bool c) w)(ho:o.op=.binOp op t x y u:=by rfl)(hx:ev E x=.agg xs:=by rfl)(hy:ev E y=.agg ys:=by rfl)(hg:P.eqGuardType P.depth t=false:=by kernel_rfl):Lt P E o Z As (.bool c):=fun _ _=>r_eqS ho xs ys c hx hy hg hr
theorem t_load{t:TypeId}{x:Operand}{g k:Nat}{arr:Array Value}{e:TypeId}(i:Nat)(u:Value)(ho:o.op=.load t x:=by rfl)(hx:ev E x=.pointer (some ⟨g,k,none⟩):=by rfl)(hA:gt As i=some (blkA g arr e):=by rfl)(hu:arr[k]?=some u:=by rfl)(ht:scalarT P t=true:=by kernel_rfl):Lt P E o Z As u:=fun H hH=>r_loadC ho g k arr e (0,0) u hx ht (hH.blk hA) hu
theorem t_loadA{t:TypeId}{x:Operand}{g k m:Nat}{arr:Array Value}{e:TypeId}(i:Nat)(cs:Array Value)(ho:o.op=.load t x:=by rfl)(hx:ev E x=.pointer (some ⟨g,k,none⟩):=by rfl)(hA:gt As i=some (blkA g arr e):=by rfl)(hl:cs.size=m:=by rfl)(hc:arr.toList.extract k (k+m)=cs.toList:=by rfl)(ht:aggT P t m=true:=by kernel_rfl):Lt P E o Z As (.agg cs):=fun H hH=>r_loadA ho g k m arr e (0,0) cs hx ht (hH.blk hA) hl hc
section
variable{α:Type}{T:Ty α}{v:Value}{L M:List α}
theorem t_loadE{t:TypeId}{x:Operand}{k:Nat}{y:α}{u:Value}(hT:T.Ok P)(a:Acc Z As T v L)(hy:L[k]?=some y)(hu:T.val y=u:=by rfl)(ho:o.op=.load t x:=by rfl)(hid:T.id=t:=by rfl)(hx:ev E x=.pointer (some (elemAt T.size v k)):=by rfl):Lt P E o Z As u:=fun H hH=>r_loadE ho hT hid v k y u L hx (a H hH) hy hu
theorem t_loadF{t:TypeId}{x:Operand}{k:Nat}{y:α}{u:Value}(j:Nat)(hT:T.Ok P)(a:Acc Z As T v L)(hy:L[k]?=some y)(hu:(T.enc y)[j]?=some u:=by rfl)(ho:o.op=.load t x:=by rfl)(hx:ev E x=.pointer (some ((elemAt T.size v k).add j)):=by rfl)(ht:scalarT P t=true:=by kernel_rfl):Lt P E o Z As u:=fun H hH=>r_loadF ho hT v k j y u L hx ht (a H hH) hy hu
theorem t_len{x:Operand}{t:TypeId}(hT:T.Ok P)(ht:P.underlying t=some (.slice T.id))(a:Acc Z As T v L)(ho:o.op=.call { callee:=.builtin .len,args:=#[x],argTypes:=#[t] }:=by rfl)(hx:ev E x=v:=by rfl):Lt P E o Z As (.int .i64 L.length):=fun H hH=>r_len ho hT ht hx (a H hH)
theorem t_index{x i:Operand}{t:TypeId}{q:IntKind}(hT:T.Ok P)(ht:P.underlying t=some (.slice T.id))(a:Acc Z As T v L)(k:Int)(m:Nat)(h0:0≤k)(hl:k<L.length)(hm:m=k.toNat)(ho:o.op=.indexAddr t x i:=by rfl)(hx:ev E x=v:=by rfl)(hi:ev E i=.int q k:=by rfl):Lt P E o Z As (.pointer (some (elemAt T.size v m))):=fun H hH=>r_index ho hT ht q k hx hi (a H hH) h0 hl m hm
theorem t_pre{x i:Operand}{t:TypeId}{q:IntKind}(hT:T.Ok P)(ht:P.underlying t=some (.slice T.id))(a:Acc Z As T v L)(k:Int)(m:Nat)(h0:0≤k)(hl:k≤L.length)(hm:m=k.toNat)(ho:o.op=.slice t x none (some i) none:=by rfl)(hx:ev E x=v:=by rfl)(hi:ev E i=.int q k:=by rfl):Lt P E o Z As (pre v m):=fun H hH=>r_pre ho hT ht q k hx hi (a H hH) h0 hl m hm
theorem t_suf{x i:Operand}{t:TypeId}{q:IntKind}(hT:T.Ok P)(ht:P.underlying t=some (.slice T.id))(a:Acc Z As T v L)(k:Int)(m:Nat)(h0:0≤k)(hl:k≤L.length)(hm:m=k.toNat)(ho:o.op=.slice t x (some i) none none:=by rfl)(hx:ev E x=v:=by rfl)(hi:ev E i=.int q k:=by rfl):Lt P E o Z As (suf T.size v m):=fun H hH=>r_suf ho hT ht q k hx hi (a H hH) h0 hl m hm
end
theorem t_max{x y:Operand}{ts:Array TypeId}{k:IntKind}{a b:Int}(ho:o.op=.call { callee:=.builtin .max,args:=#[x,y],argTypes:=ts }:=by rfl)(hx:ev E x=.int k a:=by rfl)(hy:ev E y=.int k b:=by rfl):Lt P E o Z As (.int k (if a<b then b else a)):=fun _ _=>r_max ho k a b hx hy
section
variable{κ β:Type}[DecidableEq κ]{K:KTy κ}{V:β→Value}{b:Nat}{m:List (κ×β)}
theorem t_lookup{x y:Operand}{t e:TypeId}(i:Nat)(hK:KTy.Ok (β:=β) K P)(ht:P.underlying t=some (.map K.id e))(z:Value)(k:κ)(hA:gt As i=some (mpA K V b m):=by rfl)(hz:∀w,(zeroValue e).run P w=.ok z w:=by intro _;kernel_rfl)(ho:o.op=.lookup t x y false:=by rfl)(hx:ev E x=.map (some b):=by rfl)(hy:ev E y=K.val k:=by rfl):Lt P E o Z As (((aget m k).map V).getD z):=fun H hH=>r_lookup ho hK ht z hz k hx hy (hH.mp hA)
theorem t_lookupOk{x y:Operand}{t e:TypeId}(i:Nat)(hK:KTy.Ok (β:=β) K P)(ht:P.underlying t=some (.map K.id e))(z:Value)(k:κ)(hA:gt As i=some (mpA K V b m):=by rfl)(hz:∀w,(zeroValue e).run P w=.ok z w:=by intro _;kernel_rfl)(ho:o.op=.lookup t x y true:=by rfl)(hx:ev E x=.map (some b):=by rfl)(hy:ev E y=K.val k:=by rfl):Lt P E o Z As (.tuple #[((aget m k).map V).getD z,.bool (aget m k).isSome]):=fun H hH=>r_lookupOk ho hK ht z hz k hx hy (hH.mp hA)
end
theorem Lt.to{v v':Value}(t:Lt P E o Z As v)(e:v=v'):Lt P E o Z As v':=e▸t
/-! ### New blocks -/
theorem Holds.newB{H H':Heap}{g:Nat}{arr:Array Value}{e:TypeId}(h:Holds Z As H)(hn:New H H' g (.cells arr e (0,0))):Holds Z (blkA g arr e::As) H':=
 h.new (hn.chg _) (S':=fun k=>k=g) ⟨hn.is,fun k=>Iff.rfl⟩ fun k hk=>by rw[hk,hn.at_];exact Nat.le_refl _
theorem s_box{t:TypeId}{x:Operand}{d:Nat}{u:Value}(cs:Array Value)(h:∀g,SL P w0 ops Q n rest ((d,.pointer (some ⟨g,0,none⟩))::E) Z (blkA g cs t::As))(ho:o.op=.box t x:=by rfl)(hx:ev E x=u:=by rfl)(hc:u.cells=cs:=by rfl)(hd:o.dst=some d:=by rfl)(hk:okOp ops n E o=true:=by kernel_rfl):SL P w0 ops Q n (o::rest) E Z As:=
 fun H hH=>l_box ho u cs hk hx hc fun g H' hn=>by rw[hd];exact h g H' (hH.newB hn)
theorem s_alloc{t:TypeId}{d:Nat}(z:Value)(cs:Array Value)(h:∀g,SL P w0 ops Q n rest ((d,.pointer (some ⟨g,0,none⟩))::E) Z (blkA g cs t::As))(ho:o.op=.alloc t:=by rfl)(hc:z.cells=cs:=by rfl)(hz:∀w,(zeroValue t).run P w=.ok z w:=by intro _;kernel_rfl)(hd:o.dst=some d:=by rfl)(hk:okOp ops n E o=true:=by kernel_rfl):SL P w0 ops Q n (o::rest) E Z As:=
 fun H hH=>l_alloc ho z cs hk hz hc fun g H' hn=>by rw[hd];exact h g H' (hH.newB hn)
theorem s_buildSlice{t e:TypeId}{len d:Nat}{ps:Array (Nat×Operand)}(pl:List (Nat×Value))(cs:Array Value)(h:∀g,SL P w0 ops Q n rest ((d,.slice (some ⟨g,0,none⟩) len len)::E) Z (blkA g cs e::As))(ho:o.op=.buildSlice t len ps:=by rfl)(hpl:(ps.toList.map fun p=>(p.1,ev E p.2))=pl:=by rfl)(hb:builtCells P t len pl=some (e,cs))(hd:o.dst=some d:=by rfl)(hk:okOp ops n E o=true:=by kernel_rfl):SL P w0 ops Q n (o::rest) E Z As:=
 fun H hH=>l_buildSlice ho pl e cs hk hpl hb fun g H' hn=>by rw[hd];exact h g H' (hH.newB hn)
theorem s_makeMap{t:TypeId}{d:Nat}{κ β:Type}[DecidableEq κ](K:KTy κ)(V:β→Value)(h:∀b,SL P w0 ops Q n rest ((d,.map (some b))::E) Z (mpA K V b []::As))(ho:o.op=.makeMap t none:=by rfl)(hd:o.dst=some d:=by rfl)(hk:okOp ops n E o=true:=by kernel_rfl):SL P w0 ops Q n (o::rest) E Z As:=
 fun H hH=>l_makeMap ho hk fun g H' hn=>by
  rw[hd];exact h g H' (hH.new (hn.chg _) (S':=fun k=>k=g) ⟨Mp.made hn.is K V,fun k=>Iff.rfl⟩ fun k hk=>by rw[hk,hn.at_];exact Nat.le_refl _)
/-! ### Writing -/
theorem s_store{t:TypeId}{x y:Operand}{g k m:Nat}{arr:Array Value}{e:TypeId}{u:Value}(i:Nat)(arr':Array Value)(h:SL P w0 ops Q n rest E Z (upd As i (blkA g arr' e)))(ho:o.op=.store t x y:=by rfl)(hx:ev E x=.pointer (some ⟨g,k,none⟩):=by rfl)(hy:ev E y=u:=by rfl)(hA:gt As i=some (blkA g arr e):=by rfl)(hm:u.cells.size=m:=by rfl)(hs:sizeT P t m=true:=by kernel_rfl)(hfit:Nat.ble (k+m) arr.size=true:=by rfl)(h1:(u.cells.toList.all fun c=>c.oneCell')=true:=by rfl)(ha':(spliceAt arr.toList k u.cells.toList)=arr'.toList:=by rfl)(hd:o.dst=none:=by rfl)(hk:okOp ops n E o=true:=by kernel_rfl):SL P w0 ops Q n (o::rest) E Z As:=
 fun H hH=>l_store ho g k m arr arr' e u hk hx hy hs (hH.blk hA) hm hfit h1 ha' fun H' hp=>by
  rw[hd];exact h H' (hH.step hA fun S ⟨_,h2⟩=>⟨S,⟨hp.is,h2⟩,hp.chg.mono (fun j _ hj=>(h2 j).2 hj),fun k hk=>.inl hk⟩)
section
variable{α:Type}{T:Ty α}{v:Value}{L M:List α}
theorem own_step{H H':Heap}{i:Nat}{v':Value}{L':List α}(hH:Holds Z As H)(hA:gt As i=some (own T v L))(ow:Ow H' T v' L')(chg:Chg (fun k=>blk v=some k) H H')(mv:∀g,blk v'=some g→blk v=some g∨H.size≤g):Holds Z (upd As i (own T v' L')) H':=
 hH.step hA fun S ⟨_,h2⟩=>⟨fun k=>blk v'=some k,⟨ow,fun k=>Iff.rfl⟩,chg.mono (fun j _ hj=>(h2 j).2 hj),fun k hk=>(mv k hk).imp (h2 k).2 id⟩
theorem s_storeE{t:TypeId}{x y:Operand}{k m:Nat}{z:α}{u:Value}(i j:Nat)(z':α)(hT:T.Ok P)(hz:L[k]?=some z)(h:SL P w0 ops Q n rest E Z (upd As i (own T v (L.set k z'))))(ho:o.op=.store t x y:=by rfl)(hA:gt As i=some (own T v L):=by rfl)(hx:ev E x=.pointer (some ((elemAt T.size v k).add j)):=by rfl)(hy:ev E y=u:=by rfl)(hm:u.cells.size=m:=by rfl)(hs:sizeT P t m=true:=by kernel_rfl)(hfit:Nat.ble (j+m) T.size=true:=by rfl)(h1:(u.cells.toList.all fun c=>c.oneCell')=true:=by rfl)(he:T.enc z'=spliceAt (T.enc z) j u.cells.toList:=by rfl)(hd:o.dst=none:=by rfl)(hk:okOp ops n E o=true:=by kernel_rfl):SL P w0 ops Q n (o::rest) E Z As:=
 fun H hH=>l_storeE ho hT v k j m z z' u L hk hx hy hs (hH.ow hA) hz hm hfit h1 he fun H' ow chg=>by
  rw[hd];exact h H' (own_step hH hA ow chg fun g hg=>.inl hg)
theorem s_append{s x:Operand}{t:TypeId}{d:Nat}{v2:Value}(i:Nat)(hT:T.Ok P)(ht:P.underlying t=some (.slice T.id))(a:Acc Z As T v2 M)(hb:(L.length+M.length)*T.bytes≤140737488355328)(h63:L.length+M.length≤9223372036854775807)(h:∀v',SL P w0 ops Q n rest ((d,v')::E) Z (upd As i (own T v' (L++M))))(ho:o.op=.call { callee:=.builtin .append,args:=#[s,x],argTypes:=#[t,t] }:=by rfl)(hA:gt As i=some (own T v L):=by rfl)(hs:ev E s=v:=by rfl)(hx:ev E x=v2:=by rfl)(hd:o.dst=some d:=by rfl)(hk:okOp ops n E o=true:=by kernel_rfl):SL P w0 ops Q n (o::rest) E Z As:=
 fun H hH=>l_append ho hT ht v2 hk hs hx (hH.ow hA) (a H hH) hb h63 fun v' H' ap=>by
  rw[hd];exact h v' H' (own_step hH hA ap.ow ap.chg ap.moved)
theorem s_make{t:TypeId}{x y:Operand}{q q':IntKind}{d:Nat}(hT:T.Ok P)(ht:P.underlying t=some (.slice T.id))(k:Int)(h0:0≤k)(hb:T.bytes*k.toNat≤281474976710656)(h63:k≤9223372036854775807)(h:∀v',SL P w0 ops Q n rest ((d,v')::E) Z (own T v' (List.replicate k.toNat T.zero)::As))(ho:o.op=.makeSlice t x y:=by rfl)(hx:ev E x=.int q k:=by rfl)(hy:ev E y=.int q' k:=by rfl)(hd:o.dst=some d:=by rfl)(hk:okOp ops n E o=true:=by kernel_rfl):SL P w0 ops Q n (o::rest) E Z As:=
 fun H hH=>l_make ho hT ht q q' k hk hx hy h0 hb h63 fun g H' v' hg ow chg hbk _=>by
  rw[hd];exact h v' H' (hH.new (chg _) (S':=fun k=>blk v'=some k) ⟨ow,fun k=>Iff.rfl⟩ fun k hk=>by rw[hbk]at hk;cases hk;omega)
end
section
variable{κ β:Type}[DecidableEq κ]{K:KTy κ}{V:β→Value}{b:Nat}{m:List (κ×β)}
theorem mp_step{H H':Heap}{i:Nat}{m':List (κ×β)}(hH:Holds Z As H)(hA:gt As i=some (mpA K V b m))(u:Upd H H' K V b m'):Holds Z (upd As i (mpA K V b m')) H':=
 hH.step hA fun S ⟨_,h2⟩=>⟨S,⟨u.mp,h2⟩,u.chg.mono (fun j _ hj=>(h2 j).2 hj),fun k hk=>.inl hk⟩
theorem s_update{x y z:Operand}{t e:TypeId}(i:Nat)(hK:KTy.Ok (β:=β) K P)(ht:P.underlying t=some (.map K.id e))(k:κ)(u:β)(h:SL P w0 ops Q n rest E Z (upd As i (mpA K V b (aset m k u))))(ho:o.op=.mapUpdate t x y z:=by rfl)(hA:gt As i=some (mpA K V b m):=by rfl)(hx:ev E x=.map (some b):=by rfl)(hy:ev E y=K.val k:=by rfl)(hu:ev E z=V u:=by rfl)(hd:o.dst=none:=by rfl)(hk:okOp ops n E o=true:=by kernel_rfl):SL P w0 ops Q n (o::rest) E Z As:=
 fun H hH=>l_update ho hK ht k u hk hx hy hu (hH.mp hA) fun H' up=>by rw[hd];exact h H' (mp_step hH hA up)
end
/-! ### Regions that draw, with loads beside calls -/
def HS(Z:Zone)(Ks:List Asr)(H:Heap):Prop:=∃Fs,Holds Z (Ks++Fs) H
def SH(P:Program)(w0:World)(l:List Oper)(Q:Exit→Act→World→Prop)(n:Nat)(Z:Zone)(Ks:List Asr)(fuel:Nat)(listed:Array Bool)(E:Env)(As:List Asr):Prop:=∀H,Holds Z As H→JH P w0 l Q n (HS Z Ks) fuel listed E H
section
variable{l:List Oper}{Ks:List Asr}{fuel:Nat}{listed:Array Bool}
theorem k_held{id:Nat}(Ks:List Asr)(h:SH P w0 l Q n Z Ks l.length (Array.replicate l.length false) E As)(hm:P.follows .mixedOrders=true:=by kernel_rfl):SK P w0 (.region id l.toArray true) Q n E Z As:=fun H hH=>c_held (HS Z Ks) hm (h H hH)
theorem np_finS{fn:Func}{R:Value→List Asr→Prop}:NP (FinS P fn w0 Z R):=np_fin
theorem h_lt{d:Nat}{v:Value}(i:Nat)(hi:l[i]?=some o)(hQ:NP Q)(is:List Nat){Fs:List Asr}(t:∀Fs,Lt P E o Z (Ks++Fs) v)(h:SH P w0 l Q n Z Ks fuel (listed.setIfInBounds i true) ((d,v)::E) As)(hd:o.dst=some d:=by rfl)(hS:rearr As is=Ks++Fs:=by rfl)(hc:canTake l listed i=true:=by kernel_rfl)(hk:okOp l.toArray n E o=true:=by kernel_rfl):SH P w0 l Q n Z Ks (fuel+1) listed E As:=
 fun H hH=>h_light i hi hc hQ hk (fun Hh ⟨Fs,hF⟩=>t Fs Hh hF) ⟨Fs,hS▸hH.rearr is⟩ (by rw[hd];exact h H hH)
theorem h_skipS{d:Nat}(i:Nat)(hQ:NP Q)(is:List Nat){Fs:List Asr}(h:SH P w0 l Q n Z Ks fuel (listed.setIfInBounds i true) ((d,undef)::E) As)(hi:l[i]?=some o:=by rfl)(hd:o.dst=some d:=by rfl)(hS:rearr As is=Ks++Fs:=by rfl)(hc:canTake l listed i=true:=by kernel_rfl)(hu:unwant l.toArray E o=true:=by kernel_rfl)(hk:dstOk n o.dst=true:=by rfl):SH P w0 l Q n Z Ks (fuel+1) listed E As:=
 fun H hH=>h_skip i hi hc hQ hu hk ⟨Fs,hS▸hH.rearr is⟩ (by rw[hd];exact h H hH)
theorem h_stepS(i:Nat)(h:SL P w0 l.toArray (heldQ P l Q (HS Z Ks) fuel (listed.setIfInBounds i true)) n [o] E Z As)(hi:l[i]?=some o:=by rfl)(hr:Region.ready .any l.toArray listed=[i]:=by kernel_rfl):SH P w0 l Q n Z Ks (fuel+1) listed E As:=fun H hH=>h_step i hi hr (h H hH)
theorem xs_held(is:List Nat){Fs:List Asr}(h:SH P w0 l Q n Z Ks fuel listed E As)(hS:rearr As is=Ks++Fs:=by rfl):SX w0 .normal (heldQ P l Q (HS Z Ks) fuel listed) n E Z As:=fun H hH=>x_held ⟨Fs,hS▸hH.rearr is⟩ (h H hH)
theorem h_doneS(h:SX w0 .normal Q n E Z As)(hr:Region.ready .any l.toArray listed=[]:=by kernel_rfl):SH P w0 l Q n Z Ks fuel listed E As:=fun H hH=>h_done hr (h H hH)
theorem h_forkS(t:Nat)(c:Bool)(h1:c=true→SH P w0 l Q n Z Ks fuel listed ((t,.bool true)::E) As)(h2:c=false→SH P w0 l Q n Z Ks fuel listed ((t,.bool false)::E) As)(hv:J.look E t=.bool c:=by rfl)(hh:J.has E t=true:=by rfl):SH P w0 l Q n Z Ks fuel listed E As:=
 fun H hH=>h_fork t c hh hv (fun e=>h1 e H hH) (fun e=>h2 e H hH)
end
end
end Go.S
end
section
set_option linter.unusedSimpArgs false
set_option linter.unusedVariables false
namespace Go.S
open Go.Hp Go.J
open Go.Mem (Ty KTy blk)
section
variable{P:Program}{Z:Zone}{As Bs F:List Asr}{H H':Heap}{A A':Asr}{f:FuncId}{args:Array Value}
theorem Holds.split(h:Holds Z (A::As) H):∃S,A.on H S∧∀(H':Heap) (Cs:List Asr) (S':Nat→Prop),SepL Cs H' S'→Chg S H H'→(∀k,S' k→S k∨H.size≤k)→Holds Z (Cs++As) H':=by
 obtain⟨S,⟨S1,S2,h1,h2,hd',hS⟩,hd⟩:=h.sep;refine⟨S1,h1,fun H' Cs S1' h1' hc hsub=>?_⟩;refine⟨fun k hk=>?_,fun k=>S1' k∨S2 k,SepL.append_iff.2 ⟨S1',S2,h1',h2.keep fun k hk=>?_,fun k a b=>?_,fun k=>Iff.rfl⟩,?_⟩
 .have hz:=h.zone k hk;refine⟨(hc.block k hz.2 fun h1k=>?_).trans hz.1,Nat.lt_of_lt_of_le hz.2 hc.size⟩;exact hd k ((hS k).2 (.inl h1k)) hk
 .exact hc.block k (h2.lt k hk) fun h1k=>hd' k h1k hk
 .rcases hsub k a with h|h
  .exact hd' k h b
  have:=h2.lt k b;omega
 rintro k (a|a) hz
 .rcases hsub k a with h'|h'
  .exact hd k ((hS k).2 (.inl h')) hz
  have:=(h.zone k hz).2;omega
 exact hd k ((hS k).2 (.inr a)) hz
theorem sepL_one{S:Nat→Prop}(h:A.on H S):SepL [A] H S:=⟨S,fun _=>False,h,fun _ h=>h,fun _ _ h=>h,fun k=>by simp⟩
theorem sf_of{val:Value}(h:∀H S,A.on H S→HC P f args H fun v H'=>v=val∧∃S',A'.on H' S'∧Chg S H H'∧∀k,S' k→S k∨H.size≤k):SF P f args Z (A::F) fun v Bs=>v=val∧Bs=A'::F:=fun H hH=>by
 obtain⟨S,hS,hk⟩:=hH.split;exact (h H S hS).mono fun v H' ⟨hv,S',hA,hc,hs⟩=>⟨_,⟨hv,rfl⟩,hk H' [A'] S' (sepL_one hA) hc hs⟩
theorem sf_val{val:Value}(h:∀H,Holds Z [] H→HC P f args H fun v H'=>v=val∧Chg (fun _=>False) H H'):SF P f args Z [] fun v Bs=>v=val∧Bs=[]:=fun H hH=>
 (h H hH).mono fun v H' ⟨hv,hc⟩=>⟨_,⟨hv,rfl⟩,hH.ext hc⟩
theorem Holds.nilS{α:Type}{T:Ty α}(h:Holds Z As H):Holds Z (own T (.slice none 0 0) []::As) H:=
 h.new (Chg.refl _ _) (S':=fun _=>False) ⟨Ow.nil _ _,fun k=>⟨fun h=>h.elim,fun h=>by cases h⟩⟩ fun _ h=>h.elim
def KnA(Z:Zone)(A:Asr):Prop:=∃S,A.on Z.heap S∧∀k,S k→Z.dom k
theorem KnA.get(k:KnA Z A)(h:Holds Z As H):∃S,A.on H S:=by
 obtain⟨S,hS,hd⟩:=k;exact⟨S,A.keep hS fun k hk=>(h.zone k (hd k hk)).1⟩
theorem Holds.kn(h:Holds Z As H)(i:Nat)(hi:gt As i=some A:=by rfl):KnA (zoneOf H) A:=by
 obtain⟨S,hS,_⟩:=h.part hi;exact⟨S,hS,fun k hk=>A.lt hS k hk⟩
theorem Holds.knS{α:Type}{T:Ty α}{v:Value}{L:List α}(h:Holds Z As H)(i:Nat)(hi:gt As i=some (own T v L):=by rfl):Kn (zoneOf H) T v L:=.of (h.ow hi).sl
theorem Kn.up{α:Type}{T:Ty α}{v:Value}{L:List α}(k:Kn Z T v L)(h:Holds Z As H):Kn (zoneOf H) T v L:=.of (k.get h)
end
end Go.S
end
section
set_option linter.unusedSimpArgs false
set_option linter.unusedVariables false
namespace Go.S
open Go.Hp Go.J
section
variable{P:Program}{E:Env}{Z:Zone}{As:List Asr}{o:Oper}
theorem t_rem{t u:TypeId}{x y:Operand}{k:IntKind}(a b:Int)(hb:b≠0)(ho:o.op=.binOp .rem t x y u:=by rfl)(hx:ev E x=.int k a:=by rfl)(hy:ev E y=.int k b:=by rfl):Lt P E o Z As (.int k (a.tmod b)):=
 fun _ _=>r_pure _ (bin_run ho _ _ hx hy eqg_int fun w=>by simp[binOp,Op.intDiv,hb,Sem.run_pure])
theorem t_neg{t:TypeId}{x:Operand}(a:Int)(hr : -9223372036854775808 ≤ -a ∧ -a≤9223372036854775807)(ho:o.op=.unOp .neg t x:=by rfl)(hx:ev E x=.int .i64 a:=by rfl):Lt P E o Z As (.int .i64 (-a)):=
 fun _ _=>r_pure _ fun w=>by
  unfold execOp;simp[ho,hx,Op.unary,Op.intArith,Int.zero_sub,wrap64 hr,Sem.run_pure,Sem.run_bind]
end
end Go.S
end
section
set_option linter.unusedSimpArgs false
set_option linter.unusedVariables false
namespace Go.S
open Go.Hp Go.J
open Go.Mem (Ty KTy blk elemAt pre suf)
section
variable{P:Program}{w0:World}{ops:Array Oper}{Q:Exit→Act→World→Prop}{n:Nat}{E:Env}{Z:Zone}{As:List Asr}{o:Oper}{rest:List Oper}{α:Type}{T:Ty α}{v u v2:Value}{L M:List α}{w:World}
def Sub(T:Ty α)(v u:Value)(k m:Nat):Prop:=
 (∃p c,u=.slice p m c)∧(0<m→∃g l cap c',v=.slice (some ⟨g,0,none⟩) l cap∧u=.slice (some ⟨g,k*T.size,none⟩) m c'∧m≤c')
theorem Sub.self{H:Heap}(h:Ow H T v L):Sub T v v 0 L.length:=by
 rcases h with ⟨rfl,rfl⟩|⟨g,cap,arr,rfl,_,hc,_⟩
 .exact ⟨⟨_,_,rfl⟩,fun h=>absurd h (by simp)⟩
 exact⟨⟨_,_,rfl⟩,fun _=>⟨g,L.length,cap,cap,rfl,by simp,hc⟩⟩
theorem Sub.suf{k m j:Nat}(h:Sub T v u k m)(hj:j≤m):Sub T v (suf T.size u j) (k+j) (m-j):=by
 obtain⟨⟨p,c,rfl⟩,h⟩:=h;refine⟨⟨_,_,rfl⟩,fun hp=>?_⟩;obtain⟨g,l,cap,c',hv,hu,hc⟩:=h (by omega);injection hu with e1 e2 e3
 subst e1 e3;refine⟨g,l,cap,c-j,hv,?_,by omega⟩;simp only[Go.Mem.suf];rw[if_neg (by omega)];simp only[Option.map_some,Mem.addr_add,Nat.add_mul]
theorem Sub.pre{k m j:Nat}(h:Sub T v u k m)(hj:j≤m):Sub T v (pre u j) k j:=by
 obtain⟨⟨p,c,rfl⟩,h⟩:=h;refine⟨⟨_,_,rfl⟩,fun hp=>?_⟩;obtain⟨g,l,cap,c',hv,hu,hc⟩:=h (by omega);injection hu with e1 e2 e3
 subst e1 e3;exact⟨g,l,cap,c,hv,rfl,by omega⟩
def nilS:Value→Bool
 | .slice none _ _=>true
 | _=>false
theorem nilS_spec{H:Heap}(h:Sl H T v L)(hn:nilS v=true):v=.slice none 0 0∧L=[]:=by
 rcases h with ⟨⟨p,rfl⟩,rfl⟩|⟨g,off,cap,arr,e,fr,rfl,_⟩
 .cases p with
  | none=>exact⟨rfl,rfl⟩
  | some p=>simp[nilS]at hn
 simp[nilS]at hn
theorem equal_nilS{t e:TypeId}(ht:P.underlying t=some (.slice e))(p:Option Addr)(l c:Nat)(w:World):(Op.equal t (.slice p l c) (.slice none 0 0)).run P w=.ok p.isNone w:=by
 obtain⟨D,hD⟩:∃D,Op.maxDepth=D+1:=⟨Op.maxDepth-1,by decide⟩;show (Op.equalIn Op.maxDepth t (.slice p l c) (.slice none 0 0)).run P w=_;rw[hD];unfold Op.equalIn;cases p<;>simp only[Sem.run_bind,run_underlying ht,Result.andThen_ok,Sem.run_pure]<;>rfl
theorem t_nilS{t u e:TypeId}{x y:Operand}(ht:P.underlying t=some (.slice e))(a:Acc Z As T v L)(ho:o.op=.binOp .eql t x y u:=by rfl)(hx:ev E x=v:=by rfl)(hy:ev E y=.slice none 0 0:=by rfl):Lt P E o Z As (.bool (nilS v)):=fun H hH=>by
 obtain⟨p,c,e⟩:=(a H hH).form;subst e;refine r_pure _ (bin_run ho _ _ hx hy (fun w=>by simp[eqGuard,Sem.run_pure]) fun w=>?_);simp only[binOp,Sem.run_bind,equal_nilS ht,Result.andThen_ok,Sem.run_pure];cases p<;>rfl
theorem t_loadG{t:TypeId}{x:Operand}{k m:Nat}{y:α}(j:Nat)(cs:Array Value)(hT:T.Ok P)(a:Acc Z As T v L)(hy:L[k]?=some y)(hl:cs.size=m:=by rfl)(hc:(T.enc y).extract j (j+m)=cs.toList:=by rfl)(ho:o.op=.load t x:=by rfl)(hx:ev E x=.pointer (some ((elemAt T.size v k).add j)):=by rfl)(ht:aggT P t m=true:=by kernel_rfl):Lt P E o Z As (.agg cs):=fun H hH=>by
 have hsl:=a H hH;refine⟨fun w hw=>?_⟩;rcases hsl with ⟨_,rfl⟩|⟨g,off,cap,arr,e,fr,rfl,h1,h2,h3,h4,h5⟩
 .simp at hy
 have hadr:ev E x=.pointer (some ⟨g,off+k*T.size+j,none⟩):=by rw[hx];simp only[elemAt,Go.Mem.addr_add]
 unfold execOp;simp only[ho,hadr];refine Mem.run_v ?_;unfold Instr.loadAt Instr.sureAddr;rw[Sem.run_bind,Sem.run_pure,Result.andThen_ok];refine run_loadA ht (by rw[hw];exact h1) cs hl (fun i u hi=>?_);have h6:cs.toList[i]?=some u:=by simpa using hi
 rw[←hc,List.extract_eq_take_drop,List.getElem?_take]at h6;split at h6
 .rw [List.getElem?_drop]at h6;have hjs:j+i<T.size:=by rw[←hT.len y];exact (List.getElem?_eq_some_iff.1 h6).1
  have h7:=hT.flat_get hy hjs;rw[h6,←h5,List.getElem?_take]at h7;split at h7
  .rw [List.getElem?_drop]at h7;rw[←Array.getElem?_toList,←h7];congr 1;omega
  cases h7
 cases h6
end
end Go.S
end
section
set_option linter.unusedSimpArgs false
set_option linter.unusedVariables false
namespace Go.S
open Go.Hp Go.J
section
variable{P:Program}{E:Env}{Z:Zone}{As:List Asr}{o:Oper}
theorem t_idxS{t:TypeId}{x i:Operand}{q:IntKind}(ht:P.underlying t=some .string)(a:ByteArray)(k:Int)(b:UInt8)(h0:0≤k)(hb:a[k.toNat]?=some b)(ho:o.op=.index t x i:=by rfl)(hx:ev E x=.string a:=by rfl)(hi:ev E i=.int q k:=by rfl):Lt P E o Z As (.int .u8 b.toNat):=
 fun _ _=>r_pure _ fun w=>by
  unfold execOp;simp only[ho,hx,hi];exact Mem.run_v (by simp[Instr.index,asIntOf,run_underlying ht,h0,hb,Sem.run_pure,Sem.run_bind])
/-! ### Integers of any kind, as they wrap -/
end
end Go.S
end
section
set_option linter.unusedSimpArgs false
set_option linter.unusedVariables false
namespace Go.Proofs.YtmhpcebiamkciaaGreat
structure Vl where
 kind:Int
 p:Int
 q:Int
 str:ByteArray
 ref:Int
 deriving DecidableEq
def zVl:Vl:=⟨0,0,0,ByteArray.empty,0⟩
def validN(p q:Int):Bool:=decide (1≤q)&&(decide (q≤2147483647)&&(decide (-2147483647≤p)&&(decide (p≤2147483647)&&decide (Int.gcd p q=1))))
def validB(v:Vl):Bool:=
 if v.kind=0 then decide (v=⟨0,0,0,ByteArray.empty,0⟩) else
 if v.kind=1 then decide (v=⟨1,0,0,ByteArray.empty,v.ref⟩)&&(decide (v.ref=0)||decide (v.ref=1)) else
 if v.kind=2 then decide (v=⟨2,v.p,v.q,ByteArray.empty,0⟩)&&validN v.p v.q else
 if v.kind=3 then decide (v=⟨3,0,0,v.str,0⟩)&&decide ((v.str.size:Int)≤4096) else
 if v.kind=6 then decide (v=⟨6,0,0,v.str,0⟩)&&(decide (1≤(v.str.size:Int))&&decide ((v.str.size:Int)≤4096)) else
 if v.kind=4∨v.kind=5∨v.kind=7∨v.kind=8 then decide (v=⟨v.kind,0,0,ByteArray.empty,v.ref⟩)&&decide (1≤v.ref) else false
theorem gcd_step(a b:Nat):Nat.gcd b (a % b)=Nat.gcd a b:=by rw[Nat.gcd_comm b,←Nat.gcd_rec,Nat.gcd_comm]
theorem gcd_bool(p q:Int)(h:1≤q):decide (((Nat.gcd (if p<(-p) then (-p) else p).toNat q.toNat:Nat):Int)=1)=decide (Int.gcd p q=1):=by
 rw[show (if p<(-p) then (-p) else p).toNat=p.natAbs by omega,show q.toNat=q.natAbs by omega,Bool.eq_iff_iff];rw[decide_eq_true_eq,decide_eq_true_eq];exact⟨fun h=>Int.ofNat_inj.1 h,fun h=>Int.ofNat_inj.2 h⟩
theorem validN_eq(p q:Int):((decide ((1:Int)≤q))&&((decide (q≤2147483647))&&((decide ((-2147483647)≤p))&&((decide (p≤2147483647))&&(decide (((Nat.gcd (if p<(-p) then (-p) else p).toNat q.toNat:Nat):Int)=1))))))=validN p q:=by
 by_cases h:1≤q
 .rw [gcd_bool p q h];rfl
 simp[validN,h]
theorem rvalidN_eq(p q:Int):((decide ((1:Int)≤q))&&((decide (q≤2147483647))&&((decide (p≤2147483647))&&((decide ((-2147483647)≤p))&&(decide (((Nat.gcd (if p<(-p) then (-p) else p).toNat q.toNat:Nat):Int)=1))))))=validN p q:=by
 rw[←validN_eq,Bool.and_left_comm (decide (p≤2147483647))]
end Go.Proofs.YtmhpcebiamkciaaGreat
end
section
set_option linter.unusedSimpArgs false
set_option linter.unusedVariables false
namespace Go.Proofs.YtmhpcebiamkciaaGreat
structure Slt where
 key:Vl
 val:Vl
 gone:Bool
 deriving DecidableEq
def lastAt:List Slt→Vl→Option Nat
 | [],_=>none
 | s::r,k=>match lastAt r k with
  | some i=>some (i+1)
  | none=>if s.key=k then some 0 else none
theorem lastAt_snoc(S:List Slt)(s:Slt)(k:Vl):lastAt (S++[s]) k=if s.key=k then some S.length else lastAt S k:=by
 induction S with
 | nil=>simp[lastAt]
 | cons t r ih=>
  rw[List.cons_append,lastAt,ih];by_cases h:s.key=k
  .simp [h]
  simp[h,lastAt]
theorem lastAt_none{S:List Slt}{k:Vl}(h:lastAt S k=none):∀s∈S,s.key≠k:=by
 induction S with
 | nil=>intro s hs;cases hs
 | cons t r ih=>
  rw[lastAt]at h;cases hr:lastAt r k with
  | some i=>rw[hr]at h;cases h
  | none=>
   rw[hr]at h;by_cases hk:t.key=k
   .simp [hk]at h
   intro s hs;rcases List.mem_cons.1 hs with rfl|hs
   .exact hk
   exact ih hr s hs
theorem lastAt_some{S:List Slt}{k:Vl}{i:Nat}(h:lastAt S k=some i):∃s,S[i]?=some s∧s.key=k∧∀j t,i<j→S[j]?=some t→t.key≠k:=by
 induction S generalizing i with
 | nil=>cases h
 | cons t r ih=>
  rw[lastAt]at h;cases hr:lastAt r k with
  | some j=>
   rw[hr]at h;obtain rfl:j+1=i:=by injection h
   obtain⟨s,h1,h2,h3⟩:=ih hr;refine⟨s,by simpa using h1,h2,fun j' t' hj ht=>?_⟩;cases j' with
   | zero=>omega
   | succ j'=>exact h3 j' t' (by omega) (by simpa using ht)
  | none=>
   rw[hr]at h;by_cases hk:t.key=k
   .simp [hk]at h;subst h;refine⟨t,rfl,hk,fun j' t' hj ht=>?_⟩;cases j' with
    | zero=>omega
    | succ j'=>exact lastAt_none hr t' (List.mem_of_getElem? (by simpa using ht))
   simp[hk]at h
theorem lastAt_lt{S:List Slt}{k:Vl}{i:Nat}(h:lastAt S k=some i):i<S.length:=by
 obtain⟨s,h1,_⟩:=lastAt_some h;exact (List.getElem?_eq_some_iff.1 h1).1
theorem lastAt_is{S:List Slt}{k:Vl}{i:Nat}{s:Slt}(h1:S[i]?=some s)(h2:s.key=k)(h3:∀j t,i<j→S[j]?=some t→t.key≠k):lastAt S k=some i:=by
 cases h:lastAt S k with
 | none=>exact absurd h2 (lastAt_none h s (List.mem_of_getElem? h1))
 | some j=>
  obtain⟨t,e1,e2,e3⟩:=lastAt_some h;rcases Nat.lt_trichotomy i j with hij|rfl|hij
  .exact absurd e2 (h3 j t hij e1)
  .rfl
  exact absurd h2 (e3 i s hij h1)
theorem lastAt_nokey{S:List Slt}{k:Vl}(h:∀s∈S,s.key≠k):lastAt S k=none:=by
 cases hl:lastAt S k with
 | none=>rfl
 | some i=>
  obtain⟨s,e1,e2,_⟩:=lastAt_some hl;exact absurd e2 (h s (List.mem_of_getElem? e1))
theorem lastAt_set(S:List Slt)(k k':Vl){i:Nat}{s:Slt}(h:lastAt S k=some i)(hs:s.key=k):lastAt (S.set i s) k'=lastAt S k':=by
 obtain⟨t,h1,h2,h3⟩:=lastAt_some h;have hi:=lastAt_lt h;have hget:∀j,((S.set i s)[j]?).map Slt.key=(S[j]?).map Slt.key:=fun j=>by
  by_cases e:i=j
  .subst e;rw[List.getElem?_set_self hi,h1];simp[hs,h2]
  rw[List.getElem?_set_ne e]
 cases hl:lastAt S k' with
 | none=>
  refine lastAt_nokey fun u hu=>?_
  obtain⟨j,hj⟩:=List.mem_iff_getElem?.1 hu;have:=hget j;rw[hj]at this;cases hS:S[j]? with
  | none=>rw[hS]at this;simp at this
  | some v=>
   rw[hS]at this;simp at this;rw[this];exact lastAt_none hl v (List.mem_of_getElem? hS)
 | some j=>
  obtain⟨u,e1,e2,e3⟩:=lastAt_some hl;have:=hget j;rw[e1]at this;cases hS:(S.set i s)[j]? with
  | none=>rw[hS]at this;simp at this
  | some v=>
   rw[hS]at this;simp at this;refine lastAt_is hS (by rw[this,e2]) fun j' t' hj' ht'=>?_
   have h4:=hget j';rw[ht']at h4;cases hS':S[j']? with
   | none=>rw[hS']at h4;simp at h4
   | some v'=>
    rw[hS']at h4;simp at h4;rw[h4];exact e3 j' v' hj' hS'
structure OInv(S:List Slt):Prop where
 uniq:S.Pairwise fun s t=>s.key=t.key→s.gone=true
 zero:∀s∈S,s.gone=true→s.val=zVl
 keys:∀s∈S,validB s.key=true∧s.key.kind≠0
 vals:∀s∈S,s.gone=false→validB s.val=true∧s.val.kind≠0
theorem OInv.nil:OInv []:=⟨.nil,fun _ h=>(by cases h),fun _ h=>(by cases h),fun _ h=>(by cases h)⟩
def live(S:List Slt):List Slt:=S.filter fun s=>!s.gone
def cnt(S:List Slt):Nat:=(live S).length
def thereAt(S:List Slt)(k:Vl):Option Nat:=(lastAt S k).bind fun i=>(S[i]?).bind fun s=>if s.gone then none else some i
def oget(S:List Slt)(k:Vl):Vl:=match (lastAt S k).bind (S[·]?) with
 | some s=>s.val
 | none=>zVl
def okKey(k:Vl):Bool:= !(decide (k.kind=0))&&validB k
def osetE(k v:Vl):Int:=if okKey k=false then 13 else if validB v=false then 2 else 0
def osetL(S:List Slt)(k v:Vl):List Slt:=
 if okKey k=false then S else if validB v=false then S else
 if v.kind=0 then (match thereAt S k with|some i=>S.set i ⟨k,zVl,true⟩|none=>S) else
 match thereAt S k with
 | some i=>S.set i ⟨k,v,false⟩
 | none=>(if cnt S+8<S.length-cnt S then live S else S)++[⟨k,v,false⟩]
def slotV(s:Option Slt):Vl×Vl×Bool:=match s with
 | some s=>(s.key,s.val,true)
 | none=>(zVl,zVl,false)
def onext(S:List Slt)(k:Vl):Vl×Vl×Bool×Int:=
 if k=zVl then (let r:=slotV (live S).head?;(r.1,r.2.1,r.2.2,0)) else
 match lastAt S k with
 | none=>(zVl,zVl,false,13)
 | some i=>(let r:=slotV (live (S.drop (i+1))).head?;(r.1,r.2.1,r.2.2,0))
def okeys(S:List Slt):List Vl:=(live S).map Slt.key
theorem thereAt_some{S:List Slt}{k:Vl}{i:Nat}(h:thereAt S k=some i):lastAt S k=some i∧∃s,S[i]?=some s∧s.key=k∧s.gone=false:=by
 unfold thereAt at h;cases hl:lastAt S k with
 | none=>rw[hl]at h;cases h
 | some j=>
  rw[hl]at h;obtain⟨s,h1,h2,h3⟩:=lastAt_some hl;simp only[Option.bind_some,h1]at h;by_cases hg:s.gone=true
  .simp [hg]at h
  simp[hg]at h;subst h;exact⟨rfl,s,h1,h2,by simpa using hg⟩
theorem thereAt_is{S:List Slt}{k:Vl}{i:Nat}{s:Slt}(hl:lastAt S k=some i)(h1:S[i]?=some s):thereAt S k=if s.gone then none else some i:=by
 unfold thereAt;rw[hl];simp[h1]
theorem thereAt_none{S:List Slt}{k:Vl}(hl:lastAt S k=none):thereAt S k=none:=by unfold thereAt;rw[hl];rfl
theorem OInv.last{S:List Slt}(h:OInv S){i:Nat}{s:Slt}(h1:S[i]?=some s)(hg:s.gone=false):lastAt S s.key=some i:=
 lastAt_is h1 rfl fun j t hj ht e=>by
  obtain⟨hi,e1⟩:=List.getElem?_eq_some_iff.1 h1;obtain⟨hj',e2⟩:=List.getElem?_eq_some_iff.1 ht;have:=List.pairwise_iff_getElem.1 h.uniq i j hi hj' hj (by rw[e1,e2,e]);rw[e1,hg]at this;cases this
theorem OInv.there{S:List Slt}(h:OInv S){i:Nat}{s:Slt}(h1:S[i]?=some s)(hg:s.gone=false):thereAt S s.key=some i:=by
 rw[thereAt_is (h.last h1 hg) h1,hg];rfl
theorem oget_some{S:List Slt}{k:Vl}{i:Nat}{s:Slt}(h:lastAt S k=some i)(h1:S[i]?=some s):oget S k=s.val:=by unfold oget;rw[h];simp[h1]
theorem oget_none{S:List Slt}{k:Vl}(h:lastAt S k=none):oget S k=zVl:=by unfold oget;rw[h];rfl
theorem oget_bad{S:List Slt}(h:OInv S){k:Vl}(hk:okKey k=false):oget S k=zVl:=by
 refine oget_none (lastAt_nokey fun s hs e=>?_);obtain⟨h1,h2⟩:=h.keys s hs;subst e;simp[okKey,h1,h2]at hk
theorem live_snoc(S:List Slt)(s:Slt):live (S++[s])=if s.gone then live S else live S++[s]:=by
 unfold live;rw[List.filter_append];cases hg:s.gone<;>simp[hg]
theorem live_take{S:List Slt}{i:Nat}{s:Slt}(h:S[i]?=some s):live (S.take (i+1))=if s.gone then live (S.take i) else live (S.take i)++[s]:=by
 rw[List.take_add_one,h];exact live_snoc _ _
theorem live_set{S:List Slt}{i:Nat}{s t:Slt}(h:S[i]?=some t):live (S.set i s)=live (S.take i)++live [s]++live (S.drop (i+1))∧live S=live (S.take i)++live [t]++live (S.drop (i+1)):=by
 obtain⟨hi,e⟩:=List.getElem?_eq_some_iff.1 h;constructor
 .rw [List.set_eq_take_append_cons_drop,if_pos hi];show List.filter _ _=List.filter _ _++List.filter _ _++List.filter _ _;rw[List.append_assoc,←List.filter_append,←List.filter_append];rfl
 show List.filter _ _=List.filter _ _++List.filter _ _++List.filter _ _;rw[List.append_assoc,←List.filter_append,←List.filter_append];congr 1;rw[←e];simp
theorem cnt_le(S:List Slt):cnt S≤S.length:=List.length_filter_le _ _
theorem live_inv{S:List Slt}(h:OInv S):OInv (live S):=by
 refine⟨h.uniq.filter _,fun s hs=>h.zero s (List.mem_filter.1 hs).1,fun s hs=>h.keys s (List.mem_filter.1 hs).1,fun s hs=>h.vals s (List.mem_filter.1 hs).1⟩
theorem live_gone{S:List Slt}{s:Slt}(h:s∈live S):s.gone=false:=by have:=(List.mem_filter.1 h).2;simpa using this
theorem live_live(S:List Slt):live (live S)=live S:=by unfold live;rw[List.filter_filter];simp
theorem okKey_iff{k:Vl}:okKey k=true↔validB k=true∧k.kind≠0:=by simp[okKey,and_comm]
theorem there_none{S:List Slt}(h:OInv S){k:Vl}(ht:thereAt S k=none):∀s∈S,s.key=k→s.gone=true:=fun s hs e=>by
 cases hg:s.gone with
 | true=>rfl
 | false=>
  obtain⟨i,hi⟩:=List.mem_iff_getElem?.1 hs;have:=h.there hi hg;rw[e,ht]at this;cases this
theorem OInv.set{S:List Slt}(h:OInv S){k:Vl}{i:Nat}{s:Slt}(hl:lastAt S k=some i)(hk:s.key=k)(hz:s.gone=true→s.val=zVl)(hv:s.gone=false→validB s.val=true∧s.val.kind≠0):OInv (S.set i s):=by
 obtain⟨t,h1,h2,h3⟩:=lastAt_some hl;obtain⟨hi,e⟩:=List.getElem?_eq_some_iff.1 h1;refine⟨?_,fun u hu=>?_,fun u hu=>?_,fun u hu=>?_⟩
 .rw [List.pairwise_iff_getElem];intro a b ha hb hab;rw[List.length_set]at ha hb;rw[List.getElem_set,List.getElem_set];have hp:=List.pairwise_iff_getElem.1 h.uniq a b ha hb hab;by_cases ea:i=a
  .subst ea;rw[if_pos rfl,if_neg (by omega)];intro e';exact absurd (e'.symm.trans hk) (h3 b _ hab (List.getElem?_eq_getElem hb))
  rw[if_neg ea];by_cases eb:i=b
  .subst eb;rw[if_pos rfl];intro e';exact hp (by rw[e',hk,e,h2])
  rw[if_neg eb];exact hp
 .rcases List.mem_or_eq_of_mem_set hu with hu|rfl
  .exact h.zero u hu
  exact hz
 .rcases List.mem_or_eq_of_mem_set hu with hu|rfl
  .exact h.keys u hu
  rw[hk,←h2];exact h.keys t (List.mem_of_getElem? h1)
 rcases List.mem_or_eq_of_mem_set hu with hu|rfl
 .exact h.vals u hu
 exact hv
theorem OInv.snoc{S:List Slt}(h:OInv S){k v:Vl}(hk:okKey k=true)(hv:validB v=true)(h0:v.kind≠0)(hn:∀s∈S,s.key=k→s.gone=true):OInv (S++[⟨k,v,false⟩]):=by
 refine⟨?_,fun u hu=>?_,fun u hu=>?_,fun u hu=>?_⟩
 .rw [List.pairwise_append];refine⟨h.uniq,by simp,fun s hs t ht=>?_⟩;rw[List.mem_singleton]at ht;subst ht;exact hn s hs
 all_goals
  rcases List.mem_append.1 hu with hu|hu
  .first|exact h.zero u hu|exact h.keys u hu|exact h.vals u hu
  rw[List.mem_singleton]at hu;subst hu;first|(intro h;cases h;done)|exact okKey_iff.1 hk|exact fun _=>⟨hv,h0⟩
theorem osetL_inv{S:List Slt}(h:OInv S)(k v:Vl):OInv (osetL S k v):=by
 unfold osetL;split
 .exact h
 rename_i hk
 split
 .exact h
 rename_i hv
 have hk':okKey k=true:=by simpa using hk
 have hv':validB v=true:=by simpa using hv
 split
 .cases ht:thereAt S k with
  | none=>exact h
  | some i=>exact h.set (thereAt_some ht).1 rfl (fun _=>rfl) (fun h=>by cases h)
 rename_i h0
 cases ht:thereAt S k with
 | some i=>exact h.set (thereAt_some ht).1 rfl (fun h=>by cases h) (fun _=>⟨hv',h0⟩)
 | none=>
  show OInv ((if _ then _ else _)++_);split
  .exact (live_inv h).snoc hk' hv' h0 fun s hs e=>there_none h ht s (List.mem_filter.1 hs).1 e
  exact h.snoc hk' hv' h0 (there_none h ht)
theorem osetL_len(S:List Slt)(k v:Vl):(osetL S k v).length≤S.length+1:=by
 unfold osetL;split
 .omega
 split
 .omega
 split
 .split<;>simp
 split
 .simp
 rw[List.length_append];split
 .have:=cnt_le S;simp[cnt]at *;omega
 simp
end Go.Proofs.YtmhpcebiamkciaaGreat
end
section
set_option linter.unusedSimpArgs false
set_option linter.unusedVariables false
namespace Go.Proofs.YtmhpcebiamkciaaGreat
structure Tb where
 list:List Vl
 rest:List Slt
 deriving DecidableEq
def whole(k:Vl):Int:=if k.kind=2∧k.q=1∧validB k=true then k.p else 0
def ofI(n:Int):Vl:=if n < -2147483647∨2147483647<n then zVl else ⟨2,n,1,ByteArray.empty,0⟩
def inB(n:Int)(len:Nat):Bool:=decide (1≤n)&&decide (n≤(len:Int))
def tget(T:Tb)(k:Vl):Vl:=if validB k=false then zVl else if inB (whole k) T.list.length=true then (T.list[(whole k-1).toNat]?).getD zVl else oget T.rest k
def shr(L:List Vl):List Vl:=(L.reverse.dropWhile fun v=>decide (v.kind=0)).reverse
def grow(S:List Slt):Nat→List Vl→Vl→List Vl
 | 0,L,_=>L
 | f+1,L,v=>if v.kind=0 then L else grow S f (L++[v]) (oget S (ofI ((L.length:Int)+2)))
def hasK(S:List Slt)(k:Vl):Bool:=decide (k=zVl)||(lastAt S k).isSome
def staleB(S:List Slt)(n m:Nat):Bool:=(List.range' (n+1) (m-n)).any fun i=>hasK S (ofI (i:Int))
def purge(S:List Slt)(m:Nat):List Slt:=(live S).filter fun s=>!inB (whole s.key) m
def tadd(T:Tb)(v:Vl):Tb:=
 let L:=grow T.rest (T.rest.length+2) T.list v
 ⟨L,if staleB T.rest T.list.length L.length then purge T.rest L.length else T.rest⟩
def tsetE(k v:Vl):Int:=if okKey k=false then 13 else if validB v=false then 2 else 0
def tset(T:Tb)(k v:Vl):Tb:=
 if okKey k=false then T else if validB v=false then T else
 if inB (whole k) T.list.length=true then { T with list:=shr (T.list.set ((whole k-1).toNat) v) } else
 if whole k=(T.list.length:Int)+1∧v.kind≠0 then tadd T v else { T with rest:=osetL T.rest k v }
structure TInv(T:Tb):Prop where
 rest:OInv T.rest
 list:∀v∈T.list,validB v=true
 last:∀v,T.list.getLast?=some v→v.kind≠0
theorem TInv.nil:TInv ⟨[],[]⟩:=⟨.nil,fun _ h=>(by cases h),fun _ h=>(by cases h)⟩
theorem shr_snoc(L:List Vl)(v:Vl):shr (L++[v])=if v.kind=0 then shr L else L++[v]:=by
 unfold shr;rw[List.reverse_append,List.reverse_singleton,List.singleton_append,List.dropWhile_cons];by_cases h:v.kind=0<;>simp[h]
theorem shr_id{L:List Vl}(h:∀v,L.getLast?=some v→v.kind≠0):shr L=L:=by
 rcases List.eq_nil_or_concat L with rfl|⟨r,v,rfl⟩
 .rfl
 rw[List.concat_eq_append]at*;rw[shr_snoc,if_neg (h v (by simp))]
theorem shr_last(L:List Vl):∀v,(shr L).getLast?=some v→v.kind≠0:=by
 intro v hv;unfold shr at hv;rw[List.getLast?_reverse]at hv;have:=List.head?_dropWhile_not (fun v:Vl=>decide (v.kind=0)) L.reverse;rw[hv]at this;simpa using this
theorem shr_step{L:List Vl}{n:Nat}{v:Vl}(hn:n<L.length)(hv:L[n]?=some v)(h0:v.kind=0):shr (L.take (n+1))=shr (L.take n):=by
 rw[List.take_add_one,hv];show shr (L.take n++[v])=_;rw[shr_snoc,if_pos h0]
theorem shr_stop{L:List Vl}{n:Nat}{v:Vl}(hv:L[n]?=some v)(h0:v.kind≠0):shr (L.take (n+1))=L.take (n+1):=by
 rw[List.take_add_one,hv];show shr (L.take n++[v])=L.take n++[v];rw[shr_snoc,if_neg h0]
theorem shr_len(L:List Vl):(shr L).length≤L.length:=by
 unfold shr;have e:L.reverse.length=L.length:=List.length_reverse;rw[List.length_reverse,←e];exact (List.dropWhile_suffix _).length_le
theorem shr_mem{L:List Vl}{v:Vl}(h:v∈shr L):v∈L:=by
 unfold shr at h;rw[List.mem_reverse]at h;have:=(List.dropWhile_suffix _).subset h;simpa using this
theorem whole_ofI{n:Int}(h1:1≤n)(h2:n≤2147483647):whole (ofI n)=n∧okKey (ofI n)=true∧ofI n≠zVl:=by
 have e:ofI n=⟨2,n,1,ByteArray.empty,0⟩:=by unfold ofI;rw[if_neg (by omega)]
 have hv:validB ⟨2,n,1,ByteArray.empty,0⟩=true:=by
  have:Int.gcd n 1=1:=by simp
  simp[validB,validN,this];omega
 rw[e];refine⟨?_,?_,?_⟩
 .unfold whole;rw[if_pos ⟨rfl,rfl,hv⟩]
 .rw [okKey_iff];exact⟨hv,by show (2:Int)≠0;decide⟩
 intro h;injection h with h;cases h
theorem ofI_far{n:Int}(h:2147483647<n):ofI n=zVl:=by unfold ofI;rw[if_pos (.inr h)]
theorem whole_key{k:Vl}{n:Int}(h:whole k=n)(hn:1≤n):k=ofI n∧n≤2147483647:=by
 unfold whole at h;split at h
 .rename_i hc;obtain⟨h1,h2,h3⟩:=hc;have h4:k=⟨2,k.p,k.q,ByteArray.empty,0⟩∧validN k.p k.q=true:=by
   unfold validB at h3;rw[h1,if_neg (by decide),if_neg (by decide),if_pos rfl,Bool.and_eq_true,decide_eq_true_eq]at h3;exact h3
  have h5:n≤2147483647:=by
   have:=h4.2;simp[validN]at this;omega
  refine⟨?_,h5⟩;rw[h4.1,h2];unfold ofI;rw[if_neg (by omega),h]
 omega
theorem inB_iff{n:Int}{m:Nat}:inB n m=true↔1≤n∧n≤(m:Int):=by simp[inB]
/-! ### The run of values that follow -/
def more(S:List Slt)(n:Nat):Nat:=(live S).countP fun s=>decide ((n:Int)<whole s.key)
theorem more_le(S:List Slt)(n:Nat):more S n≤S.length:=Nat.le_trans List.countP_le_length (cnt_le S)
theorem oget_live{S:List Slt}(h:OInv S){k:Vl}(h0:(oget S k).kind≠0):∃s∈live S,s.key=k∧s.val=oget S k:=by
 cases hl:lastAt S k with
 | none=>rw[oget_none hl]at h0;exact absurd rfl h0
 | some i=>
  obtain⟨s,h1,h2,_⟩:=lastAt_some hl;rw[oget_some hl h1]at h0⊢;refine⟨s,List.mem_filter.2 ⟨List.mem_of_getElem? h1,?_⟩,h2,rfl⟩;cases hg:s.gone with
  | false=>rfl
  | true=>rw[h.zero s (List.mem_of_getElem? h1) hg]at h0;exact absurd rfl h0
theorem countP_lt{α:Type}{p q:α→Bool}{L:List α}(hpq:∀x∈L,p x=true→q x=true){y:α}(hy:y∈L)(h1:p y=false)(h2:q y=true):L.countP p<L.countP q:=by
 induction L with
 | nil=>cases hy
 | cons a r ih=>
  rw[List.countP_cons,List.countP_cons];have hm:=List.countP_mono_left (l:=r) (p:=p) (q:=q) fun x hx h=>hpq x (List.mem_cons_of_mem _ hx) h
  rcases List.mem_cons.1 hy with rfl|hy
  .rw [h1,h2];simp;omega
  have:=ih (fun x hx=>hpq x (List.mem_cons_of_mem _ hx)) hy;have:=hpq a List.mem_cons_self;cases hp:p a<;>simp_all<;>(try split)<;>omega
def mu(S:List Slt)(n:Nat)(v:Vl):Nat:=if v.kind=0 then 0 else more S (n+1)+1
theorem mu_lt{S:List Slt}(h:OInv S){n:Nat}{v:Vl}(h0:v.kind≠0):mu S (n+1) (oget S (ofI ((n:Int)+2)))<mu S n v:=by
 unfold mu;rw[if_neg h0];split
 .omega
 rename_i h1
 obtain⟨s,h2,h3,_⟩:=oget_live h h1;have hle:(n:Int)+2≤2147483647:=Int.not_lt.1 fun hf=>by rw[ofI_far hf]at h1;exact h1 (by rw[oget_bad h (by decide)];rfl)
 have hw:whole s.key=(n:Int)+2:=by rw[h3];exact (whole_ofI (by omega) hle).1
 have:more S (n+1+1)<more S (n+1):=countP_lt (fun x _ hx=>by simp at hx ⊢;omega) h2 (by simp[hw];omega) (by simp[hw]);omega
theorem grow_len{S:List Slt}(h:OInv S):∀(f:Nat) (L:List Vl) (v:Vl),(grow S f L v).length≤L.length+mu S L.length v
 | 0,L,v=>by simp[grow]
 | f+1,L,v=>by
  unfold grow;split
  .omega
  rename_i h0
  have:=grow_len h f (L++[v]) (oget S (ofI ((L.length:Int)+2)));have h2:=mu_lt h (n:=L.length) h0;rw[List.length_append]at this;simp only[List.length_singleton]at this;omega
theorem grow_le(S:List Slt):∀(f:Nat) (L:List Vl) (v:Vl),L.length≤(grow S f L v).length
 | 0,L,v=>by simp[grow]
 | f+1,L,v=>by
  unfold grow;split
  .omega
  have:=grow_le S f (L++[v]) (oget S (ofI ((L.length:Int)+2)));rw[List.length_append]at this;omega
theorem oget_valid{S:List Slt}(h:OInv S)(k:Vl):validB (oget S k)=true:=by
 by_cases h0:(oget S k).kind=0
 .cases hl:lastAt S k with
  | none=>rw[oget_none hl];decide
  | some i=>
   obtain⟨s,h1,h2,_⟩:=lastAt_some hl;rw[oget_some hl h1];cases hg:s.gone with
   | true=>rw[h.zero s (List.mem_of_getElem? h1) hg];decide
   | false=>exact (h.vals s (List.mem_of_getElem? h1) hg).1
 obtain⟨s,h1,h2,h3⟩:=oget_live h h0;rw[←h3];exact (h.vals s (List.mem_filter.1 h1).1 (live_gone h1)).1
theorem grow_inv{S:List Slt}(h:OInv S):∀(f:Nat) (L:List Vl) (v:Vl),(∀x∈L,validB x=true)→(∀x,L.getLast?=some x→x.kind≠0)→validB v=true→(∀x∈grow S f L v,validB x=true)∧∀x,(grow S f L v).getLast?=some x→x.kind≠0
 | 0,L,v,h1,h2,hv=>⟨h1,h2⟩
 | f+1,L,v,h1,h2,hv=>by
  unfold grow;split
  .exact ⟨h1,h2⟩
  rename_i h0
  refine grow_inv h f _ _ (fun x hx=>?_) (fun x hx=>?_) (oget_valid h _)
  .rcases List.mem_append.1 hx with hx|hx
   .exact h1 x hx
   rw[List.mem_singleton]at hx;rw[hx];exact hv
  simp at hx;rw[←hx];exact h0
theorem purge_inv{S:List Slt}(h:OInv S)(m:Nat):OInv (purge S m):=by
 have hl:=live_inv h;refine⟨hl.uniq.filter _,fun s hs=>hl.zero s (List.mem_filter.1 hs).1,fun s hs=>hl.keys s (List.mem_filter.1 hs).1,fun s hs=>hl.vals s (List.mem_filter.1 hs).1⟩
theorem purge_len(S:List Slt)(m:Nat):(purge S m).length≤S.length:=Nat.le_trans (List.length_filter_le _ _) (cnt_le S)
theorem tadd_inv{T:Tb}(h:TInv T){v:Vl}(hv:validB v=true):TInv (tadd T v):=by
 obtain⟨a,b⟩:=grow_inv h.rest (T.rest.length+2) T.list v h.list h.last hv;refine⟨?_,a,b⟩;show OInv (if _ then _ else _);split
 .exact purge_inv h.rest _
 exact h.rest
theorem tset_inv{T:Tb}(h:TInv T)(k v:Vl):TInv (tset T k v):=by
 unfold tset;split
 .exact h
 split
 .exact h
 rename_i hv
 have hv':validB v=true:=by simpa using hv
 split
 .refine ⟨h.rest,fun x hx=>?_,shr_last _⟩;rcases List.mem_or_eq_of_mem_set (shr_mem hx) with hx|rfl
  .exact h.list x hx
  exact hv'
 split
 .exact tadd_inv h hv'
 exact⟨osetL_inv h.rest k v,h.list,h.last⟩
theorem tset_len{T:Tb}(h:TInv T)(k v:Vl):(tset T k v).rest.length≤T.rest.length+1∧(tset T k v).list.length≤T.list.length+T.rest.length+1:=by
 unfold tset;split
 .exact ⟨by omega,by omega⟩
 split
 .exact ⟨by omega,by omega⟩
 split
 .refine ⟨by show T.rest.length≤_;omega,?_⟩;have:=shr_len (T.list.set (whole k-1).toNat v);rw[List.length_set]at this;show (shr _).length≤_;omega
 split
 .constructor
  .show (if _ then _ else _:List Slt).length≤_;split
   .have:=purge_len T.rest (grow T.rest (T.rest.length+2) T.list v).length;omega
   omega
  have:=grow_len h.rest (T.rest.length+2) T.list v;have h2:=more_le T.rest (T.list.length+1);show (grow _ _ _ _).length≤_;unfold mu at this;split at this<;>omega
 exact⟨osetL_len _ _ _,by show T.list.length≤_;omega⟩
/-! ### What the calls give -/
theorem okeys_get{S:List Slt}{n:Nat}{y:Vl}(h:(okeys S)[n]?=some y):∃s,(live S)[n]?=some s∧y=s.key:=by
 unfold okeys at h;rw[List.getElem?_map]at h;cases hs:(live S)[n]? with
 | none=>rw[hs]at h;cases h
 | some s=>rw[hs]at h;injection h with h;exact⟨s,rfl,h.symm⟩
def isIntB(k:Vl):Bool:=decide (k.kind=2)&&(decide (k.q=1)&&validB k)
theorem int_cases(k:Vl):(isIntB k=true∧k.p=whole k∧validB k=true)∨(isIntB k=false∧whole k=0):=by
 unfold isIntB whole;by_cases h1:k.kind=2<;>by_cases h2:k.q=1<;>cases h3:validB k<;>simp[h1,h2]
theorem tget_bad{T:Tb}{k:Vl}(h:validB k=false):tget T k=zVl:=by unfold tget;rw[if_pos h]
theorem tget_in{T:Tb}{k y:Vl}(hv:validB k=true)(h1:1≤whole k)(h2:whole k≤(T.list.length:Int))(hy:T.list[(whole k-1).toNat]?=some y):tget T k=y:=by
 unfold tget;rw[if_neg (by rw[hv];decide),if_pos (inB_iff.2 ⟨h1,h2⟩),hy];rfl
theorem inB_false{n:Int}{m:Nat}(h:¬(1≤n∧n≤(m:Int))):inB n m=false:=by
 cases hb:inB n m with
 | false=>rfl
 | true=>exact absurd (inB_iff.1 hb) h
theorem tget_out{T:Tb}{k:Vl}(hv:validB k=true)(h:¬(1≤whole k∧whole k≤(T.list.length:Int))):tget T k=oget T.rest k:=by
 unfold tget;rw[if_neg (by rw[hv];decide),if_neg (by rw[inB_false h];decide)]
theorem tset_bad{T:Tb}{k v:Vl}(h:okKey k=false∨validB v=false):tset T k v=T:=by
 unfold tset;rcases h with h|h
 .rw [if_pos h]
 rw[if_pos h];split<;>rfl
theorem tset_in{T:Tb}{k v:Vl}(hk:okKey k=true)(hv:validB v=true)(h1:1≤whole k)(h2:whole k≤(T.list.length:Int)):tset T k v=⟨shr (T.list.set (whole k-1).toNat v),T.rest⟩:=by
 unfold tset;rw[if_neg (by rw[hk];decide),if_neg (by rw[hv];decide),if_pos (inB_iff.2 ⟨h1,h2⟩)]
theorem tset_add{T:Tb}{k v:Vl}(hk:okKey k=true)(hv:validB v=true)(h1:whole k=(T.list.length:Int)+1)(h2:v.kind≠0):tset T k v=tadd T v:=by
 unfold tset;rw[if_neg (by rw[hk];decide),if_neg (by rw[hv];decide),if_neg (by rw[inB_false (by omega)];decide),if_pos ⟨h1,h2⟩]
theorem tset_out{T:Tb}{k v:Vl}(hk:okKey k=true)(hv:validB v=true)(h:¬(1≤whole k∧whole k≤(T.list.length:Int)))(h2:¬(whole k=(T.list.length:Int)+1∧v.kind≠0)):tset T k v=⟨T.list,osetL T.rest k v⟩:=by
 unfold tset;rw[if_neg (by rw[hk];decide),if_neg (by rw[hv];decide),if_neg (by rw[inB_false h];decide),if_neg h2]
theorem shr_set{L:List Vl}(h:∀v,L.getLast?=some v→v.kind≠0){i:Nat}{v:Vl}(hi:i+1≠L.length):shr (L.set i v)=L.set i v:=by
 refine shr_id fun x hx=>h x ?_
 rw[List.getLast?_eq_getElem?,List.length_set]at hx;rw[List.getLast?_eq_getElem?];by_cases h0:i=L.length-1
 .rw [List.set_eq_of_length_le (by omega)]at hx;exact hx
 rw[List.getElem?_set_ne h0]at hx;exact hx
/-! ### The loop that adds -/
theorem hasK_iff(S:List Slt)(k:Vl):(onext S k).2.2.2=(if hasK S k=true then 0 else 13):=by
 unfold onext hasK;by_cases h:k=zVl
 .simp [h]
 rw[if_neg h];cases lastAt S k<;>simp[h]
theorem staleB_snoc(S:List Slt){n m:Nat}(h:n≤m):staleB S n (m+1)=(staleB S n m||hasK S (ofI ((m:Int)+1))):=by
 unfold staleB;rw[show m+1-n=(m-n)+1 by omega,List.range'_concat,List.any_append];simp only[List.any_cons,List.any_nil,Bool.or_false,Nat.one_mul];rw[show n+1+(m-n)=m+1 by omega];rfl
theorem staleB_self(S:List Slt)(n:Nat):staleB S n n=false:=by unfold staleB;simp
theorem grow_step(S:List Slt){f:Nat}(L:List Vl){v:Vl}(h0:v.kind≠0)(hf:mu S L.length v≤f):∃f',f=f'+1∧grow S f L v=grow S f' (L++[v]) (oget S (ofI ((L.length:Int)+2))):=by
 cases f with
 | zero=>unfold mu at hf;rw[if_neg h0]at hf;omega
 | succ f'=>refine⟨f',rfl,?_⟩;rw[grow,if_neg h0]
theorem grow_stop(S:List Slt){f:Nat}(L:List Vl){v:Vl}(h0:v.kind=0):grow S f L v=L:=by
 cases f with
 | zero=>rfl
 | succ f'=>rw[grow,if_pos h0]
def purgeS(S:List Slt)(m i:Nat):List Slt:=((live S).take i).filter fun s=>!inB (whole s.key) m
theorem purge_step{S:List Slt}(h:OInv S){m i:Nat}{s:Slt}(hs:(live S)[i]?=some s):(inB (whole s.key) m=false→osetL (purgeS S m i) s.key (oget S s.key)=purgeS S m (i+1))∧(inB (whole s.key) m=true→purgeS S m i=purgeS S m (i+1)):=by
 have hm:=List.mem_of_getElem? hs;have hg:=live_gone hm;have hl:=live_inv h;have hmS:s∈S:=(List.mem_filter.1 hm).1;have hval:oget S s.key=s.val:=by
  obtain⟨j,hj⟩:=List.mem_iff_getElem?.1 hmS;exact oget_some (h.last hj hg) hj
 have e1:purgeS S m (i+1)=purgeS S m i++(if inB (whole s.key) m=true then [] else [s]):=by
  unfold purgeS;rw[List.take_add_one,hs,List.filter_append];congr 1;by_cases hb:inB (whole s.key) m=true<;>simp[hb]
 constructor
 .intro hb;rw[e1,hb,hval];have hno:∀t∈purgeS S m i,t.key≠s.key:=fun t ht e=>by
   unfold purgeS at ht;have ht':=(List.mem_filter.1 ht).1;obtain⟨j,hj⟩:=List.mem_iff_getElem?.1 ht';rw[List.getElem?_take]at hj;split at hj
   .rename_i hji;obtain⟨hj1,e2⟩:=List.getElem?_eq_some_iff.1 hj;obtain⟨hi1,e3⟩:=List.getElem?_eq_some_iff.1 hs;have:=List.pairwise_iff_getElem.1 hl.uniq j i hj1 hi1 hji (by rw[e2,e3,e]);rw[e2,live_gone (List.mem_of_getElem? hj)]at this;cases this
   cases hj
  have hallive:live (purgeS S m i)=purgeS S m i:=by
   unfold live;rw[List.filter_eq_self];intro t ht;have:=live_gone (List.mem_of_mem_take (List.mem_filter.1 ht).1);simp[this]
  obtain⟨hk1,hk2⟩:=h.keys s hmS;obtain⟨hv1,hv2⟩:=h.vals s hmS hg;unfold osetL;rw[if_neg (by rw[okKey_iff.2 ⟨hk1,hk2⟩];decide),if_neg (by rw[hv1];decide),if_neg hv2,thereAt_none (lastAt_nokey hno)];show (if _ then _ else _)++_=_;unfold cnt;rw[hallive,if_neg (by omega)];simp;cases s;simp at hg;subst hg;rfl
 intro hb;rw[e1,hb];simp
theorem purge_end(S:List Slt)(m i:Nat)(h:(live S).length≤i):purgeS S m i=purge S m:=by
 unfold purgeS purge;rw[List.take_of_length_le h]
end Go.Proofs.YtmhpcebiamkciaaGreat
end
section
set_option linter.unusedSimpArgs false
set_option linter.unusedVariables false
namespace Go.S
open Go.Hp Go.J Go.RowKit
open Go.Mem (Ty KTy blk suf addr_add)
def OwO{α:Type}(H:Heap)(T:Ty α)(v:Value)(L:List α)(S:Nat→Prop):Prop:=
 ((∃p,v=.slice p 0 0)∧L=[]∧∀k,¬S k)∨
 ∃g off cap arr,v=.slice (some ⟨g,off,none⟩) L.length cap∧H[g]?=some (.cells arr T.id (0,0))∧L.length≤cap∧cap≤maxLen∧off+cap*T.size≤arr.size∧
  (arr.toList.drop off).take (L.length*T.size)=T.flat L∧∀k,S k↔k=g
section
variable{α:Type}{T:Ty α}{v:Value}{L M:List α}{H H':Heap}{S:Nat→Prop}{P:Program}{Z:Zone}{As:List Asr}
theorem OwO.sl(h:OwO H T v L S):Sl H T v L:=by
 rcases h with ⟨h1,h2,_⟩|⟨g,off,cap,arr,rfl,h1,h2,h3,h4,h5,_⟩
 .exact .inl ⟨h1,h2⟩
 exact .inr ⟨g,off,cap,arr,_,_,rfl,h1,h2,h3,fun _=>h4,h5⟩
def ownO{α:Type}(T:Ty α)(v:Value)(L:List α):Asr where
 on H S:=OwO H T v L S
 lt h k hk:=by
  rcases h with ⟨_,_,h⟩|⟨g,off,cap,arr,_,h1,_,_,_,_,hS⟩
  .exact absurd hk (h k)
  rw[(hS k).1 hk];exact lt_of_some h1
 keep h hk:=by
  rcases h with h|⟨g,off,cap,arr,h0,h1,h2,h3,h4,h5,hS⟩
  .exact .inl h
  exact .inr ⟨g,off,cap,arr,h0,(hk g ((hS g).2 rfl)).trans h1,h2,h3,h4,h5,hS⟩
theorem OwO.of{v:Value}(h:Ow H T v L)(hS:∀k,S k↔blk v=some k):OwO H T v L S:=by
 rcases h with ⟨rfl,rfl⟩|⟨g,cap,arr,rfl,h1,h2,h3,h4,h5⟩
 .exact .inl ⟨⟨none,rfl⟩,rfl,fun k hk=>by have:=(hS k).1 hk;simp[blk,Value.ownBlock]at this⟩
 refine .inr ⟨g,0,cap,arr,rfl,h1,h2,h3,by omega,by simpa using h5,fun k=>(hS k).trans ?_⟩;simp only[blk,Value.ownBlock,Option.some.injEq];exact eq_comm
theorem Holds.toO(h:Holds Z (own T v L::As) H):Holds Z (ownO T v L::As) H:=h.imp fun S ⟨S1,S2,h1,h2,hd,hS⟩=>⟨S1,S2,OwO.of h1.1 h1.2,h2,hd,hS⟩
theorem Holds.nilO(h:Holds Z As H):Holds Z (ownO T (.slice none 0 0) []::As) H:=(Holds.nilS (T:=T) h).toO
theorem OwO.suf(h:OwO H T v L S)(hT:T.Ok P)(n:Nat)(hn:n≤L.length):OwO H T (Go.Mem.suf T.size v n) (L.drop n) S:=by
 rcases h with ⟨⟨p,rfl⟩,rfl,h⟩|⟨g,off,cap,arr,rfl,h1,h2,h3,h4,h5,hS⟩
 .simp at hn;subst hn;exact .inl ⟨⟨_,rfl⟩,rfl,h⟩
 by_cases hcn:cap=n
 .have:L.length=n:=by omega
  refine .inr ⟨g,off,0,arr,by simp[Mem.suf,hcn,this],h1,by simp;omega,by simp,by omega,?_,hS⟩;rw[List.drop_of_length_le (by omega)];simp[Ty.flat]
 refine .inr ⟨g,off+n*T.size,cap-n,arr,by simp[Mem.suf,hcn,addr_add],h1,by simp;omega,by omega,?_,?_,hS⟩
 .have:(cap-n)*T.size+n*T.size=cap*T.size:=by rw[←Nat.add_mul];congr 1;omega
  omega
 rw[←hT.flat_drop,←h5,List.drop_take,List.drop_drop,List.length_drop,Nat.sub_mul]
theorem Holds.sufO{i:Nat}(h:Holds Z As H)(hT:T.Ok P)(n:Nat)(hi:gt As i=some (ownO T v L))(hn:n≤L.length):Holds Z (upd As i (ownO T (Go.Mem.suf T.size v n) (L.drop n))) H:=
 h.step hi fun S hS=>⟨S,OwO.suf hS hT n hn,Chg.refl _ _,fun k hk=>.inl hk⟩
theorem setCells_heap(g:Nat):∀(vs:List Value) (o:Nat) (w:World) (arr:Array Value) (t:TypeId) (fr:Nat×Nat),w.heap[g]?=some (.cells arr t fr)→o+vs.length≤arr.size→
  (w.setCells g o vs).heap[g]?=some (.cells (arr.toList.take o++vs++arr.toList.drop (o+vs.length)).toArray t fr)∧(w.setCells g o vs).heap.size=w.heap.size∧(∀k,k≠g→(w.setCells g o vs).heap[k]?=w.heap[k]?)∧(w.setCells g o vs).os=w.os∧(w.setCells g o vs).tape=w.tape∧(w.setCells g o vs).output=w.output
 | [],o,w,arr,t,fr,h,_=>by
  refine⟨?_,rfl,fun _ _=>rfl,rfl,rfl,rfl⟩;simp[World.setCells,h]
 | v::r,o,w,arr,t,fr,h,hl=>by
  simp only[List.length_cons]at hl;have h1:(w.setCell ⟨g,o,none⟩ v).heap[g]?=some (.cells (arr.setIfInBounds o v) t fr):=by
   simp[World.setCell,Array.getElem?_modify,h]
  obtain⟨i1,i2,i3,i4,i5,i6⟩:=setCells_heap g r (o+1) (w.setCell ⟨g,o,none⟩ v) _ t fr h1 (by simp;omega);refine⟨?_,?_,fun k hk=>?_,i4,i5,i6⟩
  .show ((w.setCell ⟨g,o,none⟩ v).setCells g (o+1) r).heap[g]?=_;rw[i1];congr 2;apply Array.toList_inj.1;simp only[Array.toList_setIfInBounds,List.length_cons];have e1:(arr.toList.set o v).take (o+1)=arr.toList.take o++[v]:=by
    rw[List.take_add_one,List.getElem?_set_self (by simp;omega),List.take_set_of_le (Nat.le_refl _)];rfl
   rw[e1,List.drop_set_of_lt (by omega),show o+1+r.length=o+(r.length+1) by omega];simp
  .rw [show w.setCells g o (v::r)=(w.setCell ⟨g,o,none⟩ v).setCells g (o+1) r from rfl,i2];simp[World.setCell]
  rw[show w.setCells g o (v::r)=(w.setCell ⟨g,o,none⟩ v).setCells g (o+1) r from rfl,i3 k hk];simp[World.setCell,Array.getElem?_modify,Ne.symm hk]
theorem run_appendO{w:World}(hT:T.Ok P){t ty:TypeId}(ht:P.underlying t=some (.slice T.id)){v2:Value}(hv:OwO w.heap T v L S)(h2:Sl w.heap T v2 M)(hbytes:(L.length+M.length)*T.bytes≤140737488355328)(h63:L.length+M.length≤9223372036854775807):
  ∃v' w' S',(Builtin.append_ #[t,t] ty #[v,v2]).run P w=.ok v' w'∧OwO w'.heap T v' (L++M) S'∧Chg S w.heap w'.heap∧(∀k,S' k→S k∨w.heap.size≤k)∧w'.os=w.os∧w'.tape=w.tape∧w'.output=w.output:=by
 obtain⟨i,hi,hsz,hby,hz⟩:=hT.info;have h63':L.length+M.length≤maxLen:=by simpa [maxLen]using h63
 rw[←hby]at hbytes;have hlenL:=hT.flat_len L;have hlenM:=hT.flat_len M;have hlen:(T.flat (L++M)).length=(L++M).length*T.size:=hT.flat_len _;have hzs:(T.val T.zero).cells.size=T.size:=by have:=hT.len T.zero;simpa [Ty.enc]using this
 have grown:∀old,old<L.length+M.length→∃v' w' S',v'=Value.slice (some ⟨w.heap.size,0,none⟩) (L.length+M.length) (grownCap w (L.length+M.length) old T.id)∧
   w'=w.drew.alloc (.cells ((T.flat L).toArray++(T.flat M).toArray++Builtin.zeroCells (T.val T.zero).cells (grownCap w (L.length+M.length) old T.id-(L.length+M.length))) T.id)∧
   OwO w'.heap T v' (L++M) S'∧Chg S w.heap w'.heap∧(∀k,S' k→S k∨w.heap.size≤k)∧w'.os=w.os∧w'.tape=w.tape∧w'.output=w.output:=by
  intro old ho;have hge:=grownCap_ge w (L.length+M.length) old T.id;have hcm:=grownCap_le_maxLen w (L.length+M.length) old T.id h63';have hchg:=Chg.of_mem ((Mem.Chg.refl (fun k=>S k) w).drew.alloc (.cells ((T.flat L).toArray++(T.flat M).toArray++Builtin.zeroCells (T.val T.zero).cells (grownCap w (L.length+M.length) old T.id-(L.length+M.length))) T.id));refine⟨_,_,fun k=>k=w.heap.size,rfl,rfl,.inr ⟨w.heap.size,0,_,_,by simp,heap_alloc_new w.drew _,by simpa using hge,hcm,?_,?_,fun k=>Iff.rfl⟩,hchg,fun k hk=>.inr (by omega),rfl,rfl,rfl⟩
  .simp only[Array.size_append,List.size_toArray,size_zeroCells,hzs,hlenL,hlenM,←Nat.add_mul,Nat.zero_add];exact Nat.le_of_eq (by congr 1;omega)
  .simp only[Array.toList_append,List.append_assoc,List.drop_zero];rw[←hlen,Ty.flat_append,←List.append_assoc];exact List.take_left
 rcases h2 with ⟨⟨p2,rfl⟩,rfl⟩|⟨g2,off2,cap2,arr2,e2,fr2,rfl,hg2,hc2,hm2,hf2,hr2⟩
 .refine ⟨v,w,S,?_,by simpa using hv,Chg.refl _ _,fun k hk=>.inl hk,rfl,rfl,rfl⟩;rcases hv with ⟨⟨p,rfl⟩,rfl,_⟩|⟨g,off,cap,arr,rfl,hg,hc,_⟩
  .cases p<;>cases p2<;>simp[Builtin.append_,run_underlying ht,sizeOf,typeInfo,hi,Builtin.lenOf,Builtin.firstCells,loadCells,loadCellsFrom,storeCells]
  cases p2<;>simp[Builtin.append_,run_underlying ht,sizeOf,typeInfo,hi,Builtin.lenOf,Builtin.firstCells,loadCells,loadCellsFrom,hc,storeCells]
 .have hnews:∀j u,(T.flat M)[j]?=some u→w.cell? ((⟨g2,off2,none⟩:Addr).add j)=some u:=by
   intro j u hj;rw[←hr2,List.getElem?_take]at hj;split at hj
   .rw [List.getElem?_drop]at hj;rw[addr_add,cell_of_row w g2 _ arr2 e2 fr2 hg2,←Array.getElem?_toList];exact hj
   cases hj
  have hl2:(T.flat M).length=M.length*i.size:=by rw[hlenM,hsz]
  by_cases hm0:M=[]
  .subst hm0;refine⟨v,w,S,?_,by simpa using hv,Chg.refl _ _,fun k hk=>.inl hk,rfl,rfl,rfl⟩;rcases hv with ⟨⟨p,rfl⟩,rfl,_⟩|⟨g,off,cap,arr,rfl,hg,hc,_⟩
   .cases p<;>simp[Builtin.append_,run_underlying ht,sizeOf,typeInfo,hi,Builtin.lenOf,Builtin.firstCells,loadCells,loadCellsFrom,storeCells]
   simp[Builtin.append_,run_underlying ht,sizeOf,typeInfo,hi,Builtin.lenOf,Builtin.firstCells,loadCells,loadCellsFrom,hc,storeCells]
  have hpos:0<M.length:=List.length_pos_iff.2 hm0;rcases hv with ⟨⟨p,rfl⟩,rfl,_⟩|⟨g,off,cap,arr,rfl,hg,hc,hm,hf,hr,hS⟩
  .obtain ⟨v',w',S',rfl,rfl,q⟩:=grown 0 (by simpa using hpos);cases p with
   | none=>
    have hrun:=run_append_nil (P:=P) w t ty T.id i _ ht hi hz ⟨g2,off2,none⟩ M.length cap2 (T.flat M) hl2 hnews hpos (by simp at h63;omega) (by simp at hbytes;omega);simp only[List.length_nil,Nat.zero_add,Ty.flat,List.flatMap_nil,Array.empty_append]at hrun q⊢;exact⟨_,_,_,hrun,q⟩
   | some a=>
    have hrun:=run_append_grow (P:=P) w t ty T.id i _ ht hi hz a 0 0 [] (by simp) (by simp) ⟨g2,off2,none⟩ M.length cap2 (T.flat M) hl2 hnews (by omega) (by simp at h63;omega) (growslice_fits (by omega) (by simpa using hbytes));simp only[List.length_nil,Nat.zero_add,Ty.flat,List.flatMap_nil,Array.empty_append]at hrun q⊢;exact⟨_,_,_,hrun,q⟩
  by_cases hroom:L.length+M.length≤cap
  .have hfit:off+L.length*T.size+(T.flat M).length≤arr.size:=by
    have h1:=Nat.mul_le_mul_right T.size hroom;rw[Nat.add_mul]at h1;rw[hlenM];omega
   have hrun:=run_append_room_cells (P:=P) w t ty T.id i ht hi g off L.length cap ⟨g2,off2,none⟩ M.length cap2 (T.flat M) hl2 hnews (hT.flat_one1 M) hroom
    (fun j hj=>by rw[hsz,cell_of_row w g _ arr T.id (0,0) hg,Array.getElem?_eq_getElem (by omega)];rfl) (fun j hj=>by simp[World.frozen?,hg])
   rw[hsz]at hrun;obtain⟨c1,c2,c3,c4,c5,c6⟩:=setCells_heap g (T.flat M) (off+L.length*T.size) w arr T.id (0,0) hg hfit;refine⟨_,_,S,hrun,.inr ⟨g,off,cap,_,by simp,c1,by simpa using hroom,hm,?_,?_,hS⟩,⟨Nat.le_of_eq c2.symm,fun k hk hn=>c3 k fun e=>hn ((hS k).2 e)⟩,fun k hk=>.inl hk,c4,c5,c6⟩
   .simp only[List.size_toArray,List.length_append,List.length_take,List.length_drop,Array.length_toList];omega
   have e1:arr.toList.take (off+L.length*T.size)=arr.toList.take off++T.flat L:=by rw[List.take_add,hr]
   have hoff:(arr.toList.take off).length=off:=by rw[List.length_take,Array.length_toList];omega
   rw[e1,List.append_assoc,List.append_assoc];conv=>lhs;rw[show ∀X:List Value,(arr.toList.take off++X).drop off=X from fun X=>by rw[List.drop_append_of_le_length (by omega),List.drop_of_length_le (by omega)];rfl]
   rw[←hlen,Ty.flat_append,←List.append_assoc];exact List.take_left
  have holds:∀j u,(T.flat L)[j]?=some u→w.cell? ((⟨g,off,none⟩:Addr).add j)=some u:=by
   intro j u hj;rw[←hr,List.getElem?_take]at hj;split at hj
   .rw [List.getElem?_drop]at hj;rw[addr_add,cell_of_row w g _ arr T.id _ hg,←Array.getElem?_toList];exact hj
   cases hj
  have hrun:=run_append_grow (P:=P) w t ty T.id i _ ht hi hz ⟨g,off,none⟩ L.length cap (T.flat L) (by rw[hlenL,hsz]) holds ⟨g2,off2,none⟩ M.length cap2 (T.flat M) hl2 hnews (by omega) (by omega) (growslice_fits (by omega) hbytes);obtain⟨v',w',S',rfl,rfl,q⟩:=grown cap (by omega);exact⟨_,_,_,hrun,q⟩
end
section
variable{P:Program}{w0:World}{ops:Array Oper}{Q:Exit→Act→World→Prop}{n:Nat}{E:Env}{Z:Zone}{As:List Asr}{o:Oper}{rest:List Oper}{α:Type}{T:Ty α}{v:Value}{L M:List α}
theorem Acc.ownO(i:Nat)(hi:gt As i=some (Go.S.ownO T v L):=by rfl):Acc Z As T v L:=fun H h=>by
 obtain⟨S,hS,_⟩:=h.part hi;exact OwO.sl hS
theorem s_appendO{s x:Operand}{t:TypeId}{d:Nat}{v2:Value}(i:Nat)(hT:T.Ok P)(ht:P.underlying t=some (.slice T.id))(a:Acc Z As T v2 M)(hb:(L.length+M.length)*T.bytes≤140737488355328)(h63:L.length+M.length≤9223372036854775807)(h:∀v',SL P w0 ops Q n rest ((d,v')::E) Z (upd As i (ownO T v' (L++M))))(ho:o.op=.call { callee:=.builtin .append,args:=#[s,x],argTypes:=#[t,t] }:=by rfl)(hA:gt As i=some (ownO T v L):=by rfl)(hs:ev E s=v:=by rfl)(hx:ev E x=v2:=by rfl)(hd:o.dst=some d:=by rfl)(hk:okOp ops n E o=true:=by kernel_rfl):SL P w0 ops Q n (o::rest) E Z As:=fun H hH=>by
 refine l_run (R:=fun v' H'=>Holds Z (upd As i (ownO T v' (L++M))) H') hk (fun w ha=>?_) (fun v' H' h'=>by rw[hd];exact h v' H' h');obtain⟨hw,hos,htape,hout⟩:=ha;subst hw;obtain⟨S,hS,_⟩:=(hH.part hA);obtain⟨v',w',S',hr,q1,q2,q3,q4,q5,q6⟩:=run_appendO (ty:=o.type) hT ht hS (a _ hH) hb h63;refine⟨v',w',?_,⟨rfl,q4.trans hos,q5.trans htape,q6.trans hout⟩,?_⟩
 .unfold execOp;simp only[ho,resolve,invoke,builtin,Sem.run_bind,Sem.run_pure,Result.andThen_ok,List.map_toArray,List.map_cons,List.map_nil,hs,hx,hr]
 refine hH.step hA fun S2 hS2=>?_
 obtain⟨v2',w2',S2',hr2,r1,r2,r3,_⟩:=run_appendO (ty:=o.type) hT ht hS2 (a _ hH) hb h63;rw[hr]at hr2;injection hr2 with e1 e2
 subst e1;subst e2;exact⟨S2',r1,r2,r3⟩
end
end Go.S
end
section
set_option linter.unusedSimpArgs false
set_option linter.unusedVariables false
namespace Go.S
open Go.Hp Go.J
open Go.Mem (Ty elemAt)
section
variable{P:Program}{E:Env}{Z:Zone}{As:List Asr}{o:Oper}
end
end Go.S
end
section
set_option linter.unusedSimpArgs false
set_option linter.unusedVariables false
namespace Go.J
open Go.Hp
variable{P:Program}{w0:World}{Q:Exit→Act→World→Prop}{n:Nat}{E:Env}{H:Heap}{o o':Oper}{l:List Oper}{S:Heap→Prop}{fuel:Nat}{listed:Array Bool}
theorem h_step2(i j:Nat)(hi:l[i]?=some o)(hj:l[j]?=some o')(hr:Region.ready .any l.toArray listed=[i,j])
  (h:JL P w0 l.toArray (heldQ P l Q S fuel (listed.setIfInBounds i true)) n [o] E H)
  (h':JL P w0 l.toArray (heldQ P l Q S fuel (listed.setIfInBounds j true)) n [o'] E H):JH P w0 l Q n S (fuel+1) listed E H:=by
 intro a w hf ha;refine wpAnyH_all hr (by simp) ?_;intro k hk;rcases List.mem_cons.1 hk with rfl|hk
 .have:=h a w hf ha;unfold wpOp;rw[show l.toArray[k]?=some o by simpa using hi];exact this
 .rw [List.mem_singleton]at hk;subst hk;have:=h' a w hf ha;unfold wpOp;rw[show l.toArray[k]?=some o' by simpa using hj];exact this
end Go.J
namespace Go.S
open Go.Hp Go.J
variable{P:Program}{w0:World}{Q:Exit→Act→World→Prop}{n:Nat}{E:Env}{Z:Zone}{As:List Asr}{o o':Oper}{l:List Oper}{Ks:List Asr}{fuel:Nat}{listed:Array Bool}
theorem h_stepS2(i j:Nat)(h:SL P w0 l.toArray (heldQ P l Q (HS Z Ks) fuel (listed.setIfInBounds i true)) n [o] E Z As)(h':SL P w0 l.toArray (heldQ P l Q (HS Z Ks) fuel (listed.setIfInBounds j true)) n [o'] E Z As)(hi:l[i]?=some o:=by rfl)(hj:l[j]?=some o':=by rfl)(hr:Region.ready .any l.toArray listed=[i,j]:=by kernel_rfl):SH P w0 l Q n Z Ks (fuel+1) listed E As:=
 fun H hH=>h_step2 i j hi hj hr (h H hH) (h' H hH)
end Go.S
end
section
set_option linter.unusedSimpArgs false
set_option linter.unusedVariables false
namespace Go.S
open Go.Hp Go.J
section
variable{P:Program}{w0:World}{ops:Array Oper}{Q:Exit→Act→World→Prop}{n:Nat}{E:Env}{Z:Zone}{As:List Asr}{α β γ δ:Type}
theorem k_mem2{c:Code}{p:α→β→Prop}{Bs:α→β→List Asr}(hA:∀H,Holds Z As H→∃x y,p x y∧Holds Z (Bs x y) H)(h:∀x y,p x y→SK P w0 c Q n E Z (Bs x y)):SK P w0 c Q n E Z As:=fun H hH=>by
 obtain⟨x,y,hp,hB⟩:=hA H hH;exact h x y hp H hB
theorem s_mem2{l:List Oper}{p:α→β→Prop}{Bs:α→β→List Asr}(hA:∀H,Holds Z As H→∃x y,p x y∧Holds Z (Bs x y) H)(h:∀x y,p x y→SL P w0 ops Q n l E Z (Bs x y)):SL P w0 ops Q n l E Z As:=fun H hH=>by
 obtain⟨x,y,hp,hB⟩:=hA H hH;exact h x y hp H hB
theorem k_mem3{c:Code}{p:α→β→γ→Prop}{Bs:α→β→γ→List Asr}(hA:∀H,Holds Z As H→∃x y z,p x y z∧Holds Z (Bs x y z) H)(h:∀x y z,p x y z→SK P w0 c Q n E Z (Bs x y z)):SK P w0 c Q n E Z As:=fun H hH=>by
 obtain⟨x,y,z,hp,hB⟩:=hA H hH;exact h x y z hp H hB
theorem s_mem3{l:List Oper}{p:α→β→γ→Prop}{Bs:α→β→γ→List Asr}(hA:∀H,Holds Z As H→∃x y z,p x y z∧Holds Z (Bs x y z) H)(h:∀x y z,p x y z→SL P w0 ops Q n l E Z (Bs x y z)):SL P w0 ops Q n l E Z As:=fun H hH=>by
 obtain⟨x,y,z,hp,hB⟩:=hA H hH;exact h x y z hp H hB
theorem s_mem4{l:List Oper}{p:α→β→γ→δ→Prop}{Bs:α→β→γ→δ→List Asr}(hA:∀H,Holds Z As H→∃x y z u,p x y z u∧Holds Z (Bs x y z u) H)(h:∀x y z u,p x y z u→SL P w0 ops Q n l E Z (Bs x y z u)):SL P w0 ops Q n l E Z As:=fun H hH=>by
 obtain⟨x,y,z,u,hp,hB⟩:=hA H hH;exact h x y z u hp H hB
end
end Go.S
end
section
set_option linter.unusedSimpArgs false
set_option linter.unusedVariables false
set_option linter.unusedSectionVars false
namespace Go.S
open Go.Hp Go.J
open Go.Mem (Ty KTy blk Stamps)
section
variable{κ β:Type}[DecidableEq κ]
def bornAt(es:Array MapEntry)(i:Nat):Nat:=((es.toList.map (·.born))[i]?).getD 0
def Rg(H:Heap)(K:KTy κ)(V:β→Value)(b r:Nat)(m done:List (κ×β)):Prop:=
 ∃(es:Array MapEntry) (clock:Nat) (ix:List Nat),H[b]?=some (.map es clock)∧es.toList.map (fun e=>(e.key,e.val))=m.map (fun p=>(K.val p.1,V p.2))∧(m.map Prod.fst).Nodup∧Stamps es.toList clock
  ∧ H[r]?=some (.mapIter (some b) clock (ix.map (bornAt es)).toArray clock)∧ix.Nodup∧(∀i∈ix,i<m.length)∧done.map some=ix.map (fun i=>m[i]?)
theorem Rg.kept{H H':Heap}{K:KTy κ}{V:β→Value}{b r:Nat}{m done:List (κ×β)}(h:Rg H K V b r m done)(h1:H'[b]?=H[b]?)(h2:H'[r]?=H[r]?):Rg H' K V b r m done:=by
 obtain⟨es,clock,ix,a,e,n,s,c,d⟩:=h;exact⟨es,clock,ix,h1.trans a,e,n,s,h2.trans c,d⟩
theorem Rg.lt1{H:Heap}{K:KTy κ}{V:β→Value}{b r:Nat}{m done:List (κ×β)}(h:Rg H K V b r m done):b<H.size:=by
 obtain⟨es,clock,ix,a,_⟩:=h;exact lt_of_some a
theorem Rg.lt2{H:Heap}{K:KTy κ}{V:β→Value}{b r:Nat}{m done:List (κ×β)}(h:Rg H K V b r m done):r<H.size:=by
 obtain⟨es,clock,ix,_,_,_,_,a,_⟩:=h;exact lt_of_some a
def rgA(K:KTy κ)(V:β→Value)(b r:Nat)(m done:List (κ×β)):Asr where
 on H S:=Rg H K V b r m done∧∀k,S k↔k=b∨k=r
 lt h k hk:=by
  rcases (h.2 k).1 hk with rfl|rfl
  .exact h.1.lt1
  exact h.1.lt2
 keep h hk:=⟨h.1.kept (hk _ ((h.2 _).2 (.inl rfl))) (hk _ ((h.2 _).2 (.inr rfl))),h.2⟩
theorem perm_of_ix{m done:List (κ×β)}{ix:List Nat}(hn:ix.Nodup)(hl:∀i∈ix,i<m.length)(hd:done.map some=ix.map (fun i=>m[i]?))(ha:∀i,i<m.length→i∈ix):done.Perm m:=by
 have hp:ix.Perm (List.range m.length):=(List.perm_ext_iff_of_nodup hn List.nodup_range).2 fun i=>⟨fun h=>List.mem_range.2 (hl i h),fun h=>ha i (List.mem_range.1 h)⟩
 have h1:(done.map some).Perm ((List.range m.length).map (fun i=>m[i]?)):=by rw[hd];exact hp.map _
 have h2:(List.range m.length).map (fun i=>m[i]?)=m.map some:=by
  apply List.ext_getElem?;intro i;by_cases h:i<m.length
  .simp [h]
  simp[h]
 rw[h2]at h1;have h3:=h1.filterMap id;simpa [List.filterMap_map]using h3
theorem nodup_len:∀(n:Nat) (l:List Nat),l.Nodup→(∀i∈l,i<n)→l.length≤n
 | 0,l,_,h=>by
  cases l with
  | nil=>simp
  | cons a r=>exact absurd (h a (by simp)) (Nat.not_lt_zero _)
 | n+1,l,hn,h=>by
  by_cases hm:n∈l
  .have h1:=nodup_len n (l.erase n) (hn.erase n) fun i hi=>by
    rw[hn.mem_erase_iff]at hi;have:=h i hi.2;omega
   rw[List.length_erase_of_mem hm]at h1;have:=List.length_pos_of_mem hm;omega
  have:=nodup_len n l hn fun i hi=>by
   have:=h i hi;have:i≠n:=fun e=>hm (e▸hi)
   omega
  omega
theorem born_inj{es:Array MapEntry}{clock:Nat}(h:Stamps es.toList clock){i j:Nat}(hi:i<es.size)(hj:j<es.size)(e:bornAt es i=bornAt es j):i=j:=by
 unfold bornAt at e;have h1:i<(es.toList.map (·.born)).length:=by simpa using hi
 have h2:j<(es.toList.map (·.born)).length:=by simpa using hj
 rw[List.getElem?_eq_getElem h1,List.getElem?_eq_getElem h2,Option.getD_some,Option.getD_some]at e;exact (List.getElem_inj (h:=h.1)).1 e
theorem Rg.start{H':Heap}{K:KTy κ}{V:β→Value}{b r:Nat}{m:List (κ×β)}{es:Array MapEntry}{clock:Nat}(h1:H'[b]?=some (.map es clock))(h2:es.toList.map (fun e=>(e.key,e.val))=m.map (fun p=>(K.val p.1,V p.2)))(h3:(m.map Prod.fst).Nodup)(h4:Stamps es.toList clock)(h5:H'[r]?=some (.mapIter (some b) clock #[] clock)):Rg H' K V b r m []:=
 ⟨es,clock,[],h1,h2,h3,h4,h5,List.nodup_nil,by simp,by simp⟩
theorem Rg.mp{H:Heap}{K:KTy κ}{V:β→Value}{b r:Nat}{m done:List (κ×β)}(h:Rg H K V b r m done):Mp H K V b m:=by
 obtain⟨es,clock,ix,a,e,n,s,_⟩:=h;exact⟨es,clock,a,e,n,s⟩
end
section
variable{κ β:Type}[DecidableEq κ]{P:Program}{w0:World}{ops:Array Oper}{Q:Exit→Act→World→Prop}{n:Nat}{E:Env}{Z:Zone}{As:List Asr}{o:Oper}{rest:List Oper}{K:KTy κ}{V:β→Value}{b r:Nat}{m done:List (κ×β)}
theorem Holds.unrange{H:Heap}(i:Nat)(h:Holds Z As H)(hi:gt As i=some (rgA K V b r m done):=by rfl):Holds Z (upd As i (mpA K V b m)) H:=
 h.step hi fun S ⟨h1,h2⟩=>⟨fun k=>k=b,⟨h1.mp,fun k=>Iff.rfl⟩,Chg.refl _ _,fun k hk=>.inl ((h2 k).2 (.inl hk))⟩
theorem s_range{x:Operand}{t e:TypeId}{d:Nat}(i:Nat)(ht:P.underlying t=some (.map K.id e))(h:∀r,SL P w0 ops Q n rest ((d,.pointer (some ⟨r,0,none⟩))::E) Z (upd As i (rgA K V b r m [])))
  (ho:o.op=.range t x:=by rfl) (hA:gt As i=some (mpA K V b m):=by rfl) (hx:ev E x=.map (some b):=by rfl) (hd:o.dst=some d:=by rfl) (hk:okOp ops n E o=true:=by kernel_rfl):SL P w0 ops Q n (o::rest) E Z As:=fun H hH=>by
 obtain⟨es,clock,hb,h2,h3,h4⟩:=hH.mp hA;refine l_new (v:=fun g=>.pointer (some ⟨g,0,none⟩)) (ob:=.mapIter (some b) clock #[] clock) hk (fun w hw=>?_) fun g H' hn=>?_
 .unfold execOp;simp only[ho,hx];exact Mem.run_v (run_range_map w t K.id e b es clock ht (by rw[hw];exact hb))
 .rw [hd];refine h g H' (hH.step hA fun S ⟨_,hS⟩=>⟨fun k=>k=b∨k=g,⟨Rg.start (es:=es) ?_ h2 h3 h4 hn.is,fun k=>Iff.rfl⟩,hn.chg S,?_⟩)
  .rw [(hn.chg (fun _=>False)).block b (lt_of_some hb) (fun h=>h)];exact hb
  rintro k (rfl|rfl)
  .exact .inl ((hS _).2 rfl)
  exact .inr (Nat.le_of_eq hn.at_.symm)
theorem run_nextAt (w : World) (ty : TypeId) (r bm clock : Nat) (seen : Array Nat) (es : Array MapEntry) (hb : w.heap[bm]? = some (.map es clock)) (hr : w.heap[r]? = some (.mapIter (some bm) clock seen clock)) (hold : ∀ x ∈ es.toList, x.born < clock) :
    ((leftOf es seen).size = 0 ∧ (Instr.next (.pointer (some ⟨r, 0, none⟩)) false ty).run P w = .ok (.tuple #[.bool false]) w) ∨
    ∃ e ∈ (leftOf es seen).toList, ∃ w1 : World, (w1.os = w.os ∧ w1.tape = w.tape ∧ w1.output = w.output) ∧ (Instr.next (.pointer (some ⟨r, 0, none⟩)) false ty).run P w = .ok (.tuple #[.bool true, e.key, e.val]) { w1 with heap := w.heap.setIfInBounds r (.mapIter (some bm) clock (seen.push e.born) clock) } := by
  simp only [Instr.next, getObj, Sem.run_bind, Sem.run, hr, hb, Result.andThen, next_test_false seen es clock clock hold (Nat.le_refl _), Bool.false_eq_true, if_false]
  unfold leftOf
  have hmem : ∀ x ∈ (Array.filter (fun e => !seen.contains e.born) es).toList, x.born < clock := fun x hx => hold x (by simp at hx ⊢; exact hx.1)
  generalize Array.filter (fun e => !seen.contains e.born) es = L at hmem ⊢
  have e1 : L.filter (fun x => decide (x.born < clock)) = L := Array.filter_eq_self.2 (fun x hx => by simpa using hmem x (by simpa using hx))
  have e2 : L.filter (fun x => decide (x.born ≥ clock)) = #[] := by
    rw [Array.filter_eq_empty_iff]
    intro x hx
    have := hmem x (by simpa using hx)
    simp
    omega
  simp only [e1, e2, Array.append_empty]
  by_cases h0 : L.size = 0
  · left
    have : L = #[] := Array.eq_empty_of_size_eq_zero h0
    subst this
    refine ⟨rfl, ?_⟩
    simp [choose, Sem.run, Question.forced]
  · right
    have hne : L.isEmpty = false := by simp [Array.isEmpty, h0]
    simp only [hne, Bool.false_eq_true, if_false, Array.empty_append, Array.size_map]
    have hch : ∃ (j : Nat) (w1 : World), j < L.size ∧ (w1.os = w.os ∧ w1.tape = w.tape ∧ w1.output = w.output) ∧ w1.heap = w.heap ∧ (choose (Question.mapNext L.size)).run P w = .ok j w1 := by
      by_cases hf : L.size ≤ 1
      · exact ⟨0, w, by omega, ⟨rfl, rfl, rfl⟩, rfl, by simp [choose, Sem.run, Question.forced, hf]⟩
      · exact ⟨_, w.drew, Nat.mod_lt _ (by omega), ⟨rfl, rfl, rfl⟩, rfl, by
          simp only [choose, Sem.run, Question.forced, decide_eq_true_eq, hf, if_false, Question.cut]
          rfl⟩
    obtain ⟨j, w1, hj, hal, hheap, hrun⟩ := hch
    refine ⟨L[j], by simp, w1, hal, ?_⟩
    have hset : ∀ o' : Obj, (setObj r o').run P w1 = .ok () { w1 with heap := w.heap.setIfInBounds r o' } := fun o' => by
      simp only [setObj, Sem.run, hheap, hr]
    simp only [hrun, Array.getElem?_map, Array.getElem?_eq_getElem hj, Option.map_some, Sem.run_bind, hset, Result.andThen]
    rfl
theorem len_es{es:Array MapEntry}(h:es.toList.map (fun e=>(e.key,e.val))=m.map (fun p=>(K.val p.1,V p.2))):es.size=m.length:=by
 have:=congrArg List.length h;simpa using this
theorem at_es{es:Array MapEntry}(h:es.toList.map (fun e=>(e.key,e.val))=m.map (fun p=>(K.val p.1,V p.2))){i:Nat}{e:MapEntry}(he:es.toList[i]?=some e):∃p,m[i]?=some p∧e.key=K.val p.1∧e.val=V p.2:=by
 have:=congrArg (·[i]?) h;simp only[List.getElem?_map,he,Option.map_some]at this;cases hm:m[i]? with
 | none=>rw[hm]at this;simp at this
 | some p=>rw[hm]at this;simp at this;exact⟨p,rfl,this.1,this.2⟩
theorem s_next{x:Operand}{d:Nat}(i:Nat)(h1:done.Perm m→SL P w0 ops Q n rest ((d,.tuple #[.bool false])::E) Z As)
  (h2:∀k u,(k,u)∈m→k∉done.map Prod.fst→done.length<m.length→SL P w0 ops Q n rest ((d,.tuple #[.bool true,K.val k,V u])::E) Z (upd As i (rgA K V b r m (done++[(k,u)]))))
  (ho:o.op=.next x false:=by rfl) (hA:gt As i=some (rgA K V b r m done):=by rfl) (hx:ev E x=.pointer (some ⟨r,0,none⟩):=by rfl) (hd:o.dst=some d:=by rfl) (hk:okOp ops n E o=true:=by kernel_rfl):SL P w0 ops Q n (o::rest) E Z As:=fun H hH=>by
 obtain⟨S,⟨⟨es,clock,ix,hb,hes,hm,hst,hr,hn,hl,hdn⟩,hS⟩,_⟩:=hH.part hA;have hlen:=len_es hes;have hdl:done.length=ix.length:=by have:=congrArg List.length hdn;simpa using this
 refine l_run (R:=fun v' H'=>(v'=.tuple #[.bool false]∧H'=H∧(leftOf es (ix.map (bornAt es)).toArray).size=0)∨∃e∈(leftOf es (ix.map (bornAt es)).toArray).toList,v'=.tuple #[.bool true,e.key,e.val]∧H'=H.setIfInBounds r (.mapIter (some b) clock ((ix.map (bornAt es)).toArray.push e.born) clock)) hk (fun w ha=>?_) fun v' H' hR=>?_
 .have hw:=ha.heap;rcases run_nextAt (P:=P) w o.type r b clock (ix.map (bornAt es)).toArray es (by rw[hw];exact hb) (by rw[hw];exact hr) hst.2 with ⟨h0,hrun⟩|⟨e,he,w1,hal,hrun⟩
  .exact ⟨_,w,by unfold execOp;simp only[ho,hx];exact Mem.run_v hrun,⟨rfl,ha.os,ha.tape,ha.output⟩,.inl ⟨rfl,hw,h0⟩⟩
  refine⟨_,_,by unfold execOp;simp only[ho,hx];exact Mem.run_v hrun,?_,.inr ⟨e,he,rfl,by rw[hw]⟩⟩;exact⟨rfl,hal.1.trans ha.os,hal.2.1.trans ha.tape,hal.2.2.trans ha.output⟩
 .rw [hd];rcases hR with ⟨rfl,rfl,h0⟩|⟨e,he,rfl,rfl⟩
  .refine h1 (perm_of_ix hn hl hdn fun i hi=>?_) _ hH;have hi':i<es.size:=by omega
   have hin:es[i]∈es:=Array.getElem_mem hi';have hnot:¬es[i]∈leftOf es (ix.map (bornAt es)).toArray:=by
    have:leftOf es (ix.map (bornAt es)).toArray=#[]:=Array.eq_empty_of_size_eq_zero h0;rw[this];simp
   unfold leftOf at hnot;rw[Array.mem_filter]at hnot;simp only[hin,true_and,Bool.not_eq_true',Bool.not_eq_false,List.contains_toArray,List.contains_iff_mem,List.mem_map]at hnot;obtain⟨j,hj,e⟩:=hnot;have hb':bornAt es i=es[i].born:=by unfold bornAt;simp[hi']
   have:j=i:=born_inj hst (by have:=hl j hj;omega) hi' (by rw[hb'];exact e);exact this▸hj
  have he':e∈es∧e.born∉ix.map (bornAt es):=by
   have:=he;unfold leftOf at this;simp at this;refine⟨this.1,fun hm'=>?_⟩;obtain⟨j,hj,ej⟩:=List.mem_map.1 hm';exact this.2 j hj ej
  obtain⟨i',hi',hei⟩:=Array.getElem_of_mem he'.1;have heL:es.toList[i']?=some e:=by rw[Array.getElem?_toList,Array.getElem?_eq_getElem hi',hei]
  obtain⟨⟨k,u⟩,hp,ek,eu⟩:=at_es hes heL;have hbi:bornAt es i'=e.born:=by unfold bornAt;rw[List.getElem?_map,heL];rfl
  have hni:i'∉ix:=fun h=>he'.2 (List.mem_map.2 ⟨i',h,hbi⟩)
  have hdone:∀q∈done,∃j∈ix,m[j]?=some q:=fun q hq=>by
   have:some q∈done.map some:=List.mem_map.2 ⟨q,hq,rfl⟩;rw[hdn]at this;obtain⟨j,hj,ej⟩:=List.mem_map.1 this;exact⟨j,hj,ej⟩
  have hkd:k∉done.map Prod.fst:=fun h=>by
   obtain⟨q,hq,eq⟩:=List.mem_map.1 h;obtain⟨j,hj,ej⟩:=hdone q hq;have hlj:=hl j hj;have hli:i'<m.length:=by omega
   have:j=i':=by
    have hj1:j<(m.map Prod.fst).length:=by simpa using hlj
    have hi1:i'<(m.map Prod.fst).length:=by simpa using hli
    refine (List.getElem_inj (h:=hm) (h₀:=hj1) (h₁:=hi1)).1 ?_;rw[List.getElem?_eq_getElem hlj]at ej;rw[List.getElem?_eq_getElem hli]at hp;simp only[List.getElem_map];rw[Option.some.inj ej,Option.some.inj hp];exact eq
   exact hni (this▸hj)
  have hlt:done.length<m.length:=by
   rw[hdl];have hnd:(i'::ix).Nodup:=List.nodup_cons.2 ⟨hni,hn⟩;have:=nodup_len m.length (i'::ix) hnd fun j hj=>by
    rcases List.mem_cons.1 hj with rfl|h
    .omega
    exact hl j h
   simp at this;omega
  have hv:(Value.tuple #[.bool true,e.key,e.val])=.tuple #[.bool true,K.val k,V u]:=by rw[ek,eu]
  rw[hv];refine h2 k u (List.mem_of_getElem? hp) hkd hlt _ (hH.step hA fun S' hS'=>⟨S',⟨⟨es,clock,ix++[i'],?_,hes,hm,hst,?_,?_,?_,?_⟩,hS'.2⟩,?_,fun k hk=>.inl hk⟩)
  .have hbr:b≠r:=fun h=>by rw[h]at hb;rw[hb]at hr;cases hr
   rw[Array.getElem?_setIfInBounds_ne (fun h=>hbr h.symm)];exact hb
  .rw [Array.getElem?_setIfInBounds_self_of_lt (lt_of_some hr)];simp[hbi]
  .rw [List.nodup_append];exact⟨hn,by simp,fun a ha b hb=>by simp at hb;subst hb;exact fun h=>hni (h▸ha)⟩
  .intro j hj;rcases List.mem_append.1 hj with h|h
   .exact hl j h
   simp at h;omega
  .simp [hdn,hp]
  exact⟨by simp,fun j _ hj=>by rw[Array.getElem?_setIfInBounds_ne (fun h=>hj ((hS'.2 j).2 (.inr h.symm)))]⟩
theorem t_entry{x:Operand}{k:κ}{u:β}(i:Nat)(hA:gt As i=some (rgA K V b r m (done++[(k,u)])):=by rfl)(ho:o.op=.entry x:=by rfl)(hx:ev E x=.pointer (some ⟨r,0,none⟩):=by rfl):Lt P E o Z As (.tuple #[K.val k,V u]):=fun H hH=>by
 obtain⟨S,⟨⟨es,clock,ix,hb,hes,hm,hst,hr,hn,hl,hdn⟩,hS⟩,_⟩:=hH.part hA;refine⟨fun w hw=>?_⟩;subst hw;unfold execOp;simp only[ho,hx];refine Mem.run_v ?_;rw[List.map_append,List.map_cons,List.map_nil]at hdn;rcases List.eq_nil_or_concat ix with rfl|⟨ix0,j,rfl⟩
 .simp at hdn
 rw[List.concat_eq_append,List.map_append,List.map_cons,List.map_nil]at hdn;have hj:=(List.append_inj' hdn rfl).2;simp only[List.cons.injEq,and_true]at hj;have hjl:j<es.size:=by rw[len_es hes];exact hl j (by simp)
 have heL:es.toList[j]?=some es[j]:=by rw[Array.getElem?_toList,Array.getElem?_eq_getElem hjl]
 obtain⟨p,hp,ek,eu⟩:=at_es hes heL;rw[←hj]at hp;cases hp;have hbj:bornAt es j=es[j].born:=by unfold bornAt;rw[List.getElem?_map,heL];rfl
 have hf:es.find? (·.born == bornAt es j)=some es[j]:=by rw[hbj,←Array.find?_toList];exact find_born es[j] es.toList hst.1 (by simp)
 have hback:((List.concat ix0 j).map (bornAt es)).toArray.back?=some (bornAt es j):=by simp
 simp only[Instr.entry,getObj,Sem.run_bind,Sem.run,hr,hb,Result.andThen,hback,bne_self_eq_false,Bool.false_eq_true,if_false,hf];show Result.ok (Value.tuple #[es[j].key,es[j].val]) w=_;rw[ek,eu]
end
section
theorem frz_keep{F:Heap→Prop}{H H':Heap}{S:Nat→Prop}(h:(∀k,S k→k<H.size)∧∀H':Heap,(∀k,S k→H'[k]?=H[k]?)→F H')(hk:∀k,S k→H'[k]?=H[k]?):(∀k,S k→k<H'.size)∧∀H2:Heap,(∀k,S k→H2[k]?=H'[k]?)→F H2:=by
 refine⟨fun k hS=>?_,fun H2 h2=>h.2 H2 fun k hS=>(h2 k hS).trans (hk k hS)⟩;have h1:=h.1 k hS;have h2:=hk k hS;rcases Nat.lt_or_ge k H'.size with h'|h'
 .exact h'
 rw[Array.getElem?_eq_none h',Array.getElem?_eq_getElem h1]at h2;cases h2
def frz(F:Heap→Prop):Asr where
 on H S:=(∀k,S k→k<H.size)∧∀H':Heap,(∀k,S k→H'[k]?=H[k]?)→F H'
 lt h:=h.1
 keep h hk:=frz_keep h hk
variable{Z:Zone}{As:List Asr}{H:Heap}{α:Type}{T:Ty α}{v:Value}{L:List α}{F G:Heap→Prop}
theorem Holds.frzF(h:Holds Z As H)(i:Nat)(hi:gt As i=some (frz F):=by rfl):F H:=by
 obtain⟨S,hS,_⟩:=h.part hi;exact hS.2 H fun _ _=>rfl
theorem Holds.frz0(h:Holds Z As H)(hF:∀H,F H):Holds Z (frz F::As) H:=
 h.new (Chg.refl _ _) (S':=fun _=>False) ⟨fun _ h=>h.elim,fun H' _=>hF H'⟩ fun _ h=>h.elim
theorem Holds.frzO(h:Holds Z (own T v L::frz F::As) H):Holds Z (frz (fun H=>Sl H T v L∧F H)::As) H:=h.imp fun S hS=>by
 obtain⟨S1,S2,h1,⟨S3,S4,h3,h4,hd',hS'⟩,hd,hS⟩:=hS;refine⟨fun k=>S1 k∨S3 k,S4,⟨?_,fun H' hk=>⟨?_,h3.2 H' fun k hS=>hk k (.inr hS)⟩⟩,h4,?_,?_⟩
 .rintro k (a|a)
  .exact (own T v L).lt h1 k a
  exact h3.1 k a
 .have:=(own T v L).keep h1 fun k a=>hk k (.inl a)
  exact this.1.sl
 .rintro k (a|a) b
  .exact hd k a ((hS' k).2 (.inr b))
  exact hd' k a b
 intro k;rw[hS k,hS' k];simp[or_assoc]
theorem Holds.frzM(hF:∀H,F H→G H)(h:Holds Z (frz F::As) H):Holds Z (frz G::As) H:=h.imp fun S ⟨S1,S2,h1,h2,hd,hS⟩=>⟨S1,S2,⟨h1.1,fun H' hk=>hF H' (h1.2 H' hk)⟩,h2,hd,hS⟩
theorem Holds.frzJ(h:Holds Z (frz F::frz G::As) H):Holds Z (frz (fun H=>F H∧G H)::As) H:=h.imp fun S hS=>by
 obtain⟨S1,S2,h1,⟨S3,S4,h3,h4,hd',hS'⟩,hd,hS⟩:=hS;refine⟨fun k=>S1 k∨S3 k,S4,⟨?_,fun H' hk=>⟨h1.2 H' fun k hS=>hk k (.inl hS),h3.2 H' fun k hS=>hk k (.inr hS)⟩⟩,h4,?_,?_⟩
 .rintro k (a|a)
  .exact h1.1 k a
  exact h3.1 k a
 .rintro k (a|a) b
  .exact hd k a ((hS' k).2 (.inr b))
  exact hd' k a b
 intro k;rw[hS k,hS' k];simp[or_assoc]
end
end Go.S
end
section
set_option linter.unusedSimpArgs false
set_option linter.unusedVariables false
namespace Go.S
open Go.Hp Go.J
open Go.Mem (Ty KTy blk)
def ZOk(Z:Zone)(H:Heap):Prop:=∀k,Z.dom k→H[k]?=Z.heap[k]?∧k<H.size
structure Lend(Z Z':Zone)(K:Asr):Prop where
 sub:∀H,ZOk Z' H→ZOk Z H
 has:∀H,ZOk Z' H→∃S,K.on H S
section
variable{P:Program}{Z Z':Zone}{As As0 Bs:List Asr}{H H':Heap}{K:Asr}{α:Type}{T:Ty α}{v:Value}{L:List α}{F:Heap→Prop}
theorem Lend.kn(h:Lend Z Z' K)(k:Kn Z T v L):Kn Z' T v L:=fun H hz=>k H (h.sub H hz)
theorem Lend.own(h:Lend Z Z' (own T v L)):Kn Z' T v L:=fun H hz=>by
 obtain⟨S,hS⟩:=h.has H hz;exact hS.1.sl
theorem Lend.frz(h:Lend Z Z' (frz F)):∀H,ZOk Z' H→F H:=fun H hz=>by
 obtain⟨S,hS⟩:=h.has H hz;exact hS.2 H fun _ _=>rfl
theorem lend_in(h:Holds Z (K::As) H):∃Z',Lend Z Z' K∧Holds Z' As H∧∀Bs H',Holds Z' Bs H'→Holds Z (K::Bs) H':=by
 obtain⟨S,⟨S1,S2,h1,h2,hd',hS⟩,hd⟩:=h.sep;refine⟨⟨H,fun k=>Z.dom k∨S1 k⟩,⟨fun H2 hz k hk=>?_,fun H2 hz=>⟨S1,K.keep h1 fun k hk=>(hz k (.inr hk)).1⟩⟩,⟨fun k hk=>?_,S2,h2,fun k hk=>?_⟩,fun Bs H2 h3=>?_⟩
 .have:=hz k (.inl hk);exact⟨this.1.trans (h.zone k hk).1,this.2⟩
 .rcases hk with hk|hk
  .exact ⟨rfl,(h.zone k hk).2⟩
  exact⟨rfl,K.lt h1 k hk⟩
 .rintro (hz|hz)
  .exact hd k ((hS k).2 (.inr hk)) hz
  exact hd' k hz hk
 obtain⟨S3,h4,h5⟩:=h3.sep;refine⟨fun k hk=>?_,fun k=>S1 k∨S3 k,⟨S1,S3,K.keep h1 fun k hk=>(h3.zone k (.inr hk)).1,h4,fun k a b=>h5 k b (.inr a),fun k=>Iff.rfl⟩,?_⟩
 .have:=h3.zone k (.inl hk);exact⟨this.1.trans (h.zone k hk).1,this.2⟩
 rintro k (a|a) hz
 .exact hd k ((hS k).2 (.inl a)) hz
 exact h5 k a (.inl hz)
variable{w0:World}{ops:Array Oper}{Q:Exit→Act→World→Prop}{n:Nat}{E:Env}{o:Oper}{rest:List Oper}{f:FuncId}{xs:Array Operand}{ts:Array TypeId}{vals:List Value}{R:Value→List Asr→Prop}
theorem s_lend{d:Nat}(i:Nat)(is:List Nat)(hc:∀Z',Lend Z Z' K→SF P f vals.toArray Z' As0 R)(h:∀v Bs,R v Bs→SL P w0 ops Q n rest ((d,v)::E) Z (K::Bs))(hi:gt As i=some K:=by rfl)(hp:rearr (del As i) is=As0:=by rfl)
  (ho:o.op=.call { callee:=.value (.func f),args:=xs,argTypes:=ts }:=by rfl) (hx:(xs.toList.map (ev E))=vals:=by rfl) (hd:o.dst=some d:=by rfl) (hfn:isFn P f=true:=by kernel_rfl) (hk:okOp ops n E o=true:=by kernel_rfl):SL P w0 ops Q n (o::rest) E Z As:=fun H hH=>by
 obtain⟨Z',hl,h1,h2⟩:=lend_in (hH.pull hi);exact l_call ho vals hk hx hfn (hc Z' hl H (hp▸h1.rearr is)) fun v H' ⟨Bs,hr,hB⟩=>by rw[hd];exact h v Bs hr H' (h2 Bs H' hB)
def zfr(Z:Zone)(F:Heap→Prop):Asr:=frz fun H=>ZOk Z H→F H
theorem Holds.zfrF(h:Holds Z As H)(i:Nat)(hi:gt As i=some (zfr Z F):=by rfl):F H:=h.frzF i hi h.zone
theorem Holds.zfr0(h:Holds Z As H)(hF:∀H,ZOk Z H→F H):Holds Z (zfr Z F::As) H:=h.frz0 hF
theorem Holds.zfrO(h:Holds Z (own T v L::zfr Z F::As) H):Holds Z (zfr Z (fun H=>Sl H T v L∧F H)::As) H:=(Holds.frzO h).frzM fun H h hz=>⟨h.1,h.2 hz⟩
theorem Holds.zfrM{G:Heap→Prop}(hF:∀H,ZOk Z H→F H→G H)(h:Holds Z (zfr Z F::As) H):Holds Z (zfr Z G::As) H:=Holds.frzM (fun H h hz=>hF H hz (h hz)) h
theorem Holds.zfrJ{G:Heap→Prop}(h:Holds Z (zfr Z F::zfr Z G::As) H):Holds Z (zfr Z (fun H=>F H∧G H)::As) H:=(Holds.frzJ h).frzM fun H h hz=>⟨h.1 hz,h.2 hz⟩
theorem Holds.toZ(h:Holds Z (frz F::As) H):Holds Z (zfr Z F::As) H:=h.frzM fun _ h _=>h
end
end Go.S
end
