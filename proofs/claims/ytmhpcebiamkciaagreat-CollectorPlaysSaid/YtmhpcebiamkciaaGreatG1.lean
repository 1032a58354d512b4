/-
  Slices in memory as lists: what 'len', an index, a load, a store, a cut and 'append' do. Each law says its conditions.
-/
import Derived.WalkKit
import Derived.WalkSpells
import Derived.Orders
import Derived.Tactics
import Derived.Laws.World
import Derived.OrdersHeld
set_option linter.unusedSimpArgs false
set_option linter.unusedVariables false
set_option linter.unusedSectionVars false
section
namespace Go.Mem
open Go.RowKit
/-! ### What may have turned -/
structure Chg(S:Nat→Prop)(w w':World):Prop where
 os:w'.os=w.os
 tape:w'.tape=w.tape
 output:w'.output=w.output
 size:w.heap.size≤w'.heap.size
 block:∀k,k<w.heap.size→¬S k→w'.heap[k]?=w.heap[k]?
section
variable{S T:Nat→Prop}{a b c w w':World}
theorem Chg.refl(S:Nat→Prop)(w:World):Chg S w w:=⟨rfl,rfl,rfl,Nat.le_refl _,fun _ _ _=>rfl⟩
theorem Chg.trans(h:Chg S a b)(k:Chg S b c):Chg S a c:=
 ⟨k.os.trans h.os,k.tape.trans h.tape,k.output.trans h.output,Nat.le_trans h.size k.size,fun i hi hS=>(k.block i (Nat.lt_of_lt_of_le hi h.size) hS).trans (h.block i hi hS)⟩
theorem Chg.trans'(h:Chg S a b)(k:Chg T b c)(hT:∀i,T i→i<a.heap.size→S i):Chg S a c:=
 ⟨k.os.trans h.os,k.tape.trans h.tape,k.output.trans h.output,Nat.le_trans h.size k.size,fun i hi hS=>(k.block i (Nat.lt_of_lt_of_le hi h.size) fun ht=>hS (hT i ht hi)).trans (h.block i hi hS)⟩
theorem Chg.mono(h:Chg S w w')(hS:∀i,S i→T i):Chg T w w':=⟨h.os,h.tape,h.output,h.size,fun k hk ht=>h.block k hk fun hs=>ht (hS k hs)⟩
theorem Chg.drew(h:Chg S a w):Chg S a w.drew:=⟨h.os,h.tape,h.output,h.size,h.block⟩
theorem Chg.alloc(h:Chg S a w)(o:Obj):Chg S a (w.alloc o):=
 h.trans ⟨rfl,rfl,rfl,by simp,fun k hk _=>Below.heap_alloc _ _ _ hk⟩
theorem Chg.setCell(h:Chg S a w){p:Addr}(hp:p.block<a.heap.size→S p.block)(u:Value):Chg S a (w.setCell p u):=by
 refine h.trans' (T:=fun k=>k=p.block) ⟨rfl,rfl,rfl,by simp[World.setCell],fun k _ hk=>Below.heap_setCell _ _ _ _ hk⟩ ?_;rintro i rfl hi;exact hp hi
theorem Chg.below(h:Chg S a w)(hS:∀k,S k→a.heap.size≤k):Below a.heap.size a w:=
 ⟨h.os,h.tape,h.output,h.size,fun k hk=>h.block k hk fun hs=>by have:=hS k hs;omega⟩
theorem Chg.heap(h:Chg S w w'){k:Nat}{o:Obj}(hk:w.heap[k]?=some o)(hS:¬S k):w'.heap[k]?=some o:=
 (h.block k (Array.getElem?_eq_some_iff.1 hk).1 hS).trans hk
theorem Chg.cell(h:Chg S w w'){p:Addr}{v:Value}(hc:w.cell? p=some v)(hS:¬S p.block):w'.cell? p=some v:=
 (World.cell?_of_block (h.block p.block (World.block_lt_of_cell? w p hc) hS)).trans hc
theorem Chg.cells(h:Chg S w w')(g:Nat)(hS:¬S g):∀o,(w.cell? ⟨g,o,none⟩).isSome=true→w'.cell? ⟨g,o,none⟩=w.cell? ⟨g,o,none⟩:=fun o ho=>by
 obtain⟨u,hu⟩:=Option.isSome_iff_exists.1 ho;rw[hu];exact h.cell hu hS
end
/-! ### Types of elements -/
structure Ty(α:Type) where
 id:TypeId
 size:Nat
 bytes:Nat
 agg:Bool
 val:α→Value
 zero:α
def Ty.enc{α:Type}(T:Ty α)(x:α):List Value:=(T.val x).cells.toList
def cm:TypeDesc→Bool
 | .struct _|.array _ _=>true
 | _=>false
structure Ty.Ok{α:Type}(T:Ty α)(P:Program):Prop where
 pos:0<T.size
 len:∀x,(T.enc x).length=T.size
 one:∀x,∀u∈T.enc x,u.oneCell'=true
 val:∀x,T.val x=if T.agg then .agg (T.enc x).toArray else (T.enc x).headD undef
 desc:∃d,P.underlying T.id=some d∧cm d=T.agg
 one1:T.agg=false→T.size=1
 info:∃i,P.info? T.id=some i∧i.size=T.size∧i.bytes=T.bytes∧i.zero=some (T.val T.zero)
section
variable{α:Type}{T:Ty α}{P:Program}
def Ty.flat(T:Ty α)(L:List α):List Value:=L.flatMap T.enc
theorem Ty.Ok.flat_len(h:T.Ok P):∀L:List α,(T.flat L).length=L.length*T.size
 | []=>by simp[Ty.flat]
 | x::r=>by
  have:=h.flat_len r;unfold Ty.flat at*;simp only[List.flatMap_cons,List.length_append,List.length_cons,h.len,this,Nat.add_mul];omega
theorem Ty.flat_append(L M:List α):T.flat (L++M)=T.flat L++T.flat M:=by simp[Ty.flat]
theorem Ty.Ok.flat_one1(h:T.Ok P)(L:List α):∀u∈T.flat L,u.oneCell'=true:=by
 intro u hu;obtain⟨x,_,hx⟩:=List.mem_flatMap.1 hu;exact h.one x u hx
theorem Ty.Ok.flat_take(h:T.Ok P)(n:Nat):∀L:List α,(T.flat L).take (n*T.size)=T.flat (L.take n):=by
 induction n with
 | zero=>intro L;simp[Ty.flat]
 | succ n ih=>
  intro L;cases L with
  | nil=>simp[Ty.flat]
  | cons x r=>
   have e:(n+1)*T.size=T.size+n*T.size:=by rw[Nat.add_mul];omega
   have h1:=ih r;unfold Ty.flat at*;simp only[List.flatMap_cons,List.take_succ_cons];rw[e,←h.len x,List.take_length_add_append,h.len x,h1]
theorem Ty.Ok.flat_drop(h:T.Ok P)(n:Nat):∀L:List α,(T.flat L).drop (n*T.size)=T.flat (L.drop n):=by
 induction n with
 | zero=>intro L;simp[Ty.flat]
 | succ n ih=>
  intro L;cases L with
  | nil=>simp[Ty.flat]
  | cons x r=>
   have e:(n+1)*T.size=T.size+n*T.size:=by rw[Nat.add_mul];omega
   have h1:=ih r;unfold Ty.flat at*;simp only[List.flatMap_cons,List.drop_succ_cons];rw[e,←h.len x,List.drop_length_add_append,h.len x,h1]
theorem Ty.Ok.flat_get(h:T.Ok P){L:List α}{k:Nat}{x:α}(hk:L[k]?=some x){j:Nat}(hj:j<T.size):(T.flat L)[k*T.size+j]?=(T.enc x)[j]?:=by
 have h1:=h.flat_drop k L;have h2:L.drop k=x::L.drop (k+1):=by
  obtain⟨nC,rfl⟩:=List.getElem?_eq_some_iff.1 hk;exact List.drop_eq_getElem_cons nC
 rw[←List.getElem?_drop,h1,h2];unfold Ty.flat;rw[List.flatMap_cons,List.getElem?_append_left (by rw[h.len];exact hj)]
/-! ### Slices -/
def Sl(w:World)(T:Ty α)(v:Value)(L:List α):Prop:=
 ((∃p,v=.slice p 0 0)∧L=[])∨
 ∃g off cap arr e fr,v=.slice (some ⟨g,off,none⟩) L.length cap∧w.heap[g]?=some (.cells arr e fr)∧L.length≤cap∧cap≤maxLen∧(0<cap→off+cap*T.size≤arr.size)∧
  (arr.toList.drop off).take (L.length*T.size)=T.flat L
def Ow(w:World)(T:Ty α)(v:Value)(L:List α):Prop:=
 (v=.slice none 0 0∧L=[])∨
 ∃g cap arr,v=.slice (some ⟨g,0,none⟩) L.length cap∧w.heap[g]?=some (.cells arr T.id (0,0))∧L.length≤cap∧cap≤maxLen∧cap*T.size≤arr.size∧
  arr.toList.take (L.length*T.size)=T.flat L
def blk(v:Value):Option Nat:=v.ownBlock
variable{w w':World}{v:Value}{L:List α}
theorem Ow.sl(h:Ow w T v L):Sl w T v L:=by
 rcases h with h|⟨g,cap,arr,rfl,h1,h2,h3,h4,h5⟩
 .exact .inl ⟨⟨none,h.1⟩,h.2⟩
 exact .inr ⟨g,0,cap,arr,_,_,rfl,h1,h2,h3,by omega,by simpa using h5⟩
theorem Sl.nil(w:World)(T:Ty α):Sl w T (.slice none 0 0) []:=.inl ⟨⟨none,rfl⟩,rfl⟩
theorem Ow.nil(w:World)(T:Ty α):Ow w T (.slice none 0 0) []:=.inl ⟨rfl,rfl⟩
theorem Sl.kept(h:Sl w T v L)(hb:∀g,blk v=some g→w'.heap[g]?=w.heap[g]?):Sl w' T v L:=by
 rcases h with h|⟨g,off,cap,arr,e,fr,rfl,h1,r⟩
 .exact .inl h
 exact .inr ⟨g,off,cap,arr,e,fr,rfl,by rw[hb g rfl];exact h1,r⟩
theorem Ow.kept(h:Ow w T v L)(hb:∀g,blk v=some g→w'.heap[g]?=w.heap[g]?):Ow w' T v L:=by
 rcases h with h|⟨g,cap,arr,rfl,h1,r⟩
 .exact .inl h
 exact .inr ⟨g,cap,arr,rfl,by rw[hb g rfl];exact h1,r⟩
theorem Ow.lt(h:Ow w T v L){g:Nat}(hg:blk v=some g):g<w.heap.size:=by
 rcases h with ⟨rfl,_⟩|⟨g',cap,arr,rfl,h1,r⟩
 .simp [blk,Value.ownBlock]at hg
 simp[blk,Value.ownBlock]at hg;subst hg;exact (Array.getElem?_eq_some_iff.1 h1).1
theorem Sl.kept'(h:Sl w T v L)(hb:∀g,blk v=some g→g<w.heap.size→w'.heap[g]?=w.heap[g]?):Sl w' T v L:=by
 rcases h with h|⟨g,off,cap,arr,e,fr,rfl,h1,r⟩
 .exact .inl h
 exact .inr ⟨g,off,cap,arr,e,fr,rfl,by rw[hb g rfl (Array.getElem?_eq_some_iff.1 h1).1];exact h1,r⟩
theorem Sl.alloc(h:Sl w T v L)(o:Obj):Sl (w.alloc o) T v L:=h.kept' fun _ _ hl=>Below.heap_alloc _ _ _ hl
theorem Ow.alloc(h:Ow w T v L)(o:Obj):Ow (w.alloc o) T v L:=h.kept fun _ hg=>Below.heap_alloc _ _ _ (h.lt hg)
theorem Sl.drew(h:Sl w T v L):Sl w.drew T v L:=h
theorem Ow.drew(h:Ow w T v L):Ow w.drew T v L:=h
theorem Sl.setCell(h:Sl w T v L){p:Addr}(hp:blk v≠some p.block)(u:Value):Sl (w.setCell p u) T v L:=h.kept fun g hg=>Below.heap_setCell _ _ _ _ fun e=>hp (by rw[hg,e])
theorem Ow.setCell(h:Ow w T v L){p:Addr}(hp:blk v≠some p.block)(u:Value):Ow (w.setCell p u) T v L:=h.kept fun g hg=>Below.heap_setCell _ _ _ _ fun e=>hp (by rw[hg,e])
theorem Sl.chg{S:Nat→Prop}(h:Sl w T v L)(c:Chg S w w')(hS:∀g,blk v=some g→¬S g):Sl w' T v L:=h.kept' fun g hg hl=>c.block g hl (hS g hg)
theorem Ow.chg{S:Nat→Prop}(h:Ow w T v L)(c:Chg S w w')(hS:∀g,blk v=some g→¬S g):Ow w' T v L:=h.kept fun g hg=>c.block g (h.lt hg) (hS g hg)
theorem Sl.len_le(h:Sl w T v L):L.length≤9223372036854775807:=by
 rcases h with ⟨_,rfl⟩|⟨g,off,cap,arr,e,fr,rfl,h1,h2,h3,_⟩
 .simp
 have:cap≤9223372036854775807:=by simpa [maxLen]using h3
 omega
theorem Sl.form(h:Sl w T v L):∃p cap,v=.slice p L.length cap:=by
 rcases h with ⟨⟨p,rfl⟩,rfl⟩|⟨g,off,cap,arr,e,fr,rfl,_⟩
 .exact ⟨_,_,rfl⟩
 exact⟨_,_,rfl⟩
def elemAt(size:Nat)(v:Value)(k:Nat):Addr:=
 match v with
 | .slice (some p) _ _=>p.add (k*size)
 | _=>⟨0,0,none⟩
theorem addr_add(g off k:Nat):(⟨g,off,none⟩:Addr).add k=⟨g,off+k,none⟩:=by unfold Addr.add;split<;>simp_all
theorem gJ(p:Addr)(hp:p.spot=none)(i j:Nat):(p.add i).add j=p.add (i+j):=by
 obtain⟨g,off,sp⟩:=p;simp only at hp;subst hp;simp only[addr_add,Nat.add_assoc]
theorem Sl.cell(h:Sl w T v L)(hT:T.Ok P){k:Nat}{x:α}(hk:L[k]?=some x){j:Nat}{u:Value}(hj:(T.enc x)[j]?=some u):w.cell? ((elemAt T.size v k).add j)=some u:=by
 have hjs:j<T.size:=by rw[←hT.len x];exact (List.getElem?_eq_some_iff.1 hj).1
 rcases h with ⟨_,rfl⟩|⟨g,off,cap,arr,e,fr,rfl,h1,h2,h3,h4,h5⟩
 .simp at hk
 have h6:=hT.flat_get hk hjs;rw[hj,←h5,List.getElem?_take]at h6;split at h6
 .rw [List.getElem?_drop]at h6;simp only[elemAt,addr_add];rw[cell_of_row w g _ arr e fr h1,←Array.getElem?_toList,←h6,Nat.add_assoc]
 cases h6
theorem Sl.elem_spot(h:Sl w T v L){k:Nat}(hk:k<L.length):(elemAt T.size v k).spot=none:=by
 rcases h with ⟨_,rfl⟩|⟨g,off,cap,arr,e,fr,rfl,_⟩
 .simp at hk
 simp only[elemAt,addr_add]
end
end Go.Mem
end
section
namespace Go.Mem
open Go.RowKit
section
variable{P:Program}{ops:Array Oper}{Q:Exit→Act→World→Prop}{a:Act}{w:World}{rest:List Oper}{o:Oper}
theorem wpList_run{v:Value}{w':World}(hw:Region.wanted o (yielded ops a.tmps)=true)(hr:(execOp a.eval o).run P w=.ok (.value v) w')(h:wpList P ops Q rest (a.put o.dst v) w'):wpList P ops Q (o::rest) a w:=by
 unfold wpList;rw[if_pos hw];exact .inl (by unfold Oper.wp;rw[hr];exact h)
theorem wpList_runs{w':World}(hw:Region.wanted o (yielded ops a.tmps)=true)(hr:(execOp a.eval o).run P w=.ok .skip w')(h:wpList P ops Q rest (a.put o.dst undef) w'):wpList P ops Q (o::rest) a w:=by
 unfold wpList;rw[if_pos hw];exact .inl (by unfold Oper.wp;rw[hr];exact h)
theorem run_v{s:Sem Value}{v:Value}{w':World}(h:s.run P w=.ok v w'):(do pure (Next.value (←s)):Sem Next).run P w=.ok (.value v) w':=by
 rw[Sem.run_bind,h,Result.andThen_ok];rfl
theorem run_u{s:Sem Unit}{w':World}(h:s.run P w=.ok () w'):(do s;pure Next.skip:Sem Next).run P w=.ok .skip w':=by
 rw[Sem.run_bind,h,Result.andThen_ok];rfl
variable{α:Type}{T:Ty α}{v:Value}{L:List α}
theorem Ty.Ok.run_sizeOf(hT:T.Ok P)(w:World):(Go.sizeOf T.id).run P w=.ok T.size w:=by
 obtain⟨i,hi,hs,_⟩:=hT.info;simp[Go.sizeOf,typeInfo,hi,hs]
theorem run_len(hv:Sl w T v L){t e ty:TypeId}(ht:P.underlying t=some (.slice e)):(Builtin.len_ #[t] ty #[v]).run P w=.ok (.int .i64 L.length) w:=by
 obtain⟨p,cap,rfl⟩:=hv.form;simp[Builtin.len_,run_underlying ht,goInt]
theorem run_index(hv:Sl w T v L)(hT:T.Ok P){t:TypeId}(ht:P.underlying t=some (.slice T.id)){k:Nat}(hk:k<L.length)(q:IntKind):
  (Instr.indexAt t v (.int q k)).run P w=.ok (.pointer (some (elemAt T.size v k))) w:=by
 rcases hv with ⟨_,rfl⟩|⟨g,off,cap,arr,e,fr,rfl,h1,h2,h3,h4,h5⟩
 .simp at hk
 .have:(k:Int)<(L.length:Int):=by omega
  simp[Instr.indexAt,asIntOf,run_underlying ht,this,hT.run_sizeOf,elemAt];omega
theorem run_loadElem(hv:Sl w T v L)(hT:T.Ok P){k:Nat}{x:α}(hk:L[k]?=some x):
  (Instr.loadAt T.id (.pointer (some (elemAt T.size v k)))).run P w=.ok (T.val x) w:=by
 obtain⟨d,hd,Wz⟩:=hT.desc;have hsp:=hv.elem_spot (List.getElem?_eq_some_iff.1 hk).1;have aav:∀p:Addr,p.add 0=p:=fun p=>by simp[Addr.add]
 have hia:(isAgg T.id).run P w=.ok T.agg w:=by
  unfold isAgg;rw[Sem.run_bind,run_underlying hd,Result.andThen_ok,←Wz];cases d<;>rfl
 unfold Instr.loadAt Instr.sureAddr loadVar;rw[Sem.run_bind,Sem.run_pure,Result.andThen_ok,Sem.run_bind,hia,Result.andThen_ok,hT.val x];cases hg:T.agg with
 | true=>
  simp only[if_true];have hl:=run_loadCells_list (P:=P) w (elemAt T.size v k) (T.enc x) (fun j u hj=>hv.cell hT hk hj);rw[hT.len x]at hl;simp[hT.run_sizeOf,hl]
 | false=>
  have h1:=hT.one1 hg;have hl:=hT.len x;rw[h1]at hl;obtain⟨u,hu⟩:=List.length_eq_one_iff.1 hl;have:=hv.cell hT hk (j:=0) (u:=u) (by rw[hu];rfl);rw[aav]at this;simp[load,Sem.run,this,hu]
/-! ### A store into an element -/
def spliceAt(l:List Value)(j:Nat)(cs:List Value):List Value:=l.take j++cs++l.drop (j+cs.length)
theorem Ty.Ok.flat_set(hT:T.Ok P):∀{L:List α}{k:Nat}{x x':α}{j:Nat}{cs:List Value},L[k]?=some x→j+cs.length≤T.size→T.enc x'=spliceAt (T.enc x) j cs→
  T.flat (L.set k x')=spliceAt (T.flat L) (k*T.size+j) cs
 | [],k,x,x',j,cs,hk,_,_=>by simp at hk
 | y::r,0,x,x',j,cs,hk,hj,he=>by
  simp only[List.getElem?_cons_zero,Option.some.injEq]at hk;subst hk;have hl:=hT.len y;unfold Ty.flat spliceAt at*;simp only[List.set_cons_zero,List.flatMap_cons,he,Nat.zero_mul,Nat.zero_add];rw[List.take_append_of_le_length (by omega),List.drop_append_of_le_length (by omega)];simp
 | y::r,k+1,x,x',j,cs,hk,hj,he=>by
  simp only[List.getElem?_cons_succ]at hk;have ih:=hT.flat_set hk hj he;have hl:=hT.len y;unfold Ty.flat spliceAt at*;simp only[List.set_cons_succ,List.flatMap_cons,ih];have e1:(k+1)*T.size+j=(T.enc y).length+(k*T.size+j):=by rw[hl,Nat.add_mul];omega
  have e2:(k+1)*T.size+j+cs.length=(T.enc y).length+(k*T.size+j+cs.length):=by rw[e1];omega
  rw[e2,e1,List.take_length_add_append,List.drop_length_add_append];simp
theorem take_splice(l:List Value)(n p:Nat)(cs:List Value)(h:p+cs.length≤n)(hn:n≤l.length:=by simp;omega):(l.take p++cs++l.drop (p+cs.length)).take n=spliceAt (l.take n) p cs:=by
 unfold spliceAt;apply List.ext_getElem?;intro i;rw[List.getElem?_take];split
 .rw [List.getElem?_append,List.getElem?_append,List.getElem?_append,List.getElem?_append];simp only[List.length_append,List.length_take,List.getElem?_take,List.getElem?_drop,Nat.min_def];grind
 rw[List.getElem?_append_right (by simp;omega)];simp;omega
theorem run_storePart(hv:Ow w T v L)(hT:T.Ok P){k j:Nat}{x x':α}{cs:List Value}(hk:L[k]?=some x)(hj:j+cs.length≤T.size)(h1:∀u∈cs,u.oneCell'=true)(he:T.enc x'=spliceAt (T.enc x) j cs):
  ∃w',(storeCells ((elemAt T.size v k).add j) cs).run P w=.ok () w'∧Ow w' T v (L.set k x')∧Chg (fun b=>blk v=some b) w w':=by
 rcases hv with ⟨rfl,rfl⟩|⟨g,cap,arr,rfl,hg,h2,h3,h4,h5⟩
 .simp at hk
 .have Fo:k<L.length:=(List.getElem?_eq_some_iff.1 hk).1;have hlen:=hT.flat_len L;have hbound:(k+1)*T.size≤L.length*T.size:=Nat.mul_le_mul_right _ Fo;have aaw:L.length*T.size≤cap*T.size:=Nat.mul_le_mul_right _ h2;rw[Nat.add_mul]at hbound;have dM:=run_storeCells_at P g (k*T.size+j) T.id cs 0 arr w hg (by omega) h1;refine⟨w.setRow g (List.take (k*T.size+j+0) arr.toList++cs++List.drop (k*T.size+j+0+cs.length) arr.toList).toArray,?_,?_,?_⟩
  .simp only[elemAt,addr_add,Nat.zero_add];exact dM
  .refine .inr ⟨g,cap,_,by simp,setRow_heap w g arr _ T.id _ hg,by simpa using h2,h3,?_,?_⟩
   .simp;omega
   simp only[Nat.add_zero,List.toList_toArray,List.length_set];rw[hT.flat_set hk hj he,←h5];exact take_splice _ _ _ _ (by omega)
  exact⟨rfl,rfl,rfl,by simp,fun b _ hb=>setRow_other w g b _ fun e=>hb (by simp[blk,Value.ownBlock,e])⟩
end
end Go.Mem
end
section
namespace Go.Mem
open Go.RowKit
section
variable{P:Program}{ops:Array Oper}{Q:Exit→Act→World→Prop}{a:Act}{w:World}{rest:List Oper}{o:Oper}{α:Type}{T:Ty α}{v:Value}{L M:List α}
def Hs(w:World)(v v':Value):Prop:=∀g,blk v'=some g→blk v=some g∨w.heap.size≤g
theorem run_append (hT : T.Ok P) {t ty : TypeId} (ht : P.underlying t = some (.slice T.id)) {v2 : Value} (hv : Ow w T v L) (h2 : Sl w T v2 M) (oX : (L.length + M.length) * T.bytes ≤ 140737488355328) (zg : L.length + M.length ≤ 9223372036854775807) :
    ∃ v' w', (Builtin.append_ #[t, t] ty #[v, v2]).run P w = .ok v' w' ∧ Ow w' T v' (L ++ M) ∧ Chg (fun k => blk v = some k) w w' ∧ Hs w v v' ∧ (v' = .slice none 0 0 ↔ v = .slice none 0 0 ∧ M = []) := by
  obtain ⟨i, hi, mm, WA, hz⟩ := hT.info
  have WB : L.length + M.length ≤ maxLen := by simpa [maxLen] using zg
  rw [← WA] at oX
  have CU := hT.flat_len L
  have xa := hT.flat_len M
  have hlen : (T.flat (L ++ M)).length = (L ++ M).length * T.size := hT.flat_len _
  have hzs : (T.val T.zero).cells.size = T.size := by have := hT.len T.zero; simpa [Ty.enc] using this
  -- what a grown row is
  have grown : ∀ old, old < L.length + M.length → ∃ v' w', v' = Value.slice (some ⟨w.heap.size, 0, none⟩) (L.length + M.length) (grownCap w (L.length + M.length) old T.id) ∧
      w' = w.drew.alloc (.cells ((T.flat L).toArray ++ (T.flat M).toArray ++ Builtin.zeroCells (T.val T.zero).cells (grownCap w (L.length + M.length) old T.id - (L.length + M.length))) T.id) ∧
      Ow w' T v' (L ++ M) ∧ Chg (fun k => blk v = some k) w w' ∧ Hs w v v' := by
    intro old ho
    have WC := grownCap_ge w (L.length + M.length) old T.id
    have Ht := grownCap_le_maxLen w (L.length + M.length) old T.id WB
    refine ⟨_, _, rfl, rfl, .inr ⟨w.heap.size, _, _, by simp, heap_alloc_new w.drew _, by simpa using WC, Ht, ?_, ?_⟩, (Chg.refl _ w).drew.alloc _, ?_⟩
    · simp only [Array.size_append, List.size_toArray, size_zeroCells, hzs, CU, xa, ← Nat.add_mul]
      exact Nat.le_of_eq (by congr 1; omega)
    · simp only [Array.toList_append, List.append_assoc]
      rw [← hlen, Ty.flat_append, ← List.append_assoc]
      exact List.take_left
    · intro g hg
      simp only [blk, Value.ownBlock, Option.some.injEq] at hg
      right; omega
  rcases h2 with ⟨⟨p2, rfl⟩, rfl⟩ | ⟨g2, zo, CV, WD, e2, fr2, rfl, RC, hc2, hm2, Hu, Lz⟩
  · -- nothing is appended
    refine ⟨v, w, ?_, by simpa using hv, Chg.refl _ _, fun g hg => .inl hg, by simp⟩
    rcases hv with ⟨rfl, rfl⟩ | ⟨g, cap, arr, rfl, hg, hc, hm, hf, hr⟩
    · cases p2 <;> simp [Builtin.append_, run_underlying ht, sizeOf, typeInfo, hi, Builtin.lenOf, Builtin.firstCells, loadCells, loadCellsFrom]
    · cases p2 <;> simp [Builtin.append_, run_underlying ht, sizeOf, typeInfo, hi, Builtin.lenOf, Builtin.firstCells, loadCells, loadCellsFrom, hc, storeCells]
  · have vj : ∀ j u, (T.flat M)[j]? = some u → w.cell? ((⟨g2, zo, none⟩ : Addr).add j) = some u := by
      intro j u hj
      rw [← Lz, List.getElem?_take] at hj
      split at hj
      · rw [List.getElem?_drop] at hj
        rw [addr_add, cell_of_row w g2 _ WD e2 fr2 RC, ← Array.getElem?_toList]; exact hj
      · cases hj
    have nz : (T.flat M).length = M.length * i.size := by rw [xa, mm]
    rcases hv with ⟨rfl, rfl⟩ | ⟨g, cap, arr, rfl, hg, hc, hm, hf, hr⟩
    · by_cases Vf : M = []
      · subst Vf
        refine ⟨.slice none 0 0, w, ?_, Ow.nil _ _, Chg.refl _ _, fun g hg => .inl hg, by simp⟩
        simp [Builtin.append_, run_underlying ht, sizeOf, typeInfo, hi, Builtin.lenOf, Builtin.firstCells, loadCells, loadCellsFrom]
      · have qV : 0 < M.length := List.length_pos_iff.2 Vf
        have jd := run_append_nil (P := P) w t ty T.id i _ ht hi hz ⟨g2, zo, none⟩ M.length CV (T.flat M) nz vj qV (by simp at zg; omega) (by simp at oX; omega)
        obtain ⟨v', w', rfl, rfl, q1, q2, q3⟩ := grown 0 (by simpa using qV)
        simp only [List.length_nil, Nat.zero_add, Ty.flat, List.flatMap_nil, Array.empty_append] at jd q1 q2 q3 ⊢
        exact ⟨_, _, jd, q1, q2, q3, by simp [Vf]⟩
    · by_cases xb : L.length + M.length ≤ cap
      · have mn : L.length * i.size + (T.flat M).length ≤ arr.size := by
          rw [xa, mm, ← Nat.add_mul]
          exact Nat.le_trans (Nat.mul_le_mul_right _ xb) hf
        have jd := run_append_room (P := P) w t ty T.id i ht hi g L.length cap arr hg ⟨g2, zo, none⟩ M.length CV (T.flat M) nz vj (hT.flat_one1 M) xb mn
        refine ⟨_, _, jd, .inr ⟨g, cap, _, by simp, setRow_heap w g arr _ T.id _ hg, by simpa using xb, hm, ?_, ?_⟩, ?_, fun k hk => .inl hk, by simp⟩
        · simp only [List.size_toArray, List.length_append, List.length_take, List.length_drop, Array.length_toList]; omega
        · rw [mm, hr, ← hlen, Ty.flat_append]
          exact List.take_left
        · exact ⟨rfl, rfl, rfl, by simp, fun b _ hb => setRow_other w g b _ fun e => hb (by simp [blk, Value.ownBlock, e])⟩
      · have holds : ∀ j u, (T.flat L)[j]? = some u → w.cell? ((⟨g, 0, none⟩ : Addr).add j) = some u := by
          intro j u hj
          rw [← hr, List.getElem?_take] at hj
          split at hj
          · rw [addr_add, cell_of_row w g _ arr T.id _ hg, ← Array.getElem?_toList]; simpa using hj
          · cases hj
        have jd := run_append_grow (P := P) w t ty T.id i _ ht hi hz ⟨g, 0, none⟩ L.length cap (T.flat L) (by rw [CU, mm]) holds ⟨g2, zo, none⟩ M.length CV (T.flat M) nz vj (by omega) (by omega) (growslice_fits (by omega) oX)
        obtain ⟨v', w', rfl, rfl, q1, q2, q3⟩ := grown cap (by omega)
        exact ⟨_, _, jd, q1, q2, q3, by simp⟩
/-! ### A cut -/
def pre(v:Value)(n:Nat):Value:=match v with|.slice p _ c=>.slice p n c|x=>x
def suf(size:Nat)(v:Value)(n:Nat):Value:=match v with|.slice p l c=>.slice (if c=n then p else p.map (·.add (n*size))) (l-n) (c-n)|x=>x
theorem blk_pre(v:Value)(n:Nat):blk (pre v n)=blk v:=by
 cases v with
 | slice p l c=>cases p<;>rfl
 | _=>rfl
theorem fM(size:Nat)(v:Value)(n:Nat):blk (suf size v n)=blk v:=by
 cases v with
 | slice p l c=>
  cases p with
  | none=>simp[suf,blk,Value.ownBlock]
  | some p=>
   by_cases h:c=n
   .simp [suf,h,blk,Value.ownBlock]
   have:(p.add (n*size)).block=p.block:=by unfold Addr.add;split<;>rfl
   simp[suf,h,blk,Value.ownBlock,this]
 | _=>rfl
theorem Ow.pre(hv:Ow w T v L)(hT:T.Ok P)(n:Nat)(hn:n≤L.length):Ow w T (pre v n) (L.take n):=by
 rcases hv with ⟨rfl,rfl⟩|⟨g,cap,arr,rfl,hg,hc,hm,hf,hr⟩
 .simp at hn;subst hn;exact .inl ⟨rfl,rfl⟩
 refine .inr ⟨g,cap,arr,by simp[Mem.pre,Nat.min_eq_left hn],hg,by simp;omega,hm,hf,?_⟩;rw[←hT.flat_take,←hr,List.take_take,List.length_take,Nat.min_eq_left hn,Nat.min_eq_left (Nat.mul_le_mul_right _ hn)]
theorem Sl.pre(hv:Sl w T v L)(hT:T.Ok P)(n:Nat)(hn:n≤L.length):Sl w T (pre v n) (L.take n):=by
 rcases hv with ⟨⟨p,rfl⟩,rfl⟩|⟨g,off,cap,arr,e,fr,rfl,hg,hc,hm,hf,hr⟩
 .simp at hn;subst hn;exact .inl ⟨⟨p,rfl⟩,rfl⟩
 refine .inr ⟨g,off,cap,arr,e,fr,by simp[Mem.pre,Nat.min_eq_left hn],hg,by simp;omega,hm,hf,?_⟩;rw[←hT.flat_take,←hr,List.take_take,List.length_take,Nat.min_eq_left hn,Nat.min_eq_left (Nat.mul_le_mul_right _ hn)]
theorem Sl.suf(hv:Sl w T v L)(hT:T.Ok P)(n:Nat)(hn:n≤L.length):Sl w T (suf T.size v n) (L.drop n):=by
 rcases hv with ⟨⟨p,rfl⟩,rfl⟩|⟨g,off,cap,arr,e,fr,rfl,hg,hc,hm,hf,hr⟩
 .simp at hn;subst hn;exact .inl ⟨⟨_,rfl⟩,rfl⟩
 by_cases hcn:cap=n
 .have:L.length=n:=by omega
  refine .inr ⟨g,off,0,arr,e,fr,by simp[Mem.suf,hcn,this],hg,by simp;omega,by simp,by omega,?_⟩;rw[List.drop_of_length_le (by omega)];simp[Ty.flat]
 refine .inr ⟨g,off+n*T.size,cap-n,arr,e,fr,by simp[Mem.suf,hcn,addr_add],hg,by simp;omega,by omega,?_,?_⟩
 .have:(cap-n)*T.size+n*T.size=cap*T.size:=by rw[←Nat.add_mul];congr 1;omega
  omega
 rw[←hT.flat_drop,←hr,List.drop_take,List.drop_drop,List.length_drop,Nat.sub_mul]
theorem run_pre(hv:Sl w T v L){t:TypeId}(ht:P.underlying t=some (.slice T.id))(hT:T.Ok P)(q:IntKind)(n:Int)(h0:0≤n)(hn:n≤L.length):
  (Instr.sliceAt t v none (some (.int q n)) none).run P w=.ok (pre v n.toNat) w:=by
 obtain⟨p,cap,rfl⟩:=hv.form;have hc:(n:Int)≤(cap:Int):=by
  rcases hv with ⟨⟨_,h⟩,rfl⟩|⟨g,off,adV,arr,e,fr,h,hg,hc,_⟩
  all_goals grind
 have hz:∀p:Option Addr,(p.map fun x=>x.add 0)=p:=fun p=>by cases p<;>simp[Addr.add]
 simp[Instr.sliceAt,Instr.slice,run_underlying ht,Instr.sliceBounds,Instr.sliceBound,asIntOf,h0,hc,hT.run_sizeOf,pre,hz]
theorem run_suf(hv:Sl w T v L){t:TypeId}(ht:P.underlying t=some (.slice T.id))(hT:T.Ok P)(q:IntKind)(n:Int)(h0:0≤n)(hn:n≤L.length):
  (Instr.sliceAt t v (some (.int q n)) none none).run P w=.ok (suf T.size v n.toNat) w:=by
 obtain⟨p,cap,rfl⟩:=hv.form;simp[Instr.sliceAt,Instr.slice,run_underlying ht,Instr.sliceBounds,Instr.sliceBound,asIntOf,h0,hn,hT.run_sizeOf,suf]
/-! ### A slice that is built, and 'make' -/
theorem Ow.built(w:World)(hT:T.Ok P)(L:List α)(hl:L.length≤9223372036854775807):Ow (w.alloc (.cells (T.flat L).toArray T.id)) T (.slice (some ⟨w.heap.size,0,none⟩) L.length L.length) L:=by
 refine .inr ⟨w.heap.size,L.length,_,rfl,heap_alloc_new w _,Nat.le_refl _,by simpa [maxLen]using hl,?_,?_⟩
 .simp [hT.flat_len]
 rw[List.toList_toArray,←hT.flat_len,List.take_length]
theorem Ow.lit{w':World}(hT:T.Ok P)(L:List α)(g n:Nat)(arr:Array Value)(hg:w'.heap[g]?=some (.cells arr T.id (0,0)))(he:arr.toList=T.flat L)(hn:n=L.length)(hl:L.length≤9223372036854775807):Ow w' T (.slice (some ⟨g,0,none⟩) n n) L:=by
 subst hn;have h1:=hT.flat_len L;refine .inr ⟨g,L.length,arr,rfl,hg,Nat.le_refl _,by simpa [maxLen]using hl,?_,?_⟩;all_goals grind
theorem madeCells_flat(hT:T.Ok P)(n:Nat):(madeCells (T.val T.zero).cells (n*T.size)).toList=T.flat (List.replicate n T.zero):=by
 have hz:(T.val T.zero).cells.size=T.size:=by have:=hT.len T.zero;simpa [Ty.enc]using this
 apply List.ext_getElem?;intro i;have hlen:=hT.flat_len (List.replicate n T.zero);rw[List.length_replicate]at hlen;by_cases hi:i<n*T.size
 .have qV:=hT.pos;have hdm:i=(i / T.size)*T.size+i % T.size:=by rw[Nat.mul_comm];exact (Nat.div_add_mod i T.size).symm
  have hq:i / T.size<n:=by rw[Nat.div_lt_iff_lt_mul qV];exact hi
  have hr:i % T.size<T.size:=Nat.mod_lt _ qV;have h1:=hT.flat_get (L:=List.replicate n T.zero) (k:=i / T.size) (x:=T.zero) (by simp[hq]) hr;rw[←hdm]at h1;rw[h1];simp[madeCells,hi,hz,Ty.enc,hr]
 rw[List.getElem?_eq_none (by simp[size_madeCells];omega),List.getElem?_eq_none (by omega)]
end
end Go.Mem
end
section
namespace Go.Mem
open Go.RowKit
/-! ### Lists of pairs -/
section
variable{κ β:Type}[DecidableEq κ]
def bN:List (κ×β)→κ→Option β
 | [],_=>none
 | p::r,k=>if p.1=k then some p.2 else bN r k
def dO:List (κ×β)→κ→β→List (κ×β)
 | [],k,x=>[(k,x)]
 | p::r,k,x=>if p.1=k then (k,x)::r else p::dO r k x
def eB:List (κ×β)→κ→List (κ×β)
 | [],_=>[]
 | p::r,k=>if p.1=k then r else p::eB r k
def db:List (κ×β)→κ→Option Nat
 | [],_=>none
 | p::r,k=>if p.1=k then some 0 else (db r k).map (· + 1)
theorem cL(m:List (κ×β))(k:κ)(x:β)(k':κ):bN (dO m k x) k'=if k'=k then some x else bN m k':=by
 induction m with
 | nil=>simp only[dO,bN];by_cases h:k=k'<;>simp[h,eq_comm]
 | cons p r ih=>
  unfold dO;split
  .rename_i h;subst h;simp only[bN];by_cases e:p.1=k'
   .simp [e]
   simp only[e,if_false];rw[if_neg fun h:k'=p.1=>e h.symm]
  simp only[bN,ih];split<;>split<;>simp_all
theorem zp(m:List (κ×β))(k:κ)(x:β)(k':κ):k'∈(dO m k x).map Prod.fst↔k'=k∨k'∈m.map Prod.fst:=by
 induction m with
 | nil=>simp[dO]
 | cons p r ih=>
  unfold dO;split
  .rename_i h;subst h;simp
  simp only[List.map_cons,List.mem_cons,ih];grind
theorem xd{m:List (κ×β)}(h:(m.map Prod.fst).Nodup)(k:κ)(x:β):((dO m k x).map Prod.fst).Nodup:=by
 induction m with
 | nil=>simp[dO]
 | cons p r ih=>
  simp only[List.map_cons,List.nodup_cons]at h;unfold dO;split
  .rename_i e;subst e;simpa using h
  rename_i e
  simp only[List.map_cons,List.nodup_cons];refine⟨fun hm=>?_,ih h.2⟩;rcases (zp r k x p.1).1 hm with h1|h1
  .exact e h1
  exact h.1 h1
theorem aget_none_iff(m:List (κ×β))(k:κ):bN m k=none↔k∉m.map Prod.fst:=by
 induction m with
 | nil=>simp[bN]
 | cons p r ih=>simp only[bN,List.map_cons,List.mem_cons];split<;>grind
theorem Bo(m:List (κ×β))(k:κ):∀p,p∈eB m k→p∈m:=by
 induction m with
 | nil=>simp[eB]
 | cons p r ih=>
  intro q hq;unfold eB at hq;split at hq
  .exact List.mem_cons_of_mem _ hq
  rcases List.mem_cons.1 hq with rfl|h
  .simp
  exact List.mem_cons_of_mem _ (ih q h)
theorem rE{m:List (κ×β)}(h:(m.map Prod.fst).Nodup)(k:κ):((eB m k).map Prod.fst).Nodup:=by
 induction m with
 | nil=>simp[eB]
 | cons p r ih=>
  simp only[List.map_cons,List.nodup_cons]at h;unfold eB;split
  .exact h.2
  simp only[List.map_cons,List.nodup_cons];refine⟨fun hm=>h.1 ?_,ih h.2⟩;obtain⟨q,hq,e⟩:=List.mem_map.1 hm;exact List.mem_map.2 ⟨q,Bo _ _ _ hq,e⟩
theorem dg{m:List (κ×β)}(h:(m.map Prod.fst).Nodup)(k k':κ):bN (eB m k) k'=if k'=k then none else bN m k':=by
 induction m with
 | nil=>simp[eB,bN]
 | cons p r ih=>
  simp only[List.map_cons,List.nodup_cons]at h;unfold eB;split
  .rename_i e;subst e;by_cases hk:k'=p.1
   .subst hk;rw[if_pos rfl];exact (aget_none_iff _ _).2 h.1
   rw[if_neg hk];simp only[bN];rw[if_neg (fun e=>hk e.symm)]
  rename_i e
  simp only[bN,ih h.2];split<;>split<;>simp_all
theorem apos_lt{m:List (κ×β)}{k:κ}{i:Nat}(h:db m k=some i):i<m.length∧∃x,m[i]?=some (k,x)∧bN m k=some x:=by
 induction m generalizing i with
 | nil=>simp[db]at h
 | cons p r ih=>
  unfold db at h;split at h
  .rename_i e;subst e;simp only[Option.some.injEq]at h;subst h;exact⟨by simp,p.2,by simp,by simp[bN]⟩
  rename_i e
  cases hp:db r k with
  | none=>rw[hp]at h;simp at h
  | some j=>
   rw[hp]at h;simp only[Option.map_some,Option.some.injEq]at h;subst h;obtain⟨h1,x,h2,h3⟩:=ih hp;exact⟨by simp;omega,x,by simpa using h2,by simp[bN,e,h3]⟩
theorem apos_none{m:List (κ×β)}{k:κ}(h:db m k=none):bN m k=none:=by
 induction m with
 | nil=>rfl
 | cons p r ih=>
  unfold db at h;split at h
  .cases h
  rename_i e
  simp only[bN,e,if_false];exact ih (by simpa using h)
theorem LZ{m:List (κ×β)}{k:κ}{i:Nat}(h:db m k=some i)(x:β):dO m k x=m.set i (k,x):=by
 induction m generalizing i with
 | nil=>simp[db]at h
 | cons p r ih=>
  unfold db at h;split at h
  .rename_i e;simp only[Option.some.injEq]at h;subst h;simp[dO,e]
  rename_i e
  cases hp:db r k with
  | none=>rw[hp]at h;simp at h
  | some j=>rw[hp]at h;simp only[Option.map_some,Option.some.injEq]at h;subst h;simp[dO,e,ih hp]
theorem aset_new{m:List (κ×β)}{k:κ}(h:db m k=none)(x:β):dO m k x=m++[(k,x)]:=by
 induction m with
 | nil=>rfl
 | cons p r ih=>
  unfold db at h;split at h
  .cases h
  rename_i e;simp[dO,e,ih (by simpa using h)]
theorem adel_pos{m:List (κ×β)}{k:κ}{i:Nat}(h:db m k=some i):eB m k=m.eraseIdx i:=by
 induction m generalizing i with
 | nil=>simp[db]at h
 | cons p r ih=>
  unfold db at h;split at h
  .rename_i e;simp only[Option.some.injEq]at h;subst h;simp[eB,e]
  rename_i e
  cases hp:db r k with
  | none=>rw[hp]at h;simp at h
  | some j=>rw[hp]at h;simp only[Option.map_some,Option.some.injEq]at h;subst h;simp[eB,e,ih hp]
theorem z1{m:List (κ×β)}{k:κ}(h:db m k=none):eB m k=m:=by
 induction m with
 | nil=>rfl
 | cons p r ih=>
  unfold db at h;split at h
  .cases h
  rename_i e;simp[eB,e,ih (by simpa using h)]
end
/-! ### Keys -/
structure fS(κ:Type) where
 id:TypeId
 val:κ→Value
section
variable{κ β:Type}[DecidableEq κ]{P:Program}
structure fS.Ok(K:fS κ)(P:Program):Prop where
 check:∀(b:Bool) (k:κ) (w:World),(Instr.checkKey b 10000 K.id (K.val k)).run P w=.ok () w
 bits:∀k,Instr.sameBits 10000 (K.val k) (K.val k)=true
 find:∀(k:κ) (es:List MapEntry) (m:List (κ×β)),es.map (·.key)=m.map (K.val ·.1)→∀w:World,
  (Instr.findKey K.id (K.val k) es).run P w=.ok ((db m k).bind fun i=>(es[i]?).map fun e=>(i,e.val)) w
theorem findNow_spec{K:fS κ}{d:TypeDesc}(hs:∀k k',Instr.sameNow d (K.val k) (K.val k')=some (decide (k'=k)))(k:κ):∀(es:List MapEntry) (m:List (κ×β)) (n:Nat),es.map (·.key)=m.map (K.val ·.1)→
  Instr.findNow d (K.val k) es n=some ((db m k).bind fun i=>(es[i]?).map fun e=>(i+n,e.val))
 | [],m,n,h=>by
  cases m with
  | nil=>rfl
  | cons p r=>simp at h
 | e::es,m,n,h=>by
  cases m with
  | nil=>simp at h
  | cons p r=>
   simp only[List.map_cons,List.cons.injEq]at h;unfold Instr.findNow;rw[h.1,hs];by_cases hp:p.1=k
   .simp [hp,db]
   have ih:=findNow_spec hs k es r (n+1) h.2;simp only[hp,decide_false,ih,db,if_false];cases db r k with
   | none=>rfl
   | some i=>simp[Nat.add_assoc,Nat.add_comm 1 n]
def intK(id:TypeId):fS Int:=⟨id,fun n=>.int .i64 n⟩
def rF(id:TypeId):fS ByteArray:=⟨id,fun s=>.string s⟩
theorem bytes_beq(a b:ByteArray):(a == b)=decide (a=b):=by
 obtain⟨a⟩:=a;obtain⟨b⟩:=b;rw[Bool.eq_iff_iff];show (a == b)=true↔_;simp
theorem xe{id:TypeId}{d:TypeDesc}(h:P.underlying id=some d)(v:Value)(hd:∀ms,d≠.interface ms)(ha:∀n e,d≠.array n e)(hs:∀fs,d≠.struct fs)(b:Bool)(n:Nat)(w:World):(Instr.checkKey b (n+1) id v).run P w=.ok () w:=by
 unfold Instr.checkKey;rw[Sem.run_bind,run_underlying h,Result.andThen_ok];cases d<;>first
  | rfl
  | exact absurd rfl (hd _)
  | exact absurd rfl (ha _ _)
  | exact absurd rfl (hs _)
theorem intK_ok{id:TypeId}(h:P.underlying id=some (.int .i64)):fS.Ok (β:=β) (intK id) P:=by
 refine⟨fun b k w=>xe h _ (by simp) (by simp) (by simp) b 9999 w,fun k=>by simp[intK,Instr.sameBits],fun k es m he w=>?_⟩;have:=findNow_spec (K:=intK id) (d:=.int .i64) (fun k k'=>by simp[Instr.sameNow,intK,eq_comm,Bool.beq_eq_decide_eq]) k es m 0 he;unfold Instr.findKey;rw[Sem.run_bind];have hu:(underlying (intK id).id).run P w=.ok (.int .i64) w:=run_underlying h w;rw[hu,Result.andThen_ok,this];simp[Sem.run_pure]
end
end Go.Mem
end
section
namespace Go.Mem
open Go.RowKit
section
variable{κ β:Type}[DecidableEq κ]{P:Program}{K:fS κ}{V:β→Value}{ops:Array Oper}{Q:Exit→Act→World→Prop}{a:Act}{w w':World}{rest:List Oper}{o:Oper}{b:Nat}{m:List (κ×β)}
def hZ(es:List MapEntry)(clock:Nat):Prop:=(es.map (·.born)).Nodup∧∀e∈es,e.born<clock
def Mp(w:World)(K:fS κ)(V:β→Value)(b:Nat)(m:List (κ×β)):Prop:=
 ∃es clock,w.heap[b]?=some (.map es clock)∧es.toList.map (fun e=>(e.key,e.val))=m.map (fun p=>(K.val p.1,V p.2))∧(m.map Prod.fst).Nodup∧hZ es.toList clock
theorem Mp.lt(h:Mp w K V b m):b<w.heap.size:=by
 obtain⟨es,clock,hb,_⟩:=h;exact (Array.getElem?_eq_some_iff.1 hb).1
theorem Mp.kept(h:Mp w K V b m)(hb:w'.heap[b]?=w.heap[b]?):Mp w' K V b m:=by
 obtain⟨es,clock,h1,r⟩:=h;exact⟨es,clock,hb.trans h1,r⟩
theorem Mp.alloc(h:Mp w K V b m)(ob:Obj):Mp (w.alloc ob) K V b m:=h.kept (Below.heap_alloc _ _ _ h.lt)
theorem Mp.drew(h:Mp w K V b m):Mp w.drew K V b m:=h
theorem Mp.setCell(h:Mp w K V b m){p:Addr}(hp:b≠p.block)(u:Value):Mp (w.setCell p u) K V b m:=h.kept (Below.heap_setCell _ _ _ _ hp)
theorem Mp.chg{S:Nat→Prop}(h:Mp w K V b m)(c:Chg S w w')(hS:¬S b):Mp w' K V b m:=h.kept (c.block b h.lt hS)
theorem Mp.nodup(h:Mp w K V b m):(m.map Prod.fst).Nodup:=by obtain⟨_,_,_,_,h,_⟩:=h;exact h
theorem Mp.made(w:World)(K:fS κ)(V:β→Value):Mp (w.alloc (.map #[] 0)) K V w.heap.size []:=
 ⟨#[],0,heap_alloc_new w _,rfl,by simp,by simp[hZ]⟩
theorem run_getObj_map{es:Array MapEntry}{clock:Nat}(h:w.heap[b]?=some (.map es clock)):(getObj b).run P w=.ok (.map es clock) w:=by
 simp[getObj,Sem.run,h]
theorem run_setObj_map{es:Array MapEntry}{clock:Nat}(h:w.heap[b]?=some (.map es clock))(ob:Obj):(setObj b ob).run P w=.ok () { w with heap:=w.heap.setIfInBounds b ob }:=by
 simp[setObj,Sem.run,h]
theorem chg_setObj(w:World)(b:Nat)(ob:Obj):Chg (fun k=>k=b) w { w with heap:=w.heap.setIfInBounds b ob }:=
 ⟨rfl,rfl,rfl,by simp,fun k _ hk=>by show (w.heap.setIfInBounds b ob)[k]?=_;rw[Array.getElem?_setIfInBounds_ne (fun h=>hk h.symm)]⟩
theorem heap_setObj{es:Array MapEntry}{clock:Nat}(h:w.heap[b]?=some (.map es clock))(ob:Obj):({ w with heap:=w.heap.setIfInBounds b ob }:World).heap[b]?=some ob:=by
 have:=(Array.getElem?_eq_some_iff.1 h).1;show (w.heap.setIfInBounds b ob)[b]?=_;simp[this]
theorem keys_of{es:Array MapEntry}(h:es.toList.map (fun e=>(e.key,e.val))=m.map (fun p=>(K.val p.1,V p.2))):es.toList.map (·.key)=m.map (K.val ·.1):=by
 have:=congrArg (List.map Prod.fst) h;simpa [List.map_map,Function.comp_def]using this
theorem entry_at{es:Array MapEntry}(h:es.toList.map (fun e=>(e.key,e.val))=m.map (fun p=>(K.val p.1,V p.2))){i:Nat}{k:κ}{x:β}(hi:m[i]?=some (k,x)):∃e,es.toList[i]?=some e∧e.key=K.val k∧e.val=V x:=by
 have:=congrArg (·[i]?) h;simp only[List.getElem?_map,hi,Option.map_some]at this;cases he:es.toList[i]? with
 | none=>rw[he]at this;simp at this
 | some e=>rw[he]at this;simp at this;exact⟨e,rfl,this.1,this.2⟩
theorem run_lookup(h:Mp w K V b m)(hK:fS.Ok (β:=β) K P){t e:TypeId}(ht:P.underlying t=some (.map K.id e))(k:κ){z:Value}(hz:∀w,(zeroValue e).run P w=.ok z w)(ok:Bool):
  (Instr.lookup t (.map (some b)) (K.val k) ok).run P w=.ok (if ok then .tuple #[((bN m k).map V).getD z,.bool (bN m k).isSome] else ((bN m k).map V).getD z) w:=by
 obtain⟨es,clock,hb,he,hn,hs⟩:=h;have hf:=hK.find k es.toList m (keys_of he) w;unfold Instr.lookup;simp only[Sem.run_bind,run_underlying ht,Result.andThen_ok,run_getObj_map hb,Sem.run_pure,hK.check,hf];cases hp:db m k with
 | none=>
  rw[apos_none hp];simp[hz]
 | some i=>
  obtain⟨_,x,hx,hg⟩:=apos_lt hp;obtain⟨e0,h1,h2,h3⟩:=entry_at he hx;rw[hg];simp only[Option.bind_some,h1,Option.map_some,Option.getD_some,Option.isSome_some,h3];rfl
theorem CW{es:List MapEntry}{clock:Nat}(h:hZ es clock)(k v:Value):hZ (es++[{ key:=k,val:=v,born:=clock }]) (clock+1):=by
 obtain⟨h1,h2⟩:=h;refine⟨?_,fun e he=>?_⟩
 .simp only[List.map_append,List.map_cons,List.map_nil];rw[List.nodup_append];refine⟨h1,by simp,fun x hx y hy=>?_⟩;simp only[List.mem_singleton]at hy;obtain⟨e,he,rfl⟩:=List.mem_map.1 hx;have:=h2 e he;omega
 rcases List.mem_append.1 he with h|h
 .have:=h2 e h;omega
 simp only[List.mem_singleton]at h;subst h;simp
theorem run_update(h:Mp w K V b m)(hK:fS.Ok (β:=β) K P){t e:TypeId}(ht:P.underlying t=some (.map K.id e))(k:κ)(x:β):
  ∃w',(Instr.mapUpdate t (.map (some b)) (K.val k) (V x)).run P w=.ok () w'∧Mp w' K V b (dO m k x)∧Chg (fun j=>j=b) w w':=by
 obtain⟨es,clock,hb,he,hn,hs⟩:=h;have hf:=hK.find k es.toList m (keys_of he) w;unfold Instr.mapUpdate;simp only[Sem.run_bind,run_underlying ht,Result.andThen_ok,run_getObj_map hb,hK.check,hf];cases hp:db m k with
 | none=>
  refine⟨_,run_setObj_map hb _,⟨_,_,heap_setObj hb _,?_,xd hn k x,?_⟩,chg_setObj _ _ _⟩
  .rw [aset_new hp];simp[he]
  simpa using CW hs (K.val k) (V x)
 | some i=>
  obtain⟨hi,y,hy,_⟩:=apos_lt hp;obtain⟨e0,h1,h2,h3⟩:=entry_at he hy;have Vg:es[i]?=some e0:=by simpa using h1
  simp only[Option.bind_some,h1,Option.map_some,Vg,h2,Option.getD_some];have dM:(Instr.keyThatStays (K.val k) (K.val k)).run P w=.ok (K.val k) w:=by
   unfold Instr.keyThatStays;rw[if_pos (hK.bits k)];rfl
  simp only[Sem.run_bind,dM,Result.andThen_ok];refine⟨_,run_setObj_map hb _,⟨_,_,heap_setObj hb _,?_,xd hn k x,?_⟩,chg_setObj _ _ _⟩
  .rw [LZ hp];apply List.ext_getElem?;intro j;have hj:=congrArg (·[j]?) he;simp only[List.getElem?_map,Array.getElem?_toList,Array.getElem?_modify,List.getElem?_set]at hj⊢;by_cases L0:i=j
   .subst L0;simp[Vg,hi]
   simp only[L0,if_false,if_neg];simpa using hj
  obtain⟨s1,s2⟩:=hs;have Vh:((es.modify i fun e=>{ e with key:=K.val k,val:=V x }).toList.map (·.born))=es.toList.map (·.born):=by
   apply List.ext_getElem?;intro j;simp only[List.getElem?_map,Array.getElem?_toList,Array.getElem?_modify];split
   .simp [Function.comp_def]
   rfl
  refine⟨by rw[Vh];exact s1,fun e WE=>?_⟩;have:e.born∈es.toList.map (·.born):=by rw[←Vh];exact List.mem_map_of_mem WE
  obtain⟨e',h1,h2⟩:=List.mem_map.1 this;rw[←h2];exact s2 e' h1
end
end Go.Mem
end
section
namespace Go.Hp
open Go.RowKit
open Go.Mem (Ty fS blk elemAt addr_add gJ pre suf blk_pre fM bN dO eB db hZ)
abbrev bb:=Array Obj
/-! ### What may have turned -/
structure Chg(S:Nat→Prop)(H H':bb):Prop where
 size:H.size≤H'.size
 block:∀k,k<H.size→¬S k→H'[k]?=H[k]?
section
variable{S T:Nat→Prop}{A B C H H':bb}
theorem Chg.refl(S:Nat→Prop)(H:bb):Chg S H H:=⟨Nat.le_refl _,fun _ _ _=>rfl⟩
theorem Chg.trans(h:Chg S A B)(k:Chg S B C):Chg S A C:=
 ⟨Nat.le_trans h.size k.size,fun i hi hS=>(k.block i (Nat.lt_of_lt_of_le hi h.size) hS).trans (h.block i hi hS)⟩
theorem Chg.trans'(h:Chg S A B)(k:Chg T B C)(hT:∀i,T i→i<A.size→S i):Chg S A C:=
 ⟨Nat.le_trans h.size k.size,fun i hi hS=>(k.block i (Nat.lt_of_lt_of_le hi h.size) fun ht=>hS (hT i ht hi)).trans (h.block i hi hS)⟩
theorem Chg.mono(h:Chg S H H')(hS:∀i,i<H.size→S i→T i):Chg T H H':=⟨h.size,fun k hk ht=>h.block k hk fun hs=>ht (hS k hk hs)⟩
theorem fh{k:Nat}{o:Obj}(h:H[k]?=some o):k<H.size:=(Array.getElem?_eq_some_iff.1 h).1
theorem Chg.get(h:Chg S H H'){k:Nat}{o:Obj}(hk:H[k]?=some o)(hS:¬S k):H'[k]?=some o:=(h.block k (fh hk) hS).trans hk
theorem Chg.push(H:bb)(o:Obj)(S:Nat→Prop):Chg S H (H.push o):=⟨by simp,fun k hk _=>by rw[Array.getElem?_push,if_neg (by omega)]⟩
theorem Chg.set(H:bb)(g:Nat)(o:Obj):Chg (fun k=>k=g) H (H.setIfInBounds g o):=⟨by simp,fun k _ hk=>by rw[Array.getElem?_setIfInBounds_ne (fun h=>hk h.symm)]⟩
theorem L1(H:bb)(o:Obj):(H.push o)[H.size]?=some o:=by simp
end
section
variable{α:Type}{T:Ty α}{P:Program}
/-! ### Slices -/
def Sl(H:bb)(T:Ty α)(v:Value)(L:List α):Prop:=
 ((∃p,v=.slice p 0 0)∧L=[])∨
 ∃g off cap arr e fr,v=.slice (some ⟨g,off,none⟩) L.length cap∧H[g]?=some (.cells arr e fr)∧L.length≤cap∧cap≤maxLen∧(0<cap→off+cap*T.size≤arr.size)∧
  (arr.toList.drop off).take (L.length*T.size)=T.flat L
def Ow(H:bb)(T:Ty α)(v:Value)(L:List α):Prop:=
 (v=.slice none 0 0∧L=[])∨
 ∃g cap arr,v=.slice (some ⟨g,0,none⟩) L.length cap∧H[g]?=some (.cells arr T.id (0,0))∧L.length≤cap∧cap≤maxLen∧cap*T.size≤arr.size∧
  arr.toList.take (L.length*T.size)=T.flat L
variable{H H':bb}{v:Value}{L:List α}
theorem Ow.sl(h:Ow H T v L):Sl H T v L:=by
 rcases h with h|⟨g,cap,arr,rfl,h1,h2,h3,h4,h5⟩
 .exact .inl ⟨⟨none,h.1⟩,h.2⟩
 exact .inr ⟨g,0,cap,arr,_,_,rfl,h1,h2,h3,by omega,by simpa using h5⟩
theorem Sl.nil(H:bb)(T:Ty α):Sl H T (.slice none 0 0) []:=.inl ⟨⟨none,rfl⟩,rfl⟩
theorem Ow.nil(H:bb)(T:Ty α):Ow H T (.slice none 0 0) []:=.inl ⟨rfl,rfl⟩
theorem Sl.kept(h:Sl H T v L)(hb:∀g,blk v=some g→H'[g]?=H[g]?):Sl H' T v L:=by
 rcases h with h|⟨g,off,cap,arr,e,fr,rfl,h1,r⟩
 .exact .inl h
 exact .inr ⟨g,off,cap,arr,e,fr,rfl,by rw[hb g rfl];exact h1,r⟩
theorem Ow.kept(h:Ow H T v L)(hb:∀g,blk v=some g→H'[g]?=H[g]?):Ow H' T v L:=by
 rcases h with h|⟨g,cap,arr,rfl,h1,r⟩
 .exact .inl h
 exact .inr ⟨g,cap,arr,rfl,by rw[hb g rfl];exact h1,r⟩
theorem Ow.lt(h:Ow H T v L){g:Nat}(hg:blk v=some g):g<H.size:=by
 rcases h with ⟨rfl,_⟩|⟨g',cap,arr,rfl,h1,r⟩
 .simp [blk,Value.ownBlock]at hg
 simp[blk,Value.ownBlock]at hg;subst hg;exact (Array.getElem?_eq_some_iff.1 h1).1
theorem Sl.kept'(h:Sl H T v L)(hb:∀g,blk v=some g→g<H.size→H'[g]?=H[g]?):Sl H' T v L:=by
 rcases h with h|⟨g,off,cap,arr,e,fr,rfl,h1,r⟩
 .exact .inl h
 exact .inr ⟨g,off,cap,arr,e,fr,rfl,by rw[hb g rfl (Array.getElem?_eq_some_iff.1 h1).1];exact h1,r⟩
theorem Sl.chg{S:Nat→Prop}(h:Sl H T v L)(c:Chg S H H')(hS:∀g,blk v=some g→¬S g):Sl H' T v L:=h.kept' fun g hg hl=>c.block g hl (hS g hg)
theorem Ow.chg{S:Nat→Prop}(h:Ow H T v L)(c:Chg S H H')(hS:∀g,blk v=some g→¬S g):Ow H' T v L:=h.kept fun g hg=>c.block g (h.lt hg) (hS g hg)
theorem Sl.len_le(h:Sl H T v L):L.length≤9223372036854775807:=by
 rcases h with ⟨_,rfl⟩|⟨g,off,cap,arr,e,fr,rfl,h1,h2,h3,_⟩
 .simp
 have:cap≤9223372036854775807:=by simpa [maxLen]using h3
 omega
theorem Sl.form(h:Sl H T v L):∃p cap,v=.slice p L.length cap:=by
 rcases h with ⟨⟨p,rfl⟩,rfl⟩|⟨g,off,cap,arr,e,fr,rfl,_⟩
 .exact ⟨_,_,rfl⟩
 exact⟨_,_,rfl⟩
def Hv(H:bb)(p:Addr):Option Value:=
 match H[p.block]? with
 | some (.cells c _ _)=>if p.spot.isSome then none else c[p.off]?
 | _=>none
theorem z6{g j:Nat}{arr:Array Value}{e:TypeId}{fr:Nat×Nat}(h:H[g]?=some (.cells arr e fr)):Hv H ⟨g,j,none⟩=arr[j]?:=by simp[Hv,h]
theorem Sl.cell(h:Sl H T v L)(hT:T.Ok P){k:Nat}{x:α}(hk:L[k]?=some x){j:Nat}{u:Value}(hj:(T.enc x)[j]?=some u):Hv H ((elemAt T.size v k).add j)=some u:=by
 have hjs:j<T.size:=by rw[←hT.len x];exact (List.getElem?_eq_some_iff.1 hj).1
 rcases h with ⟨_,rfl⟩|⟨g,off,cap,arr,e,fr,rfl,h1,h2,h3,h4,h5⟩
 .simp at hk
 have h6:=hT.flat_get hk hjs;rw[hj,←h5,List.getElem?_take]at h6;split at h6
 .rw [List.getElem?_drop]at h6;simp only[elemAt,addr_add];rw[z6 h1,←Array.getElem?_toList,←h6,Nat.add_assoc]
 cases h6
theorem Sl.elem_spot(h:Sl H T v L){k:Nat}(hk:k<L.length):(elemAt T.size v k).spot=none:=by
 rcases h with ⟨_,rfl⟩|⟨g,off,cap,arr,e,fr,rfl,_⟩
 .simp at hk
 simp only[elemAt,addr_add]
theorem Sl.of_mem{w:World}(h:Mem.Sl w T v L):Sl w.heap T v L:=h
theorem Sl.mem{w:World}(h:Sl w.heap T v L):Mem.Sl w T v L:=h
theorem Ow.of_mem{w:World}(h:Mem.Ow w T v L):Ow w.heap T v L:=h
theorem Ow.mem{w:World}(h:Ow w.heap T v L):Mem.Ow w T v L:=h
theorem Chg.of_mem{S:Nat→Prop}{w w':World}(h:Mem.Chg S w w'):Chg S w.heap w'.heap:=⟨h.size,h.block⟩
def Hs(H:bb)(v v':Value):Prop:=∀g,blk v'=some g→blk v=some g∨H.size≤g
theorem Ow.pre(hv:Ow H T v L)(hT:T.Ok P)(n:Nat)(hn:n≤L.length):Ow H T (pre v n) (L.take n):=Mem.Ow.pre (w:=⟨H,fun _ _=>0,0,default,#[]⟩) hv hT n hn
theorem Sl.pre(hv:Sl H T v L)(hT:T.Ok P)(n:Nat)(hn:n≤L.length):Sl H T (pre v n) (L.take n):=Mem.Sl.pre (w:=⟨H,fun _ _=>0,0,default,#[]⟩) hv hT n hn
theorem Sl.suf(hv:Sl H T v L)(hT:T.Ok P)(n:Nat)(hn:n≤L.length):Sl H T (suf T.size v n) (L.drop n):=Mem.Sl.suf (w:=⟨H,fun _ _=>0,0,default,#[]⟩) hv hT n hn
theorem Ow.lit(hT:T.Ok P)(L:List α){g n:Nat}{arr:Array Value}(hg:H[g]?=some (.cells arr T.id (0,0)))(he:arr.toList=T.flat L)(hn:n=L.length)(hl:L.length≤9223372036854775807):Ow H T (.slice (some ⟨g,0,none⟩) n n) L:=
 Mem.Ow.lit (w':=⟨H,fun _ _=>0,0,default,#[]⟩) hT L g n arr hg he hn hl
end
/-! ### Maps -/
section
variable{κ β:Type}[DecidableEq κ]{P:Program}{K:fS κ}{V:β→Value}{H H':bb}{b:Nat}{m:List (κ×β)}
def Mp(H:bb)(K:fS κ)(V:β→Value)(b:Nat)(m:List (κ×β)):Prop:=
 ∃es clock,H[b]?=some (.map es clock)∧es.toList.map (fun e=>(e.key,e.val))=m.map (fun p=>(K.val p.1,V p.2))∧(m.map Prod.fst).Nodup∧hZ es.toList clock
theorem Mp.of_mem{w:World}(h:Mem.Mp w K V b m):Mp w.heap K V b m:=h
theorem Mp.mem{w:World}(h:Mp w.heap K V b m):Mem.Mp w K V b m:=h
theorem Mp.lt(h:Mp H K V b m):b<H.size:=by
 obtain⟨es,clock,hb,_⟩:=h;exact fh hb
theorem Mp.kept(h:Mp H K V b m)(hb:H'[b]?=H[b]?):Mp H' K V b m:=by
 obtain⟨es,clock,h1,r⟩:=h;exact⟨es,clock,hb.trans h1,r⟩
theorem Mp.chg{S:Nat→Prop}(h:Mp H K V b m)(c:Chg S H H')(hS:¬S b):Mp H' K V b m:=h.kept (c.block b h.lt hS)
theorem Mp.nodup(h:Mp H K V b m):(m.map Prod.fst).Nodup:=by obtain⟨_,_,_,_,h,_⟩:=h;exact h
theorem Mp.made{g:Nat}(h:H[g]?=some (.map #[] 0))(K:fS κ)(V:β→Value):Mp H K V g []:=⟨#[],0,h,rfl,by simp,by simp[hZ]⟩
end
end Go.Hp
end
section
namespace Go.Ser
/-! ### What an operation does to the world -/
def St(P:Program){α:Type}(s:Sem α):Prop:=∀w a w1,s.run P w=.ok a w1→w1=w∧∀w',s.run P w'=.ok a w'
section
variable{P:Program}{α β:Type}
theorem St.pure(a:α):St P (Sem.pure a):=by
 intro w b w1 h;simp only[Sem.run,Result.ok.injEq]at h;obtain⟨rfl,rfl⟩:=h;exact⟨rfl,fun _=>rfl⟩
theorem St.pure'(a:α):St P (Pure.pure a:Sem α):=St.pure a
theorem St.halt(h:Halt):St P (Sem.halt h:Sem α):=by intro w b w1 h;simp[Sem.run]at h
theorem St.bind{s:Sem α}{f:α→Sem β}(hs:St P s)(hf:∀a,St P (f a)):St P (s >>= f):=by
 intro w b w1 h;rw[Sem.run_bind]at h;cases hr:s.run P w with
 | halt x w2=>rw[hr]at h;simp at h
 | ok a w2=>
  rw[hr]at h;simp only[Result.andThen_ok]at h;obtain⟨rfl,h1⟩:=hs _ _ _ hr;obtain⟨rfl,h2⟩:=hf a _ _ _ h;refine⟨rfl,fun w'=>?_⟩;rw[Sem.run_bind,h1 w',Result.andThen_ok];grind
theorem St.program{k:Program→Sem α}(h:St P (k P)):St P (Sem.program k):=by
 intro w b w1 e;simp only[Sem.run]at e;exact⟨(h _ _ _ e).1,fun w'=>by simp only[Sem.run];exact (h _ _ _ e).2 w'⟩
theorem St.prog:St P Go.program:=St.program (St.pure _)
theorem St.ite{c:Prop}[Decidable c]{s t:Sem α}(h1:St P s)(h2:St P t):St P (if c then s else t):=by grind
def Nv(P:Program){α:Type}(s:Sem α):Prop:=∀w a w1,s.run P w≠.ok a w1
theorem Nv.st{s:Sem α}(h:Nv P s):St P s:=fun w a w1 e=>absurd e (h w a w1)
theorem Nv.halt(h:Halt):Nv P (Sem.halt h:Sem α):=by intro w a w1 e;simp[Sem.run]at e
theorem Nv.bind{s:Sem α}{f:α→Sem β}(hf:∀a,Nv P (f a)):Nv P (s >>= f):=by
 intro w b w1 h;rw[Sem.run_bind]at h;cases hr:s.run P w with
 | halt x w2=>rw[hr]at h;simp at h
 | ok a w2=>rw[hr]at h;exact hf a _ _ _ h
theorem Nv.runtimePanic(e:RuntimeError):Nv P (Go.runtimePanic e:Sem α):=by
 unfold Go.runtimePanic;refine Nv.bind fun p=>?_
 cases e<;>first
  | exact Nv.halt _
  | (refine Nv.bind fun _=>?_;first|exact Nv.halt _|exact Nv.bind fun _=>Nv.halt _)
theorem Nv.boundsPanic(k:IntKind)(x y:Int)(c:BoundsCode):Nv P (Go.boundsPanic k x y c:Sem α):=by grind[Go.boundsPanic,Nv.bind,Nv.runtimePanic]
theorem b8(t:TypeId):St P (underlying t):=by
 unfold underlying;refine St.bind St.prog fun p=>?_
 split<;>first|exact St.pure' _|exact St.halt _
theorem vk(t:TypeId):St P (typeInfo t):=by
 unfold typeInfo;refine St.bind St.prog fun p=>?_
 split<;>first|exact St.pure' _|exact St.halt _
theorem gW(t:TypeId):St P (Go.sizeOf t):=St.bind (vk t) fun _=>St.pure' _
theorem nD(t:TypeId):St P (zeroValue t):=by
 unfold zeroValue;refine St.bind (vk t) fun i=>?_
 split<;>first|exact St.pure' _|exact St.halt _
theorem CY(t:TypeId):St P (isAgg t):=by
 unfold isAgg;grind[St.bind,b8,St.pure']
theorem sr(t:TypeId)(cs:Array Value)(off:Nat):St P (part t cs off):=by
 unfold part;refine St.bind (CY t) fun b=>?_
 split
 .grind[St.bind,gW,St.pure']
 split<;>first|exact St.pure' _|exact St.halt _
theorem jR(v:Value):St P (asIntOf v):=by unfold asIntOf;split<;>first|exact St.pure' _|exact St.halt _
theorem L3(v:Value):St P (asInt v):=St.bind (jR v) fun _=>St.pure' _
theorem I9(v:Value):St P (asBool v):=by unfold asBool;split<;>first|exact St.pure' _|exact St.halt _
theorem su(v:Value):St P (asAgg v):=by unfold asAgg;split<;>first|exact St.pure' _|exact St.halt _
theorem jk(v:Value):St P (Instr.sureAddr v):=by unfold Instr.sureAddr;split<;>first|exact St.pure' _|exact St.halt _
theorem ue(v:Value):St P (asAddr v):=by unfold asAddr;split<;>first|exact St.pure' _|exact St.halt _|exact (Nv.runtimePanic _).st
theorem mo(x:Value)(y:Nat)(c:BoundsCode):St P (Instr.sliceBound x y c):=by
 unfold Instr.sliceBound;refine St.bind (jR x) fun p=>?_
 obtain⟨k,i⟩:=p;exact St.ite (St.pure' _) (Nv.boundsPanic _ _ _ _).st
theorem lB(b:Bool)(len cap:Nat)(lo hi mx:Option Value):St P (Instr.sliceBounds b len cap lo hi mx):=by
 unfold Instr.sliceBounds
 (repeat' (first|exact St.pure' _|exact St.halt _|exact (Nv.runtimePanic _).st|exact (Nv.boundsPanic _ _ _ _).st|exact b8 _|exact gW _|exact jR _|exact jk _|exact ue _|exact sr _ _ _|exact su _|exact mo _ _ _|(refine St.bind ?_ fun _=>?_)|split|dsimp only))
theorem L6(t:TypeId)(x:Value)(lo hi mx:Option Value):St P (Instr.slice t x lo hi mx):=by
 unfold Instr.slice
 (repeat' (first|exact St.pure' _|exact St.halt _|exact (Nv.runtimePanic _).st|exact (Nv.boundsPanic _ _ _ _).st|exact b8 _|exact gW _|exact jR _|exact jk _|exact ue _|exact sr _ _ _|exact su _|exact mo _ _ _|exact lB _ _ _ _ _ _|(refine St.bind ?_ fun _=>?_)|split|dsimp only))
theorem Fp(t:TypeId)(x:Value)(lo hi mx:Option Value):St P (Instr.sliceAt t x lo hi mx):=by
 unfold Instr.sliceAt;grind[St.bind,b8,jk,lB,gW,St.pure',L6]
theorem Fq(t:TypeId)(x i:Value):St P (Instr.indexAt t x i):=by
 unfold Instr.indexAt
 (repeat' (first|exact St.pure' _|exact St.halt _|exact (Nv.runtimePanic _).st|exact (Nv.boundsPanic _ _ _ _).st|exact b8 _|exact gW _|exact jR _|exact jk _|exact ue _|exact sr _ _ _|exact su _|exact mo _ _ _|exact lB _ _ _ _ _ _|(refine St.bind ?_ fun _=>?_)|split|dsimp only))
theorem L7(t:TypeId)(x i:Value):St P (Instr.index t x i):=by
 unfold Instr.index;refine St.bind (jR _) fun p=>?_
 obtain⟨k,i⟩:=p;refine St.bind (b8 t) fun d=>?_
 split
 .exact St.ite (St.bind (gW _) fun _=>sr _ _ _) (Nv.boundsPanic _ _ _ _).st
 .split
  .exact St.pure' _
  exact (Nv.boundsPanic _ _ _ _).st
 exact St.halt _
theorem L9(t:TypeId)(x:Value)(f:Nat):St P (Instr.field t x f):=by
 unfold Instr.field;refine St.bind (b8 t) fun d=>?_
 split
 .split
  .grind[St.bind,su,sr]
  exact St.halt _
 exact St.halt _
theorem Ft(x:Value)(f:Nat):St P (Instr.extract x f):=by
 unfold Instr.extract;split
 .split<;>first|exact St.pure' _|exact St.halt _
 exact St.halt _
theorem RD{γ δ:Type}(f:γ→Sem δ)(hf:∀x,St P (f x)):∀(l:List γ),St P (l.mapM f):= by intro x;induction x<;>grind[St.pure',St.bind]
theorem Fu{γ δ:Type}(f:γ→Sem δ)(hf:∀x,St P (f x))(a:Array γ):St P (a.mapM f):=by
 rw[Array.mapM_eq_mapM_toList];exact St.bind (RD f hf _) fun _=>St.pure' _
theorem Ma(t:TypeId)(ps:Array (Nat×Value)):St P (Instr.build t ps):=by
 unfold Instr.build;refine St.bind (nD t) fun z=>?_
 refine St.bind (b8 t) fun d=>?_
 split
 .refine St.bind (Fu _ (fun f=>St.bind (gW _) fun _=>St.pure' _) _) fun pl=>?_
  split<;>first|exact St.pure' _|exact St.halt _
 .refine St.bind (gW _) fun _=>?_
  split<;>first|exact St.pure' _|exact St.halt _
 exact St.halt _
theorem uf(t:TypeId)(x:Value):St P (Instr.makeInterface t x):=by
 unfold Instr.makeInterface;refine St.bind (b8 t) fun d=>?_
 split<;>first|exact St.pure' _|exact St.halt _
end
/-! ### The operations' classes -/
section
variable{P:Program}
def Pur(P:Program)(s:Sem Next):Prop:=∀w n w1,s.run P w=.ok n w1→w1=w∧(∃v,n=.value v)∧∀w',s.run P w'=.ok n w'
def Rd(P:Program)(s:Sem Next):Prop:=∀w n w1,s.run P w=.ok n w1→w1=w∧(∃v,n=.value v)∧∀o,s.run P (w.alloc o)=.ok n (w.alloc o)
def Alc(P:Program)(s:Sem Next):Prop:=∀w n w1,s.run P w=.ok n w1→(∃v,n=.value v)∧∃o,w1=w.alloc o
theorem kS{s:Sem Value}(hs:St P s):Pur P (do pure (Next.value (←s))):=by
 intro w n w1 h;obtain⟨h1,h2⟩:=(St.bind hs fun v=>St.pure' (Next.value v)) w n w1 h;refine⟨h1,?_,h2⟩;rw[Sem.run_bind]at h;cases hr:s.run P w with
 | halt x w2=>rw[hr]at h;simp at h
 | ok a w2=>rw[hr]at h;simp[Sem.run_pure]at h;exact⟨a,h.1.symm⟩
theorem aax{α:Type}{s:Sem α}(f:α→Value)(hs:St P s):Pur P (s >>= fun x=>pure (Next.value (f x))):=by
 intro w n w1 h;obtain⟨h1,h2⟩:=(St.bind hs fun v=>St.pure' (Next.value (f v))) w n w1 h;refine⟨h1,?_,h2⟩;rw[Sem.run_bind]at h;cases hr:s.run P w with
 | halt x w2=>rw[hr]at h;simp at h
 | ok a w2=>rw[hr]at h;simp[Sem.run_pure]at h;exact⟨f a,h.1.symm⟩
theorem ug(v:Value):Pur P (pure (Next.value v)):=by
 intro w n w1 h;obtain⟨h1,h2⟩:=St.pure' (P:=P) (Next.value v) w n w1 h;simp[Sem.run_pure]at h;grind
theorem z7{s:Sem Next}(hs:Nv P s):Pur P s:=fun w n w1 h=>absurd h (hs w n w1)
def noBox:Value→Bool
 | .map _|.chan _=>false
 | _=>true
def isInt:Value→Bool
 | .int _ _=>true
 | _=>false
def plain2:Value→Value→Bool
 | .int _ _,.int _ _|.string _,.string _|.bool _,.bool _|.pointer none,.pointer _|.pointer _,.pointer none
 | .slice none _ _,.slice _ _ _|.slice _ _ _,.slice none _ _|.map none,.map _|.map _,.map none
 | .nilIface,.iface _ _|.iface _ _,.nilIface=>true
 | _,_=>false
def dynOp(o:Oper)(a:Act):Bool:=
 match o.op with
 | .binOp _ _ x y _=>plain2 (a.eval x) (a.eval y)
 | .convert _ _ x=>isInt (a.eval x)
 | .nilCheck x=>match a.eval x with|.func _ _ _=>false|_=>true
 | .call { callee:=.builtin .len,args:=xs,.. }|.call { callee:=.builtin .cap,args:=xs,.. }=>match xs[0]? with|some x=>noBox (a.eval x)|none=>false
 | .call { callee:=.builtin .min,args:=xs,.. }|.call { callee:=.builtin .max,args:=xs,.. }=>xs.toList.all fun x=>isInt (a.eval x)
 | _=>true
def isDyn(o:Oper):Bool:=
 match o.op with
 | .binOp ..|.convert ..|.nilCheck _|.call _=>true
 | _=>false
def rG(P:Program)(s:TypeId)(f:Nat):Bool:=
 match P.underlying s with
 | some (.struct fs)=>match fs[f]? with|some fd=>(match P.info? fd.type with|some i=>i.size != 0|none=>false)|none=>false
 | _=>false
def uh(P:Program)(s d:TypeId):Bool:=
 match P.underlying s,P.underlying d with
 | some (.int _),some (.int _)=>true
 | some (.int _),some .string=>true
 | _,_=>false
def ui(P:Program)(o:Oper):Bool:=
 match o.op with
 | .move _|.assign _|.pick ..|.build ..|.field ..|.nilCheck _|.slice ..|.indexAddr ..|.index ..|.binOp ..|.unOp ..|.makeInterface ..|.makeFunc ..|.extract ..=>true
 | .fieldAddr s _ f=>rG P s f
 | .convert s d _=>uh P s d
 | .call { callee:=.builtin .len,.. }|.call { callee:=.builtin .cap,.. }|.call { callee:=.builtin .min,.. }|.call { callee:=.builtin .max,.. }=>true
 | _=>false
def xf(o:Oper):Bool:=match o.op with|.load ..=>true|_=>false
def sB(o:Oper):Bool:=match o.op with|.alloc _|.box ..|.buildSlice ..|.makeMap ..=>true|_=>false
theorem Mb(op:UnOp)(x:Value):St P (Op.unary op x):=by
 unfold Op.unary Op.intArith Op.intBits
 (repeat' split)<;>first|exact St.pure' _|exact St.halt _
theorem Mc(op:BinOp)(k:IntKind)(x:Int)(k':IntKind)(y:Int):St P (Op.shift op k x k' y):=by
 unfold Op.shift
 (repeat' (first|split|dsimp only))<;>first|exact St.pure' _|exact St.halt _|exact (Nv.runtimePanic _).st
theorem CZ(op:BinOp)(k:IntKind)(x y:Int):St P (Op.intArith op k x y):=by
 unfold Op.intArith;split<;>first|exact St.pure' _|exact St.halt _
theorem I'(op:BinOp)(k:IntKind)(x y:Int):St P (Op.intDiv op k x y):=by
 unfold Op.intDiv
 (repeat' split)<;>first|exact St.pure' _|exact St.halt _|exact (Nv.runtimePanic _).st
theorem Fv(op:BinOp)(k:IntKind)(x y:Int):St P (Op.intBits op k x y):=by
 unfold Op.intBits
 (repeat' (first|split|dsimp only))<;>first|exact St.pure' _|exact St.halt _
theorem Ja(op:BinOp)(x y:Int):St P (Op.intCmp op x y):=by
 unfold Op.intCmp;split<;>first|exact St.pure' _|exact St.halt _
theorem C0(op:BinOp)(x y:ByteArray):St P (Op.stringOp op x y):=by
 unfold Op.stringOp
 (repeat' (first|split|dsimp only))<;>first|exact St.pure' _|exact St.halt _
theorem Jb(op:BinOp)(t:TypeId)(k k':IntKind)(a b:Int):St P (binOp op t (.int k a) (.int k' b)):=by
 cases op<;>simp only[binOp]<;>first
  | exact Mc _ _ _ _ _
  | (split<;>first|exact St.halt _|exact CZ _ _ _ _|exact I' _ _ _ _|exact Fv _ _ _ _|exact Ja _ _ _)
theorem Bp(op:BinOp)(t:TypeId)(a b:ByteArray):St P (binOp op t (.string a) (.string b)):=by
 cases op<;>simp only[binOp]<;>exact C0 _ _ _
theorem xg{a b:Option Addr}(h:a=none∨b=none):St P (samePointer a b):=by
 rcases h with rfl|rfl
 .exact St.pure' _
 cases a<;>exact St.pure' _
theorem uj(d:Nat)(t:TypeId)(x y:Value)(h:plain2 x y=true):St P (Op.equalIn d t x y):=by
 cases d with
 | zero=>exact St.halt _
 | succ d=>
  unfold Op.equalIn;refine St.bind (b8 t) fun u=>?_
  unfold plain2 at h;split at h<;>first
   | (cases h;done)
   | (split<;>first|exact St.pure' _|exact St.halt _|(split<;>first|exact St.pure' _|exact St.halt _)|exact xg (by simp_all)|simp_all)
theorem Md(t:TypeId)(x y:Value)(h:plain2 x y=true):St P (Op.equal t x y):=uj _ t x y h
theorem C1(op:BinOp)(t:TypeId)(x y:Value)(h:plain2 x y=true):St P (binOp op t x y):=by
 have he:=Md (P:=P) t x y h;unfold plain2 at h;split at h;case h_1=>exact Jb _ _ _ _ _ _
 case h_2=>exact Bp _ _ _ _
 all_goals first
  | (cases h;done)
  | (cases op<;>simp only[binOp]<;>first|exact St.bind he fun _=>St.pure' _|exact St.halt _)
theorem Fw(op:BinOp)(t:TypeId)(x y:Operand)(a b:Value)(h:plain2 a b=true):St P (eqGuard op t x y a b):=by
 unfold eqGuard;refine St.ite (St.pure' _) ?_;grind[plain2,St.pure']
theorem WG(ts:Array TypeId)(t:TypeId)(xs:Array Value)(h:(xs[0]?).all noBox=true):St P (Builtin.len_ ts t xs):=by
 unfold Builtin.len_;split
 .rename_i u x hu;refine St.bind (b8 _) fun d=>?_
  split<;>first
   | exact St.pure' _
   | exact St.halt _
   | (simp_all[noBox];done)
   | (refine St.bind (b8 _) fun d=>?_;split<;>first|exact St.pure' _|exact St.halt _)
 exact St.halt _
theorem WH(ts:Array TypeId)(t:TypeId)(xs:Array Value)(h:(xs[0]?).all noBox=true):St P (Builtin.cap_ ts t xs):=by
 unfold Builtin.cap_;split
 .rename_i u x hu;refine St.bind (b8 _) fun d=>?_
  split<;>first
   | exact St.pure' _
   | exact St.halt _
   | (simp_all[noBox];done)
   | (refine St.bind (b8 _) fun d=>?_;split<;>first|exact St.pure' _|exact St.halt _)
 exact St.halt _
theorem xh(f:Value→Value→Sem Value)(hf:∀x y,isInt x=true→isInt y=true→St P (f x y)∧∀w v w1,(f x y).run P w=.ok v w1→isInt v=true):
  ∀(l:List Value) (x:Value),isInt x=true→l.all isInt=true→St P (l.foldlM f x)
 | [],x,_,_=>by rw[List.foldlM_nil];exact St.pure' _
 | y::r,x,hx,hl=>by
  rw[List.foldlM_cons];simp only[List.all_cons,Bool.and_eq_true]at hl;intro w b w1 h;obtain⟨h1,h2⟩:=hf x y hx hl.1;rw[Sem.run_bind]at h;cases hr:(f x y).run P w with
  | halt z w2=>rw[hr]at h;simp at h
  | ok a w2=>
   rw[hr,Result.andThen_ok]at h;obtain⟨rfl,h3⟩:=h1 _ _ _ hr;obtain⟨rfl,h4⟩:=xh f hf r a (h2 _ _ _ hr) hl.2 _ _ _ h;refine⟨rfl,fun w'=>?_⟩;rw[Sem.run_bind,h3 w',Result.andThen_ok];grind
theorem WI(ts:Array TypeId)(t:TypeId)(xs:Array Value)(h:xs.toList.all isInt=true):St P (Builtin.min_ ts t xs):=by
 unfold Builtin.min_;split
 .exact St.halt _
 rename_i x r hx
 rw[hx]at h;simp only[List.all_cons,Bool.and_eq_true]at h;refine xh _ (fun x y hx hy=>?_) r x h.1 h.2;cases x<;>simp[isInt]at hx
 cases y<;>simp[isInt]at hy
 refine⟨St.pure' _,fun w v w1 e=>?_⟩;simp[Builtin.min2,Sem.run_pure]at e;rw[←e.1];rfl
theorem WJ(ts:Array TypeId)(t:TypeId)(xs:Array Value)(h:xs.toList.all isInt=true):St P (Builtin.max_ ts t xs):=by
 unfold Builtin.max_;split
 .exact St.halt _
 rename_i x r hx
 rw[hx]at h;simp only[List.all_cons,Bool.and_eq_true]at h;refine xh _ (fun x y hx hy=>?_) r x h.1 h.2;cases x<;>simp[isInt]at hx
 cases y<;>simp[isInt]at hy
 refine⟨St.pure' _,fun w v w1 e=>?_⟩;simp[Builtin.max2,Sem.run_pure]at e;rw[←e.1];rfl
theorem St.congr{α:Type}{s t:Sem α}(h:∀w,s.run P w=t.run P w)(ht:St P t):St P s:=by
 intro w a w1 e;rw[h]at e;exact⟨(ht _ _ _ e).1,fun w'=>by rw[h];exact (ht _ _ _ e).2 w'⟩
theorem gR{t:TypeId}{d:TypeDesc}(h:P.underlying t=some d)(w:World):(underlying t).run P w=.ok d w:=by
 simp[underlying,Go.program,Sem.run,Sem.run_bind,h]
theorem Fx(s d:TypeId)(x:Value)(h:isInt x=true)(hc:uh P s d=true):St P (convert s d x):=by
 cases x<;>simp[isInt]at h
 rename_i k n
 unfold uh at hc;split at hc
 .rename_i k1 k2 h1 h2;refine St.congr (t:=Conv.intToInt k2 n) (fun w=>?_) (St.pure' _);unfold convert;rw[Sem.run_bind,gR h1,Result.andThen_ok,Sem.run_bind,gR h2,Result.andThen_ok]
 .rename_i k1 h1 h2;refine St.congr (t:=Conv.intToString n) (fun w=>?_) (St.pure' _);unfold convert;rw[Sem.run_bind,gR h1,Result.andThen_ok,Sem.run_bind,gR h2,Result.andThen_ok]
 grind
theorem Fy(s:TypeId)(x:Value)(f:Nat)(h:rG P s f=true):St P (Instr.fieldAt s x f):=by
 unfold rG at h;cases hu:P.underlying s with
 | none=>rw[hu]at h;simp at h
 | some d=>
  rw[hu]at h;cases d<;>simp at h
  rename_i fs
  cases hf:fs[f]? with
  | none=>rw[hf]at h;simp at h
  | some fd=>
   rw[hf]at h;simp only at h;cases hi:P.info? fd.type with
   | none=>rw[hi]at h;simp at h
   | some i=>
    rw[hi]at h;simp only[bne_iff_ne,ne_eq]at h;have hs:∀w,(Go.sizeOf fd.type).run P w=.ok i.size w:=fun w=>by simp[Go.sizeOf,typeInfo,hi,Go.program,Sem.run,Sem.run_bind]
    refine St.congr (t:=do let a ←Instr.sureAddr x;pure (Value.pointer (some (←fieldPlace a fd)))) (fun w=>?_) ?_
    .unfold Instr.fieldAt;rw[Sem.run_bind,gR hu,Result.andThen_ok];grind
    refine St.bind (jk x) fun a=>St.bind ?_ fun _=>St.pure' _
    refine St.congr (t:=pure (a.add fd.offset)) (fun w=>?_) (St.pure' _);unfold fieldPlace;rw[Sem.run_bind,hs,Result.andThen_ok,if_neg h]
theorem xi(o:Oper)(a:Act)(hp:ui P o=true)(hd:dynOp o a=true):Pur P (execOp a.eval o):=by
 obtain⟨dst,op,ty,pos,after,guard⟩:=o;unfold ui at hp;unfold dynOp at hd;unfold execOp;cases op<;>simp only at hp hd ⊢ <;> first
  | (cases hp;done)
  | exact ug _
  | exact aax _ (I9 _)
  | exact kS (Ma _ _)
  | exact kS (L9 _ _ _)
  | exact kS (Fy _ _ _ hp)
  | exact kS (Fp _ _ _ _ _)
  | exact kS (Fq _ _ _)
  | exact kS (L7 _ _ _)
  | exact kS (Mb _ _)
  | exact kS (Fx _ _ _ hd hp)
  | exact kS (uf _ _)
  | exact kS (St.pure' _)
  | exact kS (Ft _ _)
  | exact kS (St.bind (Fw _ _ _ _ _ _ hd) fun _=>C1 _ _ _ _ hd)
  | skip
 case nilCheck x=>
  generalize a.eval x=v at hd⊢
  cases v with
  | pointer p=>cases p<;>first|exact z7 (Nv.runtimePanic _)|exact ug _
  | func f g h=>simp at hd
  | _=>first|exact z7 (Nv.runtimePanic _)|exact ug _
 case call c=>
  obtain⟨callee,xs,ts⟩:=c;cases callee with
  | value f=>simp at hp
  | invoke r m=>simp at hp
  | builtin b=>
   show Pur P (builtin b ts ty _ _);cases b<;>simp only at hp hd<;>first
    | (cases hp;done)
    | (refine kS (WG _ _ _ ?_);simp only[Array.getElem?_map];cases hx:xs[0]?<;>simp_all)
    | (refine kS (WH _ _ _ ?_);simp only[Array.getElem?_map];cases hx:xs[0]?<;>simp_all)
    | (refine kS (WI _ _ _ ?_);simpa [List.all_map,Function.comp_def]using hd)
    | (refine kS (WJ _ _ _ ?_);simpa [List.all_map,Function.comp_def]using hd)
end
end Go.Ser
end
section
namespace Go.Ser
section
variable{P:Program}
/-! ### A load -/
theorem Fz(w:World)(o:Obj)(at_:Addr)(u:TypeId)(k:Addr)(C2:Bool){r:_}(h:w.seen P at_ u k C2=.ok r):(w.alloc o).seen P at_ u k C2=.ok r:=by
 unfold World.seen at h⊢;have hb:∀(b:Nat) (ob:Obj),w.heap[b]?=some ob→(w.alloc o).heap[b]?=some ob:=fun b ob hb=>by
  show (w.heap.push o)[b]?=_;rw[Array.getElem?_push,if_neg (by have:=(Array.getElem?_eq_some_iff.1 hb).1;omega)];exact hb
 cases hx:w.heap[at_.block]? with
 | none=>simp only[hx]at h;exfalso;revert h;simp only[bind,Except.bind,pure,Except.pure,throw,throwThe,MonadExceptOf.throw];(repeat' split)<;>simp
 | some ob=>rw[hb _ _ hx];rw[hx]at h;exact h
def FA(P:Program){α:Type}(s:Sem α):Prop:=∀w a w1,s.run P w=.ok a w1→w1=w∧∀o,s.run P (w.alloc o)=.ok a (w.alloc o)
theorem St.rd{α:Type}{s:Sem α}(h:St P s):FA P s:=fun w a w1 e=>⟨(h _ _ _ e).1,fun o=>(h _ _ _ e).2 _⟩
theorem FA.bind{α β:Type}{s:Sem α}{f:α→Sem β}(hs:FA P s)(hf:∀a,FA P (f a)):FA P (s >>= f):=by
 intro w b w1 h;rw[Sem.run_bind]at h;cases hr:s.run P w with
 | halt x w2=>rw[hr]at h;simp at h
 | ok a w2=>
  rw[hr]at h;simp only[Result.andThen_ok]at h;obtain⟨rfl,h1⟩:=hs _ _ _ hr;obtain⟨rfl,h2⟩:=hf a _ _ _ h;refine⟨rfl,fun o=>?_⟩;rw[Sem.run_bind,h1 o,Result.andThen_ok];exact h2 o
theorem Hw(p:Addr)(m:Mode):FA P (load p m):=by
 intro w v w1 h;simp only[load,Sem.run]at h⊢;have hb:∀(b:Nat) (ob:Obj),w.heap[b]?=some ob→∀o,(w.alloc o).heap[b]?=some ob:=fun b ob hb o=>by
  show (w.heap.push o)[b]?=_;rw[Array.getElem?_push,if_neg (by have:=(Array.getElem?_eq_some_iff.1 hb).1;omega)];exact hb
 cases hx:w.heap[p.block]? with
 | none=>
  simp only[World.cell?,hx,World.farLoad,World.noCell]at h;simp at h
 | some ob=>
  have hc:∀o,(w.alloc o).cell? p=w.cell? p:=fun o=>by simp only[World.cell?,hb _ _ hx o,hx]
  cases ri:w.cell? p with
  | some v'=>
   rw[ri]at h;simp only[Sem.run,Result.ok.injEq]at h;obtain⟨rfl,rfl⟩:=h;exact⟨rfl,fun o=>by rw[hc,ri]⟩
  | none=>
   rw[ri]at h;simp only at h;cases hf:w.farLoad P p (m == .atomic) with
   | error e=>rw[hf]at h;simp at h
   | ok q=>
    rw[hf]at h;obtain⟨v',t⟩:=q;simp only[Sem.run,Result.ok.injEq]at h;obtain⟨rfl,rfl⟩:=h;refine⟨rfl,fun o=>?_⟩;rw[hc,ri];have:(w.alloc o).farLoad P p (m == .atomic)=.ok (v',t):=by
     unfold World.farLoad at hf⊢;rw[hb _ _ hx o];rw[hx]at hf;cases ob with
     | view at_ u=>
      simp only at hf⊢;unfold World.viewLoad at hf⊢;cases hs:w.seen P at_ u p (m == .atomic) with
      | error e=>rw[hs]at hf;simp[bind,Except.bind]at hf
      | ok r=>rw[Fz w o _ _ _ _ hs];rw[hs]at hf;exact hf
     | _=>simp at hf
    rw[this]
theorem mP(p:Addr):∀(n i:Nat) (acc:Array Value),FA P (loadCellsFrom p i n acc)
 | 0,_,_=>(St.pure' _).rd
 | n+1,i,acc=>FA.bind (Hw _ _) fun _=>mP p n _ _
theorem FB(t:TypeId)(p:Addr):FA P (loadVar t p):=by
 unfold loadVar;refine FA.bind (CY t).rd fun b=>?_
 split
 .exact FA.bind (gW t).rd fun _=>FA.bind (mP _ _ _ _) fun _=>(St.pure' _).rd
 exact Hw _ _
theorem Hx(o:Oper)(a:Act)(hp:xf o=true):Rd P (execOp a.eval o):=by
 obtain⟨dst,op,ty,pos,after,guard⟩:=o;unfold xf at hp;cases op<;>simp only at hp<;>first|(cases hp;done)|skip
 rename_i t x
 intro w n w1 h;have key:FA P (do pure (Next.value (←Instr.loadAt t (a.eval x)))):=FA.bind (FA.bind (jk _).rd fun _=>FB _ _) fun _=>(St.pure' _).rd
 obtain⟨h1,h2⟩:=key w n w1 h;refine⟨h1,?_,h2⟩;change (do pure (Next.value (←Instr.loadAt t (a.eval x)))).run P w=.ok n w1 at h;rw[Sem.run_bind]at h;cases hr:(Instr.loadAt t (a.eval x)).run P w with
 | halt x w2=>rw[hr]at h;simp at h
 | ok v w2=>rw[hr]at h;simp[Sem.run_pure]at h;exact⟨v,h.1.symm⟩
/-! ### An allocation -/
def oY(P:Program){α:Type}(s:Sem α):Prop:=∀w a w1,s.run P w=.ok a w1→∃o,w1=w.alloc o
theorem oY.after{α β:Type}{s:Sem α}{f:α→Sem β}(hs:St P s)(hf:∀a,oY P (f a)):oY P (s >>= f):=by
 intro w b w1 h;rw[Sem.run_bind]at h;cases hr:s.run P w with
 | halt x w2=>rw[hr]at h;simp at h
 | ok a w2=>rw[hr,Result.andThen_ok]at h;obtain⟨rfl,_⟩:=hs _ _ _ hr;exact hf a _ _ _ h
theorem oY.ahead{α β:Type}{s:Sem α}{f:α→Sem β}(hs:oY P s)(hf:∀a,St P (f a)):oY P (s >>= f):=by
 intro w b w1 h;rw[Sem.run_bind]at h;cases hr:s.run P w with
 | halt x w2=>rw[hr]at h;simp at h
 | ok a w2=>rw[hr,Result.andThen_ok]at h;obtain⟨o,rfl⟩:=hs _ _ _ hr;obtain⟨rfl,_⟩:=hf a _ _ _ h;exact⟨o,rfl⟩
theorem oY.never{α:Type}{s:Sem α}(h:Nv P s):oY P s:=fun w a w1 e=>absurd e (h w a w1)
theorem z8(o:Obj):oY P (newObj o):=by
 intro w a w1 h;simp only[newObj,Sem.run,Result.ok.injEq]at h;exact⟨o,h.2.symm⟩
theorem uk(t:TypeId)(c:Array Value):oY P (newRow t c):=oY.ahead (z8 _) fun _=>St.pure' _
theorem Hy{s:Sem Value}(hs:oY P s):Alc P (do pure (Next.value (←s))):=by
 intro w n w1 h;have h0:=(oY.ahead hs fun v=>St.pure' (Next.value v)) w n w1 h;refine⟨?_,h0⟩;rw[Sem.run_bind]at h;cases hr:s.run P w with
 | halt x w2=>rw[hr]at h;simp at h
 | ok a w2=>rw[hr]at h;simp[Sem.run_pure]at h;exact⟨a,h.1.symm⟩
theorem WK(t:TypeId)(c:Array Value)(f:Addr→Value):oY P (newRow t c >>= fun a=>pure (f a)):=oY.ahead (uk _ _) fun _=>St.pure' _
theorem zq (t : TypeId) (n : Nat) (ps : Array (Nat × Value)) : oY P (Instr.buildSlice t n ps) := by
  unfold Instr.buildSlice
  refine oY.after (b8 _) fun d => ?_
  split
  · refine oY.after (gW _) fun n => ?_
    dsimp only
    have tail : ∀ (zero : Array Value) (e : TypeId) (m : Nat), oY P (match Instr.fill (fun i => some (i * n, n)) (Array.map (fun x => zero[x % zero.size]!) (Array.range (m * n))) ps.toList with
          | some cells => do
            let __do_lift ← newRow e cells
            pure (Value.slice (some __do_lift) m m)
          | x => stuck "buildSlice: a part of the wrong size") := fun zero e m => by
      split
      · exact WK _ _ _
      · exact oY.never (Nv.halt _)
    have rest : ∀ (e : TypeId) (m : Nat), oY P (if m * n = 0 then do
        let zero ← pure #[]
        match Instr.fill (fun i => some (i * n, n)) (Array.map (fun x => zero[x % zero.size]!) (Array.range (m * n))) ps.toList with
          | some cells => do
            let __do_lift ← newRow e cells
            pure (Value.slice (some __do_lift) m m)
          | x => stuck "buildSlice: a part of the wrong size"
      else do
        let __do_lift ← zeroValue e
        let zero ← pure __do_lift.cells
        match Instr.fill (fun i => some (i * n, n)) (Array.map (fun x => zero[x % zero.size]!) (Array.range (m * n))) ps.toList with
          | some cells => do
            let __do_lift ← newRow e cells
            pure (Value.slice (some __do_lift) m m)
          | x => stuck "buildSlice: a part of the wrong size") := fun e m => by
      split
      · exact oY.after (St.pure' _) fun z => tail z e m
      · exact oY.after (nD _) fun z => oY.after (St.pure' _) fun z => tail z e m
    split
    · exact oY.after (St.halt _) fun _ => rest _ _
    · exact rest _ _
  · exact oY.never (Nv.halt _)
theorem FC(t:TypeId)(r:Option Value):oY P (Instr.makeMap t r):=by
 unfold Instr.makeMap;have fin:oY P (newObj (.map #[] 0) >>= fun a=>pure (Value.map (some a))):=oY.ahead (z8 _) fun _=>St.pure' _
 cases r with
 | none=>exact fin
 | some h=>
  refine oY.after (b8 _) fun d=>?_
  split
  .exact oY.after (L3 _) fun _=>fin
  exact oY.never (Nv.halt _)
theorem Me(o:Oper)(a:Act)(hp:sB o=true):Alc P (execOp a.eval o):=by
 obtain⟨dst,op,ty,pos,after,guard⟩:=o;unfold sB at hp;cases op<;>simp only at hp<;>first|(cases hp;done)|skip
 .exact Hy (oY.after (nD _) fun _=>oY.ahead (uk _ _) fun _=>St.pure' _)
 .exact Hy (oY.ahead (uk _ _) fun _=>St.pure' _)
 .exact Hy (zq _ _ _)
 exact Hy (FC _ _)
end
end Go.Ser
end
section
namespace Go.Ser
section
variable{P:Program}{ops:Array Oper}{Q:Exit→Act→World→Prop}{i:Nat}{o:Oper}{a:Act}{w:World}{K:Act→World→Prop}
structure Calm(Q:Exit→Act→World→Prop):Prop where
 panic:∀c a w,¬Q (.panic c) a w
 out:∀a w,¬Q .outgrown a w
theorem Calm.lets(h:Calm Q):¬LetsOut Q:=fun ⟨a,w,hq⟩=>h.out a w hq
def oZ(P:Program)(ops:Array Oper)(o:Oper)(a:Act)(w:World)(v:Value)(w':World):Prop:=
 (Region.wanted o (yielded ops a.tmps)=true∧(execOp a.eval o).run P w=.ok (.value v) w')∨(Region.wanted o (yielded ops a.tmps)=false∧v=undef∧w'=w)
theorem wx{v:Value}{w':World}(hi:ops[i]?=some o)(h:oZ P ops o a w v w')(hk:K (a.put o.dst v) w'):wpOp P ops Q i K a w:=by
 unfold wpOp;simp only[hi];rcases h with ⟨hw,hr⟩|⟨hw,rfl,rfl⟩
 .rw [if_pos hw];exact .inl (by unfold Oper.wp;rw[hr];exact hk)
 grind
theorem wy(hc:Calm Q)(hi:ops[i]?=some o)(hv:Region.wanted o (yielded ops a.tmps)=true→∀w n w1,(execOp a.eval o).run P w=.ok n w1→∃v,n=.value v)
  (h:wpOp P ops Q i K a w):∃v w',oZ P ops o a w v w'∧K (a.put o.dst v) w':=by
 unfold wpOp at h;simp only[hi]at h;split at h
 .rename_i hw;rcases h with h|⟨_,h⟩
  .unfold Oper.wp at h;cases hr:(execOp a.eval o).run P w with
   | ok n w'=>
    obtain⟨v,rfl⟩:=hv hw _ _ _ hr;rw[hr]at h;exact⟨v,w',.inl ⟨hw,hr⟩,h⟩
   | halt x w'=>
    rw[hr]at h;cases x<;>simp only[Oper.upon]at h
    exact absurd h (hc.panic _ _ _)
  exact absurd h hc.lets
 .rename_i hw;exact⟨undef,w,.inr ⟨by simpa using hw,rfl,rfl⟩,h⟩
def Cl(P:Program)(ops:Array Oper)(c:Nat)(o:Oper)(a:Act):Prop:=
 match c with
 | 0=>ui P o=true∧(Region.wanted o (yielded ops a.tmps)=true→dynOp o a=true)
 | 1=>xf o=true
 | 2=>sB o=true
 | _=>True
theorem Cl.value{c:Nat}(hc:c≤2)(h:Cl P ops c o a):Region.wanted o (yielded ops a.tmps)=true→∀w n w1,(execOp a.eval o).run P w=.ok n w1→∃v,n=.value v:=by
 intro hw w n w1 hr;match c,hc,h with
 | 0,_,h=>exact (xi o a h.1 (h.2 hw) w n w1 hr).2.1
 | 1,_,h=>exact (Hx o a h w n w1 hr).2.1
 | 2,_,h=>exact (Me o a h w n w1 hr).1
def Out(o:Oper)(a a':Act):Prop:=∃u df,a'=({ a with defers:=df }:Act).put o.dst u
theorem Act.eval_defers(a:Act)(df:List Deferred):({ a with defers:=df }:Act).eval=a.eval:=by funext x;cases x<;>rfl
theorem Out.same{x y:Oper}{a':Act}(h:Out y a a')(hs:∀cs b,x.op≠.select cs b)(hl:∀t,y.dst=some t→t∉x.looksAt ops):
  execOp a'.eval x=execOp a.eval x∧Region.wanted x (yielded ops a'.tmps)=Region.wanted x (yielded ops a.tmps):=by
 obtain⟨u,df,rfl⟩:=h;refine⟨?_,?_⟩
 .rw [execOp_put x hs _ y.dst u hl,Act.eval_defers]
 .rw [wanted_put x _ y.dst u hl]
theorem Out.eval{x y:Oper}{a':Act}(h:Out y a a')(hl:∀t,y.dst=some t→t∉x.looksAt ops):∀e∈x.op.operands,a'.eval e=a.eval e:=by
 obtain⟨u,df,rfl⟩:=h;intro e he;rw[Act.eval_put fun d hd hx=>hl d hd (by subst hx;exact List.mem_append_left _ (List.mem_filterMap.2 ⟨.tmp d,by simpa using he,rfl⟩)),Act.eval_defers]
theorem vl {a' : Act} (h : ∀ e ∈ o.op.operands, a'.eval e = a.eval e) : dynOp o a' = dynOp o a := by
  obtain ⟨dst, op, ty, pos, after, guard⟩ := o
  unfold dynOp
  cases op <;> simp only [Op.operands] at h ⊢
  case binOp op t x y u => rw [h x (by simp), h y (by simp)]
  case convert s d x => rw [h x (by simp)]
  case nilCheck x => rw [h x (by simp)]
  case call c =>
    obtain ⟨callee, xs, ts⟩ := c
    cases callee with
    | value f => rfl
    | invoke r m => rfl
    | builtin b =>
      simp only [Call.operands] at h
      cases b <;> simp only <;> first
        | rfl
        | (cases hx : xs[0]? with
           | none => rfl
           | some x => simp only; rw [h x (by simp; exact Array.mem_of_getElem? hx)])
        | (rw [Bool.eq_iff_iff, List.all_eq_true, List.all_eq_true]
           constructor <;> intro g x hx <;> have := g x hx <;> have e := h x (by simpa using hx) <;> simp_all)
theorem Cl.out{c:Nat}{x y:Oper}{a':Act}(h:Out y a a')(hs:∀cs b,x.op≠.select cs b)(hl:∀t,y.dst=some t→t∉x.looksAt ops):Cl P ops c x a'↔Cl P ops c x a:=by
 unfold Cl;split
 .rw [(h.same hs hl).2,vl (h.eval hl)]
 all_goals exact Iff.rfl
theorem oZ.out{x y:Oper}{a':Act}{v:Value}{w':World}(h:Out y a a')(hs:∀cs b,x.op≠.select cs b)(hl:∀t,y.dst=some t→t∉x.looksAt ops):oZ P ops x a' w v w'↔oZ P ops x a w v w':=by
 unfold oZ;rw[(h.same hs hl).1,(h.same hs hl).2]
theorem Out.put(o:Oper)(a:Act)(u:Value):Out o a (a.put o.dst u):=⟨u,a.defers,rfl⟩
theorem xj(hc:Calm Q)(hi:ops[i]?=some o)(h:wpOp P ops Q i K a w):wpOp P ops Q i (fun a' w'=>Out o a a'∧K a' w') a w:=by
 unfold wpOp at*;simp only[hi]at*;split
 .rename_i hw;simp only[hw,if_true]at h;rcases h with h|⟨_,hl⟩
  case inr=>exact absurd hl hc.lets
  refine .inl ?_;unfold Oper.wp at*;generalize (execOp a.eval o).run P w=r at*;cases r with
  | ok n w'=>
   cases n<;>simp only[Oper.upon]at h⊢
   case value u=>exact⟨Out.put _ _ _,h⟩
   case skip=>exact⟨Out.put _ _ _,h⟩
   case defer d=>exact⟨⟨undef,d::a.defers,rfl⟩,h⟩
   case enter f args=>
    refine Calls.mono h fun e w'' he=>?_
    cases e with
    | returned u=>exact⟨Out.put _ _ _,he⟩
    | panicked c=>exact he
    | outgrown=>exact he
   grind[Rows.mono,Out.put]
  | halt x w'=>cases x<;>simp only[Oper.upon]at h ⊢;exact h
 grind[Out.put]
theorem Hz(hc:Calm Q)(hi:ops[i]?=some o)(h:wpOp P ops Q i K a w):∃a' w',K a' w':=by
 unfold wpOp at h;simp only[hi]at h;split at h
 .rcases h with h|⟨_,hl⟩
  case inr=>exact absurd hl hc.lets
  unfold Oper.wp at h;generalize (execOp a.eval o).run P w=r at*;cases r with
  | ok n w'=>
   cases n<;>simp only[Oper.upon]at h
   case value u=>exact⟨_,_,h⟩
   case skip=>exact⟨_,_,h⟩
   case defer d=>exact⟨_,_,h⟩
   case enter f args=>
    obtain⟨e,w'',fr,hR,_⟩:=h [];cases e with
    | returned u=>exact⟨_,_,hR⟩
    | panicked c=>exact absurd hR (hc.panic _ _ _)
    | outgrown=>exact absurd hR hc.lets
   case row row args=>
    obtain⟨u,w'',hR,_⟩:=h default [];grind
  | halt x w'=>cases x<;>simp only[Oper.upon]at h;exact absurd h (hc.panic _ _ _)
 grind
theorem sD(hc:Calm Q)(hi:ops[i]?=some o)(hs:∀cs b,o.op≠.select cs b){d:Option Tmp}{v:Value}(hl:∀t,d=some t→t∉o.looksAt ops)(hd:∀t,d=some t→o.dst≠some t):
  wpOp P ops Q i K (a.put d v) w↔wpOp P ops Q i (fun a' w'=>K (a'.put d v) w') a w:=by
 unfold wpOp;simp only[hi];rw[wanted_put o a d v hl];have Ht:∀(b:Act) (u:Value),(b.put d v).put o.dst u=(b.put o.dst u).put d v:=fun b u=>Act.put_comm b v u hd
 split
 .unfold Oper.asks Oper.wp;rw[execOp_put o hs a d v hl];have LA:∀(A B:Prop),(A∨(B∧LetsOut Q))↔A:=fun A B=>⟨fun h=>h.resolve_right fun h=>hc.lets h.2,.inl⟩
  rw[LA,LA];generalize (execOp a.eval o).run P w=r;cases r with
  | ok n w'=>
   cases n<;>simp only[Oper.upon]
   case value u=>rw[Ht]
   case skip=>rw[Ht]
   case defer e=>rw[Act.put_defers,Ht]
   case enter f args=>
    constructor<;>intro h<;>refine Calls.mono h fun e w'' he=>?_<;>cases e with
    | returned u=>simp only at he ⊢;first|(rw[Ht]at he;exact he)|(rw[Ht];exact he)
    | panicked c=>exact absurd he (hc.panic _ _ _)
    | outgrown=>exact he
   grind
  | halt x w'=>
   cases x<;>simp only[Oper.upon]
   exact⟨fun h=>absurd h (hc.panic _ _ _),fun h=>absurd h (hc.panic _ _ _)⟩
 grind
def rH(cx ci:Nat):Bool:=cx == 0||ci == 0||(cx == 1&&ci == 1)||(cx == 1&&ci == 2)
theorem Jc{x y:Oper}{cx cy:Nat}(hcx:cx≤2)(RE:cy≤2)(HB:rH cx cy=true)(hX:Cl P ops cx x a)(hY:Cl P ops cy y a){v u:Value}{w1 w2:World}
  (h1:oZ P ops x a w v w1) (h2:oZ P ops y a w1 u w2):∃w1',oZ P ops y a w u w1'∧oZ P ops x a w1' v w2:=by
 rcases h1 with ⟨Vi,hrx⟩|⟨Vi,rfl,rfl⟩
 case inr=>exact⟨w2,h2,.inr ⟨Vi,rfl,rfl⟩⟩
 rcases h2 with ⟨WL,hry⟩|⟨WL,rfl,rfl⟩
 case inr=>exact⟨w,.inr ⟨WL,rfl,rfl⟩,.inl ⟨Vi,hrx⟩⟩
 by_cases e0:cx=0
 .subst e0;obtain⟨rfl,_,h3⟩:=xi x a hX.1 (hX.2 Vi) _ _ _ hrx;exact⟨w2,.inl ⟨WL,hry⟩,.inl ⟨Vi,h3 _⟩⟩
 by_cases e1:cy=0
 .subst e1;obtain⟨rfl,_,h3⟩:=xi y a hY.1 (hY.2 WL) _ _ _ hry;exact⟨w,.inl ⟨WL,h3 _⟩,.inl ⟨Vi,hrx⟩⟩
 have e2:cx=1∧(cy=1∨cy=2):=by unfold rH at HB;simp only[Bool.or_eq_true,Bool.and_eq_true,beq_iff_eq]at HB;omega
 obtain⟨rfl,rfl|rfl⟩:=e2
 .obtain ⟨rfl,_,_⟩:=Hx x a hX _ _ _ hrx;obtain⟨rfl,_,_⟩:=Hx y a hY _ _ _ hry;exact⟨_,.inl ⟨WL,hry⟩,.inl ⟨Vi,hrx⟩⟩
 .obtain ⟨rfl,_,h3⟩:=Hx x a hX _ _ _ hrx;obtain⟨_,ob,rfl⟩:=Me y a hY _ _ _ hry;exact⟨_,.inl ⟨WL,hry⟩,.inl ⟨Vi,h3 ob⟩⟩
def W(P:Program)(ops:Array Oper)(Q:Exit→Act→World→Prop)(cl:Nat→Nat):List Nat→Act→World→Prop
 | [],a,w=>Q .normal a w
 | i::r,a,w=>(∀o,ops[i]?=some o→Cl P ops (cl i) o a)∧wpOp P ops Q i (W P ops Q cl r) a w
theorem W.congr{cl:Nat→Nat}{r r':List Nat}(h:∀a w,W P ops Q cl r a w→W P ops Q cl r' a w)(hw:W P ops Q cl (i::r) a w):W P ops Q cl (i::r') a w:=
 ⟨hw.1,wpOp_mono h hw.2⟩
theorem W.swap(hc:Calm Q){cl:Nat→Nat}{x y:Nat}{ox oy:Oper}{r:List Nat}(hx:ops[x]?=some ox)(hy:ops[y]?=some oy)(RF:∀cs b,ox.op≠.select cs b)(LB:∀cs b,oy.op≠.select cs b)
  (hap:ox.apart ops oy=true) (HB:rH (cl x) (cl y)=true) (h:W P ops Q cl (x::y::r) a w):W P ops Q cl (y::x::r) a w:=by
 obtain⟨l1,l2,l3⟩:=Oper.apart_spec hap;have l2':∀t,oy.dst=some t→ox.dst≠some t:=fun t h1 h2=>l2 t h2 h1
 obtain⟨hX,h⟩:=h;have hX:=hX ox hx;by_cases hcx:cl x≤2
 .obtain ⟨v,w1,d1,hY,h⟩:=wy hc hx (hX.value hcx) h;have hY:=(Cl.out (Out.put ox a v) LB l1).1 (hY oy hy);by_cases RE:cl y≤2
  .obtain ⟨u,w2,d2,h⟩:=wy hc hy (Cl.value RE ((Cl.out (Out.put ox a v) LB l1).2 hY)) h;have d2:=(oZ.out (Out.put ox a v) LB l1).1 d2;obtain⟨w1',e1,e2⟩:=Jc hcx RE HB hX hY d1 d2;refine⟨fun o ho=>?_,wx hy e1 ⟨fun o ho=>?_,wx hx ((oZ.out (Out.put oy a u) RF l3).2 e2) ?_⟩⟩
   .rw [hy]at ho;cases ho;exact hY
   .rw [hx]at ho;cases ho;exact (Cl.out (Out.put oy a u) RF l3).2 hX
   rw[←Act.put_comm a v u l2];exact h
  have h0:cl x=0:=by unfold rH at HB;simp only[Bool.or_eq_true,Bool.and_eq_true,beq_iff_eq]at HB;omega
  rw[h0]at hX;have e1:=(sD hc hy LB l1 l2).1 h;have e2:=xj hc hy e1;have hw1:w1=w∧∀w',oZ P ops ox a w' v w':=by
   rcases d1 with ⟨hw,hr⟩|⟨hw,rfl,rfl⟩
   .obtain ⟨rfl,_,h3⟩:=xi ox a hX.1 (hX.2 hw) _ _ _ hr;exact⟨rfl,fun w'=>.inl ⟨hw,h3 w'⟩⟩
   exact⟨rfl,fun w'=>.inr ⟨hw,rfl,rfl⟩⟩
  obtain⟨rfl,oL⟩:=hw1;refine⟨fun o ho=>by rw[hy]at ho;cases ho;exact hY,wpOp_mono (fun a' w' hh=>⟨fun o ho=>?_,wx hx ((oZ.out hh.1 RF l3).2 (oL w')) hh.2⟩) e2⟩;rw[hx]at ho;cases ho;rw[h0];exact (Cl.out hh.1 RF l3).2 hX
 .have h0:cl y=0:=by unfold rH at HB;simp only[Bool.or_eq_true,Bool.and_eq_true,beq_iff_eq]at HB;omega
  have e2:=xj hc hx h;obtain⟨a1,w1,o1,hY1,h1⟩:=Hz hc hx e2;have hY:=(Cl.out o1 LB l1).1 (hY1 oy hy);obtain⟨v,w1',d1,_⟩:=wy hc hy (Cl.value (by omega) (hY1 oy hy)) h1;have d1:=(oZ.out o1 LB l1).1 d1;rw[h0]at hY;have oL:∀w',oZ P ops oy a w' v w':=by
   rcases d1 with ⟨hw,hr⟩|⟨hw,rfl,rfl⟩
   .obtain ⟨_,_,h3⟩:=xi oy a hY.1 (hY.2 hw) _ _ _ hr;exact fun w'=>.inl ⟨hw,h3 w'⟩
   exact fun w'=>.inr ⟨hw,rfl,rfl⟩
  refine⟨fun o ho=>by rw[hy]at ho;cases ho;rw[h0];exact hY,wx hy (oL w) ⟨fun o ho=>?_,?_⟩⟩
  .unfold Cl;split<;>first|omega|trivial
  refine (sD hc hx RF l3 l2').2 (wpOp_mono (fun a' w' hh=>?_) e2);obtain⟨o2,hY2,h2⟩:=hh;obtain⟨v',w3,d2,h3⟩:=wy hc hy (Cl.value (by omega) (hY2 oy hy)) h2;have d2:=(oZ.out o2 LB l1).1 d2;have hv:v'=v∧w3=w':=by
   rcases oL w' with ⟨hw,hr⟩|⟨hw,rfl,_⟩
   .rcases d2 with ⟨_,hr'⟩|⟨xk,_⟩
    .rw [hr]at hr';simp only[Result.ok.injEq,Next.value.injEq]at hr';exact⟨hr'.1.symm,hr'.2.symm⟩
    rw[hw]at xk;cases xk
   rcases d2 with ⟨xk,_⟩|⟨_,rfl,rfl⟩
   .rw [hw]at xk;cases xk
   exact⟨rfl,rfl⟩
  obtain⟨rfl,rfl⟩:=hv;exact h3
end
end Go.Ser
end
section
namespace Go.Ser
section
variable{P:Program}{ops:Array Oper}{Q:Exit→Act→World→Prop}{i:Nat}{o:Oper}{a:Act}{w:World}{K:Act→World→Prop}
/-! ### From the order of the text to every order -/
structure Cert(ops:Array Oper)(M:Nat→Nat)(ok:Nat→Nat→Prop):Prop where
 down:∀i o,ops[i]?=some o→∀e∈o.after,Region.binds .any e=true→e.on<i
 anc:∀i o,ops[i]?=some o→∀x,x<i→(M i).testBit x=true→∃e∈o.after,Region.binds .any e=true∧(e.on=x∨(x<e.on∧(M e.on).testBit x=true))
 pair:∀i,i<ops.size→∀x,x<i→(M i).testBit x=true∨ok x i
theorem W.front{cl:Nat→Nat}{ok:Nat→Nat→Prop}(HD:∀x i r a w,ok x i→W P ops Q cl (x::i::r) a w→W P ops Q cl (i::x::r) a w){i:Nat}{r:List Nat}:
  ∀(p:List Nat) (a:Act) (w:World),(∀x∈p,ok x i)→W P ops Q cl (p++i::r) a w→W P ops Q cl (i::(p++r)) a w
 | [],_,_,_,h=>h
 | x::p,a,w,hp,h=>by
  refine HD x i (p++r) a w (hp x (by simp)) ?_;exact W.congr (fun a w h=>W.front HD p a w (fun y hy=>hp y (by simp[hy])) h) h
theorem Mf{cl:Nat→Nat}{M:Nat→Nat}{ok:Nat→Nat→Prop}(C:Cert ops M ok)
  (HD:∀x i r a w,ok x i→W P ops Q cl (x::i::r) a w→W P ops Q cl (i::x::r) a w):
  ∀(n:Nat) (l:List Nat) (aG:Array Bool) (a:Act) (w:World),l.length=n→aG.size=ops.size→
   (∀j,j∈l↔aG[j]?=some false)→l.Pairwise (· < ·)→
   (∀k x:Nat,aG[k]?=some true→x<k→(M k).testBit x=true→aG[x]?=some true)→
   W P ops Q cl l a w→wpAny P .any ops Q n aG a w:=by
 intro n;induction n with
 | zero=>
  intro l aG a w hl mm um _ _ hW;have:l=[]:=List.eq_nil_of_length_eq_zero hl;subst this;refine⟨?_,hW⟩;rw[List.eq_nil_iff_forall_not_mem];intro j hj;obtain⟨h0,o,ho,_⟩:=mem_ready.1 hj;have nC:j<aG.size:=by rw[mm];exact (Array.getElem?_eq_some_iff.1 ho).1
  have:=(um j).2 (by rw[Array.getD_eq_getD_getElem?,Array.getElem?_eq_getElem nC]at h0;rw[Array.getElem?_eq_getElem nC];simpa using h0);simp at this
 | succ n ih=>
  intro l aG a w hl mm um C3 HE hW;have lst:∀j,j<ops.size→(aG[j]?=some true∨aG[j]?=some false):=fun j hj=>by
   have LC:j<aG.size:=by rw[mm];exact hj
   rw[Array.getElem?_eq_getElem LC];cases aG[j]<;>simp
  refine⟨fun hr=>?_,fun i hi=>?_⟩
  .exfalso;match l,hl,um,C3 with
   | h::t,_,um,C3=>
    have hh:=(um h).1 (by simp);have nC:h<ops.size:=by rw[←mm];exact (Array.getElem?_eq_some_iff.1 hh).1
    have:h∈Region.ready .any ops aG:=by
     rw[mem_ready];refine⟨by rw[Array.getD_eq_getD_getElem?,hh];rfl,ops[h],Array.getElem?_eq_getElem nC,fun e he hb=>?_⟩;have hd:=C.down h _ (Array.getElem?_eq_getElem nC) e he hb;rcases lst e.on (by omega) with h1|h1
     .rw [Array.getD_eq_getD_getElem?,h1];rfl
     have:=(um e.on).2 h1;rcases List.mem_cons.1 this with h2|h2
     .omega
     have:=(List.pairwise_cons.1 C3).1 _ h2;omega
    rw[hr]at this;cases this
  obtain⟨h0,o,ho,aay⟩:=mem_ready.1 hi;have nC:i<ops.size:=(Array.getElem?_eq_some_iff.1 ho).1;have hun:aG[i]?=some false:=by
   rcases lst i nC with h1|h1
   .rw [Array.getD_eq_getD_getElem?,h1]at h0;simp at h0
   exact h1
  have aaz:∀e∈o.after,Region.binds .any e=true→aG[e.on]?=some true:=fun e he hb=>by
   have h1:=aay e he hb;have hd:=C.down i o ho e he hb;rcases lst e.on (by omega) with h2|h2
   .exact h2
   rw[Array.getD_eq_getD_getElem?,h2]at h1;simp at h1
  have aaA:∀x,x<i→(M i).testBit x=true→aG[x]?=some true:=fun x hx hb=>by
   obtain⟨e,he,hbe,h1|⟨h1,h2⟩⟩:=C.anc i o ho x hx hb
   .rw [←h1];exact aaz e he hbe
   exact HE e.on x (aaz e he hbe) h1 h2
  obtain⟨p,r,hpr⟩:=List.append_of_mem ((um i).2 hun);subst hpr;have Br:=List.pairwise_append.1 C3;have hp:∀x∈p,ok x i:=fun x hx=>by
   have RG:=Br.2.2 x hx i (by simp);rcases C.pair i nC x RG with h1|h1
   .have h2:=aaA x RG h1;have h3:=(um x).1 (by simp[hx]);rw[h2]at h3;simp at h3
   exact h1
  have hW':=(W.front HD p a w hp hW).2;refine wpOp_mono (fun a' w' h'=>ih (p++r) _ a' w' (by simp at hl ⊢;omega) (by simp[mm]) (fun j=>?_) ?_ ?_ h') hW'
  .have qW:(p++i::r).Nodup:=C3.imp (fun h=>by omega);by_cases FD:j=i
   .subst FD;have:j∉p++r:=fun h=>by
     rw[List.nodup_append]at qW;rcases List.mem_append.1 h with h|h
     .exact qW.2.2 j h j (by simp) rfl
     exact (List.nodup_cons.1 qW.2.1).1 h
    simp only[this,false_iff];rw[Array.getElem?_setIfInBounds_self_of_lt (by omega)];simp
   rw[Array.getElem?_setIfInBounds_ne (fun h=>FD h.symm),←um j];simp[FD]
  .rw [List.pairwise_append];refine⟨Br.1,(List.pairwise_cons.1 Br.2.1).2,fun x hx y hy=>Br.2.2 x hx y (by simp[hy])⟩
  intro k x hk hx hb;have key:aG[x]?=some true:=by
   by_cases hki:k=i
   .subst hki;exact aaA x hx hb
   rw[Array.getElem?_setIfInBounds_ne (fun h=>hki h.symm)]at hk;exact HE k x hk hx hb
  by_cases RG:x=i
  .subst RG;rw[hun]at key;simp at key
  rw[Array.getElem?_setIfInBounds_ne (fun h=>RG h.symm)];exact key
/-! ### The check, by evaluation -/
def clsOf(P:Program)(o:Oper):Nat:=
 let Vj:Operand→Bool:=fun|.const _=>true|_=>false
 match o.op with
 | .binOp op t x y _=>
  match P.underlying t with
  | some (.int _)|some .string|some .bool=>0
  | some (.pointer _)|some (.slice _)|some (.map _ _)|some (.interface _)=>if Vj x||Vj y then 0 else 3
  | _=>3
 | _=>if ui P o then 0 else if xf o then 1 else if sB o then 2 else 3
def qe(o:Oper):Bool:=match o.op with|.select ..=>false|_=>true
def C4:List Oper→List Nat→List Nat
 | [],acc=>acc
 | o::r,acc=>C4 r (acc++[o.after.toList.foldl (fun s e=>if Region.binds .any e then s ||| 2 ^ e.on ||| acc.getD e.on 0 else s) 0])
def stays(l:List Oper)(o:Oper)(i:Nat):Bool:=
 !(isDyn o)||(o.looksAt l.toArray).all fun t=>(l.drop i).all fun o'=>o'.dst != some t
def nE(P:Program)(l:List Oper)(m cl:List Nat)(i:Nat)(o:Oper):Bool:=
 qe o&&o.after.toList.all (fun e=>!Region.binds .any e||Nat.blt e.on i)&&stays l o i&&
 (l.take i).zipIdx.all fun (ox,x)=>
  if (m.getD i 0).testBit x then o.after.toList.any fun e=>Region.binds .any e&&(e.on == x||(Nat.blt x e.on&&(m.getD e.on 0).testBit x))
  else rH (cl.getD x 3) (cl.getD i 3)&&ox.apart l.toArray o
def check(P:Program)(l:List Oper):Bool:=
 let m:=C4 l []
 let cl:=l.map (clsOf P)
 l.zipIdx.all fun (o,i)=>nE P l m cl i o
theorem xl{l:List Oper}(h:check P l=true){i:Nat}{o:Oper}(hi:l[i]?=some o):nE P l (C4 l []) (l.map (clsOf P)) i o=true:=by
 unfold check at h;rw[List.all_eq_true]at h;exact h (o,i) (by grind)
def dynAll(P:Program)(l:List Oper)(a:Act):Bool:=
 l.all fun o=>!(clsOf P o == 0)||!(isDyn o)||!(Region.wanted o (yielded l.toArray a.tmps))||dynOp o a
def DynQ(P:Program)(l:List Oper)(Q:Exit→Act→World→Prop):Exit→Act→World→Prop
 | .normal,a,w=>dynAll P l a=true∧Q .normal a w
 | _,_,_=>False
theorem DynQ.calm(l:List Oper):Calm (DynQ P l Q):=⟨fun _ _ _ h=>h,fun _ _ h=>h⟩
theorem DynQ.imp{l:List Oper}:∀(e:Exit) (a:Act) (w:World),DynQ P l Q e a w→Q e a w:=fun e a w h=>by cases e<;>first|exact h.2|exact h.elim
theorem fin{l:List Oper}(h1:dynAll P l a=true)(h2:Q .normal a w):DynQ P l Q .normal a w:=⟨h1,h2⟩
theorem Aa{l:List Oper}(hi:ops[i]?=some o)(h:wpList P ops Q (o::l) a w):wpOp P ops Q i (wpList P ops Q l) a w:=by
 unfold wpOp;simp only[hi];exact h
theorem C6(hc:Calm Q):∀(l:List Oper) (k:Nat),(∀j,l[j]?=ops[k+j]?∨l[j]?=none)→∀(a:Act) (w:World),wpList P ops Q l a w→
  ∃a' w',Q .normal a' w'∧∀t,(∀o∈l,o.dst≠some t)→a'.tmps[t]?=a.tmps[t]?
 | [],_,_,a,w,h=>⟨a,w,h,fun _ _=>rfl⟩
 | o::l,k,hk,a,w,h=>by
  have hi:ops[k]?=some o:=by
   rcases hk 0 with h0|h0
   all_goals grind
  obtain⟨a1,w1,o1,h1⟩:=Hz hc hi (xj hc hi (Aa hi h));obtain⟨a2,w2,hq,hs⟩:=C6 hc l (k+1) (fun j=>by have:=hk (j+1);simpa [Nat.add_assoc,Nat.add_comm 1 j]using this) a1 w1 h1;refine⟨a2,w2,hq,fun t ht=>?_⟩;rw[hs t fun o ho=>ht o (by simp[ho])];obtain⟨u,df,rfl⟩:=o1;have:=ht o (by simp);cases hd:o.dst with
  | none=>rfl
  | some d=>grind[Act.put]
theorem Jd{a a':Act}{e:Operand}(h:∀t,e=.tmp t→a'.tmps[t]?=a.tmps[t]?):a'.eval e=a.eval e:=by
 cases e with
 | tmp t=>simp only[Act.eval,Array.getD_eq_getD_getElem?,h t rfl]
 | _=>rfl
theorem init {l : List Oper} (hk : check P l = true) : ∀ (s : List Oper) (k : Nat), (s = l.drop k) → ∀ (a : Act) (w : World), wpList P l.toArray (DynQ P l Q) s a w →
    W P l.toArray (DynQ P l Q) (fun i => (l.map (clsOf P)).getD i 3) (List.range' k s.length) a w
  | [], _, _, a, w, h => h
  | o :: s, k, hs, a, w, h => by
    have hi : l[k]? = some o := by
      have : (l.drop k)[0]? = some o := by rw [← hs]; rfl
      grind
    have hia : l.toArray[k]? = some o := by simpa using hi
    have QY : s = l.drop (k + 1) := by
      have : (l.drop k).tail = s := by rw [← hs]; rfl
      rw [← this]; simp
    have hop := Aa hia h
    refine ⟨fun o' QZ => ?_, wpOp_mono (fun a' w' h' => init hk s (k + 1) QY a' w' h') hop⟩
    rw [hia] at QZ
    cases QZ
    have nF : (l.map (clsOf P)).getD k 3 = clsOf P o := by simp [List.getD_eq_getElem?_getD, List.getElem?_map, hi]
    show Cl P l.toArray ((l.map (clsOf P)).getD k 3) o a
    rw [nF]
    have adW : ∀ c, clsOf P o = c → c ≤ 2 → (c = 0 → ui P o = true) ∧ (c = 1 → xf o = true) ∧ (c = 2 → sB o = true) := by
      intro c hc hle
      subst hc
      unfold clsOf at *
      grind[ui]
    unfold Cl
    split
    · rename_i hc
      refine ⟨(adW 0 hc (by omega)).1 rfl, fun hw => ?_⟩
      by_cases hd : isDyn o = true
      · obtain ⟨a', w', ⟨oL, _⟩, aaB⟩ := C6 (DynQ.calm l) (o :: s) k (fun j => by rw [hs]; left; simp) a w h
        have dM : stays l o k = true := by
          have := xl hk hi
          grind[nE]
        have Vk : ∀ t ∈ o.looksAt l.toArray, a'.tmps[t]? = a.tmps[t]? := fun t ht => aaB t fun o' QZ => by grind[stays]
        have aiS : dynOp o a' = dynOp o a := vl fun e he => Jd fun t et => Vk t (by
          subst et
          exact List.mem_append_left _ (List.mem_filterMap.2 ⟨.tmp t, by simpa using he, rfl⟩))
        have ahL : Region.wanted o (yielded l.toArray a'.tmps) = Region.wanted o (yielded l.toArray a.tmps) := by
          unfold Region.wanted
          cases hg : o.guard with
          | none => rfl
          | some gw =>
            obtain ⟨g, want⟩ := gw
            have hy : yielded l.toArray a'.tmps g = yielded l.toArray a.tmps g := by
              unfold yielded
              cases ht : (l.toArray[g]?).bind (·.dst) with
              | none => rfl
              | some t =>
                have := Vk t (by simp only [Oper.looksAt, hg, ht]; simp)
                grind
            grind
        grind[dynAll]
      grind[dynOp,isDyn]
    all_goals grind
theorem RH{l:List Oper}(hk:check P l=true):Cert l.toArray (fun i=>(C4 l []).getD i 0)
  (fun x i=>∃ox oi,l[x]?=some ox∧l[i]?=some oi∧qe ox=true∧qe oi=true∧rH ((l.map (clsOf P)).getD x 3) ((l.map (clsOf P)).getD i 3)=true∧ox.apart l.toArray oi=true):=by
 have sp:∀i o,l[i]?=some o→nE P l (C4 l []) (l.map (clsOf P)) i o=true:=fun i o hi=>xl hk hi
 refine⟨fun i o hi e he hb=>?_,fun i o hi x hx adX=>?_,fun i hi x hx=>?_⟩
 .have:=sp i o (by grind);unfold nE at this;simp only[Bool.and_eq_true,List.all_eq_true]at this;have:=this.1.1.2 e (by grind);rw[hb]at this;simpa [Nat.blt_eq]using this
 .have Q0:l[i]?=some o:=by simpa using hi
  have:=sp i o Q0;unfold nE at this;simp only[Bool.and_eq_true,List.all_eq_true]at this;have nC:i<l.length:=(List.getElem?_eq_some_iff.1 Q0).1;have LD:l[x]?=some l[x]:=List.getElem?_eq_getElem (by omega);have h2:=this.2 (l[x],x) (by rw[List.mem_zipIdx_iff_getElem?];simp only[List.getElem?_take];rw[if_pos hx];exact LD);simp only[adX,if_true,List.any_eq_true,Bool.and_eq_true,Bool.or_eq_true,beq_iff_eq,Nat.blt_eq]at h2;grind
 .have nC:i<l.length:=by omega
  have Q0:l[i]?=some l[i]:=List.getElem?_eq_getElem nC;have LD:l[x]?=some l[x]:=List.getElem?_eq_getElem (by omega);have hc:=sp i l[i] Q0;have hcx:=sp x l[x] LD;unfold nE at hc hcx;simp only[Bool.and_eq_true,List.all_eq_true]at hc hcx;have h2:=hc.2 (l[x],x) (by rw[List.mem_zipIdx_iff_getElem?];simp only[List.getElem?_take];rw[if_pos hx];exact LD);grind
theorem wp_ser{id:Nat}{l:List Oper}(hm:P.follows .mixedOrders=true)(hk:check P l=true)(h:wpList P l.toArray (DynQ P l Q) l a w.drew):(Code.region id l.toArray true).wp P Q a w:=by
 refine Code.wp_mono (DynQ.imp (P:=P) (l:=l)) (wp_region_any hm ?_);have hW:=init hk l 0 (by simp) a _ h;refine Mf (RH hk) (fun x i r a w HB hw=>?_) _ (List.range' 0 l.length) _ a _ (by simp) (by simp) (fun j=>?_) ?_ ?_ hW
 .grind[W.swap,DynQ.calm,qe]
 .grind
 .exact List.pairwise_lt_range' ..
 grind
end
end Go.Ser
end
section
namespace Go.J
open Go.Hp
abbrev Env:=List (Nat×Value)
def look:Env→Nat→Value
 | [],_=>undef
 | (k,v)::r,t=>bif Nat.beq k t then v else look r t
def has:Env→Nat→Bool
 | [],_=>false
 | (k,_)::r,t=>Nat.beq k t||has r t
def ev(E:Env):Operand→Value
 | .tmp t=>look E t
 | .const v=>v
 | .global g=>.pointer (some ⟨g,0,none⟩)
 | .func f=>.func (.func f) #[] #[]
def kf(E:Env):Operand→Bool
 | .tmp t=>has E t
 | _=>true
def put(E:Env):Option Tmp→Value→Env
 | some d,v=>(d,v)::E
 | none,_=>E
def pa(n:Nat):Option Tmp→Bool
 | some d=>Nat.blt d n
 | none=>true
structure Fits(n:Nat)(a:Act)(E:Env):Prop where
 size:a.tmps.size=n
 defers:a.defers=[]
 get:∀t,has E t=true→a.tmps[t]?=some (look E t)
section
variable{n:Nat}{a:Act}{E:Env}
theorem beq_false{k t:Nat}(h:¬k=t):Nat.beq k t=false:=by
 cases hb:Nat.beq k t with
 | true=>exact absurd (Nat.eq_of_beq_eq_true hb) h
 | false=>rfl
theorem look_cons(k:Nat)(v:Value)(r:Env)(t:Nat):look ((k,v)::r) t=if k=t then v else look r t:=by
 show (bif Nat.beq k t then v else look r t)=_;by_cases h:k=t
 .subst h;simp
 grind[beq_false]
theorem has_cons(k:Nat)(v:Value)(r:Env)(t:Nat):has ((k,v)::r) t=(decide (k=t)||has r t):=by
 show (Nat.beq k t||has r t)=_;by_cases h:k=t
 .subst h;simp
 grind[beq_false]
theorem Fits.put(h:Fits n a E)(d:Option Tmp)(v:Value)(hd:pa n d=true):Fits n (a.put d v) (J.put E d v):=by
 cases d with
 | none=>exact h
 | some d=>
  have nC:d<n:=by simpa [pa,Nat.blt_eq]using hd
  refine⟨by simp[Act.put,h.size],by simp[Act.put,h.defers],fun t ht=>?_⟩;simp only[J.put]at ht⊢;rw[look_cons];rw[has_cons]at ht;simp only[Act.put];by_cases e:d=t
  .subst e;rw[if_pos rfl,Array.getElem?_setIfInBounds_self_of_lt (by rw[h.size];exact nC)]
  rw[if_neg e,Array.getElem?_setIfInBounds_ne e];exact h.get t (by grind)
theorem Fits.eval(h:Fits n a E){x:Operand}(hk:kf E x=true):a.eval x=ev E x:=by
 cases x with
 | tmp t=>simp only[Act.eval,ev,Array.getD_eq_getD_getElem?,h.get t hk,Option.getD_some]
 | _=>rfl
theorem Fits.sub(h:Fits n a E){E':Env}(hs:∀t,has E' t=true→has E t=true∧look E t=look E' t):Fits n a E':=
 ⟨h.size,h.defers,fun t ht=>by rw[h.get t (hs t ht).1,(hs t ht).2]⟩
def mq(E E':Env):Prop:=∀p∈E',has E p.1=true∧look E p.1=look E' p.1
theorem has_mem:∀{E:Env}{t:Nat},has E t=true→∃v,(t,v)∈E:= by intro E;induction E<;>grind[has,has_cons]
theorem Fits.of_sub(h:Fits n a E){E':Env}(hs:mq E E'):Fits n a E':=h.sub fun t ht=>by
 obtain⟨v,hv⟩:=has_mem ht;exact hs (t,v) hv
def RI(E:Env):Env→Prop
 | []=>True
 | (t,v)::r=>(has E t=true∧look E t=v)∧RI E r
def mQ:Env→Bool
 | []=>true
 | (t,_)::r=>!has r t&&mQ r
theorem bc{E':Env}(hd:mQ E'=true)(h:RI E E'):mq E E':=by
 have key:∀(E':Env),mQ E'=true→RI E E'→∀t,has E' t=true→has E t=true∧look E t=look E' t:=by
  intro E';induction E' with
  | nil=>intro _ _ t ht;simp[has]at ht
  | cons p r ih=>
   obtain⟨k,v⟩:=p;intro hd hs t ht;simp only[mQ,Bool.and_eq_true,Bool.not_eq_true']at hd;obtain⟨⟨h1,h2⟩,h3⟩:=hs;grind[look_cons,has_cons]
 intro p hp;refine key E' hd h p.1 ?_;have:∀(E:Env) (p:Nat×Value),p∈E→has E p.1=true:=by
  intro E;induction E with
  | nil=>intro p hp;cases hp
  | cons q r ih=>grind[has_cons]
 grind
theorem Fits.args{args:Array Value}{m:Nat}(hm:args.size≤m):Fits m { tmps:=args++Array.replicate (m-args.size) undef,defers:=[] } (args.toList.zipIdx.map fun p=>(p.2,p.1)):=by
 refine⟨by simp;omega,rfl,fun t ht=>?_⟩;obtain⟨v,hv⟩:=has_mem ht;simp only[List.mem_map,Prod.mk.injEq,Prod.exists]at hv;obtain⟨x,i,hx,rfl,rfl⟩:=hv;have LD:=List.mem_zipIdx_iff_getElem?.1 hx;simp only at LD;have ahM:∀(l:List Value) (k t:Nat) (x:Value),k≤t→l[t-k]?=some x→look ((l.zipIdx k).map fun p=>(p.2,p.1)) t=x:=by
  intro l;induction l with
  | nil=>intro k t x _ h;simp at h
  | cons y r ih=>
   intro k t x hk h;simp only[List.zipIdx_cons,List.map_cons,look_cons];by_cases e:k=t
   .subst e;simp at h;rw[if_pos rfl];exact h
   rw[if_neg e];refine ih (k+1) t x (by omega) ?_;have e2:t-k=(t-(k+1))+1:=by omega
   grind
 grind
end
structure At(w0:World)(H:bb)(w:World):Prop where
 heap:w.heap=H
 os:w.os=w0.os
 tape:w.tape=w0.tape
 output:w.output=w0.output
theorem At.self(w:World):At w w.heap w:=⟨rfl,rfl,rfl,rfl⟩
theorem At.trans{w0 w w':World}{H H':bb}(h:At w0 H w)(k:At w H' w'):At w0 H' w':=⟨k.heap,k.os.trans h.os,k.tape.trans h.tape,k.output.trans h.output⟩
theorem At.of_mem{S:Nat→Prop}{w w':World}(h:Mem.Chg S w w'):At w w'.heap w':=⟨rfl,h.os,h.tape,h.output⟩
def HC(P:Program)(f:FuncId)(args:Array Value)(H:bb)(R:Value→bb→Prop):Prop:=
 ∀w:World,w.heap=H→Calls P f args w fun e w'=>∃v,e=.returned v∧At w w'.heap w'∧R v w'.heap
theorem HC.mono{P:Program}{f:FuncId}{args:Array Value}{H:bb}{R R':Value→bb→Prop}(h:HC P f args H R)(hR:∀v H',R v H'→R' v H'):HC P f args H R':=
 fun w hw=>(h w hw).mono fun _ _ ⟨v,e,hA,hr⟩=>⟨v,e,hA,hR _ _ hr⟩
section
variable{P:Program}{w0:World}{ops:Array Oper}{Q:Exit→Act→World→Prop}{n:Nat}{E:Env}{H:bb}
def JL(P:Program)(w0:World)(ops:Array Oper)(Q:Exit→Act→World→Prop)(n:Nat)(l:List Oper)(E:Env)(H:bb):Prop:=
 ∀a w,Fits n a E→At w0 H w→wpList P ops Q l a w
def JC(P:Program)(w0:World)(c:Code)(Q:Exit→Act→World→Prop)(n:Nat)(E:Env)(H:bb):Prop:=
 ∀a w,Fits n a E→At w0 H w→c.wp P Q a w
def JX(w0:World)(x:Exit)(Q:Exit→Act→World→Prop)(n:Nat)(E:Env)(H:bb):Prop:=
 ∀a w,Fits n a E→At w0 H w→Q x a w
theorem JC.sub{c:Code}(E':Env)(hs:mq E E')(h:JC P w0 c Q n E' H):JC P w0 c Q n E H:=fun a w hf ha=>h a w (hf.of_sub hs) ha
theorem JX.sub{x:Exit}(E':Env)(hs:mq E E')(h:JX w0 x Q n E' H):JX w0 x Q n E H:=fun a w hf ha=>h a w (hf.of_sub hs) ha
/-! ### Control -/
theorem aaC{x y:Code}(h:JC P w0 x (Exit.then (y.wp P Q) Q) n E H):JC P w0 (.seq x y) Q n E H:=fun a w hf ha=>wp_seq (h a w hf ha)
theorem WM(h:JX w0 .normal Q n E H):JC P w0 .skip Q n E H:=fun a w hf ha=>wp_skip (h a w hf ha)
theorem aaD(h:JX w0 .ret Q n E H):JC P w0 .ret Q n E H:=fun a w hf ha=>wp_ret (h a w hf ha)
theorem WN{id:Nat}(h:JX w0 (.exit id) Q n E H):JC P w0 (.exit id) Q n E H:=fun a w hf ha=>wp_exit (h a w hf ha)
theorem RJ{id:Nat}{c:Code}(h:JC P w0 c (Exit.inBlock id Q) n E H):JC P w0 (.block id c) Q n E H:=fun a w hf ha=>wp_block (h a w hf ha)
theorem Mg{t:Operand}{x y:Code}(hk:kf E t=true)(hv:ev E t=.bool true)(h:JC P w0 x Q n E H):JC P w0 (.cond t x y) Q n E H:=
 fun a w hf ha=>wp_cond_true ((hf.eval hk).trans hv) (h a w hf ha)
theorem HF{t:Operand}{x y:Code}(hk:kf E t=true)(hv:ev E t=.bool false)(h:JC P w0 y Q n E H):JC P w0 (.cond t x y) Q n E H:=
 fun a w hf ha=>wp_cond_false ((hf.eval hk).trans hv) (h a w hf ha)
theorem WO{t:Operand}{x y:Code}{c:Bool}(hk:kf E t=true)(hv:ev E t=.bool c)(h1:c=true→JC P w0 x Q n E H)(h2:c=false→JC P w0 y Q n E H):JC P w0 (.cond t x y) Q n E H:=by
 cases c with
 | true=>exact Mg hk hv (h1 rfl)
 | false=>exact HF hk hv (h2 rfl)
theorem aaE{id:Nat}{l:List Oper}(h:JL P w0 l.toArray Q n l E H):JC P w0 (.region id l.toArray false) Q n E H:=
 fun a w hf ha=>wp_region_lit (h a w hf ha)
theorem WQ{id:Nat}{l:List Oper}(hm:P.follows .mixedOrders=true)(hk:Ser.check P l=true)(h:JL P w0 l.toArray (Ser.DynQ P l Q) n l E H):JC P w0 (.region id l.toArray true) Q n E H:=
 fun a w hf ha=>Ser.wp_ser hm hk (h a w.drew hf ⟨ha.heap,ha.os,ha.tape,ha.output⟩)
theorem aaF(h:JX w0 .normal Q n E H):JL P w0 ops Q n [] E H:=fun a w hf ha=>wpList_nil (h a w hf ha)
def Bt (ops : List Oper) (E : Env) (o : Oper) : Bool :=
  let plain := o.op.operands.toList.all (kf E) && (match o.op with
    | .binOp _ _ x y _ => Ser.plain2 (ev E x) (ev E y)
    | .convert _ _ x => Ser.isInt (ev E x)
    | .nilCheck x => (match ev E x with | .func _ _ _ => false | _ => true)
    | .call { callee := .builtin .len, args := xs, .. } | .call { callee := .builtin .cap, args := xs, .. } => (match xs[0]? with | some x => Ser.noBox (ev E x) | none => false)
    | .call { callee := .builtin .min, args := xs, .. } | .call { callee := .builtin .max, args := xs, .. } => xs.toList.all fun x => Ser.isInt (ev E x)
    | _ => true)
  match o.guard with
  | none => plain
  | some (g, b) => match ((ops[g]?).bind (·.dst)) with
    | some d => has E d && (match look E d with | .bool c => (c != b) || plain | .tuple _ => true | _ => false)
    | none => false
theorem aaG {l : List Oper} (hd : (l.all fun o => !(Ser.clsOf P o == 0) || !(Ser.isDyn o) || Bt l E o) = true) (h : JX w0 .normal Q n E H) : JX w0 .normal (Ser.DynQ P l Q) n E H := by
  intro a w hf ha
  refine ⟨?_, h a w hf ha⟩
  unfold Ser.dynAll
  rw [List.all_eq_true] at hd ⊢
  intro o ho
  have h1 := hd o ho
  cases hc : (Ser.clsOf P o == 0) with
  | false => rfl
  | true =>
    cases hi : Ser.isDyn o with
    | false => rfl
    | true =>
      rw [hc, hi] at h1
      simp only [Bool.not_true, Bool.false_or] at h1 ⊢
      have plain : ∀ (hk : o.op.operands.toList.all (kf E) = true), (match o.op with
          | .binOp _ _ x y _ => Ser.plain2 (ev E x) (ev E y)
          | .convert _ _ x => Ser.isInt (ev E x)
          | .nilCheck x => (match ev E x with | .func _ _ _ => false | _ => true)
          | .call { callee := .builtin .len, args := xs, .. } | .call { callee := .builtin .cap, args := xs, .. } => (match xs[0]? with | some x => Ser.noBox (ev E x) | none => false)
          | .call { callee := .builtin .min, args := xs, .. } | .call { callee := .builtin .max, args := xs, .. } => xs.toList.all fun x => Ser.isInt (ev E x)
          | _ => true) = true → Ser.dynOp o a = true := by
        intro hk hp
        have Q3 : ∀ x ∈ o.op.operands, a.eval x = ev E x := fun x hx => hf.eval (List.all_eq_true.1 hk x (by grind))
        obtain ⟨dst, op, ty, pos, after, guard⟩ := o
        unfold Ser.dynOp
        cases op <;> simp only [Op.operands] at Q3 hp ⊢
        case binOp op t x y u => rw [Q3 x (by simp), Q3 y (by simp)]; exact hp
        case convert s d x => rw [Q3 x (by simp)]; exact hp
        case nilCheck x => rw [Q3 x (by simp)]; exact hp
        case call c =>
          obtain ⟨callee, xs, ts⟩ := c
          cases callee with
          | value f => rfl
          | invoke r m => rfl
          | builtin b =>
            simp only [Call.operands] at Q3
            cases b <;> simp only at hp ⊢ <;> first
              | rfl
              | (cases hx : xs[0]? with
                 | none => rw [hx] at hp; simp at hp
                 | some x => rw [hx] at hp; simp only at hp ⊢; rw [Q3 x (by grind)]; exact hp)
              | (rw [List.all_eq_true] at hp ⊢
                 intro x hx
                 rw [Q3 x (by grind)]; exact hp x hx)
      unfold Bt at h1
      cases hg : o.guard with
      | none => grind
      | some gb =>
        obtain ⟨g, b⟩ := gb
        rw [hg] at h1
        simp only at h1
        cases hgd : (l[g]?).bind (·.dst) with
        | none => rw [hgd] at h1; simp at h1
        | some d =>
          rw [hgd] at h1
          simp only [Bool.and_eq_true] at h1
          obtain ⟨hh, h2⟩ := h1
          have hy : yielded l.toArray a.tmps g = match look E d with | .bool c => some c | _ => none := by
            unfold yielded
            simp only [List.getElem?_toArray, hgd, Option.bind_some, hf.get d hh]
            grind
          cases hl : look E d <;> rw [hl] at h2 hy <;> simp only at h2 hy <;> first | (cases h2; done) | skip
          case bool c =>
            rw [Bool.or_eq_true] at h2 ⊢
            rcases h2 with h2 | h2
            · left
              unfold Region.wanted
              grind
            grind
          case tuple xs =>
            rw [Bool.or_eq_true]
            left
            unfold Region.wanted
            grind
/-! ### Ways out -/
theorem WR{id:Nat}(h:JX w0 .normal Q n E H):JX w0 (.exit id) (Exit.inBlock id Q) n E H:=fun a w hf ha=>by
 show (if id=id then Q .normal a w else _);rw[if_pos rfl];exact h a w hf ha
theorem RL{id oM:Nat}(l7:Nat.beq id oM=false)(h:JX w0 (.exit id) Q n E H):JX w0 (.exit id) (Exit.inBlock oM Q) n E H:=fun a w hf ha=>by
 show (if id=oM then Q .normal a w else Q (.exit id) a w);rw[if_neg (fun e=>by subst e;simp at l7)];exact h a w hf ha
/-! ### The function -/
def Fin(P:Program)(fn:Func)(w0:World)(R:Value→bb→Prop):Exit→Act→World→Prop:=
 bodyPost P fn fun e w'=>∃v,e=.returned v∧At w0 w'.heap w'∧R v w'.heap
theorem enter{f:FuncId}{fn:Func}{c:Code}{args:Array Value}{R:Value→bb→Prop}(hf:P.funcs[f]?=some fn)(hb:fn.body=some c)(m:Nat)(hm:fn.ntmps=m)(hle:Nat.ble args.size m=true)(E:Env)(hE:(args.toList.zipIdx.map fun p=>(p.2,p.1))=E)
  (h:∀w0,JC P w0 c (Fin P fn w0 R) m E H):HC P f args H R:=by
 intro w hw;subst hm hE;exact calls_of_wp hf hb (h w _ w (Fits.args (Nat.le_of_ble_eq_true hle)) ⟨hw,rfl,rfl,rfl⟩)
def Res(P:Program)(w0:World)(fn:Func)(n:Nat)(E:Env)(H:bb)(v:Value):Prop:=
 ∀a w,Fits n a E→At w0 H w→(results fn a.tmps).run P w=.ok v w
theorem aaH{fn:Func}{R:Value→bb→Prop}(v:Value)(hr:Res P w0 fn n E H v)(h:R v H):JX w0 .ret (Fin P fn w0 R) n E H:=fun a w hf ha=>by
 refine⟨hf.defers,v,hr a w hf ha,v,rfl,⟨rfl,ha.os,ha.tape,ha.output⟩,?_⟩;rw[ha.heap];exact h
theorem WS{fn:Func}{R:Value→bb→Prop}(v:Value)(hr:Res P w0 fn n E H v)(h:R v H):JX w0 .normal (Fin P fn w0 R) n E H:=fun a w hf ha=>by
 refine⟨hf.defers,v,hr a w hf ha,v,rfl,⟨rfl,ha.os,ha.tape,ha.output⟩,?_⟩;rw[ha.heap];exact h
inductive Item(P:Program)(E:Env)(H:bb):ResultVar→Value→Prop
 | tmp (t:Tmp) (v:Value) (hk:has E t=true) (hv:look E t=v):Item P E H (.tmp t) v
 | cell (t:Tmp) (ty:TypeId) (v:Value) (p:Addr) (hk:has E t=true) (hv:look E t=.pointer (some p)) (hl:∀w:World,w.heap=H→(loadVar ty p).run P w=.ok v w):Item P E H (.cell t ty) v
inductive Ab(P:Program)(E:Env)(H:bb):List ResultVar→List Value→Prop
 | nil:Ab P E H [] []
 | cons {r:ResultVar}{v:Value}{rs:List ResultVar}{vs:List Value} (h:Item P E H r v) (hs:Ab P E H rs vs):Ab P E H (r::rs) (v::vs)
def wz(tmps:Array Value):ResultVar→Sem Value
 | .tmp t=>pure (tmps.getD t undef)
 | .cell p t=>do loadVar t (←asAddr (tmps.getD p undef))
theorem Je{a:Act}{w:World}(hf:Fits n a E)(hw:w.heap=H){rs:List ResultVar}{vs:List Value}(h:Ab P E H rs vs):
  (rs.mapM (wz a.tmps)).run P w=.ok vs w:=by
 induction h with
 | nil=>rfl
 | cons h hs ih=>
  rw[List.mapM_cons];cases h with
  | tmp t v hk hv=>
   have:a.tmps.getD t undef=look E t:=by rw[Array.getD_eq_getD_getElem?,hf.get t hk,Option.getD_some]
   simp only[wz,Sem.run_bind,Sem.run_pure,Result.andThen_ok,this,ih,hv]
  | cell t ty v p hk hv hl=>
   have:a.tmps.getD t undef=.pointer (some p):=by rw[Array.getD_eq_getD_getElem?,hf.get t hk,Option.getD_some,hv]
   have h2:(asAddr (a.tmps.getD t undef)).run P w=.ok p w:=by rw[this];rfl
   simp only[wz,Sem.run_bind,Sem.run_pure,Result.andThen_ok,h2,hl w hw,ih]
theorem run_map{α β:Type}(f:α→β)(x:Sem α)(w:World):(f <$> x).run P w=(x.run P w).andThen fun a w'=>.ok (f a) w':=Sem.run_bind' P x (fun a=>pure (f a)) w
def pack:List Value→Value
 | [x]=>x
 | vs=>.tuple vs.toArray
theorem Mh{fn:Func}{rs:List ResultVar}{vs:List Value}(hr:fn.results.toList=rs)(h:Ab P E H rs vs):Res P w0 fn n E H (pack vs):=by
 intro a w hf ha;have h1:=Je hf ha.heap h;have h0:results fn a.tmps=(do let vs ←fn.results.mapM (wz a.tmps);pure (if h:vs.size=1 then vs[0] else .tuple vs)):=rfl;rw[h0,Array.mapM_eq_mapM_toList,hr];simp only[Sem.run_bind,Sem.run_pure,Result.andThen_ok,run_map,h1];congr 1;match vs with
 | []=>rfl
 | [x]=>rfl
 | x::y::r=>simp[pack]
/-! ### Loops -/
theorem Mi{c:Code}{ι:Type}(I:ι→Act→World→Prop)(μ:ι→Nat){a:Act}{w:World}(i0:ι)(h₀:I i0 a w)
  (round:∀i a w,I i a w→c.wp P (Exit.then (fun a' w'=>∃i',μ i'<μ i∧I i' a' w') Q) a w):(Code.loop c).wp P Q a w:=by
 intro b k cs;have key:∀n i a w,μ i=n→I i a w→
   ∃e a' w',Q e a' w'∧Arrives P (lone (b.at a (.code c::.inLoop c::k)) cs w) b k cs e a' w':=by
  intro n;induction n using Nat.strongRecOn with
  | _ n ih=>
   intro i a w hn hI;obtain⟨e,Jf,Jg,hq,C8⟩:=round i a w hI b (.inLoop c::k) cs;cases e with
   | normal=>
    obtain⟨aaI,nC,aaJ⟩:=hq;obtain⟨adY,adZ,ad0,aaK,RM⟩:=ih (μ aaI) (hn▸nC) aaI Jf Jg rfl aaJ;exact⟨adY,adZ,ad0,aaK,.of_steps (Steps.trans C8 (.one step_inLoop)) RM⟩
   | exit id=>exact⟨_,Jf,Jg,hq,.pass (x:=.inLoop c) rfl (fun _ _=>.inl (by simp)) C8⟩
   | goto l=>exact⟨_,Jf,Jg,hq,.pass (x:=.inLoop c) rfl (fun _ _=>.inl (by simp)) C8⟩
   | ret=>exact⟨_,Jf,Jg,hq,.pass (x:=.inLoop c) rfl (fun _ _=>.inl (by simp)) C8⟩
   | panic ch=>exact⟨_,Jf,Jg,hq,.pass (x:=.inLoop c) rfl (fun _ _=>.inl (by simp)) C8⟩
   | outgrown=>exact⟨_,Jf,Jg,hq,.pass (x:=.inLoop c) rfl (fun _ _=>.inl (by simp)) C8⟩
 obtain⟨e,a',w',hq,C8⟩:=key _ i0 a w rfl h₀;exact⟨e,a',w',hq,.of_steps (.one step_loop) C8⟩
def vn(w0:World)(n:Nat){ι:Type}(Ei:ι→Env)(Hi:ι→bb→Prop)(μ:ι→Nat)(i:ι):Act→World→Prop:=
 fun a w=>∃i' H',μ i'<μ i∧Fits n a (Ei i')∧At w0 H' w∧Hi i' H'
theorem WT{c:Code}{ι:Type}(Ei:ι→Env)(Hi:ι→bb→Prop)(μ:ι→Nat)(i0:ι)(hE:mq E (Ei i0))(h0:Hi i0 H)
  (round:∀i H,Hi i H→JC P w0 c (Exit.then (vn w0 n Ei Hi μ i) Q) n (Ei i) H):JC P w0 (.loop c) Q n E H:=fun a w hf ha=>by
 refine Mi (fun i a w=>∃H,Fits n a (Ei i)∧At w0 H w∧Hi i H) μ i0 ⟨H,hf.of_sub hE,ha,h0⟩ ?_;rintro i a w ⟨H',hf',ha',hi⟩;refine Code.wp_mono (fun e a w q=>?_) (round i H' hi a w hf' ha');cases e<;>first|exact q|skip
 obtain⟨i',H'',h1,h2,h3,h4⟩:=q;exact⟨i',h1,H'',h2,h3,h4⟩
theorem RO{ι:Type}{Ei:ι→Env}{Hi:ι→bb→Prop}{μ:ι→Nat}{i:ι}(i':ι)(hμ:μ i'<μ i)(hE:mq E (Ei i'))(h:Hi i' H):JX w0 .normal (Exit.then (vn w0 n Ei Hi μ i) Q) n E H:=
 fun a w hf ha=>⟨i',H,hμ,hf.of_sub hE,ha,h⟩
end
end Go.J
end
section
namespace Go.J
open Go.Hp
open Go.Mem (Ty fS blk elemAt addr_add gJ pre suf bN dO eB db hZ cm spliceAt)
section
variable{P:Program}{w0:World}{ops:Array Oper}{Q:Exit→Act→World→Prop}{n:Nat}{E:Env}{H:bb}{o:Oper}{rest:List Oper}
def want(ops:Array Oper)(E:Env)(o:Oper):Bool:=
 match o.guard with
 | none=>true
 | some (g,b)=>match (ops[g]?).bind (·.dst) with
  | some d=>has E d&&(match look E d with|.bool c=>c == b|_=>false)
  | none=>false
def nG(ops:Array Oper)(E:Env)(o:Oper):Bool:=
 match o.guard with
 | none=>false
 | some (g,b)=>match (ops[g]?).bind (·.dst) with
  | some d=>has E d&&(match look E d with|.bool c=>c != b|.tuple _=>true|_=>false)
  | none=>false
theorem Ac{a:Act}(hf:Fits n a E){g:Nat}{d:Tmp}(hd:(ops[g]?).bind (·.dst)=some d)(hh:has E d=true){c:Bool}(hc:look E d=.bool c):yielded ops a.tmps g=some c:=by
 unfold yielded;simp only[hd,Option.bind_some,hf.get d hh,hc]
theorem qf{a:Act}(hf:Fits n a E)(h:want ops E o=true):Region.wanted o (yielded ops a.tmps)=true:=by
 unfold want at h;unfold Region.wanted;cases hg:o.guard with
 | none=>rfl
 | some gb=>
  obtain⟨g,b⟩:=gb;rw[hg]at h;simp only at h⊢;cases hd:(ops[g]?).bind (·.dst) with
  | none=>rw[hd]at h;simp at h
  | some d=>
   rw[hd]at h;simp only[Bool.and_eq_true]at h;cases hl:look E d<;>rw[hl]at h<;>simp only at h<;>first|(simp at h;done)|skip
   rename_i c
   rw[Ac hf hd h.1 hl];simpa using h.2
theorem vo{a:Act}(hf:Fits n a E)(h:nG ops E o=true):Region.wanted o (yielded ops a.tmps)=false:=by
 unfold nG at h;unfold Region.wanted;cases hg:o.guard with
 | none=>rw[hg]at h;simp at h
 | some gb=>
  obtain⟨g,b⟩:=gb;rw[hg]at h;simp only at h⊢;cases hd:(ops[g]?).bind (·.dst) with
  | none=>rw[hd]at h;simp at h
  | some d=>
   rw[hd]at h;simp only[Bool.and_eq_true]at h;cases hl:look E d<;>rw[hl]at h<;>simp only at h<;>first|(simp at h;done)|skip
   case bool c=>
    rw[Ac hf hd h.1 hl];simpa using h.2
   case tuple xs=>
    have hy:yielded ops a.tmps g=none:=by
     unfold yielded;simp only[hd,Option.bind_some,hf.get d h.1,hl]
    rw[hy];rfl
theorem WU(hu:nG ops E o=true)(hd:pa n o.dst=true)(h:JL P w0 ops Q n rest (put E o.dst undef) H):JL P w0 ops Q n (o::rest) E H:=fun a w hf ha=>
 wpList_skip (vo hf hu) (h _ w (hf.put o.dst undef hd) ha)
def FE(o:Oper):Bool:=match o.op with|.select ..=>false|_=>true
def cU(ops:Array Oper)(n:Nat)(E:Env)(o:Oper):Bool:=want ops E o&&o.op.operands.toList.all (kf E)&&pa n o.dst&&FE o
theorem wA{a:Act}(hf:Fits n a E)(hk:o.op.operands.toList.all (kf E)=true)(hs:FE o=true):execOp a.eval o=execOp (ev E) o:=
 execOp_congr o (fun cs b e=>by unfold FE at hs;rw[e]at hs;simp at hs) fun x hx=>hf.eval (List.all_eq_true.1 hk x (by simpa using hx))
theorem sG{R:Value→bb→Prop}(hk:cU ops n E o=true)(hr:∀w,At w0 H w→∃v w',(execOp (ev E) o).run P w=.ok (.value v) w'∧At w0 w'.heap w'∧R v w'.heap)
  (h:∀v H',R v H'→JL P w0 ops Q n rest (put E o.dst v) H'):JL P w0 ops Q n (o::rest) E H:=by
 intro a w hf ha;unfold cU at hk;simp only[Bool.and_eq_true]at hk;obtain⟨⟨⟨h1,h2⟩,h3⟩,h4⟩:=hk;obtain⟨v,w',jd,HH,hR⟩:=hr w ha;exact Mem.wpList_run (qf hf h1) (by rw[wA hf h2 h4];exact jd) (h v _ hR _ w' (hf.put o.dst v h3) HH)
theorem Bu{R:bb→Prop}(hk:cU ops n E o=true)(hr:∀w,At w0 H w→∃w',(execOp (ev E) o).run P w=.ok .skip w'∧At w0 w'.heap w'∧R w'.heap)
  (h:∀H',R H'→JL P w0 ops Q n rest (put E o.dst undef) H'):JL P w0 ops Q n (o::rest) E H:=by
 intro a w hf ha;unfold cU at hk;simp only[Bool.and_eq_true]at hk;obtain⟨⟨⟨h1,h2⟩,h3⟩,h4⟩:=hk;obtain⟨w',jd,HH,hR⟩:=hr w ha;exact Mem.wpList_runs (qf hf h1) (by rw[wA hf h2 h4];exact jd) (h _ hR _ w' (hf.put o.dst undef h3) HH)
theorem WV(v:Value)(hk:cU ops n E o=true)(hr:∀w:World,w.heap=H→(execOp (ev E) o).run P w=.ok (.value v) w)(h:JL P w0 ops Q n rest (put E o.dst v) H):JL P w0 ops Q n (o::rest) E H:=
 sG (R:=fun v' H'=>v'=v∧H'=H) hk (fun w ha=>⟨v,w,hr w ha.heap,⟨rfl,ha.os,ha.tape,ha.output⟩,rfl,ha.heap⟩) (by rintro _ _ ⟨rfl,rfl⟩;exact h)
/-! ### Arithmetic -/
theorem kZ{op:BinOp}{t u:TypeId}{x y:Operand}{v:Value}(ho:o.op=.binOp op t x y u)(vx vy:Value)(hx:ev E x=vx)(hy:ev E y=vy)(hg:∀w,(eqGuard op t x y vx vy).run P w=.ok () w)(hr:∀w,(binOp op t vx vy).run P w=.ok v w)(w:World):
  (execOp (ev E) o).run P w=.ok (.value v) w:=by
 unfold execOp;simp only[ho,hx,hy,Sem.run_bind,hg,hr,Result.andThen_ok,Sem.run_pure]
theorem wrap64{z:Int}(h : -9223372036854775808≤z∧z≤9223372036854775807):IntKind.i64.wrap z=z:=by rw[IntKind.wrap_i64];omega
theorem nI{op:BinOp}{t:TypeId}{x y:Operand}{k k':IntKind}{a b:Int}(w:World):(eqGuard op t x y (.int k a) (.int k' b)).run P w=.ok () w:=by
 unfold eqGuard;split<;>rfl
def Mj:BinOp→Int→Int→Option Bool
 | .eql,a,b=>some (decide (a=b))
 | .neq,a,b=>some (decide (a≠b))
 | .lss,a,b=>some (decide (a<b))
 | .leq,a,b=>some (decide (a≤b))
 | .gtr,a,b=>some (decide (b<a))
 | .geq,a,b=>some (decide (b≤a))
 | _,_,_=>none
theorem toList_eq{a b:ByteArray}:(a.toList == b.toList)=decide (a=b):=by
 rw[Bool.eq_iff_iff];simp only[beq_iff_eq,decide_eq_true_eq];constructor
 .intro h;rw[ByteArray.toList_eq,ByteArray.toList_eq]at h;obtain⟨a⟩:=a;obtain⟨b⟩:=b;simp at h;rw[h]
 rintro rfl;rfl
theorem RP {op : BinOp} {t : TypeId} {x y : Operand} {xs ys : Array Value} (hg : P.eqGuardType P.depth t = false) (w : World) : (eqGuard op t x y (.agg xs) (.agg ys)).run P w = .ok () w := by
  have h1 : (do let p ← program; let q ← program; if (!p.eqGuardType q.depth t) = true then pure () else do
      let b ← Op.eqGuardIn Op.maxDepth t (Value.agg xs) (Value.agg ys)
      if b = true then unsupported (Unsupported.noEntry "binop/eql: two nil values of an interface type with methods, in a part of a struct or an array") else pure () : Sem Unit).run P w = .ok () w := by
    simp [program, Sem.run, hg]
  cases op <;> first | rfl | exact h1
theorem WW{l:List Oper}(t:Nat)(c:Bool)(hh:has E t=true)(hv:look E t=.bool c)(h1:c=true→JL P w0 ops Q n l ((t,.bool true)::E) H)(h2:c=false→JL P w0 ops Q n l ((t,.bool false)::E) H):JL P w0 ops Q n l E H:=by
 have key:∀b,c=b→∀a,Fits n a E→Fits n a ((t,.bool b)::E):=fun b hb a hf=>hf.sub fun t' WX=>by
  rw[look_cons];rw[has_cons]at WX;by_cases e:t=t'
  .subst e;rw[if_pos rfl,hv,hb];exact⟨hh,rfl⟩
  rw[if_neg e];exact⟨by simpa [e]using WX,rfl⟩
 cases hc:c with
 | true=>exact fun a w hf ha=>h1 hc a w (key _ hc a hf) ha
 | false=>exact fun a w hf ha=>h2 hc a w (key _ hc a hf) ha
end
end Go.J
end
section
namespace Go.J
open Go.Hp
open Go.Mem (Ty fS blk elemAt addr_add gJ pre suf bN dO eB db hZ cm spliceAt)
section
variable{P:Program}{w0:World}{ops:Array Oper}{Q:Exit→Act→World→Prop}{n:Nat}{E:Env}{H:bb}{o:Oper}{rest:List Oper}
theorem RQ{w:World}(ha:At w0 H w)(ob:Obj):At w0 (H.push ob) (w.alloc ob):=⟨by show w.heap.push ob=_;rw[ha.heap],ha.os,ha.tape,ha.output⟩
structure Vm(H H':bb)(g:Nat)(ob:Obj):Prop where
 at_:g=H.size
 is:H'[g]?=some ob
 chg:∀S,Chg S H H'
 size:H'.size=H.size+1
theorem Ml(H:bb)(ob:Obj):Vm H (H.push ob) H.size ob:=⟨rfl,L1 H ob,fun S=>Chg.push H ob S,by simp⟩
theorem C9{v:Nat→Value}{ob:Obj}(hk:cU ops n E o=true)(hr:∀w:World,w.heap=H→(execOp (ev E) o).run P w=.ok (.value (v w.heap.size)) (w.alloc ob))
  (h:∀g H',Vm H H' g ob→JL P w0 ops Q n rest (put E o.dst (v g)) H'):JL P w0 ops Q n (o::rest) E H:=by
 refine sG (R:=fun v' H'=>v'=v H.size∧Vm H H' H.size ob) hk (fun w ha=>⟨_,_,hr w ha.heap,?_,?_,?_⟩) ?_
 .exact ⟨rfl,ha.os,ha.tape,ha.output⟩
 .rw [ha.heap]
 .have:=RQ ha ob;rw[this.heap];exact Ml H ob
 grind
theorem aaL{t:TypeId}{x:Operand}(ho:o.op=.box t x)(u:Value)(cs:Array Value)(hk:cU ops n E o=true)(hx:ev E x=u)(hc:u.cells=cs)
  (h:∀g H',Vm H H' g (.cells cs t (0,0))→JL P w0 ops Q n rest (put E o.dst (.pointer (some ⟨g,0,none⟩))) H'):JL P w0 ops Q n (o::rest) E H:=by
 refine C9 (v:=fun g=>.pointer (some ⟨g,0,none⟩)) hk (fun w _=>?_) h;unfold execOp;simp only[ho,hx];exact Mem.run_v (by simp[Instr.box,newVar,newRow,hc])
theorem RR{t:TypeId}(ho:o.op=.alloc t)(z:Value)(cs:Array Value)(hk:cU ops n E o=true)(hz:∀w,(zeroValue t).run P w=.ok z w)(hc:z.cells=cs)
  (h:∀g H',Vm H H' g (.cells cs t (0,0))→JL P w0 ops Q n rest (put E o.dst (.pointer (some ⟨g,0,none⟩))) H'):JL P w0 ops Q n (o::rest) E H:=by
 refine C9 (v:=fun g=>.pointer (some ⟨g,0,none⟩)) hk (fun w _=>?_) h;unfold execOp;simp only[ho];exact Mem.run_v (by simp[Instr.alloc,newVar,newRow,hz,hc])
theorem Jh{t:TypeId}(ho:o.op=.makeMap t none)(hk:cU ops n E o=true)
  (h:∀g H',Vm H H' g (.map #[] 0)→JL P w0 ops Q n rest (put E o.dst (.map (some g))) H'):JL P w0 ops Q n (o::rest) E H:=by
 refine C9 (v:=fun g=>.map (some g)) hk (fun w _=>?_) h;unfold execOp;simp only[ho];exact Mem.run_v (by simp[Instr.makeMap])
def iq(P:Program)(t:TypeId)(len:Nat)(parts:List (Nat×Value)):Option (TypeId×Array Value):=
 match P.underlying t with
 | some (.slice e)=>match P.info? e with
  | some i=>match i.zero with
   | some z=>if len*i.size>2 ^ 24 then none else
    (Instr.fill (fun j=>some (j*i.size,i.size)) ((Array.range (len*i.size)).map ((if len*i.size=0 then #[] else z.cells)[· % (if len*i.size=0 then #[] else z.cells).size]!)) parts).map fun c=>(e,c)
   | none=>none
  | none=>none
 | _=>none
theorem Bv{t:TypeId}{len:Nat}{ps:Array (Nat×Operand)}(ho:o.op=.buildSlice t len ps)(pl:List (Nat×Value))(e:TypeId)(cs:Array Value)(hk:cU ops n E o=true)(WY:(ps.toList.map fun p=>(p.1,ev E p.2))=pl)(hb:iq P t len pl=some (e,cs))
  (h:∀g H',Vm H H' g (.cells cs e (0,0))→JL P w0 ops Q n rest (put E o.dst (.slice (some ⟨g,0,none⟩) len len)) H'):JL P w0 ops Q n (o::rest) E H:=by
 refine C9 (v:=fun g=>.slice (some ⟨g,0,none⟩) len len) hk (fun w _=>?_) h;have hp:(ps.map fun (i,x)=>(i,ev E x))=pl.toArray:=by rw[←WY];apply Array.ext';simp
 unfold execOp;simp only[ho,hp];refine Mem.run_v ?_;unfold iq at hb;cases hu:P.underlying t with
 | none=>rw[hu]at hb;simp at hb
 | some d=>
  rw[hu]at hb;cases d<;>simp only at hb<;>first|(simp at hb;done)|skip
  rename_i e'
  cases hi:P.info? e' with
  | none=>rw[hi]at hb;simp at hb
  | some i=>
   rw[hi]at hb;simp only at hb;cases hz:i.zero with
   | none=>rw[hz]at hb;simp at hb
   | some z=>
    rw[hz]at hb;simp only at hb;by_cases h24:len*i.size>2 ^ 24
    .grind
    rw[if_neg h24]at hb;simp only[Option.map_eq_some_iff,Prod.mk.injEq]at hb;obtain⟨c,hf,rfl,rfl⟩:=hb;by_cases h0:len*i.size=0
    .have hf':Instr.fill (fun j=>some (j*i.size,i.size)) #[] pl=some c:=by grind
     simp only[Instr.buildSlice,Sem.run_bind,run_underlying hu,Result.andThen_ok,sizeOf,typeInfo,program,Sem.run,hi,Sem.run_pure,h24,if_false,h0,if_true,Array.range_zero',List.map_toArray,List.map_nil,hf'];simp[newRow]
    simp only[h0,if_false]at hf;simp only[Instr.buildSlice,Sem.run_bind,run_underlying hu,Result.andThen_ok,sizeOf,typeInfo,program,Sem.run,hi,Sem.run_pure,h24,if_false,h0,hf,zeroValue,hz];simp[newRow]
/-! ### Loads -/
def ka(P:Program)(t:TypeId):Bool:=match P.underlying t with|some d=>!cm d|none=>false
def lC(P:Program)(t:TypeId)(m:Nat):Bool:=(match P.underlying t with|some d=>cm d|none=>false)&&(match P.info? t with|some i=>Nat.beq i.size m|none=>false)
theorem qg{t:TypeId}{d:TypeDesc}(h:P.underlying t=some d)(w:World):(isAgg t).run P w=.ok (cm d) w:=by
 unfold isAgg;rw[Sem.run_bind,run_underlying h,Result.andThen_ok];cases d<;>rfl
theorem uo{t:TypeId}(ht:ka P t=true){w:World}{p:Addr}{u:Value}(hc:w.cell? p=some u):(loadVar t p).run P w=.ok u w:=by
 unfold ka at ht;cases hu:P.underlying t with
 | none=>rw[hu]at ht;simp at ht
 | some d=>
  rw[hu]at ht;unfold loadVar;rw[Sem.run_bind,qg hu,Result.andThen_ok];have:cm d=false:=by simpa using ht
  rw[this];simp[load,Sem.run,hc]
theorem uq{t:TypeId}{m:Nat}(ht:lC P t m=true){w:World}{g k:Nat}{arr:Array Value}{e:TypeId}{fr:Nat×Nat}(hB:w.heap[g]?=some (.cells arr e fr))(cs:Array Value)(hl:cs.size=m)(hc:∀j u,cs[j]?=some u→arr[k+j]?=some u):
  (loadVar t ⟨g,k,none⟩).run P w=.ok (.agg cs) w:=by
 unfold lC at ht;rw[Bool.and_eq_true]at ht;cases hu:P.underlying t with
 | none=>rw[hu]at ht;simp at ht
 | some d=>
  rw[hu]at ht;cases hi:P.info? t with
  | none=>rw[hi]at ht;simp at ht
  | some i=>
   rw[hi]at ht;have hs:i.size=m:=Nat.eq_of_beq_eq_true ht.2;have hd:cm d=true:=ht.1;have QY:(sizeOf t).run P w=.ok m w:=by simp[sizeOf,typeInfo,hi,hs]
   have Vn:=run_loadCells_list (P:=P) w ⟨g,k,none⟩ cs.toList (fun j u hj=>by rw[addr_add,cell_of_row w g (k+j) arr e fr hB];exact hc j u (by grind));unfold loadVar;rw[Sem.run_bind,qg hu,Result.andThen_ok,hd];simp only[if_true,Sem.run_bind,QY,Result.andThen_ok];have hl':cs.toList.length=m:=by simpa using hl
   rw[hl']at Vn;rw[Vn];simp
theorem Ji{t:TypeId}{m:Nat}(ht:lC P t m=true){H:bb}{w:World}(hw:w.heap=H){g k:Nat}{arr:Array Value}{e:TypeId}{fr:Nat×Nat}(hB:H[g]?=some (.cells arr e fr))(cs:Array Value)(hl:cs.size=m)(hc:arr.toList.extract k (k+m)=cs.toList):
  (loadVar t ⟨g,k,none⟩).run P w=.ok (.agg cs) w:=by
 refine uq ht (by rw[hw];exact hB) cs hl (fun j u hj=>?_);have h1:cs.toList[j]?=some u:=by simpa using hj
 grind
/-! ### Stores -/
theorem sH(w:World)(g:Nat)(cs cur:Array Value)(t:TypeId)(fr:Nat×Nat)(h:w.heap[g]?=some (.cells cur t fr)):(w.setRow g cs).heap[g]?=some (.cells cs t fr):=setRow_heap w g cur cs t fr h
theorem xm{t:TypeId}{i:TypeInfo}(hi:P.info? t=some i){w:World}{g k:Nat}{arr:Array Value}{e:TypeId}(hB:w.heap[g]?=some (.cells arr e (0,0)))(u:Value)(hs:u.cells.size=i.size)(mn:k+u.cells.size≤arr.size)(h1:∀c∈u.cells.toList,c.oneCell'=true):
  (storeVar t ⟨g,k,none⟩ u).run P w=.ok () (w.setRow g (spliceAt arr.toList k u.cells.toList).toArray):=by
 have dM:=run_storeCells_at P g k e u.cells.toList 0 arr w hB (by omega) h1;unfold storeVar;have:(sizeOf t).run P w=.ok i.size w:=by simp[sizeOf,typeInfo,hi]
 rw[Sem.run_bind,this,Result.andThen_ok];grind[spliceAt]
def l8(P:Program)(t:TypeId)(m:Nat):Bool:=match P.info? t with|some i=>Nat.beq i.size m|none=>false
structure Put(H H':bb)(g:Nat)(ob:Obj):Prop where
 is:H'[g]?=some ob
 chg:Chg (fun k=>k=g) H H'
 size:H'.size=H.size
theorem RS{t:TypeId}{x y:Operand}(ho:o.op=.store t x y)(g k m:Nat)(arr xn:Array Value)(e:TypeId)(u:Value)(hk:cU ops n E o=true)(hx:ev E x=.pointer (some ⟨g,k,none⟩))(hy:ev E y=u)(hs:l8 P t m=true)(hB:H[g]?=some (.cells arr e (0,0)))(hm:u.cells.size=m)(mn:Nat.ble (k+m) arr.size=true)(h1:(u.cells.toList.all fun c=>c.oneCell')=true)(ha':(spliceAt arr.toList k u.cells.toList)=xn.toList)
  (h:∀H',Put H H' g (.cells xn e (0,0))→JL P w0 ops Q n rest (put E o.dst undef) H'):JL P w0 ops Q n (o::rest) E H:=by
 refine Bu (R:=fun H'=>Put H H' g (.cells xn e (0,0))) hk (fun w ha=>?_) h;unfold l8 at hs;cases hi:P.info? t with
 | none=>rw[hi]at hs;simp at hs
 | some i=>
  rw[hi]at hs;have mm:i.size=m:=Nat.eq_of_beq_eq_true hs;have hB':w.heap[g]?=some (.cells arr e (0,0)):=by rw[ha.heap];exact hB
  have jd:=xm (P:=P) hi hB' u (by omega) (k:=k) (by rw[hm];exact Nat.le_of_ble_eq_true mn) (fun c hc=>List.all_eq_true.1 h1 c hc);refine⟨w.setRow g (spliceAt arr.toList k u.cells.toList).toArray,?_,⟨rfl,ha.os,ha.tape,ha.output⟩,?_,?_,?_⟩
  .unfold execOp;simp only[ho,hx,hy];exact Mem.run_u (by unfold Instr.storeAt Instr.sureAddr;rw[Sem.run_bind,Sem.run_pure,Result.andThen_ok];exact jd)
  .rw [sH w g _ arr e (0,0) hB',ha']
  .refine ⟨by rw[←ha.heap];simp,fun j hj l7=>?_⟩;rw[←ha.heap];exact setRow_other w g j _ l7
  rw[←ha.heap];simp
theorem Mm{α:Type}{T:Ty α}{t:TypeId}{x y:Operand}(ho:o.op=.store t x y)(hT:T.Ok P)(v:Value)(k j m:Nat)(z z':α)(u:Value)(L:List α)(hk:cU ops n E o=true)(hx:ev E x=.pointer (some ((elemAt T.size v k).add j)))(hy:ev E y=u)(hs:l8 P t m=true)(hv:Ow H T v L)(hz:L[k]?=some z)(hm:u.cells.size=m)(mn:Nat.ble (j+m) T.size=true)(h1:(u.cells.toList.all fun c=>c.oneCell')=true)(he:T.enc z'=spliceAt (T.enc z) j u.cells.toList)
  (h:∀H',Ow H' T v (L.set k z')→Chg (fun b=>blk v=some b) H H'→JL P w0 ops Q n rest (put E o.dst undef) H'):JL P w0 ops Q n (o::rest) E H:=by
 refine Bu (R:=fun H'=>Ow H' T v (L.set k z')∧Chg (fun b=>blk v=some b) H H') hk (fun w ha=>?_) (fun H' ⟨a1,a2⟩=>h H' a1 a2);unfold l8 at hs;cases hi:P.info? t with
 | none=>rw[hi]at hs;simp at hs
 | some i=>
  rw[hi]at hs;have mm:i.size=m:=Nat.eq_of_beq_eq_true hs;have rj:Mem.Ow w T v L:=by have:=hv;rw[←ha.heap]at this;exact this
  obtain⟨w',hr,h2,h3⟩:=Mem.run_storePart (P:=P) rj hT hz (j:=j) (by have:=Nat.le_of_ble_eq_true mn;simp;omega) (fun c hc=>List.all_eq_true.1 h1 c hc) he;refine⟨w',?_,⟨rfl,h3.os.trans ha.os,h3.tape.trans ha.tape,h3.output.trans ha.output⟩,h2,?_⟩
  .unfold execOp;simp only[ho,hx,hy];refine Mem.run_u ?_;unfold Instr.storeAt Instr.sureAddr storeVar;have:(sizeOf t).run P w=.ok i.size w:=by simp[sizeOf,typeInfo,hi]
   rw[Sem.run_bind,Sem.run_pure,Result.andThen_ok,Sem.run_bind,this,Result.andThen_ok];grind
  rw[←ha.heap];exact Chg.of_mem h3
/-! ### Slices -/
section
variable{α:Type}{T:Ty α}{v:Value}{L M:List α}
structure Apd(H H':bb)(T:Ty α)(v v':Value)(L:List α):Prop where
 ow:Ow H' T v' L
 chg:Chg (fun k=>blk v=some k) H H'
 moved:Hs H v v'
theorem Mn{s x:Operand}{t:TypeId}(ho:o.op=.call { callee:=.builtin .append,args:=#[s,x],argTypes:=#[t,t] })(hT:T.Ok P)(ht:P.underlying t=some (.slice T.id))(v2:Value)(hk:cU ops n E o=true)(hs:ev E s=v)(hx:ev E x=v2)(hv:Ow H T v L)(h2:Sl H T v2 M)(hb:(L.length+M.length)*T.bytes≤140737488355328)(zg:L.length+M.length≤9223372036854775807)
  (h:∀v' H',Apd H H' T v v' (L++M)→JL P w0 ops Q n rest (put E o.dst v') H'):JL P w0 ops Q n (o::rest) E H:=by
 refine sG (R:=fun v' H'=>Apd H H' T v v' (L++M)) hk (fun w ha=>?_) h;have rj:Mem.Ow w T v L:=by have:=hv;rw[←ha.heap]at this;exact this
 have WZ:Mem.Sl w T v2 M:=by have:=h2;rw[←ha.heap]at this;exact this
 obtain⟨v',w',hr,q1,q2,q3,_⟩:=Mem.run_append (ty:=o.type) hT ht rj WZ hb zg;refine⟨v',w',?_,⟨rfl,q2.os.trans ha.os,q2.tape.trans ha.tape,q2.output.trans ha.output⟩,q1,?_,?_⟩
 .unfold execOp;simp only[ho,resolve,invoke,builtin,Sem.run_bind,Sem.run_pure,Result.andThen_ok,List.map_toArray,List.map_cons,List.map_nil,hs,hx,hr]
 .rw [←ha.heap];exact Chg.of_mem q2
 .intro g hg;rw[←ha.heap];exact q3 g hg
theorem W0{t:TypeId}{x y:Operand}(ho:o.op=.makeSlice t x y)(hT:T.Ok P)(ht:P.underlying t=some (.slice T.id))(q q':IntKind)(k:Int)(hk:cU ops n E o=true)(hx:ev E x=.int q k)(hy:ev E y=.int q' k)(h0:0≤k)(hb:T.bytes*k.toNat≤281474976710656)(zg:k≤9223372036854775807)
  (h:∀g H' v',g=H.size→Ow H' T v' (List.replicate k.toNat T.zero)→(∀S,Chg S H H')→blk v'=some g→H'.size=H.size+1→JL P w0 ops Q n rest (put E o.dst v') H'):JL P w0 ops Q n (o::rest) E H:=by
 refine sG (R:=fun v' H'=>Ow H' T v' (List.replicate k.toNat T.zero)∧(∀S,Chg S H H')∧blk v'=some H.size∧H'.size=H.size+1) hk (fun w ha=>?_) (fun v' H' ⟨a1,a2,a3,a4⟩=>h _ H' v' rfl a1 a2 a3 a4);obtain⟨i,hi,mm,WA,hz⟩:=hT.info;have e:k=(k.toNat:Int):=by omega
 have de:((T.bytes*k.toNat:Nat):Int)≤281474976710656:=by omega
 rw[Int.natCast_mul,←WA]at de;have hr:=run_make (P:=P) w t T.id i _ ht hi hz q q' k.toNat k.toNat (by omega) (Int.le_refl _) de (by omega);rw[mm]at hr;simp only[Int.toNat_natCast]at hr;refine⟨.slice (some ⟨w.heap.size,0,none⟩) k.toNat k.toNat,w.alloc (.cells (madeCells (T.val T.zero).cells (k.toNat*T.size)) T.id),?_,⟨rfl,ha.os,ha.tape,ha.output⟩,?_,?_,?_,?_⟩
 .unfold execOp;grind[Mem.run_v]
 .refine .inr ⟨w.heap.size,k.toNat,_,by simp,heap_alloc_new w _,by simp,by unfold maxLen;omega,?_,?_⟩
  .simp [size_madeCells]
  rw[Mem.madeCells_flat hT,List.length_replicate];have:=hT.flat_len (List.replicate k.toNat T.zero);grind
 .intro S;rw[←ha.heap];exact Chg.push w.heap _ S
 .rw [←ha.heap];rfl
 .rw [←ha.heap];simp
end
/-! ### Maps -/
section
variable{κ β:Type}[DecidableEq κ]{K:fS κ}{V:β→Value}{b:Nat}{m:List (κ×β)}
structure Upd(H H':bb)(K:fS κ)(V:β→Value)(b:Nat)(m:List (κ×β)):Prop where
 mp:Mp H' K V b m
 chg:Chg (fun j=>j=b) H H'
theorem Mo{x y z:Operand}{t e:TypeId}(ho:o.op=.mapUpdate t x y z)(hK:fS.Ok (β:=β) K P)(ht:P.underlying t=some (.map K.id e))(k:κ)(u:β)(hk:cU ops n E o=true)(hx:ev E x=.map (some b))(hy:ev E y=K.val k)(hu:ev E z=V u)(hm:Mp H K V b m)
  (h:∀H',Upd H H' K V b (dO m k u)→JL P w0 ops Q n rest (put E o.dst undef) H'):JL P w0 ops Q n (o::rest) E H:=by
 refine Bu (R:=fun H'=>Upd H H' K V b (dO m k u)) hk (fun w ha=>?_) h;have RT:Mem.Mp w K V b m:=by have:=hm;rw[←ha.heap]at this;exact this
 obtain⟨w',hr,h1,h2⟩:=Mem.run_update RT hK ht k u;refine⟨w',?_,⟨rfl,h2.os.trans ha.os,h2.tape.trans ha.tape,h2.output.trans ha.output⟩,h1,?_⟩
 .unfold execOp;grind[Mem.run_u]
 .rw [←ha.heap];exact Chg.of_mem h2
end
/-! ### Calls -/
def rI (P : Program) (f : FuncId) : Bool := match P.funcs[f]? with | some fn => !(fn.name == "runtime.NumGoroutine") && fn.body.isSome | none => false
theorem sI{f:FuncId}(hf:rI P f=true)(args:Array Value)(w:World):(callFunc f args).run P w=.ok (.enter f args) w:=by
 unfold rI at hf;cases h:P.funcs[f]? with
 | none=>rw[h]at hf;simp at hf
 | some fn=>
  rw[h]at hf;simp only[Bool.and_eq_true,Bool.not_eq_true']at hf;obtain⟨h1,h2⟩:=hf;cases hb:fn.body with
  | none=>rw[hb]at h2;simp at h2
  | some c=>
   simp only[callFunc,program,Sem.run_bind,Sem.run,Result.andThen_ok,h,h1,hb];rfl
theorem HI{f:FuncId}{vals:Array Value}{R:Value→bb→Prop}(hk:cU ops n E o=true)(jd:∀w,(execOp (ev E) o).run P w=.ok (.enter f vals) w)(hc:HC P f vals H R)
  (h:∀v H',R v H'→JL P w0 ops Q n rest (put E o.dst v) H'):JL P w0 ops Q n (o::rest) E H:=by
 intro a w hf ha;unfold cU at hk;simp only[Bool.and_eq_true]at hk;obtain⟨⟨⟨h1,h2⟩,h3⟩,h4⟩:=hk;unfold wpList;rw[if_pos (qf hf h1)];refine .inl ?_;unfold Oper.wp;rw[wA hf h2 h4,jd w];simp only[Oper.upon];refine (hc w ha.heap).mono fun e w' ⟨v,he,HH,hR⟩=>?_
 subst he;exact h v _ hR _ w' (hf.put o.dst v h3) (ha.trans HH)
theorem FF{f:FuncId}{xs:Array Operand}{ts:Array TypeId}(ho:o.op=.call { callee:=.value (.func f),args:=xs,argTypes:=ts })(vals:List Value){R:Value→bb→Prop}(hk:cU ops n E o=true)(hx:(xs.toList.map (ev E))=vals)(hfn:rI P f=true)(hc:HC P f vals.toArray H R)
  (h:∀v H',R v H'→JL P w0 ops Q n rest (put E o.dst v) H'):JL P w0 ops Q n (o::rest) E H:=by
 have LD:xs.map (ev E)=vals.toArray:=by rw[←hx];apply Array.ext';simp
 refine HI hk (fun w=>?_) hc h;unfold execOp;simp only[ho,resolve,Deferred.ofValue,ev,Sem.run_bind,Sem.run_pure,Result.andThen_ok,invoke,LD,Array.empty_append,Array.append_empty];grind[sI]
end
end Go.J
end
section
namespace Go.J
open Go.Mem (cm)
def l9:Nat→Value→Bool
 | 0,.int .i64 _=>true
 | 1,.string _=>true
 | 2,.bool _=>true
 | _,_=>false
def er:List Nat→List Value→Bool
 | [],[]=>true
 | k::ks,v::vs=>l9 k v&&er ks vs
 | _,_=>false
def cellEq:Value→Value→Bool
 | .int _ a,.int _ b=>decide (a=b)
 | .string a,.string b=>decide (a=b)
 | .bool a,.bool b=>decide (a=b)
 | _,_=>false
def cellsEq:List Value→List Value→Bool
 | [],[]=>true
 | x::xs,y::ys=>cellEq x y&&cellsEq xs ys
 | _,_=>false
mutual
def ia(P:Program):Nat→TypeId→Option (List Nat)
 | 0,_=>none
 | d+1,t=>
  match P.underlying t with
  | some (.int .i64)=>some [0]
  | some .string=>some [1]
  | some .bool=>some [2]
  | some (.struct fs)=>if P.stoodInHeld t then none else
   match cj P d fs.toList 0 with
   | some ks=>(match P.info? t with|some i=>if Nat.beq i.size ks.length then some ks else none|none=>none)
   | none=>none
  | _=>none
def cj(P:Program):Nat→List Field→Nat→Option (List Nat)
 | _,[],_=>some []
 | 0,_::_,_=>none
 | d+1,f::fs,off=>
  if f.name ≠ "_" ∧ f.offset = off then
   match ia P d f.type with
   | some ks=>(match cj P d fs (off+ks.length) with|some zh=>some (ks++zh)|none=>none)
   | none=>none
  else none
end
theorem fc:∀{ks:List Nat}{vs:List Value},er ks vs=true→vs.length=ks.length
 | [],[],_=>rfl
 | k::ks,v::vs,h=>by simp only[er,Bool.and_eq_true]at h;simp[fc h.2]
 | [],_::_,h=>by simp[er]at h
 | _::_,[],h=>by simp[er]at h
theorem nJ:∀{ks zh:List Nat}{vs:List Value},er (ks++zh) vs=true→er ks (vs.take ks.length)=true∧er zh (vs.drop ks.length)=true
 | [],zh,vs,h=>by simpa [er]using h
 | k::ks,zh,[],h=>by simp[er]at h
 | k::ks,zh,v::vs,h=>by
  simp only[List.cons_append,er,Bool.and_eq_true]at h;have:=nJ h.2;simp[er,h.1,this.1,this.2]
theorem pb:∀(n:Nat) (xs ys:List Value),xs.length=ys.length→cellsEq xs ys=(cellsEq (xs.take n) (ys.take n)&&cellsEq (xs.drop n) (ys.drop n))
 | 0,xs,ys,_=>by simp[cellsEq]
 | n+1,[],[],_=>by simp[cellsEq]
 | n+1,x::xs,y::ys,h=>by
  simp only[List.take_succ_cons,List.drop_succ_cons,cellsEq];rw[pb n xs ys (by simpa using h),Bool.and_assoc]
 | n+1,[],y::ys,h=>by simp at h
 | n+1,x::xs,[],h=>by simp at h
section
variable{P:Program}
def iS(P:Program)(t:TypeId)(vs:List Value):Value:=match P.underlying t with|some (.struct _)=>.agg vs.toArray|_=>vs.headD undef
theorem xo{t:TypeId}{d:Nat}{ks:List Nat}(hk:ia P d t=some ks)(xs:Array Value)(off:Nat)(mn:er ks ((xs.toList.drop off).take ks.length)=true)(w:World):
  (part t xs off).run P w=.ok (iS P t ((xs.toList.drop off).take ks.length)) w:=by
 cases d with
 | zero=>simp[ia]at hk
 | succ d=>
  unfold ia at hk;cases hu:P.underlying t with
  | none=>rw[hu]at hk;simp at hk
  | some u=>
   rw[hu]at hk;have hlen:=fc mn;have scalar:cm u=false→ks.length=1→(part t xs off).run P w=.ok (iS P t ((xs.toList.drop off).take ks.length)) w:=by
    intro ha h1;unfold part;rw[Sem.run_bind,qg hu,Result.andThen_ok,ha];rw[h1]at hlen⊢;obtain⟨v,hv⟩:=List.length_eq_one_iff.1 hlen;have hx:xs[off]?=some v:=by
     have:=congrArg (·[0]?) hv;simpa [List.getElem?_take,List.getElem?_drop]using this
    rw[hv];simp only[Bool.false_eq_true,if_false,hx];unfold iS;rw[hu];cases u<;>simp[cm]at ha<;>rfl
   cases u<;>first|(simp at hk;done)|skip
   case int q=>cases q<;>first|(simp at hk;done)|(simp only[Option.some.injEq]at hk;exact scalar rfl (by rw[←hk];rfl))
   case bool=>simp only[Option.some.injEq]at hk;exact scalar rfl (by rw[←hk];rfl)
   case string=>simp only[Option.some.injEq]at hk;exact scalar rfl (by rw[←hk];rfl)
   case struct fs=>
    simp only at hk;split at hk
    .simp at hk
    cases hf:cj P d fs.toList 0 with
    | none=>rw[hf]at hk;simp at hk
    | some zh=>
     rw[hf]at hk;cases hi:P.info? t with
     | none=>rw[hi]at hk;simp at hk
     | some i=>
      rw[hi]at hk;simp only at hk;split at hk
      .rename_i hs;simp only[Option.some.injEq]at hk;subst hk;have hs:=Nat.eq_of_beq_eq_true hs;unfold part;rw[Sem.run_bind,qg hu,Result.andThen_ok];simp only[cm,if_true,Sem.run_bind,sizeOf,typeInfo,program,Sem.run,Result.andThen_ok,hi,Sem.run_pure,hs];unfold iS;rw[hu];congr 2;apply Array.ext';simp[List.take_drop,Array.toList_extract,List.extract_eq_take_drop]
      simp at hk
mutual
theorem rk:∀(d:Nat) (t:TypeId) (ks:List Nat),ia P d t=some ks→∀(xs ys:List Value),er ks xs=true→er ks ys=true→∀(D:Nat) (w:World),d≤D→
  (Op.equalIn D t (iS P t xs) (iS P t ys)).run P w=.ok (cellsEq xs ys) w
 | 0,_,_,hk,_,_,_,_,_,_,_=>by simp[ia]at hk
 | d+1,t,ks,hk,xs,ys,hx,hy,D,w,hD=>by
  obtain⟨D,rfl⟩:∃D',D=D'+1:=⟨D-1,by omega⟩;unfold ia at hk;cases hu:P.underlying t with
  | none=>rw[hu]at hk;simp at hk
  | some u=>
   rw[hu]at hk;cases u<;>first|(simp at hk;done)|skip
   case int q=>
    cases q<;>first|(simp at hk;done)|skip
    simp only[Option.some.injEq]at hk;subst hk;obtain⟨x,rfl⟩:=List.length_eq_one_iff.1 (fc hx);obtain⟨y,rfl⟩:=List.length_eq_one_iff.1 (fc hy);cases x<;>simp[er,l9]at hx
    cases y<;>simp[er,l9]at hy
    rename_i k a k' b
    cases k<;>simp[l9]at hx
    cases k'<;>simp[l9]at hy
    simp only[iS,hu,List.headD_cons];rw[run_equalIn_int w D t _ _ a b hu];simp[cellsEq,cellEq,Bool.beq_eq_decide_eq]
   case bool=>
    simp only[Option.some.injEq]at hk;subst hk;obtain⟨x,rfl⟩:=List.length_eq_one_iff.1 (fc hx);obtain⟨y,rfl⟩:=List.length_eq_one_iff.1 (fc hy);cases x<;>simp[er,l9]at hx
    cases y<;>simp[er,l9]at hy
    rename_i a b
    simp only[iS,hu,List.headD_cons];rw[run_equalIn_bool' w D t a b hu];simp[cellsEq,cellEq,Bool.beq_eq_decide_eq]
   case string=>
    simp only[Option.some.injEq]at hk;subst hk;obtain⟨x,rfl⟩:=List.length_eq_one_iff.1 (fc hx);obtain⟨y,rfl⟩:=List.length_eq_one_iff.1 (fc hy);cases x<;>simp[er,l9]at hx
    cases y<;>simp[er,l9]at hy
    rename_i a b
    simp only[iS,hu,List.headD_cons];rw[run_equalIn_string w D t a b hu,toList_eq];simp[cellsEq,cellEq]
   case struct fs=>
    simp only at hk;split at hk
    .simp at hk
    rename_i dM
    cases hf:cj P d fs.toList 0 with
    | none=>rw[hf]at hk;simp at hk
    | some zh=>
     rw[hf]at hk;cases hi:P.info? t with
     | none=>rw[hi]at hk;simp at hk
     | some i=>
      rw[hi]at hk;simp only at hk;split at hk
      .simp only[Option.some.injEq]at hk;subst hk;have hfo:P.fieldsOf t=fs:=by simp[Program.fieldsOf,hu]
       simp only[iS,hu];rw[run_equalIn_struct w D t _ _ (by rw[hfo];exact hu) (by simpa using dM),hfo];have:=pc d fs.toList 0 zh hf xs.toArray ys.toArray (by simpa using hx) (by simpa using hy) D w (by omega);simpa using this
      simp at hk
theorem pc:∀(d:Nat) (fs:List Field) (off:Nat) (ks:List Nat),cj P d fs off=some ks→∀(xs ys:Array Value),er ks (xs.toList.drop off)=true→er ks (ys.toList.drop off)=true→∀(D:Nat) (w:World),d≤D+1→
  (Op.eqFields D xs ys fs).run P w=.ok (cellsEq (xs.toList.drop off) (ys.toList.drop off)) w
 | _,[],off,ks,hk,xs,ys,hx,hy,D,w,_=>by
  unfold cj at hk;simp only[Option.some.injEq]at hk;subst hk;have h1:=fc hx;have h2:=fc hy;rw[List.eq_nil_of_length_eq_zero h1,List.eq_nil_of_length_eq_zero h2];rfl
 | 0,_::_,_,_,hk,_,_,_,_,_,_,_=>by simp[cj]at hk
 | d+1,f::fs,off,ks,hk,xs,ys,hx,hy,D,w,hD=>by
  unfold cj at hk;split at hk
  .rename_i hn;cases h1:ia P d f.type with
   | none=>rw[h1]at hk;simp at hk
   | some k1=>
    rw[h1]at hk;simp only at hk;cases h2:cj P d fs (off+k1.length) with
    | none=>rw[h2]at hk;simp at hk
    | some k2=>
     rw[h2]at hk;simp only[Option.some.injEq]at hk;subst hk;have fx:=nJ hx;have fy:=nJ hy;rw[List.drop_drop]at fx fy;have px:=xo h1 xs off fx.1 w;have py:=xo h1 ys off fy.1 w;have he:=rk d f.type k1 h1 _ _ fx.1 fy.1 D w (by omega);have ih:=pc d fs (off+k1.length) k2 h2 xs ys fx.2 fy.2 D w (by omega);have hl:(xs.toList.drop off).length=(ys.toList.drop off).length:=(fc hx).trans (fc hy).symm;rw[pb k1.length _ _ hl,List.drop_drop,List.drop_drop];unfold Op.eqFields;rw[if_pos hn.1,hn.2];simp only[Sem.run_bind,px,py,he,Result.andThen_ok];cases cellsEq ((xs.toList.drop off).take k1.length) ((ys.toList.drop off).take k1.length) with
     | true=>simp[ih]
     | false=>simp
  simp at hk
end
theorem run_eqS{t:TypeId}(ks:List Nat)(hk:ia P 20 t=some ks)(hs:(match P.underlying t with|some (.struct _)=>true|_=>false)=true)(xs ys:Array Value)(hx:er ks xs.toList=true)(hy:er ks ys.toList=true)(w:World):
  (binOp .eql t (.agg xs) (.agg ys)).run P w=.ok (.bool (cellsEq xs.toList ys.toList)) w∧(binOp .neq t (.agg xs) (.agg ys)).run P w=.ok (.bool (!cellsEq xs.toList ys.toList)) w:=by
 have h:=rk 20 t ks hk xs.toList ys.toList hx hy 10000 w (by omega);have ho:∀zs:Array Value,iS P t zs.toList=.agg zs:=by
  intro zs;unfold iS;cases hu:P.underlying t with
  | none=>rw[hu]at hs;simp at hs
  | some u=>rw[hu]at hs;cases u<;>simp at hs⊢
 rw[ho,ho]at h;refine⟨?_,?_⟩
 .rw [run_eql_struct,h];rfl
 .rw [run_neq_struct,h];rfl
end
end Go.J
end
section
namespace Go.J
open Go.Hp
open Go.Mem (Ty fS blk elemAt addr_add gJ pre suf bN dO eB db hZ cm spliceAt)
section
variable{P:Program}{w0:World}{Q:Exit→Act→World→Prop}{n:Nat}{E:Env}{H:bb}{o:Oper}{rest l:List Oper}{S:bb→Prop}{fuel:Nat}{aG:Array Bool}
structure jl(P:Program)(E:Env)(o:Oper)(H:bb)(v:Value):Prop where
 run:∀w:World,w.heap=H→(execOp (ev E) o).run P w=.ok (.value v) w
theorem pd(v:Value)(hr:∀w,(execOp (ev E) o).run P w=.ok (.value v) w):jl P E o H v:=⟨fun w _=>hr w⟩
theorem aaM{t u:TypeId}{x y:Operand}(ho:o.op=.binOp .add t x y u)(a b:Int)(hx:ev E x=.int .i64 a)(hy:ev E y=.int .i64 b)(hb : -9223372036854775808≤a+b∧a+b≤9223372036854775807):jl P E o H ((.int .i64 (a+b))):=
 ⟨fun w _=>(kZ ho _ _ hx hy nI fun w=>by simp[binOp,Op.intArith,wrap64 hb,Sem.run_pure]) w⟩
theorem aaN{t u:TypeId}{x y:Operand}(ho:o.op=.binOp .sub t x y u)(a b:Int)(hx:ev E x=.int .i64 a)(hy:ev E y=.int .i64 b)(hb : -9223372036854775808≤a-b∧a-b≤9223372036854775807):jl P E o H ((.int .i64 (a-b))):=
 ⟨fun w _=>(kZ ho _ _ hx hy nI fun w=>by simp[binOp,Op.intArith,wrap64 hb,Sem.run_pure]) w⟩
theorem aaO{t u:TypeId}{x y:Operand}(ho:o.op=.binOp .mul t x y u)(a b:Int)(hx:ev E x=.int .i64 a)(hy:ev E y=.int .i64 b)(hb : -9223372036854775808≤a*b∧a*b≤9223372036854775807):jl P E o H ((.int .i64 (a*b))):=
 ⟨fun w _=>(kZ ho _ _ hx hy nI fun w=>by simp[binOp,Op.intArith,wrap64 hb,Sem.run_pure]) w⟩
theorem aaP{op:BinOp}{t u:TypeId}{x y:Operand}(ho:o.op=.binOp op t x y u)(k:IntKind)(a b:Int)(c:Bool)(hx:ev E x=.int k a)(hy:ev E y=.int k b)(hc:Mj op a b=some c):jl P E o H ((.bool c)):=by
 refine⟨fun w _=>kZ ho _ _ hx hy nI (fun w=>?_) w⟩;cases op<;>simp only[Mj,Option.some.injEq]at hc<;>first|(cases hc;done)|skip
 all_goals
  subst hc;simp only[binOp,ne_eq,not_true_eq_false,if_false,Op.intCmp];first
  | rfl
  | (simp[Sem.run_pure,bne,BEq.beq])
theorem aaQ{op:BinOp}{t u:TypeId}{x y:Operand}(ho:o.op=.binOp op t x y u)(xs ys:Array Value)(c:Bool)(hx:ev E x=.agg xs)(hy:ev E y=.agg ys)(hg:P.eqGuardType P.depth t=false)(hr:∀w,(binOp op t (.agg xs) (.agg ys)).run P w=.ok (.bool c) w):jl P E o H ((.bool c)):=
 ⟨fun w _=>(kZ ho _ _ hx hy (RP hg) hr) w⟩
theorem RU{t:TypeId}{x:Operand}(ho:o.op=.load t x)(g k:Nat)(arr:Array Value)(e:TypeId)(fr:Nat×Nat)(u:Value)(hx:ev E x=.pointer (some ⟨g,k,none⟩))(ht:ka P t=true)(hB:H[g]?=some (.cells arr e fr))(hu:arr[k]?=some u):jl P E o H (u):=by
 refine⟨fun w hw=>?_⟩;unfold execOp;simp only[ho,hx];refine Mem.run_v ?_;unfold Instr.loadAt Instr.sureAddr;rw[Sem.run_bind,Sem.run_pure,Result.andThen_ok];exact uo ht (by rw[cell_of_row w g k arr e fr (by grind)];exact hu)
theorem RV{t:TypeId}{x:Operand}(ho:o.op=.load t x)(g k m:Nat)(arr:Array Value)(e:TypeId)(fr:Nat×Nat)(cs:Array Value)(hx:ev E x=.pointer (some ⟨g,k,none⟩))(ht:lC P t m=true)(hB:H[g]?=some (.cells arr e fr))(hl:cs.size=m)(hc:arr.toList.extract k (k+m)=cs.toList):jl P E o H ((.agg cs)):=by
 refine⟨fun w hw=>?_⟩;unfold execOp;simp only[ho,hx];refine Mem.run_v ?_;unfold Instr.loadAt Instr.sureAddr;rw[Sem.run_bind,Sem.run_pure,Result.andThen_ok];refine uq ht (by rw[hw];exact hB) cs hl (fun j u hj=>?_);have h1:cs.toList[j]?=some u:=by simpa using hj
 grind
theorem RW{α:Type}{T:Ty α}{t:TypeId}{x:Operand}(ho:o.op=.load t x)(hT:T.Ok P)(hid:T.id=t)(v:Value)(k:Nat)(y:α)(u:Value)(L:List α)(hx:ev E x=.pointer (some (elemAt T.size v k)))(hv:Sl H T v L)(hy:L[k]?=some y)(hu:T.val y=u):jl P E o H (u):=by
 subst hid hu;refine⟨fun w hw=>?_⟩;subst hw;unfold execOp;simp only[ho,hx];exact Mem.run_v (Mem.run_loadElem hv.mem hT hy)
theorem RX{α:Type}{T:Ty α}{t:TypeId}{x:Operand}(ho:o.op=.load t x)(hT:T.Ok P)(v:Value)(k j:Nat)(y:α)(u:Value)(L:List α)(hx:ev E x=.pointer (some ((elemAt T.size v k).add j)))(ht:ka P t=true)(hv:Sl H T v L)(hy:L[k]?=some y)(hu:(T.enc y)[j]?=some u):jl P E o H (u):=by
 refine⟨fun w hw=>?_⟩;subst hw;unfold execOp;simp only[ho,hx];refine Mem.run_v ?_;unfold Instr.loadAt Instr.sureAddr;rw[Sem.run_bind,Sem.run_pure,Result.andThen_ok];exact uo ht (hv.cell hT hy hu)
section
variable{α:Type}{T:Ty α}{v:Value}{L M:List α}
theorem aaR{x:Operand}{t:TypeId}(ho:o.op=.call { callee:=.builtin .len,args:=#[x],argTypes:=#[t] })(hT:T.Ok P)(ht:P.underlying t=some (.slice T.id))(hx:ev E x=v)(hv:Sl H T v L):jl P E o H ((.int .i64 L.length)):=by
 refine⟨fun w hw=>?_⟩;subst hw;unfold execOp;simp only[ho,resolve,invoke,builtin,Sem.run_bind,Sem.run_pure,Result.andThen_ok,List.map_toArray,List.map_cons,List.map_nil,hx,Mem.run_len hv.mem ht]
theorem RY{x i:Operand}{t:TypeId}(ho:o.op=.indexAddr t x i)(hT:T.Ok P)(ht:P.underlying t=some (.slice T.id))(q:IntKind)(k:Int)(hx:ev E x=v)(hi:ev E i=.int q k)(hv:Sl H T v L)(h0:0≤k)(hl:k<L.length)(m:Nat)(hm:m=k.toNat):jl P E o H ((.pointer (some (elemAt T.size v m)))):=by
 subst hm;refine⟨fun w hw=>?_⟩;subst hw;have e:k=(k.toNat:Int):=by omega
 unfold execOp;simp only[ho,hx,hi];rw[e];exact Mem.run_v (Mem.run_index hv.mem hT ht (by omega) q)
theorem aaS{x i:Operand}{t:TypeId}(ho:o.op=.slice t x none (some i) none)(hT:T.Ok P)(ht:P.underlying t=some (.slice T.id))(q:IntKind)(k:Int)(hx:ev E x=v)(hi:ev E i=.int q k)(hv:Sl H T v L)(h0:0≤k)(hl:k≤L.length)(m:Nat)(hm:m=k.toNat):jl P E o H ((pre v m)):=by
 subst hm;refine⟨fun w hw=>?_⟩;subst hw;unfold execOp;simp only[ho,hx,hi,Option.map_none,Option.map_some];exact Mem.run_v (Mem.run_pre hv.mem ht hT q k h0 hl)
theorem aaT{x i:Operand}{t:TypeId}(ho:o.op=.slice t x (some i) none none)(hT:T.Ok P)(ht:P.underlying t=some (.slice T.id))(q:IntKind)(k:Int)(hx:ev E x=v)(hi:ev E i=.int q k)(hv:Sl H T v L)(h0:0≤k)(hl:k≤L.length)(m:Nat)(hm:m=k.toNat):jl P E o H ((suf T.size v m)):=by
 subst hm;refine⟨fun w hw=>?_⟩;subst hw;unfold execOp;simp only[ho,hx,hi,Option.map_none,Option.map_some];exact Mem.run_v (Mem.run_suf hv.mem ht hT q k h0 hl)
end
section
variable{κ β:Type}[DecidableEq κ]{K:fS κ}{V:β→Value}{b:Nat}{m:List (κ×β)}
theorem Mq{x y:Operand}{t e:TypeId}(ho:o.op=.lookup t x y false)(hK:fS.Ok (β:=β) K P)(ht:P.underlying t=some (.map K.id e))(z:Value)(hz:∀w,(zeroValue e).run P w=.ok z w)(k:κ)(hx:ev E x=.map (some b))(hy:ev E y=K.val k)(hm:Mp H K V b m):jl P E o H ((((bN m k).map V).getD z)):=by
 refine⟨fun w hw=>?_⟩;subst hw;unfold execOp;simp only[ho,hx,hy];exact Mem.run_v (Mem.run_lookup hm.mem hK ht k hz false)
theorem FH{x y:Operand}{t e:TypeId}(ho:o.op=.lookup t x y true)(hK:fS.Ok (β:=β) K P)(ht:P.underlying t=some (.map K.id e))(z:Value)(hz:∀w,(zeroValue e).run P w=.ok z w)(k:κ)(hx:ev E x=.map (some b))(hy:ev E y=K.val k)(hm:Mp H K V b m):jl P E o H ((.tuple #[((bN m k).map V).getD z,.bool (bN m k).isSome])):=by
 refine⟨fun w hw=>?_⟩;subst hw;unfold execOp;simp only[ho,hx,hy];exact Mem.run_v (Mem.run_lookup hm.mem hK ht k hz true)
end
theorem Jj{fn:Func}{R:Value→bb→Prop}{c:List PanicEntry}{a:Act}{w:World}(h:Fin P fn w0 R (.panic c) a w):False:=by
 obtain⟨_,v,hv,_⟩:=h;grind
def NP(Q:Exit→Act→World→Prop):Prop:=∀c a w,Q (.panic c) a w→False
theorem aj{K:Act→World→Prop}(h:NP Q):NP (Exit.then K Q):=h
theorem aL{id:Nat}(h:NP Q):NP (Exit.inBlock id Q):=h
theorem W1{fn:Func}{R:Value→bb→Prop}:NP (Fin P fn w0 R):=fun _ _ _ h=>Jj h
def JH(P:Program)(w0:World)(l:List Oper)(Q:Exit→Act→World→Prop)(n:Nat)(S:bb→Prop)(fuel:Nat)(aG:Array Bool)(E:Env)(H:bb):Prop:=
 ∀a w,Fits n a E→At w0 H w→wpAnyH P .any l.toArray Q (fun w=>S w.heap) fuel aG a w
def jm(P:Program)(l:List Oper)(Q:Exit→Act→World→Prop)(S:bb→Prop)(fuel:Nat)(aG:Array Bool):Exit→Act→World→Prop
 | .normal,a,w=>S w.heap∧wpAnyH P .any l.toArray Q (fun w=>S w.heap) fuel aG a w
 | e,a,w=>Q e a w
theorem W2{id:Nat}(S:bb→Prop)(hm:P.follows .mixedOrders=true)(h:JH P w0 l Q n S l.length (Array.replicate l.length false) E H):JC P w0 (.region id l.toArray true) Q n E H:=
 fun a w hf ha=>wp_region_held hm (by simpa using h a w.drew hf ⟨ha.heap,ha.os,ha.tape,ha.output⟩)
def kb(l:List Oper)(aG:Array Bool)(i:Nat):Bool:=Region.noSelect l.toArray&&Region.free .any l.toArray aG i&&(Region.ready .any l.toArray aG).contains i
theorem Ad(i:Nat)(hi:l[i]?=some o)(hc:kb l aG i=true)(hQ:NP Q)(v:Value)(hd:pa n o.dst=true)(hy:∀a,Fits n a E→YieldsIf P l.toArray (fun w=>S w.heap) o v a)(hS:S H)
  (h:JH P w0 l Q n S fuel (aG.setIfInBounds i true) (put E o.dst v) H):JH P w0 l Q n S (fuel+1) aG E H:=by
 intro a w hf ha;unfold kb at hc;simp only[Bool.and_eq_true]at hc;exact wpAnyH_take (by grind) hc.1.1 hc.1.2 hc.2 (fun c a w hp=>(hQ _ _ _ hp).elim) (hy a hf) (by show S w.heap;rw[ha.heap];exact hS) (h _ w (hf.put o.dst v hd) ha)
theorem RZ(i:Nat)(hi:l[i]?=some o)(hc:kb l aG i=true)(hQ:NP Q)(hk:cU l.toArray n E o=true){v:Value}(hy:∀Hh,S Hh→jl P E o Hh v)(hS:S H)
  (h:JH P w0 l Q n S fuel (aG.setIfInBounds i true) (put E o.dst v) H):JH P w0 l Q n S (fuel+1) aG E H:=by
 unfold cU at hk;simp only[Bool.and_eq_true]at hk;obtain⟨⟨⟨h1,h2⟩,h3⟩,h4⟩:=hk;exact Ad i hi hc hQ v h3 (fun a hf=>.inl ⟨qf hf h1,fun w hw=>by rw[wA hf h2 h4];exact (hy _ hw).run w rfl⟩) hS h
theorem W3(i:Nat)(hi:l[i]?=some o)(hc:kb l aG i=true)(hQ:NP Q)(hu:nG l.toArray E o=true)(hd:pa n o.dst=true)(hS:S H)
  (h:JH P w0 l Q n S fuel (aG.setIfInBounds i true) (put E o.dst undef) H):JH P w0 l Q n S (fuel+1) aG E H:=
 Ad i hi hc hQ undef hd (fun a hf=>.inr ⟨vo hf hu,rfl⟩) hS h
theorem W4(i:Nat)(hi:l[i]?=some o)(hr:Region.ready .any l.toArray aG=[i])(h:JL P w0 l.toArray (jm P l Q S fuel (aG.setIfInBounds i true)) n [o] E H):JH P w0 l Q n S (fuel+1) aG E H:=by
 intro a w hf ha;refine wpAnyH_all hr (by simp) ?_;intro j hj;rw[List.mem_singleton]at hj;subst hj;have:=h a w hf ha;unfold wpOp;rw[show l.toArray[j]?=some o by simpa using hi];exact this
theorem W5(hS:S H)(h:JH P w0 l Q n S fuel aG E H):JX w0 .normal (jm P l Q S fuel aG) n E H:=fun a w hf ha=>⟨by rw[ha.heap];exact hS,h a w hf ha⟩
theorem W6(hr:Region.ready .any l.toArray aG=[])(h:JX w0 .normal Q n E H):JH P w0 l Q n S fuel aG E H:=fun a w hf ha=>wpAnyH_done hr (h a w hf ha) _
theorem W7(t:Nat)(c:Bool)(hh:has E t=true)(hv:look E t=.bool c)(h1:c=true→JH P w0 l Q n S fuel aG ((t,.bool true)::E) H)(h2:c=false→JH P w0 l Q n S fuel aG ((t,.bool false)::E) H):JH P w0 l Q n S fuel aG E H:=by
 have key:∀b,c=b→∀a,Fits n a E→Fits n a ((t,.bool b)::E):=fun b hb a hf=>hf.sub fun t' WX=>by grind[look_cons,has_cons]
 cases hc:c with
 | true=>exact fun a w hf ha=>h1 hc a w (key _ hc a hf) ha
 | false=>exact fun a w hf ha=>h2 hc a w (key _ hc a hf) ha
end
end Go.J
end
section
namespace Go.J
open Go.Hp
open Go.Mem (Ty blk)
section
variable{P:Program}{w0:World}{ops:Array Oper}{Q:Exit→Act→World→Prop}{n:Nat}{E:Env}{H:bb}{o:Oper}{rest:List Oper}{α:Type}{T:Ty α}{v:Value}{L M:List α}{w:World}
theorem aaU {x y : Operand} {ts : Array TypeId} (ho : o.op = .call { callee := .builtin .min, args := #[x, y], argTypes := ts }) (k : IntKind) (a b : Int) (hx : ev E x = .int k a) (hy : ev E y = .int k b) : jl P E o H (.int k (if b < a then b else a)) :=
  ⟨fun w _ => by
    unfold execOp
    simp only [ho, resolve, invoke, builtin, Sem.run_bind, Sem.run_pure, Result.andThen_ok, List.map_toArray, List.map_cons, List.map_nil, hx, hy, Builtin.min_, List.foldlM_cons, List.foldlM_nil, Builtin.min2]⟩
theorem aaV {x y : Operand} {ts : Array TypeId} (ho : o.op = .call { callee := .builtin .max, args := #[x, y], argTypes := ts }) (k : IntKind) (a b : Int) (hx : ev E x = .int k a) (hy : ev E y = .int k b) : jl P E o H (.int k (if a < b then b else a)) :=
  ⟨fun w _ => by
    unfold execOp
    simp only [ho, resolve, invoke, builtin, Sem.run_bind, Sem.run_pure, Result.andThen_ok, List.map_toArray, List.map_cons, List.map_nil, hx, hy, Builtin.max_, List.foldlM_cons, List.foldlM_nil, Builtin.max2]⟩
end
end Go.J
end
section
namespace Go.S
open Go.Hp Go.J
open Go.Mem (Ty fS blk)
structure aW where
 on:bb→(Nat→Prop)→Prop
 lt:∀{H S},on H S→∀k,S k→k<H.size
 keep:∀{H H' S},on H S→(∀k,S k→H'[k]?=H[k]?)→on H' S
def eC:List aW→bb→(Nat→Prop)→Prop
 | [],_,S=>∀k,¬S k
 | A::r,H,S=>∃S1 S2,A.on H S1∧eC r H S2∧(∀k,S1 k→¬S2 k)∧∀k,S k↔S1 k∨S2 k
theorem eC.lt:∀{As:List aW}{H:bb}{S:Nat→Prop},eC As H S→∀k,S k→k<H.size
 | [],_,_,h,k,hk=>absurd hk (h k)
 | A::r,H,S,⟨S1,S2,h1,h2,_,hS⟩,k,hk=>by
  rcases (hS k).1 hk with h|h
  .exact A.lt h1 k h
  exact eC.lt h2 k h
theorem eC.keep:∀{As:List aW}{H H':bb}{S:Nat→Prop},eC As H S→(∀k,S k→H'[k]?=H[k]?)→eC As H' S
 | [],_,_,_,h,_=>h
 | A::r,H,H',S,⟨S1,S2,h1,h2,hd,hS⟩,hk=>⟨S1,S2,A.keep h1 fun k h=>hk k ((hS k).2 (.inl h)),eC.keep h2 fun k h=>hk k ((hS k).2 (.inr h)),hd,hS⟩
theorem eC.ext{As:List aW}{H:bb}{S S':Nat→Prop}(h:eC As H S)(e:∀k,S k↔S' k):eC As H S':=by
 have:S=S':=funext fun k=>propext (e k)
 grind
theorem eC.swap{A B:aW}{r:List aW}{H:bb}{S:Nat→Prop}(h:eC (A::B::r) H S):eC (B::A::r) H S:=by
 obtain⟨S1,S2,h1,⟨S3,S4,h3,h4,CF,CG⟩,hd,hS⟩:=h;refine⟨S3,fun k=>S1 k∨S4 k,h3,⟨S1,S4,h1,h4,fun k a b=>hd k a ((CG k).2 (.inr b)),fun k=>Iff.rfl⟩,?_,?_⟩;all_goals grind
theorem eC.cons{A:aW}{r r':List aW}{H:bb}{S:Nat→Prop}(h:eC (A::r) H S)(hr:∀S,eC r H S→eC r' H S):eC (A::r') H S:=by
 obtain⟨S1,S2,h1,h2,hd,hS⟩:=h;exact⟨S1,S2,h1,hr _ h2,hd,hS⟩
theorem eC.append_iff:∀{As Bs:List aW}{H:bb}{S:Nat→Prop},eC (As++Bs) H S↔∃S1 S2,eC As H S1∧eC Bs H S2∧(∀k,S1 k→¬S2 k)∧∀k,S k↔S1 k∨S2 k
 | [],Bs,H,S=>by
  constructor
  .intro h;exact⟨fun _=>False,S,fun k h=>h,h,fun k h=>h.elim,fun k=>by simp⟩
  rintro⟨S1,S2,h1,h2,_,hS⟩;exact h2.ext fun k=>by rw[hS k];simp[h1 k]
 | A::r,Bs,H,S=>by
  constructor
  .rintro ⟨S1,S2,h1,h2,hd,hS⟩;obtain⟨S3,S4,h3,h4,CF,CG⟩:=eC.append_iff.1 h2;refine⟨fun k=>S1 k∨S3 k,S4,⟨S1,S3,h1,h3,fun k a b=>hd k a ((CG k).2 (.inl b)),fun k=>Iff.rfl⟩,h4,?_,?_⟩;all_goals grind
  rintro⟨S1,S2,⟨S3,S4,h3,h4,CF,CG⟩,h2,hd,hS⟩;refine⟨S3,fun k=>S4 k∨S2 k,h3,eC.append_iff.2 ⟨S4,S2,h4,h2,fun k a b=>hd k ((CG k).2 (.inr a)) b,fun k=>Iff.rfl⟩,?_,?_⟩;all_goals grind
def gt:List aW→Nat→Option aW
 | [],_=>none
 | A::_,0=>some A
 | _::r,i+1=>gt r i
def upd:List aW→Nat→aW→List aW
 | [],_,_=>[]
 | _::r,0,B=>B::r
 | A::r,i+1,B=>A::upd r i B
def del:List aW→Nat→List aW
 | [],_=>[]
 | _::r,0=>r
 | A::r,i+1=>A::del r i
theorem eC.pull:∀{As:List aW}{i:Nat}{A:aW}{H:bb}{S:Nat→Prop},gt As i=some A→eC As H S→eC (A::del As i) H S
 | [],i,A,_,_,e,_=>by cases i<;>cases e
 | B::r,0,A,_,_,e,h=>by cases e;exact h
 | B::r,i+1,A,_,_,e,h=>eC.swap (h.cons fun _ hr=>eC.pull (i:=i) e hr)
theorem eC.push:∀{As:List aW}{i:Nat}{A B:aW}{H:bb}{S:Nat→Prop},gt As i=some A→eC (B::del As i) H S→eC (upd As i B) H S
 | [],i,A,_,_,_,e,_=>by cases i<;>cases e
 | C::r,0,A,_,_,_,e,h=>h
 | C::r,i+1,A,_,_,_,e,h=>(eC.swap h).cons fun _ hr=>eC.push (i:=i) e hr
structure bK where
 heap:bb
 dom:Nat→Prop
structure Holds(Z:bK)(As:List aW)(H:bb):Prop where
 zone:∀k,Z.dom k→H[k]?=Z.heap[k]?∧k<H.size
 sep:∃S,eC As H S∧∀k,S k→¬Z.dom k
abbrev gK(H:bb):bK:=⟨H,fun k=>k<H.size⟩
section
variable{Z:bK}{As Bs:List aW}{H H':bb}{A A':aW}{i:Nat}
theorem Holds.start(H:bb):Holds (gK H) [] H:=⟨fun k hk=>⟨rfl,hk⟩,fun _=>False,fun k h=>h,fun k h=>h.elim⟩
theorem Holds.imp(h:Holds Z As H)(f:∀S,eC As H S→eC Bs H S):Holds Z Bs H:=by
 obtain⟨S,hS,hd⟩:=h.sep;exact⟨h.zone,S,f S hS,hd⟩
theorem Holds.pull(h:Holds Z As H)(hi:gt As i=some A):Holds Z (A::del As i) H:=h.imp fun _=>eC.pull hi
theorem Holds.push(hi:gt As i=some A)(h:Holds Z (A'::del As i) H):Holds Z (upd As i A') H:=h.imp fun _=>eC.push hi
theorem Holds.tail(h:Holds Z (A::As) H):Holds Z As H:=by
 obtain⟨S,⟨S1,S2,h1,h2,CF,hS⟩,hd⟩:=h.sep;exact⟨h.zone,S2,h2,fun k hk=>hd k ((hS k).2 (.inr hk))⟩
theorem Holds.drop(h:Holds Z As H)(hi:gt As i=some A):Holds Z (del As i) H:=(h.pull hi).tail
theorem Holds.swap{B:aW}(h:Holds Z (A::B::As) H):Holds Z (B::A::As) H:=h.imp fun _=>eC.swap
theorem Holds.part(h:Holds Z As H)(hi:gt As i=some A):∃S,A.on H S∧∀k,S k→¬Z.dom k:=by
 obtain⟨S,⟨S1,S2,h1,_,_,hS⟩,hd⟩:=(h.pull hi).sep;grind
theorem Holds.step0(h:Holds Z (A::As) H)(hs:∀S,A.on H S→∃S',A'.on H' S'∧Chg S H H'∧∀k,S' k→S k∨H.size≤k):Holds Z (A'::As) H':=by
 obtain⟨S,⟨S1,S2,h1,h2,CF,hS⟩,hd⟩:=h.sep;obtain⟨S1',Vg,hc,Mr⟩:=hs S1 h1;refine⟨fun k hk=>?_,fun k=>S1' k∨S2 k,⟨S1',S2,Vg,h2.keep fun k hk=>?_,fun k a b=>?_,fun k=>Iff.rfl⟩,?_⟩
 .have hz:=h.zone k hk;refine⟨(hc.block k hz.2 fun h1k=>?_).trans hz.1,Nat.lt_of_lt_of_le hz.2 hc.size⟩;grind
 .exact hc.block k (h2.lt k hk) fun h1k=>CF k h1k hk
 .rcases Mr k a with h|h
  .grind
  have:=h2.lt k b;omega
 rintro k (a|a) hz
 .rcases Mr k a with h'|h'
  .grind
  have:=(h.zone k hz).2;omega
 grind
theorem Holds.step(h:Holds Z As H)(hi:gt As i=some A)(hs:∀S,A.on H S→∃S',A'.on H' S'∧Chg S H H'∧∀k,S' k→S k∨H.size≤k):Holds Z (upd As i A') H':=
 Holds.push hi ((h.pull hi).step0 hs)
theorem Holds.ext(h:Holds Z As H)(hc:Chg (fun _=>False) H H'):Holds Z As H':=by
 obtain⟨S,hS,hd⟩:=h.sep;exact⟨fun k hk=>⟨(hc.block k (h.zone k hk).2 fun h=>h).trans (h.zone k hk).1,Nat.lt_of_lt_of_le (h.zone k hk).2 hc.size⟩,S,hS.keep fun k hk=>hc.block k (hS.lt k hk) fun h=>h,hd⟩
theorem Holds.news{S':Nat→Prop}(h:Holds Z As H)(hc:Chg (fun _=>False) H H')(hB:eC Bs H' S')(hlo:∀k,S' k→H.size≤k):Holds Z (Bs++As) H':=by
 obtain⟨S,hS,hd⟩:=h.sep;refine⟨(h.ext hc).zone,fun k=>S' k∨S k,eC.append_iff.2 ⟨S',S,hB,hS.keep fun k hk=>hc.block k (hS.lt k hk) fun h=>h,fun k a b=>?_,fun k=>Iff.rfl⟩,?_⟩
 .have:=hlo k a;have:=hS.lt k b;omega
 rintro k (a|a) hz
 .have:=hlo k a;have:=(h.zone k hz).2;omega
 grind
theorem Holds.new{S':Nat→Prop}(h:Holds Z As H)(hc:Chg (fun _=>False) H H')(hB:A.on H' S')(hlo:∀k,S' k→H.size≤k):Holds Z (A::As) H':=
 h.news (Bs:=[A]) hc ⟨S',fun _=>False,hB,fun k h=>h,fun k _ h=>h,fun k=>by simp⟩ hlo
theorem Holds.join(h:Holds Z As H)(k:Holds (gK H) Bs H'):Holds Z (Bs++As) H':=by
 obtain⟨S,hS,hd⟩:=k.sep;refine h.news ⟨?_,fun j hj _=>(k.zone j hj).1⟩ hS fun j hj=>Nat.le_of_not_lt (hd j hj)
 cases hs:H.size with
 | zero=>exact Nat.zero_le _
 | succ m=>exact (k.zone m (show m<H.size by omega)).2
theorem Holds.chg(k:Holds (gK H) Bs H'):Chg (fun _=>False) H H':=by
 refine⟨?_,fun j hj _=>(k.zone j hj).1⟩;cases hs:H.size with
 | zero=>exact Nat.zero_le _
 | succ m=>exact (k.zone m (show m<H.size by omega)).2
theorem Holds.perm(h:Holds Z As H)(hp:As.Perm Bs):Holds Z Bs H:=by
 refine h.imp fun S hS=>?_
 clear h;induction hp generalizing S with
 | nil=>exact hS
 | cons _ _ ih=>exact hS.cons ih
 | swap=>exact hS.swap
 | trans _ _ ih1 ih2=>exact ih2 _ (ih1 _ hS)
/-! ### Parts -/
def aa(g:Nat)(arr:Array Value)(e:TypeId):aW where
 on H S:=H[g]?=some (.cells arr e (0,0))∧∀k,S k↔k=g
 lt h k hk:=by obtain rfl:=(h.2 k).1 hk;exact fh h.1
 keep h hk:=⟨(hk g ((h.2 g).2 rfl)).trans h.1,h.2⟩
def own{α:Type}(T:Ty α)(v:Value)(L:List α):aW where
 on H S:=Ow H T v L∧∀k,S k↔blk v=some k
 lt h k hk:=h.1.lt ((h.2 k).1 hk)
 keep h hk:=⟨h.1.kept fun g hg=>hk g ((h.2 g).2 hg),h.2⟩
def dr{κ β:Type}[DecidableEq κ](K:fS κ)(V:β→Value)(b:Nat)(m:List (κ×β)):aW where
 on H S:=Mp H K V b m∧∀k,S k↔k=b
 lt h k hk:=by obtain rfl:=(h.2 k).1 hk;exact h.1.lt
 keep h hk:=⟨h.1.kept (hk b ((h.2 b).2 rfl)),h.2⟩
def lj{ι:Type}(A:ι→aW):aW where
 on H S:=∃x,(A x).on H S
 lt h k hk:=by obtain⟨x,h⟩:=h;exact (A x).lt h k hk
 keep h hk:=by obtain⟨x,h⟩:=h;exact⟨x,(A x).keep h hk⟩
def zr(p:Prop)(As:List aW):aW where
 on H S:=p∧eC As H S
 lt h k hk:=h.2.lt k hk
 keep h hk:=⟨h.1,h.2.keep hk⟩
theorem Holds.open_st{p:Prop}(h:Holds Z (zr p As::Bs) H):p∧Holds Z (As++Bs) H:=by
 obtain⟨S,⟨S1,S2,h1,h2,CF,hS⟩,hd⟩:=h.sep;exact⟨h1.1,h.zone,S,eC.append_iff.2 ⟨S1,S2,h1.2,h2,CF,hS⟩,hd⟩
theorem Holds.shut_st{p:Prop}(hp:p)(h:Holds Z (As++Bs) H):Holds Z (zr p As::Bs) H:=h.imp fun S hS=>by
 obtain⟨S1,S2,h1,h2,hd,CG⟩:=eC.append_iff.1 hS;exact⟨S1,S2,⟨hp,h1⟩,h2,hd,CG⟩
theorem Holds.open_ex{ι:Type}{A:ι→aW}(h:Holds Z (lj A::Bs) H):∃x,Holds Z (A x::Bs) H:=by
 obtain⟨S,⟨S1,S2,⟨x,h1⟩,h2,CF,hS⟩,hd⟩:=h.sep;exact⟨x,h.zone,S,⟨S1,S2,h1,h2,CF,hS⟩,hd⟩
theorem Holds.shut_ex{ι:Type}{A:ι→aW}(x:ι)(h:Holds Z (A x::Bs) H):Holds Z (lj A::Bs) H:=h.imp fun S ⟨S1,S2,h1,h2,hd,hS⟩=>⟨S1,S2,⟨x,h1⟩,h2,hd,hS⟩
theorem Holds.blk{g:Nat}{arr:Array Value}{e:TypeId}(h:Holds Z As H)(hi:gt As i=some (aa g arr e)):H[g]?=some (.cells arr e (0,0)):=by
 obtain⟨S,hS,_⟩:=h.part hi;exact hS.1
theorem Holds.ow{α:Type}{T:Ty α}{v:Value}{L:List α}(h:Holds Z As H)(hi:gt As i=some (own T v L)):Ow H T v L:=by
 obtain⟨S,hS,_⟩:=h.part hi;exact hS.1
theorem Holds.mp{κ β:Type}[DecidableEq κ]{K:fS κ}{V:β→Value}{b:Nat}{m:List (κ×β)}(h:Holds Z As H)(hi:gt As i=some (dr K V b m)):Mp H K V b m:=by
 obtain⟨S,hS,_⟩:=h.part hi;exact hS.1
def Kn{α:Type}(Z:bK)(T:Ty α)(v:Value)(L:List α):Prop:=∀H:bb,(∀k,Z.dom k→H[k]?=Z.heap[k]?∧k<H.size)→Sl H T v L
theorem Kn.of{α:Type}{T:Ty α}{v:Value}{L:List α}(h:Sl H T v L):Kn (gK H) T v L:=fun _ hz=>h.kept' fun g _ hl=>(hz g hl).1
theorem Kn.get{α:Type}{T:Ty α}{v:Value}{L:List α}(k:Kn Z T v L)(h:Holds Z As H):Sl H T v L:=k H h.zone
end
end Go.S
end
