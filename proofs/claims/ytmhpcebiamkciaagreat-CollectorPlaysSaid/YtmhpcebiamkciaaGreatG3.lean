/-
  The data of layers 11 to 13: values, slots. No condition.
-/
import Derived.Test.YtmhpcebiamkciaaGreatG2
import Derived.Test.YtmhpcebiamkciaaGreatProg
set_option linter.unusedSimpArgs false
set_option linter.unusedVariables false
set_option maxRecDepth 100000
set_option maxHeartbeats 2000000
section
namespace Go.Proofs.YtmhpcebiamkciaaGreat
open Go.Hp Go.J Go.S
open Go.Mem (Ty fS blk elemAt pre suf blk_pre fM bN dO rF cm)
theorem Tryz.mixed:Tryz.prog.follows .mixedOrders=true:=by kernel_rfl
theorem pg{α:Type}(T:Ty α)(d:TypeDesc)(i:TypeInfo)(qV:0<T.size)(hlen:∀x,(T.enc x).length=T.size)(ad8:∀x,∀u∈T.enc x,u.oneCell'=true)(FO:∀x,T.val x=if T.agg then .agg (T.enc x).toArray else (T.enc x).headD undef)
  (hd:Tryz.prog.underlying T.id=some d) (ha:cm d=T.agg) (h1:T.agg=false→T.size=1) (hi:Tryz.prog.info? T.id=some i) (hs:i.size=T.size) (hb:i.bytes=T.bytes) (hz:i.zero=some (T.val T.zero)):T.Ok Tryz.prog:=
 ⟨qV,hlen,ad8,FO,⟨d,hd,ha⟩,h1,⟨i,hi,hs,hb,hz⟩⟩
theorem fN{v:Value}(h:l9 0 v=true):∃n,v=.int .i64 n:=by
 cases v<;>simp[l9]at h
 rename_i k n
 cases k<;>simp[l9]at h
 exact⟨n,rfl⟩
theorem Bz{v:Value}(h:l9 1 v=true):∃n,v=.string n:=by
 cases v<;>simp[l9]at h
 exact⟨_,rfl⟩
abbrev Vl.v(x:Vl):Value:=.agg #[.int .i64 x.kind,.int .i64 x.p,.int .i64 x.q,.string x.str,.int .i64 x.ref]
abbrev vc(x:Vl):Array Value:=#[.int .i64 x.kind,.int .i64 x.p,.int .i64 x.q,.string x.str,.int .i64 x.ref]
abbrev zc:Array Value:=#[.int .i64 0,.int .i64 0,.int .i64 0,.string ByteArray.empty,.int .i64 0]
abbrev iw(n:Int):Value:=.int .i64 n
abbrev sw(s:ByteArray):Value:=.string s
abbrev eb:ByteArray:=ByteArray.empty
theorem sP{P:Program}{w0:World}{ops:Array Oper}{Q:Exit→Act→World→Prop}{n:Nat}{E:Env}{Z:bK}{As:List aW}{rest:List Oper}(v:Value){d:Nat}{op:Op}{ty:TypeId}{ps:String}{af:Array Edge}{gd:Option (Nat×Bool)}(h:SL P w0 ops Q n rest ((d,v)::E) Z As)(hr:∀w,(execOp (ev E) ⟨some d,op,ty,ps,af,gd⟩).run P w=.ok (.value v) w:=by exact fun _=>rfl)(hk:cU ops n E ⟨some d,op,ty,ps,af,gd⟩=true:=by kernel_rfl):SL P w0 ops Q n (⟨some d,op,ty,ps,af,gd⟩::rest) E Z As:=sp v h hr rfl hk
theorem sL{P:Program}{w0:World}{ops:Array Oper}{Q:Exit→Act→World→Prop}{n:Nat}{E:Env}{Z:bK}{As:List aW}{rest:List Oper}{v:Value}{d:Nat}{op:Op}{ty:TypeId}{ps:String}{af:Array Edge}{gd:Option (Nat×Bool)}(t:Lt P E ⟨some d,op,ty,ps,af,gd⟩ Z As v)(h:SL P w0 ops Q n rest ((d,v)::E) Z As)(hk:cU ops n E ⟨some d,op,ty,ps,af,gd⟩=true:=by kernel_rfl):SL P w0 ops Q n (⟨some d,op,ty,ps,af,gd⟩::rest) E Z As:=aa0 t h rfl hk
theorem sK{P:Program}{w0:World}{ops:Array Oper}{Q:Exit→Act→World→Prop}{n:Nat}{E:Env}{Z:bK}{As:List aW}{rest:List Oper}{d:Nat}{op:Op}{ty:TypeId}{ps:String}{af:Array Edge}{gd:Option (Nat×Bool)}(h:SL P w0 ops Q n rest ((d,undef)::E) Z As)(hu:nG ops E ⟨some d,op,ty,ps,af,gd⟩=true:=by kernel_rfl)(hk:pa n (some d)=true:=by rfl):SL P w0 ops Q n (⟨some d,op,ty,ps,af,gd⟩::rest) E Z As:=Xn h rfl hu hk
theorem rr{Z:bK}{As Bs:List aW}(is ds:List Nat)(e:Go.S.dels (Go.S.rearr As is) ds=Bs:=by rfl):∀H,Holds Z As H→Holds Z Bs H:=fun _ h=>h.re is ds e
theorem s5:∀{E:Env}{p:Nat×Value},p∈E→J.has E p.1=true
 | (k,v)::r,p,h=>by
  rw[J.has_cons];rcases List.mem_cons.1 h with rfl|h
  .simp
  rw[s5 h];simp
theorem HU:∀(X E:Env) (t:Nat),J.has (X++E) t=(J.has X t||J.has E t)
 | [],E,t=>by simp[J.has]
 | (k,v)::r,E,t=>by
  rw[List.cons_append,J.has_cons,J.has_cons,HU r E t,Bool.or_assoc]
theorem s6:∀(X E:Env) (t:Nat),J.look (X++E) t=if J.has X t then J.look X t else J.look E t
 | [],E,t=>by simp[J.has]
 | (k,v)::r,E,t=>by
  rw[List.cons_append,J.look_cons,J.look_cons,J.has_cons,s6 r E t];by_cases e:k=t<;>simp[e]
theorem sbx{E Ee X:Env}(h1:Ee.drop (Ee.length-E.length)=E:=by kernel_rfl)(h2:((Ee.take (Ee.length-E.length)).all fun p=>J.has X p.1||!J.has E p.1)=true:=by kernel_rfl)(hd:mQ X=true:=by rfl)(h:RI Ee X:=by repeat first|exact trivial|refine⟨⟨rfl,rfl⟩,?_⟩):mq Ee (X++E):=by
 have hX:=bc hd h;have e:Ee=Ee.take (Ee.length-E.length)++E:=by
  conv=>lhs;rw[←List.take_append_drop (Ee.length-E.length) Ee,h1]
 intro p hp;by_cases hx:J.has X p.1=true
 .obtain ⟨v,hv⟩:=J.has_mem hx;have:=hX _ hv;rw[s6,if_pos hx];exact this
 have hE:J.has E p.1=true:=by
  rcases List.mem_append.1 hp with hp|hp
  .exact absurd (s5 hp) hx
  exact s5 hp
 have hn:J.has (Ee.take (Ee.length-E.length)) p.1=false:=by
  cases hq:J.has (Ee.take (Ee.length-E.length)) p.1 with
  | false=>rfl
  | true=>
   obtain⟨v,hv⟩:=J.has_mem hq;have:=List.all_eq_true.1 h2 _ hv;simp only[hE]at this;simp at this;exact absurd this hx
 rw[s6,if_neg hx];refine⟨by rw[e,HU,hE];simp,?_⟩;conv=>lhs;rw[e,s6,hn]
 simp
theorem sA{E E':Env}(h:mq E E':=by first|exact bc rfl (by repeat first|exact trivial|refine⟨⟨rfl,rfl⟩,?_⟩)|exact sbx):mq E E':=h
theorem om{P:Prop}(h:P:=by omega):P:=h
theorem ol{P:Prop}(h:P:=by (try simp only[cD]);omega):P:=h
theorem dY{p:Prop}[Decidable p](h:decide p=true):p:=of_decide_eq_true h
theorem dF{p:Prop}[Decidable p](h:decide p=false):¬p:=of_decide_eq_false h
theorem cB{a b:Bool}(h:a=b):Value.bool a=Value.bool b:=congrArg _ h
theorem cI{a b:Int}(h:a=b):Value.int .i64 a=Value.int .i64 b:=congrArg _ h
theorem nH{P:Program}{w0:World}{Q:Exit→Act→World→Prop}{n:Nat}{E:Env}{Z:bK}{As:List aW}{l:List Oper}{Ks:List aW}{fuel:Nat}{aG:Array Bool}{ops:Array Oper}(is:List Nat){Fs:List aW}(h:SH P w0 l Q n Z Ks fuel aG E As)(hS:rearr As is=Ks++Fs:=by rfl):SL P w0 ops (jm P l Q (HS Z Ks) fuel aG) n [] E Z As:=a8 (Sb is h hS)
theorem sC{P:Program}{w0:World}{ops:Array Oper}{Q:Exit→Act→World→Prop}{n:Nat}{E:Env}{Z:bK}{As:List aW}{rest:List Oper}{f:FuncId}{xs:Array Operand}{ts:Array TypeId}{vals:List Value}{d:Nat}{ty:TypeId}{ps:String}{af:Array Edge}{gd:Option (Nat×Bool)}{v:Value}{Ah Bs:List aW}(is:List Nat)(hc:SF P f vals.toArray Z Ah fun r Ng=>r=v∧Ng=Bs)(h:SL P w0 ops Q n rest ((d,v)::E) Z Bs)(hp:rearr As is=Ah:=by rfl)(hx:(xs.toList.map (ev E))=vals:=by rfl)(hfn:rI P f=true:=by kernel_rfl)(hk:cU ops n E ⟨some d,.call { callee:=.value (.func f),args:=xs,argTypes:=ts },ty,ps,af,gd⟩=true:=by kernel_rfl):SL P w0 ops Q n (⟨some d,.call { callee:=.value (.func f),args:=xs,argTypes:=ts },ty,ps,af,gd⟩::rest) E Z As:=aH is hc (by rintro _ _ ⟨rfl,rfl⟩;exact h) hp rfl hx rfl hfn hk
theorem sV{P:Program}{w0:World}{ops:Array Oper}{Q:Exit→Act→World→Prop}{n:Nat}{E:Env}{Z:bK}{As:List aW}{rest:List Oper}{f:FuncId}{xs:Array Operand}{ts:Array TypeId}{vals:List Value}{d:Nat}{ty:TypeId}{ps:String}{af:Array Edge}{gd:Option (Nat×Bool)}{v:Value}(hc:∀H,Holds Z As H→SF P f vals.toArray (gK H) [] fun r Bs=>r=v∧Bs=[])(h:SL P w0 ops Q n rest ((d,v)::E) Z As)(hx:(xs.toList.map (ev E))=vals:=by rfl)(hfn:rI P f=true:=by kernel_rfl)(hk:cU ops n E ⟨some d,.call { callee:=.value (.func f),args:=xs,argTypes:=ts },ty,ps,af,gd⟩=true:=by kernel_rfl):SL P w0 ops Q n (⟨some d,.call { callee:=.value (.func f),args:=xs,argTypes:=ts },ty,ps,af,gd⟩::rest) E Z As:=iV hc (by rintro _ rfl;exact h) rfl hx rfl hfn hk
theorem sF{P:Program}{w0:World}{ops:Array Oper}{Q:Exit→Act→World→Prop}{n:Nat}{E:Env}{Z:bK}{As:List aW}{l:List Oper}{α:Type}{T:Ty α}{v:Value}{L:List α}(i:Nat)(h:(∃p c,v=.slice p L.length c)→SL P w0 ops Q n l E Z As)(hi:gt As i=some (own T v L):=by rfl):SL P w0 ops Q n l E Z As:=bl (fun H h=>((Acc.own (T:=T) (L:=L) i hi) H h).form) h
theorem fE{P:Value→Prop}{v:Value}{n:Nat}(h:∃p c,v=.slice p n c)(k:∀p c,P (.slice p n c):=by intro _ _;exact rfl):P v:=by
 obtain⟨p,c,e⟩:=h;rw[e];exact k p c
theorem sE{P:Program}{w0:World}{ops:Array Oper}{Q:Exit→Act→World→Prop}{n:Nat}{E:Env}{Z:bK}{As:List aW}{rest:List Oper}{o:Oper}{t:TypeId}{x y:Operand}{g k j:Nat}{arr:Array Value}{e:TypeId}{v:Value}(hf:∃p c,v=.slice p j c)(i:Nat)(xn:Array Value)(h:SL P w0 ops Q n rest E Z (upd As i (aa g xn e)))(ho:o.op=.store t x y:=by rfl)(hx:ev E x=.pointer (some ⟨g,k,none⟩):=by rfl)(hy:ev E y=v:=by rfl)(hA:gt As i=some (aa g arr e):=by rfl)(hs:l8 P t 1=true:=by kernel_rfl)(mn:Nat.ble (k+1) arr.size=true:=by rfl)(ha':(Go.Mem.spliceAt arr.toList k [v])=xn.toList:=by rfl)(hd:o.dst=none:=by rfl)(hk:cU ops n E o=true:=by kernel_rfl):SL P w0 ops Q n (o::rest) E Z As:=
 ar (u:=v) (m:=1) i xn h ho hx hy hA (by obtain⟨p,c,rfl⟩:=hf;rfl) hs mn (by obtain⟨p,c,rfl⟩:=hf;rfl) (by obtain⟨p,c,rfl⟩:=hf;exact ha') hd hk
abbrev nS:Value:=.slice none 0 0
def tfB:Bool→List Nat→List Bool
 | _,[]=>[]
 | b,n::r=>List.replicate n b++tfB (!b) r
abbrev tf(l:List Nat):Array Bool:=(tfB true l).toArray
theorem rQ{α β:Type}{a:α}{b:β}{C:Prop}(h:C):(a=a∧b=b)∧C:=⟨⟨rfl,rfl⟩,h⟩
theorem oN{P:Program}{w0:World}{ops:Array Oper}{Q:Exit→Act→World→Prop}{n:Nat}{E:Env}{Z:bK}{As:List aW}{rest:List Oper}(v:Value){d1:Nat}{Xs:Op}{Xt:TypeId}{LG:String}{Xu:Array Edge}{Xv:Option (Nat×Bool)}{d2:Nat}{Xw:Op}{Xx:TypeId}{Xy:String}{Xz:Array Edge}{XA:Option (Nat×Bool)}(h:SL P w0 ops Q n rest ((d2,v)::(d1,v)::E) Z As)(r1:∀w,(execOp (ev (E)) ⟨some d1,Xs,Xt,LG,Xu,Xv⟩).run P w=.ok (.value v) w:=by exact fun _=>rfl)(k1:cU ops n (E) ⟨some d1,Xs,Xt,LG,Xu,Xv⟩=true:=by kernel_rfl)(r2:∀w,(execOp (ev ((d1,v)::E)) ⟨some d2,Xw,Xx,Xy,Xz,XA⟩).run P w=.ok (.value v) w:=by exact fun _=>rfl)(k2:cU ops n ((d1,v)::E) ⟨some d2,Xw,Xx,Xy,Xz,XA⟩=true:=by kernel_rfl):SL P w0 ops Q n (⟨some d1,Xs,Xt,LG,Xu,Xv⟩::⟨some d2,Xw,Xx,Xy,Xz,XA⟩::rest) E Z As:=sP v (sP v h r2 k2) r1 k1
theorem Q5{P:Program}{w0:World}{ops:Array Oper}{Q:Exit→Act→World→Prop}{n:Nat}{E:Env}{Z:bK}{As:List aW}{rest:List Oper}(v:Value){d1:Nat}{Xs:Op}{Xt:TypeId}{LG:String}{Xu:Array Edge}{Xv:Option (Nat×Bool)}{d2:Nat}{Xw:Op}{Xx:TypeId}{Xy:String}{Xz:Array Edge}{XA:Option (Nat×Bool)}{d3:Nat}{op3:Op}{ty3:TypeId}{pC:String}{af3:Array Edge}{gd3:Option (Nat×Bool)}(h:SL P w0 ops Q n rest ((d3,v)::(d2,v)::(d1,v)::E) Z As)(r1:∀w,(execOp (ev (E)) ⟨some d1,Xs,Xt,LG,Xu,Xv⟩).run P w=.ok (.value v) w:=by exact fun _=>rfl)(k1:cU ops n (E) ⟨some d1,Xs,Xt,LG,Xu,Xv⟩=true:=by kernel_rfl)(r2:∀w,(execOp (ev ((d1,v)::E)) ⟨some d2,Xw,Xx,Xy,Xz,XA⟩).run P w=.ok (.value v) w:=by exact fun _=>rfl)(k2:cU ops n ((d1,v)::E) ⟨some d2,Xw,Xx,Xy,Xz,XA⟩=true:=by kernel_rfl)(r3:∀w,(execOp (ev ((d2,v)::(d1,v)::E)) ⟨some d3,op3,ty3,pC,af3,gd3⟩).run P w=.ok (.value v) w:=by exact fun _=>rfl)(k3:cU ops n ((d2,v)::(d1,v)::E) ⟨some d3,op3,ty3,pC,af3,gd3⟩=true:=by kernel_rfl):SL P w0 ops Q n (⟨some d1,Xs,Xt,LG,Xu,Xv⟩::⟨some d2,Xw,Xx,Xy,Xz,XA⟩::⟨some d3,op3,ty3,pC,af3,gd3⟩::rest) E Z As:=sP v (sP v (sP v h r3 k3) r2 k2) r1 k1
def bq:Ty Vl:=⟨71,5,48,true,Vl.v,⟨0,0,0,ByteArray.empty,0⟩⟩
theorem aZ:bq.Ok Tryz.prog:=pg bq _ Tryz.t71 (by decide) (fun _=>rfl) (fun x u hu=>by simp[Ty.enc,bq,Value.cells]at hu;rcases hu with rfl|rfl|rfl|rfl|rfl<;>rfl) (fun _=>rfl) Tryz.underlying71 rfl (fun h=>by cases h) (by kernel_rfl) (by kernel_rfl) (by kernel_rfl) (by kernel_rfl)
theorem ic(x y:Vl)(w:World):(binOp .eql 71 x.v y.v).run Tryz.prog w=.ok (.bool (decide (x=y))) w∧(binOp .neq 71 x.v y.v).run Tryz.prog w=.ok (.bool (!decide (x=y))) w:=by
 have h:=J.run_eqS (P:=Tryz.prog) (t:=71) [0,0,0,1,0] (by kernel_rfl) (by kernel_rfl) #[.int .i64 x.kind,.int .i64 x.p,.int .i64 x.q,.string x.str,.int .i64 x.ref] #[.int .i64 y.kind,.int .i64 y.p,.int .i64 y.q,.string y.str,.int .i64 y.ref] rfl rfl w;have e:J.cellsEq [.int .i64 x.kind,.int .i64 x.p,.int .i64 x.q,.string x.str,.int .i64 x.ref] [.int .i64 y.kind,.int .i64 y.p,.int .i64 y.q,.string y.str,.int .i64 y.ref]=decide (x=y):=by
  cases x;cases y;rw[Bool.eq_iff_iff];simp[J.cellsEq,J.cellEq]
 rw[e]at h;exact h
abbrev an:Ty Int:=iT 3
theorem ak:an.Ok Tryz.prog:=aa8 (i:=Tryz.t3) Tryz.underlying3 (by kernel_rfl) (by kernel_rfl) (by kernel_rfl) (by kernel_rfl)
abbrev nA:Ty Bool:=bT 4
theorem gg:nA.Ok Tryz.prog:=aa9 (i:=Tryz.t4) Tryz.underlying4 (by kernel_rfl) (by kernel_rfl) (by kernel_rfl) (by kernel_rfl)
abbrev cY.v(x:cY):Value:=.agg #[.int .i64 x.key.kind,.int .i64 x.key.p,.int .i64 x.key.q,.string x.key.str,.int .i64 x.key.ref,.int .i64 x.val.kind,.int .i64 x.val.p,.int .i64 x.val.q,.string x.val.str,.int .i64 x.val.ref,.bool x.gone]
def lG:Ty cY:=⟨261,11,104,true,cY.v,⟨bw,bw,false⟩⟩
theorem bP:lG.Ok Tryz.prog:=pg lG _ Tryz.t261 (by decide) (fun _=>rfl) (fun x u hu=>by simp[Ty.enc,lG,Value.cells]at hu;rcases hu with rfl|rfl|rfl|rfl|rfl|rfl|rfl|rfl|rfl|rfl|rfl<;>rfl) (fun _=>rfl) Tryz.underlying261 rfl (fun h=>by cases h) (by kernel_rfl) (by kernel_rfl) (by kernel_rfl) (by kernel_rfl)
def kW:Ty cY:=⟨264,11,104,true,cY.v,⟨bw,bw,false⟩⟩
theorem aR:kW.Ok Tryz.prog:=pg kW _ Tryz.t264 (by decide) (fun _=>rfl) (fun x u hu=>by simp[Ty.enc,kW,Value.cells]at hu;rcases hu with rfl|rfl|rfl|rfl|rfl|rfl|rfl|rfl|rfl|rfl|rfl<;>rfl) (fun _=>rfl) Tryz.underlying264 rfl (fun h=>by cases h) (by kernel_rfl) (by kernel_rfl) (by kernel_rfl) (by kernel_rfl)
def vK:fS Vl:=⟨71,Vl.v⟩
theorem mZ{β:Type}:fS.Ok (β:=β) vK Tryz.prog:=by
 refine Go.Mem.structK_ok (K:=vK) Tryz.underlying71 (fun k=>⟨_,rfl⟩) (fun b k w=>by kernel_rfl) (fun k=>?_) (fun k k' w=>Go.Mem.equal_of_bin (ic k k' w).1);show Instr.sameBits 10000 (Vl.v k) (Vl.v k)=true;unfold Instr.sameBits;simp[Instr.sameBits,Go.Mem.bytes_beq]
abbrev nV(n:Nat):Value:=.int .i64 n
theorem dx{β:Type}:fS.Ok (β:=β) (Go.Mem.intK 3) Tryz.prog:=Go.Mem.intK_ok Tryz.underlying3
abbrev NF(f:FuncId)(xs:Array Value)(Z:bK)(As:List aW)(v:Value):Prop:=SF Tryz.prog f xs Z As fun r Ng=>r=v∧Ng=As
abbrev MF(f:FuncId)(xs:Array Value)(Z:bK)(As:List aW)(v:Value)(Bs:List aW):Prop:=SF Tryz.prog f xs Z As fun r Ng=>r=v∧Ng=Bs
end Go.Proofs.YtmhpcebiamkciaaGreat
namespace Go.S
open Go.Hp Go.J Go.Proofs.YtmhpcebiamkciaaGreat
open Go.Mem (Ty fS blk elemAt addr_add gJ pre suf bN dO eB db hZ cm spliceAt)
section
variable{P:Program}{w0:World}{ops:Array Oper}{Q:Exit→Act→World→Prop}{n:Nat}{E:Env}{Z:bK}{As:List aW}{rest:List Oper}{d:Nat}{ty:TypeId}{ps:String}{af:Array Edge}{gd:Option (Nat×Bool)}{v:Value}{x y:Operand}
theorem aa'{u:Value}:ev E (.const u)=u:=rfl
theorem aba{t:Nat}:ev ((t,v)::E) (.tmp t)=v:=by show J.look _ _=_;simp[J.look]
theorem abb{t k:Nat}{u:Value}(hk:Nat.beq k t=false)(h:ev E (.tmp t)=v):ev ((k,u)::E) (.tmp t)=v:=by show J.look _ _=_;simp[J.look,hk];exact h
def xH{α:Type}:List α→Nat→Option α
 | [],_=>none
 | a::_,0=>some a
 | _::r,i+1=>xH r i
theorem abc{α:Type}{a:α}{r:List α}:xH (a::r) 0=some a:=rfl
theorem abd{α:Type}{a b:α}{r:List α}{i:Nat}(h:xH r i=some a):xH (b::r) (i+1)=some a:=h
theorem wI{α:Type}(l:List α):∀(i:Nat),xH l i=l[i]?:=by
 induction l with
 | nil=>intro i;rfl
 | cons a r ih=>intro i;cases i with
  | zero=>rfl
  | succ i=>rw[List.getElem?_cons_succ,←ih];rfl
theorem uG{A:aW}{r:List aW}:gt (A::r) 0=some A:=rfl
theorem uH{A B:aW}{r:List aW}{i:Nat}(h:gt r i=some A):gt (B::r) (i+1)=some A:=h
inductive vZ:List Value→Nat→Value→List Value→Prop
 | h {a v:Value}{r:List Value}:vZ (a::r) 0 v (v::r)
 | t {a v:Value}{r r':List Value}{i:Nat}:vZ r i v r'→vZ (a::r) (i+1) v (a::r')
theorem vZ.eq{l l':List Value}{i:Nat}{v:Value}(h:vZ l i v l'):Go.Mem.spliceAt l i [v]=l'∧i<l.length:=by
 induction h with
 | h=>exact⟨rfl,by simp⟩
 | t _ ih=>obtain⟨ih,hl⟩:=ih;refine⟨?_,by simp;omega⟩;unfold Go.Mem.spliceAt at *;simp;rw[←ih];simp
inductive s7:List aW→Nat→aW→aW→List aW→Prop
 | h {A B:aW}{r:List aW}:s7 (A::r) 0 A B (B::r)
 | t {A B C:aW}{r r':List aW}{i:Nat}:s7 r i A B r'→s7 (C::r) (i+1) A B (C::r')
theorem s7.eq{l l':List aW}{i:Nat}{A B:aW}(h:s7 l i A B l'):gt l i=some A∧upd l i B=l':=by
 induction h with
 | h=>exact⟨rfl,rfl⟩
 | t _ ih=>exact⟨ih.1,by show _::upd _ _ _=_;rw[ih.2]⟩
inductive VC:Nat→List Value→List Value→Prop
 | z {l:List Value}:VC 0 l []
 | s {m:Nat}{a:Value}{r r':List Value}:VC m r r'→VC (m+1) (a::r) (a::r')
theorem VC.eq{m:Nat}{l l':List Value}(h:VC m l l'):l.take m=l'∧l'.length=m:=by
 induction h with
 | z=>exact⟨rfl,rfl⟩
 | s _ ih=>simp[ih.1,ih.2]
inductive LH:Nat→Nat→List Value→List Value→Prop
 | z {m:Nat}{l l':List Value}:VC m l l'→LH 0 m l l'
 | s {k m:Nat}{a:Value}{r r':List Value}:LH k m r r'→LH (k+1) m (a::r) r'
theorem LH.eq{k m:Nat}{l l':List Value}(h:LH k m l l'):l.extract k (k+m)=l'∧l'.length=m:=by
 induction h with
 | z h=>have:=h.eq;simp[this.1,this.2]
 | s _ ih=>rw[←ih.1];refine⟨?_,by rw[ih.1];exact ih.2⟩;simp[Nat.add_sub_add_right,Nat.add_right_comm _ 1 _,List.drop_succ_cons]
inductive NL:List aW→List aW→Prop
 | n (F:List aW):NL F F
 | c {A:aW}{r r':List aW}:NL r r'→NL (A::r) (A::r')
theorem NL.eq{l l':List aW}(h:NL l l'):l=l':=by
 induction h with
 | n=>rfl
 | c _ ih=>rw[ih]
theorem JE{c:Code}{vz:List aW}(hn:NL As vz)(h:SK P w0 c Q n E Z vz):SK P w0 c Q n E Z As:=hn.eq▸h
theorem JF{l:List Oper}{vz:List aW}(hn:NL As vz)(h:SL P w0 ops Q n l E Z vz):SL P w0 ops Q n l E Z As:=hn.eq▸h
theorem JG{c:Exit}{vz:List aW}(hn:NL As vz)(h:SX w0 c Q n E Z vz):SX w0 c Q n E Z As:=hn.eq▸h
def ad9:Value→Bool
 | .pointer _|.slice _ _ _|.map _|.nilFunc|.func _ _ _|.bool _|.nilIface=>true
 | _=>false
def okP:Op→Bool
 | .unOp _ _ _|.convert _ _ _|.field _ _ _|.extract _ _|.nilCheck _|.makeInterface _ _|.index _ _ _|.fieldAddr _ _ _=>true
 | _=>false
theorem lk(h:ev E x=v:=by first|((repeat (first|with_reducible exact aba|with_reducible exact aa'|((with_reducible apply abb);(· exact rfl))));done)|fail):ev E x=v:=h
theorem ie(h:ev E x=v:=by first|((repeat (first|with_reducible exact aba|with_reducible exact aa'|((with_reducible apply abb);(· exact rfl))));done)|exact rfl):ev E x=v:=h
theorem VD{i g:Nat}{arr:Array Value}{e:TypeId}(h:gt As i=some (aa g arr e):=by first|((repeat (first|with_reducible exact uG|with_reducible apply uH));done)|exact (rfl:gt _ 0=_)|exact (rfl:gt _ 1=_)|exact (rfl:gt _ 2=_)|exact (rfl:gt _ 3=_)|exact (rfl:gt _ 4=_)|exact (rfl:gt _ 5=_)|exact (rfl:gt _ 6=_)|exact (rfl:gt _ 7=_)|exact (rfl:gt _ 8=_)|exact (rfl:gt _ 9=_)|exact (rfl:gt _ 10=_)|exact (rfl:gt _ 11=_)):gt As i=some (aa g arr e):=h
theorem ntp{l:List Value}{i:Nat}(h:xH l i=some v:=by first|((repeat (first|with_reducible exact abc|with_reducible apply abd));done)|fail):xH l i=some v:=h
theorem ulp{l l':List aW}{i:Nat}{A B:aW}(h:s7 l i A B l':=by first|((repeat (first|with_reducible exact s7.h|with_reducible apply s7.t));done)|fail):s7 l i A B l':=h
theorem slp{l l':List Value}{i:Nat}(h:vZ l i v l':=by first|((repeat (first|with_reducible exact vZ.h|with_reducible apply vZ.t));done)|fail):vZ l i v l':=h
theorem szp{a:Array Value}{m:Nat}(h:a.size=m:=by first|exact (rfl:_=5)|exact (rfl:_=2)|exact (rfl:_=3)|exact (rfl:_=4)|exact (rfl:_=6)|exact (rfl:_=7)|exact (rfl:_=8)|exact (rfl:_=9)|exact (rfl:_=10)|exact (rfl:_=11)|exact (rfl:_=12)|exact (rfl:_=13)|exact (rfl:_=1)):a.size=m:=h
theorem agp{t:TypeId}{m:Nat}(h:lC P t m=true:=by first|(refine (?_:lC _ _ 5=true);decide +kernel)|(refine (?_:lC _ _ 2=true);decide +kernel)|(refine (?_:lC _ _ 3=true);decide +kernel)|(refine (?_:lC _ _ 4=true);decide +kernel)|(refine (?_:lC _ _ 6=true);decide +kernel)|(refine (?_:lC _ _ 7=true);decide +kernel)|(refine (?_:lC _ _ 1=true);decide +kernel)|(refine (?_:lC _ _ 8=true);decide +kernel)|(refine (?_:lC _ _ 9=true);decide +kernel)|(refine (?_:lC _ _ 10=true);decide +kernel)):lC P t m=true:=h
theorem drp{k m:Nat}{l l':List Value}(h:LH k m l l':=by first|((repeat (first|with_reducible exact VC.z|with_reducible apply VC.s|with_reducible apply LH.s|with_reducible apply LH.z));done)|fail):LH k m l l':=h
theorem zi{l l':List aW}(h:NL l l':=by first|((repeat (first|with_reducible exact NL.n []|with_reducible apply NL.c|apply NL.c|exact NL.n _));done)|fail):NL l l':=h
theorem npq(h:NP Q:=by first|((repeat (first|with_reducible exact ao|with_reducible apply aj|with_reducible apply aL));done)|fail):NP Q:=h
theorem arp{a b:Int}(h:a=b:=by first|exact (rfl:_=(0:Int))|exact (rfl:_=(1:Int))|exact (rfl:_=(2:Int))|exact (rfl:_=(3:Int))|exact (rfl:_=(-1:Int))):a=b:=h
theorem abe  (hx:ev E x=v):Lt P E ⟨some d,.move x,ty,ps,af,gd⟩ Z As (v):=ai _ (fun _=>by show Result.ok (Next.value (ev E x)) _=_;rw[hx])
theorem abf  (hx:ev E x=v):Lt P E ⟨some d,.assign x,ty,ps,af,gd⟩ Z As (v):=ai _ (fun _=>by show Result.ok (Next.value (ev E x)) _=_;rw[hx])
theorem abg{a:Addr}(hx:ev E x=.pointer (some a)):Lt P E ⟨some d,.nilCheck x,ty,ps,af,gd⟩ Z As (.pointer (some a)):=ai _ (fun _=>by unfold execOp;simp only[hx];rfl)
theorem abh{i:Nat}{l:List Value}(hx:ev E x=.tuple l.toArray)(hv:xH l i=some v):Lt P E ⟨some d,.extract x i,ty,ps,af,gd⟩ Z As (v):=ai _ (fun w=>by unfold execOp;simp only[hx,Instr.extract];rw[wI]at hv;simp only[List.getElem?_toArray,hv];rfl)
theorem abi{g k m m' f:Nat}{s:TypeId}(hx:ev E x=.pointer (some ⟨g,k,none⟩))(hr:∀w,(Instr.fieldAt s (.pointer (some ⟨g,k,none⟩)) f).run P w=.ok (.pointer (some ⟨g,m',none⟩)) w)(hm:m'=m):Lt P E ⟨some d,.fieldAddr s x f,ty,ps,af,gd⟩ Z As (.pointer (some ⟨g,m,none⟩)):=by
 subst hm;exact ai _ (fun w=>by unfold execOp;simp only[hx];exact Mem.run_v (hr w))
theorem abj{a:Addr}{j f:Nat}{s:TypeId}(hx:ev E x=.pointer (some a))(hr:∀w,(Instr.fieldAt s (.pointer (some a)) f).run P w=.ok (.pointer (some (a.add j))) w):Lt P E ⟨some d,.fieldAddr s x f,ty,ps,af,gd⟩ Z As (.pointer (some (a.add j))):=ai _ (fun w=>by unfold execOp;simp only[hx];exact Mem.run_v (hr w))
theorem abk{t:TypeId}{g k i:Nat}{l:List Value}{e:TypeId}(hx:ev E x=.pointer (some ⟨g,k,none⟩))(hA:gt As i=some (aa g l.toArray e))(hv:xH l k=some v)(ht:ka P t=true):Lt P E ⟨some d,.load t x,ty,ps,af,gd⟩ Z As (v):=aJ i v rfl hx hA (by rw[←hv,wI];simp) ht
theorem abl{t:TypeId}{g i m:Nat}{arr:Array Value}{e:TypeId}(hx:ev E x=.pointer (some ⟨g,0,none⟩))(hA:gt As i=some (aa g arr e))(hl:arr.size=m)(ht:lC P t m=true):Lt P E ⟨some d,.load t x,ty,ps,af,gd⟩ Z As (.agg arr):=dE i arr rfl hx hA hl (by subst hl;simp[List.take_of_length_le]) ht
theorem abm{t:TypeId}{g k m i:Nat}{l cs:List Value}{e:TypeId}(hx:ev E x=.pointer (some ⟨g,k,none⟩))(hA:gt As i=some (aa g l.toArray e))(ht:lC P t m=true)(hv:LH k m l cs):Lt P E ⟨some d,.load t x,ty,ps,af,gd⟩ Z As (.agg cs.toArray):=dE i cs.toArray rfl hx hA (by simp[hv.eq.2]) (by simpa using hv.eq.1) ht
theorem abn{t u:TypeId}{a b c:Int}(hx:ev E x=.int .i64 a)(hy:ev E y=.int .i64 b)(hc:a+b=c)(hb : -9223372036854775808≤a+b∧a+b≤9223372036854775807):Lt P E ⟨some d,.binOp .add t x y u,ty,ps,af,gd⟩ Z As (.int .i64 c):=by
 subst hc;exact bX a b hb rfl hx hy
theorem abo{z:Operand}(hx:ev E x=.bool true)(hy:ev E y=v):Lt P E ⟨some d,.pick x y z,ty,ps,af,gd⟩ Z As (v):=ai _ (fun w=>by unfold execOp;simp only[hx,asBool];show Result.ok (Next.value (ev E y)) _=_;rw[hy])
theorem abp{z:Operand}(hx:ev E x=.bool false)(hy:ev E y=v):Lt P E ⟨some d,.pick x z y,ty,ps,af,gd⟩ Z As (v):=ai _ (fun w=>by unfold execOp;simp only[hx,asBool];show Result.ok (Next.value (ev E y)) _=_;rw[hy])
theorem VE{b:Bool}{t:TypeId}(hx:ev E x=.bool b):Lt P E ⟨some d,.unOp .not t x,ty,ps,af,gd⟩ Z As (.bool !b):=ai _ (fun w=>by unfold execOp;simp only[hx];rfl)
theorem abq{op:BinOp}{t u:TypeId}{c c':Bool}(ho:ad9 (ev E x)=true)(hr:∀w,(execOp (ev E) ⟨some d,.binOp op t x y u,ty,ps,af,gd⟩).run P w=.ok (.value (.bool c')) w)(hc:c'=c):Lt P E ⟨some d,.binOp op t x y u,ty,ps,af,gd⟩ Z As (.bool c):=by
 subst hc;exact ai _ hr
theorem abr{op:Op}(ho:okP op=true)(hr:∀w,(execOp (ev E) ⟨some d,op,ty,ps,af,gd⟩).run P w=.ok (.value v) w):Lt P E ⟨some d,op,ty,ps,af,gd⟩ Z As (v):=ai v hr
theorem abt{op:BinOp}{t u:TypeId}{k:IntKind}{a b:Int}{c:Bool}(hx:ev E x=.int k a)(hy:ev E y=.int k b)(hc:Mj op a b=some c):Lt P E ⟨some d,.binOp op t x y u,ty,ps,af,gd⟩ Z As (.bool c):=aT rfl hx hy hc
theorem ltp{o:Oper}(t:Lt P E o Z As v:=by first|((with_reducible apply abe);(· exact lk))|((with_reducible apply abf);(· exact lk))|((with_reducible apply abg);(· exact ie))|((with_reducible apply abh);(· exact ie);(· exact ntp))|((with_reducible apply abi);(· exact ie);(· exact fun _=>rfl);(· first|exact (rfl:_=0)|exact (rfl:_=1)|exact (rfl:_=2)|exact (rfl:_=3)|exact (rfl:_=4)|exact (rfl:_=5)|exact (rfl:_=6)|exact (rfl:_=7)|exact (rfl:_=8)|exact (rfl:_=9)|exact (rfl:_=10)|exact (rfl:_=11)))|((with_reducible apply abj);(· exact ie);(· exact fun _=>rfl))|((with_reducible apply abk);(· exact ie);(· exact VD);(· exact ntp);(· decide +kernel))|((with_reducible apply abl);(· exact ie);(· exact VD);(· exact szp);(· decide +kernel))|((with_reducible apply abm);(· exact ie);(· exact VD);(· exact agp);(· exact drp))|((with_reducible apply abn);(· exact ie);(· exact ie);(· exact arp);(· omega))|((with_reducible apply abo);(· exact ie);(· exact lk))|((with_reducible apply abp);(· exact ie);(· exact lk))|((with_reducible apply VE);(· exact ie))|((with_reducible apply abq);(· exact rfl);(· exact fun _=>rfl);(· first|exact (rfl:_=false)|exact (rfl:_=true)|exact rfl))|((with_reducible apply abr);(· exact rfl);(· exact fun _=>rfl))|fail):Lt P E o Z As v:=t
theorem ltc{o:Oper}(t:Lt P E o Z As v:=by first|((with_reducible apply abe);(· exact lk))|((with_reducible apply abf);(· exact lk))|((with_reducible apply abt);(· exact ie);(· exact ie);(· exact rfl))|((with_reducible apply abg);(· exact ie))|((with_reducible apply abh);(· exact ie);(· exact ntp))|((with_reducible apply abi);(· exact ie);(· exact fun _=>rfl);(· first|exact (rfl:_=0)|exact (rfl:_=1)|exact (rfl:_=2)|exact (rfl:_=3)|exact (rfl:_=4)|exact (rfl:_=5)|exact (rfl:_=6)|exact (rfl:_=7)|exact (rfl:_=8)|exact (rfl:_=9)|exact (rfl:_=10)|exact (rfl:_=11)))|((with_reducible apply abj);(· exact ie);(· exact fun _=>rfl))|((with_reducible apply abk);(· exact ie);(· exact VD);(· exact ntp);(· decide +kernel))|((with_reducible apply abl);(· exact ie);(· exact VD);(· exact szp);(· decide +kernel))|((with_reducible apply abm);(· exact ie);(· exact VD);(· exact agp);(· exact drp))|((with_reducible apply abn);(· exact ie);(· exact ie);(· exact arp);(· omega))|((with_reducible apply abo);(· exact ie);(· exact lk))|((with_reducible apply abp);(· exact ie);(· exact lk))|((with_reducible apply VE);(· exact ie))|((with_reducible apply abq);(· exact rfl);(· exact fun _=>rfl);(· first|exact (rfl:_=false)|exact (rfl:_=true)|exact rfl))|((with_reducible apply abr);(· exact rfl);(· exact fun _=>rfl))|fail):Lt P E o Z As v:=t
theorem JI{op:Op}(t:Lt P E ⟨some d,op,ty,ps,af,gd⟩ Z As v)(hg:want ops E ⟨some d,op,ty,ps,af,gd⟩=true)(hk:cU ops n E ⟨some d,op,ty,ps,af,gd⟩=true)(h:SL P w0 ops Q n rest ((d,v)::E) Z As):SL P w0 ops Q n (⟨some d,op,ty,ps,af,gd⟩::rest) E Z As:=sL t h hk
inductive VF:List Value→List Value→List Value→Prop
 | n {r:List Value}:VF [] r r
 | c {a c:Value}{cs r r':List Value}:VF cs r r'→VF (c::cs) (a::r) (c::r')
theorem VF.eq{cs l l':List Value}(h:VF cs l l'):cs++l.drop cs.length=l'∧cs.length≤l.length:=by
 induction h with
 | n=>exact⟨rfl,Nat.zero_le _⟩
 | c _ ih=>simp[ih.1,ih.2]
inductive VG:Nat→List Value→List Value→List Value→Prop
 | z {cs r r':List Value}:VF cs r r'→VG 0 cs r r'
 | s {k:Nat}{a:Value}{cs r r':List Value}:VG k cs r r'→VG (k+1) cs (a::r) (a::r')
theorem VG.eq{k:Nat}{cs l l':List Value}(h:VG k cs l l'):Go.Mem.spliceAt l k cs=l'∧k+cs.length≤l.length:=by
 induction h with
 | z h=>have:=h.eq;unfold Go.Mem.spliceAt;simp[this.1,this.2]
 | s _ ih=>unfold Go.Mem.spliceAt at *;simp[Nat.add_right_comm _ 1 _]at *;exact⟨ih.1,by omega⟩
theorem abu{t:TypeId}{g k i:Nat}{l l':List Value}{e:TypeId}{vz:List aW}(hx:ev E x=.pointer (some ⟨g,k,none⟩))(hy:ev E y=v)(hU:s7 As i (aa g l.toArray e) (aa g l'.toArray e) vz)(hS:vZ l k v l')(hc:v.cells=#[v])(h1:v.oneCell'=true)(hs:l8 P t 1=true)(hg:want ops E ⟨none,.store t x y,ty,ps,af,gd⟩=true)(hk:cU ops n E ⟨none,.store t x y,ty,ps,af,gd⟩=true)(h:SL P w0 ops Q n rest E Z vz):SL P w0 ops Q n (⟨none,.store t x y,ty,ps,af,gd⟩::rest) E Z As:=ar (u:=v) (m:=1) i l'.toArray (hU.eq.2▸h) rfl hx hy hU.eq.1 (by rw[hc];rfl) hs (by have:=hS.eq.2;simp;omega) (by rw[hc];simp[h1]) (by rw[hc];exact hS.eq.1) rfl hk
theorem ad'{t:TypeId}{g m i:Nat}{arr cs:Array Value}{e:TypeId}{vz:List aW}(hx:ev E x=.pointer (some ⟨g,0,none⟩))(hy:ev E y=.agg cs)(hU:s7 As i (aa g arr e) (aa g cs e) vz)(hm:cs.size=m)(ha:arr.size=m)(h1:(cs.toList.all fun c=>c.oneCell')=true)(hs:l8 P t m=true)(hg:want ops E ⟨none,.store t x y,ty,ps,af,gd⟩=true)(hk:cU ops n E ⟨none,.store t x y,ty,ps,af,gd⟩=true)(h:SL P w0 ops Q n rest E Z vz):SL P w0 ops Q n (⟨none,.store t x y,ty,ps,af,gd⟩::rest) E Z As:=ar (u:=.agg cs) (m:=m) i cs (hU.eq.2▸h) rfl hx hy hU.eq.1 hm hs (by simp[ha]) h1 (by unfold Go.Mem.spliceAt;simp[Value.cells];omega) rfl hk
theorem aea{t:TypeId}{g k m i:Nat}{l l' cs:List Value}{e:TypeId}{vz:List aW}(hx:ev E x=.pointer (some ⟨g,k,none⟩))(hy:ev E y=.agg cs.toArray)(hU:s7 As i (aa g l.toArray e) (aa g l'.toArray e) vz)(hS:VG k cs l l')(h1:(cs.all fun c=>c.oneCell')=true)(hm:cs.length=m)(hs:l8 P t m=true)(hg:want ops E ⟨none,.store t x y,ty,ps,af,gd⟩=true)(hk:cU ops n E ⟨none,.store t x y,ty,ps,af,gd⟩=true)(h:SL P w0 ops Q n rest E Z vz):SL P w0 ops Q n (⟨none,.store t x y,ty,ps,af,gd⟩::rest) E Z As:=ar (u:=.agg cs.toArray) (m:=m) i l'.toArray (hU.eq.2▸h) rfl hx hy hU.eq.1 (by show cs.toArray.size=m;simpa using hm) hs (by have:=hS.eq.2;simp;omega) (by show (cs.toArray.toList.all _)=true;simpa using h1) (by show Go.Mem.spliceAt _ _ cs.toArray.toList=_;simpa using hS.eq.1) rfl hk
theorem aeb{y z:Code}(hv:ev E x=.bool true)(hk:kf E x=true)(h:SK P w0 y Q n E Z As):SK P w0 (.cond x y z) Q n E Z As:=iy h hv hk
theorem aec{y z:Code}(hv:ev E x=.bool false)(hk:kf E x=true)(h:SK P w0 z Q n E Z As):SK P w0 (.cond x y z) Q n E Z As:=eh h hv hk
theorem aed{op:Op}(hu:nG ops E ⟨some d,op,ty,ps,af,gd⟩=true)(hk:pa n (some d)=true)(h:SL P w0 ops Q n rest ((d,undef)::E) Z As):SL P w0 ops Q n (⟨some d,op,ty,ps,af,gd⟩::rest) E Z As:=sK h hu hk
theorem aee{id:Nat}{l:List Oper}(hm:P.follows .mixedOrders=true)(hk:Ser.check P l=true)(h:SL P w0 l.toArray (Ser.DynQ P l Q) n l E Z As):SK P w0 (.region id l.toArray true) Q n E Z As:=rK h hm hk
theorem abv{l:List Oper}(hd:∀H,Holds Z As H→(l.all fun o=>!(Ser.clsOf P o == 0)||!(Ser.isDyn o)||Bt l E o)=true)(h:SX w0 .normal Q n E Z As):SX w0 .normal (Ser.DynQ P l Q) n E Z As:=dB hd h
/-- Operations of a held region by their numbers (ids), parts as is says. -/
def HG(aiX _is:List Nat)(Y X:Prop):Prop:=Y→X
theorem aef{is:List Nat}{X:Prop}:HG [] is X X:=fun h=>h
theorem aeg{l:List Oper}{Ks Fs:List aW}{fuel f i:Nat}{aG:Array Bool}{ids is:List Nat}{Y:Prop}{op:Op}(hi:l[i]?=some ⟨some d,op,ty,ps,af,gd⟩)(t:∀Fs,Lt P E ⟨some d,op,ty,ps,af,gd⟩ Z (Ks++Fs) v)(hf:fuel=f+1)(hQ:NP Q)(hS:rearr As is=Ks++Fs)(hc:kb l aG i=true)(hk:cU l.toArray n E ⟨some d,op,ty,ps,af,gd⟩=true)(h:HG ids is Y (SH P w0 l Q n Z Ks f (aG.setIfInBounds i true) ((d,v)::E) As)):HG (i::ids) is Y (SH P w0 l Q n Z Ks fuel aG E As):=fun y=>by
 subst hf;exact bR i hi hQ is t (h y) rfl hS hc hk
theorem gH{X Y:Prop}(ids is:List Nat)(h:Y)(e:HG ids is Y X:=by repeat (first|with_reducible exact aef|((with_reducible apply aeg);(· exact rfl);(· intro _;exact ltc);(· exact rfl);(· exact npq);(· exact rfl);(· kernel_rfl);(· kernel_rfl)))):X:=e h
theorem kd{t:Operand}{x y:Code}{c:Bool}(h1:c=true→SK P w0 x Q n E Z As)(h2:c=false→SK P w0 y Q n E Z As)(hv:ev E t=.bool c:=by exact ie)(hk:kf E t=true:=by rfl):SK P w0 (.cond t x y) Q n E Z As:=bg c h1 h2 hv hk
theorem oW{l:List Oper}(t:Nat){c:Bool}(h1:c=true→SL P w0 ops Q n l ((t,.bool true)::E) Z As)(h2:c=false→SL P w0 ops Q n l ((t,.bool false)::E) Z As)(hv:ev E (.tmp t)=.bool c:=by exact ie)(hh:J.has E t=true:=by rfl):SL P w0 ops Q n l E Z As:=dW t c h1 h2 hv hh
inductive ZL:List Value→Nat→Env→Prop
 | n (i:Nat):ZL [] i []
 | c {v:Value}{l:List Value}{i j:Nat}{E:Env}:Nat.beq (i+1) j=true→ZL l j E→ZL (v::l) i ((i,v)::E)
theorem ZL.eq{l:List Value}{i:Nat}{E:Env}(h:ZL l i E):((l.zipIdx i).map fun p=>(p.2,p.1))=E:=by
 induction h with
 | n=>rfl
 | c e _ ih=>simp only[List.zipIdx_cons,List.map_cons];rw[Nat.eq_of_beq_eq_true e,ih]
theorem sfe{f:FuncId}{fn:Func}{c:Code}{args:List Value}{R:Value→List aW→Prop}(hf:P.funcs[f]?=some fn)(m:Nat)(h:∀w0,SK P w0 c (zx P fn w0 Z R) m E Z As)
 (hE:ZL args 0 E:=by repeat (first|exact ZL.n _|(apply ZL.c;(· first|exact (rfl:Nat.beq _ 1=true)|exact (rfl:Nat.beq _ 2=true)|exact (rfl:Nat.beq _ 3=true)|exact (rfl:Nat.beq _ 4=true)|exact (rfl:Nat.beq _ 5=true)|exact (rfl:Nat.beq _ 6=true)))))
 (hb:fn.body=some c:=by rfl) (hm:fn.ntmps=m:=by rfl) (hle:Nat.ble args.toArray.size m=true:=by rfl):SF P f args.toArray Z As R:=bx hf m E h hb hm hle hE.eq
theorem gSt{X Y:Prop}(h:Y)(e:Y→X:=by first|(intro h_;(first|((with_reducible apply abu);(· exact ie);(· exact lk);(· exact ulp);(· exact slp);(· exact rfl);(· exact rfl);(· decide +kernel);(· exact rfl);(· kernel_rfl))|((with_reducible apply ad');(· exact ie);(· exact ie);(· exact ulp);(· exact szp);(· exact rfl);(· exact rfl);(· decide +kernel);(· exact rfl);(· kernel_rfl))|((with_reducible apply aea);(· exact ie);(· exact ie);(· exact ulp);(· repeat (first|with_reducible exact VF.n|with_reducible apply VF.c|with_reducible apply VG.s|with_reducible apply VG.z));(· exact rfl);(· first|exact (rfl:_=2)|exact (rfl:_=5)|exact (rfl:_=1)|exact (rfl:_=3)|exact (rfl:_=4)|exact (rfl:_=6)|exact (rfl:_=7));(· decide +kernel);(· exact rfl);(· kernel_rfl))|((with_reducible apply aed);(· exact rfl);(· exact rfl)));exact h_;done)|fail):X:=e h
theorem gKt{X Y:Prop}(h:Y)(e:Y→X:=by first|(intro h_;(first|with_reducible apply bn|with_reducible apply aE|with_reducible apply bd|with_reducible apply cE|with_reducible apply eT|with_reducible apply jB|with_reducible apply eM|with_reducible apply cW|((with_reducible apply aee);(· decide +kernel);(· decide +kernel))|((with_reducible apply aeb);(· exact ie);(· exact rfl))|((with_reducible apply aec);(· exact ie);(· exact rfl)));exact h_;done)|fail):X:=e h
theorem gXt{X Y:Prop}(h:Y)(e:Y→X:=by first|(intro h_;(first|with_reducible apply ax|with_reducible apply eU|with_reducible apply lD|with_reducible apply pn|with_reducible apply cM|with_reducible apply gL|((with_reducible apply abv);(· exact fun _ _=>rfl)));exact h_;done)|fail):X:=e h
theorem go {X Y : Prop} (h : Y) (e : Y → X := by
  intro h_
  first | ((with_reducible apply JF); (· exact zi)) | ((with_reducible apply JE); (· exact zi)) | ((with_reducible apply JG); (· exact zi))
  repeat (first | with_reducible apply bH | ((with_reducible apply JI); (· exact ltp); (· exact rfl); (· kernel_rfl)) | refine gSt ?_ | refine gKt ?_ | refine gXt ?_ | with_reducible apply a8)
  exact h_) : X := e h
theorem gc {X Y : Prop} (h : Y) (e : Y → X := by
  intro h_
  first | ((with_reducible apply JF); (· exact zi)) | ((with_reducible apply JE); (· exact zi)) | ((with_reducible apply JG); (· exact zi))
  repeat (first | with_reducible apply bH | ((with_reducible apply JI); (· exact ltc); (· exact rfl); (· kernel_rfl)) | refine gSt ?_ | refine gKt ?_ | refine gXt ?_ | with_reducible apply a8)
  exact h_) : X := e h
theorem gs {X Y : Prop} (h : Y) (e : Y → X := by
  intro h_
  first | ((with_reducible apply JF); (· exact zi)) | ((with_reducible apply JE); (· exact zi)) | ((with_reducible apply JG); (· exact zi))
  repeat (first | with_reducible apply bH | ((with_reducible apply JI); (· exact ltp); (· exact rfl); (· kernel_rfl)) | refine gSt ?_ | refine gXt ?_ | with_reducible apply a8)
  exact h_) : X := e h
theorem gu {X Y : Prop} (h : Y) (e : Y → X := by
  intro h_
  first | ((with_reducible apply JF); (· exact zi)) | ((with_reducible apply JE); (· exact zi)) | ((with_reducible apply JG); (· exact zi))
  repeat (first | with_reducible apply bH | ((with_reducible apply JI); (· exact ltc); (· exact rfl); (· kernel_rfl)) | refine gSt ?_ | refine gXt ?_ | with_reducible apply a8)
  exact h_) : X := e h
theorem gh {X Y : Prop} (h : Y) (e : Y → X := by
  intro h_
  first | ((with_reducible apply JF); (· exact zi)) | ((with_reducible apply JE); (· exact zi)) | ((with_reducible apply JG); (· exact zi))
  repeat (first | ((with_reducible apply JI); (· exact ltc); (· exact rfl); (· kernel_rfl)) | refine gSt ?_)
  exact h_) : X := e h
inductive Pk:List aW→aW→List aW→Prop
 | h {A:aW}{r:List aW}:Pk (A::r) A r
 | t {A B:aW}{r r':List aW}:Pk r A r'→Pk (B::r) A (B::r')
theorem Pk.eq{As r:List aW}{A:aW}(h:Pk As A r):∃i,gt As i=some A∧del As i=r:=by
 induction h with
 | h=>exact⟨0,rfl,rfl⟩
 | t _ ih=>obtain⟨i,e1,e2⟩:=ih;exact⟨i+1,e1,congrArg _ e2⟩
inductive Dd:List aW→List aW→Prop
 | n (F:List aW):Dd F F
 | d {A:aW}{r F:List aW}:Dd r F→Dd (A::r) F
inductive Rr:List aW→List aW→Prop
 | e {r F:List aW}:Dd r F→Rr r F
 | c {A:aW}{As r Bs:List aW}:Pk As A r→Rr r Bs→Rr As (A::Bs)
theorem Aw(A:aW):∀(ds:List Nat) (X:List aW),dels (A::X) (ds.map (· + 1))=A::dels X ds
 | [],_=>rfl
 | d::ds,X=>Aw A ds (del X d)
theorem Rr.eq{As Bs:List aW}(h:Rr As Bs):∃is ds,dels (Go.S.rearr As is) ds=Bs:=by
 induction h with
 | e h=>
  refine⟨[],?_⟩;induction h with
  | n=>exact⟨[],rfl⟩
  | d _ ih=>obtain⟨ds,e⟩:=ih;exact⟨0::ds,e⟩
 | @c A As r Bs hp _ ih=>
  obtain⟨is,ds,e⟩:=ih;obtain⟨i,e1,e2⟩:=hp.eq;refine⟨i::is,ds.map (· + 1),?_⟩;show dels (match gt As i with|some A=>A::Go.S.rearr (del As i) is|none=>As) _=_;rw[e1,e2];show dels (A::Go.S.rearr r is) _=_;rw[Aw,e]
theorem Rr.nl{As vz Bs:List aW}(h:NL As vz)(k:Rr vz Bs):Rr As Bs:=by rw[h.eq];exact k
theorem rrp{Bs:List aW}(h:Rr As Bs:=by first|((with_reducible apply Rr.nl);(· exact zi);(repeat (first|with_reducible exact Rr.e (Dd.n _)|((with_reducible apply Rr.c);(· (repeat (first|with_reducible exact Pk.h|with_reducible apply Pk.t));done))));(try ((with_reducible apply Rr.e);(repeat (first|with_reducible exact Dd.n _|with_reducible apply Dd.d|exact Dd.n _))));done)|fail):Rr As Bs:=h
theorem rA{Bs:List aW}(h:Rr As Bs:=by exact rrp):∀H,Holds Z As H→Holds Z Bs H:=fun _ k=>by
 obtain⟨is,ds,e⟩:=h.eq;exact k.re is ds e
theorem rB{Bs:List aW}{H:bb}(k:Holds Z As H)(h:Rr As Bs:=by exact rrp):Holds Z Bs H:=rA h H k
theorem mz{a b:Nat}(h:a<b:=by (try dsimp only);omega):a<b:=h
def FG(R:Value→List aW→Prop)(v:Value)(Z:bK)(As:List aW):Prop:=∃Bs,R v Bs∧∀H,Holds Z As H→Holds Z Bs H
theorem fg{R:Value→List aW→Prop}{Bs:List aW}(h:R v Bs)(hA:∀H,Holds Z As H→Holds Z Bs H:=by first|exact fun _ h=>h|exact rA):FG R v Z As:=⟨Bs,h,hA⟩
theorem aeh{t:Tmp}{rs:List ResultVar}{vs:List Value}(hv:ev E (.tmp t)=v)(hk:J.has E t=true)(h:SI P E Z As rs vs):SI P E Z As (.tmp t::rs) (v::vs):=SI.tmp t h hv hk
theorem aei{t:Tmp}{ty:TypeId}{rs:List ResultVar}{vs l:List Value}{g k i:Nat}{e:TypeId}(hv:ev E (.tmp t)=.pointer (some ⟨g,k,none⟩))(hA:gt As i=some (aa g l.toArray e))(ht:ka P ty=true)(hu:xH l k=some v)(hk:J.has E t=true)(h:SI P E Z As rs vs):SI P E Z As (.cell t ty::rs) (v::vs):=SI.cell t ty i h hv hA (by rw[←hu,wI];simp) ht hk
theorem aej{t:Tmp}{ty:TypeId}{rs:List ResultVar}{vs l cs:List Value}{g k m i:Nat}{e:TypeId}(hv:ev E (.tmp t)=.pointer (some ⟨g,k,none⟩))(hA:gt As i=some (aa g l.toArray e))(ht:lC P ty m=true)(hd:LH k m l cs)(hk:J.has E t=true)(h:SI P E Z As rs vs):SI P E Z As (.cell t ty::rs) (.agg cs.toArray::vs):=SI.agg t ty i h hv hA (by simp[hd.eq.2]) (by simpa using hd.eq.1) ht hk
theorem abw{fn:Func}{R:Value→List aW→Prop}{rs:List ResultVar}{vs:List Value}(hr:fn.results.toList=rs)(hi:SI P E Z As rs vs)(hv:Go.J.pack vs=v)(h:FG R v Z As):SX w0 .ret (zx P fn w0 Z R) n E Z As:=by
 subst hv;obtain⟨Bs,h,hA⟩:=h;exact ad vs Bs hi hA h hr
theorem XB{fn:Func}{R:Value→List aW→Prop}{rs:List ResultVar}{vs:List Value}(hr:fn.results.toList=rs)(hi:SI P E Z As rs vs)(hv:Go.J.pack vs=v)(h:FG R v Z As):SX w0 .normal (zx P fn w0 Z R) n E Z As:=by
 subst hv;obtain⟨Bs,h,hA⟩:=h;exact eN vs Bs hi hA h hr
theorem sip{rs:List ResultVar}{vs:List Value}(h:SI P E Z As rs vs:=by first|((repeat (first|with_reducible exact SI.nil|((with_reducible apply aeh);(· exact ie);(· exact rfl))|((with_reducible apply aei);(· exact ie);(· exact VD);(· decide +kernel);(· exact ntp);(· exact rfl))|((with_reducible apply aej);(· exact ie);(· exact VD);(· exact agp);(· exact drp);(· exact rfl))));done)|fail):SI P E Z As rs vs:=h
theorem abx{t:Nat}{b:Value}{Ee:Env}(h1:Ee.drop (Ee.length-E.length)=E)(h2:((Ee.take (Ee.length-E.length)).all fun p=>Nat.beq p.1 t||!J.has E p.1)=true)(h4:J.has Ee t=true)(h3:J.look Ee t=b):mq Ee ((t,b)::E):=by
 have key:∀X:Env,(X.all fun p=>Nat.beq p.1 t||!J.has E p.1)=true→∀d,d≠t→J.has E d=true→J.has (X++E) d=true∧J.look (X++E) d=J.look E d:=by
  intro X;induction X with
  | nil=>intro _ d _ h;exact⟨h,rfl⟩
  | cons p r ih=>
   obtain⟨k,v⟩:=p;intro hx d hd h;simp only[List.all_cons,Bool.and_eq_true,Bool.or_eq_true,Bool.not_eq_true']at hx;have hk:k≠d:=by
    rintro rfl;rcases hx.1 with e|e
    .exact hd (Nat.eq_of_beq_eq_true e)
    rw[h]at e;exact absurd e (by simp)
   rw[List.cons_append,J.has_cons,J.look_cons,if_neg hk];obtain⟨a,b⟩:=ih hx.2 d hd h;exact⟨by rw[a];simp,b⟩
 have e:Ee=Ee.take (Ee.length-E.length)++E:=by
  conv=>lhs;rw[←List.take_append_drop (Ee.length-E.length) Ee,h1]
 intro p hp;by_cases hd:p.1=t
 .rw [hd];refine⟨h4,h3.trans ?_⟩;rw[J.look_cons,if_pos rfl]
 have hq:J.has E p.1=true:=by
  rcases List.mem_cons.1 hp with rfl|hp
  .exact absurd rfl hd
  exact s5 hp
 rw[e,J.look_cons,if_neg (fun x=>hd x.symm)];exact key _ h2 p.1 hd hq
theorem xc{p:Unit→Prop}{Ei:Unit→Env}{Ai:Unit→List aW}(hE:mq E (Ei ()):=by first|(refine abx ?_ ?_ ?_ ?_;(· kernel_rfl);(· kernel_rfl);(· kernel_rfl);first|exact rfl|((refine cB ?_);first|(simp only[*,jK];done)|(simp[*];done)))|((refine bc rfl ?_;repeat first|exact trivial|refine⟨⟨rfl,rfl⟩,?_⟩|(refine⟨⟨rfl,cB ?_⟩,?_⟩;(· first|(simp only[*,jK];done)|(simp[*];done))));done)|fail)(hA:∀H,Holds Z As H→Holds Z (Ai ()) H:=by exact rA)(hp:p ():=by exact trivial):SX w0 .normal (Exit.then (Cut w0 n p Ei Ai Z) Q) n E Z As:=bh () hp hE hA
theorem kB{x y:Code}(t:Nat)(b:Value)(hx:SK P w0 x (Exit.then (Cut w0 n (fun _:Unit=>True) (fun _=>(t,b)::E) (fun _=>As) Z) Q) n E Z As)(hy:SK P w0 y Q n ((t,b)::E) Z As):SK P w0 (.seq x y) Q n E Z As:=b6 (ι:=Unit) _ _ _ hx fun _ _=>hy
theorem xr{ι:Type}{I:ι→Prop}{Ei:ι→Env}{Ai:ι→List aW}{μ:ι→Nat}{i:ι}(i':ι)(hI:I i')(hμ:μ i'<μ i:=by (try dsimp only);omega)(hE:mq E (Ei i'):=by exact sA)(hA:∀H,Holds Z As H→Holds Z (Ai i') H:=by exact rA):SX w0 .normal (Exit.then (vn w0 n Ei (fun i H=>I i∧Holds Z (Ai i) H) μ i) Q) n E Z As:=az i' hμ hI hE hA
theorem eF{l:List Oper}(t:Nat){p:Prop}[Decidable p](h1:p→SL P w0 ops Q n l ((t,.bool true)::E) Z As)(h2:¬p→SL P w0 ops Q n l ((t,.bool false)::E) Z As)(hv:ev E (.tmp t)=.bool (decide p):=by exact ie)(hh:J.has E t=true:=by rfl):SL P w0 ops Q n l E Z As:=dW t _ (fun e=>h1 (dY e)) (fun e=>h2 (dF e)) hv hh
theorem b9{t:Operand}{x y:Code}{p:Prop}[Decidable p](h1:p→SK P w0 x Q n E Z As)(h2:¬p→SK P w0 y Q n E Z As)(hv:ev E t=.bool (decide p):=by exact ie)(hk:kf E t=true:=by rfl):SK P w0 (.cond t x y) Q n E Z As:=bg _ (fun e=>h1 (dY e)) (fun e=>h2 (dF e)) hv hk
theorem LI{l:List Oper}(t:Nat){p:Prop}{i:Decidable (¬p)}[Decidable p](h1:¬p→SL P w0 ops Q n l ((t,.bool true)::E) Z As)(h2:p→SL P w0 ops Q n l ((t,.bool false)::E) Z As)(hv:ev E (.tmp t)=.bool (decide (¬p)):=by exact ie)(hh:J.has E t=true:=by rfl):SL P w0 ops Q n l E Z As:=dW t _ (fun e=>h1 (dY e)) (fun e=>h2 (Decidable.not_not.1 (dF e))) hv hh
theorem kdn{t:Operand}{x y:Code}{p:Prop}{i:Decidable (¬p)}[Decidable p](h1:¬p→SK P w0 x Q n E Z As)(h2:p→SK P w0 y Q n E Z As)(hv:ev E t=.bool (decide (¬p)):=by exact ie)(hk:kf E t=true:=by rfl):SK P w0 (.cond t x y) Q n E Z As:=bg _ (fun e=>h1 (dY e)) (fun e=>h2 (Decidable.not_not.1 (dF e))) hv hk
theorem kdq{t:Operand}{x y:Code}{p:Prop}[Decidable p](h1:¬p→SK P w0 x Q n E Z As)(h2:p→SK P w0 y Q n E Z As)(hv:ev E t=.bool (!decide p):=by exact ie)(hk:kf E t=true:=by rfl):SK P w0 (.cond t x y) Q n E Z As:=bg _ (fun e=>h1 (dF (cO e))) (fun e=>h2 (dY (cu e))) hv hk
theorem aby{α:Type}{T:Ty α}{L:List α}{i:Nat}(hi:gt As i=some (own T v L)):Acc Z As T v L:=Acc.own i hi
theorem XC{α:Type}{T:Ty α}{L:List α}{i:Nat}(hi:gt As i=some (ownO T v L)):Acc Z As T v L:=Acc.ownO i hi
theorem abz{α:Type}{T:Ty α}{L:List α}(k:Kn Z T v L):Acc Z As T v L:=Acc.zn k
theorem sop{α:Type}{T:Ty α}{t:TypeId}(h:T.Ok P∧P.underlying t=some (.slice T.id):=by first|(constructor;(· with_reducible exact ak);(· exact Tryz.underlying23))|(constructor;(· with_reducible exact aZ);(· exact Tryz.underlying28))|(constructor;(· with_reducible exact bt);(· exact Tryz.underlying55))|(constructor;(· with_reducible exact dy);(· exact Tryz.underlying98))|(constructor;(· with_reducible exact aR);(· exact Tryz.underlying255))|(constructor;(· with_reducible exact bP);(· exact Tryz.underlying223))|(constructor;(· with_reducible exact eO);(· exact Tryz.underlying132))|(constructor;(· with_reducible exact ft);(· exact Tryz.underlying139))|(constructor;(· with_reducible exact iM);(· exact Tryz.underlying149))|(constructor;(· with_reducible exact fu);(· exact Tryz.underlying22))|(constructor;(· with_reducible exact gg);(· exact Tryz.underlying140))|(constructor;(· with_reducible exact BA);(· exact Tryz.underlying218))):T.Ok P∧P.underlying t=some (.slice T.id):=h
theorem tkp{α:Type}{T:Ty α}(h:T.Ok P:=by first|with_reducible exact ak|with_reducible exact aZ|with_reducible exact bt|with_reducible exact dy|with_reducible exact aR|with_reducible exact bP|with_reducible exact eO|with_reducible exact ft|with_reducible exact iM|with_reducible exact fu|with_reducible exact gg|with_reducible exact BA):T.Ok P:=h
theorem abA{α:Type}{T:Ty α}{L:List α}{t:TypeId}(hx:ev E x=v)(a:Acc Z As T v L)(hT:T.Ok P∧P.underlying t=some (.slice T.id)):Lt P E ⟨some d,.call { callee:=.builtin .len,args:=#[x],argTypes:=#[t] },ty,ps,af,gd⟩ Z As (.int .i64 L.length):=bL hT.1 hT.2 a rfl hx
theorem abB{t u:TypeId}{a b:Int}(hx:ev E x=.int .i64 a)(hy:ev E y=.int .i64 b)(hb : -9223372036854775808≤a+b∧a+b≤9223372036854775807):Lt P E ⟨some d,.binOp .add t x y u,ty,ps,af,gd⟩ Z As (.int .i64 (a+b)):=bX a b hb rfl hx hy
theorem abC{t u:TypeId}{a b:Int}(hx:ev E x=.int .i64 a)(hy:ev E y=.int .i64 b)(hb : -9223372036854775808≤a-b∧a-b≤9223372036854775807):Lt P E ⟨some d,.binOp .sub t x y u,ty,ps,af,gd⟩ Z As (.int .i64 (a-b)):=fX a b hb rfl hx hy
theorem aek{α:Type}{T:Ty α}{L:List α}{t:TypeId}{q:IntKind}{k:Int}{m:Nat}(hx:ev E x=v)(a:Acc Z As T v L)(hT:T.Ok P∧P.underlying t=some (.slice T.id))(hi:ev E y=.int q k)(hm:k=(m:Int))(hl:k<L.length):Lt P E ⟨some d,.indexAddr t x y,ty,ps,af,gd⟩ Z As (.pointer (some (elemAt T.size v m))):=aF hT.1 hT.2 a k m (by omega) hl (by omega) rfl hx hi
theorem abD{α:Type}{T:Ty α}{L:List α}{z:α}{k:Nat}{u:Value}{t:TypeId}(hx:ev E x=.pointer (some (elemAt T.size v k)))(a:Acc Z As T v L)(hT:T.Ok P)(hy:L[k]?=some z)(hid:T.id=t)(hu:T.val z=u):Lt P E ⟨some d,.load t x,ty,ps,af,gd⟩ Z As u:=bC hT a hy hu rfl hid hx
def XD(v:Value):Prop:=v.cells=#[v]∧v.oneCell'=true
theorem Nh{n:Nat}(h:∃p c,v=.slice p n c):XD v:=by obtain⟨_,_,rfl⟩:=h;exact⟨rfl,rfl⟩
theorem abE{t:TypeId}{g k i:Nat}{l l':List Value}{e:TypeId}{vz:List aW}(hx:ev E x=.pointer (some ⟨g,k,none⟩))(hy:ev E y=v)(hU:s7 As i (aa g l.toArray e) (aa g l'.toArray e) vz)(hS:vZ l k v l')(hc:XD v)(hs:l8 P t 1=true)(hg:want ops E ⟨none,.store t x y,ty,ps,af,gd⟩=true)(hk:cU ops n E ⟨none,.store t x y,ty,ps,af,gd⟩=true)(h:SL P w0 ops Q n rest E Z vz):SL P w0 ops Q n (⟨none,.store t x y,ty,ps,af,gd⟩::rest) E Z As:=abu hx hy hU hS hc.1 hc.2 hs hg hk h
structure BX(Y:Prop):Prop where
 h:Y
def ZV(P:Program)(t:TypeId)(z:Value)(cs:Array Value):Prop:=z.cells=cs∧∀w,(zeroValue t).run P w=.ok z w
theorem XE{t:TypeId}(z:Value)(cs:Array Value)(h1:z.cells=cs)(h2:∀w,(zeroValue t).run P w=.ok z w):ZV P t z cs:=⟨h1,h2⟩
theorem zvp{t:TypeId}{z:Value}{cs:Array Value}(h:ZV P t z cs:=by first|exact XE (.agg zc) zc rfl (fun _=>by kernel_rfl)|exact XE (.agg #[iw 0,iw 0,iw 0,nS,nS]) #[iw 0,iw 0,iw 0,nS,nS] rfl (fun _=>by kernel_rfl)|exact XE (.agg #[nS,nS]) #[nS,nS] rfl (fun _=>by kernel_rfl)|exact XE (.agg #[iw 0,iw 0]) #[iw 0,iw 0] rfl (fun _=>by kernel_rfl)|exact XE (.agg #[iw 0]) #[iw 0] rfl (fun _=>by kernel_rfl)|exact XE (.agg #[.pointer none,.pointer none,nS]) #[.pointer none,.pointer none,nS] rfl (fun _=>by kernel_rfl)|exact XE (.agg #[iw 0,iw 0,iw 0,sw eb,iw 0,iw 0,iw 0,iw 0,sw eb,iw 0,.bool false]) #[iw 0,iw 0,iw 0,sw eb,iw 0,iw 0,iw 0,iw 0,sw eb,iw 0,.bool false] rfl (fun _=>by kernel_rfl)):ZV P t z cs:=h
theorem ael{t:TypeId}{z:Value}{cs:Array Value}(hz:ZV P t z cs)(hk:cU ops n E ⟨some d,.alloc t,ty,ps,af,gd⟩=true)(h:∀g,SL P w0 ops Q n rest ((d,.pointer (some ⟨g,0,none⟩))::E) Z (aa g cs t::As)):SL P w0 ops Q n (⟨some d,.alloc t,ty,ps,af,gd⟩::rest) E Z As:=ae z cs h rfl hz.1 hz.2 rfl hk
theorem aem{t:TypeId}{cs:Array Value}(hx:ev E x=.agg cs)(hk:cU ops n E ⟨some d,.box t x,ty,ps,af,gd⟩=true)(h:∀g,SL P w0 ops Q n rest ((d,.pointer (some ⟨g,0,none⟩))::E) Z (aa g cs t::As)):SL P w0 ops Q n (⟨some d,.box t x,ty,ps,af,gd⟩::rest) E Z As:=bj cs h rfl hx rfl rfl hk
theorem aen{t:TypeId}(hx:ev E x=v)(hc:XD v)(hk:cU ops n E ⟨some d,.box t x,ty,ps,af,gd⟩=true)(h:∀g,SL P w0 ops Q n rest ((d,.pointer (some ⟨g,0,none⟩))::E) Z (aa g #[v] t::As)):SL P w0 ops Q n (⟨some d,.box t x,ty,ps,af,gd⟩::rest) E Z As:=bj #[v] h rfl hx hc.1 rfl hk
theorem aeo{t e:TypeId}(hb:iq P t 0 []=some (e,#[]))(hk:cU ops n E ⟨some d,.buildSlice t 0 #[],ty,ps,af,gd⟩=true)(h:∀g,SL P w0 ops Q n rest ((d,.slice (some ⟨g,0,none⟩) 0 0)::E) Z (aa g #[] e::As)):SL P w0 ops Q n (⟨some d,.buildSlice t 0 #[],ty,ps,af,gd⟩::rest) E Z As:=ah [] #[] h rfl rfl hb rfl hk
theorem aep{t e:TypeId}{cs:Array Value}(hx:ev E x=.agg cs)(hb:iq P t 1 [(0,.agg cs)]=some (e,cs))(hk:cU ops n E ⟨some d,.buildSlice t 1 #[(0,x)],ty,ps,af,gd⟩=true)(h:∀g,SL P w0 ops Q n rest ((d,.slice (some ⟨g,0,none⟩) 1 1)::E) Z (aa g cs e::As)):SL P w0 ops Q n (⟨some d,.buildSlice t 1 #[(0,x)],ty,ps,af,gd⟩::rest) E Z As:=ah [(0,.agg cs)] cs h rfl (by simp[hx]) hb rfl hk
theorem aeq{t e:TypeId}(hx:ev E x=v)(hb:iq P t 1 [(0,v)]=some (e,#[v]))(hk:cU ops n E ⟨some d,.buildSlice t 1 #[(0,x)],ty,ps,af,gd⟩=true)(h:∀g,SL P w0 ops Q n rest ((d,.slice (some ⟨g,0,none⟩) 1 1)::E) Z (aa g #[v] e::As)):SL P w0 ops Q n (⟨some d,.buildSlice t 1 #[(0,x)],ty,ps,af,gd⟩::rest) E Z As:=ah [(0,v)] #[v] h rfl (by simp[hx]) hb rfl hk
theorem bcp{t e:TypeId}{k:Nat}{pl:List (Nat×Value)}{cs:Array Value}(h:iq P t k pl=some (e,cs):=by first|(refine (?_:_=some (3,_));kernel_rfl)|(refine (?_:_=some (71,_));kernel_rfl)|(refine (?_:_=some (167,_));kernel_rfl)|(refine (?_:_=some (200,_));kernel_rfl)|(refine (?_:_=some (264,_));kernel_rfl)|(refine (?_:_=some (261,_));kernel_rfl)|(refine (?_:_=some (153,_));kernel_rfl)|(refine (?_:_=some (57,_));kernel_rfl)|(refine (?_:_=some (100,_));kernel_rfl)|(refine (?_:_=some (76,_));kernel_rfl)|(refine (?_:_=some (55,_));kernel_rfl)|(refine (?_:_=some (98,_));kernel_rfl)|(refine (?_:_=some (30,_));kernel_rfl)):iq P t k pl=some (e,cs):=h
theorem FU:∀{As:List aW}{i:Nat}{A B:aW},gt As i=some A→gt (upd As i B) i=some B
 | _::_,0,_,_,_=>rfl
 | _::r,i+1,_,_,h=>FU (As:=r) (i:=i) h
structure BY{α:Type}(M:List α)(Y:Prop):Prop where
 h:Y
theorem aer{α:Type}{T:Ty α}{L M:List α}{t:TypeId}{u:Value}{i b:Nat}{W:Prop}(hm:BY M W)(hs:ev E x=v)(hA:gt As i=some (own T v L))(hx:ev E y=u)(hB:T.bytes=b)(hT:T.Ok P∧P.underlying t=some (.slice T.id))(a:Acc Z As T u M)(hb:(L.length+M.length)*b≤140737488355328)(zg:L.length+M.length≤9223372036854775807)(hk:cU ops n E ⟨some d,.call { callee:=.builtin .append,args:=#[x,y],argTypes:=#[t,t] },ty,ps,af,gd⟩=true)(h:∀v',(∃p c,v'=.slice p (L++M).length c)→SL P w0 ops Q n rest ((d,v')::E) Z (upd As i (own T v' (L++M)))):SL P w0 ops Q n (⟨some d,.call { callee:=.builtin .append,args:=#[x,y],argTypes:=#[t,t] },ty,ps,af,gd⟩::rest) E Z As:=aq i hT.1 hT.2 a (hB▸hb) zg (fun v'=>bl (fun H hH=>((Acc.own (T:=T) (L:=L++M) i (FU hA)) H hH).form) (h v')) rfl hA hs hx rfl hk
theorem aes{α:Type}{T:Ty α}{L M:List α}{t:TypeId}{u:Value}{i b:Nat}{W:Prop}(hm:BY M W)(hs:ev E x=v)(hA:gt As i=some (ownO T v L))(hx:ev E y=u)(hB:T.bytes=b)(hT:T.Ok P∧P.underlying t=some (.slice T.id))(a:Acc Z As T u M)(hb:(L.length+M.length)*b≤140737488355328)(zg:L.length+M.length≤9223372036854775807)(hk:cU ops n E ⟨some d,.call { callee:=.builtin .append,args:=#[x,y],argTypes:=#[t,t] },ty,ps,af,gd⟩=true)(h:∀v',(∃p c,v'=.slice p (L++M).length c)→SL P w0 ops Q n rest ((d,v')::E) Z (upd As i (ownO T v' (L++M)))):SL P w0 ops Q n (⟨some d,.call { callee:=.builtin .append,args:=#[x,y],argTypes:=#[t,t] },ty,ps,af,gd⟩::rest) E Z As:=gX i hT.1 hT.2 a (hB▸hb) zg (fun v'=>bl (fun H hH=>((Acc.ownO (T:=T) (L:=L++M) i (FU hA)) H hH).form) (h v')) rfl hA hs hx rfl hk
theorem VH{α:Type}{T:Ty α}{L:List α}{i g m:Nat}{arr:Array Value}{e:TypeId}(hi:gt As i=some (aa g arr e))(hT:T.Ok P)(he:e=T.id)(ha:arr.toList=T.flat L)(hm:m=L.length)(hl:L.length≤9223372036854775807):Acc Z As T (.slice (some ⟨g,0,none⟩) m m) L:=Acc.lit i hT L hi he ha hm hl
inductive EN:Env→Env→Prop
 | n {E:Env}:EN ([]++E) E
 | c {X E E':Env}{p:Nat×Value}:EN (X++E) E'→EN ((p::X)++E) (p::E')
theorem EN.eq{Y E':Env}(h:EN Y E'):Y=E':=by
 induction h with
 | n=>rfl
 | c _ ih=>rw[←ih];rfl
inductive UA:List aW→Nat→aW→List aW→Prop
 | h {A B:aW}{r:List aW}:UA (B::r) 0 A (A::r)
 | t {A C:aW}{r r':List aW}{i:Nat}:UA r i A r'→UA (C::r) (i+1) A (C::r')
inductive UN:List aW→List (Nat×aW)→List aW→Prop
 | n {As:List aW}:UN As [] As
 | c {As Bs Cs:List aW}{i:Nat}{A:aW}{r:List (Nat×aW)}:UA As i A Bs→UN Bs r Cs→UN As ((i,A)::r) Cs
theorem Q6{cd:Code}{α:Type}(a0:α)(I:α→Prop)(Ex:α→Env)(Ax:α→List (Nat×aW)){Ai:α→List aW}{Ei:α→Env}(μ:α→Nat)(h0:I a0)(round:∀a,I a→SK P w0 cd (Exit.then (vn w0 n (fun p:α=>Ex p++E) (fun (p:α) H=>I p∧Holds Z (Ai p) H) (fun p:α=>μ p) a) Q) n (Ei a) Z (Ai a))(hE:∀a,EN (Ex a++E) (Ei a):=by intros;repeat (first|with_reducible exact EN.n|with_reducible apply EN.c)){VI:List aW}(hN:NL As VI:=by exact zi)(hU:∀a,UN VI (Ax a) (Ai a):=by intros;repeat (first|with_reducible exact UN.n|((with_reducible apply UN.c);(· repeat (first|with_reducible exact UA.h|with_reducible apply UA.t)))))(hs:mq E (Ex a0++E):=by exact sbx)(hH:∀H,Holds Z As H→Holds Z (Ai a0) H:=by exact rA):SK P w0 (.loop cd) Q n E Z As:=
 aD (ι:=α) (fun p=>I p) (fun p=>Ex p++E) (fun p=>Ai p) (fun p=>μ p) a0 h0 hs hH (fun p h=>by rw[(hE p).eq];exact round p h)
theorem kL2{cd:Code}{α:Type}{β:Type}(a0:α)(b0:β)(I:α→β→Prop)(Ex:α→β→Env)(Ax:α→β→List (Nat×aW)){Ai:α→β→List aW}{Ei:α→β→Env}(μ:α→β→Nat)(h0:I a0 b0)(round:∀a b,I a b→SK P w0 cd (Exit.then (vn w0 n (fun p:α×β=>Ex p.1 p.2++E) (fun (p:α×β) H=>I p.1 p.2∧Holds Z (Ai p.1 p.2) H) (fun p:α×β=>μ p.1 p.2) (a,b)) Q) n (Ei a b) Z (Ai a b))(hE:∀a b,EN (Ex a b++E) (Ei a b):=by intros;repeat (first|with_reducible exact EN.n|with_reducible apply EN.c)){VI:List aW}(hN:NL As VI:=by exact zi)(hU:∀a b,UN VI (Ax a b) (Ai a b):=by intros;repeat (first|with_reducible exact UN.n|((with_reducible apply UN.c);(· repeat (first|with_reducible exact UA.h|with_reducible apply UA.t)))))(hs:mq E (Ex a0 b0++E):=by exact sbx)(hH:∀H,Holds Z As H→Holds Z (Ai a0 b0) H:=by exact rA):SK P w0 (.loop cd) Q n E Z As:=
 aD (ι:=α×β) (fun p=>I p.1 p.2) (fun p=>Ex p.1 p.2++E) (fun p=>Ai p.1 p.2) (fun p=>μ p.1 p.2) (a0,b0) h0 hs hH (fun p h=>by rw[(hE p.1 p.2).eq];exact round p.1 p.2 h)
theorem kL3{cd:Code}{α:Type}{β:Type}{γ:Type}(a0:α)(b0:β)(c0:γ)(I:α→β→γ→Prop)(Ex:α→β→γ→Env)(Ax:α→β→γ→List (Nat×aW)){Ai:α→β→γ→List aW}{Ei:α→β→γ→Env}(μ:α→β→γ→Nat)(h0:I a0 b0 c0)(round:∀a b c,I a b c→SK P w0 cd (Exit.then (vn w0 n (fun p:α×β×γ=>Ex p.1 p.2.1 p.2.2++E) (fun (p:α×β×γ) H=>I p.1 p.2.1 p.2.2∧Holds Z (Ai p.1 p.2.1 p.2.2) H) (fun p:α×β×γ=>μ p.1 p.2.1 p.2.2) (a,b,c)) Q) n (Ei a b c) Z (Ai a b c))(hE:∀a b c,EN (Ex a b c++E) (Ei a b c):=by intros;repeat (first|with_reducible exact EN.n|with_reducible apply EN.c)){VI:List aW}(hN:NL As VI:=by exact zi)(hU:∀a b c,UN VI (Ax a b c) (Ai a b c):=by intros;repeat (first|with_reducible exact UN.n|((with_reducible apply UN.c);(· repeat (first|with_reducible exact UA.h|with_reducible apply UA.t)))))(hs:mq E (Ex a0 b0 c0++E):=by exact sbx)(hH:∀H,Holds Z As H→Holds Z (Ai a0 b0 c0) H:=by exact rA):SK P w0 (.loop cd) Q n E Z As:=
 aD (ι:=α×β×γ) (fun p=>I p.1 p.2.1 p.2.2) (fun p=>Ex p.1 p.2.1 p.2.2++E) (fun p=>Ai p.1 p.2.1 p.2.2) (fun p=>μ p.1 p.2.1 p.2.2) (a0,b0,c0) h0 hs hH (fun p h=>by rw[(hE p.1 p.2.1 p.2.2).eq];exact round p.1 p.2.1 p.2.2 h)
theorem Q7{α:Type}{T:Ty α}{L:List α}(a:Acc Z As T v L:=by first|((with_reducible apply aby);(first|((repeat (first|with_reducible exact uG|with_reducible apply uH));done)|((repeat (first|exact uG|with_reducible apply uH));done));done)|((with_reducible apply XC);(first|((repeat (first|with_reducible exact uG|with_reducible apply uH));done)|((repeat (first|exact uG|with_reducible apply uH));done));done)|((with_reducible apply abz);first|assumption|(apply And.left;assumption)|(apply And.right;assumption)|(apply oO.obs;assumption)|(apply oO.roots;assumption))):Acc Z As T v L:=a
inductive NV:List Value→List Value→Prop
 | n:NV [] []
 | c {a:Value}{r r':List Value}:NV r r'→NV (a::r) (a::r')
theorem NV.eq{l l':List Value}(h:NV l l'):l=l':=by
 induction h with
 | n=>rfl
 | c _ ih=>rw[ih]
theorem nvp{l l':List Value}(h:NV l l':=by repeat (first|exact NV.n|apply NV.c)):NV l l':=h
theorem aet{α:Type}{T:Ty α}{L:List α}{z:α}{k j0 j:Nat}{u:Value}{t:TypeId}{l:List Value}(hx:ev E x=.pointer (some ((elemAt T.size v k).add j0)))(hj:j0=j)(a:Acc Z As T v L)(hT:T.Ok P)(ht:ka P t=true)(hy:L[k]?=some z)(hn:NV (T.enc z) l)(hu:xH l j=some u):Lt P E ⟨some d,.load t x,ty,ps,af,gd⟩ Z As u:=by
 subst hj;exact cw j0 hT a hy (by rw[hn.eq,←wI];exact hu) rfl hx ht
theorem aeu{α:Type}{T:Ty α}{L:List α}{z:α}{k j0 j m:Nat}{t:TypeId}{l cs:List Value}(hx:ev E x=.pointer (some ((elemAt T.size v k).add j0)))(hj:j0=j)(a:Acc Z As T v L)(hT:T.Ok P)(ht:lC P t m=true)(hy:L[k]?=some z)(hn:NV (T.enc z) l)(hd:LH j m l cs):Lt P E ⟨some d,.load t x,ty,ps,af,gd⟩ Z As (.agg cs.toArray):=by
 subst hj;exact iW j0 cs.toArray hT a hy (by simp[hd.eq.2]) (by rw[hn.eq];simpa using hd.eq.1) rfl hx ht
theorem aev{a b:Vl}{u:TypeId}(hx:ev E x=.agg (vc a))(hy:ev E y=.agg (vc b)):Lt Go.Proofs.Tryz.prog E ⟨some d,.binOp .eql 71 x y u,ty,ps,af,gd⟩ Z As (.bool (decide (a=b))):=fY (fun w=>(ic a b w).1) rfl hx hy
theorem aew{a b:Vl}{u:TypeId}(hx:ev E x=.agg (vc a))(hy:ev E y=.agg (vc b)):Lt Go.Proofs.Tryz.prog E ⟨some d,.binOp .neq 71 x y u,ty,ps,af,gd⟩ Z As (.bool (!decide (a=b))):=fY (fun w=>(ic a b w).2) rfl hx hy
theorem aex{a:Vl}{k p q r:Int}{s:ByteArray}{u:TypeId}(hx:ev E x=.agg (vc a))(hy:ev E y=.agg #[.int .i64 k,.int .i64 p,.int .i64 q,.string s,.int .i64 r]):Lt Go.Proofs.Tryz.prog E ⟨some d,.binOp .eql 71 x y u,ty,ps,af,gd⟩ Z As (.bool (decide (a=⟨k,p,q,s,r⟩))):=fY (fun w=>(ic a ⟨k,p,q,s,r⟩ w).1) rfl hx hy
theorem aey{a:Vl}{k p q r:Int}{s:ByteArray}{u:TypeId}(hx:ev E x=.agg (vc a))(hy:ev E y=.agg #[.int .i64 k,.int .i64 p,.int .i64 q,.string s,.int .i64 r]):Lt Go.Proofs.Tryz.prog E ⟨some d,.binOp .neq 71 x y u,ty,ps,af,gd⟩ Z As (.bool (!decide (a=⟨k,p,q,s,r⟩))):=fY (fun w=>(ic a ⟨k,p,q,s,r⟩ w).2) rfl hx hy
theorem aez{a:Vl}{u:TypeId}(hx:ev E x=.agg (vc a))(hy:ev E y=.agg zc):Lt Go.Proofs.Tryz.prog E ⟨some d,.binOp .neq 71 x y u,ty,ps,af,gd⟩ Z As (.bool (!decide (a=bw))):=fY (fun w=>(ic a bw w).2) rfl hx hy
theorem aeA{op:BinOp}{t u:TypeId}{k:IntKind}{a b:Int}{c c':Bool}(hx:ev E x=.int k a)(hy:ev E y=.int k b)(hc:Mj op a b=some c)(hd:c=c'):Lt P E ⟨some d,.binOp op t x y u,ty,ps,af,gd⟩ Z As (.bool c'):=by
 subst hd;exact aT rfl hx hy hc
theorem aeB{α:Type}{T:Ty α}{L:List α}{t:TypeId}{q:IntKind}{k:Int}{m:Nat}(hx:ev E x=v)(a:Acc Z As T v L)(hT:T.Ok P∧P.underlying t=some (.slice T.id))(hi:ev E y=.int q k)(hm:k=(m:Int))(hl:k≤L.length):Lt P E ⟨some d,.slice t x (some y) none none,ty,ps,af,gd⟩ Z As (suf T.size v m):=MQ hT.1 hT.2 a k m (by omega) hl (by omega) rfl hx hi
theorem aeC{α:Type}{T:Ty α}{L:List α}{t:TypeId}{q:IntKind}{k:Int}{m:Nat}(hx:ev E x=v)(a:Acc Z As T v L)(hT:T.Ok P∧P.underlying t=some (.slice T.id))(hi:ev E y=.int q k)(hm:k=(m:Int))(hl:k≤L.length):Lt P E ⟨some d,.slice t x none (some y) none,ty,ps,af,gd⟩ Z As (pre v m):=sS hT.1 hT.2 a k m (by omega) hl (by omega) rfl hx hi
theorem aeD{t:Array TypeId}{k:IntKind}{a b:Int}(hx:ev E x=.int k a)(hy:ev E y=.int k b):Lt P E ⟨some d,.call { callee:=.builtin .max,args:=#[x,y],argTypes:=t },ty,ps,af,gd⟩ Z As (.int k (if a<b then b else a)):=Dc rfl hx hy
def aeE:Op→Bool
 | .build _ l=>l.size == 0
 | _=>false
theorem aeF{op:Op}(ho:aeE op=true)(hr:∀w,(execOp (ev E) ⟨some d,op,ty,ps,af,gd⟩).run P w=.ok (.value v) w):Lt P E ⟨some d,op,ty,ps,af,gd⟩ Z As v:=ai v hr
theorem knp{o:Oper}(v:Value)(h:∀w,(execOp (ev E) o).run P w=.ok (.value v) w:=by intro _;kernel_rfl):∀w,(execOp (ev E) o).run P w=.ok (.value v) w:=h
theorem aeG{t:TypeId}{s:ByteArray}(hx:ev E x=.string s)(hr:∀w,(execOp (ev E) ⟨some d,.call { callee:=.builtin .len,args:=#[x],argTypes:=#[t] },ty,ps,af,gd⟩).run P w=.ok (.value (.int .i64 s.size)) w):Lt P E ⟨some d,.call { callee:=.builtin .len,args:=#[x],argTypes:=#[t] },ty,ps,af,gd⟩ Z As (.int .i64 s.size):=ai _ hr
theorem aeH{α:Type}{T:Ty α}{L:List α}{t:TypeId}{g k i:Nat}{l l':List Value}{e:TypeId}{vz:List aW}(hx:ev E x=.pointer (some ⟨g,k,none⟩))(hy:ev E y=v)(a:Acc Z As T v L)(hU:s7 As i (aa g l.toArray e) (aa g l'.toArray e) vz)(hS:vZ l k v l')(hs:l8 P t 1=true)(hg:want ops E ⟨none,.store t x y,ty,ps,af,gd⟩=true)(hk:cU ops n E ⟨none,.store t x y,ty,ps,af,gd⟩=true)(h:SL P w0 ops Q n rest E Z vz):SL P w0 ops Q n (⟨none,.store t x y,ty,ps,af,gd⟩::rest) E Z As:=bl (fun H hH=>(a H hH).form) (fun hf=>abE hx hy hU hS (Nh hf) hs hg hk h)
theorem lty{o:Oper}(t:Lt P E o Z As v:=by first|((with_reducible apply abt);(· exact ie);(· exact ie);(· first|exact (rfl:_=some true)|exact (rfl:_=some false)))|((with_reducible apply aeA);(· exact ie);(· exact ie);(· exact rfl);(· first|exact decide_eq_true (by omega)|exact decide_eq_false (by omega)))|exact ltc|((with_reducible apply abA);(· exact ie);(· exact Q7);(· exact sop))|((with_reducible apply abB);(· exact ie);(· exact ie);(· first|omega|((simp only[cD]);omega)))|((with_reducible apply abC);(· exact ie);(· exact ie);(· first|omega|((simp only[cD]);omega)))|((with_reducible apply aek);(· exact ie);(· exact Q7);(· exact sop);(· exact ie);(· first|exact (rfl:((_:Nat):Int)=_)|exact (rfl:_=((0:Nat):Int))|exact (rfl:_=((1:Nat):Int))|exact (rfl:_=((2:Nat):Int))|exact (rfl:_=((3:Nat):Int))|exact (Int.toNat_of_nonneg (by omega)).symm);(· first|omega|((simp only[cD]);omega)))|((with_reducible apply abD);(· exact ie);(· exact Q7);(· exact tkp);(· first|assumption|exact (rfl:(_::_)[0]?=some _));(· exact rfl);(· exact rfl))|((with_reducible apply aet);(· exact ie);(· first|exact (rfl:_=0)|exact (rfl:_=1)|exact (rfl:_=2)|exact (rfl:_=3)|exact (rfl:_=4)|exact (rfl:_=5)|exact (rfl:_=6)|exact (rfl:_=7)|exact (rfl:_=8)|exact (rfl:_=9)|exact (rfl:_=10)|exact (rfl:_=11)|exact (rfl:_=12)|exact (rfl:_=13)|exact (rfl:_=14)|exact (rfl:_=15)|exact (rfl:_=16)|exact (rfl:_=17)|exact (rfl:_=18)|exact (rfl:_=19));(· exact Q7);(· exact tkp);(· decide +kernel);(· assumption);(· exact nvp);(· exact ntp))|((with_reducible apply aeu);(· exact ie);(· first|exact (rfl:_=0)|exact (rfl:_=1)|exact (rfl:_=2)|exact (rfl:_=3)|exact (rfl:_=4)|exact (rfl:_=5)|exact (rfl:_=6)|exact (rfl:_=7)|exact (rfl:_=8)|exact (rfl:_=9)|exact (rfl:_=10)|exact (rfl:_=11)|exact (rfl:_=12)|exact (rfl:_=13)|exact (rfl:_=14)|exact (rfl:_=15)|exact (rfl:_=16)|exact (rfl:_=17)|exact (rfl:_=18)|exact (rfl:_=19));(· exact Q7);(· exact tkp);(· exact agp);(· assumption);(· exact nvp);(· exact drp))|((with_reducible apply aez);(· exact lk);(· exact lk))|((with_reducible apply aev);(· exact lk);(· exact lk))|((with_reducible apply aew);(· exact lk);(· exact lk))|((with_reducible apply aex);(· exact lk);(· exact lk))|((with_reducible apply aey);(· exact lk);(· exact lk))|((with_reducible apply aeB);(· exact ie);(· exact Q7);(· exact sop);(· exact ie);(· first|exact (rfl:((_:Nat):Int)=_)|exact (rfl:_=((0:Nat):Int))|exact (rfl:_=((1:Nat):Int))|exact (rfl:_=((2:Nat):Int))|exact (rfl:_=((3:Nat):Int))|exact (Int.toNat_of_nonneg (by omega)).symm);(· first|omega|((simp only[cD]);omega)))|((with_reducible apply aeC);(· exact ie);(· exact Q7);(· exact sop);(· exact ie);(· first|exact (rfl:((_:Nat):Int)=_)|exact (rfl:_=((0:Nat):Int))|exact (rfl:_=((1:Nat):Int))|exact (rfl:_=((2:Nat):Int))|exact (rfl:_=((3:Nat):Int))|exact (Int.toNat_of_nonneg (by omega)).symm);(· first|omega|((simp only[cD]);omega)))|((with_reducible apply aeD);(· exact ie);(· exact ie))|((with_reducible apply aeG);(· exact ie);(· intro _;kernel_rfl))|((with_reducible apply aeF);(· exact rfl);(· first|exact knp (.agg zc)|exact knp (.agg #[nS])|exact knp (.agg #[nS,nS])|exact knp (.agg #[iw 0,iw 0])|exact knp (.agg #[nS,iw 0,nS])))|fail):Lt P E o Z As v:=t
theorem dyp{p:bb→Prop}{b:Bool}(h:∀H,p H→b=true:=by first|exact fun _ _=>rfl|(intro _ _;(have f_ := ‹∃p c,_=Value.slice p _ c›);refine fE f_ ?_;intro _ _;kernel_rfl)):∀H,p H→b=true:=h
theorem bO{f:FuncId}{fn:Func}{c:Code}{args:List Value}{R:Value→List aW→Prop}(hf:P.funcs[f]?=some fn)(m:Nat)(h:∀w0,SK P w0 c (zx P fn w0 Z R) m E Z As)
 (hE:ZL args 0 E:=by repeat (first|exact ZL.n _|(apply ZL.c;(· first|((refine (?_:Nat.beq _ 1=true));exact rfl)|((refine (?_:Nat.beq _ 2=true));exact rfl)|((refine (?_:Nat.beq _ 3=true));exact rfl)|((refine (?_:Nat.beq _ 4=true));exact rfl)|((refine (?_:Nat.beq _ 5=true));exact rfl)|((refine (?_:Nat.beq _ 6=true));exact rfl)|((refine (?_:Nat.beq _ 7=true));exact rfl)))))
 (hb:fn.body=some c:=by rfl) (hm:fn.ntmps=m:=by rfl) (hle:Nat.ble args.toArray.size m=true:=by rfl):SF P f args.toArray Z As R:=bx hf m E h hb hm hle hE.eq
theorem gy {X Y : Prop} (h : Y) (e : BX Y → X := by
  intro h_
  first | ((with_reducible apply JF); (· exact zi)) | ((with_reducible apply JE); (· exact zi)) | ((with_reducible apply JG); (· exact zi))
  repeat (first | with_reducible apply bH | ((with_reducible apply JI); (· exact lty); (· exact rfl); (· kernel_rfl)) | refine gSt ?_ | ((with_reducible apply abE); (· exact ie); (· exact lk); (· exact ulp); (· exact slp); (· first | exact ⟨rfl, rfl⟩ | exact Nh (by assumption)); (· decide +kernel); (· exact rfl); (· kernel_rfl)) | ((with_reducible apply aeH); (· exact ie); (· exact lk); (· exact Q7); (· exact ulp); (· exact slp); (· decide +kernel); (· exact rfl); (· kernel_rfl)) | refine gKt ?_ | refine gXt ?_ | ((with_reducible apply abv); (· exact dyp)) | with_reducible apply a8)
  exact h_.h) : X := e ⟨h⟩
theorem fk {X Y1 Y2 p q : Prop} (h1 : p → Y1) (h2 : q → Y2) (e : BX (p → Y1) → BX (q → Y2) → X := by
  intro h_ k_
  refine gy ?_
  first | exact kdn (fun x_ => h_.h x_) (fun x_ => k_.h x_) | exact kdq (fun x_ => h_.h x_) (fun x_ => k_.h x_) | exact b9 (fun x_ => h_.h x_) (fun x_ => k_.h x_) | exact kd (fun x_ => h_.h x_) (fun x_ => k_.h x_)) : X := e ⟨h1⟩ ⟨h2⟩
theorem gl {X Y : Prop} {o : Oper} (h : Y) (e : BX (Lt P E o Z As v) → BX Y → X := by
  intro t_ h_
  refine gy ?_
  ((with_reducible apply sL t_.h); (try kernel_rfl))
  refine gy ?_
  exact h_.h) (t : Lt P E o Z As v) : X := e ⟨t⟩ ⟨h⟩
inductive RN:List ResultVar→List ResultVar→Prop
 | n:RN [] []
 | c {a:ResultVar}{r r':List ResultVar}:RN r r'→RN (a::r) (a::r')
theorem RN.eq{l l':List ResultVar}(h:RN l l'):l=l':=by
 induction h with
 | n=>rfl
 | c _ ih=>rw[ih]
theorem aeI{fn:Func}{R:Value→List aW→Prop}{rs:List ResultVar}{vs:List Value}(hr:RN fn.results.toList rs)(hi:SI P E Z As rs vs)(hv:Go.J.pack vs=v)(h:FG R v Z As):SX w0 .ret (zx P fn w0 Z R) n E Z As:=abw hr.eq hi hv h
theorem abF{fn:Func}{R:Value→List aW→Prop}{rs:List ResultVar}{vs:List Value}(hr:RN fn.results.toList rs)(hi:SI P E Z As rs vs)(hv:Go.J.pack vs=v)(h:FG R v Z As):SX w0 .normal (zx P fn w0 Z R) n E Z As:=XB hr.eq hi hv h
theorem gz {X Y : Prop} (h : Y) (e : BX Y → X := by
  intro h_
  refine gy ?_
  (first | ((with_reducible apply aeI); (· repeat (first | exact RN.n | apply RN.c)); (· exact sip); (· exact rfl)) | ((with_reducible apply abF); (· repeat (first | exact RN.n | apply RN.c)); (· exact sip); (· exact rfl)))
  exact h_.h) : X := e ⟨h⟩
theorem ge {X : Prop} (e : X := by
  refine gz ?_
  exact fg ⟨rfl, rfl⟩) : X := e
structure CX(is:List Nat)(Y:Prop):Prop where
 h:Y
theorem sCc{f:FuncId}{xs:Array Operand}{ts:Array TypeId}{vals:List Value}{v:Value}{Ah Bs:List aW}{is:List Nat}(c:CX is (SF P f vals.toArray Z Ah fun r Ng=>r=v∧Ng=Bs))(h:SL P w0 ops Q n rest ((d,v)::E) Z Bs)(hp:rearr As is=Ah:=by rfl)(hx:(xs.toList.map (ev E))=vals:=by rfl)(hfn:rI P f=true:=by kernel_rfl)(hk:cU ops n E ⟨some d,.call { callee:=.value (.func f),args:=xs,argTypes:=ts },ty,ps,af,gd⟩=true:=by kernel_rfl):SL P w0 ops Q n (⟨some d,.call { callee:=.value (.func f),args:=xs,argTypes:=ts },ty,ps,af,gd⟩::rest) E Z As:=sC is c.h h hp hx hfn hk
theorem sVc{f:FuncId}{xs:Array Operand}{ts:Array TypeId}{vals:List Value}{v:Value}(c:BX (∀H,Holds Z As H→SF P f vals.toArray (gK H) [] fun r Bs=>r=v∧Bs=[]))(h:SL P w0 ops Q n rest ((d,v)::E) Z As)(hx:(xs.toList.map (ev E))=vals:=by rfl)(hfn:rI P f=true:=by kernel_rfl)(hk:cU ops n E ⟨some d,.call { callee:=.value (.func f),args:=xs,argTypes:=ts },ty,ps,af,gd⟩=true:=by kernel_rfl):SL P w0 ops Q n (⟨some d,.call { callee:=.value (.func f),args:=xs,argTypes:=ts },ty,ps,af,gd⟩::rest) E Z As:=sV c.h h hx hfn hk
theorem gC {X Y : Prop} {f : FuncId} {vals : List Value} {v : Value} {Ah Bs : List aW} (is : List Nat) (h : Y) (e : CX is (SF P f vals.toArray Z Ah fun r Ng => r = v ∧ Ng = Bs) → BX Y → X := by
  intro c_ h_
  refine gy ?_
  refine sCc c_ ?_
  refine gy ?_
  exact h_.h) (c : SF P f vals.toArray Z Ah fun r Ng => r = v ∧ Ng = Bs) : X := e ⟨c⟩ ⟨h⟩
theorem gV {X Y : Prop} {f : FuncId} {vals : List Value} {v : Value} (h : Y) (e : BX (∀ H, Holds Z As H → SF P f vals.toArray (gK H) [] fun r Bs => r = v ∧ Bs = []) → BX Y → X := by
  intro c_ h_
  refine gy ?_
  refine sVc c_ ?_
  refine gy ?_
  exact h_.h) (c : ∀ H, Holds Z As H → SF P f vals.toArray (gK H) [] fun r Bs => r = v ∧ Bs = []) : X := e ⟨c⟩ ⟨h⟩
theorem gA {X : Prop} {Y : Nat → Prop} (h : ∀ g, Y g) (e : BX (∀ g, Y g) → X := by
  intro h_
  refine gy ?_
  (first | ((with_reducible apply ael); (· exact zvp); (· kernel_rfl)) | ((with_reducible apply aem); (· exact ie); (· kernel_rfl)) | ((with_reducible apply aen); (· exact ie); (· first | exact ⟨rfl, rfl⟩ | exact Nh (by assumption)); (· kernel_rfl)) | ((with_reducible apply aeo); (· exact bcp); (· kernel_rfl)) | ((with_reducible apply aep); (· exact ie); (· exact bcp); (· kernel_rfl)) | ((with_reducible apply aeq); (· exact ie); (· exact bcp); (· kernel_rfl)))
  intro g_
  refine gy ?_
  exact h_.h g_) : X := e ⟨h⟩
theorem gP {α : Type} {X : Prop} {Y : Value → Prop} {k : Nat} (M : List α) (h : ∀ v, (∃ p c, v = .slice p k c) → Y v) (e : BY M (∀ v, (∃ p c, v = .slice p k c) → Y v) → X := by
  intro h_
  refine gy ?_
  (first | ((with_reducible apply aer); (· assumption); (· exact ie); (· first | ((repeat (first | with_reducible exact uG | with_reducible apply uH)); done) | ((repeat (first | exact uG | with_reducible apply uH)); done)); (· exact ie); (· first | exact (rfl : _ = 8) | exact (rfl : _ = 48) | exact (rfl : _ = 104) | exact (rfl : _ = 72) | exact (rfl : _ = 16) | exact (rfl : _ = 24) | exact (rfl : _ = 32) | exact (rfl : _ = 40) | exact (rfl : _ = 56) | exact (rfl : _ = 64) | exact (rfl : _ = 96) | exact (rfl : _ = 1)); (· exact sop); (· first | exact Q7 | ((with_reducible apply VH); (· first | ((repeat (first | with_reducible exact uG | with_reducible apply uH)); done) | ((repeat (first | exact uG | with_reducible apply uH)); done)); (· exact tkp); (· exact rfl); (· exact rfl); (· exact rfl); (· simp))); (· first | omega | ((simp only [cD]); omega)); (· first | omega | ((simp only [cD]); omega)); (· kernel_rfl)) | ((with_reducible apply aes); (· assumption); (· exact ie); (· first | ((repeat (first | with_reducible exact uG | with_reducible apply uH)); done) | ((repeat (first | exact uG | with_reducible apply uH)); done)); (· exact ie); (· first | exact (rfl : _ = 8) | exact (rfl : _ = 48) | exact (rfl : _ = 104) | exact (rfl : _ = 72) | exact (rfl : _ = 16) | exact (rfl : _ = 24) | exact (rfl : _ = 32) | exact (rfl : _ = 40) | exact (rfl : _ = 56) | exact (rfl : _ = 64) | exact (rfl : _ = 96) | exact (rfl : _ = 1)); (· exact sop); (· first | exact Q7 | ((with_reducible apply VH); (· first | ((repeat (first | with_reducible exact uG | with_reducible apply uH)); done) | ((repeat (first | exact uG | with_reducible apply uH)); done)); (· exact tkp); (· exact rfl); (· exact rfl); (· exact rfl); (· simp))); (· first | omega | ((simp only [cD]); omega)); (· first | omega | ((simp only [cD]); omega)); (· kernel_rfl)))
  intro v_ hf_
  refine gy ?_
  exact h_.h v_ hf_) : X := e ⟨h⟩
theorem xC{p:Unit→Prop}{Ei:Unit→Env}{Ai:Unit→List aW}(hE:mq E (Ei ()):=by first|(refine abx ?_ ?_ ?_ ?_;(· exact rfl);(· exact rfl);(· exact rfl);first|exact rfl|((refine cB ?_);first|(simp only[*,jK];done)|(simp[*];done)))|((refine bc rfl ?_;repeat first|exact trivial|refine⟨⟨rfl,rfl⟩,?_⟩|(refine⟨⟨rfl,cB ?_⟩,?_⟩;(· first|(simp only[*,jK];done)|(simp[*];done))));done)|fail)(hA:∀H,Holds Z As H→Holds Z (Ai ()) H:=by exact rA)(hp:p ():=by exact trivial):SX w0 .normal (Exit.then (Cut w0 n p Ei Ai Z) Q) n E Z As:=bh () hp hE hA
end
end Go.S
end
namespace Go.Proofs.YtmhpcebiamkciaaGreat
open Go.Hp Go.J Go.S
open Go.Mem (fS Ty eB bN dg cL cm db dO blk blk_pre fM elemAt pre rF suf)
section
variable{Z:bK}{S:List cY}{b a j i:Nat}{F:List aW}{H:bb}{s:cY}{k v:Vl}{sv:Value}
theorem abG(x y:Nat):NF 232 #[iw x,iw y] Z [] (iw (Nat.gcd x y)):=by
 refine bO Tryz.func232 12 (fun w0=>?_);refine gy ?_;refine aD (ι:=Nat×Nat) (fun (a,b)=>Nat.gcd a b=Nat.gcd x y) (fun (a,b)=>[(0,iw (a:Int)),(1,iw (b:Int)),(4,iw 0)]) (fun (a,b)=>[]) (fun (a,b)=>b) (x,y) rfl sA rA ?_;rintro⟨a,b⟩ cQ;try dsimp only at cQ⊢
 refine fk (fun p3=>?_) (fun p4=>?_)
 .refine gl ?_ (t:=Lt.to (v':=iw ((a % b:Nat):Int)) (xz (a:Int) (b:Int) om) rfl);exact az (b,a % b) (by exact Nat.mod_lt _ om) (by show Nat.gcd b (a % b)=_;rw[Dj];exact cQ) sA rA
 refine gy ?_;obtain rfl:b=0:=by omega
 refine ad _ _ (SI.tmp 4 SI.nil) (rr [] []) ⟨?_,rfl⟩;rw[←cQ,Nat.gcd_zero_right];rfl
theorem abH(x y:Int)(hx:0≤x)(hy:0≤y):NF 232 #[iw x,iw y] Z [] (iw (Nat.gcd x.toNat y.toNat)):=by
 have h:=abG (Z:=Z) x.toNat y.toNat;rw[show ((x.toNat:Nat):Int)=x by omega,show ((y.toNat:Nat):Int)=y by omega]at h;exact h
theorem XF(x y:Nat):NF 237 #[iw x,iw y] Z [] (iw (Nat.gcd x y)):=by
 refine bO Tryz.func237 12 (fun w0=>?_);refine gy ?_;refine aD (ι:=Nat×Nat) (fun (a,b)=>Nat.gcd a b=Nat.gcd x y) (fun (a,b)=>[(0,iw (a:Int)),(1,iw (b:Int)),(4,iw 0)]) (fun (a,b)=>[]) (fun (a,b)=>b) (x,y) rfl sA rA ?_;rintro⟨a,b⟩ cQ;try dsimp only at cQ⊢
 refine fk (fun p3=>?_) (fun p4=>?_)
 .refine gl ?_ (t:=Lt.to (v':=iw ((a % b:Nat):Int)) (xz (a:Int) (b:Int) om) rfl);exact az (b,a % b) (by exact Nat.mod_lt _ om) (by show Nat.gcd b (a % b)=_;rw[Dj];exact cQ) sA rA
 refine gy ?_;obtain rfl:b=0:=by omega
 refine ad _ _ (SI.tmp 4 SI.nil) (rr [] []) ⟨?_,rfl⟩;rw[←cQ,Nat.gcd_zero_right];rfl
theorem XG(x y:Int)(hx:0≤x)(hy:0≤y):NF 237 #[iw x,iw y] Z [] (iw (Nat.gcd x.toNat y.toNat)):=by
 have h:=XF (Z:=Z) x.toNat y.toNat;rw[show ((x.toNat:Nat):Int)=x by omega,show ((y.toNat:Nat):Int)=y by omega]at h;exact h
theorem abI(x:Int)(h1 : -2147483647≤x)(h2:x≤2147483647):NF 238 #[iw x] Z [] (iw (if x < -x then -x else x)):=by
 refine bO Tryz.func238 8 (fun w0=>?_);refine fk (fun p2=>?_) (fun p3=>?_)
 .refine aE<|bd<|sL (ai (iw x)) ?_
  refine sL (Vw x om) ?_;refine gy ?_;refine ad _ _ (SI.tmp 2 SI.nil) rA ⟨?_,rfl⟩;exact cI om
 refine gy ?_;refine ad _ _ (SI.tmp 2 SI.nil) rA ⟨?_,rfl⟩;exact cI om
theorem XH(p q:Int):NF 191 #[.agg #[iw p,iw q]] Z [] (.bool (je p q)):=by
 refine bO Tryz.func191 33 (fun w0=>?_);refine aE<|bd<|bj #[iw p,iw q] (fun g1=>?_)
 refine gs ?_;refine b6 (ι:=Unit) (fun _=>True) (fun _=>[(2,.bool ((decide ((1:Int)≤q))&&((decide (q≤2147483647))&&((decide ((-2147483647)≤p))&&((decide (p≤2147483647))&&(decide (((Nat.gcd ((if p<(-p) then (-p) else p)).toNat (q).toNat:Nat):Int)=1)))))))]) (fun _=>[aa g1 #[iw p,iw q] 69]) ?_ (fun _ _=>?_)
 .refine gc ?_;refine eF 6 (fun p3=>?_) (fun fL=>?_)
  .refine gc ?_;refine eF 11 (fun p5=>?_) (fun my=>?_)
   .refine gc ?_;refine eF 16 (fun p7=>?_) (fun im=>?_)
    .refine gc ?_;refine eF 21 (fun p9=>?_) (fun gQ=>?_)
     .refine sL (ai (pB g1 0))<|sL (aJ 0 (iw p))<|sL (ai (pB g1 0))<|sL (aJ 0 (iw p))<|sL (Vw p om)<|sL Dc ?_
      refine gV ?_ (c:=fun _ h=>abH (if p<(-p) then (-p) else p) q om om);exact xc
     refine go ?_;exact xc
    refine go ?_;exact xc
   refine go ?_;exact xc
  refine go ?_;exact xc
 refine eM<|ad _ _ (SI.tmp 2 SI.nil) rA ⟨?_,rfl⟩
 exact cB (Ak p q)
theorem HV(p q:Int):NF 196 #[.agg #[iw p,iw q]] Z [] (.bool (je p q)):=by
 refine bO Tryz.func196 30 (fun w0=>?_);refine aE<|bd<|bj #[iw p,iw q] (fun g1=>?_)
 refine gs ?_;refine b6 (ι:=Unit) (fun _=>True) (fun _=>[(2,.bool ((decide ((1:Int)≤q))&&((decide (q≤2147483647))&&((decide (p≤2147483647))&&((decide ((-2147483647)≤p))&&(decide (((Nat.gcd ((if p<(-p) then (-p) else p)).toNat (q).toNat:Nat):Int)=1)))))))]) (fun _=>[aa g1 #[iw p,iw q] 69]) ?_ (fun _ _=>?_)
 .refine br [aa g1 #[iw p,iw q] 69] ?_;refine bR 0 rfl (aj ao) [0] (fun _=>(ai (pB g1 1))) ?_;refine bR 1 rfl (aj ao) [0] (fun _=>(aJ 0 (iw q))) ?_;refine bR 2 rfl (aj ao) [0] (fun _=>aT) ?_;refine bR 3 rfl (aj ao) [0] (fun _=>(ai (.bool (decide ((1:Int)≤q))))) ?_;refine qh 6 (decide ((1:Int)≤q)) (fun c2=>?_) (fun c2=>?_)
  .have p3:=dY c2;refine bR 4 rfl (aj ao) [0] (fun _=>(ai (pB g1 1))) ?_;refine bR 5 rfl (aj ao) [0] (fun _=>(aJ 0 (iw q))) ?_;refine bR 6 rfl (aj ao) [0] (fun _=>aT) ?_;refine bR 7 rfl (aj ao) [0] (fun _=>(ai (.bool (decide (q≤2147483647))))) ?_;refine bR 8 rfl (aj ao) [0] (fun _=>(ai (.bool (decide (q≤2147483647))))) ?_;refine qh 11 (decide (q≤2147483647)) (fun c4=>?_) (fun c4=>?_)
   .have p5:=dY c4;refine bR 9 rfl (aj ao) [0] (fun _=>(ai (pB g1 0))) ?_;refine bR 10 rfl (aj ao) [0] (fun _=>(aJ 0 (iw p))) ?_;refine bR 11 rfl (aj ao) [0] (fun _=>aT) ?_;refine bR 12 rfl (aj ao) [0] (fun _=>(ai (.bool (decide (p≤2147483647))))) ?_;refine bR 13 rfl (aj ao) [0] (fun _=>(ai (.bool (decide (p≤2147483647))))) ?_;refine qh 16 (decide (p≤2147483647)) (fun c6=>?_) (fun c6=>?_)
    .have p7:=dY c6;refine bR 14 rfl (aj ao) [0] (fun _=>(ai (pB g1 0))) ?_;refine bR 15 rfl (aj ao) [0] (fun _=>(aJ 0 (iw p))) ?_;refine bR 16 rfl (aj ao) [0] (fun _=>aT) ?_;refine bR 17 rfl (aj ao) [0] (fun _=>(ai (.bool (decide ((-2147483647)≤p))))) ?_;refine bR 18 rfl (aj ao) [0] (fun _=>(ai (.bool (decide ((-2147483647)≤p))))) ?_;refine qh 21 (decide ((-2147483647)≤p)) (fun c8=>?_) (fun c8=>?_)
     .have p9:=dY c8;refine bR 19 rfl (aj ao) [0] (fun _=>(ai (pB g1 0))) ?_;refine bR 20 rfl (aj ao) [0] (fun _=>(aJ 0 (iw p))) ?_;refine bR 22 rfl (aj ao) [0] (fun _=>(ai (pB g1 1))) ?_;refine bR 23 rfl (aj ao) [0] (fun _=>(aJ 0 (iw q))) ?_;refine ag 21 ?_;refine sV (fun _ h=>abI p om om)<|nH [0]<|ag 24 ?_
      refine sV (fun _ h=>XG (if p<(-p) then (-p) else p) q om om)<|nH [0]<|bR 25 rfl (aj ao) [0] (fun _=>aT) ?_
      refine bR 26 rfl (aj ao) [0] (fun _=>(ai (.bool (decide (((Nat.gcd ((if p<(-p) then (-p) else p)).toNat (q).toNat:Nat):Int)=1))))) ?_;refine bR 27 rfl (aj ao) [0] (fun _=>(ai (.bool (decide (((Nat.gcd ((if p<(-p) then (-p) else p)).toNat (q).toNat:Nat):Int)=1))))) ?_;refine aI ?_;exact xc
     have gQ:=dF c8;refine bS 19 (aj ao) [0] ?_;refine bS 20 (aj ao) [0] ?_;refine bS 22 (aj ao) [0] ?_;refine bS 23 (aj ao) [0] ?_;refine ag 21 ?_;refine sK<|nH [0]<|ag 24 ?_
     refine sK<|nH [0]<|bS 25 (aj ao) [0] ?_
     refine bR 26 rfl (aj ao) [0] (fun _=>(ai (.bool false))) ?_;refine bR 27 rfl (aj ao) [0] (fun _=>(ai (.bool false))) ?_;refine aI ?_;exact xc
    have im:=dF c6;refine bS 14 (aj ao) [0] ?_;refine bS 15 (aj ao) [0] ?_;refine bS 16 (aj ao) [0] ?_;refine bR 17 rfl (aj ao) [0] (fun _=>(ai (.bool false))) ?_;refine bR 18 rfl (aj ao) [0] (fun _=>(ai (.bool false))) ?_;refine bS 19 (aj ao) [0] ?_;refine bS 20 (aj ao) [0] ?_;refine bS 22 (aj ao) [0] ?_;refine bS 23 (aj ao) [0] ?_;refine ag 21 ?_;refine sK<|nH [0]<|ag 24 ?_
    refine sK<|nH [0]<|bS 25 (aj ao) [0] ?_
    refine bR 26 rfl (aj ao) [0] (fun _=>(ai (.bool false))) ?_;refine bR 27 rfl (aj ao) [0] (fun _=>(ai (.bool false))) ?_;refine aI ?_;exact xc
   have my:=dF c4;refine bS 9 (aj ao) [0] ?_;refine bS 10 (aj ao) [0] ?_;refine bS 11 (aj ao) [0] ?_;refine bR 12 rfl (aj ao) [0] (fun _=>(ai (.bool false))) ?_;refine bR 13 rfl (aj ao) [0] (fun _=>(ai (.bool false))) ?_;refine bS 14 (aj ao) [0] ?_;refine bS 15 (aj ao) [0] ?_;refine bS 16 (aj ao) [0] ?_;refine bR 17 rfl (aj ao) [0] (fun _=>(ai (.bool false))) ?_;refine bR 18 rfl (aj ao) [0] (fun _=>(ai (.bool false))) ?_;refine bS 19 (aj ao) [0] ?_;refine bS 20 (aj ao) [0] ?_;refine bS 22 (aj ao) [0] ?_;refine bS 23 (aj ao) [0] ?_;refine ag 21 ?_;refine sK<|nH [0]<|ag 24 ?_
   refine sK<|nH [0]<|bS 25 (aj ao) [0] ?_
   refine bR 26 rfl (aj ao) [0] (fun _=>(ai (.bool false))) ?_;refine bR 27 rfl (aj ao) [0] (fun _=>(ai (.bool false))) ?_;refine aI ?_;exact xc
  have fL:=dF c2;refine bS 4 (aj ao) [0] ?_;refine bS 5 (aj ao) [0] ?_;refine bS 6 (aj ao) [0] ?_;refine bR 7 rfl (aj ao) [0] (fun _=>(ai (.bool false))) ?_;refine bR 8 rfl (aj ao) [0] (fun _=>(ai (.bool false))) ?_;refine bS 9 (aj ao) [0] ?_;refine bS 10 (aj ao) [0] ?_;refine bS 11 (aj ao) [0] ?_;refine bR 12 rfl (aj ao) [0] (fun _=>(ai (.bool false))) ?_;refine bR 13 rfl (aj ao) [0] (fun _=>(ai (.bool false))) ?_;refine bS 14 (aj ao) [0] ?_;refine bS 15 (aj ao) [0] ?_;refine bS 16 (aj ao) [0] ?_;refine bR 17 rfl (aj ao) [0] (fun _=>(ai (.bool false))) ?_;refine bR 18 rfl (aj ao) [0] (fun _=>(ai (.bool false))) ?_;refine bS 19 (aj ao) [0] ?_;refine bS 20 (aj ao) [0] ?_;refine bS 22 (aj ao) [0] ?_;refine bS 23 (aj ao) [0] ?_;refine ag 21 ?_;refine sK<|nH [0]<|ag 24 ?_
  refine sK<|nH [0]<|bS 25 (aj ao) [0] ?_
  refine bR 26 rfl (aj ao) [0] (fun _=>(ai (.bool false))) ?_;refine bR 27 rfl (aj ao) [0] (fun _=>(ai (.bool false))) ?_;refine aI ?_;exact xc
 refine eM<|ad _ _ (SI.tmp 2 SI.nil) rA ⟨?_,rfl⟩
 exact cB (FL p q)
theorem lb(v:Vl):NF 141 #[v.v] Z [] (.bool (au v)):=by
 refine bO Tryz.func141 74 (fun w0=>?_);refine bn ?_;refine bj (vc v) (fun g1=>?_);refine go ?_;refine sL (ay (.agg #[iw v.kind,iw 0,iw 0,sw eb,iw 0])) ?_;refine ae (.agg zc) zc (fun g2=>?_);refine gc ?_;refine b9 (fun p4=>?_) (fun p5=>?_)
 .refine gy ?_;refine ad _ _ (SI.tmp 2 SI.nil) rA ⟨?_,rfl⟩;refine cB ?_;first|(simp[au,p4];done)|(rw[Bool.and_comm];simp[au,p4];done)|(rw[Bool.eq_iff_iff];simp[au,p4,and_comm,and_left_comm,and_assoc];done)
 refine gc ?_;refine b9 (fun p7=>?_) (fun iU=>?_)
 .refine gc ?_;refine eF 20 (fun p9=>?_) (fun gQ=>?_)
  .refine gy ?_;refine ad _ _ (SI.tmp 2 SI.nil) rA ⟨?_,rfl⟩;refine cB ?_;first|(simp[au,p5,p7,p9];done)|(rw[Bool.and_comm];simp[au,p5,p7,p9];done)|(rw[Bool.eq_iff_iff];simp[au,p5,p7,p9,and_comm,and_left_comm,and_assoc];done)
  refine gu ?_;refine b6 (ι:=Unit) (fun _=>True) (fun _=>[(2,.bool ((decide (v.ref=1))&&(decide (v=(⟨v.kind,0,0,eb,v.ref⟩:Vl)))))]) (fun _=>[aa g2 #[iw v.kind,iw 0,iw 0,sw eb,iw v.ref] 71,aa g1 (vc v) 71]) ?_ (fun _ _=>?_)
  .refine go ?_;refine eF 69 (fun my=>?_) (fun fL=>?_)
   .refine gy ?_;exact xc
   refine go ?_;exact xc
  refine gy ?_;refine ad _ _ (SI.tmp 2 SI.nil) rA ⟨?_,rfl⟩;refine cB ?_;first|(simp[au,p5,p7,gQ];done)|(rw[Bool.and_comm];simp[au,p5,p7,gQ];done)|(rw[Bool.eq_iff_iff];simp[au,p5,p7,gQ,and_comm,and_left_comm,and_assoc];done)
 refine gc ?_;refine b9 (fun so=>?_) (fun jW=>?_)
 .refine go ?_;refine sV (fun _ h=>XH v.p v.q) ?_;refine gs ?_;refine b6 (ι:=Unit) (fun _=>True) (fun _=>[(2,.bool ((je v.p v.q)&&(decide (v=(⟨v.kind,v.p,v.q,eb,0⟩:Vl)))))]) (fun _=>[aa g2 #[iw v.kind,iw v.p,iw v.q,sw eb,iw 0] 71,aa g1 (vc v) 71]) ?_ (fun _ _=>?_)
  .refine go ?_;refine oW 69 (fun HJ=>?_) (fun HJ=>?_)
   .refine gy ?_;exact xc
   refine go ?_;exact xc
  refine gy ?_;refine ad _ _ (SI.tmp 2 SI.nil) rA ⟨?_,rfl⟩;refine cB ?_;first|(simp[au,p5,iU,so];done)|(rw[Bool.and_comm];simp[au,p5,iU,so];done)|(rw[Bool.eq_iff_iff];simp[au,p5,iU,so,and_comm,and_left_comm,and_assoc];done)
 refine gc ?_;refine b9 (fun zj=>?_) (fun kU=>?_)
 .refine go ?_;refine sL (ay (iw (v.str.size:Int))) ?_;refine gu ?_;refine b6 (ι:=Unit) (fun _=>True) (fun _=>[(2,.bool ((decide ((v.str.size:Int)≤4096))&&(decide (v=(⟨v.kind,0,0,v.str,0⟩:Vl)))))]) (fun _=>[aa g2 #[iw v.kind,iw 0,iw 0,sw v.str,iw 0] 71,aa g1 (vc v) 71]) ?_ (fun _ _=>?_)
  .refine go ?_;refine eF 69 (fun nQ=>?_) (fun zA=>?_)
   .refine gy ?_;exact xc
   refine go ?_;exact xc
  refine gy ?_;refine ad _ _ (SI.tmp 2 SI.nil) rA ⟨?_,rfl⟩;refine cB ?_;first|(simp[au,p5,iU,jW,zj];done)|(rw[Bool.and_comm];simp[au,p5,iU,jW,zj];done)|(rw[Bool.eq_iff_iff];simp[au,p5,iU,jW,zj,and_comm,and_left_comm,and_assoc];done)
 refine gc ?_;refine kd (fun xI=>?_) (fun xI=>?_)
 .have oP:=dY xI;refine eT ?_;refine iy (hv:=cB xI)<|bn ?_
  refine gs ?_;refine bd ?_;refine gu ?_;refine b6 (ι:=Unit) (fun _=>True) (fun _=>[(2,.bool ((decide ((1:Int)≤v.ref))&&(decide (v=(⟨v.kind,0,0,eb,v.ref⟩:Vl)))))]) (fun _=>[aa g2 #[iw v.kind,iw 0,iw 0,sw eb,iw v.ref] 71,aa g1 (vc v) 71]) ?_ (fun _ _=>?_)
  .refine go ?_;refine eF 69 (fun pD=>?_) (fun Dt=>?_)
   .refine gy ?_;exact xc
   refine go ?_;exact xc
  refine gy ?_;refine ad _ _ (SI.tmp 2 SI.nil) rA ⟨?_,rfl⟩;refine cB ?_;first|(simp[au,p5,iU,jW,kU,oP];done)|(rw[Bool.and_comm];simp[au,p5,iU,jW,kU,oP];done)|(rw[Bool.eq_iff_iff];simp[au,p5,iU,jW,kU,oP,and_comm,and_left_comm,and_assoc];done)
 have oE:=dF xI;refine gc ?_;refine kd (fun nR=>?_) (fun nR=>?_)
 .have uI:=dY nR;refine eT ?_;refine iy (hv:=cB nR)<|bn ?_
  refine gs ?_;refine bd ?_;refine gu ?_;refine b6 (ι:=Unit) (fun _=>True) (fun _=>[(2,.bool ((decide ((1:Int)≤v.ref))&&(decide (v=(⟨v.kind,0,0,eb,v.ref⟩:Vl)))))]) (fun _=>[aa g2 #[iw v.kind,iw 0,iw 0,sw eb,iw v.ref] 71,aa g1 (vc v) 71]) ?_ (fun _ _=>?_)
  .refine go ?_;refine eF 69 (fun kt=>?_) (fun Ay=>?_)
   .refine gy ?_;exact xc
   refine go ?_;exact xc
  refine gy ?_;refine ad _ _ (SI.tmp 2 SI.nil) rA ⟨?_,rfl⟩;refine cB ?_;first|(simp[au,p5,iU,jW,kU,oE,uI];done)|(rw[Bool.and_comm];simp[au,p5,iU,jW,kU,oE,uI];done)|(rw[Bool.eq_iff_iff];simp[au,p5,iU,jW,kU,oE,uI,and_comm,and_left_comm,and_assoc];done)
 have jr:=dF nR;refine gc ?_;refine kd (fun HX=>?_) (fun HX=>?_)
 .have mD:=dY HX;refine eT ?_;refine iy (hv:=cB HX)<|bn ?_
  refine gs ?_;refine bd ?_;refine gu ?_;refine b6 (ι:=Unit) (fun _=>True) (fun _=>[(2,.bool ((decide ((1:Int)≤v.ref))&&(decide (v=(⟨v.kind,0,0,eb,v.ref⟩:Vl)))))]) (fun _=>[aa g2 #[iw v.kind,iw 0,iw 0,sw eb,iw v.ref] 71,aa g1 (vc v) 71]) ?_ (fun _ _=>?_)
  .refine go ?_;refine eF 69 (fun qn=>?_) (fun Ni=>?_)
   .refine gy ?_;exact xc
   refine go ?_;exact xc
  refine gy ?_;refine ad _ _ (SI.tmp 2 SI.nil) rA ⟨?_,rfl⟩;refine cB ?_;first|(simp[au,p5,iU,jW,kU,oE,jr,mD];done)|(rw[Bool.and_comm];simp[au,p5,iU,jW,kU,oE,jr,mD];done)|(rw[Bool.eq_iff_iff];simp[au,p5,iU,jW,kU,oE,jr,mD,and_comm,and_left_comm,and_assoc];done)
 have uJ:=dF HX;refine gc ?_;refine b9 (fun LJ=>?_) (fun CK=>?_)
 .refine bn ?_;refine gs ?_;refine bd ?_;refine gu ?_;refine b6 (ι:=Unit) (fun _=>True) (fun _=>[(2,.bool ((decide ((1:Int)≤v.ref))&&(decide (v=(⟨v.kind,0,0,eb,v.ref⟩:Vl)))))]) (fun _=>[aa g2 #[iw v.kind,iw 0,iw 0,sw eb,iw v.ref] 71,aa g1 (vc v) 71]) ?_ (fun _ _=>?_)
  .refine go ?_;refine eF 69 (fun HY=>?_) (fun Sy=>?_)
   .refine gy ?_;exact xc
   refine go ?_;exact xc
  refine gy ?_;refine ad _ _ (SI.tmp 2 SI.nil) rA ⟨?_,rfl⟩;refine cB ?_;first|(simp[au,p5,iU,jW,kU,oE,jr,uJ,LJ];done)|(rw[Bool.and_comm];simp[au,p5,iU,jW,kU,oE,jr,uJ,LJ];done)|(rw[Bool.eq_iff_iff];simp[au,p5,iU,jW,kU,oE,jr,uJ,LJ,and_comm,and_left_comm,and_assoc];done)
 refine gc ?_;refine b9 (fun Du=>?_) (fun JJ=>?_)
 .refine gy ?_;refine eF 62 (fun CL=>?_) (fun FV=>?_)
  .refine go ?_;refine sL (ay (iw (v.str.size:Int))) ?_;refine gu ?_;refine b6 (ι:=Unit) (fun _=>True) (fun _=>[(2,.bool ((decide ((v.str.size:Int)≤4096))&&(decide (v=(⟨v.kind,0,0,v.str,0⟩:Vl)))))]) (fun _=>[aa g2 #[iw v.kind,iw 0,iw 0,sw v.str,iw 0] 71,aa g1 (vc v) 71]) ?_ (fun _ _=>?_)
   .refine go ?_;refine dW 69 (decide ((v.str.size:Int)≤4096)) (fun Sz=>?_) (fun Sz=>?_)
    .have zk:=dY Sz;refine gy ?_;exact xc
    have p55:=dF Sz;refine go ?_;exact xc
   refine gy ?_;refine ad _ _ (SI.tmp 2 SI.nil) rA ⟨?_,rfl⟩;refine cB ?_;first|(simp[au,p5,iU,jW,kU,oE,jr,uJ,CK,Du,CL];done)|(rw[Bool.and_comm];simp[au,p5,iU,jW,kU,oE,jr,uJ,CK,Du,CL];done)|(rw[Bool.eq_iff_iff];simp[au,p5,iU,jW,kU,oE,jr,uJ,CK,Du,CL,and_comm,and_left_comm,and_assoc];done)
  refine go ?_;refine ad _ _ (SI.tmp 2 SI.nil) rA ⟨?_,rfl⟩;refine cB ?_;first|(simp[au,p5,iU,jW,kU,oE,jr,uJ,CK,Du,FV];done)|(rw[Bool.and_comm];simp[au,p5,iU,jW,kU,oE,jr,uJ,CK,Du,FV];done)|(rw[Bool.eq_iff_iff];simp[au,p5,iU,jW,kU,oE,jr,uJ,CK,Du,FV,and_comm,and_left_comm,and_assoc];done)
 refine go ?_;refine ad _ _ (SI.tmp 2 SI.nil) rA ⟨?_,rfl⟩;refine cB ?_;first|(simp[au,p5,iU,jW,kU,oE,jr,uJ,CK,JJ];done)|(rw[Bool.and_comm];simp[au,p5,iU,jW,kU,oE,jr,uJ,CK,JJ];done)|(rw[Bool.eq_iff_iff];simp[au,p5,iU,jW,kU,oE,jr,uJ,CK,JJ,and_comm,and_left_comm,and_assoc];done)
theorem ku(v:Vl):NF 146 #[v.v] Z [] (.bool (au v)):=by
 refine bx Tryz.func146 88 [(0,.agg (vc v))] (fun w0=>?_);refine bn ?_;refine bj (vc v) (fun g1=>?_);refine gc ?_;refine b9 (fun p3=>?_) (fun p4=>?_)
 .refine gy ?_;refine ad _ _ (SI.tmp 2 SI.nil) (rr [] [0]) ⟨?_,rfl⟩;refine cB ?_;first|(simp[au,p3];done)|(rw[Bool.and_comm];simp[au,p3];done)|(rw[Bool.eq_iff_iff];simp[au,p3,and_comm,and_left_comm,and_assoc];done)
 refine gc ?_;refine b9 (fun p6=>?_) (fun fL=>?_)
 .refine b6 (ι:=Unit) (fun _=>True) (fun _=>[(2,.bool ((decide (v=(⟨1,0,0,eb,v.ref⟩:Vl)))&&((decide (v.ref=0))||(decide (v.ref=1)))))]) (fun _=>[aa g1 (vc v) 71]) ?_ (fun _ _=>?_)
  .refine go ?_;refine sL (ay (.agg #[iw 1,iw 0,iw 0,sw eb,iw v.ref]))<|sL (fY (fun w=>(ic v (⟨1,0,0,eb,v.ref⟩:Vl) w).1)) ?_
   refine go ?_;refine oW 17 (fun c7=>?_) (fun c7=>?_)
   .have p8:=dY c7;refine gc ?_;refine oW 21 (fun c9=>?_) (fun c9=>?_)
    .have gQ:=dY c9;refine go ?_;exact bh () trivial (bc rfl ⟨⟨rfl,cB (by simp[c7,c9])⟩,trivial⟩) (rr [0] [])
    have im:=dF c9;refine gc ?_;exact bh () trivial (bc rfl ⟨⟨rfl,cB (by simp[c7,c9])⟩,trivial⟩) (rr [0] [])
   have my:=dF c7;refine go ?_;exact bh () trivial (bc rfl ⟨⟨rfl,cB (by simp[c7])⟩,trivial⟩) (rr [0] [])
  refine go ?_;refine ad _ _ (SI.tmp 2 SI.nil) (rr [] [0]) ⟨?_,rfl⟩;refine cB ?_;first|(simp[au,p4,p6];done)|(rw[Bool.and_comm];simp[au,p4,p6];done)|(rw[Bool.eq_iff_iff];simp[au,p4,p6,and_comm,and_left_comm,and_assoc];done)
 refine gc ?_;refine kd (fun kj=>?_) (fun kj=>?_)
 .have kO:=dY kj;refine b6 (ι:=Unit) (fun _=>True) (fun _=>[(2,.bool ((decide (v=(⟨2,v.p,v.q,eb,0⟩:Vl)))&&(je v.p v.q)))]) (fun _=>[aa g1 (vc v) 71]) ?_ (fun _ _=>?_)
  .refine go ?_;refine sL (ay (.agg #[iw 2,iw v.p,iw v.q,sw eb,iw 0]))<|sL (fY (fun w=>(ic v (⟨2,v.p,v.q,eb,0⟩:Vl) w).1)) ?_
   refine go ?_;refine oW 34 (fun vV=>?_) (fun vV=>?_)
   .have mM:=dY vV;refine go ?_;refine sV (fun _ h=>HV v.p v.q) ?_;refine go ?_;exact bh () trivial (bc rfl ⟨⟨rfl,cB (by simp[vV])⟩,trivial⟩) (rr [0] [])
   have jW:=dF vV;refine go ?_;exact bh () trivial (bc rfl ⟨⟨rfl,cB (by simp[vV])⟩,trivial⟩) (rr [0] [])
  refine go ?_;refine ad _ _ (SI.tmp 2 SI.nil) (rr [] [0]) ⟨?_,rfl⟩;refine cB ?_;first|(simp[au,p4,fL,kO];done)|(rw[Bool.and_comm];simp[au,p4,fL,kO];done)|(rw[Bool.eq_iff_iff];simp[au,p4,fL,kO,and_comm,and_left_comm,and_assoc];done)
 have lp:=dF kj;refine gc ?_;refine kd (fun oD=>?_) (fun oD=>?_)
 .have oQ:=dY oD;refine b6 (ι:=Unit) (fun _=>True) (fun _=>[(2,.bool ((decide ((v.str.size:Int)≤4096))&&(decide (v=(⟨3,0,0,v.str,0⟩:Vl)))))]) (fun _=>[aa g1 (vc v) 71]) ?_ (fun _ _=>?_)
  .refine gy ?_;refine oW 45 (fun Vp=>?_) (fun Vp=>?_)
   .have zA:=dY Vp;refine go ?_;refine sL (ay (.agg #[iw 3,iw 0,iw 0,sw v.str,iw 0]))<|sL (fY (fun w=>(ic v (⟨3,0,0,v.str,0⟩:Vl) w).1)) ?_
    refine go ?_;exact bh () trivial (bc rfl ⟨⟨rfl,cB (by simp[Vp])⟩,trivial⟩) (rr [0] [])
   have kU:=dF Vp;refine go ?_;exact bh () trivial (bc rfl ⟨⟨rfl,cB (by simp[Vp])⟩,trivial⟩) (rr [0] [])
  refine go ?_;refine ad _ _ (SI.tmp 2 SI.nil) (rr [] [0]) ⟨?_,rfl⟩;refine cB ?_;first|(simp[au,p4,fL,lp,oQ];done)|(rw[Bool.and_comm];simp[au,p4,fL,lp,oQ];done)|(rw[Bool.eq_iff_iff];simp[au,p4,fL,lp,oQ,and_comm,and_left_comm,and_assoc];done)
 have mE:=dF oD;refine gc ?_;refine kd (fun SA=>?_) (fun SA=>?_)
 .have LK:=dY SA;refine b6 (ι:=Unit) (fun _=>True) (fun _=>[(2,.bool ((decide ((1:Int)≤(v.str.size:Int)))&&((decide ((v.str.size:Int)≤4096))&&(decide (v=(⟨6,0,0,v.str,0⟩:Vl))))))]) (fun _=>[aa g1 (vc v) 71]) ?_ (fun _ _=>?_)
  .refine gy ?_;refine oW 58 (fun FW=>?_) (fun FW=>?_)
   .have Dt:=dY FW;refine gy ?_;refine oW 64 (fun SB=>?_) (fun SB=>?_)
    .have vA:=dY SB;refine go ?_;refine sL (ay (.agg #[iw 6,iw 0,iw 0,sw v.str,iw 0]))<|sL (fY (fun w=>(ic v (⟨6,0,0,v.str,0⟩:Vl) w).1)) ?_
     refine go ?_;exact bh () trivial (bc rfl ⟨⟨rfl,cB (by simp[FW,SB])⟩,trivial⟩) (rr [0] [])
    have uI:=dF SB;refine go ?_;exact bh () trivial (bc rfl ⟨⟨rfl,cB (by simp[FW,SB])⟩,trivial⟩) (rr [0] [])
   have VJ:=dF FW;refine go ?_;exact bh () trivial (bc rfl ⟨⟨rfl,cB (by simp[FW])⟩,trivial⟩) (rr [0] [])
  refine go ?_;refine ad _ _ (SI.tmp 2 SI.nil) (rr [] [0]) ⟨?_,rfl⟩;refine cB ?_;first|(simp[au,p4,fL,lp,mE,LK];done)|(rw[Bool.and_comm];simp[au,p4,fL,lp,mE,LK];done)|(rw[Bool.eq_iff_iff];simp[au,p4,fL,lp,mE,LK,and_comm,and_left_comm,and_assoc];done)
 have kt:=dF SA;refine gc ?_;refine kd (fun Az=>?_) (fun Az=>?_)
 .have jr:=dY Az;refine eT ?_;refine iy (hv:=cB Az)<|b6 (ι:=Unit) (fun _=>True) (fun _=>[(2,.bool ((decide (v=(⟨v.kind,0,0,eb,v.ref⟩:Vl)))&&(decide ((1:Int)≤v.ref))))]) (fun _=>[aa g1 (vc v) 71]) ?_ (fun _ _=>?_)
  .refine go ?_;refine sL (ay (.agg #[iw v.kind,iw 0,iw 0,sw eb,iw v.ref]))<|sL (fY (fun w=>(ic v (⟨v.kind,0,0,eb,v.ref⟩:Vl) w).1)) ?_
   refine go ?_;refine oW 83 (fun HX=>?_) (fun HX=>?_)
   .have mD:=dY HX;refine gc ?_;exact bh () trivial (bc rfl ⟨⟨rfl,cB (by simp[HX])⟩,trivial⟩) (rr [0] [])
   have VK:=dF HX;refine go ?_;exact bh () trivial (bc rfl ⟨⟨rfl,cB (by simp[HX])⟩,trivial⟩) (rr [0] [])
  refine go ?_;refine ad _ _ (SI.tmp 2 SI.nil) (rr [] [0]) ⟨?_,rfl⟩;refine cB ?_;first|(simp[au,p4,fL,lp,mE,kt,jr];done)|(rw[Bool.and_comm];simp[au,p4,fL,lp,mE,kt,jr];done)|(rw[Bool.eq_iff_iff];simp[au,p4,fL,lp,mE,kt,jr,and_comm,and_left_comm,and_assoc];done)
 have qn:=dF Az;refine gc ?_;refine kd (fun qo=>?_) (fun qo=>?_)
 .have uJ:=dY qo;refine eT ?_;refine iy (hv:=cB qo)<|b6 (ι:=Unit) (fun _=>True) (fun _=>[(2,.bool ((decide (v=(⟨v.kind,0,0,eb,v.ref⟩:Vl)))&&(decide ((1:Int)≤v.ref))))]) (fun _=>[aa g1 (vc v) 71]) ?_ (fun _ _=>?_)
  .refine go ?_;refine sL (ay (.agg #[iw v.kind,iw 0,iw 0,sw eb,iw v.ref]))<|sL (fY (fun w=>(ic v (⟨v.kind,0,0,eb,v.ref⟩:Vl) w).1)) ?_
   refine go ?_;refine oW 83 (fun XI=>?_) (fun XI=>?_)
   .have LJ:=dY XI;refine gc ?_;exact bh () trivial (bc rfl ⟨⟨rfl,cB (by simp[XI])⟩,trivial⟩) (rr [0] [])
   have JK:=dF XI;refine go ?_;exact bh () trivial (bc rfl ⟨⟨rfl,cB (by simp[XI])⟩,trivial⟩) (rr [0] [])
  refine go ?_;refine ad _ _ (SI.tmp 2 SI.nil) (rr [] [0]) ⟨?_,rfl⟩;refine cB ?_;first|(simp[au,p4,fL,lp,mE,kt,qn,uJ];done)|(rw[Bool.and_comm];simp[au,p4,fL,lp,mE,kt,qn,uJ];done)|(rw[Bool.eq_iff_iff];simp[au,p4,fL,lp,mE,kt,qn,uJ,and_comm,and_left_comm,and_assoc];done)
 have HY:=dF qo;refine gc ?_;refine kd (fun c47=>?_) (fun c47=>?_)
 .have CK:=dY c47;refine eT ?_;refine iy (hv:=cB c47)<|b6 (ι:=Unit) (fun _=>True) (fun _=>[(2,.bool ((decide (v=(⟨v.kind,0,0,eb,v.ref⟩:Vl)))&&(decide ((1:Int)≤v.ref))))]) (fun _=>[aa g1 (vc v) 71]) ?_ (fun _ _=>?_)
  .refine go ?_;refine sL (ay (.agg #[iw v.kind,iw 0,iw 0,sw eb,iw v.ref]))<|sL (fY (fun w=>(ic v (⟨v.kind,0,0,eb,v.ref⟩:Vl) w).1)) ?_
   refine go ?_;refine oW 83 (fun SC=>?_) (fun SC=>?_)
   .have Du:=dY SC;refine gc ?_;exact bh () trivial (bc rfl ⟨⟨rfl,cB (by simp[SC])⟩,trivial⟩) (rr [0] [])
   have p51:=dF SC;refine go ?_;exact bh () trivial (bc rfl ⟨⟨rfl,cB (by simp[SC])⟩,trivial⟩) (rr [0] [])
  refine go ?_;refine ad _ _ (SI.tmp 2 SI.nil) (rr [] [0]) ⟨?_,rfl⟩;refine cB ?_;first|(simp[au,p4,fL,lp,mE,kt,qn,HY,CK];done)|(rw[Bool.and_comm];simp[au,p4,fL,lp,mE,kt,qn,HY,CK];done)|(rw[Bool.eq_iff_iff];simp[au,p4,fL,lp,mE,kt,qn,HY,CK,and_comm,and_left_comm,and_assoc];done)
 have CL:=dF c47;refine gc ?_;refine kd (fun Sz=>?_) (fun Sz=>?_)
 .have zk:=dY Sz;refine b6 (ι:=Unit) (fun _=>True) (fun _=>[(2,.bool ((decide (v=(⟨v.kind,0,0,eb,v.ref⟩:Vl)))&&(decide ((1:Int)≤v.ref))))]) (fun _=>[aa g1 (vc v) 71]) ?_ (fun _ _=>?_)
  .refine go ?_;refine sL (ay (.agg #[iw v.kind,iw 0,iw 0,sw eb,iw v.ref]))<|sL (fY (fun w=>(ic v (⟨v.kind,0,0,eb,v.ref⟩:Vl) w).1)) ?_
   refine go ?_;refine oW 83 (fun XJ=>?_) (fun XJ=>?_)
   .have FV:=dY XJ;refine gc ?_;exact bh () trivial (bc rfl ⟨⟨rfl,cB (by simp[XJ])⟩,trivial⟩) (rr [0] [])
   have JJ:=dF XJ;refine go ?_;exact bh () trivial (bc rfl ⟨⟨rfl,cB (by simp[XJ])⟩,trivial⟩) (rr [0] [])
  refine go ?_;refine ad _ _ (SI.tmp 2 SI.nil) (rr [] [0]) ⟨?_,rfl⟩;refine cB ?_;first|(simp[au,p4,fL,lp,mE,kt,qn,HY,CL,zk];done)|(rw[Bool.and_comm];simp[au,p4,fL,lp,mE,kt,qn,HY,CL,zk];done)|(rw[Bool.eq_iff_iff];simp[au,p4,fL,lp,mE,kt,qn,HY,CL,zk,and_comm,and_left_comm,and_assoc];done)
 have JM:=dF Sz;refine go ?_;refine ad _ _ (SI.tmp 2 SI.nil) (rr [] [0]) ⟨?_,rfl⟩;refine cB ?_;first|(simp[au,p4,fL,lp,mE,kt,qn,HY,CL,JM];done)|(rw[Bool.and_comm];simp[au,p4,fL,lp,mE,kt,qn,HY,CL,JM];done)|(rw[Bool.eq_iff_iff];simp[au,p4,fL,lp,mE,kt,qn,HY,CL,JM,and_comm,and_left_comm,and_assoc];done)
def jE(b:Nat)(S:List cY):aW:=lj fun sv=>lj fun mb=>lj fun m=>zr (dG S∧M' m S) [aa b #[sv,.map (some mb),iw (fo S:Int)] 225,own lG sv S,dr vK nV mb m]
theorem kc(h:Holds Z (jE b S::F) H):∃(sv:Value) (mb:Nat) (m:List (Vl×Nat)),(dG S∧M' m S)∧Holds Z (aa b #[sv,.map (some mb),iw (fo S:Int)] 225::own lG sv S::dr vK nV mb m::F) H:=by
 obtain⟨sv,h⟩:=h.open_ex;obtain⟨mb,h⟩:=h.open_ex;obtain⟨m,h⟩:=h.open_ex;exact⟨sv,mb,m,h.open_st⟩
theorem eA{mb:Nat}{m:List (Vl×Nat)}{n:Int}(hp:(dG S∧M' m S)∧n=(fo S:Int))(h:Holds Z (aa b #[sv,.map (some mb),iw n] 225::own lG sv S::dr vK nV mb m::F) H):Holds Z (jE b S::F) H:=by
 obtain⟨h1,rfl⟩:=hp;exact Holds.shut_ex sv (Holds.shut_ex mb (Holds.shut_ex m (Holds.shut_st h1 h)))
theorem Nj(h:Holds Z (jE b S::F) H):dG S:=by
 obtain⟨_,_,_,h,_⟩:=kc h;exact h.1
theorem HZ:SF Tryz.prog 136 #[] Z [] fun r Bs=>∃b,r=pB b 0∧Bs=[jE b []]:=by
 refine bO Tryz.func136 4 (fun w0=>?_);refine go ?_;refine fZ vK nV (fun b1=>?_);refine sL (ay (.agg #[nS,.map (some b1),iw 0]))<|bj #[nS,.map (some b1),iw 0] (fun g2=>?_)
 refine go ?_;refine ad _ _ (SI.tmp 0 SI.nil) (fun _ h=>eA (b:=g2) (sv:=nS) ⟨⟨dG.nil,Su⟩,rfl⟩ ((Holds.nilS (T:=lG) h).re [1,0] [])) ⟨g2,rfl,rfl⟩
theorem qp(k:Vl):NF 234 #[pB b 0,k.v] Z (jE b S::F) ((ei S k).v):=by
 refine bx Tryz.func234 30 [(0,pB b 0),(1,.agg (vc k))] (fun w0=>?_);refine bn<|bj (vc k) (fun g1=>?_)
 refine ae (.agg zc) zc (fun g2=>?_);refine go ?_;refine dc (fun H h=>kc (h.re [2] [])) (fun vT mb4 m5 hw=>?_);obtain⟨Nk,XK⟩:=hw;refine go ?_;rcases rN XK Nk k with ⟨hl8,hm9,pE,JN⟩|⟨i12,s13,aiY,aeJ,abJ,uK,aeK,SD⟩
 .refine sL (Lt.to (v':=.tuple #[iw 0,.bool false]) (fF 2 mZ Tryz.underlying222 (iw 0) k) (by rw[hm9];rfl)) ?_;refine go ?_;refine sL (ay (.agg zc)) ?_;refine go ?_;refine ab (fun _ h=>eA (S:=S) (n:=(fo S:Int)) ⟨⟨Nk,XK⟩,rfl⟩ (h.re [0,0,0] [])) ?_;refine ad [.agg zc] (jE b S::F) (SI.agg 4 71 1 SI.nil) (rr [0] [1,1]) ⟨?_,rfl⟩;exact (congrArg Vl.v JN).symm
 have abK:i12<S.length:=(List.getElem?_eq_some_iff.1 abJ).1;refine sL (Lt.to (v':=.tuple #[iw (i12:Int),.bool true]) (fF 2 mZ Tryz.underlying222 (iw 0) k) (by rw[aeJ];rfl)) ?_;refine go ?_;refine sL (aF bP Tryz.underlying223 (.own 1) (i12:Int) i12 om ol om) ?_;refine go ?_;refine sL (iW 5 (vc s13.val) bP (.own 1) abJ) ?_;refine go ?_;refine ab (fun _ h=>eA (S:=S) (n:=(fo S:Int)) ⟨⟨Nk,XK⟩,rfl⟩ (h.re [0,0,0] [])) ?_;refine ad [.agg (vc s13.val)] (jE b S::F) (SI.agg 4 71 1 SI.nil) (rr [0] [1,1]) ⟨?_,rfl⟩;exact (congrArg Vl.v aeK).symm
theorem Dv(hs:S.length≤1000000):MF 236 #[pB b 0] Z (jE b S::F) (.tuple #[]) (jE b (live S)::F):=by
 refine bO Tryz.func236 49 (fun w0=>?_);refine go ?_;refine dc (fun H h=>kc (rB h)) (fun Fb ru m3 hw=>?_);obtain⟨Dw,Nl⟩:=hw;refine gy ?_;refine aK (fun _ h=>Holds.nilS (T:=lG) h) ?_;refine aK (Bs:=own lG nS (live (S.take 0))::aa b #[Fb,.map (some ru),iw (fo S:Int)] 225::own lG Fb S::dr vK nV ru m3::F) (fun _ h=>h) ?_;have bD:=Dw;have aeL:=Nl;refine aD (ι:=Value×List (Vl×Nat)×Nat) (fun (lx,md,i)=>i≤S.length∧vu S i md) (fun (lx,md,i)=>[(0,pB b 0),(2,lx),(8,Fb),(9,iw (S.length:Int)),(10,iw (i:Int))]) (fun (lx,md,i)=>own lG lx (live (S.take i))::aa b #[Fb,.map (some ru),iw (fo S:Int)] 225::own lG Fb S::dr vK nV ru md::F) (fun (lx,md,i)=>S.length-i) (nS,m3,0) ⟨Nat.zero_le _,aa5 aeL⟩ sA rA ?_;rintro⟨lx,md,i⟩ kV;try dsimp only at kV⊢
 refine bk (fun H h=>(h.mp (i:=3) rfl).nodup) (fun qW=>?_);have Sj:(live (S.take i)).length≤i:=Nat.le_trans (fi _) (by rw[List.length_take];omega);refine gc ?_;refine b9 (fun p8=>?_) (fun nQ=>?_)
 .obtain ⟨y9,jA⟩:∃y,S[i]?=some y:=⟨_,List.getElem?_eq_getElem ol⟩;refine gy ?_;refine ae (.agg #[iw 0,iw 0,iw 0,sw eb,iw 0,iw 0,iw 0,iw 0,sw eb,iw 0,.bool false]) #[iw 0,iw 0,iw 0,sw eb,iw 0,iw 0,iw 0,iw 0,sw eb,iw 0,.bool false] (fun g11=>?_);refine go ?_;refine bg y9.gone (fun jS=>?_) (fun jS=>?_)
  .refine go ?_;obtain⟨j13,aeM,SE⟩:=Jy bD kV.2 jA jS;refine gl ?_ (t:=Lt.to (v':=iw (j13:Int)) (cn 4 mZ Tryz.underlying222 (iw 0) y9.key) (by rw[aeM];rfl));refine b9 (fun mM=>?_) (fun jW=>?_)
   .refine go ?_;refine qj 4 mZ Tryz.underlying222 y9.key ?_;refine gy ?_;have FX:=fz jA;rw[if_pos jS]at FX;rw[←FX];exact xr (lx,(eB md y9.key),i+1) ⟨by show i+1≤S.length;omega,by first|exact SE.2.2 (Int.ofNat_inj.1 mM) qW|(obtain⟨_,hd1,hd2⟩:=(⟨trivial,SE⟩:True∧_∧_);first|exact hd1 (fun e=>mM (by rw[e]))|exact hd2 (Int.ofNat_inj.1 mM) qW)⟩
   refine gy ?_;have FX:=fz jA;rw[if_pos jS]at FX;rw[←FX];exact xr (lx,md,i+1) ⟨by show i+1≤S.length;omega,by first|exact SE.2.1 (by intro e;exact jW (congrArg _ e))|(obtain⟨_,hd1,hd2⟩:=(⟨trivial,SE⟩:True∧_∧_);first|exact hd1 (fun e=>jW (by rw[e]))|exact hd2 (Int.ofNat_inj.1 jW) qW)⟩
  refine gy ?_;refine sF 1 (fun lZ=>?_);refine eE 4 mZ Tryz.underlying222 y9.key ((live (S.take i)).length) ?_;refine a8<|dB (fun _ h=>by obtain⟨_,_,e⟩:=lZ;subst e;kernel_rfl) ?_
  refine go ?_;refine ah (e:=261) [(0,.agg #[iw y9.key.kind,iw y9.key.p,iw y9.key.q,sw y9.key.str,iw y9.key.ref,iw y9.val.kind,iw y9.val.p,iw y9.val.q,sw y9.val.str,iw y9.val.ref,.bool y9.gone])] #[iw y9.key.kind,iw y9.key.p,iw y9.key.q,sw y9.key.str,iw y9.key.ref,iw y9.val.kind,iw y9.val.p,iw y9.val.q,sw y9.val.str,iw y9.val.ref,.bool y9.gone] (fun g20=>?_) (hb:=by kernel_rfl);refine aq (L:=(live (S.take i))) 2 bP Tryz.underlying223 (.lit 0 bP [y9]) (by show _*104≤_;(try simp only[cD]);omega) ol (fun v21=>?_);refine gy ?_;have FX:=fz jA;rw[if_neg (by rw[jS];decide)]at FX;rw[←FX];exact xr (v21,(dO md y9.key ((live (S.take i)).length)),i+1) ⟨by show i+1≤S.length;omega,by first|exact Jz bD kV.2 jA jS|(obtain⟨_,hd1,hd2⟩:=FX;first|exact hd1 (fun e=>jS (by rw[e]))|exact hd2 (Int.ofNat_inj.1 jS) qW)⟩
 refine go ?_;refine sF 0 (fun FY=>?_);refine ar (u:=lx) (m:=1) 1 #[lx,.map (some ru),iw (fo S:Int)] ?_ (hm:=by (obtain⟨_,_,e⟩:=FY;rw[e];rfl)) (h1:=by (obtain⟨_,_,e⟩:=FY;rw[e];rfl)) (ha':=by (obtain⟨_,_,e⟩:=FY;rw[e];rfl));refine a8 ?_;have iA:live (S.take i)=live S:=by rw[List.take_of_length_le om]
 rw[iA];refine gz ?_;exact fg ⟨rfl,rfl⟩ (fun _ h=>eA ⟨⟨mT bD,Nc kV.2 om⟩,by rw[xE]⟩ (h.re [1,0,1] [3]))
abbrev xJ(x:Vl×Vl×Bool×Int):Value:=.tuple #[x.1.v,x.2.1.v,.bool x.2.2.1,iw x.2.2.2]
theorem rR(h:live ((S.drop a).take j)=[])(hs:(S.drop a)[j]?=some s)(hg:s.gone=false):iz (live (S.drop a)).head?=(s.key,s.val,true):=by rw[JA h hs hg];rfl
theorem xK(h:live ((S.drop a).take j)=[])(hj:(S.drop a).length≤j):iz (live (S.drop a)).head?=(bw,bw,false):=by rw[JB h hj];rfl
theorem nT(h:S[i]?=some s):dP (S.take (i+1))=if s.gone then dP (S.take i) else dP (S.take i)++[s.key]:=by
 unfold dP;rw[fz h];split<;>simp
theorem jX(S:List cY):(dP S).length≤S.length:=by unfold dP;rw[List.length_map];exact fi S
theorem xL{α:Type}{L:List α}{x:α}(h:L[i]?=some x):L.set i x=L:=by
 obtain⟨hi,e⟩:=List.getElem?_eq_some_iff.1 h;rw[←e];simp
theorem js(h:k.kind=0∨au k=false):cS k=false:=by unfold cS;rcases h with h|h<;>simp[h]
theorem aX(h0:decide (k.kind=0)=false)(h:au k=true):cS k=true:=by unfold cS;rw[h0,h];rfl
theorem AA(h:cS k=false):jN k v=13:=by unfold jN;rw[if_pos h]
theorem AB(h:cS k=true)(hv:au v=false):jN k v=2:=by unfold jN;rw[if_neg (by rw[h];decide),if_pos hv]
theorem fj(h:cS k=true)(hv:au v=true):jN k v=0:=by unfold jN;rw[if_neg (by rw[h];decide),if_neg (by rw[hv];decide)]
theorem nU(hs:S.length≤1000000)(k v:Vl):MF 195 #[pB b 0,k.v,v.v] Z (jE b S::F) (iw (jN k v)) (jE b (cZ S k v)::F):=by
 refine bx Tryz.func195 130 [(0,pB b 0),(1,.agg (vc k)),(2,.agg (vc v))] (fun w0=>?_);refine bk (fun H h=>Nj (h.re [0] [])) (fun bD=>?_);have aiZ:=fi S;refine bn<|bj (vc k) (fun g1=>?_)
 refine bj (vc v) (fun g2=>?_);refine sP (iw 0)<|bH<|aE<|cE<|bn ?_
 refine gs ?_;refine eh<|b6 (ι:=Unit) (fun _=>True) (fun _=>[(0,pB b 0),(4,pB g1 0),(5,pB g2 0),(13,.bool ((decide (k.kind=0))||(!(au k))))]) (fun _=>aa g2 (vc v) 71::aa g1 (vc k) 71::jE b S::F) ?_ (fun _ _=>?_)
 .refine gc ?_;refine eF 17 (fun p4=>?_) (fun p5=>?_)
  .refine go ?_;exact bh () trivial (bc rfl (rQ (rQ (rQ ⟨⟨rfl,show Value.bool true=Value.bool ((decide (k.kind=0))||(!(au k))) by first|(simp only[p4,jK];done)|simp[p4]⟩,trivial⟩)))) (rr [0,0,0] [])
  refine sL (dE 1 (vc k))<|sV (fun _ h=>lb k) ?_
  refine go ?_;exact bh () trivial (bc rfl (rQ (rQ (rQ ⟨⟨rfl,show Value.bool (!(au k))=Value.bool ((decide (k.kind=0))||(!(au k))) by first|(simp only[p5,jK];done)|simp[p5]⟩,trivial⟩)))) (rr [0,0,0] [])
 refine kd (fun c6=>?_) (fun c6=>?_)
 .have p7:=c6;simp only[Bool.and_eq_true,Bool.or_eq_true,Bool.and_eq_false_iff,Bool.or_eq_false_iff,Bool.not_eq_true',Bool.not_eq_false',decide_eq_true_eq,decide_eq_false_iff_not]at p7;refine go ?_;have hk:=js p7;refine ad [iw 13] (jE b S::F) (SI.tmp 6 SI.nil) (rr [2] [1,1]) ⟨cI (AA hk).symm,?_⟩;rw[qk (v:=v) (.inl hk)]
 obtain⟨c8,c9⟩:=l5 c6;have gQ:=dF c8;have ff:=cu c9;refine go ?_;refine sV (fun _ h=>lb v) ?_;refine go ?_;refine kd (fun jS=>?_) (fun jS=>?_)
 .have ux:=cO jS;refine go ?_;have hk:=aX c8 ff;refine ad [iw 2] (jE b S::F) (SI.tmp 6 SI.nil) (rr [2] [1,1]) ⟨cI (AB hk ux).symm,?_⟩;rw[qk (v:=v) (.inr ux)]
 have kj:=cu jS;refine go ?_;refine dc (fun H h=>kc (h.re [2] [])) (fun SG JO m17 hw=>?_);obtain⟨FZ,s8⟩:=hw;refine go ?_;rcases rN s8 FZ k with ⟨aeN,SJ,XL,ai0⟩|⟨i24,Fc,XM,aeO,JP,abL,ai1,Nn⟩
 .refine sL (Lt.to (v':=.tuple #[iw 0,.bool false]) (fF 2 mZ Tryz.underlying222 (iw 0) k) (by rw[SJ];rfl)) ?_;refine gs ?_;refine bn ?_;refine gs ?_;refine aE<|cE<|b6 (ι:=Unit) (fun _=>True) (fun _=>[(0,pB b 0),(4,pB g1 0),(5,pB g2 0),(7,iw 0),(9,.bool false),(94,.bool false)]) (fun _=>aa b #[SG,.map (some JO),iw (fo S:Int)] 225::own lG SG S::dr vK nV JO m17::aa g2 (vc v) 71::aa g1 (vc k) 71::F) ?_ (fun _ _=>?_)
  .refine gc ?_;refine eF 98 (fun VJ=>?_) (fun kt=>?_)
   .refine go ?_;exact vY () (rr [0,0,0,0,0] [])
   refine go ?_;exact vY () (rr [0,0,0,0,0] [])
  refine gc ?_;refine b9 (fun jr=>?_) (fun zB=>?_)
  .refine go ?_;have hk:=aX c8 ff;have hS:cZ S k v=S:=by rw[mY hk kj jr,XL]
   have ky:dG S:=by rw[←hS];exact ee bD k v
   refine ab (fun _ h=>eA (S:=S) (n:=(fo S:Int)) ⟨⟨ky,s8⟩,rfl⟩ (h.re [0,0,0] [])) ?_;refine ad [iw 0] (jE b S::F) (SI.tmp 6 SI.nil) (rr [0] [1,1]) ⟨cI (fj hk kj).symm,?_⟩;rw[hS]
  refine go ?_;refine sF 1 (fun XN=>?_);refine sL (bL bP Tryz.underlying223 (.own 1)) ?_;refine go ?_;refine sL (fX (S.length:Int) (fo S:Int) ol) ?_;refine go ?_;refine sL (bX (fo S:Int) 8 ol)<|sL aT<|a8<|dB (fun _ h=>by obtain⟨_,_,e⟩:=XN;subst e;kernel_rfl) ?_
  refine ax<|b9 (fun qn=>?_) (fun No=>?_)
  .refine bd<|sP (pB b 0)<|aC (fun _ h=>eA (S:=S) (n:=(fo S:Int)) ⟨⟨FZ,s8⟩,rfl⟩ (h.re [0,0,0] [])) ?_
   refine sC [0] (Dv (S:=S) om) ?_;have ahN:=fi S;have ahO:=xE S;have ahP:(live S).length=fo S:=rfl;refine go ?_;refine dc (fun H h=>kc (h.re [0] [])) (fun ai2 abM m46 hw=>?_);obtain⟨aeP,abN⟩:=hw;refine go ?_;refine sF 1 (fun JQ=>?_);refine sL (bL bP Tryz.underlying223 (.own 1))<|eE 2 mZ Tryz.underlying222 k ((live S).length) ?_
   refine a8<|dB (fun _ h=>by obtain⟨_,_,e⟩:=JQ;subst e;kernel_rfl) ?_
   refine go ?_;refine sL (ay (.agg #[iw k.kind,iw k.p,iw k.q,sw k.str,iw k.ref,iw v.kind,iw v.p,iw v.q,sw v.str,iw v.ref,.bool false]))<|ah (e:=261) [(0,.agg #[iw k.kind,iw k.p,iw k.q,sw k.str,iw k.ref,iw v.kind,iw v.p,iw v.q,sw v.str,iw v.ref,.bool false])] #[iw k.kind,iw k.p,iw k.q,sw k.str,iw k.ref,iw v.kind,iw v.p,iw v.q,sw v.str,iw v.ref,.bool false] (fun g50=>?_) (hb:=by kernel_rfl)
   refine aq (L:=(live S)) 2 bP Tryz.underlying223 (.lit 0 bP [(⟨k,v,false⟩:cY)]) (by show _*104≤_;(try simp only[cD]);omega) ol (fun v51=>?_);refine oN (pB b 0)<|sF 2 (fun XO=>?_)
   refine ar (u:=v51) (m:=1) 1 #[v51,.map (some abM),iw (fo (live S):Int)] ?_ (hm:=by (obtain⟨_,_,e⟩:=XO;rw[e];rfl)) (h1:=by (obtain⟨_,_,e⟩:=XO;rw[e];rfl)) (ha':=by (obtain⟨_,_,e⟩:=XO;rw[e];rfl));refine go ?_;refine sL (bX (fo (live S):Int) 1 ol) ?_;refine go ?_;have hk:=aX c8 ff;have nF:=fi S;have hS:cZ S k v=((live S)++[(⟨k,v,false⟩:cY)]):=by rw[gY hk kj zB,XL];show (if _ then _ else _)++_=_;rw[if_pos (by have hx:=qn;omega)]
   have ky:dG ((live S)++[(⟨k,v,false⟩:cY)]):=by rw[←hS];exact ee bD k v
   refine ab (fun _ h=>eA (S:=((live S)++[(⟨k,v,false⟩:cY)])) (n:=((fo (live S):Int)+1)) ⟨⟨ky,sY abN k v⟩,by rw[sZ];try rfl⟩ (h.re [1,1,1] [])) ?_;refine ad [iw 0] (jE b ((live S)++[(⟨k,v,false⟩:cY)])::F) (SI.tmp 6 SI.nil) (rr [0] [1,1,1]) ⟨cI (fj hk kj).symm,?_⟩;rw[hS]
  refine go ?_;refine sL (bL bP Tryz.underlying223 (.own 1))<|eE 2 mZ Tryz.underlying222 k S.length ?_
  refine a8<|dB (fun _ h=>by obtain⟨_,_,e⟩:=XN;subst e;kernel_rfl) ?_
  refine go ?_;refine sL (ay (.agg #[iw k.kind,iw k.p,iw k.q,sw k.str,iw k.ref,iw v.kind,iw v.p,iw v.q,sw v.str,iw v.ref,.bool false]))<|ah (e:=261) [(0,.agg #[iw k.kind,iw k.p,iw k.q,sw k.str,iw k.ref,iw v.kind,iw v.p,iw v.q,sw v.str,iw v.ref,.bool false])] #[iw k.kind,iw k.p,iw k.q,sw k.str,iw k.ref,iw v.kind,iw v.p,iw v.q,sw v.str,iw v.ref,.bool false] (fun Fe=>?_) (hb:=by kernel_rfl)
  refine aq (L:=S) 2 bP Tryz.underlying223 (.lit 0 bP [(⟨k,v,false⟩:cY)]) (by show _*104≤_;(try simp only[cD]);omega) ol (fun Q8=>?_);refine oN (pB b 0)<|sF 2 (fun Np=>?_)
  refine ar (u:=Q8) (m:=1) 1 #[Q8,.map (some JO),iw (fo S:Int)] ?_ (hm:=by (obtain⟨_,_,e⟩:=Np;rw[e];rfl)) (h1:=by (obtain⟨_,_,e⟩:=Np;rw[e];rfl)) (ha':=by (obtain⟨_,_,e⟩:=Np;rw[e];rfl));refine go ?_;refine sL (bX (fo S:Int) 1 ol) ?_;refine go ?_;have hk:=aX c8 ff;have nF:=fi S;have hS:cZ S k v=(S++[(⟨k,v,false⟩:cY)]):=by rw[gY hk kj zB,XL];show (if _ then _ else _)++_=_;rw[if_neg (by have hx:=No;omega)]
  have ky:dG (S++[(⟨k,v,false⟩:cY)]):=by rw[←hS];exact ee bD k v
  refine ab (fun _ h=>eA (S:=(S++[(⟨k,v,false⟩:cY)])) (n:=((fo S:Int)+1)) ⟨⟨ky,sY s8 k v⟩,by rw[sZ];try rfl⟩ (h.re [1,1,1] [])) ?_;refine ad [iw 0] (jE b (S++[(⟨k,v,false⟩:cY)])::F) (SI.tmp 6 SI.nil) (rr [0] [1,1,1]) ⟨cI (fj hk kj).symm,?_⟩;rw[hS]
 have ahQ:i24<S.length:=(List.getElem?_eq_some_iff.1 JP).1;refine sL (Lt.to (v':=.tuple #[iw (i24:Int),.bool true]) (fF 2 mZ Tryz.underlying222 (iw 0) k) (by rw[aeO];rfl)) ?_;refine go ?_;refine sL (aF bP Tryz.underlying223 (.own 1) (i24:Int) i24 om ol om) ?_;refine go ?_;refine sL (cw 10 bP (.own 1) JP) ?_;refine gs ?_;refine aE<|cE<|b6 (ι:=Unit) (fun _=>True) (fun _=>[(0,pB b 0),(4,pB g1 0),(5,pB g2 0),(7,iw (i24:Int)),(9,.bool (!Fc.gone)),(94,.bool ((decide (v.kind=0))&&(!Fc.gone)))]) (fun _=>aa b #[SG,.map (some JO),iw (fo S:Int)] 225::own lG SG S::dr vK nV JO m17::aa g2 (vc v) 71::aa g1 (vc k) 71::F) ?_ (fun _ _=>?_)
 .refine gc ?_;refine eF 98 (fun p59=>?_) (fun Q9=>?_)
  .refine go ?_;exact bh () trivial (bc rfl (rQ (rQ (rQ (rQ (rQ ⟨⟨rfl,show Value.bool (!Fc.gone)=Value.bool ((decide (v.kind=0))&&(!Fc.gone)) by first|(simp only[p59,jK];done)|simp[p59]⟩,trivial⟩)))))) (rr [0,0,0,0,0] [])
  refine go ?_;exact bh () trivial (bc rfl (rQ (rQ (rQ (rQ (rQ ⟨⟨rfl,show Value.bool false=Value.bool ((decide (v.kind=0))&&(!Fc.gone)) by first|(simp only[Q9,jK];done)|simp[Q9]⟩,trivial⟩)))))) (rr [0,0,0,0,0] [])
 refine kd (fun c61=>?_) (fun c61=>?_)
 .obtain ⟨c62,c63⟩:=kk c61;have p64:=dY c62;have c65:=cO c63;refine go ?_;refine sL (ay (.agg #[iw k.kind,iw k.p,iw k.q,sw k.str,iw k.ref,iw 0,iw 0,iw 0,sw eb,iw 0,.bool true]))<|sL (aF bP Tryz.underlying223 (.own 1) (i24:Int) i24 om ol om)<|dX 1 0 (⟨k,bw,true⟩:cY) bP JP ?_
  refine go ?_;refine sL (fX (fo S:Int) 1 ol) ?_;refine go ?_;have hk:=aX c8 ff;have hS:cZ S k v=(S.set i24 (⟨k,bw,true⟩:cY)):=by rw[mY hk kj (dY c62),Nn,if_neg (by rw[c65];decide)]
  have ky:dG (S.set i24 (⟨k,bw,true⟩:cY)):=by rw[←hS];exact ee bD k v
  refine ab (fun _ h=>eA (S:=(S.set i24 (⟨k,bw,true⟩:cY))) (n:=((fo S:Int)-1)) ⟨⟨ky,HR s8 XM rfl⟩,(Na JP c65 k).symm⟩ (h.re [0,0,0] [])) ?_;refine ad [iw 0] (jE b (S.set i24 (⟨k,bw,true⟩:cY))::F) (SI.tmp 6 SI.nil) (rr [0] [1,1]) ⟨cI (fj hk kj).symm,?_⟩;rw[hS]
 have p66:=c61;simp only[Bool.and_eq_true,Bool.or_eq_true,Bool.and_eq_false_iff,Bool.or_eq_false_iff,Bool.not_eq_true',Bool.not_eq_false',decide_eq_true_eq,decide_eq_false_iff_not]at p66;refine gc ?_;refine b9 (fun XP=>?_) (fun p69=>?_)
 .refine go ?_;have hk:=aX c8 ff;have hgg:Fc.gone=true:=by have hx:=p66;have hy:=XP;simpa [hy]using hx
  have hS:cZ S k v=S:=by rw[mY hk kj XP,Nn,if_pos hgg]
  have ky:dG S:=by rw[←hS];exact ee bD k v
  refine ab (fun _ h=>eA (S:=S) (n:=(fo S:Int)) ⟨⟨ky,s8⟩,rfl⟩ (h.re [0,0,0] [])) ?_;refine ad [iw 0] (jE b S::F) (SI.tmp 6 SI.nil) (rr [0] [1,1]) ⟨cI (fj hk kj).symm,?_⟩;rw[hS]
 refine go ?_;refine kd (fun c70=>?_) (fun c70=>?_)
 .have c71:=cO c70;refine go ?_;refine sL (aF bP Tryz.underlying223 (.own 1) (i24:Int) i24 om ol om) ?_;refine go ?_;refine dX 1 5 (⟨Fc.key,v,Fc.gone⟩:cY) bP JP ?_;refine go ?_;have hk:=aX c8 ff;have hS:cZ S k v=(S.set i24 (⟨Fc.key,v,Fc.gone⟩:cY)):=by rw[gY hk kj p69,Nn,if_neg (by rw[c71];decide),abL,c71]
  have ky:dG (S.set i24 (⟨Fc.key,v,Fc.gone⟩:cY)):=by rw[←hS];exact ee bD k v
  refine ab (fun _ h=>eA (S:=(S.set i24 (⟨Fc.key,v,Fc.gone⟩:cY))) (n:=(fo S:Int)) ⟨⟨ky,HR s8 XM abL⟩,by rw[c71];exact congrArg (fun n:Nat=>(n:Int)) (Sw JP c71 _ _).symm⟩ (h.re [0,0,0] [])) ?_;refine ad [iw 0] (jE b (S.set i24 (⟨Fc.key,v,Fc.gone⟩:cY))::F) (SI.tmp 6 SI.nil) (rr [0] [1,1]) ⟨cI (fj hk kj).symm,?_⟩;rw[hS]
 have LL:=cu c70;refine go ?_;refine sF 1 (fun zC=>?_);refine sL (bL bP Tryz.underlying223 (.own 1)) ?_;refine go ?_;refine sL (fX (S.length:Int) (fo S:Int) ol) ?_;refine go ?_;refine sL (bX (fo S:Int) 8 ol)<|sL aT<|a8<|dB (fun _ h=>by obtain⟨_,_,e⟩:=zC;subst e;kernel_rfl) ?_
 refine ax<|b9 (fun LM=>?_) (fun p88=>?_)
 .refine bd<|sP (pB b 0)<|aC (fun _ h=>eA (S:=S) (n:=(fo S:Int)) ⟨⟨FZ,s8⟩,rfl⟩ (h.re [0,0,0] [])) ?_
  refine sC [0] (Dv (S:=S) om) ?_;have ahR:=fi S;have ahS:=xE S;have ahT:(live S).length=fo S:=rfl;refine go ?_;refine dc (fun H h=>kc (h.re [0] [])) (fun ai3 aeQ m81 hw=>?_);obtain⟨aeR,abO⟩:=hw;refine go ?_;refine sF 1 (fun aeS=>?_);refine sL (bL bP Tryz.underlying223 (.own 1))<|eE 2 mZ Tryz.underlying222 k ((live S).length) ?_
  refine a8<|dB (fun _ h=>by obtain⟨_,_,e⟩:=aeS;subst e;kernel_rfl) ?_
  refine go ?_;refine sL (ay (.agg #[iw k.kind,iw k.p,iw k.q,sw k.str,iw k.ref,iw v.kind,iw v.p,iw v.q,sw v.str,iw v.ref,.bool false]))<|ah (e:=261) [(0,.agg #[iw k.kind,iw k.p,iw k.q,sw k.str,iw k.ref,iw v.kind,iw v.p,iw v.q,sw v.str,iw v.ref,.bool false])] #[iw k.kind,iw k.p,iw k.q,sw k.str,iw k.ref,iw v.kind,iw v.p,iw v.q,sw v.str,iw v.ref,.bool false] (fun g85=>?_) (hb:=by kernel_rfl)
  refine aq (L:=(live S)) 2 bP Tryz.underlying223 (.lit 0 bP [(⟨k,v,false⟩:cY)]) (by show _*104≤_;(try simp only[cD]);omega) ol (fun v86=>?_);refine oN (pB b 0)<|sF 2 (fun F0=>?_)
  refine ar (u:=v86) (m:=1) 1 #[v86,.map (some aeQ),iw (fo (live S):Int)] ?_ (hm:=by (obtain⟨_,_,e⟩:=F0;rw[e];rfl)) (h1:=by (obtain⟨_,_,e⟩:=F0;rw[e];rfl)) (ha':=by (obtain⟨_,_,e⟩:=F0;rw[e];rfl));refine go ?_;refine sL (bX (fo (live S):Int) 1 ol) ?_;refine go ?_;have hk:=aX c8 ff;have nF:=fi S;have hS:cZ S k v=((live S)++[(⟨k,v,false⟩:cY)]):=by rw[gY hk kj p69,Nn,if_pos LL];show (if _ then _ else _)++_=_;rw[if_pos (by have hx:=LM;omega)]
  have ky:dG ((live S)++[(⟨k,v,false⟩:cY)]):=by rw[←hS];exact ee bD k v
  refine ab (fun _ h=>eA (S:=((live S)++[(⟨k,v,false⟩:cY)])) (n:=((fo (live S):Int)+1)) ⟨⟨ky,sY abO k v⟩,by rw[sZ];try rfl⟩ (h.re [1,1,1] [])) ?_;refine ad [iw 0] (jE b ((live S)++[(⟨k,v,false⟩:cY)])::F) (SI.tmp 6 SI.nil) (rr [0] [1,1,1]) ⟨cI (fj hk kj).symm,?_⟩;rw[hS]
 refine go ?_;refine sL (bL bP Tryz.underlying223 (.own 1))<|eE 2 mZ Tryz.underlying222 k S.length ?_
 refine a8<|dB (fun _ h=>by obtain⟨_,_,e⟩:=zC;subst e;kernel_rfl) ?_
 refine go ?_;refine sL (ay (.agg #[iw k.kind,iw k.p,iw k.q,sw k.str,iw k.ref,iw v.kind,iw v.p,iw v.q,sw v.str,iw v.ref,.bool false]))<|ah (e:=261) [(0,.agg #[iw k.kind,iw k.p,iw k.q,sw k.str,iw k.ref,iw v.kind,iw v.p,iw v.q,sw v.str,iw v.ref,.bool false])] #[iw k.kind,iw k.p,iw k.q,sw k.str,iw k.ref,iw v.kind,iw v.p,iw v.q,sw v.str,iw v.ref,.bool false] (fun g89=>?_) (hb:=by kernel_rfl)
 refine aq (L:=S) 2 bP Tryz.underlying223 (.lit 0 bP [(⟨k,v,false⟩:cY)]) (by show _*104≤_;(try simp only[cD]);omega) ol (fun VL=>?_);refine oN (pB b 0)<|sF 2 (fun F1=>?_)
 refine ar (u:=VL) (m:=1) 1 #[VL,.map (some JO),iw (fo S:Int)] ?_ (hm:=by (obtain⟨_,_,e⟩:=F1;rw[e];rfl)) (h1:=by (obtain⟨_,_,e⟩:=F1;rw[e];rfl)) (ha':=by (obtain⟨_,_,e⟩:=F1;rw[e];rfl));refine go ?_;refine sL (bX (fo S:Int) 1 ol) ?_;refine go ?_;have hk:=aX c8 ff;have nF:=fi S;have hS:cZ S k v=(S++[(⟨k,v,false⟩:cY)]):=by rw[gY hk kj p69,Nn,if_pos LL];show (if _ then _ else _)++_=_;rw[if_neg (by have hx:=p88;omega)]
 have ky:dG (S++[(⟨k,v,false⟩:cY)]):=by rw[←hS];exact ee bD k v
 refine ab (fun _ h=>eA (S:=(S++[(⟨k,v,false⟩:cY)])) (n:=((fo S:Int)+1)) ⟨⟨ky,sY s8 k v⟩,by rw[sZ];try rfl⟩ (h.re [1,1,1] [])) ?_;refine ad [iw 0] (jE b (S++[(⟨k,v,false⟩:cY)])::F) (SI.tmp 6 SI.nil) (rr [0] [1,1,1]) ⟨cI (fj hk kj).symm,?_⟩;rw[hS]
theorem eo(hs:S.length≤1000000)(k:Vl):NF 210 #[pB b 0,k.v] Z (jE b S::F) (xJ (aA S k)):=by
 refine bO Tryz.func210 56 (fun w0=>?_);refine bn<|bj (vc k) (fun g1=>?_)
 refine ae (.agg zc) zc (fun g2=>?_);refine ae (.agg zc) zc (fun g3=>?_);refine go ?_;refine sL (ay (.agg zc))<|sL (fY (fun w=>(ic k bw w).2))<|bH<|kd (fun c4=>?_) (fun c4=>?_)
 .have c5:=cO c4;have p6:=dF c5;refine go ?_;refine dc (fun H h=>kc (rB h)) (fun sv7 XQ m9 hw=>?_);obtain⟨BB,H3⟩:=hw;refine go ?_;rcases rN H3 BB k with ⟨abP,wa,wb,SM⟩|⟨i16,s17,JR,XR,aeT,abQ,JS,ai4⟩
  .refine sL (Lt.to (v':=.tuple #[iw 0,.bool false]) (fF 2 mZ Tryz.underlying222 (iw 0) k) (by rw[wa];rfl)) ?_;refine go ?_;refine sL (ay (.agg zc))<|sL (ay (.agg zc)) ?_
   refine go ?_;refine ab (fun _ h=>eA (S:=S) (n:=(fo S:Int)) ⟨⟨BB,H3⟩,rfl⟩ (rB h)) ?_;have hp:aA S k=(bw,bw,false,13):=(rO (dF c5) abP);refine ad [.agg zc,.agg zc,.bool false,iw 13] (jE b S::F) (SI.agg 4 71 2 (SI.agg 5 71 1 (SI.tmp 6 (SI.tmp 7 SI.nil)))) rA ⟨?_,rfl⟩;rw[hp];rfl
  have ahU:i16<S.length:=(List.getElem?_eq_some_iff.1 aeT).1;refine sL (Lt.to (v':=.tuple #[iw (i16:Int),.bool true]) (fF 2 mZ Tryz.underlying222 (iw 0) k) (by rw[XR];rfl)) ?_;refine go ?_;refine sL (bX (i16:Int) 1 ol) ?_;refine go ?_;refine sL (MQ bP Tryz.underlying223 (.own 1) ((i16:Int)+1) (i16+1) om ol om)<|sL (bL bP Tryz.underlying223 (Acc.suf (.own 1) bP (i16+1) ol)) ?_
  refine go ?_;have ud:(S.drop (i16+1)).length=S.length-(i16+1):=List.length_drop;refine aD (ι:=Nat) (fun j=>j≤(S.drop (i16+1)).length∧live ((S.drop (i16+1)).take j)=[]) (fun j=>[(4,pB g2 0),(5,pB g3 0),(40,(suf lG.size sv7 (i16+1))),(41,iw ((S.drop (i16+1)).length:Int)),(42,iw (j:Int))]) (fun j=>aa b #[sv7,.map (some XQ),iw (fo S:Int)] 225::own lG sv7 S::dr vK nV XQ m9::aa g3 zc 71::aa g2 zc 71::aa g1 (vc k) 71::F) (fun j=>(S.drop (i16+1)).length-j) 0 ⟨Nat.zero_le _,rfl⟩ sA rA ?_;rintro j SN;try dsimp only at SN⊢
  refine gc ?_;refine b9 (fun LK=>?_) (fun kt=>?_)
  .refine go ?_;refine sL (aF bP Tryz.underlying223 (Acc.suf (.own 1) bP (i16+1) ol) (j:Int) j om ol om) ?_;obtain⟨Dx,XS⟩:∃y,(S.drop (i16+1))[j]?=some y:=⟨_,List.getElem?_eq_getElem ol⟩;refine sL (bC bP (Acc.suf (.own 1) bP (i16+1) ol) XS)<|ae (.agg #[iw 0,iw 0,iw 0,sw eb,iw 0,iw 0,iw 0,iw 0,sw eb,iw 0,.bool false]) #[iw 0,iw 0,iw 0,sw eb,iw 0,iw 0,iw 0,iw 0,sw eb,iw 0,.bool false] (fun JT=>?_)
   refine go ?_;refine kd (fun nR=>?_) (fun nR=>?_)
   .have XT:=cO nR;refine aE<|br [aa JT #[iw Dx.key.kind,iw Dx.key.p,iw Dx.key.q,sw Dx.key.str,iw Dx.key.ref,iw Dx.val.kind,iw Dx.val.p,iw Dx.val.q,sw Dx.val.str,iw Dx.val.ref,.bool Dx.gone] 261,aa b #[sv7,.map (some XQ),iw (fo S:Int)] 225,own lG sv7 S,dr vK nV XQ m9,aa g1 (vc k) 71] ?_
    refine gH [0,1,2,3] [0,0,0,0,2] ?_;refine ag 4 ?_;refine ar 5 (vc Dx.key) ?_;refine nH [0,0,0,0,2]<|ag 5 ?_
    refine ar 4 (vc Dx.val) ?_;refine nH [0,0,0,0,2] ?_;refine gH [6,7] [0,0,0,0,2] ?_;refine aI ?_;refine go ?_;refine ab (fun _ h=>eA (S:=S) (n:=(fo S:Int)) ⟨⟨BB,H3⟩,rfl⟩ (rB h)) ?_;have hr:=rR (a:=(i16+1)) SN.2 XS XT;have hp:aA S k=(Dx.key,Dx.val,true,0):=by rw[(nP (dF c5) JR)];first|(rw[hr];done)|(have F2:iz (live S).head?=_:=hr;rw[F2])
    refine ad [.agg (vc Dx.key),.agg (vc Dx.val),.bool true,iw 0] (jE b S::F) (SI.agg 4 71 3 (SI.agg 5 71 2 (SI.tmp 6 (SI.tmp 7 SI.nil)))) rA ⟨?_,rfl⟩;rw[hp];rfl
   have XU:=cu nR;refine go ?_;refine sL (bX (j:Int) 1 ol) ?_;refine go ?_;exact xr (j+1) ⟨by omega,lF SN.2 XS XU⟩
  refine go ?_;refine sL (ay (.agg zc))<|sL (ay (.agg zc)) ?_
  refine go ?_;refine ab (fun _ h=>eA (S:=S) (n:=(fo S:Int)) ⟨⟨BB,H3⟩,rfl⟩ (rB h)) ?_;have hr:=xK (a:=(i16+1)) SN.2 ol;have hp:aA S k=(bw,bw,false,0):=by rw[(nP (dF c5) JR)];first|(rw[hr];done)|(have F2:iz (live S).head?=_:=hr;rw[F2])
  refine ad [.agg zc,.agg zc,.bool false,iw 0] (jE b S::F) (SI.agg 4 71 2 (SI.agg 5 71 1 (SI.tmp 6 (SI.tmp 7 SI.nil)))) rA ⟨?_,rfl⟩;rw[hp];rfl
 have Az:=cu c4;have jr:=dY Az;refine go ?_;refine dc (fun H h=>kc (rB h)) (fun Nq SO m39 hw=>?_);obtain⟨Nr,VM⟩:=hw;refine go ?_;refine sL (MQ bP Tryz.underlying223 (.own 1) 0 0 om ol om)<|sL (bL bP Tryz.underlying223 (Acc.suf (.own 1) bP 0 ol)) ?_
 refine go ?_;have ud:(S.drop 0).length=S.length-0:=List.length_drop;refine aD (ι:=Nat) (fun j=>j≤(S.drop 0).length∧live ((S.drop 0).take j)=[]) (fun j=>[(4,pB g2 0),(5,pB g3 0),(40,(suf lG.size Nq 0)),(41,iw ((S.drop 0).length:Int)),(42,iw (j:Int))]) (fun j=>aa b #[Nq,.map (some SO),iw (fo S:Int)] 225::own lG Nq S::dr vK nV SO m39::aa g3 zc 71::aa g2 zc 71::aa g1 (vc k) 71::F) (fun j=>(S.drop 0).length-j) 0 ⟨Nat.zero_le _,rfl⟩ sA rA ?_;rintro j SP;try dsimp only at SP⊢
 refine gc ?_;refine b9 (fun LJ=>?_) (fun p51=>?_)
 .refine go ?_;refine sL (aF bP Tryz.underlying223 (Acc.suf (.own 1) bP 0 ol) (j:Int) j om ol om) ?_;obtain⟨Dy,SQ⟩:∃y,(S.drop 0)[j]?=some y:=⟨_,List.getElem?_eq_getElem ol⟩;refine sL (bC bP (Acc.suf (.own 1) bP 0 ol) SQ)<|ae (.agg #[iw 0,iw 0,iw 0,sw eb,iw 0,iw 0,iw 0,iw 0,sw eb,iw 0,.bool false]) #[iw 0,iw 0,iw 0,sw eb,iw 0,iw 0,iw 0,iw 0,sw eb,iw 0,.bool false] (fun wc=>?_)
  refine go ?_;refine kd (fun Nt=>?_) (fun Nt=>?_)
  .have SC:=cO Nt;refine aE<|br [aa wc #[iw Dy.key.kind,iw Dy.key.p,iw Dy.key.q,sw Dy.key.str,iw Dy.key.ref,iw Dy.val.kind,iw Dy.val.p,iw Dy.val.q,sw Dy.val.str,iw Dy.val.ref,.bool Dy.gone] 261,aa b #[Nq,.map (some SO),iw (fo S:Int)] 225,own lG Nq S,dr vK nV SO m39,aa g1 (vc k) 71] ?_
   refine gH [0,1,2,3] [0,0,0,0,2] ?_;refine ag 4 ?_;refine ar 5 (vc Dy.key) ?_;refine nH [0,0,0,0,2]<|ag 5 ?_
   refine ar 4 (vc Dy.val) ?_;refine nH [0,0,0,0,2] ?_;refine gH [6,7] [0,0,0,0,2] ?_;refine aI ?_;refine go ?_;refine ab (fun _ h=>eA (S:=S) (n:=(fo S:Int)) ⟨⟨Nr,VM⟩,rfl⟩ (rB h)) ?_;have hz:k=bw:=(dY Az);subst hz;have hr:=rR (a:=0) SP.2 SQ SC;have hp:aA S bw=(Dy.key,Dy.val,true,0):=by rw[(qm S)];first|(rw[hr];done)|(have F2:iz (live S).head?=_:=hr;rw[F2])
   refine ad [.agg (vc Dy.key),.agg (vc Dy.val),.bool true,iw 0] (jE b S::F) (SI.agg 4 71 3 (SI.agg 5 71 2 (SI.tmp 6 (SI.tmp 7 SI.nil)))) rA ⟨?_,rfl⟩;rw[hp];rfl
  have VN:=cu Nt;refine go ?_;refine sL (bX (j:Int) 1 ol) ?_;refine go ?_;exact xr (j+1) ⟨by omega,lF SP.2 SQ VN⟩
 refine go ?_;refine sL (ay (.agg zc))<|sL (ay (.agg zc)) ?_
 refine go ?_;refine ab (fun _ h=>eA (S:=S) (n:=(fo S:Int)) ⟨⟨Nr,VM⟩,rfl⟩ (rB h)) ?_;have hz:k=bw:=(dY Az);subst hz;have hr:=xK (a:=0) SP.2 ol;have hp:aA S bw=(bw,bw,false,0):=by rw[(qm S)];first|(rw[hr];done)|(have F2:iz (live S).head?=_:=hr;rw[F2])
 refine ad [.agg zc,.agg zc,.bool false,iw 0] (jE b S::F) (SI.agg 4 71 2 (SI.agg 5 71 1 (SI.tmp 6 (SI.tmp 7 SI.nil)))) rA ⟨?_,rfl⟩;rw[hp];rfl
theorem JU:NF 208 #[pB b 0] Z (jE b S::F) (iw (S.length:Int)):=by
 refine bO Tryz.func208 10 (fun w0=>?_);refine go ?_;refine dc (fun H h=>kc (rB h)) (fun Fb ru m3 hw=>?_);obtain⟨Dw,Nl⟩:=hw;refine gy ?_;refine ab (fun _ h=>eA (S:=S) (n:=(fo S:Int)) ⟨⟨Dw,Nl⟩,rfl⟩ (rB h)) ?_;refine ad _ _ (SI.tmp 2 SI.nil) rA ⟨?_,rfl⟩;rfl
theorem Nu(hs:S.length≤1000000):SF Tryz.prog 235 #[pB b 0] Z (jE b S::F) fun r Bs=>Bs=own bq r (dP S)::jE b S::F:=by
 refine bO Tryz.func235 27 (fun w0=>?_);refine go ?_;refine dc (fun H h=>kc (rB h)) (fun Fb ru m3 hw=>?_);obtain⟨Dw,Nl⟩:=hw;refine gy ?_;refine aK (fun _ h=>Holds.nilS (T:=bq) h) ?_;refine aK (Bs:=own bq nS (dP (S.take 0))::aa b #[Fb,.map (some ru),iw (fo S:Int)] 225::own lG Fb S::dr vK nV ru m3::F) (fun _ h=>h) ?_;refine aD (ι:=Value×Nat) (fun (lx,i)=>i≤S.length) (fun (lx,i)=>[(3,lx),(11,Fb),(12,iw (S.length:Int)),(13,iw (i:Int))]) (fun (lx,i)=>own bq lx (dP (S.take i))::aa b #[Fb,.map (some ru),iw (fo S:Int)] 225::own lG Fb S::dr vK nV ru m3::F) (fun (lx,i)=>S.length-i) (nS,0) (Nat.zero_le _) sA rA ?_;rintro⟨lx,i⟩ kV;replace kV:i≤S.length:=kV;show SK _ _ _ _ _ [(3,lx),(11,Fb),(12,iw (S.length:Int)),(13,iw (i:Int))] _ (own bq lx (dP (S.take i))::aa b #[Fb,.map (some ru),iw (fo S:Int)] 225::own lG Fb S::dr vK nV ru m3::F);have Sj:(dP (S.take i)).length≤i:=Nat.le_trans (jX _) (by rw[List.length_take];omega);refine gc ?_;refine b9 (fun p8=>?_) (fun mM=>?_)
 .obtain ⟨y9,jA⟩:∃y,S[i]?=some y:=⟨_,List.getElem?_eq_getElem ol⟩;refine gy ?_;refine ae (.agg #[iw 0,iw 0,iw 0,sw eb,iw 0,iw 0,iw 0,iw 0,sw eb,iw 0,.bool false]) #[iw 0,iw 0,iw 0,sw eb,iw 0,iw 0,iw 0,iw 0,sw eb,iw 0,.bool false] (fun g11=>?_);refine go ?_;refine kd (fun jS=>?_) (fun jS=>?_)
  .have ux:=cO jS;refine go ?_;refine ah (e:=71) [(0,.agg (vc y9.key))] (vc y9.key) (fun g14=>?_) (hb:=by kernel_rfl);refine aq (L:=(dP (S.take i))) 2 aZ Tryz.underlying28 (.lit 0 aZ [y9.key]) (by show _*48≤_;(try simp only[cD]);omega) ol (fun m0=>?_);refine gy ?_;have vX:=nT jA;rw[if_neg (by rw[ux];decide)]at vX;rw[←vX];exact xr (m0,i+1) (by show i+1≤S.length;omega)
  have vV:=cu jS;refine gy ?_;have vX:=nT jA;rw[if_pos vV]at vX;rw[←vX];exact xr (lx,i+1) (by show i+1≤S.length;omega)
 refine go ?_;refine ab (fun _ h=>eA (S:=S) (n:=(fo S:Int)) ⟨⟨Dw,Nl⟩,rfl⟩ (rB h)) ?_;have iA:dP (S.take i)=dP S:=by rw[List.take_of_length_le om]
 rw[iA];exact ad _ _ (SI.tmp 2 SI.nil) (rr [1,0] []) rfl
def iL(b:Nat)(S:List cY):aW:=lj fun sv=>zr (dG S) [aa b #[sv] 257,own kW sv S]
theorem ig(h:Holds Z (iL b S::F) H):∃(sv:Value),dG S∧Holds Z (aa b #[sv] 257::own kW sv S::F) H:=by
 obtain⟨sv,h⟩:=h.open_ex;exact⟨sv,h.open_st⟩
theorem cz(hp:dG S)(h:Holds Z (aa b #[sv] 257::own kW sv S::F) H):Holds Z (iL b S::F) H:=
 Holds.shut_ex sv (Holds.shut_st hp h)
theorem pF(h:Holds Z (iL b S::F) H):dG S:=by
 obtain⟨_,h,_⟩:=ig h;exact h
theorem Dz(h:S[i]?=some s):fo (S.take (i+1))=if s.gone then fo (S.take i) else fo (S.take i)+1:=by
 unfold fo;rw[fz h];split<;>simp
theorem Nw(h:dG S)(hs:S[i]?=some s)(hk:s.key=k)(hg:s.gone=true):S=S.set i ⟨k,bw,true⟩:=by
 have e:=h.zero s (List.mem_of_getElem? hs) hg;have:s=⟨k,bw,true⟩:=by rw[←hk,←e,←hg]
 rw[←this];exact (xL hs).symm
theorem H4:SF Tryz.prog 190 #[] Z [] fun r Bs=>∃b,r=pB b 0∧Bs=[iL b []]:=by
 refine sfe Tryz.func190 3 (fun w0=>?_);refine go ?_;refine sL (ay (.agg #[nS]))<|bj #[nS] (fun g1=>?_)
 refine go ?_;refine ad _ _ (SI.tmp 0 SI.nil) (fun _ h=>cz (b:=g1) (sv:=nS) dG.nil ((Holds.nilS (T:=kW) h).re [1,0] [])) ⟨g1,rfl,rfl⟩
theorem xM(hs:S.length≤1000000)(k:Vl):NF 240 #[pB b 0,k.v] Z (iL b S::F) (iw (oF S k)):=by
 refine bx Tryz.func240 38 [(0,pB b 0),(1,.agg (vc k))] (fun w0=>?_);refine bk (fun H h=>pF (h.re [0] [])) (fun bD=>?_);refine gA fun g1=>?_
 refine aD (ι:=Nat) (fun i=>i≤S.length) (fun i=>[(0,pB b 0),(3,pB g1 0),(5,iw (oF (S.take i) k)),(6,iw (i:Int))]) (fun i=>aa g1 (vc k) 71::iL b S::F) (fun i=>S.length-i) 0 (Nat.zero_le _) sA (rr [0,0] []) ?_;rintro i cg;try dsimp only at cg⊢
 refine go ?_;refine cr (fun H h=>ig (h.re [1] [])) (fun vT hw=>?_);refine sL (aJ 0 vT)<|sL (bL aR Tryz.underlying255 (.own 1))<|sL aT<|bH<|b9 (fun p6=>?_) (fun kO=>?_)
 .refine go ?_;refine sL (aF aR Tryz.underlying255 (.own 1) (i:Int) i om ol om) ?_;refine go ?_;obtain⟨y7,wC⟩:∃y,S[i]?=some y:=⟨_,List.getElem?_eq_getElem ol⟩;refine sL (iW 0 (vc y7.key) aR (.own 1) wC)<|sL (dE 2 (vc k))<|sL (fY (fun w=>(ic y7.key k w).1)) ?_
  refine fk (fun gQ=>?_) (fun iU=>?_)
  .refine go ?_;refine sL (aF aR Tryz.underlying255 (.own 1) (i:Int) i om ol om) ?_;refine go ?_;refine sL (cw 10 aR (.own 1) wC) ?_;refine go ?_;refine kd (fun ff=>?_) (fun ff=>?_)
   .have jS:=cO ff;refine go ?_;refine ab (fun _ h=>cz (S:=S) bD (h.re [0,0] [])) ?_;refine ad _ _ (SI.tmp 4 SI.nil) (rr [0] [1]) ⟨cI ?_,rfl⟩;rw[←gQ];exact (JD bD wC jS).symm
   have ux:=cu ff;refine go ?_;refine sL (bX (i:Int) 1 ol) ?_;refine go ?_;have dM:=Au k wC;rw[if_pos gQ]at dM;refine ab (fun _ h=>cz (S:=S) bD (h.re [0,0] [])) ?_;exact az (i+1) om om (bc rfl (rQ (rQ ⟨⟨rfl,cI dM.symm⟩,(rQ trivial)⟩))) (rr [1,0] [])
  refine go ?_;refine sL (bX (i:Int) 1 ol) ?_;refine go ?_;have dM:=Au k wC;rw[if_neg iU]at dM;refine ab (fun _ h=>cz (S:=S) bD (h.re [0,0] [])) ?_;exact az (i+1) om om (bc rfl (rQ (rQ ⟨⟨rfl,cI dM.symm⟩,(rQ trivial)⟩))) (rr [1,0] [])
 refine go ?_;refine ab (fun _ h=>cz (S:=S) bD (h.re [0,0] [])) ?_;refine ad _ _ (SI.tmp 4 SI.nil) (rr [0] [1]) ⟨cI ?_,rfl⟩;exact Nd k om
theorem qq(hs:S.length≤1000000)(k:Vl):NF 199 #[pB b 0,k.v] Z (iL b S::F) ((ei S k).v):=by
 refine bx Tryz.func199 33 [(0,pB b 0),(1,.agg (vc k))] (fun w0=>?_);refine bk (fun H h=>pF (h.re [0] [])) (fun bD=>?_);refine gA fun g1=>?_
 refine gA fun g2=>?_
 refine aH [2] (xM (S:=S) om k) ?_;rintro u3 _ ⟨e4,rfl⟩;rcases rP (S:=S) k with ⟨rS,hl6,ht7,hg8⟩|⟨i9,s10,DA,abP,SR,ai5,SM,abR⟩
 .rw [rS]at e4;subst e4;refine go ?_;refine sL (aT (c:=true)) ?_;refine go ?_;refine sL (ay (.agg zc)) ?_;refine go ?_;refine ad [.agg zc] (iL b S::F) (SI.agg 4 71 1 SI.nil) (rr [0] [1,1]) ⟨?_,rfl⟩;exact (congrArg Vl.v hg8).symm
 rw[DA]at e4;subst e4;have ahV:i9<S.length:=(List.getElem?_eq_some_iff.1 SR).1;refine go ?_;refine sL (Lt.to aT (cB (decide_eq_false om:(decide ((i9:Int)<0))=false))) ?_;refine go ?_;refine cr (fun H h=>ig (h.re [0] [])) (fun ai6 hw=>?_);refine go ?_;refine sL (aF aR Tryz.underlying255 (.own 1) (i9:Int) i9 om ol om) ?_;refine go ?_;refine sL (cw 10 aR (.own 1) SR) ?_;refine go ?_;refine bg s10.gone (fun oD=>?_) (fun oD=>?_)
 .refine bn<|sL (ay (.agg zc)) ?_
  refine go ?_;refine ab (fun _ h=>cz (S:=S) bD (h.re [0,0] [])) ?_;refine ad [.agg zc] (iL b S::F) (SI.agg 4 71 1 SI.nil) (rr [0] [1,1]) ⟨?_,rfl⟩;exact (congrArg Vl.v (SM.trans (bD.zero _ (List.mem_of_getElem? SR) oD))).symm
 refine go ?_;refine sL (aF aR Tryz.underlying255 (.own 1) (i9:Int) i9 om ol om) ?_;refine go ?_;refine sL (iW 5 (vc s10.val) aR (.own 1) SR) ?_;refine go ?_;refine ab (fun _ h=>cz (S:=S) bD (h.re [0,0] [])) ?_;refine ad [.agg (vc s10.val)] (iL b S::F) (SI.agg 4 71 1 SI.nil) (rr [0] [1,1]) ⟨?_,rfl⟩;exact (congrArg Vl.v SM).symm
theorem H5(hs:S.length≤1000000):NF 241 #[pB b 0] Z (iL b S::F) (iw (fo S:Int)):=by
 refine bO Tryz.func241 28 (fun w0=>?_);refine bk (fun H h=>pF (rB h)) (fun bD=>?_);refine go ?_;refine aD (ι:=Nat) (fun i=>i≤S.length) (fun i=>[(0,pB b 0),(3,iw (fo (S.take i):Int)),(4,iw (i:Int))]) (fun i=>iL b S::F) (fun i=>S.length-i) 0 (Nat.zero_le _) sA rA ?_;rintro i cQ;try dsimp only at cQ⊢
 have nF:fo (S.take i)≤i:=Nat.le_trans (fi _) (by rw[List.length_take];omega);refine go ?_;refine cr (fun H h=>ig (rB h)) (fun sv2 hw=>?_);refine fk (fun p5=>?_) (fun im=>?_)
 .refine gy ?_;obtain⟨y6,s9⟩:∃y,S[i]?=some y:=⟨_,List.getElem?_eq_getElem ol⟩;refine sL (cw 10 aR (.own 1) s9) ?_;refine go ?_;refine kd (fun c8=>?_) (fun c8=>?_)
  .have c9:=cO c8;refine gy ?_;have dM:=Dz s9;rw[if_neg (by rw[c9];decide)]at dM;rw[show ((fo (S.take i):Int)+1)=((fo (S.take (i+1)):Nat):Int) by omega];refine ab (fun _ h=>cz (S:=S) bD (rB h)) ?_;exact xr (i+1) om
  have l4:=cu c8;refine gy ?_;have dM:=Dz s9;rw[if_pos l4]at dM;rw[←dM];refine ab (fun _ h=>cz (S:=S) bD (rB h)) ?_;exact xr (i+1) om
 refine go ?_;refine ab (fun _ h=>cz (S:=S) bD (rB h)) ?_;refine ad _ _ (SI.tmp 2 SI.nil) rA ⟨?_,rfl⟩;show Value.int .i64 (fo (S.take i):Int)=_;rw[List.take_of_length_le om]
theorem JV:NF 262 #[pB b 0] Z (iL b S::F) (iw (S.length:Int)):=by
 refine bO Tryz.func262 10 (fun w0=>?_);refine bk (fun H h=>pF (rB h)) (fun bD=>?_);refine go ?_;refine cr (fun H h=>ig (rB h)) (fun Fb hw=>?_);refine gy ?_;refine ab (fun _ h=>cz (S:=S) bD (rB h)) ?_;refine ad [iw (S.length:Int)] (iL b S::F) (SI.tmp 2 SI.nil) rA ⟨?_,rfl⟩;rfl
theorem Nx(hs:S.length≤1000000):SF Tryz.prog 244 #[pB b 0] Z (iL b S::F) fun r Bs=>Bs=own bq r (dP S)::iL b S::F:=by
 refine bx Tryz.func244 38 [(0,pB b 0)] (fun w0=>?_);refine bk (fun H h=>pF (h.re [0] [])) (fun bD=>?_);refine go ?_;refine aK (fun _ h=>Holds.nilS (T:=bq) h) ?_;refine aK (Bs:=own bq nS (dP (S.take 0))::iL b S::F) (fun _ h=>h) ?_;refine aD (ι:=Value×Nat) (fun (lx,i)=>i≤S.length) (fun (lx,i)=>[(0,pB b 0),(3,lx),(4,iw (i:Int))]) (fun (lx,i)=>own bq lx (dP (S.take i))::iL b S::F) (fun (lx,i)=>S.length-i) (nS,0) (Nat.zero_le _) sA (rr [0,0] []) ?_;rintro⟨lx,i⟩ cQ;try dsimp only at cQ⊢
 have Sj:(dP (S.take i)).length≤i:=Nat.le_trans (jX _) (by rw[List.length_take];omega);refine go ?_;refine cr (fun H h=>ig (h.re [1] [])) (fun sv2 hw=>?_);refine sL (aJ 0 sv2)<|sL (bL aR Tryz.underlying255 (.own 1))<|sL aT<|bH<|b9 (fun p5=>?_) (fun fL=>?_)
 .refine go ?_;refine sL (aF aR Tryz.underlying255 (.own 1) (i:Int) i om ol om) ?_;refine go ?_;obtain⟨y6,s9⟩:∃y,S[i]?=some y:=⟨_,List.getElem?_eq_getElem ol⟩;refine sL (cw 10 aR (.own 1) s9) ?_;refine go ?_;refine kd (fun c8=>?_) (fun c8=>?_)
  .have c9:=cO c8;refine go ?_;refine sL (aF aR Tryz.underlying255 (.own 1) (i:Int) i om ol om) ?_;refine go ?_;refine sL (iW 0 (vc y6.key) aR (.own 1) s9)<|ah (e:=71) [(0,.agg (vc y6.key))] (vc y6.key) (fun g10=>?_) (hb:=by kernel_rfl)
   refine aq (L:=(dP (S.take i))) 3 aZ Tryz.underlying28 (.lit 0 aZ [y6.key]) (by show _*48≤_;(try simp only[cD]);omega) ol (fun v11=>?_);refine go ?_;refine sL (bX (i:Int) 1 ol) ?_;refine go ?_;have vX:=nT s9;rw[if_neg (by rw[c9];decide)]at vX;rw[←vX];refine ab (fun _ h=>cz (S:=S) bD (h.re [1,1] [])) ?_;exact az (v11,i+1) (by show S.length-(i+1)<S.length-i;omega) (by show i+1≤S.length;omega) sA (rr [2,0] [2])
  have jS:=cu c8;refine go ?_;refine sL (bX (i:Int) 1 ol) ?_;refine go ?_;have vX:=nT s9;rw[if_pos jS]at vX;rw[←vX];refine ab (fun _ h=>cz (S:=S) bD (h.re [0,0] [])) ?_;exact az (lx,i+1) (by show S.length-(i+1)<S.length-i;omega) (by show i+1≤S.length;omega) sA (rr [1,0] [])
 refine go ?_;refine ab (fun _ h=>cz (S:=S) bD (h.re [0,0] [])) ?_;have iA:dP (S.take i)=dP S:=by rw[List.take_of_length_le om]
 rw[iA];exact ad _ _ (SI.tmp 2 SI.nil) (rr [1,0] []) rfl
theorem vB(ha:a≤j)(h:live ((S.drop a).take (j-a))=[])(hs:S[j]?=some s)(hg:s.gone=false):iz (live (S.drop a)).head?=(s.key,s.val,true):=
 rR h (by rw[List.getElem?_drop,show a+(j-a)=j by omega];exact hs) hg
theorem AD(ha:a≤j)(h:live ((S.drop a).take (j-a))=[])(hj:S.length≤j):iz (live (S.drop a)).head?=(bw,bw,false):=
 xK h (by rw[List.length_drop];omega)
theorem xN(ha:a≤j)(h:live ((S.drop a).take (j-a))=[])(hs:S[j]?=some s)(hg:s.gone=true):live ((S.drop a).take (j+1-a))=[]:=by
 rw[show j+1-a=(j-a)+1 by omega];exact lF h (by rw[List.getElem?_drop,show a+(j-a)=j by omega];exact hs) hg
theorem iQ(hs:S.length≤1000000)(k:Vl):NF 243 #[pB b 0,k.v] Z (iL b S::F) (xJ (aA S k)):=by
 refine bO Tryz.func243 62 (fun w0=>?_);refine bk (fun H h=>pF (rB h)) (fun bD=>?_);refine bn<|bj (vc k) (fun g1=>?_)
 refine ae (.agg zc) zc (fun g2=>?_);refine ae (.agg zc) zc (fun g3=>?_);refine go ?_;refine sL (ay (.agg zc))<|sL (fY (fun w=>(ic k bw w).2))<|bH<|kd (fun c4=>?_) (fun c4=>?_)
 .have c5:=cO c4;have p6:=dF c5;refine go ?_;refine aH [3] (xM (S:=S) om k) ?_;rintro u7 _ ⟨e8,rfl⟩;rcases rP (S:=S) k with ⟨mw,aeU,abS,ai7⟩|⟨i13,s14,fp,abT,aeV,XV,ai8,ai9⟩
  .rw [mw]at e8;subst e8;refine go ?_;refine sL (aT (c:=true))<|bH<|iy<|bn<|sL (ay (.agg zc))<|sL (ay (.agg zc)) ?_
   refine go ?_;have hp:aA S k=(bw,bw,false,13):=(rO (dF c5) aeU);refine ad [.agg zc,.agg zc,.bool false,iw 13] (iL b S::F) (SI.agg 4 71 2 (SI.agg 5 71 1 (SI.tmp 6 (SI.tmp 7 SI.nil)))) rA ⟨?_,rfl⟩;rw[hp];rfl
  rw[fp]at e8;subst e8;have ahW:i13<S.length:=(List.getElem?_eq_some_iff.1 aeV).1;refine go ?_;refine sL (Lt.to aT (cB (decide_eq_false om:(decide ((i13:Int)<0))=false))) ?_;refine go ?_;refine sL (bX (i13:Int) 1 ol) ?_;refine go ?_;refine aD (ι:=Nat) (fun j=>(i13+1)≤j∧j≤S.length∧live ((S.drop (i13+1)).take (j-(i13+1)))=[]) (fun j=>[(0,pB b 0),(4,pB g2 0),(5,pB g3 0),(9,iw (j:Int))]) (fun j=>iL b S::aa g3 zc 71::aa g2 zc 71::aa g1 (vc k) 71::F) (fun j=>S.length-j) (i13+1) ⟨Nat.le_refl _,by omega,by rw[Nat.sub_self];rfl⟩ sA rA ?_;rintro j JW;try dsimp only at JW⊢
  refine go ?_;refine cr (fun H h=>ig (rB h)) (fun XW hw=>?_);refine sL (aJ 0 XW)<|sL (bL aR Tryz.underlying255 (.own 1))<|sL aT<|bH<|b9 (fun oP=>?_) (fun uI=>?_)
  .refine go ?_;refine sL (aF aR Tryz.underlying255 (.own 1) (j:Int) j om ol om) ?_;refine go ?_;obtain⟨H6,BC⟩:∃y,S[j]?=some y:=⟨_,List.getElem?_eq_getElem ol⟩;refine sL (cw 10 aR (.own 1) BC) ?_;refine go ?_;refine kd (fun c29=>?_) (fun c29=>?_)
   .have SB:=cO c29;refine aE<|br [aa b #[XW] 257,own kW XW S,aa g1 (vc k) 71] ?_
    refine gH [0,1,2,3,4] [0,0,2] ?_;refine fK 5 rfl [0,0,2] (fun _=>(aF aR Tryz.underlying255 (.own 1) (j:Int) j om ol om)) ?_;refine gH [6] [0,0,2] ?_;refine fK 7 rfl [0,0,2] (fun _=>(iW 0 (vc H6.key) aR (.own 1) BC)) ?_;refine gH [8,9,10,11,12] [0,0,2] ?_;refine fK 13 rfl [0,0,2] (fun _=>(aF aR Tryz.underlying255 (.own 1) (j:Int) j om ol om)) ?_;refine gH [14] [0,0,2] ?_;refine fK 15 rfl [0,0,2] (fun _=>(iW 5 (vc H6.val) aR (.own 1) BC)) ?_;refine ag 16 ?_;refine ar 3 (vc H6.key) ?_;refine nH [0,0,2]<|ag 17 ?_
    refine ar 2 (vc H6.val) ?_;refine nH [0,0,2] ?_;refine gH [18,19] [0,0,2] ?_;refine aI ?_;refine go ?_;refine ab (fun _ h=>cz (S:=S) bD (rB h)) ?_;have hr:=vB (a:=(i13+1)) om JW.2.2 BC SB;have hp:aA S k=(H6.key,H6.val,true,0):=by rw[(nP (dF c5) abT)];first|(rw[hr];done)|(have F2:iz (live S).head?=_:=hr;rw[F2])
    refine ad [.agg (vc H6.key),.agg (vc H6.val),.bool true,iw 0] (iL b S::F) (SI.agg 4 71 2 (SI.agg 5 71 1 (SI.tmp 6 (SI.tmp 7 SI.nil)))) rA ⟨?_,rfl⟩;rw[hp];rfl
   have nR:=cu c29;refine go ?_;refine sL (bX (j:Int) 1 ol) ?_;refine go ?_;refine ab (fun _ h=>cz (S:=S) bD (rB h)) ?_;exact xr (j+1) ⟨by omega,by omega,xN om JW.2.2 BC nR⟩
  refine go ?_;refine sL (ay (.agg zc))<|sL (ay (.agg zc)) ?_
  refine go ?_;refine ab (fun _ h=>cz (S:=S) bD (rB h)) ?_;have hr:=AD (a:=(i13+1)) om JW.2.2 om;have hp:aA S k=(bw,bw,false,0):=by rw[(nP (dF c5) abT)];first|(rw[hr];done)|(have F2:iz (live S).head?=_:=hr;rw[F2])
  refine ad [.agg zc,.agg zc,.bool false,iw 0] (iL b S::F) (SI.agg 4 71 2 (SI.agg 5 71 1 (SI.tmp 6 (SI.tmp 7 SI.nil)))) rA ⟨?_,rfl⟩;rw[hp];rfl
 have XU:=cu c4;have kt:=dY XU;refine eT<|aE<|bn<|sP (iw (-1))<|oN (iw 0)<|bH<|cE<|aD (ι:=Nat) (fun j=>0≤j∧j≤S.length∧live ((S.drop 0).take (j-0))=[]) (fun j=>[(0,pB b 0),(4,pB g2 0),(5,pB g3 0),(9,iw (j:Int))]) (fun j=>aa g3 zc 71::aa g2 zc 71::aa g1 (vc k) 71::iL b S::F) (fun j=>S.length-j) 0 ⟨Nat.le_refl _,by omega,by rw[Nat.sub_self];rfl⟩ sA rA ?_
 rintro j Ny;try dsimp only at Ny⊢
 refine go ?_;refine cr (fun H h=>ig (rB h)) (fun XX hw=>?_);refine sL (aJ 0 XX)<|sL (bL aR Tryz.underlying255 (.own 1))<|sL aT<|bH<|b9 (fun VK=>?_) (fun JK=>?_)
 .refine go ?_;refine sL (aF aR Tryz.underlying255 (.own 1) (j:Int) j om ol om) ?_;refine go ?_;obtain⟨VO,Nz⟩:∃y,S[j]?=some y:=⟨_,List.getElem?_eq_getElem ol⟩;refine sL (cw 10 aR (.own 1) Nz) ?_;refine go ?_;refine kd (fun xO=>?_) (fun xO=>?_)
  .have XI:=cO xO;refine aE<|br [aa b #[XX] 257,own kW XX S,aa g1 (vc k) 71] ?_
   refine gH [0,1,2,3,4] [0,0,2] ?_;refine fK 5 rfl [0,0,2] (fun _=>(aF aR Tryz.underlying255 (.own 1) (j:Int) j om ol om)) ?_;refine gH [6] [0,0,2] ?_;refine fK 7 rfl [0,0,2] (fun _=>(iW 0 (vc VO.key) aR (.own 1) Nz)) ?_;refine gH [8,9,10,11,12] [0,0,2] ?_;refine fK 13 rfl [0,0,2] (fun _=>(aF aR Tryz.underlying255 (.own 1) (j:Int) j om ol om)) ?_;refine gH [14] [0,0,2] ?_;refine fK 15 rfl [0,0,2] (fun _=>(iW 5 (vc VO.val) aR (.own 1) Nz)) ?_;refine ag 16 ?_;refine ar 3 (vc VO.key) ?_;refine nH [0,0,2]<|ag 17 ?_
   refine ar 2 (vc VO.val) ?_;refine nH [0,0,2] ?_;refine gH [18,19] [0,0,2] ?_;refine aI ?_;refine go ?_;refine ab (fun _ h=>cz (S:=S) bD (rB h)) ?_;have hz:k=bw:=(dY XU);subst hz;have hr:=vB (a:=0) om Ny.2.2 Nz XI;have hp:aA S bw=(VO.key,VO.val,true,0):=by rw[(qm S)];first|(rw[hr];done)|(have F2:iz (live S).head?=_:=hr;rw[F2])
   refine ad [.agg (vc VO.key),.agg (vc VO.val),.bool true,iw 0] (iL b S::F) (SI.agg 4 71 2 (SI.agg 5 71 1 (SI.tmp 6 (SI.tmp 7 SI.nil)))) rA ⟨?_,rfl⟩;rw[hp];rfl
  have NA:=cu xO;refine go ?_;refine sL (bX (j:Int) 1 ol) ?_;refine go ?_;refine ab (fun _ h=>cz (S:=S) bD (rB h)) ?_;exact xr (j+1) ⟨by omega,by omega,xN om Ny.2.2 Nz NA⟩
 refine go ?_;refine sL (ay (.agg zc))<|sL (ay (.agg zc)) ?_
 refine go ?_;refine ab (fun _ h=>cz (S:=S) bD (rB h)) ?_;have hz:k=bw:=(dY XU);subst hz;have hr:=AD (a:=0) om Ny.2.2 om;have hp:aA S bw=(bw,bw,false,0):=by rw[(qm S)];first|(rw[hr];done)|(have F2:iz (live S).head?=_:=hr;rw[F2])
 refine ad [.agg zc,.agg zc,.bool false,iw 0] (iL b S::F) (SI.agg 4 71 2 (SI.agg 5 71 1 (SI.tmp 6 (SI.tmp 7 SI.nil)))) rA ⟨?_,rfl⟩;rw[hp];rfl
theorem qs(hs:S.length≤1000000)(k v:Vl):MF 198 #[pB b 0,k.v,v.v] Z (iL b S::F) (iw (jN k v)) (iL b (cZ S k v)::F):=by
 refine bx Tryz.func198 117 [(0,pB b 0),(1,.agg (vc k)),(2,.agg (vc v))] (fun w0=>?_);refine bk (fun H h=>pF (h.re [0] [])) (fun bD=>?_);refine bn<|bj (vc k) (fun g1=>?_)
 refine bj (vc v) (fun g2=>?_);refine sP (iw 0)<|bH<|aE<|bn ?_
 refine gs ?_;refine eh<|eT<|aE<|b6 (ι:=Unit) (fun _=>True) (fun _=>[(0,pB b 0),(4,pB g1 0),(5,pB g2 0),(20,.bool ((decide (k.kind=0))||(!(au k))))]) (fun _=>aa g2 (vc v) 71::aa g1 (vc k) 71::iL b S::F) ?_ (fun _ _=>?_)
 .refine gc ?_;refine eF 16 (fun p4=>?_) (fun p5=>?_)
  .refine go ?_;exact xC
  refine sL (dE 1 (vc k))<|sV (fun _ h=>ku k) ?_
  refine go ?_;exact xC
 refine kd (fun c6=>?_) (fun c6=>?_)
 .have p7:=c6;simp only[Bool.and_eq_true,Bool.or_eq_true,Bool.and_eq_false_iff,Bool.or_eq_false_iff,Bool.not_eq_true',Bool.not_eq_false',decide_eq_true_eq,decide_eq_false_iff_not]at p7;refine go ?_;have hk:=js p7;refine ad [iw 13] (iL b S::F) (SI.tmp 6 SI.nil) (rr [2] [1,1]) ⟨cI (AA hk).symm,?_⟩;rw[qk (v:=v) (.inl hk)]
 obtain⟨c8,c9⟩:=l5 c6;have gQ:=dF c8;have ff:=cu c9;refine gV ?_ (c:=fun _ h=>ku v);refine kd (fun jS=>?_) (fun jS=>?_)
 .have ux:=cO jS;refine go ?_;have hk:=aX c8 ff;refine ad [iw 2] (iL b S::F) (SI.tmp 6 SI.nil) (rr [2] [1,1]) ⟨cI (AB hk ux).symm,?_⟩;rw[qk (v:=v) (.inr ux)]
 have kj:=cu jS;refine go ?_;refine aH [2] (xM (S:=S) om k) ?_;rintro u15 _ ⟨e16,rfl⟩;rcases rP (S:=S) k with ⟨zD,JR,SD,abU⟩|⟨i21,SS,FY,ai',NB,abV,aja,SU⟩
 .rw [zD]at e16;subst e16;refine gc ?_;refine b9 (fun oE=>?_) (fun vA=>?_)
  .refine go ?_;refine sL (aT (c:=false)) ?_;refine go ?_;have hk:=aX c8 ff;have hS:cZ S k v=S:=by rw[mY hk kj oE,SD]
   refine ad [iw 0] (iL b S::F) (SI.tmp 6 SI.nil) (rr [0] [1,1]) ⟨cI (fj hk kj).symm,?_⟩;rw[hS]
  refine go ?_;refine sL (aT (c:=false)) ?_;refine gC [0] ?_ (c:=H5 (S:=S) om);have ahX:=fi S;refine go ?_;refine cr (fun H h=>ig (h.re [0] [])) (fun aeW hw=>?_);refine sL (aJ 0 aeW)<|sL (bL aR Tryz.underlying255 (.own 1))<|sP (iw (fo S:Int))<|sL (fX (S.length:Int) (fo S:Int) ol)<|sP (iw (fo S:Int))<|sL (bX (fo S:Int) 8 ol)<|sL aT<|bH<|b9 (fun jr=>?_) (fun zk=>?_)
  .refine go ?_;refine aK (fun _ h=>cz (S:=S) bD (h.re [0,0] [])) ?_;refine aK (fun _ h=>Holds.nilS (T:=kW) h) ?_;refine aK (Bs:=own kW nS (live (S.take 0))::iL b S::aa g2 (vc v) 71::aa g1 (vc k) 71::F) (fun _ h=>h) ?_;refine aD (ι:=Value×Nat) (fun (lx,i)=>i≤S.length) (fun (lx,i)=>[(0,pB b 0),(4,pB g1 0),(5,pB g2 0),(9,lx),(10,iw (i:Int))]) (fun (lx,i)=>own kW lx (live (S.take i))::iL b S::aa g2 (vc v) 71::aa g1 (vc k) 71::F) (fun (lx,i)=>S.length-i) (nS,0) (Nat.zero_le _) sA (rr [0,0,0,0] []) ?_;rintro⟨lx,i⟩ abW;replace abW:i≤S.length:=abW;show SK _ _ _ _ _ [(0,pB b 0),(4,pB g1 0),(5,pB g2 0),(9,lx),(10,iw (i:Int))] _ (own kW lx (live (S.take i))::iL b S::aa g2 (vc v) 71::aa g1 (vc k) 71::F);have Sj:(live (S.take i)).length≤i:=Nat.le_trans (fi _) (by rw[List.length_take];omega);refine go ?_;refine cr (fun H h=>ig (h.re [1] [])) (fun aeX hw=>?_);refine sL (aJ 0 aeX)<|sL (bL aR Tryz.underlying255 (.own 1))<|sL aT<|bH<|b9 (fun Ni=>?_) (fun LN=>?_)
   .refine go ?_;refine sL (aF aR Tryz.underlying255 (.own 1) (i:Int) i om ol om) ?_;refine go ?_;obtain⟨xP,SV⟩:∃y,S[i]?=some y:=⟨_,List.getElem?_eq_getElem ol⟩;refine sL (cw 10 aR (.own 1) SV) ?_;refine go ?_;refine kd (fun NA=>?_) (fun NA=>?_)
    .have c45:=cO NA;refine go ?_;refine sL (aF aR Tryz.underlying255 (.own 1) (i:Int) i om ol om)<|sL (bC aR (.own 1) SV)<|ah (e:=264) [(0,.agg #[iw xP.key.kind,iw xP.key.p,iw xP.key.q,sw xP.key.str,iw xP.key.ref,iw xP.val.kind,iw xP.val.p,iw xP.val.q,sw xP.val.str,iw xP.val.ref,.bool xP.gone])] #[iw xP.key.kind,iw xP.key.p,iw xP.key.q,sw xP.key.str,iw xP.key.ref,iw xP.val.kind,iw xP.val.p,iw xP.val.q,sw xP.val.str,iw xP.val.ref,.bool xP.gone] (fun Ra=>?_) (hb:=by kernel_rfl)
     refine aq (L:=(live (S.take i))) 3 aR Tryz.underlying255 (.lit 0 aR [xP]) (by show _*104≤_;(try simp only[cD]);omega) ol (fun v47=>?_);refine go ?_;refine sL (bX (i:Int) 1 ol) ?_;refine go ?_;have vX:=fz SV;rw[if_neg (by rw[c45];decide)]at vX;rw[←vX];refine ab (fun _ h=>cz (S:=S) bD (h.re [1,1] [])) ?_;exact az (v47,i+1) (by show S.length-(i+1)<S.length-i;omega) (by show i+1≤S.length;omega) sA (rr [2,0,1,1] [4])
    have Nt:=cu NA;refine go ?_;refine sL (bX (i:Int) 1 ol) ?_;refine go ?_;have vX:=fz SV;rw[if_pos Nt]at vX;rw[←vX];refine ab (fun _ h=>cz (S:=S) bD (h.re [0,0] [])) ?_;exact az (lx,i+1) (by show S.length-(i+1)<S.length-i;omega) (by show i+1≤S.length;omega) sA (rr [1,0,0,0] [])
   refine cW ?_;have iA:live (S.take i)=live S:=by rw[List.take_of_length_le om]
   rw[iA];rw[iA]at Sj;have ky:=mT bD;refine go ?_;refine sF 2 (fun we=>?_);refine ar (u:=lx) (m:=1) 0 #[lx] ?_ (hm:=by (obtain⟨_,_,e⟩:=we;rw[e];rfl)) (h1:=by (obtain⟨_,_,e⟩:=we;rw[e];rfl)) (ha':=by (obtain⟨_,_,e⟩:=we;rw[e];rfl));refine go ?_;refine sL (ay (.agg #[iw k.kind,iw k.p,iw k.q,sw k.str,iw k.ref,iw v.kind,iw v.p,iw v.q,sw v.str,iw v.ref,.bool false]))<|ah (e:=264) [(0,.agg #[iw k.kind,iw k.p,iw k.q,sw k.str,iw k.ref,iw v.kind,iw v.p,iw v.q,sw v.str,iw v.ref,.bool false])] #[iw k.kind,iw k.p,iw k.q,sw k.str,iw k.ref,iw v.kind,iw v.p,iw v.q,sw v.str,iw v.ref,.bool false] (fun SW=>?_) (hb:=by kernel_rfl)
   refine aq (L:=(live S)) 3 aR Tryz.underlying255 (.lit 0 aR [(⟨k,v,false⟩:cY)]) (by show _*104≤_;(try simp only[cD]);omega) ol (fun Ff=>?_);refine oN (pB b 0)<|sF 3 (fun NC=>?_)
   refine ar (u:=Ff) (m:=1) 1 #[Ff] ?_ (hm:=by (obtain⟨_,_,e⟩:=NC;rw[e];rfl)) (h1:=by (obtain⟨_,_,e⟩:=NC;rw[e];rfl)) (ha':=by (obtain⟨_,_,e⟩:=NC;rw[e];rfl));refine go ?_;have hk:=aX c8 ff;have nF:=fi S;have hS:cZ S k v=((live S)++[(⟨k,v,false⟩:cY)]):=by rw[gY hk kj vA,SD];show (if _ then _ else _)++_=_;rw[if_pos (by have hx:=jr;omega)]
   refine ab (fun _ h=>cz (S:=((live S)++[(⟨k,v,false⟩:cY)])) (by rw[←hS];exact ee bD k v) (h.re [1,2] [])) ?_;refine ad [iw 0] (iL b ((live S)++[(⟨k,v,false⟩:cY)])::F) (SI.tmp 6 SI.nil) (rr [0] [1,1,1,1]) ⟨cI (fj hk kj).symm,?_⟩;rw[hS]
  refine go ?_;refine sL (ay (.agg #[iw k.kind,iw k.p,iw k.q,sw k.str,iw k.ref,iw v.kind,iw v.p,iw v.q,sw v.str,iw v.ref,.bool false]))<|ah (e:=264) [(0,.agg #[iw k.kind,iw k.p,iw k.q,sw k.str,iw k.ref,iw v.kind,iw v.p,iw v.q,sw v.str,iw v.ref,.bool false])] #[iw k.kind,iw k.p,iw k.q,sw k.str,iw k.ref,iw v.kind,iw v.p,iw v.q,sw v.str,iw v.ref,.bool false] (fun JY=>?_) (hb:=by kernel_rfl)
  refine aq (L:=S) 2 aR Tryz.underlying255 (.lit 0 aR [(⟨k,v,false⟩:cY)]) (by show _*104≤_;(try simp only[cD]);omega) ol (fun v56=>?_);refine oN (pB b 0)<|sF 2 (fun ND=>?_)
  refine ar (u:=v56) (m:=1) 1 #[v56] ?_ (hm:=by (obtain⟨_,_,e⟩:=ND;rw[e];rfl)) (h1:=by (obtain⟨_,_,e⟩:=ND;rw[e];rfl)) (ha':=by (obtain⟨_,_,e⟩:=ND;rw[e];rfl));refine go ?_;have hk:=aX c8 ff;have nF:=fi S;have hS:cZ S k v=(S++[(⟨k,v,false⟩:cY)]):=by rw[gY hk kj vA,SD];show (if _ then _ else _)++_=_;rw[if_neg (by have hx:=zk;omega)]
  refine ab (fun _ h=>cz (S:=(S++[(⟨k,v,false⟩:cY)])) (by rw[←hS];exact ee bD k v) (h.re [1,1] [])) ?_;refine ad [iw 0] (iL b (S++[(⟨k,v,false⟩:cY)])::F) (SI.tmp 6 SI.nil) (rr [0] [1,1,1]) ⟨cI (fj hk kj).symm,?_⟩;rw[hS]
 rw[FY]at e16;subst e16;have ahY:i21<S.length:=(List.getElem?_eq_some_iff.1 NB).1;refine gc ?_;refine b9 (fun Q9=>?_) (fun p63=>?_)
 .refine go ?_;refine sL (Lt.to aT (cB (decide_eq_true om:(decide ((0:Int)≤(i21:Int)))=true))) ?_;refine go ?_;refine cr (fun H h=>ig (h.re [0] [])) (fun ajb hw=>?_);refine go ?_;refine sL (ay (.agg #[iw k.kind,iw k.p,iw k.q,sw k.str,iw k.ref,iw 0,iw 0,iw 0,sw eb,iw 0,.bool true]))<|sL (aF aR Tryz.underlying255 (.own 1) (i21:Int) i21 om ol om)<|dX 1 0 (⟨k,bw,true⟩:cY) aR NB ?_
  refine go ?_;have hk:=aX c8 ff;have hS:cZ S k v=(S.set i21 (⟨k,bw,true⟩:cY)):=by rw[mY hk kj Q9,SU];cases hg:SS.gone with|true=>exact Nw bD NB abV hg|false=>rfl
  refine ab (fun _ h=>cz (S:=(S.set i21 (⟨k,bw,true⟩:cY))) (by rw[←hS];exact ee bD k v) (h.re [0,0] [])) ?_;refine ad [iw 0] (iL b (S.set i21 (⟨k,bw,true⟩:cY))::F) (SI.tmp 6 SI.nil) (rr [0] [1,1]) ⟨cI (fj hk kj).symm,?_⟩;rw[hS]
 refine go ?_;refine sL (Lt.to aT (cB (decide_eq_true om:(decide ((0:Int)≤(i21:Int)))=true))) ?_;refine go ?_;refine cr (fun H h=>ig (h.re [0] [])) (fun ajc hw=>?_);refine go ?_;refine sL (aF aR Tryz.underlying255 (.own 1) (i21:Int) i21 om ol om) ?_;refine go ?_;refine sL (cw 10 aR (.own 1) NB) ?_;refine go ?_;refine kd (fun Rb=>?_) (fun Rb=>?_)
 .have VP:=cO Rb;refine go ?_;refine sL (aF aR Tryz.underlying255 (.own 1) (i21:Int) i21 om ol om) ?_;refine go ?_;refine dX 1 5 (⟨SS.key,v,SS.gone⟩:cY) aR NB ?_;refine go ?_;have hk:=aX c8 ff;have hS:cZ S k v=(S.set i21 (⟨SS.key,v,SS.gone⟩:cY)):=by rw[gY hk kj p63,SU,if_neg (by rw[VP];decide),abV,VP]
  refine ab (fun _ h=>cz (S:=(S.set i21 (⟨SS.key,v,SS.gone⟩:cY))) (by rw[←hS];exact ee bD k v) (h.re [0,0] [])) ?_;refine ad [iw 0] (iL b (S.set i21 (⟨SS.key,v,SS.gone⟩:cY))::F) (SI.tmp 6 SI.nil) (rr [0] [1,1]) ⟨cI (fj hk kj).symm,?_⟩;rw[hS]
 have c68:=cu Rb;refine go ?_;refine aC (fun _ h=>cz (S:=S) bD (h.re [0,0] [])) ?_;refine sC [0] (H5 (S:=S) om) ?_;have ahZ:=fi S;refine go ?_;refine cr (fun H h=>ig (h.re [0] [])) (fun aeY hw=>?_);refine sL (aJ 0 aeY)<|sL (bL aR Tryz.underlying255 (.own 1))<|sP (iw (fo S:Int))<|sL (fX (S.length:Int) (fo S:Int) ol)<|sP (iw (fo S:Int))<|sL (bX (fo S:Int) 8 ol)<|sL aT<|bH<|b9 (fun XY=>?_) (fun p91=>?_)
 .refine go ?_;refine aK (fun _ h=>cz (S:=S) bD (h.re [0,0] [])) ?_;refine aK (fun _ h=>Holds.nilS (T:=kW) h) ?_;refine aK (Bs:=own kW nS (live (S.take 0))::iL b S::aa g2 (vc v) 71::aa g1 (vc k) 71::F) (fun _ h=>h) ?_;refine aD (ι:=Value×Nat) (fun (lx,i)=>i≤S.length) (fun (lx,i)=>[(0,pB b 0),(4,pB g1 0),(5,pB g2 0),(9,lx),(10,iw (i:Int))]) (fun (lx,i)=>own kW lx (live (S.take i))::iL b S::aa g2 (vc v) 71::aa g1 (vc k) 71::F) (fun (lx,i)=>S.length-i) (nS,0) (Nat.zero_le _) sA (rr [0,0,0,0] []) ?_;rintro⟨lx,i⟩ aeZ;try dsimp only at aeZ⊢
  have Sj:(live (S.take i)).length≤i:=Nat.le_trans (fi _) (by rw[List.length_take];omega);refine go ?_;refine cr (fun H h=>ig (h.re [1] [])) (fun ae0 hw=>?_);refine sL (aJ 0 ae0)<|sL (bL aR Tryz.underlying255 (.own 1))<|sL aT<|bH<|b9 (fun p78=>?_) (fun p86=>?_)
  .refine go ?_;refine sL (aF aR Tryz.underlying255 (.own 1) (i:Int) i om ol om) ?_;refine go ?_;obtain⟨xQ,SY⟩:∃y,S[i]?=some y:=⟨_,List.getElem?_eq_getElem ol⟩;refine sL (cw 10 aR (.own 1) SY) ?_;refine go ?_;refine kd (fun c81=>?_) (fun c81=>?_)
   .have c82:=cO c81;refine go ?_;refine sL (aF aR Tryz.underlying255 (.own 1) (i:Int) i om ol om)<|sL (bC aR (.own 1) SY)<|ah (e:=264) [(0,.agg #[iw xQ.key.kind,iw xQ.key.p,iw xQ.key.q,sw xQ.key.str,iw xQ.key.ref,iw xQ.val.kind,iw xQ.val.p,iw xQ.val.q,sw xQ.val.str,iw xQ.val.ref,.bool xQ.gone])] #[iw xQ.key.kind,iw xQ.key.p,iw xQ.key.q,sw xQ.key.str,iw xQ.key.ref,iw xQ.val.kind,iw xQ.val.p,iw xQ.val.q,sw xQ.val.str,iw xQ.val.ref,.bool xQ.gone] (fun g83=>?_) (hb:=by kernel_rfl)
    refine aq (L:=(live (S.take i))) 3 aR Tryz.underlying255 (.lit 0 aR [xQ]) (by show _*104≤_;(try simp only[cD]);omega) ol (fun v84=>?_);refine go ?_;refine sL (bX (i:Int) 1 ol) ?_;refine go ?_;have vX:=fz SY;rw[if_neg (by rw[c82];decide)]at vX;rw[←vX];refine ab (fun _ h=>cz (S:=S) bD (h.re [1,1] [])) ?_;exact az (v84,i+1) (by show S.length-(i+1)<S.length-i;omega) (by show i+1≤S.length;omega) sA (rr [2,0,1,1] [4])
   have c85:=cu c81;refine go ?_;refine sL (bX (i:Int) 1 ol) ?_;refine go ?_;have vX:=fz SY;rw[if_pos c85]at vX;rw[←vX];refine ab (fun _ h=>cz (S:=S) bD (h.re [0,0] [])) ?_;exact az (lx,i+1) (by show S.length-(i+1)<S.length-i;omega) (by show i+1≤S.length;omega) sA (rr [1,0,0,0] [])
  refine cW ?_;have iA:live (S.take i)=live S:=by rw[List.take_of_length_le om]
  rw[iA];rw[iA]at Sj;have ky:=mT bD;refine go ?_;refine sF 2 (fun F0=>?_);refine ar (u:=lx) (m:=1) 0 #[lx] ?_ (hm:=by (obtain⟨_,_,e⟩:=F0;rw[e];rfl)) (h1:=by (obtain⟨_,_,e⟩:=F0;rw[e];rfl)) (ha':=by (obtain⟨_,_,e⟩:=F0;rw[e];rfl));refine go ?_;refine sL (ay (.agg #[iw k.kind,iw k.p,iw k.q,sw k.str,iw k.ref,iw v.kind,iw v.p,iw v.q,sw v.str,iw v.ref,.bool false]))<|ah (e:=264) [(0,.agg #[iw k.kind,iw k.p,iw k.q,sw k.str,iw k.ref,iw v.kind,iw v.p,iw v.q,sw v.str,iw v.ref,.bool false])] #[iw k.kind,iw k.p,iw k.q,sw k.str,iw k.ref,iw v.kind,iw v.p,iw v.q,sw v.str,iw v.ref,.bool false] (fun g88=>?_) (hb:=by kernel_rfl)
  refine aq (L:=(live S)) 3 aR Tryz.underlying255 (.lit 0 aR [(⟨k,v,false⟩:cY)]) (by show _*104≤_;(try simp only[cD]);omega) ol (fun v89=>?_);refine oN (pB b 0)<|sF 3 (fun XZ=>?_)
  refine ar (u:=v89) (m:=1) 1 #[v89] ?_ (hm:=by (obtain⟨_,_,e⟩:=XZ;rw[e];rfl)) (h1:=by (obtain⟨_,_,e⟩:=XZ;rw[e];rfl)) (ha':=by (obtain⟨_,_,e⟩:=XZ;rw[e];rfl));refine go ?_;have hk:=aX c8 ff;have nF:=fi S;have hS:cZ S k v=((live S)++[(⟨k,v,false⟩:cY)]):=by rw[gY hk kj p63,SU,if_pos c68];show (if _ then _ else _)++_=_;rw[if_pos (by have hx:=XY;omega)]
  refine ab (fun _ h=>cz (S:=((live S)++[(⟨k,v,false⟩:cY)])) (by rw[←hS];exact ee bD k v) (h.re [1,2] [])) ?_;refine ad [iw 0] (iL b ((live S)++[(⟨k,v,false⟩:cY)])::F) (SI.tmp 6 SI.nil) (rr [0] [1,1,1,1]) ⟨cI (fj hk kj).symm,?_⟩;rw[hS]
 refine go ?_;refine sL (ay (.agg #[iw k.kind,iw k.p,iw k.q,sw k.str,iw k.ref,iw v.kind,iw v.p,iw v.q,sw v.str,iw v.ref,.bool false]))<|ah (e:=264) [(0,.agg #[iw k.kind,iw k.p,iw k.q,sw k.str,iw k.ref,iw v.kind,iw v.p,iw v.q,sw v.str,iw v.ref,.bool false])] #[iw k.kind,iw k.p,iw k.q,sw k.str,iw k.ref,iw v.kind,iw v.p,iw v.q,sw v.str,iw v.ref,.bool false] (fun g92=>?_) (hb:=by kernel_rfl)
 refine aq (L:=S) 2 aR Tryz.underlying255 (.lit 0 aR [(⟨k,v,false⟩:cY)]) (by show _*104≤_;(try simp only[cD]);omega) ol (fun v93=>?_);refine oN (pB b 0)<|sF 2 (fun X0=>?_)
 refine ar (u:=v93) (m:=1) 1 #[v93] ?_ (hm:=by (obtain⟨_,_,e⟩:=X0;rw[e];rfl)) (h1:=by (obtain⟨_,_,e⟩:=X0;rw[e];rfl)) (ha':=by (obtain⟨_,_,e⟩:=X0;rw[e];rfl));refine go ?_;have hk:=aX c8 ff;have nF:=fi S;have hS:cZ S k v=(S++[(⟨k,v,false⟩:cY)]):=by rw[gY hk kj p63,SU,if_pos c68];show (if _ then _ else _)++_=_;rw[if_neg (by have hx:=p91;omega)]
 refine ab (fun _ h=>cz (S:=(S++[(⟨k,v,false⟩:cY)])) (by rw[←hS];exact ee bD k v) (h.re [1,1] [])) ?_;refine ad [iw 0] (iL b (S++[(⟨k,v,false⟩:cY)])::F) (SI.tmp 6 SI.nil) (rr [0] [1,1,1]) ⟨cI (fj hk kj).symm,?_⟩;rw[hS]
end
end Go.Proofs.YtmhpcebiamkciaaGreat
