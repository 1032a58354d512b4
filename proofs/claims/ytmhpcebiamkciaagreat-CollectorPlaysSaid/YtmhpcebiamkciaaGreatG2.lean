/-
  The logic of walks over memory in parts: rules for control, for operations that only read, for operations that write, and for calls. No condition but those that each rule says.
-/
import Derived.Test.YtmhpcebiamkciaaGreatG1
import Derived.ArgAppend
import Derived.Laws.BytesString
import Derived.Laws.IdiomRangeMap
import Derived.ProofKit
import Derived.Deep.Slices
set_option linter.unusedSimpArgs false
set_option linter.unusedVariables false
set_option linter.unusedSectionVars false
section
namespace Go.S
open Go.Hp Go.J
open Go.Mem (Ty fS blk elemAt addr_add gJ pre suf bN dO eB db hZ cm spliceAt)
section
variable{P:Program}{w0:World}{ops:Array Oper}{Q:Exit→Act→World→Prop}{n:Nat}{E:Env}{Z:bK}{As:List aW}{o:Oper}{rest:List Oper}
def SL(P:Program)(w0:World)(ops:Array Oper)(Q:Exit→Act→World→Prop)(n:Nat)(l:List Oper)(E:Env)(Z:bK)(As:List aW):Prop:=∀H,Holds Z As H→JL P w0 ops Q n l E H
def SK(P:Program)(w0:World)(c:Code)(Q:Exit→Act→World→Prop)(n:Nat)(E:Env)(Z:bK)(As:List aW):Prop:=∀H,Holds Z As H→JC P w0 c Q n E H
def SX(w0:World)(x:Exit)(Q:Exit→Act→World→Prop)(n:Nat)(E:Env)(Z:bK)(As:List aW):Prop:=∀H,Holds Z As H→JX w0 x Q n E H
/-! ### Control -/
theorem aE{x y:Code}(h:SK P w0 x (Exit.then (y.wp P Q) Q) n E Z As):SK P w0 (.seq x y) Q n E Z As:=fun H hH=>aaC (h H hH)
theorem jB(h:SX w0 .normal Q n E Z As):SK P w0 .skip Q n E Z As:=fun H hH=>WM (h H hH)
theorem eM(h:SX w0 .ret Q n E Z As):SK P w0 .ret Q n E Z As:=fun H hH=>aaD (h H hH)
theorem cW{id:Nat}(h:SX w0 (.exit id) Q n E Z As):SK P w0 (.exit id) Q n E Z As:=fun H hH=>WN (h H hH)
theorem cE{id:Nat}{c:Code}(h:SK P w0 c (Exit.inBlock id Q) n E Z As):SK P w0 (.block id c) Q n E Z As:=fun H hH=>RJ (h H hH)
theorem iy{t:Operand}{x y:Code}(h:SK P w0 x Q n E Z As)(hv:ev E t=.bool true:=by rfl)(hk:kf E t=true:=by rfl):SK P w0 (.cond t x y) Q n E Z As:=fun H hH=>Mg hk hv (h H hH)
theorem eh{t:Operand}{x y:Code}(h:SK P w0 y Q n E Z As)(hv:ev E t=.bool false:=by rfl)(hk:kf E t=true:=by rfl):SK P w0 (.cond t x y) Q n E Z As:=fun H hH=>HF hk hv (h H hH)
theorem bg{t:Operand}{x y:Code}(c:Bool)(h1:c=true→SK P w0 x Q n E Z As)(h2:c=false→SK P w0 y Q n E Z As)(hv:ev E t=.bool c:=by rfl)(hk:kf E t=true:=by rfl):SK P w0 (.cond t x y) Q n E Z As:=
 fun H hH=>WO hk hv (fun e=>h1 e H hH) (fun e=>h2 e H hH)
theorem bd{id:Nat}{l:List Oper}(h:SL P w0 l.toArray Q n l E Z As):SK P w0 (.region id l.toArray false) Q n E Z As:=fun H hH=>aaE (h H hH)
theorem rK{id:Nat}{l:List Oper}(h:SL P w0 l.toArray (Ser.DynQ P l Q) n l E Z As)(hm:P.follows .mixedOrders=true:=by kernel_rfl)(hk:Ser.check P l=true:=by kernel_rfl):SK P w0 (.region id l.toArray true) Q n E Z As:=fun H hH=>WQ hm hk (h H hH)
theorem a8(h:SX w0 .normal Q n E Z As):SL P w0 ops Q n [] E Z As:=fun H hH=>aaF (h H hH)
theorem dB{l:List Oper}(hd:∀H,Holds Z As H→(l.all fun o=>!(Ser.clsOf P o == 0)||!(Ser.isDyn o)||Bt l E o)=true)(h:SX w0 .normal Q n E Z As):SX w0 .normal (Ser.DynQ P l Q) n E Z As:=fun H hH=>aaG (hd H hH) (h H hH)
theorem ax{y:Code}(h:SK P w0 y Q n E Z As):SX w0 .normal (Exit.then (y.wp P Q) Q) n E Z As:=h
theorem eU{id:Nat}(h:SX w0 .normal Q n E Z As):SX w0 .normal (Exit.inBlock id Q) n E Z As:=h
theorem cM{id:Nat}{K:Act→World→Prop}(h:SX w0 (.exit id) Q n E Z As):SX w0 (.exit id) (Exit.then K Q) n E Z As:=h
theorem gL{id:Nat}(h:SX w0 .normal Q n E Z As):SX w0 (.exit id) (Exit.inBlock id Q) n E Z As:=fun H hH=>WR (h H hH)
theorem MP{id oM:Nat}(h:SX w0 (.exit id) Q n E Z As)(l7:Nat.beq id oM=false:=by rfl):SX w0 (.exit id) (Exit.inBlock oM Q) n E Z As:=fun H hH=>RL l7 (h H hH)
theorem lD{K:Act→World→Prop}(h:SX w0 .ret Q n E Z As):SX w0 .ret (Exit.then K Q) n E Z As:=h
theorem pn{id:Nat}(h:SX w0 .ret Q n E Z As):SX w0 .ret (Exit.inBlock id Q) n E Z As:=h
/-! ### The state spelt otherwise -/
theorem aK{c:Code}{Bs:List aW}(hA:∀H,Holds Z As H→Holds Z Bs H)(h:SK P w0 c Q n E Z Bs):SK P w0 c Q n E Z As:=fun H hH=>h H (hA H hH)
theorem aC{l:List Oper}{Bs:List aW}(hA:∀H,Holds Z As H→Holds Z Bs H)(h:SL P w0 ops Q n l E Z Bs):SL P w0 ops Q n l E Z As:=fun H hH=>h H (hA H hH)
theorem ab{x:Exit}{Bs:List aW}(hA:∀H,Holds Z As H→Holds Z Bs H)(h:SX w0 x Q n E Z Bs):SX w0 x Q n E Z As:=fun H hH=>h H (hA H hH)
theorem po{c:Code}{ι:Type}{Bs:ι→List aW}{p:ι→Prop}(hA:∀H,Holds Z As H→∃x,p x∧Holds Z (Bs x) H)(h:∀x,p x→SK P w0 c Q n E Z (Bs x)):SK P w0 c Q n E Z As:=fun H hH=>by
 obtain⟨x,hx,hB⟩:=hA H hH;exact h x hx H hB
theorem cr{l:List Oper}{ι:Type}{Bs:ι→List aW}{p:ι→Prop}(hA:∀H,Holds Z As H→∃x,p x∧Holds Z (Bs x) H)(h:∀x,p x→SL P w0 ops Q n l E Z (Bs x)):SL P w0 ops Q n l E Z As:=fun H hH=>by
 obtain⟨x,hx,hB⟩:=hA H hH;exact h x hx H hB
theorem bk{c:Code}{p:Prop}(hA:∀H,Holds Z As H→p)(h:p→SK P w0 c Q n E Z As):SK P w0 c Q n E Z As:=fun H hH=>h (hA H hH) H hH
theorem bl{l:List Oper}{p:Prop}(hA:∀H,Holds Z As H→p)(h:p→SL P w0 ops Q n l E Z As):SL P w0 ops Q n l E Z As:=fun H hH=>h (hA H hH) H hH
theorem ib{x:Exit}{p:Prop}(hA:∀H,Holds Z As H→p)(h:p→SX w0 x Q n E Z As):SX w0 x Q n E Z As:=fun H hH=>h (hA H hH) H hH
def Cut(w0:World)(n:Nat){ι:Type}(p:ι→Prop)(Ei:ι→Env)(Ai:ι→List aW)(Z:bK):Act→World→Prop:=
 fun a w=>∃i H,p i∧Fits n a (Ei i)∧At w0 H w∧Holds Z (Ai i) H
theorem b6{x y:Code}{ι:Type}(p:ι→Prop)(Ei:ι→Env)(Ai:ι→List aW)(hx:SK P w0 x (Exit.then (Cut w0 n p Ei Ai Z) Q) n E Z As)(hy:∀i,p i→SK P w0 y Q n (Ei i) Z (Ai i)):SK P w0 (.seq x y) Q n E Z As:=fun H hH a w hf ha=>by
 refine wp_seq (Code.wp_mono (fun e a w q=>?_) (hx H hH a w hf ha));cases e<;>first|exact q|skip
 obtain⟨i,H',hp,h1,h2,h3⟩:=q;exact hy i hp H' h3 a w h1 h2
theorem bh{ι:Type}{p:ι→Prop}{Ei:ι→Env}{Ai:ι→List aW}(i:ι)(hp:p i)(hE:mq E (Ei i))(hA:∀H,Holds Z As H→Holds Z (Ai i) H):SX w0 .normal (Exit.then (Cut w0 n p Ei Ai Z) Q) n E Z As:=
 fun H hH a w hf ha=>⟨i,H,hp,hf.of_sub hE,ha,hA H hH⟩
def rearr(As:List aW):List Nat→List aW
 | []=>As
 | i::is=>match gt As i with|some A=>A::rearr (del As i) is|none=>As
def dels(As:List aW):List Nat→List aW
 | []=>As
 | i::is=>dels (del As i) is
theorem eC.rearr{H:bb}:∀{is:List Nat}{As:List aW}{S:Nat→Prop},eC As H S→eC (Go.S.rearr As is) H S:=by
 intro is;induction is with
 | nil=>intro As S h;exact h
 | cons i is ih=>
  intro As S h;show eC (match gt As i with|some A=>A::Go.S.rearr (del As i) is|none=>As) H S;cases e:gt As i with
  | none=>exact h
  | some A=>exact (h.pull e).cons fun _ hr=>ih hr
theorem Holds.rearr{H:bb}(h:Holds Z As H)(is:List Nat):Holds Z (Go.S.rearr As is) H:=h.imp fun _ hS=>hS.rearr
theorem Df:∀{As:List aW}{i:Nat},gt As i=none→del As i=As
 | [],i,_=>by cases i<;>rfl
 | _::_,0,h=>by cases h
 | A::r,i+1,h=>congrArg (A::·) (Df (As:=r) (i:=i) h)
theorem Holds.dels {H : bb} : ∀ {is : List Nat} {As : List aW}, Holds Z As H → Holds Z (Go.S.dels As is) H
  | [], _, h => h
  | i :: is, As, h => Holds.dels (is := is) (As := del As i) (by
    cases e : gt As i with
    | none => rw [Df e]; exact h
    | some A => exact h.drop e)
theorem Holds.re{H:bb}{Bs:List aW}(is ds:List Nat)(h:Holds Z As H)(e:Go.S.dels (Go.S.rearr As is) ds=Bs:=by rfl):Holds Z Bs H:=e▸(h.rearr is).dels
/-! ### Loops -/
theorem aD{c:Code}{ι:Type}(I:ι→Prop)(Ei:ι→Env)(Ai:ι→List aW)(μ:ι→Nat)(i0:ι)(h0:I i0)(hE:mq E (Ei i0))(hA:∀H,Holds Z As H→Holds Z (Ai i0) H)
  (round:∀i,I i→SK P w0 c (Exit.then (vn w0 n Ei (fun i H=>I i∧Holds Z (Ai i) H) μ i) Q) n (Ei i) Z (Ai i)):SK P w0 (.loop c) Q n E Z As:=
 fun H hH=>WT Ei (fun i H=>I i∧Holds Z (Ai i) H) μ i0 hE ⟨h0,hA H hH⟩ fun i H' ⟨hi,hh⟩=>round i hi H' hh
theorem az{ι:Type}{I:ι→Prop}{Ei:ι→Env}{Ai:ι→List aW}{μ:ι→Nat}{i:ι}(i':ι)(hμ:μ i'<μ i)(hI:I i')(hE:mq E (Ei i'))(hA:∀H,Holds Z As H→Holds Z (Ai i') H):SX w0 .normal (Exit.then (vn w0 n Ei (fun i H=>I i∧Holds Z (Ai i) H) μ i) Q) n E Z As:=
 fun H hH=>RO i' hμ hE ⟨hI,hA H hH⟩
/-! ### Calls, entry, results -/
def SF(P:Program)(f:FuncId)(args:Array Value)(Z:bK)(As:List aW)(R:Value→List aW→Prop):Prop:=
 ∀H,Holds Z As H→HC P f args H fun v H'=>∃Bs,R v Bs∧Holds Z Bs H'
def zx(P:Program)(fn:Func)(w0:World)(Z:bK)(R:Value→List aW→Prop):Exit→Act→World→Prop:=Fin P fn w0 fun v H'=>∃Bs,R v Bs∧Holds Z Bs H'
theorem bx{f:FuncId}{fn:Func}{c:Code}{args:Array Value}{R:Value→List aW→Prop}(hf:P.funcs[f]?=some fn)(m:Nat)(E:Env)(h:∀w0,SK P w0 c (zx P fn w0 Z R) m E Z As)
  (hb:fn.body=some c:=by rfl) (hm:fn.ntmps=m:=by rfl) (hle:Nat.ble args.size m=true:=by rfl) (hE:(args.toList.zipIdx.map fun p=>(p.2,p.1))=E:=by rfl):SF P f args Z As R:=
 fun H hH=>enter hf hb m hm hle E hE fun w0=>h w0 H hH
theorem SF.mono{f:FuncId}{args:Array Value}{R R':Value→List aW→Prop}(h:SF P f args Z As R)(hR:∀v Bs,R v Bs→R' v Bs):SF P f args Z As R':=
 fun H hH=>(h H hH).mono fun v H' ⟨Bs,hr,hB⟩=>⟨Bs,hR _ _ hr,hB⟩
theorem SF.hc{f:FuncId}{args:Array Value}{H:bb}{R:Value→List aW→Prop}(h:SF P f args (gK H) [] R):HC P f args H fun v H'=>(∃Bs,R v Bs)∧Chg (fun _=>False) H H':=
 (h H (Holds.start H)).mono fun v H' ⟨Bs,hr,hB⟩=>⟨⟨Bs,hr⟩,hB.chg⟩
theorem aH{f:FuncId}{xs:Array Operand}{ts:Array TypeId}{vals:List Value}{R:Value→List aW→Prop}{d:Nat}{Ah:List aW}(is:List Nat)(hc:SF P f vals.toArray Z Ah R)
  (h:∀v Bs,R v Bs→SL P w0 ops Q n rest ((d,v)::E) Z Bs) (hp:rearr As is=Ah:=by rfl)
  (ho:o.op=.call { callee:=.value (.func f),args:=xs,argTypes:=ts }:=by rfl) (hx:(xs.toList.map (ev E))=vals:=by rfl) (hd:o.dst=some d:=by rfl) (hfn:rI P f=true:=by kernel_rfl) (hk:cU ops n E o=true:=by kernel_rfl):SL P w0 ops Q n (o::rest) E Z As:=
 fun H hH=>FF ho vals hk hx hfn (hc H (hp▸hH.rearr is)) fun v H' ⟨Bs,hr,hB⟩=>by rw[hd];exact h v Bs hr H' hB
theorem a6{f:FuncId}{xs:Array Operand}{ts:Array TypeId}{vals:List Value}{R:Value→List aW→Prop}{d:Nat}(hc:∀H,Holds Z As H→SF P f vals.toArray (gK H) [] R)
  (h:∀v Bs,R v Bs→SL P w0 ops Q n rest ((d,v)::E) Z (Bs++As))
  (ho:o.op=.call { callee:=.value (.func f),args:=xs,argTypes:=ts }:=by rfl) (hx:(xs.toList.map (ev E))=vals:=by rfl) (hd:o.dst=some d:=by rfl) (hfn:rI P f=true:=by kernel_rfl) (hk:cU ops n E o=true:=by kernel_rfl):SL P w0 ops Q n (o::rest) E Z As:=
 fun H hH=>FF ho vals hk hx hfn (hc H hH H (Holds.start H)) fun v H' ⟨Bs,hr,hB⟩=>by rw[hd];exact h v Bs hr H' (hH.join hB)
theorem iV{f:FuncId}{xs:Array Operand}{ts:Array TypeId}{vals:List Value}{R:Value→Prop}{d:Nat}(hc:∀H,Holds Z As H→SF P f vals.toArray (gK H) [] fun v Bs=>R v∧Bs=[])
  (h:∀v,R v→SL P w0 ops Q n rest ((d,v)::E) Z As)
  (ho:o.op=.call { callee:=.value (.func f),args:=xs,argTypes:=ts }:=by rfl) (hx:(xs.toList.map (ev E))=vals:=by rfl) (hd:o.dst=some d:=by rfl) (hfn:rI P f=true:=by kernel_rfl) (hk:cU ops n E o=true:=by kernel_rfl):SL P w0 ops Q n (o::rest) E Z As:=
 a6 hc (by rintro v _ ⟨hr,rfl⟩;exact h v hr) ho hx hd hfn hk
theorem kk{a b:Bool}(h:(a&&b)=true):a=true∧b=true:=by grind
theorem l5{a b:Bool}(h:(a||b)=false):a=false∧b=false:=by grind
theorem cO{a:Bool}(h:(!a)=true):a=false:=by grind
theorem cu{a:Bool}(h:(!a)=false):a=true:=by grind
def SI(P:Program)(E:Env)(Z:bK)(As:List aW)(rs:List ResultVar)(vs:List Value):Prop:=∀H,Holds Z As H→Ab P E H rs vs
theorem SI.nil:SI P E Z As [] []:=fun _ _=>.nil
theorem SI.tmp(t:Tmp){v:Value}{rs:List ResultVar}{vs:List Value}(h:SI P E Z As rs vs)(hv:J.look E t=v:=by rfl)(hk:J.has E t=true:=by rfl):SI P E Z As (.tmp t::rs) (v::vs):=fun H hH=>.cons (.tmp t v hk hv) (h H hH)
theorem SI.cell(t:Tmp)(ty:TypeId){v:Value}{rs:List ResultVar}{vs:List Value}{g k:Nat}{arr:Array Value}{e:TypeId}(i:Nat)(h:SI P E Z As rs vs)(hv:J.look E t=.pointer (some ⟨g,k,none⟩):=by rfl)(hA:gt As i=some (aa g arr e):=by rfl)(hu:arr[k]?=some v:=by rfl)(ht:ka P ty=true:=by kernel_rfl)(hk:J.has E t=true:=by rfl):SI P E Z As (.cell t ty::rs) (v::vs):=
 fun H hH=>.cons (.cell t ty v _ hk hv fun w hw=>uo ht (by show Hv w.heap _=_;rw[hw];exact (z6 (hH.blk hA)).trans hu)) (h H hH)
theorem SI.agg(t:Tmp)(ty:TypeId){cs:Array Value}{rs:List ResultVar}{vs:List Value}{g k m:Nat}{arr:Array Value}{e:TypeId}(i:Nat)(h:SI P E Z As rs vs)(hv:J.look E t=.pointer (some ⟨g,k,none⟩):=by rfl)(hA:gt As i=some (aa g arr e):=by rfl)(hl:cs.size=m:=by rfl)(hc:arr.toList.extract k (k+m)=cs.toList:=by rfl)(ht:lC P ty m=true:=by kernel_rfl)(hk:J.has E t=true:=by rfl):SI P E Z As (.cell t ty::rs) (.agg cs::vs):=
 fun H hH=>.cons (.cell t ty _ _ hk hv fun w hw=>Ji ht hw (hH.blk hA) cs hl hc) (h H hH)
theorem ad{fn:Func}{R:Value→List aW→Prop}{rs:List ResultVar}(vs:List Value)(Bs:List aW)(hi:SI P E Z As rs vs)(hA:∀H,Holds Z As H→Holds Z Bs H)(h:R (pack vs) Bs)(hr:fn.results.toList=rs:=by rfl):SX w0 .ret (zx P fn w0 Z R) n E Z As:=
 fun H hH=>aaH _ (Mh hr (hi H hH)) ⟨Bs,h,hA H hH⟩
theorem eN{fn:Func}{R:Value→List aW→Prop}{rs:List ResultVar}(vs:List Value)(Bs:List aW)(hi:SI P E Z As rs vs)(hA:∀H,Holds Z As H→Holds Z Bs H)(h:R (pack vs) Bs)(hr:fn.results.toList=rs:=by rfl):SX w0 .normal (zx P fn w0 Z R) n E Z As:=
 fun H hH=>WS _ (Mh hr (hi H hH)) ⟨Bs,h,hA H hH⟩
end
end Go.S
end
section
namespace Go.S
open Go.Hp Go.J
open Go.Mem (Ty fS blk elemAt addr_add gJ pre suf bN dO eB db hZ cm spliceAt)
section
variable{P:Program}{w0:World}{ops:Array Oper}{Q:Exit→Act→World→Prop}{n:Nat}{E:Env}{Z:bK}{As:List aW}{o:Oper}{rest:List Oper}
def Acc{α:Type}(Z:bK)(As:List aW)(T:Ty α)(v:Value)(L:List α):Prop:=∀H,Holds Z As H→Sl H T v L
section
variable{α:Type}{T:Ty α}{v:Value}{L M:List α}
theorem Acc.own(i:Nat)(hi:gt As i=some (own T v L):=by rfl):Acc Z As T v L:=fun H h=>(h.ow hi).sl
theorem Acc.zn(k:Kn Z T v L):Acc Z As T v L:=fun H h=>k.get h
theorem Acc.nil:Acc Z As T (.slice none 0 0) []:=fun H h=>Sl.nil _ _
theorem Acc.pre(a:Acc Z As T v L)(hT:T.Ok P)(m:Nat)(hm:m≤L.length):Acc Z As T (pre v m) (L.take m):=fun H h=>(a H h).pre hT m hm
theorem Acc.suf(a:Acc Z As T v L)(hT:T.Ok P)(m:Nat)(hm:m≤L.length):Acc Z As T (suf T.size v m) (L.drop m):=fun H h=>(a H h).suf hT m hm
theorem Acc.lit(i:Nat){g m:Nat}{arr:Array Value}{e:TypeId}(hT:T.Ok P)(L:List α)(hi:gt As i=some (aa g arr e):=by rfl)(he:e=T.id:=by rfl)(ha:arr.toList=T.flat L:=by rfl)(hm:m=L.length:=by rfl)(hl:L.length≤9223372036854775807:=by simp):Acc Z As T (.slice (some ⟨g,0,none⟩) m m) L:=
 fun H h=>(Ow.lit hT L (by have:=h.blk hi;rw[he]at this;exact this) ha hm hl).sl
theorem Acc.kn{H:bb}(a:Acc Z As T v L)(h:Holds Z As H):Kn (gK H) T v L:=.of (a H h)
theorem Acc.len(a:Acc Z As T v L):∀H,Holds Z As H→L.length≤9223372036854775807:=fun H h=>(a H h).len_le
theorem Holds.slice(i:Nat){g m:Nat}{arr:Array Value}{e:TypeId}{H:bb}(h:Holds Z As H)(hT:T.Ok P)(L:List α)(hi:gt As i=some (aa g arr e):=by rfl)(he:e=T.id:=by rfl)(ha:arr.toList=T.flat L:=by rfl)(hm:m=L.length:=by rfl)(hl:L.length≤9223372036854775807:=by simp):Holds Z (upd As i (S.own T (.slice (some ⟨g,0,none⟩) m m) L)) H:=by
 refine h.step hi fun S ⟨h1,h2⟩=>⟨S,⟨Ow.lit hT L (by grind) ha hm hl,fun k=>?_⟩,Chg.refl _ _,fun k hk=>.inl hk⟩
 rw[h2 k];show k=g↔some g=some k;simp[eq_comm]
theorem Holds.pre{i:Nat}{H:bb}(h:Holds Z As H)(hT:T.Ok P)(m:Nat)(hi:gt As i=some (S.own T v L))(hm:m≤L.length):Holds Z (upd As i (S.own T (Go.Mem.pre v m) (L.take m))) H:=by
 refine h.step hi fun S ⟨h1,h2⟩=>⟨S,⟨h1.pre hT m hm,fun k=>?_⟩,Chg.refl _ _,fun k hk=>.inl hk⟩
 grind[Go.Mem.blk_pre]
end
def Lt(P:Program)(E:Env)(o:Oper)(Z:bK)(As:List aW)(v:Value):Prop:=∀H,Holds Z As H→jl P E o H v
theorem aa0{v:Value}{d:Nat}(t:Lt P E o Z As v)(h:SL P w0 ops Q n rest ((d,v)::E) Z As)(hd:o.dst=some d:=by rfl)(hk:cU ops n E o=true:=by kernel_rfl):SL P w0 ops Q n (o::rest) E Z As:=
 fun H hH=>WV v hk (fun w hw=>(t H hH).run w hw) (by rw[hd];exact h H hH)
theorem Xn{d:Nat}(h:SL P w0 ops Q n rest ((d,undef)::E) Z As)(hd:o.dst=some d:=by rfl)(hu:nG ops E o=true:=by kernel_rfl)(hk:pa n o.dst=true:=by rfl):SL P w0 ops Q n (o::rest) E Z As:=
 fun H hH=>WU hu hk (by rw[hd];exact h H hH)
theorem dW{l:List Oper}(t:Nat)(c:Bool)(h1:c=true→SL P w0 ops Q n l ((t,.bool true)::E) Z As)(h2:c=false→SL P w0 ops Q n l ((t,.bool false)::E) Z As)(hv:J.look E t=.bool c:=by rfl)(hh:J.has E t=true:=by rfl):SL P w0 ops Q n l E Z As:=
 fun H hH=>WW t c hh hv (fun e=>h1 e H hH) (fun e=>h2 e H hH)
theorem ai(v:Value)(hr:∀w,(execOp (ev E) o).run P w=.ok (.value v) w:=by exact fun _=>rfl):Lt P E o Z As v:=fun _ _=>pd v hr
theorem ay(v:Value)(hr:∀w,(execOp (ev E) o).run P w=.ok (.value v) w:=by intro _;kernel_rfl):Lt P E o Z As v:=fun _ _=>pd v hr
theorem bX{t u:TypeId}{x y:Operand}(a b:Int)(hb : -9223372036854775808≤a+b∧a+b≤9223372036854775807)(ho:o.op=.binOp .add t x y u:=by rfl)(hx:ev E x=.int .i64 a:=by rfl)(hy:ev E y=.int .i64 b:=by rfl):Lt P E o Z As (.int .i64 (a+b)):=fun _ _=>aaM ho a b hx hy hb
theorem fX{t u:TypeId}{x y:Operand}(a b:Int)(hb : -9223372036854775808≤a-b∧a-b≤9223372036854775807)(ho:o.op=.binOp .sub t x y u:=by rfl)(hx:ev E x=.int .i64 a:=by rfl)(hy:ev E y=.int .i64 b:=by rfl):Lt P E o Z As (.int .i64 (a-b)):=fun _ _=>aaN ho a b hx hy hb
theorem HL{t u:TypeId}{x y:Operand}(a b:Int)(hb : -9223372036854775808≤a*b∧a*b≤9223372036854775807)(ho:o.op=.binOp .mul t x y u:=by rfl)(hx:ev E x=.int .i64 a:=by rfl)(hy:ev E y=.int .i64 b:=by rfl):Lt P E o Z As (.int .i64 (a*b)):=fun _ _=>aaO ho a b hx hy hb
theorem aT{op:BinOp}{t u:TypeId}{x y:Operand}{k:IntKind}{a b:Int}{c:Bool}(ho:o.op=.binOp op t x y u:=by rfl)(hx:ev E x=.int k a:=by rfl)(hy:ev E y=.int k b:=by rfl)(hc:Mj op a b=some c:=by rfl):Lt P E o Z As (.bool c):=fun _ _=>aaP ho k a b c hx hy hc
theorem fY{op:BinOp}{t u:TypeId}{x y:Operand}{xs ys:Array Value}{c:Bool}(hr:∀w,(binOp op t (.agg xs) (.agg ys)).run P w=.ok (.bool c) w)(ho:o.op=.binOp op t x y u:=by rfl)(hx:ev E x=.agg xs:=by rfl)(hy:ev E y=.agg ys:=by rfl)(hg:P.eqGuardType P.depth t=false:=by kernel_rfl):Lt P E o Z As (.bool c):=fun _ _=>aaQ ho xs ys c hx hy hg hr
theorem aJ{t:TypeId}{x:Operand}{g k:Nat}{arr:Array Value}{e:TypeId}(i:Nat)(u:Value)(ho:o.op=.load t x:=by rfl)(hx:ev E x=.pointer (some ⟨g,k,none⟩):=by rfl)(hA:gt As i=some (aa g arr e):=by rfl)(hu:arr[k]?=some u:=by rfl)(ht:ka P t=true:=by kernel_rfl):Lt P E o Z As u:=fun H hH=>RU ho g k arr e (0,0) u hx ht (hH.blk hA) hu
theorem dE{t:TypeId}{x:Operand}{g k m:Nat}{arr:Array Value}{e:TypeId}(i:Nat)(cs:Array Value)(ho:o.op=.load t x:=by rfl)(hx:ev E x=.pointer (some ⟨g,k,none⟩):=by rfl)(hA:gt As i=some (aa g arr e):=by rfl)(hl:cs.size=m:=by rfl)(hc:arr.toList.extract k (k+m)=cs.toList:=by rfl)(ht:lC P t m=true:=by kernel_rfl):Lt P E o Z As (.agg cs):=fun H hH=>RV ho g k m arr e (0,0) cs hx ht (hH.blk hA) hl hc
section
variable{α:Type}{T:Ty α}{v:Value}{L M:List α}
theorem bC{t:TypeId}{x:Operand}{k:Nat}{y:α}{u:Value}(hT:T.Ok P)(a:Acc Z As T v L)(hy:L[k]?=some y)(hu:T.val y=u:=by rfl)(ho:o.op=.load t x:=by rfl)(hid:T.id=t:=by rfl)(hx:ev E x=.pointer (some (elemAt T.size v k)):=by rfl):Lt P E o Z As u:=fun H hH=>RW ho hT hid v k y u L hx (a H hH) hy hu
theorem cw{t:TypeId}{x:Operand}{k:Nat}{y:α}{u:Value}(j:Nat)(hT:T.Ok P)(a:Acc Z As T v L)(hy:L[k]?=some y)(hu:(T.enc y)[j]?=some u:=by rfl)(ho:o.op=.load t x:=by rfl)(hx:ev E x=.pointer (some ((elemAt T.size v k).add j)):=by rfl)(ht:ka P t=true:=by kernel_rfl):Lt P E o Z As u:=fun H hH=>RX ho hT v k j y u L hx ht (a H hH) hy hu
theorem bL{x:Operand}{t:TypeId}(hT:T.Ok P)(ht:P.underlying t=some (.slice T.id))(a:Acc Z As T v L)(ho:o.op=.call { callee:=.builtin .len,args:=#[x],argTypes:=#[t] }:=by rfl)(hx:ev E x=v:=by rfl):Lt P E o Z As (.int .i64 L.length):=fun H hH=>aaR ho hT ht hx (a H hH)
theorem aF{x i:Operand}{t:TypeId}{q:IntKind}(hT:T.Ok P)(ht:P.underlying t=some (.slice T.id))(a:Acc Z As T v L)(k:Int)(m:Nat)(h0:0≤k)(hl:k<L.length)(hm:m=k.toNat)(ho:o.op=.indexAddr t x i:=by rfl)(hx:ev E x=v:=by rfl)(hi:ev E i=.int q k:=by rfl):Lt P E o Z As (.pointer (some (elemAt T.size v m))):=fun H hH=>RY ho hT ht q k hx hi (a H hH) h0 hl m hm
theorem sS{x i:Operand}{t:TypeId}{q:IntKind}(hT:T.Ok P)(ht:P.underlying t=some (.slice T.id))(a:Acc Z As T v L)(k:Int)(m:Nat)(h0:0≤k)(hl:k≤L.length)(hm:m=k.toNat)(ho:o.op=.slice t x none (some i) none:=by rfl)(hx:ev E x=v:=by rfl)(hi:ev E i=.int q k:=by rfl):Lt P E o Z As (pre v m):=fun H hH=>aaS ho hT ht q k hx hi (a H hH) h0 hl m hm
theorem MQ{x i:Operand}{t:TypeId}{q:IntKind}(hT:T.Ok P)(ht:P.underlying t=some (.slice T.id))(a:Acc Z As T v L)(k:Int)(m:Nat)(h0:0≤k)(hl:k≤L.length)(hm:m=k.toNat)(ho:o.op=.slice t x (some i) none none:=by rfl)(hx:ev E x=v:=by rfl)(hi:ev E i=.int q k:=by rfl):Lt P E o Z As (suf T.size v m):=fun H hH=>aaT ho hT ht q k hx hi (a H hH) h0 hl m hm
end
theorem Vv{x y:Operand}{ts:Array TypeId}{k:IntKind}{a b:Int}(ho:o.op=.call { callee:=.builtin .min,args:=#[x,y],argTypes:=ts }:=by rfl)(hx:ev E x=.int k a:=by rfl)(hy:ev E y=.int k b:=by rfl):Lt P E o Z As (.int k (if b<a then b else a)):=fun _ _=>aaU ho k a b hx hy
theorem Dc{x y:Operand}{ts:Array TypeId}{k:IntKind}{a b:Int}(ho:o.op=.call { callee:=.builtin .max,args:=#[x,y],argTypes:=ts }:=by rfl)(hx:ev E x=.int k a:=by rfl)(hy:ev E y=.int k b:=by rfl):Lt P E o Z As (.int k (if a<b then b else a)):=fun _ _=>aaV ho k a b hx hy
section
variable{κ β:Type}[DecidableEq κ]{K:fS κ}{V:β→Value}{b:Nat}{m:List (κ×β)}
theorem cn{x y:Operand}{t e:TypeId}(i:Nat)(hK:fS.Ok (β:=β) K P)(ht:P.underlying t=some (.map K.id e))(z:Value)(k:κ)(hA:gt As i=some (dr K V b m):=by rfl)(hz:∀w,(zeroValue e).run P w=.ok z w:=by intro _;kernel_rfl)(ho:o.op=.lookup t x y false:=by rfl)(hx:ev E x=.map (some b):=by rfl)(hy:ev E y=K.val k:=by rfl):Lt P E o Z As (((bN m k).map V).getD z):=fun H hH=>Mq ho hK ht z hz k hx hy (hH.mp hA)
theorem fF{x y:Operand}{t e:TypeId}(i:Nat)(hK:fS.Ok (β:=β) K P)(ht:P.underlying t=some (.map K.id e))(z:Value)(k:κ)(hA:gt As i=some (dr K V b m):=by rfl)(hz:∀w,(zeroValue e).run P w=.ok z w:=by intro _;kernel_rfl)(ho:o.op=.lookup t x y true:=by rfl)(hx:ev E x=.map (some b):=by rfl)(hy:ev E y=K.val k:=by rfl):Lt P E o Z As (.tuple #[((bN m k).map V).getD z,.bool (bN m k).isSome]):=fun H hH=>FH ho hK ht z hz k hx hy (hH.mp hA)
end
theorem Lt.to{v v':Value}(t:Lt P E o Z As v)(e:v=v'):Lt P E o Z As v':=e▸t
/-! ### New blocks -/
theorem Holds.newB{H H':bb}{g:Nat}{arr:Array Value}{e:TypeId}(h:Holds Z As H)(hn:Vm H H' g (.cells arr e (0,0))):Holds Z (aa g arr e::As) H':=
 h.new (hn.chg _) (S':=fun k=>k=g) ⟨hn.is,fun k=>Iff.rfl⟩ fun k hk=>by rw[hk,hn.at_];exact Nat.le_refl _
theorem bj{t:TypeId}{x:Operand}{d:Nat}{u:Value}(cs:Array Value)(h:∀g,SL P w0 ops Q n rest ((d,.pointer (some ⟨g,0,none⟩))::E) Z (aa g cs t::As))(ho:o.op=.box t x:=by rfl)(hx:ev E x=u:=by rfl)(hc:u.cells=cs:=by rfl)(hd:o.dst=some d:=by rfl)(hk:cU ops n E o=true:=by kernel_rfl):SL P w0 ops Q n (o::rest) E Z As:=
 fun H hH=>aaL ho u cs hk hx hc fun g H' hn=>by rw[hd];exact h g H' (hH.newB hn)
theorem ae{t:TypeId}{d:Nat}(z:Value)(cs:Array Value)(h:∀g,SL P w0 ops Q n rest ((d,.pointer (some ⟨g,0,none⟩))::E) Z (aa g cs t::As))(ho:o.op=.alloc t:=by rfl)(hc:z.cells=cs:=by rfl)(hz:∀w,(zeroValue t).run P w=.ok z w:=by intro _;kernel_rfl)(hd:o.dst=some d:=by rfl)(hk:cU ops n E o=true:=by kernel_rfl):SL P w0 ops Q n (o::rest) E Z As:=
 fun H hH=>RR ho z cs hk hz hc fun g H' hn=>by rw[hd];exact h g H' (hH.newB hn)
theorem ah{t e:TypeId}{len d:Nat}{ps:Array (Nat×Operand)}(pl:List (Nat×Value))(cs:Array Value)(h:∀g,SL P w0 ops Q n rest ((d,.slice (some ⟨g,0,none⟩) len len)::E) Z (aa g cs e::As))(ho:o.op=.buildSlice t len ps:=by rfl)(WY:(ps.toList.map fun p=>(p.1,ev E p.2))=pl:=by rfl)(hb:iq P t len pl=some (e,cs))(hd:o.dst=some d:=by rfl)(hk:cU ops n E o=true:=by kernel_rfl):SL P w0 ops Q n (o::rest) E Z As:=
 fun H hH=>Bv ho pl e cs hk WY hb fun g H' hn=>by rw[hd];exact h g H' (hH.newB hn)
theorem fZ{t:TypeId}{d:Nat}{κ β:Type}[DecidableEq κ](K:fS κ)(V:β→Value)(h:∀b,SL P w0 ops Q n rest ((d,.map (some b))::E) Z (dr K V b []::As))(ho:o.op=.makeMap t none:=by rfl)(hd:o.dst=some d:=by rfl)(hk:cU ops n E o=true:=by kernel_rfl):SL P w0 ops Q n (o::rest) E Z As:=
 fun H hH=>Jh ho hk fun g H' hn=>by
  rw[hd];exact h g H' (hH.new (hn.chg _) (S':=fun k=>k=g) ⟨Mp.made hn.is K V,fun k=>Iff.rfl⟩ fun k hk=>by rw[hk,hn.at_];exact Nat.le_refl _)
/-! ### Writing -/
theorem ar{t:TypeId}{x y:Operand}{g k m:Nat}{arr:Array Value}{e:TypeId}{u:Value}(i:Nat)(xn:Array Value)(h:SL P w0 ops Q n rest E Z (upd As i (aa g xn e)))(ho:o.op=.store t x y:=by rfl)(hx:ev E x=.pointer (some ⟨g,k,none⟩):=by rfl)(hy:ev E y=u:=by rfl)(hA:gt As i=some (aa g arr e):=by rfl)(hm:u.cells.size=m:=by rfl)(hs:l8 P t m=true:=by kernel_rfl)(mn:Nat.ble (k+m) arr.size=true:=by rfl)(h1:(u.cells.toList.all fun c=>c.oneCell')=true:=by rfl)(ha':(spliceAt arr.toList k u.cells.toList)=xn.toList:=by rfl)(hd:o.dst=none:=by rfl)(hk:cU ops n E o=true:=by kernel_rfl):SL P w0 ops Q n (o::rest) E Z As:=
 fun H hH=>RS ho g k m arr xn e u hk hx hy hs (hH.blk hA) hm mn h1 ha' fun H' hp=>by
  rw[hd];exact h H' (hH.step hA fun S ⟨_,h2⟩=>⟨S,⟨hp.is,h2⟩,hp.chg.mono (fun j _ hj=>(h2 j).2 hj),fun k hk=>.inl hk⟩)
section
variable{α:Type}{T:Ty α}{v:Value}{L M:List α}
theorem Dg{H H':bb}{i:Nat}{v':Value}{L':List α}(hH:Holds Z As H)(hA:gt As i=some (own T v L))(ow:Ow H' T v' L')(chg:Chg (fun k=>blk v=some k) H H')(mv:∀g,blk v'=some g→blk v=some g∨H.size≤g):Holds Z (upd As i (own T v' L')) H':=
 hH.step hA fun S ⟨_,h2⟩=>⟨fun k=>blk v'=some k,⟨ow,fun k=>Iff.rfl⟩,chg.mono (fun j _ hj=>(h2 j).2 hj),fun k hk=>(mv k hk).imp (h2 k).2 id⟩
theorem dX{t:TypeId}{x y:Operand}{k m:Nat}{z:α}{u:Value}(i j:Nat)(z':α)(hT:T.Ok P)(hz:L[k]?=some z)(h:SL P w0 ops Q n rest E Z (upd As i (own T v (L.set k z'))))(ho:o.op=.store t x y:=by rfl)(hA:gt As i=some (own T v L):=by rfl)(hx:ev E x=.pointer (some ((elemAt T.size v k).add j)):=by rfl)(hy:ev E y=u:=by rfl)(hm:u.cells.size=m:=by rfl)(hs:l8 P t m=true:=by kernel_rfl)(mn:Nat.ble (j+m) T.size=true:=by rfl)(h1:(u.cells.toList.all fun c=>c.oneCell')=true:=by rfl)(he:T.enc z'=spliceAt (T.enc z) j u.cells.toList:=by rfl)(hd:o.dst=none:=by rfl)(hk:cU ops n E o=true:=by kernel_rfl):SL P w0 ops Q n (o::rest) E Z As:=
 fun H hH=>Mm ho hT v k j m z z' u L hk hx hy hs (hH.ow hA) hz hm mn h1 he fun H' ow chg=>by
  rw[hd];exact h H' (Dg hH hA ow chg fun g hg=>.inl hg)
theorem aq{s x:Operand}{t:TypeId}{d:Nat}{v2:Value}(i:Nat)(hT:T.Ok P)(ht:P.underlying t=some (.slice T.id))(a:Acc Z As T v2 M)(hb:(L.length+M.length)*T.bytes≤140737488355328)(zg:L.length+M.length≤9223372036854775807)(h:∀v',SL P w0 ops Q n rest ((d,v')::E) Z (upd As i (own T v' (L++M))))(ho:o.op=.call { callee:=.builtin .append,args:=#[s,x],argTypes:=#[t,t] }:=by rfl)(hA:gt As i=some (own T v L):=by rfl)(hs:ev E s=v:=by rfl)(hx:ev E x=v2:=by rfl)(hd:o.dst=some d:=by rfl)(hk:cU ops n E o=true:=by kernel_rfl):SL P w0 ops Q n (o::rest) E Z As:=
 fun H hH=>Mn ho hT ht v2 hk hs hx (hH.ow hA) (a H hH) hb zg fun v' H' ap=>by
  rw[hd];exact h v' H' (Dg hH hA ap.ow ap.chg ap.moved)
theorem FJ{t:TypeId}{x y:Operand}{q q':IntKind}{d:Nat}(hT:T.Ok P)(ht:P.underlying t=some (.slice T.id))(k:Int)(h0:0≤k)(hb:T.bytes*k.toNat≤281474976710656)(zg:k≤9223372036854775807)(h:∀v',SL P w0 ops Q n rest ((d,v')::E) Z (own T v' (List.replicate k.toNat T.zero)::As))(ho:o.op=.makeSlice t x y:=by rfl)(hx:ev E x=.int q k:=by rfl)(hy:ev E y=.int q' k:=by rfl)(hd:o.dst=some d:=by rfl)(hk:cU ops n E o=true:=by kernel_rfl):SL P w0 ops Q n (o::rest) E Z As:=
 fun H hH=>W0 ho hT ht q q' k hk hx hy h0 hb zg fun g H' v' hg ow chg hbk _=>by
  rw[hd];exact h v' H' (hH.new (chg _) (S':=fun k=>blk v'=some k) ⟨ow,fun k=>Iff.rfl⟩ fun k hk=>by rw[hbk]at hk;cases hk;omega)
end
section
variable{κ β:Type}[DecidableEq κ]{K:fS κ}{V:β→Value}{b:Nat}{m:List (κ×β)}
theorem HM{H H':bb}{i:Nat}{m':List (κ×β)}(hH:Holds Z As H)(hA:gt As i=some (dr K V b m))(u:Upd H H' K V b m'):Holds Z (upd As i (dr K V b m')) H':=
 hH.step hA fun S ⟨_,h2⟩=>⟨S,⟨u.mp,h2⟩,u.chg.mono (fun j _ hj=>(h2 j).2 hj),fun k hk=>.inl hk⟩
theorem eE{x y z:Operand}{t e:TypeId}(i:Nat)(hK:fS.Ok (β:=β) K P)(ht:P.underlying t=some (.map K.id e))(k:κ)(u:β)(h:SL P w0 ops Q n rest E Z (upd As i (dr K V b (dO m k u))))(ho:o.op=.mapUpdate t x y z:=by rfl)(hA:gt As i=some (dr K V b m):=by rfl)(hx:ev E x=.map (some b):=by rfl)(hy:ev E y=K.val k:=by rfl)(hu:ev E z=V u:=by rfl)(hd:o.dst=none:=by rfl)(hk:cU ops n E o=true:=by kernel_rfl):SL P w0 ops Q n (o::rest) E Z As:=
 fun H hH=>Mo ho hK ht k u hk hx hy hu (hH.mp hA) fun H' up=>by rw[hd];exact h H' (HM hH hA up)
end
/-! ### Regions that draw, with loads beside calls -/
def HS(Z:bK)(Ks:List aW)(H:bb):Prop:=∃Fs,Holds Z (Ks++Fs) H
def SH(P:Program)(w0:World)(l:List Oper)(Q:Exit→Act→World→Prop)(n:Nat)(Z:bK)(Ks:List aW)(fuel:Nat)(aG:Array Bool)(E:Env)(As:List aW):Prop:=∀H,Holds Z As H→JH P w0 l Q n (HS Z Ks) fuel aG E H
section
variable{l:List Oper}{Ks:List aW}{fuel:Nat}{aG:Array Bool}
theorem br{id:Nat}(Ks:List aW)(h:SH P w0 l Q n Z Ks l.length (Array.replicate l.length false) E As)(hm:P.follows .mixedOrders=true:=by kernel_rfl):SK P w0 (.region id l.toArray true) Q n E Z As:=fun H hH=>W2 (HS Z Ks) hm (h H hH)
theorem ao{fn:Func}{R:Value→List aW→Prop}:NP (zx P fn w0 Z R):=W1
theorem bR{d:Nat}{v:Value}(i:Nat)(hi:l[i]?=some o)(hQ:NP Q)(is:List Nat){Fs:List aW}(t:∀Fs,Lt P E o Z (Ks++Fs) v)(h:SH P w0 l Q n Z Ks fuel (aG.setIfInBounds i true) ((d,v)::E) As)(hd:o.dst=some d:=by rfl)(hS:rearr As is=Ks++Fs:=by rfl)(hc:kb l aG i=true:=by kernel_rfl)(hk:cU l.toArray n E o=true:=by kernel_rfl):SH P w0 l Q n Z Ks (fuel+1) aG E As:=
 fun H hH=>RZ i hi hc hQ hk (fun Hh ⟨Fs,hF⟩=>t Fs Hh hF) ⟨Fs,hS▸hH.rearr is⟩ (by rw[hd];exact h H hH)
theorem bS{d:Nat}(i:Nat)(hQ:NP Q)(is:List Nat){Fs:List aW}(h:SH P w0 l Q n Z Ks fuel (aG.setIfInBounds i true) ((d,undef)::E) As)(hi:l[i]?=some o:=by rfl)(hd:o.dst=some d:=by rfl)(hS:rearr As is=Ks++Fs:=by rfl)(hc:kb l aG i=true:=by kernel_rfl)(hu:nG l.toArray E o=true:=by kernel_rfl)(hk:pa n o.dst=true:=by rfl):SH P w0 l Q n Z Ks (fuel+1) aG E As:=
 fun H hH=>W3 i hi hc hQ hu hk ⟨Fs,hS▸hH.rearr is⟩ (by rw[hd];exact h H hH)
theorem ag(i:Nat)(h:SL P w0 l.toArray (jm P l Q (HS Z Ks) fuel (aG.setIfInBounds i true)) n [o] E Z As)(hi:l[i]?=some o:=by rfl)(hr:Region.ready .any l.toArray aG=[i]:=by kernel_rfl):SH P w0 l Q n Z Ks (fuel+1) aG E As:=fun H hH=>W4 i hi hr (h H hH)
theorem Sb(is:List Nat){Fs:List aW}(h:SH P w0 l Q n Z Ks fuel aG E As)(hS:rearr As is=Ks++Fs:=by rfl):SX w0 .normal (jm P l Q (HS Z Ks) fuel aG) n E Z As:=fun H hH=>W5 ⟨Fs,hS▸hH.rearr is⟩ (h H hH)
theorem aI(h:SX w0 .normal Q n E Z As)(hr:Region.ready .any l.toArray aG=[]:=by kernel_rfl):SH P w0 l Q n Z Ks fuel aG E As:=fun H hH=>W6 hr (h H hH)
theorem qh(t:Nat)(c:Bool)(h1:c=true→SH P w0 l Q n Z Ks fuel aG ((t,.bool true)::E) As)(h2:c=false→SH P w0 l Q n Z Ks fuel aG ((t,.bool false)::E) As)(hv:J.look E t=.bool c:=by rfl)(hh:J.has E t=true:=by rfl):SH P w0 l Q n Z Ks fuel aG E As:=
 fun H hH=>W7 t c hh hv (fun e=>h1 e H hH) (fun e=>h2 e H hH)
end
end
end Go.S
end
section
namespace Go.S
open Go.Hp Go.J
open Go.Mem (Ty fS blk)
section
variable{P:Program}{Z:bK}{As Bs F:List aW}{H H':bb}{A A':aW}{f:FuncId}{args:Array Value}
theorem Holds.split(h:Holds Z (A::As) H):∃S,A.on H S∧∀(H':bb) (Cs:List aW) (S':Nat→Prop),eC Cs H' S'→Chg S H H'→(∀k,S' k→S k∨H.size≤k)→Holds Z (Cs++As) H':=by
 obtain⟨S,⟨S1,S2,h1,h2,CF,hS⟩,hd⟩:=h.sep;refine⟨S1,h1,fun H' Cs S1' Vg hc Mr=>?_⟩;refine⟨fun k hk=>?_,fun k=>S1' k∨S2 k,eC.append_iff.2 ⟨S1',S2,Vg,h2.keep fun k hk=>?_,fun k a b=>?_,fun k=>Iff.rfl⟩,?_⟩
 .have hz:=h.zone k hk;refine⟨(hc.block k hz.2 fun h1k=>?_).trans hz.1,Nat.lt_of_lt_of_le hz.2 hc.size⟩;exact hd k ((hS k).2 (.inl h1k)) hk
 .exact hc.block k (h2.lt k hk) fun h1k=>CF k h1k hk
 .rcases Mr k a with h|h
  .exact CF k h b
  have:=h2.lt k b;omega
 rintro k (a|a) hz
 .rcases Mr k a with h'|h'
  .exact hd k ((hS k).2 (.inl h')) hz
  have:=(h.zone k hz).2;omega
 exact hd k ((hS k).2 (.inr a)) hz
theorem MR{S:Nat→Prop}(h:A.on H S):eC [A] H S:=⟨S,fun _=>False,h,fun _ h=>h,fun _ _ h=>h,fun k=>by simp⟩
theorem aa1{val:Value}(h:∀H S,A.on H S→HC P f args H fun v H'=>v=val∧∃S',A'.on H' S'∧Chg S H H'∧∀k,S' k→S k∨H.size≤k):SF P f args Z (A::F) fun v Bs=>v=val∧Bs=A'::F:=fun H hH=>by
 obtain⟨S,hS,hk⟩:=hH.split;exact (h H S hS).mono fun v H' ⟨hv,S',hA,hc,hs⟩=>⟨_,⟨hv,rfl⟩,hk H' [A'] S' (MR hA) hc hs⟩
theorem MS{val:Value}(h:∀H,Holds Z [] H→HC P f args H fun v H'=>v=val∧Chg (fun _=>False) H H'):SF P f args Z [] fun v Bs=>v=val∧Bs=[]:=fun H hH=>
 (h H hH).mono fun v H' ⟨hv,hc⟩=>⟨_,⟨hv,rfl⟩,hH.ext hc⟩
theorem Holds.nilS{α:Type}{T:Ty α}(h:Holds Z As H):Holds Z (own T (.slice none 0 0) []::As) H:=
 h.new (Chg.refl _ _) (S':=fun _=>False) ⟨Ow.nil _ _,fun k=>⟨fun h=>h.elim,fun h=>by cases h⟩⟩ fun _ h=>h.elim
def KnA(Z:bK)(A:aW):Prop:=∃S,A.on Z.heap S∧∀k,S k→Z.dom k
theorem KnA.get(k:KnA Z A)(h:Holds Z As H):∃S,A.on H S:=by
 obtain⟨S,hS,hd⟩:=k;exact⟨S,A.keep hS fun k hk=>(h.zone k (hd k hk)).1⟩
theorem Holds.kn(h:Holds Z As H)(i:Nat)(hi:gt As i=some A:=by rfl):KnA (gK H) A:=by
 obtain⟨S,hS,_⟩:=h.part hi;exact⟨S,hS,fun k hk=>A.lt hS k hk⟩
theorem Holds.knS{α:Type}{T:Ty α}{v:Value}{L:List α}(h:Holds Z As H)(i:Nat)(hi:gt As i=some (own T v L):=by rfl):Kn (gK H) T v L:=.of (h.ow hi).sl
theorem Kn.up{α:Type}{T:Ty α}{v:Value}{L:List α}(k:Kn Z T v L)(h:Holds Z As H):Kn (gK H) T v L:=.of (k.get h)
end
end Go.S
end
section
namespace Go.S
open Go.Hp Go.J
section
variable{P:Program}{E:Env}{Z:bK}{As:List aW}{o:Oper}
theorem xz{t u:TypeId}{x y:Operand}{k:IntKind}(a b:Int)(hb:b≠0)(ho:o.op=.binOp .rem t x y u:=by rfl)(hx:ev E x=.int k a:=by rfl)(hy:ev E y=.int k b:=by rfl):Lt P E o Z As (.int k (a.tmod b)):=
 fun _ _=>pd _ (kZ ho _ _ hx hy nI fun w=>by simp[binOp,Op.intDiv,hb,Sem.run_pure])
theorem MT{t u:TypeId}{x y:Operand}(a b:Int)(hb:b≠0)(hr : -9223372036854775808≤a.tdiv b∧a.tdiv b≤9223372036854775807)(ho:o.op=.binOp .quo t x y u:=by rfl)(hx:ev E x=.int .i64 a:=by rfl)(hy:ev E y=.int .i64 b:=by rfl):Lt P E o Z As (.int .i64 (a.tdiv b)):=
 fun _ _=>pd _ (kZ ho _ _ hx hy nI fun w=>by simp[binOp,Op.intDiv,hb,wrap64 hr,Sem.run_pure])
theorem Vw{t:TypeId}{x:Operand}(a:Int)(hr : -9223372036854775808 ≤ -a ∧ -a≤9223372036854775807)(ho:o.op=.unOp .neg t x:=by rfl)(hx:ev E x=.int .i64 a:=by rfl):Lt P E o Z As (.int .i64 (-a)):=
 fun _ _=>pd _ fun w=>by
  unfold execOp;simp[ho,hx,Op.unary,Op.intArith,Int.zero_sub,wrap64 hr,Sem.run_pure,Sem.run_bind]
end
end Go.S
end
section
namespace Go.S
open Go.Hp Go.J
open Go.Mem (Ty fS blk elemAt pre suf)
section
variable{P:Program}{w0:World}{ops:Array Oper}{Q:Exit→Act→World→Prop}{n:Nat}{E:Env}{Z:bK}{As:List aW}{o:Oper}{rest:List Oper}{α:Type}{T:Ty α}{v u v2:Value}{L M:List α}{w:World}
def Sub(T:Ty α)(v u:Value)(k m:Nat):Prop:=
 (∃p c,u=.slice p m c)∧(0<m→∃g l cap c',v=.slice (some ⟨g,0,none⟩) l cap∧u=.slice (some ⟨g,k*T.size,none⟩) m c'∧m≤c')
theorem Sub.self{H:bb}(h:Ow H T v L):Sub T v v 0 L.length:=by
 rcases h with ⟨rfl,rfl⟩|⟨g,cap,arr,rfl,_,hc,_⟩
 .exact ⟨⟨_,_,rfl⟩,fun h=>absurd h (by simp)⟩
 exact⟨⟨_,_,rfl⟩,fun _=>⟨g,L.length,cap,cap,rfl,by simp,hc⟩⟩
theorem Sub.suf{k m j:Nat}(h:Sub T v u k m)(hj:j≤m):Sub T v (suf T.size u j) (k+j) (m-j):=by
 obtain⟨⟨p,c,rfl⟩,h⟩:=h;refine⟨⟨_,_,rfl⟩,fun hp=>?_⟩;obtain⟨g,l,cap,c',hv,hu,hc⟩:=h (by omega);injection hu with e1 e2 e3
 subst e1 e3;refine⟨g,l,cap,c-j,hv,?_,by omega⟩;simp only[Go.Mem.suf];rw[if_neg (by omega)];simp only[Option.map_some,Mem.addr_add,Nat.add_mul]
theorem Sub.pre{k m j:Nat}(h:Sub T v u k m)(hj:j≤m):Sub T v (pre u j) k j:=by
 obtain⟨⟨p,c,rfl⟩,h⟩:=h;refine⟨⟨_,_,rfl⟩,fun hp=>?_⟩;obtain⟨g,l,cap,c',hv,hu,hc⟩:=h (by omega);injection hu with e1 e2 e3
 subst e1 e3;exact⟨g,l,cap,c,hv,rfl,by omega⟩
def nilS:Value→Bool
 | .slice none _ _=>true
 | _=>false
theorem Aj{H:bb}(h:Sl H T v L)(hn:nilS v=true):v=.slice none 0 0∧L=[]:=by
 rcases h with ⟨⟨p,rfl⟩,rfl⟩|⟨g,off,cap,arr,e,fr,rfl,_⟩
 .cases p with
  | none=>exact⟨rfl,rfl⟩
  | some p=>simp[nilS]at hn
 simp[nilS]at hn
theorem FK{t e:TypeId}(ht:P.underlying t=some (.slice e))(p:Option Addr)(l c:Nat)(w:World):(Op.equal t (.slice p l c) (.slice none 0 0)).run P w=.ok p.isNone w:=by
 obtain⟨D,hD⟩:∃D,Op.maxDepth=D+1:=⟨Op.maxDepth-1,by decide⟩;show (Op.equalIn Op.maxDepth t (.slice p l c) (.slice none 0 0)).run P w=_;rw[hD];unfold Op.equalIn;cases p<;>simp only[Sem.run_bind,run_underlying ht,Result.andThen_ok,Sem.run_pure]<;>rfl
theorem MU{t u e:TypeId}{x y:Operand}(ht:P.underlying t=some (.slice e))(a:Acc Z As T v L)(ho:o.op=.binOp .eql t x y u:=by rfl)(hx:ev E x=v:=by rfl)(hy:ev E y=.slice none 0 0:=by rfl):Lt P E o Z As (.bool (nilS v)):=fun H hH=>by
 obtain⟨p,c,e⟩:=(a H hH).form;subst e;refine pd _ (kZ ho _ _ hx hy (fun w=>by simp[eqGuard,Sem.run_pure]) fun w=>?_);simp only[binOp,Sem.run_bind,FK ht,Result.andThen_ok,Sem.run_pure];cases p<;>rfl
theorem iW{t:TypeId}{x:Operand}{k m:Nat}{y:α}(j:Nat)(cs:Array Value)(hT:T.Ok P)(a:Acc Z As T v L)(hy:L[k]?=some y)(hl:cs.size=m:=by rfl)(hc:(T.enc y).extract j (j+m)=cs.toList:=by rfl)(ho:o.op=.load t x:=by rfl)(hx:ev E x=.pointer (some ((elemAt T.size v k).add j)):=by rfl)(ht:lC P t m=true:=by kernel_rfl):Lt P E o Z As (.agg cs):=fun H hH=>by
 have Jp:=a H hH;refine⟨fun w hw=>?_⟩;rcases Jp with ⟨_,rfl⟩|⟨g,off,cap,arr,e,fr,rfl,h1,h2,h3,h4,h5⟩
 .simp at hy
 have ad6:ev E x=.pointer (some ⟨g,off+k*T.size+j,none⟩):=by rw[hx];simp only[elemAt,Go.Mem.addr_add]
 unfold execOp;simp only[ho,ad6];refine Mem.run_v ?_;unfold Instr.loadAt Instr.sureAddr;rw[Sem.run_bind,Sem.run_pure,Result.andThen_ok];refine uq ht (by rw[hw];exact h1) cs hl (fun i u hi=>?_);have h6:cs.toList[i]?=some u:=by simpa using hi
 rw[←hc,List.extract_eq_take_drop,List.getElem?_take]at h6;split at h6
 .rw [List.getElem?_drop]at h6;have hjs:j+i<T.size:=by rw[←hT.len y];exact (List.getElem?_eq_some_iff.1 h6).1
  have h7:=hT.flat_get hy hjs;rw[h6,←h5,List.getElem?_take]at h7;split at h7
  .rw [List.getElem?_drop]at h7;rw[←Array.getElem?_toList,←h7];congr 1;omega
  cases h7
 cases h6
end
end Go.S
end
section
namespace Go.S
open Go.Hp Go.J Go.RowKit
open Go.Mem (Ty fS blk suf addr_add)
def vW{α:Type}(H:bb)(T:Ty α)(v:Value)(L:List α)(S:Nat→Prop):Prop:=
 ((∃p,v=.slice p 0 0)∧L=[]∧∀k,¬S k)∨
 ∃g off cap arr,v=.slice (some ⟨g,off,none⟩) L.length cap∧H[g]?=some (.cells arr T.id (0,0))∧L.length≤cap∧cap≤maxLen∧off+cap*T.size≤arr.size∧
  (arr.toList.drop off).take (L.length*T.size)=T.flat L∧∀k,S k↔k=g
section
variable{α:Type}{T:Ty α}{v:Value}{L M:List α}{H H':bb}{S:Nat→Prop}{P:Program}{Z:bK}{As:List aW}
theorem vW.sl(h:vW H T v L S):Sl H T v L:=by
 rcases h with ⟨h1,h2,_⟩|⟨g,off,cap,arr,rfl,h1,h2,h3,h4,h5,_⟩
 .exact .inl ⟨h1,h2⟩
 exact .inr ⟨g,off,cap,arr,_,_,rfl,h1,h2,h3,fun _=>h4,h5⟩
def ownO{α:Type}(T:Ty α)(v:Value)(L:List α):aW where
 on H S:=vW H T v L S
 lt h k hk:=by
  rcases h with ⟨_,_,h⟩|⟨g,off,cap,arr,_,h1,_,_,_,_,hS⟩
  .exact absurd hk (h k)
  rw[(hS k).1 hk];exact fh h1
 keep h hk:=by
  rcases h with h|⟨g,off,cap,arr,h0,h1,h2,h3,h4,h5,hS⟩
  .exact .inl h
  exact .inr ⟨g,off,cap,arr,h0,(hk g ((hS g).2 rfl)).trans h1,h2,h3,h4,h5,hS⟩
theorem vW.of{v:Value}(h:Ow H T v L)(hS:∀k,S k↔blk v=some k):vW H T v L S:=by
 rcases h with ⟨rfl,rfl⟩|⟨g,cap,arr,rfl,h1,h2,h3,h4,h5⟩
 .exact .inl ⟨⟨none,rfl⟩,rfl,fun k hk=>by have:=(hS k).1 hk;simp[blk,Value.ownBlock]at this⟩
 refine .inr ⟨g,0,cap,arr,rfl,h1,h2,h3,by omega,by simpa using h5,fun k=>(hS k).trans ?_⟩;simp only[blk,Value.ownBlock,Option.some.injEq];exact eq_comm
theorem Holds.toO(h:Holds Z (own T v L::As) H):Holds Z (ownO T v L::As) H:=h.imp fun S ⟨S1,S2,h1,h2,hd,hS⟩=>⟨S1,S2,vW.of h1.1 h1.2,h2,hd,hS⟩
theorem Holds.nilO(h:Holds Z As H):Holds Z (ownO T (.slice none 0 0) []::As) H:=(Holds.nilS (T:=T) h).toO
theorem vW.suf(h:vW H T v L S)(hT:T.Ok P)(n:Nat)(hn:n≤L.length):vW H T (Go.Mem.suf T.size v n) (L.drop n) S:=by
 rcases h with ⟨⟨p,rfl⟩,rfl,h⟩|⟨g,off,cap,arr,rfl,h1,h2,h3,h4,h5,hS⟩
 .simp at hn;subst hn;exact .inl ⟨⟨_,rfl⟩,rfl,h⟩
 by_cases hcn:cap=n
 .have:L.length=n:=by omega
  refine .inr ⟨g,off,0,arr,by simp[Mem.suf,hcn,this],h1,by simp;omega,by simp,by omega,?_,hS⟩;rw[List.drop_of_length_le (by omega)];simp[Ty.flat]
 refine .inr ⟨g,off+n*T.size,cap-n,arr,by simp[Mem.suf,hcn,addr_add],h1,by simp;omega,by omega,?_,?_,hS⟩
 .have:(cap-n)*T.size+n*T.size=cap*T.size:=by rw[←Nat.add_mul];congr 1;omega
  omega
 rw[←hT.flat_drop,←h5,List.drop_take,List.drop_drop,List.length_drop,Nat.sub_mul]
theorem Holds.sufO{i:Nat}(h:Holds Z As H)(hT:T.Ok P)(n:Nat)(hi:gt As i=some (ownO T v L))(hn:n≤L.length):Holds Z (upd As i (ownO T (Go.Mem.suf T.size v n) (L.drop n))) H:=
 h.step hi fun S hS=>⟨S,vW.suf hS hT n hn,Chg.refl _ _,fun k hk=>.inl hk⟩
theorem mA(g:Nat):∀(vs:List Value) (o:Nat) (w:World) (arr:Array Value) (t:TypeId) (fr:Nat×Nat),w.heap[g]?=some (.cells arr t fr)→o+vs.length≤arr.size→
  (w.setCells g o vs).heap[g]?=some (.cells (arr.toList.take o++vs++arr.toList.drop (o+vs.length)).toArray t fr)∧(w.setCells g o vs).heap.size=w.heap.size∧(∀k,k≠g→(w.setCells g o vs).heap[k]?=w.heap[k]?)∧(w.setCells g o vs).os=w.os∧(w.setCells g o vs).tape=w.tape∧(w.setCells g o vs).output=w.output
 | [],o,w,arr,t,fr,h,_=>by
  refine⟨?_,rfl,fun _ _=>rfl,rfl,rfl,rfl⟩;simp[World.setCells,h]
 | v::r,o,w,arr,t,fr,h,hl=>by
  simp only[List.length_cons]at hl;have h1:(w.setCell ⟨g,o,none⟩ v).heap[g]?=some (.cells (arr.setIfInBounds o v) t fr):=by grind[World.setCell]
  obtain⟨i1,i2,i3,i4,i5,i6⟩:=mA g r (o+1) (w.setCell ⟨g,o,none⟩ v) _ t fr h1 (by grind);refine⟨?_,?_,fun k hk=>?_,i4,i5,i6⟩
  .show ((w.setCell ⟨g,o,none⟩ v).setCells g (o+1) r).heap[g]?=_;rw[i1];congr 2;apply Array.toList_inj.1;simp only[Array.toList_setIfInBounds,List.length_cons];have e1:(arr.toList.set o v).take (o+1)=arr.toList.take o++[v]:=by
    rw[List.take_add_one,List.getElem?_set_self (by grind),List.take_set_of_le (Nat.le_refl _)];rfl
   rw[e1,List.drop_set_of_lt (by omega),show o+1+r.length=o+(r.length+1) by omega];simp
  .rw [show w.setCells g o (v::r)=(w.setCell ⟨g,o,none⟩ v).setCells g (o+1) r from rfl,i2];simp[World.setCell]
  rw[show w.setCells g o (v::r)=(w.setCell ⟨g,o,none⟩ v).setCells g (o+1) r from rfl,i3 k hk];grind[World.setCell]
theorem vr{w:World}(hT:T.Ok P){t ty:TypeId}(ht:P.underlying t=some (.slice T.id)){v2:Value}(hv:vW w.heap T v L S)(h2:Sl w.heap T v2 M)(oX:(L.length+M.length)*T.bytes≤140737488355328)(zg:L.length+M.length≤9223372036854775807):
  ∃v' w' S',(Builtin.append_ #[t,t] ty #[v,v2]).run P w=.ok v' w'∧vW w'.heap T v' (L++M) S'∧Chg S w.heap w'.heap∧(∀k,S' k→S k∨w.heap.size≤k)∧w'.os=w.os∧w'.tape=w.tape∧w'.output=w.output:=by
 obtain⟨i,hi,mm,WA,hz⟩:=hT.info;have WB:L.length+M.length≤maxLen:=by simpa [maxLen]using zg
 rw[←WA]at oX;have CU:=hT.flat_len L;have xa:=hT.flat_len M;have hlen:(T.flat (L++M)).length=(L++M).length*T.size:=hT.flat_len _;have hzs:(T.val T.zero).cells.size=T.size:=by have:=hT.len T.zero;simpa [Ty.enc]using this
 have grown:∀old,old<L.length+M.length→∃v' w' S',v'=Value.slice (some ⟨w.heap.size,0,none⟩) (L.length+M.length) (grownCap w (L.length+M.length) old T.id)∧
   w'=w.drew.alloc (.cells ((T.flat L).toArray++(T.flat M).toArray++Builtin.zeroCells (T.val T.zero).cells (grownCap w (L.length+M.length) old T.id-(L.length+M.length))) T.id)∧
   vW w'.heap T v' (L++M) S'∧Chg S w.heap w'.heap∧(∀k,S' k→S k∨w.heap.size≤k)∧w'.os=w.os∧w'.tape=w.tape∧w'.output=w.output:=by
  intro old ho;have WC:=grownCap_ge w (L.length+M.length) old T.id;have Ht:=grownCap_le_maxLen w (L.length+M.length) old T.id WB;have Xo:=Chg.of_mem ((Mem.Chg.refl (fun k=>S k) w).drew.alloc (.cells ((T.flat L).toArray++(T.flat M).toArray++Builtin.zeroCells (T.val T.zero).cells (grownCap w (L.length+M.length) old T.id-(L.length+M.length))) T.id));refine⟨_,_,fun k=>k=w.heap.size,rfl,rfl,.inr ⟨w.heap.size,0,_,_,by simp,heap_alloc_new w.drew _,by simpa using WC,Ht,?_,?_,fun k=>Iff.rfl⟩,Xo,fun k hk=>.inr (by omega),rfl,rfl,rfl⟩
  .simp only[Array.size_append,List.size_toArray,size_zeroCells,hzs,CU,xa,←Nat.add_mul,Nat.zero_add];exact Nat.le_of_eq (by congr 1;omega)
  .simp only[Array.toList_append,List.append_assoc,List.drop_zero];rw[←hlen,Ty.flat_append,←List.append_assoc];exact List.take_left
 rcases h2 with ⟨⟨p2,rfl⟩,rfl⟩|⟨g2,zo,CV,WD,e2,fr2,rfl,RC,hc2,hm2,Hu,Lz⟩
 .refine ⟨v,w,S,?_,by simpa using hv,Chg.refl _ _,fun k hk=>.inl hk,rfl,rfl,rfl⟩;rcases hv with ⟨⟨p,rfl⟩,rfl,_⟩|⟨g,off,cap,arr,rfl,hg,hc,_⟩
  .cases p<;>cases p2<;>simp[Builtin.append_,run_underlying ht,sizeOf,typeInfo,hi,Builtin.lenOf,Builtin.firstCells,loadCells,loadCellsFrom,storeCells]
  cases p2<;>simp[Builtin.append_,run_underlying ht,sizeOf,typeInfo,hi,Builtin.lenOf,Builtin.firstCells,loadCells,loadCellsFrom,hc,storeCells]
 .have vj:∀j u,(T.flat M)[j]?=some u→w.cell? ((⟨g2,zo,none⟩:Addr).add j)=some u:=by
   intro j u hj;rw[←Lz,List.getElem?_take]at hj;split at hj
   .rw [List.getElem?_drop]at hj;rw[addr_add,cell_of_row w g2 _ WD e2 fr2 RC,←Array.getElem?_toList];exact hj
   cases hj
  have nz:(T.flat M).length=M.length*i.size:=by rw[xa,mm]
  by_cases Vf:M=[]
  .subst Vf;refine⟨v,w,S,?_,by simpa using hv,Chg.refl _ _,fun k hk=>.inl hk,rfl,rfl,rfl⟩;rcases hv with ⟨⟨p,rfl⟩,rfl,_⟩|⟨g,off,cap,arr,rfl,hg,hc,_⟩
   .cases p<;>simp[Builtin.append_,run_underlying ht,sizeOf,typeInfo,hi,Builtin.lenOf,Builtin.firstCells,loadCells,loadCellsFrom,storeCells]
   simp[Builtin.append_,run_underlying ht,sizeOf,typeInfo,hi,Builtin.lenOf,Builtin.firstCells,loadCells,loadCellsFrom,hc,storeCells]
  have qV:0<M.length:=List.length_pos_iff.2 Vf;rcases hv with ⟨⟨p,rfl⟩,rfl,_⟩|⟨g,off,cap,arr,rfl,hg,hc,hm,hf,hr,hS⟩
  .obtain ⟨v',w',S',rfl,rfl,q⟩:=grown 0 (by simpa using qV);cases p with
   | none=>
    have jd:=run_append_nil (P:=P) w t ty T.id i _ ht hi hz ⟨g2,zo,none⟩ M.length CV (T.flat M) nz vj qV (by simp at zg;omega) (by simp at oX;omega);simp only[List.length_nil,Nat.zero_add,Ty.flat,List.flatMap_nil,Array.empty_append]at jd q⊢;exact⟨_,_,_,jd,q⟩
   | some a=>
    have jd:=run_append_grow (P:=P) w t ty T.id i _ ht hi hz a 0 0 [] (by simp) (by simp) ⟨g2,zo,none⟩ M.length CV (T.flat M) nz vj (by omega) (by simp at zg;omega) (growslice_fits (by omega) (by simpa using oX));simp only[List.length_nil,Nat.zero_add,Ty.flat,List.flatMap_nil,Array.empty_append]at jd q⊢;exact⟨_,_,_,jd,q⟩
  by_cases xb:L.length+M.length≤cap
  .have mn:off+L.length*T.size+(T.flat M).length≤arr.size:=by
    have h1:=Nat.mul_le_mul_right T.size xb;rw[Nat.add_mul]at h1;rw[xa];omega
   have jd:=run_append_room_cells (P:=P) w t ty T.id i ht hi g off L.length cap ⟨g2,zo,none⟩ M.length CV (T.flat M) nz vj (hT.flat_one1 M) xb
    (fun j hj=>by rw[mm,cell_of_row w g _ arr T.id (0,0) hg,Array.getElem?_eq_getElem (by omega)];rfl) (fun j hj=>by simp[World.frozen?,hg])
   rw[mm]at jd;obtain⟨c1,c2,c3,c4,c5,c6⟩:=mA g (T.flat M) (off+L.length*T.size) w arr T.id (0,0) hg mn;refine⟨_,_,S,jd,.inr ⟨g,off,cap,_,by simp,c1,by simpa using xb,hm,?_,?_,hS⟩,⟨Nat.le_of_eq c2.symm,fun k hk hn=>c3 k fun e=>hn ((hS k).2 e)⟩,fun k hk=>.inl hk,c4,c5,c6⟩
   .simp only[List.size_toArray,List.length_append,List.length_take,List.length_drop,Array.length_toList];omega
   have e1:arr.toList.take (off+L.length*T.size)=arr.toList.take off++T.flat L:=by rw[List.take_add,hr]
   have ad7:(arr.toList.take off).length=off:=by rw[List.length_take,Array.length_toList];omega
   rw[e1,List.append_assoc,List.append_assoc];conv=>lhs;rw[show ∀X:List Value,(arr.toList.take off++X).drop off=X from fun X=>by rw[List.drop_append_of_le_length (by omega),List.drop_of_length_le (by omega)];rfl]
   rw[←hlen,Ty.flat_append,←List.append_assoc];exact List.take_left
  have holds:∀j u,(T.flat L)[j]?=some u→w.cell? ((⟨g,off,none⟩:Addr).add j)=some u:=by
   intro j u hj;rw[←hr,List.getElem?_take]at hj;split at hj
   .rw [List.getElem?_drop]at hj;rw[addr_add,cell_of_row w g _ arr T.id _ hg,←Array.getElem?_toList];exact hj
   cases hj
  have jd:=run_append_grow (P:=P) w t ty T.id i _ ht hi hz ⟨g,off,none⟩ L.length cap (T.flat L) (by rw[CU,mm]) holds ⟨g2,zo,none⟩ M.length CV (T.flat M) nz vj (by omega) (by omega) (growslice_fits (by omega) oX);obtain⟨v',w',S',rfl,rfl,q⟩:=grown cap (by omega);exact⟨_,_,_,jd,q⟩
end
section
variable{P:Program}{w0:World}{ops:Array Oper}{Q:Exit→Act→World→Prop}{n:Nat}{E:Env}{Z:bK}{As:List aW}{o:Oper}{rest:List Oper}{α:Type}{T:Ty α}{v:Value}{L M:List α}
theorem Acc.ownO(i:Nat)(hi:gt As i=some (Go.S.ownO T v L):=by rfl):Acc Z As T v L:=fun H h=>by
 obtain⟨S,hS,_⟩:=h.part hi;exact vW.sl hS
theorem gX{s x:Operand}{t:TypeId}{d:Nat}{v2:Value}(i:Nat)(hT:T.Ok P)(ht:P.underlying t=some (.slice T.id))(a:Acc Z As T v2 M)(hb:(L.length+M.length)*T.bytes≤140737488355328)(zg:L.length+M.length≤9223372036854775807)(h:∀v',SL P w0 ops Q n rest ((d,v')::E) Z (upd As i (ownO T v' (L++M))))(ho:o.op=.call { callee:=.builtin .append,args:=#[s,x],argTypes:=#[t,t] }:=by rfl)(hA:gt As i=some (ownO T v L):=by rfl)(hs:ev E s=v:=by rfl)(hx:ev E x=v2:=by rfl)(hd:o.dst=some d:=by rfl)(hk:cU ops n E o=true:=by kernel_rfl):SL P w0 ops Q n (o::rest) E Z As:=fun H hH=>by
 refine sG (R:=fun v' H'=>Holds Z (upd As i (ownO T v' (L++M))) H') hk (fun w ha=>?_) (fun v' H' h'=>by rw[hd];exact h v' H' h');obtain⟨hw,hos,Dh,Di⟩:=ha;subst hw;obtain⟨S,hS,_⟩:=(hH.part hA);obtain⟨v',w',S',hr,q1,q2,q3,q4,q5,q6⟩:=vr (ty:=o.type) hT ht hS (a _ hH) hb zg;refine⟨v',w',?_,⟨rfl,q4.trans hos,q5.trans Dh,q6.trans Di⟩,?_⟩
 .unfold execOp;simp only[ho,resolve,invoke,builtin,Sem.run_bind,Sem.run_pure,Result.andThen_ok,List.map_toArray,List.map_cons,List.map_nil,hs,hx,hr]
 refine hH.step hA fun S2 Vx=>?_
 obtain⟨v2',w2',S2',Lz,r1,r2,r3,_⟩:=vr (ty:=o.type) hT ht Vx (a _ hH) hb zg;rw[hr]at Lz;injection Lz with e1 e2
 subst e1;subst e2;exact⟨S2',r1,r2,r3⟩
end
end Go.S
end
section
namespace Go.S
open Go.Hp Go.J
section
variable{P:Program}{E:Env}{Z:bK}{As:List aW}{o:Oper}
theorem Xp{t:TypeId}{x i:Operand}{q:IntKind}(ht:P.underlying t=some .string)(a:ByteArray)(k:Int)(b:UInt8)(h0:0≤k)(hb:a[k.toNat]?=some b)(ho:o.op=.index t x i:=by rfl)(hx:ev E x=.string a:=by rfl)(hi:ev E i=.int q k:=by rfl):Lt P E o Z As (.int .u8 b.toNat):=
 fun _ _=>pd _ fun w=>by
  unfold execOp;simp only[ho,hx,hi];exact Mem.run_v (by simp[Instr.index,asIntOf,run_underlying ht,h0,hb,Sem.run_pure,Sem.run_bind])
/-! ### Integers of any kind, as they wrap -/
end
end Go.S
end
namespace Go.Proofs.YtmhpcebiamkciaaGreat
open Go.Hp Go.J Go.S
structure Vl where
 kind:Int
 p:Int
 q:Int
 str:ByteArray
 ref:Int
 deriving DecidableEq
def bw:Vl:=⟨0,0,0,ByteArray.empty,0⟩
def je(p q:Int):Bool:=decide (1≤q)&&(decide (q≤2147483647)&&(decide (-2147483647≤p)&&(decide (p≤2147483647)&&decide (Int.gcd p q=1))))
def au(v:Vl):Bool:=
 if v.kind=0 then decide (v=⟨0,0,0,ByteArray.empty,0⟩) else
 if v.kind=1 then decide (v=⟨1,0,0,ByteArray.empty,v.ref⟩)&&(decide (v.ref=0)||decide (v.ref=1)) else
 if v.kind=2 then decide (v=⟨2,v.p,v.q,ByteArray.empty,0⟩)&&je v.p v.q else
 if v.kind=3 then decide (v=⟨3,0,0,v.str,0⟩)&&decide ((v.str.size:Int)≤4096) else
 if v.kind=6 then decide (v=⟨6,0,0,v.str,0⟩)&&(decide (1≤(v.str.size:Int))&&decide ((v.str.size:Int)≤4096)) else
 if v.kind=4∨v.kind=5∨v.kind=7∨v.kind=8 then decide (v=⟨v.kind,0,0,ByteArray.empty,v.ref⟩)&&decide (1≤v.ref) else false
theorem Dj(a b:Nat):Nat.gcd b (a % b)=Nat.gcd a b:=by rw[Nat.gcd_comm b,←Nat.gcd_rec,Nat.gcd_comm]
theorem MV(p q:Int)(h:1≤q):decide (((Nat.gcd (if p<(-p) then (-p) else p).toNat q.toNat:Nat):Int)=1)=decide (Int.gcd p q=1):=by
 rw[show (if p<(-p) then (-p) else p).toNat=p.natAbs by omega,show q.toNat=q.natAbs by omega,Bool.eq_iff_iff];rw[decide_eq_true_eq,decide_eq_true_eq];exact⟨fun h=>Int.ofNat_inj.1 h,fun h=>Int.ofNat_inj.2 h⟩
theorem Ak(p q:Int):((decide ((1:Int)≤q))&&((decide (q≤2147483647))&&((decide ((-2147483647)≤p))&&((decide (p≤2147483647))&&(decide (((Nat.gcd (if p<(-p) then (-p) else p).toNat q.toNat:Nat):Int)=1))))))=je p q:=by
 by_cases h:1≤q
 .rw [MV p q h];rfl
 simp[je,h]
theorem FL(p q:Int):((decide ((1:Int)≤q))&&((decide (q≤2147483647))&&((decide (p≤2147483647))&&((decide ((-2147483647)≤p))&&(decide (((Nat.gcd (if p<(-p) then (-p) else p).toNat q.toNat:Nat):Int)=1))))))=je p q:=by
 rw[←Ak,Bool.and_left_comm (decide (p≤2147483647))]
structure cY where
 key:Vl
 val:Vl
 gone:Bool
 deriving DecidableEq
section
variable{S:List cY}{k:Vl}{i:Nat}{s:cY}
def bz:List cY→Vl→Option Nat
 | [],_=>none
 | s::r,k=>match bz r k with
  | some i=>some (i+1)
  | none=>if s.key=k then some 0 else none
theorem pr(S:List cY)(s:cY)(k:Vl):bz (S++[s]) k=if s.key=k then some S.length else bz S k:=by
 induction S with
 | nil=>simp[bz]
 | cons t r ih=>grind[bz]
theorem ko(h:bz S k=none):∀s∈S,s.key≠k:=by
 induction S with
 | nil=>intro s hs;cases hs
 | cons t r ih=>
  rw[bz]at h;cases hr:bz r k with
  | some i=>rw[hr]at h;cases h
  | none=>grind
theorem dv(h:bz S k=some i):∃s,S[i]?=some s∧s.key=k∧∀j t,i<j→S[j]?=some t→t.key≠k:=by
 induction S generalizing i with
 | nil=>cases h
 | cons t r ih=>
  rw[bz]at h;cases hr:bz r k with
  | some j=>
   rw[hr]at h;obtain rfl:j+1=i:=by injection h
   obtain⟨s,h1,h2,h3⟩:=ih hr;refine⟨s,by simpa using h1,h2,fun j' t' hj ht=>?_⟩;cases j' with
   | zero=>omega
   | succ j'=>exact h3 j' t' (by omega) (by grind)
  | none=>grind[ko]
theorem Al(h:bz S k=some i):i<S.length:=by grind[dv]
theorem Am(h1:S[i]?=some s)(h2:s.key=k)(h3:∀j t,i<j→S[j]?=some t→t.key≠k):bz S k=some i:=by
 cases h:bz S k with
 | none=>exact absurd h2 (ko h s (List.mem_of_getElem? h1))
 | some j=>grind[dv]
theorem jD(h:∀s∈S,s.key≠k):bz S k=none:=by
 cases hl:bz S k with
 | none=>rfl
 | some i=>grind[dv]
theorem FM(S:List cY)(k k':Vl)(h:bz S k=some i)(hs:s.key=k):bz (S.set i s) k'=bz S k':=by
 obtain⟨t,h1,h2,h3⟩:=dv h;have hi:=Al h;have By:∀j,((S.set i s)[j]?).map cY.key=(S[j]?).map cY.key:=fun j=>by
  by_cases e:i=j
  .subst e;rw[List.getElem?_set_self hi,h1];simp[hs,h2]
  grind
 cases hl:bz S k' with
 | none=>
  refine jD fun u hu=>?_
  obtain⟨j,hj⟩:=List.mem_iff_getElem?.1 hu;have:=By j;rw[hj]at this;cases hS:S[j]? with
  | none=>rw[hS]at this;simp at this
  | some v=>grind[ko]
 | some j=>
  obtain⟨u,e1,e2,e3⟩:=dv hl;have:=By j;rw[e1]at this;cases hS:(S.set i s)[j]? with
  | none=>rw[hS]at this;simp at this
  | some v=>
   rw[hS]at this;simp at this;refine Am hS (by grind) fun j' t' LC WX=>?_
   have h4:=By j';rw[WX]at h4;cases CG:S[j']? with
   | none=>rw[CG]at h4;simp at h4
   | some v'=>grind
structure dG(S:List cY):Prop where
 uniq:S.Pairwise fun s t=>s.key=t.key→s.gone=true
 zero:∀s∈S,s.gone=true→s.val=bw
 keys:∀s∈S,au s.key=true∧s.key.kind≠0
 vals:∀s∈S,s.gone=false→au s.val=true∧s.val.kind≠0
theorem dG.nil:dG []:=⟨.nil,fun _ h=>(by cases h),fun _ h=>(by cases h),fun _ h=>(by cases h)⟩
def live(S:List cY):List cY:=S.filter fun s=>!s.gone
def fo(S:List cY):Nat:=(live S).length
def dw(S:List cY)(k:Vl):Option Nat:=(bz S k).bind fun i=>(S[i]?).bind fun s=>if s.gone then none else some i
def ei(S:List cY)(k:Vl):Vl:=match (bz S k).bind (S[·]?) with
 | some s=>s.val
 | none=>bw
def cS(k:Vl):Bool:= !(decide (k.kind=0))&&au k
def jN(k v:Vl):Int:=if cS k=false then 13 else if au v=false then 2 else 0
def cZ(S:List cY)(k v:Vl):List cY:=
 if cS k=false then S else if au v=false then S else
 if v.kind=0 then (match dw S k with|some i=>S.set i ⟨k,bw,true⟩|none=>S) else
 match dw S k with
 | some i=>S.set i ⟨k,v,false⟩
 | none=>(if fo S+8<S.length-fo S then live S else S)++[⟨k,v,false⟩]
def iz(s:Option cY):Vl×Vl×Bool:=match s with
 | some s=>(s.key,s.val,true)
 | none=>(bw,bw,false)
def aA(S:List cY)(k:Vl):Vl×Vl×Bool×Int:=
 if k=bw then (let r:=iz (live S).head?;(r.1,r.2.1,r.2.2,0)) else
 match bz S k with
 | none=>(bw,bw,false,13)
 | some i=>(let r:=iz (live (S.drop (i+1))).head?;(r.1,r.2.1,r.2.2,0))
def dP(S:List cY):List Vl:=(live S).map cY.key
theorem la(h:dw S k=some i):bz S k=some i∧∃s,S[i]?=some s∧s.key=k∧s.gone=false:=by
 unfold dw at h;cases hl:bz S k with
 | none=>rw[hl]at h;cases h
 | some j=>
  rw[hl]at h;obtain⟨s,h1,h2,h3⟩:=dv hl;simp only[Option.bind_some,h1]at h;by_cases hg:s.gone=true
  .simp [hg]at h
  simp[hg]at h;subst h;exact⟨rfl,s,h1,h2,by simpa using hg⟩
theorem rL(hl:bz S k=some i)(h1:S[i]?=some s):dw S k=if s.gone then none else some i:=by grind[dw]
theorem nN(hl:bz S k=none):dw S k=none:=by grind[dw]
theorem dG.last(h:dG S)(h1:S[i]?=some s)(hg:s.gone=false):bz S s.key=some i:=
 Am h1 rfl fun j t hj ht e=>by
  obtain⟨hi,e1⟩:=List.getElem?_eq_some_iff.1 h1;obtain⟨LC,e2⟩:=List.getElem?_eq_some_iff.1 ht;have:=List.pairwise_iff_getElem.1 h.uniq i j hi LC hj (by rw[e1,e2,e]);rw[e1,hg]at this;cases this
theorem dG.there(h:dG S)(h1:S[i]?=some s)(hg:s.gone=false):dw S s.key=some i:=by
 rw[rL (h.last h1 hg) h1,hg];rfl
theorem jn(h:bz S k=some i)(h1:S[i]?=some s):ei S k=s.val:=by grind[ei]
theorem jU(h:bz S k=none):ei S k=bw:=by grind[ei]
theorem Dk(h:dG S)(hk:cS k=false):ei S k=bw:=by
 refine jU (jD fun s hs e=>?_);obtain⟨h1,h2⟩:=h.keys s hs;grind[cS]
theorem An(S:List cY)(s:cY):live (S++[s])=if s.gone then live S else live S++[s]:=by grind[live]
theorem fz(h:S[i]?=some s):live (S.take (i+1))=if s.gone then live (S.take i) else live (S.take i)++[s]:=by
 rw[List.take_add_one,h];exact An _ _
theorem MW{t:cY}(h:S[i]?=some t):live (S.set i s)=live (S.take i)++live [s]++live (S.drop (i+1))∧live S=live (S.take i)++live [t]++live (S.drop (i+1)):=by
 obtain⟨hi,e⟩:=List.getElem?_eq_some_iff.1 h;constructor
 .rw [List.set_eq_take_append_cons_drop,if_pos hi];show List.filter _ _=List.filter _ _++List.filter _ _++List.filter _ _;grind
 show List.filter _ _=List.filter _ _++List.filter _ _++List.filter _ _;rw[List.append_assoc,←List.filter_append,←List.filter_append];congr 1;rw[←e];simp
theorem fi(S:List cY):fo S≤S.length:=List.length_filter_le _ _
theorem mT(h:dG S):dG (live S):=by
 refine⟨h.uniq.filter _,fun s hs=>h.zero s (List.mem_filter.1 hs).1,fun s hs=>h.keys s (List.mem_filter.1 hs).1,fun s hs=>h.vals s (List.mem_filter.1 hs).1⟩
theorem mU(h:s∈live S):s.gone=false:=by have:=(List.mem_filter.1 h).2;simpa using this
theorem Jq(S:List cY):live (live S)=live S:=by unfold live;rw[List.filter_filter];simp
theorem jo:cS k=true↔au k=true∧k.kind≠0:=by grind[cS]
theorem rM(h:dG S)(ht:dw S k=none):∀s∈S,s.key=k→s.gone=true:=fun s hs e=>by
 cases hg:s.gone with
 | true=>rfl
 | false=>
  obtain⟨i,hi⟩:=List.mem_iff_getElem?.1 hs;have:=h.there hi hg;rw[e,ht]at this;cases this
theorem dG.set(h:dG S)(hl:bz S k=some i)(hk:s.key=k)(hz:s.gone=true→s.val=bw)(hv:s.gone=false→au s.val=true∧s.val.kind≠0):dG (S.set i s):=by
 obtain⟨t,h1,h2,h3⟩:=dv hl;obtain⟨hi,e⟩:=List.getElem?_eq_some_iff.1 h1;refine⟨?_,fun u hu=>?_,fun u hu=>?_,fun u hu=>?_⟩
 .rw [List.pairwise_iff_getElem];intro a b ha hb hab;rw[List.length_set]at ha hb;rw[List.getElem_set,List.getElem_set];have hp:=List.pairwise_iff_getElem.1 h.uniq a b ha hb hab;grind
 .rcases List.mem_or_eq_of_mem_set hu with hu|rfl
  .exact h.zero u hu
  omega
 .rcases List.mem_or_eq_of_mem_set hu with hu|rfl
  .exact h.keys u hu
  rw[hk,←h2];exact h.keys t (List.mem_of_getElem? h1)
 rcases List.mem_or_eq_of_mem_set hu with hu|rfl
 .exact h.vals u hu
 omega
theorem dG.snoc(h:dG S){v:Vl}(hk:cS k=true)(hv:au v=true)(h0:v.kind≠0)(hn:∀s∈S,s.key=k→s.gone=true):dG (S++[⟨k,v,false⟩]):=by
 refine⟨?_,fun u hu=>?_,fun u hu=>?_,fun u hu=>?_⟩
 .rw [List.pairwise_append];refine⟨h.uniq,by simp,fun s hs t ht=>?_⟩;grind
 all_goals
  rcases List.mem_append.1 hu with hu|hu
  .first|exact h.zero u hu|exact h.keys u hu|exact h.vals u hu
  rw[List.mem_singleton]at hu;subst hu;first|(intro h;cases h;done)|exact jo.1 hk|exact fun _=>⟨hv,h0⟩
theorem ee(h:dG S)(k v:Vl):dG (cZ S k v):=by
 unfold cZ;split
 .exact h
 rename_i hk
 split
 .exact h
 rename_i hv
 have Vy:cS k=true:=by simpa using hk
 have rj:au v=true:=by simpa using hv
 split
 .cases ht:dw S k with
  | none=>exact h
  | some i=>exact h.set (la ht).1 rfl (fun _=>rfl) (fun h=>by cases h)
 rename_i h0
 cases ht:dw S k with
 | some i=>exact h.set (la ht).1 rfl (fun h=>by cases h) (fun _=>⟨rj,h0⟩)
 | none=>
  show dG ((if _ then _ else _)++_);split
  .exact (mT h).snoc Vy rj h0 fun s hs e=>rM h ht s (List.mem_filter.1 hs).1 e
  exact h.snoc Vy rj h0 (rM h ht)
theorem Jr(S:List cY)(k v:Vl):(cZ S k v).length≤S.length+1:=by grind[cZ,fi,fo]
structure Tb where
 list:List Vl
 rest:List cY
 deriving DecidableEq
end
section
variable{v k y:Vl}{T:Tb}{S:List cY}{L:List Vl}{n m i f:Nat}
def whole(k:Vl):Int:=if k.kind=2∧k.q=1∧au k=true then k.p else 0
def ey(n:Int):Vl:=if n < -2147483647∨2147483647<n then bw else ⟨2,n,1,ByteArray.empty,0⟩
def uA(n:Int)(len:Nat):Bool:=decide (1≤n)&&decide (n≤(len:Int))
def kp(T:Tb)(k:Vl):Vl:=if au k=false then bw else if uA (whole k) T.list.length=true then (T.list[(whole k-1).toNat]?).getD bw else ei T.rest k
def shr(L:List Vl):List Vl:=(L.reverse.dropWhile fun v=>decide (v.kind=0)).reverse
def grow(S:List cY):Nat→List Vl→Vl→List Vl
 | 0,L,_=>L
 | f+1,L,v=>if v.kind=0 then L else grow S f (L++[v]) (ei S (ey ((L.length:Int)+2)))
def Js(S:List cY)(k:Vl):Bool:=decide (k=bw)||(bz S k).isSome
def ck(S:List cY)(n m:Nat):Bool:=(List.range' (n+1) (m-n)).any fun i=>Js S (ey (i:Int))
def iJ(S:List cY)(m:Nat):List cY:=(live S).filter fun s=>!uA (whole s.key) m
def pt(T:Tb)(v:Vl):Tb:=
 let L:=grow T.rest (T.rest.length+2) T.list v
 ⟨L,if ck T.rest T.list.length L.length then iJ T.rest L.length else T.rest⟩
def mV(k v:Vl):Int:=if cS k=false then 13 else if au v=false then 2 else 0
def ez(T:Tb)(k v:Vl):Tb:=
 if cS k=false then T else if au v=false then T else
 if uA (whole k) T.list.length=true then { T with list:=shr (T.list.set ((whole k-1).toNat) v) } else
 if whole k=(T.list.length:Int)+1∧v.kind≠0 then pt T v else { T with rest:=cZ T.rest k v }
structure kM(T:Tb):Prop where
 rest:dG T.rest
 list:∀v∈T.list,au v=true
 last:∀v,T.list.getLast?=some v→v.kind≠0
theorem kM.nil:kM ⟨[],[]⟩:=⟨.nil,fun _ h=>(by cases h),fun _ h=>(by cases h)⟩
theorem sT(L:List Vl)(v:Vl):shr (L++[v])=if v.kind=0 then shr L else L++[v]:=by grind[shr,List.reverse_append,List.reverse_singleton,List.singleton_append,List.dropWhile_cons]
theorem Xq(h:∀v,L.getLast?=some v→v.kind≠0):shr L=L:=by
 rcases List.eq_nil_or_concat L with rfl|⟨r,v,rfl⟩
 .rfl
 grind[sT]
theorem MX(L:List Vl):∀v,(shr L).getLast?=some v→v.kind≠0:=by
 intro v hv;unfold shr at hv;grind[Vl,List.getLast?_reverse,List.head?_dropWhile_not]
theorem Dl(hn:n<L.length)(hv:L[n]?=some v)(h0:v.kind=0):shr (L.take (n+1))=shr (L.take n):=by grind[shr,sT,List.take_add_one]
theorem Dm(hv:L[n]?=some v)(h0:v.kind≠0):shr (L.take (n+1))=L.take (n+1):=by grind[shr,sT,List.take_add_one]
theorem wF(L:List Vl):(shr L).length≤L.length:=by grind[shr,List.length_reverse,List.dropWhile_suffix]
theorem HN(h:v∈shr L):v∈L:=by grind[shr,List.dropWhile_suffix]
theorem uB{n:Int}(h1:1≤n)(h2:n≤2147483647):whole (ey n)=n∧cS (ey n)=true∧ey n≠bw:=by
 have e:ey n=⟨2,n,1,ByteArray.empty,0⟩:=by unfold ey;rw[if_neg (by omega)]
 have hv:au ⟨2,n,1,ByteArray.empty,0⟩=true:=by
  have:Int.gcd n 1=1:=by simp
  grind[au,je]
 rw[e];refine⟨?_,?_,?_⟩
 .grind[whole]
 .grind[jo]
 intro h;injection h with h;cases h
theorem Jt(n:Int):au (ey n)=true:=by
 by_cases h:n < -2147483647∨2147483647<n
 .unfold ey;rw[if_pos h];decide
 have e:ey n=⟨2,n,1,ByteArray.empty,0⟩:=by unfold ey;rw[if_neg h]
 simp_all[au,je]
theorem Sc{n:Int}(h:2147483647<n):ey n=bw:=by grind[ey]
theorem ln{n:Int}(h:whole k=n)(hn:1≤n):k=ey n∧n≤2147483647:=by grind[whole,je,au,ey]
theorem eY{n:Int}:uA n m=true↔1≤n∧n≤(m:Int):=by simp[uA]
/-! ### The run of values that follow -/
def more(S:List cY)(n:Nat):Nat:=(live S).countP fun s=>decide ((n:Int)<whole s.key)
theorem HO(S:List cY)(n:Nat):more S n≤S.length:=Nat.le_trans List.countP_le_length (fi S)
theorem Ao(h:dG S)(h0:(ei S k).kind≠0):∃s∈live S,s.key=k∧s.val=ei S k:=by
 cases hl:bz S k with
 | none=>rw[jU hl]at h0;exact absurd rfl h0
 | some i=>
  obtain⟨s,h1,h2,_⟩:=dv hl;rw[jn hl h1]at h0⊢;refine⟨s,List.mem_filter.2 ⟨List.mem_of_getElem? h1,?_⟩,h2,rfl⟩;cases hg:s.gone with
  | false=>rfl
  | true=>rw[h.zero s (List.mem_of_getElem? h1) hg]at h0;exact absurd rfl h0
theorem Ju{α:Type}{p q:α→Bool}{L:List α}(hpq:∀x∈L,p x=true→q x=true){y:α}(hy:y∈L)(h1:p y=false)(h2:q y=true):L.countP p<L.countP q:=by
 induction L with
 | nil=>cases hy
 | cons a r ih=>
  rw[List.countP_cons,List.countP_cons];have hm:=List.countP_mono_left (l:=r) (p:=p) (q:=q) fun x hx h=>hpq x (List.mem_cons_of_mem _ hx) h
  grind
def mu(S:List cY)(n:Nat)(v:Vl):Nat:=if v.kind=0 then 0 else more S (n+1)+1
theorem sU(h:dG S)(h0:v.kind≠0):mu S (n+1) (ei S (ey ((n:Int)+2)))<mu S n v:=by
 unfold mu;rw[if_neg h0];split
 .omega
 rename_i h1
 obtain⟨s,h2,h3,_⟩:=Ao h h1;have hle:(n:Int)+2≤2147483647:=Int.not_lt.1 fun hf=>by rw[Sc hf]at h1;exact h1 (by rw[Dk h (by decide)];rfl)
 have hw:whole s.key=(n:Int)+2:=by rw[h3];exact (uB (by omega) hle).1
 have:more S (n+1+1)<more S (n+1):=Ju (fun x _ hx=>by simp at hx ⊢;omega) h2 (by grind) (by simp[hw]);omega
theorem MY(h:dG S):∀(f:Nat) (L:List Vl) (v:Vl),(grow S f L v).length≤L.length+mu S L.length v:= by intro f;induction f<;>grind[grow,ei,ey,sU]
theorem HP(S:List cY):∀(f:Nat) (L:List Vl) (v:Vl),L.length≤(grow S f L v).length:= by intro f;induction f<;>grind[grow,ei,ey]
theorem FN(h:dG S)(k:Vl):au (ei S k)=true:=by
 by_cases h0:(ei S k).kind=0
 .cases hl:bz S k with
  | none=>rw[jU hl];decide
  | some i=>
   obtain⟨s,h1,h2,_⟩:=dv hl;rw[jn hl h1];cases hg:s.gone with
   | true=>rw[h.zero s (List.mem_of_getElem? h1) hg];decide
   | false=>exact (h.vals s (List.mem_of_getElem? h1) hg).1
 obtain⟨s,h1,h2,h3⟩:=Ao h h0;rw[←h3];exact (h.vals s (List.mem_filter.1 h1).1 (mU h1)).1
theorem Dn(h:dG S):∀(f:Nat) (L:List Vl) (v:Vl),(∀x∈L,au x=true)→(∀x,L.getLast?=some x→x.kind≠0)→au v=true→(∀x∈grow S f L v,au x=true)∧∀x,(grow S f L v).getLast?=some x→x.kind≠0
 | 0,L,v,h1,h2,hv=>⟨h1,h2⟩
 | f+1,L,v,h1,h2,hv=>by
  unfold grow;split
  .grind
  rename_i h0
  refine Dn h f _ _ (fun x hx=>?_) (fun x hx=>?_) (FN h _);all_goals grind
theorem Ap(h:dG S)(m:Nat):dG (iJ S m):=by
 have hl:=mT h;refine⟨hl.uniq.filter _,fun s hs=>hl.zero s (List.mem_filter.1 hs).1,fun s hs=>hl.keys s (List.mem_filter.1 hs).1,fun s hs=>hl.vals s (List.mem_filter.1 hs).1⟩
theorem Jv(S:List cY)(m:Nat):(iJ S m).length≤S.length:=Nat.le_trans (List.length_filter_le _ _) (fi S)
theorem MZ(h:kM T)(hv:au v=true):kM (pt T v):=by
 obtain⟨a,b⟩:=Dn h.rest (T.rest.length+2) T.list v h.list h.last hv;refine⟨?_,a,b⟩;show dG (if _ then _ else _);split
 .exact Ap h.rest _
 exact h.rest
theorem xA(h:kM T)(k v:Vl):kM (ez T k v):=by
 unfold ez;split
 .exact h
 split
 .exact h
 rename_i hv
 have rj:au v=true:=by simpa using hv
 split
 .refine ⟨h.rest,fun x hx=>?_,MX _⟩;rcases List.mem_or_eq_of_mem_set (HN hx) with hx|rfl
  .exact h.list x hx
  exact rj
 split
 .exact MZ h rj
 exact⟨ee h.rest k v,h.list,h.last⟩
theorem M1(h:kM T)(k v:Vl):(ez T k v).rest.length≤T.rest.length+1∧(ez T k v).list.length≤T.list.length+T.rest.length+1:=by
 unfold ez;split
 .omega
 split
 .omega
 split
 .grind[wF,whole,shr]
 split
 .constructor
  .show (if _ then _ else _:List cY).length≤_;grind[Jv,grow]
  have:=MY h.rest (T.rest.length+2) T.list v;have h2:=HO T.rest (T.list.length+1);show (grow _ _ _ _).length≤_;grind[mu]
 grind[Jr]
/-! ### What the calls give -/
theorem Aq(h:(dP S)[n]?=some y):∃s,(live S)[n]?=some s∧y=s.key:=by
 unfold dP at h;rw[List.getElem?_map]at h;cases hs:(live S)[n]? with
 | none=>rw[hs]at h;cases h
 | some s=>rw[hs]at h;injection h with h;exact⟨s,rfl,h.symm⟩
def mB(k:Vl):Bool:=decide (k.kind=2)&&(decide (k.q=1)&&au k)
theorem qi(k:Vl):(mB k=true∧k.p=whole k∧au k=true)∨(mB k=false∧whole k=0):=by grind[mB,whole,au]
theorem kr(h:au k=false):kp T k=bw:=by grind[kp]
theorem wG(hv:au k=true)(h1:1≤whole k)(h2:whole k≤(T.list.length:Int))(hy:T.list[(whole k-1).toNat]?=some y):kp T k=y:=by
 unfold kp;rw[if_neg (by rw[hv];decide),if_pos (eY.2 ⟨h1,h2⟩),hy];rfl
theorem dQ{n:Int}(h:¬(1≤n∧n≤(m:Int))):uA n m=false:=by
 cases hb:uA n m with
 | false=>rfl
 | true=>exact absurd (eY.1 hb) h
theorem mW(hv:au k=true)(h:¬(1≤whole k∧whole k≤(T.list.length:Int))):kp T k=ei T.rest k:=by grind[kp,dQ]
theorem mX(h:cS k=false∨au v=false):ez T k v=T:=by grind[ez]
theorem sW(hk:cS k=true)(hv:au v=true)(h1:1≤whole k)(h2:whole k≤(T.list.length:Int)):ez T k v=⟨shr (T.list.set (whole k-1).toNat v),T.rest⟩:=by grind[ez,eY]
theorem pw(hk:cS k=true)(hv:au v=true)(h1:whole k=(T.list.length:Int)+1)(h2:v.kind≠0):ez T k v=pt T v:=by grind[ez,dQ]
theorem iP(hk:cS k=true)(hv:au v=true)(h:¬(1≤whole k∧whole k≤(T.list.length:Int)))(h2:¬(whole k=(T.list.length:Int)+1∧v.kind≠0)):ez T k v=⟨T.list,cZ T.rest k v⟩:=by grind[ez,dQ]
theorem Sd(h:∀v,L.getLast?=some v→v.kind≠0)(hi:i+1≠L.length):shr (L.set i v)=L.set i v:=by grind[Xq]
/-! ### The loop that adds -/
theorem M3(S:List cY)(k:Vl):(aA S k).2.2.2=(if Js S k=true then 0 else 13):=by grind[aA,Js,bw,bz]
theorem Dp(S:List cY)(h:n≤m):ck S n (m+1)=(ck S n m||Js S (ey ((m:Int)+1))):=by grind[ck]
theorem vt(S:List cY)(n:Nat):ck S n n=false:=by grind[ck]
theorem grow_step(S:List cY)(L:List Vl)(h0:v.kind≠0)(hf:mu S L.length v≤f):∃f',f=f'+1∧grow S f L v=grow S f' (L++[v]) (ei S (ey ((L.length:Int)+2))):=by
 cases f with
 | zero=>unfold mu at hf;rw[if_neg h0]at hf;omega
 | succ f'=>refine⟨f',rfl,?_⟩;rw[grow,if_neg h0]
theorem uC(S:List cY)(L:List Vl)(h0:v.kind=0):grow S f L v=L:=by
 cases f with
 | zero=>rfl
 | succ f'=>rw[grow,if_pos h0]
def dZ(S:List cY)(m i:Nat):List cY:=((live S).take i).filter fun s=>!uA (whole s.key) m
theorem jV(h:dG S){s:cY}(hs:(live S)[i]?=some s):(uA (whole s.key) m=false→cZ (dZ S m i) s.key (ei S s.key)=dZ S m (i+1))∧(uA (whole s.key) m=true→dZ S m i=dZ S m (i+1)):=by
 have hm:=List.mem_of_getElem? hs;have hg:=mU hm;have hl:=mT h;have hmS:s∈S:=(List.mem_filter.1 hm).1;have FO:ei S s.key=s.val:=by
  obtain⟨j,hj⟩:=List.mem_iff_getElem?.1 hmS;exact jn (h.last hj hg) hj
 have e1:dZ S m (i+1)=dZ S m i++(if uA (whole s.key) m=true then [] else [s]):=by
  unfold dZ;rw[List.take_add_one,hs,List.filter_append];congr 1;by_cases hb:uA (whole s.key) m=true<;>simp[hb]
 constructor
 .intro hb;rw[e1,hb,FO];have LA:∀t∈dZ S m i,t.key≠s.key:=fun t ht e=>by
   unfold dZ at ht;have WX:=(List.mem_filter.1 ht).1;obtain⟨j,hj⟩:=List.mem_iff_getElem?.1 WX;rw[List.getElem?_take]at hj;split at hj
   .rename_i FD;obtain⟨zy,e2⟩:=List.getElem?_eq_some_iff.1 hj;obtain⟨cQ,e3⟩:=List.getElem?_eq_some_iff.1 hs;have:=List.pairwise_iff_getElem.1 hl.uniq j i zy cQ FD (by rw[e2,e3,e]);rw[e2,mU (List.mem_of_getElem? hj)]at this;cases this
   cases hj
  have Se:live (dZ S m i)=dZ S m i:=by
   unfold live;rw[List.filter_eq_self];intro t ht;have:=mU (List.mem_of_mem_take (List.mem_filter.1 ht).1);simp[this]
  obtain⟨qY,eW⟩:=h.keys s hmS;obtain⟨hv1,hv2⟩:=h.vals s hmS hg;unfold cZ;rw[if_neg (by rw[jo.2 ⟨qY,eW⟩];decide),if_neg (by rw[hv1];decide),if_neg hv2,nN (jD LA)];show (if _ then _ else _)++_=_;unfold fo;rw[Se,if_neg (by omega)];simp;cases s;simp at hg;subst hg;rfl
 intro hb;rw[e1,hb];simp
theorem Ar(S:List cY)(m i:Nat)(h:(live S).length≤i):dZ S m i=iJ S m:=by grind[dZ,iJ,List.take_of_length_le]
end
end Go.Proofs.YtmhpcebiamkciaaGreat
section
namespace Go.S
open Go.Hp Go.J
open Go.Mem (Ty elemAt)
section
variable{P:Program}{E:Env}{Z:bK}{As:List aW}{o:Oper}
end
end Go.S
end
section
namespace Go.J
open Go.Hp
variable{P:Program}{w0:World}{Q:Exit→Act→World→Prop}{n:Nat}{E:Env}{H:bb}{o o':Oper}{l:List Oper}{S:bb→Prop}{fuel:Nat}{aG:Array Bool}
theorem Sf(i j:Nat)(hi:l[i]?=some o)(hj:l[j]?=some o')(hr:Region.ready .any l.toArray aG=[i,j])
  (h:JL P w0 l.toArray (jm P l Q S fuel (aG.setIfInBounds i true)) n [o] E H)
  (h':JL P w0 l.toArray (jm P l Q S fuel (aG.setIfInBounds j true)) n [o'] E H):JH P w0 l Q n S (fuel+1) aG E H:=by
 intro a w hf ha;refine wpAnyH_all hr (by simp) ?_;intro k hk;rcases List.mem_cons.1 hk with rfl|hk
 .have:=h a w hf ha;unfold wpOp;rw[show l.toArray[k]?=some o by simpa using hi];exact this
 .rw [List.mem_singleton]at hk;subst hk;have:=h' a w hf ha;unfold wpOp;rw[show l.toArray[k]?=some o' by simpa using hj];exact this
end Go.J
namespace Go.S
open Go.Hp Go.J
variable{P:Program}{w0:World}{Q:Exit→Act→World→Prop}{n:Nat}{E:Env}{Z:bK}{As:List aW}{o o':Oper}{l:List Oper}{Ks:List aW}{fuel:Nat}{aG:Array Bool}
theorem aN(i j:Nat)(h:SL P w0 l.toArray (jm P l Q (HS Z Ks) fuel (aG.setIfInBounds i true)) n [o] E Z As)(h':SL P w0 l.toArray (jm P l Q (HS Z Ks) fuel (aG.setIfInBounds j true)) n [o'] E Z As)(hi:l[i]?=some o:=by rfl)(hj:l[j]?=some o':=by rfl)(hr:Region.ready .any l.toArray aG=[i,j]:=by kernel_rfl):SH P w0 l Q n Z Ks (fuel+1) aG E As:=
 fun H hH=>Sf i j hi hj hr (h H hH) (h' H hH)
end Go.S
end
section
namespace Go.S
open Go.Hp Go.J
section
variable{P:Program}{w0:World}{ops:Array Oper}{Q:Exit→Act→World→Prop}{n:Nat}{E:Env}{Z:bK}{As:List aW}{α β γ δ:Type}
theorem mC{c:Code}{p:α→β→Prop}{Bs:α→β→List aW}(hA:∀H,Holds Z As H→∃x y,p x y∧Holds Z (Bs x y) H)(h:∀x y,p x y→SK P w0 c Q n E Z (Bs x y)):SK P w0 c Q n E Z As:=fun H hH=>by
 obtain⟨x,y,hp,hB⟩:=hA H hH;exact h x y hp H hB
theorem cF{l:List Oper}{p:α→β→Prop}{Bs:α→β→List aW}(hA:∀H,Holds Z As H→∃x y,p x y∧Holds Z (Bs x y) H)(h:∀x y,p x y→SL P w0 ops Q n l E Z (Bs x y)):SL P w0 ops Q n l E Z As:=fun H hH=>by
 obtain⟨x,y,hp,hB⟩:=hA H hH;exact h x y hp H hB
theorem kN{c:Code}{p:α→β→γ→Prop}{Bs:α→β→γ→List aW}(hA:∀H,Holds Z As H→∃x y z,p x y z∧Holds Z (Bs x y z) H)(h:∀x y z,p x y z→SK P w0 c Q n E Z (Bs x y z)):SK P w0 c Q n E Z As:=fun H hH=>by
 obtain⟨x,y,z,hp,hB⟩:=hA H hH;exact h x y z hp H hB
theorem dc{l:List Oper}{p:α→β→γ→Prop}{Bs:α→β→γ→List aW}(hA:∀H,Holds Z As H→∃x y z,p x y z∧Holds Z (Bs x y z) H)(h:∀x y z,p x y z→SL P w0 ops Q n l E Z (Bs x y z)):SL P w0 ops Q n l E Z As:=fun H hH=>by
 obtain⟨x,y,z,hp,hB⟩:=hA H hH;exact h x y z hp H hB
theorem FP{c:Code}{p:α→β→γ→δ→Prop}{Bs:α→β→γ→δ→List aW}(hA:∀H,Holds Z As H→∃x y z u,p x y z u∧Holds Z (Bs x y z u) H)(h:∀x y z u,p x y z u→SK P w0 c Q n E Z (Bs x y z u)):SK P w0 c Q n E Z As:=fun H hH=>by
 obtain⟨x,y,z,u,hp,hB⟩:=hA H hH;exact h x y z u hp H hB
theorem dL{l:List Oper}{p:α→β→γ→δ→Prop}{Bs:α→β→γ→δ→List aW}(hA:∀H,Holds Z As H→∃x y z u,p x y z u∧Holds Z (Bs x y z u) H)(h:∀x y z u,p x y z u→SL P w0 ops Q n l E Z (Bs x y z u)):SL P w0 ops Q n l E Z As:=fun H hH=>by
 obtain⟨x,y,z,u,hp,hB⟩:=hA H hH;exact h x y z u hp H hB
end
end Go.S
end
section
namespace Go.S
open Go.Hp Go.J
open Go.Mem (Ty fS blk hZ)
section
variable{κ β:Type}[DecidableEq κ]
def gf(es:Array MapEntry)(i:Nat):Nat:=((es.toList.map (·.born))[i]?).getD 0
def Rg(H:bb)(K:fS κ)(V:β→Value)(b r:Nat)(m done:List (κ×β)):Prop:=
 ∃(es:Array MapEntry) (clock:Nat) (ix:List Nat),H[b]?=some (.map es clock)∧es.toList.map (fun e=>(e.key,e.val))=m.map (fun p=>(K.val p.1,V p.2))∧(m.map Prod.fst).Nodup∧hZ es.toList clock
  ∧ H[r]?=some (.mapIter (some b) clock (ix.map (gf es)).toArray clock)∧ix.Nodup∧(∀i∈ix,i<m.length)∧done.map some=ix.map (fun i=>m[i]?)
theorem Rg.kept{H H':bb}{K:fS κ}{V:β→Value}{b r:Nat}{m done:List (κ×β)}(h:Rg H K V b r m done)(h1:H'[b]?=H[b]?)(h2:H'[r]?=H[r]?):Rg H' K V b r m done:=by
 obtain⟨es,clock,ix,a,e,n,s,c,d⟩:=h;exact⟨es,clock,ix,h1.trans a,e,n,s,h2.trans c,d⟩
theorem Rg.lt1{H:bb}{K:fS κ}{V:β→Value}{b r:Nat}{m done:List (κ×β)}(h:Rg H K V b r m done):b<H.size:=by
 obtain⟨es,clock,ix,a,_⟩:=h;exact fh a
theorem Rg.lt2{H:bb}{K:fS κ}{V:β→Value}{b r:Nat}{m done:List (κ×β)}(h:Rg H K V b r m done):r<H.size:=by
 obtain⟨es,clock,ix,_,_,_,_,a,_⟩:=h;exact fh a
def rgA(K:fS κ)(V:β→Value)(b r:Nat)(m done:List (κ×β)):aW where
 on H S:=Rg H K V b r m done∧∀k,S k↔k=b∨k=r
 lt h k hk:=by
  rcases (h.2 k).1 hk with rfl|rfl
  .exact h.1.lt1
  exact h.1.lt2
 keep h hk:=⟨h.1.kept (hk _ ((h.2 _).2 (.inl rfl))) (hk _ ((h.2 _).2 (.inr rfl))),h.2⟩
theorem FQ{m done:List (κ×β)}{ix:List Nat}(hn:ix.Nodup)(hl:∀i∈ix,i<m.length)(hd:done.map some=ix.map (fun i=>m[i]?))(ha:∀i,i<m.length→i∈ix):done.Perm m:=by
 have hp:ix.Perm (List.range m.length):=by grind
 have h1:(done.map some).Perm ((List.range m.length).map (fun i=>m[i]?)):=by rw[hd];exact hp.map _
 have h2:(List.range m.length).map (fun i=>m[i]?)=m.map some:=by
  apply List.ext_getElem?;grind
 rw[h2]at h1;have h3:=h1.filterMap id;simpa [List.filterMap_map]using h3
theorem uD:∀(n:Nat) (l:List Nat),l.Nodup→(∀i∈l,i<n)→l.length≤n
 | 0,l,_,h=>by
  cases l with
  | nil=>simp
  | cons a r=>exact absurd (h a (by simp)) (Nat.not_lt_zero _)
 | n+1,l,hn,h=>by
  by_cases hm:n∈l
  .have h1:=uD n (l.erase n) (hn.erase n) fun i hi=>by grind
   grind
  have:=uD n l hn fun i hi=>by grind
  omega
theorem born_inj{es:Array MapEntry}{clock:Nat}(h:hZ es.toList clock){i j:Nat}(hi:i<es.size)(hj:j<es.size)(e:gf es i=gf es j):i=j:=by
 unfold gf at e;have h1:i<(es.toList.map (·.born)).length:=by grind
 have h2:j<(es.toList.map (·.born)).length:=by grind
 rw[List.getElem?_eq_getElem h1,List.getElem?_eq_getElem h2,Option.getD_some,Option.getD_some]at e;exact (List.getElem_inj (h:=h.1)).1 e
theorem Rg.start{H':bb}{K:fS κ}{V:β→Value}{b r:Nat}{m:List (κ×β)}{es:Array MapEntry}{clock:Nat}(h1:H'[b]?=some (.map es clock))(h2:es.toList.map (fun e=>(e.key,e.val))=m.map (fun p=>(K.val p.1,V p.2)))(h3:(m.map Prod.fst).Nodup)(h4:hZ es.toList clock)(h5:H'[r]?=some (.mapIter (some b) clock #[] clock)):Rg H' K V b r m []:=
 ⟨es,clock,[],h1,h2,h3,h4,h5,List.nodup_nil,by simp,by simp⟩
theorem Rg.mp{H:bb}{K:fS κ}{V:β→Value}{b r:Nat}{m done:List (κ×β)}(h:Rg H K V b r m done):Mp H K V b m:=by
 obtain⟨es,clock,ix,a,e,n,s,_⟩:=h;exact⟨es,clock,a,e,n,s⟩
end
section
variable{κ β:Type}[DecidableEq κ]{P:Program}{w0:World}{ops:Array Oper}{Q:Exit→Act→World→Prop}{n:Nat}{E:Env}{Z:bK}{As:List aW}{o:Oper}{rest:List Oper}{K:fS κ}{V:β→Value}{b r:Nat}{m done:List (κ×β)}
theorem Holds.unrange{H:bb}(i:Nat)(h:Holds Z As H)(hi:gt As i=some (rgA K V b r m done):=by rfl):Holds Z (upd As i (dr K V b m)) H:=
 h.step hi fun S ⟨h1,h2⟩=>⟨fun k=>k=b,⟨h1.mp,fun k=>Iff.rfl⟩,Chg.refl _ _,fun k hk=>.inl ((h2 k).2 (.inl hk))⟩
theorem Sg{x:Operand}{t e:TypeId}{d:Nat}(i:Nat)(ht:P.underlying t=some (.map K.id e))(h:∀r,SL P w0 ops Q n rest ((d,.pointer (some ⟨r,0,none⟩))::E) Z (upd As i (rgA K V b r m [])))
  (ho:o.op=.range t x:=by rfl) (hA:gt As i=some (dr K V b m):=by rfl) (hx:ev E x=.map (some b):=by rfl) (hd:o.dst=some d:=by rfl) (hk:cU ops n E o=true:=by kernel_rfl):SL P w0 ops Q n (o::rest) E Z As:=fun H hH=>by
 obtain⟨es,clock,hb,h2,h3,h4⟩:=hH.mp hA;refine C9 (v:=fun g=>.pointer (some ⟨g,0,none⟩)) (ob:=.mapIter (some b) clock #[] clock) hk (fun w hw=>?_) fun g H' hn=>?_
 .unfold execOp;simp only[ho,hx];exact Mem.run_v (run_range_map w t K.id e b es clock ht (by rw[hw];exact hb))
 .rw [hd];refine h g H' (hH.step hA fun S ⟨_,hS⟩=>⟨fun k=>k=b∨k=g,⟨Rg.start (es:=es) ?_ h2 h3 h4 hn.is,fun k=>Iff.rfl⟩,hn.chg S,?_⟩)
  .rw [(hn.chg (fun _=>False)).block b (fh hb) (fun h=>h)];exact hb
  rintro k (rfl|rfl)
  .exact .inl ((hS _).2 rfl)
  exact .inr (Nat.le_of_eq hn.at_.symm)
theorem FR (w : World) (ty : TypeId) (r bm clock : Nat) (seen : Array Nat) (es : Array MapEntry) (hb : w.heap[bm]? = some (.map es clock)) (hr : w.heap[r]? = some (.mapIter (some bm) clock seen clock)) (hold : ∀ x ∈ es.toList, x.born < clock) :
    ((leftOf es seen).size = 0 ∧ (Instr.next (.pointer (some ⟨r, 0, none⟩)) false ty).run P w = .ok (.tuple #[.bool false]) w) ∨
    ∃ e ∈ (leftOf es seen).toList, ∃ w1 : World, (w1.os = w.os ∧ w1.tape = w.tape ∧ w1.output = w.output) ∧ (Instr.next (.pointer (some ⟨r, 0, none⟩)) false ty).run P w = .ok (.tuple #[.bool true, e.key, e.val]) { w1 with heap := w.heap.setIfInBounds r (.mapIter (some bm) clock (seen.push e.born) clock) } := by
  simp only [Instr.next, getObj, Sem.run_bind, Sem.run, hr, hb, Result.andThen, next_test_false seen es clock clock hold (Nat.le_refl _), Bool.false_eq_true, if_false]
  unfold leftOf
  have um : ∀ x ∈ (Array.filter (fun e => !seen.contains e.born) es).toList, x.born < clock := fun x hx => hold x (by simp at hx ⊢; exact hx.1)
  generalize Array.filter (fun e => !seen.contains e.born) es = L at um ⊢
  have e1 : L.filter (fun x => decide (x.born < clock)) = L := Array.filter_eq_self.2 (fun x hx => by simpa using um x (by simpa using hx))
  have e2 : L.filter (fun x => decide (x.born ≥ clock)) = #[] := by
    rw [Array.filter_eq_empty_iff]
    intro x hx
    have := um x (by simpa using hx)
    simp
    omega
  simp only [e1, e2, Array.append_empty]
  by_cases h0 : L.size = 0
  · left
    have : L = #[] := Array.eq_empty_of_size_eq_zero h0
    subst this
    refine ⟨rfl, ?_⟩
    simp [choose, Sem.run, Question.forced]
  · right
    have l7 : L.isEmpty = false := by simp [Array.isEmpty, h0]
    simp only [l7, Bool.false_eq_true, if_false, Array.empty_append, Array.size_map]
    have hch : ∃ (j : Nat) (w1 : World), j < L.size ∧ (w1.os = w.os ∧ w1.tape = w.tape ∧ w1.output = w.output) ∧ w1.heap = w.heap ∧ (choose (Question.mapNext L.size)).run P w = .ok j w1 := by
      by_cases hf : L.size ≤ 1
      · exact ⟨0, w, by omega, ⟨rfl, rfl, rfl⟩, rfl, by simp [choose, Sem.run, Question.forced, hf]⟩
      · exact ⟨_, w.drew, Nat.mod_lt _ (by omega), ⟨rfl, rfl, rfl⟩, rfl, by
          simp only [choose, Sem.run, Question.forced, decide_eq_true_eq, hf, if_false, Question.cut]
          rfl⟩
    obtain ⟨j, w1, hj, wH, aa2, jd⟩ := hch
    refine ⟨L[j], by simp, w1, wH, ?_⟩
    have hset : ∀ o' : Obj, (setObj r o').run P w1 = .ok () { w1 with heap := w.heap.setIfInBounds r o' } := fun o' => by
      simp only [setObj, Sem.run, aa2, hr]
    simp only [jd, Array.getElem?_map, Array.getElem?_eq_getElem hj, Option.map_some, Sem.run_bind, hset, Result.andThen]
    rfl
theorem M4{es:Array MapEntry}(h:es.toList.map (fun e=>(e.key,e.val))=m.map (fun p=>(K.val p.1,V p.2))):es.size=m.length:=by
 have:=congrArg List.length h;simpa using this
theorem Vz{es:Array MapEntry}(h:es.toList.map (fun e=>(e.key,e.val))=m.map (fun p=>(K.val p.1,V p.2))){i:Nat}{e:MapEntry}(he:es.toList[i]?=some e):∃p,m[i]?=some p∧e.key=K.val p.1∧e.val=V p.2:=by
 have:=congrArg (·[i]?) h;simp only[List.getElem?_map,he,Option.map_some]at this;cases hm:m[i]? with
 | none=>rw[hm]at this;simp at this
 | some p=>rw[hm]at this;simp at this;exact⟨p,rfl,this.1,this.2⟩
theorem Xr{x:Operand}{d:Nat}(i:Nat)(h1:done.Perm m→SL P w0 ops Q n rest ((d,.tuple #[.bool false])::E) Z As)
  (h2:∀k u,(k,u)∈m→k∉done.map Prod.fst→done.length<m.length→SL P w0 ops Q n rest ((d,.tuple #[.bool true,K.val k,V u])::E) Z (upd As i (rgA K V b r m (done++[(k,u)]))))
  (ho:o.op=.next x false:=by rfl) (hA:gt As i=some (rgA K V b r m done):=by rfl) (hx:ev E x=.pointer (some ⟨r,0,none⟩):=by rfl) (hd:o.dst=some d:=by rfl) (hk:cU ops n E o=true:=by kernel_rfl):SL P w0 ops Q n (o::rest) E Z As:=fun H hH=>by
 obtain⟨S,⟨⟨es,clock,ix,hb,HQ,hm,dM,hr,hn,hl,Sh⟩,hS⟩,_⟩:=hH.part hA;have hlen:=M4 HQ;have ud:done.length=ix.length:=by have:=congrArg List.length Sh;simpa using this
 refine sG (R:=fun v' H'=>(v'=.tuple #[.bool false]∧H'=H∧(leftOf es (ix.map (gf es)).toArray).size=0)∨∃e∈(leftOf es (ix.map (gf es)).toArray).toList,v'=.tuple #[.bool true,e.key,e.val]∧H'=H.setIfInBounds r (.mapIter (some b) clock ((ix.map (gf es)).toArray.push e.born) clock)) hk (fun w ha=>?_) fun v' H' hR=>?_
 .have hw:=ha.heap;rcases FR (P:=P) w o.type r b clock (ix.map (gf es)).toArray es (by rw[hw];exact hb) (by rw[hw];exact hr) dM.2 with ⟨h0,jd⟩|⟨e,he,w1,wH,jd⟩
  .exact ⟨_,w,by unfold execOp;simp only[ho,hx];exact Mem.run_v jd,⟨rfl,ha.os,ha.tape,ha.output⟩,.inl ⟨rfl,hw,h0⟩⟩
  refine⟨_,_,by unfold execOp;simp only[ho,hx];exact Mem.run_v jd,?_,.inr ⟨e,he,rfl,by rw[hw]⟩⟩;exact⟨rfl,wH.1.trans ha.os,wH.2.1.trans ha.tape,wH.2.2.trans ha.output⟩
 .rw [hd];rcases hR with ⟨rfl,rfl,h0⟩|⟨e,he,rfl,rfl⟩
  .refine h1 (FQ hn hl Sh fun i hi=>?_) _ hH;have Q0:i<es.size:=by omega
   have sX:es[i]∈es:=Array.getElem_mem Q0;have Si:¬es[i]∈leftOf es (ix.map (gf es)).toArray:=by
    have:leftOf es (ix.map (gf es)).toArray=#[]:=Array.eq_empty_of_size_eq_zero h0;rw[this];simp
   unfold leftOf at Si;rw[Array.mem_filter]at Si;simp only[sX,true_and,Bool.not_eq_true',Bool.not_eq_false,List.contains_toArray,List.contains_iff_mem,List.mem_map]at Si;obtain⟨j,hj,e⟩:=Si;have hb':gf es i=es[i].born:=by unfold gf;simp[Q0]
   have:j=i:=born_inj dM (by have:=hl j hj;omega) Q0 (by rw[hb'];exact e);exact this▸hj
  have WE:e∈es∧e.born∉ix.map (gf es):=by
   have:=he;unfold leftOf at this;simp at this;refine⟨this.1,fun RT=>?_⟩;obtain⟨j,hj,ej⟩:=List.mem_map.1 RT;exact this.2 j hj ej
  obtain⟨i',Q0,hei⟩:=Array.getElem_of_mem WE.1;have heL:es.toList[i']?=some e:=by rw[Array.getElem?_toList,Array.getElem?_eq_getElem Q0,hei]
  obtain⟨⟨k,u⟩,hp,ek,eu⟩:=Vz HQ heL;have hbi:gf es i'=e.born:=by unfold gf;rw[List.getElem?_map,heL];rfl
  have hni:i'∉ix:=fun h=>WE.2 (List.mem_map.2 ⟨i',h,hbi⟩)
  have aa3:∀q∈done,∃j∈ix,m[j]?=some q:=fun q hq=>by
   have:some q∈done.map some:=List.mem_map.2 ⟨q,hq,rfl⟩;rw[Sh]at this;obtain⟨j,hj,ej⟩:=List.mem_map.1 this;exact⟨j,hj,ej⟩
  have hkd:k∉done.map Prod.fst:=fun h=>by
   obtain⟨q,hq,eq⟩:=List.mem_map.1 h;obtain⟨j,hj,ej⟩:=aa3 q hq;have hlj:=hl j hj;have Sj:i'<m.length:=by omega
   have:j=i':=by
    have zy:j<(m.map Prod.fst).length:=by simpa using hlj
    have cQ:i'<(m.map Prod.fst).length:=by simpa using Sj
    refine (List.getElem_inj (h:=hm) (h₀:=zy) (h₁:=cQ)).1 ?_;rw[List.getElem?_eq_getElem hlj]at ej;rw[List.getElem?_eq_getElem Sj]at hp;simp only[List.getElem_map];rw[Option.some.inj ej,Option.some.inj hp];exact eq
   exact hni (this▸hj)
  have nC:done.length<m.length:=by
   rw[ud];have qW:(i'::ix).Nodup:=List.nodup_cons.2 ⟨hni,hn⟩;have:=uD m.length (i'::ix) qW fun j hj=>by
    rcases List.mem_cons.1 hj with rfl|h
    .omega
    exact hl j h
   simp at this;omega
  have hv:(Value.tuple #[.bool true,e.key,e.val])=.tuple #[.bool true,K.val k,V u]:=by rw[ek,eu]
  rw[hv];refine h2 k u (List.mem_of_getElem? hp) hkd nC _ (hH.step hA fun S' CG=>⟨S',⟨⟨es,clock,ix++[i'],?_,HQ,hm,dM,?_,?_,?_,?_⟩,CG.2⟩,?_,fun k hk=>.inl hk⟩)
  .have hbr:b≠r:=fun h=>by rw[h]at hb;rw[hb]at hr;cases hr
   rw[Array.getElem?_setIfInBounds_ne (fun h=>hbr h.symm)];exact hb
  .rw [Array.getElem?_setIfInBounds_self_of_lt (fh hr)];simp[hbi]
  .rw [List.nodup_append];exact⟨hn,by simp,fun a ha b hb=>by simp at hb;subst hb;exact fun h=>hni (h▸ha)⟩
  .intro j hj;rcases List.mem_append.1 hj with h|h
   .exact hl j h
   simp at h;omega
  .simp [Sh,hp]
  exact⟨by simp,fun j _ hj=>by rw[Array.getElem?_setIfInBounds_ne (fun h=>hj ((CG.2 j).2 (.inr h.symm)))]⟩
theorem Sk{x:Operand}{k:κ}{u:β}(i:Nat)(hA:gt As i=some (rgA K V b r m (done++[(k,u)])):=by rfl)(ho:o.op=.entry x:=by rfl)(hx:ev E x=.pointer (some ⟨r,0,none⟩):=by rfl):Lt P E o Z As (.tuple #[K.val k,V u]):=fun H hH=>by
 obtain⟨S,⟨⟨es,clock,ix,hb,HQ,hm,dM,hr,hn,hl,Sh⟩,hS⟩,_⟩:=hH.part hA;refine⟨fun w hw=>?_⟩;subst hw;unfold execOp;simp only[ho,hx];refine Mem.run_v ?_;rw[List.map_append,List.map_cons,List.map_nil]at Sh;rcases List.eq_nil_or_concat ix with rfl|⟨ix0,j,rfl⟩
 .simp at Sh
 rw[List.concat_eq_append,List.map_append,List.map_cons,List.map_nil]at Sh;have hj:=(List.append_inj' Sh rfl).2;simp only[List.cons.injEq,and_true]at hj;have Xl:j<es.size:=by rw[M4 HQ];exact hl j (by simp)
 have heL:es.toList[j]?=some es[j]:=by rw[Array.getElem?_toList,Array.getElem?_eq_getElem Xl]
 obtain⟨p,hp,ek,eu⟩:=Vz HQ heL;rw[←hj]at hp;cases hp;have hbj:gf es j=es[j].born:=by unfold gf;rw[List.getElem?_map,heL];rfl
 have hf:es.find? (·.born == gf es j)=some es[j]:=by rw[hbj,←Array.find?_toList];exact find_born es[j] es.toList dM.1 (by simp)
 have aa4:((List.concat ix0 j).map (gf es)).toArray.back?=some (gf es j):=by simp
 simp only[Instr.entry,getObj,Sem.run_bind,Sem.run,hr,hb,Result.andThen,aa4,bne_self_eq_false,Bool.false_eq_true,if_false,hf];show Result.ok (Value.tuple #[es[j].key,es[j].val]) w=_;rw[ek,eu]
end
section
theorem M5{F:bb→Prop}{H H':bb}{S:Nat→Prop}(h:(∀k,S k→k<H.size)∧∀H':bb,(∀k,S k→H'[k]?=H[k]?)→F H')(hk:∀k,S k→H'[k]?=H[k]?):(∀k,S k→k<H'.size)∧∀H2:bb,(∀k,S k→H2[k]?=H'[k]?)→F H2:=by grind
def frz(F:bb→Prop):aW where
 on H S:=(∀k,S k→k<H.size)∧∀H':bb,(∀k,S k→H'[k]?=H[k]?)→F H'
 lt h:=h.1
 keep h hk:=M5 h hk
variable{Z:bK}{As:List aW}{H:bb}{α:Type}{T:Ty α}{v:Value}{L:List α}{F G:bb→Prop}
theorem Holds.frzF(h:Holds Z As H)(i:Nat)(hi:gt As i=some (frz F):=by rfl):F H:=by
 obtain⟨S,hS,_⟩:=h.part hi;exact hS.2 H fun _ _=>rfl
theorem Holds.frz0(h:Holds Z As H)(hF:∀H,F H):Holds Z (frz F::As) H:=
 h.new (Chg.refl _ _) (S':=fun _=>False) ⟨fun _ h=>h.elim,fun H' _=>hF H'⟩ fun _ h=>h.elim
theorem Holds.frzO(h:Holds Z (own T v L::frz F::As) H):Holds Z (frz (fun H=>Sl H T v L∧F H)::As) H:=h.imp fun S hS=>by
 obtain⟨S1,S2,h1,⟨S3,S4,h3,h4,CF,CG⟩,hd,hS⟩:=hS;refine⟨fun k=>S1 k∨S3 k,S4,⟨?_,fun H' hk=>⟨?_,h3.2 H' fun k hS=>hk k (.inr hS)⟩⟩,h4,?_,?_⟩
 .rintro k (a|a)
  .exact (own T v L).lt h1 k a
  exact h3.1 k a
 .have:=(own T v L).keep h1 fun k a=>hk k (.inl a)
  exact this.1.sl
 .rintro k (a|a) b
  .exact hd k a ((CG k).2 (.inr b))
  exact CF k a b
 intro k;rw[hS k,CG k];simp[or_assoc]
theorem Holds.frzM(hF:∀H,F H→G H)(h:Holds Z (frz F::As) H):Holds Z (frz G::As) H:=h.imp fun S ⟨S1,S2,h1,h2,hd,hS⟩=>⟨S1,S2,⟨h1.1,fun H' hk=>hF H' (h1.2 H' hk)⟩,h2,hd,hS⟩
theorem Holds.frzJ(h:Holds Z (frz F::frz G::As) H):Holds Z (frz (fun H=>F H∧G H)::As) H:=h.imp fun S hS=>by
 obtain⟨S1,S2,h1,⟨S3,S4,h3,h4,CF,CG⟩,hd,hS⟩:=hS;refine⟨fun k=>S1 k∨S3 k,S4,⟨?_,fun H' hk=>⟨h1.2 H' fun k hS=>hk k (.inl hS),h3.2 H' fun k hS=>hk k (.inr hS)⟩⟩,h4,?_,?_⟩
 .rintro k (a|a)
  .exact h1.1 k a
  exact h3.1 k a
 .rintro k (a|a) b
  .exact hd k a ((CG k).2 (.inr b))
  exact CF k a b
 intro k;rw[hS k,CG k];simp[or_assoc]
end
end Go.S
end
section
namespace Go.S
open Go.Hp Go.J
open Go.Mem (Ty fS blk)
def VB(Z:bK)(H:bb):Prop:=∀k,Z.dom k→H[k]?=Z.heap[k]?∧k<H.size
structure Dq(Z Z':bK)(K:aW):Prop where
 sub:∀H,VB Z' H→VB Z H
 has:∀H,VB Z' H→∃S,K.on H S
section
variable{P:Program}{Z Z':bK}{As Ah Bs:List aW}{H H':bb}{K:aW}{α:Type}{T:Ty α}{v:Value}{L:List α}{F:bb→Prop}
theorem Dq.kn(h:Dq Z Z' K)(k:Kn Z T v L):Kn Z' T v L:=fun H hz=>k H (h.sub H hz)
theorem Dq.own(h:Dq Z Z' (own T v L)):Kn Z' T v L:=fun H hz=>by
 obtain⟨S,hS⟩:=h.has H hz;exact hS.1.sl
theorem Dq.frz(h:Dq Z Z' (frz F)):∀H,VB Z' H→F H:=fun H hz=>by
 obtain⟨S,hS⟩:=h.has H hz;exact hS.2 H fun _ _=>rfl
theorem Sm(h:Holds Z (K::As) H):∃Z',Dq Z Z' K∧Holds Z' As H∧∀Bs H',Holds Z' Bs H'→Holds Z (K::Bs) H':=by
 obtain⟨S,⟨S1,S2,h1,h2,CF,hS⟩,hd⟩:=h.sep;refine⟨⟨H,fun k=>Z.dom k∨S1 k⟩,⟨fun H2 hz k hk=>?_,fun H2 hz=>⟨S1,K.keep h1 fun k hk=>(hz k (.inr hk)).1⟩⟩,⟨fun k hk=>?_,S2,h2,fun k hk=>?_⟩,fun Bs H2 h3=>?_⟩
 .have:=hz k (.inl hk);exact⟨this.1.trans (h.zone k hk).1,this.2⟩
 .rcases hk with hk|hk
  .exact ⟨rfl,(h.zone k hk).2⟩
  exact⟨rfl,K.lt h1 k hk⟩
 .rintro (hz|hz)
  .exact hd k ((hS k).2 (.inr hk)) hz
  exact CF k hz hk
 obtain⟨S3,h4,h5⟩:=h3.sep;refine⟨fun k hk=>?_,fun k=>S1 k∨S3 k,⟨S1,S3,K.keep h1 fun k hk=>(h3.zone k (.inr hk)).1,h4,fun k a b=>h5 k b (.inr a),fun k=>Iff.rfl⟩,?_⟩
 .have:=h3.zone k (.inl hk);exact⟨this.1.trans (h.zone k hk).1,this.2⟩
 rintro k (a|a) hz
 .exact hd k ((hS k).2 (.inl a)) hz
 exact h5 k a (.inl hz)
variable{w0:World}{ops:Array Oper}{Q:Exit→Act→World→Prop}{n:Nat}{E:Env}{o:Oper}{rest:List Oper}{f:FuncId}{xs:Array Operand}{ts:Array TypeId}{vals:List Value}{R:Value→List aW→Prop}
theorem nO{d:Nat}(i:Nat)(is:List Nat)(hc:∀Z',Dq Z Z' K→SF P f vals.toArray Z' Ah R)(h:∀v Bs,R v Bs→SL P w0 ops Q n rest ((d,v)::E) Z (K::Bs))(hi:gt As i=some K:=by rfl)(hp:rearr (del As i) is=Ah:=by rfl)
  (ho:o.op=.call { callee:=.value (.func f),args:=xs,argTypes:=ts }:=by rfl) (hx:(xs.toList.map (ev E))=vals:=by rfl) (hd:o.dst=some d:=by rfl) (hfn:rI P f=true:=by kernel_rfl) (hk:cU ops n E o=true:=by kernel_rfl):SL P w0 ops Q n (o::rest) E Z As:=fun H hH=>by
 obtain⟨Z',hl,h1,h2⟩:=Sm (hH.pull hi);exact FF ho vals hk hx hfn (hc Z' hl H (hp▸h1.rearr is)) fun v H' ⟨Bs,hr,hB⟩=>by rw[hd];exact h v Bs hr H' (h2 Bs H' hB)
def iD(Z:bK)(F:bb→Prop):aW:=frz fun H=>VB Z H→F H
theorem Holds.zfrF(h:Holds Z As H)(i:Nat)(hi:gt As i=some (iD Z F):=by rfl):F H:=h.frzF i hi h.zone
theorem Holds.zfr0(h:Holds Z As H)(hF:∀H,VB Z H→F H):Holds Z (iD Z F::As) H:=h.frz0 hF
theorem Holds.zfrO(h:Holds Z (own T v L::iD Z F::As) H):Holds Z (iD Z (fun H=>Sl H T v L∧F H)::As) H:=(Holds.frzO h).frzM fun H h hz=>⟨h.1,h.2 hz⟩
theorem Holds.zfrM{G:bb→Prop}(hF:∀H,VB Z H→F H→G H)(h:Holds Z (iD Z F::As) H):Holds Z (iD Z G::As) H:=Holds.frzM (fun H h hz=>hF H hz (h hz)) h
theorem Holds.zfrJ{G:bb→Prop}(h:Holds Z (iD Z F::iD Z G::As) H):Holds Z (iD Z (fun H=>F H∧G H)::As) H:=(Holds.frzJ h).frzM fun H h hz=>⟨h.1 hz,h.2 hz⟩
theorem Holds.toZ(h:Holds Z (frz F::As) H):Holds Z (iD Z F::As) H:=h.frzM fun _ h _=>h
end
end Go.S
end
section
namespace Go.J
open Go.Hp
variable{P:Program}{w0:World}{Q:Exit→Act→World→Prop}{n:Nat}{E:Env}{H:bb}{o o' o2:Oper}{l:List Oper}{S:bb→Prop}{fuel:Nat}{aG:Array Bool}
theorem Sn(i j m:Nat)(hi:l[i]?=some o)(hj:l[j]?=some o')(hm:l[m]?=some o2)(hr:Region.ready .any l.toArray aG=[i,j,m])
  (h:JL P w0 l.toArray (jm P l Q S fuel (aG.setIfInBounds i true)) n [o] E H)
  (h':JL P w0 l.toArray (jm P l Q S fuel (aG.setIfInBounds j true)) n [o'] E H)
  (h2:JL P w0 l.toArray (jm P l Q S fuel (aG.setIfInBounds m true)) n [o2] E H):JH P w0 l Q n S (fuel+1) aG E H:=by
 intro a w hf ha;refine wpAnyH_all hr (by simp) ?_;intro k hk;rcases List.mem_cons.1 hk with rfl|hk
 .have:=h a w hf ha;unfold wpOp;rw[show l.toArray[k]?=some o by simpa using hi];exact this
 .rcases List.mem_cons.1 hk with rfl|hk
  .have:=h' a w hf ha;unfold wpOp;rw[show l.toArray[k]?=some o' by simpa using hj];exact this
  rw[List.mem_singleton]at hk;subst hk;have:=h2 a w hf ha;unfold wpOp;rw[show l.toArray[k]?=some o2 by simpa using hm];exact this
theorem Sp(L:List (Nat×Oper))(hL:(L.all fun p=>(l[p.1]?).isSome)=true)(hr:Region.ready .any l.toArray aG=L.map (·.1))(l7:L≠[])
  (h:∀p∈L,l[p.1]?=some p.2∧JL P w0 l.toArray (jm P l Q S fuel (aG.setIfInBounds p.1 true)) n [p.2] E H):JH P w0 l Q n S (fuel+1) aG E H:=by
 intro a w hf ha;refine wpAnyH_all hr (by simpa using l7) ?_;intro k hk;obtain⟨p,hp,rfl⟩:=List.mem_map.1 hk;obtain⟨h1,h2⟩:=h p hp;have:=h2 a w hf ha;unfold wpOp;rw[show l.toArray[p.1]?=some p.2 by simpa using h1];exact this
end Go.J
namespace Go.S
open Go.Hp Go.J
theorem xB {P : Program} {w0 : World} {Q : Exit → Act → World → Prop} {n : Nat} {E : Env} {Z : bK} {As : List aW} {o o' o2 o3 : Oper} {l : List Oper} {Ks : List aW} {fuel : Nat} {aG : Array Bool} (i j m q : Nat) (h : SL P w0 l.toArray (jm P l Q (HS Z Ks) fuel (aG.setIfInBounds i true)) n [o] E Z As) (h' : SL P w0 l.toArray (jm P l Q (HS Z Ks) fuel (aG.setIfInBounds j true)) n [o'] E Z As) (h2 : SL P w0 l.toArray (jm P l Q (HS Z Ks) fuel (aG.setIfInBounds m true)) n [o2] E Z As) (h3 : SL P w0 l.toArray (jm P l Q (HS Z Ks) fuel (aG.setIfInBounds q true)) n [o3] E Z As) (hi : l[i]? = some o := by rfl) (hj : l[j]? = some o' := by rfl) (hm : l[m]? = some o2 := by rfl) (hq : l[q]? = some o3 := by rfl) (hr : Region.ready .any l.toArray aG = [i, j, m, q] := by kernel_rfl) : SH P w0 l Q n Z Ks (fuel + 1) aG E As :=
  fun H hH => Sp [(i, o), (j, o'), (m, o2), (q, o3)] (by simp [hi, hj, hm, hq]) hr (by simp) (by
    intro p hp
    simp only [List.mem_cons, List.not_mem_nil, or_false] at hp
    rcases hp with rfl | rfl | rfl | rfl
    · exact ⟨hi, h H hH⟩
    · exact ⟨hj, h' H hH⟩
    · exact ⟨hm, h2 H hH⟩
    · exact ⟨hq, h3 H hH⟩)
theorem dR{P:Program}{w0:World}{Q:Exit→Act→World→Prop}{n:Nat}{E:Env}{Z:bK}{As:List aW}{o o' o2:Oper}{l:List Oper}{Ks:List aW}{fuel:Nat}{aG:Array Bool}(i j m:Nat)(h:SL P w0 l.toArray (jm P l Q (HS Z Ks) fuel (aG.setIfInBounds i true)) n [o] E Z As)(h':SL P w0 l.toArray (jm P l Q (HS Z Ks) fuel (aG.setIfInBounds j true)) n [o'] E Z As)(h2:SL P w0 l.toArray (jm P l Q (HS Z Ks) fuel (aG.setIfInBounds m true)) n [o2] E Z As)(hi:l[i]?=some o:=by rfl)(hj:l[j]?=some o':=by rfl)(hm:l[m]?=some o2:=by rfl)(hr:Region.ready .any l.toArray aG=[i,j,m]:=by kernel_rfl):SH P w0 l Q n Z Ks (fuel+1) aG E As:=
 fun H hH=>Sn i j m hi hj hm hr (h H hH) (h' H hH) (h2 H hH)
open Go.Mem (Ty fS blk hZ elemAt pre suf bN dO eB db rE adel_pos z1)
/-! ### Stars -/
theorem jq{α β:Type}(f:α→β):∀(l:List α) (i:Nat),(l.map f).eraseIdx i=(l.eraseIdx i).map f
 | [],_=>rfl
 | _::_,0=>rfl
 | a::r,i+1=>congrArg (f a::·) (jq f r i)
theorem xD:∀(L:List aW) (i:Nat),gt L i=L[i]?
 | [],_=>rfl
 | _::_,0=>rfl
 | _::r,i+1=>by rw[List.getElem?_cons_succ];exact xD r i
theorem uE:∀(L:List aW) (i:Nat) (B:aW),upd L i B=L.set i B
 | [],_,_=>rfl
 | _::_,0,_=>rfl
 | A::r,i+1,B=>congrArg (A::·) (uE r i B)
theorem del_eq:∀(L:List aW) (i:Nat),del L i=L.eraseIdx i
 | [],_=>rfl
 | _::_,0=>rfl
 | A::r,i+1=>congrArg (A::·) (del_eq r i)
abbrev star(L:List aW):aW:=zr True L
section
variable{Z:bK}{As Bs L:List aW}{H:bb}{A A':aW}{i:Nat}
theorem Holds.star_out(h:Holds Z (star L::As) H):Holds Z (L++As) H:=h.open_st.2
theorem Holds.star_in(h:Holds Z (L++As) H):Holds Z (star L::As) H:=Holds.shut_st trivial h
theorem uF{M:List aW}(hi:gt L i=some A):gt (L++M) i=some A∧del (L++M) i=del L i++M:=by grind[xD,del_eq]
theorem Holds.star_pull(h:Holds Z (star L::As) H)(hi:gt L i=some A):Holds Z (A::star (del L i)::As) H:=by
 have h1:=h.star_out.pull (uF hi).1;rw[(uF hi).2]at h1;have h2:Holds Z (del L i++(A::As)) H:=h1.perm List.perm_middle.symm;exact h2.star_in.swap
theorem Holds.star_push(hi:gt L i=some A)(h:Holds Z (A'::star (del L i)::As) H):Holds Z (star (upd L i A')::As) H:=by
 have h1:Holds Z (del L i++(A'::As)) H:=h.swap.star_out;have h2:Holds Z (A'::(del L i++As)) H:=h1.perm List.perm_middle;have h3:Holds Z (upd (L++As) i A') H:=by grind[Holds.push,uF]
 rw[uE,List.set_append_left _ _ (by rw[xD]at hi;exact (List.getElem?_eq_some_iff.1 hi).1),←uE]at h3;exact h3.star_in
theorem Holds.star_add(h:Holds Z (A::star L::As) H):Holds Z (star (L++[A])::As) H:=by
 have h1:Holds Z (L++(A::As)) H:=h.swap.star_out;grind[Holds.star_in]
theorem Holds.star_nil(h:Holds Z As H):Holds Z (star []::As) H:=Holds.star_in h
theorem Holds.star_get{ι:Type}{f:ι→aW}{l:List ι}{x:ι}(h:Holds Z (star (l.map f)::As) H)(hi:l[i]?=some x):Holds Z (f x::star ((l.eraseIdx i).map f)::As) H:=by
 have h1:=h.star_pull (i:=i) (A:=f x) (by rw[xD,List.getElem?_map,hi];rfl);grind[del_eq,jq]
theorem Holds.star_set{ι:Type}{f g:ι→aW}{l:List ι}{x:ι}(hi:l[i]?=some x)(hg:∀j y,j≠i→l[j]?=some y→g y=f y)(h:Holds Z (g x::star ((l.eraseIdx i).map f)::As) H):Holds Z (star (l.map g)::As) H:=by
 rw[←jq,←del_eq]at h;have h1:=Holds.star_push (i:=i) (A:=f x) (by rw[xD,List.getElem?_map,hi];rfl) h;rw[uE]at h1;have e:(l.map f).set i (g x)=l.map g:=by
  apply List.ext_getElem?;grind
 grind
end
/-! ### Maps -/
section
variable{κ β:Type}[DecidableEq κ]{P:Program}
theorem FT{w:World}{K:fS κ}{V:β→Value}{b:Nat}{m:List (κ×β)}(h:Mem.Mp w K V b m)(hK:fS.Ok (β:=β) K P){t e k':TypeId}(ht:P.underlying t=some (.map K.id e))(k:κ)(ty:TypeId):
  ∃w',(Builtin.delete_ #[t,k'] ty #[.map (some b),K.val k]).run P w=.ok (.tuple #[]) w'∧Mem.Mp w' K V b (eB m k)∧Mem.Chg (fun j=>j=b) w w':=by
 obtain⟨es,clock,hb,he,hn,hs⟩:=h;have hf:=hK.find k es.toList m (Mem.keys_of he) w;have hr:∀ob,(setObj b ob).run P w=.ok () { w with heap:=w.heap.setIfInBounds b ob }:=fun ob=>Mem.run_setObj_map hb ob
 unfold Builtin.delete_;simp only[List.getElem?_toArray,List.getElem?_cons_zero,List.getElem?_cons_succ,Sem.run_bind,run_underlying ht,Result.andThen_ok,Mem.run_getObj_map hb,hK.check,hf];cases hp:db m k with
 | none=>
  refine⟨_,by simp only[Option.bind_none,Sem.run_bind,hr,Result.andThen_ok,Sem.run_pure],⟨_,_,Mem.heap_setObj hb _,?_,rE hn k,hs⟩,Mem.chg_setObj _ _ _⟩;grind[z1]
 | some i=>
  obtain⟨hi,y,hy,_⟩:=Mem.apos_lt hp;obtain⟨e0,h1,h2,h3⟩:=Mem.entry_at he hy;refine⟨{ w with heap:=w.heap.setIfInBounds b (.map (es.eraseIdxIfInBounds i) clock) },by simp only[Option.bind_some,h1,Option.map_some,Sem.run_bind,hr,Result.andThen_ok,Sem.run_pure],⟨es.eraseIdxIfInBounds i,clock,Mem.heap_setObj hb _,?_,rE hn k,?_⟩,Mem.chg_setObj _ _ _⟩
  .rw [adel_pos hp,Array.toList_eraseIdxIfInBounds,←jq,←jq,he]
  refine⟨?_,fun e' WE=>?_⟩
  .rw [Array.toList_eraseIdxIfInBounds,←jq];exact hs.1.sublist (List.eraseIdx_sublist _ _)
  rw[Array.toList_eraseIdxIfInBounds]at WE;exact hs.2 e' ((List.eraseIdx_sublist _ _).subset WE)
end
section
variable{κ β:Type}[DecidableEq κ]{P:Program}{w0:World}{ops:Array Oper}{Q:Exit→Act→World→Prop}{n:Nat}{E:Env}{Z:bK}{As:List aW}{o:Oper}{rest:List Oper}{K:fS κ}{V:β→Value}{b:Nat}{m:List (κ×β)}
theorem qj{x y:Operand}{t e k':TypeId}(i:Nat)(hK:fS.Ok (β:=β) K P)(ht:P.underlying t=some (.map K.id e))(k:κ)(h:SL P w0 ops Q n rest E Z (upd As i (dr K V b (eB m k))))(ho:o.op=.call { callee:=.builtin .delete,args:=#[x,y],argTypes:=#[t,k'] }:=by rfl)(hA:gt As i=some (dr K V b m):=by rfl)(hx:ev E x=.map (some b):=by rfl)(hy:ev E y=K.val k:=by rfl)(hd:o.dst=none:=by rfl)(hk:cU ops n E o=true:=by kernel_rfl):SL P w0 ops Q n (o::rest) E Z As:=fun H hH=>by
 refine sG (R:=fun _ H'=>Upd H H' K V b (eB m k)) hk (fun w ha=>?_) (fun v' H' u=>by rw[hd];exact h H' (HM hH hA u));have RT:Mem.Mp w K V b m:=by have:=hH.mp hA;rw[←ha.heap]at this;exact this
 obtain⟨w',hr,h1,h2⟩:=FT (k':=k') (ty:=o.type) RT hK ht k;refine⟨.tuple #[],w',?_,⟨rfl,h2.os.trans ha.os,h2.tape.trans ha.tape,h2.output.trans ha.output⟩,⟨h1,?_⟩⟩
 .unfold execOp;simp only[ho,resolve,invoke,builtin,Sem.run_bind,Sem.run_pure,Result.andThen_ok,List.map_toArray,List.map_cons,List.map_nil,hx,hy,hr]
 rw[←ha.heap];exact Chg.of_mem h2
theorem M6{x:Operand}{t e:TypeId}(i:Nat)(ht:P.underlying t=some (.map K.id e))(ho:o.op=.call { callee:=.builtin .len,args:=#[x],argTypes:=#[t] }:=by rfl)(hA:gt As i=some (dr K V b m):=by rfl)(hx:ev E x=.map (some b):=by rfl):Lt P E o Z As (.int .i64 m.length):=fun H hH=>by
 obtain⟨es,clock,hb,he,hn,hs⟩:=hH.mp hA;have hl:es.size=m.length:=by have:=congrArg List.length he;simpa using this
 refine⟨fun w hw=>?_⟩;have hb':w.heap[b]?=some (.map es clock):=by rw[hw];exact hb
 unfold execOp;have:(Builtin.len_ #[t] o.type #[.map (some b)]).run P w=.ok (.int .i64 m.length) w:=by
  simp[Builtin.len_,run_underlying ht,Mem.run_getObj_map hb',goInt,hl]
 simp only[ho,resolve,invoke,builtin,Sem.run_bind,Sem.run_pure,Result.andThen_ok,List.map_toArray,List.map_cons,List.map_nil,hx,this]
/-! ### Calls of closures -/
theorem Sr{H:bb}{f:FuncId}{x:Operand}{xs:Array Operand}{ts:Array TypeId}{first cap:Array Value}(ho:o.op=.call { callee:=.value x,args:=xs,argTypes:=ts })(hf:ev E x=.func (.func f) first cap)(vals:List Value){R:Value→bb→Prop}(hk:cU ops n E o=true)(hx:(first++(xs.map (ev E)))++cap=vals.toArray)(hfn:rI P f=true)(hc:HC P f vals.toArray H R)
  (h:∀v H',R v H'→JL P w0 ops Q n rest (put E o.dst v) H'):JL P w0 ops Q n (o::rest) E H:=by
 refine HI hk (fun w=>?_) hc h;unfold execOp;simp only[ho,resolve,Deferred.ofValue,hf,Sem.run_bind,Sem.run_pure,Result.andThen_ok,invoke,hx];grind[sI]
theorem Ss{f:FuncId}{x:Operand}{xs:Array Operand}{ts:Array TypeId}{first cap:Array Value}{vals:List Value}{R:Value→List aW→Prop}{d:Nat}{Ah:List aW}(is:List Nat)(hc:SF P f vals.toArray Z Ah R)
  (h:∀v Bs,R v Bs→SL P w0 ops Q n rest ((d,v)::E) Z Bs) (hp:rearr As is=Ah:=by rfl)
  (ho:o.op=.call { callee:=.value x,args:=xs,argTypes:=ts }:=by rfl) (hf:ev E x=.func (.func f) first cap:=by rfl) (hx:(first++(xs.map (ev E)))++cap=vals.toArray:=by rfl) (hd:o.dst=some d:=by rfl) (hfn:rI P f=true:=by kernel_rfl) (hk:cU ops n E o=true:=by kernel_rfl):SL P w0 ops Q n (o::rest) E Z As:=
 fun H hH=>Sr ho hf vals hk hx hfn (hc H (hp▸hH.rearr is)) fun v H' ⟨Bs,hr,hB⟩=>by rw[hd];exact h v Bs hr H' hB
end
/-! ### s[:n:n] -/
section
variable{P:Program}{w0:World}{ops:Array Oper}{Q:Exit→Act→World→Prop}{n:Nat}{E:Env}{Z:bK}{As:List aW}{o:Oper}{rest:List Oper}{α:Type}{T:Ty α}{v:Value}{L:List α}
def pre3(v:Value)(m:Nat):Value:=match v with|.slice p _ _=>.slice p m m|x=>x
theorem M7(v:Value)(m:Nat):blk (pre3 v m)=blk v:=by
 cases v with
 | slice p l c=>cases p<;>rfl
 | _=>rfl
theorem Ow.pre3 {H : bb} (hv : Ow H T v L) (hT : T.Ok P) (m : Nat) (hm : m ≤ L.length) : Ow H T (S.pre3 v m) (L.take m) := by
  rcases hv with ⟨rfl, rfl⟩ | ⟨g, cap, arr, rfl, hg, hc, hx, hf, hr⟩
  · simp at hm; subst hm; exact .inl ⟨rfl, rfl⟩
  · have hl : (L.take m).length = m := by rw [List.length_take]; omega
    have := Nat.mul_le_mul_right T.size (Nat.le_trans hm hc)
    refine .inr ⟨g, m, arr, by rw [hl]; rfl, hg, by rw [hl]; exact Nat.le_refl _, by have : m ≤ cap := by omega
                                                                                     exact Nat.le_trans this hx, by omega, ?_⟩
    rw [hl, ← hT.flat_take, ← hr, List.take_take, Nat.min_eq_left (Nat.mul_le_mul_right _ hm)]
theorem Holds.pre3{i:Nat}{H:bb}(h:Holds Z As H)(hT:T.Ok P)(m:Nat)(hi:gt As i=some (own T v L))(hm:m≤L.length):Holds Z (upd As i (own T (S.pre3 v m) (L.take m))) H:=by
 refine h.step hi fun S ⟨h1,h2⟩=>⟨S,⟨Ow.pre3 h1 hT m hm,fun k=>?_⟩,Chg.refl _ _,fun k hk=>.inl hk⟩
 grind[M7]
theorem M8{w:World}(hv:Mem.Sl w T v L){t:TypeId}(ht:P.underlying t=some (.slice T.id))(hT:T.Ok P)(q q':IntKind)(m:Int)(h0:0≤m)(hm:m≤L.length):
  (Instr.sliceAt t v none (some (.int q m)) (some (.int q' m))).run P w=.ok (pre3 v m.toNat) w:=by
 obtain⟨p,cap,rfl⟩:=hv.form;have hc:(m:Int)≤(cap:Int):=by
  rcases hv with ⟨⟨_,h⟩,rfl⟩|⟨g,off,adV,arr,e,fr,h,hg,hc,_⟩
  all_goals grind
 have hz:∀p:Option Addr,(p.map fun x=>x.add 0)=p:=fun p=>by cases p<;>simp[Addr.add]
 simp[Instr.sliceAt,Instr.slice,run_underlying ht,Instr.sliceBounds,Instr.sliceBound,asIntOf,h0,hc,hT.run_sizeOf,pre3,hz];omega
theorem M9{x i j:Operand}{t:TypeId}{q q':IntKind}(hT:T.Ok P)(ht:P.underlying t=some (.slice T.id))(a:Acc Z As T v L)(k:Int)(m:Nat)(h0:0≤k)(hl:k≤L.length)(hm:m=k.toNat)(ho:o.op=.slice t x none (some i) (some j):=by rfl)(hx:ev E x=v:=by rfl)(hi:ev E i=.int q k:=by rfl)(hj:ev E j=.int q' k:=by rfl):Lt P E o Z As (pre3 v m):=fun H hH=>by
 subst hm;refine⟨fun w hw=>?_⟩;have hv:Mem.Sl w T v L:=by have:=a H hH;rw[←hw]at this;exact this
 unfold execOp;simp only[ho,hx,hi,hj,Option.map_none,Option.map_some];exact Mem.run_v (M8 hv ht hT q q' k h0 hl)
end
/-! ### Short spellings -/
abbrev pB(g k:Nat):Value:=.pointer (some ⟨g,k,none⟩)
theorem cD{α:Type}:(([]:List α).length=0)∧(∀(a:α) (l:List α),(a::l).length=l.length+1)∧(∀(l r:List α),(l++r).length=l.length+r.length)∧(∀(n:Nat) (l:List α),(l.take n).length=min n l.length)∧(∀(n:Nat) (l:List α),(l.drop n).length=l.length-n)∧(∀(l:List α) (i:Nat) (a:α),(l.set i a).length=l.length)∧(∀(n:Nat) (a:α),(List.replicate n a).length=n)∧(∀(l:List α),l.reverse.length=l.length):=by grind
theorem jK:(∀b,(true&&b)=b)∧(∀b,(false&&b)=false)∧(∀b,(b&&true)=b)∧(∀b,(b&&false)=false)∧(∀b,(true||b)=true)∧(∀b,(b||true)=true)∧(∀b,(false||b)=b)∧(∀b,(b||false)=b)∧(!true)=false∧(!false)=true:=by grind
section
variable{P:Program}{w0:World}{ops:Array Oper}{Q:Exit→Act→World→Prop}{n:Nat}{E:Env}{Z:bK}{As:List aW}{o:Oper}{rest:List Oper}{l:List Oper}{Ks:List aW}{fuel:Nat}{aG:Array Bool}
theorem sp(v:Value){d:Nat}(h:SL P w0 ops Q n rest ((d,v)::E) Z As)(hr:∀w,(execOp (ev E) o).run P w=.ok (.value v) w:=by exact fun _=>rfl)(hd:o.dst=some d:=by rfl)(hk:cU ops n E o=true:=by kernel_rfl):SL P w0 ops Q n (o::rest) E Z As:=
 aa0 (ai v hr) h hd hk
theorem fK{d:Nat}{v:Value}(i:Nat)(hi:l[i]?=some o)(is:List Nat){Fs:List aW}(t:∀Fs,Lt P E o Z (Ks++Fs) v)(h:SH P w0 l Q n Z Ks fuel (aG.setIfInBounds i true) ((d,v)::E) As)(hQ:NP Q:=by repeat (first|with_reducible exact ao|with_reducible apply aj|with_reducible apply aL))(hd:o.dst=some d:=by rfl)(hS:rearr As is=Ks++Fs:=by rfl)(hc:kb l aG i=true:=by kernel_rfl)(hk:cU l.toArray n E o=true:=by kernel_rfl):SH P w0 l Q n Z Ks (fuel+1) aG E As:=by grind[bR]
theorem fq{d:Nat}(i:Nat)(is:List Nat)(v:Value){Fs:List aW}(h:SH P w0 l Q n Z Ks fuel (aG.setIfInBounds i true) ((d,v)::E) As)(hi:l[i]?=some o:=by rfl)(hr:∀w,(execOp (ev E) o).run P w=.ok (.value v) w:=by exact fun _=>rfl)(hQ:NP Q:=by repeat (first|with_reducible exact ao|with_reducible apply aj|with_reducible apply aL))(hd:o.dst=some d:=by rfl)(hS:rearr As is=Ks++Fs:=by rfl)(hc:kb l aG i=true:=by kernel_rfl)(hk:cU l.toArray n E o=true:=by kernel_rfl):SH P w0 l Q n Z Ks (fuel+1) aG E As:=by grind[bR,ai]
theorem Jw{d:Nat}(i:Nat)(is:List Nat){Fs:List aW}(h:SH P w0 l Q n Z Ks fuel (aG.setIfInBounds i true) ((d,undef)::E) As)(hQ:NP Q:=by repeat (first|with_reducible exact ao|with_reducible apply aj|with_reducible apply aL))(hi:l[i]?=some o:=by rfl)(hd:o.dst=some d:=by rfl)(hS:rearr As is=Ks++Fs:=by rfl)(hc:kb l aG i=true:=by kernel_rfl)(hu:nG l.toArray E o=true:=by kernel_rfl)(hk:pa n o.dst=true:=by rfl):SH P w0 l Q n Z Ks (fuel+1) aG E As:=by grind[bS]
end
end Go.S
end
namespace Go.Proofs.YtmhpcebiamkciaaGreat
open Go.Hp Go.J Go.S
open Go.Mem (eB bN dg cL dO)
section
variable{S:List cY}{i:Nat}{s t:cY}{m:List (Vl×Nat)}{k v:Vl}
def M'(m:List (Vl×Nat))(S:List cY):Prop:=∀k,bN m k=bz S k
theorem Su:M' [] []:=fun _=>rfl
theorem HR(h:M' m S)(hl:bz S k=some i)(hs:s.key=k):M' m (S.set i s):=fun k'=>by rw[h,FM S k k' hl hs]
theorem sY(h:M' m S)(k v:Vl):M' (dO m k S.length) (S++[⟨k,v,false⟩]):=fun k'=>by
 rw[cL,pr,h];by_cases e:k'=k
 .simp [e]
 rw[if_neg e,if_neg (fun h=>e h.symm)]
theorem rN(h:M' m S)(hi:dG S)(k:Vl):(bz S k=none∧bN m k=none∧dw S k=none∧ei S k=bw)∨
  ∃i s,bz S k=some i∧bN m k=some i∧S[i]?=some s∧s.key=k∧ei S k=s.val∧dw S k=if s.gone then none else some i:=by
 cases hl:bz S k with
 | none=>exact .inl ⟨rfl,by rw[h,hl],nN hl,jU hl⟩
 | some i=>
  obtain⟨s,h1,h2,_⟩:=dv hl;exact .inr ⟨i,s,rfl,by rw[h,hl],h1,h2,jn hl h1,rL hl h1⟩
theorem HT(h:S[i]?=some t):fo (S.set i s)+(live [t]).length=fo S+(live [s]).length:=by grind[MW,fo]
theorem Na(h:S[i]?=some t)(hg:t.gone=false)(k:Vl):((fo (S.set i ⟨k,bw,true⟩):Nat):Int)=(fo S:Int)-1:=by
 have:=HT (s:=⟨k,bw,true⟩) h;grind[live]
theorem Sw(h:S[i]?=some t)(hg:t.gone=false)(k v:Vl):fo (S.set i ⟨k,v,false⟩)=fo S:=by
 have:=HT (s:=⟨k,v,false⟩) h;grind[live]
theorem sZ(S:List cY)(k v:Vl):fo (S++[⟨k,v,false⟩])=fo S+1:=by grind[fo,An]
theorem xE(S:List cY):fo (live S)=fo S:=by grind[fo,Jq]
theorem qk(h:cS k=false∨au v=false):cZ S k v=S:=by grind[cZ]
theorem mY(h1:cS k=true)(h2:au v=true)(h0:v.kind=0):cZ S k v=match dw S k with|some i=>S.set i ⟨k,bw,true⟩|none=>S:=by grind[cZ,dw]
theorem gY(h1:cS k=true)(h2:au v=true)(h0:v.kind≠0):cZ S k v=match dw S k with|some i=>S.set i ⟨k,v,false⟩|none=>(if fo S+8<S.length-fo S then live S else S)++[⟨k,v,false⟩]:=by grind[cZ,dw]
/-! ### Dropping the removed slots -/
def lE(S:List cY)(i:Nat)(k:Vl):Option Nat:=match bz (live (S.take i)) k with
 | some j=>some j
 | none=>(bz S k).bind fun j=>if i≤j then some j else none
theorem Nb(h:dG S)(hs:S[i]?=some s):bz (live (S.take i)) s.key=none:=by
 refine jD fun t ht e=>?_
 have hg:=mU ht;obtain⟨j,hj⟩:=List.mem_iff_getElem?.1 (List.mem_filter.1 ht).1;rw[List.getElem?_take]at hj;split at hj
 .rename_i FD;obtain⟨zy,e2⟩:=List.getElem?_eq_some_iff.1 hj;obtain⟨cQ,e3⟩:=List.getElem?_eq_some_iff.1 hs;have:=List.pairwise_iff_getElem.1 h.uniq j i zy cQ FD (by grind);grind
 grind
theorem Jx(hs:S[i]?=some s):∃j,bz S s.key=some j∧i≤j:=by
 cases hl:bz S s.key with
 | none=>exact absurd rfl (ko hl s (List.mem_of_getElem? hs))
 | some j=>grind[dv]
theorem xF(hs:S[i]?=some s)(hk:s.key≠k):((bz S k).bind fun j=>if i≤j then some j else none)=(bz S k).bind fun j=>if i+1≤j then some j else none:=by
 cases hl:bz S k with
 | none=>rfl
 | some j=>
  obtain⟨t,e1,e2,_⟩:=dv hl;have:j≠i:=fun e=>by subst e;rw[hs]at e1;cases e1;exact hk e2
  simp only[Option.bind_some];by_cases h:i≤j
  .rw [if_pos h,if_pos (by omega)]
  rw[if_neg h,if_neg (by omega)]
def vu(S:List cY)(i:Nat)(m:List (Vl×Nat)):Prop:=∀k,bN m k=lE S i k
theorem aa5(h:M' m S):vu S 0 m:=fun k=>by
 rw[h];unfold lE;simp[live,bz]
theorem Nc(h:vu S i m)(hi:S.length≤i):M' m (live S):=fun k=>by
 rw[h];unfold lE;rw[List.take_of_length_le hi];cases hl:bz (live S) k with
 | some j=>rfl
 | none=>
  cases h2:bz S k with
  | none=>rfl
  | some j=>have:=Al h2;simp;omega
theorem Jy(ho:dG S)(h:vu S i m)(hs:S[i]?=some s)(hg:s.gone=true):∃j,bN m s.key=some j∧(j≠i→vu S (i+1) m)∧(j=i→(m.map Prod.fst).Nodup→vu S (i+1) (eB m s.key)):=by
 have h1:=Nb ho hs;obtain⟨j,h2,h3⟩:=Jx hs;have hv:live (S.take (i+1))=live (S.take i):=by rw[fz hs,if_pos hg]
 have hj:bN m s.key=some j:=by rw[h];unfold lE;rw[h1,h2];simp[h3]
 have aa6:∀k,s.key≠k→lE S i k=lE S (i+1) k:=fun k hk=>by
  unfold lE;rw[hv,xF hs hk]
 refine⟨j,hj,fun l7 k=>?_,fun he hn k=>?_⟩
 .by_cases hk:s.key=k
  .subst hk;rw[hj];unfold lE;rw[hv,h1,h2];simp;omega
  rw[h,aa6 k hk]
 rw[dg hn];by_cases hk:s.key=k
 .subst hk;rw[if_pos rfl];unfold lE;rw[hv,h1,h2];simp;omega
 rw[if_neg (fun e=>hk e.symm),h,aa6 k hk]
theorem Jz(ho:dG S)(h:vu S i m)(hs:S[i]?=some s)(hg:s.gone=false):vu S (i+1) (dO m s.key (live (S.take i)).length):=fun k=>by
 have hv:live (S.take (i+1))=live (S.take i)++[s]:=by rw[fz hs,if_neg (by rw[hg];decide)]
 rw[cL];unfold lE;rw[hv,pr];by_cases hk:s.key=k
 .subst hk;simp
 rw[if_neg (fun e=>hk e.symm),if_neg hk,h];unfold lE;rw[xF hs hk]
/-! ### What follows -/
theorem JA{a:Nat}(h:live ((S.drop a).take i)=[])(hs:(S.drop a)[i]?=some s)(hg:s.gone=false):(live (S.drop a)).head?=some s:=by
 have:S.drop a=(S.drop a).take i++s::(S.drop a).drop (i+1):=by
  obtain⟨hi,e⟩:=List.getElem?_eq_some_iff.1 hs;rw[←e,←List.drop_eq_getElem_cons hi,List.take_append_drop]
 grind[live]
theorem lF(h:live (S.take i)=[])(hs:S[i]?=some s)(hg:s.gone=true):live (S.take (i+1))=[]:=by grind[fz]
theorem JB(h:live (S.take i)=[])(hi:S.length≤i):(live S).head?=none:=by rw[List.take_of_length_le hi]at h;rw[h];rfl
theorem qm(S:List cY):aA S bw=((iz (live S).head?).1,(iz (live S).head?).2.1,(iz (live S).head?).2.2,0):=by grind[aA]
theorem rO(h:k≠bw)(hl:bz S k=none):aA S k=(bw,bw,false,13):=by grind[aA]
theorem nP(h:k≠bw)(hl:bz S k=some i):aA S k=((iz (live (S.drop (i+1))).head?).1,(iz (live (S.drop (i+1))).head?).2.1,(iz (live (S.drop (i+1))).head?).2.2,0):=by grind[aA]
/-! ### The search for a slot -/
def oF(S:List cY)(k:Vl):Int:=match bz S k with
 | some i=>(i:Int)
 | none => -1
theorem Au(k:Vl)(hs:S[i]?=some s):oF (S.take (i+1)) k=if s.key=k then (i:Int) else oF (S.take i) k:=by
 have hl:(S.take i).length=i:=by rw[List.length_take];have:=(List.getElem?_eq_some_iff.1 hs).1;omega
 have:S.take (i+1)=S.take i++[s]:=by rw[List.take_add_one,hs];rfl
 grind[oF,pr]
theorem JD(h:dG S)(hs:S[i]?=some s)(hg:s.gone=false):oF S s.key=(i:Int):=by unfold oF;rw[h.last hs hg]
theorem Nd(k:Vl)(hi:S.length≤i):oF (S.take i) k=oF S k:=by rw[List.take_of_length_le hi]
theorem rP(k:Vl):(oF S k = -1∧bz S k=none∧dw S k=none∧ei S k=bw)∨∃(i:Nat) (s:cY),oF S k=(i:Int)∧bz S k=some i∧S[i]?=some s∧s.key=k∧ei S k=s.val∧dw S k=if s.gone then none else some i:=by
 unfold oF;cases hl:bz S k with
 | none=>exact .inl ⟨rfl,rfl,nN hl,jU hl⟩
 | some i=>grind[dv,jn,rL]
end
end Go.Proofs.YtmhpcebiamkciaaGreat
section
namespace Go.J
open Go.Hp Go.RowKit Go.ChangeShapes Go.WideShapes Go.ChangeAt
open Go.Mem (Ty blk)
section
variable{H:Type}{enc:TypeId×Value→H}{P:Program}
theorem rp(hl:laidOutB P=true){W W':World}(hb:Below W.heap.size W W'):∀{ts:List TypeId}{vs:List Value}{ds:List (DataW H)}{ps:List MemPlace},
  (ts.all fun t=>P.readableRec t&&Nat.blt t P.types.size)=true→DataW.TrodAll enc P W 0 (fun _=>true) true ts vs ds ps→(∀x∈ps,x.block<W.heap.size)→
  DataW.TrodAll enc P W' 0 (fun b=>decide (b<W.heap.size)) true ts vs ds ps
 | [],[],[],ps,_,h,_=>h
 | t::ts,v::vs,d::ds,ps,ht,h,nC=>by
  obtain⟨p,q,h1,h2,rfl⟩:=h;simp only[List.all_cons,Bool.and_eq_true]at ht;refine⟨p,q,Below.trod hl ht.1.1 (by simpa [Nat.blt_eq]using ht.1.2) h1 hb (fun x hx=>nC x (by simp[hx])),rp hl hb ht.2 h2 (fun x hx=>nC x (by simp[hx])),rfl⟩
 | [],[],_::_,_,_,h,_=>h.elim
 | [],_::_,_,_,_,h,_=>h.elim
 | _::_,[],_,_,_,h,_=>h.elim
 | _::_,_::_,[],_,_,h,_=>h.elim
theorem zz{W W':World}{may:MemPlace→Prop}(hb:Below W.heap.size W W'):W.keptBut W' may:=by
 refine⟨hb.os,hb.output,fun i hi=>?_⟩;rw[hb.block i hi];have:=World.keptBut_refl W may;exact this.2.2 i hi
theorem Nf{f:Func}{s:ChangeSpec}{W W':World}{args:Array Value}{ds:List (DataW H)}{before:List MemPlace}{tb:TypeId}(hl:laidOutB P=true)(hts:(f.params.toList.all fun t=>P.readableRec t&&Nat.blt t P.types.size)=true)
  (hv:s.vars=[]) (hr:f.resultTypes=#[tb]) (Fa:P.underlying tb=some .bool) (hb:Below W.heap.size W W') (hW:DataW.Whole enc P f.params.toList s.vars false W args.toList ds [] before)
  (hfn:s.fn H ds={ results:=[.lit (.bool true)],args:=ds }):s.post enc P f false true false false W args (.bool true) W':=by
 have nC:∀x∈before,x.block<W.heap.size:=fun x hx=>hW.lt x hx
 obtain⟨p,q,hA,hV,rfl,hz,hn⟩:=hW;rw[hv]at hV;have hq:q=[]:=hV;subst hq;refine⟨ds,[],p++[],[],p,[],⟨p,[],hA,by rw[hv];rfl,rfl,hz,hn⟩,?_,?_,?_,?_,by simp⟩
 .rw [List.append_nil,hfn,hr];refine⟨[],[],⟨1,?_⟩,rfl,rfl⟩;simp[DataW.trod,Fa,Value.cells]
 .rw [List.append_nil,hfn];exact rp hl hb hts hA (fun x hx=>nC x (by simp[hx]))
 .rw [hv,List.append_nil,hfn];rfl
 .exact zz hb
theorem Dr{f:FuncId}{args:Array Value}{W:World}(h:HC P f args W.heap fun v H'=>v=.bool true∧Chg (fun _=>False) W.heap H'):
  Calls P f args W fun e W'=>e=.returned (.bool true)∧Below W.heap.size W W':=
 (h W rfl).mono fun e W' ⟨v,he,HH,hv,hc⟩=>by
  subst he hv;exact⟨rfl,⟨HH.os,HH.tape,HH.output,hc.size,fun k hk=>hc.block k hk (fun h=>h)⟩⟩
variable{w:World}{base:Nat}{spare:Nat→Bool}{held:Bool}
theorem pz{l:List Value}{n:Nat}{v:Value}(h:l.take n=[v]):l.take 1=[v]:=by
 cases l with
 | nil=>simp at h
 | cons x l=>
  cases n with
  | zero=>simp at h
  | succ n=>simp only[List.take_succ_cons,List.cons.injEq]at h;simp[h.1]
theorem xG:∀{ks zh:List Nat}{vs:List Value},er ks (vs.take ks.length)=true→er zh ((vs.drop ks.length).take zh.length)=true→er (ks++zh) (vs.take (ks++zh).length)=true
 | [],zh,vs,_,h=>by simpa using h
 | k::ks,zh,[],h,_=>by simp[er]at h
 | k::ks,zh,v::vs,h,h'=>by
  simp only[List.length_cons,List.take_succ_cons,List.drop_succ_cons,er,Bool.and_eq_true]at h h';simp only[List.cons_append,List.length_cons,List.take_succ_cons,er,Bool.and_eq_true];exact⟨h.1,xG h.2 h'⟩
mutual
theorem Av : ∀ (d : Nat) (t : TypeId) (ks : List Nat), ia P d t = some ks → ∀ (fuel : Nat) (l : List Value) (m : Nat) (x : DataW H × List MemPlace), DataW.trod enc P w base spare held fuel t (l.take m) = some x → er ks (l.take ks.length) = true ∧ ((match P.underlying t with | some (.struct _) => true | _ => false) = true → (l.take m).length = ks.length)
  | 0, _, _, hk, _, _, _, _, _ => by simp [ia] at hk
  | d + 1, t, ks, hk, fuel, l, m, x, hx => by
    unfold ia at hk
    cases hu : P.underlying t with
    | none => rw [hu] at hk; simp at hk
    | some u =>
      rw [hu] at hk
      cases u <;> first | (simp at hk; done) | skip
      case int q =>
        cases q <;> first | (simp at hk; done) | skip
        simp only [Option.some.injEq] at hk
        subst hk
        obtain ⟨n, h1, _, _⟩ := DataW.trod_int hu hx
        exact ⟨by rw [show [0].length = 1 from rfl, pz h1]; rfl, by simp⟩
      case bool =>
        simp only [Option.some.injEq] at hk
        subst hk
        obtain ⟨n, h1, _⟩ := DataW.trod_bool hu hx
        exact ⟨by rw [show [2].length = 1 from rfl, pz h1]; rfl, by simp⟩
      case string =>
        simp only [Option.some.injEq] at hk
        subst hk
        obtain ⟨n, h1, _⟩ := DataW.trod_string hu hx
        exact ⟨by rw [show [1].length = 1 from rfl, pz h1]; rfl, by simp⟩
      case struct fs =>
        simp only at hk
        split at hk
        · simp at hk
        · cases hf : cj P d fs.toList 0 with
          | none => rw [hf] at hk; simp at hk
          | some zh =>
            rw [hf] at hk
            cases hi : P.info? t with
            | none => rw [hi] at hk; simp at hk
            | some i =>
              rw [hi] at hk
              simp only at hk
              split at hk
              · rename_i hs
                simp only [Option.some.injEq] at hk
                subst hk
                have hs := Nat.eq_of_beq_eq_true hs
                obtain ⟨xs, n, _, _, hlen, hxl, oL⟩ := DataW.trod_struct hu hx
                have hc : P.cellsOf t = zh.length := by simp [Program.cellsOf, hi, hs]
                have := vw d fs.toList 0 zh hf n (l.take m) (fun f hf' => by
                  obtain ⟨j, hj, rfl⟩ := List.getElem_of_mem hf'
                  have LC : j < fs.size := by simpa using hj
                  have h2 := oL j fs[j] (Array.getElem?_eq_getElem LC)
                  rw [List.getElem?_eq_getElem (by omega)] at h2
                  exact ⟨_, _, by simpa using h2⟩)
                rw [hc] at hlen
                refine ⟨?_, fun _ => hlen⟩
                rw [List.drop_zero, ← hlen, List.take_length] at this
                have e : l.take zh.length = l.take m := by
                  rw [List.length_take] at hlen
                  rw [List.take_eq_take_iff]; omega
                rw [e]; exact this
              · simp at hk
theorem vw:∀(d:Nat) (fs:List Field) (off:Nat) (ks:List Nat),cj P d fs off=some ks→∀(n:Nat) (cs:List Value),(∀f∈fs,∃m x,DataW.trod enc P w base spare held n f.type ((cs.drop f.offset).take m)=some x)→er ks ((cs.drop off).take ks.length)=true
 | _,[],off,ks,hk,n,cs,_=>by
  unfold cj at hk;simp only[Option.some.injEq]at hk;subst hk;rfl
 | 0,_::_,_,_,hk,_,_,_=>by simp[cj]at hk
 | d+1,f::fs,off,ks,hk,n,cs,oL=>by
  unfold cj at hk;split at hk
  .rename_i hn;cases h1:ia P d f.type with
   | none=>rw[h1]at hk;simp at hk
   | some k1=>
    rw[h1]at hk;simp only at hk;cases h2:cj P d fs (off+k1.length) with
    | none=>rw[h2]at hk;simp at hk
    | some k2=>
     rw[h2]at hk;simp only[Option.some.injEq]at hk;subst hk;obtain⟨m,x,hx⟩:=oL f (by simp);rw[hn.2]at hx;have a1:=(Av d f.type k1 h1 n _ m x hx).1;have a2:=vw d fs (off+k1.length) k2 h2 n cs (fun g hg=>oL g (by simp[hg]));rw[←List.drop_drop]at a2;exact xG a1 a2
  simp at hk
end
theorem Sx {α : Type} [Inhabited α] {T : Ty α} (hT : T.Ok P) {t : TypeId} {b0 : Nat} {W : World} {v : Value} {dd : DataW H} {pp : List MemPlace} (ht : P.underlying t = some (.slice T.id)) (ks : List Nat) (hk : ia P 20 T.id = some ks) (hc : P.cellsOf T.id = T.size) (vX : ks.length = T.size)
    (Xk : ∀ cs, er ks cs = true → ∃ x, T.enc x = cs) (hv : Value.okWide P W .any b0 t v) (h : DataW.Trod enc P W 0 (fun _ => true) true t v dd pp) : ∃ L, Sl W.heap T v L := by
  obtain ⟨a0, sR, aa7, rfl⟩ := okWide_slice ht hv
  obtain ⟨fuel, hf⟩ := h
  have Q4 : (Value.slice a0 sR aa7).cells.toList = [.slice a0 sR aa7] := rfl
  rw [Q4] at hf
  rcases Deep.open_slice ht hf with ⟨h0, _⟩ | ⟨a, len, cap, m, n, D, Pl, h0, _, hl, hm, hmm, _, hx⟩
  · rw [List.cons.injEq] at h0
    exact ⟨[], .inl ⟨⟨none, h0.1⟩, rfl⟩⟩
  · rw [List.cons.injEq] at h0
    obtain ⟨h0, _⟩ := h0
    injection h0 with e1 e2 e3
    subst e1 e2 e3
    simp only [Value.okWide, ht, Cell.okWide, Cell.ok] at hv
    obtain ⟨_, _, _, hsp, row, cells, mc, _⟩ := hv
    obtain ⟨g, off, spot⟩ := a
    simp only at hsp
    subst hsp
    simp only [if_true] at hmm
    subst hmm
    unfold World.shape? at mc
    cases hg : W.heap[g]? with
    | none => rw [hg] at mc; simp at mc
    | some ob =>
      rw [hg] at mc
      cases ob <;> simp at mc
      rename_i arr e fr
      rw [hc] at hx
      obtain ⟨X, hX⟩ := Deep.choose_lt (α := α) (p := fun i x => ∀ j u, (T.enc x)[j]? = some u → arr[off + i * T.size + j]? = some u) (fun i hi => by
        obtain ⟨Vu, h1, h2⟩ := hx i hi
        obtain ⟨_, hlen, ri⟩ := World.cells?_some h1
        rw [← List.take_length (l := Vu)] at h2
        have mn := (Av 20 T.id ks hk n Vu Vu.length _ h2).1
        rw [vX, ← hlen, List.take_length] at mn
        obtain ⟨x, LD⟩ := Xk Vu mn
        refine ⟨x, fun j u hj => ?_⟩
        rw [LD] at hj
        have Xl : j < T.size := by rw [← hlen]; exact (List.getElem?_eq_some_iff.1 hj).1
        have := ri j Xl
        rw [Mem.addr_add, Mem.addr_add, cell_of_row W g _ arr e fr hg, hj] at this
        exact this)
      have qV := hT.pos
      have By : ∀ i j, i < m → j < T.size → ∃ u, (T.enc (X i))[j]? = some u ∧ arr[off + i * T.size + j]? = some u := fun i j hi hj => by
        have : j < (T.enc (X i)).length := by rw [hT.len]; exact hj
        exact ⟨_, List.getElem?_eq_getElem this, hX i hi j _ (List.getElem?_eq_getElem this)⟩
      refine ⟨(List.range sR).map X, .inr ⟨g, off, m, arr, e, fr, by simp, hg, by simpa using hl, hm, ?_, ?_⟩⟩
      · intro hcp
        obtain ⟨u, _, hu⟩ := By (m - 1) (T.size - 1) (by omega) (by omega)
        have nC := (Array.getElem?_eq_some_iff.1 hu).1
        have : m * T.size = (m - 1) * T.size + T.size := by rw [Nat.sub_mul]; have : T.size ≤ m * T.size := Nat.le_mul_of_pos_left _ hcp; omega
        omega
      · apply List.ext_getElem?
        intro q
        have vq := hT.flat_len ((List.range sR).map X)
        simp only [List.length_map, List.length_range] at vq ⊢
        by_cases hq : q < sR * T.size
        · have hi : q / T.size < sR := Nat.div_lt_of_lt_mul (by rw [Nat.mul_comm]; exact hq)
          have hj : q % T.size < T.size := Nat.mod_lt _ qV
          have e1 : q = q / T.size * T.size + q % T.size := by rw [Nat.mul_comm]; exact (Nat.div_add_mod _ _).symm
          obtain ⟨u, h1, h2⟩ := By (q / T.size) (q % T.size) (by omega) hj
          have hL : ((List.range sR).map X)[q / T.size]? = some (X (q / T.size)) := by simp [hi]
          have h3 := hT.flat_get hL hj
          rw [← e1, h1] at h3
          rw [h3, List.getElem?_take, if_pos hq, List.getElem?_drop, Array.getElem?_toList]
          rw [← h2]
          congr 1
          omega
        · rw [List.getElem?_eq_none (by simp; omega), List.getElem?_eq_none (by rw [vq]; omega)]
end
end Go.J
end
section
namespace Go.S
open Go.Hp Go.J
open Go.Mem (Ty fS blk cm)
def iT(e:TypeId):Ty Int:=⟨e,1,8,false,fun n=>.int .i64 n,0⟩
section
variable{P:Program}
theorem aa8{e:TypeId}{i:TypeInfo}(hd:P.underlying e=some (.int .i64))(hi:P.info? e=some i)(hs:i.size=1)(hb:i.bytes=8)(hz:i.zero=some (.int .i64 0)):(iT e).Ok P:=
 ⟨Nat.one_pos,fun _=>rfl,fun x u hu=>by simp[Ty.enc,iT,Value.cells]at hu;subst hu;rfl,fun _=>rfl,⟨_,hd,rfl⟩,fun _=>rfl,⟨i,hi,hs,hb,hz⟩⟩
theorem s3{e:TypeId}(L:List Int):(iT e).flat L=L.map fun n=>Value.int .i64 n:=by
 induction L with
 | nil=>rfl
 | cons a r ih=>rw[show a::r=[a]++r from rfl,Ty.flat_append,ih];rfl
def bT(e:TypeId):Ty Bool:=⟨e,1,1,false,fun b=>.bool b,false⟩
theorem aa9{e:TypeId}{i:TypeInfo}(hd:P.underlying e=some .bool)(hi:P.info? e=some i)(hs:i.size=1)(hb:i.bytes=1)(hz:i.zero=some (.bool false)):(bT e).Ok P:=
 ⟨Nat.one_pos,fun _=>rfl,fun x u hu=>by simp[Ty.enc,bT,Value.cells]at hu;subst hu;rfl,fun _=>rfl,⟨_,hd,rfl⟩,fun _=>rfl,⟨i,hi,hs,hb,hz⟩⟩
end
end Go.S
end
section
namespace Go.Mem
section
variable{κ β:Type}[DecidableEq κ]{P:Program}
theorem oG{K:fS κ}(hs:∀k k' w,(Op.equal K.id (K.val k) (K.val k')).run P w=.ok (decide (k=k')) w)(k:κ)(w:World):∀(es:List MapEntry) (m:List (κ×β)) (n:Nat),es.map (·.key)=m.map (K.val ·.1)→
  (Instr.findAsking K.id (K.val k) es n).run P w=.ok ((db m k).bind fun i=>(es[i]?).map fun e=>(i+n,e.val)) w
 | [],m,n,h=>by
  cases m with
  | nil=>rfl
  | cons p r=>simp at h
 | e::es,m,n,h=>by
  cases m with
  | nil=>simp at h
  | cons p r=>
   simp only[List.map_cons,List.cons.injEq]at h;unfold Instr.findAsking;rw[Sem.run_bind,h.1,hs,Result.andThen_ok];by_cases hp:k=p.1
   .simp [hp,db,Sem.run_pure]
   have ih:=oG hs k w es r (n+1) h.2;have hp':¬p.1=k:=fun e=>hp e.symm
   simp only[hp,decide_false,ih,db,hp',if_false,Bool.false_eq_true];cases db r k with
   | none=>rfl
   | some i=>simp[Nat.add_assoc,Nat.add_comm 1 n]
theorem structK_ok{K:fS κ}{fs:Array Field}(h:P.underlying K.id=some (.struct fs))(Wz:∀k,∃cs,K.val k=.agg cs)(hc:∀(b:Bool) (k:κ) (w:World),(Instr.checkKey b 10000 K.id (K.val k)).run P w=.ok () w)(hb:∀k,Instr.sameBits 10000 (K.val k) (K.val k)=true)
  (hs:∀k k' w,(Op.equal K.id (K.val k) (K.val k')).run P w=.ok (decide (k=k')) w):fS.Ok (β:=β) K P:=by
 refine⟨hc,hb,fun k es m he w=>?_⟩;unfold Instr.findKey;rw[Sem.run_bind,run_underlying h w,Result.andThen_ok];cases es with
 | nil=>
  cases m with
  | nil=>rfl
  | cons p r=>simp at he
 | cons e es=>
  cases m with
  | nil=>simp at he
  | cons p r=>
   have h1:Instr.findNow (.struct fs) (K.val k) (e::es) 0=none:=by
    unfold Instr.findNow;obtain⟨cs,e1⟩:=Wz k;rw[e1];rfl
   rw[h1];have:=oG hs k w (e::es) (p::r) 0 he;simpa using this
theorem equal_of_bin{t:TypeId}{a b:Array Value}{c:Bool}{w:World}(h:(binOp .eql t (.agg a) (.agg b)).run P w=.ok (.bool c) w):(Op.equal t (.agg a) (.agg b)).run P w=.ok c w:=by
 have h1:binOp .eql t (.agg a) (.agg b)=(do pure (.bool (←Op.equal t (.agg a) (.agg b)))):=rfl;rw[h1,Sem.run_bind]at h;cases hr:(Op.equal t (.agg a) (.agg b)).run P w with
 | ok x w'=>rw[hr,Result.andThen_ok,Sem.run_pure]at h;injection h with e1 e2;injection e1 with e1;subst e1;subst e2;rfl
 | _=>rw[hr]at h;cases h
end
end Go.Mem
end
section
namespace Go.S
open Go.Hp Go.J
section
variable{P:Program}{w0:World}{Q:Exit→Act→World→Prop}{n:Nat}{E:Env}{Z:bK}{As:List aW}{l:List Oper}{Ks:List aW}{fuel:Nat}{aG:Array Bool}
theorem ba{ι:Type}(Ds:Nat)(s4:Array Bool)(Ei:ι→Env)(Ai:ι→List aW)(hj:∀i,SH P w0 l Q n Z Ks Ds s4 (Ei i) (Ai i))(h:(∀i,SH P w0 l Q n Z Ks Ds s4 (Ei i) (Ai i))→SH P w0 l Q n Z Ks fuel aG E As):SH P w0 l Q n Z Ks fuel aG E As:=h hj
theorem aB{ι:Type}{Ds:Nat}{s4:Array Bool}{Ei:ι→Env}{Ai:ι→List aW}(hj:∀i,SH P w0 l Q n Z Ks Ds s4 (Ei i) (Ai i))(i:ι)(hA:∀H,Holds Z As H→Holds Z (Ai i) H)(hE:mq E (Ei i):=by exact bc rfl (by repeat first|exact trivial|refine⟨⟨rfl,rfl⟩,?_⟩))(hf:fuel=Ds:=by kernel_rfl)(hl:aG=s4:=by kernel_rfl):SH P w0 l Q n Z Ks fuel aG E As:=fun H hH=>by
 subst hf;subst hl;exact fun a w mn ha=>hj i H (hA H hH) a w (mn.of_sub hE) ha
theorem bH{ops:Array Oper}{y:Code}(h:SK P w0 y Q n E Z As):SL P w0 ops (Exit.then (y.wp P Q) Q) n [] E Z As:=a8 (ax h)
theorem bn{id:Nat}{y:Code}(h:SL P w0 l.toArray (Exit.then (y.wp P Q) Q) n l E Z As):SK P w0 (.seq (.region id l.toArray false) y) Q n E Z As:=aE (bd h)
theorem eT{y:Code}(h:SK P w0 y Q n E Z As):SK P w0 .skip (Exit.then (y.wp P Q) Q) n E Z As:=jB (ax h)
theorem pA{ops:Array Oper}{id:Nat}{y:Code}(h:SL P w0 l.toArray (Exit.then (y.wp P Q) Q) n l E Z As):SL P w0 ops (Exit.then ((Code.seq (.region id l.toArray false) y).wp P Q) Q) n [] E Z As:=bH (bn h)
theorem vY{ι:Type}{p:ι→Prop}{Ei:ι→Env}{Ai:ι→List aW}(i:ι)(hA:∀H,Holds Z As H→Holds Z (Ai i) H)(hp:p i:=by exact trivial)(hE:mq E (Ei i):=by exact bc rfl (by repeat first|exact trivial|refine⟨⟨rfl,rfl⟩,?_⟩)):SX w0 .normal (Exit.then (Cut w0 n p Ei Ai Z) Q) n E Z As:=bh i hp hE hA
end
end Go.S
end
