/-
  maps.Keys, slices.Sorted and slices.Sort at this program, by the library's contracts. Each law says its conditions.
-/
import Derived.Shelf.SlIterI.Nil
import Derived.Shelf.SortM.Plain
import Derived.Shelf.SortM.SortNone
import Derived.Ground.GgzProg
import Derived.Ground.SlgmProg
import Derived.Test.YtmhpcebiamkciaaGreatG4
import Derived.Test.YtmhpcebiamkciaaGreatG2
set_option linter.unusedVariables false
set_option linter.unusedSimpArgs false
set_option maxRecDepth 100000
set_option maxHeartbeats 2000000
section
namespace Go.Proofs
open Go.Shelf
def Tryz.keysA_ren:Go.Shelf.Ren:=⟨fun|7=>61|10=>127|n=>n,fun|23=>94|26=>3|3=>93|28=>114|0=>0|27=>113|33=>46|4=>4|n=>n,fun|n=>n⟩
theorem Tryz.keysA : Go.Proofs.SlLaysZI.n7 Tryz.prog Tryz.keysA_ren := {
  mixed := by kernel_rfl
  f7 := ⟨Tryz.f61.name, by decide, Tryz.func61.trans (congrArg some (by kernel_rfl))⟩
  f10 := ⟨Tryz.f127.name, by decide, Tryz.func127.trans (congrArg some (by kernel_rfl))⟩
  t0 := Tryz.underlying0
  a0 := Tryz.isAgg0
  z0 := Tryz.sizeOf0
  v0 := Tryz.zeroValue0
  t4 := Tryz.underlying4
  a4 := Tryz.isAgg4
  z4 := Tryz.sizeOf4
  v4 := Tryz.zeroValue4
  t23 := Tryz.underlying94
  a23 := Tryz.isAgg94
  z23 := Tryz.sizeOf94
  v23 := Tryz.zeroValue94
  t26 := Tryz.underlying3
  a26 := Tryz.isAgg3
  z26 := Tryz.sizeOf3
  v26 := Tryz.zeroValue3
  t27 := Tryz.underlying113
  a27 := Tryz.isAgg113
  z27 := Tryz.sizeOf113
  v27 := Tryz.zeroValue113
  t28 := Tryz.underlying114
  a28 := Tryz.isAgg114
  z28 := Tryz.sizeOf114
  v28 := Tryz.zeroValue114
  t33 := Tryz.underlying46
  a33 := Tryz.isAgg46
  z33 := Tryz.sizeOf46
  v33 := Tryz.zeroValue46 }
def Tryz.sortedA_ren:Go.Shelf.Ren:=⟨fun|6=>60|8=>125|9=>126|11=>180|13=>182|12=>181|23=>227|24=>228|14=>218|15=>219|16=>220|17=>221|18=>222|19=>223|20=>224|21=>225|22=>226|25=>256|26=>257|27=>258|28=>259|29=>260|30=>261|31=>269|n=>n,fun|26=>3|28=>114|24=>23|0=>0|3=>3|37=>217|48=>251|50=>253|4=>4|40=>244|39=>243|45=>48|5=>5|9=>9|51=>273|55=>277|57=>283|58=>284|33=>46|n=>n,fun|n=>n⟩
theorem Tryz.sortedA : Go.Proofs.SlLaysZI.n6 Tryz.prog Tryz.sortedA_ren := {
  mixed := by kernel_rfl
  f6 := ⟨Tryz.f60.name, by decide, Tryz.func60.trans (congrArg some (by kernel_rfl))⟩
  f8 := ⟨Tryz.f125.name, by decide, Tryz.func125.trans (congrArg some (by kernel_rfl))⟩
  f11 := ⟨Tryz.f180.name, by decide, Tryz.func180.trans (congrArg some (by kernel_rfl))⟩
  t0 := Tryz.underlying0
  a0 := Tryz.isAgg0
  z0 := Tryz.sizeOf0
  v0 := Tryz.zeroValue0
  t24 := Tryz.underlying23
  a24 := Tryz.isAgg23
  z24 := Tryz.sizeOf23
  v24 := Tryz.zeroValue23
  t26 := Tryz.underlying3
  a26 := Tryz.isAgg3
  z26 := Tryz.sizeOf3
  v26 := Tryz.zeroValue3
  t28 := Tryz.underlying114
  a28 := Tryz.isAgg114
  z28 := Tryz.sizeOf114
  v28 := Tryz.zeroValue114
  i26 := by kernel_rfl }
def Tryz.sortA_ren:Go.Shelf.Ren:=⟨fun|5=>126|8=>182|7=>181|19=>227|20=>228|10=>218|11=>219|12=>220|13=>221|14=>222|15=>223|16=>224|17=>225|18=>226|30=>256|31=>257|32=>258|33=>259|34=>260|35=>261|40=>269|n=>n,fun|23=>23|25=>3|3=>3|32=>217|22=>23|0=>0|44=>251|46=>253|4=>4|36=>244|35=>243|41=>48|5=>5|9=>9|53=>273|57=>277|63=>283|64=>284|n=>n,fun|n=>n⟩
theorem Tryz.sortA : Go.Proofs.SlLaysM.n5 Tryz.prog Tryz.sortA_ren := {
  mixed := by kernel_rfl
  f5 := ⟨Tryz.f126.name, by decide, Tryz.func126.trans (congrArg some (by kernel_rfl))⟩
  f7 := ⟨Tryz.f181.name, by decide, Tryz.func181.trans (congrArg some (by kernel_rfl))⟩
  f8 := Tryz.func182.trans (congrArg some (by kernel_rfl))
  f10 := ⟨Tryz.f218.name, by decide, Tryz.func218.trans (congrArg some (by kernel_rfl))⟩
  f11 := ⟨Tryz.f219.name, by decide, Tryz.func219.trans (congrArg some (by kernel_rfl))⟩
  f12 := ⟨Tryz.f220.name, by decide, Tryz.func220.trans (congrArg some (by kernel_rfl))⟩
  f13 := ⟨Tryz.f221.name, by decide, Tryz.func221.trans (congrArg some (by kernel_rfl))⟩
  f14 := ⟨Tryz.f222.name, by decide, Tryz.func222.trans (congrArg some (by kernel_rfl))⟩
  f15 := ⟨Tryz.f223.name, by decide, Tryz.func223.trans (congrArg some (by kernel_rfl))⟩
  f16 := ⟨Tryz.f224.name, by decide, Tryz.func224.trans (congrArg some (by kernel_rfl))⟩
  f17 := ⟨Tryz.f225.name, by decide, Tryz.func225.trans (congrArg some (by kernel_rfl))⟩
  f18 := ⟨Tryz.f226.name, by decide, Tryz.func226.trans (congrArg some (by kernel_rfl))⟩
  f19 := Tryz.func227.trans (congrArg some (by kernel_rfl))
  f20 := Tryz.func228.trans (congrArg some (by kernel_rfl))
  f30 := ⟨Tryz.f256.name, by decide, Tryz.func256.trans (congrArg some (by kernel_rfl))⟩
  f31 := Tryz.func257.trans (congrArg some (by kernel_rfl))
  f32 := Tryz.func258.trans (congrArg some (by kernel_rfl))
  f33 := ⟨Tryz.f259.name, by decide, Tryz.func259.trans (congrArg some (by kernel_rfl))⟩
  f34 := ⟨Tryz.f260.name, by decide, Tryz.func260.trans (congrArg some (by kernel_rfl))⟩
  f35 := ⟨Tryz.f261.name, by decide, Tryz.func261.trans (congrArg some (by kernel_rfl))⟩
  f40 := ⟨Tryz.f269.name, by decide, Tryz.func269.trans (congrArg some (by kernel_rfl))⟩
  t0 := Tryz.underlying0
  a0 := Tryz.isAgg0
  z0 := Tryz.sizeOf0
  v0 := Tryz.zeroValue0
  t3 := Tryz.underlying3
  a3 := Tryz.isAgg3
  z3 := Tryz.sizeOf3
  v3 := Tryz.zeroValue3
  t4 := Tryz.underlying4
  a4 := Tryz.isAgg4
  z4 := Tryz.sizeOf4
  v4 := Tryz.zeroValue4
  t5 := Tryz.underlying5
  a5 := Tryz.isAgg5
  z5 := Tryz.sizeOf5
  v5 := Tryz.zeroValue5
  t9 := Tryz.underlying9
  a9 := Tryz.isAgg9
  z9 := Tryz.sizeOf9
  v9 := Tryz.zeroValue9
  t22 := Tryz.underlying23
  a22 := Tryz.isAgg23
  z22 := Tryz.sizeOf23
  v22 := Tryz.zeroValue23
  t23 := Tryz.underlying23
  a23 := Tryz.isAgg23
  z23 := Tryz.sizeOf23
  v23 := Tryz.zeroValue23
  t25 := Tryz.underlying3
  a25 := Tryz.isAgg3
  z25 := Tryz.sizeOf3
  v25 := Tryz.zeroValue3
  t32 := Tryz.underlying217
  a32 := Tryz.isAgg217
  z32 := Tryz.sizeOf217
  v32 := Tryz.zeroValue217
  t35 := Tryz.underlying243
  a35 := Tryz.isAgg243
  z35 := Tryz.sizeOf243
  v35 := Tryz.zeroValue243
  t36 := Tryz.underlying244
  a36 := Tryz.isAgg244
  z36 := Tryz.sizeOf244
  v36 := Tryz.zeroValue244
  t41 := Tryz.underlying48
  a41 := Tryz.isAgg48
  z41 := Tryz.sizeOf48
  v41 := Tryz.zeroValue48
  t44 := Tryz.underlying251
  a44 := Tryz.isAgg251
  z44 := Tryz.sizeOf251
  v44 := Tryz.zeroValue251
  t46 := Tryz.underlying253
  a46 := Tryz.isAgg253
  z46 := Tryz.sizeOf253
  v46 := Tryz.zeroValue253
  t53 := Tryz.underlying273
  a53 := Tryz.isAgg273
  z53 := Tryz.sizeOf273
  v53 := Tryz.zeroValue273
  t57 := Tryz.underlying277
  a57 := Tryz.isAgg277
  z57 := Tryz.sizeOf277
  v57 := Tryz.zeroValue277
  t63 := Tryz.underlying283
  a63 := Tryz.isAgg283
  z63 := Tryz.sizeOf283
  v63 := Tryz.zeroValue283
  t64 := Tryz.underlying284
  a64 := Tryz.isAgg284
  z64 := Tryz.sizeOf284
  v64 := Tryz.zeroValue284 }
open Go.RowKit Go.Maps Go.Sort in
theorem Tryz.sortsA (m : Nat) : AnyZI.SortsIn Tryz.prog Tryz.sortedA_ren Fence.wide m :=
  ⟨fun blk off cap ss W hH Ox mm => callsIn_wide.2 (AnyM.slices_Sort_int Tryz.sortA blk off cap ss W hH Ox mm),
   fun p cap W => callsIn_wide.2 (AnyM.slices_Sort_int_none Tryz.sortA p cap W)⟩
namespace YtmhpcebiamkciaaGreat
open Go.Hp Go.J Go.S Go.RowKit Go.Maps Go.Sort
open Go.Mem (bN dO eB)
theorem Yq{Z:bK}(mb:Nat):SF Tryz.prog 61 #[.map (some mb)] Z [] fun r Bs=>∃g,r=.func (.func 127) #[] #[pB g 0]∧Bs=[aa g #[.map (some mb)] 94]:=fun H hH w hw=>
 ((callsIn_wide (n:=5)).1 (AnyZI.keys_in Tryz.keysA Fence.wide 5 trivial rfl (some mb) w)).mono fun e w' ⟨he,xk⟩=>by
  subst xk;refine⟨_,he,⟨rfl,rfl,rfl,rfl⟩,_,⟨w.heap.size,rfl,rfl⟩,?_⟩;have hc:=Chg.of_mem ((Mem.Chg.refl (fun _=>False) w).alloc (.cells #[.map (some mb)] 94));rw[hw]at hc;exact hH.new hc (S':=fun k=>k=w.heap.size) ⟨heap_alloc_new w _,fun k=>Iff.rfl⟩ fun k hk=>by rw[hk,hw];exact Nat.le_refl _
theorem Oy {Z : bK} {F : List aW} {g b : Nat} {ps : List (Int × (Nat × Nat))} (hw : ∀ p ∈ ps, (Lit.int .i64 p.1).wf = true) (hl : ps.length ≤ 1000000) : SF Tryz.prog 60 #[.func (.func 127) #[] #[.pointer (some ⟨g, 0, none⟩)]] Z (aa g #[.map (some b)] 94 :: dr iK oV b ps :: F) fun v Bs => Bs = own an v (srt (ps.map Prod.fst)) :: dr iK oV b ps :: F :=
  Kh Tryz.underlying3 hw hl fun nn D0 w hg hc ho h1 h2 => (callsIn_wide (n := 5)).1 (by
    have afn : SeqGives Fence.wide 2 Tryz.prog 127 #[.pointer (some ⟨g, 0, none⟩)] encZ (fun ss => ss.Perm (intKeys D0)) (Maps.size D0) w :=
      AnyZI.keys_gives (ρ := Tryz.keysA_ren) { Tryz.keysA with } Fence.wide _ trivial rfl om g b nn D0 w hg hc ho
    exact AnyZI.sorted_in Tryz.sortedA Fence.wide 5 trivial trivial trivial trivial rfl om (Tryz.sortsA _) (enters_of Tryz.func126 (by kernel_rfl) rfl) 127 #[.pointer (some ⟨g, 0, none⟩)] trivial (enters_of Tryz.func127 (by kernel_rfl) rfl) _ _ h1 h2 _ afn)
theorem Oz{Z:bK}{F:List aW}{v:Value}{L:List Int}(hl:L.length<4611686018427387904):SF Tryz.prog 126 #[v] Z (own an v L::F) fun r Bs=>r=.tuple #[]∧Bs=own an v (srt L)::F:=
 Tq hl (fun b off cap zs w h1 h2 h3=>AnyM.slices_Sort_int Tryz.sortA b off cap zs w h1 h2 h3) (fun p cap w=>AnyM.slices_Sort_int_none Tryz.sortA p cap w)
end YtmhpcebiamkciaaGreat
end Go.Proofs
end
namespace Go.Proofs.YtmhpcebiamkciaaGreat
open Go.Hp Go.J Go.S
open Go.Mem (fS Ty eB bN dg cL cm db dO blk blk_pre fM elemAt pre rF suf)
section
variable{st:bp}{Z:bK}{id:Int}{o:kX}{F:List aW}{n b:Nat}{A:List Int}
structure iF where
 key:Int
 val:Int
 deriving DecidableEq
abbrev iF.v(x:iF):Value:=.agg #[iw x.key,iw x.val]
def cq:Ty iF:=⟨167,2,16,true,iF.v,⟨0,0⟩⟩
theorem dy:cq.Ok Tryz.prog:=pg cq _ Tryz.t167 (by decide) (fun _=>rfl) (fun x u hu=>by simp[Ty.enc,cq,Value.cells]at hu;rcases hu with rfl|rfl<;>rfl) (fun _=>rfl) Tryz.underlying167 rfl (fun h=>by cases h) (by kernel_rfl) (by kernel_rfl) (by kernel_rfl) (by kernel_rfl)
theorem Gp(x y:iF)(w:World):(binOp .eql 167 x.v y.v).run Tryz.prog w=.ok (.bool (decide (x=y))) w∧(binOp .neq 167 x.v y.v).run Tryz.prog w=.ok (.bool (!decide (x=y))) w:=by
 have h:=J.run_eqS (P:=Tryz.prog) (t:=167) [0,0] (by kernel_rfl) (by kernel_rfl) #[iw x.key,iw x.val] #[iw y.key,iw y.val] rfl rfl w;have e:J.cellsEq [iw x.key,iw x.val] [iw y.key,iw y.val]=decide (x=y):=by
  cases x;cases y;rw[Bool.eq_iff_iff];simp[J.cellsEq,J.cellEq]
 rw[e]at h;exact h
def iB(l:List (Vl×Vl)):List iF:=(l.map fun p=>(⟨cJ p.1,cJ p.2⟩:iF)).filter fun e=>decide (e≠⟨0,0⟩)
def dC(T:Tb):List iF:=iB (a7 T)
theorem qG(l:List (Vl×Vl))(p:Vl×Vl):iB (l++[p])=if (⟨cJ p.1,cJ p.2⟩:iF)≠⟨0,0⟩ then iB l++[⟨cJ p.1,cJ p.2⟩] else iB l:=by
 unfold iB;rw[List.map_append,List.filter_append,List.map_cons,List.map_nil];by_cases h:(⟨cJ p.1,cJ p.2⟩:iF)≠⟨0,0⟩
 .rw [if_pos h];congr 1;simp only[List.filter_cons,List.filter_nil];rw[if_pos (decide_eq_true h)]
 rw[if_neg h];simp only[List.filter_cons,List.filter_nil];rw[if_neg (fun hc=>h (dY hc)),List.append_nil]
theorem yi(l:List (Vl×Vl)):(iB l).length≤l.length:=by
 unfold iB;refine Nat.le_trans (List.length_filter_le _ _) ?_;rw[List.length_map];exact Nat.le_refl _
def hrefs(st:bp)(id:Int):List Int:=match st.get id with
 | some o=>n' o
 | none=>[]
def aY(st:bp)(id:Int):List iF:=match st.get id with
 | some o=>if o.kind=4 then dC o.tab else []
 | none=>[]
def cR(st:bp)(id:Int):Int:=if aw st id=true then id else 0
def cT(st:bp)(id:Int):Int:=match st.get id with
 | some o=>bf o
 | none=>0
def cG(st:bp)(id weak:Int):Int:=match st.get id with
 | some o=>kY o weak
 | none=>0
theorem yj(h:st.get id=none)(weak:Int):aw st id=false∧cR st id=0∧cT st id=0∧cG st id weak=0∧hrefs st id=[]∧aY st id=[]:=by
 have h1:aw st id=false:=by unfold aw;rw[h];rfl
 refine⟨h1,?_,?_,?_,?_,?_⟩
 .unfold cR;rw[h1];rfl
 all_goals first|(unfold cT;rw[h])|(unfold cG;rw[h])|(unfold hrefs;rw[h])|(unfold aY;rw[h])
theorem iC(h:st.get id=some o)(weak:Int):aw st id=true∧cR st id=id∧cT st id=bf o∧cG st id weak=kY o weak∧hrefs st id=n' o∧aY st id=if o.kind=4 then dC o.tab else []:=by
 have h1:aw st id=true:=by unfold aw;rw[h];rfl
 refine⟨h1,?_,?_,?_,?_,?_⟩
 .unfold cR;rw[h1];rfl
 all_goals first|(unfold cT;rw[h])|(unfold cG;rw[h])|(unfold hrefs;rw[h])|(unfold aY;rw[h])
section
variable{Z:bK}{F:List aW}{H:bb}{b:Nat}{st:bp}{ps:List (Int×(Nat×Nat))}{id:Int}{q:Nat×Nat}{o:kX}
theorem OA(hq:bN ps id=some q)(ho:st.get id=some o)(h:Holds Z (jg ps st::F) H):Holds Z (xY q o::nc ps st id::F) H:=by
 obtain⟨v,_,h⟩:=gj hq ho h;exact dH h
theorem OB(qW:(ps.map Prod.fst).Nodup)(hq:bN ps id=some q)(ho:st.get id=some o)(h:Holds Z (xY q o::nc ps st id::F) H):Holds Z (jg ps st::F) H:=by
 have:=cH qW hq ho h;rwa [gn ho]at this
theorem Tt(ha:HA ps st)(hl:st.objs.length≤1000000):∀p∈ps,(Lit.int .i64 p.1).wf=true:=fun p hp=>by
 have h1:aw st p.1=true:=(mem_keys ha).1 (List.mem_map.2 ⟨p,hp,rfl⟩);obtain⟨o,ho⟩:=jh.1 h1;obtain⟨_,h2,h3,_⟩:=get_mem ho;have e1:IntKind.i64.min = -9223372036854775808:=by rfl
 have e2:IntKind.i64.max=9223372036854775807:=by rfl
 simp only[Lit.wf,Bool.and_eq_true,decide_eq_true_eq,e1,e2];omega
end
theorem mf(v:Vl):NF 110 #[v.v] Z [] (iw (cJ v)):=by
 refine bO Tryz.func110 12 (fun w0=>?_);refine bn<|bj (vc v) (fun g1=>?_)
 refine gc ?_;refine kd (fun c2=>?_) (fun c2=>?_)
 .have p3:=dY c2;refine eT<|iy (hv:=cB c2) ?_
  refine go ?_;have hp:cJ v=v.ref:=by unfold cJ isRef;rw[if_pos (by simp only[Bool.or_eq_true,decide_eq_true_eq];omega)]
  refine gz ?_;exact fg ⟨by rw[hp];rfl,rfl⟩
 have p4:=dF c2;refine gc ?_;refine kd (fun c5=>?_) (fun c5=>?_)
 .have p6:=dY c5;refine eT<|iy (hv:=cB c5) ?_
  refine go ?_;have hp:cJ v=v.ref:=by unfold cJ isRef;rw[if_pos (by simp only[Bool.or_eq_true,decide_eq_true_eq];omega)]
  refine gz ?_;exact fg ⟨by rw[hp];rfl,rfl⟩
 have p7:=dF c5;refine gc ?_;refine kd (fun c8=>?_) (fun c8=>?_)
 .have p9:=dY c8;refine eT<|iy (hv:=cB c8) ?_
  refine go ?_;have hp:cJ v=v.ref:=by unfold cJ isRef;rw[if_pos (by simp only[Bool.or_eq_true,decide_eq_true_eq];omega)]
  refine gz ?_;exact fg ⟨by rw[hp];rfl,rfl⟩
 have gQ:=dF c8;refine gc ?_;refine b9 (fun my=>?_) (fun fL=>?_)
 .refine go ?_;have hp:cJ v=v.ref:=by unfold cJ isRef;rw[if_pos (by simp only[Bool.or_eq_true,decide_eq_true_eq];omega)]
  refine gz ?_;exact fg ⟨by rw[hp];rfl,rfl⟩
 refine go ?_;have hp:cJ v=0:=by unfold cJ isRef;rw[if_neg (by simp only[Bool.or_eq_true,decide_eq_true_eq];omega)]
 refine gz ?_;exact fg ⟨by rw[hp];rfl,rfl⟩
theorem AT{L:List Vl}{S:List cY}(Rc:kM ⟨L,S⟩)(htw:TW ⟨L,S⟩)(hl:L.length≤100000)(hs:S.length≤100000):SF Tryz.prog 111 #[pB b 0] Z (jf b L S::F) fun r Bs=>Bs=own cq r (dC ⟨L,S⟩)::jf b L S::F:=by
 refine bx Tryz.func111 43 [(0,pB b 0)] (fun w0=>?_);have htl:=ni ⟨L,S⟩;refine gy ?_;refine sC [0] (ti (L:=L) (S:=S) ol ol bw) ?_;refine go ?_;refine ae (.agg zc) zc (fun g1=>?_);refine ae (.agg zc) zc (fun g2=>?_);refine go ?_;rw[fH];refine aK (fun _ h=>Holds.nilS (T:=cq) h) ?_;refine aK (Bs:=own cq nS (iB [])::aa g2 (vc ((bE (a7 ⟨L,S⟩)).2.1)) 71::aa g1 (vc ((bE (a7 ⟨L,S⟩)).1)) 71::jf b L S::F) (fun _ h=>h) ?_;refine aD (ι:=Value×List (Vl×Vl)×List (Vl×Vl)) (fun (lx,dn,rem)=>a7 ⟨L,S⟩=dn++rem) (fun (lx,dn,rem)=>[(0,pB b 0),(3,lx),(4,pB g1 0),(5,pB g2 0),(6,.bool ((bE rem).2.2.1)),(7,iw ((bE rem).2.2.2))]) (fun (lx,dn,rem)=>own cq lx (iB dn)::aa g2 (vc ((bE rem).2.1)) 71::aa g1 (vc ((bE rem).1)) 71::jf b L S::F) (fun (lx,dn,rem)=>rem.length) (nS,[],a7 ⟨L,S⟩) rfl sA (rr [0,0,0,0] []) ?_;rintro⟨lx,dn,rem⟩ gE;try dsimp only at gE⊢
 have VX:=yi dn;have ud:dn.length≤L.length+S.length:=by have h0:=congrArg List.length gE;rw[List.length_append]at h0;have h1:(⟨L,S⟩:Tb).list.length=L.length:=rfl;have h2:(⟨L,S⟩:Tb).rest.length=S.length:=rfl;omega
 refine aE<|b6 (ι:=Unit) (fun _=>True) (fun _=>[(0,pB b 0),(3,lx),(4,pB g1 0),(5,pB g2 0),(21,.bool ((bE rem).2.2.1))]) (fun _=>own cq lx (iB dn)::aa g2 (vc ((bE rem).2.1)) 71::aa g1 (vc ((bE rem).1)) 71::jf b L S::F) ?_ (fun _ _=>?_)
 .refine go ?_;refine oW 18 (fun c4=>?_) (fun c4=>?_)
  .refine go ?_;refine sL (Lt.to aT (cB (decide_eq_true (Ot rem):(decide ((bE rem).2.2.2=0))=true)))<|sP (.bool true)<|a8 ?_
   exact bh () trivial (bc rfl (rQ (rQ (rQ (rQ ⟨⟨rfl,cB (by simp[c4])⟩,trivial⟩))))) (rr [0,0,0,0] [])
  refine go ?_;exact bh () trivial (bc rfl (rQ (rQ (rQ (rQ ⟨⟨rfl,cB (by simp[c4])⟩,trivial⟩))))) (rr [0,0,0,0] [])
 refine kd (fun c5=>?_) (fun c5=>?_)
 .obtain ⟨p,tl,jy⟩:=wP c5;refine eT<|cE<|b6 (ι:=Nat) (fun _=>True) (fun Gq=>[(0,pB b 0),(3,lx),(4,pB g1 0),(5,pB g2 0),(8,pB Gq 0)]) (fun Gq=>aa Gq #[iw (cJ ((bE rem).1)),iw (cJ ((bE rem).2.1))] 167::own cq lx (iB dn)::aa g2 (vc ((bE rem).2.1)) 71::aa g1 (vc ((bE rem).1)) 71::jf b L S::F) ?_ (fun ix _=>?_)
  .refine br [own cq lx (iB dn),aa g2 (vc ((bE rem).2.1)) 71,aa g1 (vc ((bE rem).1)) 71] ?_;refine gH [0,2] [0,0,0] ?_;refine aN 1 5 ?_ ?_
   .refine sV (fun _ h=>mf ((bE rem).1))<|nH [0,0,0]<|aN 3 5 ?_ ?_
    .refine sV (fun _ h=>mf ((bE rem).2.1))<|nH [0,0,0]<|fK 4 rfl [0,0,0] (fun _=>(ay (.agg #[iw (cJ ((bE rem).1)),iw (cJ ((bE rem).2.1))]))) ?_
     refine ag 5 ?_;refine ae (.agg #[iw 0,iw 0]) #[iw 0,iw 0] (fun g6=>?_);refine nH [1,1,1]<|ag 6 ?_
     refine gh ?_;refine nH [1,1,1]<|aI ?_
     exact vY g6 (rr [0,0,0,0,0] [])
    refine ae (.agg #[iw 0,iw 0]) #[iw 0,iw 0] (fun g7=>?_);refine nH [1,1,1]<|ag 3 ?_
    refine sV (fun _ h=>mf ((bE rem).2.1))<|nH [1,1,1]<|fK 4 rfl [1,1,1] (fun _=>(ay (.agg #[iw (cJ ((bE rem).1)),iw (cJ ((bE rem).2.1))]))) ?_
    refine ag 6 ?_;refine gh ?_;refine nH [1,1,1]<|aI ?_
    exact vY g7 (rr [0,0,0,0,0] [])
   refine ae (.agg #[iw 0,iw 0]) #[iw 0,iw 0] (fun g8=>?_);refine nH [1,1,1]<|ag 1 ?_
   refine sV (fun _ h=>mf ((bE rem).1))<|nH [1,1,1]<|ag 3 ?_
   refine sV (fun _ h=>mf ((bE rem).2.1))<|nH [1,1,1]<|fK 4 rfl [1,1,1] (fun _=>(ay (.agg #[iw (cJ ((bE rem).1)),iw (cJ ((bE rem).2.1))]))) ?_
   refine ag 6 ?_;refine gh ?_;refine nH [1,1,1]<|aI ?_
   exact vY g8 (rr [0,0,0,0,0] [])
  revert ix;intro Gq
  show SK _ _ _ _ _ [(0,pB b 0),(3,lx),(4,pB g1 0),(5,pB g2 0),(8,pB Gq 0)] _ (aa Gq #[iw (cJ ((bE rem).1)),iw (cJ ((bE rem).2.1))] 167::own cq lx (iB dn)::aa g2 (vc ((bE rem).2.1)) 71::aa g1 (vc ((bE rem).1)) 71::jf b L S::F);refine go ?_;refine sL (ay (.agg #[iw 0,iw 0]))<|sL (fY (fun w=>(Gp (⟨(cJ ((bE rem).1)),(cJ ((bE rem).2.1))⟩:iF) (⟨0,0⟩:iF) w).2))<|bH ?_
  refine kd (fun c9=>?_) (fun c9=>?_)
  .have l4:=cO c9;have im:=dF l4;refine go ?_;refine ah (e:=167) [(0,.agg #[iw (cJ ((bE rem).1)),iw (cJ ((bE rem).2.1))])] #[iw (cJ ((bE rem).1)),iw (cJ ((bE rem).2.1))] (fun g12=>?_) (hb:=by kernel_rfl);refine aq (L:=(iB dn)) 2 dy Tryz.underlying98 (.lit 0 dy [(⟨(cJ ((bE rem).1)),(cJ ((bE rem).2.1))⟩:iF)]) (by show _*16≤_;(try simp only[cD]);omega) ol (fun CO=>?_);refine go ?_;refine sC [5] (ti (L:=L) (S:=S) ol ol ((bE rem).1)) ?_;refine go ?_;have hn:cX ⟨L,S⟩ ((bE rem).1)=bE tl:=by rw[jy];exact iE Rc htw (by show L.length≤_;omega) (pre:=dn) (by rw[gE,jy])
   rw[hn];have hE:(⟨(cJ ((bE rem).1)),(cJ ((bE rem).2.1))⟩:iF)=(⟨cJ p.1,cJ p.2⟩:iF):=by rw[jy];rfl
   have HQ:((iB dn)++[(⟨(cJ ((bE rem).1)),(cJ ((bE rem).2.1))⟩:iF)])=iB (dn++[p]):=by rw[qG,if_pos (by rw[←hE];exact dF l4),←hE]
   refine ab (Bs:=jf b L S::aa g12 #[iw (cJ ((bE rem).1)),iw (cJ ((bE rem).2.1))] 167::aa Gq #[iw (cJ ((bE rem).1)),iw (cJ ((bE rem).2.1))] 167::own cq CO (iB (dn++[p]))::aa g2 (vc ((bE tl).2.1)) 71::aa g1 (vc ((bE tl).1)) 71::F) (fun _ h=>by rw[HQ]at h;exact h) ?_;exact az (CO,dn++[p],tl) (by show tl.length<rem.length;rw[jy];simp) (by show _=(dn++[p])++tl;rw[gE,jy];simp) sA (rr [3,3,3,0] [4,4])
  have kj:=cu c9;have kO:=dY kj;refine go ?_;refine sC [4] (ti (L:=L) (S:=S) ol ol ((bE rem).1)) ?_;refine go ?_;have hn:cX ⟨L,S⟩ ((bE rem).1)=bE tl:=by rw[jy];exact iE Rc htw (by show L.length≤_;omega) (pre:=dn) (by rw[gE,jy])
  rw[hn];have hE:(⟨(cJ ((bE rem).1)),(cJ ((bE rem).2.1))⟩:iF)=(⟨cJ p.1,cJ p.2⟩:iF):=by rw[jy];rfl
  have HQ:(iB dn)=iB (dn++[p]):=by rw[qG,if_neg (fun hc=>hc (by rw[←hE];exact dY kj))]
  refine ab (Bs:=jf b L S::aa Gq #[iw (cJ ((bE rem).1)),iw (cJ ((bE rem).2.1))] 167::own cq lx (iB (dn++[p]))::aa g2 (vc ((bE tl).2.1)) 71::aa g1 (vc ((bE tl).1)) 71::F) (fun _ h=>by rw[HQ]at h;exact h) ?_;exact az (lx,dn++[p],tl) (by show tl.length<rem.length;rw[jy];simp) (by show _=(dn++[p])++tl;rw[gE,jy];simp) sA (rr [2,2,2,0] [4])
 have jy:=wQ c5;refine go ?_;have iA:iB dn=dC ⟨L,S⟩:=by unfold dC;rw[gE,jy,List.append_nil]
 rw[iA];exact ad _ _ (SI.tmp 2 SI.nil) (rr [0,2] [2,2]) rfl
theorem OC{q:Nat×Nat}(hl:o.tab.list.length≤100000)(hs:o.tab.rest.length≤100000)(hv:o.vals.length≤100000):NF 109 #[bu q.1] Z (xY q o::F) (iw (bf o)):=by
 refine bO Tryz.func109 31 (fun w0=>?_);refine po (fun H h=>BH (rB h)) (fun v1 hw=>?_);have htz:0≤ja ⟨o.tab.list,o.tab.rest⟩∧ja ⟨o.tab.list,o.tab.rest⟩≤700000:=by unfold ja;dsimp only;omega
 refine gc ?_;refine b9 (fun p3=>?_) (fun p4=>?_)
 .refine bn<|oN (pB q.1 0)<|sP (pB q.1 3) ?_
  refine sL (Lt.to (v':=bu q.2) (aJ 0 (gS q o)) (by unfold gS;rw[if_pos p3]))<|aC (fun _ h=>qB p3 (rB h)) ?_
  refine sC [0] (Oj (L:=o.tab.list) (S:=o.tab.rest) ol ol) ?_;refine gy ?_;refine ab (fun _ h=>nd (T:=o.tab) p3 (rB h)) ?_;refine ab (Bs:=rV q o::aa q.1 #[iw o.kind,iw o.tag,sw o.name,(gS q o),iw o.mt.kind,iw o.mt.p,iw o.mt.q,sw o.mt.str,iw o.mt.ref,v1] 123::own bq v1 o.vals::F) (fun _ h=>h) ?_;refine ab (fun _ h=>dH (o:=o) (rB h)) ?_;have hp:bf o=(8+(ja ⟨o.tab.list,o.tab.rest⟩)):=by unfold bf;rw[if_pos p3]
  refine gz ?_;exact fg ⟨by rw[hp];rfl,rfl⟩
 refine gc ?_;refine b9 (fun p6=>?_) (fun p7=>?_)
 .refine gy ?_;refine ab (fun _ h=>dH (o:=o) (rB h)) ?_;have hp:bf o=(8+(o.vals.length:Int)):=by unfold bf;rw[if_neg p4,if_pos p6]
  refine gz ?_;exact fg ⟨by rw[hp];rfl,rfl⟩
 refine gc ?_;refine b9 (fun p9=>?_) (fun gQ=>?_)
 .refine gy ?_;refine ab (fun _ h=>dH (o:=o) (rB h)) ?_;have hp:bf o=(16+(o.vals.length:Int)):=by unfold bf;rw[if_neg p4,if_neg p7,if_pos p9]
  refine gz ?_;exact fg ⟨by rw[hp];rfl,rfl⟩
 refine go ?_;refine ab (fun _ h=>dH (o:=o) (rB h)) ?_;have hp:bf o=12:=by unfold bf;rw[if_neg p4,if_neg p7,if_neg gQ]
 refine gz ?_;exact fg ⟨by rw[hp];rfl,rfl⟩
theorem nj(ca:jv n st)(hn:n≤300)(ho:st.get id=some o):o.tab.list.length≤90300∧o.tab.rest.length≤300∧o.vals.length≤320:=by
 obtain⟨h1,h2,h3⟩:=ca.obs o (get_mem ho).1;have h4:n*(n+1)≤300*301:=Nat.mul_le_mul om om;exact⟨by omega,by omega,by omega⟩
theorem tk(ca:jv n st)(hn:n≤300)(ho:st.get id=some o):0≤bf o∧bf o≤200000:=by
 obtain⟨h1,h2,h3⟩:=nj ca hn ho;unfold bf ja;repeat' split
 all_goals omega
theorem uy(ca:jv n st)(hn:n≤300):SF Tryz.prog 23 #[pB b 0] Z (bJ b st::F) fun r Bs=>Bs=own an r (aQ st)::bJ b st::F:=by
 refine bO Tryz.func23 11 (fun w0=>?_);refine po (fun H h=>gT (rB h)) (fun LG _=>?_);refine bk (fun H h=>gq (rB h)) (fun Hu=>?_);obtain⟨gE,ha4⟩:=Hu;refine kN (fun H h=>gN (rB h)) (fun mb5 tb6 tm7 hw=>?_);obtain⟨BD,LP,pE⟩:=hw;refine bk (fun H h=>(h.mp (i:=1) rfl).nodup) (fun J'=>?_);refine go ?_;refine a6 (fun _ h=>Yq mb5) ?_;rintro _ _ ⟨g11,rfl,rfl⟩;refine aH [0,1] (Oy (ps:=LG) (Tt LP (by have:=ca.len;omega)) (by have:=LP.len;have:=count_le st;have:=ca.len;omega)) ?_;rintro v12 _ rfl;refine gy ?_;refine ab (fun _ h=>dz (st:=st) (n:=(st.objs.length:Int)) ⟨⟨BD,LP,pE⟩,rfl⟩ (rB h)) ?_;refine ab (fun _ h=>cf (rB h)) ?_;have hk:(srt (LG.map Prod.fst))=aQ st:=Oo LP J';rw[hk];exact ad _ _ (SI.tmp 2 SI.nil) (rr [1,0] []) rfl
theorem qH(ca:jv n st)(hn:n≤300)(hw:HW st)(id weak:Int):SF Tryz.prog 51 #[pB b 0,iw id,iw weak] Z (bJ b st::F) fun r Bs=>∃rv ev,r=.tuple #[.agg #[iw (cR st id),iw (cT st id),iw (cG st id weak),rv,ev],.bool (aw st id)]∧Bs=own an rv (hrefs st id)::own cq ev (aY st id)::bJ b st::F:=by
 refine bx Tryz.func51 73 [(0,pB b 0),(1,iw id),(2,iw weak)] (fun w0=>?_);refine bn<|ae (.agg #[iw 0,iw 0,iw 0,nS,nS]) #[iw 0,iw 0,iw 0,nS,nS] (fun g1=>?_)
 refine go ?_;refine sC [1] (ir (st:=st) id) ?_;refine go ?_;refine kd (fun c2=>?_) (fun c2=>?_)
 .have c3:=cO c2;refine bn<|sL (ay (.agg #[iw 0,iw 0,iw 0,nS,nS])) ?_
  refine go ?_;refine ab (fun _ h=>Holds.nilS (T:=cq) h) ?_;refine ab (fun _ h=>Holds.nilS (T:=an) h) ?_;have Tu:st.get id=none:=by have h0:=c3;unfold aw at h0;cases hg:st.get id with|none=>rfl|some o=>rw[hg]at h0;cases h0
  have ho:=yj Tu weak;exact ad [.agg #[iw 0,iw 0,iw 0,nS,nS],.bool false] (own an nS []::own cq nS []::bJ b st::F) (SI.agg 6 100 3 (SI.tmp 7 SI.nil)) (rr [0,0,0] [3]) ⟨nS,nS,by rw[ho.1,ho.2.1,ho.2.2.1,ho.2.2.2.1];rfl,by rw[ho.2.2.2.2.1,ho.2.2.2.2.2]⟩
 have c4:=cu c2;refine eT<|aE<|po (fun H h=>gT (h.re [0] [])) (fun BP _=>?_)
 refine bk (fun H h=>gq (h.re [0] [])) (fun Tl=>?_);obtain⟨wM,ha8⟩:=Tl;refine kN (fun H h=>gN (h.re [0] [])) (fun mb9 Tv acz hw=>?_);obtain⟨DO,acA,wb⟩:=hw;refine go ?_;rcases na acA id with ⟨SM,zG⟩|⟨bF,vH,mH,rX⟩
 .exfalso;simp_all[aw]
 refine sL (Lt.to (v':=bu vH.1) (cn 1 dx Tryz.underlying94 (.pointer none) id) (by rw[rX];rfl)) ?_;refine go ?_;refine bl (fun H h=>(h.mp (i:=1) rfl).nodup) (fun acB=>?_);obtain⟨hz1,hz2,hz3⟩:=nj ca hn mH;refine aC (fun _ h=>OA rX mH (h.re [3] [])) ?_;refine sC [0] (OC (q:=vH) (o:=bF) om om om) ?_;refine aC (fun _ h=>OB acB rX mH h) ?_;refine sL (ay (.agg #[iw id,iw (bf bF),iw 0,nS,nS]))<|ae (.agg #[iw 0,iw 0,iw 0,nS,nS]) #[iw 0,iw 0,iw 0,nS,nS] (fun g22=>?_)
 refine go ?_;obtain⟨hb1,de,dN⟩:=nj ca hn mH;refine po (fun H h=>gj rX mH (h.re [1] [])) (fun v23 _=>?_);refine br [aa vH.1 #[iw bF.kind,iw bF.tag,sw bF.name,(gS vH bF),iw bF.mt.kind,iw bF.mt.p,iw bF.mt.q,sw bF.mt.str,iw bF.mt.ref,v23] 123,own bq v23 bF.vals,aa g22 #[iw id,iw (bf bF),iw 0,nS,nS] 100,aa b #[.map (some mb9),iw (st.objs.length:Int),.map (some Tv)] 97,dr iK oV mb9 BP,dr iK bV Tv acz,aa g1 #[iw 0,iw 0,iw 0,nS,nS] 100] ?_;refine gH [0,1,2,3,5,6,7,8,11] [0,0,2,2,2,2,2] ?_;refine ag 4 ?_;refine ah (e:=71) [(0,.agg (vc bF.mt))] (vc bF.mt) (fun g24=>?_) (hb:=by kernel_rfl);refine nH [1,1,3,3,3,3,3]<|ag 9 ?_
 refine aC (fun _ h=>Holds.slice 0 h aZ [bF.mt]) ?_;refine aq (L:=[bF.mt]) 0 aZ Tryz.underlying28 (.own 2) (by show _*48≤_;(try simp only[cD]);omega) ol (fun v25=>?_);refine nH [1,1,3,3,3,3,3]<|ag 10 ?_
 refine sL (bL aZ Tryz.underlying28 (.own 0))<|nH [1,1,3,3,3,3,3]<|aI ?_
 refine ax<|cE<|bk (fun H h=>(h.mp (i:=7) rfl).nodup) (fun DI=>?_)
 refine aK (fun _ h=>(gn mH)▸cH (o':=bF) DI rX mH (dH (o:=bF) (h.re [1,1,1,1] []))) ?_;refine aK (Bs:=jg BP st::own bq v25 ([bF.mt]++bF.vals)::aa g22 #[iw id,iw (bf bF),iw 0,nS,nS] 100::aa b #[.map (some mb9),iw (st.objs.length:Int),.map (some Tv)] 97::dr iK oV mb9 BP::dr iK bV Tv acz::aa g1 #[iw 0,iw 0,iw 0,nS,nS] 100::F) (fun _ h=>h) ?_;refine aK (fun _ h=>dz (st:=st) (n:=(st.objs.length:Int)) ⟨⟨DO,acA,wb⟩,rfl⟩ (h.re [3,3,3,0] [])) ?_;refine aK (fun _ h=>Holds.nilS (T:=an) h) ?_;refine aK (Bs:=own an nS (gG (bF.mt::bF.vals) 0)::CN b st BP::own bq v25 (bF.mt::bF.vals)::aa g22 #[iw id,iw (bf bF),iw 0,nS,nS] 100::aa g1 #[iw 0,iw 0,iw 0,nS,nS] 100::F) (fun _ h=>h) ?_;have vU:(bF.mt::bF.vals).length=bF.vals.length+1:=rfl;refine aD (ι:=Value×Nat) (fun (rx,i)=>i≤(bF.mt::bF.vals).length) (fun (rx,i)=>[(2,iw weak),(6,pB g1 0),(8,pB vH.1 0),(9,pB g22 0),(36,v25),(37,iw ((bF.mt::bF.vals).length:Int)),(38,iw (i:Int))]) (fun (rx,i)=>own an rx (gG (bF.mt::bF.vals) i)::CN b st BP::own bq v25 (bF.mt::bF.vals)::aa g22 #[iw id,iw (bf bF),iw 0,rx,nS] 100::aa g1 #[iw 0,iw 0,iw 0,nS,nS] 100::F) (fun (rx,i)=>(bF.mt::bF.vals).length-i) (nS,0) (Nat.zero_le _) (bc rfl (rQ (rQ (rQ (rQ (rQ ⟨⟨rfl,cI (by first|rfl|(simp only[cD];omega))⟩,(rQ trivial)⟩)))))) (rr [0,0,0,0,0] []) ?_;rintro⟨rx,i⟩ uS;try dsimp only at uS⊢
 have hrl:=AS (bF.mt::bF.vals) i;refine gc ?_;refine b9 (fun Dt=>?_) (fun JK=>?_)
 .refine go ?_;refine sL (aF aZ Tryz.underlying28 (.own 2) (i:Int) i om ol om) ?_;obtain⟨bI,rY⟩:∃y,(bF.mt::bF.vals)[i]?=some y:=⟨_,List.getElem?_eq_getElem ol⟩;refine sL (bC aZ (.own 2) rY)<|ae (.agg zc) zc (fun zF=>?_)
  refine go ?_;refine sV (fun _ h=>mf bI)<|sL aT<|bH<|b9 (fun kt=>?_) (fun q33=>?_)
  .refine br [aa zF (vc bI) 71,own bq v25 (bF.mt::bF.vals),aa g1 #[iw 0,iw 0,iw 0,nS,nS] 100] ?_;refine gH [0,2] [0,2,3] ?_;refine aN 1 3 ?_ ?_
   .refine sL (aJ 4 rx)<|nH [0,2,3]<|ag 3 ?_
    refine sV (fun _ h=>mf bI)<|nH [0,2,3]<|ag 4 ?_
    refine ah (e:=3) [(0,iw (cJ bI))] #[iw (cJ bI)] (fun NM=>?_) (hb:=by kernel_rfl);refine nH [1,3,4]<|ag 5 ?_
    refine aq (L:=(gG (bF.mt::bF.vals) i)) 2 ak Tryz.underlying23 (.lit 0 ak [(cJ bI)]) (by show _*8≤_;(try simp only[cD]);omega) ol (fun v36=>?_);refine nH [1,3,4] ?_;refine gH [6] [1,3,4] ?_;refine ag 7 ?_;refine sF 2 (fun yk=>?_);refine ar (u:=v36) (m:=1) 5 #[iw id,iw (bf bF),iw 0,v36,nS] ?_ (hm:=by (obtain⟨_,_,e⟩:=yk;rw[e];rfl)) (h1:=by (obtain⟨_,_,e⟩:=yk;rw[e];rfl)) (ha':=by (obtain⟨_,_,e⟩:=yk;rw[e];rfl));refine nH [1,3,4]<|aI ?_
    refine go ?_;refine sL (bX (i:Int) 1 ol) ?_;refine go ?_;have dM:=oc rY;rw[if_pos kt]at dM;rw[←dM];exact az (v36,i+1) (by show (bF.mt::bF.vals).length-(i+1)<(bF.mt::bF.vals).length-i;omega) (by show i+1≤(bF.mt::bF.vals).length;omega) sA (rr [2,2,2,2,2] [5,5])
   refine sV (fun _ h=>mf bI)<|nH [0,2,3]<|aN 1 4 ?_ ?_
   .refine sL (aJ 4 rx)<|nH [0,2,3]<|ag 4 ?_
    refine ah (e:=3) [(0,iw (cJ bI))] #[iw (cJ bI)] (fun g38=>?_) (hb:=by kernel_rfl);refine nH [1,3,4]<|ag 5 ?_
    refine aq (L:=(gG (bF.mt::bF.vals) i)) 2 ak Tryz.underlying23 (.lit 0 ak [(cJ bI)]) (by show _*8≤_;(try simp only[cD]);omega) ol (fun VY=>?_);refine nH [1,3,4] ?_;refine gH [6] [1,3,4] ?_;refine ag 7 ?_;refine sF 2 (fun pM=>?_);refine ar (u:=VY) (m:=1) 5 #[iw id,iw (bf bF),iw 0,VY,nS] ?_ (hm:=by (obtain⟨_,_,e⟩:=pM;rw[e];rfl)) (h1:=by (obtain⟨_,_,e⟩:=pM;rw[e];rfl)) (ha':=by (obtain⟨_,_,e⟩:=pM;rw[e];rfl));refine nH [1,3,4]<|aI ?_
    refine go ?_;refine sL (bX (i:Int) 1 ol) ?_;refine go ?_;have dM:=oc rY;rw[if_pos kt]at dM;rw[←dM];exact az (VY,i+1) (by show (bF.mt::bF.vals).length-(i+1)<(bF.mt::bF.vals).length-i;omega) (by show i+1≤(bF.mt::bF.vals).length;omega) sA (rr [2,2,2,2,2] [5,5])
   refine ah (e:=3) [(0,iw (cJ bI))] #[iw (cJ bI)] (fun wL=>?_) (hb:=by kernel_rfl);refine nH [1,3,4]<|ag 1 ?_
   refine sL (aJ 5 rx)<|nH [1,3,4]<|ag 5 ?_
   refine aq (L:=(gG (bF.mt::bF.vals) i)) 2 ak Tryz.underlying23 (.lit 0 ak [(cJ bI)]) (by show _*8≤_;(try simp only[cD]);omega) ol (fun Tf=>?_);refine nH [1,3,4] ?_;refine gH [6] [1,3,4] ?_;refine ag 7 ?_;refine sF 2 (fun DF=>?_);refine ar (u:=Tf) (m:=1) 5 #[iw id,iw (bf bF),iw 0,Tf,nS] ?_ (hm:=by (obtain⟨_,_,e⟩:=DF;rw[e];rfl)) (h1:=by (obtain⟨_,_,e⟩:=DF;rw[e];rfl)) (ha':=by (obtain⟨_,_,e⟩:=DF;rw[e];rfl));refine nH [1,3,4]<|aI ?_
   refine go ?_;refine sL (bX (i:Int) 1 ol) ?_;refine go ?_;have dM:=oc rY;rw[if_pos kt]at dM;rw[←dM];exact az (Tf,i+1) (by show (bF.mt::bF.vals).length-(i+1)<(bF.mt::bF.vals).length-i;omega) (by show i+1≤(bF.mt::bF.vals).length;omega) sA (rr [2,2,2,2,2] [5,5])
  have LJ:=Decidable.not_not.1 q33;refine go ?_;refine sL (bX (i:Int) 1 ol) ?_;refine go ?_;have dM:=oc rY;rw[if_neg q33]at dM;rw[←dM];exact az (rx,i+1) (by show (bF.mt::bF.vals).length-(i+1)<(bF.mt::bF.vals).length-i;omega) (by show i+1≤(bF.mt::bF.vals).length;omega) sA (rr [1,1,1,1,1] [5])
 refine go ?_;refine dc (fun H h=>gN (h.re [1] [])) (fun wi wj Ki hw=>?_);obtain⟨Kj,Yr,Ys⟩:=hw;refine cr (fun H h=>gj rX mH (h.re [3] [])) (fun Ff _=>?_);refine gc ?_;refine b9 (fun zk=>?_) (fun p72=>?_)
 .refine aE<|b6 (ι:=Unit) (fun _=>True) (fun _=>[(2,iw weak),(6,pB g1 0),(8,pB vH.1 0),(9,pB g22 0),(63,.bool ((decide ((0:Int)≤weak))&&(decide (weak≤3))))]) (fun _=>aa vH.1 #[iw bF.kind,iw bF.tag,sw bF.name,(gS vH bF),iw bF.mt.kind,iw bF.mt.p,iw bF.mt.q,sw bF.mt.str,iw bF.mt.ref,Ff] 123::own bq Ff bF.vals::rV vH bF::nc BP st id::aa b #[.map (some wi),iw (st.objs.length:Int),.map (some wj)] 97::dr iK oV wi BP::dr iK bV wj Ki::own an rx (gG (bF.mt::bF.vals) i)::own bq v25 (bF.mt::bF.vals)::aa g22 #[iw id,iw (bf bF),iw 0,rx,nS] 100::aa g1 #[iw 0,iw 0,iw 0,nS,nS] 100::F) ?_ (fun _ _=>?_)
  .refine gc ?_;refine eF 60 (fun FV=>?_) (fun JJ=>?_)
   .refine gc ?_;exact bh () trivial (bc rfl (rQ (rQ (rQ (rQ ⟨⟨rfl,show Value.bool (decide (weak≤3))=Value.bool ((decide ((0:Int)≤weak))&&(decide (weak≤3))) by first|(simp only[FV,jK];done)|simp[FV]⟩,trivial⟩))))) (rr [0,0,0,0,0,0,0,0,0,0,0] [])
   refine go ?_;exact bh () trivial (bc rfl (rQ (rQ (rQ (rQ ⟨⟨rfl,show Value.bool false=Value.bool ((decide ((0:Int)≤weak))&&(decide (weak≤3))) by first|(simp only[JJ,jK];done)|simp[JJ]⟩,trivial⟩))))) (rr [0,0,0,0,0,0,0,0,0,0,0] [])
  refine kd (fun Yt=>?_) (fun Yt=>?_)
  .obtain ⟨c59,c60⟩:=kk Yt;have p61:=dY c59;have p62:=dY c60;refine bd<|sP (iw weak)<|sP (pB g22 2)<|ar 9 #[iw id,iw (bf bF),iw weak,rx,nS] ?_
   refine bH<|bd<|oN (pB vH.1 0)<|sP (pB vH.1 3)<|sL (Lt.to (v':=bu vH.2) (aJ 0 (gS vH bF)) (by unfold gS;rw[if_pos zk]))<|aC (fun _ h=>qB zk (h.re [2] [])) ?_
   refine aH [0] (AT (L:=bF.tab.list) (S:=bF.tab.rest) (Kj.obs bF (get_mem mH).1).tab (hw.of mH).tw ol ol) ?_;rintro v63 _ rfl;refine sF 0 (fun zL=>?_);refine sP (pB g22 4)<|ar (u:=v63) (m:=1) 10 #[iw id,iw (bf bF),iw weak,rx,v63] ?_ (hm:=by (obtain⟨_,_,e⟩:=zL;rw[e];rfl)) (h1:=by (obtain⟨_,_,e⟩:=zL;rw[e];rfl)) (ha':=by (obtain⟨_,_,e⟩:=zL;rw[e];rfl))
   refine go ?_;refine sF 8 (fun Gr=>?_);refine ar (u:=.agg #[iw id,iw (bf bF),iw weak,rx,v63]) (m:=5) 11 #[iw id,iw (bf bF),iw weak,rx,v63] ?_ (hm:=by (obtain⟨_,_,e⟩:=Gr;rw[e];obtain⟨_,_,e⟩:=zL;rw[e];rfl)) (h1:=by (obtain⟨_,_,e⟩:=Gr;rw[e];obtain⟨_,_,e⟩:=zL;rw[e];rfl)) (ha':=by (obtain⟨_,_,e⟩:=Gr;rw[e];obtain⟨_,_,e⟩:=zL;rw[e];rfl));refine go ?_;refine ab (fun _ h=>nd (T:=bF.tab) zk (h.re [1] [])) ?_;refine ab (Bs:=rV vH bF::own cq v63 (dC ⟨bF.tab.list,bF.tab.rest⟩)::aa vH.1 #[iw bF.kind,iw bF.tag,sw bF.name,(gS vH bF),iw bF.mt.kind,iw bF.mt.p,iw bF.mt.q,sw bF.mt.str,iw bF.mt.ref,Ff] 123::own bq Ff bF.vals::nc BP st id::aa b #[.map (some wi),iw (st.objs.length:Int),.map (some wj)] 97::dr iK oV wi BP::dr iK bV wj Ki::own an rx (gG (bF.mt::bF.vals) i)::own bq v25 (bF.mt::bF.vals)::aa g22 #[iw id,iw (bf bF),iw weak,rx,v63] 100::aa g1 #[iw id,iw (bf bF),iw weak,rx,v63] 100::F) (fun _ h=>h) ?_;refine ib (fun H h=>(h.mp (i:=6) rfl).nodup) (fun acC=>?_);refine ab (fun _ h=>(gn mH)▸cH (o':=bF) acC rX mH (dH (o:=bF) (h.re [2,2,0,1] []))) ?_;refine ab (Bs:=jg BP st::own cq v63 (dC ⟨bF.tab.list,bF.tab.rest⟩)::aa b #[.map (some wi),iw (st.objs.length:Int),.map (some wj)] 97::dr iK oV wi BP::dr iK bV wj Ki::own an rx (gG (bF.mt::bF.vals) i)::own bq v25 (bF.mt::bF.vals)::aa g22 #[iw id,iw (bf bF),iw weak,rx,v63] 100::aa g1 #[iw id,iw (bf bF),iw weak,rx,v63] 100::F) (fun _ h=>h) ?_;refine ab (fun _ h=>dz (st:=st) (n:=(st.objs.length:Int)) ⟨⟨Kj,Yr,Ys⟩,rfl⟩ (h.re [2,2,2,0] [])) ?_;refine ab (fun _ h=>cf (h.re [0] [])) ?_;have iA:gG (bF.mt::bF.vals) i=n' bF:=qF om;have iZ:=iC mH weak;have vI:kY bF weak=weak:=by unfold kY;rw[if_pos ⟨zk,by omega,by omega⟩]
   have Gs:aY st id=dC bF.tab:=by rw[iZ.2.2.2.2.2];exact if_pos zk
   exact ad [.agg #[iw id,iw (bf bF),iw weak,rx,v63],.bool true] (own an rx (gG (bF.mt::bF.vals) i)::own cq v63 (dC bF.tab)::bJ b st::F) (SI.agg 6 100 5 (SI.tmp 7 SI.nil)) (rr [2,1,0] [3,3,3]) ⟨rx,v63,by rw[iZ.1,iZ.2.1,iZ.2.2.1,iZ.2.2.2.1,vI];rfl,by rw[Gs,iZ.2.2.2.2.1,iA]⟩
  have X6:=Yt;simp only[Bool.and_eq_true,Bool.or_eq_true,Bool.and_eq_false_iff,Bool.or_eq_false_iff,Bool.not_eq_true',Bool.not_eq_false',decide_eq_true_eq,decide_eq_false_iff_not]at X6;refine eT<|bd<|oN (pB vH.1 0)<|sP (pB vH.1 3)<|sL (Lt.to (v':=bu vH.2) (aJ 0 (gS vH bF)) (by unfold gS;rw[if_pos zk]))<|aC (fun _ h=>qB zk (h.re [2] [])) ?_
  refine aH [0] (AT (L:=bF.tab.list) (S:=bF.tab.rest) (Kj.obs bF (get_mem mH).1).tab (hw.of mH).tw ol ol) ?_;rintro Ic _ rfl;refine sF 0 (fun Gt=>?_);refine sP (pB g22 4)<|ar (u:=Ic) (m:=1) 10 #[iw id,iw (bf bF),iw 0,rx,Ic] ?_ (hm:=by (obtain⟨_,_,e⟩:=Gt;rw[e];rfl)) (h1:=by (obtain⟨_,_,e⟩:=Gt;rw[e];rfl)) (ha':=by (obtain⟨_,_,e⟩:=Gt;rw[e];rfl))
  refine go ?_;refine sF 8 (fun Gu=>?_);refine ar (u:=.agg #[iw id,iw (bf bF),iw 0,rx,Ic]) (m:=5) 11 #[iw id,iw (bf bF),iw 0,rx,Ic] ?_ (hm:=by (obtain⟨_,_,e⟩:=Gu;rw[e];obtain⟨_,_,e⟩:=Gt;rw[e];rfl)) (h1:=by (obtain⟨_,_,e⟩:=Gu;rw[e];obtain⟨_,_,e⟩:=Gt;rw[e];rfl)) (ha':=by (obtain⟨_,_,e⟩:=Gu;rw[e];obtain⟨_,_,e⟩:=Gt;rw[e];rfl));refine go ?_;refine ab (fun _ h=>nd (T:=bF.tab) zk (h.re [1] [])) ?_;refine ab (Bs:=rV vH bF::own cq Ic (dC ⟨bF.tab.list,bF.tab.rest⟩)::aa vH.1 #[iw bF.kind,iw bF.tag,sw bF.name,(gS vH bF),iw bF.mt.kind,iw bF.mt.p,iw bF.mt.q,sw bF.mt.str,iw bF.mt.ref,Ff] 123::own bq Ff bF.vals::nc BP st id::aa b #[.map (some wi),iw (st.objs.length:Int),.map (some wj)] 97::dr iK oV wi BP::dr iK bV wj Ki::own an rx (gG (bF.mt::bF.vals) i)::own bq v25 (bF.mt::bF.vals)::aa g22 #[iw id,iw (bf bF),iw 0,rx,Ic] 100::aa g1 #[iw id,iw (bf bF),iw 0,rx,Ic] 100::F) (fun _ h=>h) ?_;refine ib (fun H h=>(h.mp (i:=6) rfl).nodup) (fun acD=>?_);refine ab (fun _ h=>(gn mH)▸cH (o':=bF) acD rX mH (dH (o:=bF) (h.re [2,2,0,1] []))) ?_;refine ab (Bs:=jg BP st::own cq Ic (dC ⟨bF.tab.list,bF.tab.rest⟩)::aa b #[.map (some wi),iw (st.objs.length:Int),.map (some wj)] 97::dr iK oV wi BP::dr iK bV wj Ki::own an rx (gG (bF.mt::bF.vals) i)::own bq v25 (bF.mt::bF.vals)::aa g22 #[iw id,iw (bf bF),iw 0,rx,Ic] 100::aa g1 #[iw id,iw (bf bF),iw 0,rx,Ic] 100::F) (fun _ h=>h) ?_;refine ab (fun _ h=>dz (st:=st) (n:=(st.objs.length:Int)) ⟨⟨Kj,Yr,Ys⟩,rfl⟩ (h.re [2,2,2,0] [])) ?_;refine ab (fun _ h=>cf (h.re [0] [])) ?_;have iA:gG (bF.mt::bF.vals) i=n' bF:=qF om;have iZ:=iC mH weak;have vI:kY bF weak=0:=by unfold kY;rw[if_neg];rintro⟨h1,h2,h3⟩;omega
  have Gs:aY st id=dC bF.tab:=by rw[iZ.2.2.2.2.2];exact if_pos zk
  exact ad [.agg #[iw id,iw (bf bF),iw 0,rx,Ic],.bool true] (own an rx (gG (bF.mt::bF.vals) i)::own cq Ic (dC bF.tab)::bJ b st::F) (SI.agg 6 100 5 (SI.tmp 7 SI.nil)) (rr [2,1,0] [3,3,3]) ⟨rx,Ic,by rw[iZ.1,iZ.2.1,iZ.2.2.1,iZ.2.2.2.1,vI];rfl,by rw[Gs,iZ.2.2.2.2.1,iA]⟩
 refine go ?_;refine sF 7 (fun zC=>?_);refine ar (u:=.agg #[iw id,iw (bf bF),iw 0,rx,nS]) (m:=5) 10 #[iw id,iw (bf bF),iw 0,rx,nS] ?_ (hm:=by (obtain⟨_,_,e⟩:=zC;rw[e];rfl)) (h1:=by (obtain⟨_,_,e⟩:=zC;rw[e];rfl)) (ha':=by (obtain⟨_,_,e⟩:=zC;rw[e];rfl));refine go ?_;refine ib (fun H h=>(h.mp (i:=5) rfl).nodup) (fun acE=>?_);refine ab (fun _ h=>(gn mH)▸cH (o':=bF) acE rX mH (dH (o:=bF) (h.re [0,0,0,0] []))) ?_;refine ab (Bs:=jg BP st::aa b #[.map (some wi),iw (st.objs.length:Int),.map (some wj)] 97::dr iK oV wi BP::dr iK bV wj Ki::own an rx (gG (bF.mt::bF.vals) i)::own bq v25 (bF.mt::bF.vals)::aa g22 #[iw id,iw (bf bF),iw 0,rx,nS] 100::aa g1 #[iw id,iw (bf bF),iw 0,rx,nS] 100::F) (fun _ h=>h) ?_;refine ab (fun _ h=>dz (st:=st) (n:=(st.objs.length:Int)) ⟨⟨Kj,Yr,Ys⟩,rfl⟩ (h.re [1,1,1,0] [])) ?_;refine ab (fun _ h=>Holds.nilS (T:=cq) h) ?_;refine ab (fun _ h=>cf (h.re [1] [])) ?_;have iA:gG (bF.mt::bF.vals) i=n' bF:=qF om;have iZ:=iC mH weak;have vI:kY bF weak=0:=by unfold kY;rw[if_neg];rintro⟨h1,h2,h3⟩;exact absurd h1 p72
 have Gs:aY st id=[]:=by rw[iZ.2.2.2.2.2];exact if_neg p72
 exact ad [.agg #[iw id,iw (bf bF),iw 0,rx,nS],.bool true] (own an rx (gG (bF.mt::bF.vals) i)::own cq nS []::bJ b st::F) (SI.agg 6 100 5 (SI.tmp 7 SI.nil)) (rr [2,1,0] [3,3,3]) ⟨rx,nS,by rw[iZ.1,iZ.2.1,iZ.2.2.1,iZ.2.2.2.1,vI];rfl,by rw[Gs,iZ.2.2.2.2.1,iA]⟩
def Gv(al:Int→Bool)(G:List Int)(id:Int):List Int:=if al id=true∧id∉G then G++[id] else G
def srs(al:Int→Bool)(G X:List Int):List Int:=X.foldl (Gv al) G
inductive Rq(al:Int→Bool)(rf:Int→List Int)(R:List Int):Int→Prop
 | root {x:Int}:x∈R→al x=true→Rq al rf R x
 | step {x z:Int}:Rq al rf R x→z∈rf x→al z=true→Rq al rf R z
section
variable{al:Int→Bool}{rf:Int→List Int}{R G X:List Int}{id x y z:Int}{h k i:Nat}
theorem BQ(h1:al id=true)(hn:id∉G):Gv al G id=G++[id]:=if_pos ⟨h1,hn⟩
theorem DU(h1:al id=false):Gv al G id=G:=if_neg fun q=>by rw[h1]at q;exact absurd q.1 (by decide)
theorem OD(h1:id∈G):Gv al G id=G:=if_neg fun q=>q.2 h1
structure Srs(al:Int→Bool)(G X N:List Int):Prop where
 pre:G <+: N
 got:∀z∈X,al z=true→z∈N
 sound:∀x∈N,x∈G∨x∈X∧al x=true
 nodup:G.Nodup→N.Nodup
theorem rZ(al:Int→Bool)(X:List Int):∀G,Srs al G X (srs al G X):=by
 induction X with
 | nil=>exact fun G=>⟨List.prefix_refl _,by simp,fun x h=>.inl h,fun h=>h⟩
 | cons a r ih=>
  intro G;have k:=ih (Gv al G a);have e:srs al G (a::r)=srs al (Gv al G a) r:=rfl;rw[e];have hp:G <+: Gv al G a:=by grind[Gv]
  refine⟨hp.trans k.pre,fun z hz hi=>?_,fun x hx=>?_,fun h=>k.nodup ?_⟩
  .rcases List.mem_cons.1 hz with rfl|hz
   .refine k.pre.subset ?_;grind[BQ]
   exact k.got z hz hi
  .rcases k.sound x hx with h|⟨h,hi⟩
   all_goals grind[Gv]
  grind[Gv]
theorem tq(h1:X[i]?=some y):srs al G (X.take (i+1))=Gv al (srs al G (X.take i)) y:=by
 unfold srs;rw[List.take_add_one,h1,List.foldl_append];rfl
theorem Ie(al:Int→Bool)(X G:List Int):(srs al G X).length≤G.length+X.length:=by
 have:∀(X G:List Int),(srs al G X).length≤G.length+X.length:=by
  intro X;induction X with
  | nil=>exact fun G=>Nat.le_refl _
  | cons a r ih=>
   intro G;have h1:=ih (Gv al G a);grind[Gv,srs]
 grind
structure Bq(al:Int→Bool)(rf:Int→List Int)(R:List Int)(h:Nat)(G:List Int):Prop where
 top:h≤G.length
 nodup:G.Nodup
 snd:∀x∈G,al x=true∧Rq al rf R x
 roots:∀r∈R,al r=true→r∈G
 done:∀(i:Nat) (x:Int),i<h→G[i]?=some x→∀z∈rf x,al z=true→z∈G
theorem DV(al:Int→Bool)(rf:Int→List Int)(R:List Int):Bq al rf R 0 (srs al [] R):=by
 have k:=rZ al R [];refine⟨Nat.zero_le _,k.nodup List.nodup_nil,fun x hx=>?_,k.got,fun i x hi=>absurd hi (Nat.not_lt_zero _)⟩;rcases k.sound x hx with h|⟨h,hi⟩
 .grind
 exact⟨hi,.root h hi⟩
theorem Gw{B:List Int}(h:A <+: B){i:Nat}(hi:i<A.length):B[i]?=A[i]?:=by
 obtain⟨t,rfl⟩:=h;grind
theorem Bq.step(b:Bq al rf R h G)(hx:G[h]?=some x):Bq al rf R (h+1) (srs al G (rf x)):=by
 have k:=rZ al (rf x) G;have nC:h<G.length:=(List.getElem?_eq_some_iff.1 hx).1;refine⟨by have:=k.pre.length_le;omega,k.nodup b.nodup,fun y hy=>?_,fun r hr hi=>k.pre.subset (b.roots r hr hi),fun i y hi hy z hz hz'=>?_⟩
 .rcases k.sound y hy with h1|⟨h1,hi⟩
  .exact b.snd y h1
  exact⟨hi,.step (b.snd x (List.mem_of_getElem? hx)).2 h1 hi⟩
 rw[Gw k.pre (by omega)]at hy;by_cases e:i=h
 .subst e;rw[hx]at hy;cases hy;exact k.got z hz hz'
 exact k.pre.subset (b.done i y (by omega) hy z hz hz')
theorem Bq.fin(b:Bq al rf R h G)(hh:G.length≤h)(x:Int):x∈G↔Rq al rf R x:=by
 refine⟨fun hx=>(b.snd x hx).2,fun hx=>?_⟩;induction hx with
 | root h1 h2=>exact b.roots _ h1 h2
 | step h1 h2 h3 ih=>
  obtain⟨i,hi⟩:=List.mem_iff_getElem?.1 ih;exact b.done i _ (by have:=(List.getElem?_eq_some_iff.1 hi).1;omega) hi _ h2 h3
theorem Bq.len(b:Bq al rf R h G)(hA:∀x,al x=true→x∈A):G.length≤A.length:=
 b.nodup.length_le_of_subset fun x hx=>hA x (b.snd x hx).1
theorem VZ(h1:Rq al rf R x):al x=true:=by cases h1<;>assumption
theorem DW{al':Int→Bool}{rf':Int→List Int}(ha:∀x,al x=al' x)(hf:∀x,al x=true→rf x=rf' x)(h1:Rq al rf R x):Rq al' rf' R x:=by
 induction h1 with
 | root h1 h2=>exact .root h1 (by grind)
 | step h1 h2 h3 ih=>exact .step ih (by grind[VZ]) (by grind)
def kI(G:List Int)(h:Nat)(id:Int):Int:=if id∈G.take h then 2 else if id∈G then 1 else 0
theorem tu(e:kI G h id=0):id∉G:=by grind[kI]
theorem OE(e:kI G h id≠0):id∈G:=by grind[kI]
theorem wR(hh:h≤G.length)(hn:id∉G):kI (G++[id]) h x=if x=id then 1 else kI G h x:=by grind[kI]
theorem qI(hy:G[h]?=some y):kI G (h+1) x=if x=y then 2 else kI G h x:=by
 unfold kI;rw[List.take_add_one,hy];grind
theorem wS(hh:G.length≤h):kI G h x=2↔x∈G:=by
 unfold kI;rw[List.take_of_length_le hh];grind
theorem Tw:kI [] h id=0:=by grind[kI]
end
structure Sv where
 p:Option Addr
 len:Nat
 cap:Nat
abbrev Sv.v(s:Sv):Value:=.slice s.p s.len s.cap
structure Rx where
 o:Option kX
 tp:Nat
 uv:Sv
 rv:Sv
end
section
variable{st:bp}{Z:bK}{F:List aW}{b n:Nat}{o:kX}{x:Rx}{m:Vl}{α:Type}{tv:Value}{T:List Bool}{id:Int}
def Rx.v:Rx→Value
 | ⟨some o,tp,uv,rv⟩=>.agg #[.int .i64 o.kind,.int .i64 o.tag,.string o.name,gS (0,tp) o,.int .i64 o.mt.kind,.int .i64 o.mt.p,.int .i64 o.mt.q,.string o.mt.str,.int .i64 o.mt.ref,uv.v,rv.v]
 | ⟨none,_,_,_⟩=>.agg #[.int .i64 0,.int .i64 0,.string ByteArray.empty,.pointer none,.int .i64 0,.int .i64 0,.int .i64 0,.string ByteArray.empty,.int .i64 0,.slice none 0 0,.slice none 0 0]
theorem OF(q:Nat×Nat)(o:kX):(gS q o).oneCell'=true:=by unfold gS;split<;>rfl
theorem pN{q:Nat×Nat}(h:o.kind=4):gS q o=bu q.2:=by unfold gS;rw[if_pos h]
def CP:Ty Rx:=⟨145,11,136,true,Rx.v,⟨none,0,⟨none,0,0⟩,⟨none,0,0⟩⟩⟩
theorem ft : CP.Ok Tryz.prog := pg CP _ Tryz.t145 (by decide) (fun x => by obtain ⟨o, _, _, _⟩ := x; cases o <;> rfl) (fun x u hu => by
  obtain ⟨o, tp, uv, rv⟩ := x
  cases o with
  | none => simp [Ty.enc, CP, Rx.v, Value.cells] at hu; repeat (first | (rcases hu with rfl | hu; rfl) | (subst hu; rfl))
  | some o =>
    simp [Ty.enc, CP, Rx.v, Value.cells] at hu
    rcases hu with rfl | rfl | rfl | rfl | rfl | rfl | rfl | rfl | rfl | rfl | rfl <;> first | rfl | exact OF _ _) (fun x => by obtain ⟨o, _, _, _⟩ := x; cases o <;> rfl) Tryz.underlying145 rfl (fun h => by cases h) (by kernel_rfl) (by kernel_rfl) (by kernel_rfl) (by kernel_rfl)
def wk(o:kX):List Vl:=if o.kind=8 then o.vals else []
def tx(o:kX):List Vl:=if o.kind=8 then [] else o.vals
def Fj(tp:Nat)(o:kX):aW:=star (if o.kind=4 then [kP tp o.tab.list o.tab.rest] else [])
def Kk:Rx→aW
 | ⟨some o,tp,uv,rv⟩=>star [own bq uv.v (wk o),own bq rv.v (tx o),Fj tp o]
 | ⟨none,_,_,_⟩=>star []
def ij(L:List Rx):aW:=star (L.map Kk)
def bs(b:Nat)(st:bp):aW:=lj fun v=>lj fun tv=>lj fun L=>zr (fe st∧L.map Rx.o=st.objs) [aa b #[v,iw (st.count:Int),tv] 142,own CP v L,own nA tv st.tch,ij L]
section
variable{Z:bK}{F:List aW}{H:bb}{b:Nat}{st:bp}{L:List Rx}{id:Int}{o o':kX}{i tp:Nat}{uv rv:Sv}
theorem fP(h:Holds Z (bs b st::F) H):∃(v tv:Value) (L:List Rx),(fe st∧L.map Rx.o=st.objs)∧Holds Z (aa b #[v,iw (st.count:Int),tv] 142::own CP v L::own nA tv st.tch::ij L::F) H:=by
 obtain⟨v,h⟩:=h.open_ex;obtain⟨tv,h⟩:=h.open_ex;obtain⟨L,h⟩:=h.open_ex;exact⟨v,tv,L,h.open_st⟩
theorem dI{v:Value}{n:Int}(hp:((fe st∧L.map Rx.o=st.objs)∧n=(st.count:Int))∧T=st.tch)(h:Holds Z (aa b #[v,iw n,tv] 142::own CP v L::own nA tv T::ij L::F) H):Holds Z (bs b st::F) H:=by
 obtain⟨⟨h1,rfl⟩,rfl⟩:=hp;exact Holds.shut_ex v (Holds.shut_ex tv (Holds.shut_ex L (Holds.shut_st h1 h)))
theorem od(h:Holds Z (bs b st::F) H):fe st:=by
 obtain⟨_,_,_,h,_⟩:=fP h;exact h.1
theorem iN(hL:L.map Rx.o=st.objs):L.length=st.objs.length:=by rw[←hL,List.length_map]
theorem lJ(hL:L.map Rx.o=st.objs)(ho:st.get id=some o):∃tp uv rv,L[(id-1).toNat]?=some ⟨some o,tp,uv,rv⟩:=by
 obtain⟨_,h1,h2,h3⟩:=get_mem ho;rw[←hL,List.getElem?_map,show id.toNat-1=(id-1).toNat by omega]at h3;cases hx:L[(id-1).toNat]? with
 | none=>rw[hx]at h3;cases h3
 | some x=>
  rw[hx]at h3;obtain⟨ox,tp,uv,rv⟩:=x;simp at h3;exact⟨tp,uv,rv,by rw[←h3]⟩
theorem yl(hL:L.map Rx.o=st.objs)(h1:1≤id)(h2:id≤(L.length:Int)):(∃tp uv rv,L[(id-1).toNat]?=some ⟨none,tp,uv,rv⟩∧st.get id=none)∨∃o tp uv rv,L[(id-1).toNat]?=some ⟨some o,tp,uv,rv⟩∧st.get id=some o:=by
 have nC:(id-1).toNat<L.length:=by omega
 obtain⟨x,hx⟩:∃x,L[(id-1).toNat]?=some x:=⟨_,List.getElem?_eq_getElem nC⟩;have hg:st.get id=x.o:=by
  unfold bp.get;rw[if_pos h1,←hL,List.getElem?_map,show id.toNat-1=(id-1).toNat by omega,hx];rfl
 obtain⟨o,tp,uv,rv⟩:=x;cases o with
 | none=>exact .inl ⟨tp,uv,rv,hx,hg⟩
 | some o=>exact .inr ⟨o,tp,uv,rv,hx,hg⟩
theorem pO(h4:o.kind=4)(h:Holds Z (Fj tp o::F) H):Holds Z (kP tp o.tab.list o.tab.rest::F) H:=by
 unfold Fj at h;rw[if_pos h4]at h;exact h.star_out
theorem lK{T:Tb}(h4:o.kind=4)(h:Holds Z (kP tp T.list T.rest::F) H):Holds Z (Fj tp { o with tab:=T }::F) H:=by
 unfold Fj;rw[if_pos h4];exact Holds.star_in (L:=[_]) h
theorem DX(h4:o.kind≠4)(h:Holds Z F H):Holds Z (Fj tp o::F) H:=by
 unfold Fj;rw[if_neg h4];exact h.star_nil
theorem kA(hy:L[i]?=some ⟨some o,tp,uv,rv⟩)(h:Holds Z (ij L::F) H):Holds Z (own bq uv.v (wk o)::own bq rv.v (tx o)::Fj tp o::ij (L.eraseIdx i)::F) H:=(h.star_get hy).star_out
theorem ke(hy:L[i]?=some ⟨some o,tp,uv,rv⟩){uv' rv':Sv}(h:Holds Z (own bq uv'.v (wk o')::own bq rv'.v (tx o')::Fj tp o'::ij (L.eraseIdx i)::F) H):Holds Z (ij (L.set i ⟨some o',tp,uv',rv'⟩)::F) H:=by
 have h1:Holds Z (Kk ⟨some o',tp,uv',rv'⟩::star ((L.eraseIdx i).map Kk)::F) H:=Holds.star_in (L:=[_,_,_]) h;have hi:=(List.getElem?_eq_some_iff.1 hy).1;unfold ij;rw[List.map_set];rw[←jq,←del_eq]at h1;have:=Holds.star_push (i:=i) (A:=Kk ⟨some o,tp,uv,rv⟩) (by rw[xD,List.getElem?_map,hy];rfl) h1;rwa [uE]at this
theorem OG{T : Ty α}{v : Value}{A B : List α}(hl : A.length = B.length)(hf : T.flat A = T.flat B)(h : Holds Z (own T v A :: F) H) : Holds Z (own T v B :: F) H := h.imp fun S ⟨S1, S2, h1, h2, hd, hS⟩ => ⟨S1, S2, ⟨by
  obtain ⟨hw, _⟩ := h1
  unfold Ow at hw ⊢
  rw [← hl, ← hf]
  rcases hw with ⟨a, b⟩ | hw
  · exact .inl ⟨a, List.eq_nil_of_length_eq_zero (by rw [← hl, b]; rfl)⟩
  · exact .inr hw, h1.2⟩, h2, hd, hS⟩
theorem flat_set{T:Ty α}{A:List α}{x y:α}(hx:A[i]?=some x)(he:T.enc y=T.enc x):T.flat (A.set i y)=T.flat A:=by
 obtain⟨hi,e⟩:=List.getElem?_eq_some_iff.1 hx;have h1:A.set i y=A.take i++([y]++A.drop (i+1)):=by rw[List.set_eq_take_append_cons_drop,if_pos hi];rfl
 have h2:A=A.take i++([x]++A.drop (i+1)):=by
  have:A.drop i=A[i]::A.drop (i+1):=List.drop_eq_getElem_cons hi;rw[←e];show A=A.take i++(A[i]::A.drop (i+1));rw[←this,List.take_append_drop]
 have hs:T.flat [y]=T.flat [x]:=by show T.enc y++T.flat []=T.enc x++T.flat [];rw[he]
 rw[h1];conv=>rhs;rw[h2]
 simp only[Ty.flat_append,hs]
theorem Tx{T:Ty α}{v:Value}{A:List α}{x y:α}(hx:A[i]?=some x)(he:T.enc y=T.enc x)(h:Holds Z (own T v A::F) H):Holds Z (own T v (A.set i y)::F) H:=OG (by simp) (flat_set hx he).symm h
theorem ym(hL:L.map Rx.o=st.objs)(ho:st.get id=some o)(hx:x.o=some o'):(L.set (id-1).toNat x).map Rx.o=(st.put id o').objs:=by
 obtain⟨_,h1,h2,_⟩:=get_mem ho;unfold bp.put;rw[List.map_set,hL,hx,show id.toNat-1=(id-1).toNat by omega]
theorem Tz(hL:L.map Rx.o=st.objs)(hx:x.o=some o')(tch:List Bool):(L++[x]).map Rx.o=(⟨st.objs++[some o'],tch⟩:bp).objs:=by rw[List.map_append,hL];simp[hx]
theorem nk(hy:L[i]?=some x)(h:Holds Z (ij (L.set i x)::F) H):Holds Z (ij L::F) H:=by
 rw[xL hy]at h;exact h
theorem OH(h:Holds Z (Kk x::ij L::F) H):Holds Z (ij (L++[x])::F) H:=by
 unfold ij;rw[List.map_append];exact Holds.star_add h
def qZ(st:bp)(v:Vl):Bool:=(dm st v).isSome
theorem yn(hi:fe st){v:Vl}(h:v.kind=0):qZ st v=false:=by
 unfold qZ;cases hf:dm st v with
 | none=>rfl
 | some o=>
  obtain⟨h1,h2⟩:=fG hf;have:=(hi.obs o (get_mem h1).1).kind;rw[h2,h]at this;cases this
theorem lM{v:Vl}(h:st.get v.ref=none):qZ st v=false:=by unfold qZ;rw[xU h];rfl
theorem tz(h:¬1≤id):st.get id=none:=by unfold bp.get;rw[if_neg h]
theorem pP(h:(st.objs.length:Int)<id):st.get id=none:=by unfold bp.get;rw[if_pos om,List.getElem?_eq_none om];rfl
theorem OI{v:Vl}(h:st.get v.ref=some o)(hk:o.kind≠v.kind):qZ st v=false:=by unfold qZ;rw[xT h hk];rfl
theorem TB(hi:fe st){v:Vl}(h:st.get v.ref=some o)(hk:o.kind=v.kind):isRef v.kind=qZ st v:=by
 unfold qZ;rw[pG h hk,←hk];exact (hi.obs o (get_mem h).1).kind
theorem lN(st:bp)(v:Vl)(k:Int):((qZ st v&&decide (v.kind=k))=false∧(dm st v=none∨v.kind≠k))∨∃o,(qZ st v&&decide (v.kind=k))=true∧dm st v=some o∧st.get v.ref=some o∧o.kind=v.kind∧v.kind=k:=by
 unfold qZ;cases hf:dm st v with
 | none=>exact .inl ⟨rfl,.inl rfl⟩
 | some o=>
  obtain⟨h1,h2⟩:=fG hf;by_cases hk:v.kind=k
  .exact .inr ⟨o,by simp[hk],rfl,h1,h2,hk⟩
  exact .inl ⟨by simp[hk],.inr hk⟩
theorem r0(st:bp)(v:Vl):(fm st v=none∧oI st v=8)∨∃o,fm st v=some o.tab∧st.get v.ref=some o∧o.kind=4∧v.kind=4∧oI st v=0:=by
 cases ht:fm st v with
 | none=>exact .inl ⟨rfl,nY ht⟩
 | some T=>
  obtain⟨o,_,h1,h2,h3,h4⟩:=qy ht;exact .inr ⟨o,by rw[h4],h1,h2,h3,nZ ht⟩
theorem Kl{v:Vl}(h:(qZ st v&&decide (v.kind=4))=false):oI st v=8:=by
 refine nY ?_;cases hf:dm st v with
 | none=>exact m7 hf
 | some o=>
  unfold qZ at h;rw[hf]at h;simp at h;exact te hf (by rw[(fG hf).2];exact h)
theorem Gx{v:Vl}(h:dm st v=some o)(hk:o.kind=v.kind)(h4:v.kind=4):oI st v=0:=nZ (nW h om)
end
theorem uT(v:Vl):NF 230 #[v.v] Z [] (.bool (isRef v.kind)):=by
 refine bO Tryz.func230 21 (fun w0=>?_);refine gA fun g1=>?_
 refine eF 6 (fun p3=>?_) (fun p4=>?_)
 .refine go ?_;refine ad _ _ (SI.tmp 2 SI.nil) rA ⟨cB ?_,rfl⟩;unfold isRef;simp[p3]
 refine gc ?_;refine eF 11 (fun p6=>?_) (fun p7=>?_)
 .refine go ?_;refine ad _ _ (SI.tmp 2 SI.nil) rA ⟨cB ?_,rfl⟩;unfold isRef;simp[p4,p6,p6]
 refine gc ?_;refine eF 16 (fun p9=>?_) (fun gQ=>?_)
 .refine go ?_;refine ad _ _ (SI.tmp 2 SI.nil) rA ⟨cB ?_,rfl⟩;unfold isRef;simp[p4,p7,p9,p7,p9]
 refine gc ?_;refine ad _ _ (SI.tmp 2 SI.nil) rA ⟨cB ?_,rfl⟩;unfold isRef;simp[p4,p7,gQ,p7,gQ]
theorem Yu(hl:st.objs.length≤1000000)(v:Vl):NF 202 #[pB b 0,v.v] Z (bs b st::F) (.bool (qZ st v)):=by
 refine bO Tryz.func202 46 (fun w0=>?_);refine bk (fun H h=>od (rB h)) (fun AU=>?_);refine bn ?_;refine gA fun g1=>?_
 refine eF 12 (fun p3=>?_) (fun q2=>?_)
 .refine gc ?_;refine eF 17 (fun p5=>?_) (fun kt=>?_)
  .refine go ?_;refine dc (fun H h=>fP (rB h)) (fun v6 tv7 L8 hw=>?_);obtain⟨Oc,Gy⟩:=hw;have ah6:=iN Gy;have ah7:=Oc.tch;refine gy ?_;refine sF 1 (fun BK=>?_);refine eF 27 (fun kO=>?_) (fun VJ=>?_)
   .refine gy ?_;rcases yl Gy (by omega:1≤v.ref) om with ⟨ajC,ajD,ajE,J5,abU⟩|⟨o21,acF,acG,BR,DE,acH⟩
    .refine sL (cw 0 ft (.own 1) J5) ?_;refine gc ?_;refine eF 42 (fun pD=>?_) (fun Dt=>?_)
     .refine gV ?_ (c:=fun _ h=>uT v);refine dB (fun _ h=>by obtain⟨_,_,e⟩:=BK;subst e;kernel_rfl) ?_;refine ax<|eM ?_
      refine ab (fun _ h=>dI (st:=st) (n:=(st.count:Int)) (T:=st.tch) ⟨⟨⟨Oc,Gy⟩,rfl⟩,rfl⟩ (rB h)) ?_;refine ad _ _ (SI.tmp 4 SI.nil) rA ⟨cB ?_,rfl⟩;exfalso;omega
     refine go ?_;refine dB (fun _ h=>by obtain⟨_,_,e⟩:=BK;subst e;kernel_rfl) ?_;refine ax<|eM ?_
     refine ab (fun _ h=>dI (st:=st) (n:=(st.count:Int)) (T:=st.tch) ⟨⟨⟨Oc,Gy⟩,rfl⟩,rfl⟩ (rB h)) ?_;refine ad _ _ (SI.tmp 4 SI.nil) rA ⟨cB ?_,rfl⟩;exact (lM abU).symm
    refine gy ?_;refine eF 42 (fun vA=>?_) (fun uI=>?_)
    .refine gV ?_ (c:=fun _ h=>uT v);refine dB (fun _ h=>by obtain⟨_,_,e⟩:=BK;subst e;kernel_rfl) ?_;refine ax<|eM ?_
     refine ab (fun _ h=>dI (st:=st) (n:=(st.count:Int)) (T:=st.tch) ⟨⟨⟨Oc,Gy⟩,rfl⟩,rfl⟩ (rB h)) ?_;refine ad _ _ (SI.tmp 4 SI.nil) rA ⟨cB ?_,rfl⟩;exact TB AU acH om
    refine go ?_;refine dB (fun _ h=>by obtain⟨_,_,e⟩:=BK;subst e;kernel_rfl) ?_;refine ax<|eM ?_
    refine ab (fun _ h=>dI (st:=st) (n:=(st.count:Int)) (T:=st.tch) ⟨⟨⟨Oc,Gy⟩,rfl⟩,rfl⟩ (rB h)) ?_;refine ad _ _ (SI.tmp 4 SI.nil) rA ⟨cB ?_,rfl⟩;exact (OI acH om).symm
   refine go ?_;refine dB (fun _ h=>by obtain⟨_,_,e⟩:=BK;subst e;kernel_rfl) ?_;refine ax<|eM ?_
   refine ab (fun _ h=>dI (st:=st) (n:=(st.count:Int)) (T:=st.tch) ⟨⟨⟨Oc,Gy⟩,rfl⟩,rfl⟩ (rB h)) ?_;refine ad _ _ (SI.tmp 4 SI.nil) rA ⟨cB ?_,rfl⟩;first|exact (yn AU om).symm|exact (lM (tz om)).symm|exact (lM (pP om)).symm
  refine go ?_;refine ad _ _ (SI.tmp 4 SI.nil) rA ⟨cB ?_,rfl⟩;first|exact (yn AU om).symm|exact (lM (tz om)).symm|exact (lM (pP om)).symm
 have Ay:=Decidable.not_not.1 q2;refine go ?_;refine ad _ _ (SI.tmp 4 SI.nil) rA ⟨cB ?_,rfl⟩;first|exact (yn AU om).symm|exact (lM (tz om)).symm|exact (lM (pP om)).symm
theorem yo(hl:st.objs.length≤1000000)(v:Vl)(k:Int):NF 151 #[pB b 0,v.v,iw k] Z (bs b st::F) (.bool (qZ st v&&decide (v.kind=k))):=by
 refine bO Tryz.func151 16 (fun w0=>?_);refine bn ?_;refine bj (vc v) (fun g1=>?_);refine sP (.bool false)<|bH<|b6 (ι:=Unit) (fun _=>True) (fun _=>[(6,.bool ((qZ st v)&&(decide (v.kind=k))))]) (fun _=>aa g1 (vc v) 71::bs b st::F) ?_ (fun _ _=>?_)
 .refine gC [1] ?_ (c:=Yu (st:=st) om v);refine oW 10 (fun c2=>?_) (fun c2=>?_)
  .refine gc ?_;exact xc
  refine go ?_;exact xc
 refine gz ?_;exact fg ⟨rfl,rfl⟩
theorem Gz(hl:st.objs.length≤1000000)(v:Vl):NF 145 #[pB b 0,v.v] Z (bs b st::F) (iw (oI st v)):=by
 refine bO Tryz.func145 11 (fun w0=>?_);refine gA fun g1=>?_
 refine aH [1] (yo (st:=st) om v 4) ?_;rintro u2 _ ⟨e3,rfl⟩;rcases lN st v 4 with ⟨hb4,hn5⟩|⟨o6,hb7,wB,ho9,Yv,zH⟩
 .rw [hb4]at e3;subst e3;refine go ?_;refine ad _ _ (SI.tmp 4 SI.nil) rA ⟨cI ?_,rfl⟩;exact (Kl hb4).symm
 rw[hb7]at e3;subst e3;have ah8:=get_mem ho9;refine go ?_;refine ad _ _ (SI.tmp 4 SI.nil) rA ⟨cI ?_,rfl⟩;exact (Gx wB Yv zH).symm
theorem BS(ca:jv n st)(hn:n≤300)(t k:Vl):NF 166 #[pB b 0,t.v,k.v] Z (bs b st::F) (pJ (fT st t k) (oI st t)):=by
 refine bO Tryz.func166 28 (fun w0=>?_);have vJ:=ca.len;refine bk (fun H h=>od (rB h)) (fun AU=>?_);refine bn ?_;refine gA fun g1=>?_
 refine gA fun g2=>?_
 refine gA fun g3=>?_
 refine aH [3] (Gz (st:=st) om t) ?_;rintro u4 _ ⟨e5,rfl⟩;rcases r0 st t with ⟨NZ,he7⟩|⟨o8,VT,j1,wm,Gc,Yw⟩
 .rw [he7]at e5;subst e5;refine gy ?_;refine ad [.agg zc,iw 8] (bs b st::F) (SI.agg 6 71 1 (SI.tmp 7 SI.nil)) rA ⟨?_,rfl⟩;rw[rW NZ,nY NZ];rfl
 rw[Yw]at e5;subst e5;have acI:=get_mem j1;refine gy ?_;refine dc (fun H h=>fP (rB h)) (fun m0 ajF L17 hw=>?_);obtain⟨iG,Yx⟩:=hw;have ah9:=iN Yx;have ah':=iG.tch;refine gy ?_;obtain⟨acF,acG,BR,DE⟩:=lJ Yx j1;refine sL (Lt.to (v':=bu acF) (cw 3 ft (.own 1) DE) (pN wm)) ?_;refine gy ?_;refine aC (fun _ h=>kA DE (rB h)) ?_;refine aC (fun _ h=>pO wm (rB h)) ?_;obtain⟨XM,aia,_⟩:=ca.obs o8 (get_mem j1).1;have aib:n*(n+1)≤300*301:=Nat.mul_le_mul om om;refine gC [0] ?_ (c:=Tc (L:=o8.tab.list) (S:=o8.tab.rest) ol ol k);refine ab (fun _ h=>lK (o:=o8) (T:=o8.tab) wm (rB h)) ?_;refine ab (fun _ h=>ke (o':={ o8 with tab:=o8.tab }) (uv':=acG) (rv':=BR) DE (rB h)) ?_;refine ab (fun _ h=>nk DE h) ?_;refine ab (fun _ h=>dI (st:=st) (n:=(st.count:Int)) (T:=st.tch) ⟨⟨⟨iG,Yx⟩,rfl⟩,rfl⟩ (rB h)) ?_;refine ad [.agg (vc (kp ⟨o8.tab.list,o8.tab.rest⟩ k)),iw 0] (bs b st::F) (SI.agg 6 71 1 (SI.tmp 7 SI.nil)) rA ⟨?_,rfl⟩;rw[x7 VT,nZ VT];rfl
theorem TC(v:Vl):NF 147 #[v.v] Z [] (iw (gi v)):=by
 refine bO Tryz.func147 15 (fun w0=>?_);refine bn ?_;refine gA fun g1=>?_
 refine eF 6 (fun p3=>?_) (fun gQ=>?_)
 .refine fk (fun p5=>?_) (fun p6=>?_)
  .refine go ?_;refine ad _ _ (SI.tmp 2 SI.nil) rA ⟨cI ?_,rfl⟩;unfold gi;simp[p3,p5,p5]
  refine gV ?_ (c:=fun _ h=>ku v);refine kd (fun c7=>?_) (fun c7=>?_)
  .have c8:=cO c7;refine go ?_;refine ad _ _ (SI.tmp 2 SI.nil) rA ⟨cI ?_,rfl⟩;unfold gi;simp[p3,p6,c7,p6,c8]
  have c9:=cu c7;refine go ?_;refine ad _ _ (SI.tmp 2 SI.nil) rA ⟨cI ?_,rfl⟩;unfold gi;simp[p3,p6,c7,p6,c9]
 refine gV ?_ (c:=fun _ h=>ku v);refine kd (fun ff=>?_) (fun ff=>?_)
 .have jS:=cO ff;refine go ?_;refine ad _ _ (SI.tmp 2 SI.nil) rA ⟨cI ?_,rfl⟩;unfold gi;simp[gQ,ff,jS]
 have ux:=cu ff;refine go ?_;refine ad _ _ (SI.tmp 2 SI.nil) rA ⟨cI ?_,rfl⟩;unfold gi;simp[gQ,ff,ux]
theorem pQ{vv:Value}{m:Int}(v:Vl)(h1:1≤v.ref)(h2:v.ref≤(T.length:Int))(hl:T.length≤1000000)(e:Int):MF 148 #[pB b 0,v.v,iw e] Z (aa b #[vv,iw m,tv] 142::own nA tv T::F) (iw e) (if e=0 then aa b #[vv,iw m,tv] 142::own nA tv (T.set ((v.ref-1)).toNat true)::F else aa b #[vv,iw m,tv] 142::own nA tv T::F):=by
 refine bO Tryz.func148 18 (fun w0=>?_);refine bn ?_;refine gA fun g1=>?_
 refine b9 (fun p3=>?_) (fun p6=>?_)
 .refine gy ?_;obtain⟨y4,mN⟩:∃y,T[((v.ref-1)).toNat]?=some y:=⟨_,List.getElem?_eq_getElem ol⟩;refine dX 2 0 true gg mN ?_;refine go ?_;rw[if_pos p3];refine gz ?_;exact fg ⟨rfl,rfl⟩
 refine go ?_;rw[if_neg p6];refine gz ?_;exact fg ⟨rfl,rfl⟩
theorem BT(ca:jv n st)(hn:n≤300)(t k x:Vl):MF 82 #[pB b 0,t.v,k.v,x.v] Z (bs b st::F) (iw (jF st t k x)) (bs b (hset st t k x)::F):=by
 refine bx Tryz.func82 45 [(0,pB b 0),(1,.agg (vc t)),(2,.agg (vc k)),(3,.agg (vc x))] (fun w0=>?_);have vJ:=ca.len;refine bk (fun H h=>od (h.re [0] [])) (fun AU=>?_);refine bn ?_;refine bj (vc t) (fun g1=>?_);refine bj (vc k) (fun g2=>?_);refine bj (vc x) (fun g3=>?_);refine go ?_;refine aH [3] (Gz (st:=st) om t) ?_;rintro u4 _ ⟨e5,rfl⟩;rcases r0 st t with ⟨NZ,he7⟩|⟨o8,VT,j1,wm,Gc,Yw⟩
 .rw [he7]at e5;subst e5;refine gy ?_;have hp:=AJ (k:=k) (v:=x) NZ;refine ad [iw 8] (bs b st::F) (SI.tmp 8 SI.nil) (rr [0] [1,1,1]) ⟨?_,?_⟩
  .rw [hp.2];exact cI (by first|rfl|exact ep hk N4)
  rw[hp.1]
 rw[Yw]at e5;subst e5;have acI:=get_mem j1;refine go ?_;refine sL (aT (c:=false)) ?_;refine bH<|eh<|eT<|aE<|b6 (ι:=Unit) (fun _=>True) (fun _=>[(0,pB b 0),(5,pB g1 0),(6,pB g2 0),(7,pB g3 0),(23,.bool ((decide (k.kind=0))||(!(au k))))]) (fun _=>bs b st::aa g3 (vc x) 71::aa g2 (vc k) 71::aa g1 (vc t) 71::F) ?_ (fun _ _=>?_)
 .refine gc ?_;refine eF 19 (fun so=>?_) (fun mM=>?_)
  .refine go ?_;exact xC
  refine gV ?_ (c:=fun _ h=>ku k);exact xC
 refine kd (fun wE=>?_) (fun wE=>?_)
 .have lp:=wE;simp only[Bool.and_eq_true,Bool.or_eq_true,Bool.and_eq_false_iff,Bool.or_eq_false_iff,Bool.not_eq_true',Bool.not_eq_false',decide_eq_true_eq,decide_eq_false_iff_not]at lp;refine go ?_;have hk:cS k=false:=js (by first|exact lp|exact .inl lp|exact .inr lp);have hp:=DJ (v:=x) VT hk;refine ad [iw 13] (bs b st::F) (SI.tmp 8 SI.nil) (rr [0] [1,1,1]) ⟨?_,?_⟩
  .rw [hp.2];exact cI (by first|rfl|exact ep hk N4)
  rw[hp.1]
 obtain⟨oD,Mx⟩:=l5 wE;have nQ:=dF oD;have Rj:=cu Mx;refine gV ?_ (c:=fun _ h=>TC x);refine b9 (fun mE=>?_) (fun q24=>?_)
 .refine go ?_;have hk:=aX oD Rj;have hp:=AK (v:=x) VT hk mE;refine ad [iw (gi x)] (bs b st::F) (SI.tmp 8 SI.nil) (rr [0] [1,1,1]) ⟨?_,?_⟩
  .rw [hp.2];exact cI (by first|rfl|exact ep hk N4)
  rw[hp.1]
 have oP:=Decidable.not_not.1 q24;refine gy ?_;refine kN (fun H h=>fP (h.re [0] [])) (fun v27 afo L29 hw=>?_);obtain⟨TD,Yy⟩:=hw;have aic:=iN Yy;have aid:=TD.tch;refine br [aa b #[v27,iw (st.count:Int),afo] 142,own CP v27 L29,aa g3 (vc x) 71,aa g2 (vc k) 71,aa g1 (vc t) 71] ?_;refine gH [0,1,2,3,4,5,6,7] [0,0,2,2,2] ?_;refine fK 8 rfl [0,0,2,2,2] (fun _=>(fX t.ref 1 ol)) ?_;refine fK 9 rfl [0,0,2,2,2] (fun _=>(aF ft Tryz.underlying139 (.own 1) (t.ref-1) (((t.ref-1)).toNat) om ol om)) ?_;refine gH [10] [0,0,2,2,2] ?_;obtain⟨acJ,acK,OJ,TE⟩:=lJ Yy j1;refine fK 11 rfl [0,0,2,2,2] (fun _=>(Lt.to (v':=bu acJ) (cw 3 ft (.own 1) TE) (pN wm))) ?_;refine gH [12,13] [0,0,2,2,2] ?_;refine ag 14 ?_;refine aC (fun _ h=>kA TE (h.re [3] [])) ?_;refine aC (fun _ h=>pO wm (h.re [2] [])) ?_;obtain⟨ajG,aie,_⟩:=ca.obs o8 (get_mem j1).1;have aif:n*(n+1)≤300*301:=Nat.mul_le_mul om om;refine sC [0] (Te (L:=o8.tab.list) (S:=o8.tab.rest) (TD.obs o8 (get_mem j1).1).tab ol ol k x) ?_;refine nH [4,4,5,5,5]<|ag 15 ?_
 have hk:=aX oD Rj;have he0:gi x=0:=Decidable.not_not.1 q24;have N4:=x8 he0;refine aH [4,5] (pQ (vv:=v27) (m:=(st.count:Int)) (T:=st.tch) t om om om (mV k x)) ?_;rw[if_pos (ep hk N4)];rintro _ _ ⟨rfl,rfl⟩;refine nH [0,5,5,5,5] ?_;refine gH [16] [0,5,5,5,5] ?_;refine aI ?_;refine gy ?_;refine ab (fun _ h=>lK (o:=o8) (T:=(ez ⟨o8.tab.list,o8.tab.rest⟩ k x)) wm (h.re [2] [])) ?_;refine ab (fun _ h=>ke (o':={ o8 with tab:=(ez ⟨o8.tab.list,o8.tab.rest⟩ k x) }) (uv':=acK) (rv':=OJ) TE (h.re [3,3,0,2] [])) ?_;refine ab (fun _ h=>Tx (y:=⟨some { o8 with tab:=(ez ⟨o8.tab.list,o8.tab.rest⟩ k x) },acJ,acK,OJ⟩) TE rfl (h.re [3] [])) ?_;have OK:=TD.obs o8 (get_mem j1).1;refine ab (fun _ h=>dI (st:=((st.put t.ref { o8 with tab:=(ez ⟨o8.tab.list,o8.tab.rest⟩ k x) }).touch t.ref)) (n:=(st.count:Int)) (T:=(st.tch.set ((t.ref-1)).toNat true)) ⟨⟨⟨jt (iY (o:={ o8 with tab:=(ez ⟨o8.tab.list,o8.tab.rest⟩ k x) }) TD ⟨OK.kind,(xA OK.tab _ _),OK.mt⟩) t.ref,ym Yy j1 rfl⟩,(show (st.count:Int)=((bp.count (st.put t.ref { o8 with tab:=(ez ⟨o8.tab.list,o8.tab.rest⟩ k x) }):Nat):Int) by rw[lq j1])⟩,by show _=List.set _ _ _;congr 1;omega⟩ (h.re [2,0,1,0] [])) ?_;have hp:=Ia VT j1 hk he0;refine ad [iw (mV k x)] (bs b ((st.put t.ref { o8 with tab:=(ez ⟨o8.tab.list,o8.tab.rest⟩ k x) }).touch t.ref)::F) (SI.tmp 8 SI.nil) (rr [0] [1,1,1]) ⟨?_,?_⟩
 .rw [hp.2];exact cI (by first|rfl|exact ep hk N4)
 rw[hp.1]
theorem DY(hi:fe st){v:Vl}(h4:dm st v=none∨v.kind≠4)(h8:dm st v=none∨v.kind≠8):eS st v=bw:=by
 unfold eS;cases hf:dm st v with
 | none=>rfl
 | some o=>
  obtain⟨h1,h2⟩:=fG hf;rw[hf]at h4 h8;simp at h4 h8;exact (hi.obs o (get_mem h1).1).mt om om
theorem OL(hl:st.objs.length≤1000000)(v:Vl):NF 165 #[pB b 0,v.v] Z (bs b st::F) ((eS st v).v):=by
 refine bO Tryz.func165 24 (fun w0=>?_);refine bk (fun H h=>od (rB h)) (fun AU=>?_);refine bn ?_;refine gA fun g1=>?_
 refine gA fun g2=>?_
 refine aH [2] (yo (st:=st) om v 4) ?_;rintro u3 _ ⟨e4,rfl⟩;rcases lN st v 4 with ⟨hb5,hn6⟩|⟨o7,hb8,mw,j1,wm,Gc⟩
 .rw [hb5]at e4;subst e4;refine go ?_;refine aH [0] (yo (st:=st) om v 8) ?_;rintro u13 _ ⟨TF,rfl⟩;rcases lN st v 8 with ⟨TG,Yz⟩|⟨bF,YA,lZ,tA,abQ,afp⟩
  .rw [TG]at TF;subst TF;refine gy ?_;refine ad [.agg zc] (bs b st::F) (SI.agg 4 71 1 SI.nil) rA ⟨?_,rfl⟩;rw[DY AU hn6 Yz];rfl
  rw[YA]at TF;subst TF;have acL:=get_mem tA;refine go ?_;refine dc (fun H h=>fP (rB h)) (fun v24 ajH L26 hw=>?_);obtain⟨uS,YB⟩:=hw;have aih:=iN YB;have aii:=uS.tch;refine gy ?_;obtain⟨ajI,ajJ,ajK,ajL⟩:=lJ YB tA;refine gy ?_;refine ab (fun _ h=>dI (st:=st) (n:=(st.count:Int)) (T:=st.tch) ⟨⟨⟨uS,YB⟩,rfl⟩,rfl⟩ (rB h)) ?_;refine ad [.agg (vc bF.mt)] (bs b st::F) (SI.agg 4 71 1 SI.nil) rA ⟨?_,rfl⟩;unfold eS;rw[lZ];rfl
 rw[hb8]at e4;subst e4;have aij:=get_mem j1;refine go ?_;refine dc (fun H h=>fP (rB h)) (fun v36 ajM L38 hw=>?_);obtain⟨acM,YC⟩:=hw;have aik:=iN YC;have ail:=acM.tch;refine gy ?_;obtain⟨ajN,ajO,ajP,SQ⟩:=lJ YC j1;refine gy ?_;refine ab (fun _ h=>dI (st:=st) (n:=(st.count:Int)) (T:=st.tch) ⟨⟨⟨acM,YC⟩,rfl⟩,rfl⟩ (rB h)) ?_;refine ad [.agg (vc o7.mt)] (bs b st::F) (SI.agg 4 71 1 SI.nil) rA ⟨?_,rfl⟩;unfold eS;rw[mw];rfl
theorem GA{v:Vl}(h4:dm st v=none∨v.kind≠4)(h8:dm st v=none∨v.kind≠8):bZ st v m=false:=by
 unfold bZ;cases hf:dm st v with
 | none=>rfl
 | some o=>
  obtain⟨h1,h2⟩:=fG hf;rw[hf]at h4 h8;simp at h4 h8;simp[h2,h4,h8]
theorem tB{v:Vl}(hf:dm st v=some o)(hk:o.kind=4∨o.kind=8)(hz:m=bw):bZ st v m=true:=by
 unfold bZ;rw[hf];rcases hk with h|h<;>simp[h,hz]
theorem vL{v:Vl}{T:Tb}(hf:dm st v=some o)(hk:o.kind=4∨o.kind=8)(ht:fm st m=some T):bZ st v m=true:=by
 unfold bZ;rw[hf];rcases hk with h|h<;>simp[h,ht]
theorem vM{v:Vl}(hf:dm st v=some o)(hz:m≠bw)(hm:dm st m=none∨m.kind≠4):bZ st v m=false:=by
 unfold bZ;rw[hf];have ht:fm st m=none:=by
  rcases hm with h|h
  .exact m7 h
  cases hx:dm st m with
  | none=>exact m7 hx
  | some x=>exact te hx (by rw[(fG hx).2];exact h)
 simp[hz,ht]
theorem DZ(hl:st.objs.length≤1000000)(v m:Vl):MF 84 #[pB b 0,v.v,m.v] Z (bs b st::F) (iw (bW st v m)) (bs b (cp st v m)::F):=by
 refine bx Tryz.func84 43 [(0,pB b 0),(1,.agg (vc v)),(2,.agg (vc m))] (fun w0=>?_);refine bk (fun H h=>od (h.re [0] [])) (fun AU=>?_);refine bn ?_;refine gA fun g1=>?_
 refine gA fun g2=>?_
 refine aH [2] (yo (st:=st) om v 4) ?_;rintro u3 _ ⟨e4,rfl⟩;rcases lN st v 4 with ⟨hb5,hn6⟩|⟨o7,hb8,mw,j1,wm,Gc⟩
 .rw [hb5]at e4;subst e4;refine go ?_;refine aH [0] (yo (st:=st) om v 8) ?_;rintro u13 _ ⟨TF,rfl⟩;rcases lN st v 8 with ⟨TG,Yz⟩|⟨bF,YA,lZ,tA,abQ,afp⟩
  .rw [TG]at TF;subst TF;refine go ?_;have hb:bZ st v m=false:=GA hn6 Yz;refine ad _ _ (SI.tmp 6 SI.nil) (rr [0] [1,1]) ⟨?_,?_⟩
   .unfold bW;rw[hb];rfl
   unfold cp;rw[hb];rfl
  rw[YA]at TF;subst TF;have acL:=get_mem tA;refine gy ?_;refine oW 23 (fun BU=>?_) (fun BU=>?_)
  .have xI:=cO BU;have oP:=dF xI;refine go ?_;refine aH [0] (yo (st:=st) om m 4) ?_;rintro u27 _ ⟨e28,rfl⟩;rcases lN st m 4 with ⟨afq,afr⟩|⟨o31,afs,OM,aft,ajQ,ajR⟩
   .rw [afq]at e28;subst e28;refine go ?_;have hb:bZ st v m=false:=vM lZ (dF xI) afr;refine ad _ _ (SI.tmp 6 SI.nil) (rr [0] [1,1]) ⟨?_,?_⟩
    .unfold bW;rw[hb];rfl
    unfold cp;rw[hb];rfl
   rw[afs]at e28;subst e28;have aim:=get_mem aft;refine go ?_;refine dc (fun H h=>fP (h.re [0] [])) (fun v38 ajS L40 hw=>?_);obtain⟨Km,YD⟩:=hw;have ain:=iN YD;have aio:=Km.tch;refine gy ?_;obtain⟨afu,acN,acO,Ko⟩:=lJ YD tA;refine dX 1 4 (⟨some { bF with mt:=m },afu,acN,acO⟩:Rx) ft Ko ?_;refine aC (fun _ h=>ke (o':={ bF with mt:=m }) (uv':=acN) (rv':=acO) Ko (kA (o:=bF) Ko (h.re [3] []))) ?_;have V0:=Km.obs bF (get_mem tA).1;refine go ?_;refine aH [1,2] (pQ (vv:=v38) (m:=(st.count:Int)) (T:=st.tch) v om om om 0) ?_;rw[if_pos (rfl)];rintro _ _ ⟨rfl,rfl⟩;refine go ?_;refine ab (fun _ h=>dI (st:=((st.put v.ref { bF with mt:=m }).touch v.ref)) (n:=(st.count:Int)) (T:=(st.tch.set ((v.ref-1)).toNat true)) ⟨⟨⟨jt (iY (o:={ bF with mt:=m }) Km ⟨V0.kind,V0.tab,(fun a b=>by exfalso;have a1:bF.kind≠4:=a;have b1:bF.kind≠8:=b;omega)⟩) v.ref,ym YD tA rfl⟩,(show (st.count:Int)=((bp.count (st.put v.ref { bF with mt:=m }):Nat):Int) by rw[lq tA])⟩,by show _=List.set _ _ _;congr 1;omega⟩ (h.re [0,2,0,0] [])) ?_;have hb:bZ st v m=true:=vL lZ (.inr om) (nW OM om);refine ad _ _ (SI.tmp 6 SI.nil) (rr [0] [1,1]) ⟨?_,?_⟩
   .unfold bW;rw[hb];rfl
   unfold cp;rw[hb];unfold bp.setMt;rw[tA];rfl
  have VN:=cu BU;have p51:=dY VN;refine go ?_;refine dc (fun H h=>fP (h.re [0] [])) (fun Ff ajT L54 hw=>?_);obtain⟨YE,YF⟩:=hw;have aip:=iN YF;have aiq:=YE.tch;refine gy ?_;obtain⟨afv,acP,acQ,YG⟩:=lJ YF tA;refine dX 1 4 (⟨some { bF with mt:=m },afv,acP,acQ⟩:Rx) ft YG ?_;refine aC (fun _ h=>ke (o':={ bF with mt:=m }) (uv':=acP) (rv':=acQ) YG (kA (o:=bF) YG (h.re [3] []))) ?_;have DK:=YE.obs bF (get_mem tA).1;refine go ?_;refine aH [1,2] (pQ (vv:=Ff) (m:=(st.count:Int)) (T:=st.tch) v om om om 0) ?_;rw[if_pos (rfl)];rintro _ _ ⟨rfl,rfl⟩;refine go ?_;refine ab (fun _ h=>dI (st:=((st.put v.ref { bF with mt:=m }).touch v.ref)) (n:=(st.count:Int)) (T:=(st.tch.set ((v.ref-1)).toNat true)) ⟨⟨⟨jt (iY (o:={ bF with mt:=m }) YE ⟨DK.kind,DK.tab,(fun a b=>by exfalso;have a1:bF.kind≠4:=a;have b1:bF.kind≠8:=b;omega)⟩) v.ref,ym YF tA rfl⟩,(show (st.count:Int)=((bp.count (st.put v.ref { bF with mt:=m }):Nat):Int) by rw[lq tA])⟩,by show _=List.set _ _ _;congr 1;omega⟩ (h.re [0,2,0,0] [])) ?_;have hb:bZ st v m=true:=tB lZ (.inr om) (dY VN);refine ad _ _ (SI.tmp 6 SI.nil) (rr [0] [1,1]) ⟨?_,?_⟩
  .unfold bW;rw[hb];rfl
  unfold cp;rw[hb];unfold bp.setMt;rw[tA];rfl
 rw[hb8]at e4;subst e4;have air:=get_mem j1;refine gy ?_;refine oW 23 (fun c65=>?_) (fun c65=>?_)
 .have Rb:=cO c65;have X6:=dF Rb;refine go ?_;refine aH [0] (yo (st:=st) om m 4) ?_;rintro u68 _ ⟨e69,rfl⟩;rcases lN st m 4 with ⟨afw,afx⟩|⟨o72,afy,afz,afA,ajU,ae3⟩
  .rw [afw]at e69;subst e69;refine go ?_;have hb:bZ st v m=false:=vM mw (dF Rb) afx;refine ad _ _ (SI.tmp 6 SI.nil) (rr [0] [1,1]) ⟨?_,?_⟩
   .unfold bW;rw[hb];rfl
   unfold cp;rw[hb];rfl
  rw[afy]at e69;subst e69;have ais:=get_mem afA;refine go ?_;refine dc (fun H h=>fP (h.re [0] [])) (fun v79 ajV L81 hw=>?_);obtain⟨YH,YI⟩:=hw;have ait:=iN YI;have aiu:=YH.tch;refine gy ?_;obtain⟨afB,acR,acS,YJ⟩:=lJ YI j1;refine dX 1 4 (⟨some { o7 with mt:=m },afB,acR,acS⟩:Rx) ft YJ ?_;refine aC (fun _ h=>ke (o':={ o7 with mt:=m }) (uv':=acR) (rv':=acS) YJ (kA (o:=o7) YJ (h.re [3] []))) ?_;have DL:=YH.obs o7 (get_mem j1).1;refine go ?_;refine aH [1,2] (pQ (vv:=v79) (m:=(st.count:Int)) (T:=st.tch) v om om om 0) ?_;rw[if_pos (rfl)];rintro _ _ ⟨rfl,rfl⟩;refine go ?_;refine ab (fun _ h=>dI (st:=((st.put v.ref { o7 with mt:=m }).touch v.ref)) (n:=(st.count:Int)) (T:=(st.tch.set ((v.ref-1)).toNat true)) ⟨⟨⟨jt (iY (o:={ o7 with mt:=m }) YH ⟨DL.kind,DL.tab,(fun a b=>by exfalso;have a1:o7.kind≠4:=a;have b1:o7.kind≠8:=b;omega)⟩) v.ref,ym YI j1 rfl⟩,(show (st.count:Int)=((bp.count (st.put v.ref { o7 with mt:=m }):Nat):Int) by rw[lq j1])⟩,by show _=List.set _ _ _;congr 1;omega⟩ (h.re [0,2,0,0] [])) ?_;have hb:bZ st v m=true:=vL mw (.inl om) (nW afz om);refine ad _ _ (SI.tmp 6 SI.nil) (rr [0] [1,1]) ⟨?_,?_⟩
  .unfold bW;rw[hb];rfl
  unfold cp;rw[hb];unfold bp.setMt;rw[j1];rfl
 have c91:=cu c65;have p92:=dY c91;refine go ?_;refine dc (fun H h=>fP (h.re [0] [])) (fun v93 ajW L95 hw=>?_);obtain⟨YK,YL⟩:=hw;have aiv:=iN YL;have aiw:=YK.tch;refine gy ?_;obtain⟨acT,V1,V2,ON⟩:=lJ YL j1;refine dX 1 4 (⟨some { o7 with mt:=m },acT,V1,V2⟩:Rx) ft ON ?_;refine aC (fun _ h=>ke (o':={ o7 with mt:=m }) (uv':=V1) (rv':=V2) ON (kA (o:=o7) ON (h.re [3] []))) ?_;have OO:=YK.obs o7 (get_mem j1).1;refine go ?_;refine aH [1,2] (pQ (vv:=v93) (m:=(st.count:Int)) (T:=st.tch) v om om om 0) ?_;rw[if_pos (rfl)];rintro _ _ ⟨rfl,rfl⟩;refine go ?_;refine ab (fun _ h=>dI (st:=((st.put v.ref { o7 with mt:=m }).touch v.ref)) (n:=(st.count:Int)) (T:=(st.tch.set ((v.ref-1)).toNat true)) ⟨⟨⟨jt (iY (o:={ o7 with mt:=m }) YK ⟨OO.kind,OO.tab,(fun a b=>by exfalso;have a1:o7.kind≠4:=a;have b1:o7.kind≠8:=b;omega)⟩) v.ref,ym YL j1 rfl⟩,(show (st.count:Int)=((bp.count (st.put v.ref { o7 with mt:=m }):Nat):Int) by rw[lq j1])⟩,by show _=List.set _ _ _;congr 1;omega⟩ (h.re [0,2,0,0] [])) ?_;have hb:bZ st v m=true:=tB mw (.inl om) (dY c91);refine ad _ _ (SI.tmp 6 SI.nil) (rr [0] [1,1]) ⟨?_,?_⟩
 .unfold bW;rw[hb];rfl
 unfold cp;rw[hb];unfold bp.setMt;rw[j1];rfl
theorem yp(hf:st.count<65536):bY st o=⟨st.objs++[some o],st.tch++[true]⟩:=by unfold bY;rw[if_neg om]
theorem GB{tp:Nat}{uv rv:Sv}(iZ:xS o)(hl:st.objs.length≤1000000):MF 137 #[pB b 0,Rx.v ⟨some o,tp,uv,rv⟩] Z (bs b st::Kk ⟨some o,tp,uv,rv⟩::F) (pJ (bo st o.kind) (eX st)) (bs b (bY st o)::F):=by
 refine bO Tryz.func137 47 (fun w0=>?_);refine bn ?_;refine bj #[iw o.kind,iw o.tag,sw o.name,(gS (0,tp) o),iw o.mt.kind,iw o.mt.p,iw o.mt.q,sw o.mt.str,iw o.mt.ref,uv.v,rv.v] (fun g1=>?_);refine ae (.agg zc) zc (fun g2=>?_);refine go ?_;refine dc (fun H h=>fP (rB h)) (fun v3 tv4 L5 hw=>?_);obtain⟨kV,Rm⟩:=hw;have afC:=iN Rm;have afD:=kV.tch;refine gc ?_;refine b9 (fun im=>?_) (fun my=>?_)
 .refine gy ?_;refine ab (fun _ h=>dI (st:=st) (n:=(st.count:Int)) (T:=st.tch) ⟨⟨⟨kV,Rm⟩,rfl⟩,rfl⟩ (rB h)) ?_;have hf:65536≤st.count:=by omega
  refine ad [.agg zc,iw 17] (bs b st::F) (SI.agg 4 71 1 (SI.tmp 5 SI.nil)) rA ⟨?_,?_⟩
  .rw [(me hf).1,(me (k:=0) hf).2];rfl
  rw[ya hf]
 refine go ?_;refine ah (e:=145) [(0,.agg #[iw o.kind,iw o.tag,sw o.name,(gS (0,tp) o),iw o.mt.kind,iw o.mt.p,iw o.mt.q,sw o.mt.str,iw o.mt.ref,uv.v,rv.v])] #[iw o.kind,iw o.tag,sw o.name,(gS (0,tp) o),iw o.mt.kind,iw o.mt.p,iw o.mt.q,sw o.mt.str,iw o.mt.ref,uv.v,rv.v] (fun g13=>?_) (hb:=by kernel_rfl);refine aq (L:=L5) 2 ft Tryz.underlying139 (.lit 0 ft [(⟨some o,tp,uv,rv⟩:Rx)]) (by show _*136≤_;(try simp only[cD]);omega) ol (fun vC=>?_);refine gy ?_;refine sF 2 (fun fp=>?_);refine ah (e:=4) [(0,.bool true)] #[.bool true] (fun g16=>?_) (hb:=by kernel_rfl);refine aq (L:=st.tch) 4 gg Tryz.underlying140 (.lit 0 gg [true]) (by show _*1≤_;(try simp only[cD]);omega) ol (fun AV=>?_);refine go ?_;refine sF 4 (fun GC=>?_);refine ar (u:=AV) (m:=1) 2 #[vC,iw (st.count:Int),AV] ?_ (hm:=by (obtain⟨_,_,e⟩:=GC;rw[e];rfl)) (h1:=by (obtain⟨_,_,e⟩:=GC;rw[e];rfl)) (ha':=by (obtain⟨_,_,e⟩:=GC;rw[e];rfl));refine go ?_;refine sL (bX (st.count:Int) 1 ol) ?_;refine go ?_;refine sL (bL ft Tryz.underlying139 (.own 3))<|sL (ay (.agg #[iw o.kind,iw 0,iw 0,sw eb,iw ((L5++[(⟨some o,tp,uv,rv⟩:Rx)]).length:Int)])) ?_
 refine go ?_;refine dB (fun _ h=>by obtain⟨_,_,e⟩:=fp;subst e;kernel_rfl) ?_;refine ax<|eM ?_
 have hf:st.count<65536:=by omega
 refine ab (fun _ h=>OH (rB h)) ?_;refine ab (fun _ h=>dI (st:=(bY st o)) (n:=((st.count:Int)+1)) (T:=(st.tch++[true])) ⟨⟨⟨jT kV iZ,by rw[yp hf];exact Tz (x:=⟨some o,tp,uv,rv⟩) Rm rfl _⟩,by rw[yp hf,xW];rfl⟩,by rw[yp hf]⟩ (rB h)) ?_;refine ad [.agg #[iw o.kind,iw 0,iw 0,sw eb,iw ((L5++[(⟨some o,tp,uv,rv⟩:Rx)]).length:Int)],iw 0] (bs b (bY st o)::F) (SI.agg 4 71 3 (SI.tmp 5 SI.nil)) rA ⟨?_,rfl⟩;rw[(qC hf).1,(qC (k:=0) hf).2];exact congrArg (fun v:Vl=>pJ v 0) (congrArg (bQ o.kind) (by have h5:=iN Rm;rw[List.length_append,h5];rfl))
theorem tC(hl:st.objs.length≤1000000):MF 76 #[pB b 0] Z (bs b st::F) (pJ (bo st 4) (eX st)) (bs b (bY st (eg 4 0 eb []))::F):=by
 refine bO Tryz.func76 13 (fun w0=>?_);refine gA fun g1=>?_
 refine a6 (fun _ h=>Ta) ?_;rintro _ _ ⟨N6,rfl,rfl⟩;refine sL (ay (.agg #[iw 4,iw 0,sw eb,pB N6 0,iw 0,iw 0,iw 0,sw eb,iw 0,nS,nS]))<|aC (fun _ h=>Holds.nilS (T:=bq) h) ?_
 refine aC (fun _ h=>Holds.nilS (T:=bq) h) ?_;refine aC (fun _ h=>lK (tp:=N6) (o:=(eg 4 0 eb [])) (T:=F8) rfl (h.re [2] [])) ?_;refine aC (fun _ h=>show Holds _ (Kk ⟨some (eg 4 0 eb []),N6,⟨none,0,0⟩,⟨none,0,0⟩⟩::_) _ from Holds.star_in (L:=[own bq (Sv.v ⟨none,0,0⟩) (wk (eg 4 0 eb [])),own bq (Sv.v ⟨none,0,0⟩) (tx (eg 4 0 eb [])),Fj N6 (eg 4 0 eb [])]) (h.re [2,1,0] [])) ?_;refine sC [2,0] (GB (st:=st) (o:=(eg 4 0 eb [])) (tp:=N6) (uv:=⟨none,0,0⟩) (rv:=⟨none,0,0⟩) (iu _ _ _ (by decide)) om) ?_;exact ge
theorem D1(hl:st.objs.length≤1000000)(tag:Int):MF 80 #[pB b 0,iw tag] Z (bs b st::F) (pJ (bo st 5) (eX st)) (bs b (bY st (eg 5 tag eb []))::F):=by
 refine bO Tryz.func80 15 (fun w0=>?_);refine gA fun g1=>?_
 refine sL (ay (.agg #[iw 5,iw tag,sw eb,.pointer none,iw 0,iw 0,iw 0,sw eb,iw 0,nS,nS]))<|aC (fun _ h=>Holds.nilS (T:=bq) h) ?_
 refine aC (fun _ h=>Holds.nilS (T:=bq) h) ?_;refine aC (fun _ h=>DX (tp:=0) (o:=(eg 5 tag eb [])) (show (5:Int)≠4 by decide) h) ?_;refine aC (fun _ h=>show Holds _ (Kk ⟨some (eg 5 tag eb []),0,⟨none,0,0⟩,⟨none,0,0⟩⟩::_) _ from Holds.star_in (L:=[own bq (Sv.v ⟨none,0,0⟩) (wk (eg 5 tag eb [])),own bq (Sv.v ⟨none,0,0⟩) (tx (eg 5 tag eb [])),Fj 0 (eg 5 tag eb [])]) (h.re [2,1,0] [])) ?_;refine sC [2,0] (GB (st:=st) (o:=(eg 5 tag eb [])) (tp:=0) (uv:=⟨none,0,0⟩) (rv:=⟨none,0,0⟩) (iu _ _ _ (by decide)) om) ?_;exact ge
theorem D2(hl:st.objs.length≤1000000)(name:ByteArray):MF 78 #[pB b 0,sw name] Z (bs b st::F) (pJ (fw st name) (n3 st name)) (bs b (oJ st name)::F):=by
 refine bO Tryz.func78 31 (fun w0=>?_);refine bn ?_;refine ae (.agg zc) zc (fun g1=>?_);refine gy ?_;refine b9 (fun p3=>?_) (fun p4=>?_)
 .refine gy ?_;have hp:=p3;refine ad [.agg zc,iw 14] (bs b st::F) (SI.agg 4 71 0 (SI.tmp 5 SI.nil)) rA ⟨?_,?_⟩
  .unfold fw n3;rw[if_pos hp,if_pos hp];rfl
  unfold oJ;rw[if_pos hp]
 refine gy ?_;refine ah (e:=71) [] #[] (fun g5=>?_) (hb:=by kernel_rfl);refine go ?_;refine aK (fun _ h=>Holds.slice 0 h aZ []) ?_;refine aK (Bs:=own bq (.slice (some ⟨g5,0,none⟩) 0 0) (List.replicate 0 bw)::aa g1 zc 71::bs b st::F) (fun _ h=>h) ?_;refine aD (ι:=Value×Nat) (fun (lx,i)=>i≤16) (fun (lx,i)=>[(0,pB b 0),(1,sw name),(4,pB g1 0),(6,lx),(7,iw (i:Int))]) (fun (lx,i)=>own bq lx (List.replicate i bw)::aa g1 zc 71::bs b st::F) (fun (lx,i)=>16-i) ((.slice (some ⟨g5,0,none⟩) 0 0),0) (Nat.zero_le _) sA rA ?_;rintro⟨lx,i⟩ kV;try dsimp only at kV⊢
 refine gc ?_;refine b9 (fun p8=>?_) (fun im=>?_)
 .refine gy ?_;refine ah (e:=71) [(0,.agg zc)] zc (fun g9=>?_) (hb:=by kernel_rfl);refine aq (L:=(List.replicate i bw)) 1 aZ Tryz.underlying28 (.lit 0 aZ [bw]) (by show _*48≤_;(try simp only[cD]);omega) ol (fun v10=>?_);refine gy ?_;rw[show List.replicate i bw++[bw]=List.replicate (i+1) bw from List.replicate_succ'.symm];exact xr (v10,i+1) (by show i+1≤16;omega)
 refine cW ?_;obtain rfl:i=16:=by omega
 refine go ?_;refine sF 0 (fun uU=>?_);refine sL (show Lt _ _ _ _ _ (.agg #[iw 8,iw 0,sw name,.pointer none,iw 0,iw 0,iw 0,sw eb,iw 0,lx,nS]) from by obtain⟨_,_,e⟩:=uU;rw[e];clear e;exact ay _)<|sF 0 (fun hfm=>?_)
 obtain⟨fL,YM,Q3⟩:=hfm;subst Q3;refine aC (fun _ h=>Holds.nilS (T:=bq) h) ?_;refine aC (fun _ h=>DX (tp:=0) (o:=(eg 8 0 name (List.replicate 16 bw))) (show (8:Int)≠4 by decide) h) ?_;refine aC (fun _ h=>show Holds _ (Kk ⟨some (eg 8 0 name (List.replicate 16 bw)),0,⟨fL,(List.replicate 16 bw).length,YM⟩,⟨none,0,0⟩⟩::_) _ from Holds.star_in (L:=[own bq (Sv.v ⟨fL,(List.replicate 16 bw).length,YM⟩) (wk (eg 8 0 name (List.replicate 16 bw))),own bq (Sv.v ⟨none,0,0⟩) (tx (eg 8 0 name (List.replicate 16 bw))),Fj 0 (eg 8 0 name (List.replicate 16 bw))]) (h.re [2,1,0] [])) ?_;refine gC [2,0] ?_ (c:=GB (st:=st) (o:=(eg 8 0 name (List.replicate 16 bw))) (tp:=0) (uv:=⟨fL,(List.replicate 16 bw).length,YM⟩) (rv:=⟨none,0,0⟩) (iu _ _ _ (by decide)) om);have hp:=p4;refine ad [.agg (vc (bo st 8)),iw (eX st)] (bs b (bY st (eg 8 0 name (List.replicate 16 bw)))::F) (SI.agg 4 71 1 (SI.tmp 5 SI.nil)) rA ⟨?_,?_⟩
 .unfold fw n3;rw[if_neg hp,if_neg hp];rfl
 unfold oJ;rw[if_neg hp]<;>rfl
theorem TH:SF Tryz.prog 74 #[] Z [] fun r Bs=>∃b,r=pB b 0∧Bs=[bs b xw]:=by
 refine bO Tryz.func74 3 (fun w0=>?_);refine go ?_;refine sL (ay (.agg #[nS,iw 0,nS]))<|bj #[nS,iw 0,nS] (fun g1=>?_)
 refine go ?_;refine ad _ _ (SI.tmp 0 SI.nil) (fun _ h=>dI (b:=g1) (st:=xw) (L:=[]) (T:=[]) (v:=nS) (tv:=nS) ⟨⟨⟨fe.nil,rfl⟩,rfl⟩,rfl⟩ ((Holds.nilS (T:=CP) (Holds.nilS (T:=nA) (Holds.star_nil h))).re [3,0,0,0] [])) ⟨g1,rfl,rfl⟩
structure CH where
 v:Vl
 obj:Int
structure Af where
 kind:Int
 a:CH
 b:CH
 c:CH
end
section
variable{Z:bK}{F:List aW}{st:bp}{n i b:Nat}{L:List Vl}{lv:Value}{l:List Af}{s:CH}{X:List CH}
def CH.w(x:CH):Value:=.agg #[iw x.v.kind,iw x.v.p,iw x.v.q,sw x.v.str,iw x.v.ref,iw x.obj]
def Af.w(x:Af):Value:=.agg #[iw x.kind,iw x.a.v.kind,iw x.a.v.p,iw x.a.v.q,sw x.a.v.str,iw x.a.v.ref,iw x.a.obj,iw x.b.v.kind,iw x.b.v.p,iw x.b.v.q,sw x.b.v.str,iw x.b.v.ref,iw x.b.obj,iw x.c.v.kind,iw x.c.v.p,iw x.c.v.q,sw x.c.v.str,iw x.c.v.ref,iw x.c.obj]
def Vt:Ty CH:=⟨76,6,56,true,CH.w,⟨bw,0⟩⟩
theorem yq:Vt.Ok Tryz.prog:=pg Vt _ Tryz.t76 (by decide) (fun _=>rfl) (fun x u hu=>by simp[Ty.enc,Vt,CH.w,Value.cells]at hu;rcases hu with rfl|rfl|rfl|rfl|rfl|rfl<;>rfl) (fun _=>rfl) Tryz.underlying76 rfl (fun h=>by cases h) (by kernel_rfl) (by kernel_rfl) (by kernel_rfl) (by kernel_rfl)
def Vs:Ty Af:=⟨78,19,176,true,Af.w,⟨0,⟨bw,0⟩,⟨bw,0⟩,⟨bw,0⟩⟩⟩
theorem fu:Vs.Ok Tryz.prog:=pg Vs _ Tryz.t78 (by decide) (fun _=>rfl) (fun x u hu=>by simp[Ty.enc,Vs,Af.w,Value.cells]at hu;rcases hu with rfl|rfl|rfl|rfl|rfl|rfl|rfl|rfl|rfl|rfl|rfl|rfl|rfl|rfl|rfl|rfl|rfl|rfl|rfl<;>rfl) (fun _=>rfl) Tryz.underlying78 rfl (fun h=>by cases h) (by kernel_rfl) (by kernel_rfl) (by kernel_rfl) (by kernel_rfl)
theorem Ig(s:ByteArray):NF 172 #[sw s] Z [] ((rJ s).v):=by
 refine bO Tryz.func172 5 (fun w0=>?_);refine bn<|ae (.agg zc) zc (fun g1=>?_)
 refine pA<|sP (sw s)<|sL (ay (.agg #[iw 3,iw 0,iw 0,sw s,iw 0])) ?_
 refine gz ?_;exact fg ⟨rfl,rfl⟩
theorem Ih(s:ByteArray):NF 167 #[sw s] Z [] ((rJ s).v):=by
 refine bO Tryz.func167 5 (fun w0=>?_);refine bn<|ae (.agg zc) zc (fun g1=>?_)
 refine pA<|sP (sw s)<|sL (ay (.agg #[iw 3,iw 0,iw 0,sw s,iw 0])) ?_
 refine gz ?_;exact fg ⟨rfl,rfl⟩
def ud(st:bp)(v:Vl)(ev:ByteArray):Vl:=if (eS st v).kind=0 then bw else fT st (eS st v) (rJ ev)
theorem Kp{m k:Vl}(h:m.kind≠4):fT st m k=bw:=by
 refine rW ?_;cases hf:dm st m with
 | none=>exact m7 hf
 | some o=>exact te hf (by rw[(fG hf).2];exact h)
theorem acU(ca:jv n st)(hn:n≤300)(v:Vl)(ev:ByteArray):NF 112 #[pB b 0,v.v,sw ev] Z (bJ b st::F) ((ud st v ev).v):=by
 refine bO Tryz.func112 26 (fun w0=>?_);have vJ:=ca.len;refine bn ?_;refine bj (vc v) (fun g1=>?_);refine ae (.agg zc) zc (fun g2=>?_);refine go ?_;refine sC [2] (Tj (st:=st) v) ?_;refine ae (.agg zc) zc (fun g3=>?_);refine gc ?_;refine b9 (fun p5=>?_) (fun p6=>?_)
 .refine gy ?_;refine ad [.agg zc] (bJ b st::F) (SI.agg 6 71 2 SI.nil) rA ⟨?_,rfl⟩;unfold ud;rw[if_pos p5];rfl
 refine eT<|aE<|br [aa g3 (vc (eS st v)) 71,aa g2 zc 71,aa g1 (vc v) 71] ?_
 refine gH [0,1,2] [0,1,1] ?_;refine ba (ι:=Nat) 2 (tf [9,2]) (fun g7=>[(6,pB g2 0),(8,pB g7 0),(23,.agg (vc (fT st (eS st v) (rJ ev)))),(24,iw (oI st (eS st v)))]) (fun g7=>aa g7 zc 71::bJ b st::aa g3 (vc (eS st v)) 71::aa g2 zc 71::aa g1 (vc v) 71::F) ?_ (fun acV=>?_)
 .rintro g7;try dsimp only
  refine ag 9 ?_;refine gh ?_;refine nH [2,2,2] ?_;refine gH [10] [2,2,2] ?_;refine aI ?_;refine go ?_;refine ad [.agg (vc (fT st (eS st v) (rJ ev)))] (bJ b st::F) (SI.agg 6 71 3 SI.nil) rA ⟨?_,rfl⟩;unfold ud;rw[if_neg p6];rfl
 refine ba (ι:=Nat) 6 (tf [4,4,1,2]) (fun g8=>[(6,pB g2 0),(8,pB g8 0),(18,pB b 0),(19,.agg (vc (eS st v))),(21,.agg (vc (rJ ev)))]) (fun g8=>aa g8 zc 71::aa g3 (vc (eS st v)) 71::bJ b st::aa g2 zc 71::aa g1 (vc v) 71::F) ?_ (fun acW=>?_)
 .rintro g8;try dsimp only
  refine ag 4 ?_;refine sC [2] (N3 (st:=st) ca om (eS st v) (rJ ev)) ?_;refine nH [2,2,2] ?_;refine gH [5,6,7] [2,2,2] ?_;exact aB acV g8 rA
 refine aN 3 8 ?_ ?_
 .refine sV (fun _ h=>Ig ev)<|nH [0,1,1]<|aN 4 8 ?_ ?_
  .refine sC [1] (N3 (st:=st) ca om (eS st v) (rJ ev)) ?_;refine nH [1,1,1] ?_;refine gH [5,6,7] [1,1,1] ?_;refine ag 8 ?_;refine ae (.agg zc) zc (fun g12=>?_);refine nH [2,2,2] ?_;exact aB acV g12 rA
  refine ae (.agg zc) zc (fun g13=>?_);refine nH [1,2,2] ?_;exact aB acW g13 rA
 refine ae (.agg zc) zc (fun g14=>?_);refine nH [1,2,2]<|ag 3 ?_
 refine sV (fun _ h=>Ig ev)<|nH [1,2,2] ?_
 exact aB acW g14 rA
theorem YN(ca:jv n st)(hn:n≤300)(v:Vl)(ev:ByteArray):NF 104 #[pB b 0,v.v,sw ev] Z (bs b st::F) ((ud st v ev).v):=by
 refine bx Tryz.func104 35 [(0,pB b 0),(1,.agg (vc v)),(2,sw ev)] (fun w0=>?_);have vJ:=ca.len;refine bk (fun H h=>od (h.re [0] [])) (fun AU=>?_);refine bn ?_;refine bj (vc v) (fun g1=>?_);refine ae (.agg zc) zc (fun g2=>?_);refine bH<|aE<|b6 (ι:=Unit) (fun _=>True) (fun _=>[(0,pB b 0),(2,sw ev),(4,pB g1 0),(6,pB g2 0),(17,.bool ((decide (v.kind≠4))&&(decide (v.kind≠8))))]) (fun _=>aa g2 zc 71::aa g1 (vc v) 71::bs b st::F) ?_ (fun _ _=>?_)
 .refine gc ?_;refine eF 13 (fun p4=>?_) (fun q3=>?_)
  .refine gc ?_;exact bh () trivial (bc rfl (rQ (rQ (rQ (rQ ⟨⟨rfl,cB (by simp[p4])⟩,trivial⟩))))) (rr [0,0,0] [])
  have p5:=Decidable.not_not.1 q3;refine go ?_;exact bh () trivial (bc rfl (rQ (rQ (rQ (rQ ⟨⟨rfl,cB (by simp[q3])⟩,trivial⟩))))) (rr [0,0,0] [])
 refine kd (fun c6=>?_) (fun c6=>?_)
 .obtain ⟨c7,c8⟩:=kk c6;have p9:=dY c7;have gQ:=dY c8;refine gy ?_;refine ad [.agg zc] (bs b st::F) (SI.agg 6 71 0 SI.nil) (rr [2] [1,1]) ⟨?_,rfl⟩;have Vf:=DY AU (v:=v) (.inr om) (.inr om);unfold ud;rw[Vf];rfl
 have im:=c6;simp only[Bool.and_eq_true,Bool.or_eq_true,Bool.and_eq_false_iff,Bool.or_eq_false_iff,Bool.not_eq_true',Bool.not_eq_false',decide_eq_true_eq,decide_eq_false_iff_not]at im;refine go ?_;refine sC [2] (OL (st:=st) (by have:=ca.len;omega) v) ?_;refine ae (.agg zc) zc (fun g12=>?_);refine gc ?_;refine b9 (fun iU=>?_) (fun q13=>?_)
 .refine gy ?_;refine ad [.agg zc] (bs b st::F) (SI.agg 6 71 2 SI.nil) (rr [1] [1,1,1]) ⟨?_,rfl⟩;have D3:=iU;unfold ud;rw[Kp D3];split<;>rfl
 have kO:=Decidable.not_not.1 q13;refine eT<|b6 (ι:=Nat) (fun _=>True) (fun Gq=>[(6,pB g2 0),(8,pB Gq 0)]) (fun Gq=>aa Gq (vc (fT st (eS st v) (rJ ev))) 71::aa g12 (vc (eS st v)) 71::bs b st::aa g2 zc 71::aa g1 (vc v) 71::F) ?_ (fun ix _=>?_)
 .refine br [aa g12 (vc (eS st v)) 71,aa g2 zc 71,aa g1 (vc v) 71] ?_;refine gH [0,1,2] [0,1,1] ?_;refine aN 3 8 ?_ ?_
  .refine sV (fun _ h=>Ih ev)<|nH [0,1,1]<|aN 4 8 ?_ ?_
   .refine sC [1] (BS (st:=st) ca om (eS st v) (rJ ev)) ?_;refine nH [1,1,1] ?_;refine gH [5,6,7] [1,1,1] ?_;refine ag 8 ?_;refine ae (.agg zc) zc (fun g16=>?_);refine nH [2,2,2]<|ag 9 ?_
    refine gh ?_;refine nH [2,2,2] ?_;refine gH [10] [2,2,2] ?_;refine aI ?_;exact vY g16 (rr [0,1,0,0,0] [])
   refine ae (.agg zc) zc (fun g17=>?_);refine nH [1,2,2]<|ag 4 ?_
   refine sC [2] (BS (st:=st) ca om (eS st v) (rJ ev)) ?_;refine nH [2,2,2] ?_;refine gH [5,6,7] [2,2,2] ?_;refine ag 9 ?_;refine gh ?_;refine nH [2,2,2] ?_;refine gH [10] [2,2,2] ?_;refine aI ?_;exact vY g17 (rr [1,1,0,0,0] [])
  refine ae (.agg zc) zc (fun g18=>?_);refine nH [1,2,2]<|ag 3 ?_
  refine sV (fun _ h=>Ih ev)<|nH [1,2,2]<|ag 4 ?_
  refine sC [2] (BS (st:=st) ca om (eS st v) (rJ ev)) ?_;refine nH [2,2,2] ?_;refine gH [5,6,7] [2,2,2] ?_;refine ag 9 ?_;refine gh ?_;refine nH [2,2,2] ?_;refine gH [10] [2,2,2] ?_;refine aI ?_;exact vY g18 (rr [1,1,0,0,0] [])
 revert ix;intro Gq
 show SK _ _ _ _ _ [(6,pB g2 0),(8,pB Gq 0)] _ (aa Gq (vc (fT st (eS st v) (rJ ev))) 71::aa g12 (vc (eS st v)) 71::bs b st::aa g2 zc 71::aa g1 (vc v) 71::F);refine go ?_;refine ad [.agg (vc (fT st (eS st v) (rJ ev)))] (bs b st::F) (SI.agg 6 71 3 SI.nil) (rr [2] [1,1,1,1]) ⟨?_,rfl⟩;have D3:=Decidable.not_not.1 q13;unfold ud;rw[if_neg om];rfl
def dJ(L:List Vl)(s:CH):Vl:=if 0<s.obj∧0<L.length then (L[(Int.tmod s.obj (L.length:Int)).toNat]?).getD bw else s.v
theorem YO{y:Vl}(h1:0<s.obj)(h2:0<L.length)(hy:L[(Int.tmod s.obj (L.length:Int)).toNat]?=some y):dJ L s=y:=by unfold dJ;rw[if_pos ⟨h1,h2⟩,hy];rfl
theorem TI(h:¬(0<s.obj∧0<L.length)):dJ L s=s.v:=by unfold dJ;rw[if_neg h]
theorem TJ{a:Int}(ha:0<a)(hn:0<n):0≤Int.tmod a n∧Int.tmod a n<n:=⟨Int.tmod_nonneg _ om,Int.tmod_lt_of_pos _ om⟩
theorem ld{hv gv:Value}(hl:L.length≤100000)(s:CH):NF 75 #[.agg #[hv,gv,lv],s.w] Z (own bq lv L::F) ((dJ L s).v):=by
 refine bx Tryz.func75 26 [(0,.agg #[hv,gv,lv]),(1,.agg #[iw s.v.kind,iw s.v.p,iw s.v.q,sw s.v.str,iw s.v.ref,iw s.obj])] (fun w0=>?_);refine bn ?_;refine bj #[hv,gv,lv] (fun g1=>?_);refine bj #[iw s.v.kind,iw s.v.p,iw s.v.q,sw s.v.str,iw s.v.ref,iw s.obj] (fun g2=>?_);refine ae (.agg zc) zc (fun g3=>?_);refine bH<|aE<|b6 (ι:=Unit) (fun _=>True) (fun _=>[(2,pB g1 0),(3,pB g2 0),(4,pB g3 0),(13,.bool ((decide ((0:Int)<s.obj))&&(decide ((0:Int)<(L.length:Int)))))]) (fun _=>aa g3 zc 71::aa g2 #[iw s.v.kind,iw s.v.p,iw s.v.q,sw s.v.str,iw s.v.ref,iw s.obj] 76::aa g1 #[hv,gv,lv] 30::own bq lv L::F) ?_ (fun _ _=>?_)
 .refine gc ?_;refine eF 8 (fun p5=>?_) (fun p6=>?_)
  .refine gy ?_;exact bh () trivial (bc rfl (rQ (rQ (rQ ⟨⟨rfl,cB (by simp[p5])⟩,trivial⟩)))) (rr [0,0,0,0] [])
  refine go ?_;exact bh () trivial (bc rfl (rQ (rQ (rQ ⟨⟨rfl,cB (by simp[p6])⟩,trivial⟩)))) (rr [0,0,0,0] [])
 refine kd (fun c7=>?_) (fun c7=>?_)
 .obtain ⟨c8,c9⟩:=kk c7;have gQ:=dY c8;have im:=dY c9;refine gy ?_;refine sF 3 (fun uU=>?_);obtain⟨acX,acY⟩:=TJ (a:=s.obj) (n:=L.length) om om;refine sL (xz s.obj (L.length:Int) om) ?_;refine gy ?_;obtain⟨fQ,oe⟩:∃y,L[((Int.tmod s.obj (L.length:Int))).toNat]?=some y:=⟨_,List.getElem?_eq_getElem ol⟩;refine gy ?_;refine dB (fun _ h=>by obtain⟨_,_,e⟩:=uU;subst e;kernel_rfl) ?_;refine go ?_;refine ad [.agg (vc fQ)] (own bq lv L::F) (SI.agg 4 71 0 SI.nil) (rr [3] [1,1,1]) ⟨?_,rfl⟩;rw[YO om om oe];rfl
 have kO:=c7;simp only[Bool.and_eq_true,Bool.or_eq_true,Bool.and_eq_false_iff,Bool.or_eq_false_iff,Bool.not_eq_true',Bool.not_eq_false',decide_eq_true_eq,decide_eq_false_iff_not]at kO;refine go ?_;refine ad [.agg (vc s.v)] (own bq lv L::F) (SI.agg 4 71 0 SI.nil) (rr [3] [1,1,1]) ⟨?_,rfl⟩;rw[TI om];rfl
theorem Kq{A:List CH}{P:CH→Prop}(h:A <+: X)(hP:∀s∈X,P s):∀s∈A,P s:=fun s hs=>hP s (h.subset hs)
theorem GD{y:CH}(h:∀s∈X.take i,(s.v.str.size:Int)≤5000)(hy:X[i]?=some y)(h2:(y.v.str.size:Int)≤5000):∀s∈X.take (i+1),(s.v.str.size:Int)≤5000:=fun s hs=>by
 rw[List.take_add_one,hy]at hs;rcases List.mem_append.1 hs with hs|hs
 .exact h s hs
 rw[Option.toList_some,List.mem_singleton]at hs;rw[hs];exact h2
theorem R9{mv:Value}{M:List CH}(qX:Kn Z Vs lv l)(hM:M.length≤100000):SF Tryz.prog 8 #[lv,mv] Z (own Vt mv M::F) fun r Bs=>∃x,r=.bool x∧(x=false→∀s∈M,(s.v.str.size:Int)≤5000)∧Bs=F:=by
 refine bx Tryz.func8 49 [(0,lv),(1,mv)] (fun w0=>?_);refine bk (fun H h=>(qX.get h).len_le) (fun lA=>?_);refine go ?_;refine aD (ι:=Value×List CH×Nat) (fun (xv,X,i)=>M <+: X∧i≤100∧X.length≤M.length+3*i) (fun (xv,X,i)=>[(0,lv),(1,xv),(5,iw (i:Int))]) (fun (xv,X,i)=>own Vt xv X::F) (fun (xv,X,i)=>100-i) (mv,M,0) ⟨List.prefix_refl _,by omega,by omega⟩ sA (rr [0] []) ?_;rintro⟨xv,X,i⟩ cQ;try dsimp only at cQ⊢
 refine aE<|b6 (ι:=Unit) (fun _=>True) (fun _=>[(0,lv),(1,xv),(5,iw (i:Int)),(14,.bool ((decide ((i:Int)<(l.length:Int)))&&(decide ((i:Int)<100))))]) (fun _=>own Vt xv X::F) ?_ (fun _ _=>?_)
 .refine gy ?_;refine eF 11 (fun p3=>?_) (fun p4=>?_)
  .refine gc ?_;exact bh () trivial (bc rfl (rQ (rQ (rQ ⟨⟨rfl,show Value.bool (decide ((i:Int)<100))=Value.bool ((decide ((i:Int)<(l.length:Int)))&&(decide ((i:Int)<100))) by first|(simp only[p3,jK];done)|simp[p3]⟩,trivial⟩)))) (rr [0] [])
  refine go ?_;exact bh () trivial (bc rfl (rQ (rQ (rQ ⟨⟨rfl,show Value.bool false=Value.bool ((decide ((i:Int)<(l.length:Int)))&&(decide ((i:Int)<100))) by first|(simp only[p4,jK];done)|simp[p4]⟩,trivial⟩)))) (rr [0] [])
 refine kd (fun c5=>?_) (fun c5=>?_)
 .obtain ⟨c6,c7⟩:=kk c5;have p8:=dY c6;have p9:=dY c7;obtain⟨bB,nm⟩:∃y,l[i]?=some y:=⟨_,List.getElem?_eq_getElem ol⟩;refine gy ?_;refine ah (e:=76) [(0,.agg #[iw bB.a.v.kind,iw bB.a.v.p,iw bB.a.v.q,sw bB.a.v.str,iw bB.a.v.ref,iw bB.a.obj]),(1,.agg #[iw bB.b.v.kind,iw bB.b.v.p,iw bB.b.v.q,sw bB.b.v.str,iw bB.b.v.ref,iw bB.b.obj]),(2,.agg #[iw bB.c.v.kind,iw bB.c.v.p,iw bB.c.v.q,sw bB.c.v.str,iw bB.c.v.ref,iw bB.c.obj])] #[iw bB.a.v.kind,iw bB.a.v.p,iw bB.a.v.q,sw bB.a.v.str,iw bB.a.v.ref,iw bB.a.obj,iw bB.b.v.kind,iw bB.b.v.p,iw bB.b.v.q,sw bB.b.v.str,iw bB.b.v.ref,iw bB.b.obj,iw bB.c.v.kind,iw bB.c.v.p,iw bB.c.v.q,sw bB.c.v.str,iw bB.c.v.ref,iw bB.c.obj] (fun g12=>?_) (hb:=by kernel_rfl);refine aq (L:=X) 1 yq Tryz.underlying74 (.lit 0 yq [bB.a,bB.b,bB.c]) (by show _*56≤_;(try simp only[cD]);omega) ol (fun CO=>?_);refine gy ?_;exact az (CO,(X++[bB.a,bB.b,bB.c]),i+1) (by show 100-(i+1)<100-i;omega) (by show _ <+: _∧_;exact⟨cQ.1.trans (List.prefix_append _ _),by show i+1≤100;omega,by simp only[cD];omega⟩) sA (rr [1] [1])
 have iU:=c5;simp only[Bool.and_eq_true,Bool.or_eq_true,Bool.and_eq_false_iff,Bool.or_eq_false_iff,Bool.not_eq_true',Bool.not_eq_false',decide_eq_true_eq,decide_eq_false_iff_not]at iU;refine go ?_;refine aD (ι:=Nat) (fun j=>j≤X.length∧∀s∈X.take j,(s.v.str.size:Int)≤5000) (fun j=>[(1,xv),(6,iw (j:Int))]) (fun j=>own Vt xv X::F) (fun j=>X.length-j) 0 ⟨by omega,by simp⟩ sA (rr [0] []) ?_;rintro j YP;try dsimp only at YP⊢
 refine go ?_;refine sL (bL yq Tryz.underlying74 (.own 0))<|sL aT<|bH ?_
 refine b9 (fun mM=>?_) (fun zA=>?_)
 .refine go ?_;refine sL (aF yq Tryz.underlying74 (.own 0) (j:Int) j om ol om) ?_;refine go ?_;obtain⟨y18,J5⟩:∃y,X[j]?=some y:=⟨_,List.getElem?_eq_getElem ol⟩;refine sL (cw 3 yq (.own 0) J5)<|sL (ay (iw (y18.v.str.size:Int)))<|sL aT<|bH ?_
  refine b9 (fun oQ=>?_) (fun nQ=>?_)
  .refine go ?_;exact ad [.bool true] F (SI.tmp 4 SI.nil) (rr [] [0]) ⟨true,rfl,(fun h=>by cases h),rfl⟩
  refine gy ?_;exact az (j+1) om ⟨by omega,GD YP.2 J5 om⟩ sA (rr [0] [])
 refine go ?_;refine ad [.bool false] F (SI.tmp 4 SI.nil) (rr [] [0]) ⟨false,rfl,fun _=>?_,rfl⟩;have oL:=YP.2;rw[List.take_of_length_le om]at oL;exact Kq cQ.1 oL
def mI:ByteArray:=⟨#[98,111,120]⟩
def gI(i:Nat)(o:Af)(s:bp×List Vl):bp×List Vl:=
 if o.kind=0 then (bY s.1 (eg 4 0 eb []),if eX s.1=0 then s.2++[bo s.1 4] else s.2) else
 if o.kind=1 then (oJ s.1 mI,if n3 s.1 mI=0 then s.2++[fw s.1 mI] else s.2) else
 if o.kind=2 then (bY s.1 (eg 5 (i:Int) eb []),if eX s.1=0 then s.2++[bo s.1 5] else s.2) else
 if o.kind=3 then (hset s.1 (dJ s.2 o.a) (dJ s.2 o.b) (dJ s.2 o.c),s.2) else
 (cp s.1 (dJ s.2 o.a) (dJ s.2 o.b),if o.kind≤2∧bW s.1 (dJ s.2 o.a) (dJ s.2 o.b)=0 then s.2++[bw] else s.2)
def aO(l:List Af):Nat→bp×List Vl
 | 0=>(xw,[])
 | i+1=>match l[i]? with
  | some o=>gI i o (aO l i)
  | none=>aO l i
theorem jH{y:Af}(h:l[i]?=some y):aO l (i+1)=gI i y (aO l i):=by rw[aO,h]
theorem GF{o:Af}{s:bp×List Vl}(h1:fe s.1)(h2:jv i s.1)(h3:s.2.length≤i):fe (gI i o s).1∧jv (i+1) (gI i o s).1∧(gI i o s).2.length≤i+1:=by
 have hl:∀(p:Prop) [Decidable p] (v:Vl),(if p then s.2++[v] else s.2).length≤i+1:=fun p _ v=>by
  by_cases hp:p
  .rw [if_pos hp,List.length_append];exact Nat.add_le_add_right h3 1
  rw[if_neg hp];exact Nat.le_succ_of_le h3
 unfold gI;split
 .exact ⟨jT h1 (iu _ _ _ (by decide)),pj h2 rfl (by simp[eg]),hl _ _⟩
 split
 .unfold oJ;split
  .exact ⟨h1,h2.mono om,hl _ _⟩
  exact⟨jT h1 (iu _ _ _ (by decide)),pj h2 rfl (by simp[eg]),hl _ _⟩
 split
 .exact ⟨jT h1 (iu _ _ _ (by decide)),pj h2 rfl (by simp[eg]),hl _ _⟩
 split
 .exact ⟨xV h1 _ _ _,H8 h1 h2 _ _ _,by show s.2.length≤_;omega⟩
 exact⟨BF h1 _ _,DG h2 _ _,hl _ _⟩
theorem tD(l:List Af):∀i,fe (aO l i).1∧jv i (aO l i).1∧(aO l i).2.length≤i
 | 0=>⟨fe.nil,jv.nil,Nat.le_refl _⟩
 | i+1=>by
  obtain⟨h1,h2,h3⟩:=tD l i;rw[aO];split
  .exact GF h1 h2 h3
  exact⟨h1,h2.mono om,by omega⟩
def made(l:List Af):bp×List Vl:=aO l (min 100 l.length)
theorem ur(l:List Af):fe (made l).1∧jv 100 (made l).1∧(made l).2.length≤100:=by
 obtain⟨h1,h2,h3⟩:=tD l (min 100 l.length);exact⟨h1,h2.mono om,by unfold made;omega⟩
theorem YQ(qX:Kn Z Vs lv l):SF Tryz.prog 34 #[lv] Z F fun r Bs=>∃hb gb lx,r=.tuple #[.agg #[bu hb,bu gb,lx],.bool true]∧Bs=bJ hb (made l).1::bs gb (made l).1::own bq lx (made l).2::F:=by
 refine bx Tryz.func34 152 [(0,lv)] (fun w0=>?_);refine bk (fun H h=>(qX.get h).len_le) (fun lA=>?_);refine bn<|ae (.agg #[.pointer none,.pointer none,nS]) #[.pointer none,.pointer none,nS] (fun g1=>?_)
 refine sP (.bool false)<|pA<|a6 (fun _ h=>MK) ?_
 rintro _ _ ⟨de,rfl,rfl⟩;refine a6 (fun _ h=>TH) ?_;rintro _ _ ⟨dN,rfl,rfl⟩;refine sL (ay (.agg #[pB de 0,pB dN 0,nS]))<|ae (.agg #[.pointer none,.pointer none,nS]) #[.pointer none,.pointer none,nS] (fun g4=>?_)
 refine go ?_;refine aK (fun _ h=>Holds.nilS (T:=bq) h) ?_;refine aK (Bs:=own bq nS ((aO l 0).2)::aa g4 #[pB de 0,pB dN 0,nS] 30::bs dN ((aO l 0).1)::bJ de ((aO l 0).1)::aa g1 #[.pointer none,.pointer none,nS] 30::F) (fun _ h=>h) ?_;refine aD (ι:=Value×Nat) (fun (lx,i)=>i≤100∧i≤l.length) (fun (lx,i)=>[(0,lv),(2,pB g1 0),(4,pB g4 0),(5,iw (i:Int))]) (fun (lx,i)=>own bq lx ((aO l i).2)::aa g4 #[pB de 0,pB dN 0,lx] 30::bs dN ((aO l i).1)::bJ de ((aO l i).1)::aa g1 #[.pointer none,.pointer none,nS] 30::F) (fun (lx,i)=>100-i) (nS,0) ⟨by omega,by omega⟩ sA (rr [0,0,0,0,0] []) ?_;rintro⟨lx,i⟩ wN;replace wN:i≤100∧i≤l.length:=wN;show SK _ _ _ _ _ [(0,lv),(2,pB g1 0),(4,pB g4 0),(5,iw (i:Int))] _ (own bq lx ((aO l i).2)::aa g4 #[pB de 0,pB dN 0,lx] 30::bs dN ((aO l i).1)::bJ de ((aO l i).1)::aa g1 #[.pointer none,.pointer none,nS] 30::F);obtain⟨hinv,ca,vU⟩:=tD l i;refine aE<|b6 (ι:=Unit) (fun _=>True) (fun _=>[(0,lv),(2,pB g1 0),(4,pB g4 0),(5,iw (i:Int)),(27,.bool ((decide ((i:Int)<(l.length:Int)))&&(decide ((i:Int)<100))))]) (fun _=>own bq lx ((aO l i).2)::aa g4 #[pB de 0,pB dN 0,lx] 30::bs dN ((aO l i).1)::bJ de ((aO l i).1)::aa g1 #[.pointer none,.pointer none,nS] 30::F) ?_ (fun _ _=>?_)
 .refine go ?_;refine sL (bL fu Tryz.underlying22 (.zn qX)) ?_;refine gc ?_;refine eF 24 (fun p7=>?_) (fun p8=>?_)
  .refine gc ?_;exact bh () trivial (bc rfl (rQ (rQ (rQ (rQ ⟨⟨rfl,show Value.bool (decide ((i:Int)<100))=Value.bool ((decide ((i:Int)<(l.length:Int)))&&(decide ((i:Int)<100))) by first|(simp only[p7,jK];done)|simp[p7]⟩,trivial⟩))))) (rr [0,0,0,0,0] [])
  refine go ?_;exact bh () trivial (bc rfl (rQ (rQ (rQ (rQ ⟨⟨rfl,show Value.bool false=Value.bool ((decide ((i:Int)<(l.length:Int)))&&(decide ((i:Int)<100))) by first|(simp only[p8,jK];done)|simp[p8]⟩,trivial⟩))))) (rr [0,0,0,0,0] [])
 refine kd (fun c9=>?_) (fun c9=>?_)
 .obtain ⟨l4,ff⟩:=kk c9;have my:=dY l4;have fL:=dY ff;refine eT<|aE<|cE ?_
  obtain⟨aP,ji⟩:∃y,l[i]?=some y:=⟨_,List.getElem?_eq_getElem ol⟩;refine aE<|br [own bq lx ((aO l i).2),aa g4 #[pB de 0,pB dN 0,lx] 30,aa g1 #[.pointer none,.pointer none,nS] 30] ?_
  refine gH [0,1,2] [0,0,2] ?_;refine fK 3 rfl [0,0,2] (fun _=>(aF fu Tryz.underlying22 (.zn qX) (i:Int) i om ol om)) ?_;refine gH [4] [0,0,2] ?_;refine fK 5 rfl [0,0,2] (fun _=>(iW 1 #[iw aP.a.v.kind,iw aP.a.v.p,iw aP.a.v.q,sw aP.a.v.str,iw aP.a.v.ref,iw aP.a.obj] fu (.zn qX) ji)) ?_;refine gH [7,8,9] [0,0,2] ?_;refine fK 10 rfl [0,0,2] (fun _=>(aF fu Tryz.underlying22 (.zn qX) (i:Int) i om ol om)) ?_;refine gH [11] [0,0,2] ?_;refine fK 12 rfl [0,0,2] (fun _=>(iW 7 #[iw aP.b.v.kind,iw aP.b.v.p,iw aP.b.v.q,sw aP.b.v.str,iw aP.b.v.ref,iw aP.b.obj] fu (.zn qX) ji)) ?_;refine gH [14,15,16] [0,0,2] ?_;refine fK 17 rfl [0,0,2] (fun _=>(aF fu Tryz.underlying22 (.zn qX) (i:Int) i om ol om)) ?_;refine gH [18] [0,0,2] ?_;refine fK 19 rfl [0,0,2] (fun _=>(iW 13 #[iw aP.c.v.kind,iw aP.c.v.p,iw aP.c.v.q,sw aP.c.v.str,iw aP.c.v.ref,iw aP.c.obj] fu (.zn qX) ji)) ?_;refine ba (ι:=Nat×Nat×Nat) 3 (tf [24,3]) (fun (g16,g17,g18)=>[(0,lv),(2,pB g1 0),(4,pB g4 0),(5,iw (i:Int)),(6,pB g16 0),(7,pB g17 0),(8,pB g18 0),(36,.agg (vc (dJ ((aO l i).2) aP.a))),(43,.agg (vc (dJ ((aO l i).2) aP.b))),(50,.agg (vc (dJ ((aO l i).2) aP.c)))]) (fun (g16,g17,g18)=>aa g18 zc 71::aa g17 zc 71::aa g16 zc 71::own bq lx ((aO l i).2)::aa g4 #[pB de 0,pB dN 0,lx] 30::bs dN ((aO l i).1)::bJ de ((aO l i).1)::aa g1 #[.pointer none,.pointer none,nS] 30::F) ?_ (fun TK=>?_)
  .rintro ⟨g16,g17,g18⟩;try dsimp only
   refine ag 24 ?_;refine gh ?_;refine nH [3,3,5]<|ag 25 ?_
   refine gh ?_;refine nH [3,3,5]<|ag 26 ?_
   refine gh ?_;refine nH [3,3,5]<|aI ?_
   refine ax<|bn<|sL (ay (.agg zc))<|sL (ay (.agg zc))<|ae (.agg zc) zc (fun DS=>?_)
   refine ae (.agg zc) zc (fun zI=>?_);refine go ?_;refine sL (aF fu Tryz.underlying22 (.zn qX) (i:Int) i om ol om) ?_;refine go ?_;refine sL (cw 0 fu (.zn qX) ji) ?_;refine gc ?_;refine b9 (fun XP=>?_) (fun LM=>?_)
   .refine go ?_;refine sC [8] (pk (st:=(aO l i).1) (by have:=ca.len;omega)) ?_;refine go ?_;refine sC [8] (tC (st:=(aO l i).1) (by have:=ca.len;omega)) ?_;refine go ?_;refine sL (Lt.to (fY (fun w=>(ic (bo ((aO l i).1) 4) (bo ((aO l i).1) 4) w).2)) (cB ((congrArg Bool.not (decide_eq_true rfl:(decide ((bo ((aO l i).1) 4)=(bo ((aO l i).1) 4)))=true)).trans rfl:(!(decide ((bo ((aO l i).1) 4)=(bo ((aO l i).1) 4))))=false))) ?_;refine go ?_;refine sL (Lt.to aT (cB (decide_eq_false (fun h=>h rfl):(decide ((eX ((aO l i).1))≠(eX ((aO l i).1))))=false))) ?_;refine go ?_;refine sL (aF fu Tryz.underlying22 (.zn qX) (i:Int) i om ol om) ?_;refine go ?_;refine sL (cw 0 fu (.zn qX) ji)<|sL (Lt.to aT (cB (decide_eq_true (by have:=XP;omega):(decide (aP.kind≤2))=true))) ?_
    refine gc ?_;refine b9 (fun p70=>?_) (fun p74=>?_)
    .refine go ?_;refine ah (e:=71) [(0,.agg (vc (bo ((aO l i).1) 4)))] (vc (bo ((aO l i).1) 4)) (fun g71=>?_) (hb:=by kernel_rfl);refine aq (L:=(aO l i).2) 8 aZ Tryz.underlying28 (.lit 0 aZ [(bo ((aO l i).1) 4)]) (by show _*48≤_;(try simp only[cD]);omega) ol (fun v72=>?_);refine sP (pB g4 2)<|sF 8 (fun zC=>?_)
     refine ar (u:=v72) (m:=1) 9 #[pB de 0,pB dN 0,v72] ?_ (hm:=by (obtain⟨_,_,e⟩:=zC;rw[e];rfl)) (h1:=by (obtain⟨_,_,e⟩:=zC;rw[e];rfl)) (ha':=by (obtain⟨_,_,e⟩:=zC;rw[e];rfl));refine go ?_;refine sL (bX (i:Int) 1 ol) ?_;refine go ?_;have vN:=jH ji;have h1:(bY ((aO l i).1) (eg 4 0 eb []))=(aO l (i+1)).1:=by rw[vN];unfold gI;simp[XP,mI]
     have h2:((aO l i).2++[(bo ((aO l i).1) 4)])=(aO l (i+1)).2:=by rw[vN];unfold gI;simp_all[mI]
     refine ab (Bs:=aa g71 (vc (bo ((aO l i).1) 4)) 71::bs dN ((aO l (i+1)).1)::bJ de ((aO l (i+1)).1)::aa zI (vc (bo ((aO l i).1) 4)) 71::aa DS (vc (bo ((aO l i).1) 4)) 71::aa g18 (vc (dJ ((aO l i).2) aP.c)) 71::aa g17 (vc (dJ ((aO l i).2) aP.b)) 71::aa g16 (vc (dJ ((aO l i).2) aP.a)) 71::own bq v72 ((aO l (i+1)).2)::aa g4 #[pB de 0,pB dN 0,v72] 30::aa g1 #[.pointer none,.pointer none,nS] 30::F) (fun _ h=>by rw[←h1,←h2];exact h) ?_;exact az (v72,i+1) (by show 100-(i+1)<100-i;omega) (by show i+1≤100∧i+1≤l.length;omega) sA (rr [8,8,1,1,6] [5,5,5,5,5,5])
    refine go ?_;refine sL (bX (i:Int) 1 ol) ?_;refine go ?_;have vN:=jH ji;have h1:(bY ((aO l i).1) (eg 4 0 eb []))=(aO l (i+1)).1:=by rw[vN];unfold gI;simp[XP,mI]
    have h2:(aO l i).2=(aO l (i+1)).2:=by rw[vN];unfold gI;simp_all[mI]
    refine ab (Bs:=bs dN ((aO l (i+1)).1)::bJ de ((aO l (i+1)).1)::aa zI (vc (bo ((aO l i).1) 4)) 71::aa DS (vc (bo ((aO l i).1) 4)) 71::aa g18 (vc (dJ ((aO l i).2) aP.c)) 71::aa g17 (vc (dJ ((aO l i).2) aP.b)) 71::aa g16 (vc (dJ ((aO l i).2) aP.a)) 71::own bq lx ((aO l (i+1)).2)::aa g4 #[pB de 0,pB dN 0,lx] 30::aa g1 #[.pointer none,.pointer none,nS] 30::F) (fun _ h=>by rw[←h1,←h2];exact h) ?_;exact az (lx,i+1) (by show 100-(i+1)<100-i;omega) (by show i+1≤100∧i+1≤l.length;omega) sA (rr [7,7,0,0,5] [5,5,5,5,5])
   refine gc ?_;refine b9 (fun V3=>?_) (fun X9=>?_)
   .refine go ?_;refine sC [8] (Gi (st:=(aO l i).1) (by have:=ca.len;omega) ⟨#[98,111,120]⟩) ?_;refine go ?_;refine sC [8] (D2 (st:=(aO l i).1) (by have:=ca.len;omega) ⟨#[98,111,120]⟩) ?_;refine go ?_;refine sL (Lt.to (fY (fun w=>(ic (fw ((aO l i).1) ⟨#[98,111,120]⟩) (fw ((aO l i).1) ⟨#[98,111,120]⟩) w).2)) (cB ((congrArg Bool.not (decide_eq_true rfl:(decide ((fw ((aO l i).1) ⟨#[98,111,120]⟩)=(fw ((aO l i).1) ⟨#[98,111,120]⟩)))=true)).trans rfl:(!(decide ((fw ((aO l i).1) ⟨#[98,111,120]⟩)=(fw ((aO l i).1) ⟨#[98,111,120]⟩))))=false))) ?_;refine go ?_;refine sL (Lt.to aT (cB (decide_eq_false (fun h=>h rfl):(decide ((n3 ((aO l i).1) ⟨#[98,111,120]⟩)≠(n3 ((aO l i).1) ⟨#[98,111,120]⟩)))=false))) ?_;refine go ?_;refine sL (aF fu Tryz.underlying22 (.zn qX) (i:Int) i om ol om) ?_;refine go ?_;refine sL (cw 0 fu (.zn qX) ji)<|sL (Lt.to aT (cB (decide_eq_true (by have:=V3;omega):(decide (aP.kind≤2))=true))) ?_
    refine gc ?_;refine b9 (fun p79=>?_) (fun p83=>?_)
    .refine go ?_;refine ah (e:=71) [(0,.agg (vc (fw ((aO l i).1) ⟨#[98,111,120]⟩)))] (vc (fw ((aO l i).1) ⟨#[98,111,120]⟩)) (fun g80=>?_) (hb:=by kernel_rfl);refine aq (L:=(aO l i).2) 8 aZ Tryz.underlying28 (.lit 0 aZ [(fw ((aO l i).1) ⟨#[98,111,120]⟩)]) (by show _*48≤_;(try simp only[cD]);omega) ol (fun v81=>?_);refine sP (pB g4 2)<|sF 8 (fun GG=>?_)
     refine ar (u:=v81) (m:=1) 9 #[pB de 0,pB dN 0,v81] ?_ (hm:=by (obtain⟨_,_,e⟩:=GG;rw[e];rfl)) (h1:=by (obtain⟨_,_,e⟩:=GG;rw[e];rfl)) (ha':=by (obtain⟨_,_,e⟩:=GG;rw[e];rfl));refine go ?_;refine sL (bX (i:Int) 1 ol) ?_;refine go ?_;have vN:=jH ji;have h1:(oJ ((aO l i).1) ⟨#[98,111,120]⟩)=(aO l (i+1)).1:=by rw[vN];unfold gI;simp[LM,V3,mI]
     have h2:((aO l i).2++[(fw ((aO l i).1) ⟨#[98,111,120]⟩)])=(aO l (i+1)).2:=by rw[vN];unfold gI;simp_all[mI]
     refine ab (Bs:=aa g80 (vc (fw ((aO l i).1) ⟨#[98,111,120]⟩)) 71::bs dN ((aO l (i+1)).1)::bJ de ((aO l (i+1)).1)::aa zI (vc (fw ((aO l i).1) ⟨#[98,111,120]⟩)) 71::aa DS (vc (fw ((aO l i).1) ⟨#[98,111,120]⟩)) 71::aa g18 (vc (dJ ((aO l i).2) aP.c)) 71::aa g17 (vc (dJ ((aO l i).2) aP.b)) 71::aa g16 (vc (dJ ((aO l i).2) aP.a)) 71::own bq v81 ((aO l (i+1)).2)::aa g4 #[pB de 0,pB dN 0,v81] 30::aa g1 #[.pointer none,.pointer none,nS] 30::F) (fun _ h=>by rw[←h1,←h2];exact h) ?_;exact az (v81,i+1) (by show 100-(i+1)<100-i;omega) (by show i+1≤100∧i+1≤l.length;omega) sA (rr [8,8,1,1,6] [5,5,5,5,5,5])
    refine go ?_;refine sL (bX (i:Int) 1 ol) ?_;refine go ?_;have vN:=jH ji;have h1:(oJ ((aO l i).1) ⟨#[98,111,120]⟩)=(aO l (i+1)).1:=by rw[vN];unfold gI;simp[LM,V3,mI]
    have h2:(aO l i).2=(aO l (i+1)).2:=by rw[vN];unfold gI;simp_all[mI]
    refine ab (Bs:=bs dN ((aO l (i+1)).1)::bJ de ((aO l (i+1)).1)::aa zI (vc (fw ((aO l i).1) ⟨#[98,111,120]⟩)) 71::aa DS (vc (fw ((aO l i).1) ⟨#[98,111,120]⟩)) 71::aa g18 (vc (dJ ((aO l i).2) aP.c)) 71::aa g17 (vc (dJ ((aO l i).2) aP.b)) 71::aa g16 (vc (dJ ((aO l i).2) aP.a)) 71::own bq lx ((aO l (i+1)).2)::aa g4 #[pB de 0,pB dN 0,lx] 30::aa g1 #[.pointer none,.pointer none,nS] 30::F) (fun _ h=>by rw[←h1,←h2];exact h) ?_;exact az (lx,i+1) (by show 100-(i+1)<100-i;omega) (by show i+1≤100∧i+1≤l.length;omega) sA (rr [7,7,0,0,5] [5,5,5,5,5])
   refine gc ?_;refine b9 (fun p86=>?_) (fun p93=>?_)
   .refine go ?_;refine sC [8] (Gh (st:=(aO l i).1) (by have:=ca.len;omega) (i:Int)) ?_;refine go ?_;refine sC [8] (D1 (st:=(aO l i).1) (by have:=ca.len;omega) (i:Int)) ?_;refine go ?_;refine sL (Lt.to (fY (fun w=>(ic (bo ((aO l i).1) 5) (bo ((aO l i).1) 5) w).2)) (cB ((congrArg Bool.not (decide_eq_true rfl:(decide ((bo ((aO l i).1) 5)=(bo ((aO l i).1) 5)))=true)).trans rfl:(!(decide ((bo ((aO l i).1) 5)=(bo ((aO l i).1) 5))))=false))) ?_;refine go ?_;refine sL (Lt.to aT (cB (decide_eq_false (fun h=>h rfl):(decide ((eX ((aO l i).1))≠(eX ((aO l i).1))))=false))) ?_;refine go ?_;refine sL (aF fu Tryz.underlying22 (.zn qX) (i:Int) i om ol om) ?_;refine go ?_;refine sL (cw 0 fu (.zn qX) ji)<|sL (Lt.to aT (cB (decide_eq_true (by have:=p86;omega):(decide (aP.kind≤2))=true))) ?_
    refine gc ?_;refine b9 (fun p88=>?_) (fun p92=>?_)
    .refine go ?_;refine ah (e:=71) [(0,.agg (vc (bo ((aO l i).1) 5)))] (vc (bo ((aO l i).1) 5)) (fun g89=>?_) (hb:=by kernel_rfl);refine aq (L:=(aO l i).2) 8 aZ Tryz.underlying28 (.lit 0 aZ [(bo ((aO l i).1) 5)]) (by show _*48≤_;(try simp only[cD]);omega) ol (fun VL=>?_);refine sP (pB g4 2)<|sF 8 (fun F1=>?_)
     refine ar (u:=VL) (m:=1) 9 #[pB de 0,pB dN 0,VL] ?_ (hm:=by (obtain⟨_,_,e⟩:=F1;rw[e];rfl)) (h1:=by (obtain⟨_,_,e⟩:=F1;rw[e];rfl)) (ha':=by (obtain⟨_,_,e⟩:=F1;rw[e];rfl));refine go ?_;refine sL (bX (i:Int) 1 ol) ?_;refine go ?_;have vN:=jH ji;have h1:(bY ((aO l i).1) (eg 5 (i:Int) eb []))=(aO l (i+1)).1:=by rw[vN];unfold gI;simp[LM,X9,p86,mI]
     have h2:((aO l i).2++[(bo ((aO l i).1) 5)])=(aO l (i+1)).2:=by rw[vN];unfold gI;simp_all[mI]
     refine ab (Bs:=aa g89 (vc (bo ((aO l i).1) 5)) 71::bs dN ((aO l (i+1)).1)::bJ de ((aO l (i+1)).1)::aa zI (vc (bo ((aO l i).1) 5)) 71::aa DS (vc (bo ((aO l i).1) 5)) 71::aa g18 (vc (dJ ((aO l i).2) aP.c)) 71::aa g17 (vc (dJ ((aO l i).2) aP.b)) 71::aa g16 (vc (dJ ((aO l i).2) aP.a)) 71::own bq VL ((aO l (i+1)).2)::aa g4 #[pB de 0,pB dN 0,VL] 30::aa g1 #[.pointer none,.pointer none,nS] 30::F) (fun _ h=>by rw[←h1,←h2];exact h) ?_;exact az (VL,i+1) (by show 100-(i+1)<100-i;omega) (by show i+1≤100∧i+1≤l.length;omega) sA (rr [8,8,1,1,6] [5,5,5,5,5,5])
    refine go ?_;refine sL (bX (i:Int) 1 ol) ?_;refine go ?_;have vN:=jH ji;have h1:(bY ((aO l i).1) (eg 5 (i:Int) eb []))=(aO l (i+1)).1:=by rw[vN];unfold gI;simp[LM,X9,p86,mI]
    have h2:(aO l i).2=(aO l (i+1)).2:=by rw[vN];unfold gI;simp_all[mI]
    refine ab (Bs:=bs dN ((aO l (i+1)).1)::bJ de ((aO l (i+1)).1)::aa zI (vc (bo ((aO l i).1) 5)) 71::aa DS (vc (bo ((aO l i).1) 5)) 71::aa g18 (vc (dJ ((aO l i).2) aP.c)) 71::aa g17 (vc (dJ ((aO l i).2) aP.b)) 71::aa g16 (vc (dJ ((aO l i).2) aP.a)) 71::own bq lx ((aO l (i+1)).2)::aa g4 #[pB de 0,pB dN 0,lx] 30::aa g1 #[.pointer none,.pointer none,nS] 30::F) (fun _ h=>by rw[←h1,←h2];exact h) ?_;exact az (lx,i+1) (by show 100-(i+1)<100-i;omega) (by show i+1≤100∧i+1≤l.length;omega) sA (rr [7,7,0,0,5] [5,5,5,5,5])
   refine gc ?_;refine b9 (fun p95=>?_) (fun p96=>?_)
   .refine br [aa zI zc 71,aa DS zc 71,aa g18 (vc (dJ ((aO l i).2) aP.c)) 71,aa g17 (vc (dJ ((aO l i).2) aP.b)) 71,aa g16 (vc (dJ ((aO l i).2) aP.a)) 71,own bq lx ((aO l i).2),aa g4 #[pB de 0,pB dN 0,lx] 30,aa g1 #[.pointer none,.pointer none,nS] 30] ?_;refine gH [0,1,2,3,4,6,7,8,9,10] [0,0,0,0,0,0,0,2] ?_;refine ag 5 ?_;refine sC [8] (Gb (st:=(aO l i).1) ca om (dJ ((aO l i).2) aP.a) (dJ ((aO l i).2) aP.b) (dJ ((aO l i).2) aP.c)) ?_;refine nH [1,1,1,1,1,1,1,2]<|ag 11 ?_
    refine sC [8] (BT (st:=(aO l i).1) ca om (dJ ((aO l i).2) aP.a) (dJ ((aO l i).2) aP.b) (dJ ((aO l i).2) aP.c)) ?_;refine nH [2,2,2,2,2,2,2,2] ?_;refine gH [12,13] [2,2,2,2,2,2,2,2] ?_;refine aI ?_;refine go ?_;refine sL (Lt.to (fY (fun w=>(ic bw bw w).2)) (cB ((congrArg Bool.not (decide_eq_true rfl:(decide (bw=bw))=true)).trans rfl:(!(decide (bw=bw)))=false))) ?_;refine go ?_;refine sL (Lt.to aT (cB (decide_eq_false (fun h=>h rfl):(decide ((jF ((aO l i).1) (dJ ((aO l i).2) aP.a) (dJ ((aO l i).2) aP.b) (dJ ((aO l i).2) aP.c))≠(jF ((aO l i).1) (dJ ((aO l i).2) aP.a) (dJ ((aO l i).2) aP.b) (dJ ((aO l i).2) aP.c))))=false))) ?_;refine go ?_;refine sL (aF fu Tryz.underlying22 (.zn qX) (i:Int) i om ol om) ?_;refine go ?_;refine sL (cw 0 fu (.zn qX) ji)<|sL (Lt.to aT (cB (decide_eq_false (by have:=p95;omega):(decide (aP.kind≤2))=false))) ?_
    refine go ?_;refine sL (bX (i:Int) 1 ol) ?_;refine go ?_;have vN:=jH ji;have h1:(hset ((aO l i).1) (dJ ((aO l i).2) aP.a) (dJ ((aO l i).2) aP.b) (dJ ((aO l i).2) aP.c))=(aO l (i+1)).1:=by rw[vN];unfold gI;simp[LM,X9,p93,p95,mI]
    have h2:(aO l i).2=(aO l (i+1)).2:=by rw[vN];unfold gI;simp_all[mI]
    refine ab (Bs:=bs dN ((aO l (i+1)).1)::bJ de ((aO l (i+1)).1)::aa zI zc 71::aa DS zc 71::aa g18 (vc (dJ ((aO l i).2) aP.c)) 71::aa g17 (vc (dJ ((aO l i).2) aP.b)) 71::aa g16 (vc (dJ ((aO l i).2) aP.a)) 71::own bq lx ((aO l (i+1)).2)::aa g4 #[pB de 0,pB dN 0,lx] 30::aa g1 #[.pointer none,.pointer none,nS] 30::F) (fun _ h=>by rw[←h1,←h2];exact h) ?_;exact az (lx,i+1) (by show 100-(i+1)<100-i;omega) (by show i+1≤100∧i+1≤l.length;omega) sA (rr [7,7,0,0,5] [5,5,5,5,5])
   refine br [aa zI zc 71,aa DS zc 71,aa g18 (vc (dJ ((aO l i).2) aP.c)) 71,aa g17 (vc (dJ ((aO l i).2) aP.b)) 71,aa g16 (vc (dJ ((aO l i).2) aP.a)) 71,own bq lx ((aO l i).2),aa g4 #[pB de 0,pB dN 0,lx] 30,aa g1 #[.pointer none,.pointer none,nS] 30] ?_;refine gH [0,1,2,3,5,6,7,8] [0,0,0,0,0,0,0,2] ?_;refine ag 4 ?_;refine sC [8] (Gg (st:=(aO l i).1) (dJ ((aO l i).2) aP.a) (dJ ((aO l i).2) aP.b)) ?_;refine nH [1,1,1,1,1,1,1,2]<|ag 9 ?_
   refine sC [8] (DZ (st:=(aO l i).1) (by have:=ca.len;omega) (dJ ((aO l i).2) aP.a) (dJ ((aO l i).2) aP.b)) ?_;refine nH [2,2,2,2,2,2,2,2] ?_;refine gH [10,11] [2,2,2,2,2,2,2,2] ?_;refine aI ?_;refine go ?_;refine sL (Lt.to (fY (fun w=>(ic bw bw w).2)) (cB ((congrArg Bool.not (decide_eq_true rfl:(decide (bw=bw))=true)).trans rfl:(!(decide (bw=bw)))=false))) ?_;refine go ?_;refine sL (Lt.to aT (cB (decide_eq_false (fun h=>h rfl):(decide ((bW ((aO l i).1) (dJ ((aO l i).2) aP.a) (dJ ((aO l i).2) aP.b))≠(bW ((aO l i).1) (dJ ((aO l i).2) aP.a) (dJ ((aO l i).2) aP.b))))=false)))<|sP (.bool false)<|bH<|eh<|eT<|b6 (ι:=Unit) (fun _=>True) (fun _=>[(0,lv),(2,pB g1 0),(4,pB g4 0),(5,iw (i:Int)),(9,pB DS 0),(144,.bool ((decide (aP.kind≤2))&&(decide ((bW ((aO l i).1) (dJ ((aO l i).2) aP.a) (dJ ((aO l i).2) aP.b))=0))))]) (fun _=>bs dN (cp ((aO l i).1) (dJ ((aO l i).2) aP.a) (dJ ((aO l i).2) aP.b))::bJ de (cp ((aO l i).1) (dJ ((aO l i).2) aP.a) (dJ ((aO l i).2) aP.b))::aa zI zc 71::aa DS zc 71::aa g18 (vc (dJ ((aO l i).2) aP.c)) 71::aa g17 (vc (dJ ((aO l i).2) aP.b)) 71::aa g16 (vc (dJ ((aO l i).2) aP.a)) 71::own bq lx ((aO l i).2)::aa g4 #[pB de 0,pB dN 0,lx] 30::aa g1 #[.pointer none,.pointer none,nS] 30::F) ?_ (fun _ _=>?_)
   .refine go ?_;refine sL (aF fu Tryz.underlying22 (.zn qX) (i:Int) i om ol om) ?_;refine go ?_;refine sL (cw 0 fu (.zn qX) ji) ?_;refine gc ?_;refine eF 141 (fun p98=>?_) (fun p99=>?_)
    .refine gc ?_;exact bh () trivial (bc rfl (rQ (rQ (rQ (rQ (rQ ⟨⟨rfl,show Value.bool (decide ((bW ((aO l i).1) (dJ ((aO l i).2) aP.a) (dJ ((aO l i).2) aP.b))=0))=Value.bool ((decide (aP.kind≤2))&&(decide ((bW ((aO l i).1) (dJ ((aO l i).2) aP.a) (dJ ((aO l i).2) aP.b))=0))) by first|(simp only[p98,jK];done)|simp[p98]⟩,trivial⟩)))))) (rr [0,0,0,0,0,0,0,0,0,0] [])
    refine go ?_;exact bh () trivial (bc rfl (rQ (rQ (rQ (rQ (rQ ⟨⟨rfl,show Value.bool false=Value.bool ((decide (aP.kind≤2))&&(decide ((bW ((aO l i).1) (dJ ((aO l i).2) aP.a) (dJ ((aO l i).2) aP.b))=0))) by first|(simp only[p99,jK];done)|simp[p99]⟩,trivial⟩)))))) (rr [0,0,0,0,0,0,0,0,0,0] [])
   refine kd (fun YR=>?_) (fun YR=>?_)
   .obtain ⟨afE,afF⟩:=kk YR;have ajX:=dY afE;have ajY:=dY afF;refine go ?_;refine ah (e:=71) [(0,.agg zc)] zc (fun afG=>?_) (hb:=by kernel_rfl);refine aq (L:=(aO l i).2) 8 aZ Tryz.underlying28 (.lit 0 aZ [bw]) (by show _*48≤_;(try simp only[cD]);omega) ol (fun OP=>?_);refine sP (pB g4 2)<|sF 8 (fun OQ=>?_)
    refine ar (u:=OP) (m:=1) 9 #[pB de 0,pB dN 0,OP] ?_ (hm:=by (obtain⟨_,_,e⟩:=OQ;rw[e];rfl)) (h1:=by (obtain⟨_,_,e⟩:=OQ;rw[e];rfl)) (ha':=by (obtain⟨_,_,e⟩:=OQ;rw[e];rfl));refine go ?_;refine sL (bX (i:Int) 1 ol) ?_;refine go ?_;have vN:=jH ji;have h1:(cp ((aO l i).1) (dJ ((aO l i).2) aP.a) (dJ ((aO l i).2) aP.b))=(aO l (i+1)).1:=by rw[vN];unfold gI;simp[LM,X9,p93,p96,mI]
    have h2:((aO l i).2++[bw])=(aO l (i+1)).2:=by rw[vN];unfold gI;simp_all[mI]
    refine ab (Bs:=aa afG zc 71::bs dN ((aO l (i+1)).1)::bJ de ((aO l (i+1)).1)::aa zI zc 71::aa DS zc 71::aa g18 (vc (dJ ((aO l i).2) aP.c)) 71::aa g17 (vc (dJ ((aO l i).2) aP.b)) 71::aa g16 (vc (dJ ((aO l i).2) aP.a)) 71::own bq OP ((aO l (i+1)).2)::aa g4 #[pB de 0,pB dN 0,OP] 30::aa g1 #[.pointer none,.pointer none,nS] 30::F) (fun _ h=>by rw[←h1,←h2];exact h) ?_;exact az (OP,i+1) (by show 100-(i+1)<100-i;omega) (by show i+1≤100∧i+1≤l.length;omega) sA (rr [8,8,1,1,6] [5,5,5,5,5,5])
   have afH:=YR;simp only[Bool.and_eq_true,Bool.or_eq_true,Bool.and_eq_false_iff,Bool.or_eq_false_iff,Bool.not_eq_true',Bool.not_eq_false',decide_eq_true_eq,decide_eq_false_iff_not]at afH;refine go ?_;refine sL (bX (i:Int) 1 ol) ?_;refine go ?_;have vN:=jH ji;have h1:(cp ((aO l i).1) (dJ ((aO l i).2) aP.a) (dJ ((aO l i).2) aP.b))=(aO l (i+1)).1:=by rw[vN];unfold gI;simp[LM,X9,p93,p96,mI]
   have h2:(aO l i).2=(aO l (i+1)).2:=by rw[vN];unfold gI;simp_all[mI]
   refine ab (Bs:=bs dN ((aO l (i+1)).1)::bJ de ((aO l (i+1)).1)::aa zI zc 71::aa DS zc 71::aa g18 (vc (dJ ((aO l i).2) aP.c)) 71::aa g17 (vc (dJ ((aO l i).2) aP.b)) 71::aa g16 (vc (dJ ((aO l i).2) aP.a)) 71::own bq lx ((aO l (i+1)).2)::aa g4 #[pB de 0,pB dN 0,lx] 30::aa g1 #[.pointer none,.pointer none,nS] 30::F) (fun _ h=>by rw[←h1,←h2];exact h) ?_;exact az (lx,i+1) (by show 100-(i+1)<100-i;omega) (by show i+1≤100∧i+1≤l.length;omega) sA (rr [7,7,0,0,5] [5,5,5,5,5])
  refine ba (ι:=Nat×Nat) 4 (tf [23,4]) (fun (g16,g17)=>[(0,lv),(2,pB g1 0),(4,pB g4 0),(5,iw (i:Int)),(6,pB g16 0),(7,pB g17 0),(36,.agg (vc (dJ ((aO l i).2) aP.a))),(43,.agg (vc (dJ ((aO l i).2) aP.b))),(50,.agg (vc (dJ ((aO l i).2) aP.c)))]) (fun (g16,g17)=>aa g17 zc 71::aa g16 zc 71::own bq lx ((aO l i).2)::aa g4 #[pB de 0,pB dN 0,lx] 30::bs dN ((aO l i).1)::bJ de ((aO l i).1)::aa g1 #[.pointer none,.pointer none,nS] 30::F) ?_ (fun OR=>?_)
  .rintro ⟨g16,g17⟩;try dsimp only
   refine ag 23 ?_;refine ae (.agg zc) zc (fun afI=>?_);refine nH [3,3,5] ?_;exact aB TK (g16,g17,afI) (rr [0,0,0,0,0,0,0,0] [])
  refine ba (ι:=Nat×Nat) 4 (tf [22,1,1,3]) (fun (g16,g19)=>[(0,lv),(2,pB g1 0),(4,pB g4 0),(5,iw (i:Int)),(6,pB g16 0),(8,pB g19 0),(36,.agg (vc (dJ ((aO l i).2) aP.a))),(43,.agg (vc (dJ ((aO l i).2) aP.b))),(50,.agg (vc (dJ ((aO l i).2) aP.c)))]) (fun (g16,g19)=>aa g19 zc 71::aa g16 zc 71::own bq lx ((aO l i).2)::aa g4 #[pB de 0,pB dN 0,lx] 30::bs dN ((aO l i).1)::bJ de ((aO l i).1)::aa g1 #[.pointer none,.pointer none,nS] 30::F) ?_ (fun OS=>?_)
  .rintro ⟨g16,g19⟩;try dsimp only
   refine ag 22 ?_;refine ae (.agg zc) zc (fun afJ=>?_);refine nH [3,3,5] ?_;exact aB TK (g16,afJ,g19) (rr [1,0,0,0,0,0,0,0] [])
  refine ba (ι:=Nat×Nat) 4 (tf [21,1,2,3]) (fun (g21,g23)=>[(0,lv),(2,pB g1 0),(4,pB g4 0),(5,iw (i:Int)),(7,pB g21 0),(8,pB g23 0),(36,.agg (vc (dJ ((aO l i).2) aP.a))),(43,.agg (vc (dJ ((aO l i).2) aP.b))),(50,.agg (vc (dJ ((aO l i).2) aP.c)))]) (fun (g21,g23)=>aa g23 zc 71::aa g21 zc 71::own bq lx ((aO l i).2)::aa g4 #[pB de 0,pB dN 0,lx] 30::bs dN ((aO l i).1)::bJ de ((aO l i).1)::aa g1 #[.pointer none,.pointer none,nS] 30::F) ?_ (fun OT=>?_)
  .rintro ⟨g21,g23⟩;try dsimp only
   refine ag 21 ?_;refine ae (.agg zc) zc (fun afK=>?_);refine nH [3,3,5] ?_;exact aB TK (afK,g21,g23) (rr [1,1,0,0,0,0,0,0] [])
  refine ba (ι:=Nat×Nat×Nat) 4 (tf [20,1,3,3]) (fun (oR,AW,JT)=>[(0,lv),(2,pB g1 0),(4,pB g4 0),(5,iw (i:Int)),(6,pB oR 0),(7,pB AW 0),(8,pB JT 0),(36,.agg (vc (dJ ((aO l i).2) aP.a))),(43,.agg (vc (dJ ((aO l i).2) aP.b))),(44,.agg #[pB de 0,pB dN 0,lx]),(49,.agg #[iw aP.c.v.kind,iw aP.c.v.p,iw aP.c.v.q,sw aP.c.v.str,iw aP.c.v.ref,iw aP.c.obj])]) (fun (oR,AW,JT)=>aa JT zc 71::aa AW zc 71::aa oR zc 71::own bq lx ((aO l i).2)::aa g4 #[pB de 0,pB dN 0,lx] 30::bs dN ((aO l i).1)::bJ de ((aO l i).1)::aa g1 #[.pointer none,.pointer none,nS] 30::F) ?_ (fun Ii=>?_)
  .rintro ⟨oR,AW,JT⟩;try dsimp only
   refine ag 20 ?_;refine sC [3] (ld (L:=(aO l i).2) ol aP.c) ?_;refine nH [0,3,5] ?_;exact aB TK (oR,AW,JT) (rr [1,1,1,0,0,0,0,0] [])
  refine ba (ι:=Nat) 5 (tf [22,5]) (fun g16=>[(0,lv),(2,pB g1 0),(4,pB g4 0),(5,iw (i:Int)),(6,pB g16 0),(36,.agg (vc (dJ ((aO l i).2) aP.a))),(43,.agg (vc (dJ ((aO l i).2) aP.b))),(50,.agg (vc (dJ ((aO l i).2) aP.c)))]) (fun g16=>aa g16 zc 71::own bq lx ((aO l i).2)::aa g4 #[pB de 0,pB dN 0,lx] 30::bs dN ((aO l i).1)::bJ de ((aO l i).1)::aa g1 #[.pointer none,.pointer none,nS] 30::F) ?_ (fun V4=>?_)
  .rintro g16;try dsimp only
   refine aN 22 23 ?_ ?_
   .refine ae (.agg zc) zc (fun afL=>?_);refine nH [2,2,4] ?_;exact aB OR (g16,afL) (rr [0,0,0,0,0,0,0] [])
   refine ae (.agg zc) zc (fun afM=>?_);refine nH [2,2,4] ?_;exact aB OS (g16,afM) (rr [0,0,0,0,0,0,0] [])
  refine ba (ι:=Nat) 5 (tf [21,1,1,4]) (fun g21=>[(0,lv),(2,pB g1 0),(4,pB g4 0),(5,iw (i:Int)),(7,pB g21 0),(36,.agg (vc (dJ ((aO l i).2) aP.a))),(43,.agg (vc (dJ ((aO l i).2) aP.b))),(50,.agg (vc (dJ ((aO l i).2) aP.c)))]) (fun g21=>aa g21 zc 71::own bq lx ((aO l i).2)::aa g4 #[pB de 0,pB dN 0,lx] 30::bs dN ((aO l i).1)::bJ de ((aO l i).1)::aa g1 #[.pointer none,.pointer none,nS] 30::F) ?_ (fun V5=>?_)
  .rintro g21;try dsimp only
   refine aN 21 23 ?_ ?_
   .refine ae (.agg zc) zc (fun afN=>?_);refine nH [2,2,4] ?_;exact aB OR (afN,g21) (rr [1,0,0,0,0,0,0] [])
   refine ae (.agg zc) zc (fun afO=>?_);refine nH [2,2,4] ?_;exact aB OT (g21,afO) (rr [0,0,0,0,0,0,0] [])
  refine ba (ι:=Nat) 5 (tf [21,2,1,3]) (fun DQ=>[(0,lv),(2,pB g1 0),(4,pB g4 0),(5,iw (i:Int)),(8,pB DQ 0),(36,.agg (vc (dJ ((aO l i).2) aP.a))),(43,.agg (vc (dJ ((aO l i).2) aP.b))),(50,.agg (vc (dJ ((aO l i).2) aP.c)))]) (fun DQ=>aa DQ zc 71::own bq lx ((aO l i).2)::aa g4 #[pB de 0,pB dN 0,lx] 30::bs dN ((aO l i).1)::bJ de ((aO l i).1)::aa g1 #[.pointer none,.pointer none,nS] 30::F) ?_ (fun V6=>?_)
  .rintro DQ;try dsimp only
   refine aN 21 22 ?_ ?_
   .refine ae (.agg zc) zc (fun afP=>?_);refine nH [2,2,4] ?_;exact aB OS (afP,DQ) (rr [1,0,0,0,0,0,0] [])
   refine ae (.agg zc) zc (fun afQ=>?_);refine nH [2,2,4] ?_;exact aB OT (afQ,DQ) (rr [1,0,0,0,0,0,0] [])
  refine ba (ι:=Nat×Nat) 5 (tf [20,1,2,4]) (fun (oR,AW)=>[(0,lv),(2,pB g1 0),(4,pB g4 0),(5,iw (i:Int)),(6,pB oR 0),(7,pB AW 0),(36,.agg (vc (dJ ((aO l i).2) aP.a))),(43,.agg (vc (dJ ((aO l i).2) aP.b))),(44,.agg #[pB de 0,pB dN 0,lx]),(49,.agg #[iw aP.c.v.kind,iw aP.c.v.p,iw aP.c.v.q,sw aP.c.v.str,iw aP.c.v.ref,iw aP.c.obj])]) (fun (oR,AW)=>aa AW zc 71::aa oR zc 71::own bq lx ((aO l i).2)::aa g4 #[pB de 0,pB dN 0,lx] 30::bs dN ((aO l i).1)::bJ de ((aO l i).1)::aa g1 #[.pointer none,.pointer none,nS] 30::F) ?_ (fun OU=>?_)
  .rintro ⟨oR,AW⟩;try dsimp only
   refine aN 20 23 ?_ ?_
   .refine sC [2] (ld (L:=(aO l i).2) ol aP.c) ?_;refine nH [0,2,4] ?_;exact aB OR (oR,AW) (rr [1,1,0,0,0,0,0] [])
   refine ae (.agg zc) zc (fun afR=>?_);refine nH [3,3,5] ?_;exact aB Ii (oR,AW,afR) (rr [0,0,0,0,0,0,0,0] [])
  refine ba (ι:=Nat×Nat) 5 (tf [20,1,1,1,1,3]) (fun (oR,VQ)=>[(0,lv),(2,pB g1 0),(4,pB g4 0),(5,iw (i:Int)),(6,pB oR 0),(8,pB VQ 0),(36,.agg (vc (dJ ((aO l i).2) aP.a))),(43,.agg (vc (dJ ((aO l i).2) aP.b))),(44,.agg #[pB de 0,pB dN 0,lx]),(49,.agg #[iw aP.c.v.kind,iw aP.c.v.p,iw aP.c.v.q,sw aP.c.v.str,iw aP.c.v.ref,iw aP.c.obj])]) (fun (oR,VQ)=>aa VQ zc 71::aa oR zc 71::own bq lx ((aO l i).2)::aa g4 #[pB de 0,pB dN 0,lx] 30::bs dN ((aO l i).1)::bJ de ((aO l i).1)::aa g1 #[.pointer none,.pointer none,nS] 30::F) ?_ (fun OV=>?_)
  .rintro ⟨oR,VQ⟩;try dsimp only
   refine aN 20 22 ?_ ?_
   .refine sC [2] (ld (L:=(aO l i).2) ol aP.c) ?_;refine nH [0,2,4] ?_;exact aB OS (oR,VQ) (rr [1,1,0,0,0,0,0] [])
   refine ae (.agg zc) zc (fun afS=>?_);refine nH [3,3,5] ?_;exact aB Ii (oR,afS,VQ) (rr [1,0,0,0,0,0,0,0] [])
  refine ba (ι:=Nat×Nat) 5 (tf [20,2,2,3]) (fun (m4,NM)=>[(0,lv),(2,pB g1 0),(4,pB g4 0),(5,iw (i:Int)),(7,pB m4 0),(8,pB NM 0),(36,.agg (vc (dJ ((aO l i).2) aP.a))),(43,.agg (vc (dJ ((aO l i).2) aP.b))),(44,.agg #[pB de 0,pB dN 0,lx]),(49,.agg #[iw aP.c.v.kind,iw aP.c.v.p,iw aP.c.v.q,sw aP.c.v.str,iw aP.c.v.ref,iw aP.c.obj])]) (fun (m4,NM)=>aa NM zc 71::aa m4 zc 71::own bq lx ((aO l i).2)::aa g4 #[pB de 0,pB dN 0,lx] 30::bs dN ((aO l i).1)::bJ de ((aO l i).1)::aa g1 #[.pointer none,.pointer none,nS] 30::F) ?_ (fun OW=>?_)
  .rintro ⟨m4,NM⟩;try dsimp only
   refine aN 20 21 ?_ ?_
   .refine sC [2] (ld (L:=(aO l i).2) ol aP.c) ?_;refine nH [0,2,4] ?_;exact aB OT (m4,NM) (rr [1,1,0,0,0,0,0] [])
   refine ae (.agg zc) zc (fun afT=>?_);refine nH [3,3,5] ?_;exact aB Ii (afT,m4,NM) (rr [1,1,0,0,0,0,0,0] [])
  refine ba (ι:=Nat×Nat×Nat) 5 (tf [13,1,6,1,3,3]) (fun (nB,wL,Rl)=>[(0,lv),(2,pB g1 0),(4,pB g4 0),(5,iw (i:Int)),(6,pB nB 0),(7,pB wL 0),(8,pB Rl 0),(36,.agg (vc (dJ ((aO l i).2) aP.a))),(37,.agg #[pB de 0,pB dN 0,lx]),(42,.agg #[iw aP.b.v.kind,iw aP.b.v.p,iw aP.b.v.q,sw aP.b.v.str,iw aP.b.v.ref,iw aP.b.obj]),(44,.agg #[pB de 0,pB dN 0,lx]),(49,.agg #[iw aP.c.v.kind,iw aP.c.v.p,iw aP.c.v.q,sw aP.c.v.str,iw aP.c.v.ref,iw aP.c.obj])]) (fun (nB,wL,Rl)=>aa Rl zc 71::aa wL zc 71::aa nB zc 71::own bq lx ((aO l i).2)::aa g4 #[pB de 0,pB dN 0,lx] 30::bs dN ((aO l i).1)::bJ de ((aO l i).1)::aa g1 #[.pointer none,.pointer none,nS] 30::F) ?_ (fun Ij=>?_)
  .rintro ⟨nB,wL,Rl⟩;try dsimp only
   refine ag 13 ?_;refine sC [3] (ld (L:=(aO l i).2) ol aP.b) ?_;refine nH [0,3,5] ?_;exact aB Ii (nB,wL,Rl) (rr [1,1,1,0,0,0,0,0] [])
  refine ba (ι:=Nat) 6 (tf [20,1,1,5]) (fun oR=>[(0,lv),(2,pB g1 0),(4,pB g4 0),(5,iw (i:Int)),(6,pB oR 0),(36,.agg (vc (dJ ((aO l i).2) aP.a))),(43,.agg (vc (dJ ((aO l i).2) aP.b))),(44,.agg #[pB de 0,pB dN 0,lx]),(49,.agg #[iw aP.c.v.kind,iw aP.c.v.p,iw aP.c.v.q,sw aP.c.v.str,iw aP.c.v.ref,iw aP.c.obj])]) (fun oR=>aa oR zc 71::own bq lx ((aO l i).2)::aa g4 #[pB de 0,pB dN 0,lx] 30::bs dN ((aO l i).1)::bJ de ((aO l i).1)::aa g1 #[.pointer none,.pointer none,nS] 30::F) ?_ (fun V7=>?_)
  .rintro oR;try dsimp only
   refine dR 20 22 23 ?_ ?_ ?_
   .refine sC [1] (ld (L:=(aO l i).2) ol aP.c) ?_;refine nH [0,1,3] ?_;exact aB V4 oR (rr [1,0,0,0,0,0] [])
   .refine ae (.agg zc) zc (fun afU=>?_);refine nH [2,2,4] ?_;exact aB OU (oR,afU) (rr [0,0,0,0,0,0,0] [])
   refine ae (.agg zc) zc (fun afV=>?_);refine nH [2,2,4] ?_;exact aB OV (oR,afV) (rr [0,0,0,0,0,0,0] [])
  refine ba (ι:=Nat) 6 (tf [20,2,1,4]) (fun m4=>[(0,lv),(2,pB g1 0),(4,pB g4 0),(5,iw (i:Int)),(7,pB m4 0),(36,.agg (vc (dJ ((aO l i).2) aP.a))),(43,.agg (vc (dJ ((aO l i).2) aP.b))),(44,.agg #[pB de 0,pB dN 0,lx]),(49,.agg #[iw aP.c.v.kind,iw aP.c.v.p,iw aP.c.v.q,sw aP.c.v.str,iw aP.c.v.ref,iw aP.c.obj])]) (fun m4=>aa m4 zc 71::own bq lx ((aO l i).2)::aa g4 #[pB de 0,pB dN 0,lx] 30::bs dN ((aO l i).1)::bJ de ((aO l i).1)::aa g1 #[.pointer none,.pointer none,nS] 30::F) ?_ (fun V8=>?_)
  .rintro m4;try dsimp only
   refine dR 20 21 23 ?_ ?_ ?_
   .refine sC [1] (ld (L:=(aO l i).2) ol aP.c) ?_;refine nH [0,1,3] ?_;exact aB V5 m4 (rr [1,0,0,0,0,0] [])
   .refine ae (.agg zc) zc (fun afW=>?_);refine nH [2,2,4] ?_;exact aB OU (afW,m4) (rr [1,0,0,0,0,0,0] [])
   refine ae (.agg zc) zc (fun afX=>?_);refine nH [2,2,4] ?_;exact aB OW (m4,afX) (rr [0,0,0,0,0,0,0] [])
  refine ba (ι:=Nat) 6 (tf [20,3,1,3]) (fun NT=>[(0,lv),(2,pB g1 0),(4,pB g4 0),(5,iw (i:Int)),(8,pB NT 0),(36,.agg (vc (dJ ((aO l i).2) aP.a))),(43,.agg (vc (dJ ((aO l i).2) aP.b))),(44,.agg #[pB de 0,pB dN 0,lx]),(49,.agg #[iw aP.c.v.kind,iw aP.c.v.p,iw aP.c.v.q,sw aP.c.v.str,iw aP.c.v.ref,iw aP.c.obj])]) (fun NT=>aa NT zc 71::own bq lx ((aO l i).2)::aa g4 #[pB de 0,pB dN 0,lx] 30::bs dN ((aO l i).1)::bJ de ((aO l i).1)::aa g1 #[.pointer none,.pointer none,nS] 30::F) ?_ (fun V9=>?_)
  .rintro NT;try dsimp only
   refine dR 20 21 22 ?_ ?_ ?_
   .refine sC [1] (ld (L:=(aO l i).2) ol aP.c) ?_;refine nH [0,1,3] ?_;exact aB V6 NT (rr [1,0,0,0,0,0] [])
   .refine ae (.agg zc) zc (fun afY=>?_);refine nH [2,2,4] ?_;exact aB OV (afY,NT) (rr [1,0,0,0,0,0,0] [])
   refine ae (.agg zc) zc (fun afZ=>?_);refine nH [2,2,4] ?_;exact aB OW (afZ,NT) (rr [1,0,0,0,0,0,0] [])
  refine ba (ι:=Nat×Nat) 6 (tf [13,1,6,1,2,4]) (fun (nB,wL)=>[(0,lv),(2,pB g1 0),(4,pB g4 0),(5,iw (i:Int)),(6,pB nB 0),(7,pB wL 0),(36,.agg (vc (dJ ((aO l i).2) aP.a))),(37,.agg #[pB de 0,pB dN 0,lx]),(42,.agg #[iw aP.b.v.kind,iw aP.b.v.p,iw aP.b.v.q,sw aP.b.v.str,iw aP.b.v.ref,iw aP.b.obj]),(44,.agg #[pB de 0,pB dN 0,lx]),(49,.agg #[iw aP.c.v.kind,iw aP.c.v.p,iw aP.c.v.q,sw aP.c.v.str,iw aP.c.v.ref,iw aP.c.obj])]) (fun (nB,wL)=>aa wL zc 71::aa nB zc 71::own bq lx ((aO l i).2)::aa g4 #[pB de 0,pB dN 0,lx] 30::bs dN ((aO l i).1)::bJ de ((aO l i).1)::aa g1 #[.pointer none,.pointer none,nS] 30::F) ?_ (fun OX=>?_)
  .rintro ⟨nB,wL⟩;try dsimp only
   refine aN 13 23 ?_ ?_
   .refine sC [2] (ld (L:=(aO l i).2) ol aP.b) ?_;refine nH [0,2,4] ?_;exact aB OU (nB,wL) (rr [1,1,0,0,0,0,0] [])
   refine ae (.agg zc) zc (fun af0=>?_);refine nH [3,3,5] ?_;exact aB Ij (nB,wL,af0) (rr [0,0,0,0,0,0,0,0] [])
  refine ba (ι:=Nat×Nat) 6 (tf [13,1,6,1,1,1,1,3]) (fun (nB,BL)=>[(0,lv),(2,pB g1 0),(4,pB g4 0),(5,iw (i:Int)),(6,pB nB 0),(8,pB BL 0),(36,.agg (vc (dJ ((aO l i).2) aP.a))),(37,.agg #[pB de 0,pB dN 0,lx]),(42,.agg #[iw aP.b.v.kind,iw aP.b.v.p,iw aP.b.v.q,sw aP.b.v.str,iw aP.b.v.ref,iw aP.b.obj]),(44,.agg #[pB de 0,pB dN 0,lx]),(49,.agg #[iw aP.c.v.kind,iw aP.c.v.p,iw aP.c.v.q,sw aP.c.v.str,iw aP.c.v.ref,iw aP.c.obj])]) (fun (nB,BL)=>aa BL zc 71::aa nB zc 71::own bq lx ((aO l i).2)::aa g4 #[pB de 0,pB dN 0,lx] 30::bs dN ((aO l i).1)::bJ de ((aO l i).1)::aa g1 #[.pointer none,.pointer none,nS] 30::F) ?_ (fun OY=>?_)
  .rintro ⟨nB,BL⟩;try dsimp only
   refine aN 13 22 ?_ ?_
   .refine sC [2] (ld (L:=(aO l i).2) ol aP.b) ?_;refine nH [0,2,4] ?_;exact aB OV (nB,BL) (rr [1,1,0,0,0,0,0] [])
   refine ae (.agg zc) zc (fun af4=>?_);refine nH [3,3,5] ?_;exact aB Ij (nB,af4,BL) (rr [1,0,0,0,0,0,0,0] [])
  refine ba (ι:=Nat×Nat) 6 (tf [13,1,6,2,2,3]) (fun (CQ,wc)=>[(0,lv),(2,pB g1 0),(4,pB g4 0),(5,iw (i:Int)),(7,pB CQ 0),(8,pB wc 0),(36,.agg (vc (dJ ((aO l i).2) aP.a))),(37,.agg #[pB de 0,pB dN 0,lx]),(42,.agg #[iw aP.b.v.kind,iw aP.b.v.p,iw aP.b.v.q,sw aP.b.v.str,iw aP.b.v.ref,iw aP.b.obj]),(44,.agg #[pB de 0,pB dN 0,lx]),(49,.agg #[iw aP.c.v.kind,iw aP.c.v.p,iw aP.c.v.q,sw aP.c.v.str,iw aP.c.v.ref,iw aP.c.obj])]) (fun (CQ,wc)=>aa wc zc 71::aa CQ zc 71::own bq lx ((aO l i).2)::aa g4 #[pB de 0,pB dN 0,lx] 30::bs dN ((aO l i).1)::bJ de ((aO l i).1)::aa g1 #[.pointer none,.pointer none,nS] 30::F) ?_ (fun OZ=>?_)
  .rintro ⟨CQ,wc⟩;try dsimp only
   refine aN 13 21 ?_ ?_
   .refine sC [2] (ld (L:=(aO l i).2) ol aP.b) ?_;refine nH [0,2,4] ?_;exact aB OW (CQ,wc) (rr [1,1,0,0,0,0,0] [])
   refine ae (.agg zc) zc (fun af5=>?_);refine nH [3,3,5] ?_;exact aB Ij (af5,CQ,wc) (rr [1,1,0,0,0,0,0,0] [])
  refine ba (ι:=Nat×Nat×Nat) 6 (tf [6,1,6,1,6,1,3,3]) (fun (uR,zE,Fe)=>[(0,lv),(2,pB g1 0),(4,pB g4 0),(5,iw (i:Int)),(6,pB uR 0),(7,pB zE 0),(8,pB Fe 0),(30,.agg #[pB de 0,pB dN 0,lx]),(35,.agg #[iw aP.a.v.kind,iw aP.a.v.p,iw aP.a.v.q,sw aP.a.v.str,iw aP.a.v.ref,iw aP.a.obj]),(37,.agg #[pB de 0,pB dN 0,lx]),(42,.agg #[iw aP.b.v.kind,iw aP.b.v.p,iw aP.b.v.q,sw aP.b.v.str,iw aP.b.v.ref,iw aP.b.obj]),(44,.agg #[pB de 0,pB dN 0,lx]),(49,.agg #[iw aP.c.v.kind,iw aP.c.v.p,iw aP.c.v.q,sw aP.c.v.str,iw aP.c.v.ref,iw aP.c.obj])]) (fun (uR,zE,Fe)=>aa Fe zc 71::aa zE zc 71::aa uR zc 71::own bq lx ((aO l i).2)::aa g4 #[pB de 0,pB dN 0,lx] 30::bs dN ((aO l i).1)::bJ de ((aO l i).1)::aa g1 #[.pointer none,.pointer none,nS] 30::F) ?_ (fun O0=>?_)
  .rintro ⟨uR,zE,Fe⟩;try dsimp only
   refine ag 6 ?_;refine sC [3] (ld (L:=(aO l i).2) ol aP.a) ?_;refine nH [0,3,5] ?_;exact aB Ij (uR,zE,Fe) (rr [1,1,1,0,0,0,0,0] [])
  refine ba (ι:=Nat) 7 (tf [13,1,6,1,1,5]) (fun nB=>[(0,lv),(2,pB g1 0),(4,pB g4 0),(5,iw (i:Int)),(6,pB nB 0),(36,.agg (vc (dJ ((aO l i).2) aP.a))),(37,.agg #[pB de 0,pB dN 0,lx]),(42,.agg #[iw aP.b.v.kind,iw aP.b.v.p,iw aP.b.v.q,sw aP.b.v.str,iw aP.b.v.ref,iw aP.b.obj]),(44,.agg #[pB de 0,pB dN 0,lx]),(49,.agg #[iw aP.c.v.kind,iw aP.c.v.p,iw aP.c.v.q,sw aP.c.v.str,iw aP.c.v.ref,iw aP.c.obj])]) (fun nB=>aa nB zc 71::own bq lx ((aO l i).2)::aa g4 #[pB de 0,pB dN 0,lx] 30::bs dN ((aO l i).1)::bJ de ((aO l i).1)::aa g1 #[.pointer none,.pointer none,nS] 30::F) ?_ (fun V'=>?_)
  .rintro nB;try dsimp only
   refine dR 13 22 23 ?_ ?_ ?_
   .refine sC [1] (ld (L:=(aO l i).2) ol aP.b) ?_;refine nH [0,1,3] ?_;exact aB V7 nB (rr [1,0,0,0,0,0] [])
   .refine ae (.agg zc) zc (fun af6=>?_);refine nH [2,2,4] ?_;exact aB OX (nB,af6) (rr [0,0,0,0,0,0,0] [])
   refine ae (.agg zc) zc (fun af7=>?_);refine nH [2,2,4] ?_;exact aB OY (nB,af7) (rr [0,0,0,0,0,0,0] [])
  refine ba (ι:=Nat) 7 (tf [13,1,6,2,1,4]) (fun CQ=>[(0,lv),(2,pB g1 0),(4,pB g4 0),(5,iw (i:Int)),(7,pB CQ 0),(36,.agg (vc (dJ ((aO l i).2) aP.a))),(37,.agg #[pB de 0,pB dN 0,lx]),(42,.agg #[iw aP.b.v.kind,iw aP.b.v.p,iw aP.b.v.q,sw aP.b.v.str,iw aP.b.v.ref,iw aP.b.obj]),(44,.agg #[pB de 0,pB dN 0,lx]),(49,.agg #[iw aP.c.v.kind,iw aP.c.v.p,iw aP.c.v.q,sw aP.c.v.str,iw aP.c.v.ref,iw aP.c.obj])]) (fun CQ=>aa CQ zc 71::own bq lx ((aO l i).2)::aa g4 #[pB de 0,pB dN 0,lx] 30::bs dN ((aO l i).1)::bJ de ((aO l i).1)::aa g1 #[.pointer none,.pointer none,nS] 30::F) ?_ (fun Wa=>?_)
  .rintro CQ;try dsimp only
   refine dR 13 21 23 ?_ ?_ ?_
   .refine sC [1] (ld (L:=(aO l i).2) ol aP.b) ?_;refine nH [0,1,3] ?_;exact aB V8 CQ (rr [1,0,0,0,0,0] [])
   .refine ae (.agg zc) zc (fun af8=>?_);refine nH [2,2,4] ?_;exact aB OX (af8,CQ) (rr [1,0,0,0,0,0,0] [])
   refine ae (.agg zc) zc (fun af9=>?_);refine nH [2,2,4] ?_;exact aB OZ (CQ,af9) (rr [0,0,0,0,0,0,0] [])
  refine ba (ι:=Nat) 7 (tf [13,1,6,3,1,3]) (fun F4=>[(0,lv),(2,pB g1 0),(4,pB g4 0),(5,iw (i:Int)),(8,pB F4 0),(36,.agg (vc (dJ ((aO l i).2) aP.a))),(37,.agg #[pB de 0,pB dN 0,lx]),(42,.agg #[iw aP.b.v.kind,iw aP.b.v.p,iw aP.b.v.q,sw aP.b.v.str,iw aP.b.v.ref,iw aP.b.obj]),(44,.agg #[pB de 0,pB dN 0,lx]),(49,.agg #[iw aP.c.v.kind,iw aP.c.v.p,iw aP.c.v.q,sw aP.c.v.str,iw aP.c.v.ref,iw aP.c.obj])]) (fun F4=>aa F4 zc 71::own bq lx ((aO l i).2)::aa g4 #[pB de 0,pB dN 0,lx] 30::bs dN ((aO l i).1)::bJ de ((aO l i).1)::aa g1 #[.pointer none,.pointer none,nS] 30::F) ?_ (fun Wb=>?_)
  .rintro F4;try dsimp only
   refine dR 13 21 22 ?_ ?_ ?_
   .refine sC [1] (ld (L:=(aO l i).2) ol aP.b) ?_;refine nH [0,1,3] ?_;exact aB V9 F4 (rr [1,0,0,0,0,0] [])
   .refine ae (.agg zc) zc (fun af'=>?_);refine nH [2,2,4] ?_;exact aB OY (af',F4) (rr [1,0,0,0,0,0,0] [])
   refine ae (.agg zc) zc (fun aga=>?_);refine nH [2,2,4] ?_;exact aB OZ (aga,F4) (rr [1,0,0,0,0,0,0] [])
  refine ba (ι:=Nat×Nat) 7 (tf [6,1,6,1,6,1,2,4]) (fun (uR,zE)=>[(0,lv),(2,pB g1 0),(4,pB g4 0),(5,iw (i:Int)),(6,pB uR 0),(7,pB zE 0),(30,.agg #[pB de 0,pB dN 0,lx]),(35,.agg #[iw aP.a.v.kind,iw aP.a.v.p,iw aP.a.v.q,sw aP.a.v.str,iw aP.a.v.ref,iw aP.a.obj]),(37,.agg #[pB de 0,pB dN 0,lx]),(42,.agg #[iw aP.b.v.kind,iw aP.b.v.p,iw aP.b.v.q,sw aP.b.v.str,iw aP.b.v.ref,iw aP.b.obj]),(44,.agg #[pB de 0,pB dN 0,lx]),(49,.agg #[iw aP.c.v.kind,iw aP.c.v.p,iw aP.c.v.q,sw aP.c.v.str,iw aP.c.v.ref,iw aP.c.obj])]) (fun (uR,zE)=>aa zE zc 71::aa uR zc 71::own bq lx ((aO l i).2)::aa g4 #[pB de 0,pB dN 0,lx] 30::bs dN ((aO l i).1)::bJ de ((aO l i).1)::aa g1 #[.pointer none,.pointer none,nS] 30::F) ?_ (fun Wc=>?_)
  .rintro ⟨uR,zE⟩;try dsimp only
   refine aN 6 23 ?_ ?_
   .refine sC [2] (ld (L:=(aO l i).2) ol aP.a) ?_;refine nH [0,2,4] ?_;exact aB OX (uR,zE) (rr [1,1,0,0,0,0,0] [])
   refine ae (.agg zc) zc (fun agb=>?_);refine nH [3,3,5] ?_;exact aB O0 (uR,zE,agb) (rr [0,0,0,0,0,0,0,0] [])
  refine ba (ι:=Nat×Nat) 7 (tf [6,1,6,1,6,1,1,1,1,3]) (fun (uR,JY)=>[(0,lv),(2,pB g1 0),(4,pB g4 0),(5,iw (i:Int)),(6,pB uR 0),(8,pB JY 0),(30,.agg #[pB de 0,pB dN 0,lx]),(35,.agg #[iw aP.a.v.kind,iw aP.a.v.p,iw aP.a.v.q,sw aP.a.v.str,iw aP.a.v.ref,iw aP.a.obj]),(37,.agg #[pB de 0,pB dN 0,lx]),(42,.agg #[iw aP.b.v.kind,iw aP.b.v.p,iw aP.b.v.q,sw aP.b.v.str,iw aP.b.v.ref,iw aP.b.obj]),(44,.agg #[pB de 0,pB dN 0,lx]),(49,.agg #[iw aP.c.v.kind,iw aP.c.v.p,iw aP.c.v.q,sw aP.c.v.str,iw aP.c.v.ref,iw aP.c.obj])]) (fun (uR,JY)=>aa JY zc 71::aa uR zc 71::own bq lx ((aO l i).2)::aa g4 #[pB de 0,pB dN 0,lx] 30::bs dN ((aO l i).1)::bJ de ((aO l i).1)::aa g1 #[.pointer none,.pointer none,nS] 30::F) ?_ (fun Wd=>?_)
  .rintro ⟨uR,JY⟩;try dsimp only
   refine aN 6 22 ?_ ?_
   .refine sC [2] (ld (L:=(aO l i).2) ol aP.a) ?_;refine nH [0,2,4] ?_;exact aB OY (uR,JY) (rr [1,1,0,0,0,0,0] [])
   refine ae (.agg zc) zc (fun agc=>?_);refine nH [3,3,5] ?_;exact aB O0 (uR,agc,JY) (rr [1,0,0,0,0,0,0,0] [])
  refine ba (ι:=Nat×Nat) 7 (tf [6,1,6,1,6,2,2,3]) (fun (JZ,O1)=>[(0,lv),(2,pB g1 0),(4,pB g4 0),(5,iw (i:Int)),(7,pB JZ 0),(8,pB O1 0),(30,.agg #[pB de 0,pB dN 0,lx]),(35,.agg #[iw aP.a.v.kind,iw aP.a.v.p,iw aP.a.v.q,sw aP.a.v.str,iw aP.a.v.ref,iw aP.a.obj]),(37,.agg #[pB de 0,pB dN 0,lx]),(42,.agg #[iw aP.b.v.kind,iw aP.b.v.p,iw aP.b.v.q,sw aP.b.v.str,iw aP.b.v.ref,iw aP.b.obj]),(44,.agg #[pB de 0,pB dN 0,lx]),(49,.agg #[iw aP.c.v.kind,iw aP.c.v.p,iw aP.c.v.q,sw aP.c.v.str,iw aP.c.v.ref,iw aP.c.obj])]) (fun (JZ,O1)=>aa O1 zc 71::aa JZ zc 71::own bq lx ((aO l i).2)::aa g4 #[pB de 0,pB dN 0,lx] 30::bs dN ((aO l i).1)::bJ de ((aO l i).1)::aa g1 #[.pointer none,.pointer none,nS] 30::F) ?_ (fun We=>?_)
  .rintro ⟨JZ,O1⟩;try dsimp only
   refine aN 6 21 ?_ ?_
   .refine sC [2] (ld (L:=(aO l i).2) ol aP.a) ?_;refine nH [0,2,4] ?_;exact aB OZ (JZ,O1) (rr [1,1,0,0,0,0,0] [])
   refine ae (.agg zc) zc (fun agd=>?_);refine nH [3,3,5] ?_;exact aB O0 (agd,JZ,O1) (rr [1,1,0,0,0,0,0,0] [])
  refine xB 6 21 22 23 ?_ ?_ ?_ ?_
  .refine sC [0] (ld (L:=(aO l i).2) ol aP.a) ?_;refine nH [0,0,2]<|xB 13 21 22 23 ?_ ?_ ?_ ?_
   .refine sC [0] (ld (L:=(aO l i).2) ol aP.b) ?_;refine nH [0,0,2]<|xB 20 21 22 23 ?_ ?_ ?_ ?_
    .refine sC [0] (ld (L:=(aO l i).2) ol aP.c) ?_;refine nH [0,0,2]<|dR 21 22 23 ?_ ?_ ?_
     .refine ae (.agg zc) zc (fun age=>?_);refine nH [1,1,3] ?_;exact aB V4 age (rr [0,0,0,0,0,0] [])
     .refine ae (.agg zc) zc (fun agf=>?_);refine nH [1,1,3] ?_;exact aB V5 agf (rr [0,0,0,0,0,0] [])
     refine ae (.agg zc) zc (fun agh=>?_);refine nH [1,1,3] ?_;exact aB V6 agh (rr [0,0,0,0,0,0] [])
    .refine ae (.agg zc) zc (fun agi=>?_);refine nH [1,1,3] ?_;exact aB V7 agi (rr [0,0,0,0,0,0] [])
    .refine ae (.agg zc) zc (fun agj=>?_);refine nH [1,1,3] ?_;exact aB V8 agj (rr [0,0,0,0,0,0] [])
    refine ae (.agg zc) zc (fun agk=>?_);refine nH [1,1,3] ?_;exact aB V9 agk (rr [0,0,0,0,0,0] [])
   .refine ae (.agg zc) zc (fun agl=>?_);refine nH [1,1,3] ?_;exact aB V' agl (rr [0,0,0,0,0,0] [])
   .refine ae (.agg zc) zc (fun agm=>?_);refine nH [1,1,3] ?_;exact aB Wa agm (rr [0,0,0,0,0,0] [])
   refine ae (.agg zc) zc (fun agn=>?_);refine nH [1,1,3] ?_;exact aB Wb agn (rr [0,0,0,0,0,0] [])
  .refine ae (.agg zc) zc (fun YS=>?_);refine nH [1,1,3]<|dR 6 22 23 ?_ ?_ ?_
   .refine sC [1] (ld (L:=(aO l i).2) ol aP.a) ?_;refine nH [0,1,3] ?_;exact aB V' YS (rr [1,0,0,0,0,0] [])
   .refine ae (.agg zc) zc (fun ago=>?_);refine nH [2,2,4] ?_;exact aB Wc (YS,ago) (rr [0,0,0,0,0,0,0] [])
   refine ae (.agg zc) zc (fun agq=>?_);refine nH [2,2,4] ?_;exact aB Wd (YS,agq) (rr [0,0,0,0,0,0,0] [])
  .refine ae (.agg zc) zc (fun YT=>?_);refine nH [1,1,3]<|dR 6 21 23 ?_ ?_ ?_
   .refine sC [1] (ld (L:=(aO l i).2) ol aP.a) ?_;refine nH [0,1,3] ?_;exact aB Wa YT (rr [1,0,0,0,0,0] [])
   .refine ae (.agg zc) zc (fun agr=>?_);refine nH [2,2,4] ?_;exact aB Wc (agr,YT) (rr [1,0,0,0,0,0,0] [])
   refine ae (.agg zc) zc (fun ags=>?_);refine nH [2,2,4] ?_;exact aB We (YT,ags) (rr [0,0,0,0,0,0,0] [])
  refine ae (.agg zc) zc (fun YU=>?_);refine nH [1,1,3]<|dR 6 21 22 ?_ ?_ ?_
  .refine sC [1] (ld (L:=(aO l i).2) ol aP.a) ?_;refine nH [0,1,3] ?_;exact aB Wb YU (rr [1,0,0,0,0,0] [])
  .refine ae (.agg zc) zc (fun agt=>?_);refine nH [2,2,4] ?_;exact aB Wd (agt,YU) (rr [1,0,0,0,0,0,0] [])
  refine ae (.agg zc) zc (fun agu=>?_);refine nH [2,2,4] ?_;exact aB We (agu,YU) (rr [1,0,0,0,0,0,0] [])
 have agv:=c9;simp only[Bool.and_eq_true,Bool.or_eq_true,Bool.and_eq_false_iff,Bool.or_eq_false_iff,Bool.not_eq_true',Bool.not_eq_false',decide_eq_true_eq,decide_eq_false_iff_not]at agv;refine go ?_;refine sF 0 (fun O2=>?_);refine ar (u:=.agg #[pB de 0,pB dN 0,lx]) (m:=3) 4 #[pB de 0,pB dN 0,lx] ?_ (hm:=by (obtain⟨_,_,e⟩:=O2;rw[e];rfl)) (h1:=by (obtain⟨_,_,e⟩:=O2;rw[e];rfl)) (ha':=by (obtain⟨_,_,e⟩:=O2;rw[e];rfl));refine go ?_;have iA:made l=aO l i:=by unfold made;congr 1;omega
 exact ad [.agg #[pB de 0,pB dN 0,lx],.bool true] (bJ de (aO l i).1::bs dN (aO l i).1::own bq lx (aO l i).2::F) (SI.agg 2 30 4 (SI.tmp 3 SI.nil)) (rr [3,2,0] [3,3]) ⟨de,dN,lx,rfl,by rw[iA]⟩
structure Ob where
 id:Int
 size:Int
 weak:Int
 rv:Sv
 ev:Sv
 refs:List Int
 ents:List iF
end
section
variable{l:List Ob}{i lo hi j md:Nat}{ks R:List Int}{y x o:Ob}{n last id:Int}{ov rv:Value}{Z:bK}{α:Type}{H:bb}
abbrev Ob.v(x:Ob):Value:=.agg #[iw x.id,iw x.size,iw x.weak,x.rv.v,x.ev.v]
def dT:Ty Ob:=⟨100,5,72,true,Ob.v,⟨0,0,0,⟨none,0,0⟩,⟨none,0,0⟩,[],[]⟩⟩
theorem bt:dT.Ok Tryz.prog:=pg dT _ Tryz.t100 (by decide) (fun _=>rfl) (fun x u hu=>by simp[Ty.enc,dT,Value.cells]at hu;rcases hu with rfl|rfl|rfl|rfl|rfl<;>rfl) (fun _=>rfl) Tryz.underlying100 rfl (fun h=>by cases h) (by kernel_rfl) (by kernel_rfl) (by kernel_rfl) (by kernel_rfl)
def Fk(Z:bK)(x:Ob):Prop:=Kn Z an x.rv.v x.refs∧Kn Z cq x.ev.v x.ents
structure oO(Z:bK)(ov rv:Value)(l:List Ob)(R:List Int):Prop where
 obs:Kn Z dT ov l
 roots:Kn Z an rv R
 each:∀x∈l,Fk Z x
theorem oO.up{As:List aW}(k:oO Z ov rv l R)(h:Holds Z As H):oO (gK H) ov rv l R:=
 ⟨k.obs.up h,k.roots.up h,fun x hx=>⟨(k.each x hx).1.up h,(k.each x hx).2.up h⟩⟩
def eP(ov rv:Value)(l:List Ob)(R:List Int)(H:bb):Prop:=Sl H dT ov l∧Sl H an rv R∧∀x∈l,Sl H an x.rv.v x.refs∧Sl H cq x.ev.v x.ents
theorem eP.kn(h:eP ov rv l R H):oO (gK H) ov rv l R:=⟨.of h.1,.of h.2.1,fun x hx=>⟨.of (h.2.2 x hx).1,.of (h.2.2 x hx).2⟩⟩
abbrev Ob.c(x:Ob):Int×Int×Int×List Int×List iF:=(x.id,x.size,x.weak,x.refs,x.ents)
def chk(last:Int):List Ob→Bool
 | []=>true
 | x::r=>!(decide (x.id≤last)||(decide (x.size<0)||(decide (x.weak<0)||decide (3<x.weak))))&&chk x.id r
theorem D4{r:List Ob}(h:chk last (x::r)=true):last<x.id∧0≤x.size∧0≤x.weak∧x.weak≤3∧chk x.id r=true:=by
 simp only[chk,Bool.and_eq_true,Bool.not_eq_true',Bool.or_eq_false_iff,decide_eq_false_iff_not]at h;obtain⟨⟨h1,h2,h3,h4⟩,h5⟩:=h;exact⟨by omega,by omega,by omega,by omega,h5⟩
theorem O3(h:chk last l=true):∀x∈l,last<x.id:=by
 induction l generalizing last with
 | nil=>simp
 | cons x r ih=>
  obtain⟨h1,_,_,_,h5⟩:=D4 h;intro y hy;rcases List.mem_cons.1 hy with rfl|hy
  .exact h1
  have:=ih h5 y hy;omega
theorem iH(h:chk last l=true):l.Pairwise (fun x y=>x.id<y.id):=by
 induction l generalizing last with
 | nil=>simp
 | cons x r ih=>
  obtain⟨h1,_,_,_,h5⟩:=D4 h;exact List.pairwise_cons.2 ⟨fun y hy=>O3 h5 y hy,ih h5⟩
theorem fB(hy:l[i]?=some y):chk last (l.drop i)=(!(decide (y.id≤last)||(decide (y.size<0)||(decide (y.weak<0)||decide (3<y.weak))))&&chk y.id (l.drop (i+1))):=by
 have h:l.drop i=y::l.drop (i+1):=by
  obtain⟨hi,e⟩:=List.getElem?_eq_some_iff.1 hy;rw[←e];exact List.drop_eq_getElem_cons hi
 rw[h];rfl
abbrev oK(l:List Ob):Prop:=l.Pairwise (fun x y=>x.id<y.id)
theorem BV(h:oK l)(hx:l[i]?=some x)(hy:l[j]?=some y)(L0:i<j):x.id<y.id:=by
 obtain⟨hi,e1⟩:=List.getElem?_eq_some_iff.1 hx;obtain⟨hj,e2⟩:=List.getElem?_eq_some_iff.1 hy;rw[←e1,←e2];exact List.pairwise_iff_getElem.1 h i j hi hj L0
theorem wT(h:oK l)(hx:l[i]?=some x)(hy:l[j]?=some y)(e:x.id=y.id):i=j:=by
 rcases Nat.lt_trichotomy i j with L0|rfl|L0
 .have:=BV h hx hy L0;omega
 .rfl
 have:=BV h hy hx L0;omega
def fnd(l:List Ob)(id:Int):Option Ob:=l.find? fun o=>decide (o.id=id)
theorem j2(h:fnd l id=some o):o.id=id∧o∈l:=by
 have h1:=List.find?_some h;exact⟨by simpa using h1,List.mem_of_find?_eq_some h⟩
theorem pR(h:fnd l id=none):∀o∈l,o.id≠id:=by
 intro o ho;have:=List.find?_eq_none.1 h o ho;simpa using this
theorem qJ(h:oK l)(ho:o∈l):fnd l o.id=some o:=by
 cases hf:fnd l o.id with
 | none=>exact absurd rfl (pR hf o ho)
 | some p=>
  obtain⟨h1,h2⟩:=j2 hf;obtain⟨i,hi⟩:=List.mem_iff_getElem?.1 ho;obtain⟨j,hj⟩:=List.mem_iff_getElem?.1 h2;have:=wT h hj hi h1;subst this;rw[hi]at hj;rw[hj]
abbrev Is(l:List Ob)(x:Int):Prop:=(fnd l x).isSome=true
theorem half(a b:Nat):Int.tdiv ((a:Int)+(b:Int)) 2=(((a+b) / 2:Nat):Int):=by
 rw[←Int.natCast_add,Int.tdiv_eq_ediv_of_nonneg om];omega
theorem Bx{A B:List α}{x y:α}(h:A.take i=B.take i)(hx:A[i]?=some x)(hy:B[i]?=some y)(e:x=y):A.take (i+1)=B.take (i+1):=by
 rw[List.take_add_one,List.take_add_one,h,hx,hy,e]
theorem Jl{A B:List α}{x y:α}(hx:A[i]?=some x)(hy:B[i]?=some y)(h:x≠y):A≠B:=by
 rintro rfl;rw[hx]at hy;exact h (Option.some.inj hy)
theorem Mw{A B:List α}(h:A.take i=B.take i)(h1:A.length≤i)(h2:B.length≤i):A=B:=by
 rwa [List.take_of_length_le h1,List.take_of_length_le h2]at h
structure GH(ks:List Int)(n:Int)(lo hi:Nat):Prop where
 le:lo≤hi
 top:hi≤ks.length
 below:∀(j:Nat) y,j<lo→ks[j]?=some y→y<n
 above:∀(j:Nat) y,hi≤j→ks[j]?=some y→n≤y
theorem acZ(ks:List Int)(n:Int):GH ks n 0 ks.length:=⟨Nat.zero_le _,Nat.le_refl _,fun j y h=>absurd h (Nat.not_lt_zero _),fun j y h hy=>by rw[List.getElem?_eq_none h]at hy;cases hy⟩
theorem GI(h:ks.Pairwise (· < ·)){x y:Int}(hx:ks[i]?=some x)(hy:ks[j]?=some y)(L0:i<j):x<y:=by
 obtain⟨hi,e1⟩:=List.getElem?_eq_some_iff.1 hx;obtain⟨hj,e2⟩:=List.getElem?_eq_some_iff.1 hy;rw[←e1,←e2];exact List.pairwise_iff_getElem.1 h i j hi hj L0
theorem GH.up(hs : ks.Pairwise (· < ·)){y:Int}(h : GH ks n lo hi)(hy : ks[md]? = some y)(hm : lo ≤ md ∧ md < hi)(nC : y < n) : GH ks n (md + 1) hi :=
  ⟨by omega, h.top, fun j z hj hz => by
    rcases Nat.lt_or_ge j md with h1 | h1
    · have := GI hs hz hy h1; omega
    · have : j = md := by omega
      subst this; rw [hy] at hz; cases hz; exact nC, h.above⟩
theorem GH.down(hs : ks.Pairwise (· < ·)){y:Int}(h : GH ks n lo hi)(hy : ks[md]? = some y)(hm : lo ≤ md ∧ md < hi)(WC : ¬ y < n) : GH ks n lo md :=
  ⟨hm.1, by have := h.top; omega, h.below, fun j z hj hz => by
    rcases Nat.lt_or_ge md j with h1 | h1
    · have := GI hs hy hz h1; omega
    · have : j = md := by omega
      subst this; rw [hy] at hz; cases hz; omega⟩
theorem GH.end_(hs:ks.Pairwise (· < ·))(h:GH ks n lo hi)(he:¬lo<hi):n∈ks↔ks[lo]?=some n:=by
 have hl:lo=hi:=by have:=h.le;omega
 subst hl;constructor
 .intro hm;obtain⟨j,hj⟩:=List.mem_iff_getElem?.1 hm;rcases Nat.lt_trichotomy j lo with h1|rfl|h1
  .have:=h.below j n h1 hj;omega
  .exact hj
  have Xl:j<ks.length:=(List.getElem?_eq_some_iff.1 hj).1;obtain⟨y,hy⟩:∃y,ks[lo]?=some y:=⟨_,List.getElem?_eq_getElem om⟩;have h2:=h.above lo y (Nat.le_refl _) hy;have h3:=GI hs hy hj h1;omega
 exact fun h=>List.mem_of_getElem? h
theorem GH.found(hs:ks.Pairwise (· < ·)){y:Int}(h:GH ks n lo hi)(he:¬lo<hi)(hy:ks[lo]?=some y):decide (y=n)=decide (n∈ks):=by
 rw[decide_eq_decide,h.end_ hs he,hy];exact⟨fun h=>by rw[h],fun h=>Option.some.inj h⟩
theorem GH.lost(hs:ks.Pairwise (· < ·))(h:GH ks n lo hi)(he:¬lo<hi)(hy:¬lo<ks.length):false=decide (n∈ks):=by
 refine (decide_eq_false fun hm=>?_).symm;rw[h.end_ hs he,List.getElem?_eq_none om]at hm;cases hm
theorem wU(h:oK l):(l.map Ob.id).Pairwise (· < ·):=by rw[List.pairwise_map];exact h
theorem oh(h:l[i]?=some y):(l.map Ob.id)[i]?=some y.id:=by rw[List.getElem?_map,h];rfl
def Wf(l:List Ob)(id:Int):Int:=match (l.map Ob.id).findIdx? (fun x=>decide (x=id)) with|some i=>(i:Int)|none => -1
theorem D5(h:oK l)(hy:l[i]?=some y):Wf l y.id=(i:Int):=by
 unfold Wf;cases hf:(l.map Ob.id).findIdx? (fun x=>decide (x=y.id)) with
 | none=>
  have:=List.findIdx?_eq_none_iff.1 hf y.id (List.mem_of_getElem? (oh hy));simp at this
 | some j=>
  obtain⟨hj,h1,_⟩:=List.findIdx?_eq_some_iff_getElem.1 hf;have h2:l[j]?=some (l[j]'(by simpa using hj)):=List.getElem?_eq_getElem _;have h3:(l[j]'(by simpa using hj)).id=y.id:=by simpa using h1
  have:=wT h h2 hy h3;subst this;rfl
theorem yr(h:id∉l.map Ob.id):Wf l id = -1:=by
 unfold Wf;have:(l.map Ob.id).findIdx? (fun x=>decide (x=id))=none:=List.findIdx?_eq_none_iff.2 fun x hx=>by
  simp;rintro rfl;exact h hx
 rw[this]
theorem j3(h:oK l)(id:Int):(fnd l id=none∧Wf l id = -1)∨∃i o,l[i]?=some o∧o.id=id∧fnd l id=some o∧Wf l id=((i:Nat):Int):=by
 cases hf:fnd l id with
 | none=>
  refine .inl ⟨rfl,yr fun hm=>?_⟩;obtain⟨o,ho,e⟩:=List.mem_map.1 hm;exact pR hf o ho e
 | some o=>
  obtain⟨h1,h2⟩:=j2 hf;obtain⟨i,hi⟩:=List.mem_iff_getElem?.1 h2;exact .inr ⟨i,o,hi,h1,rfl,by rw[←h1];exact D5 h hi⟩
def fa(b:Bool):Int:=if b then 0 else 2
theorem oj(hg:oO Z ov rv l R)(hs:oK l)(hl:l.length≤1000000)(id:Int):NF 99 #[.agg #[ov,rv],iw id] Z [] (iw (Wf l id)):=by
 refine bO Tryz.func99 45 (fun w0=>?_);refine gy ?_;refine bj #[ov,rv] (fun g1=>?_);refine go ?_;refine bl (fun H h=>((Acc.zn hg.obs) H h).form) (fun Hu=>?_);refine gy ?_;refine dB (fun _ h=>by obtain⟨_,_,e⟩:=Hu;subst e;kernel_rfl) ?_;refine go ?_;refine aD (ι:=Nat×Nat) (fun (lo,hi)=>GH (l.map Ob.id) id lo hi) (fun (lo,hi)=>[(1,iw id),(2,pB g1 0),(4,iw 0),(5,iw (lo:Int)),(6,iw (hi:Int))]) (fun (lo,hi)=>[aa g1 #[ov,rv] 57]) (fun (lo,hi)=>hi-lo) (0,l.length) (by have:=acZ (l.map Ob.id) id;rwa [List.length_map]at this) sA rA ?_;rintro⟨lo,hi⟩ gE;try dsimp only at gE⊢
 have ac0:=gE.top;rw[List.length_map]at ac0;refine gc ?_;refine b9 (fun p5=>?_) (fun iU=>?_)
 .refine gy ?_;obtain⟨md6,agw⟩:∃m:Nat,m=(lo+hi) / 2:=⟨_,rfl⟩;refine gl ?_ (t:=Lt.to (v':=iw (md6:Int)) (MT ((lo:Int)+(hi:Int)) 2 (by decide) (by rw[half];omega)) (by rw[half,←agw]));obtain⟨y8,oH⟩:∃y,l[md6]?=some y:=⟨_,List.getElem?_eq_getElem ol⟩;have Yv:=hg.each y8 (List.mem_of_getElem? oH);refine gy ?_;refine b9 (fun my=>?_) (fun fL=>?_)
  .refine gy ?_;exact xr (md6+1,hi) (gE.up (wU hs) (oh oH) om my)
  refine go ?_;exact xr (lo,md6) (gE.down (wU hs) (oh oH) om fL)
 refine gy ?_;refine eF 34 (fun so=>?_) (fun zA=>?_)
 .refine gy ?_;obtain⟨Ik,pS⟩:∃y,l[lo]?=some y:=⟨_,List.getElem?_eq_getElem ol⟩;have agx:=hg.each Ik (List.mem_of_getElem? pS);refine gy ?_;refine b9 (fun oQ=>?_) (fun nQ=>?_)
  .refine go ?_;refine ad [iw (lo:Int)] [] (SI.tmp 4 SI.nil) rA ⟨cI ?_,rfl⟩;rw[←oQ];exact (D5 hs pS).symm
  refine go ?_;refine ad [iw (-1)] [] (SI.tmp 4 SI.nil) rA ⟨cI ?_,rfl⟩;refine (yr fun hm=>?_).symm;have hx:=gE.found (wU hs) om (oh pS);rw[decide_eq_true hm]at hx;exact nQ (dY hx)
 refine go ?_;refine ad [iw (-1)] [] (SI.tmp 4 SI.nil) rA ⟨cI ?_,rfl⟩;refine (yr fun hm=>?_).symm;have hx:=gE.lost (wU hs) om (by rw[List.length_map];omega);rw[decide_eq_true hm]at hx;cases hx
theorem tE(hg:oO Z ov rv l R):NF 122 #[.agg #[ov,rv]] Z [] (iw (fa (chk 0 l))):=by
 refine bO Tryz.func122 51 (fun w0=>?_);refine bk (fun H h=>(hg.obs.get h).len_le) (fun lA=>?_);refine gy ?_;refine bj #[ov,rv] (fun g1=>?_);refine go ?_;refine aD (ι:=Int×Nat) (fun (last,i)=>i≤l.length∧chk 0 l=chk last (l.drop i)∧0≤last∧last=(if i=0 then 0 else ((l.map Ob.id)[i-1]?).getD 0)) (fun (last,i)=>[(1,pB g1 0),(2,iw 0),(3,iw (i:Int))]) (fun (last,i)=>[aa g1 #[ov,rv] 57]) (fun (last,i)=>l.length-i) (0,0) ⟨Nat.zero_le _,rfl,Int.le_refl _,rfl⟩ sA rA ?_;rintro⟨last,i⟩ cg;try dsimp only at cg⊢
 obtain⟨zy,tF,hj3,hj4⟩:=id cg;refine gy ?_;refine b9 (fun p4=>?_) (fun VK=>?_)
 .refine gy ?_;obtain⟨y5,kJ⟩:∃y,l[i]?=some y:=⟨_,List.getElem?_eq_getElem ol⟩;have YV:=hg.each y5 (List.mem_of_getElem? kJ);refine gy ?_;refine ae (.agg #[iw 0,iw 0,iw 0,nS,nS]) #[iw 0,iw 0,iw 0,nS,nS] (fun g8=>?_);refine gc ?_;refine eF 20 (fun gQ=>?_) (fun im=>?_)
  .refine go ?_;refine ad [iw 2] [] (SI.tmp 2 SI.nil) rA ⟨cI ?_,rfl⟩;rw[cg.2.1,fB kJ];first|(rw[decide_eq_true (p:=y5.id≤last) (by have:=cg.2.2;first|omega|(rw[cg.2.2.2];rw[if_pos om];omega))];rfl)|(simp only[fa];rw[if_neg];simp only[Bool.and_eq_true,Bool.not_eq_true',Bool.or_eq_false_iff,decide_eq_false_iff_not];omega)
  refine gc ?_;refine eF 23 (fun fL=>?_) (fun Dt=>?_)
  .refine go ?_;refine sL (fX (i:Int) 1 ol) ?_;refine sL (aF bt Tryz.underlying55 (.zn hg.obs) ((i:Int)-1) (i-1) om ol om) ?_;refine go ?_;obtain⟨aP,ji⟩:∃y,l[(i-1)]?=some y:=⟨_,List.getElem?_eq_getElem ol⟩;have J8:=hg.each aP (List.mem_of_getElem? ji);have hq:last=aP.id:=by rw[hj4,if_neg om,oh ji];rfl
   refine gy ?_;refine eF 36 (fun jW=>?_) (fun lp=>?_)
   .refine go ?_;refine ad [iw 2] [] (SI.tmp 2 SI.nil) rA ⟨cI ?_,rfl⟩;rw[cg.2.1,fB kJ];first|(rw[decide_eq_true (p:=y5.id≤last) (by have:=cg.2.2;first|omega|(rw[cg.2.2.2];rw[if_pos om];omega))];rfl)|(simp only[fa];rw[if_neg];simp only[Bool.and_eq_true,Bool.not_eq_true',Bool.or_eq_false_iff,decide_eq_false_iff_not];omega)
   refine gc ?_;refine eF 41 (fun oQ=>?_) (fun nQ=>?_)
   .refine go ?_;refine ad [iw 2] [] (SI.tmp 2 SI.nil) rA ⟨cI ?_,rfl⟩;rw[cg.2.1,fB kJ];first|(rw[decide_eq_true (p:=y5.id≤last) (by have:=cg.2.2;first|omega|(rw[cg.2.2.2];rw[if_pos om];omega))];rfl)|(simp only[fa];rw[if_neg];simp only[Bool.and_eq_true,Bool.not_eq_true',Bool.or_eq_false_iff,decide_eq_false_iff_not];omega)
   refine gc ?_;refine eF 46 (fun kU=>?_) (fun mE=>?_)
   .refine go ?_;refine ad [iw 2] [] (SI.tmp 2 SI.nil) rA ⟨cI ?_,rfl⟩;rw[cg.2.1,fB kJ];first|(rw[decide_eq_true (p:=y5.id≤last) (by have:=cg.2.2;first|omega|(rw[cg.2.2.2];rw[if_pos om];omega))];rfl)|(simp only[fa];rw[if_neg];simp only[Bool.and_eq_true,Bool.not_eq_true',Bool.or_eq_false_iff,decide_eq_false_iff_not];omega)
   refine gc ?_;refine b9 (fun LK=>?_) (fun pD=>?_)
   .refine go ?_;refine ad [iw 2] [] (SI.tmp 2 SI.nil) rA ⟨cI ?_,rfl⟩;rw[cg.2.1,fB kJ];first|(rw[decide_eq_true (p:=y5.id≤last) (by have:=cg.2.2;first|omega|(rw[cg.2.2.2];rw[if_pos om];omega))];rfl)|(simp only[fa];rw[if_neg];simp only[Bool.and_eq_true,Bool.not_eq_true',Bool.or_eq_false_iff,decide_eq_false_iff_not];omega)
   refine gy ?_;exact xr (y5.id,i+1) (by obtain⟨cQ,cg,gE,fA⟩:=cg;have hd:=fB (last:=last) kJ;refine⟨by omega,?_,by omega,by show y5.id=if i+1=0 then 0 else ((l.map Ob.id)[i+1-1]?).getD 0;rw[if_neg om,Nat.add_sub_cancel,oh kJ];rfl⟩;rw[cg,hd,decide_eq_false om,decide_eq_false om,decide_eq_false om,decide_eq_false om];rfl)
  refine gc ?_;refine eF 41 (fun vA=>?_) (fun uI=>?_)
  .refine go ?_;refine ad [iw 2] [] (SI.tmp 2 SI.nil) rA ⟨cI ?_,rfl⟩;rw[cg.2.1,fB kJ];first|(rw[decide_eq_true (p:=y5.id≤last) (by have:=cg.2.2;first|omega|(rw[cg.2.2.2];rw[if_pos om];omega))];rfl)|(simp only[fa];rw[if_neg];simp only[Bool.and_eq_true,Bool.not_eq_true',Bool.or_eq_false_iff,decide_eq_false_iff_not];omega)
  refine gc ?_;refine eF 46 (fun kt=>?_) (fun Ay=>?_)
  .refine go ?_;refine ad [iw 2] [] (SI.tmp 2 SI.nil) rA ⟨cI ?_,rfl⟩;rw[cg.2.1,fB kJ];first|(rw[decide_eq_true (p:=y5.id≤last) (by have:=cg.2.2;first|omega|(rw[cg.2.2.2];rw[if_pos om];omega))];rfl)|(simp only[fa];rw[if_neg];simp only[Bool.and_eq_true,Bool.not_eq_true',Bool.or_eq_false_iff,decide_eq_false_iff_not];omega)
  refine gc ?_;refine b9 (fun zB=>?_) (fun mD=>?_)
  .refine go ?_;refine ad [iw 2] [] (SI.tmp 2 SI.nil) rA ⟨cI ?_,rfl⟩;rw[cg.2.1,fB kJ];first|(rw[decide_eq_true (p:=y5.id≤last) (by have:=cg.2.2;first|omega|(rw[cg.2.2.2];rw[if_pos om];omega))];rfl)|(simp only[fa];rw[if_neg];simp only[Bool.and_eq_true,Bool.not_eq_true',Bool.or_eq_false_iff,decide_eq_false_iff_not];omega)
  refine gy ?_;exact xr (y5.id,i+1) (by obtain⟨cQ,cg,gE,fA⟩:=cg;have hd:=fB (last:=last) kJ;refine⟨by omega,?_,by omega,by show y5.id=if i+1=0 then 0 else ((l.map Ob.id)[i+1-1]?).getD 0;rw[if_neg om,Nat.add_sub_cancel,oh kJ];rfl⟩;rw[cg,hd,decide_eq_false om,decide_eq_false om,decide_eq_false om,decide_eq_false om];rfl)
 refine go ?_;refine ad [iw 0] [] (SI.tmp 2 SI.nil) rA ⟨cI ?_,rfl⟩;rw[cg.2.1,List.drop_of_length_le om];rfl
end
end Go.Proofs.YtmhpcebiamkciaaGreat
