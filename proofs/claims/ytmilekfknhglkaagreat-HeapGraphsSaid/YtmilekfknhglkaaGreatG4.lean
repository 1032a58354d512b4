/-
  maps.Keys, slices.Sorted and slices.Sort at this program, by the library's contracts. Each law says its conditions.
-/
import Derived.Shelf.SlIterI.Nil
import Derived.Shelf.SortM.Plain
import Derived.Shelf.SortM.SortNone
import Derived.Ground.GgzProg
import Derived.Ground.SlgmProg
import Derived.Test.YtmilekfknhglkaaGreatG3
section
set_option linter.unusedVariables false
namespace Go.Proofs
open Go.Shelf
def Tryz.keysA_ren:Go.Shelf.Ren:=⟨fun|7=>69|10=>105|n=>n,fun|23=>61|26=>3|3=>87|28=>100|0=>0|27=>99|33=>82|4=>4|n=>n,fun|n=>n⟩
theorem Tryz.keysA : Go.Proofs.SlLaysZI.n7 Tryz.prog Tryz.keysA_ren := {
  mixed := by kernel_rfl
  f7 := ⟨Tryz.f69.name, by decide, Tryz.func69.trans (congrArg some (by kernel_rfl))⟩
  f10 := ⟨Tryz.f105.name, by decide, Tryz.func105.trans (congrArg some (by kernel_rfl))⟩
  t0 := Tryz.underlying0
  a0 := Tryz.isAgg0
  z0 := Tryz.sizeOf0
  v0 := Tryz.zeroValue0
  t4 := Tryz.underlying4
  a4 := Tryz.isAgg4
  z4 := Tryz.sizeOf4
  v4 := Tryz.zeroValue4
  t23 := Tryz.underlying61
  a23 := Tryz.isAgg61
  z23 := Tryz.sizeOf61
  v23 := Tryz.zeroValue61
  t26 := Tryz.underlying3
  a26 := Tryz.isAgg3
  z26 := Tryz.sizeOf3
  v26 := Tryz.zeroValue3
  t27 := Tryz.underlying99
  a27 := Tryz.isAgg99
  z27 := Tryz.sizeOf99
  v27 := Tryz.zeroValue99
  t28 := Tryz.underlying100
  a28 := Tryz.isAgg100
  z28 := Tryz.sizeOf100
  v28 := Tryz.zeroValue100
  t33 := Tryz.underlying82
  a33 := Tryz.isAgg82
  z33 := Tryz.sizeOf82
  v33 := Tryz.zeroValue82 }
def Tryz.sortedA_ren:Go.Shelf.Ren:=⟨fun|6=>68|8=>104|9=>61|11=>139|13=>99|12=>98|23=>135|24=>136|14=>126|15=>127|16=>128|17=>129|18=>130|19=>131|20=>132|21=>133|22=>134|25=>150|26=>151|27=>152|28=>153|29=>154|30=>155|31=>156|n=>n,fun|26=>3|28=>100|24=>42|0=>0|3=>3|37=>119|48=>141|50=>143|4=>4|40=>134|39=>133|45=>77|5=>5|9=>9|51=>160|55=>164|57=>166|58=>167|33=>82|n=>n,fun|n=>n⟩
theorem Tryz.sortedA : Go.Proofs.SlLaysZI.n6 Tryz.prog Tryz.sortedA_ren := {
  mixed := by kernel_rfl
  f6 := ⟨Tryz.f68.name, by decide, Tryz.func68.trans (congrArg some (by kernel_rfl))⟩
  f8 := ⟨Tryz.f104.name, by decide, Tryz.func104.trans (congrArg some (by kernel_rfl))⟩
  f11 := ⟨Tryz.f139.name, by decide, Tryz.func139.trans (congrArg some (by kernel_rfl))⟩
  t0 := Tryz.underlying0
  a0 := Tryz.isAgg0
  z0 := Tryz.sizeOf0
  v0 := Tryz.zeroValue0
  t24 := Tryz.underlying42
  a24 := Tryz.isAgg42
  z24 := Tryz.sizeOf42
  v24 := Tryz.zeroValue42
  t26 := Tryz.underlying3
  a26 := Tryz.isAgg3
  z26 := Tryz.sizeOf3
  v26 := Tryz.zeroValue3
  t28 := Tryz.underlying100
  a28 := Tryz.isAgg100
  z28 := Tryz.sizeOf100
  v28 := Tryz.zeroValue100
  i26 := by kernel_rfl }
def Tryz.sortA_ren:Go.Shelf.Ren:=⟨fun|5=>61|8=>99|7=>98|19=>135|20=>136|10=>126|11=>127|12=>128|13=>129|14=>130|15=>131|16=>132|17=>133|18=>134|30=>150|31=>151|32=>152|33=>153|34=>154|35=>155|40=>156|n=>n,fun|23=>42|25=>3|3=>3|32=>119|22=>42|0=>0|44=>141|46=>143|4=>4|36=>134|35=>133|41=>77|5=>5|9=>9|53=>160|57=>164|63=>166|64=>167|n=>n,fun|n=>n⟩
theorem Tryz.sortA : Go.Proofs.SlLaysM.n5 Tryz.prog Tryz.sortA_ren := {
  mixed := by kernel_rfl
  f5 := ⟨Tryz.f61.name, by decide, Tryz.func61.trans (congrArg some (by kernel_rfl))⟩
  f7 := ⟨Tryz.f98.name, by decide, Tryz.func98.trans (congrArg some (by kernel_rfl))⟩
  f8 := Tryz.func99.trans (congrArg some (by kernel_rfl))
  f10 := ⟨Tryz.f126.name, by decide, Tryz.func126.trans (congrArg some (by kernel_rfl))⟩
  f11 := ⟨Tryz.f127.name, by decide, Tryz.func127.trans (congrArg some (by kernel_rfl))⟩
  f12 := ⟨Tryz.f128.name, by decide, Tryz.func128.trans (congrArg some (by kernel_rfl))⟩
  f13 := ⟨Tryz.f129.name, by decide, Tryz.func129.trans (congrArg some (by kernel_rfl))⟩
  f14 := ⟨Tryz.f130.name, by decide, Tryz.func130.trans (congrArg some (by kernel_rfl))⟩
  f15 := ⟨Tryz.f131.name, by decide, Tryz.func131.trans (congrArg some (by kernel_rfl))⟩
  f16 := ⟨Tryz.f132.name, by decide, Tryz.func132.trans (congrArg some (by kernel_rfl))⟩
  f17 := ⟨Tryz.f133.name, by decide, Tryz.func133.trans (congrArg some (by kernel_rfl))⟩
  f18 := ⟨Tryz.f134.name, by decide, Tryz.func134.trans (congrArg some (by kernel_rfl))⟩
  f19 := Tryz.func135.trans (congrArg some (by kernel_rfl))
  f20 := Tryz.func136.trans (congrArg some (by kernel_rfl))
  f30 := ⟨Tryz.f150.name, by decide, Tryz.func150.trans (congrArg some (by kernel_rfl))⟩
  f31 := Tryz.func151.trans (congrArg some (by kernel_rfl))
  f32 := Tryz.func152.trans (congrArg some (by kernel_rfl))
  f33 := ⟨Tryz.f153.name, by decide, Tryz.func153.trans (congrArg some (by kernel_rfl))⟩
  f34 := ⟨Tryz.f154.name, by decide, Tryz.func154.trans (congrArg some (by kernel_rfl))⟩
  f35 := ⟨Tryz.f155.name, by decide, Tryz.func155.trans (congrArg some (by kernel_rfl))⟩
  f40 := ⟨Tryz.f156.name, by decide, Tryz.func156.trans (congrArg some (by kernel_rfl))⟩
  t0 := Tryz.underlying0
  a0 := Tryz.isAgg0
  z0 := Tryz.sizeOf0
  v0 := Tryz.zeroValue0
  t3 := Tryz.underlying3
  a3 := Tryz.isAgg3
  z3 := Tryz.sizeOf3
  v3 := Tryz.zeroValue3
  t4 := Tryz.underlying4
  a4 := Tryz.isAgg4
  z4 := Tryz.sizeOf4
  v4 := Tryz.zeroValue4
  t5 := Tryz.underlying5
  a5 := Tryz.isAgg5
  z5 := Tryz.sizeOf5
  v5 := Tryz.zeroValue5
  t9 := Tryz.underlying9
  a9 := Tryz.isAgg9
  z9 := Tryz.sizeOf9
  v9 := Tryz.zeroValue9
  t22 := Tryz.underlying42
  a22 := Tryz.isAgg42
  z22 := Tryz.sizeOf42
  v22 := Tryz.zeroValue42
  t23 := Tryz.underlying42
  a23 := Tryz.isAgg42
  z23 := Tryz.sizeOf42
  v23 := Tryz.zeroValue42
  t25 := Tryz.underlying3
  a25 := Tryz.isAgg3
  z25 := Tryz.sizeOf3
  v25 := Tryz.zeroValue3
  t32 := Tryz.underlying119
  a32 := Tryz.isAgg119
  z32 := Tryz.sizeOf119
  v32 := Tryz.zeroValue119
  t35 := Tryz.underlying133
  a35 := Tryz.isAgg133
  z35 := Tryz.sizeOf133
  v35 := Tryz.zeroValue133
  t36 := Tryz.underlying134
  a36 := Tryz.isAgg134
  z36 := Tryz.sizeOf134
  v36 := Tryz.zeroValue134
  t41 := Tryz.underlying77
  a41 := Tryz.isAgg77
  z41 := Tryz.sizeOf77
  v41 := Tryz.zeroValue77
  t44 := Tryz.underlying141
  a44 := Tryz.isAgg141
  z44 := Tryz.sizeOf141
  v44 := Tryz.zeroValue141
  t46 := Tryz.underlying143
  a46 := Tryz.isAgg143
  z46 := Tryz.sizeOf143
  v46 := Tryz.zeroValue143
  t53 := Tryz.underlying160
  a53 := Tryz.isAgg160
  z53 := Tryz.sizeOf160
  v53 := Tryz.zeroValue160
  t57 := Tryz.underlying164
  a57 := Tryz.isAgg164
  z57 := Tryz.sizeOf164
  v57 := Tryz.zeroValue164
  t63 := Tryz.underlying166
  a63 := Tryz.isAgg166
  z63 := Tryz.sizeOf166
  v63 := Tryz.zeroValue166
  t64 := Tryz.underlying167
  a64 := Tryz.isAgg167
  z64 := Tryz.sizeOf167
  v64 := Tryz.zeroValue167 }
open Go.RowKit Go.Maps Go.Sort in
theorem Tryz.sortsA (m : Nat) : AnyZI.SortsIn Tryz.prog Tryz.sortedA_ren Fence.wide m :=
  ⟨fun blk off cap ss W hH hblk hsz => callsIn_wide.2 (AnyM.slices_Sort_int Tryz.sortA blk off cap ss W hH hblk hsz),
   fun p cap W => callsIn_wide.2 (AnyM.slices_Sort_int_none Tryz.sortA p cap W)⟩
namespace YtmilekfknhglkaaGreat
open Go.Hp Go.J Go.S Go.RowKit Go.Maps Go.Sort
open Go.Mem (aget aset adel)
theorem keys_s{Z:Zone}(mb:Nat):SF Tryz.prog 69 #[.map (some mb)] Z [] fun r Bs=>∃g,r=.func (.func 105) #[] #[.pointer (some ⟨g,0,none⟩)]∧Bs=[blkA g #[.map (some mb)] 61]:=fun H hH w hw=>
 ((callsIn_wide (n:=5)).1 (AnyZI.keys_in Tryz.keysA Fence.wide 5 trivial rfl (some mb) w)).mono fun e w' ⟨he,hw'⟩=>by
  subst hw';refine⟨_,he,⟨rfl,rfl,rfl,rfl⟩,_,⟨w.heap.size,rfl,rfl⟩,?_⟩;have hc:=Chg.of_mem ((Mem.Chg.refl (fun _=>False) w).alloc (.cells #[.map (some mb)] 61));rw[hw]at hc;exact hH.new hc (S':=fun k=>k=w.heap.size) ⟨heap_alloc_new w _,fun k=>Iff.rfl⟩ fun k hk=>by rw[hk,hw];exact Nat.le_refl _
theorem sorted_s {Z : Zone} {F : List Asr} {g b : Nat} {ps : List (Int × (Nat × Nat))} (hw : ∀ p ∈ ps, (Lit.int .i64 p.1).wf = true) (hl : ps.length ≤ 1000000) : SF Tryz.prog 68 #[.func (.func 105) #[] #[.pointer (some ⟨g, 0, none⟩)]] Z (blkA g #[.map (some b)] 61 :: mpA iK oV b ps :: F) fun v Bs => Bs = own iTy v (srt (ps.map Prod.fst)) :: mpA iK oV b ps :: F :=
  sf_sorted Tryz.underlying3 hw hl fun nn D0 w hg hc ho h1 h2 => (callsIn_wide (n := 5)).1 (by
    have hseq : SeqGives Fence.wide 2 Tryz.prog 105 #[.pointer (some ⟨g, 0, none⟩)] encZ (fun ss => ss.Perm (intKeys D0)) (Maps.size D0) w :=
      AnyZI.keys_gives (ρ := Tryz.keysA_ren) { Tryz.keysA with } Fence.wide _ trivial rfl om g b nn D0 w hg hc ho
    exact AnyZI.sorted_in Tryz.sortedA Fence.wide 5 trivial trivial trivial trivial rfl om (Tryz.sortsA _) (enters_of Tryz.func61 (by kernel_rfl) rfl) 105 #[.pointer (some ⟨g, 0, none⟩)] trivial (enters_of Tryz.func105 (by kernel_rfl) rfl) _ _ h1 h2 _ hseq)
theorem sort_s{Z:Zone}{F:List Asr}{v:Value}{L:List Int}(hl:L.length<4611686018427387904):SF Tryz.prog 61 #[v] Z (own iTy v L::F) fun r Bs=>r=.tuple #[]∧Bs=own iTy v (srt L)::F:=
 sf_sort hl (fun b off cap zs w h1 h2 h3=>AnyM.slices_Sort_int Tryz.sortA b off cap zs w h1 h2 h3) (fun p cap w=>AnyM.slices_Sort_int_none Tryz.sortA p cap w)
end YtmilekfknhglkaaGreat
end Go.Proofs
end
section
set_option linter.unusedSimpArgs false
set_option linter.unusedVariables false
set_option maxRecDepth 100000
set_option maxHeartbeats 2000000
namespace Go.Proofs.YtmilekfknhglkaaGreat
open Go.Hp Go.J Go.S
open Go.Mem (Ty KTy blk elemAt pre suf blk_pre blk_suf aget aset strK aggDesc)
open Go.Mem (adel apos aget_aset aget_adel)
structure Ent where
 key:Int
 val:Int
 deriving DecidableEq
abbrev Ent.v(x:Ent):Value:=.agg #[iw x.key,iw x.val]
def EntT:Ty Ent:=⟨97,2,16,true,Ent.v,⟨0,0⟩⟩
theorem EntT_ok:EntT.Ok Tryz.prog:=ok_of EntT _ Tryz.t97 (by decide) (fun _=>rfl) (fun x u hu=>by simp[Ty.enc,EntT,Value.cells]at hu;rcases hu with rfl|rfl<;>rfl) (fun _=>rfl) Tryz.underlying97 rfl (fun h=>by cases h) (by kernel_rfl) (by kernel_rfl) (by kernel_rfl) (by kernel_rfl)
theorem eqEntT(x y:Ent)(w:World):(binOp .eql 97 x.v y.v).run Tryz.prog w=.ok (.bool (decide (x=y))) w∧(binOp .neq 97 x.v y.v).run Tryz.prog w=.ok (.bool (!decide (x=y))) w:=by
 have h:=J.run_eqS (P:=Tryz.prog) (t:=97) [0,0] (by kernel_rfl) (by kernel_rfl) #[iw x.key,iw x.val] #[iw y.key,iw y.val] rfl rfl w;have e:J.cellsEq [iw x.key,iw x.val] [iw y.key,iw y.val]=decide (x=y):=by
  cases x;cases y;rw[Bool.eq_iff_iff];simp[J.cellsEq,J.cellEq]
 rw[e]at h;exact h
def entL(l:List (Vl×Vl)):List Ent:=(l.map fun p=>(⟨idn p.1,idn p.2⟩:Ent)).filter fun e=>decide (e≠⟨0,0⟩)
def entsOf(T:Tb):List Ent:=entL (tents T)
theorem entL_step(l:List (Vl×Vl))(p:Vl×Vl):entL (l++[p])=if (⟨idn p.1,idn p.2⟩:Ent)≠⟨0,0⟩ then entL l++[⟨idn p.1,idn p.2⟩] else entL l:=by
 unfold entL;rw[List.map_append,List.filter_append,List.map_cons,List.map_nil];by_cases h:(⟨idn p.1,idn p.2⟩:Ent)≠⟨0,0⟩
 .rw [if_pos h];congr 1;simp only[List.filter_cons,List.filter_nil];rw[if_pos (decide_eq_true h)]
 rw[if_neg h];simp only[List.filter_cons,List.filter_nil];rw[if_neg (fun hc=>h (dY hc)),List.append_nil]
theorem entL_len(l:List (Vl×Vl)):(entL l).length≤l.length:=by
 unfold entL;refine Nat.le_trans (List.length_filter_le _ _) ?_;rw[List.length_map];exact Nat.le_refl _
def hrefs(st:Hst)(id:Int):List Int:=match st.get id with
 | some o=>refsOf o
 | none=>[]
def hents(st:Hst)(id:Int):List Ent:=match st.get id with
 | some o=>if o.kind=4 then entsOf o.tab else []
 | none=>[]
def hoId(st:Hst)(id:Int):Int:=if halive st id=true then id else 0
def hoSz(st:Hst)(id:Int):Int:=match st.get id with
 | some o=>obSize o
 | none=>0
def hoWk(st:Hst)(id weak:Int):Int:=match st.get id with
 | some o=>hweak o weak
 | none=>0
theorem obj_none{st:Hst}{id:Int}(h:st.get id=none)(weak:Int):halive st id=false∧hoId st id=0∧hoSz st id=0∧hoWk st id weak=0∧hrefs st id=[]∧hents st id=[]:=by
 have h1:halive st id=false:=by unfold halive;rw[h];rfl
 refine⟨h1,?_,?_,?_,?_,?_⟩
 .unfold hoId;rw[h1];rfl
 all_goals first|(unfold hoSz;rw[h])|(unfold hoWk;rw[h])|(unfold hrefs;rw[h])|(unfold hents;rw[h])
theorem obj_some{st:Hst}{id:Int}{o:Hob}(h:st.get id=some o)(weak:Int):halive st id=true∧hoId st id=id∧hoSz st id=obSize o∧hoWk st id weak=hweak o weak∧hrefs st id=refsOf o∧hents st id=if o.kind=4 then entsOf o.tab else []:=by
 have h1:halive st id=true:=by unfold halive;rw[h];rfl
 refine⟨h1,?_,?_,?_,?_,?_⟩
 .unfold hoId;rw[h1];rfl
 all_goals first|(unfold hoSz;rw[h])|(unfold hoWk;rw[h])|(unfold hrefs;rw[h])|(unfold hents;rw[h])
section
variable{Z:Zone}{F:List Asr}{H:Heap}{b:Nat}{st:Hst}{ps:List (Int×(Nat×Nat))}{id:Int}{q:Nat×Nat}{o:Hob}
theorem all_take(hq:aget ps id=some q)(ho:st.get id=some o)(h:Holds Z (allP ps st::F) H):Holds Z (obP q o::holeP ps st id::F) H:=by
 obtain⟨v,_,h⟩:=all_focus hq ho h;exact ob_shut h
theorem all_back(hnd:(ps.map Prod.fst).Nodup)(hq:aget ps id=some q)(ho:st.get id=some o)(h:Holds Z (obP q o::holeP ps st id::F) H):Holds Z (allP ps st::F) H:=by
 have:=all_unfocus hnd hq ho h;rwa [put_same ho]at this
theorem keys_wf(ha:HA ps st)(hl:st.objs.length≤1000000):∀p∈ps,(Lit.int .i64 p.1).wf=true:=fun p hp=>by
 have h1:halive st p.1=true:=(mem_keys ha).1 (List.mem_map.2 ⟨p,hp,rfl⟩);obtain⟨o,ho⟩:=halive_iff.1 h1;obtain⟨_,h2,h3,_⟩:=get_mem ho;have e1:IntKind.i64.min = -9223372036854775808:=by rfl
 have e2:IntKind.i64.max=9223372036854775807:=by rfl
 simp only[Lit.wf,Bool.and_eq_true,decide_eq_true_eq,e1,e2];omega
theorem aget_mem{m:List (Int×(Nat×Nat))}{k:Int}{u:Nat×Nat}(hn:(m.map Prod.fst).Nodup)(h:(k,u)∈m):aget m k=some u:=by
 induction m with
 | nil=>cases h
 | cons a r ih=>
  rw[List.map_cons,List.nodup_cons]at hn;unfold aget;rcases List.mem_cons.1 h with rfl|h
  .simp
  have hne:a.1≠k:=fun e=>hn.1 (List.mem_map.2 ⟨_,h,e.symm⟩)
  have:=ih hn.2 h;simp[hne,this]
theorem nodup_sub:∀(A B:List Int),A.Nodup→(∀x∈A,x∈B)→A.length≤B.length
 | [],B,_,_=>Nat.zero_le _
 | a::r,B,hn,h=>by
  rw[List.nodup_cons]at hn;have ha:=h a (by simp);have h1:=nodup_sub r (B.erase a) hn.2 fun x hx=>(List.mem_erase_of_ne (fun e=>hn.1 (by rw[←e];exact hx))).2 (h x (List.mem_cons_of_mem _ hx))
  rw[List.length_erase_of_mem ha]at h1;have:=List.length_pos_of_mem ha;simp only[List.length_cons];omega
theorem fl_len{dn:List (Int×Bool)}(hn:(dn.map Prod.fst).Nodup):((dn.map Prod.fst).filter fun id=>(aget ps id).isSome).length≤ps.length:=by
 have e0:(ps.map Prod.fst).length=ps.length:=by simp
 rw[←e0];refine nodup_sub _ _ (hn.filter _) fun x hx=>?_
 have h1:=(List.mem_filter.1 hx).2;apply Decidable.byContradiction;intro hc;rw[(Go.Mem.aget_none_iff ps x).2 hc]at h1;cases h1
theorem nodup_snoc{dn:List (Int×Bool)}{k:Int}{u:Bool}(hn:(dn.map Prod.fst).Nodup)(hk:k∉dn.map Prod.fst):((dn++[(k,u)]).map Prod.fst).Nodup:=by
 rw[List.map_append,List.nodup_append];refine⟨hn,by simp,fun a ha b hb=>?_⟩;simp at hb;subst hb;exact fun e=>hk (e▸ha)
end
theorem ident_s{Z:Zone}(v:Vl):SF Tryz.prog 63 #[v.v] Z [] fun r Bs=>r=iw (idn v)∧Bs=[]:=by
 refine sf_enter Tryz.func63 12 [(0,.agg (vc v))] (fun w0=>?_);refine k_sr<|s_box (vc v) (fun g1=>?_)
 refine sP (iw 0)<|s_nt<|k_seq<|k_sr<|sP (pB g1 0)<|sL (t_load 0 (iw v.kind))<|s_nt<|k_block<|k_seq<|k_sr<|sL t_cmp<|sP (.bool (decide (v.kind=4)))<|s_nt<|k_cond (decide (v.kind=4)) (fun c2=>?_) (fun c2=>?_)
 .have p3:=dY c2;refine k_st<|k_true (hv:=cB c2)<|k_sr<|sP (pB g1 4)<|sL (t_load 0 (iw v.ref))<|sP (iw v.ref)<|s_nt<|k_ret<|xs_retBlock<|xs_ret ?_
  have hp:idn v=v.ref:=by unfold idn isRef;rw[if_pos (by simp only[Bool.or_eq_true,decide_eq_true_eq];omega)]
  exact xs_fin [iw v.ref] [] (SI.tmp 2 SI.nil) (rr [] [0]) ⟨by rw[hp];rfl,rfl⟩
 have p4:=dF c2;refine k_sr<|sL t_cmp<|sP (.bool (decide (v.kind=5)))<|s_nt<|k_cond (decide (v.kind=5)) (fun c5=>?_) (fun c5=>?_)
 .have p6:=dY c5;refine k_st<|k_true (hv:=cB c5)<|k_sr<|sP (pB g1 4)<|sL (t_load 0 (iw v.ref))<|sP (iw v.ref)<|s_nt<|k_ret<|xs_retBlock<|xs_ret ?_
  have hp:idn v=v.ref:=by unfold idn isRef;rw[if_pos (by simp only[Bool.or_eq_true,decide_eq_true_eq];omega)]
  exact xs_fin [iw v.ref] [] (SI.tmp 2 SI.nil) (rr [] [0]) ⟨by rw[hp];rfl,rfl⟩
 have p7:=dF c5;refine k_sr<|sL t_cmp<|sP (.bool (decide (v.kind=7)))<|s_nt<|k_cond (decide (v.kind=7)) (fun c8=>?_) (fun c8=>?_)
 .have p9:=dY c8;refine k_st<|k_true (hv:=cB c8)<|k_sr<|sP (pB g1 4)<|sL (t_load 0 (iw v.ref))<|sP (iw v.ref)<|s_nt<|k_ret<|xs_retBlock<|xs_ret ?_
  have hp:idn v=v.ref:=by unfold idn isRef;rw[if_pos (by simp only[Bool.or_eq_true,decide_eq_true_eq];omega)]
  exact xs_fin [iw v.ref] [] (SI.tmp 2 SI.nil) (rr [] [0]) ⟨by rw[hp];rfl,rfl⟩
 have p10:=dF c8;refine k_reg<|sL t_cmp<|sP (.bool (decide (v.kind=8)))<|s_nt<|k_cond (decide (v.kind=8)) (fun c11=>?_) (fun c11=>?_)
 .have p12:=dY c11;refine k_sr<|sP (pB g1 4)<|sL (t_load 0 (iw v.ref))<|sP (iw v.ref)<|s_nt<|k_ret<|xs_retBlock<|xs_ret ?_
  have hp:idn v=v.ref:=by unfold idn isRef;rw[if_pos (by simp only[Bool.or_eq_true,decide_eq_true_eq];omega)]
  exact xs_fin [iw v.ref] [] (SI.tmp 2 SI.nil) (rr [] [0]) ⟨by rw[hp];rfl,rfl⟩
 have p13:=dF c11;refine k_skip<|xs_block<|xs_then<|k_sr<|sP (iw 0)<|s_nt<|k_ret ?_
 have hp:idn v=0:=by unfold idn isRef;rw[if_neg (by simp only[Bool.or_eq_true,decide_eq_true_eq];omega)]
 exact xs_fin [iw 0] [] (SI.tmp 2 SI.nil) (rr [] [0]) ⟨by rw[hp];rfl,rfl⟩
theorem entries_s{Z:Zone}{F:List Asr}{b:Nat}{L:List Vl}{S:List Slt}(hti:TInv ⟨L,S⟩)(htw:TW ⟨L,S⟩)(hl:L.length≤100000)(hs:S.length≤100000):SF Tryz.prog 64 #[.pointer (some ⟨b,0,none⟩)] Z (tbA b L S::F) fun r Bs=>Bs=own EntT r (entsOf ⟨L,S⟩)::tbA b L S::F:=by
 refine sf_enter Tryz.func64 43 [(0,pB b 0)] (fun w0=>?_);have htl:=tents_len ⟨L,S⟩;refine k_sr<|sP (.slice none 0 0)<|s_nr<|sP (.slice none 0 0)<|s_nr<|sP (pB b 0)<|sL (t_kern (.agg zc))<|sC [0] (tbnext_s (L:=L) (S:=S) ol ol zVl) ?_
 refine sP (.tuple #[.agg (vc ((tnext ⟨L,S⟩ zVl).1)),.agg (vc ((tnext ⟨L,S⟩ zVl).2.1)),.bool ((tnext ⟨L,S⟩ zVl).2.2.1),iw ((tnext ⟨L,S⟩ zVl).2.2.2)])<|sP (.agg (vc ((tnext ⟨L,S⟩ zVl).1)))<|sP (.agg (vc ((tnext ⟨L,S⟩ zVl).2.1)))<|sP (.bool ((tnext ⟨L,S⟩ zVl).2.2.1))<|sP (iw ((tnext ⟨L,S⟩ zVl).2.2.2))<|s_alloc (.agg zc) zc (fun g1=>?_)
 refine s_alloc (.agg zc) zc (fun g2=>?_);refine s_store 1 (vc ((tnext ⟨L,S⟩ zVl).1)) ?_;refine s_store 0 (vc ((tnext ⟨L,S⟩ zVl).2.1)) ?_;refine sP (.bool ((tnext ⟨L,S⟩ zVl).2.2.1))<|sP (iw ((tnext ⟨L,S⟩ zVl).2.2.2))<|s_nt<|k_seq<|k_block ?_
 rw[next_first];refine k_mem (fun _ h=>Holds.nilS (T:=EntT) h) ?_;refine k_mem (Bs:=own EntT (.slice none 0 0) (entL [])::blkA g2 (vc ((hdE (tents ⟨L,S⟩)).2.1)) 32::blkA g1 (vc ((hdE (tents ⟨L,S⟩)).1)) 32::tbA b L S::F) (fun _ h=>h) ?_;refine k_loop (ι:=Value×List (Vl×Vl)×List (Vl×Vl)) (fun (lx,dn,rem)=>tents ⟨L,S⟩=dn++rem) (fun (lx,dn,rem)=>[(0,pB b 0),(3,lx),(4,pB g1 0),(5,pB g2 0),(6,.bool ((hdE rem).2.2.1)),(7,iw ((hdE rem).2.2.2))]) (fun (lx,dn,rem)=>own EntT lx (entL dn)::blkA g2 (vc ((hdE rem).2.1)) 32::blkA g1 (vc ((hdE rem).1)) 32::tbA b L S::F) (fun (lx,dn,rem)=>rem.length) ((.slice none 0 0),[],tents ⟨L,S⟩) rfl sA (rr [0,0,0,0] []) ?_;rintro⟨lx,dn,rem⟩ hi3;replace hi3:tents ⟨L,S⟩=dn++rem:=hi3;show SK _ _ _ _ _ [(0,.pointer (some ⟨b,0,none⟩)),(3,lx),(4,.pointer (some ⟨g1,0,none⟩)),(5,.pointer (some ⟨g2,0,none⟩)),(6,.bool ((hdE rem).2.2.1)),(7,iw ((hdE rem).2.2.2))] _ (own EntT lx (entL dn)::blkA g2 (vc ((hdE rem).2.1)) 32::blkA g1 (vc ((hdE rem).1)) 32::tbA b L S::F);have hel:=entL_len dn;have hdl:dn.length≤L.length+S.length:=by have h0:=congrArg List.length hi3;rw[List.length_append]at h0;have h1:(⟨L,S⟩:Tb).list.length=L.length:=rfl;have h2:(⟨L,S⟩:Tb).rest.length=S.length:=rfl;omega
 refine k_seq<|k_cut (ι:=Unit) (fun _=>True) (fun _=>[(0,pB b 0),(3,lx),(4,pB g1 0),(5,pB g2 0),(21,.bool ((hdE rem).2.2.1))]) (fun _=>own EntT lx (entL dn)::blkA g2 (vc ((hdE rem).2.1)) 32::blkA g1 (vc ((hdE rem).1)) 32::tbA b L S::F) ?_ (fun _ _=>?_)
 .refine k_reg<|sP2 (.bool ((hdE rem).2.2.1))<|s_fork 18 ((hdE rem).2.2.1) (fun c4=>?_) (fun c4=>?_)
  .refine sP (iw ((hdE rem).2.2.2))<|sL (Lt.to t_cmp (cB (decide_eq_true (hd_err rem):(decide ((hdE rem).2.2.2=0))=true)))<|sP (.bool true)<|s_nil ?_
   exact xs_cut () trivial (sub_of rfl (rQ (rQ (rQ (rQ ⟨⟨rfl,show Value.bool true=Value.bool ((hdE rem).2.2.1) by first|(simp only[c4,bls];done)|simp[c4]⟩,trivial⟩))))) (rr [0,0,0,0] [])
  refine sK<|sK<|sP (.bool false)<|s_nil ?_
  exact xs_cut () trivial (sub_of rfl (rQ (rQ (rQ (rQ ⟨⟨rfl,show Value.bool false=Value.bool ((hdE rem).2.2.1) by first|(simp only[c4,bls];done)|simp[c4]⟩,trivial⟩))))) (rr [0,0,0,0] [])
 refine k_cond ((hdE rem).2.2.1) (fun c5=>?_) (fun c5=>?_)
 .obtain ⟨p,tl,hrem⟩:=hd_some c5;refine k_st<|k_block<|k_cut (ι:=Nat) (fun _=>True) (fun jb8=>[(0,pB b 0),(3,lx),(4,pB g1 0),(5,pB g2 0),(8,pB jb8 0)]) (fun jb8=>blkA jb8 #[iw (idn ((hdE rem).1)),iw (idn ((hdE rem).2.1))] 97::own EntT lx (entL dn)::blkA g2 (vc ((hdE rem).2.1)) 32::blkA g1 (vc ((hdE rem).1)) 32::tbA b L S::F) ?_ (fun ix _=>?_)
  .refine k_held [own EntT lx (entL dn),blkA g2 (vc ((hdE rem).2.1)) 32,blkA g1 (vc ((hdE rem).1)) 32] ?_;refine h_l 0 rfl [0,0,0] (fun _=>(t_loadA 2 (vc ((hdE rem).1)))) ?_;refine h_l 2 rfl [0,0,0] (fun _=>(t_loadA 1 (vc ((hdE rem).2.1)))) ?_;refine h_stepS2 1 5 ?_ ?_
   .refine sV (fun _ h=>ident_s ((hdE rem).1))<|nH [0,0,0]<|h_stepS2 3 5 ?_ ?_
    .refine sV (fun _ h=>ident_s ((hdE rem).2.1))<|nH [0,0,0]<|h_l 4 rfl [0,0,0] (fun _=>(t_kern (.agg #[iw (idn ((hdE rem).1)),iw (idn ((hdE rem).2.1))]))) ?_
     refine h_stepS 5 ?_;refine s_alloc (.agg #[iw 0,iw 0]) #[iw 0,iw 0] (fun g6=>?_);refine nH [1,1,1]<|h_stepS 6 ?_
     refine s_store 0 #[iw (idn ((hdE rem).1)),iw (idn ((hdE rem).2.1))] ?_;refine nH [1,1,1]<|h_doneS ?_
     exact xcut g6 (rr [0,0,0,0,0] [])
    refine s_alloc (.agg #[iw 0,iw 0]) #[iw 0,iw 0] (fun g7=>?_);refine nH [1,1,1]<|h_stepS 3 ?_
    refine sV (fun _ h=>ident_s ((hdE rem).2.1))<|nH [1,1,1]<|h_l 4 rfl [1,1,1] (fun _=>(t_kern (.agg #[iw (idn ((hdE rem).1)),iw (idn ((hdE rem).2.1))]))) ?_
    refine h_stepS 6 ?_;refine s_store 0 #[iw (idn ((hdE rem).1)),iw (idn ((hdE rem).2.1))] ?_;refine nH [1,1,1]<|h_doneS ?_
    exact xcut g7 (rr [0,0,0,0,0] [])
   refine s_alloc (.agg #[iw 0,iw 0]) #[iw 0,iw 0] (fun g8=>?_);refine nH [1,1,1]<|h_stepS 1 ?_
   refine sV (fun _ h=>ident_s ((hdE rem).1))<|nH [1,1,1]<|h_stepS 3 ?_
   refine sV (fun _ h=>ident_s ((hdE rem).2.1))<|nH [1,1,1]<|h_l 4 rfl [1,1,1] (fun _=>(t_kern (.agg #[iw (idn ((hdE rem).1)),iw (idn ((hdE rem).2.1))]))) ?_
   refine h_stepS 6 ?_;refine s_store 0 #[iw (idn ((hdE rem).1)),iw (idn ((hdE rem).2.1))] ?_;refine nH [1,1,1]<|h_doneS ?_
   exact xcut g8 (rr [0,0,0,0,0] [])
  revert ix;intro jb8
  show SK _ _ _ _ _ [(0,.pointer (some ⟨b,0,none⟩)),(3,lx),(4,.pointer (some ⟨g1,0,none⟩)),(5,.pointer (some ⟨g2,0,none⟩)),(8,.pointer (some ⟨jb8,0,none⟩))] _ (blkA jb8 #[iw (idn ((hdE rem).1)),iw (idn ((hdE rem).2.1))] 97::own EntT lx (entL dn)::blkA g2 (vc ((hdE rem).2.1)) 32::blkA g1 (vc ((hdE rem).1)) 32::tbA b L S::F);refine k_seq<|k_sr<|sL (t_loadA 0 #[iw (idn ((hdE rem).1)),iw (idn ((hdE rem).2.1))])<|sL (t_kern (.agg #[iw 0,iw 0]))<|sL (t_eqS (fun w=>(eqEntT (⟨(idn ((hdE rem).1)),(idn ((hdE rem).2.1))⟩:Ent) (⟨0,0⟩:Ent) w).2))<|s_nt<|k_cond (!(decide ((⟨(idn ((hdE rem).1)),(idn ((hdE rem).2.1))⟩:Ent)=(⟨0,0⟩:Ent)))) (fun c9=>?_) (fun c9=>?_)
  .have c10:=not_t c9;have p11:=dF c10;refine k_reg<|sP lx<|sL (t_loadA 0 #[iw (idn ((hdE rem).1)),iw (idn ((hdE rem).2.1))])<|s_buildSlice (e:=97) [(0,.agg #[iw (idn ((hdE rem).1)),iw (idn ((hdE rem).2.1))])] #[iw (idn ((hdE rem).1)),iw (idn ((hdE rem).2.1))] (fun g12=>?_) (hb:=by kernel_rfl)
   refine s_append (L:=(entL dn)) 2 EntT_ok Tryz.underlying44 (.lit 0 EntT_ok [(⟨(idn ((hdE rem).1)),(idn ((hdE rem).2.1))⟩:Ent)]) (by show _*16≤_;(try simp only[lnm]);omega) ol (fun v13=>?_);refine sP v13<|s_nt<|k_reg<|sP (pB b 0)<|sL (t_loadA 4 (vc ((hdE rem).1)))<|sC [5] (tbnext_s (L:=L) (S:=S) ol ol ((hdE rem).1)) ?_
   refine sP (.tuple #[.agg (vc ((tnext ⟨L,S⟩ ((hdE rem).1)).1)),.agg (vc ((tnext ⟨L,S⟩ ((hdE rem).1)).2.1)),.bool ((tnext ⟨L,S⟩ ((hdE rem).1)).2.2.1),iw ((tnext ⟨L,S⟩ ((hdE rem).1)).2.2.2)])<|sP (.agg (vc ((tnext ⟨L,S⟩ ((hdE rem).1)).1)))<|sP (.agg (vc ((tnext ⟨L,S⟩ ((hdE rem).1)).2.1)))<|sP (.bool ((tnext ⟨L,S⟩ ((hdE rem).1)).2.2.1))<|sP (iw ((tnext ⟨L,S⟩ ((hdE rem).1)).2.2.2))<|s_store 5 (vc ((tnext ⟨L,S⟩ ((hdE rem).1)).1)) ?_
   refine s_store 4 (vc ((tnext ⟨L,S⟩ ((hdE rem).1)).2.1)) ?_;refine sP (.bool ((tnext ⟨L,S⟩ ((hdE rem).1)).2.2.1))<|sP (iw ((tnext ⟨L,S⟩ ((hdE rem).1)).2.2.2))<|s_nil<|xs_block ?_
   have hn:tnext ⟨L,S⟩ ((hdE rem).1)=hdE tl:=by rw[hrem];exact next_step hti htw (by show L.length≤_;omega) (pre:=dn) (by rw[hi3,hrem])
   rw[hn];have hE:(⟨(idn ((hdE rem).1)),(idn ((hdE rem).2.1))⟩:Ent)=(⟨idn p.1,idn p.2⟩:Ent):=by rw[hrem];rfl
   have hes:((entL dn)++[(⟨(idn ((hdE rem).1)),(idn ((hdE rem).2.1))⟩:Ent)])=entL (dn++[p]):=by rw[entL_step,if_pos (by rw[←hE];exact dF c10),←hE]
   refine xs_mem (Bs:=tbA b L S::blkA g12 #[iw (idn ((hdE rem).1)),iw (idn ((hdE rem).2.1))] 97::blkA jb8 #[iw (idn ((hdE rem).1)),iw (idn ((hdE rem).2.1))] 97::own EntT v13 (entL (dn++[p]))::blkA g2 (vc ((hdE tl).2.1)) 32::blkA g1 (vc ((hdE tl).1)) 32::F) (fun _ h=>by rw[hes]at h;exact h) ?_;exact xs_round (v13,dn++[p],tl) (by show tl.length<rem.length;rw[hrem];simp) (by show _=(dn++[p])++tl;rw[hi3,hrem];simp) sA (rr [3,3,3,0] [4,4])
  have c14:=not_f c9;have p15:=dY c14;refine k_st<|k_reg<|sP (pB b 0)<|sL (t_loadA 3 (vc ((hdE rem).1)))<|sC [4] (tbnext_s (L:=L) (S:=S) ol ol ((hdE rem).1)) ?_
  refine sP (.tuple #[.agg (vc ((tnext ⟨L,S⟩ ((hdE rem).1)).1)),.agg (vc ((tnext ⟨L,S⟩ ((hdE rem).1)).2.1)),.bool ((tnext ⟨L,S⟩ ((hdE rem).1)).2.2.1),iw ((tnext ⟨L,S⟩ ((hdE rem).1)).2.2.2)])<|sP (.agg (vc ((tnext ⟨L,S⟩ ((hdE rem).1)).1)))<|sP (.agg (vc ((tnext ⟨L,S⟩ ((hdE rem).1)).2.1)))<|sP (.bool ((tnext ⟨L,S⟩ ((hdE rem).1)).2.2.1))<|sP (iw ((tnext ⟨L,S⟩ ((hdE rem).1)).2.2.2))<|s_store 4 (vc ((tnext ⟨L,S⟩ ((hdE rem).1)).1)) ?_
  refine s_store 3 (vc ((tnext ⟨L,S⟩ ((hdE rem).1)).2.1)) ?_;refine sP (.bool ((tnext ⟨L,S⟩ ((hdE rem).1)).2.2.1))<|sP (iw ((tnext ⟨L,S⟩ ((hdE rem).1)).2.2.2))<|s_nil<|xs_block ?_
  have hn:tnext ⟨L,S⟩ ((hdE rem).1)=hdE tl:=by rw[hrem];exact next_step hti htw (by show L.length≤_;omega) (pre:=dn) (by rw[hi3,hrem])
  rw[hn];have hE:(⟨(idn ((hdE rem).1)),(idn ((hdE rem).2.1))⟩:Ent)=(⟨idn p.1,idn p.2⟩:Ent):=by rw[hrem];rfl
  have hes:(entL dn)=entL (dn++[p]):=by rw[entL_step,if_neg (fun hc=>hc (by rw[←hE];exact dY c14))]
  refine xs_mem (Bs:=tbA b L S::blkA jb8 #[iw (idn ((hdE rem).1)),iw (idn ((hdE rem).2.1))] 97::own EntT lx (entL (dn++[p]))::blkA g2 (vc ((hdE tl).2.1)) 32::blkA g1 (vc ((hdE tl).1)) 32::F) (fun _ h=>by rw[hes]at h;exact h) ?_;exact xs_round (lx,dn++[p],tl) (by show tl.length<rem.length;rw[hrem];simp) (by show _=(dn++[p])++tl;rw[hi3,hrem];simp) sA (rr [2,2,2,0] [4])
 have hrem:=hd_none c5;refine k_exit<|xs_exit<|xs_exit<|xs_here<|xs_then<|k_sr<|sP2 lx<|s_nt<|k_ret ?_
 have hend:entL dn=entsOf ⟨L,S⟩:=by unfold entsOf;rw[hi3,hrem,List.append_nil]
 rw[hend];exact xs_fin [lx] (own EntT lx (entsOf ⟨L,S⟩)::tbA b L S::F) (SI.tmp 2 SI.nil) (rr [0,2] [2,2]) rfl
theorem obsize_s{Z:Zone}{F:List Asr}{q:Nat×Nat}{o:Hob}(hl:o.tab.list.length≤100000)(hs:o.tab.rest.length≤100000)(hv:o.vals.length≤100000):SF Tryz.prog 62 #[ptrV q.1] Z (obP q o::F) fun r Bs=>r=iw (obSize o)∧Bs=obP q o::F:=by
 refine sf_enter Tryz.func62 31 [(0,pB q.1 0)] (fun w0=>?_);refine k_memX (fun H h=>ob_open (h.re [0] [])) (fun v1 hw=>?_);have htz:0≤tabSize ⟨o.tab.list,o.tab.rest⟩∧tabSize ⟨o.tab.list,o.tab.rest⟩≤700000:=by unfold tabSize;dsimp only;omega
 refine k_sr<|sP (iw 0)<|s_nt<|k_seq<|k_sr<|sP3 (pB q.1 0)<|sL (t_load 0 (iw o.kind))<|s_nt<|k_block<|k_sr<|sL t_cmp<|sP (.bool (decide (o.kind=4)))<|s_nt<|k_cond (decide (o.kind=4)) (fun c2=>?_) (fun c2=>?_)
 .have p3:=dY c2;refine k_sr<|sP2 (pB q.1 0)<|sP (pB q.1 3)<|sL (Lt.to (v':=ptrV q.2) (t_load 0 (tabV q o)) (by unfold tabV;rw[if_pos (dY c2)]))<|s_mem (fun _ h=>tabO_open (dY c2) (h.re [2] [])) ?_
  refine sC [0] (tbsize_s (L:=o.tab.list) (S:=o.tab.rest) ol ol) ?_;refine sL (t_add 8 (tabSize ⟨o.tab.list,o.tab.rest⟩) ol)<|sP (iw (8+(tabSize ⟨o.tab.list,o.tab.rest⟩)))<|s_nt<|k_ret<|xs_retBlock<|xs_ret<|xs_mem (fun _ h=>tabO_shut (T:=o.tab) (dY c2) (h.re [0] [])) ?_
  refine xs_mem (Bs:=tabO q o::blkA q.1 #[iw o.kind,iw o.tag,sw o.name,(tabV q o),iw o.mt.kind,iw o.mt.p,iw o.mt.q,sw o.mt.str,iw o.mt.ref,v1] 90::own VlT v1 o.vals::F) (fun _ h=>h) ?_;refine xs_mem (fun _ h=>ob_shut (o:=o) (h.re [1,1,0] [])) ?_;have hp:obSize o=(8+(tabSize ⟨o.tab.list,o.tab.rest⟩)):=by unfold obSize;rw[if_pos (dY c2)]
  exact xs_fin [iw (8+(tabSize ⟨o.tab.list,o.tab.rest⟩))] (obP q o::F) (SI.tmp 2 SI.nil) (rr [0] []) ⟨by rw[hp];rfl,rfl⟩
 have p4:=dF c2;refine k_sr<|sL t_cmp<|sP (.bool (decide (o.kind=5)))<|s_nt<|k_cond (decide (o.kind=5)) (fun c5=>?_) (fun c5=>?_)
 .have p6:=dY c5;refine k_sr<|sP2 (pB q.1 0)<|sP (pB q.1 9)<|sL (t_load 0 v1)<|sL (t_len VlT_ok Tryz.underlying37 (.own 1))<|sL (t_add 8 (o.vals.length:Int) ol)<|sP (iw (8+(o.vals.length:Int)))<|s_nt<|k_ret<|xs_retBlock<|xs_ret<|xs_mem (fun _ h=>ob_shut (o:=o) (h.re [0,0,0] [])) ?_
  have hp:obSize o=(8+(o.vals.length:Int)):=by unfold obSize;rw[if_neg (dF c2),if_pos (dY c5)]
  exact xs_fin [iw (8+(o.vals.length:Int))] (obP q o::F) (SI.tmp 2 SI.nil) (rr [0] []) ⟨by rw[hp];rfl,rfl⟩
 have p7:=dF c5;refine k_sr<|sL t_cmp<|sP (.bool (decide (o.kind=7)))<|s_nt<|k_cond (decide (o.kind=7)) (fun c8=>?_) (fun c8=>?_)
 .have p9:=dY c8;refine k_sr<|sP2 (pB q.1 0)<|sP (pB q.1 9)<|sL (t_load 0 v1)<|sL (t_len VlT_ok Tryz.underlying37 (.own 1))<|sL (t_add 16 (o.vals.length:Int) ol)<|sP (iw (16+(o.vals.length:Int)))<|s_nt<|k_ret<|xs_retBlock<|xs_ret<|xs_mem (fun _ h=>ob_shut (o:=o) (h.re [0,0,0] [])) ?_
  have hp:obSize o=(16+(o.vals.length:Int)):=by unfold obSize;rw[if_neg (dF c2),if_neg (dF c5),if_pos (dY c8)]
  exact xs_fin [iw (16+(o.vals.length:Int))] (obP q o::F) (SI.tmp 2 SI.nil) (rr [0] []) ⟨by rw[hp];rfl,rfl⟩
 have p10:=dF c8;refine k_skip<|xs_block<|xs_then<|k_sr<|sP (iw 12)<|s_nt<|k_ret<|xs_mem (fun _ h=>ob_shut (o:=o) (h.re [0,0,0] [])) ?_
 have hp:obSize o=12:=by unfold obSize;rw[if_neg (dF c2),if_neg (dF c5),if_neg (dF c8)]
 exact xs_fin [iw 12] (obP q o::F) (SI.tmp 2 SI.nil) (rr [0] []) ⟨by rw[hp];rfl,rfl⟩
theorem ob_bound{st:Hst}{n:Nat}(hsm:HSm n st)(hn:n≤300){id:Int}{o:Hob}(ho:st.get id=some o):o.tab.list.length≤90300∧o.tab.rest.length≤300∧o.vals.length≤320:=by
 obtain⟨h1,h2,h3⟩:=hsm.obs o (get_mem ho).1;have h4:n*(n+1)≤300*301:=Nat.mul_le_mul om om;exact⟨by omega,by omega,by omega⟩
theorem obsize_bound{st:Hst}{n:Nat}(hsm:HSm n st)(hn:n≤300){id:Int}{o:Hob}(ho:st.get id=some o):0≤obSize o∧obSize o≤200000:=by
 obtain⟨h1,h2,h3⟩:=ob_bound hsm hn ho;unfold obSize tabSize;repeat' split
 all_goals omega
theorem hids_s{Z:Zone}{F:List Asr}{b:Nat}{st:Hst}{n:Nat}(hsm:HSm n st)(hn:n≤300):SF Tryz.prog 16 #[.pointer (some ⟨b,0,none⟩)] Z (hpA b st::F) fun r Bs=>Bs=own iTy r (hids st)::hpA b st::F:=by
 refine sf_enter Tryz.func16 11 [(0,pB b 0)] (fun w0=>?_);refine k_memX (fun H h=>hpA_open (h.re [0] [])) (fun ps1 _=>?_);refine k_fact (fun H h=>hp_facts (h.re [0] [])) (fun hf2=>?_);obtain⟨hi3,ha4⟩:=hf2;refine k_mem3 (fun H h=>hp_open (h.re [0] [])) (fun mb5 tb6 tm7 hw=>?_);obtain⟨hi8,ha9,ht10⟩:=hw;refine k_fact (fun H h=>(h.mp (i:=1) rfl).nodup) (fun hnd0=>?_);refine k_sr<|sP (.slice none 0 0)<|s_nt<|k_seq<|k_sr<|sP (pB b 0)<|sP (.bool false)<|s_nt<|k_false<|k_st<|k_sr<|sP3 (pB b 0)<|sL (t_load 0 (.map (some mb5)))<|s_pcall (fun _ h=>keys_s mb5) ?_
 rintro _ _ ⟨g11,rfl,rfl⟩;refine s_call [0,1] (sorted_s (ps:=ps1) (keys_wf ha9 (by have:=hsm.len;omega)) (by have:=ha9.len;have:=count_le st;have:=hsm.len;omega)) ?_;rintro v12 _ rfl;refine sP v12<|s_nt<|k_ret<|xs_mem (fun _ h=>hp_shut (st:=st) (n:=(st.objs.length:Int)) ⟨⟨hi8,ha9,ht10⟩,rfl⟩ (h.re [2,1,1,1] [])) ?_
 refine xs_mem (fun _ h=>hpA_shut (h.re [0] [])) ?_;have hk:(srt (ps1.map Prod.fst))=hids st:=keys_srt ha9 hnd0;rw[hk];exact xs_fin [v12] (own iTy v12 (hids st)::hpA b st::F) (SI.tmp 2 SI.nil) (rr [1,0] []) rfl
theorem halive0_s{Z:Zone}{F:List Asr}{b mb tb:Nat}{n:Value}{ps:List (Int×(Nat×Nat))}(id:Int):SF Tryz.prog 41 #[.pointer (some ⟨b,0,none⟩),iw id] Z (blkA b #[.map (some mb),n,.map (some tb)] 64::mpA iK oV mb ps::F) fun r Bs=>r=.bool (aget ps id).isSome∧Bs=blkA b #[.map (some mb),n,.map (some tb)] 64::mpA iK oV mb ps::F:=by
 refine sf_enter Tryz.func41 16 [(0,pB b 0),(1,iw id)] (fun w0=>?_);refine k_sr<|sP (.bool false)<|s_nr<|sP (pB b 0)<|sP2 (.bool true)<|sP3 (pB b 0)<|sL (t_load 0 (.map (some mb)))<|sP (iw id) ?_
 rcases hq1:aget ps id with _|q2
 .refine sL (Lt.to (v':=.pointer none) (t_lookup 1 intOk Tryz.underlying61 (.pointer none) id) (by rw[hq1];rfl))<|sP3 (.bool false)<|s_nt<|k_ret ?_
  exact xs_fin [.bool false] (blkA b #[.map (some mb),n,.map (some tb)] 64::mpA iK oV mb ps::F) (SI.tmp 4 SI.nil) (rr [0,0] []) ⟨by first|rfl|(rw[hq1];rfl),rfl⟩
 refine sL (Lt.to (v':=ptrV q2.1) (t_lookup 1 intOk Tryz.underlying61 (.pointer none) id) (by rw[hq1];rfl))<|sP3 (.bool true)<|s_nt<|k_ret ?_
 exact xs_fin [.bool true] (blkA b #[.map (some mb),n,.map (some tb)] 64::mpA iK oV mb ps::F) (SI.tmp 4 SI.nil) (rr [0,0] []) ⟨by first|rfl|(rw[hq1];rfl),rfl⟩
theorem htouched_s{Z:Zone}{F:List Asr}{b:Nat}{st:Hst}{n:Nat}(hsm:HSm n st)(hn:n≤300):SF Tryz.prog 11 #[.pointer (some ⟨b,0,none⟩)] Z (hpA b st::F) fun r Bs=>Bs=own iTy r (htchd st)::hpA b (huntch st)::F:=by
 refine sf_enter Tryz.func11 30 [(0,pB b 0)] (fun w0=>?_);refine k_memX (fun H h=>hpA_open (h.re [0] [])) (fun ps1 _=>?_);refine k_fact (fun H h=>hp_facts (h.re [0] [])) (fun hf2=>?_);obtain⟨hi3,ha4⟩:=hf2;refine k_mem3 (fun H h=>hp_open (h.re [0] [])) (fun mb5 tb6 tm7 hw=>?_);obtain⟨hi8,ha9,ht10⟩:=hw;refine k_fact (fun H h=>(h.mp (i:=1) rfl).nodup) (fun hnd0=>?_);refine k_fact (fun H h=>(h.mp (i:=2) rfl).nodup) (fun hnd1=>?_);refine k_sr<|sP (.slice none 0 0)<|s_nt<|k_seq<|k_sr<|sP (pB b 0)<|sP (.bool false)<|s_nt<|k_false<|k_st<|k_sr<|sP (.slice none 0 0)<|s_nt<|k_seq<|k_sr<|sP2 (pB b 0)<|sP (pB b 2)<|sL (t_load 0 (.map (some tb6)))<|s_range 2 Tryz.underlying62 (fun r11=>?_)
 refine s_nt<|k_block<|k_mem (fun _ h=>Holds.nilS (T:=iTy) h) ?_
 refine k_mem (Bs:=own iTy (.slice none 0 0) ((([]:List (Int×Bool)).map Prod.fst).filter fun id=>(aget ps1 id).isSome)::blkA b #[.map (some mb5),iw (st.objs.length:Int),.map (some tb6)] 64::mpA iK oV mb5 ps1::rgA iK bV tb6 r11 tm7 []::allP ps1 st::F) (fun _ h=>h) ?_;refine k_loop (ι:=Value×List (Int×Bool)) (fun (sx,dn)=>(dn.map Prod.fst).Nodup) (fun (sx,dn)=>[(0,pB b 0),(3,sx),(11,pB r11 0)]) (fun (sx,dn)=>own iTy sx ((dn.map Prod.fst).filter fun id=>(aget ps1 id).isSome)::blkA b #[.map (some mb5),iw (st.objs.length:Int),.map (some tb6)] 64::mpA iK oV mb5 ps1::rgA iK bV tb6 r11 tm7 dn::allP ps1 st::F) (fun (sx,dn)=>tm7.length-dn.length) ((.slice none 0 0),[]) List.nodup_nil sA (rr [0,0,0,0,0] []) ?_;rintro⟨sx,dn⟩ hi12;replace hi12:(dn.map Prod.fst).Nodup:=hi12;show SK _ _ _ _ _ [(0,.pointer (some ⟨b,0,none⟩)),(3,sx),(11,.pointer (some ⟨r11,0,none⟩))] _ (own iTy sx ((dn.map Prod.fst).filter fun id=>(aget ps1 id).isSome)::blkA b #[.map (some mb5),iw (st.objs.length:Int),.map (some tb6)] 64::mpA iK oV mb5 ps1::rgA iK bV tb6 r11 tm7 dn::allP ps1 st::F);have hfn:=fl_len (ps:=ps1) hi12;have hpl:ps1.length≤300:=by have:=ha9.len;have:=count_le st;have:=hsm.len;omega
 refine k_sr<|s_next 3 (fun hd13=>?_) (fun ky14 u15 hm16 hn17 hd18=>?_)
 .refine sP (.bool false)<|s_nt<|k_seq<|k_false<|k_exit<|xs_mem (fun _ h=>Holds.unrange 3 h) ?_
  refine xs_exit<|xs_exit<|xs_here<|xs_then<|k_sr<|sP sx<|sC [0] (sort_s (L:=((dn.map Prod.fst).filter fun id=>(aget ps1 id).isSome)) om) ?_
  refine s_nr<|sP2 (pB b 0)<|sP (pB b 2)<|sL (t_load 1 (.map (some tb6)))<|s_clear0 3 Tryz.underlying62 ?_
  refine s_mem (Bs:=own iTy sx (srt ((dn.map Prod.fst).filter fun id=>(aget ps1 id).isSome))::blkA b #[.map (some mb5),iw (st.objs.length:Int),.map (some tb6)] 64::mpA iK oV mb5 ps1::mpA iK bV tb6 []::allP ps1 (huntch st)::F) (fun _ h=>h) ?_;refine s_nr<|sP2 sx<|s_nt<|k_ret<|xs_mem (fun _ h=>hp_shut (st:=(huntch st)) (n:=(st.objs.length:Int)) ⟨⟨untch_inv hi8,⟨ha9.has,ha9.len⟩,TA.untch st⟩,rfl⟩ (h.re [1,1,1,1] [])) ?_
  refine xs_mem (fun _ h=>hpA_shut (h.re [0] [])) ?_;have hk:(srt ((dn.map Prod.fst).filter fun id=>(aget ps1 id).isSome))=htchd st:=(srt_perm' ((hd13.map Prod.fst).filter _)).trans (by rw[←tch_srt ht10 hnd1];congr 1;refine List.filter_congr fun x _=>?_;exact ha9.has x);rw[hk];exact xs_fin [sx] (own iTy sx (htchd st)::hpA b (huntch st)::F) (SI.tmp 2 SI.nil) (rr [1,0] []) rfl
 refine sP (.bool true)<|s_nt<|k_seq<|k_true<|k_st<|k_block<|k_sr<|sL (t_entry 3)<|sP2 (iw ky14)<|s_nr<|sP (pB b 0)<|sP (iw ky14)<|sC [1,1] (halive0_s (ps:=ps1) ky14) ?_
 refine s_nt<|k_cond ((aget ps1 ky14).isSome) (fun c19=>?_) (fun c19=>?_)
 .refine k_reg<|sP sx<|sP (iw ky14)<|s_buildSlice (e:=3) [(0,iw ky14)] #[iw ky14] (fun g20=>?_) (hb:=by kernel_rfl)
  refine s_append (L:=((dn.map Prod.fst).filter fun id=>(aget ps1 id).isSome)) 3 iTy_ok Tryz.underlying42 (.lit 0 iTy_ok [ky14]) (by show _*8≤_;(try simp only[lnm]);omega) ol (fun v21=>?_);refine sP v21<|s_nil<|xs_block ?_
  have hfl:(((dn.map Prod.fst).filter fun id=>(aget ps1 id).isSome)++[ky14])=(((dn++[(ky14,u15)]).map Prod.fst).filter fun id=>(aget ps1 id).isSome):=by rw[List.map_append,List.filter_append,List.map_cons,List.map_nil];show _=_++List.filter _ [ky14];rw[List.filter_cons_of_pos (by exact c19)];rfl
  refine xs_mem (Bs:=blkA g20 #[iw ky14] 3::blkA b #[.map (some mb5),iw (st.objs.length:Int),.map (some tb6)] 64::mpA iK oV mb5 ps1::own iTy v21 (((dn++[(ky14,u15)]).map Prod.fst).filter fun id=>(aget ps1 id).isSome)::rgA iK bV tb6 r11 tm7 (dn++[(ky14,u15)])::allP ps1 st::F) (fun _ h=>by rw[hfl]at h;exact h) ?_;exact xs_round (v21,dn++[(ky14,u15)]) (by show tm7.length-(dn++[(ky14,u15)]).length<tm7.length-dn.length;rw[List.length_append];have:=hd18;simp only[List.length_singleton];omega) (nodup_snoc hi12 hn17) sA (rr [3,1,1,1,1] [5])
 refine k_skip<|xs_block ?_
 have hfl:((dn.map Prod.fst).filter fun id=>(aget ps1 id).isSome)=(((dn++[(ky14,u15)]).map Prod.fst).filter fun id=>(aget ps1 id).isSome):=by rw[List.map_append,List.filter_append,List.map_cons,List.map_nil];show _=_++List.filter _ [ky14];rw[List.filter_cons_of_neg (by rw[c19];decide)];simp
 refine xs_mem (Bs:=blkA b #[.map (some mb5),iw (st.objs.length:Int),.map (some tb6)] 64::mpA iK oV mb5 ps1::own iTy sx (((dn++[(ky14,u15)]).map Prod.fst).filter fun id=>(aget ps1 id).isSome)::rgA iK bV tb6 r11 tm7 (dn++[(ky14,u15)])::allP ps1 st::F) (fun _ h=>by rw[hfl]at h;exact h) ?_;exact xs_round (sx,dn++[(ky14,u15)]) (by show tm7.length-(dn++[(ky14,u15)]).length<tm7.length-dn.length;rw[List.length_append];have:=hd18;simp only[List.length_singleton];omega) (nodup_snoc hi12 hn17) sA (rr [2,0,0,0,0] [])
end Go.Proofs.YtmilekfknhglkaaGreat
end
section
set_option linter.unusedSimpArgs false
set_option linter.unusedVariables false
set_option maxRecDepth 100000
set_option maxHeartbeats 2000000
namespace Go.Proofs.YtmilekfknhglkaaGreat
open Go.Hp Go.J Go.S
open Go.Mem (Ty KTy blk elemAt pre suf blk_pre blk_suf aget aset strK aggDesc)
open Go.Mem (adel apos aget_aset aget_adel)
theorem hobject_s{Z:Zone}{F:List Asr}{b:Nat}{st:Hst}{n:Nat}(hsm:HSm n st)(hn:n≤300)(hw:HW st)(id weak:Int):SF Tryz.prog 13 #[.pointer (some ⟨b,0,none⟩),iw id,iw weak] Z (hpA b st::F) fun r Bs=>∃rv ev,r=.tuple #[.agg #[iw (hoId st id),iw (hoSz st id),iw (hoWk st id weak),rv,ev],.bool (halive st id)]∧Bs=own iTy rv (hrefs st id)::own EntT ev (hents st id)::hpA b st::F:=by
 refine sf_enter Tryz.func13 73 [(0,pB b 0),(1,iw id),(2,iw weak)] (fun w0=>?_);refine k_sr<|s_alloc (.agg #[iw 0,iw 0,iw 0,(.slice none 0 0),(.slice none 0 0)]) #[iw 0,iw 0,iw 0,(.slice none 0 0),(.slice none 0 0)] (fun g1=>?_)
 refine sP (.bool false)<|s_nt<|k_seq<|k_sr<|sP (pB b 0)<|sP (iw id)<|sC [1] (halive_s (st:=st) id) ?_
 refine sP (.bool (!(halive st id)))<|s_nt<|k_cond (!(halive st id)) (fun c2=>?_) (fun c2=>?_)
 .have c3:=not_t c2;refine k_sr<|sL (t_kern (.agg #[iw 0,iw 0,iw 0,(.slice none 0 0),(.slice none 0 0)]))<|s_store 1 #[iw 0,iw 0,iw 0,(.slice none 0 0),(.slice none 0 0)] ?_
  refine sP (.bool false)<|s_nt<|k_ret<|xs_ret<|xs_mem (fun _ h=>Holds.nilS (T:=EntT) h) ?_
  refine xs_mem (fun _ h=>Holds.nilS (T:=iTy) h) ?_;have hg0:st.get id=none:=by have h0:=c3;unfold halive at h0;cases hg:st.get id with|none=>rfl|some o=>rw[hg]at h0;cases h0
  have ho:=obj_none hg0 weak;exact xs_fin [.agg #[iw 0,iw 0,iw 0,(.slice none 0 0),(.slice none 0 0)],.bool false] (own iTy (.slice none 0 0) []::own EntT (.slice none 0 0) []::hpA b st::F) (SI.agg 6 46 3 (SI.tmp 7 SI.nil)) (rr [0,0,0] [3]) ⟨(.slice none 0 0),(.slice none 0 0),by rw[ho.1,ho.2.1,ho.2.2.1,ho.2.2.2.1];rfl,by rw[ho.2.2.2.2.1,ho.2.2.2.2.2]⟩
 have c4:=not_f c2;refine k_st<|k_seq<|k_memX (fun H h=>hpA_open (h.re [0] [])) (fun ps5 _=>?_)
 refine k_fact (fun H h=>hp_facts (h.re [0] [])) (fun hf6=>?_);obtain⟨hi7,ha8⟩:=hf6;refine k_mem3 (fun H h=>hp_open (h.re [0] [])) (fun mb9 tb10 tm11 hw=>?_);obtain⟨hi12,ha13,ht14⟩:=hw;refine k_reg<|sP3 (pB b 0)<|sL (t_load 0 (.map (some mb9)))<|sP (iw id) ?_
 rcases get_cases ha13 id with ⟨hg15,hq16⟩|⟨o17,q18,ho19,hq20⟩
 .exfalso;simp_all[halive]
 refine sL (Lt.to (v':=ptrV q18.1) (t_lookup 1 intOk Tryz.underlying61 (.pointer none) id) (by rw[hq20];rfl))<|sP (pB q18.1 0)<|s_nr<|sP (iw id)<|sP (pB q18.1 0)<|s_fact (fun H h=>(h.mp (i:=1) rfl).nodup) (fun hnd21=>?_)
 obtain⟨hz1,hz2,hz3⟩:=ob_bound hsm hn ho19;refine s_mem (fun _ h=>all_take hq20 ho19 (h.re [3] [])) ?_;refine sC [0] (obsize_s (q:=q18) (o:=o17) om om om) ?_;refine s_mem (fun _ h=>all_back hnd21 hq20 ho19 h) ?_;refine sL (t_kern (.agg #[iw id,iw (obSize o17),iw 0,(.slice none 0 0),(.slice none 0 0)]))<|s_alloc (.agg #[iw 0,iw 0,iw 0,(.slice none 0 0),(.slice none 0 0)]) #[iw 0,iw 0,iw 0,(.slice none 0 0),(.slice none 0 0)] (fun g22=>?_)
 refine s_store 0 #[iw id,iw (obSize o17),iw 0,(.slice none 0 0),(.slice none 0 0)] ?_;refine s_nt<|k_seq<|k_seq ?_
 obtain⟨hb1,hb2,hb3⟩:=ob_bound hsm hn ho19;refine k_memX (fun H h=>all_focus hq20 ho19 (h.re [1] [])) (fun v23 _=>?_);refine k_held [blkA q18.1 #[iw o17.kind,iw o17.tag,sw o17.name,(tabV q18 o17),iw o17.mt.kind,iw o17.mt.p,iw o17.mt.q,sw o17.mt.str,iw o17.mt.ref,v23] 90,own VlT v23 o17.vals,blkA g22 #[iw id,iw (obSize o17),iw 0,(.slice none 0 0),(.slice none 0 0)] 46,blkA b #[.map (some mb9),iw (st.objs.length:Int),.map (some tb10)] 64,mpA iK oV mb9 ps5,mpA iK bV tb10 tm11,blkA g1 #[iw 0,iw 0,iw 0,(.slice none 0 0),(.slice none 0 0)] 46] ?_;refine hp_ 0 [0,0,2,2,2,2,2] (pB q18.1 0) ?_;refine hp_ 1 [0,0,2,2,2,2,2] (pB q18.1 0) ?_;refine hp_ 2 [0,0,2,2,2,2,2] (pB q18.1 4) ?_;refine h_l 3 rfl [0,0,2,2,2,2,2] (fun _=>(t_loadA 0 (vc o17.mt))) ?_;refine hp_ 5 [0,0,2,2,2,2,2] (pB q18.1 0) ?_;refine hp_ 6 [0,0,2,2,2,2,2] (pB q18.1 0) ?_;refine hp_ 7 [0,0,2,2,2,2,2] (pB q18.1 9) ?_;refine h_l 8 rfl [0,0,2,2,2,2,2] (fun _=>(t_load 0 v23)) ?_;refine hp_ 11 [0,0,2,2,2,2,2] (iw 0) ?_;refine h_stepS 4 ?_;refine s_buildSlice (e:=32) [(0,.agg (vc o17.mt))] (vc o17.mt) (fun g24=>?_) (hb:=by kernel_rfl);refine nH [1,1,3,3,3,3,3]<|h_stepS 9 ?_
 refine s_mem (fun _ h=>Holds.slice 0 h VlT_ok [o17.mt]) ?_;refine s_append (L:=[o17.mt]) 0 VlT_ok Tryz.underlying37 (.own 2) (by show _*48≤_;(try simp only[lnm]);omega) ol (fun v25=>?_);refine nH [1,1,3,3,3,3,3]<|h_stepS 10 ?_
 refine sL (t_len VlT_ok Tryz.underlying37 (.own 0))<|nH [1,1,3,3,3,3,3]<|h_doneS ?_
 refine xs_then<|k_block<|k_fact (fun H h=>(h.mp (i:=7) rfl).nodup) (fun hnd26=>?_)
 refine k_mem (fun _ h=>(put_same ho19)▸all_unfocus (o':=o17) hnd26 hq20 ho19 (ob_shut (o:=o17) (h.re [1,1,1,1] []))) ?_;refine k_mem (Bs:=allP ps5 st::own VlT v25 ([o17.mt]++o17.vals)::blkA g22 #[iw id,iw (obSize o17),iw 0,(.slice none 0 0),(.slice none 0 0)] 46::blkA b #[.map (some mb9),iw (st.objs.length:Int),.map (some tb10)] 64::mpA iK oV mb9 ps5::mpA iK bV tb10 tm11::blkA g1 #[iw 0,iw 0,iw 0,(.slice none 0 0),(.slice none 0 0)] 46::F) (fun _ h=>h) ?_;refine k_mem (fun _ h=>hp_shut (st:=st) (n:=(st.objs.length:Int)) ⟨⟨hi12,ha13,ht14⟩,rfl⟩ (h.re [3,3,3,0] [])) ?_;refine k_mem (fun _ h=>Holds.nilS (T:=iTy) h) ?_;refine k_mem (Bs:=own iTy (.slice none 0 0) (refsL (o17.mt::o17.vals) 0)::hpP b st ps5::own VlT v25 (o17.mt::o17.vals)::blkA g22 #[iw id,iw (obSize o17),iw 0,(.slice none 0 0),(.slice none 0 0)] 46::blkA g1 #[iw 0,iw 0,iw 0,(.slice none 0 0),(.slice none 0 0)] 46::F) (fun _ h=>h) ?_;have hll:(o17.mt::o17.vals).length=o17.vals.length+1:=rfl;refine k_loop (ι:=Value×Nat) (fun (rx,i)=>i≤(o17.mt::o17.vals).length) (fun (rx,i)=>[(2,iw weak),(6,pB g1 0),(8,pB q18.1 0),(9,pB g22 0),(36,v25),(37,iw ((o17.mt::o17.vals).length:Int)),(38,iw (i:Int))]) (fun (rx,i)=>own iTy rx (refsL (o17.mt::o17.vals) i)::hpP b st ps5::own VlT v25 (o17.mt::o17.vals)::blkA g22 #[iw id,iw (obSize o17),iw 0,rx,(.slice none 0 0)] 46::blkA g1 #[iw 0,iw 0,iw 0,(.slice none 0 0),(.slice none 0 0)] 46::F) (fun (rx,i)=>(o17.mt::o17.vals).length-i) ((.slice none 0 0),0) (Nat.zero_le _) (sub_of rfl (rQ (rQ (rQ (rQ (rQ ⟨⟨rfl,cI (by first|rfl|(simp only[lnm];omega))⟩,(rQ trivial)⟩)))))) (rr [0,0,0,0,0] []) ?_;rintro⟨rx,i⟩ hi27;replace hi27:i≤(o17.mt::o17.vals).length:=hi27;show SK _ _ _ _ _ [(2,iw weak),(6,.pointer (some ⟨g1,0,none⟩)),(8,.pointer (some ⟨q18.1,0,none⟩)),(9,.pointer (some ⟨g22,0,none⟩)),(36,v25),(37,iw ((o17.mt::o17.vals).length:Int)),(38,iw (i:Int))] _ (own iTy rx (refsL (o17.mt::o17.vals) i)::hpP b st ps5::own VlT v25 (o17.mt::o17.vals)::blkA g22 #[iw id,iw (obSize o17),iw 0,rx,(.slice none 0 0)] 46::blkA g1 #[iw 0,iw 0,iw 0,(.slice none 0 0),(.slice none 0 0)] 46::F);have hrl:=refsL_len (o17.mt::o17.vals) i;refine k_sr<|sL t_cmp<|s_nt<|k_seq<|k_cond (decide ((i:Int)<((o17.mt::o17.vals).length:Int))) (fun c28=>?_) (fun c28=>?_)
 .have p29:=dY c28;refine k_st<|k_seq<|k_block<|k_sr<|sL (t_index VlT_ok Tryz.underlying37 (.own 2) (i:Int) i om ol om) ?_
  obtain⟨y30,hy31⟩:∃y,(o17.mt::o17.vals)[i]?=some y:=⟨_,List.getElem?_eq_getElem ol⟩;refine sL (t_loadE VlT_ok (.own 2) hy31)<|s_alloc (.agg zc) zc (fun g32=>?_)
  refine s_store 0 (vc y30) ?_;refine s_nr<|sL (t_loadA 0 (vc y30))<|sV (fun _ h=>ident_s y30)<|sL t_cmp<|s_nt<|k_cond (decide ((idn y30)≠0)) (fun c33=>?_) (fun c33=>?_)
  .have p34:=dY c33;refine k_held [blkA g32 (vc y30) 32,own VlT v25 (o17.mt::o17.vals),blkA g1 #[iw 0,iw 0,iw 0,(.slice none 0 0),(.slice none 0 0)] 46] ?_;refine hp_ 0 [0,2,3] (pB g22 3) ?_;refine h_l 2 rfl [0,2,3] (fun _=>(t_loadA 0 (vc y30))) ?_;refine h_stepS2 1 3 ?_ ?_
   .refine sL (t_load 4 rx)<|nH [0,2,3]<|h_stepS 3 ?_
    refine sV (fun _ h=>ident_s y30)<|nH [0,2,3]<|h_stepS 4 ?_
    refine s_buildSlice (e:=3) [(0,iw (idn y30))] #[iw (idn y30)] (fun g35=>?_) (hb:=by kernel_rfl);refine nH [1,3,4]<|h_stepS 5 ?_
    refine s_append (L:=(refsL (o17.mt::o17.vals) i)) 2 iTy_ok Tryz.underlying42 (.lit 0 iTy_ok [(idn y30)]) (by show _*8≤_;(try simp only[lnm]);omega) ol (fun v36=>?_);refine nH [1,3,4]<|hp_ 6 [1,3,4] (pB g22 3) ?_
    refine h_stepS 7 ?_;refine sF 2 (fun hf37=>?_);refine s_store (u:=v36) (m:=1) 5 #[iw id,iw (obSize o17),iw 0,v36,(.slice none 0 0)] ?_ (hm:=by (obtain⟨_,_,e⟩:=hf37;rw[e];rfl)) (h1:=by (obtain⟨_,_,e⟩:=hf37;rw[e];rfl)) (ha':=by (obtain⟨_,_,e⟩:=hf37;rw[e];rfl));refine nH [1,3,4]<|h_doneS ?_
    refine xs_block<|xs_then<|k_reg<|sL (t_add (i:Int) 1 ol)<|sP (iw ((i:Int)+1))<|s_nil ?_
    have hst:=refsL_step hy31;rw[if_pos (dY c33)]at hst;rw[←hst];exact xs_round (v36,i+1) (by show (o17.mt::o17.vals).length-(i+1)<(o17.mt::o17.vals).length-i;omega) (by show i+1≤(o17.mt::o17.vals).length;omega) sA (rr [2,2,2,2,2] [5,5])
   refine sV (fun _ h=>ident_s y30)<|nH [0,2,3]<|h_stepS2 1 4 ?_ ?_
   .refine sL (t_load 4 rx)<|nH [0,2,3]<|h_stepS 4 ?_
    refine s_buildSlice (e:=3) [(0,iw (idn y30))] #[iw (idn y30)] (fun g38=>?_) (hb:=by kernel_rfl);refine nH [1,3,4]<|h_stepS 5 ?_
    refine s_append (L:=(refsL (o17.mt::o17.vals) i)) 2 iTy_ok Tryz.underlying42 (.lit 0 iTy_ok [(idn y30)]) (by show _*8≤_;(try simp only[lnm]);omega) ol (fun v39=>?_);refine nH [1,3,4]<|hp_ 6 [1,3,4] (pB g22 3) ?_
    refine h_stepS 7 ?_;refine sF 2 (fun hf40=>?_);refine s_store (u:=v39) (m:=1) 5 #[iw id,iw (obSize o17),iw 0,v39,(.slice none 0 0)] ?_ (hm:=by (obtain⟨_,_,e⟩:=hf40;rw[e];rfl)) (h1:=by (obtain⟨_,_,e⟩:=hf40;rw[e];rfl)) (ha':=by (obtain⟨_,_,e⟩:=hf40;rw[e];rfl));refine nH [1,3,4]<|h_doneS ?_
    refine xs_block<|xs_then<|k_reg<|sL (t_add (i:Int) 1 ol)<|sP (iw ((i:Int)+1))<|s_nil ?_
    have hst:=refsL_step hy31;rw[if_pos (dY c33)]at hst;rw[←hst];exact xs_round (v39,i+1) (by show (o17.mt::o17.vals).length-(i+1)<(o17.mt::o17.vals).length-i;omega) (by show i+1≤(o17.mt::o17.vals).length;omega) sA (rr [2,2,2,2,2] [5,5])
   refine s_buildSlice (e:=3) [(0,iw (idn y30))] #[iw (idn y30)] (fun g41=>?_) (hb:=by kernel_rfl);refine nH [1,3,4]<|h_stepS 1 ?_
   refine sL (t_load 5 rx)<|nH [1,3,4]<|h_stepS 5 ?_
   refine s_append (L:=(refsL (o17.mt::o17.vals) i)) 2 iTy_ok Tryz.underlying42 (.lit 0 iTy_ok [(idn y30)]) (by show _*8≤_;(try simp only[lnm]);omega) ol (fun v42=>?_);refine nH [1,3,4]<|hp_ 6 [1,3,4] (pB g22 3) ?_
   refine h_stepS 7 ?_;refine sF 2 (fun hf43=>?_);refine s_store (u:=v42) (m:=1) 5 #[iw id,iw (obSize o17),iw 0,v42,(.slice none 0 0)] ?_ (hm:=by (obtain⟨_,_,e⟩:=hf43;rw[e];rfl)) (h1:=by (obtain⟨_,_,e⟩:=hf43;rw[e];rfl)) (ha':=by (obtain⟨_,_,e⟩:=hf43;rw[e];rfl));refine nH [1,3,4]<|h_doneS ?_
   refine xs_block<|xs_then<|k_reg<|sL (t_add (i:Int) 1 ol)<|sP (iw ((i:Int)+1))<|s_nil ?_
   have hst:=refsL_step hy31;rw[if_pos (dY c33)]at hst;rw[←hst];exact xs_round (v42,i+1) (by show (o17.mt::o17.vals).length-(i+1)<(o17.mt::o17.vals).length-i;omega) (by show i+1≤(o17.mt::o17.vals).length;omega) sA (rr [2,2,2,2,2] [5,5])
  have p44:=Decidable.not_not.1 (dF c33);refine k_skip<|xs_block<|xs_then<|k_reg<|sL (t_add (i:Int) 1 ol)<|sP (iw ((i:Int)+1))<|s_nil ?_
  have hst:=refsL_step hy31;rw[if_neg (dF c33)]at hst;rw[←hst];exact xs_round (rx,i+1) (by show (o17.mt::o17.vals).length-(i+1)<(o17.mt::o17.vals).length-i;omega) (by show i+1≤(o17.mt::o17.vals).length;omega) sA (rr [1,1,1,1,1] [5])
 have p45:=dF c28;refine k_exit<|xs_exit<|xs_exit<|xs_here<|xs_then<|k_seq<|k_sr<|sP3 (pB q18.1 0)<|s_mem3 (fun H h=>hp_open (h.re [1] [])) (fun mb46 tb47 tm48 hw=>?_)
 obtain⟨hi49,ha50,ht51⟩:=hw;refine s_memX (fun H h=>all_focus hq20 ho19 (h.re [3] [])) (fun v52 _=>?_);refine sL (t_load 0 (iw o17.kind))<|sL t_cmp<|s_nt<|k_cond (decide (o17.kind=4)) (fun c53=>?_) (fun c53=>?_)
 .have p54:=dY c53;refine k_seq<|k_cut (ι:=Unit) (fun _=>True) (fun _=>[(2,iw weak),(6,pB g1 0),(8,pB q18.1 0),(9,pB g22 0),(63,.bool ((decide ((0:Int)≤weak))&&(decide (weak≤3))))]) (fun _=>blkA q18.1 #[iw o17.kind,iw o17.tag,sw o17.name,(tabV q18 o17),iw o17.mt.kind,iw o17.mt.p,iw o17.mt.q,sw o17.mt.str,iw o17.mt.ref,v52] 90::own VlT v52 o17.vals::tabO q18 o17::holeP ps5 st id::blkA b #[.map (some mb46),iw (st.objs.length:Int),.map (some tb47)] 64::mpA iK oV mb46 ps5::mpA iK bV tb47 tm48::own iTy rx (refsL (o17.mt::o17.vals) i)::own VlT v25 (o17.mt::o17.vals)::blkA g22 #[iw id,iw (obSize o17),iw 0,rx,(.slice none 0 0)] 46::blkA g1 #[iw 0,iw 0,iw 0,(.slice none 0 0),(.slice none 0 0)] 46::F) ?_ (fun _ _=>?_)
  .refine k_reg<|sP (iw weak)<|sL t_cmp<|sP (.bool (decide ((0:Int)≤weak)))<|s_fork 60 (decide ((0:Int)≤weak)) (fun c55=>?_) (fun c55=>?_)
   .have p56:=dY c55;refine sP (iw weak)<|sL t_cmp<|sP (.bool (decide (weak≤3)))<|s_nil ?_
    exact xs_cut () trivial (sub_of rfl (rQ (rQ (rQ (rQ ⟨⟨rfl,show Value.bool (decide (weak≤3))=Value.bool ((decide ((0:Int)≤weak))&&(decide (weak≤3))) by first|(simp only[c55,bls];done)|simp[c55]⟩,trivial⟩))))) (rr [0,0,0,0,0,0,0,0,0,0,0] [])
   have p57:=dF c55;refine sK<|sK<|sP (.bool false)<|s_nil ?_
   exact xs_cut () trivial (sub_of rfl (rQ (rQ (rQ (rQ ⟨⟨rfl,show Value.bool false=Value.bool ((decide ((0:Int)≤weak))&&(decide (weak≤3))) by first|(simp only[c55,bls];done)|simp[c55]⟩,trivial⟩))))) (rr [0,0,0,0,0,0,0,0,0,0,0] [])
  refine k_cond ((decide ((0:Int)≤weak))&&(decide (weak≤3))) (fun c58=>?_) (fun c58=>?_)
  .obtain ⟨c59,c60⟩:=and_t c58;have p61:=dY c59;have p62:=dY c60;refine k_reg<|sP (iw weak)<|sP (pB g22 2)<|s_store 9 #[iw id,iw (obSize o17),iw weak,rx,(.slice none 0 0)] ?_
   refine s_nt<|k_reg<|sP2 (pB q18.1 0)<|sP (pB q18.1 3)<|sL (Lt.to (v':=ptrV q18.2) (t_load 0 (tabV q18 o17)) (by unfold tabV;rw[if_pos (dY c53)]))<|s_mem (fun _ h=>tabO_open (dY c53) (h.re [2] [])) ?_
   refine s_call [0] (entries_s (L:=o17.tab.list) (S:=o17.tab.rest) (hi49.obs o17 (get_mem ho19).1).tab (hw.of ho19).tw ol ol) ?_;rintro v63 _ rfl;refine sF 0 (fun hf64=>?_);refine sP (pB g22 4)<|s_store (u:=v63) (m:=1) 10 #[iw id,iw (obSize o17),iw weak,rx,v63] ?_ (hm:=by (obtain⟨_,_,e⟩:=hf64;rw[e];rfl)) (h1:=by (obtain⟨_,_,e⟩:=hf64;rw[e];rfl)) (ha':=by (obtain⟨_,_,e⟩:=hf64;rw[e];rfl))
   refine s_nr<|sL (t_loadA 10 #[iw id,iw (obSize o17),iw weak,rx,v63])<|sF 8 (fun hf65=>?_)
   refine s_store (u:=.agg #[iw id,iw (obSize o17),iw weak,rx,v63]) (m:=5) 11 #[iw id,iw (obSize o17),iw weak,rx,v63] ?_ (hm:=by (obtain⟨_,_,e⟩:=hf65;rw[e];obtain⟨_,_,e⟩:=hf64;rw[e];rfl)) (h1:=by (obtain⟨_,_,e⟩:=hf65;rw[e];obtain⟨_,_,e⟩:=hf64;rw[e];rfl)) (ha':=by (obtain⟨_,_,e⟩:=hf65;rw[e];obtain⟨_,_,e⟩:=hf64;rw[e];rfl));refine sP (.bool true)<|s_nt<|k_ret<|xs_mem (fun _ h=>tabO_shut (T:=o17.tab) (dY c53) (h.re [1] [])) ?_
   refine xs_mem (Bs:=tabO q18 o17::own EntT v63 (entsOf ⟨o17.tab.list,o17.tab.rest⟩)::blkA q18.1 #[iw o17.kind,iw o17.tag,sw o17.name,(tabV q18 o17),iw o17.mt.kind,iw o17.mt.p,iw o17.mt.q,sw o17.mt.str,iw o17.mt.ref,v52] 90::own VlT v52 o17.vals::holeP ps5 st id::blkA b #[.map (some mb46),iw (st.objs.length:Int),.map (some tb47)] 64::mpA iK oV mb46 ps5::mpA iK bV tb47 tm48::own iTy rx (refsL (o17.mt::o17.vals) i)::own VlT v25 (o17.mt::o17.vals)::blkA g22 #[iw id,iw (obSize o17),iw weak,rx,v63] 46::blkA g1 #[iw id,iw (obSize o17),iw weak,rx,v63] 46::F) (fun _ h=>h) ?_;refine xs_fact (fun H h=>(h.mp (i:=6) rfl).nodup) (fun hnd66=>?_);refine xs_mem (fun _ h=>(put_same ho19)▸all_unfocus (o':=o17) hnd66 hq20 ho19 (ob_shut (o:=o17) (h.re [2,2,0,1] []))) ?_;refine xs_mem (Bs:=allP ps5 st::own EntT v63 (entsOf ⟨o17.tab.list,o17.tab.rest⟩)::blkA b #[.map (some mb46),iw (st.objs.length:Int),.map (some tb47)] 64::mpA iK oV mb46 ps5::mpA iK bV tb47 tm48::own iTy rx (refsL (o17.mt::o17.vals) i)::own VlT v25 (o17.mt::o17.vals)::blkA g22 #[iw id,iw (obSize o17),iw weak,rx,v63] 46::blkA g1 #[iw id,iw (obSize o17),iw weak,rx,v63] 46::F) (fun _ h=>h) ?_;refine xs_mem (fun _ h=>hp_shut (st:=st) (n:=(st.objs.length:Int)) ⟨⟨hi49,ha50,ht51⟩,rfl⟩ (h.re [2,2,2,0] [])) ?_;refine xs_mem (fun _ h=>hpA_shut (h.re [0] [])) ?_;have hend:refsL (o17.mt::o17.vals) i=refsOf o17:=refsL_end om;have hob:=obj_some ho19 weak;have hwk:hweak o17 weak=weak:=by unfold hweak;rw[if_pos ⟨(dY c53),by omega,by omega⟩]
   have hen:hents st id=entsOf o17.tab:=by rw[hob.2.2.2.2.2];exact if_pos (dY c53)
   exact xs_fin [.agg #[iw id,iw (obSize o17),iw weak,rx,v63],.bool true] (own iTy rx (refsL (o17.mt::o17.vals) i)::own EntT v63 (entsOf o17.tab)::hpA b st::F) (SI.agg 6 46 5 (SI.tmp 7 SI.nil)) (rr [2,1,0] [3,3,3]) ⟨rx,v63,by rw[hob.1,hob.2.1,hob.2.2.1,hob.2.2.2.1,hwk];rfl,by rw[hen,hob.2.2.2.2.1,hend]⟩
  have p67:=c58;simp only[Bool.and_eq_true,Bool.or_eq_true,Bool.and_eq_false_iff,Bool.or_eq_false_iff,Bool.not_eq_true',Bool.not_eq_false',decide_eq_true_eq,decide_eq_false_iff_not]at p67;refine k_st<|k_reg<|sP2 (pB q18.1 0)<|sP (pB q18.1 3)<|sL (Lt.to (v':=ptrV q18.2) (t_load 0 (tabV q18 o17)) (by unfold tabV;rw[if_pos (dY c53)]))<|s_mem (fun _ h=>tabO_open (dY c53) (h.re [2] [])) ?_
  refine s_call [0] (entries_s (L:=o17.tab.list) (S:=o17.tab.rest) (hi49.obs o17 (get_mem ho19).1).tab (hw.of ho19).tw ol ol) ?_;rintro v68 _ rfl;refine sF 0 (fun hf69=>?_);refine sP (pB g22 4)<|s_store (u:=v68) (m:=1) 10 #[iw id,iw (obSize o17),iw 0,rx,v68] ?_ (hm:=by (obtain⟨_,_,e⟩:=hf69;rw[e];rfl)) (h1:=by (obtain⟨_,_,e⟩:=hf69;rw[e];rfl)) (ha':=by (obtain⟨_,_,e⟩:=hf69;rw[e];rfl))
  refine s_nr<|sL (t_loadA 10 #[iw id,iw (obSize o17),iw 0,rx,v68])<|sF 8 (fun hf70=>?_)
  refine s_store (u:=.agg #[iw id,iw (obSize o17),iw 0,rx,v68]) (m:=5) 11 #[iw id,iw (obSize o17),iw 0,rx,v68] ?_ (hm:=by (obtain⟨_,_,e⟩:=hf70;rw[e];obtain⟨_,_,e⟩:=hf69;rw[e];rfl)) (h1:=by (obtain⟨_,_,e⟩:=hf70;rw[e];obtain⟨_,_,e⟩:=hf69;rw[e];rfl)) (ha':=by (obtain⟨_,_,e⟩:=hf70;rw[e];obtain⟨_,_,e⟩:=hf69;rw[e];rfl));refine sP (.bool true)<|s_nt<|k_ret<|xs_mem (fun _ h=>tabO_shut (T:=o17.tab) (dY c53) (h.re [1] [])) ?_
  refine xs_mem (Bs:=tabO q18 o17::own EntT v68 (entsOf ⟨o17.tab.list,o17.tab.rest⟩)::blkA q18.1 #[iw o17.kind,iw o17.tag,sw o17.name,(tabV q18 o17),iw o17.mt.kind,iw o17.mt.p,iw o17.mt.q,sw o17.mt.str,iw o17.mt.ref,v52] 90::own VlT v52 o17.vals::holeP ps5 st id::blkA b #[.map (some mb46),iw (st.objs.length:Int),.map (some tb47)] 64::mpA iK oV mb46 ps5::mpA iK bV tb47 tm48::own iTy rx (refsL (o17.mt::o17.vals) i)::own VlT v25 (o17.mt::o17.vals)::blkA g22 #[iw id,iw (obSize o17),iw 0,rx,v68] 46::blkA g1 #[iw id,iw (obSize o17),iw 0,rx,v68] 46::F) (fun _ h=>h) ?_;refine xs_fact (fun H h=>(h.mp (i:=6) rfl).nodup) (fun hnd71=>?_);refine xs_mem (fun _ h=>(put_same ho19)▸all_unfocus (o':=o17) hnd71 hq20 ho19 (ob_shut (o:=o17) (h.re [2,2,0,1] []))) ?_;refine xs_mem (Bs:=allP ps5 st::own EntT v68 (entsOf ⟨o17.tab.list,o17.tab.rest⟩)::blkA b #[.map (some mb46),iw (st.objs.length:Int),.map (some tb47)] 64::mpA iK oV mb46 ps5::mpA iK bV tb47 tm48::own iTy rx (refsL (o17.mt::o17.vals) i)::own VlT v25 (o17.mt::o17.vals)::blkA g22 #[iw id,iw (obSize o17),iw 0,rx,v68] 46::blkA g1 #[iw id,iw (obSize o17),iw 0,rx,v68] 46::F) (fun _ h=>h) ?_;refine xs_mem (fun _ h=>hp_shut (st:=st) (n:=(st.objs.length:Int)) ⟨⟨hi49,ha50,ht51⟩,rfl⟩ (h.re [2,2,2,0] [])) ?_;refine xs_mem (fun _ h=>hpA_shut (h.re [0] [])) ?_;have hend:refsL (o17.mt::o17.vals) i=refsOf o17:=refsL_end om;have hob:=obj_some ho19 weak;have hwk:hweak o17 weak=0:=by unfold hweak;rw[if_neg];rintro⟨h1,h2,h3⟩;omega
  have hen:hents st id=entsOf o17.tab:=by rw[hob.2.2.2.2.2];exact if_pos (dY c53)
  exact xs_fin [.agg #[iw id,iw (obSize o17),iw 0,rx,v68],.bool true] (own iTy rx (refsL (o17.mt::o17.vals) i)::own EntT v68 (entsOf o17.tab)::hpA b st::F) (SI.agg 6 46 5 (SI.tmp 7 SI.nil)) (rr [2,1,0] [3,3,3]) ⟨rx,v68,by rw[hob.1,hob.2.1,hob.2.2.1,hob.2.2.2.1,hwk];rfl,by rw[hen,hob.2.2.2.2.1,hend]⟩
 have p72:=dF c53;refine k_st<|k_sr<|sL (t_loadA 9 #[iw id,iw (obSize o17),iw 0,rx,(.slice none 0 0)])<|sF 7 (fun hf73=>?_)
 refine s_store (u:=.agg #[iw id,iw (obSize o17),iw 0,rx,(.slice none 0 0)]) (m:=5) 10 #[iw id,iw (obSize o17),iw 0,rx,(.slice none 0 0)] ?_ (hm:=by (obtain⟨_,_,e⟩:=hf73;rw[e];rfl)) (h1:=by (obtain⟨_,_,e⟩:=hf73;rw[e];rfl)) (ha':=by (obtain⟨_,_,e⟩:=hf73;rw[e];rfl));refine sP (.bool true)<|s_nt<|k_ret<|xs_fact (fun H h=>(h.mp (i:=5) rfl).nodup) (fun hnd74=>?_)
 refine xs_mem (fun _ h=>(put_same ho19)▸all_unfocus (o':=o17) hnd74 hq20 ho19 (ob_shut (o:=o17) (h.re [0,0,0,0] []))) ?_;refine xs_mem (Bs:=allP ps5 st::blkA b #[.map (some mb46),iw (st.objs.length:Int),.map (some tb47)] 64::mpA iK oV mb46 ps5::mpA iK bV tb47 tm48::own iTy rx (refsL (o17.mt::o17.vals) i)::own VlT v25 (o17.mt::o17.vals)::blkA g22 #[iw id,iw (obSize o17),iw 0,rx,(.slice none 0 0)] 46::blkA g1 #[iw id,iw (obSize o17),iw 0,rx,(.slice none 0 0)] 46::F) (fun _ h=>h) ?_;refine xs_mem (fun _ h=>hp_shut (st:=st) (n:=(st.objs.length:Int)) ⟨⟨hi49,ha50,ht51⟩,rfl⟩ (h.re [1,1,1,0] [])) ?_;refine xs_mem (fun _ h=>Holds.nilS (T:=EntT) h) ?_;refine xs_mem (fun _ h=>hpA_shut (h.re [1] [])) ?_;have hend:refsL (o17.mt::o17.vals) i=refsOf o17:=refsL_end om;have hob:=obj_some ho19 weak;have hwk:hweak o17 weak=0:=by unfold hweak;rw[if_neg];rintro⟨h1,h2,h3⟩;exact absurd h1 (dF c53)
 have hen:hents st id=[]:=by rw[hob.2.2.2.2.2];exact if_neg (dF c53)
 exact xs_fin [.agg #[iw id,iw (obSize o17),iw 0,rx,(.slice none 0 0)],.bool true] (own iTy rx (refsL (o17.mt::o17.vals) i)::own EntT (.slice none 0 0) []::hpA b st::F) (SI.agg 6 46 5 (SI.tmp 7 SI.nil)) (rr [2,1,0] [3,3,3]) ⟨rx,(.slice none 0 0),by rw[hob.1,hob.2.1,hob.2.2.1,hob.2.2.2.1,hwk];rfl,by rw[hen,hob.2.2.2.2.1,hend]⟩
end Go.Proofs.YtmilekfknhglkaaGreat
end
section
set_option linter.unusedSimpArgs false
set_option linter.unusedVariables false
namespace Go.Proofs.YtmilekfknhglkaaGreat
structure Sv where
 p:Option Addr
 len:Nat
 cap:Nat
abbrev Sv.v(s:Sv):Value:=.slice s.p s.len s.cap
structure Cl where
 kind:Int
 a:Vl
 b:Vl
 c:Vl
 n:Int
 s:ByteArray
 lv:Sv
 l:List Vl
structure Rs where
 v:Vl
 w:Vl
 n:Int
 s:ByteArray
 ok:Bool
 e:Int
 deriving DecidableEq
def hcall(st:Hst)(c:Cl):Hst:=
 if c.kind=0 then hmake st (newO 4 0 eb []) else
 if c.kind=1 then hmake st (newO 5 c.n eb []) else
 if c.kind=2 then hmake st (newO 7 c.n eb []) else
 if c.kind=3 then hdata st c.s else
 if c.kind=4 then st else
 if c.kind=5 then hset st c.a c.b c.c else
 if c.kind=6 then st else
 if c.kind=7 then st else
 if c.kind=8 then hins st c.a c.n c.c else
 if c.kind=9 then hrem st c.a c.n else
 if c.kind=10 then hsetMeta st c.a c.b else
 if c.kind=11 then st else
 if c.kind=12 then hsetSlot st c.a c.n c.c else
 if c.kind=13 then hsetRefs st c.a c.l else
 if c.kind=14 then hdrop st c.n else
 if c.kind=15 then st else
 if c.kind=16 then st else
 if c.kind=17 then st else
 st
def hres(st:Hst)(c:Cl):Rs:=
 if c.kind=0 then ⟨hmakeV st 4,zVl,0,eb,false,hmakeE st⟩ else
 if c.kind=1 then ⟨hmakeV st 5,zVl,0,eb,false,hmakeE st⟩ else
 if c.kind=2 then ⟨hmakeV st 7,zVl,0,eb,false,hmakeE st⟩ else
 if c.kind=3 then ⟨hdataV st c.s,zVl,0,eb,false,hdataE st c.s⟩ else
 if c.kind=4 then ⟨hgetV st c.a c.b,zVl,0,eb,false,hgetE st c.a⟩ else
 if c.kind=5 then ⟨zVl,zVl,0,eb,false,hsetE st c.a c.b c.c⟩ else
 if c.kind=6 then ⟨zVl,zVl,hlenV st c.a,eb,false,hgetE st c.a⟩ else
 if c.kind=7 then ⟨(hnext st c.a c.b).1,(hnext st c.a c.b).2.1,0,eb,(hnext st c.a c.b).2.2.1,(hnext st c.a c.b).2.2.2⟩ else
 if c.kind=8 then ⟨zVl,zVl,0,eb,false,hinsE st c.a c.n c.c⟩ else
 if c.kind=9 then ⟨hremV st c.a c.n,zVl,0,eb,false,hremE st c.a c.n⟩ else
 if c.kind=10 then ⟨zVl,zVl,0,eb,false,hsetMetaE st c.a c.b⟩ else
 if c.kind=11 then ⟨hslotV st c.a c.n,zVl,0,eb,false,hslotE st c.a c.n⟩ else
 if c.kind=12 then ⟨zVl,zVl,0,eb,false,hsetSlotE st c.a c.n c.c⟩ else
 if c.kind=13 then ⟨zVl,zVl,0,eb,false,hsetRefsE st c.a c.l⟩ else
 if c.kind=14 then ⟨zVl,zVl,0,eb,false,hdropE st c.n⟩ else
 if c.kind=15 then ⟨zVl,zVl,(htagV st c.a).1,eb,(htagV st c.a).2,0⟩ else
 if c.kind=16 then ⟨zVl,zVl,0,(hnameV st c.a).1,(hnameV st c.a).2,0⟩ else
 if c.kind=17 then ⟨hmeta st c.a,zVl,0,eb,false,0⟩ else
 ⟨zVl,zVl,0,eb,halive st c.n,0⟩
section
variable{st:Hst}{c:Cl}{n:Nat}
theorem hdata_cases(st:Hst)(name:ByteArray):(40<(name.size:Int)∧hdata st name=st∧hdataE st name=14∧hdataV st name=zVl)∨(¬40<(name.size:Int)∧hdata st name=hmake st (newO 8 0 name (List.replicate 16 zVl))∧hdataE st name=hmakeE st∧hdataV st name=hmakeV st 8):=by
 unfold hdata hdataE hdataV;by_cases h:40<(name.size:Int)
 .exact .inl ⟨h,if_pos h,if_pos h,if_pos h⟩
 exact .inr ⟨h,if_neg h,if_neg h,if_neg h⟩
theorem hdata_inv'(h:HInv st)(name:ByteArray):HInv (hdata st name):=by
 rcases hdata_cases st name with ⟨_,e,_⟩|⟨_,e,_⟩<;>rw[e]
 .exact h
 exact hmake_inv h (newO_inv _ _ _ (by decide))
theorem hdata_sm'(h:HSm n st)(name:ByteArray):HSm (n+1) (hdata st name):=by
 rcases hdata_cases st name with ⟨_,e,_⟩|⟨_,e,_⟩<;>rw[e]
 .exact h.mono om
 exact hmake_sm h rfl (by simp[newO])
theorem hdata_w(h:HW st)(name:ByteArray):HW (hdata st name):=by
 rcases hdata_cases st name with ⟨_,e,_⟩|⟨_,e,_⟩<;>rw[e]
 .exact h
 exact h.make (data_w name)
theorem hcall_0(h:c.kind=0):hcall st c=hmake st (newO 4 0 eb []):=by unfold hcall;rw[if_pos h]
theorem hres_0(h:c.kind=0):hres st c=⟨hmakeV st 4,zVl,0,eb,false,hmakeE st⟩:=by unfold hres;rw[if_pos h]
theorem hcall_1(h:c.kind=1):hcall st c=hmake st (newO 5 c.n eb []):=by unfold hcall;rw[if_neg om,if_pos h]
theorem hres_1(h:c.kind=1):hres st c=⟨hmakeV st 5,zVl,0,eb,false,hmakeE st⟩:=by unfold hres;rw[if_neg om,if_pos h]
theorem hcall_2(h:c.kind=2):hcall st c=hmake st (newO 7 c.n eb []):=by unfold hcall;rw[if_neg om,if_neg om,if_pos h]
theorem hres_2(h:c.kind=2):hres st c=⟨hmakeV st 7,zVl,0,eb,false,hmakeE st⟩:=by unfold hres;rw[if_neg om,if_neg om,if_pos h]
theorem hcall_3(h:c.kind=3):hcall st c=hdata st c.s:=by unfold hcall;rw[if_neg om,if_neg om,if_neg om,if_pos h]
theorem hres_3(h:c.kind=3):hres st c=⟨hdataV st c.s,zVl,0,eb,false,hdataE st c.s⟩:=by unfold hres;rw[if_neg om,if_neg om,if_neg om,if_pos h]
theorem hcall_4(h:c.kind=4):hcall st c=st:=by unfold hcall;rw[if_neg om,if_neg om,if_neg om,if_neg om,if_pos h]
theorem hres_4(h:c.kind=4):hres st c=⟨hgetV st c.a c.b,zVl,0,eb,false,hgetE st c.a⟩:=by unfold hres;rw[if_neg om,if_neg om,if_neg om,if_neg om,if_pos h]
theorem hcall_5(h:c.kind=5):hcall st c=hset st c.a c.b c.c:=by unfold hcall;rw[if_neg om,if_neg om,if_neg om,if_neg om,if_neg om,if_pos h]
theorem hres_5(h:c.kind=5):hres st c=⟨zVl,zVl,0,eb,false,hsetE st c.a c.b c.c⟩:=by unfold hres;rw[if_neg om,if_neg om,if_neg om,if_neg om,if_neg om,if_pos h]
theorem hcall_6(h:c.kind=6):hcall st c=st:=by unfold hcall;rw[if_neg om,if_neg om,if_neg om,if_neg om,if_neg om,if_neg om,if_pos h]
theorem hres_6(h:c.kind=6):hres st c=⟨zVl,zVl,hlenV st c.a,eb,false,hgetE st c.a⟩:=by unfold hres;rw[if_neg om,if_neg om,if_neg om,if_neg om,if_neg om,if_neg om,if_pos h]
theorem hcall_7(h:c.kind=7):hcall st c=st:=by unfold hcall;rw[if_neg om,if_neg om,if_neg om,if_neg om,if_neg om,if_neg om,if_neg om,if_pos h]
theorem hres_7(h:c.kind=7):hres st c=⟨(hnext st c.a c.b).1,(hnext st c.a c.b).2.1,0,eb,(hnext st c.a c.b).2.2.1,(hnext st c.a c.b).2.2.2⟩:=by unfold hres;rw[if_neg om,if_neg om,if_neg om,if_neg om,if_neg om,if_neg om,if_neg om,if_pos h]
theorem hcall_8(h:c.kind=8):hcall st c=hins st c.a c.n c.c:=by unfold hcall;rw[if_neg om,if_neg om,if_neg om,if_neg om,if_neg om,if_neg om,if_neg om,if_neg om,if_pos h]
theorem hres_8(h:c.kind=8):hres st c=⟨zVl,zVl,0,eb,false,hinsE st c.a c.n c.c⟩:=by unfold hres;rw[if_neg om,if_neg om,if_neg om,if_neg om,if_neg om,if_neg om,if_neg om,if_neg om,if_pos h]
theorem hcall_9(h:c.kind=9):hcall st c=hrem st c.a c.n:=by unfold hcall;rw[if_neg om,if_neg om,if_neg om,if_neg om,if_neg om,if_neg om,if_neg om,if_neg om,if_neg om,if_pos h]
theorem hres_9(h:c.kind=9):hres st c=⟨hremV st c.a c.n,zVl,0,eb,false,hremE st c.a c.n⟩:=by unfold hres;rw[if_neg om,if_neg om,if_neg om,if_neg om,if_neg om,if_neg om,if_neg om,if_neg om,if_neg om,if_pos h]
theorem hcall_10(h:c.kind=10):hcall st c=hsetMeta st c.a c.b:=by unfold hcall;rw[if_neg om,if_neg om,if_neg om,if_neg om,if_neg om,if_neg om,if_neg om,if_neg om,if_neg om,if_neg om,if_pos h]
theorem hres_10(h:c.kind=10):hres st c=⟨zVl,zVl,0,eb,false,hsetMetaE st c.a c.b⟩:=by unfold hres;rw[if_neg om,if_neg om,if_neg om,if_neg om,if_neg om,if_neg om,if_neg om,if_neg om,if_neg om,if_neg om,if_pos h]
theorem hcall_11(h:c.kind=11):hcall st c=st:=by unfold hcall;rw[if_neg om,if_neg om,if_neg om,if_neg om,if_neg om,if_neg om,if_neg om,if_neg om,if_neg om,if_neg om,if_neg om,if_pos h]
theorem hres_11(h:c.kind=11):hres st c=⟨hslotV st c.a c.n,zVl,0,eb,false,hslotE st c.a c.n⟩:=by unfold hres;rw[if_neg om,if_neg om,if_neg om,if_neg om,if_neg om,if_neg om,if_neg om,if_neg om,if_neg om,if_neg om,if_neg om,if_pos h]
theorem hcall_12(h:c.kind=12):hcall st c=hsetSlot st c.a c.n c.c:=by unfold hcall;rw[if_neg om,if_neg om,if_neg om,if_neg om,if_neg om,if_neg om,if_neg om,if_neg om,if_neg om,if_neg om,if_neg om,if_neg om,if_pos h]
theorem hres_12(h:c.kind=12):hres st c=⟨zVl,zVl,0,eb,false,hsetSlotE st c.a c.n c.c⟩:=by unfold hres;rw[if_neg om,if_neg om,if_neg om,if_neg om,if_neg om,if_neg om,if_neg om,if_neg om,if_neg om,if_neg om,if_neg om,if_neg om,if_pos h]
theorem hcall_13(h:c.kind=13):hcall st c=hsetRefs st c.a c.l:=by unfold hcall;rw[if_neg om,if_neg om,if_neg om,if_neg om,if_neg om,if_neg om,if_neg om,if_neg om,if_neg om,if_neg om,if_neg om,if_neg om,if_neg om,if_pos h]
theorem hres_13(h:c.kind=13):hres st c=⟨zVl,zVl,0,eb,false,hsetRefsE st c.a c.l⟩:=by unfold hres;rw[if_neg om,if_neg om,if_neg om,if_neg om,if_neg om,if_neg om,if_neg om,if_neg om,if_neg om,if_neg om,if_neg om,if_neg om,if_neg om,if_pos h]
theorem hcall_14(h:c.kind=14):hcall st c=hdrop st c.n:=by unfold hcall;rw[if_neg om,if_neg om,if_neg om,if_neg om,if_neg om,if_neg om,if_neg om,if_neg om,if_neg om,if_neg om,if_neg om,if_neg om,if_neg om,if_neg om,if_pos h]
theorem hres_14(h:c.kind=14):hres st c=⟨zVl,zVl,0,eb,false,hdropE st c.n⟩:=by unfold hres;rw[if_neg om,if_neg om,if_neg om,if_neg om,if_neg om,if_neg om,if_neg om,if_neg om,if_neg om,if_neg om,if_neg om,if_neg om,if_neg om,if_neg om,if_pos h]
theorem hcall_15(h:c.kind=15):hcall st c=st:=by unfold hcall;rw[if_neg om,if_neg om,if_neg om,if_neg om,if_neg om,if_neg om,if_neg om,if_neg om,if_neg om,if_neg om,if_neg om,if_neg om,if_neg om,if_neg om,if_neg om,if_pos h]
theorem hres_15(h:c.kind=15):hres st c=⟨zVl,zVl,(htagV st c.a).1,eb,(htagV st c.a).2,0⟩:=by unfold hres;rw[if_neg om,if_neg om,if_neg om,if_neg om,if_neg om,if_neg om,if_neg om,if_neg om,if_neg om,if_neg om,if_neg om,if_neg om,if_neg om,if_neg om,if_neg om,if_pos h]
theorem hcall_16(h:c.kind=16):hcall st c=st:=by unfold hcall;rw[if_neg om,if_neg om,if_neg om,if_neg om,if_neg om,if_neg om,if_neg om,if_neg om,if_neg om,if_neg om,if_neg om,if_neg om,if_neg om,if_neg om,if_neg om,if_neg om,if_pos h]
theorem hres_16(h:c.kind=16):hres st c=⟨zVl,zVl,0,(hnameV st c.a).1,(hnameV st c.a).2,0⟩:=by unfold hres;rw[if_neg om,if_neg om,if_neg om,if_neg om,if_neg om,if_neg om,if_neg om,if_neg om,if_neg om,if_neg om,if_neg om,if_neg om,if_neg om,if_neg om,if_neg om,if_neg om,if_pos h]
theorem hcall_17(h:c.kind=17):hcall st c=st:=by unfold hcall;rw[if_neg om,if_neg om,if_neg om,if_neg om,if_neg om,if_neg om,if_neg om,if_neg om,if_neg om,if_neg om,if_neg om,if_neg om,if_neg om,if_neg om,if_neg om,if_neg om,if_neg om,if_pos h]
theorem hres_17(h:c.kind=17):hres st c=⟨hmeta st c.a,zVl,0,eb,false,0⟩:=by unfold hres;rw[if_neg om,if_neg om,if_neg om,if_neg om,if_neg om,if_neg om,if_neg om,if_neg om,if_neg om,if_neg om,if_neg om,if_neg om,if_neg om,if_neg om,if_neg om,if_neg om,if_neg om,if_pos h]
theorem hcall_x(h:c.kind<0∨17<c.kind):hcall st c=st:=by unfold hcall;rw[if_neg om,if_neg om,if_neg om,if_neg om,if_neg om,if_neg om,if_neg om,if_neg om,if_neg om,if_neg om,if_neg om,if_neg om,if_neg om,if_neg om,if_neg om,if_neg om,if_neg om,if_neg om]
theorem hres_x(h:c.kind<0∨17<c.kind):hres st c=⟨zVl,zVl,0,eb,halive st c.n,0⟩:=by unfold hres;rw[if_neg om,if_neg om,if_neg om,if_neg om,if_neg om,if_neg om,if_neg om,if_neg om,if_neg om,if_neg om,if_neg om,if_neg om,if_neg om,if_neg om,if_neg om,if_neg om,if_neg om,if_neg om]
theorem kinds(c:Cl):c.kind=0∨c.kind=1∨c.kind=2∨c.kind=3∨c.kind=4∨c.kind=5∨c.kind=6∨c.kind=7∨c.kind=8∨c.kind=9∨c.kind=10∨c.kind=11∨c.kind=12∨c.kind=13∨c.kind=14∨c.kind=15∨c.kind=16∨c.kind=17∨(c.kind<0∨17<c.kind):=by omega
theorem hcall_inv(h:HInv st)(c:Cl):HInv (hcall st c):=by
 rcases kinds c with hk|hk|hk|hk|hk|hk|hk|hk|hk|hk|hk|hk|hk|hk|hk|hk|hk|hk|hk
 .rw [hcall_0 hk];exact hmake_inv h (newO_inv _ _ _ (by decide))
 .rw [hcall_1 hk];exact hmake_inv h (newO_inv _ _ _ (by decide))
 .rw [hcall_2 hk];exact hmake_inv h (newO_inv _ _ _ (by decide))
 .rw [hcall_3 hk];exact hdata_inv' h _
 .rw [hcall_4 hk];exact h
 .rw [hcall_5 hk];exact hset_inv h _ _ _
 .rw [hcall_6 hk];exact h
 .rw [hcall_7 hk];exact h
 .rw [hcall_8 hk];exact hins_inv h _ _ _
 .rw [hcall_9 hk];exact hrem_inv h _ _
 .rw [hcall_10 hk];exact hsetMeta_inv h _ _
 .rw [hcall_11 hk];exact h
 .rw [hcall_12 hk];exact setSlot_inv h _ _ _
 .rw [hcall_13 hk];exact setRefs_inv h _ _
 .rw [hcall_14 hk];exact drop_inv h _
 .rw [hcall_15 hk];exact h
 .rw [hcall_16 hk];exact h
 .rw [hcall_17 hk];exact h
 rw[hcall_x hk];exact h
theorem hcall_sm(hi:HInv st)(h:HSm n st)(c:Cl)(hl:c.l.length≤20):HSm (n+1) (hcall st c):=by
 rcases kinds c with hk|hk|hk|hk|hk|hk|hk|hk|hk|hk|hk|hk|hk|hk|hk|hk|hk|hk|hk
 .rw [hcall_0 hk];exact hmake_sm h rfl (by simp[newO])
 .rw [hcall_1 hk];exact hmake_sm h rfl (by simp[newO])
 .rw [hcall_2 hk];exact hmake_sm h rfl (by simp[newO])
 .rw [hcall_3 hk];exact hdata_sm' h _
 .rw [hcall_4 hk];exact h.mono om
 .rw [hcall_5 hk];exact hset_sm hi h _ _ _
 .rw [hcall_6 hk];exact h.mono om
 .rw [hcall_7 hk];exact h.mono om
 .rw [hcall_8 hk];exact hins_sm hi h _ _ _
 .rw [hcall_9 hk];exact hrem_sm hi h _ _
 .rw [hcall_10 hk];exact hsetMeta_sm h _ _
 .rw [hcall_11 hk];exact h.mono om
 .rw [hcall_12 hk];exact setSlot_sm h _ _ _
 .rw [hcall_13 hk];exact setRefs_sm h _ hl
 .rw [hcall_14 hk];exact drop_sm h _
 .rw [hcall_15 hk];exact h.mono om
 .rw [hcall_16 hk];exact h.mono om
 .rw [hcall_17 hk];exact h.mono om
 rw[hcall_x hk];exact h.mono om
theorem hcall_w(hi:HInv st)(h:HW st)(c:Cl):HW (hcall st c):=by
 rcases kinds c with hk|hk|hk|hk|hk|hk|hk|hk|hk|hk|hk|hk|hk|hk|hk|hk|hk|hk|hk
 .rw [hcall_0 hk];exact h.make (newO_w _ _ _ (fun _ hv=>(by cases hv)) (fun h8=>by cases h8))
 .rw [hcall_1 hk];exact h.make (newO_w _ _ _ (fun _ hv=>(by cases hv)) (fun h8=>by cases h8))
 .rw [hcall_2 hk];exact h.make (newO_w _ _ _ (fun _ hv=>(by cases hv)) (fun h8=>by cases h8))
 .rw [hcall_3 hk];exact hdata_w h _
 .rw [hcall_4 hk];exact h
 .rw [hcall_5 hk];exact HW.set hi h _ _ _
 .rw [hcall_6 hk];exact h
 .rw [hcall_7 hk];exact h
 .rw [hcall_8 hk];exact hins_w hi h _ _ _
 .rw [hcall_9 hk];exact hrem_w hi h _ _
 .rw [hcall_10 hk];exact setMeta_w h _ _
 .rw [hcall_11 hk];exact h
 .rw [hcall_12 hk];exact setSlot_w h _ _ _
 .rw [hcall_13 hk];exact setRefs_w h _ _
 .rw [hcall_14 hk];exact drop_w h _
 .rw [hcall_15 hk];exact h
 .rw [hcall_16 hk];exact h
 .rw [hcall_17 hk];exact h
 rw[hcall_x hk];exact h
def news(st:Hst)(c:Cl):Prop:=0≤c.kind∧c.kind≤3∧(hres st c).e=0
def hrun(l:List Cl):Nat→Hst
 | 0=>hp0
 | i+1=>match l[i]? with
  | some c=>hcall (hrun l i) c
  | none=>hrun l i
end
end Go.Proofs.YtmilekfknhglkaaGreat
end
section
set_option linter.unusedSimpArgs false
set_option linter.unusedVariables false
set_option maxRecDepth 100000
set_option maxHeartbeats 2000000
namespace Go.Proofs.YtmilekfknhglkaaGreat
open Go.Hp Go.J Go.S
open Go.Mem (Ty KTy blk elemAt pre suf blk_pre blk_suf aget aset strK aggDesc)
open Go.Mem (adel apos aget_aset aget_adel)
abbrev Cl.w(x:Cl):Value:=.agg #[iw x.kind,iw x.a.kind,iw x.a.p,iw x.a.q,sw x.a.str,iw x.a.ref,iw x.b.kind,iw x.b.p,iw x.b.q,sw x.b.str,iw x.b.ref,iw x.c.kind,iw x.c.p,iw x.c.q,sw x.c.str,iw x.c.ref,iw x.n,sw x.s,x.lv.v]
def ClT:Ty Cl:=⟨39,19,200,true,Cl.w,⟨0,zVl,zVl,zVl,0,eb,⟨none,0,0⟩,[]⟩⟩
theorem ClT_ok:ClT.Ok Tryz.prog:=ok_of ClT _ Tryz.t39 (by decide) (fun _=>rfl) (fun x u hu=>by simp[Ty.enc,ClT,Cl.w,Value.cells]at hu;rcases hu with rfl|rfl|rfl|rfl|rfl|rfl|rfl|rfl|rfl|rfl|rfl|rfl|rfl|rfl|rfl|rfl|rfl|rfl|rfl<;>rfl) (fun _=>rfl) Tryz.underlying39 rfl (fun h=>by cases h) (by kernel_rfl) (by kernel_rfl) (by kernel_rfl) (by kernel_rfl)
def Rs.w_(x:Rs):Value:=.agg #[iw x.v.kind,iw x.v.p,iw x.v.q,sw x.v.str,iw x.v.ref,iw x.w.kind,iw x.w.p,iw x.w.q,sw x.w.str,iw x.w.ref,iw x.n,sw x.s,.bool x.ok,iw x.e]
abbrev KnC(Z:Zone)(x:Cl):Prop:=Kn Z VlT x.lv.v x.l
structure KnL(Z:Zone)(lv:Value)(l:List Cl):Prop where
 obs:Kn Z ClT lv l
 each:∀x∈l,KnC Z x
theorem lstr_s{Z:Zone}(s:ByteArray):SF Tryz.prog 24 #[sw s] Z [] fun r Bs=>r=(strV s).v∧Bs=[]:=by
 refine sf_enter Tryz.func24 5 [(0,sw s)] (fun w0=>?_);refine k_sr<|s_alloc (.agg zc) zc (fun g1=>?_)
 refine s_nr<|sP (sw s)<|sL (t_kern (.agg #[iw 3,iw 0,iw 0,sw s,iw 0]))<|s_store 0 #[iw 3,iw 0,iw 0,sw s,iw 0] ?_
 refine s_nt<|k_ret ?_
 exact xs_fin [.agg #[iw 3,iw 0,iw 0,sw s,iw 0]] [] (SI.agg 2 32 0 SI.nil) (rr [] [0]) ⟨rfl,rfl⟩
def numV(n:Int):Vl:=⟨2,n,1,eb,0⟩
theorem lnum_s{Z:Zone}(n:Int):SF Tryz.prog 23 #[iw n] Z [] fun r Bs=>r=(numV n).v∧Bs=[]:=by
 refine sf_enter Tryz.func23 6 [(0,iw n)] (fun w0=>?_);refine k_sr<|s_alloc (.agg zc) zc (fun g1=>?_)
 refine s_nr<|sP (iw n)<|sL (t_kern (.agg #[iw n,iw 1]))<|sL (t_kern (.agg #[iw 2,iw n,iw 1,sw eb,iw 0]))<|s_store 0 #[iw 2,iw n,iw 1,sw eb,iw 0] ?_
 refine s_nt<|k_ret ?_
 exact xs_fin [.agg #[iw 2,iw n,iw 1,sw eb,iw 0]] [] (SI.agg 2 32 0 SI.nil) (rr [] [0]) ⟨rfl,rfl⟩
theorem awake_s{Z:Zone}:SF Tryz.prog 5 #[] Z [] fun r Bs=>r=.bool true∧Bs=[]:=by
 refine sf_enter Tryz.func5 99 [] (fun w0=>?_);refine k_sr<|sP (.bool false)<|s_nr<|s_pcall (fun _ h=>hnew_s) ?_
 rintro _ _ ⟨hb1,rfl,rfl⟩;refine sP (pB hb1 0)<|s_nt<|k_seq<|k_sr<|sP (pB hb1 0)<|sP (.bool false)<|s_nt<|k_false<|k_st<|k_sr<|sP (pB hb1 0)<|sC [0] (hnewtable_s (st:=hp0) (by have:=HSm.nil.len;omega)) ?_
 have hi2:=hmake_inv (o:=(newO 4 0 eb [])) HInv.nil (newO_inv _ _ _ (by decide));have hs3:=hmake_sm (o:=(newO 4 0 eb [])) HSm.nil rfl (by decide);have hw4:=HW.make (o:=(newO 4 0 eb [])) HW.nil (newO_w _ _ _ (fun _ hv=>(by cases hv)) (fun h8=>by cases h8));refine sP (.tuple #[.agg (vc (hmakeV hp0 4)),iw (hmakeE hp0)])<|sP (.agg (vc (hmakeV hp0 4)))<|sP (iw (hmakeE hp0))<|s_alloc (.agg zc) zc (fun g5=>?_)
 refine s_store 0 (vc (hmakeV hp0 4)) ?_;refine sP (iw (hmakeE hp0))<|s_nt<|k_seq<|k_seq<|k_held [blkA g5 (vc (hmakeV hp0 4)) 32] ?_
 refine hp_ 0 [0] (iw (hmakeE hp0)) ?_;refine h_l 1 rfl [0] (fun _=>(Lt.to t_cmp (cB ((by kernel_rfl):(decide ((hmakeE hp0)≠0))=false)))) ?_;refine hp_ 2 [0] (.bool false) ?_;refine h_l 3 rfl [0] (fun _=>(t_loadA 0 (vc (hmakeV hp0 4)))) ?_;refine h_l 4 rfl [0] (fun _=>(t_kern (.agg #[iw 4,iw 0,iw 0,sw eb,iw 1]))) ?_;refine h_l 5 rfl [0] (fun _=>(Lt.to (t_eqS (fun w=>(eqVlT (hmakeV hp0 4) (⟨4,0,0,eb,1⟩:Vl) w).2)) (cB ((congrArg Bool.not ((by kernel_rfl):(decide ((hmakeV hp0 4)=(⟨4,0,0,eb,1⟩:Vl)))=true)).trans rfl:(!(decide ((hmakeV hp0 4)=(⟨4,0,0,eb,1⟩:Vl))))=false)))) ?_;refine hp_ 6 [0] (.bool false) ?_;refine hp_ 7 [0] (.bool false) ?_;refine hp_ 8 [0] (pB hb1 0) ?_;refine h_l 9 rfl [0] (fun _=>(t_loadA 0 (vc (hmakeV hp0 4)))) ?_;refine h_stepS 10 ?_;refine sV (fun _ h=>lnum_s 1)<|nH [0]<|h_stepS 11 ?_
 refine sV (fun _ h=>lstr_s ⟨#[97]⟩)<|nH [0]<|h_stepS 12 ?_
 refine sC [1] (hset_s (st:=(hmake hp0 (newO 4 0 eb []))) hs3 om (hmakeV hp0 4) (numV 1) (strV ⟨#[97]⟩)) ?_;have hi6:=hset_inv hi2 (hmakeV hp0 4) (numV 1) (strV ⟨#[97]⟩);have hs7:=hset_sm hi2 hs3 (hmakeV hp0 4) (numV 1) (strV ⟨#[97]⟩);have hw8:=HW.set hi2 hw4 (hmakeV hp0 4) (numV 1) (strV ⟨#[97]⟩);refine nH [1]<|h_l 13 rfl [1] (fun _=>(Lt.to t_cmp (cB ((by kernel_rfl):(decide ((hsetE (hmake hp0 (newO 4 0 eb [])) (hmakeV hp0 4) (numV 1) (strV ⟨#[97]⟩))≠0))=false)))) ?_
 refine hp_ 14 [1] (.bool false) ?_;refine hp_ 15 [1] (.bool false) ?_;refine hp_ 16 [1] (pB hb1 0) ?_;refine h_l 17 rfl [1] (fun _=>(t_loadA 0 (vc (hmakeV hp0 4)))) ?_;refine h_l 18 rfl [1] (fun _=>(t_kern (.agg zc))) ?_;refine h_l 19 rfl [1] (fun _=>(t_loadA 0 (vc (hmakeV hp0 4)))) ?_;refine h_stepS 20 ?_;refine sC [0] (hset_s (st:=(hset (hmake hp0 (newO 4 0 eb [])) (hmakeV hp0 4) (numV 1) (strV ⟨#[97]⟩))) hs7 om (hmakeV hp0 4) zVl (hmakeV hp0 4)) ?_;have hi9:=hset_inv hi6 (hmakeV hp0 4) zVl (hmakeV hp0 4);have hs10:=hset_sm hi6 hs7 (hmakeV hp0 4) zVl (hmakeV hp0 4);have hw11:=HW.set hi6 hw8 (hmakeV hp0 4) zVl (hmakeV hp0 4);refine nH [1]<|h_l 21 rfl [1] (fun _=>(Lt.to t_cmp (cB ((by kernel_rfl):(decide ((hsetE (hset (hmake hp0 (newO 4 0 eb [])) (hmakeV hp0 4) (numV 1) (strV ⟨#[97]⟩)) (hmakeV hp0 4) zVl (hmakeV hp0 4))≠13))=false)))) ?_
 refine hp_ 22 [1] (.bool false) ?_;refine h_doneS ?_;refine xs_then<|k_false<|k_st<|k_seq<|k_held [blkA g5 (vc (hmakeV hp0 4)) 32] ?_
 refine hp_ 0 [1] (pB hb1 0) ?_;refine h_l 1 rfl [1] (fun _=>(t_loadA 0 (vc (hmakeV hp0 4)))) ?_;refine h_join (ι:=Nat) 2 #[true,true,true,true,true,true,true,true,false,false] (fun g12=>[(1,pB hb1 0),(2,pB g5 0),(4,pB g12 0),(45,.agg (vc (hgetV (hset (hset (hmake hp0 (newO 4 0 eb [])) (hmakeV hp0 4) (numV 1) (strV ⟨#[97]⟩)) (hmakeV hp0 4) zVl (hmakeV hp0 4)) (hmakeV hp0 4) (numV 1)))),(46,iw (hgetE (hset (hset (hmake hp0 (newO 4 0 eb [])) (hmakeV hp0 4) (numV 1) (strV ⟨#[97]⟩)) (hmakeV hp0 4) zVl (hmakeV hp0 4)) (hmakeV hp0 4)))]) (fun g12=>[blkA g12 zc 32,hpA hb1 (hset (hset (hmake hp0 (newO 4 0 eb [])) (hmakeV hp0 4) (numV 1) (strV ⟨#[97]⟩)) (hmakeV hp0 4) zVl (hmakeV hp0 4)),blkA g5 (vc (hmakeV hp0 4)) 32]) ?_ (fun hj15=>?_)
 .rintro g12;try dsimp only
  refine h_stepS 8 ?_;refine s_store 0 (vc (hgetV (hset (hset (hmake hp0 (newO 4 0 eb [])) (hmakeV hp0 4) (numV 1) (strV ⟨#[97]⟩)) (hmakeV hp0 4) zVl (hmakeV hp0 4)) (hmakeV hp0 4) (numV 1))) ?_;refine nH [2]<|hp_ 9 [2] (iw (hgetE (hset (hset (hmake hp0 (newO 4 0 eb [])) (hmakeV hp0 4) (numV 1) (strV ⟨#[97]⟩)) (hmakeV hp0 4) zVl (hmakeV hp0 4)) (hmakeV hp0 4))) ?_
  refine h_doneS ?_;refine xs_then<|k_sr<|sP (pB hb1 0)<|sL (t_loadA 2 (vc (hmakeV hp0 4)))<|sC [1] (hlen_s (st:=(hset (hset (hmake hp0 (newO 4 0 eb [])) (hmakeV hp0 4) (numV 1) (strV ⟨#[97]⟩)) (hmakeV hp0 4) zVl (hmakeV hp0 4))) hs10 om (hmakeV hp0 4)) ?_
  refine sP (.tuple #[iw (hlenV (hset (hset (hmake hp0 (newO 4 0 eb [])) (hmakeV hp0 4) (numV 1) (strV ⟨#[97]⟩)) (hmakeV hp0 4) zVl (hmakeV hp0 4)) (hmakeV hp0 4)),iw (hgetE (hset (hset (hmake hp0 (newO 4 0 eb [])) (hmakeV hp0 4) (numV 1) (strV ⟨#[97]⟩)) (hmakeV hp0 4) zVl (hmakeV hp0 4)) (hmakeV hp0 4))])<|sP (iw (hlenV (hset (hset (hmake hp0 (newO 4 0 eb [])) (hmakeV hp0 4) (numV 1) (strV ⟨#[97]⟩)) (hmakeV hp0 4) zVl (hmakeV hp0 4)) (hmakeV hp0 4)))<|sP (iw (hgetE (hset (hset (hmake hp0 (newO 4 0 eb [])) (hmakeV hp0 4) (numV 1) (strV ⟨#[97]⟩)) (hmakeV hp0 4) zVl (hmakeV hp0 4)) (hmakeV hp0 4)))<|sP (iw (hlenV (hset (hset (hmake hp0 (newO 4 0 eb [])) (hmakeV hp0 4) (numV 1) (strV ⟨#[97]⟩)) (hmakeV hp0 4) zVl (hmakeV hp0 4)) (hmakeV hp0 4)))<|sP (iw (hgetE (hset (hset (hmake hp0 (newO 4 0 eb [])) (hmakeV hp0 4) (numV 1) (strV ⟨#[97]⟩)) (hmakeV hp0 4) zVl (hmakeV hp0 4)) (hmakeV hp0 4)))<|s_nr<|sP (pB hb1 0)<|s_call [0] (htouched_s (st:=(hset (hset (hmake hp0 (newO 4 0 eb [])) (hmakeV hp0 4) (numV 1) (strV ⟨#[97]⟩)) (hmakeV hp0 4) zVl (hmakeV hp0 4))) hs10 om) ?_
  rintro v16 _ rfl;refine s_fact (fun H h=>((Acc.own (T:=iTy) (L:=(htchd (hset (hset (hmake hp0 (newO 4 0 eb [])) (hmakeV hp0 4) (numV 1) (strV ⟨#[97]⟩)) (hmakeV hp0 4) zVl (hmakeV hp0 4)))) 0 rfl) H h).form) (fun hf17=>?_);have hi18:=untch_inv hi9;have hs19:=untch_sm hs10;have hw20:=untch_w hw11;have htl21:(htchd (hset (hset (hmake hp0 (newO 4 0 eb [])) (hmakeV hp0 4) (numV 1) (strV ⟨#[97]⟩)) (hmakeV hp0 4) zVl (hmakeV hp0 4)))=[1]:=by kernel_rfl
  refine s_mem (Bs:=[own iTy v16 [1],hpA hb1 (huntch (hset (hset (hmake hp0 (newO 4 0 eb [])) (hmakeV hp0 4) (numV 1) (strV ⟨#[97]⟩)) (hmakeV hp0 4) zVl (hmakeV hp0 4))),blkA g12 (vc (hgetV (hset (hset (hmake hp0 (newO 4 0 eb [])) (hmakeV hp0 4) (numV 1) (strV ⟨#[97]⟩)) (hmakeV hp0 4) zVl (hmakeV hp0 4)) (hmakeV hp0 4) (numV 1))) 32,blkA g5 (vc (hmakeV hp0 4)) 32]) (fun _ h=>by rw[htl21]at h;exact h) ?_;refine sP v16<|s_nt<|k_seq<|k_held [blkA g12 (vc (hgetV (hset (hset (hmake hp0 (newO 4 0 eb [])) (hmakeV hp0 4) (numV 1) (strV ⟨#[97]⟩)) (hmakeV hp0 4) zVl (hmakeV hp0 4)) (hmakeV hp0 4) (numV 1))) 32,blkA g5 (vc (hmakeV hp0 4)) 32] ?_
  refine hp_ 0 [2,2] (iw (hgetE (hset (hset (hmake hp0 (newO 4 0 eb [])) (hmakeV hp0 4) (numV 1) (strV ⟨#[97]⟩)) (hmakeV hp0 4) zVl (hmakeV hp0 4)) (hmakeV hp0 4))) ?_;refine h_l 1 rfl [2,2] (fun _=>(Lt.to t_cmp (cB ((by kernel_rfl):(decide ((hgetE (hset (hset (hmake hp0 (newO 4 0 eb [])) (hmakeV hp0 4) (numV 1) (strV ⟨#[97]⟩)) (hmakeV hp0 4) zVl (hmakeV hp0 4)) (hmakeV hp0 4))=0))=true)))) ?_;refine hp_ 2 [2,2] (.bool true) ?_;refine h_l 3 rfl [2,2] (fun _=>(t_loadA 0 (vc (hgetV (hset (hset (hmake hp0 (newO 4 0 eb [])) (hmakeV hp0 4) (numV 1) (strV ⟨#[97]⟩)) (hmakeV hp0 4) zVl (hmakeV hp0 4)) (hmakeV hp0 4) (numV 1))))) ?_;refine h_stepS 4 ?_;refine sV (fun _ h=>lstr_s ⟨#[97]⟩)<|nH [2,2]<|h_l 5 rfl [2,2] (fun _=>(Lt.to (t_eqS (fun w=>(eqVlT (hgetV (hset (hset (hmake hp0 (newO 4 0 eb [])) (hmakeV hp0 4) (numV 1) (strV ⟨#[97]⟩)) (hmakeV hp0 4) zVl (hmakeV hp0 4)) (hmakeV hp0 4) (numV 1)) (strV ⟨#[97]⟩) w).1)) (cB ((by kernel_rfl):(decide ((hgetV (hset (hset (hmake hp0 (newO 4 0 eb [])) (hmakeV hp0 4) (numV 1) (strV ⟨#[97]⟩)) (hmakeV hp0 4) zVl (hmakeV hp0 4)) (hmakeV hp0 4) (numV 1))=(strV ⟨#[97]⟩)))=true)))) ?_
  refine hp_ 6 [2,2] (.bool true) ?_;refine hp_ 7 [2,2] (.bool true) ?_;refine hp_ 8 [2,2] (iw (hgetE (hset (hset (hmake hp0 (newO 4 0 eb [])) (hmakeV hp0 4) (numV 1) (strV ⟨#[97]⟩)) (hmakeV hp0 4) zVl (hmakeV hp0 4)) (hmakeV hp0 4))) ?_;refine h_l 9 rfl [2,2] (fun _=>(Lt.to t_cmp (cB ((by kernel_rfl):(decide ((hgetE (hset (hset (hmake hp0 (newO 4 0 eb [])) (hmakeV hp0 4) (numV 1) (strV ⟨#[97]⟩)) (hmakeV hp0 4) zVl (hmakeV hp0 4)) (hmakeV hp0 4))=0))=true)))) ?_;refine hp_ 10 [2,2] (.bool true) ?_;refine hp_ 11 [2,2] (.bool true) ?_;refine hp_ 12 [2,2] (iw (hlenV (hset (hset (hmake hp0 (newO 4 0 eb [])) (hmakeV hp0 4) (numV 1) (strV ⟨#[97]⟩)) (hmakeV hp0 4) zVl (hmakeV hp0 4)) (hmakeV hp0 4))) ?_;refine h_l 13 rfl [2,2] (fun _=>(Lt.to t_cmp (cB ((by kernel_rfl):(decide ((hlenV (hset (hset (hmake hp0 (newO 4 0 eb [])) (hmakeV hp0 4) (numV 1) (strV ⟨#[97]⟩)) (hmakeV hp0 4) zVl (hmakeV hp0 4)) (hmakeV hp0 4))=1))=true)))) ?_;refine hp_ 14 [2,2] (.bool true) ?_;refine hp_ 15 [2,2] (.bool true) ?_;refine hp_ 16 [2,2] (pB hb1 0) ?_;refine h_l 18 rfl [2,2] (fun _=>(t_loadA 1 (vc (hmakeV hp0 4)))) ?_;refine h_stepS 17 ?_;refine sV (fun _ h=>lnum_s 1)<|nH [2,2]<|h_stepS 19 ?_
  refine sC [1] (hsetmeta_s (st:=(huntch (hset (hset (hmake hp0 (newO 4 0 eb [])) (hmakeV hp0 4) (numV 1) (strV ⟨#[97]⟩)) (hmakeV hp0 4) zVl (hmakeV hp0 4)))) (numV 1) (hmakeV hp0 4)) ?_;have hi22:=hsetMeta_inv hi18 (numV 1) (hmakeV hp0 4);have hs23:=hsetMeta_sm hs19 (numV 1) (hmakeV hp0 4);have hw24:=setMeta_w hw20 (numV 1) (hmakeV hp0 4);refine nH [2,2]<|h_l 20 rfl [2,2] (fun _=>(Lt.to t_cmp (cB ((by kernel_rfl):(decide ((hsetMetaE (huntch (hset (hset (hmake hp0 (newO 4 0 eb [])) (hmakeV hp0 4) (numV 1) (strV ⟨#[97]⟩)) (hmakeV hp0 4) zVl (hmakeV hp0 4))) (numV 1) (hmakeV hp0 4))=8))=true)))) ?_
  refine hp_ 21 [2,2] (.bool true) ?_;refine hp_ 22 [2,2] (.bool true) ?_;refine hp_ 23 [2,2] (pB hb1 0) ?_;refine h_stepS 24 ?_;refine sC [0] (hcount_s (st:=(hsetMeta (huntch (hset (hset (hmake hp0 (newO 4 0 eb [])) (hmakeV hp0 4) (numV 1) (strV ⟨#[97]⟩)) (hmakeV hp0 4) zVl (hmakeV hp0 4))) (numV 1) (hmakeV hp0 4)))) ?_;refine nH [2,2]<|h_l 25 rfl [2,2] (fun _=>(Lt.to t_cmp (cB ((by kernel_rfl):(decide (((hsetMeta (huntch (hset (hset (hmake hp0 (newO 4 0 eb [])) (hmakeV hp0 4) (numV 1) (strV ⟨#[97]⟩)) (hmakeV hp0 4) zVl (hmakeV hp0 4))) (numV 1) (hmakeV hp0 4)).count:Int)=1))=true)))) ?_
  refine hp_ 26 [2,2] (.bool true) ?_;refine hp_ 27 [2,2] (.bool true) ?_;refine hp_ 28 [2,2] v16 ?_;refine h_stepS 29 ?_;refine sL (t_len iTy_ok Tryz.underlying42 (.own 1))<|nH [2,2]<|h_l 30 rfl [2,2] (fun _=>(Lt.to t_cmp (cB ((by kernel_rfl):(decide (([1].length:Int)=1))=true)))) ?_
  refine hp_ 31 [2,2] (.bool true) ?_;refine hp_ 32 [2,2] (.bool true) ?_;refine hp_ 33 [2,2] v16 ?_;refine h_stepS 34 ?_;refine sL (t_index iTy_ok Tryz.underlying42 (.own 1) 0 0 om ol om)<|nH [2,2]<|h_stepS 35 ?_
  refine sL (t_loadE iTy_ok (.own 1) rfl) ?_;refine nH [2,2]<|h_l 36 rfl [2,2] (fun _=>(t_cmp (c:=true))) ?_
  refine hp_ 37 [2,2] (.bool true) ?_;refine hp_ 38 [2,2] (.bool true) ?_;refine hp_ 39 [2,2] (pB hb1 0) ?_;refine h_stepS 40 ?_;refine s_call [0] (htouched_s (st:=(hsetMeta (huntch (hset (hset (hmake hp0 (newO 4 0 eb [])) (hmakeV hp0 4) (numV 1) (strV ⟨#[97]⟩)) (hmakeV hp0 4) zVl (hmakeV hp0 4))) (numV 1) (hmakeV hp0 4))) hs23 om) ?_;rintro v25 _ rfl;refine s_fact (fun H h=>((Acc.own (T:=iTy) (L:=(htchd (hsetMeta (huntch (hset (hset (hmake hp0 (newO 4 0 eb [])) (hmakeV hp0 4) (numV 1) (strV ⟨#[97]⟩)) (hmakeV hp0 4) zVl (hmakeV hp0 4))) (numV 1) (hmakeV hp0 4)))) 0 rfl) H h).form) (fun hf26=>?_);have hi27:=untch_inv hi22;have hs28:=untch_sm hs23;have hw29:=untch_w hw24;have htl30:(htchd (hsetMeta (huntch (hset (hset (hmake hp0 (newO 4 0 eb [])) (hmakeV hp0 4) (numV 1) (strV ⟨#[97]⟩)) (hmakeV hp0 4) zVl (hmakeV hp0 4))) (numV 1) (hmakeV hp0 4)))=[]:=by kernel_rfl
  refine s_mem (Bs:=[own iTy v25 [],hpA hb1 (huntch (hsetMeta (huntch (hset (hset (hmake hp0 (newO 4 0 eb [])) (hmakeV hp0 4) (numV 1) (strV ⟨#[97]⟩)) (hmakeV hp0 4) zVl (hmakeV hp0 4))) (numV 1) (hmakeV hp0 4))),own iTy v16 [1],blkA g12 (vc (hgetV (hset (hset (hmake hp0 (newO 4 0 eb [])) (hmakeV hp0 4) (numV 1) (strV ⟨#[97]⟩)) (hmakeV hp0 4) zVl (hmakeV hp0 4)) (hmakeV hp0 4) (numV 1))) 32,blkA g5 (vc (hmakeV hp0 4)) 32]) (fun _ h=>by rw[htl30]at h;exact h) ?_;refine nH [3,3]<|h_stepS 41 ?_
  refine sL (t_len iTy_ok Tryz.underlying42 (.own 0))<|nH [3,3]<|h_l 42 rfl [3,3] (fun _=>(Lt.to t_cmp (cB ((by kernel_rfl):(decide (([].length:Int)=0))=true)))) ?_
  refine hp_ 43 [3,3] (.bool true) ?_;refine hp_ 44 [3,3] (.bool true) ?_;refine h_doneS ?_;refine xs_then<|k_ret ?_
  exact xs_fin [.bool true] [] (SI.tmp 0 SI.nil) (rr [] [0,0,0,0,0]) ⟨rfl,rfl⟩
 refine h_join (ι:=Nat) 6 #[true,true,true,false,false,false,false,true,false,false] (fun g13=>[(1,pB hb1 0),(2,pB g5 0),(4,pB g13 0),(41,pB hb1 0),(42,.agg (vc (hmakeV hp0 4))),(43,.agg (vc (numV 1)))]) (fun g13=>[blkA g13 zc 32,hpA hb1 (hset (hset (hmake hp0 (newO 4 0 eb [])) (hmakeV hp0 4) (numV 1) (strV ⟨#[97]⟩)) (hmakeV hp0 4) zVl (hmakeV hp0 4)),blkA g5 (vc (hmakeV hp0 4)) 32]) ?_ (fun hj31=>?_)
 .rintro g13;try dsimp only
  refine h_stepS 3 ?_;refine sC [1] (hget_s (st:=(hset (hset (hmake hp0 (newO 4 0 eb [])) (hmakeV hp0 4) (numV 1) (strV ⟨#[97]⟩)) (hmakeV hp0 4) zVl (hmakeV hp0 4))) hs10 om (hmakeV hp0 4) (numV 1)) ?_;refine nH [2]<|hp_ 4 [2] (.tuple #[.agg (vc (hgetV (hset (hset (hmake hp0 (newO 4 0 eb [])) (hmakeV hp0 4) (numV 1) (strV ⟨#[97]⟩)) (hmakeV hp0 4) zVl (hmakeV hp0 4)) (hmakeV hp0 4) (numV 1))),iw (hgetE (hset (hset (hmake hp0 (newO 4 0 eb [])) (hmakeV hp0 4) (numV 1) (strV ⟨#[97]⟩)) (hmakeV hp0 4) zVl (hmakeV hp0 4)) (hmakeV hp0 4))]) ?_
  refine hp_ 5 [2] (.agg (vc (hgetV (hset (hset (hmake hp0 (newO 4 0 eb [])) (hmakeV hp0 4) (numV 1) (strV ⟨#[97]⟩)) (hmakeV hp0 4) zVl (hmakeV hp0 4)) (hmakeV hp0 4) (numV 1)))) ?_;refine hp_ 6 [2] (iw (hgetE (hset (hset (hmake hp0 (newO 4 0 eb [])) (hmakeV hp0 4) (numV 1) (strV ⟨#[97]⟩)) (hmakeV hp0 4) zVl (hmakeV hp0 4)) (hmakeV hp0 4))) ?_;exact h_use hj15 g13 (rr [1,0,0] [])
 refine h_stepS2 2 7 ?_ ?_
 .refine sV (fun _ h=>lnum_s 1)<|nH [1]<|h_stepS2 3 7 ?_ ?_
  .refine sC [0] (hget_s (st:=(hset (hset (hmake hp0 (newO 4 0 eb [])) (hmakeV hp0 4) (numV 1) (strV ⟨#[97]⟩)) (hmakeV hp0 4) zVl (hmakeV hp0 4))) hs10 om (hmakeV hp0 4) (numV 1)) ?_;refine nH [1]<|hp_ 4 [1] (.tuple #[.agg (vc (hgetV (hset (hset (hmake hp0 (newO 4 0 eb [])) (hmakeV hp0 4) (numV 1) (strV ⟨#[97]⟩)) (hmakeV hp0 4) zVl (hmakeV hp0 4)) (hmakeV hp0 4) (numV 1))),iw (hgetE (hset (hset (hmake hp0 (newO 4 0 eb [])) (hmakeV hp0 4) (numV 1) (strV ⟨#[97]⟩)) (hmakeV hp0 4) zVl (hmakeV hp0 4)) (hmakeV hp0 4))]) ?_
   refine hp_ 5 [1] (.agg (vc (hgetV (hset (hset (hmake hp0 (newO 4 0 eb [])) (hmakeV hp0 4) (numV 1) (strV ⟨#[97]⟩)) (hmakeV hp0 4) zVl (hmakeV hp0 4)) (hmakeV hp0 4) (numV 1)))) ?_;refine hp_ 6 [1] (iw (hgetE (hset (hset (hmake hp0 (newO 4 0 eb [])) (hmakeV hp0 4) (numV 1) (strV ⟨#[97]⟩)) (hmakeV hp0 4) zVl (hmakeV hp0 4)) (hmakeV hp0 4))) ?_;refine h_stepS 7 ?_;refine s_alloc (.agg zc) zc (fun g32=>?_);refine nH [2] ?_;exact h_use hj15 g32 (rr [0,0,0] [])
  refine s_alloc (.agg zc) zc (fun g33=>?_);refine nH [2] ?_;exact h_use hj31 g33 (rr [0,0,0] [])
 refine s_alloc (.agg zc) zc (fun g34=>?_);refine nH [2]<|h_stepS 2 ?_
 refine sV (fun _ h=>lnum_s 1)<|nH [2] ?_
 exact h_use hj31 g34 (rr [0,0,0] [])
def shortC(c:Cl):Prop:=c.a.str.size≤4106∧c.b.str.size≤4106∧c.c.str.size≤4106∧c.s.size≤100∧c.l.length≤20
theorem short_step{l:List Cl}{i:Nat}{y:Cl}(h:∀x∈l.take i,shortC x)(hy:l[i]?=some y)(h2:shortC y):∀x∈l.take (i+1),shortC x:=fun x hx=>by
 rw[List.take_add_one,hy]at hx;rcases List.mem_append.1 hx with hx|hx
 .exact h x hx
 rw[Option.toList_some,List.mem_singleton]at hx;rw[hx];exact h2
theorem long_s{Z:Zone}{lv:Value}{l:List Cl}(hL:KnL Z lv l):SF Tryz.prog 4 #[lv] Z [] fun r Bs=>∃x,r=.bool x∧(x=false→l.length≤100∧∀x∈l,shortC x)∧Bs=[]:=by
 refine sf_enter Tryz.func4 69 [(0,lv)] (fun w0=>?_);refine k_sr<|sP (.bool false)<|s_nt<|k_seq<|k_sr<|sP (iw 0)<|s_nt<|k_block<|k_fact (fun H h=>(hL.obs.get h).len_le) (fun lA=>?_)
 refine k_loop (ι:=Nat) (fun i=>i≤100∧i≤l.length∧∀x∈l.take i,shortC x) (fun i=>[(0,lv),(3,iw (i:Int))]) (fun i=>[]) (fun i=>100-i) 0 ⟨by omega,by omega,by simp⟩ sA (rr [] []) ?_;rintro i hi1;show SK _ _ _ _ _ [(0,lv),(3,iw (i:Int))] _ [];refine k_seq<|k_cut (ι:=Unit) (fun _=>True) (fun _=>[(0,lv),(3,iw (i:Int)),(13,.bool ((decide ((i:Int)<(l.length:Int)))&&(decide ((i:Int)<100))))]) (fun _=>[]) ?_ (fun _ _=>?_)
 .refine k_reg<|sP (iw (i:Int))<|sP lv<|sL (t_len ClT_ok Tryz.underlying22 (.zn hL.obs))<|sL t_cmp<|sP (.bool (decide ((i:Int)<(l.length:Int))))<|s_fork 10 (decide ((i:Int)<(l.length:Int))) (fun c2=>?_) (fun c2=>?_)
  .have p3:=dY c2;refine sP (iw (i:Int))<|sL t_cmp<|sP (.bool (decide ((i:Int)<100)))<|s_nil ?_
   exact xs_cut () trivial (sub_of rfl (rQ (rQ ⟨⟨rfl,show Value.bool (decide ((i:Int)<100))=Value.bool ((decide ((i:Int)<(l.length:Int)))&&(decide ((i:Int)<100))) by first|(simp only[c2,bls];done)|simp[c2]⟩,trivial⟩))) (rr [] [])
  have p4:=dF c2;refine sK<|sK<|sP (.bool false)<|s_nil ?_
  exact xs_cut () trivial (sub_of rfl (rQ (rQ ⟨⟨rfl,show Value.bool false=Value.bool ((decide ((i:Int)<(l.length:Int)))&&(decide ((i:Int)<100))) by first|(simp only[c2,bls];done)|simp[c2]⟩,trivial⟩))) (rr [] [])
 refine k_cond ((decide ((i:Int)<(l.length:Int)))&&(decide ((i:Int)<100))) (fun c5=>?_) (fun c5=>?_)
 .obtain ⟨c6,c7⟩:=and_t c5;have p8:=dY c6;have p9:=dY c7;refine k_st<|k_seq<|k_block<|k_sr<|sP lv<|sP (iw (i:Int))<|sL (t_index ClT_ok Tryz.underlying22 (.zn hL.obs) (i:Int) i om ol om) ?_
  obtain⟨y10,hy11⟩:∃y,l[i]?=some y:=⟨_,List.getElem?_eq_getElem ol⟩;refine sL (t_loadE ClT_ok (.zn hL.obs) hy11)<|s_alloc (.agg #[iw 0,iw 0,iw 0,iw 0,sw eb,iw 0,iw 0,iw 0,iw 0,sw eb,iw 0,iw 0,iw 0,iw 0,sw eb,iw 0,iw 0,sw eb,(.slice none 0 0)]) #[iw 0,iw 0,iw 0,iw 0,sw eb,iw 0,iw 0,iw 0,iw 0,sw eb,iw 0,iw 0,iw 0,iw 0,sw eb,iw 0,iw 0,sw eb,(.slice none 0 0)] (fun g12=>?_)
  refine s_store 0 #[iw y10.kind,iw y10.a.kind,iw y10.a.p,iw y10.a.q,sw y10.a.str,iw y10.a.ref,iw y10.b.kind,iw y10.b.p,iw y10.b.q,sw y10.b.str,iw y10.b.ref,iw y10.c.kind,iw y10.c.p,iw y10.c.q,sw y10.c.str,iw y10.c.ref,iw y10.n,sw y10.s,y10.lv.v] ?_;refine s_nt<|k_seq<|k_cut (ι:=Unit) (fun _=>True) (fun _=>[(0,lv),(3,iw (i:Int)),(4,pB g12 0),(50,.bool ((decide ((4106:Int)<(y10.a.str.size:Int)))||((decide ((4106:Int)<(y10.b.str.size:Int)))||((decide ((4106:Int)<(y10.c.str.size:Int)))||((decide ((100:Int)<(y10.s.size:Int)))||(decide ((20:Int)<(y10.l.length:Int))))))))]) (fun _=>[blkA g12 #[iw y10.kind,iw y10.a.kind,iw y10.a.p,iw y10.a.q,sw y10.a.str,iw y10.a.ref,iw y10.b.kind,iw y10.b.p,iw y10.b.q,sw y10.b.str,iw y10.b.ref,iw y10.c.kind,iw y10.c.p,iw y10.c.q,sw y10.c.str,iw y10.c.ref,iw y10.n,sw y10.s,y10.lv.v] 39]) ?_ (fun _ _=>?_)
  .refine k_reg<|sP (pB g12 1)<|sP (pB g12 4)<|sL (t_load 0 (sw y10.a.str))<|sL (t_kern (iw (y10.a.str.size:Int)))<|sL t_cmp<|sP (.bool (decide ((4106:Int)<(y10.a.str.size:Int))))<|s_fork 25 (decide ((4106:Int)<(y10.a.str.size:Int))) (fun c13=>?_) (fun c13=>?_)
   .have p14:=dY c13;refine sK<|sK<|sK<|sK<|sK<|sP2 (.bool true)<|sK<|sK<|sK<|sK<|sK<|sP2 (.bool true)<|sK<|sK<|sK<|sK<|sP2 (.bool true)<|sK<|sK<|sK<|sK<|sP (.bool true)<|s_nil ?_
    exact xs_cut () trivial (sub_of rfl (rQ (rQ (rQ ⟨⟨rfl,show Value.bool true=Value.bool ((decide ((4106:Int)<(y10.a.str.size:Int)))||((decide ((4106:Int)<(y10.b.str.size:Int)))||((decide ((4106:Int)<(y10.c.str.size:Int)))||((decide ((100:Int)<(y10.s.size:Int)))||(decide ((20:Int)<(y10.l.length:Int))))))) by first|(simp only[c13,bls];done)|simp[c13]⟩,trivial⟩)))) (rr [0] [])
   have p15:=dF c13;refine sP (pB g12 6)<|sP (pB g12 9)<|sL (t_load 0 (sw y10.b.str))<|sL (t_kern (iw (y10.b.str.size:Int)))<|sL t_cmp<|sP2 (.bool (decide ((4106:Int)<(y10.b.str.size:Int))))<|s_fork 32 (decide ((4106:Int)<(y10.b.str.size:Int))) (fun c16=>?_) (fun c16=>?_)
   .have p17:=dY c16;refine sK<|sK<|sK<|sK<|sK<|sP2 (.bool true)<|sK<|sK<|sK<|sK<|sP2 (.bool true)<|sK<|sK<|sK<|sK<|sP (.bool true)<|s_nil ?_
    exact xs_cut () trivial (sub_of rfl (rQ (rQ (rQ ⟨⟨rfl,show Value.bool true=Value.bool ((decide ((4106:Int)<(y10.a.str.size:Int)))||((decide ((4106:Int)<(y10.b.str.size:Int)))||((decide ((4106:Int)<(y10.c.str.size:Int)))||((decide ((100:Int)<(y10.s.size:Int)))||(decide ((20:Int)<(y10.l.length:Int))))))) by first|(simp only[c13,c16,bls];done)|simp[c13,c16]⟩,trivial⟩)))) (rr [0] [])
   have p18:=dF c16;refine sP (pB g12 11)<|sP (pB g12 14)<|sL (t_load 0 (sw y10.c.str))<|sL (t_kern (iw (y10.c.str.size:Int)))<|sL t_cmp<|sP2 (.bool (decide ((4106:Int)<(y10.c.str.size:Int))))<|s_fork 39 (decide ((4106:Int)<(y10.c.str.size:Int))) (fun c19=>?_) (fun c19=>?_)
   .have p20:=dY c19;refine sK<|sK<|sK<|sK<|sP2 (.bool true)<|sK<|sK<|sK<|sK<|sP (.bool true)<|s_nil ?_
    exact xs_cut () trivial (sub_of rfl (rQ (rQ (rQ ⟨⟨rfl,show Value.bool true=Value.bool ((decide ((4106:Int)<(y10.a.str.size:Int)))||((decide ((4106:Int)<(y10.b.str.size:Int)))||((decide ((4106:Int)<(y10.c.str.size:Int)))||((decide ((100:Int)<(y10.s.size:Int)))||(decide ((20:Int)<(y10.l.length:Int))))))) by first|(simp only[c13,c16,c19,bls];done)|simp[c13,c16,c19]⟩,trivial⟩)))) (rr [0] [])
   have p21:=dF c19;refine sP (pB g12 17)<|sL (t_load 0 (sw y10.s))<|sL (t_kern (iw (y10.s.size:Int)))<|sL t_cmp<|sP2 (.bool (decide ((100:Int)<(y10.s.size:Int))))<|s_fork 45 (decide ((100:Int)<(y10.s.size:Int))) (fun c22=>?_) (fun c22=>?_)
   .have p23:=dY c22;refine sK<|sK<|sK<|sK<|sP (.bool true)<|s_nil ?_
    exact xs_cut () trivial (sub_of rfl (rQ (rQ (rQ ⟨⟨rfl,show Value.bool true=Value.bool ((decide ((4106:Int)<(y10.a.str.size:Int)))||((decide ((4106:Int)<(y10.b.str.size:Int)))||((decide ((4106:Int)<(y10.c.str.size:Int)))||((decide ((100:Int)<(y10.s.size:Int)))||(decide ((20:Int)<(y10.l.length:Int))))))) by first|(simp only[c13,c16,c19,c22,bls];done)|simp[c13,c16,c19,c22]⟩,trivial⟩)))) (rr [0] [])
   have p24:=dF c22;refine sP (pB g12 18)<|sL (t_load 0 y10.lv.v)<|sL (t_len VlT_ok Tryz.underlying37 (.zn (hL.each y10 (List.mem_of_getElem? hy11))))<|sL t_cmp<|sP (.bool (decide ((20:Int)<(y10.l.length:Int))))<|s_nil ?_
   exact xs_cut () trivial (sub_of rfl (rQ (rQ (rQ ⟨⟨rfl,show Value.bool (decide ((20:Int)<(y10.l.length:Int)))=Value.bool ((decide ((4106:Int)<(y10.a.str.size:Int)))||((decide ((4106:Int)<(y10.b.str.size:Int)))||((decide ((4106:Int)<(y10.c.str.size:Int)))||((decide ((100:Int)<(y10.s.size:Int)))||(decide ((20:Int)<(y10.l.length:Int))))))) by first|(simp only[c13,c16,c19,c22,bls];done)|simp[c13,c16,c19,c22]⟩,trivial⟩)))) (rr [0] [])
  refine k_cond ((decide ((4106:Int)<(y10.a.str.size:Int)))||((decide ((4106:Int)<(y10.b.str.size:Int)))||((decide ((4106:Int)<(y10.c.str.size:Int)))||((decide ((100:Int)<(y10.s.size:Int)))||(decide ((20:Int)<(y10.l.length:Int))))))) (fun c25=>?_) (fun c25=>?_)
  .have p26:=c25;simp only[Bool.and_eq_true,Bool.or_eq_true,Bool.and_eq_false_iff,Bool.or_eq_false_iff,Bool.not_eq_true',Bool.not_eq_false',decide_eq_true_eq,decide_eq_false_iff_not]at p26;refine k_sr<|sP (.bool true)<|s_nt<|k_ret<|xs_ret<|xs_retBlock<|xs_ret<|xs_ret<|xs_retBlock<|xs_ret ?_
   exact xs_fin [.bool true] [] (SI.tmp 2 SI.nil) (rr [] [0]) ⟨true,rfl,(fun h=>by cases h),rfl⟩
  obtain⟨c27,c28⟩:=or_f c25;have p29:=dF c27;obtain⟨c30,c31⟩:=or_f c28;have p32:=dF c30;obtain⟨c33,c34⟩:=or_f c31;have p35:=dF c33;obtain⟨c36,c37⟩:=or_f c34;have p38:=dF c36;have p39:=dF c37;refine k_st<|k_sr<|sP (iw 0)<|s_nt<|k_block<|k_loop (ι:=Nat) (fun j=>j≤y10.l.length) (fun j=>[(0,lv),(3,iw (i:Int)),(4,pB g12 0),(5,iw (j:Int))]) (fun j=>[blkA g12 #[iw y10.kind,iw y10.a.kind,iw y10.a.p,iw y10.a.q,sw y10.a.str,iw y10.a.ref,iw y10.b.kind,iw y10.b.p,iw y10.b.q,sw y10.b.str,iw y10.b.ref,iw y10.c.kind,iw y10.c.p,iw y10.c.q,sw y10.c.str,iw y10.c.ref,iw y10.n,sw y10.s,y10.lv.v] 39]) (fun j=>y10.l.length-j) 0 (Nat.zero_le _) sA (rr [0] []) ?_
  rintro j hi40;show SK _ _ _ _ _ [(0,lv),(3,iw (i:Int)),(4,.pointer (some ⟨g12,0,none⟩)),(5,iw (j:Int))] _ [blkA g12 #[iw y10.kind,iw y10.a.kind,iw y10.a.p,iw y10.a.q,sw y10.a.str,iw y10.a.ref,iw y10.b.kind,iw y10.b.p,iw y10.b.q,sw y10.b.str,iw y10.b.ref,iw y10.c.kind,iw y10.c.p,iw y10.c.q,sw y10.c.str,iw y10.c.ref,iw y10.n,sw y10.s,y10.lv.v] 39];refine k_seq<|k_sr<|sP (iw (j:Int))<|sP (pB g12 18)<|sL (t_load 0 y10.lv.v)<|sL (t_len VlT_ok Tryz.underlying37 (.zn (hL.each y10 (List.mem_of_getElem? hy11))))<|sL t_cmp<|s_nt<|k_cond (decide ((j:Int)<(y10.l.length:Int))) (fun c41=>?_) (fun c41=>?_)
  .have p42:=dY c41;refine k_st<|k_seq<|k_block<|k_sr<|sP (pB g12 18)<|sL (t_load 0 y10.lv.v)<|sP (iw (j:Int))<|sL (t_index VlT_ok Tryz.underlying37 (.zn (hL.each y10 (List.mem_of_getElem? hy11))) (j:Int) j om ol om)<|sP (.pointer (some ((elemAt VlT.size y10.lv.v j).add 3))) ?_
   obtain⟨y43,hy44⟩:∃y,y10.l[j]?=some y:=⟨_,List.getElem?_eq_getElem ol⟩;refine sL (t_loadF 3 VlT_ok (.zn (hL.each y10 (List.mem_of_getElem? hy11))) hy44)<|sL (t_kern (iw (y43.str.size:Int)))<|sL t_cmp<|s_nt<|k_cond (decide ((4106:Int)<(y43.str.size:Int))) (fun c45=>?_) (fun c45=>?_)
   .have p46:=dY c45;refine k_sr<|sP (.bool true)<|s_nt<|k_ret<|xs_retBlock<|xs_ret<|xs_ret<|xs_retBlock<|xs_retBlock<|xs_ret<|xs_ret<|xs_retBlock<|xs_ret ?_
    exact xs_fin [.bool true] [] (SI.tmp 2 SI.nil) (rr [] [0]) ⟨true,rfl,(fun h=>by cases h),rfl⟩
   have p47:=dF c45;refine k_skip<|xs_block<|xs_then<|k_reg<|sP (iw (j:Int))<|sL (t_add (j:Int) 1 ol)<|sP (iw ((j:Int)+1))<|s_nil ?_
   exact xs_round (j+1) om om sA (rr [0] [])
  have p48:=dF c41;refine k_exit<|xs_exit<|xs_exit<|xs_here<|xs_block<|xs_then<|k_reg<|sP (iw (i:Int))<|sL (t_add (i:Int) 1 ol)<|sP (iw ((i:Int)+1))<|s_nil ?_
  exact xs_round (i+1) om ⟨by omega,by omega,short_step hi1.2.2 hy11 ⟨by omega,by omega,by omega,by omega,by omega⟩⟩ sA (rr [] [0])
 have p49:=c5;simp only[Bool.and_eq_true,Bool.or_eq_true,Bool.and_eq_false_iff,Bool.or_eq_false_iff,Bool.not_eq_true',Bool.not_eq_false',decide_eq_true_eq,decide_eq_false_iff_not]at p49;refine k_exit<|xs_exit<|xs_exit<|xs_here<|xs_then<|k_sr<|sP lv<|sL (t_len ClT_ok Tryz.underlying22 (.zn hL.obs))<|sL t_cmp<|sP (.bool (decide ((100:Int)<(l.length:Int))))<|s_nt<|k_ret<|xs_fin [.bool (decide ((100:Int)<(l.length:Int)))] [] (SI.tmp 2 SI.nil) (rr [] []) ⟨_,rfl,fun hq=>?_,rfl⟩
 have hl:=dF hq;have hall:=hi1.2.2;rw[List.take_of_length_le om]at hall;exact⟨by omega,hall⟩
theorem KnL.up{Z:Zone}{As:List Asr}{H:Heap}{lv:Value}{l:List Cl}(k:KnL Z lv l)(h:Holds Z As H):KnL (zoneOf H) lv l:=⟨k.obs.up h,fun x hx=>(k.each x hx).up h⟩
theorem program_s{Z:Zone}{F:List Asr}{b:Nat}{st:Hst}{n:Nat}(hsm:HSm n st)(hn:n≤300)(hw:HW st){c:Cl}(hc:KnC Z c)(hcl:c.l.length≤20):SF Tryz.prog 8 #[.pointer (some ⟨b,0,none⟩),c.w] Z (hpA b st::F) fun r Bs=>r=(hres st c).w_∧Bs=hpA b (hcall st c)::F:=by
 refine sf_enter Tryz.func8 246 [(0,pB b 0),(1,.agg #[iw c.kind,iw c.a.kind,iw c.a.p,iw c.a.q,sw c.a.str,iw c.a.ref,iw c.b.kind,iw c.b.p,iw c.b.q,sw c.b.str,iw c.b.ref,iw c.c.kind,iw c.c.p,iw c.c.q,sw c.c.str,iw c.c.ref,iw c.n,sw c.s,c.lv.v])] (fun w0=>?_);refine k_fact (fun H h=>hpA_inv h) (fun hi0=>?_);refine k_sr<|s_box #[iw c.kind,iw c.a.kind,iw c.a.p,iw c.a.q,sw c.a.str,iw c.a.ref,iw c.b.kind,iw c.b.p,iw c.b.q,sw c.b.str,iw c.b.ref,iw c.c.kind,iw c.c.p,iw c.c.q,sw c.c.str,iw c.c.ref,iw c.n,sw c.s,c.lv.v] (fun g1=>?_)
 refine s_alloc (.agg #[iw 0,iw 0,iw 0,sw eb,iw 0,iw 0,iw 0,iw 0,sw eb,iw 0,iw 0,sw eb,.bool false,iw 0]) #[iw 0,iw 0,iw 0,sw eb,iw 0,iw 0,iw 0,iw 0,sw eb,iw 0,iw 0,sw eb,.bool false,iw 0] (fun g2=>?_);refine s_nr<|sL (t_kern (.agg #[iw 0,iw 0,iw 0,sw eb,iw 0,iw 0,iw 0,iw 0,sw eb,iw 0,iw 0,sw eb,.bool false,iw 0]))<|s_alloc (.agg #[iw 0,iw 0,iw 0,sw eb,iw 0,iw 0,iw 0,iw 0,sw eb,iw 0,iw 0,sw eb,.bool false,iw 0]) #[iw 0,iw 0,iw 0,sw eb,iw 0,iw 0,iw 0,iw 0,sw eb,iw 0,iw 0,sw eb,.bool false,iw 0] (fun g3=>?_)
 refine s_store 0 #[iw 0,iw 0,iw 0,sw eb,iw 0,iw 0,iw 0,iw 0,sw eb,iw 0,iw 0,sw eb,.bool false,iw 0] ?_;refine s_nt<|k_seq<|k_sr<|sP (pB g1 0)<|sL (t_load 2 (iw c.kind))<|s_nt<|k_block<|k_sr<|sL t_cmp<|sP (.bool (decide (c.kind=0)))<|s_nt<|k_cond (decide (c.kind=0)) (fun c4=>?_) (fun c4=>?_)
 .have p5:=dY c4;refine k_sr<|sP (pB b 0)<|sC [3] (hnewtable_s (st:=st) (by have:=hsm.len;omega)) ?_
  refine sP (.tuple #[.agg (vc (hmakeV st 4)),iw (hmakeE st)])<|sP (.agg (vc (hmakeV st 4)))<|sP (iw (hmakeE st))<|s_alloc (.agg zc) zc (fun g6=>?_)
  refine s_store 0 (vc (hmakeV st 4)) ?_;refine sP (iw (hmakeE st))<|s_nt<|k_reg<|sL (t_loadA 0 (vc (hmakeV st 4)))<|sP (iw (hmakeE st))<|sL (t_kern (.agg #[iw ((hmakeV st 4).kind),iw ((hmakeV st 4).p),iw ((hmakeV st 4).q),sw ((hmakeV st 4).str),iw ((hmakeV st 4).ref),iw 0,iw 0,iw 0,sw eb,iw 0,iw 0,sw eb,.bool false,iw (hmakeE st)]))<|s_store 2 #[iw ((hmakeV st 4).kind),iw ((hmakeV st 4).p),iw ((hmakeV st 4).q),sw ((hmakeV st 4).str),iw ((hmakeV st 4).ref),iw 0,iw 0,iw 0,sw eb,iw 0,iw 0,sw eb,.bool false,iw (hmakeE st)] ?_
  refine s_nil<|xs_block<|xs_then<|k_sr<|sL (t_loadA 2 #[iw ((hmakeV st 4).kind),iw ((hmakeV st 4).p),iw ((hmakeV st 4).q),sw ((hmakeV st 4).str),iw ((hmakeV st 4).ref),iw 0,iw 0,iw 0,sw eb,iw 0,iw 0,sw eb,.bool false,iw (hmakeE st)])<|s_store 3 #[iw ((hmakeV st 4).kind),iw ((hmakeV st 4).p),iw ((hmakeV st 4).q),sw ((hmakeV st 4).str),iw ((hmakeV st 4).ref),iw 0,iw 0,iw 0,sw eb,iw 0,iw 0,sw eb,.bool false,iw (hmakeE st)] ?_
  refine s_nt<|k_ret ?_
  have h1:hcall st c=hmake st (newO 4 0 eb []):=hcall_0 om;have h2:hres st c=⟨hmakeV st 4,zVl,0,eb,false,hmakeE st⟩:=hres_0 om;refine xs_fin [.agg #[iw ((hmakeV st 4).kind),iw ((hmakeV st 4).p),iw ((hmakeV st 4).q),sw ((hmakeV st 4).str),iw ((hmakeV st 4).ref),iw 0,iw 0,iw 0,sw eb,iw 0,iw 0,sw eb,.bool false,iw (hmakeE st)]] (hpA b (hmake st (newO 4 0 eb []))::F) (SI.agg 4 35 3 SI.nil) (rr [1] [1,1,1,1]) ⟨?_,?_⟩
  .rw [h2];rfl
  rw[h1]
 have p7:=dF c4;refine k_sr<|sL t_cmp<|sP (.bool (decide (c.kind=1)))<|s_nt<|k_cond (decide (c.kind=1)) (fun c8=>?_) (fun c8=>?_)
 .have p9:=dY c8;refine k_sr<|sP (pB b 0)<|sP (pB g1 16)<|sL (t_load 2 (iw c.n))<|sC [3] (hnewfunc_s (st:=st) (by have:=hsm.len;omega) c.n) ?_
  refine sP (.tuple #[.agg (vc (hmakeV st 5)),iw (hmakeE st)])<|sP (.agg (vc (hmakeV st 5)))<|sP (iw (hmakeE st))<|s_alloc (.agg zc) zc (fun g10=>?_)
  refine s_store 0 (vc (hmakeV st 5)) ?_;refine sP (iw (hmakeE st))<|s_nt<|k_reg<|sL (t_loadA 0 (vc (hmakeV st 5)))<|sP (iw (hmakeE st))<|sL (t_kern (.agg #[iw ((hmakeV st 5).kind),iw ((hmakeV st 5).p),iw ((hmakeV st 5).q),sw ((hmakeV st 5).str),iw ((hmakeV st 5).ref),iw 0,iw 0,iw 0,sw eb,iw 0,iw 0,sw eb,.bool false,iw (hmakeE st)]))<|s_store 2 #[iw ((hmakeV st 5).kind),iw ((hmakeV st 5).p),iw ((hmakeV st 5).q),sw ((hmakeV st 5).str),iw ((hmakeV st 5).ref),iw 0,iw 0,iw 0,sw eb,iw 0,iw 0,sw eb,.bool false,iw (hmakeE st)] ?_
  refine s_nil<|xs_block<|xs_then<|k_sr<|sL (t_loadA 2 #[iw ((hmakeV st 5).kind),iw ((hmakeV st 5).p),iw ((hmakeV st 5).q),sw ((hmakeV st 5).str),iw ((hmakeV st 5).ref),iw 0,iw 0,iw 0,sw eb,iw 0,iw 0,sw eb,.bool false,iw (hmakeE st)])<|s_store 3 #[iw ((hmakeV st 5).kind),iw ((hmakeV st 5).p),iw ((hmakeV st 5).q),sw ((hmakeV st 5).str),iw ((hmakeV st 5).ref),iw 0,iw 0,iw 0,sw eb,iw 0,iw 0,sw eb,.bool false,iw (hmakeE st)] ?_
  refine s_nt<|k_ret ?_
  have h1:hcall st c=hmake st (newO 5 c.n eb []):=hcall_1 om;have h2:hres st c=⟨hmakeV st 5,zVl,0,eb,false,hmakeE st⟩:=hres_1 om;refine xs_fin [.agg #[iw ((hmakeV st 5).kind),iw ((hmakeV st 5).p),iw ((hmakeV st 5).q),sw ((hmakeV st 5).str),iw ((hmakeV st 5).ref),iw 0,iw 0,iw 0,sw eb,iw 0,iw 0,sw eb,.bool false,iw (hmakeE st)]] (hpA b (hmake st (newO 5 c.n eb []))::F) (SI.agg 4 35 3 SI.nil) (rr [1] [1,1,1,1]) ⟨?_,?_⟩
  .rw [h2];rfl
  rw[h1]
 have p11:=dF c8;refine k_sr<|sL t_cmp<|sP (.bool (decide (c.kind=2)))<|s_nt<|k_cond (decide (c.kind=2)) (fun c12=>?_) (fun c12=>?_)
 .have p13:=dY c12;refine k_sr<|sP (pB b 0)<|sP (pB g1 16)<|sL (t_load 2 (iw c.n))<|sC [3] (hnewthread_s (st:=st) (by have:=hsm.len;omega) c.n) ?_
  refine sP (.tuple #[.agg (vc (hmakeV st 7)),iw (hmakeE st)])<|sP (.agg (vc (hmakeV st 7)))<|sP (iw (hmakeE st))<|s_alloc (.agg zc) zc (fun g14=>?_)
  refine s_store 0 (vc (hmakeV st 7)) ?_;refine sP (iw (hmakeE st))<|s_nt<|k_reg<|sL (t_loadA 0 (vc (hmakeV st 7)))<|sP (iw (hmakeE st))<|sL (t_kern (.agg #[iw ((hmakeV st 7).kind),iw ((hmakeV st 7).p),iw ((hmakeV st 7).q),sw ((hmakeV st 7).str),iw ((hmakeV st 7).ref),iw 0,iw 0,iw 0,sw eb,iw 0,iw 0,sw eb,.bool false,iw (hmakeE st)]))<|s_store 2 #[iw ((hmakeV st 7).kind),iw ((hmakeV st 7).p),iw ((hmakeV st 7).q),sw ((hmakeV st 7).str),iw ((hmakeV st 7).ref),iw 0,iw 0,iw 0,sw eb,iw 0,iw 0,sw eb,.bool false,iw (hmakeE st)] ?_
  refine s_nil<|xs_block<|xs_then<|k_sr<|sL (t_loadA 2 #[iw ((hmakeV st 7).kind),iw ((hmakeV st 7).p),iw ((hmakeV st 7).q),sw ((hmakeV st 7).str),iw ((hmakeV st 7).ref),iw 0,iw 0,iw 0,sw eb,iw 0,iw 0,sw eb,.bool false,iw (hmakeE st)])<|s_store 3 #[iw ((hmakeV st 7).kind),iw ((hmakeV st 7).p),iw ((hmakeV st 7).q),sw ((hmakeV st 7).str),iw ((hmakeV st 7).ref),iw 0,iw 0,iw 0,sw eb,iw 0,iw 0,sw eb,.bool false,iw (hmakeE st)] ?_
  refine s_nt<|k_ret ?_
  have h1:hcall st c=hmake st (newO 7 c.n eb []):=hcall_2 om;have h2:hres st c=⟨hmakeV st 7,zVl,0,eb,false,hmakeE st⟩:=hres_2 om;refine xs_fin [.agg #[iw ((hmakeV st 7).kind),iw ((hmakeV st 7).p),iw ((hmakeV st 7).q),sw ((hmakeV st 7).str),iw ((hmakeV st 7).ref),iw 0,iw 0,iw 0,sw eb,iw 0,iw 0,sw eb,.bool false,iw (hmakeE st)]] (hpA b (hmake st (newO 7 c.n eb []))::F) (SI.agg 4 35 3 SI.nil) (rr [1] [1,1,1,1]) ⟨?_,?_⟩
  .rw [h2];rfl
  rw[h1]
 have p15:=dF c12;refine k_sr<|sL t_cmp<|sP (.bool (decide (c.kind=3)))<|s_nt<|k_cond (decide (c.kind=3)) (fun c16=>?_) (fun c16=>?_)
 .have p17:=dY c16;refine k_sr<|sP (pB b 0)<|sP (pB g1 17)<|sL (t_load 2 (sw c.s))<|sC [3] (hnewdata_s (st:=st) (by have:=hsm.len;omega) c.s) ?_
  refine sP (.tuple #[.agg (vc (hdataV st c.s)),iw (hdataE st c.s)])<|sP (.agg (vc (hdataV st c.s)))<|sP (iw (hdataE st c.s))<|s_alloc (.agg zc) zc (fun g18=>?_)
  refine s_store 0 (vc (hdataV st c.s)) ?_;refine sP (iw (hdataE st c.s))<|s_nt<|k_reg<|sL (t_loadA 0 (vc (hdataV st c.s)))<|sP (iw (hdataE st c.s))<|sL (t_kern (.agg #[iw ((hdataV st c.s).kind),iw ((hdataV st c.s).p),iw ((hdataV st c.s).q),sw ((hdataV st c.s).str),iw ((hdataV st c.s).ref),iw 0,iw 0,iw 0,sw eb,iw 0,iw 0,sw eb,.bool false,iw (hdataE st c.s)]))<|s_store 2 #[iw ((hdataV st c.s).kind),iw ((hdataV st c.s).p),iw ((hdataV st c.s).q),sw ((hdataV st c.s).str),iw ((hdataV st c.s).ref),iw 0,iw 0,iw 0,sw eb,iw 0,iw 0,sw eb,.bool false,iw (hdataE st c.s)] ?_
  refine s_nil<|xs_block<|xs_then<|k_sr<|sL (t_loadA 2 #[iw ((hdataV st c.s).kind),iw ((hdataV st c.s).p),iw ((hdataV st c.s).q),sw ((hdataV st c.s).str),iw ((hdataV st c.s).ref),iw 0,iw 0,iw 0,sw eb,iw 0,iw 0,sw eb,.bool false,iw (hdataE st c.s)])<|s_store 3 #[iw ((hdataV st c.s).kind),iw ((hdataV st c.s).p),iw ((hdataV st c.s).q),sw ((hdataV st c.s).str),iw ((hdataV st c.s).ref),iw 0,iw 0,iw 0,sw eb,iw 0,iw 0,sw eb,.bool false,iw (hdataE st c.s)] ?_
  refine s_nt<|k_ret ?_
  have h1:hcall st c=hdata st c.s:=hcall_3 om;have h2:hres st c=⟨hdataV st c.s,zVl,0,eb,false,hdataE st c.s⟩:=hres_3 om;refine xs_fin [.agg #[iw ((hdataV st c.s).kind),iw ((hdataV st c.s).p),iw ((hdataV st c.s).q),sw ((hdataV st c.s).str),iw ((hdataV st c.s).ref),iw 0,iw 0,iw 0,sw eb,iw 0,iw 0,sw eb,.bool false,iw (hdataE st c.s)]] (hpA b (hdata st c.s)::F) (SI.agg 4 35 3 SI.nil) (rr [1] [1,1,1,1]) ⟨?_,?_⟩
  .rw [h2];rfl
  rw[h1]
 have p19:=dF c16;refine k_sr<|sL t_cmp<|sP (.bool (decide (c.kind=4)))<|s_nt<|k_cond (decide (c.kind=4)) (fun c20=>?_) (fun c20=>?_)
 .have p21:=dY c20;refine k_sr<|sP (pB b 0)<|sP (pB g1 1)<|sL (t_loadA 2 (vc c.a))<|sP (pB g1 6)<|sL (t_loadA 2 (vc c.b))<|sC [3] (hget_s (st:=st) hsm om c.a c.b) ?_
  refine sP (.tuple #[.agg (vc (hgetV st c.a c.b)),iw (hgetE st c.a)])<|sP (.agg (vc (hgetV st c.a c.b)))<|sP (iw (hgetE st c.a))<|s_alloc (.agg zc) zc (fun g22=>?_)
  refine s_store 0 (vc (hgetV st c.a c.b)) ?_;refine sP (iw (hgetE st c.a))<|s_nt<|k_reg<|sL (t_loadA 0 (vc (hgetV st c.a c.b)))<|sP (iw (hgetE st c.a))<|sL (t_kern (.agg #[iw ((hgetV st c.a c.b).kind),iw ((hgetV st c.a c.b).p),iw ((hgetV st c.a c.b).q),sw ((hgetV st c.a c.b).str),iw ((hgetV st c.a c.b).ref),iw 0,iw 0,iw 0,sw eb,iw 0,iw 0,sw eb,.bool false,iw (hgetE st c.a)]))<|s_store 2 #[iw ((hgetV st c.a c.b).kind),iw ((hgetV st c.a c.b).p),iw ((hgetV st c.a c.b).q),sw ((hgetV st c.a c.b).str),iw ((hgetV st c.a c.b).ref),iw 0,iw 0,iw 0,sw eb,iw 0,iw 0,sw eb,.bool false,iw (hgetE st c.a)] ?_
  refine s_nil<|xs_block<|xs_then<|k_sr<|sL (t_loadA 2 #[iw ((hgetV st c.a c.b).kind),iw ((hgetV st c.a c.b).p),iw ((hgetV st c.a c.b).q),sw ((hgetV st c.a c.b).str),iw ((hgetV st c.a c.b).ref),iw 0,iw 0,iw 0,sw eb,iw 0,iw 0,sw eb,.bool false,iw (hgetE st c.a)])<|s_store 3 #[iw ((hgetV st c.a c.b).kind),iw ((hgetV st c.a c.b).p),iw ((hgetV st c.a c.b).q),sw ((hgetV st c.a c.b).str),iw ((hgetV st c.a c.b).ref),iw 0,iw 0,iw 0,sw eb,iw 0,iw 0,sw eb,.bool false,iw (hgetE st c.a)] ?_
  refine s_nt<|k_ret ?_
  have h1:hcall st c=st:=hcall_4 om;have h2:hres st c=⟨hgetV st c.a c.b,zVl,0,eb,false,hgetE st c.a⟩:=hres_4 om;refine xs_fin [.agg #[iw ((hgetV st c.a c.b).kind),iw ((hgetV st c.a c.b).p),iw ((hgetV st c.a c.b).q),sw ((hgetV st c.a c.b).str),iw ((hgetV st c.a c.b).ref),iw 0,iw 0,iw 0,sw eb,iw 0,iw 0,sw eb,.bool false,iw (hgetE st c.a)]] (hpA b st::F) (SI.agg 4 35 3 SI.nil) (rr [1] [1,1,1,1]) ⟨?_,?_⟩
  .rw [h2];rfl
  rw[h1]
 have p23:=dF c20;refine k_sr<|sL t_cmp<|sP (.bool (decide (c.kind=5)))<|s_nt<|k_cond (decide (c.kind=5)) (fun c24=>?_) (fun c24=>?_)
 .have p25:=dY c24;refine k_reg<|sP (pB b 0)<|sP (pB g1 1)<|sL (t_loadA 2 (vc c.a))<|sP (pB g1 6)<|sL (t_loadA 2 (vc c.b))<|sP (pB g1 11)<|sL (t_loadA 2 (vc c.c))<|sC [3] (hset_s (st:=st) hsm om c.a c.b c.c) ?_
  refine sP (pB g3 13)<|s_store 1 #[iw 0,iw 0,iw 0,sw eb,iw 0,iw 0,iw 0,iw 0,sw eb,iw 0,iw 0,sw eb,.bool false,iw (hsetE st c.a c.b c.c)] ?_
  refine s_nil<|xs_block<|xs_then<|k_sr<|sL (t_loadA 1 #[iw 0,iw 0,iw 0,sw eb,iw 0,iw 0,iw 0,iw 0,sw eb,iw 0,iw 0,sw eb,.bool false,iw (hsetE st c.a c.b c.c)])<|s_store 2 #[iw 0,iw 0,iw 0,sw eb,iw 0,iw 0,iw 0,iw 0,sw eb,iw 0,iw 0,sw eb,.bool false,iw (hsetE st c.a c.b c.c)] ?_
  refine s_nt<|k_ret ?_
  have h1:hcall st c=hset st c.a c.b c.c:=hcall_5 om;have h2:hres st c=⟨zVl,zVl,0,eb,false,hsetE st c.a c.b c.c⟩:=hres_5 om;refine xs_fin [.agg #[iw 0,iw 0,iw 0,sw eb,iw 0,iw 0,iw 0,iw 0,sw eb,iw 0,iw 0,sw eb,.bool false,iw (hsetE st c.a c.b c.c)]] (hpA b (hset st c.a c.b c.c)::F) (SI.agg 4 35 2 SI.nil) (rr [0] [1,1,1]) ⟨?_,?_⟩
  .rw [h2];rfl
  rw[h1]
 have p26:=dF c24;refine k_sr<|sL t_cmp<|sP (.bool (decide (c.kind=6)))<|s_nt<|k_cond (decide (c.kind=6)) (fun c27=>?_) (fun c27=>?_)
 .have p28:=dY c27;refine k_sr<|sP (pB b 0)<|sP (pB g1 1)<|sL (t_loadA 2 (vc c.a))<|sC [3] (hlen_s (st:=st) hsm om c.a) ?_
  refine sP (.tuple #[iw (hlenV st c.a),iw (hgetE st c.a)])<|sP (iw (hlenV st c.a))<|sP (iw (hgetE st c.a))<|sP (iw (hlenV st c.a))<|sP (iw (hgetE st c.a))<|s_nt<|k_reg<|sP (iw (hlenV st c.a))<|sP (iw (hgetE st c.a))<|sL (t_kern (.agg #[iw 0,iw 0,iw 0,sw eb,iw 0,iw 0,iw 0,iw 0,sw eb,iw 0,iw (hlenV st c.a),sw eb,.bool false,iw (hgetE st c.a)]))<|s_store 1 #[iw 0,iw 0,iw 0,sw eb,iw 0,iw 0,iw 0,iw 0,sw eb,iw 0,iw (hlenV st c.a),sw eb,.bool false,iw (hgetE st c.a)] ?_
  refine s_nil<|xs_block<|xs_then<|k_sr<|sL (t_loadA 1 #[iw 0,iw 0,iw 0,sw eb,iw 0,iw 0,iw 0,iw 0,sw eb,iw 0,iw (hlenV st c.a),sw eb,.bool false,iw (hgetE st c.a)])<|s_store 2 #[iw 0,iw 0,iw 0,sw eb,iw 0,iw 0,iw 0,iw 0,sw eb,iw 0,iw (hlenV st c.a),sw eb,.bool false,iw (hgetE st c.a)] ?_
  refine s_nt<|k_ret ?_
  have h1:hcall st c=st:=hcall_6 om;have h2:hres st c=⟨zVl,zVl,hlenV st c.a,eb,false,hgetE st c.a⟩:=hres_6 om;refine xs_fin [.agg #[iw 0,iw 0,iw 0,sw eb,iw 0,iw 0,iw 0,iw 0,sw eb,iw 0,iw (hlenV st c.a),sw eb,.bool false,iw (hgetE st c.a)]] (hpA b st::F) (SI.agg 4 35 2 SI.nil) (rr [0] [1,1,1]) ⟨?_,?_⟩
  .rw [h2];rfl
  rw[h1]
 have p29:=dF c27;refine k_sr<|sL t_cmp<|sP (.bool (decide (c.kind=7)))<|s_nt<|k_cond (decide (c.kind=7)) (fun c30=>?_) (fun c30=>?_)
 .have p31:=dY c30;refine k_sr<|sP (pB b 0)<|sP (pB g1 1)<|sL (t_loadA 2 (vc c.a))<|sP (pB g1 6)<|sL (t_loadA 2 (vc c.b))<|sC [3] (hnext_s (st:=st) hsm om c.a c.b) ?_
  refine sP (.tuple #[.agg (vc ((hnext st c.a c.b).1)),.agg (vc ((hnext st c.a c.b).2.1)),.bool ((hnext st c.a c.b).2.2.1),iw ((hnext st c.a c.b).2.2.2)])<|sP (.agg (vc ((hnext st c.a c.b).1)))<|sP (.agg (vc ((hnext st c.a c.b).2.1)))<|sP (.bool ((hnext st c.a c.b).2.2.1))<|sP (iw ((hnext st c.a c.b).2.2.2))<|s_alloc (.agg zc) zc (fun g32=>?_)
  refine s_alloc (.agg zc) zc (fun g33=>?_);refine s_store 1 (vc ((hnext st c.a c.b).1)) ?_;refine s_store 0 (vc ((hnext st c.a c.b).2.1)) ?_;refine sP (.bool ((hnext st c.a c.b).2.2.1))<|sP (iw ((hnext st c.a c.b).2.2.2))<|s_nt<|k_reg<|sL (t_loadA 1 (vc ((hnext st c.a c.b).1)))<|sL (t_loadA 0 (vc ((hnext st c.a c.b).2.1)))<|sP (.bool ((hnext st c.a c.b).2.2.1))<|sP (iw ((hnext st c.a c.b).2.2.2))<|sL (t_kern (.agg #[iw (((hnext st c.a c.b).1).kind),iw (((hnext st c.a c.b).1).p),iw (((hnext st c.a c.b).1).q),sw (((hnext st c.a c.b).1).str),iw (((hnext st c.a c.b).1).ref),iw (((hnext st c.a c.b).2.1).kind),iw (((hnext st c.a c.b).2.1).p),iw (((hnext st c.a c.b).2.1).q),sw (((hnext st c.a c.b).2.1).str),iw (((hnext st c.a c.b).2.1).ref),iw 0,sw eb,.bool ((hnext st c.a c.b).2.2.1),iw ((hnext st c.a c.b).2.2.2)]))<|s_store 3 #[iw (((hnext st c.a c.b).1).kind),iw (((hnext st c.a c.b).1).p),iw (((hnext st c.a c.b).1).q),sw (((hnext st c.a c.b).1).str),iw (((hnext st c.a c.b).1).ref),iw (((hnext st c.a c.b).2.1).kind),iw (((hnext st c.a c.b).2.1).p),iw (((hnext st c.a c.b).2.1).q),sw (((hnext st c.a c.b).2.1).str),iw (((hnext st c.a c.b).2.1).ref),iw 0,sw eb,.bool ((hnext st c.a c.b).2.2.1),iw ((hnext st c.a c.b).2.2.2)] ?_
  refine s_nil<|xs_block<|xs_then<|k_sr<|sL (t_loadA 3 #[iw (((hnext st c.a c.b).1).kind),iw (((hnext st c.a c.b).1).p),iw (((hnext st c.a c.b).1).q),sw (((hnext st c.a c.b).1).str),iw (((hnext st c.a c.b).1).ref),iw (((hnext st c.a c.b).2.1).kind),iw (((hnext st c.a c.b).2.1).p),iw (((hnext st c.a c.b).2.1).q),sw (((hnext st c.a c.b).2.1).str),iw (((hnext st c.a c.b).2.1).ref),iw 0,sw eb,.bool ((hnext st c.a c.b).2.2.1),iw ((hnext st c.a c.b).2.2.2)])<|s_store 4 #[iw (((hnext st c.a c.b).1).kind),iw (((hnext st c.a c.b).1).p),iw (((hnext st c.a c.b).1).q),sw (((hnext st c.a c.b).1).str),iw (((hnext st c.a c.b).1).ref),iw (((hnext st c.a c.b).2.1).kind),iw (((hnext st c.a c.b).2.1).p),iw (((hnext st c.a c.b).2.1).q),sw (((hnext st c.a c.b).2.1).str),iw (((hnext st c.a c.b).2.1).ref),iw 0,sw eb,.bool ((hnext st c.a c.b).2.2.1),iw ((hnext st c.a c.b).2.2.2)] ?_
  refine s_nt<|k_ret ?_
  have h1:hcall st c=st:=hcall_7 om;have h2:hres st c=⟨(hnext st c.a c.b).1,(hnext st c.a c.b).2.1,0,eb,(hnext st c.a c.b).2.2.1,(hnext st c.a c.b).2.2.2⟩:=hres_7 om;refine xs_fin [.agg #[iw (((hnext st c.a c.b).1).kind),iw (((hnext st c.a c.b).1).p),iw (((hnext st c.a c.b).1).q),sw (((hnext st c.a c.b).1).str),iw (((hnext st c.a c.b).1).ref),iw (((hnext st c.a c.b).2.1).kind),iw (((hnext st c.a c.b).2.1).p),iw (((hnext st c.a c.b).2.1).q),sw (((hnext st c.a c.b).2.1).str),iw (((hnext st c.a c.b).2.1).ref),iw 0,sw eb,.bool ((hnext st c.a c.b).2.2.1),iw ((hnext st c.a c.b).2.2.2)]] (hpA b st::F) (SI.agg 4 35 4 SI.nil) (rr [2] [1,1,1,1,1]) ⟨?_,?_⟩
  .rw [h2];rfl
  rw[h1]
 have p34:=dF c30;refine k_sr<|sL t_cmp<|sP (.bool (decide (c.kind=8)))<|s_nt<|k_cond (decide (c.kind=8)) (fun c35=>?_) (fun c35=>?_)
 .have p36:=dY c35;refine k_reg<|sP (pB b 0)<|sP (pB g1 1)<|sL (t_loadA 2 (vc c.a))<|sP (pB g1 16)<|sL (t_load 2 (iw c.n))<|sP (pB g1 11)<|sL (t_loadA 2 (vc c.c))<|sC [3] (hinsert_s (st:=st) hsm om c.a c.n c.c) ?_
  refine sP (pB g3 13)<|s_store 1 #[iw 0,iw 0,iw 0,sw eb,iw 0,iw 0,iw 0,iw 0,sw eb,iw 0,iw 0,sw eb,.bool false,iw (hinsE st c.a c.n c.c)] ?_
  refine s_nil<|xs_block<|xs_then<|k_sr<|sL (t_loadA 1 #[iw 0,iw 0,iw 0,sw eb,iw 0,iw 0,iw 0,iw 0,sw eb,iw 0,iw 0,sw eb,.bool false,iw (hinsE st c.a c.n c.c)])<|s_store 2 #[iw 0,iw 0,iw 0,sw eb,iw 0,iw 0,iw 0,iw 0,sw eb,iw 0,iw 0,sw eb,.bool false,iw (hinsE st c.a c.n c.c)] ?_
  refine s_nt<|k_ret ?_
  have h1:hcall st c=hins st c.a c.n c.c:=hcall_8 om;have h2:hres st c=⟨zVl,zVl,0,eb,false,hinsE st c.a c.n c.c⟩:=hres_8 om;refine xs_fin [.agg #[iw 0,iw 0,iw 0,sw eb,iw 0,iw 0,iw 0,iw 0,sw eb,iw 0,iw 0,sw eb,.bool false,iw (hinsE st c.a c.n c.c)]] (hpA b (hins st c.a c.n c.c)::F) (SI.agg 4 35 2 SI.nil) (rr [0] [1,1,1]) ⟨?_,?_⟩
  .rw [h2];rfl
  rw[h1]
 have p37:=dF c35;refine k_sr<|sL t_cmp<|sP (.bool (decide (c.kind=9)))<|s_nt<|k_cond (decide (c.kind=9)) (fun c38=>?_) (fun c38=>?_)
 .have p39:=dY c38;refine k_sr<|sP (pB b 0)<|sP (pB g1 1)<|sL (t_loadA 2 (vc c.a))<|sP (pB g1 16)<|sL (t_load 2 (iw c.n))<|sC [3] (hremove_s (st:=st) hsm om c.a c.n) ?_
  refine sP (.tuple #[.agg (vc (hremV st c.a c.n)),iw (hremE st c.a c.n)])<|sP (.agg (vc (hremV st c.a c.n)))<|sP (iw (hremE st c.a c.n))<|s_alloc (.agg zc) zc (fun g40=>?_)
  refine s_store 0 (vc (hremV st c.a c.n)) ?_;refine sP (iw (hremE st c.a c.n))<|s_nt<|k_reg<|sL (t_loadA 0 (vc (hremV st c.a c.n)))<|sP (iw (hremE st c.a c.n))<|sL (t_kern (.agg #[iw ((hremV st c.a c.n).kind),iw ((hremV st c.a c.n).p),iw ((hremV st c.a c.n).q),sw ((hremV st c.a c.n).str),iw ((hremV st c.a c.n).ref),iw 0,iw 0,iw 0,sw eb,iw 0,iw 0,sw eb,.bool false,iw (hremE st c.a c.n)]))<|s_store 2 #[iw ((hremV st c.a c.n).kind),iw ((hremV st c.a c.n).p),iw ((hremV st c.a c.n).q),sw ((hremV st c.a c.n).str),iw ((hremV st c.a c.n).ref),iw 0,iw 0,iw 0,sw eb,iw 0,iw 0,sw eb,.bool false,iw (hremE st c.a c.n)] ?_
  refine s_nil<|xs_block<|xs_then<|k_sr<|sL (t_loadA 2 #[iw ((hremV st c.a c.n).kind),iw ((hremV st c.a c.n).p),iw ((hremV st c.a c.n).q),sw ((hremV st c.a c.n).str),iw ((hremV st c.a c.n).ref),iw 0,iw 0,iw 0,sw eb,iw 0,iw 0,sw eb,.bool false,iw (hremE st c.a c.n)])<|s_store 3 #[iw ((hremV st c.a c.n).kind),iw ((hremV st c.a c.n).p),iw ((hremV st c.a c.n).q),sw ((hremV st c.a c.n).str),iw ((hremV st c.a c.n).ref),iw 0,iw 0,iw 0,sw eb,iw 0,iw 0,sw eb,.bool false,iw (hremE st c.a c.n)] ?_
  refine s_nt<|k_ret ?_
  have h1:hcall st c=hrem st c.a c.n:=hcall_9 om;have h2:hres st c=⟨hremV st c.a c.n,zVl,0,eb,false,hremE st c.a c.n⟩:=hres_9 om;refine xs_fin [.agg #[iw ((hremV st c.a c.n).kind),iw ((hremV st c.a c.n).p),iw ((hremV st c.a c.n).q),sw ((hremV st c.a c.n).str),iw ((hremV st c.a c.n).ref),iw 0,iw 0,iw 0,sw eb,iw 0,iw 0,sw eb,.bool false,iw (hremE st c.a c.n)]] (hpA b (hrem st c.a c.n)::F) (SI.agg 4 35 3 SI.nil) (rr [1] [1,1,1,1]) ⟨?_,?_⟩
  .rw [h2];rfl
  rw[h1]
 have p41:=dF c38;refine k_sr<|sL t_cmp<|sP (.bool (decide (c.kind=10)))<|s_nt<|k_cond (decide (c.kind=10)) (fun c42=>?_) (fun c42=>?_)
 .have p43:=dY c42;refine k_reg<|sP (pB b 0)<|sP (pB g1 1)<|sL (t_loadA 2 (vc c.a))<|sP (pB g1 6)<|sL (t_loadA 2 (vc c.b))<|sC [3] (hsetmeta_s (st:=st) c.a c.b) ?_
  refine sP (pB g3 13)<|s_store 1 #[iw 0,iw 0,iw 0,sw eb,iw 0,iw 0,iw 0,iw 0,sw eb,iw 0,iw 0,sw eb,.bool false,iw (hsetMetaE st c.a c.b)] ?_
  refine s_nil<|xs_block<|xs_then<|k_sr<|sL (t_loadA 1 #[iw 0,iw 0,iw 0,sw eb,iw 0,iw 0,iw 0,iw 0,sw eb,iw 0,iw 0,sw eb,.bool false,iw (hsetMetaE st c.a c.b)])<|s_store 2 #[iw 0,iw 0,iw 0,sw eb,iw 0,iw 0,iw 0,iw 0,sw eb,iw 0,iw 0,sw eb,.bool false,iw (hsetMetaE st c.a c.b)] ?_
  refine s_nt<|k_ret ?_
  have h1:hcall st c=hsetMeta st c.a c.b:=hcall_10 om;have h2:hres st c=⟨zVl,zVl,0,eb,false,hsetMetaE st c.a c.b⟩:=hres_10 om;refine xs_fin [.agg #[iw 0,iw 0,iw 0,sw eb,iw 0,iw 0,iw 0,iw 0,sw eb,iw 0,iw 0,sw eb,.bool false,iw (hsetMetaE st c.a c.b)]] (hpA b (hsetMeta st c.a c.b)::F) (SI.agg 4 35 2 SI.nil) (rr [0] [1,1,1]) ⟨?_,?_⟩
  .rw [h2];rfl
  rw[h1]
 have p44:=dF c42;refine k_sr<|sL t_cmp<|sP (.bool (decide (c.kind=11)))<|s_nt<|k_cond (decide (c.kind=11)) (fun c45=>?_) (fun c45=>?_)
 .have p46:=dY c45;refine k_sr<|sP (pB b 0)<|sP (pB g1 1)<|sL (t_loadA 2 (vc c.a))<|sP (pB g1 16)<|sL (t_load 2 (iw c.n))<|sC [3] (hslot_s (st:=st) hw c.a c.n) ?_
  refine sP (.tuple #[.agg (vc (hslotV st c.a c.n)),iw (hslotE st c.a c.n)])<|sP (.agg (vc (hslotV st c.a c.n)))<|sP (iw (hslotE st c.a c.n))<|s_alloc (.agg zc) zc (fun g47=>?_)
  refine s_store 0 (vc (hslotV st c.a c.n)) ?_;refine sP (iw (hslotE st c.a c.n))<|s_nt<|k_reg<|sL (t_loadA 0 (vc (hslotV st c.a c.n)))<|sP (iw (hslotE st c.a c.n))<|sL (t_kern (.agg #[iw ((hslotV st c.a c.n).kind),iw ((hslotV st c.a c.n).p),iw ((hslotV st c.a c.n).q),sw ((hslotV st c.a c.n).str),iw ((hslotV st c.a c.n).ref),iw 0,iw 0,iw 0,sw eb,iw 0,iw 0,sw eb,.bool false,iw (hslotE st c.a c.n)]))<|s_store 2 #[iw ((hslotV st c.a c.n).kind),iw ((hslotV st c.a c.n).p),iw ((hslotV st c.a c.n).q),sw ((hslotV st c.a c.n).str),iw ((hslotV st c.a c.n).ref),iw 0,iw 0,iw 0,sw eb,iw 0,iw 0,sw eb,.bool false,iw (hslotE st c.a c.n)] ?_
  refine s_nil<|xs_block<|xs_then<|k_sr<|sL (t_loadA 2 #[iw ((hslotV st c.a c.n).kind),iw ((hslotV st c.a c.n).p),iw ((hslotV st c.a c.n).q),sw ((hslotV st c.a c.n).str),iw ((hslotV st c.a c.n).ref),iw 0,iw 0,iw 0,sw eb,iw 0,iw 0,sw eb,.bool false,iw (hslotE st c.a c.n)])<|s_store 3 #[iw ((hslotV st c.a c.n).kind),iw ((hslotV st c.a c.n).p),iw ((hslotV st c.a c.n).q),sw ((hslotV st c.a c.n).str),iw ((hslotV st c.a c.n).ref),iw 0,iw 0,iw 0,sw eb,iw 0,iw 0,sw eb,.bool false,iw (hslotE st c.a c.n)] ?_
  refine s_nt<|k_ret ?_
  have h1:hcall st c=st:=hcall_11 om;have h2:hres st c=⟨hslotV st c.a c.n,zVl,0,eb,false,hslotE st c.a c.n⟩:=hres_11 om;refine xs_fin [.agg #[iw ((hslotV st c.a c.n).kind),iw ((hslotV st c.a c.n).p),iw ((hslotV st c.a c.n).q),sw ((hslotV st c.a c.n).str),iw ((hslotV st c.a c.n).ref),iw 0,iw 0,iw 0,sw eb,iw 0,iw 0,sw eb,.bool false,iw (hslotE st c.a c.n)]] (hpA b st::F) (SI.agg 4 35 3 SI.nil) (rr [1] [1,1,1,1]) ⟨?_,?_⟩
  .rw [h2];rfl
  rw[h1]
 have p48:=dF c45;refine k_sr<|sL t_cmp<|sP (.bool (decide (c.kind=12)))<|s_nt<|k_cond (decide (c.kind=12)) (fun c49=>?_) (fun c49=>?_)
 .have p50:=dY c49;refine k_reg<|sP (pB b 0)<|sP (pB g1 1)<|sL (t_loadA 2 (vc c.a))<|sP (pB g1 16)<|sL (t_load 2 (iw c.n))<|sP (pB g1 11)<|sL (t_loadA 2 (vc c.c))<|sC [3] (hsetslot_s (st:=st) hw c.a c.n c.c) ?_
  refine sP (pB g3 13)<|s_store 1 #[iw 0,iw 0,iw 0,sw eb,iw 0,iw 0,iw 0,iw 0,sw eb,iw 0,iw 0,sw eb,.bool false,iw (hsetSlotE st c.a c.n c.c)] ?_
  refine s_nil<|xs_block<|xs_then<|k_sr<|sL (t_loadA 1 #[iw 0,iw 0,iw 0,sw eb,iw 0,iw 0,iw 0,iw 0,sw eb,iw 0,iw 0,sw eb,.bool false,iw (hsetSlotE st c.a c.n c.c)])<|s_store 2 #[iw 0,iw 0,iw 0,sw eb,iw 0,iw 0,iw 0,iw 0,sw eb,iw 0,iw 0,sw eb,.bool false,iw (hsetSlotE st c.a c.n c.c)] ?_
  refine s_nt<|k_ret ?_
  have h1:hcall st c=hsetSlot st c.a c.n c.c:=hcall_12 om;have h2:hres st c=⟨zVl,zVl,0,eb,false,hsetSlotE st c.a c.n c.c⟩:=hres_12 om;refine xs_fin [.agg #[iw 0,iw 0,iw 0,sw eb,iw 0,iw 0,iw 0,iw 0,sw eb,iw 0,iw 0,sw eb,.bool false,iw (hsetSlotE st c.a c.n c.c)]] (hpA b (hsetSlot st c.a c.n c.c)::F) (SI.agg 4 35 2 SI.nil) (rr [0] [1,1,1]) ⟨?_,?_⟩
  .rw [h2];rfl
  rw[h1]
 have p51:=dF c49;refine k_sr<|sL t_cmp<|sP (.bool (decide (c.kind=13)))<|s_nt<|k_cond (decide (c.kind=13)) (fun c52=>?_) (fun c52=>?_)
 .have p53:=dY c52;refine k_reg<|sP (pB b 0)<|sP (pB g1 1)<|sL (t_loadA 2 (vc c.a))<|sP (pB g1 18)<|sL (t_load 2 c.lv.v)<|sC [3] (hsetrefs_s (st:=st) hc ol c.a) ?_
  refine sP (pB g3 13)<|s_store 1 #[iw 0,iw 0,iw 0,sw eb,iw 0,iw 0,iw 0,iw 0,sw eb,iw 0,iw 0,sw eb,.bool false,iw (hsetRefsE st c.a c.l)] ?_
  refine s_nil<|xs_block<|xs_then<|k_sr<|sL (t_loadA 1 #[iw 0,iw 0,iw 0,sw eb,iw 0,iw 0,iw 0,iw 0,sw eb,iw 0,iw 0,sw eb,.bool false,iw (hsetRefsE st c.a c.l)])<|s_store 2 #[iw 0,iw 0,iw 0,sw eb,iw 0,iw 0,iw 0,iw 0,sw eb,iw 0,iw 0,sw eb,.bool false,iw (hsetRefsE st c.a c.l)] ?_
  refine s_nt<|k_ret ?_
  have h1:hcall st c=hsetRefs st c.a c.l:=hcall_13 om;have h2:hres st c=⟨zVl,zVl,0,eb,false,hsetRefsE st c.a c.l⟩:=hres_13 om;refine xs_fin [.agg #[iw 0,iw 0,iw 0,sw eb,iw 0,iw 0,iw 0,iw 0,sw eb,iw 0,iw 0,sw eb,.bool false,iw (hsetRefsE st c.a c.l)]] (hpA b (hsetRefs st c.a c.l)::F) (SI.agg 4 35 2 SI.nil) (rr [0] [1,1,1]) ⟨?_,?_⟩
  .rw [h2];rfl
  rw[h1]
 have p54:=dF c52;refine k_sr<|sL t_cmp<|sP (.bool (decide (c.kind=14)))<|s_nt<|k_cond (decide (c.kind=14)) (fun c55=>?_) (fun c55=>?_)
 .have p56:=dY c55;refine k_reg<|sP (pB b 0)<|sP (pB g1 16)<|sL (t_load 2 (iw c.n))<|sC [3] (hdrop_s (st:=st) c.n) ?_
  refine sP (pB g3 13)<|s_store 1 #[iw 0,iw 0,iw 0,sw eb,iw 0,iw 0,iw 0,iw 0,sw eb,iw 0,iw 0,sw eb,.bool false,iw (hdropE st c.n)] ?_
  refine s_nil<|xs_block<|xs_then<|k_sr<|sL (t_loadA 1 #[iw 0,iw 0,iw 0,sw eb,iw 0,iw 0,iw 0,iw 0,sw eb,iw 0,iw 0,sw eb,.bool false,iw (hdropE st c.n)])<|s_store 2 #[iw 0,iw 0,iw 0,sw eb,iw 0,iw 0,iw 0,iw 0,sw eb,iw 0,iw 0,sw eb,.bool false,iw (hdropE st c.n)] ?_
  refine s_nt<|k_ret ?_
  have h1:hcall st c=hdrop st c.n:=hcall_14 om;have h2:hres st c=⟨zVl,zVl,0,eb,false,hdropE st c.n⟩:=hres_14 om;refine xs_fin [.agg #[iw 0,iw 0,iw 0,sw eb,iw 0,iw 0,iw 0,iw 0,sw eb,iw 0,iw 0,sw eb,.bool false,iw (hdropE st c.n)]] (hpA b (hdrop st c.n)::F) (SI.agg 4 35 2 SI.nil) (rr [0] [1,1,1]) ⟨?_,?_⟩
  .rw [h2];rfl
  rw[h1]
 have p57:=dF c55;refine k_sr<|sL t_cmp<|sP (.bool (decide (c.kind=15)))<|s_nt<|k_cond (decide (c.kind=15)) (fun c58=>?_) (fun c58=>?_)
 .have p59:=dY c58;refine k_sr<|sP (pB b 0)<|sP (pB g1 1)<|sL (t_loadA 2 (vc c.a))<|sC [3] (htag_s (st:=st) c.a) ?_
  refine sP (.tuple #[iw ((htagV st c.a).1),.bool ((htagV st c.a).2)])<|sP (iw ((htagV st c.a).1))<|sP (.bool ((htagV st c.a).2))<|sP (iw ((htagV st c.a).1))<|sP (.bool ((htagV st c.a).2))<|s_nt<|k_reg<|sP (iw ((htagV st c.a).1))<|sP (.bool ((htagV st c.a).2))<|sL (t_kern (.agg #[iw 0,iw 0,iw 0,sw eb,iw 0,iw 0,iw 0,iw 0,sw eb,iw 0,iw ((htagV st c.a).1),sw eb,.bool ((htagV st c.a).2),iw 0]))<|s_store 1 #[iw 0,iw 0,iw 0,sw eb,iw 0,iw 0,iw 0,iw 0,sw eb,iw 0,iw ((htagV st c.a).1),sw eb,.bool ((htagV st c.a).2),iw 0] ?_
  refine s_nil<|xs_block<|xs_then<|k_sr<|sL (t_loadA 1 #[iw 0,iw 0,iw 0,sw eb,iw 0,iw 0,iw 0,iw 0,sw eb,iw 0,iw ((htagV st c.a).1),sw eb,.bool ((htagV st c.a).2),iw 0])<|s_store 2 #[iw 0,iw 0,iw 0,sw eb,iw 0,iw 0,iw 0,iw 0,sw eb,iw 0,iw ((htagV st c.a).1),sw eb,.bool ((htagV st c.a).2),iw 0] ?_
  refine s_nt<|k_ret ?_
  have h1:hcall st c=st:=hcall_15 om;have h2:hres st c=⟨zVl,zVl,(htagV st c.a).1,eb,(htagV st c.a).2,0⟩:=hres_15 om;refine xs_fin [.agg #[iw 0,iw 0,iw 0,sw eb,iw 0,iw 0,iw 0,iw 0,sw eb,iw 0,iw ((htagV st c.a).1),sw eb,.bool ((htagV st c.a).2),iw 0]] (hpA b st::F) (SI.agg 4 35 2 SI.nil) (rr [0] [1,1,1]) ⟨?_,?_⟩
  .rw [h2];rfl
  rw[h1]
 have p60:=dF c58;refine k_sr<|sL t_cmp<|sP (.bool (decide (c.kind=16)))<|s_nt<|k_cond (decide (c.kind=16)) (fun c61=>?_) (fun c61=>?_)
 .have p62:=dY c61;refine k_sr<|sP (pB b 0)<|sP (pB g1 1)<|sL (t_loadA 2 (vc c.a))<|sC [3] (hname_s (st:=st) c.a) ?_
  refine sP (.tuple #[sw ((hnameV st c.a).1),.bool ((hnameV st c.a).2)])<|sP (sw ((hnameV st c.a).1))<|sP (.bool ((hnameV st c.a).2))<|sP (sw ((hnameV st c.a).1))<|sP (.bool ((hnameV st c.a).2))<|s_nt<|k_reg<|sP (sw ((hnameV st c.a).1))<|sP (.bool ((hnameV st c.a).2))<|sL (t_kern (.agg #[iw 0,iw 0,iw 0,sw eb,iw 0,iw 0,iw 0,iw 0,sw eb,iw 0,iw 0,sw ((hnameV st c.a).1),.bool ((hnameV st c.a).2),iw 0]))<|s_store 1 #[iw 0,iw 0,iw 0,sw eb,iw 0,iw 0,iw 0,iw 0,sw eb,iw 0,iw 0,sw ((hnameV st c.a).1),.bool ((hnameV st c.a).2),iw 0] ?_
  refine s_nil<|xs_block<|xs_then<|k_sr<|sL (t_loadA 1 #[iw 0,iw 0,iw 0,sw eb,iw 0,iw 0,iw 0,iw 0,sw eb,iw 0,iw 0,sw ((hnameV st c.a).1),.bool ((hnameV st c.a).2),iw 0])<|s_store 2 #[iw 0,iw 0,iw 0,sw eb,iw 0,iw 0,iw 0,iw 0,sw eb,iw 0,iw 0,sw ((hnameV st c.a).1),.bool ((hnameV st c.a).2),iw 0] ?_
  refine s_nt<|k_ret ?_
  have h1:hcall st c=st:=hcall_16 om;have h2:hres st c=⟨zVl,zVl,0,(hnameV st c.a).1,(hnameV st c.a).2,0⟩:=hres_16 om;refine xs_fin [.agg #[iw 0,iw 0,iw 0,sw eb,iw 0,iw 0,iw 0,iw 0,sw eb,iw 0,iw 0,sw ((hnameV st c.a).1),.bool ((hnameV st c.a).2),iw 0]] (hpA b st::F) (SI.agg 4 35 2 SI.nil) (rr [0] [1,1,1]) ⟨?_,?_⟩
  .rw [h2];rfl
  rw[h1]
 have p63:=dF c61;refine k_sr<|sL t_cmp<|sP (.bool (decide (c.kind=17)))<|s_nt<|k_cond (decide (c.kind=17)) (fun c64=>?_) (fun c64=>?_)
 .have p65:=dY c64;refine k_reg<|sP (pB b 0)<|sP (pB g1 1)<|sL (t_loadA 2 (vc c.a))<|sC [3] (hmeta_s (st:=st) c.a) ?_
  refine sP (pB g3 0)<|s_store 1 #[iw ((hmeta st c.a).kind),iw ((hmeta st c.a).p),iw ((hmeta st c.a).q),sw ((hmeta st c.a).str),iw ((hmeta st c.a).ref),iw 0,iw 0,iw 0,sw eb,iw 0,iw 0,sw eb,.bool false,iw 0] ?_
  refine s_nil<|xs_block<|xs_then<|k_sr<|sL (t_loadA 1 #[iw ((hmeta st c.a).kind),iw ((hmeta st c.a).p),iw ((hmeta st c.a).q),sw ((hmeta st c.a).str),iw ((hmeta st c.a).ref),iw 0,iw 0,iw 0,sw eb,iw 0,iw 0,sw eb,.bool false,iw 0])<|s_store 2 #[iw ((hmeta st c.a).kind),iw ((hmeta st c.a).p),iw ((hmeta st c.a).q),sw ((hmeta st c.a).str),iw ((hmeta st c.a).ref),iw 0,iw 0,iw 0,sw eb,iw 0,iw 0,sw eb,.bool false,iw 0] ?_
  refine s_nt<|k_ret ?_
  have h1:hcall st c=st:=hcall_17 om;have h2:hres st c=⟨hmeta st c.a,zVl,0,eb,false,0⟩:=hres_17 om;refine xs_fin [.agg #[iw ((hmeta st c.a).kind),iw ((hmeta st c.a).p),iw ((hmeta st c.a).q),sw ((hmeta st c.a).str),iw ((hmeta st c.a).ref),iw 0,iw 0,iw 0,sw eb,iw 0,iw 0,sw eb,.bool false,iw 0]] (hpA b st::F) (SI.agg 4 35 2 SI.nil) (rr [0] [1,1,1]) ⟨?_,?_⟩
  .rw [h2];rfl
  rw[h1]
 have p66:=dF c64;refine k_reg<|sP (pB b 0)<|sP (pB g1 16)<|sL (t_load 2 (iw c.n))<|sC [3] (halive_s (st:=st) c.n) ?_
 refine sP (pB g3 12)<|s_store 1 #[iw 0,iw 0,iw 0,sw eb,iw 0,iw 0,iw 0,iw 0,sw eb,iw 0,iw 0,sw eb,.bool (halive st c.n),iw 0] ?_
 refine s_nil<|xs_block<|xs_then<|k_sr<|sL (t_loadA 1 #[iw 0,iw 0,iw 0,sw eb,iw 0,iw 0,iw 0,iw 0,sw eb,iw 0,iw 0,sw eb,.bool (halive st c.n),iw 0])<|s_store 2 #[iw 0,iw 0,iw 0,sw eb,iw 0,iw 0,iw 0,iw 0,sw eb,iw 0,iw 0,sw eb,.bool (halive st c.n),iw 0] ?_
 refine s_nt<|k_ret ?_
 have h1:hcall st c=st:=hcall_x om;have h2:hres st c=⟨zVl,zVl,0,eb,halive st c.n,0⟩:=hres_x om;refine xs_fin [.agg #[iw 0,iw 0,iw 0,sw eb,iw 0,iw 0,iw 0,iw 0,sw eb,iw 0,iw 0,sw eb,.bool (halive st c.n),iw 0]] (hpA b st::F) (SI.agg 4 35 2 SI.nil) (rr [0] [1,1,1]) ⟨?_,?_⟩
 .rw [h2];rfl
 rw[h1]
end Go.Proofs.YtmilekfknhglkaaGreat
end
section
set_option linter.unusedSimpArgs false
set_option linter.unusedVariables false
set_option maxRecDepth 100000
set_option maxHeartbeats 2000000
namespace Go.Proofs.YtmilekfknhglkaaGreat
open Go.Hp Go.J Go.S
open Go.Mem (Ty KTy blk elemAt pre suf blk_pre blk_suf aget aset strK aggDesc)
open Go.Mem (adel apos aget_aset aget_adel)
structure Rx where
 o:Option Hob
 tp:Nat
 uv:Sv
 rv:Sv
def Rx.v:Rx→Value
 | ⟨some o,tp,uv,rv⟩=>.agg #[.int .i64 o.kind,.int .i64 o.tag,.string o.name,tabV (0,tp) o,.int .i64 o.mt.kind,.int .i64 o.mt.p,.int .i64 o.mt.q,.string o.mt.str,.int .i64 o.mt.ref,uv.v,rv.v]
 | ⟨none,_,_,_⟩=>.agg #[.int .i64 0,.int .i64 0,.string ByteArray.empty,.pointer none,.int .i64 0,.int .i64 0,.int .i64 0,.string ByteArray.empty,.int .i64 0,.slice none 0 0,.slice none 0 0]
theorem tabV_one(q:Nat×Nat)(o:Hob):(tabV q o).oneCell'=true:=by unfold tabV;split<;>rfl
theorem tabV_tab{q:Nat×Nat}{o:Hob}(h:o.kind=4):tabV q o=ptrV q.2:=by unfold tabV;rw[if_pos h]
def RxT:Ty Rx:=⟨86,11,136,true,Rx.v,⟨none,0,⟨none,0,0⟩,⟨none,0,0⟩⟩⟩
theorem RxT_ok : RxT.Ok Tryz.prog := ok_of RxT _ Tryz.t86 (by decide) (fun x => by obtain ⟨o, _, _, _⟩ := x; cases o <;> rfl) (fun x u hu => by
  obtain ⟨o, tp, uv, rv⟩ := x
  cases o with
  | none => simp [Ty.enc, RxT, Rx.v, Value.cells] at hu; repeat (first | (rcases hu with rfl | hu; rfl) | (subst hu; rfl))
  | some o =>
    simp [Ty.enc, RxT, Rx.v, Value.cells] at hu
    rcases hu with rfl | rfl | rfl | rfl | rfl | rfl | rfl | rfl | rfl | rfl | rfl <;> first | rfl | exact tabV_one _ _) (fun x => by obtain ⟨o, _, _, _⟩ := x; cases o <;> rfl) Tryz.underlying86 rfl (fun h => by cases h) (by kernel_rfl) (by kernel_rfl) (by kernel_rfl) (by kernel_rfl)
def usr(o:Hob):List Vl:=if o.kind=8 then o.vals else []
def rfs(o:Hob):List Vl:=if o.kind=8 then [] else o.vals
def rtO(tp:Nat)(o:Hob):Asr:=star (if o.kind=4 then [rtA tp o.tab.list o.tab.rest] else [])
def roP:Rx→Asr
 | ⟨some o,tp,uv,rv⟩=>star [own VlT uv.v (usr o),own VlT rv.v (rfs o),rtO tp o]
 | ⟨none,_,_,_⟩=>star []
def rallP(L:List Rx):Asr:=star (L.map roP)
def rhA(b:Nat)(st:Hst):Asr:=exA fun v=>exA fun tv=>exA fun L=>stA (HInv st∧L.map Rx.o=st.objs) [blkA b #[v,iw (st.count:Int),tv] 68,own RxT v L,own bTy tv st.tch,rallP L]
section
variable{Z:Zone}{F:List Asr}{H:Heap}{b:Nat}{st:Hst}{L:List Rx}{id:Int}{o o':Hob}{i tp:Nat}{uv rv:Sv}
theorem rh_open(h:Holds Z (rhA b st::F) H):∃(v tv:Value) (L:List Rx),(HInv st∧L.map Rx.o=st.objs)∧Holds Z (blkA b #[v,iw (st.count:Int),tv] 68::own RxT v L::own bTy tv st.tch::rallP L::F) H:=by
 obtain⟨v,h⟩:=h.open_ex;obtain⟨tv,h⟩:=h.open_ex;obtain⟨L,h⟩:=h.open_ex;exact⟨v,tv,L,h.open_st⟩
theorem rh_shut{v tv:Value}{n:Int}{T:List Bool}(hp:((HInv st∧L.map Rx.o=st.objs)∧n=(st.count:Int))∧T=st.tch)(h:Holds Z (blkA b #[v,iw n,tv] 68::own RxT v L::own bTy tv T::rallP L::F) H):Holds Z (rhA b st::F) H:=by
 obtain⟨⟨h1,rfl⟩,rfl⟩:=hp;exact Holds.shut_ex v (Holds.shut_ex tv (Holds.shut_ex L (Holds.shut_st h1 h)))
theorem rh_inv(h:Holds Z (rhA b st::F) H):HInv st:=by
 obtain⟨_,_,_,h,_⟩:=rh_open h;exact h.1
theorem rx_len(hL:L.map Rx.o=st.objs):L.length=st.objs.length:=by rw[←hL,List.length_map]
theorem rx_get(hL:L.map Rx.o=st.objs)(ho:st.get id=some o):∃tp uv rv,L[(id-1).toNat]?=some ⟨some o,tp,uv,rv⟩:=by
 obtain⟨_,h1,h2,h3⟩:=get_mem ho;rw[←hL,List.getElem?_map,show id.toNat-1=(id-1).toNat by omega]at h3;cases hx:L[(id-1).toNat]? with
 | none=>rw[hx]at h3;cases h3
 | some x=>
  rw[hx]at h3;obtain⟨ox,tp,uv,rv⟩:=x;simp at h3;exact⟨tp,uv,rv,by rw[←h3]⟩
theorem rx_cases(hL:L.map Rx.o=st.objs)(h1:1≤id)(h2:id≤(L.length:Int)):(∃tp uv rv,L[(id-1).toNat]?=some ⟨none,tp,uv,rv⟩∧st.get id=none)∨∃o tp uv rv,L[(id-1).toNat]?=some ⟨some o,tp,uv,rv⟩∧st.get id=some o:=by
 have hlt:(id-1).toNat<L.length:=by omega
 obtain⟨x,hx⟩:∃x,L[(id-1).toNat]?=some x:=⟨_,List.getElem?_eq_getElem hlt⟩;have hg:st.get id=x.o:=by
  unfold Hst.get;rw[if_pos h1,←hL,List.getElem?_map,show id.toNat-1=(id-1).toNat by omega,hx];rfl
 obtain⟨o,tp,uv,rv⟩:=x;cases o with
 | none=>exact .inl ⟨tp,uv,rv,hx,hg⟩
 | some o=>exact .inr ⟨o,tp,uv,rv,hx,hg⟩
theorem rtO_open(h4:o.kind=4)(h:Holds Z (rtO tp o::F) H):Holds Z (rtA tp o.tab.list o.tab.rest::F) H:=by
 unfold rtO at h;rw[if_pos h4]at h;exact h.star_out
theorem rtO_shut{T:Tb}(h4:o.kind=4)(h:Holds Z (rtA tp T.list T.rest::F) H):Holds Z (rtO tp { o with tab:=T }::F) H:=by
 unfold rtO;rw[if_pos h4];exact Holds.star_in (L:=[_]) h
theorem rtO_none(h4:o.kind≠4)(h:Holds Z F H):Holds Z (rtO tp o::F) H:=by
 unfold rtO;rw[if_neg h4];exact h.star_nil
theorem rall_out(hy:L[i]?=some ⟨some o,tp,uv,rv⟩)(h:Holds Z (rallP L::F) H):Holds Z (own VlT uv.v (usr o)::own VlT rv.v (rfs o)::rtO tp o::rallP (L.eraseIdx i)::F) H:=(h.star_get hy).star_out
theorem rall_in(hy:L[i]?=some ⟨some o,tp,uv,rv⟩){uv' rv':Sv}(h:Holds Z (own VlT uv'.v (usr o')::own VlT rv'.v (rfs o')::rtO tp o'::rallP (L.eraseIdx i)::F) H):Holds Z (rallP (L.set i ⟨some o',tp,uv',rv'⟩)::F) H:=by
 have h1:Holds Z (roP ⟨some o',tp,uv',rv'⟩::star ((L.eraseIdx i).map roP)::F) H:=Holds.star_in (L:=[_,_,_]) h;have hi:=(List.getElem?_eq_some_iff.1 hy).1;unfold rallP;rw[List.map_set];rw[←erase_map,←del_eq]at h1;have:=Holds.star_push (i:=i) (A:=roP ⟨some o,tp,uv,rv⟩) (by rw[gt_eq,List.getElem?_map,hy];rfl) h1;rwa [upd_eq]at this
theorem own_flat {α : Type} {T : Ty α} {v : Value} {A B : List α} (hl : A.length = B.length) (hf : T.flat A = T.flat B) (h : Holds Z (own T v A :: F) H) : Holds Z (own T v B :: F) H := h.imp fun S ⟨S1, S2, h1, h2, hd, hS⟩ => ⟨S1, S2, ⟨by
  obtain ⟨hw, _⟩ := h1
  unfold Ow at hw ⊢
  rw [← hl, ← hf]
  rcases hw with ⟨a, b⟩ | hw
  · exact .inl ⟨a, List.eq_nil_of_length_eq_zero (by rw [← hl, b]; rfl)⟩
  · exact .inr hw, h1.2⟩, h2, hd, hS⟩
theorem flat_set{α:Type}{T:Ty α}{A:List α}{x y:α}(hx:A[i]?=some x)(he:T.enc y=T.enc x):T.flat (A.set i y)=T.flat A:=by
 obtain⟨hi,e⟩:=List.getElem?_eq_some_iff.1 hx;have h1:A.set i y=A.take i++([y]++A.drop (i+1)):=by rw[List.set_eq_take_append_cons_drop,if_pos hi];rfl
 have h2:A=A.take i++([x]++A.drop (i+1)):=by
  have:A.drop i=A[i]::A.drop (i+1):=List.drop_eq_getElem_cons hi;rw[←e];show A=A.take i++(A[i]::A.drop (i+1));rw[←this,List.take_append_drop]
 have hs:T.flat [y]=T.flat [x]:=by show T.enc y++T.flat []=T.enc x++T.flat [];rw[he]
 rw[h1];conv=>rhs;rw[h2]
 simp only[Ty.flat_append,hs]
theorem own_set{α:Type}{T:Ty α}{v:Value}{A:List α}{x y:α}(hx:A[i]?=some x)(he:T.enc y=T.enc x)(h:Holds Z (own T v A::F) H):Holds Z (own T v (A.set i y)::F) H:=own_flat (by simp) (flat_set hx he).symm h
theorem rx_set{x:Rx}(hL:L.map Rx.o=st.objs)(ho:st.get id=some o)(hx:x.o=some o'):(L.set (id-1).toNat x).map Rx.o=(st.put id o').objs:=by
 obtain⟨_,h1,h2,_⟩:=get_mem ho;unfold Hst.put;rw[List.map_set,hL,hx,show id.toNat-1=(id-1).toNat by omega]
theorem rx_snoc{x:Rx}(hL:L.map Rx.o=st.objs)(hx:x.o=some o')(tch:List Bool):(L++[x]).map Rx.o=(⟨st.objs++[some o'],tch⟩:Hst).objs:=by rw[List.map_append,hL];simp[hx]
theorem rall_same{x:Rx}(hy:L[i]?=some x)(h:Holds Z (rallP (L.set i x)::F) H):Holds Z (rallP L::F) H:=by
 rw[set_same hy]at h;exact h
theorem rall_add{x:Rx}(h:Holds Z (roP x::rallP L::F) H):Holds Z (rallP (L++[x])::F) H:=by
 unfold rallP;rw[List.map_append];exact Holds.star_add h
def denB(st:Hst)(v:Vl):Bool:=(hfind st v).isSome
theorem den_zero(hi:HInv st){v:Vl}(h:v.kind=0):denB st v=false:=by
 unfold denB;cases hf:hfind st v with
 | none=>rfl
 | some o=>
  obtain⟨h1,h2⟩:=hfind_some hf;have:=(hi.obs o (get_mem h1).1).kind;rw[h2,h]at this;cases this
theorem den_none{v:Vl}(h:st.get v.ref=none):denB st v=false:=by unfold denB;rw[hfind_none h];rfl
theorem get_low{id:Int}(h:¬1≤id):st.get id=none:=by unfold Hst.get;rw[if_neg h]
theorem get_high{id:Int}(h:(st.objs.length:Int)<id):st.get id=none:=by unfold Hst.get;rw[if_pos om,List.getElem?_eq_none om];rfl
theorem den_kind{v:Vl}(h:st.get v.ref=some o)(hk:o.kind≠v.kind):denB st v=false:=by unfold denB;rw[hfind_kind h hk];rfl
theorem den_yes(hi:HInv st){v:Vl}(h:st.get v.ref=some o)(hk:o.kind=v.kind):isRef v.kind=denB st v:=by
 unfold denB;rw[hfind_is h hk,←hk];exact (hi.obs o (get_mem h).1).kind
theorem is_cases(st:Hst)(v:Vl)(k:Int):((denB st v&&decide (v.kind=k))=false∧(hfind st v=none∨v.kind≠k))∨∃o,(denB st v&&decide (v.kind=k))=true∧hfind st v=some o∧st.get v.ref=some o∧o.kind=v.kind∧v.kind=k:=by
 unfold denB;cases hf:hfind st v with
 | none=>exact .inl ⟨rfl,.inl rfl⟩
 | some o=>
  obtain⟨h1,h2⟩:=hfind_some hf;by_cases hk:v.kind=k
  .exact .inr ⟨o,by simp[hk],rfl,h1,h2,hk⟩
  exact .inl ⟨by simp[hk],.inr hk⟩
theorem tabE_cases(st:Hst)(v:Vl):(htab st v=none∧hgetE st v=8)∨∃o,htab st v=some o.tab∧st.get v.ref=some o∧o.kind=4∧v.kind=4∧hgetE st v=0:=by
 cases ht:htab st v with
 | none=>exact .inl ⟨rfl,hgetE_none ht⟩
 | some T=>
  obtain⟨o,_,h1,h2,h3,h4⟩:=htab_some ht;exact .inr ⟨o,by rw[h4],h1,h2,h3,hgetE_some ht⟩
theorem tab_of_is{v:Vl}(h:(denB st v&&decide (v.kind=4))=false):hgetE st v=8:=by
 refine hgetE_none ?_;cases hf:hfind st v with
 | none=>exact htab_none hf
 | some o=>
  unfold denB at h;rw[hf]at h;simp at h;exact htab_not hf (by rw[(hfind_some hf).2];exact h)
theorem tab_of_is2{v:Vl}(h:hfind st v=some o)(hk:o.kind=v.kind)(h4:v.kind=4):hgetE st v=0:=hgetE_some (htab_is h om)
end
theorem rref_s{Z:Zone}(v:Vl):SF Tryz.prog 102 #[v.v] Z [] fun r Bs=>r=.bool (isRef v.kind)∧Bs=[]:=by
 refine sf_enter Tryz.func102 21 [(0,.agg (vc v))] (fun w0=>?_);refine k_sr<|s_box (vc v) (fun g1=>?_)
 refine sP (.bool false)<|s_nr<|sP (pB g1 0)<|sL (t_load 0 (iw v.kind))<|sL t_cmp<|sP (.bool (decide (v.kind=4)))<|s_fork 6 (decide (v.kind=4)) (fun c2=>?_) (fun c2=>?_)
 .have p3:=dY c2;refine sK<|sK<|sK<|sP2 (.bool true)<|sK<|sK<|sK<|sP2 (.bool true)<|sK<|sK<|sK<|sP2 (.bool true)<|s_nt<|k_ret<|xs_fin [.bool true] [] (SI.tmp 2 SI.nil) (rr [] [0]) ⟨cB ?_,rfl⟩
  unfold isRef;simp[c2,p3]
 have p4:=dF c2;refine sP (pB g1 0)<|sL (t_load 0 (iw v.kind))<|sL t_cmp<|sP2 (.bool (decide (v.kind=5)))<|s_fork 11 (decide (v.kind=5)) (fun c5=>?_) (fun c5=>?_)
 .have p6:=dY c5;refine sK<|sK<|sK<|sP2 (.bool true)<|sK<|sK<|sK<|sP2 (.bool true)<|s_nt<|k_ret<|xs_fin [.bool true] [] (SI.tmp 2 SI.nil) (rr [] [0]) ⟨cB ?_,rfl⟩
  unfold isRef;simp[c2,c5,p4,p6]
 have p7:=dF c5;refine sP (pB g1 0)<|sL (t_load 0 (iw v.kind))<|sL t_cmp<|sP2 (.bool (decide (v.kind=7)))<|s_fork 16 (decide (v.kind=7)) (fun c8=>?_) (fun c8=>?_)
 .have p9:=dY c8;refine sK<|sK<|sK<|sP2 (.bool true)<|s_nt<|k_ret<|xs_fin [.bool true] [] (SI.tmp 2 SI.nil) (rr [] [0]) ⟨cB ?_,rfl⟩
  unfold isRef;simp[c2,c5,c8,p4,p7,p9]
 have p10:=dF c8;refine sP (pB g1 0)<|sL (t_load 0 (iw v.kind))<|sL t_cmp<|sP2 (.bool (decide (v.kind=8)))<|s_nt<|k_ret<|xs_fin [.bool (decide (v.kind=8))] [] (SI.tmp 2 SI.nil) (rr [] [0]) ⟨cB ?_,rfl⟩
 unfold isRef;simp[c2,c5,c8,p4,p7,p10]
theorem rden_s{Z:Zone}{F:List Asr}{b:Nat}{st:Hst}(hl:st.objs.length≤1000000)(v:Vl):SF Tryz.prog 125 #[.pointer (some ⟨b,0,none⟩),v.v] Z (rhA b st::F) fun r Bs=>r=.bool (denB st v)∧Bs=rhA b st::F:=by
 refine sf_enter Tryz.func125 46 [(0,pB b 0),(1,.agg (vc v))] (fun w0=>?_);refine k_fact (fun H h=>rh_inv (h.re [0] [])) (fun hi0=>?_);refine k_sr<|s_box (vc v) (fun g1=>?_)
 refine sP (.bool false)<|s_nt<|k_seq<|k_draw<|sP (pB b 0)<|sP2 (.bool true)<|sP (pB g1 0)<|sL (t_load 0 (iw v.kind))<|sL t_cmp<|sP2 (.bool (decide (v.kind≠0)))<|s_fork 12 (decide (v.kind≠0)) (fun c2=>?_) (fun c2=>?_)
 .have p3:=dY c2;refine sP (pB g1 4)<|sL (t_load 0 (iw v.ref))<|sL t_cmp<|sP2 (.bool (decide ((1:Int)≤v.ref)))<|s_fork 17 (decide ((1:Int)≤v.ref)) (fun c4=>?_) (fun c4=>?_)
  .have p5:=dY c4;refine sP (pB g1 4)<|sL (t_load 0 (iw v.ref))<|sP3 (pB b 0)<|s_mem3 (fun H h=>rh_open (h.re [1] [])) (fun v6 tv7 L8 hw=>?_)
   obtain⟨hi9,hL10⟩:=hw;have hln11:=rx_len hL10;have htl12:=hi9.tch;refine sL (t_load 0 v6)<|sF 1 (fun hf13=>?_)
   refine sL (t_len RxT_ok Tryz.underlying65 (.own 1))<|sL t_cmp<|sP2 (.bool (decide (v.ref≤(L8.length:Int))))<|s_fork 27 (decide (v.ref≤(L8.length:Int))) (fun c14=>?_) (fun c14=>?_)
   .have p15:=dY c14;refine sP3 (pB b 0)<|sL (t_load 0 v6)<|sP (pB g1 4)<|sL (t_load 4 (iw v.ref))<|sL (t_sub v.ref 1 ol)<|sL (t_index RxT_ok Tryz.underlying65 (.own 1) (v.ref-1) (((v.ref-1)).toNat) om ol om)<|sP (.pointer (some (elemAt RxT.size v6 (((v.ref-1)).toNat)))) ?_
    rcases rx_cases hL10 (by omega:1≤v.ref) om with ⟨tp16,uv17,rv18,hy19,hg20⟩|⟨o21,tp22,uv23,rv24,hy25,hg26⟩
    .refine sL (t_loadF 0 RxT_ok (.own 1) hy19)<|sP (pB g1 0)<|sL (t_load 4 (iw v.kind))<|sL t_cmp<|sP2 (.bool (decide ((0:Int)=v.kind)))<|s_fork 42 (decide ((0:Int)=v.kind)) (fun c27=>?_) (fun c27=>?_)
     .have p28:=dY c27;refine sL (t_loadA 4 (vc v))<|sV (fun _ h=>rref_s v)<|sP2 (.bool (isRef v.kind))<|s_nil<|x_dynS (fun _ h=>by obtain⟨_,_,e⟩:=hf13;subst e;kernel_rfl) ?_
      refine xs_then<|k_ret<|xs_mem (fun _ h=>rh_shut (st:=st) (n:=(st.count:Int)) (T:=st.tch) ⟨⟨⟨hi9,hL10⟩,rfl⟩,rfl⟩ (h.re [0,0,0,0] [])) ?_
      refine xs_fin [.bool (isRef v.kind)] (rhA b st::F) (SI.tmp 4 SI.nil) (rr [0] [1]) ⟨cB ?_,rfl⟩;exfalso;omega
     have p29:=dF c27;refine sK<|sK<|sP2 (.bool false)<|s_nil<|x_dynS (fun _ h=>by obtain⟨_,_,e⟩:=hf13;subst e;kernel_rfl) ?_
     refine xs_then<|k_ret<|xs_mem (fun _ h=>rh_shut (st:=st) (n:=(st.count:Int)) (T:=st.tch) ⟨⟨⟨hi9,hL10⟩,rfl⟩,rfl⟩ (h.re [0,0,0,0] [])) ?_
     refine xs_fin [.bool false] (rhA b st::F) (SI.tmp 4 SI.nil) (rr [0] [1]) ⟨cB ?_,rfl⟩;exact (den_none hg20).symm
    refine sL (t_loadF 0 RxT_ok (.own 1) hy25)<|sP (pB g1 0)<|sL (t_load 4 (iw v.kind))<|sL t_cmp<|sP2 (.bool (decide (o21.kind=v.kind)))<|s_fork 42 (decide (o21.kind=v.kind)) (fun c30=>?_) (fun c30=>?_)
    .have p31:=dY c30;refine sL (t_loadA 4 (vc v))<|sV (fun _ h=>rref_s v)<|sP2 (.bool (isRef v.kind))<|s_nil<|x_dynS (fun _ h=>by obtain⟨_,_,e⟩:=hf13;subst e;kernel_rfl) ?_
     refine xs_then<|k_ret<|xs_mem (fun _ h=>rh_shut (st:=st) (n:=(st.count:Int)) (T:=st.tch) ⟨⟨⟨hi9,hL10⟩,rfl⟩,rfl⟩ (h.re [0,0,0,0] [])) ?_
     refine xs_fin [.bool (isRef v.kind)] (rhA b st::F) (SI.tmp 4 SI.nil) (rr [0] [1]) ⟨cB ?_,rfl⟩;exact den_yes hi0 hg26 om
    have p32:=dF c30;refine sK<|sK<|sP2 (.bool false)<|s_nil<|x_dynS (fun _ h=>by obtain⟨_,_,e⟩:=hf13;subst e;kernel_rfl) ?_
    refine xs_then<|k_ret<|xs_mem (fun _ h=>rh_shut (st:=st) (n:=(st.count:Int)) (T:=st.tch) ⟨⟨⟨hi9,hL10⟩,rfl⟩,rfl⟩ (h.re [0,0,0,0] [])) ?_
    refine xs_fin [.bool false] (rhA b st::F) (SI.tmp 4 SI.nil) (rr [0] [1]) ⟨cB ?_,rfl⟩;exact (den_kind hg26 om).symm
   have p33:=dF c14;refine sK<|sK<|sK<|sK<|sK<|sK<|sK<|sK<|sK<|sK<|sK<|sK<|sK<|sP2 (.bool false)<|sK<|sK<|sP2 (.bool false)<|s_nil<|x_dynS (fun _ h=>by obtain⟨_,_,e⟩:=hf13;subst e;kernel_rfl) ?_
   refine xs_then<|k_ret<|xs_mem (fun _ h=>rh_shut (st:=st) (n:=(st.count:Int)) (T:=st.tch) ⟨⟨⟨hi9,hL10⟩,rfl⟩,rfl⟩ (h.re [0,0,0,0] [])) ?_
   refine xs_fin [.bool false] (rhA b st::F) (SI.tmp 4 SI.nil) (rr [0] [1]) ⟨cB ?_,rfl⟩;first|exact (den_zero hi0 om).symm|exact (den_none (get_low om)).symm|exact (den_none (get_high om)).symm
  have p34:=dF c4;refine sK<|sK<|sK<|sK<|sK<|sK<|sK<|sK<|sP2 (.bool false)<|sK<|sK<|sK<|sK<|sK<|sK<|sK<|sK<|sK<|sK<|sK<|sK<|sK<|sP2 (.bool false)<|sK<|sK<|sP2 (.bool false)<|s_nil<|x_dynS (fun _ h=>by kernel_rfl) ?_
  refine xs_then<|k_ret<|xs_fin [.bool false] (rhA b st::F) (SI.tmp 4 SI.nil) (rr [1] [1]) ⟨cB ?_,rfl⟩
  first|exact (den_zero hi0 om).symm|exact (den_none (get_low om)).symm|exact (den_none (get_high om)).symm
 have p35:=Decidable.not_not.1 (dF c2);refine sK<|sK<|sK<|sP2 (.bool false)<|sK<|sK<|sK<|sK<|sK<|sK<|sK<|sK<|sP2 (.bool false)<|sK<|sK<|sK<|sK<|sK<|sK<|sK<|sK<|sK<|sK<|sK<|sK<|sK<|sP2 (.bool false)<|sK ?_
 refine sK<|sP2 (.bool false)<|s_nil<|x_dynS (fun _ h=>by kernel_rfl) ?_
 refine xs_then<|k_ret<|xs_fin [.bool false] (rhA b st::F) (SI.tmp 4 SI.nil) (rr [1] [1]) ⟨cB ?_,rfl⟩
 first|exact (den_zero hi0 om).symm|exact (den_none (get_low om)).symm|exact (den_none (get_high om)).symm
theorem ris_s{Z:Zone}{F:List Asr}{b:Nat}{st:Hst}(hl:st.objs.length≤1000000)(v:Vl)(k:Int):SF Tryz.prog 97 #[.pointer (some ⟨b,0,none⟩),v.v,iw k] Z (rhA b st::F) fun r Bs=>r=.bool (denB st v&&decide (v.kind=k))∧Bs=rhA b st::F:=by
 refine sf_enter Tryz.func97 16 [(0,pB b 0),(1,.agg (vc v)),(2,iw k)] (fun w0=>?_);refine k_sr<|s_box (vc v) (fun g1=>?_)
 refine sP (.bool false)<|s_nt<|k_cut (ι:=Unit) (fun _=>True) (fun _=>[(6,.bool ((denB st v)&&(decide (v.kind=k))))]) (fun _=>blkA g1 (vc v) 32::rhA b st::F) ?_ (fun _ _=>?_)
 .refine k_reg<|sP (pB b 0)<|sL (t_loadA 0 (vc v))<|sC [1] (rden_s (st:=st) om v) ?_
  refine sP (.bool (denB st v))<|s_fork 10 (denB st v) (fun c2=>?_) (fun c2=>?_)
  .refine sP (pB g1 0)<|sL (t_load 1 (iw v.kind))<|sP (iw k)<|sL t_cmp<|sP2 (.bool (decide (v.kind=k)))<|s_nil ?_
   exact xs_cut () trivial (sub_of rfl ⟨⟨rfl,show Value.bool (decide (v.kind=k))=Value.bool ((denB st v)&&(decide (v.kind=k))) by first|(simp only[c2,bls];done)|simp[c2]⟩,trivial⟩) (rr [1,0] [])
  refine sK<|sK<|sK<|sK<|sP2 (.bool false)<|s_nil ?_
  exact xs_cut () trivial (sub_of rfl ⟨⟨rfl,show Value.bool false=Value.bool ((denB st v)&&(decide (v.kind=k))) by first|(simp only[c2,bls];done)|simp[c2]⟩,trivial⟩) (rr [1,0] [])
 refine k_ret ?_;exact xs_fin [.bool ((denB st v)&&(decide (v.kind=k)))] (rhA b st::F) (SI.tmp 6 SI.nil) (rr [1] [1]) ⟨rfl,rfl⟩
theorem rtab_s{Z:Zone}{F:List Asr}{b:Nat}{st:Hst}(hl:st.objs.length≤1000000)(v:Vl):SF Tryz.prog 87 #[.pointer (some ⟨b,0,none⟩),v.v] Z (rhA b st::F) fun r Bs=>r=iw (hgetE st v)∧Bs=rhA b st::F:=by
 refine sf_enter Tryz.func87 11 [(0,pB b 0),(1,.agg (vc v))] (fun w0=>?_);refine k_sr<|s_box (vc v) (fun g1=>?_)
 refine sP (iw 0)<|s_nt<|k_seq<|k_sr<|sP (pB b 0)<|sP (.bool false)<|s_nt<|k_false<|k_st<|k_seq<|k_sr<|sP (pB b 0)<|sL (t_loadA 0 (vc v))<|s_call [1] (ris_s (st:=st) om v 4) ?_
 rintro u2 _ ⟨e3,rfl⟩;rcases is_cases st v 4 with ⟨hb4,hn5⟩|⟨o6,hb7,hf8,ho9,hk10,hv11⟩
 .rw [hb4]at e3;subst e3;refine sP (.bool true)<|s_nt<|k_true<|k_sr<|sP (iw 8)<|s_nt<|k_ret<|xs_ret<|xs_fin [iw 8] (rhA b st::F) (SI.tmp 4 SI.nil) (rr [0] [1]) ⟨cI ?_,rfl⟩
  exact (tab_of_is hb4).symm
 rw[hb7]at e3;subst e3;have hgm12:=get_mem ho9;refine sP (.bool false)<|s_nt<|k_false<|k_st<|k_sr<|sP (iw 0)<|s_nt<|k_ret<|xs_fin [iw 0] (rhA b st::F) (SI.tmp 4 SI.nil) (rr [0] [1]) ⟨cI ?_,rfl⟩
 exact (tab_of_is2 hf8 hk10 hv11).symm
theorem rhget_s{Z:Zone}{F:List Asr}{b:Nat}{st:Hst}{n:Nat}(hsm:HSm n st)(hn:n≤300)(t k:Vl):SF Tryz.prog 46 #[.pointer (some ⟨b,0,none⟩),t.v,k.v] Z (rhA b st::F) fun r Bs=>r=pairV (hgetV st t k) (hgetE st t)∧Bs=rhA b st::F:=by
 refine sf_enter Tryz.func46 28 [(0,pB b 0),(1,.agg (vc t)),(2,.agg (vc k))] (fun w0=>?_);have hlen0:=hsm.len;refine k_fact (fun H h=>rh_inv (h.re [0] [])) (fun hi0=>?_);refine k_sr<|s_box (vc t) (fun g1=>?_)
 refine s_box (vc k) (fun g2=>?_);refine s_alloc (.agg zc) zc (fun g3=>?_);refine sP (iw 0)<|s_nr<|sP (pB b 0)<|sL (t_loadA 2 (vc t))<|s_call [3] (rtab_s (st:=st) om t) ?_
 rintro u4 _ ⟨e5,rfl⟩;rcases tabE_cases st t with ⟨ht6,he7⟩|⟨o8,ht9,ho10,hk11,hv12,he13⟩
 .rw [he7]at e5;subst e5;refine sP (iw 8)<|s_nt<|k_seq<|k_sr<|sP (iw 8)<|sL (t_cmp (c:=true))<|s_nt<|k_true<|k_sr<|sL (t_kern (.agg zc))<|sP (iw 8)<|s_store 1 zc ?_
  refine sP (iw 8)<|s_nt<|k_ret<|xs_ret<|xs_fin [.agg zc,iw 8] (rhA b st::F) (SI.agg 6 32 1 (SI.tmp 7 SI.nil)) (rr [0] [1,1,1]) ⟨?_,rfl⟩
  rw[hgetV_none ht6,hgetE_none ht6];rfl
 rw[he13]at e5;subst e5;have hgm14:=get_mem ho10;refine sP (iw 0)<|s_nt<|k_seq<|k_sr<|sP (iw 0)<|sL (t_cmp (c:=false))<|s_nt<|k_false<|k_st<|k_seq<|k_draw<|sP3 (pB b 0)<|s_mem3 (fun H h=>rh_open (h.re [0] [])) (fun v15 tv16 L17 hw=>?_)
 obtain⟨hi18,hL19⟩:=hw;have hln20:=rx_len hL19;have htl21:=hi18.tch;refine sL (t_load 0 v15)<|sP (pB g1 4)<|sL (t_load 6 (iw t.ref))<|sL (t_sub t.ref 1 ol)<|sL (t_index RxT_ok Tryz.underlying65 (.own 1) (t.ref-1) (((t.ref-1)).toNat) om ol om)<|sP (.pointer (some ((elemAt RxT.size v15 (((t.ref-1)).toNat)).add 3))) ?_
 obtain⟨tp22,uv23,rv24,hy25⟩:=rx_get hL19 ho10;refine sL (Lt.to (v':=ptrV tp22) (t_loadF 3 RxT_ok (.own 1) hy25) (tabV_tab hk11))<|sL (t_loadA 5 (vc k))<|s_mem (fun _ h=>rall_out hy25 (h.re [3] [])) ?_
 refine s_mem (fun _ h=>rtO_open hk11 (h.re [2] [])) ?_;obtain⟨hl26,hl262,_⟩:=hsm.obs o8 (get_mem ho10).1;have hl263:n*(n+1)≤300*301:=Nat.mul_le_mul om om;refine sC [0] (rtget_s (L:=o8.tab.list) (S:=o8.tab.rest) ol ol k) ?_;refine s_store 7 (vc (tget ⟨o8.tab.list,o8.tab.rest⟩ k)) ?_;refine sP (iw 0)<|s_nil<|x_dynS (fun _ h=>by kernel_rfl) ?_
 refine xs_then<|k_ret<|xs_mem (fun _ h=>rtO_shut (o:=o8) (T:=o8.tab) hk11 (h.re [0] [])) ?_
 refine xs_mem (fun _ h=>rall_in (o':={ o8 with tab:=o8.tab }) (uv':=uv23) (rv':=rv24) hy25 (h.re [1,1,0,0] [])) ?_;refine xs_mem (fun _ h=>rall_same hy25 h) ?_;refine xs_mem (fun _ h=>rh_shut (st:=st) (n:=(st.count:Int)) (T:=st.tch) ⟨⟨⟨hi18,hL19⟩,rfl⟩,rfl⟩ (h.re [1,1,1,0] [])) ?_;refine xs_fin [.agg (vc (tget ⟨o8.tab.list,o8.tab.rest⟩ k)),iw 0] (rhA b st::F) (SI.agg 6 32 1 (SI.tmp 7 SI.nil)) (rr [0] [1,1,1]) ⟨?_,rfl⟩;rw[hgetV_some ht9,hgetE_some ht9];rfl
theorem relem_s{Z:Zone}(v:Vl):SF Tryz.prog 90 #[v.v] Z [] fun r Bs=>r=iw (elemE v)∧Bs=[]:=by
 refine sf_enter Tryz.func90 15 [(0,.agg (vc v))] (fun w0=>?_);refine k_sr<|s_box (vc v) (fun g1=>?_)
 refine sP (iw 0)<|s_nt<|k_seq<|k_sr<|sP (pB g1 0)<|sL (t_load 0 (iw v.kind))<|sL t_cmp<|sP (.bool (decide (v.kind=3)))<|s_fork 6 (decide (v.kind=3)) (fun c2=>?_) (fun c2=>?_)
 .have p3:=dY c2;refine sP (pB g1 3)<|sL (t_load 0 (sw v.str))<|sL (t_kern (iw (v.str.size:Int)))<|sL t_cmp<|sP (.bool (decide ((4096:Int)<(v.str.size:Int))))<|s_nt<|k_cond (decide ((4096:Int)<(v.str.size:Int))) (fun c4=>?_) (fun c4=>?_)
  .have p5:=dY c4;refine k_sr<|sP (iw 14)<|s_nt<|k_ret<|xs_ret<|xs_fin [iw 14] [] (SI.tmp 2 SI.nil) (rr [] [0]) ⟨cI ?_,rfl⟩
   unfold elemE;simp[c2,c4,p3,p5]
  have p6:=dF c4;refine k_st<|k_seq<|k_sr<|sL (t_loadA 0 (vc v))<|sV (fun _ h=>rvalid_s v)<|sP (.bool (!(validB v)))<|s_nt<|k_cond (!(validB v)) (fun c7=>?_) (fun c7=>?_)
  .have c8:=not_t c7;refine k_sr<|sP (iw 2)<|s_nt<|k_ret<|xs_ret<|xs_fin [iw 2] [] (SI.tmp 2 SI.nil) (rr [] [0]) ⟨cI ?_,rfl⟩
   unfold elemE;simp[c2,c4,c7,p3,p6,c8]
  have c9:=not_f c7;refine k_st<|k_sr<|sP (iw 0)<|s_nt<|k_ret<|xs_fin [iw 0] [] (SI.tmp 2 SI.nil) (rr [] [0]) ⟨cI ?_,rfl⟩
  unfold elemE;simp[c2,c4,c7,p3,p6,c9]
 have p10:=dF c2;refine sK<|sK<|sK<|sK<|sP (.bool false)<|s_nt<|k_false<|k_st<|k_seq<|k_sr<|sL (t_loadA 0 (vc v))<|sV (fun _ h=>rvalid_s v)<|sP (.bool (!(validB v)))<|s_nt<|k_cond (!(validB v)) (fun c11=>?_) (fun c11=>?_)
 .have c12:=not_t c11;refine k_sr<|sP (iw 2)<|s_nt<|k_ret<|xs_ret<|xs_fin [iw 2] [] (SI.tmp 2 SI.nil) (rr [] [0]) ⟨cI ?_,rfl⟩
  unfold elemE;simp[c2,c11,p10,c12]
 have c13:=not_f c11;refine k_st<|k_sr<|sP (iw 0)<|s_nt<|k_ret<|xs_fin [iw 0] [] (SI.tmp 2 SI.nil) (rr [] [0]) ⟨cI ?_,rfl⟩
 unfold elemE;simp[c2,c11,p10,c13]
theorem rtouch_s{Z:Zone}{F:List Asr}{b:Nat}{vv tv:Value}{m:Int}{T:List Bool}(v:Vl)(h1:1≤v.ref)(h2:v.ref≤(T.length:Int))(hl:T.length≤1000000)(e:Int):SF Tryz.prog 91 #[.pointer (some ⟨b,0,none⟩),v.v,iw e] Z (blkA b #[vv,iw m,tv] 68::own bTy tv T::F) fun r Bs=>r=iw e∧Bs=(if e=0 then blkA b #[vv,iw m,tv] 68::own bTy tv (T.set ((v.ref-1)).toNat true)::F else blkA b #[vv,iw m,tv] 68::own bTy tv T::F):=by
 refine sf_enter Tryz.func91 18 [(0,pB b 0),(1,.agg (vc v)),(2,iw e)] (fun w0=>?_);refine k_sr<|s_box (vc v) (fun g1=>?_)
 refine sP (iw 0)<|s_nt<|k_seq<|k_sr<|sP (iw e)<|sL t_cmp<|s_nt<|k_cond (decide (e=0)) (fun c2=>?_) (fun c2=>?_)
 .have p3:=dY c2;refine k_draw<|sP2 (pB b 0)<|sP (pB b 2)<|sL (t_load 1 tv)<|sP (pB g1 4)<|sL (t_load 0 (iw v.ref))<|sL (t_sub v.ref 1 ol)<|sL (t_index bTy_ok Tryz.underlying66 (.own 2) (v.ref-1) (((v.ref-1)).toNat) om ol om) ?_
  obtain⟨y4,hy5⟩:∃y,T[((v.ref-1)).toNat]?=some y:=⟨_,List.getElem?_eq_getElem ol⟩;refine s_storeE 2 0 true bTy_ok hy5 ?_;refine s_nil<|x_dynS (fun _ h=>by kernel_rfl) ?_
  refine xs_then<|k_sr<|sP2 (iw e)<|s_nt<|k_ret ?_
  rw[if_pos (dY c2)];exact xs_fin [iw e] (blkA b #[vv,iw m,tv] 68::own bTy tv (T.set (((v.ref-1)).toNat) true)::F) (SI.tmp 6 SI.nil) (rr [1,1] [2]) ⟨rfl,rfl⟩
 have p6:=dF c2;refine k_st<|k_sr<|sP2 (iw e)<|s_nt<|k_ret ?_
 rw[if_neg (dF c2)];exact xs_fin [iw e] (blkA b #[vv,iw m,tv] 68::own bTy tv T::F) (SI.tmp 6 SI.nil) (rr [1,1] [2]) ⟨rfl,rfl⟩
theorem rhset_s{Z:Zone}{F:List Asr}{b:Nat}{st:Hst}{n:Nat}(hsm:HSm n st)(hn:n≤300)(t k x:Vl):SF Tryz.prog 47 #[.pointer (some ⟨b,0,none⟩),t.v,k.v,x.v] Z (rhA b st::F) fun r Bs=>r=iw (hsetE st t k x)∧Bs=rhA b (hset st t k x)::F:=by
 refine sf_enter Tryz.func47 45 [(0,pB b 0),(1,.agg (vc t)),(2,.agg (vc k)),(3,.agg (vc x))] (fun w0=>?_);have hlen0:=hsm.len;refine k_fact (fun H h=>rh_inv (h.re [0] [])) (fun hi0=>?_);refine k_sr<|s_box (vc t) (fun g1=>?_)
 refine s_box (vc k) (fun g2=>?_);refine s_box (vc x) (fun g3=>?_);refine sP (iw 0)<|s_nr<|sP (pB b 0)<|sL (t_loadA 2 (vc t))<|s_call [3] (rtab_s (st:=st) om t) ?_
 rintro u4 _ ⟨e5,rfl⟩;rcases tabE_cases st t with ⟨ht6,he7⟩|⟨o8,ht9,ho10,hk11,hv12,he13⟩
 .rw [he7]at e5;subst e5;refine sP (iw 8)<|s_nt<|k_seq<|k_sr<|sP (iw 8)<|sL (t_cmp (c:=true))<|s_nt<|k_true<|k_sr<|sP2 (iw 8)<|s_nt<|k_ret<|xs_ret ?_
  have hp:=hset_none (k:=k) (v:=x) ht6;refine xs_fin [iw 8] (rhA b st::F) (SI.tmp 8 SI.nil) (rr [0] [1,1,1]) ⟨?_,?_⟩
  .rw [hp.2];exact cI (by first|rfl|exact tsetE_ok hk hv0)
  rw[hp.1]
 rw[he13]at e5;subst e5;have hgm14:=get_mem ho10;refine sP (iw 0)<|s_nt<|k_seq<|k_sr<|sP (iw 0)<|sL (t_cmp (c:=false))<|s_nt<|k_false<|k_st<|k_seq<|k_cut (ι:=Unit) (fun _=>True) (fun _=>[(0,pB b 0),(5,pB g1 0),(6,pB g2 0),(7,pB g3 0),(23,.bool ((decide (k.kind=0))||(!(validB k))))]) (fun _=>rhA b st::blkA g3 (vc x) 32::blkA g2 (vc k) 32::blkA g1 (vc t) 32::F) ?_ (fun _ _=>?_)
 .refine k_reg<|sP (pB g2 0)<|sL (t_load 2 (iw k.kind))<|sL t_cmp<|sP (.bool (decide (k.kind=0)))<|s_fork 19 (decide (k.kind=0)) (fun c15=>?_) (fun c15=>?_)
  .have p16:=dY c15;refine sK<|sK<|sK<|sP (.bool true)<|s_nil ?_
   exact xs_cut () trivial (sub_of rfl (rQ (rQ (rQ (rQ ⟨⟨rfl,show Value.bool true=Value.bool ((decide (k.kind=0))||(!(validB k))) by first|(simp only[c15,bls];done)|simp[c15]⟩,trivial⟩))))) (rr [0,0,0,0] [])
  have p17:=dF c15;refine sL (t_loadA 2 (vc k))<|sV (fun _ h=>rvalid_s k)<|sP2 (.bool (!(validB k)))<|s_nil ?_
  exact xs_cut () trivial (sub_of rfl (rQ (rQ (rQ (rQ ⟨⟨rfl,show Value.bool (!(validB k))=Value.bool ((decide (k.kind=0))||(!(validB k))) by first|(simp only[c15,bls];done)|simp[c15]⟩,trivial⟩))))) (rr [0,0,0,0] [])
 refine k_cond ((decide (k.kind=0))||(!(validB k))) (fun c18=>?_) (fun c18=>?_)
 .have p19:=c18;simp only[Bool.and_eq_true,Bool.or_eq_true,Bool.and_eq_false_iff,Bool.or_eq_false_iff,Bool.not_eq_true',Bool.not_eq_false',decide_eq_true_eq,decide_eq_false_iff_not]at p19;refine k_sr<|sP (iw 13)<|s_nt<|k_ret<|xs_ret ?_
  have hk:okKey k=false:=okKey_bad (by first|exact p19|exact .inl p19|exact .inr p19);have hp:=hset_key (v:=x) ht9 hk;refine xs_fin [iw 13] (rhA b st::F) (SI.tmp 8 SI.nil) (rr [0] [1,1,1]) ⟨?_,?_⟩
  .rw [hp.2];exact cI (by first|rfl|exact tsetE_ok hk hv0)
  rw[hp.1]
 obtain⟨c20,c21⟩:=or_f c18;have p22:=dF c20;have c23:=not_f c21;refine k_st<|k_sr<|sL (t_loadA 1 (vc x))<|sV (fun _ h=>relem_s x)<|sP (iw (elemE x))<|s_nt<|k_seq<|k_sr<|sP (iw (elemE x))<|sL t_cmp<|s_nt<|k_cond (decide ((elemE x)≠0)) (fun c24=>?_) (fun c24=>?_)
 .have p25:=dY c24;refine k_sr<|sP2 (iw (elemE x))<|s_nt<|k_ret<|xs_ret ?_
  have hk:=okKey_good c20 c23;have hp:=hset_elem (v:=x) ht9 hk (dY c24);refine xs_fin [iw (elemE x)] (rhA b st::F) (SI.tmp 8 SI.nil) (rr [0] [1,1,1]) ⟨?_,?_⟩
  .rw [hp.2];exact cI (by first|rfl|exact tsetE_ok hk hv0)
  rw[hp.1]
 have p26:=Decidable.not_not.1 (dF c24);refine k_st<|k_seq<|k_mem3 (fun H h=>rh_open (h.re [0] [])) (fun v27 tv28 L29 hw=>?_)
 obtain⟨hi30,hL31⟩:=hw;have hln32:=rx_len hL31;have htl33:=hi30.tch;refine k_held [blkA b #[v27,iw (st.count:Int),tv28] 68,own RxT v27 L29,blkA g3 (vc x) 32,blkA g2 (vc k) 32,blkA g1 (vc t) 32] ?_;refine hp_ 0 [0,0,2,2,2] (pB b 0) ?_;refine h_l 1 rfl [0,0,2,2,2] (fun _=>(t_loadA 4 (vc t))) ?_;refine hp_ 2 [0,0,2,2,2] (pB b 0) ?_;refine hp_ 3 [0,0,2,2,2] (pB b 0) ?_;refine hp_ 4 [0,0,2,2,2] (pB b 0) ?_;refine h_l 5 rfl [0,0,2,2,2] (fun _=>(t_load 0 v27)) ?_;refine hp_ 6 [0,0,2,2,2] (pB g1 4) ?_;refine h_l 7 rfl [0,0,2,2,2] (fun _=>(t_load 4 (iw t.ref))) ?_;refine h_l 8 rfl [0,0,2,2,2] (fun _=>(t_sub t.ref 1 ol)) ?_;refine h_l 9 rfl [0,0,2,2,2] (fun _=>(t_index RxT_ok Tryz.underlying65 (.own 1) (t.ref-1) (((t.ref-1)).toNat) om ol om)) ?_;refine hp_ 10 [0,0,2,2,2] (.pointer (some ((elemAt RxT.size v27 (((t.ref-1)).toNat)).add 3))) ?_;obtain⟨tp34,uv35,rv36,hy37⟩:=rx_get hL31 ho10;refine h_l 11 rfl [0,0,2,2,2] (fun _=>(Lt.to (v':=ptrV tp34) (t_loadF 3 RxT_ok (.own 1) hy37) (tabV_tab hk11))) ?_;refine h_l 12 rfl [0,0,2,2,2] (fun _=>(t_loadA 3 (vc k))) ?_;refine h_l 13 rfl [0,0,2,2,2] (fun _=>(t_loadA 2 (vc x))) ?_;refine h_stepS 14 ?_;refine s_mem (fun _ h=>rall_out hy37 (h.re [3] [])) ?_;refine s_mem (fun _ h=>rtO_open hk11 (h.re [2] [])) ?_;obtain⟨hl38,hl382,_⟩:=hsm.obs o8 (get_mem ho10).1;have hl383:n*(n+1)≤300*301:=Nat.mul_le_mul om om;refine sC [0] (rtset_s (L:=o8.tab.list) (S:=o8.tab.rest) (hi30.obs o8 (get_mem ho10).1).tab ol ol k x) ?_;refine nH [4,4,5,5,5]<|h_stepS 15 ?_
 have hk:=okKey_good c20 c23;have he0:elemE x=0:=Decidable.not_not.1 (dF c24);have hv0:=elem_valid he0;refine s_call [4,5] (rtouch_s (vv:=v27) (m:=(st.count:Int)) (T:=st.tch) t om om om (tsetE k x)) ?_;rw[if_pos (tsetE_ok hk hv0)];rintro _ _ ⟨rfl,rfl⟩;refine nH [0,5,5,5,5]<|hp_ 16 [0,5,5,5,5] (iw (tsetE k x)) ?_
 refine h_doneS ?_;refine xs_then<|k_ret<|xs_mem (fun _ h=>rtO_shut (o:=o8) (T:=(tset ⟨o8.tab.list,o8.tab.rest⟩ k x)) hk11 (h.re [2] [])) ?_
 refine xs_mem (fun _ h=>rall_in (o':={ o8 with tab:=(tset ⟨o8.tab.list,o8.tab.rest⟩ k x) }) (uv':=uv35) (rv':=rv36) hy37 (h.re [3,3,0,2] [])) ?_;refine xs_mem (fun _ h=>own_set (y:=⟨some { o8 with tab:=(tset ⟨o8.tab.list,o8.tab.rest⟩ k x) },tp34,uv35,rv36⟩) hy37 rfl (h.re [3] [])) ?_;have hob39:=hi30.obs o8 (get_mem ho10).1;refine xs_mem (fun _ h=>rh_shut (st:=((st.put t.ref { o8 with tab:=(tset ⟨o8.tab.list,o8.tab.rest⟩ k x) }).touch t.ref)) (n:=(st.count:Int)) (T:=(st.tch.set ((t.ref-1)).toNat true)) ⟨⟨⟨touch_inv (put_inv (o:={ o8 with tab:=(tset ⟨o8.tab.list,o8.tab.rest⟩ k x) }) hi30 ⟨hob39.kind,(tset_inv hob39.tab _ _),hob39.mt⟩) t.ref,rx_set hL31 ho10 rfl⟩,(show (st.count:Int)=((Hst.count (st.put t.ref { o8 with tab:=(tset ⟨o8.tab.list,o8.tab.rest⟩ k x) }):Nat):Int) by rw[count_put ho10])⟩,by show _=List.set _ _ _;congr 1;omega⟩ (h.re [2,0,1,0] [])) ?_;have hp:=hset_ok ht9 ho10 hk he0;refine xs_fin [iw (tsetE k x)] (rhA b ((st.put t.ref { o8 with tab:=(tset ⟨o8.tab.list,o8.tab.rest⟩ k x) }).touch t.ref)::F) (SI.tmp 8 SI.nil) (rr [0] [1,1,1]) ⟨?_,?_⟩
 .rw [hp.2];exact cI (by first|rfl|exact tsetE_ok hk hv0)
 rw[hp.1]
theorem hmeta_no{st:Hst}(hi:HInv st){v:Vl}(h4:hfind st v=none∨v.kind≠4)(h8:hfind st v=none∨v.kind≠8):hmeta st v=zVl:=by
 unfold hmeta;cases hf:hfind st v with
 | none=>rfl
 | some o=>
  obtain⟨h1,h2⟩:=hfind_some hf;rw[hf]at h4 h8;simp at h4 h8;exact (hi.obs o (get_mem h1).1).mt om om
theorem rhmeta_s{Z:Zone}{F:List Asr}{b:Nat}{st:Hst}(hl:st.objs.length≤1000000)(v:Vl):SF Tryz.prog 59 #[.pointer (some ⟨b,0,none⟩),v.v] Z (rhA b st::F) fun r Bs=>r=(hmeta st v).v∧Bs=rhA b st::F:=by
 refine sf_enter Tryz.func59 24 [(0,pB b 0),(1,.agg (vc v))] (fun w0=>?_);refine k_fact (fun H h=>rh_inv (h.re [0] [])) (fun hi0=>?_);refine k_sr<|s_box (vc v) (fun g1=>?_)
 refine s_alloc (.agg zc) zc (fun g2=>?_);refine s_nt<|k_seq<|k_sr<|sP (pB b 0)<|sL (t_loadA 1 (vc v))<|s_call [2] (ris_s (st:=st) om v 4) ?_
 rintro u3 _ ⟨e4,rfl⟩;rcases is_cases st v 4 with ⟨hb5,hn6⟩|⟨o7,hb8,hf9,ho10,hk11,hv12⟩
 .rw [hb5]at e4;subst e4;refine sP (.bool false)<|sP (pB b 0)<|sL (t_loadA 2 (vc v))<|s_call [0] (ris_s (st:=st) om v 8) ?_
  rintro u13 _ ⟨e14,rfl⟩;rcases is_cases st v 8 with ⟨hb15,hn16⟩|⟨o17,hb18,hf19,ho20,hk21,hv22⟩
  .rw [hb15]at e14;subst e14;refine sP (.bool false)<|s_nt<|k_false<|k_st<|k_sr<|sL (t_kern (.agg zc))<|s_store 1 zc ?_
   refine s_nt<|k_ret<|xs_fin [.agg zc] (rhA b st::F) (SI.agg 4 32 1 SI.nil) (rr [0] [1,1]) ⟨?_,rfl⟩
   rw[hmeta_no hi0 hn6 hn16];rfl
  rw[hb18]at e14;subst e14;have hgm23:=get_mem ho20;refine sP (.bool true)<|s_nt<|k_true<|k_seq<|k_draw<|sP3 (pB b 0)<|s_mem3 (fun H h=>rh_open (h.re [0] [])) (fun v24 tv25 L26 hw=>?_)
  obtain⟨hi27,hL28⟩:=hw;have hln29:=rx_len hL28;have htl30:=hi27.tch;refine sL (t_load 0 v24)<|sP (pB g1 4)<|sL (t_load 5 (iw v.ref))<|sL (t_sub v.ref 1 ol)<|sL (t_index RxT_ok Tryz.underlying65 (.own 1) (v.ref-1) (((v.ref-1)).toNat) om ol om)<|sP (.pointer (some ((elemAt RxT.size v24 (((v.ref-1)).toNat)).add 4))) ?_
  obtain⟨tp31,uv32,rv33,hy34⟩:=rx_get hL28 ho20;refine sL (t_loadG 4 (vc o17.mt) RxT_ok (.own 1) hy34)<|s_store 4 (vc o17.mt) ?_
  refine s_nil<|x_dynS (fun _ h=>by kernel_rfl) ?_
  refine xs_then<|k_ret<|xs_ret<|xs_mem (fun _ h=>rh_shut (st:=st) (n:=(st.count:Int)) (T:=st.tch) ⟨⟨⟨hi27,hL28⟩,rfl⟩,rfl⟩ (h.re [0,0,0,0] [])) ?_
  refine xs_fin [.agg (vc o17.mt)] (rhA b st::F) (SI.agg 4 32 1 SI.nil) (rr [0] [1,1]) ⟨?_,rfl⟩;unfold hmeta;rw[hf19];rfl
 rw[hb8]at e4;subst e4;have hgm35:=get_mem ho10;refine sP (.bool true)<|sK<|sK<|sK<|sP (.bool true)<|s_nt<|k_true<|k_seq<|k_draw<|sP3 (pB b 0)<|s_mem3 (fun H h=>rh_open (h.re [0] [])) (fun v36 tv37 L38 hw=>?_)
 obtain⟨hi39,hL40⟩:=hw;have hln41:=rx_len hL40;have htl42:=hi39.tch;refine sL (t_load 0 v36)<|sP (pB g1 4)<|sL (t_load 5 (iw v.ref))<|sL (t_sub v.ref 1 ol)<|sL (t_index RxT_ok Tryz.underlying65 (.own 1) (v.ref-1) (((v.ref-1)).toNat) om ol om)<|sP (.pointer (some ((elemAt RxT.size v36 (((v.ref-1)).toNat)).add 4))) ?_
 obtain⟨tp43,uv44,rv45,hy46⟩:=rx_get hL40 ho10;refine sL (t_loadG 4 (vc o7.mt) RxT_ok (.own 1) hy46)<|s_store 4 (vc o7.mt) ?_
 refine s_nil<|x_dynS (fun _ h=>by kernel_rfl) ?_
 refine xs_then<|k_ret<|xs_ret<|xs_mem (fun _ h=>rh_shut (st:=st) (n:=(st.count:Int)) (T:=st.tch) ⟨⟨⟨hi39,hL40⟩,rfl⟩,rfl⟩ (h.re [0,0,0,0] [])) ?_
 refine xs_fin [.agg (vc o7.mt)] (rhA b st::F) (SI.agg 4 32 1 SI.nil) (rr [0] [1,1]) ⟨?_,rfl⟩;unfold hmeta;rw[hf9];rfl
theorem hmetaOk_no{st:Hst}{v m:Vl}(h4:hfind st v=none∨v.kind≠4)(h8:hfind st v=none∨v.kind≠8):hmetaOk st v m=false:=by
 unfold hmetaOk;cases hf:hfind st v with
 | none=>rfl
 | some o=>
  obtain⟨h1,h2⟩:=hfind_some hf;rw[hf]at h4 h8;simp at h4 h8;simp[h2,h4,h8]
theorem hmetaOk_zero{st:Hst}{v m:Vl}{o:Hob}(hf:hfind st v=some o)(hk:o.kind=4∨o.kind=8)(hz:m=zVl):hmetaOk st v m=true:=by
 unfold hmetaOk;rw[hf];rcases hk with h|h<;>simp[h,hz]
theorem hmetaOk_tab{st:Hst}{v m:Vl}{o:Hob}{T:Tb}(hf:hfind st v=some o)(hk:o.kind=4∨o.kind=8)(ht:htab st m=some T):hmetaOk st v m=true:=by
 unfold hmetaOk;rw[hf];rcases hk with h|h<;>simp[h,ht]
theorem hmetaOk_not{st:Hst}{v m:Vl}{o:Hob}(hf:hfind st v=some o)(hz:m≠zVl)(hm:hfind st m=none∨m.kind≠4):hmetaOk st v m=false:=by
 unfold hmetaOk;rw[hf];have ht:htab st m=none:=by
  rcases hm with h|h
  .exact htab_none h
  cases hx:hfind st m with
  | none=>exact htab_none hx
  | some x=>exact htab_not hx (by rw[(hfind_some hx).2];exact h)
 simp[hz,ht]
theorem rhsetmeta_s{Z:Zone}{F:List Asr}{b:Nat}{st:Hst}(hl:st.objs.length≤1000000)(v m:Vl):SF Tryz.prog 52 #[.pointer (some ⟨b,0,none⟩),v.v,m.v] Z (rhA b st::F) fun r Bs=>r=iw (hsetMetaE st v m)∧Bs=rhA b (hsetMeta st v m)::F:=by
 refine sf_enter Tryz.func52 43 [(0,pB b 0),(1,.agg (vc v)),(2,.agg (vc m))] (fun w0=>?_);refine k_fact (fun H h=>rh_inv (h.re [0] [])) (fun hi0=>?_);refine k_sr<|s_box (vc v) (fun g1=>?_)
 refine s_box (vc m) (fun g2=>?_);refine sP (iw 0)<|s_nt<|k_seq<|k_sr<|sP (pB b 0)<|sP (.bool false)<|s_nt<|k_false<|k_st<|k_seq<|k_sr<|sP (pB b 0)<|sL (t_loadA 1 (vc v))<|s_call [2] (ris_s (st:=st) om v 4) ?_
 rintro u3 _ ⟨e4,rfl⟩;rcases is_cases st v 4 with ⟨hb5,hn6⟩|⟨o7,hb8,hf9,ho10,hk11,hv12⟩
 .rw [hb5]at e4;subst e4;refine sP2 (.bool true)<|sP (pB b 0)<|sL (t_loadA 2 (vc v))<|s_call [0] (ris_s (st:=st) om v 8) ?_
  rintro u13 _ ⟨e14,rfl⟩;rcases is_cases st v 8 with ⟨hb15,hn16⟩|⟨o17,hb18,hf19,ho20,hk21,hv22⟩
  .rw [hb15]at e14;subst e14;refine sP3 (.bool true)<|sK<|sK<|sK<|sK<|sK<|sK<|sK<|sK<|sK<|sP (.bool true)<|s_nt<|k_true<|k_sr<|sP (iw 8)<|s_nt<|k_ret<|xs_ret ?_
   have hb:hmetaOk st v m=false:=hmetaOk_no hn6 hn16;refine xs_fin [iw 8] (rhA b st::F) (SI.tmp 6 SI.nil) (rr [0] [1,1]) ⟨?_,?_⟩
   .unfold hsetMetaE;rw[hb];rfl
   unfold hsetMeta;rw[hb];rfl
  rw[hb18]at e14;subst e14;have hgm23:=get_mem ho20;refine sP3 (.bool false)<|sL (t_loadA 1 (vc m))<|sL (t_kern (.agg zc))<|sL (t_eqS (fun w=>(eqVlT m zVl w).2))<|sP (.bool (!(decide (m=zVl))))<|s_fork 23 (!(decide (m=zVl))) (fun c24=>?_) (fun c24=>?_)
  .have c25:=not_t c24;have p26:=dF c25;refine sP (pB b 0)<|sL (t_loadA 1 (vc m))<|s_call [0] (ris_s (st:=st) om m 4) ?_
   rintro u27 _ ⟨e28,rfl⟩;rcases is_cases st m 4 with ⟨hb29,hn30⟩|⟨o31,hb32,hf33,ho34,hk35,hv36⟩
   .rw [hb29]at e28;subst e28;refine sP3 (.bool true)<|s_nt<|k_true<|k_sr<|sP (iw 8)<|s_nt<|k_ret<|xs_ret ?_
    have hb:hmetaOk st v m=false:=hmetaOk_not hf19 (dF c25) hn30;refine xs_fin [iw 8] (rhA b st::F) (SI.tmp 6 SI.nil) (rr [0] [1,1]) ⟨?_,?_⟩
    .unfold hsetMetaE;rw[hb];rfl
    unfold hsetMeta;rw[hb];rfl
   rw[hb32]at e28;subst e28;have hgm37:=get_mem ho34;refine sP3 (.bool false)<|s_nt<|k_false<|k_st<|k_seq<|k_draw<|sP3 (pB b 0)<|s_mem3 (fun H h=>rh_open (h.re [0] [])) (fun v38 tv39 L40 hw=>?_)
   obtain⟨hi41,hL42⟩:=hw;have hln43:=rx_len hL42;have htl44:=hi41.tch;refine sL (t_load 0 v38)<|sP (pB g1 4)<|sL (t_load 5 (iw v.ref))<|sL (t_sub v.ref 1 ol)<|sL (t_loadA 4 (vc m))<|sL (t_index RxT_ok Tryz.underlying65 (.own 1) (v.ref-1) (((v.ref-1)).toNat) om ol om)<|sP (.pointer (some ((elemAt RxT.size v38 (((v.ref-1)).toNat)).add 4))) ?_
   obtain⟨tp45,uv46,rv47,hy48⟩:=rx_get hL42 ho20;refine s_storeE 1 4 (⟨some { o17 with mt:=m },tp45,uv46,rv47⟩:Rx) RxT_ok hy48 ?_;refine s_mem (fun _ h=>rall_in (o':={ o17 with mt:=m }) (uv':=uv46) (rv':=rv47) hy48 (rall_out (o:=o17) hy48 (h.re [3] []))) ?_;have hob49:=hi41.obs o17 (get_mem ho20).1;refine s_nil<|x_dynS (fun _ h=>by kernel_rfl) ?_
   refine xs_then<|k_sr<|sP (pB b 0)<|sL (t_loadA 5 (vc v))<|s_call [1,2] (rtouch_s (vv:=v38) (m:=(st.count:Int)) (T:=st.tch) v om om om 0) ?_
   rw[if_pos (rfl)];rintro _ _ ⟨rfl,rfl⟩;refine sP (iw 0)<|s_nt<|k_ret<|xs_mem (fun _ h=>rh_shut (st:=((st.put v.ref { o17 with mt:=m }).touch v.ref)) (n:=(st.count:Int)) (T:=(st.tch.set ((v.ref-1)).toNat true)) ⟨⟨⟨touch_inv (put_inv (o:={ o17 with mt:=m }) hi41 ⟨hob49.kind,hob49.tab,(fun a b=>by exfalso;have a1:o17.kind≠4:=a;have b1:o17.kind≠8:=b;omega)⟩) v.ref,rx_set hL42 ho20 rfl⟩,(show (st.count:Int)=((Hst.count (st.put v.ref { o17 with mt:=m }):Nat):Int) by rw[count_put ho20])⟩,by show _=List.set _ _ _;congr 1;omega⟩ (h.re [0,2,0,0] [])) ?_
   have hb:hmetaOk st v m=true:=hmetaOk_tab hf19 (.inr om) (htab_is hf33 om);refine xs_fin [iw 0] (rhA b ((st.put v.ref { o17 with mt:=m }).touch v.ref)::F) (SI.tmp 6 SI.nil) (rr [0] [1,1]) ⟨?_,?_⟩
   .unfold hsetMetaE;rw[hb];rfl
   unfold hsetMeta;rw[hb];unfold Hst.setMt;rw[ho20];rfl
  have c50:=not_f c24;have p51:=dY c50;refine sK<|sK<|sK<|sK<|sP2 (.bool false)<|s_nt<|k_false<|k_st<|k_seq<|k_draw<|sP3 (pB b 0)<|s_mem3 (fun H h=>rh_open (h.re [0] [])) (fun v52 tv53 L54 hw=>?_)
  obtain⟨hi55,hL56⟩:=hw;have hln57:=rx_len hL56;have htl58:=hi55.tch;refine sL (t_load 0 v52)<|sP (pB g1 4)<|sL (t_load 5 (iw v.ref))<|sL (t_sub v.ref 1 ol)<|sL (t_loadA 4 (vc m))<|sL (t_index RxT_ok Tryz.underlying65 (.own 1) (v.ref-1) (((v.ref-1)).toNat) om ol om)<|sP (.pointer (some ((elemAt RxT.size v52 (((v.ref-1)).toNat)).add 4))) ?_
  obtain⟨tp59,uv60,rv61,hy62⟩:=rx_get hL56 ho20;refine s_storeE 1 4 (⟨some { o17 with mt:=m },tp59,uv60,rv61⟩:Rx) RxT_ok hy62 ?_;refine s_mem (fun _ h=>rall_in (o':={ o17 with mt:=m }) (uv':=uv60) (rv':=rv61) hy62 (rall_out (o:=o17) hy62 (h.re [3] []))) ?_;have hob63:=hi55.obs o17 (get_mem ho20).1;refine s_nil<|x_dynS (fun _ h=>by kernel_rfl) ?_
  refine xs_then<|k_sr<|sP (pB b 0)<|sL (t_loadA 5 (vc v))<|s_call [1,2] (rtouch_s (vv:=v52) (m:=(st.count:Int)) (T:=st.tch) v om om om 0) ?_
  rw[if_pos (rfl)];rintro _ _ ⟨rfl,rfl⟩;refine sP (iw 0)<|s_nt<|k_ret<|xs_mem (fun _ h=>rh_shut (st:=((st.put v.ref { o17 with mt:=m }).touch v.ref)) (n:=(st.count:Int)) (T:=(st.tch.set ((v.ref-1)).toNat true)) ⟨⟨⟨touch_inv (put_inv (o:={ o17 with mt:=m }) hi55 ⟨hob63.kind,hob63.tab,(fun a b=>by exfalso;have a1:o17.kind≠4:=a;have b1:o17.kind≠8:=b;omega)⟩) v.ref,rx_set hL56 ho20 rfl⟩,(show (st.count:Int)=((Hst.count (st.put v.ref { o17 with mt:=m }):Nat):Int) by rw[count_put ho20])⟩,by show _=List.set _ _ _;congr 1;omega⟩ (h.re [0,2,0,0] [])) ?_
  have hb:hmetaOk st v m=true:=hmetaOk_zero hf19 (.inr om) (dY c50);refine xs_fin [iw 0] (rhA b ((st.put v.ref { o17 with mt:=m }).touch v.ref)::F) (SI.tmp 6 SI.nil) (rr [0] [1,1]) ⟨?_,?_⟩
  .unfold hsetMetaE;rw[hb];rfl
  unfold hsetMeta;rw[hb];unfold Hst.setMt;rw[ho20];rfl
 rw[hb8]at e4;subst e4;have hgm64:=get_mem ho10;refine sP2 (.bool false)<|sK<|sK<|sK<|sK<|sP2 (.bool false)<|sL (t_loadA 1 (vc m))<|sL (t_kern (.agg zc))<|sL (t_eqS (fun w=>(eqVlT m zVl w).2))<|sP (.bool (!(decide (m=zVl))))<|s_fork 23 (!(decide (m=zVl))) (fun c65=>?_) (fun c65=>?_)
 .have c66:=not_t c65;have p67:=dF c66;refine sP (pB b 0)<|sL (t_loadA 1 (vc m))<|s_call [0] (ris_s (st:=st) om m 4) ?_
  rintro u68 _ ⟨e69,rfl⟩;rcases is_cases st m 4 with ⟨hb70,hn71⟩|⟨o72,hb73,hf74,ho75,hk76,hv77⟩
  .rw [hb70]at e69;subst e69;refine sP3 (.bool true)<|s_nt<|k_true<|k_sr<|sP (iw 8)<|s_nt<|k_ret<|xs_ret ?_
   have hb:hmetaOk st v m=false:=hmetaOk_not hf9 (dF c66) hn71;refine xs_fin [iw 8] (rhA b st::F) (SI.tmp 6 SI.nil) (rr [0] [1,1]) ⟨?_,?_⟩
   .unfold hsetMetaE;rw[hb];rfl
   unfold hsetMeta;rw[hb];rfl
  rw[hb73]at e69;subst e69;have hgm78:=get_mem ho75;refine sP3 (.bool false)<|s_nt<|k_false<|k_st<|k_seq<|k_draw<|sP3 (pB b 0)<|s_mem3 (fun H h=>rh_open (h.re [0] [])) (fun v79 tv80 L81 hw=>?_)
  obtain⟨hi82,hL83⟩:=hw;have hln84:=rx_len hL83;have htl85:=hi82.tch;refine sL (t_load 0 v79)<|sP (pB g1 4)<|sL (t_load 5 (iw v.ref))<|sL (t_sub v.ref 1 ol)<|sL (t_loadA 4 (vc m))<|sL (t_index RxT_ok Tryz.underlying65 (.own 1) (v.ref-1) (((v.ref-1)).toNat) om ol om)<|sP (.pointer (some ((elemAt RxT.size v79 (((v.ref-1)).toNat)).add 4))) ?_
  obtain⟨tp86,uv87,rv88,hy89⟩:=rx_get hL83 ho10;refine s_storeE 1 4 (⟨some { o7 with mt:=m },tp86,uv87,rv88⟩:Rx) RxT_ok hy89 ?_;refine s_mem (fun _ h=>rall_in (o':={ o7 with mt:=m }) (uv':=uv87) (rv':=rv88) hy89 (rall_out (o:=o7) hy89 (h.re [3] []))) ?_;have hob90:=hi82.obs o7 (get_mem ho10).1;refine s_nil<|x_dynS (fun _ h=>by kernel_rfl) ?_
  refine xs_then<|k_sr<|sP (pB b 0)<|sL (t_loadA 5 (vc v))<|s_call [1,2] (rtouch_s (vv:=v79) (m:=(st.count:Int)) (T:=st.tch) v om om om 0) ?_
  rw[if_pos (rfl)];rintro _ _ ⟨rfl,rfl⟩;refine sP (iw 0)<|s_nt<|k_ret<|xs_mem (fun _ h=>rh_shut (st:=((st.put v.ref { o7 with mt:=m }).touch v.ref)) (n:=(st.count:Int)) (T:=(st.tch.set ((v.ref-1)).toNat true)) ⟨⟨⟨touch_inv (put_inv (o:={ o7 with mt:=m }) hi82 ⟨hob90.kind,hob90.tab,(fun a b=>by exfalso;have a1:o7.kind≠4:=a;have b1:o7.kind≠8:=b;omega)⟩) v.ref,rx_set hL83 ho10 rfl⟩,(show (st.count:Int)=((Hst.count (st.put v.ref { o7 with mt:=m }):Nat):Int) by rw[count_put ho10])⟩,by show _=List.set _ _ _;congr 1;omega⟩ (h.re [0,2,0,0] [])) ?_
  have hb:hmetaOk st v m=true:=hmetaOk_tab hf9 (.inl om) (htab_is hf74 om);refine xs_fin [iw 0] (rhA b ((st.put v.ref { o7 with mt:=m }).touch v.ref)::F) (SI.tmp 6 SI.nil) (rr [0] [1,1]) ⟨?_,?_⟩
  .unfold hsetMetaE;rw[hb];rfl
  unfold hsetMeta;rw[hb];unfold Hst.setMt;rw[ho10];rfl
 have c91:=not_f c65;have p92:=dY c91;refine sK<|sK<|sK<|sK<|sP2 (.bool false)<|s_nt<|k_false<|k_st<|k_seq<|k_draw<|sP3 (pB b 0)<|s_mem3 (fun H h=>rh_open (h.re [0] [])) (fun v93 tv94 L95 hw=>?_)
 obtain⟨hi96,hL97⟩:=hw;have hln98:=rx_len hL97;have htl99:=hi96.tch;refine sL (t_load 0 v93)<|sP (pB g1 4)<|sL (t_load 5 (iw v.ref))<|sL (t_sub v.ref 1 ol)<|sL (t_loadA 4 (vc m))<|sL (t_index RxT_ok Tryz.underlying65 (.own 1) (v.ref-1) (((v.ref-1)).toNat) om ol om)<|sP (.pointer (some ((elemAt RxT.size v93 (((v.ref-1)).toNat)).add 4))) ?_
 obtain⟨tp100,uv101,rv102,hy103⟩:=rx_get hL97 ho10;refine s_storeE 1 4 (⟨some { o7 with mt:=m },tp100,uv101,rv102⟩:Rx) RxT_ok hy103 ?_;refine s_mem (fun _ h=>rall_in (o':={ o7 with mt:=m }) (uv':=uv101) (rv':=rv102) hy103 (rall_out (o:=o7) hy103 (h.re [3] []))) ?_;have hob104:=hi96.obs o7 (get_mem ho10).1;refine s_nil<|x_dynS (fun _ h=>by kernel_rfl) ?_
 refine xs_then<|k_sr<|sP (pB b 0)<|sL (t_loadA 5 (vc v))<|s_call [1,2] (rtouch_s (vv:=v93) (m:=(st.count:Int)) (T:=st.tch) v om om om 0) ?_
 rw[if_pos (rfl)];rintro _ _ ⟨rfl,rfl⟩;refine sP (iw 0)<|s_nt<|k_ret<|xs_mem (fun _ h=>rh_shut (st:=((st.put v.ref { o7 with mt:=m }).touch v.ref)) (n:=(st.count:Int)) (T:=(st.tch.set ((v.ref-1)).toNat true)) ⟨⟨⟨touch_inv (put_inv (o:={ o7 with mt:=m }) hi96 ⟨hob104.kind,hob104.tab,(fun a b=>by exfalso;have a1:o7.kind≠4:=a;have b1:o7.kind≠8:=b;omega)⟩) v.ref,rx_set hL97 ho10 rfl⟩,(show (st.count:Int)=((Hst.count (st.put v.ref { o7 with mt:=m }):Nat):Int) by rw[count_put ho10])⟩,by show _=List.set _ _ _;congr 1;omega⟩ (h.re [0,2,0,0] [])) ?_
 have hb:hmetaOk st v m=true:=hmetaOk_zero hf9 (.inl om) (dY c91);refine xs_fin [iw 0] (rhA b ((st.put v.ref { o7 with mt:=m }).touch v.ref)::F) (SI.tmp 6 SI.nil) (rr [0] [1,1]) ⟨?_,?_⟩
 .unfold hsetMetaE;rw[hb];rfl
 unfold hsetMeta;rw[hb];unfold Hst.setMt;rw[ho10];rfl
theorem hmake_eq{st:Hst}{o:Hob}(hf:st.count<65536):hmake st o=⟨st.objs++[some o],st.tch++[true]⟩:=by unfold hmake;rw[if_neg om]
theorem radd_s{Z:Zone}{F:List Asr}{b:Nat}{st:Hst}{o:Hob}{tp:Nat}{uv rv:Sv}(hob:ObInv o)(hl:st.objs.length≤1000000):SF Tryz.prog 85 #[.pointer (some ⟨b,0,none⟩),Rx.v ⟨some o,tp,uv,rv⟩] Z (rhA b st::roP ⟨some o,tp,uv,rv⟩::F) fun r Bs=>r=pairV (hmakeV st o.kind) (hmakeE st)∧Bs=rhA b (hmake st o)::F:=by
 refine sf_enter Tryz.func85 47 [(0,pB b 0),(1,.agg #[iw o.kind,iw o.tag,sw o.name,(tabV (0,tp) o),iw o.mt.kind,iw o.mt.p,iw o.mt.q,sw o.mt.str,iw o.mt.ref,uv.v,rv.v])] (fun w0=>?_);refine k_sr<|s_box #[iw o.kind,iw o.tag,sw o.name,(tabV (0,tp) o),iw o.mt.kind,iw o.mt.p,iw o.mt.q,sw o.mt.str,iw o.mt.ref,uv.v,rv.v] (fun g1=>?_)
 refine s_alloc (.agg zc) zc (fun g2=>?_);refine sP (iw 0)<|s_nt<|k_seq<|k_sr<|sP2 (pB b 0)<|sP (pB b 1)<|s_mem3 (fun H h=>rh_open (h.re [2] [])) (fun v3 tv4 L5 hw=>?_)
 obtain⟨hi6,hL7⟩:=hw;have hln8:=rx_len hL7;have htl9:=hi6.tch;refine sL (t_load 0 (iw (st.count:Int)))<|sL t_cmp<|s_nt<|k_cond (decide ((65536:Int)≤(st.count:Int))) (fun c10=>?_) (fun c10=>?_)
 .have p11:=dY c10;refine k_sr<|sL (t_kern (.agg zc))<|s_store 4 zc ?_
  refine sP (iw 17)<|s_nt<|k_ret<|xs_ret<|xs_mem (fun _ h=>rh_shut (st:=st) (n:=(st.count:Int)) (T:=st.tch) ⟨⟨⟨hi6,hL7⟩,rfl⟩,rfl⟩ (h.re [0,0,0,0] [])) ?_
  have hf:65536≤st.count:=by omega
  refine xs_fin [.agg zc,iw 17] (rhA b st::F) (SI.agg 4 32 1 (SI.tmp 5 SI.nil)) (rr [0] [1,1,1]) ⟨?_,?_⟩
  .rw [(hmakeV_full hf).1,(hmakeV_full (k:=0) hf).2];rfl
  rw[hmake_full hf]
 have p12:=dF c10;refine k_st<|k_seq<|k_draw<|sP4 (pB b 0)<|sL (t_load 0 v3)<|sL (t_loadA 5 #[iw o.kind,iw o.tag,sw o.name,(tabV (0,tp) o),iw o.mt.kind,iw o.mt.p,iw o.mt.q,sw o.mt.str,iw o.mt.ref,uv.v,rv.v])<|s_buildSlice (e:=86) [(0,.agg #[iw o.kind,iw o.tag,sw o.name,(tabV (0,tp) o),iw o.mt.kind,iw o.mt.p,iw o.mt.q,sw o.mt.str,iw o.mt.ref,uv.v,rv.v])] #[iw o.kind,iw o.tag,sw o.name,(tabV (0,tp) o),iw o.mt.kind,iw o.mt.p,iw o.mt.q,sw o.mt.str,iw o.mt.ref,uv.v,rv.v] (fun g13=>?_) (hb:=by kernel_rfl)
 refine s_append (L:=L5) 2 RxT_ok Tryz.underlying65 (.lit 0 RxT_ok [(⟨some o,tp,uv,rv⟩:Rx)]) (by show _*136≤_;(try simp only[lnm]);omega) ol (fun v14=>?_);refine sP2 (pB b 0)<|sF 2 (fun hf15=>?_)
 refine s_store (u:=v14) (m:=1) 1 #[v14,iw (st.count:Int),tv4] ?_ (hm:=by (obtain⟨_,_,e⟩:=hf15;rw[e];rfl)) (h1:=by (obtain⟨_,_,e⟩:=hf15;rw[e];rfl)) (ha':=by (obtain⟨_,_,e⟩:=hf15;rw[e];rfl));refine s_nil<|x_dynS (fun _ h=>by kernel_rfl) ?_
 refine xs_then<|k_sr<|sP3 (pB b 0)<|sP (pB b 2)<|sL (t_load 1 tv4)<|s_buildSlice (e:=4) [(0,.bool true)] #[.bool true] (fun g16=>?_) (hb:=by kernel_rfl)
 refine s_append (L:=st.tch) 4 bTy_ok Tryz.underlying66 (.lit 0 bTy_ok [true]) (by show _*1≤_;(try simp only[lnm]);omega) ol (fun v17=>?_);refine sP (pB b 0)<|sP (pB b 2)<|sF 4 (fun hf18=>?_)
 refine s_store (u:=v17) (m:=1) 2 #[v14,iw (st.count:Int),v17] ?_ (hm:=by (obtain⟨_,_,e⟩:=hf18;rw[e];rfl)) (h1:=by (obtain⟨_,_,e⟩:=hf18;rw[e];rfl)) (ha':=by (obtain⟨_,_,e⟩:=hf18;rw[e];rfl));refine s_nr<|sP3 (pB b 0)<|sP (pB b 1)<|sL (t_load 2 (iw (st.count:Int)))<|sL (t_add (st.count:Int) 1 ol)<|sP (pB b 0)<|sP (pB b 1)<|s_store 2 #[v14,iw ((st.count:Int)+1),v17] ?_
 refine s_nt<|k_seq<|k_draw<|sP (pB g1 0)<|sL (t_load 7 (iw o.kind))<|sP3 (pB b 0)<|sL (t_load 2 v14)<|sL (t_len RxT_ok Tryz.underlying65 (.own 3))<|sL (t_kern (.agg #[iw o.kind,iw 0,iw 0,sw eb,iw ((L5++[(⟨some o,tp,uv,rv⟩:Rx)]).length:Int)]))<|s_store 6 #[iw o.kind,iw 0,iw 0,sw eb,iw ((L5++[(⟨some o,tp,uv,rv⟩:Rx)]).length:Int)] ?_
 refine sP (iw 0)<|s_nil<|x_dynS (fun _ h=>by obtain⟨_,_,e⟩:=hf15;subst e;kernel_rfl) ?_
 refine xs_then<|k_ret ?_
 have hf:st.count<65536:=by omega
 refine xs_mem (fun _ h=>rall_add (h.re [8,5] [])) ?_;refine xs_mem (fun _ h=>rh_shut (st:=(hmake st o)) (n:=((st.count:Int)+1)) (T:=(st.tch++[true])) ⟨⟨⟨hmake_inv hi6 hob,by rw[hmake_eq hf];exact rx_snoc (x:=⟨some o,tp,uv,rv⟩) hL7 rfl _⟩,by rw[hmake_eq hf,count_snoc];rfl⟩,by rw[hmake_eq hf]⟩ (h.re [3,3,3,0] [])) ?_;refine xs_fin [.agg #[iw o.kind,iw 0,iw 0,sw eb,iw ((L5++[(⟨some o,tp,uv,rv⟩:Rx)]).length:Int)],iw 0] (rhA b (hmake st o)::F) (SI.agg 4 32 3 (SI.tmp 5 SI.nil)) (rr [0] [1,1,1,1]) ⟨?_,rfl⟩;rw[(hmakeV_ok hf).1,(hmakeV_ok (k:=0) hf).2];exact congrArg (fun v:Vl=>pairV v 0) (congrArg (refV o.kind) (by have h5:=rx_len hL7;rw[List.length_append,h5];rfl))
theorem rhnewtable_s{Z:Zone}{F:List Asr}{b:Nat}{st:Hst}(hl:st.objs.length≤1000000):SF Tryz.prog 42 #[.pointer (some ⟨b,0,none⟩)] Z (rhA b st::F) fun r Bs=>r=pairV (hmakeV st 4) (hmakeE st)∧Bs=rhA b (hmake st (newO 4 0 eb []))::F:=by
 refine sf_enter Tryz.func42 13 [(0,pB b 0)] (fun w0=>?_);refine k_sr<|s_alloc (.agg zc) zc (fun g1=>?_)
 refine sP (iw 0)<|s_nt<|k_seq<|k_sr<|sP (pB b 0)<|sP (.bool false)<|s_nt<|k_false<|k_st<|k_sr<|sP (pB b 0)<|s_pcall (fun _ h=>rtnew_s) ?_
 rintro _ _ ⟨tg2,rfl,rfl⟩;refine sL (t_kern (.agg #[iw 4,iw 0,sw eb,pB tg2 0,iw 0,iw 0,iw 0,sw eb,iw 0,(.slice none 0 0),(.slice none 0 0)]))<|s_mem (fun _ h=>Holds.nilS (T:=VlT) h) ?_
 refine s_mem (fun _ h=>Holds.nilS (T:=VlT) h) ?_;refine s_mem (fun _ h=>rtO_shut (tp:=tg2) (o:=(newO 4 0 eb [])) (T:=noTb) rfl (h.re [2] [])) ?_;refine s_mem (fun _ h=>show Holds _ (roP ⟨some (newO 4 0 eb []),tg2,⟨none,0,0⟩,⟨none,0,0⟩⟩::_) _ from Holds.star_in (L:=[own VlT (Sv.v ⟨none,0,0⟩) (usr (newO 4 0 eb [])),own VlT (Sv.v ⟨none,0,0⟩) (rfs (newO 4 0 eb [])),rtO tg2 (newO 4 0 eb [])]) (h.re [2,1,0] [])) ?_;refine sC [2,0] (radd_s (st:=st) (o:=(newO 4 0 eb [])) (tp:=tg2) (uv:=⟨none,0,0⟩) (rv:=⟨none,0,0⟩) (newO_inv _ _ _ (by decide)) om) ?_;refine sP (.agg (vc (hmakeV st 4)))<|sP (iw (hmakeE st))<|s_store 1 (vc (hmakeV st 4)) ?_
 refine sP (iw (hmakeE st))<|s_nt<|k_ret ?_
 exact xs_fin [.agg (vc (hmakeV st 4)),iw (hmakeE st)] (rhA b (hmake st (newO 4 0 eb []))::F) (SI.agg 2 32 1 (SI.tmp 3 SI.nil)) (rr [0] [1]) ⟨rfl,rfl⟩
theorem rhnewfunc_s{Z:Zone}{F:List Asr}{b:Nat}{st:Hst}(hl:st.objs.length≤1000000)(tag:Int):SF Tryz.prog 43 #[.pointer (some ⟨b,0,none⟩),iw tag] Z (rhA b st::F) fun r Bs=>r=pairV (hmakeV st 5) (hmakeE st)∧Bs=rhA b (hmake st (newO 5 tag eb []))::F:=by
 refine sf_enter Tryz.func43 15 [(0,pB b 0),(1,iw tag)] (fun w0=>?_);refine k_sr<|s_alloc (.agg zc) zc (fun g1=>?_)
 refine sP (iw 0)<|s_nt<|k_seq<|k_sr<|sP (pB b 0)<|sP (.bool false)<|s_nt<|k_false<|k_st<|k_sr<|sP (pB b 0)<|sP (iw tag)<|sL (t_kern (.agg #[iw 5,iw tag,sw eb,.pointer none,iw 0,iw 0,iw 0,sw eb,iw 0,(.slice none 0 0),(.slice none 0 0)]))<|s_mem (fun _ h=>Holds.nilS (T:=VlT) h) ?_
 refine s_mem (fun _ h=>Holds.nilS (T:=VlT) h) ?_;refine s_mem (fun _ h=>rtO_none (tp:=0) (o:=(newO 5 tag eb [])) (show (5:Int)≠4 by decide) h) ?_;refine s_mem (fun _ h=>show Holds _ (roP ⟨some (newO 5 tag eb []),0,⟨none,0,0⟩,⟨none,0,0⟩⟩::_) _ from Holds.star_in (L:=[own VlT (Sv.v ⟨none,0,0⟩) (usr (newO 5 tag eb [])),own VlT (Sv.v ⟨none,0,0⟩) (rfs (newO 5 tag eb [])),rtO 0 (newO 5 tag eb [])]) (h.re [2,1,0] [])) ?_;refine sC [2,0] (radd_s (st:=st) (o:=(newO 5 tag eb [])) (tp:=0) (uv:=⟨none,0,0⟩) (rv:=⟨none,0,0⟩) (newO_inv _ _ _ (by decide)) om) ?_;refine sP (.agg (vc (hmakeV st 5)))<|sP (iw (hmakeE st))<|s_store 1 (vc (hmakeV st 5)) ?_
 refine sP (iw (hmakeE st))<|s_nt<|k_ret ?_
 exact xs_fin [.agg (vc (hmakeV st 5)),iw (hmakeE st)] (rhA b (hmake st (newO 5 tag eb []))::F) (SI.agg 4 32 1 (SI.tmp 5 SI.nil)) (rr [0] [1]) ⟨rfl,rfl⟩
theorem rhnewthread_s{Z:Zone}{F:List Asr}{b:Nat}{st:Hst}(hl:st.objs.length≤1000000)(tag:Int):SF Tryz.prog 44 #[.pointer (some ⟨b,0,none⟩),iw tag] Z (rhA b st::F) fun r Bs=>r=pairV (hmakeV st 7) (hmakeE st)∧Bs=rhA b (hmake st (newO 7 tag eb []))::F:=by
 refine sf_enter Tryz.func44 15 [(0,pB b 0),(1,iw tag)] (fun w0=>?_);refine k_sr<|s_alloc (.agg zc) zc (fun g1=>?_)
 refine sP (iw 0)<|s_nt<|k_seq<|k_sr<|sP (pB b 0)<|sP (.bool false)<|s_nt<|k_false<|k_st<|k_sr<|sP (pB b 0)<|sP (iw tag)<|sL (t_kern (.agg #[iw 7,iw tag,sw eb,.pointer none,iw 0,iw 0,iw 0,sw eb,iw 0,(.slice none 0 0),(.slice none 0 0)]))<|s_mem (fun _ h=>Holds.nilS (T:=VlT) h) ?_
 refine s_mem (fun _ h=>Holds.nilS (T:=VlT) h) ?_;refine s_mem (fun _ h=>rtO_none (tp:=0) (o:=(newO 7 tag eb [])) (show (7:Int)≠4 by decide) h) ?_;refine s_mem (fun _ h=>show Holds _ (roP ⟨some (newO 7 tag eb []),0,⟨none,0,0⟩,⟨none,0,0⟩⟩::_) _ from Holds.star_in (L:=[own VlT (Sv.v ⟨none,0,0⟩) (usr (newO 7 tag eb [])),own VlT (Sv.v ⟨none,0,0⟩) (rfs (newO 7 tag eb [])),rtO 0 (newO 7 tag eb [])]) (h.re [2,1,0] [])) ?_;refine sC [2,0] (radd_s (st:=st) (o:=(newO 7 tag eb [])) (tp:=0) (uv:=⟨none,0,0⟩) (rv:=⟨none,0,0⟩) (newO_inv _ _ _ (by decide)) om) ?_;refine sP (.agg (vc (hmakeV st 7)))<|sP (iw (hmakeE st))<|s_store 1 (vc (hmakeV st 7)) ?_
 refine sP (iw (hmakeE st))<|s_nt<|k_ret ?_
 exact xs_fin [.agg (vc (hmakeV st 7)),iw (hmakeE st)] (rhA b (hmake st (newO 7 tag eb []))::F) (SI.agg 4 32 1 (SI.tmp 5 SI.nil)) (rr [0] [1]) ⟨rfl,rfl⟩
theorem rhnewdata_s{Z:Zone}{F:List Asr}{b:Nat}{st:Hst}(hl:st.objs.length≤1000000)(name:ByteArray):SF Tryz.prog 45 #[.pointer (some ⟨b,0,none⟩),sw name] Z (rhA b st::F) fun r Bs=>r=pairV (hdataV st name) (hdataE st name)∧Bs=rhA b (hdata st name)::F:=by
 refine sf_enter Tryz.func45 31 [(0,pB b 0),(1,sw name)] (fun w0=>?_);refine k_sr<|s_alloc (.agg zc) zc (fun g1=>?_)
 refine sP (iw 0)<|s_nt<|k_seq<|k_sr<|sP (pB b 0)<|sP (.bool false)<|s_nt<|k_false<|k_st<|k_seq<|k_sr<|sP (sw name)<|sL (t_kern (iw (name.size:Int)))<|sL t_cmp<|s_nt<|k_cond (decide ((40:Int)<(name.size:Int))) (fun c2=>?_) (fun c2=>?_)
 .have p3:=dY c2;refine k_sr<|sL (t_kern (.agg zc))<|s_store 0 zc ?_
  refine sP (iw 14)<|s_nt<|k_ret<|xs_ret ?_
  have hp:=dY c2;refine xs_fin [.agg zc,iw 14] (rhA b st::F) (SI.agg 4 32 0 (SI.tmp 5 SI.nil)) (rr [1] [1]) ⟨?_,?_⟩
  .unfold hdataV hdataE;rw[if_pos hp,if_pos hp];rfl
  unfold hdata;rw[if_pos hp]
 have p4:=dF c2;refine k_st<|k_sr<|s_buildSlice (e:=32) [] #[] (fun g5=>?_) (hb:=by kernel_rfl)
 refine sP (.slice (some ⟨g5,0,none⟩) 0 0)<|s_nt<|k_seq<|k_sr<|sP (iw 0)<|s_nt<|k_block<|k_mem (fun _ h=>Holds.slice 0 h VlT_ok []) ?_
 refine k_mem (Bs:=own VlT (.slice (some ⟨g5,0,none⟩) 0 0) (List.replicate 0 zVl)::blkA g1 zc 32::rhA b st::F) (fun _ h=>h) ?_;refine k_loop (ι:=Value×Nat) (fun (lx,i)=>i≤16) (fun (lx,i)=>[(0,pB b 0),(1,sw name),(4,pB g1 0),(6,lx),(7,iw (i:Int))]) (fun (lx,i)=>own VlT lx (List.replicate i zVl)::blkA g1 zc 32::rhA b st::F) (fun (lx,i)=>16-i) ((.slice (some ⟨g5,0,none⟩) 0 0),0) (Nat.zero_le _) sA (rr [0,0,0] []) ?_;rintro⟨lx,i⟩ hi6;replace hi6:i≤16:=hi6;show SK _ _ _ _ _ [(0,.pointer (some ⟨b,0,none⟩)),(1,sw name),(4,.pointer (some ⟨g1,0,none⟩)),(6,lx),(7,iw (i:Int))] _ (own VlT lx (List.replicate i zVl)::blkA g1 zc 32::rhA b st::F);refine k_seq<|k_sr<|sP (iw (i:Int))<|sL t_cmp<|s_nt<|k_cond (decide ((i:Int)<16)) (fun c7=>?_) (fun c7=>?_)
 .have p8:=dY c7;refine k_st<|k_seq<|k_block<|k_reg<|sP lx<|sL (t_kern (.agg zc))<|s_buildSlice (e:=32) [(0,.agg zc)] zc (fun g9=>?_) (hb:=by kernel_rfl)
  refine s_append (L:=(List.replicate i zVl)) 1 VlT_ok Tryz.underlying37 (.lit 0 VlT_ok [zVl]) (by show _*48≤_;(try simp only[lnm]);omega) ol (fun v10=>?_);refine sP v10<|s_nil<|xs_block<|xs_then<|k_reg<|sP (iw (i:Int))<|sL (t_add (i:Int) 1 ol)<|sP (iw ((i:Int)+1))<|s_nil ?_
  rw[show List.replicate i zVl++[zVl]=List.replicate (i+1) zVl from List.replicate_succ'.symm];exact xs_round (v10,i+1) (by show 16-(i+1)<16-i;omega) (by show i+1≤16;omega) sA (rr [1,1,1] [3])
 have p11:=dF c7;refine k_exit ?_;obtain rfl:i=16:=by omega
 refine xs_exit<|xs_exit<|xs_here<|xs_then<|k_sr<|sP (pB b 0)<|sP (sw name)<|sP lx<|sF 0 (fun hf12=>?_)
 refine sL (show Lt _ _ _ _ _ (.agg #[iw 8,iw 0,sw name,.pointer none,iw 0,iw 0,iw 0,sw eb,iw 0,lx,(.slice none 0 0)]) from by obtain⟨_,_,e⟩:=hf12;rw[e];clear e;exact t_kern _)<|sF 0 (fun hfm=>?_)
 obtain⟨p13,cp14,hev⟩:=hfm;subst hev;refine s_mem (fun _ h=>Holds.nilS (T:=VlT) h) ?_;refine s_mem (fun _ h=>rtO_none (tp:=0) (o:=(newO 8 0 name (List.replicate 16 zVl))) (show (8:Int)≠4 by decide) h) ?_;refine s_mem (fun _ h=>show Holds _ (roP ⟨some (newO 8 0 name (List.replicate 16 zVl)),0,⟨p13,(List.replicate 16 zVl).length,cp14⟩,⟨none,0,0⟩⟩::_) _ from Holds.star_in (L:=[own VlT (Sv.v ⟨p13,(List.replicate 16 zVl).length,cp14⟩) (usr (newO 8 0 name (List.replicate 16 zVl))),own VlT (Sv.v ⟨none,0,0⟩) (rfs (newO 8 0 name (List.replicate 16 zVl))),rtO 0 (newO 8 0 name (List.replicate 16 zVl))]) (h.re [2,1,0] [])) ?_;refine sC [2,0] (radd_s (st:=st) (o:=(newO 8 0 name (List.replicate 16 zVl))) (tp:=0) (uv:=⟨p13,(List.replicate 16 zVl).length,cp14⟩) (rv:=⟨none,0,0⟩) (newO_inv _ _ _ (by decide)) om) ?_;refine sP (.agg (vc (hmakeV st 8)))<|sP (iw (hmakeE st))<|s_store 1 (vc (hmakeV st 8)) ?_
 refine sP (iw (hmakeE st))<|s_nt<|k_ret ?_
 have hp:=dF c2;refine xs_fin [.agg (vc (hmakeV st 8)),iw (hmakeE st)] (rhA b (hmake st (newO 8 0 name (List.replicate 16 zVl)))::F) (SI.agg 4 32 1 (SI.tmp 5 SI.nil)) (rr [0] [1]) ⟨?_,?_⟩
 .unfold hdataV hdataE;rw[if_neg hp,if_neg hp];rfl
 unfold hdata;rw[if_neg hp]<;>rfl
theorem rhnew_s{Z:Zone}:SF Tryz.prog 7 #[] Z [] fun r Bs=>∃b,r=.pointer (some ⟨b,0,none⟩)∧Bs=[rhA b hp0]:=by
 refine sf_enter Tryz.func7 3 [] (fun w0=>?_);refine k_sr<|sP (.pointer none)<|s_nr<|sL (t_kern (.agg #[(.slice none 0 0),iw 0,(.slice none 0 0)]))<|s_box #[(.slice none 0 0),iw 0,(.slice none 0 0)] (fun g1=>?_)
 refine sP (pB g1 0)<|s_nt<|k_ret<|xs_fin [pB g1 0] [rhA g1 hp0] (SI.tmp 0 SI.nil) (fun _ h=>rh_shut (b:=g1) (st:=hp0) (L:=[]) (T:=[]) (v:=.slice none 0 0) (tv:=.slice none 0 0) ⟨⟨⟨HInv.nil,rfl⟩,rfl⟩,rfl⟩ ((Holds.nilS (T:=RxT) (Holds.nilS (T:=bTy) (Holds.star_nil h))).re [3,0,0,0] [])) ⟨g1,rfl,rfl⟩
end Go.Proofs.YtmilekfknhglkaaGreat
end
section
set_option linter.unusedSimpArgs false
set_option linter.unusedVariables false
namespace Go.Proofs.YtmilekfknhglkaaGreat
section
variable{S:List Slt}{X:List Vl}{w y:Vl}
theorem grow_set(S:List Slt):∀(f:Nat) (X:List Vl) (w:Vl) {i:Nat} (y:Vl),i<X.length→(grow S f X w).set i y=grow S f (X.set i y) w
 | 0,X,w,i,y,h=>rfl
 | f+1,X,w,i,y,h=>by
  unfold grow;split
  .rfl
  rw[grow_set S f (X++[w]) _ y (by simp;omega),List.set_append_left _ _ h,List.length_set]
theorem grow_last(S:List Slt):∀(f:Nat) (X:List Vl) (w:Vl),(∀x,X.getLast?=some x→x.kind≠0)→∀x,(grow S f X w).getLast?=some x→x.kind≠0
 | 0,X,w,h=>h
 | f+1,X,w,h=>by
  unfold grow;split
  .exact h
  rename_i h0
  exact grow_last S f (X++[w]) _ fun x hx=>by simp at hx;rw[←hx];exact h0
theorem ofI_get{p:Int}(h1:1≤p)(h2:p≤2147483647):okKey (ofI p)=true∧whole (ofI p)=p:=⟨(whole_ofI h1 h2).2.1,(whole_ofI h1 h2).1⟩
theorem tset_tadd(h0:w.kind≠0)(hy:validB y=true){p:Int}(h1:1≤p)(h2:p≤(X.length:Int))(h3:p≤2147483647):tset (tadd ⟨X,S⟩ w) (ofI p) y=tadd ⟨X.set (p-1).toNat y,S⟩ w:=by
 obtain⟨hk,hw⟩:=ofI_get h1 h3;have hlt:X.length<(grow S (S.length+2) X w).length:=grow_lt S (S.length+1) h0;have hr:=grow_set S (S.length+2) X w (i:=(p-1).toNat) y (by omega);have hlast:∀x,(grow S (S.length+2) X w).getLast?=some x→x.kind≠0:=by
  rw[show S.length+2=(S.length+1)+1 from rfl,grow,if_neg h0];exact grow_last S _ _ _ fun x hx=>by simp at hx;rw[←hx];exact h0
 rw[tset_in hk hy (by rw[hw];exact h1) (by rw[hw];show p≤((grow S (S.length+2) X w).length:Int);omega),hw];show (⟨shr ((grow S (S.length+2) X w).set (p-1).toNat y),if staleB S X.length (grow S (S.length+2) X w).length then purge S (grow S (S.length+2) X w).length else S⟩:Tb)=⟨grow S (S.length+2) (X.set (p-1).toNat y) w,if staleB S (X.set (p-1).toNat y).length (grow S (S.length+2) (X.set (p-1).toNat y) w).length then purge S (grow S (S.length+2) (X.set (p-1).toNat y) w).length else S⟩;rw[shr_set hlast (by omega),←hr,List.length_set,List.length_set]
theorem tget_tadd(h0:w.kind≠0){p:Int}(h1:1≤p)(h2:p≤(X.length:Int))(h3:p≤2147483647)(hy:X[(p-1).toNat]?=some y):tget (tadd ⟨X,S⟩ w) (ofI p)=y:=by
 obtain⟨hk,hw⟩:=ofI_get h1 h3;have hlt:X.length<(grow S (S.length+2) X w).length:=grow_lt S (S.length+1) h0;refine tget_in (ofI_valid _) (by rw[hw];exact h1) (by rw[hw];show p≤((grow S (S.length+2) X w).length:Int);omega) ?_;show (grow S (S.length+2) X w)[_]?=_;rw[hw,grow_get S _ _ _ _ (by omega),if_pos (by omega),hy]
end
def insT(T:Tb):Nat→Tb
 | 0=>T
 | k+1=>tset (insT T k) (ofI (((T.list.length:Int)-(k:Int))+1)) (tget (insT T k) (ofI ((T.list.length:Int)-(k:Int))))
section
variable{T:Tb}{L:List Vl}{S:List Slt}
theorem insT_inv(h:TInv T):∀k,TInv (insT T k)
 | 0=>h
 | k+1=>tset_inv (insT_inv h k) _ _
def shL(L:List Vl)(k:Nat):List Vl:=L.take (L.length-k+1)++(L.drop (L.length-k)).dropLast
theorem shL_len{k:Nat}(h1:1≤k)(h2:k≤L.length):(shL L k).length=L.length:=by unfold shL;simp;omega
theorem shL_get{k i:Nat}(h1:1≤k)(h2:k≤L.length)(hi:i<L.length):(shL L k)[i]?=if i≤L.length-k then L[i]? else L[i-1]?:=by
 unfold shL;have ht:(L.take (L.length-k+1)).length=L.length-k+1:=by simp;omega
 by_cases h:i≤L.length-k
 .rw [if_pos h,List.getElem?_append_left (by omega),List.getElem?_take_of_lt (by omega)]
 rw[if_neg h,List.getElem?_append_right (by omega),ht,List.dropLast_eq_take,List.getElem?_take_of_lt (by simp;omega),List.getElem?_drop];congr 1;omega
theorem insT_eq (h : TInv ⟨L, S⟩) (hl : L.length ≤ 1000000) : ∀ k, 1 ≤ k → k ≤ L.length → insT ⟨L, S⟩ k = tadd ⟨shL L k, S⟩ (lastV L)
  | 0, h1, _ => by omega
  | 1, _, h2 => by
    have h0 : (lastV L).kind ≠ 0 := lastV_kind h (by show 0 < L.length; omega)
    have hls := lastV_some (L := L) (by omega)
    obtain ⟨hk, hw⟩ := ofI_get (p := (L.length : Int) + 1) (by omega) (by omega)
    obtain ⟨hk', hw'⟩ := ofI_get (p := (L.length : Int)) (by omega) (by omega)
    have hg : tget ⟨L, S⟩ (ofI (L.length : Int)) = lastV L := tget_in (ofI_valid _) (by rw [hw']; omega) (by rw [hw']; exact Int.le_refl _) (by rw [hw']; show L[_]? = _; rw [← hls]; congr 1; omega)
    show tset ⟨L, S⟩ (ofI (((L.length : Int) - ((0 : Nat) : Int)) + 1)) (tget ⟨L, S⟩ (ofI ((L.length : Int) - ((0 : Nat) : Int)))) = _
    rw [show ((L.length : Int) - ((0 : Nat) : Int)) = (L.length : Int) by omega, hg, tset_add hk (h.list _ (lastV_mem (by show 0 < L.length; omega))) hw h0]
    have : shL L 1 = L := by
      refine List.ext_getElem? fun i => ?_
      by_cases hi : i < L.length
      · rw [shL_get (by omega) h2 hi, if_pos (by omega)]
      · rw [List.getElem?_eq_none (by rw [shL_len (by omega) h2]; omega), List.getElem?_eq_none (by omega)]
    rw [this]
  | k + 2, _, h2 => by
    have h0 : (lastV L).kind ≠ 0 := lastV_kind h (by show 0 < L.length; omega)
    have ih := insT_eq h hl (k + 1) (by omega) (by omega)
    have hlen := shL_len (L := L) (k := k + 1) (by omega) (by omega)
    have hget : L[L.length - (k + 2)]? = some L[L.length - (k + 2)] := List.getElem?_eq_getElem (by omega)
    show tset (insT ⟨L, S⟩ (k + 1)) (ofI (((L.length : Int) - ((k + 1 : Nat) : Int)) + 1)) (tget (insT ⟨L, S⟩ (k + 1)) (ofI ((L.length : Int) - ((k + 1 : Nat) : Int)))) = _
    rw [ih, tget_tadd h0 (by omega) (by omega) (by omega) (y := L[L.length - (k + 2)]) (by
      rw [shL_get (by omega) (by omega) (by omega), if_pos (by omega), ← hget]; congr 1; omega),
      tset_tadd h0 (h.list _ (List.getElem_mem _)) (by omega) (by omega) (by omega)]
    congr 2
    refine List.ext_getElem? fun i => ?_
    by_cases hi : i < L.length
    · rw [shL_get (by omega) h2 hi, List.getElem?_set]
      by_cases he : (((L.length : Int) - ((k + 1 : Nat) : Int)) + 1 - 1).toNat = i
      · rw [if_pos he, if_pos (by omega), if_neg (by omega), ← hget]; congr 1; omega
      · rw [if_neg he, shL_get (by omega) (by omega) hi]
        by_cases h3 : i ≤ L.length - (k + 1)
        · rw [if_pos h3, if_pos (by omega)]
        · rw [if_neg h3, if_neg (by omega)]
    · rw [List.getElem?_eq_none (by rw [List.length_set, hlen]; omega), List.getElem?_eq_none (by rw [shL_len (by omega) h2]; omega)]
theorem tadd_len2(h:OInv S)(X:List Vl)(w:Vl):(tadd ⟨X,S⟩ w).list.length≤X.length+S.length+1∧(tadd ⟨X,S⟩ w).rest.length≤S.length∧X.length≤(tadd ⟨X,S⟩ w).list.length:=by
 have h1:=grow_len h (S.length+2) X w;have h2:=more_le S (X.length+1);have h3:=grow_le S (S.length+2) X w;have h4:=purge_len S (grow S (S.length+2) X w).length;refine⟨?_,?_,h3⟩
 .show (grow S (S.length+2) X w).length≤_;unfold mu at h1;split at h1<;>omega
 show (if _ then _ else _:List Slt).length≤_;split
 .exact h4
 exact Nat.le_refl _
theorem insT_len(h:TInv ⟨L,S⟩)(hl:L.length≤1000000){k:Nat}(hk:k≤L.length):(insT ⟨L,S⟩ k).list.length≤L.length+S.length+1∧(insT ⟨L,S⟩ k).rest.length≤S.length∧L.length≤(insT ⟨L,S⟩ k).list.length:=by
 by_cases h0:k=0
 .subst h0;exact⟨by show L.length≤_;omega,Nat.le_refl _,Nat.le_refl _⟩
 rw[insT_eq h hl k (by omega) hk];have:=tadd_len2 h.rest (shL L k) (lastV L);rw[shL_len (by omega) hk]at this;exact this
theorem tins_steps(h:TInv ⟨L,S⟩)(hl:L.length≤1000000){p:Int}{v:Vl}(h1:1≤p)(h2:p≤(L.length:Int)+1)(hv:validB v=true){k:Nat}(hk:(k:Int)=(L.length:Int)+1-p):
  tset (insT ⟨L,S⟩ k) (ofI p) v=tins ⟨L,S⟩ p v∧tsetE (ofI p) v=tinsE ⟨L,S⟩ p v:=by
 obtain⟨ho,hw⟩:=ofI_get h1 (by omega);by_cases h0:k=0
 .subst h0;obtain⟨e1,e2⟩:=tins_end (T:=⟨L,S⟩) (v:=v) (p:=p) (by show _=(L.length:Int)+1;omega) hv;exact⟨e1.symm,e2.symm⟩
 .obtain ⟨e1,e2⟩:=tins_mid (T:=⟨L,S⟩) (v:=v) (p:=p) h1 (by show _≤(L.length:Int);omega) hv;rw[e1,e2,insT_eq h hl k (by omega) (by omega)];have hlen:=shL_len (L:=L) (k:=k) (by omega) (by omega);refine⟨?_,by unfold tsetE;rw[ho,hv];rfl⟩;rw[tset_tadd (lastV_kind h (by show 0<L.length;omega)) hv h1 (by omega) (by omega)];show tadd ⟨_,S⟩ (lastV L)=tadd ⟨tinsL L (p-1).toNat v,S⟩ (lastV L);congr 2;refine List.ext_getElem? fun i=>?_
  have hti:=tinsL_len (L:=L) (i:=(p-1).toNat) (v:=v) (by omega);by_cases hi:i<L.length
  .unfold tinsL;have ht:(L.take (p-1).toNat).length=(p-1).toNat:=by simp;omega
   rw[List.getElem?_set,hlen];by_cases he:(p-1).toNat=i
   .rw [if_pos he,if_pos (by omega),List.getElem?_append_right (by omega),ht,he,Nat.sub_self];rfl
   rw[if_neg he,shL_get (by omega) (by omega) hi];by_cases h3:i≤L.length-k
   .rw [if_pos h3,List.getElem?_append_left (by omega),List.getElem?_take_of_lt (by omega)]
   rw[if_neg h3,List.getElem?_append_right (by omega),ht,show i-(p-1).toNat=(i-1-(p-1).toNat)+1 by omega,List.getElem?_cons_succ,List.dropLast_eq_take,List.getElem?_take_of_lt (by simp;omega),List.getElem?_drop];congr 1;omega
  rw[List.getElem?_eq_none (by rw[List.length_set,hlen];omega),List.getElem?_eq_none (by omega)]
end
def remT(T:Tb)(p:Int):Nat→Tb
 | 0=>T
 | k+1=>tset (remT T p k) (ofI (p+(k:Int))) (tget (remT T p k) (ofI ((p+(k:Int))+1)))
section
variable{T:Tb}{L:List Vl}{S:List Slt}{p:Int}
theorem remT_inv(h:TInv T):∀k,TInv (remT T p k)
 | 0=>h
 | k+1=>tset_inv (remT_inv h k) _ _
theorem remT_eq (h : TInv ⟨L, S⟩) (hl : L.length ≤ 1000000) (h1 : 1 ≤ p) : ∀ k : Nat, p + (k : Int) ≤ (L.length : Int) → ∃ X : List Vl, remT ⟨L, S⟩ p k = ⟨X, S⟩ ∧ X.length = L.length ∧ ∀ i, i < L.length → X[i]? = if i < (p - 1).toNat ∨ (p - 1).toNat + k ≤ i then L[i]? else L[i + 1]?
  | 0, h2 => ⟨L, rfl, rfl, fun i hi => by rw [if_pos (by omega)]⟩
  | k + 1, h2 => by
    obtain ⟨X, hX, hlen, hg⟩ := remT_eq h hl h1 k (by omega)
    have hi := remT_inv (p := p) h k
    rw [hX] at hi
    have hget : L[(p - 1).toNat + k + 1]? = some L[(p - 1).toNat + k + 1] := List.getElem?_eq_getElem (by omega)
    obtain ⟨ho, hw⟩ := ofI_get (p := p + (k : Int)) (by omega) (by omega)
    obtain ⟨_, hw2⟩ := ofI_get (p := (p + (k : Int)) + 1) (by omega) (by omega)
    have hv : tget ⟨X, S⟩ (ofI ((p + (k : Int)) + 1)) = L[(p - 1).toNat + k + 1] := tget_in (ofI_valid _) (by rw [hw2]; omega) (by rw [hw2]; show _ ≤ (X.length : Int); omega) (by
      rw [hw2]; show X[_]? = _; rw [show ((p + (k : Int)) + 1 - 1).toNat = (p - 1).toNat + k + 1 by omega, hg _ (by omega), if_pos (by omega), hget])
    refine ⟨X.set ((p - 1).toNat + k) L[(p - 1).toNat + k + 1], ?_, by rw [List.length_set, hlen], fun i hi' => ?_⟩
    · show tset (remT ⟨L, S⟩ p k) (ofI (p + (k : Int))) (tget (remT ⟨L, S⟩ p k) (ofI ((p + (k : Int)) + 1))) = _
      rw [hX, hv, tset_in ho (h.list _ (List.getElem_mem _)) (by rw [hw]; omega) (by rw [hw]; show _ ≤ (X.length : Int); omega), hw, show (p + (k : Int) - 1).toNat = (p - 1).toNat + k by omega]
      show (⟨shr (X.set _ _), S⟩ : Tb) = _
      have hi2 : ∀ v, X.getLast? = some v → v.kind ≠ 0 := hi.last
      rw [shr_set hi2 (by omega)]
    · rw [List.getElem?_set]
      by_cases he : (p - 1).toNat + k = i
      · rw [if_pos he, if_pos (by omega), if_neg (by omega), ← hget]; congr 1; omega
      · rw [if_neg he, hg i hi']
        by_cases h3 : i < (p - 1).toNat ∨ (p - 1).toNat + k ≤ i
        · rw [if_pos h3, if_pos (by omega)]
        · rw [if_neg h3, if_neg (by omega)]
theorem remT_len(h:TInv ⟨L,S⟩)(hl:L.length≤1000000)(h1:1≤p){k:Nat}(h2:p+(k:Int)≤(L.length:Int)):(remT ⟨L,S⟩ p k).list.length=L.length∧(remT ⟨L,S⟩ p k).rest=S:=by
 obtain⟨X,hX,hlen,_⟩:=remT_eq h hl h1 k h2;rw[hX];exact⟨hlen,rfl⟩
theorem trem_steps(h:TInv ⟨L,S⟩)(hl:L.length≤1000000)(h1:1≤p)(h2:p≤(L.length:Int)){k:Nat}(hk:(k:Int)=(L.length:Int)-p):
  tset (remT ⟨L,S⟩ p k) (ofI (L.length:Int)) zVl=trem ⟨L,S⟩ p∧tget ⟨L,S⟩ (ofI p)=tremV ⟨L,S⟩ p∧tremE ⟨L,S⟩ p=0:=by
 obtain⟨e1,e2,e3⟩:=trem_mid (T:=⟨L,S⟩) (p:=p) h1 h2;obtain⟨X,hX,hlen,hg⟩:=remT_eq h hl h1 k (by omega);obtain⟨ho,hw⟩:=ofI_get (p:=(L.length:Int)) (by omega) (by omega);obtain⟨_,hw2⟩:=ofI_get (p:=p) (by omega) (by omega);refine⟨?_,tget_in (ofI_valid _) (by rw[hw2];omega) (by rw[hw2];exact h2) (by rw[hw2];exact e3),e2⟩;rw[e1,hX,tset_in ho (by decide) (by rw[hw];omega) (by rw[hw];show _≤(X.length:Int);omega),hw];show (⟨shr (X.set _ zVl),S⟩:Tb)=⟨shr (L.eraseIdx (p-1).toNat++[zVl]),S⟩;congr 2;have he:(L.eraseIdx (p-1).toNat).length=L.length-1:=by rw[List.length_eraseIdx,if_pos (by omega)]
 refine List.ext_getElem? fun i=>?_
 by_cases hi:i<L.length
 .rw [List.getElem?_set];by_cases hn:((L.length:Int)-1).toNat=i
  .rw [if_pos hn,if_pos (by omega),List.getElem?_append_right (by omega),show i-(L.eraseIdx (p-1).toNat).length=0 by omega];rfl
  rw[if_neg hn,hg i hi,List.getElem?_append_left (by omega),List.getElem?_eraseIdx];by_cases h3:i<(p-1).toNat
  .rw [if_pos (.inl h3),if_pos h3]
  rw[if_neg h3,if_neg (by omega)]
 .rw [List.getElem?_eq_none (by rw[List.length_set,hlen];omega),List.getElem?_eq_none (by rw[List.length_append,he,List.length_singleton];omega)]
end
end Go.Proofs.YtmilekfknhglkaaGreat
end
section
set_option linter.unusedSimpArgs false
set_option linter.unusedVariables false
set_option maxRecDepth 100000
set_option maxHeartbeats 2000000
namespace Go.Proofs.YtmilekfknhglkaaGreat
open Go.Hp Go.J Go.S
open Go.Mem (Ty KTy blk elemAt pre suf blk_pre blk_suf aget aset strK aggDesc)
open Go.Mem (adel apos aget_aset aget_adel)
theorem rtsize_s{Z:Zone}{F:List Asr}{b:Nat}{L:List Vl}{S:List Slt}(hl:L.length≤100000)(hs:S.length≤100000):SF Tryz.prog 101 #[.pointer (some ⟨b,0,none⟩)] Z (rtA b L S::F) fun r Bs=>r=iw (tabSize ⟨L,S⟩)∧Bs=rtA b L S::F:=by
 refine sf_enter Tryz.func101 19 [(0,pB b 0)] (fun w0=>?_);refine k_sr<|sP (iw 0)<|s_nt<|k_seq<|k_sr<|sP (pB b 0)<|sP (.bool false)<|s_nt<|k_false<|k_st<|k_seq<|k_mem2 (fun H h=>rt_open (h.re [0] [])) (fun lv1 r2 hw=>?_)
 refine k_held [blkA b #[lv1,pB r2 0] 130,own VlT lv1 L] ?_;refine hp_ 0 [0,0] (pB b 0) ?_;refine hp_ 1 [0,0] (pB b 0) ?_;refine hp_ 2 [0,0] (pB b 0) ?_;refine h_l 3 rfl [0,0] (fun _=>(t_load 0 lv1)) ?_;refine h_l 4 rfl [0,0] (fun _=>(t_len VlT_ok Tryz.underlying37 (.own 1))) ?_;refine h_l 5 rfl [0,0] (fun _=>(t_mul 2 (L.length:Int) ol)) ?_;refine h_l 6 rfl [0,0] (fun _=>(t_add 4 (2*(L.length:Int)) ol)) ?_;refine hp_ 7 [0,0] (pB b 0) ?_;refine hp_ 8 [0,0] (pB b 0) ?_;refine hp_ 9 [0,0] (pB b 1) ?_;refine h_l 10 rfl [0,0] (fun _=>(t_load 0 (pB r2 0))) ?_;refine h_stepS 11 ?_;refine sC [2] (rmslots_s (S:=S)) ?_;refine nH [1,1]<|h_l 12 rfl [1,1] (fun _=>(t_mul 4 (S.length:Int) ol)) ?_
 refine h_l 13 rfl [1,1] (fun _=>(t_add (4+(2*(L.length:Int))) (4*(S.length:Int)) ol)) ?_;refine hp_ 14 [1,1] (iw ((4+(2*(L.length:Int)))+(4*(S.length:Int)))) ?_;refine h_doneS ?_;refine xs_then<|k_ret<|xs_mem (fun _ h=>rt_shut (h.re [1,1,0] [])) ?_
 refine xs_fin [iw ((4+(2*(L.length:Int)))+(4*(S.length:Int)))] (rtA b L S::F) (SI.tmp 2 SI.nil) (rr [0] []) ⟨?_,rfl⟩;rfl
theorem rn_zero{k:Vl}{T:Tb}(h:OInv T.rest)(h0:k.kind=0)(hz:k≠zVl):tnext T k=(zVl,zVl,false,13):=by
 have hw:whole k=0:=whole_not (.inl om);have hn:lastAt T.rest k=none:=lastAt_nokey fun s hs e=>by
  have:=(h.keys s hs).2;rw[e]at this;exact this h0
 have he:=onext_none (S:=T.rest) hz hn;unfold tnext;rw[if_neg hz,if_neg (by rw[inB_false om];decide),if_neg (by rw[hw];omega),he]
theorem rn_in{k:Vl}{T:Tb}(h:k=zVl∨(1≤whole k∧whole k≤(T.list.length:Int))):tnext T k=tafter T (whole k).toNat:=by
 rcases h with rfl|⟨h1,h2⟩
 .rw [tnext_nil];rfl
 exact tnext_in (fun e=>by rw[e]at h1;exact absurd h1 (by decide)) h1 h2
theorem rn_rest{k:Vl}{T:Tb}(h0:k.kind≠0)(h:¬(1≤whole k∧whole k≤(T.list.length:Int)))(hb:¬((onext T.rest k).2.2.2≠0∧1≤whole k)):tnext T k=onext T.rest k:=by
 unfold tnext;rw[if_neg (fun e=>h0 (by rw[e];rfl)),if_neg (by rw[inB_false h];decide),if_neg hb]
theorem rn_over{k:Vl}{T:Tb}(h0:k.kind≠0)(h:¬(1≤whole k∧whole k≤(T.list.length:Int)))(hb:(onext T.rest k).2.2.2≠0∧1≤whole k):tnext T k=onext T.rest zVl:=
 tnext_over (fun e=>h0 (by rw[e];rfl)) h hb.1 hb.2
theorem rtnext_s{Z:Zone}{F:List Asr}{b:Nat}{L:List Vl}{S:List Slt}(hl:L.length≤100000)(hs:S.length≤100000)(k:Vl):SF Tryz.prog 94 #[.pointer (some ⟨b,0,none⟩),k.v] Z (rtA b L S::F) fun r Bs=>r=nextV (tnext ⟨L,S⟩ k)∧Bs=rtA b L S::F:=by
 refine sf_enter Tryz.func94 116 [(0,pB b 0),(1,.agg (vc k))] (fun w0=>?_);refine k_fact (fun H h=>rt_inv (h.re [0] [])) (fun hinv0=>?_);have hol:=okeys_len S;refine k_sr<|s_box (vc k) (fun g1=>?_)
 refine s_alloc (.agg zc) zc (fun g2=>?_);refine s_alloc (.agg zc) zc (fun g3=>?_);refine sP (.bool false)<|sP (iw 0)<|s_nt<|k_seq<|k_sr<|sP (pB b 0)<|sP (.bool false)<|s_nt<|k_false<|k_st<|k_sr<|sL (t_loadA 2 (vc k))<|sV (fun _ h=>rwhole2_s k)<|sP (iw (whole k))<|s_nt<|k_seq<|k_mem2 (fun H h=>rt_open (h.re [3] [])) (fun lv4 r5 hw=>?_)
 refine k_cut (ι:=Unit) (fun _=>True) (fun _=>[(0,pB b 0),(3,pB g1 0),(4,pB g2 0),(5,pB g3 0),(8,iw (whole k)),(35,.bool ((decide (k.kind=0))||((decide ((1:Int)≤(whole k)))&&(decide ((whole k)≤(L.length:Int))))))]) (fun _=>blkA b #[lv4,pB r5 0] 130::own VlT lv4 L::rmA r5 S::blkA g3 zc 32::blkA g2 zc 32::blkA g1 (vc k) 32::F) ?_ (fun _ _=>?_)
 .refine k_reg<|sP (pB g1 0)<|sL (t_load 5 (iw k.kind))<|sL t_cmp<|sP (.bool (decide (k.kind=0)))<|s_fork 23 (decide (k.kind=0)) (fun c6=>?_) (fun c6=>?_)
  .have p7:=dY c6;refine sK<|sK<|sK<|sK<|sK<|sK<|sK<|sK<|sK<|sK<|sK<|sP (.bool true)<|s_nil ?_
   exact xs_cut () trivial (sub_of rfl (rQ (rQ (rQ (rQ (rQ ⟨⟨rfl,show Value.bool true=Value.bool ((decide (k.kind=0))||((decide ((1:Int)≤(whole k)))&&(decide ((whole k)≤(L.length:Int))))) by first|(simp only[c6,bls];done)|simp[c6]⟩,trivial⟩)))))) (rr [0,0,0,0,0,0] [])
  have p8:=dF c6;refine sP (iw (whole k))<|sL t_cmp<|sP (.bool (decide ((1:Int)≤(whole k))))<|s_fork 26 (decide ((1:Int)≤(whole k))) (fun c9=>?_) (fun c9=>?_)
  .have p10:=dY c9;refine sP (iw (whole k))<|sP3 (pB b 0)<|sL (t_load 0 lv4)<|sL (t_len VlT_ok Tryz.underlying37 (.own 1))<|sL t_cmp<|sP2 (.bool (decide ((whole k)≤(L.length:Int))))<|s_nil ?_
   exact xs_cut () trivial (sub_of rfl (rQ (rQ (rQ (rQ (rQ ⟨⟨rfl,show Value.bool (decide ((whole k)≤(L.length:Int)))=Value.bool ((decide (k.kind=0))||((decide ((1:Int)≤(whole k)))&&(decide ((whole k)≤(L.length:Int))))) by first|(simp only[c6,c9,bls];done)|simp[c6,c9]⟩,trivial⟩)))))) (rr [0,0,0,0,0,0] [])
  have p11:=dF c9;refine sK<|sK<|sK<|sK<|sK<|sK<|sK<|sP2 (.bool false)<|s_nil ?_
  exact xs_cut () trivial (sub_of rfl (rQ (rQ (rQ (rQ (rQ ⟨⟨rfl,show Value.bool false=Value.bool ((decide (k.kind=0))||((decide ((1:Int)≤(whole k)))&&(decide ((whole k)≤(L.length:Int))))) by first|(simp only[c6,c9,bls];done)|simp[c6,c9]⟩,trivial⟩)))))) (rr [0,0,0,0,0,0] [])
 refine k_cond ((decide (k.kind=0))||((decide ((1:Int)≤(whole k)))&&(decide ((whole k)≤(L.length:Int))))) (fun c12=>?_) (fun c12=>?_)
 .have p13:=c12;simp only[Bool.and_eq_true,Bool.or_eq_true,Bool.and_eq_false_iff,Bool.or_eq_false_iff,Bool.not_eq_true',Bool.not_eq_false',decide_eq_true_eq,decide_eq_false_iff_not]at p13;refine k_seq<|k_cut (ι:=Unit) (fun _=>True) (fun _=>[(0,pB b 0),(4,pB g2 0),(5,pB g3 0),(8,iw (whole k)),(43,.bool ((decide (k.kind=0))&&(!(decide (k=zVl)))))]) (fun _=>blkA b #[lv4,pB r5 0] 130::own VlT lv4 L::rmA r5 S::blkA g3 zc 32::blkA g2 zc 32::blkA g1 (vc k) 32::F) ?_ (fun _ _=>?_)
  .refine k_reg<|sP (pB g1 0)<|sL (t_load 5 (iw k.kind))<|sL t_cmp<|sP (.bool (decide (k.kind=0)))<|s_fork 39 (decide (k.kind=0)) (fun c14=>?_) (fun c14=>?_)
   .have p15:=dY c14;refine sL (t_loadA 5 (vc k))<|sL (t_kern (.agg zc))<|sL (t_eqS (fun w=>(eqVlT k zVl w).2))<|sP (.bool (!(decide (k=zVl))))<|s_nil ?_
    exact xs_cut () trivial (sub_of rfl (rQ (rQ (rQ (rQ ⟨⟨rfl,show Value.bool (!(decide (k=zVl)))=Value.bool ((decide (k.kind=0))&&(!(decide (k=zVl)))) by first|(simp only[c14,bls];done)|simp[c14]⟩,trivial⟩))))) (rr [0,0,0,0,0,0] [])
   have p16:=dF c14;refine sK<|sK<|sK<|sP (.bool false)<|s_nil ?_
   exact xs_cut () trivial (sub_of rfl (rQ (rQ (rQ (rQ ⟨⟨rfl,show Value.bool false=Value.bool ((decide (k.kind=0))&&(!(decide (k=zVl)))) by first|(simp only[c14,bls];done)|simp[c14]⟩,trivial⟩))))) (rr [0,0,0,0,0,0] [])
  refine k_cond ((decide (k.kind=0))&&(!(decide (k=zVl)))) (fun c17=>?_) (fun c17=>?_)
  .obtain ⟨c18,c19⟩:=and_t c17;have p20:=dY c18;have c21:=not_t c19;have p22:=dF c21;refine k_sr<|sL (t_kern (.agg zc))<|sL (t_kern (.agg zc))<|s_store 4 zc ?_
   refine s_store 3 zc ?_;refine sP (.bool false)<|sP (iw 13)<|s_nt<|k_ret<|xs_ret<|xs_ret<|xs_mem (fun _ h=>rt_shut (h.re [0,0,0] [])) ?_
   have hp:tnext ⟨L,S⟩ k=(zVl,zVl,false,13):=rn_zero (T:=⟨L,S⟩) hinv0 (by grind) (by grind);refine xs_fin [.agg zc,.agg zc,.bool false,iw 13] (rtA b L S::F) (SI.agg 4 32 2 (SI.agg 5 32 1 (SI.tmp 6 (SI.tmp 7 SI.nil)))) (rr [0] [1,1,1]) ⟨?_,rfl⟩;rw[hp];rfl
  have p23:=c17;simp only[Bool.and_eq_true,Bool.or_eq_true,Bool.and_eq_false_iff,Bool.or_eq_false_iff,Bool.not_eq_true',Bool.not_eq_false',decide_eq_true_eq,decide_eq_false_iff_not]at p23;refine k_st<|k_seq<|k_sr<|sP2 (iw (whole k))<|s_nt<|k_block<|k_mem (fun _ h=>rt_shut (h.re [0,0,0] [])) ?_
  have hin:k=zVl∨(1≤whole k∧whole k≤(L.length:Int)):=by grind
  have hw0:0≤whole k∧whole k≤(L.length:Int):=by have hz:whole zVl=0:=rfl;grind
  refine k_loop (ι:=Nat) (fun i=>(whole k).toNat≤i∧i≤L.length∧seek (L.drop i) i=seek (L.drop (whole k).toNat) (whole k).toNat) (fun i=>[(0,pB b 0),(4,pB g2 0),(5,pB g3 0),(9,iw (i:Int))]) (fun i=>rtA b L S::blkA g3 zc 32::blkA g2 zc 32::blkA g1 (vc k) 32::F) (fun i=>L.length-i) ((whole k).toNat) ⟨by omega,by omega,rfl⟩ (sub_of rfl (rQ (rQ (rQ ⟨⟨rfl,cI om⟩,trivial⟩)))) (rr [0,0,0,0] []) ?_;rintro i hi24;show SK _ _ _ _ _ [(0,.pointer (some ⟨b,0,none⟩)),(4,.pointer (some ⟨g2,0,none⟩)),(5,.pointer (some ⟨g3,0,none⟩)),(9,iw (i:Int))] _ (rtA b L S::blkA g3 zc 32::blkA g2 zc 32::blkA g1 (vc k) 32::F);refine k_seq<|k_sr<|sP (iw (i:Int))<|sP3 (pB b 0)<|s_mem2 (fun H h=>rt_open (h.re [0] [])) (fun lv25 r26 hw=>?_)
  refine sL (t_load 0 lv25)<|sL (t_len VlT_ok Tryz.underlying37 (.own 1))<|sL t_cmp<|s_nt<|k_cond (decide ((i:Int)<(L.length:Int))) (fun c27=>?_) (fun c27=>?_)
  .have p28:=dY c27;refine k_st<|k_seq<|k_block<|k_sr<|sP3 (pB b 0)<|sL (t_load 0 lv25)<|sP (iw (i:Int))<|sL (t_index VlT_ok Tryz.underlying37 (.own 1) (i:Int) i om ol om)<|sP (.pointer (some (elemAt VlT.size lv25 i))) ?_
   obtain⟨y29,hy30⟩:∃y,L[i]?=some y:=⟨_,List.getElem?_eq_getElem ol⟩;refine sL (t_loadF 0 VlT_ok (.own 1) hy30)<|sL t_cmp<|s_nt<|k_cond (decide (y29.kind≠0)) (fun c31=>?_) (fun c31=>?_)
   .have p32:=dY c31;refine k_seq<|k_held [blkA b #[lv25,pB r26 0] 130,own VlT lv25 L,blkA g1 (vc k) 32] ?_
    refine hp_ 0 [0,0,3] (iw (i:Int)) ?_;refine h_l 1 rfl [0,0,3] (fun _=>(t_add (i:Int) 1 ol)) ?_;refine hp_ 3 [0,0,3] (pB b 0) ?_;refine hp_ 4 [0,0,3] (pB b 0) ?_;refine hp_ 5 [0,0,3] (pB b 0) ?_;refine h_l 6 rfl [0,0,3] (fun _=>(t_load 0 lv25)) ?_;refine hp_ 7 [0,0,3] (iw (i:Int)) ?_;refine h_l 8 rfl [0,0,3] (fun _=>(t_index VlT_ok Tryz.underlying37 (.own 1) (i:Int) i om ol om)) ?_;refine h_l 9 rfl [0,0,3] (fun _=>(t_loadE VlT_ok (.own 1) hy30)) ?_;refine h_stepS 2 ?_;refine sV (fun _ h=>rkey_s ((i:Int)+1))<|nH [0,0,3]<|h_stepS 10 ?_
    refine s_store 4 (vc (ofI ((i:Int)+1))) ?_;refine nH [0,0,3]<|h_stepS 11 ?_
    refine s_store 3 (vc y29) ?_;refine nH [0,0,3]<|hp_ 12 [0,0,3] (.bool true) ?_
    refine hp_ 13 [0,0,3] (iw 0) ?_;refine h_doneS ?_;refine xs_then<|k_ret<|xs_retBlock<|xs_ret<|xs_ret<|xs_retBlock<|xs_ret<|xs_ret<|xs_mem (fun _ h=>rt_shut (h.re [0,0,0] [])) ?_
    have hp:tnext ⟨L,S⟩ k=(ofI ((i:Int)+1),y29,true,0):=(rn_in (T:=⟨L,S⟩) hin).trans (after_found (T:=⟨L,S⟩) hi24.2.2 hy30 (dY c31));refine xs_fin [.agg (vc (ofI ((i:Int)+1))),.agg (vc y29),.bool true,iw 0] (rtA b L S::F) (SI.agg 4 32 2 (SI.agg 5 32 1 (SI.tmp 6 (SI.tmp 7 SI.nil)))) (rr [0] [1,1,1]) ⟨?_,rfl⟩;rw[hp];rfl
   have p33:=Decidable.not_not.1 (dF c31);refine k_skip<|xs_block<|xs_then<|k_reg<|sP (iw (i:Int))<|sL (t_add (i:Int) 1 ol)<|sP (iw ((i:Int)+1))<|s_nil<|xs_mem (fun _ h=>rt_shut (h.re [0,0,0] [])) ?_
   exact xs_round (i+1) om ⟨by omega,by omega,seek_step hi24.2.2 hy30 (dF c31)⟩ sA (rr [0,0,0,0] [])
  have p34:=dF c27;refine k_exit<|xs_exit<|xs_exit<|xs_here<|xs_then<|k_sr<|sP2 (pB b 0)<|sP (pB b 1)<|sL (t_load 0 (pB r26 0))<|sL (t_kern (.agg zc))<|sC [2] (rmnext_s (S:=S) ol zVl) ?_
  refine sP (.agg (vc ((onext S zVl).1)))<|sP (.agg (vc ((onext S zVl).2.1)))<|sP (.bool ((onext S zVl).2.2.1))<|sP (iw ((onext S zVl).2.2.2))<|s_store 4 (vc ((onext S zVl).1)) ?_
  refine s_store 3 (vc ((onext S zVl).2.1)) ?_;refine sP (.bool ((onext S zVl).2.2.1))<|sP (iw ((onext S zVl).2.2.2))<|s_nt<|k_ret<|xs_ret<|xs_mem (fun _ h=>rt_shut (h.re [1,1,0] [])) ?_
  have hp:tnext ⟨L,S⟩ k=onext S zVl:=(rn_in (T:=⟨L,S⟩) hin).trans (after_none (T:=⟨L,S⟩) hi24.2.2 (by show L.length≤i;omega));refine xs_fin [.agg (vc ((onext S zVl).1)),.agg (vc ((onext S zVl).2.1)),.bool ((onext S zVl).2.2.1),iw ((onext S zVl).2.2.2)] (rtA b L S::F) (SI.agg 4 32 2 (SI.agg 5 32 1 (SI.tmp 6 (SI.tmp 7 SI.nil)))) (rr [0] [1,1,1]) ⟨?_,rfl⟩;rw[hp];rfl
 obtain⟨c35,c36⟩:=or_f c12;have p37:=dF c35;have p38:=c36;simp only[Bool.and_eq_true,Bool.or_eq_true,Bool.and_eq_false_iff,Bool.or_eq_false_iff,Bool.not_eq_true',Bool.not_eq_false',decide_eq_true_eq,decide_eq_false_iff_not]at p38;refine k_st<|k_seq<|k_held [blkA b #[lv4,pB r5 0] 130,own VlT lv4 L,blkA g3 zc 32,blkA g2 zc 32,blkA g1 (vc k) 32] ?_
 refine hp_ 0 [0,0,1,1,1] (pB b 0) ?_;refine hp_ 1 [0,0,1,1,1] (pB b 0) ?_;refine hp_ 2 [0,0,1,1,1] (pB b 1) ?_;refine h_l 3 rfl [0,0,1,1,1] (fun _=>(t_load 0 (pB r5 0))) ?_;refine h_l 4 rfl [0,0,1,1,1] (fun _=>(t_loadA 4 (vc k))) ?_;refine h_join (ι:=Nat×Nat) 4 #[true,true,true,true,true,true,true,true,true,true,true,true,true,false,false,false,false] (fun (g39,g40)=>[(0,pB b 0),(4,pB g2 0),(5,pB g3 0),(8,iw (whole k)),(10,pB g39 0),(11,pB g40 0),(92,.agg (vc ((onext S k).1))),(93,.agg (vc ((onext S k).2.1))),(94,.bool ((onext S k).2.2.1)),(95,iw ((onext S k).2.2.2))]) (fun (g39,g40)=>blkA g40 zc 32::blkA g39 zc 32::rmA r5 S::blkA b #[lv4,pB r5 0] 130::own VlT lv4 L::blkA g3 zc 32::blkA g2 zc 32::blkA g1 (vc k) 32::F) ?_ (fun hj47=>?_)
 .rintro ⟨g39,g40⟩;try dsimp only
  refine h_stepS 13 ?_;refine s_store 1 (vc ((onext S k).1)) ?_;refine nH [3,3,3,3,3]<|h_stepS 14 ?_
  refine s_store 0 (vc ((onext S k).2.1)) ?_;refine nH [3,3,3,3,3]<|hp_ 15 [3,3,3,3,3] (.bool ((onext S k).2.2.1)) ?_
  refine hp_ 16 [3,3,3,3,3] (iw ((onext S k).2.2.2)) ?_;refine h_doneS ?_;refine xs_then<|k_seq<|k_cut (ι:=Unit) (fun _=>True) (fun _=>[(0,pB b 0),(4,pB g2 0),(5,pB g3 0),(10,pB g39 0),(11,pB g40 0),(12,.bool ((onext S k).2.2.1)),(13,iw ((onext S k).2.2.2)),(101,.bool ((decide ((onext S k).2.2.2≠0))&&(decide ((1:Int)≤(whole k)))))]) (fun _=>blkA g40 (vc ((onext S k).2.1)) 32::blkA g39 (vc ((onext S k).1)) 32::rmA r5 S::blkA b #[lv4,pB r5 0] 130::own VlT lv4 L::blkA g3 zc 32::blkA g2 zc 32::blkA g1 (vc k) 32::F) ?_ (fun _ _=>?_)
  .refine k_reg<|sP (iw ((onext S k).2.2.2))<|sL t_cmp<|sP (.bool (decide ((onext S k).2.2.2≠0)))<|s_fork 98 (decide ((onext S k).2.2.2≠0)) (fun c48=>?_) (fun c48=>?_)
   .have p49:=dY c48;refine sP (iw (whole k))<|sL t_cmp<|sP (.bool (decide ((1:Int)≤(whole k))))<|s_nil ?_
    exact xs_cut () trivial (sub_of rfl (rQ (rQ (rQ (rQ (rQ (rQ (rQ ⟨⟨rfl,show Value.bool (decide ((1:Int)≤(whole k)))=Value.bool ((decide ((onext S k).2.2.2≠0))&&(decide ((1:Int)≤(whole k)))) by first|(simp only[c48,bls];done)|simp[c48]⟩,trivial⟩)))))))) (rr [0,0,0,0,0,0,0,0] [])
   have p50:=Decidable.not_not.1 (dF c48);refine sK<|sK<|sP (.bool false)<|s_nil ?_
   exact xs_cut () trivial (sub_of rfl (rQ (rQ (rQ (rQ (rQ (rQ (rQ ⟨⟨rfl,show Value.bool false=Value.bool ((decide ((onext S k).2.2.2≠0))&&(decide ((1:Int)≤(whole k)))) by first|(simp only[c48,bls];done)|simp[c48]⟩,trivial⟩)))))))) (rr [0,0,0,0,0,0,0,0] [])
  refine k_cond ((decide ((onext S k).2.2.2≠0))&&(decide ((1:Int)≤(whole k)))) (fun c51=>?_) (fun c51=>?_)
  .obtain ⟨c52,c53⟩:=and_t c51;have p54:=dY c52;have p55:=dY c53;refine k_sr<|sP2 (pB b 0)<|sP (pB b 1)<|sL (t_load 3 (pB r5 0))<|sL (t_kern (.agg zc))<|sC [2] (rmnext_s (S:=S) ol zVl) ?_
   refine sP (.agg (vc ((onext S zVl).1)))<|sP (.agg (vc ((onext S zVl).2.1)))<|sP (.bool ((onext S zVl).2.2.1))<|sP (iw ((onext S zVl).2.2.2))<|s_store 6 (vc ((onext S zVl).1)) ?_
   refine s_store 5 (vc ((onext S zVl).2.1)) ?_;refine sP (.bool ((onext S zVl).2.2.1))<|sP (iw ((onext S zVl).2.2.2))<|s_nt<|k_ret<|xs_ret<|xs_mem (fun _ h=>rt_shut (h.re [3,3,0] [])) ?_
   have hp:tnext ⟨L,S⟩ k=onext S zVl:=rn_over (T:=⟨L,S⟩) (by grind) (by show ¬(_∧_≤(L.length:Int));grind) (by show (onext S k).2.2.2≠0∧_;grind);refine xs_fin [.agg (vc ((onext S zVl).1)),.agg (vc ((onext S zVl).2.1)),.bool ((onext S zVl).2.2.1),iw ((onext S zVl).2.2.2)] (rtA b L S::F) (SI.agg 4 32 4 (SI.agg 5 32 3 (SI.tmp 6 (SI.tmp 7 SI.nil)))) (rr [0] [1,1,1,1,1]) ⟨?_,rfl⟩;rw[hp];rfl
  have p56:=c51;simp only[Bool.and_eq_true,Bool.or_eq_true,Bool.and_eq_false_iff,Bool.or_eq_false_iff,Bool.not_eq_true',Bool.not_eq_false',decide_eq_true_eq,decide_eq_false_iff_not]at p56;refine k_st<|k_seq<|k_held [blkA g40 (vc ((onext S k).2.1)) 32,blkA g39 (vc ((onext S k).1)) 32,blkA b #[lv4,pB r5 0] 130,own VlT lv4 L,blkA g1 (vc k) 32] ?_
  refine h_l 0 rfl [0,0,1,1,3] (fun _=>(t_loadA 1 (vc ((onext S k).1)))) ?_;refine h_l 1 rfl [0,0,1,1,3] (fun _=>(t_loadA 0 (vc ((onext S k).2.1)))) ?_;refine hp_ 2 [0,0,1,1,3] (.bool ((onext S k).2.2.1)) ?_;refine hp_ 3 [0,0,1,1,3] (iw ((onext S k).2.2.2)) ?_;refine h_stepS 4 ?_;refine s_store 6 (vc ((onext S k).1)) ?_;refine nH [0,0,1,1,3]<|h_stepS 5 ?_
  refine s_store 5 (vc ((onext S k).2.1)) ?_;refine nH [0,0,1,1,3]<|hp_ 6 [0,0,1,1,3] (.bool ((onext S k).2.2.1)) ?_
  refine hp_ 7 [0,0,1,1,3] (iw ((onext S k).2.2.2)) ?_;refine h_doneS ?_;refine xs_then<|k_ret<|xs_mem (fun _ h=>rt_shut (h.re [3,3,2] [])) ?_
  have hp:tnext ⟨L,S⟩ k=onext S k:=rn_rest (T:=⟨L,S⟩) (by grind) (by show ¬(_∧_≤(L.length:Int));grind) (by show ¬((onext S k).2.2.2≠0∧_);grind);refine xs_fin [.agg (vc ((onext S k).1)),.agg (vc ((onext S k).2.1)),.bool ((onext S k).2.2.1),iw ((onext S k).2.2.2)] (rtA b L S::F) (SI.agg 4 32 4 (SI.agg 5 32 3 (SI.tmp 6 (SI.tmp 7 SI.nil)))) (rr [0] [1,1,1,1,1]) ⟨?_,rfl⟩;rw[hp];rfl
 refine h_join (ι:=Nat) 5 #[true,true,true,true,true,true,true,true,true,true,true,true,false,false,false,false,false] (fun g39=>[(0,pB b 0),(4,pB g2 0),(5,pB g3 0),(8,iw (whole k)),(10,pB g39 0),(92,.agg (vc ((onext S k).1))),(93,.agg (vc ((onext S k).2.1))),(94,.bool ((onext S k).2.2.1)),(95,iw ((onext S k).2.2.2))]) (fun g39=>blkA g39 zc 32::rmA r5 S::blkA b #[lv4,pB r5 0] 130::own VlT lv4 L::blkA g3 zc 32::blkA g2 zc 32::blkA g1 (vc k) 32::F) ?_ (fun hj57=>?_)
 .rintro g39;try dsimp only
  refine h_stepS 12 ?_;refine s_alloc (.agg zc) zc (fun g58=>?_);refine nH [3,3,3,3,3] ?_;exact h_use hj47 (g39,g58) (rr [0,0,0,0,0,0,0,0] [])
 refine h_join (ι:=Nat) 5 #[true,true,true,true,true,true,true,true,true,true,true,false,true,false,false,false,false] (fun g41=>[(0,pB b 0),(4,pB g2 0),(5,pB g3 0),(8,iw (whole k)),(11,pB g41 0),(92,.agg (vc ((onext S k).1))),(93,.agg (vc ((onext S k).2.1))),(94,.bool ((onext S k).2.2.1)),(95,iw ((onext S k).2.2.2))]) (fun g41=>blkA g41 zc 32::rmA r5 S::blkA b #[lv4,pB r5 0] 130::own VlT lv4 L::blkA g3 zc 32::blkA g2 zc 32::blkA g1 (vc k) 32::F) ?_ (fun hj59=>?_)
 .rintro g41;try dsimp only
  refine h_stepS 11 ?_;refine s_alloc (.agg zc) zc (fun g60=>?_);refine nH [3,3,3,3,3] ?_;exact h_use hj47 (g60,g41) (rr [1,0,0,0,0,0,0,0] [])
 refine h_join (ι:=Nat×Nat) 10 #[true,true,true,true,true,false,false,false,false,false,false,true,true,false,false,false,false] (fun (g43,g44)=>[(0,pB b 0),(4,pB g2 0),(5,pB g3 0),(8,iw (whole k)),(10,pB g43 0),(11,pB g44 0),(89,pB r5 0),(90,.agg (vc k))]) (fun (g43,g44)=>blkA g44 zc 32::blkA g43 zc 32::blkA b #[lv4,pB r5 0] 130::own VlT lv4 L::rmA r5 S::blkA g3 zc 32::blkA g2 zc 32::blkA g1 (vc k) 32::F) ?_ (fun hj61=>?_)
 .rintro ⟨g43,g44⟩;try dsimp only
  refine h_stepS 5 ?_;refine sC [4] (rmnext_s (S:=S) ol k) ?_;refine nH [3,3,3,3,3]<|hp_ 6 [3,3,3,3,3] (.tuple #[.agg (vc ((onext S k).1)),.agg (vc ((onext S k).2.1)),.bool ((onext S k).2.2.1),iw ((onext S k).2.2.2)]) ?_
  refine hp_ 7 [3,3,3,3,3] (.agg (vc ((onext S k).1))) ?_;refine hp_ 8 [3,3,3,3,3] (.agg (vc ((onext S k).2.1))) ?_;refine hp_ 9 [3,3,3,3,3] (.bool ((onext S k).2.2.1)) ?_;refine hp_ 10 [3,3,3,3,3] (iw ((onext S k).2.2.2)) ?_;exact h_use hj47 (g43,g44) (rr [1,1,0,0,0,0,0,0] [])
 refine h_stepS3 5 11 12 ?_ ?_ ?_
 .refine sC [2] (rmnext_s (S:=S) ol k) ?_;refine nH [1,1,1,1,1]<|hp_ 6 [1,1,1,1,1] (.tuple #[.agg (vc ((onext S k).1)),.agg (vc ((onext S k).2.1)),.bool ((onext S k).2.2.1),iw ((onext S k).2.2.2)]) ?_
  refine hp_ 7 [1,1,1,1,1] (.agg (vc ((onext S k).1))) ?_;refine hp_ 8 [1,1,1,1,1] (.agg (vc ((onext S k).2.1))) ?_;refine hp_ 9 [1,1,1,1,1] (.bool ((onext S k).2.2.1)) ?_;refine hp_ 10 [1,1,1,1,1] (iw ((onext S k).2.2.2)) ?_;refine h_stepS2 11 12 ?_ ?_
  .refine s_alloc (.agg zc) zc (fun g62=>?_);refine nH [2,2,2,2,2] ?_;exact h_use hj57 g62 (rr [0,0,0,0,0,0,0] [])
  refine s_alloc (.agg zc) zc (fun g63=>?_);refine nH [2,2,2,2,2] ?_;exact h_use hj59 g63 (rr [0,0,0,0,0,0,0] [])
 .refine s_alloc (.agg zc) zc (fun g64=>?_);refine nH [1,1,2,2,2]<|h_stepS2 5 12 ?_ ?_
  .refine sC [3] (rmnext_s (S:=S) ol k) ?_;refine nH [2,2,2,2,2]<|hp_ 6 [2,2,2,2,2] (.tuple #[.agg (vc ((onext S k).1)),.agg (vc ((onext S k).2.1)),.bool ((onext S k).2.2.1),iw ((onext S k).2.2.2)]) ?_
   refine hp_ 7 [2,2,2,2,2] (.agg (vc ((onext S k).1))) ?_;refine hp_ 8 [2,2,2,2,2] (.agg (vc ((onext S k).2.1))) ?_;refine hp_ 9 [2,2,2,2,2] (.bool ((onext S k).2.2.1)) ?_;refine hp_ 10 [2,2,2,2,2] (iw ((onext S k).2.2.2)) ?_;exact h_use hj57 g64 (rr [1,0,0,0,0,0,0] [])
  refine s_alloc (.agg zc) zc (fun g65=>?_);refine nH [2,2,3,3,3] ?_;exact h_use hj61 (g64,g65) (rr [0,0,0,0,0,0,0,0] [])
 refine s_alloc (.agg zc) zc (fun g66=>?_);refine nH [1,1,2,2,2]<|h_stepS2 5 11 ?_ ?_
 .refine sC [3] (rmnext_s (S:=S) ol k) ?_;refine nH [2,2,2,2,2]<|hp_ 6 [2,2,2,2,2] (.tuple #[.agg (vc ((onext S k).1)),.agg (vc ((onext S k).2.1)),.bool ((onext S k).2.2.1),iw ((onext S k).2.2.2)]) ?_
  refine hp_ 7 [2,2,2,2,2] (.agg (vc ((onext S k).1))) ?_;refine hp_ 8 [2,2,2,2,2] (.agg (vc ((onext S k).2.1))) ?_;refine hp_ 9 [2,2,2,2,2] (.bool ((onext S k).2.2.1)) ?_;refine hp_ 10 [2,2,2,2,2] (iw ((onext S k).2.2.2)) ?_;exact h_use hj59 g66 (rr [1,0,0,0,0,0,0] [])
 refine s_alloc (.agg zc) zc (fun g67=>?_);refine nH [2,2,3,3,3] ?_;exact h_use hj61 (g67,g66) (rr [1,0,0,0,0,0,0,0] [])
theorem rtinsert_s{Z:Zone}{F:List Asr}{b:Nat}{L:List Vl}{S:List Slt}(hti:TInv ⟨L,S⟩)(hl:L.length≤95000)(hs:S.length≤4000)(x:Int)(v:Vl):SF Tryz.prog 95 #[.pointer (some ⟨b,0,none⟩),iw x,v.v] Z (rtA b L S::F) fun r Bs=>r=iw (tinsE ⟨L,S⟩ x v)∧Bs=rtA b (tins ⟨L,S⟩ x v).list (tins ⟨L,S⟩ x v).rest::F:=by
 refine sf_enter Tryz.func95 47 [(0,pB b 0),(1,iw x),(2,.agg (vc v))] (fun w0=>?_);refine k_sr<|s_box (vc v) (fun g1=>?_)
 refine sP (iw 0)<|s_nt<|k_seq<|k_sr<|sP (pB b 0)<|sP (.bool false)<|s_nt<|k_false<|k_st<|k_sr<|sP3 (pB b 0)<|s_mem2 (fun H h=>rt_open (h.re [1] [])) (fun lv2 r3 hw=>?_)
 refine sL (t_load 0 lv2)<|sL (t_len VlT_ok Tryz.underlying37 (.own 1))<|sP (iw (L.length:Int))<|s_nt<|k_seq<|k_cut (ι:=Unit) (fun _=>True) (fun _=>[(0,pB b 0),(1,iw x),(5,pB g1 0),(7,iw (L.length:Int)),(23,.bool ((decide (x<1))||(decide (((L.length:Int)+1)<x))))]) (fun _=>blkA b #[lv2,pB r3 0] 130::own VlT lv2 L::rmA r3 S::blkA g1 (vc v) 32::F) ?_ (fun _ _=>?_)
 .refine k_reg<|sP (iw x)<|sL t_cmp<|sP (.bool (decide (x<1)))<|s_fork 18 (decide (x<1)) (fun c4=>?_) (fun c4=>?_)
  .have p5:=dY c4;refine sK<|sK<|sK<|sK<|sP (.bool true)<|s_nil ?_
   exact xs_cut () trivial (sub_of rfl (rQ (rQ (rQ (rQ ⟨⟨rfl,show Value.bool true=Value.bool ((decide (x<1))||(decide (((L.length:Int)+1)<x))) by first|(simp only[c4,bls];done)|simp[c4]⟩,trivial⟩))))) (rr [0,0,0,0] [])
  have p6:=dF c4;refine sP (iw x)<|sP (iw (L.length:Int))<|sL (t_add (L.length:Int) 1 ol)<|sL t_cmp<|sP (.bool (decide (((L.length:Int)+1)<x)))<|s_nil ?_
  exact xs_cut () trivial (sub_of rfl (rQ (rQ (rQ (rQ ⟨⟨rfl,show Value.bool (decide (((L.length:Int)+1)<x))=Value.bool ((decide (x<1))||(decide (((L.length:Int)+1)<x))) by first|(simp only[c4,bls];done)|simp[c4]⟩,trivial⟩))))) (rr [0,0,0,0] [])
 refine k_cond ((decide (x<1))||(decide (((L.length:Int)+1)<x))) (fun c7=>?_) (fun c7=>?_)
 .have p8:=c7;simp only[Bool.and_eq_true,Bool.or_eq_true,Bool.and_eq_false_iff,Bool.or_eq_false_iff,Bool.not_eq_true',Bool.not_eq_false',decide_eq_true_eq,decide_eq_false_iff_not]at p8;refine k_sr<|sP (iw 6)<|s_nt<|k_ret<|xs_ret<|xs_mem (fun _ h=>rt_shut (h.re [0,0,0] [])) ?_
  have hp:=tins_range (T:=⟨L,S⟩) (v:=v) (p:=x) (by show _∨(L.length:Int)+1<x;grind);refine xs_fin [iw 6] (rtA b L S::F) (SI.tmp 6 SI.nil) (rr [0] [1]) ⟨?_,?_⟩
  .rw [hp.2];try rfl
  rw[hp.1]
 obtain⟨c9,c10⟩:=or_f c7;have p11:=dF c9;have p12:=dF c10;refine k_st<|k_seq<|k_sr<|sL (t_loadA 3 (vc v))<|sV (fun _ h=>rvalid_s v)<|sP (.bool (!(validB v)))<|s_nt<|k_cond (!(validB v)) (fun c13=>?_) (fun c13=>?_)
 .have c14:=not_t c13;refine k_sr<|sP (iw 2)<|s_nt<|k_ret<|xs_ret<|xs_mem (fun _ h=>rt_shut (h.re [0,0,0] [])) ?_
  have hp:=tins_bad (T:=⟨L,S⟩) (v:=v) (p:=x) (by show ¬(_∨(L.length:Int)+1<x);grind) c14;refine xs_fin [iw 2] (rtA b L S::F) (SI.tmp 6 SI.nil) (rr [0] [1]) ⟨?_,?_⟩
  .rw [hp.2];try rfl
  rw[hp.1]
 have c15:=not_f c13;refine k_st<|k_seq<|k_sr<|sP2 (iw (L.length:Int))<|s_nt<|k_block<|k_mem (fun _ h=>rt_shut (h.re [0,0,0] [])) ?_
 have hx:1≤x∧x≤(L.length:Int)+1:=by grind
 refine k_loop (ι:=Nat) (fun k=>(k:Int)≤(L.length:Int)+1-x) (fun k=>[(0,pB b 0),(1,iw x),(5,pB g1 0),(8,iw ((L.length:Int)-(k:Int)))]) (fun k=>rtA b ((insT ⟨L,S⟩ k).list) ((insT ⟨L,S⟩ k).rest)::blkA g1 (vc v) 32::F) (fun k=>L.length+1-k) 0 om (sub_of rfl (rQ (rQ (rQ ⟨⟨rfl,cI om⟩,trivial⟩)))) (rr [0,0] []) ?_;rintro k hi16;show SK _ _ _ _ _ [(0,.pointer (some ⟨b,0,none⟩)),(1,iw x),(5,.pointer (some ⟨g1,0,none⟩)),(8,iw ((L.length:Int)-(k:Int)))] _ (rtA b ((insT ⟨L,S⟩ k).list) ((insT ⟨L,S⟩ k).rest)::blkA g1 (vc v) 32::F);obtain⟨hb1,hb2,hb3⟩:=insT_len (k:=k) hti om om;have hti2:=insT_inv hti k;refine k_seq<|k_sr<|sP (iw ((L.length:Int)-(k:Int)))<|sP (iw x)<|sL t_cmp<|s_nt<|k_cond (decide (x≤((L.length:Int)-(k:Int)))) (fun c17=>?_) (fun c17=>?_)
 .have p18:=dY c17;refine k_st<|k_seq<|k_block<|k_reg<|sP (pB b 0)<|sP (iw ((L.length:Int)-(k:Int)))<|sL (t_add ((L.length:Int)-(k:Int)) 1 ol)<|sV (fun _ h=>rkey_s (((L.length:Int)-(k:Int))+1))<|sP (pB b 0)<|sP (iw ((L.length:Int)-(k:Int)))<|sV (fun _ h=>rkey_s ((L.length:Int)-(k:Int)))<|sC [0] (rtget_s (L:=(insT ⟨L,S⟩ k).list) (S:=(insT ⟨L,S⟩ k).rest) ol ol (ofI ((L.length:Int)-(k:Int)))) ?_
  refine sC [0] (rtset_s (L:=(insT ⟨L,S⟩ k).list) (S:=(insT ⟨L,S⟩ k).rest) hti2 ol ol (ofI (((L.length:Int)-(k:Int))+1)) (tget ⟨(insT ⟨L,S⟩ k).list,(insT ⟨L,S⟩ k).rest⟩ (ofI ((L.length:Int)-(k:Int))))) ?_;refine s_nil<|xs_block<|xs_then<|k_reg<|sP (iw ((L.length:Int)-(k:Int)))<|sL (t_sub ((L.length:Int)-(k:Int)) 1 ol)<|sP (iw (((L.length:Int)-(k:Int))-1))<|s_nil ?_
  exact xs_round (k+1) om om (sub_of rfl (rQ (rQ (rQ ⟨⟨rfl,cI om⟩,trivial⟩)))) (rr [0,0] [])
 have p19:=dF c17;refine k_exit<|xs_exit<|xs_exit<|xs_here<|xs_then<|k_seq<|k_held [blkA g1 (vc v) 32] ?_
 refine hp_ 0 [1] (pB b 0) ?_;refine hp_ 1 [1] (iw x) ?_;refine h_l 3 rfl [1] (fun _=>(t_loadA 0 (vc v))) ?_;refine h_stepS 2 ?_;refine sV (fun _ h=>rkey_s x)<|nH [1]<|h_stepS 4 ?_
 refine sC [0] (rtset_s (L:=(insT ⟨L,S⟩ k).list) (S:=(insT ⟨L,S⟩ k).rest) hti2 ol ol (ofI x) v) ?_;refine nH [1]<|hp_ 5 [1] (iw (tsetE (ofI x) v)) ?_
 refine h_doneS ?_;refine xs_then<|k_ret ?_
 have hp:=tins_steps (v:=v) (p:=x) (k:=k) hti om hx.1 hx.2 c15 om;refine xs_fin [iw (tsetE (ofI x) v)] (rtA b ((tset ⟨(insT ⟨L,S⟩ k).list,(insT ⟨L,S⟩ k).rest⟩ (ofI x) v).list) ((tset ⟨(insT ⟨L,S⟩ k).list,(insT ⟨L,S⟩ k).rest⟩ (ofI x) v).rest)::F) (SI.tmp 6 SI.nil) (rr [0] [1]) ⟨cI hp.2,?_⟩;rw[←hp.1]
theorem rtremove_s{Z:Zone}{F:List Asr}{b:Nat}{L:List Vl}{S:List Slt}(hti:TInv ⟨L,S⟩)(hl:L.length≤95000)(hs:S.length≤4000)(x:Int):SF Tryz.prog 96 #[.pointer (some ⟨b,0,none⟩),iw x] Z (rtA b L S::F) fun r Bs=>r=.tuple #[(tremV ⟨L,S⟩ x).v,iw (tremE ⟨L,S⟩ x)]∧Bs=rtA b (trem ⟨L,S⟩ x).list (trem ⟨L,S⟩ x).rest::F:=by
 refine sf_enter Tryz.func96 50 [(0,pB b 0),(1,iw x)] (fun w0=>?_);refine k_sr<|s_alloc (.agg zc) zc (fun g1=>?_)
 refine sP (iw 0)<|s_nt<|k_seq<|k_sr<|sP (pB b 0)<|sP (.bool false)<|s_nt<|k_false<|k_st<|k_sr<|sP3 (pB b 0)<|s_mem2 (fun H h=>rt_open (h.re [1] [])) (fun lv2 r3 hw=>?_)
 refine sL (t_load 0 lv2)<|sL (t_len VlT_ok Tryz.underlying37 (.own 1))<|sP (iw (L.length:Int))<|s_nt<|k_seq<|k_cut (ι:=Unit) (fun _=>True) (fun _=>[(0,pB b 0),(1,iw x),(4,pB g1 0),(6,iw (L.length:Int)),(23,.bool ((decide (x<1))||(decide ((L.length:Int)<x))))]) (fun _=>blkA b #[lv2,pB r3 0] 130::own VlT lv2 L::rmA r3 S::blkA g1 zc 32::F) ?_ (fun _ _=>?_)
 .refine k_reg<|sP (iw x)<|sL t_cmp<|sP (.bool (decide (x<1)))<|s_fork 19 (decide (x<1)) (fun c4=>?_) (fun c4=>?_)
  .have p5:=dY c4;refine sK<|sK<|sK<|sP (.bool true)<|s_nil ?_
   exact xs_cut () trivial (sub_of rfl (rQ (rQ (rQ (rQ ⟨⟨rfl,show Value.bool true=Value.bool ((decide (x<1))||(decide ((L.length:Int)<x))) by first|(simp only[c4,bls];done)|simp[c4]⟩,trivial⟩))))) (rr [0,0,0,0] [])
  have p6:=dF c4;refine sP (iw x)<|sP (iw (L.length:Int))<|sL t_cmp<|sP (.bool (decide ((L.length:Int)<x)))<|s_nil ?_
  exact xs_cut () trivial (sub_of rfl (rQ (rQ (rQ (rQ ⟨⟨rfl,show Value.bool (decide ((L.length:Int)<x))=Value.bool ((decide (x<1))||(decide ((L.length:Int)<x))) by first|(simp only[c4,bls];done)|simp[c4]⟩,trivial⟩))))) (rr [0,0,0,0] [])
 refine k_cond ((decide (x<1))||(decide ((L.length:Int)<x))) (fun c7=>?_) (fun c7=>?_)
 .have p8:=c7;simp only[Bool.and_eq_true,Bool.or_eq_true,Bool.and_eq_false_iff,Bool.or_eq_false_iff,Bool.not_eq_true',Bool.not_eq_false',decide_eq_true_eq,decide_eq_false_iff_not]at p8;refine k_sr<|sL (t_kern (.agg zc))<|s_store 3 zc ?_
  refine sP (iw 6)<|s_nt<|k_ret<|xs_ret<|xs_mem (fun _ h=>rt_shut (h.re [0,0,0] [])) ?_
  have hp:=trem_range (T:=⟨L,S⟩) (p:=x) (by show _∨(L.length:Int)<x;grind);refine xs_fin [.agg zc,iw 6] (rtA b L S::F) (SI.agg 4 32 1 (SI.tmp 5 SI.nil)) (rr [0] [1]) ⟨?_,?_⟩
  .rw [hp.2.1,hp.2.2];try rfl
  rw[hp.1]
 obtain⟨c9,c10⟩:=or_f c7;have p11:=dF c9;have p12:=dF c10;refine k_st<|k_sr<|sP (pB b 0)<|sP (iw x)<|sV (fun _ h=>rkey_s x)<|s_mem (fun _ h=>rt_shut (h.re [0,0,0] [])) ?_
 refine sC [0] (rtget_s (L:=L) (S:=S) ol ol (ofI x)) ?_;refine s_alloc (.agg zc) zc (fun g13=>?_);refine s_store 0 (vc (tget ⟨L,S⟩ (ofI x))) ?_;refine s_nt<|k_seq<|k_sr<|sP2 (iw x)<|s_nt<|k_block ?_
 have hx:1≤x∧x≤(L.length:Int):=by grind
 refine k_loop (ι:=Nat) (fun k=>x+(k:Int)≤(L.length:Int)) (fun k=>[(0,pB b 0),(4,pB g1 0),(6,iw (L.length:Int)),(7,pB g13 0),(8,iw (x+(k:Int)))]) (fun k=>blkA g13 (vc (tget ⟨L,S⟩ (ofI x))) 32::rtA b ((remT ⟨L,S⟩ x k).list) ((remT ⟨L,S⟩ x k).rest)::blkA g1 zc 32::F) (fun k=>L.length-k) 0 om (sub_of rfl (rQ (rQ (rQ (rQ ⟨⟨rfl,cI om⟩,trivial⟩))))) (rr [0,0,0] []) ?_;rintro k hi14;show SK _ _ _ _ _ [(0,.pointer (some ⟨b,0,none⟩)),(4,.pointer (some ⟨g1,0,none⟩)),(6,iw (L.length:Int)),(7,.pointer (some ⟨g13,0,none⟩)),(8,iw (x+(k:Int)))] _ (blkA g13 (vc (tget ⟨L,S⟩ (ofI x))) 32::rtA b ((remT ⟨L,S⟩ x k).list) ((remT ⟨L,S⟩ x k).rest)::blkA g1 zc 32::F);obtain⟨hb1,hb2⟩:=remT_len (k:=k) hti om hx.1 om;have hb3:(remT ⟨L,S⟩ x k).rest.length=S.length:=by rw[hb2]
 have hti2:=remT_inv (p:=x) hti k;refine k_seq<|k_sr<|sP (iw (x+(k:Int)))<|sP (iw (L.length:Int))<|sL t_cmp<|s_nt<|k_cond (decide ((x+(k:Int))<(L.length:Int))) (fun c15=>?_) (fun c15=>?_)
 .have p16:=dY c15;refine k_st<|k_seq<|k_block<|k_reg<|sP (pB b 0)<|sP (iw (x+(k:Int)))<|sV (fun _ h=>rkey_s (x+(k:Int)))<|sP (pB b 0)<|sP (iw (x+(k:Int)))<|sL (t_add (x+(k:Int)) 1 ol)<|sV (fun _ h=>rkey_s ((x+(k:Int))+1))<|sC [1] (rtget_s (L:=(remT ⟨L,S⟩ x k).list) (S:=(remT ⟨L,S⟩ x k).rest) ol ol (ofI ((x+(k:Int))+1))) ?_
  refine sC [0] (rtset_s (L:=(remT ⟨L,S⟩ x k).list) (S:=(remT ⟨L,S⟩ x k).rest) hti2 ol ol (ofI (x+(k:Int))) (tget ⟨(remT ⟨L,S⟩ x k).list,(remT ⟨L,S⟩ x k).rest⟩ (ofI ((x+(k:Int))+1)))) ?_;refine s_nil<|xs_block<|xs_then<|k_reg<|sP (iw (x+(k:Int)))<|sL (t_add (x+(k:Int)) 1 ol)<|sP (iw ((x+(k:Int))+1))<|s_nil ?_
  exact xs_round (k+1) om om (sub_of rfl (rQ (rQ (rQ (rQ ⟨⟨rfl,cI om⟩,trivial⟩))))) (rr [1,0,0] [])
 have p17:=dF c15;refine k_exit<|xs_exit<|xs_exit<|xs_here<|xs_then<|k_sr<|sP (pB b 0)<|sP (iw (L.length:Int))<|sV (fun _ h=>rkey_s (L.length:Int))<|sL (t_kern (.agg zc))<|sC [1] (rtset_s (L:=(remT ⟨L,S⟩ x k).list) (S:=(remT ⟨L,S⟩ x k).rest) hti2 ol ol (ofI (L.length:Int)) zVl) ?_
 refine s_nr<|sL (t_loadA 1 (vc (tget ⟨L,S⟩ (ofI x))))<|s_store 2 (vc (tget ⟨L,S⟩ (ofI x))) ?_
 refine sP (iw 0)<|s_nt<|k_ret ?_
 obtain⟨hp1,hp2,hp3⟩:=trem_steps (p:=x) (k:=k) hti om hx.1 hx.2 om;have hp:_∧_∧_:=⟨hp1.symm,hp3,hp2.symm⟩;refine xs_fin [.agg (vc (tget ⟨L,S⟩ (ofI x))),iw 0] (rtA b ((tset ⟨(remT ⟨L,S⟩ x k).list,(remT ⟨L,S⟩ x k).rest⟩ (ofI (L.length:Int)) zVl).list) ((tset ⟨(remT ⟨L,S⟩ x k).list,(remT ⟨L,S⟩ x k).rest⟩ (ofI (L.length:Int)) zVl).rest)::F) (SI.agg 4 32 2 (SI.tmp 5 SI.nil)) (rr [0] [1,1]) ⟨?_,?_⟩
 .rw [hp.2.1,hp.2.2];try rfl
 rw[hp.1]
end Go.Proofs.YtmilekfknhglkaaGreat
end
section
set_option linter.unusedSimpArgs false
set_option linter.unusedVariables false
set_option maxRecDepth 100000
set_option maxHeartbeats 2000000
namespace Go.Proofs.YtmilekfknhglkaaGreat
open Go.Hp Go.J Go.S
open Go.Mem (Ty KTy blk elemAt pre suf blk_pre blk_suf aget aset strK aggDesc)
open Go.Mem (adel apos aget_aset aget_adel)
theorem rhlenV_none{st:Hst}{t:Vl}(h:htab st t=none):hlenV st t=0:=by unfold hlenV;rw[h]
theorem rhlenV_some{st:Hst}{t:Vl}{T:Tb}(h:htab st t=some T):hlenV st t=(T.list.length:Int):=by unfold hlenV;rw[h]
theorem rhnext_none{st:Hst}{t k:Vl}(h:htab st t=none):hnext st t k=(zVl,zVl,false,8):=by unfold hnext;rw[h]
theorem rhnext_some{st:Hst}{t k:Vl}{T:Tb}(h:htab st t=some T):hnext st t k=tnext T k:=by unfold hnext;rw[h]
theorem rhlen_s{Z:Zone}{F:List Asr}{b:Nat}{st:Hst}{n:Nat}(hsm:HSm n st)(hn:n≤300)(t:Vl):SF Tryz.prog 48 #[.pointer (some ⟨b,0,none⟩),t.v] Z (rhA b st::F) fun r Bs=>r=.tuple #[iw (hlenV st t),iw (hgetE st t)]∧Bs=rhA b st::F:=by
 refine sf_enter Tryz.func48 24 [(0,pB b 0),(1,.agg (vc t))] (fun w0=>?_);have hlen0:=hsm.len;refine k_fact (fun H h=>rh_inv (h.re [0] [])) (fun hi0=>?_);refine k_sr<|s_box (vc t) (fun g1=>?_)
 refine sP2 (iw 0)<|s_nr<|sP (pB b 0)<|sL (t_loadA 0 (vc t))<|s_call [1] (rtab_s (st:=st) om t) ?_
 rintro u2 _ ⟨e3,rfl⟩;rcases tabE_cases st t with ⟨ht4,he5⟩|⟨o6,ht7,ho8,hk9,hv10,he11⟩
 .rw [he5]at e3;subst e3;refine sP (iw 8)<|s_nt<|k_seq<|k_sr<|sP (iw 8)<|sL (t_cmp (c:=true))<|s_nt<|k_true<|k_sr<|sP (iw 8)<|sP (iw 0)<|sP (iw 8)<|s_nt<|k_ret<|xs_ret<|xs_fin [iw 0,iw 8] (rhA b st::F) (SI.tmp 4 (SI.tmp 5 SI.nil)) (rr [0] [1]) ⟨?_,?_⟩
  .rw [rhlenV_none ht4,hgetE_none ht4];try rfl
  rfl
 rw[he11]at e3;subst e3;have hgm12:=get_mem ho8;refine sP (iw 0)<|s_nt<|k_seq<|k_sr<|sP (iw 0)<|sL (t_cmp (c:=false))<|s_nt<|k_false<|k_st<|k_seq<|k_draw<|sP3 (pB b 0)<|s_mem3 (fun H h=>rh_open (h.re [0] [])) (fun v13 tv14 L15 hw=>?_)
 obtain⟨hi16,hL17⟩:=hw;have hln18:=rx_len hL17;have htl19:=hi16.tch;refine sL (t_load 0 v13)<|sP (pB g1 4)<|sL (t_load 4 (iw t.ref))<|sL (t_sub t.ref 1 ol)<|sL (t_index RxT_ok Tryz.underlying65 (.own 1) (t.ref-1) (((t.ref-1)).toNat) om ol om)<|sP (.pointer (some ((elemAt RxT.size v13 (((t.ref-1)).toNat)).add 3))) ?_
 obtain⟨tp20,uv21,rv22,hy23⟩:=rx_get hL17 ho8;refine sL (Lt.to (v':=ptrV tp20) (t_loadF 3 RxT_ok (.own 1) hy23) (tabV_tab hk9))<|s_mem (fun _ h=>rall_out hy23 (h.re [3] [])) ?_
 refine s_mem (fun _ h=>rtO_open hk9 (h.re [2] [])) ?_;obtain⟨hl24,hl242,_⟩:=hsm.obs o6 (get_mem ho8).1;have hl243:n*(n+1)≤300*301:=Nat.mul_le_mul om om;refine sC [0] (rtlen_s (L:=o6.tab.list) (S:=o6.tab.rest)) ?_;refine sP (iw (o6.tab.list.length:Int))<|sP (iw 0)<|s_nil<|x_dynS (fun _ h=>by kernel_rfl) ?_
 refine xs_then<|k_ret<|xs_mem (fun _ h=>rtO_shut (o:=o6) (T:=o6.tab) hk9 (h.re [0] [])) ?_
 refine xs_mem (fun _ h=>rall_in (o':={ o6 with tab:=o6.tab }) (uv':=uv21) (rv':=rv22) hy23 (h.re [1,1,0,0] [])) ?_;refine xs_mem (fun _ h=>rall_same hy23 h) ?_;refine xs_mem (fun _ h=>rh_shut (st:=st) (n:=(st.count:Int)) (T:=st.tch) ⟨⟨⟨hi16,hL17⟩,rfl⟩,rfl⟩ (h.re [1,1,1,0] [])) ?_;refine xs_fin [iw (o6.tab.list.length:Int),iw 0] (rhA b st::F) (SI.tmp 4 (SI.tmp 5 SI.nil)) (rr [0] [1]) ⟨?_,?_⟩
 .rw [rhlenV_some ht7,hgetE_some ht7];try rfl
 rfl
theorem rhnext_s{Z:Zone}{F:List Asr}{b:Nat}{st:Hst}{n:Nat}(hsm:HSm n st)(hn:n≤300)(t k:Vl):SF Tryz.prog 49 #[.pointer (some ⟨b,0,none⟩),t.v,k.v] Z (rhA b st::F) fun r Bs=>r=nextV (hnext st t k)∧Bs=rhA b st::F:=by
 refine sf_enter Tryz.func49 35 [(0,pB b 0),(1,.agg (vc t)),(2,.agg (vc k))] (fun w0=>?_);have hlen0:=hsm.len;refine k_fact (fun H h=>rh_inv (h.re [0] [])) (fun hi0=>?_);refine k_sr<|s_box (vc t) (fun g1=>?_)
 refine s_box (vc k) (fun g2=>?_);refine s_alloc (.agg zc) zc (fun g3=>?_);refine s_alloc (.agg zc) zc (fun g4=>?_);refine sP (.bool false)<|sP (iw 0)<|s_nr<|sP (pB b 0)<|sL (t_loadA 3 (vc t))<|s_call [4] (rtab_s (st:=st) om t) ?_
 rintro u5 _ ⟨e6,rfl⟩;rcases tabE_cases st t with ⟨ht7,he8⟩|⟨o9,ht10,ho11,hk12,hv13,he14⟩
 .rw [he8]at e6;subst e6;refine sP (iw 8)<|s_nt<|k_seq<|k_sr<|sP (iw 8)<|sL (t_cmp (c:=true))<|s_nt<|k_true<|k_sr<|sL (t_kern (.agg zc))<|sL (t_kern (.agg zc))<|sP (iw 8)<|s_store 2 zc ?_
  refine s_store 1 zc ?_;refine sP (.bool false)<|sP (iw 8)<|s_nt<|k_ret<|xs_ret<|xs_fin [.agg zc,.agg zc,.bool false,iw 8] (rhA b st::F) (SI.agg 6 32 2 (SI.agg 7 32 1 (SI.tmp 8 (SI.tmp 9 SI.nil)))) (rr [0] [1,1,1,1]) ⟨?_,?_⟩
  .rw [rhnext_none ht7];rfl
  rfl
 rw[he14]at e6;subst e6;have hgm15:=get_mem ho11;refine sP (iw 0)<|s_nt<|k_seq<|k_sr<|sP (iw 0)<|sL (t_cmp (c:=false))<|s_nt<|k_false<|k_st<|k_seq<|k_draw<|sP3 (pB b 0)<|s_mem3 (fun H h=>rh_open (h.re [0] [])) (fun v16 tv17 L18 hw=>?_)
 obtain⟨hi19,hL20⟩:=hw;have hln21:=rx_len hL20;have htl22:=hi19.tch;refine sL (t_load 0 v16)<|sP (pB g1 4)<|sL (t_load 7 (iw t.ref))<|sL (t_sub t.ref 1 ol)<|sL (t_index RxT_ok Tryz.underlying65 (.own 1) (t.ref-1) (((t.ref-1)).toNat) om ol om)<|sP (.pointer (some ((elemAt RxT.size v16 (((t.ref-1)).toNat)).add 3))) ?_
 obtain⟨tp23,uv24,rv25,hy26⟩:=rx_get hL20 ho11;refine sL (Lt.to (v':=ptrV tp23) (t_loadF 3 RxT_ok (.own 1) hy26) (tabV_tab hk12))<|sL (t_loadA 6 (vc k))<|s_mem (fun _ h=>rall_out hy26 (h.re [3] [])) ?_
 refine s_mem (fun _ h=>rtO_open hk12 (h.re [2] [])) ?_;obtain⟨hl27,hl272,_⟩:=hsm.obs o9 (get_mem ho11).1;have hl273:n*(n+1)≤300*301:=Nat.mul_le_mul om om;refine sC [0] (rtnext_s (L:=o9.tab.list) (S:=o9.tab.rest) ol ol k) ?_;refine sP (.agg (vc ((tnext ⟨o9.tab.list,o9.tab.rest⟩ k).1)))<|sP (.agg (vc ((tnext ⟨o9.tab.list,o9.tab.rest⟩ k).2.1)))<|sP (.bool ((tnext ⟨o9.tab.list,o9.tab.rest⟩ k).2.2.1))<|sP (iw ((tnext ⟨o9.tab.list,o9.tab.rest⟩ k).2.2.2))<|s_store 8 (vc ((tnext ⟨o9.tab.list,o9.tab.rest⟩ k).1)) ?_
 refine s_store 7 (vc ((tnext ⟨o9.tab.list,o9.tab.rest⟩ k).2.1)) ?_;refine sP (.bool ((tnext ⟨o9.tab.list,o9.tab.rest⟩ k).2.2.1))<|sP (iw ((tnext ⟨o9.tab.list,o9.tab.rest⟩ k).2.2.2))<|s_nil<|x_dynS (fun _ h=>by kernel_rfl) ?_
 refine xs_then<|k_ret<|xs_mem (fun _ h=>rtO_shut (o:=o9) (T:=o9.tab) hk12 (h.re [0] [])) ?_
 refine xs_mem (fun _ h=>rall_in (o':={ o9 with tab:=o9.tab }) (uv':=uv24) (rv':=rv25) hy26 (h.re [1,1,0,0] [])) ?_;refine xs_mem (fun _ h=>rall_same hy26 h) ?_;refine xs_mem (fun _ h=>rh_shut (st:=st) (n:=(st.count:Int)) (T:=st.tch) ⟨⟨⟨hi19,hL20⟩,rfl⟩,rfl⟩ (h.re [1,1,1,0] [])) ?_;refine xs_fin [.agg (vc ((tnext ⟨o9.tab.list,o9.tab.rest⟩ k).1)),.agg (vc ((tnext ⟨o9.tab.list,o9.tab.rest⟩ k).2.1)),.bool ((tnext ⟨o9.tab.list,o9.tab.rest⟩ k).2.2.1),iw ((tnext ⟨o9.tab.list,o9.tab.rest⟩ k).2.2.2)] (rhA b st::F) (SI.agg 6 32 2 (SI.agg 7 32 1 (SI.tmp 8 (SI.tmp 9 SI.nil)))) (rr [0] [1,1,1,1]) ⟨?_,?_⟩
 .rw [rhnext_some ht10];rfl
 rfl
theorem rhinsert_s{Z:Zone}{F:List Asr}{b:Nat}{st:Hst}{n:Nat}(hsm:HSm n st)(hn:n≤300)(t:Vl)(x:Int)(v:Vl):SF Tryz.prog 50 #[.pointer (some ⟨b,0,none⟩),t.v,iw x,v.v] Z (rhA b st::F) fun r Bs=>r=iw (hinsE st t x v)∧Bs=rhA b (hins st t x v)::F:=by
 refine sf_enter Tryz.func50 37 [(0,pB b 0),(1,.agg (vc t)),(2,iw x),(3,.agg (vc v))] (fun w0=>?_);have hlen0:=hsm.len;refine k_fact (fun H h=>rh_inv (h.re [0] [])) (fun hi0=>?_);refine k_sr<|s_box (vc t) (fun g1=>?_)
 refine s_box (vc v) (fun g2=>?_);refine sP (iw 0)<|s_nr<|sP (pB b 0)<|sL (t_loadA 1 (vc t))<|s_call [2] (rtab_s (st:=st) om t) ?_
 rintro u3 _ ⟨e4,rfl⟩;rcases tabE_cases st t with ⟨ht5,he6⟩|⟨o7,ht8,ho9,hk10,hv11,he12⟩
 .rw [he6]at e4;subst e4;refine sP (iw 8)<|s_nt<|k_seq<|k_sr<|sP (iw 8)<|sL (t_cmp (c:=true))<|s_nt<|k_true<|k_sr<|sP2 (iw 8)<|s_nt<|k_ret<|xs_ret ?_
  have hp:=hins_none (p:=x) (v:=v) ht5;refine xs_fin [iw 8] (rhA b st::F) (SI.tmp 8 SI.nil) (rr [0] [1,1]) ⟨?_,?_⟩
  .rw [hp.2];try rfl
  rw[hp.1];try rfl
 rw[he12]at e4;subst e4;have hgm13:=get_mem ho9;refine sP (iw 0)<|s_nt<|k_seq<|k_sr<|sP (iw 0)<|sL (t_cmp (c:=false))<|s_nt<|k_false<|k_st<|k_sr<|sL (t_loadA 1 (vc v))<|sV (fun _ h=>relem_s v)<|sP (iw (elemE v))<|s_nt<|k_seq<|k_sr<|sP (iw (elemE v))<|sL t_cmp<|s_nt<|k_cond (decide ((elemE v)≠0)) (fun c14=>?_) (fun c14=>?_)
 .have p15:=dY c14;refine k_sr<|sP2 (iw (elemE v))<|s_nt<|k_ret<|xs_ret ?_
  have hp:=hins_elem (p:=x) ht8 (dY c14);refine xs_fin [iw (elemE v)] (rhA b st::F) (SI.tmp 8 SI.nil) (rr [0] [1,1]) ⟨?_,?_⟩
  .rw [hp.2];try rfl
  rw[hp.1];try rfl
 have p16:=Decidable.not_not.1 (dF c14);refine k_st<|k_seq<|k_mem3 (fun H h=>rh_open (h.re [0] [])) (fun v17 tv18 L19 hw=>?_)
 obtain⟨hi20,hL21⟩:=hw;have hln22:=rx_len hL21;have htl23:=hi20.tch;refine k_held [blkA b #[v17,iw (st.count:Int),tv18] 68,own RxT v17 L19,blkA g2 (vc v) 32,blkA g1 (vc t) 32] ?_;refine hp_ 0 [0,0,2,2] (pB b 0) ?_;refine h_l 1 rfl [0,0,2,2] (fun _=>(t_loadA 3 (vc t))) ?_;refine hp_ 2 [0,0,2,2] (pB b 0) ?_;refine hp_ 3 [0,0,2,2] (pB b 0) ?_;refine hp_ 4 [0,0,2,2] (pB b 0) ?_;refine h_l 5 rfl [0,0,2,2] (fun _=>(t_load 0 v17)) ?_;refine hp_ 6 [0,0,2,2] (pB g1 4) ?_;refine h_l 7 rfl [0,0,2,2] (fun _=>(t_load 3 (iw t.ref))) ?_;refine h_l 8 rfl [0,0,2,2] (fun _=>(t_sub t.ref 1 ol)) ?_;refine h_l 9 rfl [0,0,2,2] (fun _=>(t_index RxT_ok Tryz.underlying65 (.own 1) (t.ref-1) (((t.ref-1)).toNat) om ol om)) ?_;refine hp_ 10 [0,0,2,2] (.pointer (some ((elemAt RxT.size v17 (((t.ref-1)).toNat)).add 3))) ?_;obtain⟨tp24,uv25,rv26,hy27⟩:=rx_get hL21 ho9;refine h_l 11 rfl [0,0,2,2] (fun _=>(Lt.to (v':=ptrV tp24) (t_loadF 3 RxT_ok (.own 1) hy27) (tabV_tab hk10))) ?_;refine hp_ 12 [0,0,2,2] (iw x) ?_;refine h_l 13 rfl [0,0,2,2] (fun _=>(t_loadA 2 (vc v))) ?_;refine h_stepS 14 ?_;refine s_mem (fun _ h=>rall_out hy27 (h.re [3] [])) ?_;refine s_mem (fun _ h=>rtO_open hk10 (h.re [2] [])) ?_;obtain⟨hl28,hl282,_⟩:=hsm.obs o7 (get_mem ho9).1;have hl283:n*(n+1)≤300*301:=Nat.mul_le_mul om om;refine sC [0] (rtinsert_s (L:=o7.tab.list) (S:=o7.tab.rest) (hi20.obs o7 (get_mem ho9).1).tab ol ol x v) ?_;refine nH [4,4,5,5]<|h_stepS 15 ?_
 by_cases hte:(tinsE ⟨o7.tab.list,o7.tab.rest⟩ x v)=0
 .refine s_call [4,5] (rtouch_s (vv:=v17) (m:=(st.count:Int)) (T:=st.tch) t om om om (tinsE ⟨o7.tab.list,o7.tab.rest⟩ x v)) ?_;rw[if_pos hte];rintro _ _ ⟨rfl,rfl⟩;refine nH [0,5,5,5]<|hp_ 16 [0,5,5,5] (iw (tinsE ⟨o7.tab.list,o7.tab.rest⟩ x v)) ?_
  refine h_doneS ?_;refine xs_then<|k_ret<|xs_mem (fun _ h=>rtO_shut (o:=o7) (T:=(tins ⟨o7.tab.list,o7.tab.rest⟩ x v)) hk10 (h.re [2] [])) ?_
  refine xs_mem (fun _ h=>rall_in (o':={ o7 with tab:=(tins ⟨o7.tab.list,o7.tab.rest⟩ x v) }) (uv':=uv25) (rv':=rv26) hy27 (h.re [3,3,0,2] [])) ?_;refine xs_mem (fun _ h=>own_set (y:=⟨some { o7 with tab:=(tins ⟨o7.tab.list,o7.tab.rest⟩ x v) },tp24,uv25,rv26⟩) hy27 rfl (h.re [3] [])) ?_;have hob29:=hi20.obs o7 (get_mem ho9).1;refine xs_mem (fun _ h=>rh_shut (st:=((st.put t.ref { o7 with tab:=(tins ⟨o7.tab.list,o7.tab.rest⟩ x v) }).touch t.ref)) (n:=(st.count:Int)) (T:=(st.tch.set ((t.ref-1)).toNat true)) ⟨⟨⟨touch_inv (put_inv (o:={ o7 with tab:=(tins ⟨o7.tab.list,o7.tab.rest⟩ x v) }) hi20 ⟨hob29.kind,(tins_inv hob29.tab _ _),hob29.mt⟩) t.ref,rx_set hL21 ho9 rfl⟩,(show (st.count:Int)=((Hst.count (st.put t.ref { o7 with tab:=(tins ⟨o7.tab.list,o7.tab.rest⟩ x v) }):Nat):Int) by rw[count_put ho9])⟩,by show _=List.set _ _ _;congr 1;omega⟩ (h.re [2,0,1,0] [])) ?_;have he1:elemE v=0:=Decidable.not_not.1 (dF c14);have hp:=hins_ok ht8 ho9 he1 hte;refine xs_fin [iw (tinsE ⟨o7.tab.list,o7.tab.rest⟩ x v)] (rhA b ((st.put t.ref { o7 with tab:=(tins ⟨o7.tab.list,o7.tab.rest⟩ x v) }).touch t.ref)::F) (SI.tmp 8 SI.nil) (rr [0] [1,1]) ⟨?_,?_⟩
  .rw [hp.2];exact cI hte
  rw[hp.1];try rfl
 refine s_call [4,5] (rtouch_s (vv:=v17) (m:=(st.count:Int)) (T:=st.tch) t om om om (tinsE ⟨o7.tab.list,o7.tab.rest⟩ x v)) ?_;rw[if_neg hte];rintro _ _ ⟨rfl,rfl⟩;have hsame:tins ⟨o7.tab.list,o7.tab.rest⟩ x v=o7.tab:=tins_err hte;refine s_mem (Bs:=blkA b #[v17,iw (st.count:Int),tv18] 68::own bTy tv18 st.tch::rtA tp24 o7.tab.list o7.tab.rest::own VlT uv25.v (usr o7)::own VlT rv26.v (rfs o7)::rallP (L19.eraseIdx ((t.ref-1)).toNat)::own RxT v17 L19::blkA g2 (vc v) 32::blkA g1 (vc t) 32::F) (fun _ h=>by rw[hsame]at h;exact h) ?_;refine nH [0,5,5,5]<|hp_ 16 [0,5,5,5] (iw (tinsE ⟨o7.tab.list,o7.tab.rest⟩ x v)) ?_
 refine h_doneS ?_;refine xs_then<|k_ret<|xs_mem (fun _ h=>rtO_shut (o:=o7) (T:=o7.tab) hk10 (h.re [2] [])) ?_
 refine xs_mem (fun _ h=>rall_in (o':={ o7 with tab:=o7.tab }) (uv':=uv25) (rv':=rv26) hy27 (h.re [3,3,0,2] [])) ?_;refine xs_mem (fun _ h=>rall_same hy27 h) ?_;refine xs_mem (fun _ h=>rh_shut (st:=st) (n:=(st.count:Int)) (T:=st.tch) ⟨⟨⟨hi20,hL21⟩,rfl⟩,rfl⟩ (h.re [1,2,1,0] [])) ?_;have he1:elemE v=0:=Decidable.not_not.1 (dF c14);have hp:=hins_err ht8 he1 hte;refine xs_fin [iw (tinsE ⟨o7.tab.list,o7.tab.rest⟩ x v)] (rhA b st::F) (SI.tmp 8 SI.nil) (rr [0] [1,1]) ⟨?_,?_⟩
 .rw [hp.2];try rfl
 rw[hp.1];try rfl
theorem rhremove_s{Z:Zone}{F:List Asr}{b:Nat}{st:Hst}{n:Nat}(hsm:HSm n st)(hn:n≤300)(t:Vl)(x:Int):SF Tryz.prog 51 #[.pointer (some ⟨b,0,none⟩),t.v,iw x] Z (rhA b st::F) fun r Bs=>r=pairV (hremV st t x) (hremE st t x)∧Bs=rhA b (hrem st t x)::F:=by
 refine sf_enter Tryz.func51 38 [(0,pB b 0),(1,.agg (vc t)),(2,iw x)] (fun w0=>?_);have hlen0:=hsm.len;refine k_fact (fun H h=>rh_inv (h.re [0] [])) (fun hi0=>?_);refine k_sr<|s_box (vc t) (fun g1=>?_)
 refine s_alloc (.agg zc) zc (fun g2=>?_);refine sP (iw 0)<|s_nr<|sP (pB b 0)<|sL (t_loadA 1 (vc t))<|s_call [2] (rtab_s (st:=st) om t) ?_
 rintro u3 _ ⟨e4,rfl⟩;rcases tabE_cases st t with ⟨ht5,he6⟩|⟨o7,ht8,ho9,hk10,hv11,he12⟩
 .rw [he6]at e4;subst e4;refine sP (iw 8)<|s_nt<|k_seq<|k_sr<|sP (iw 8)<|sL (t_cmp (c:=true))<|s_nt<|k_true<|k_sr<|sL (t_kern (.agg zc))<|sP (iw 8)<|s_store 1 zc ?_
  refine sP (iw 8)<|s_nt<|k_ret<|xs_ret ?_
  have hp:=hrem_none (p:=x) ht5;refine xs_fin [.agg zc,iw 8] (rhA b st::F) (SI.agg 6 32 1 (SI.tmp 7 SI.nil)) (rr [0] [1,1]) ⟨?_,?_⟩
  .rw [hp.2.1,hp.2.2];try rfl
  rw[hp.1];try rfl
 rw[he12]at e4;subst e4;have hgm13:=get_mem ho9;refine sP (iw 0)<|s_nt<|k_seq<|k_sr<|sP (iw 0)<|sL (t_cmp (c:=false))<|s_nt<|k_false<|k_st<|k_mem3 (fun H h=>rh_open (h.re [0] [])) (fun v14 tv15 L16 hw=>?_)
 obtain⟨hi17,hL18⟩:=hw;have hln19:=rx_len hL18;have htl20:=hi17.tch;refine k_seq<|k_held [blkA b #[v14,iw (st.count:Int),tv15] 68,own RxT v14 L16,blkA g2 zc 32,blkA g1 (vc t) 32] ?_
 refine hp_ 0 [0,0,2,2] (pB b 0) ?_;refine hp_ 1 [0,0,2,2] (pB b 0) ?_;refine hp_ 2 [0,0,2,2] (pB b 0) ?_;refine h_l 3 rfl [0,0,2,2] (fun _=>(t_load 0 v14)) ?_;refine hp_ 4 [0,0,2,2] (pB g1 4) ?_;refine h_l 5 rfl [0,0,2,2] (fun _=>(t_load 3 (iw t.ref))) ?_;refine h_l 6 rfl [0,0,2,2] (fun _=>(t_sub t.ref 1 ol)) ?_;refine h_l 7 rfl [0,0,2,2] (fun _=>(t_index RxT_ok Tryz.underlying65 (.own 1) (t.ref-1) (((t.ref-1)).toNat) om ol om)) ?_;refine hp_ 8 [0,0,2,2] (.pointer (some ((elemAt RxT.size v14 (((t.ref-1)).toNat)).add 3))) ?_;obtain⟨tp21,uv22,rv23,hy24⟩:=rx_get hL18 ho9;refine h_l 9 rfl [0,0,2,2] (fun _=>(Lt.to (v':=ptrV tp21) (t_loadF 3 RxT_ok (.own 1) hy24) (tabV_tab hk10))) ?_;refine hp_ 10 [0,0,2,2] (iw x) ?_;refine h_stepS2 11 15 ?_ ?_
 .refine s_mem (fun _ h=>rall_out hy24 (h.re [3] [])) ?_;refine s_mem (fun _ h=>rtO_open hk10 (h.re [2] [])) ?_;obtain⟨hl25,hl252,_⟩:=hsm.obs o7 (get_mem ho9).1;have hl253:n*(n+1)≤300*301:=Nat.mul_le_mul om om;refine sC [0] (rtremove_s (L:=o7.tab.list) (S:=o7.tab.rest) (hi17.obs o7 (get_mem ho9).1).tab ol ol x) ?_;refine nH [4,4,5,5]<|hp_ 12 [4,4,5,5] (.tuple #[.agg (vc (tremV ⟨o7.tab.list,o7.tab.rest⟩ x)),iw (tremE ⟨o7.tab.list,o7.tab.rest⟩ x)]) ?_
  refine hp_ 13 [4,4,5,5] (.agg (vc (tremV ⟨o7.tab.list,o7.tab.rest⟩ x))) ?_;refine hp_ 14 [4,4,5,5] (iw (tremE ⟨o7.tab.list,o7.tab.rest⟩ x)) ?_;refine h_stepS 15 ?_;refine s_alloc (.agg zc) zc (fun g26=>?_);refine nH [5,5,6,6]<|h_stepS 16 ?_
  refine s_store 0 (vc (tremV ⟨o7.tab.list,o7.tab.rest⟩ x)) ?_;refine nH [5,5,6,6]<|hp_ 17 [5,5,6,6] (iw (tremE ⟨o7.tab.list,o7.tab.rest⟩ x)) ?_
  refine h_doneS ?_;refine xs_then<|k_seq<|k_held [blkA g26 (vc (tremV ⟨o7.tab.list,o7.tab.rest⟩ x)) 32,own VlT uv22.v (usr o7),own VlT rv23.v (rfs o7),blkA b #[v14,iw (st.count:Int),tv15] 68,own RxT v14 L16,blkA g1 (vc t) 32] ?_
  refine h_l 0 rfl [0,1,1,2,2,4] (fun _=>(t_loadA 0 (vc (tremV ⟨o7.tab.list,o7.tab.rest⟩ x)))) ?_;refine hp_ 1 [0,1,1,2,2,4] (pB b 0) ?_;refine h_l 2 rfl [0,1,1,2,2,4] (fun _=>(t_loadA 5 (vc t))) ?_;refine hp_ 3 [0,1,1,2,2,4] (iw (tremE ⟨o7.tab.list,o7.tab.rest⟩ x)) ?_;refine h_stepS 4 ?_;by_cases hte:(tremE ⟨o7.tab.list,o7.tab.rest⟩ x)=0
  .refine s_call [5,6] (rtouch_s (vv:=v14) (m:=(st.count:Int)) (T:=st.tch) t om om om (tremE ⟨o7.tab.list,o7.tab.rest⟩ x)) ?_;rw[if_pos hte];rintro _ _ ⟨rfl,rfl⟩;refine nH [2,3,3,0,3,4]<|h_stepS 5 ?_
   refine s_store 8 (vc (tremV ⟨o7.tab.list,o7.tab.rest⟩ x)) ?_;refine nH [2,3,3,0,3,4]<|hp_ 6 [2,3,3,0,3,4] (iw (tremE ⟨o7.tab.list,o7.tab.rest⟩ x)) ?_
   refine h_doneS ?_;refine xs_then<|k_ret<|xs_mem (fun _ h=>rtO_shut (o:=o7) (T:=(trem ⟨o7.tab.list,o7.tab.rest⟩ x)) hk10 (h.re [3] [])) ?_
   refine xs_mem (fun _ h=>rall_in (o':={ o7 with tab:=(trem ⟨o7.tab.list,o7.tab.rest⟩ x) }) (uv':=uv22) (rv':=rv23) hy24 (h.re [4,4,0,3] [])) ?_;refine xs_mem (fun _ h=>own_set (y:=⟨some { o7 with tab:=(trem ⟨o7.tab.list,o7.tab.rest⟩ x) },tp21,uv22,rv23⟩) hy24 rfl (h.re [4] [])) ?_;have hob27:=hi17.obs o7 (get_mem ho9).1;refine xs_mem (fun _ h=>rh_shut (st:=((st.put t.ref { o7 with tab:=(trem ⟨o7.tab.list,o7.tab.rest⟩ x) }).touch t.ref)) (n:=(st.count:Int)) (T:=(st.tch.set ((t.ref-1)).toNat true)) ⟨⟨⟨touch_inv (put_inv (o:={ o7 with tab:=(trem ⟨o7.tab.list,o7.tab.rest⟩ x) }) hi17 ⟨hob27.kind,(trem_inv hob27.tab _),hob27.mt⟩) t.ref,rx_set hL18 ho9 rfl⟩,(show (st.count:Int)=((Hst.count (st.put t.ref { o7 with tab:=(trem ⟨o7.tab.list,o7.tab.rest⟩ x) }):Nat):Int) by rw[count_put ho9])⟩,by show _=List.set _ _ _;congr 1;omega⟩ (h.re [2,0,1,0] [])) ?_;have hp:=hrem_ok ht8 ho9 hte;refine xs_fin [.agg (vc (tremV ⟨o7.tab.list,o7.tab.rest⟩ x)),iw (tremE ⟨o7.tab.list,o7.tab.rest⟩ x)] (rhA b ((st.put t.ref { o7 with tab:=(trem ⟨o7.tab.list,o7.tab.rest⟩ x) }).touch t.ref)::F) (SI.agg 6 32 2 (SI.tmp 7 SI.nil)) (rr [0] [1,1,1]) ⟨?_,?_⟩
   .rw [hp.2.1,hp.2.2];exact congrArg (fun e=>pairV _ e) hte
   rw[hp.1];try rfl
  refine s_call [5,6] (rtouch_s (vv:=v14) (m:=(st.count:Int)) (T:=st.tch) t om om om (tremE ⟨o7.tab.list,o7.tab.rest⟩ x)) ?_;rw[if_neg hte];rintro _ _ ⟨rfl,rfl⟩;have hsame:trem ⟨o7.tab.list,o7.tab.rest⟩ x=o7.tab:=trem_err hte;refine s_mem (Bs:=blkA b #[v14,iw (st.count:Int),tv15] 68::own bTy tv15 st.tch::blkA g26 (vc (tremV ⟨o7.tab.list,o7.tab.rest⟩ x)) 32::rtA tp21 o7.tab.list o7.tab.rest::own VlT uv22.v (usr o7)::own VlT rv23.v (rfs o7)::rallP (L16.eraseIdx ((t.ref-1)).toNat)::own RxT v14 L16::blkA g2 zc 32::blkA g1 (vc t) 32::F) (fun _ h=>by rw[hsame]at h;exact h) ?_;refine nH [2,3,3,0,3,4]<|h_stepS 5 ?_
  refine s_store 8 (vc (tremV ⟨o7.tab.list,o7.tab.rest⟩ x)) ?_;refine nH [2,3,3,0,3,4]<|hp_ 6 [2,3,3,0,3,4] (iw (tremE ⟨o7.tab.list,o7.tab.rest⟩ x)) ?_
  refine h_doneS ?_;refine xs_then<|k_ret<|xs_mem (fun _ h=>rtO_shut (o:=o7) (T:=o7.tab) hk10 (h.re [3] [])) ?_
  refine xs_mem (fun _ h=>rall_in (o':={ o7 with tab:=o7.tab }) (uv':=uv22) (rv':=rv23) hy24 (h.re [4,4,0,3] [])) ?_;refine xs_mem (fun _ h=>rall_same hy24 h) ?_;refine xs_mem (fun _ h=>rh_shut (st:=st) (n:=(st.count:Int)) (T:=st.tch) ⟨⟨⟨hi17,hL18⟩,rfl⟩,rfl⟩ (h.re [1,3,1,0] [])) ?_;have hp:=hrem_err ht8 hte;refine xs_fin [.agg (vc (tremV ⟨o7.tab.list,o7.tab.rest⟩ x)),iw (tremE ⟨o7.tab.list,o7.tab.rest⟩ x)] (rhA b st::F) (SI.agg 6 32 2 (SI.tmp 7 SI.nil)) (rr [0] [1,1,1]) ⟨?_,?_⟩
  .rw [hp.2.1,hp.2.2];try rfl
  rw[hp.1];try rfl
 refine s_alloc (.agg zc) zc (fun g28=>?_);refine nH [1,1,3,3]<|h_stepS 11 ?_
 refine s_mem (fun _ h=>rall_out hy24 (h.re [4] [])) ?_;refine s_mem (fun _ h=>rtO_open hk10 (h.re [2] [])) ?_;obtain⟨hl29,hl292,_⟩:=hsm.obs o7 (get_mem ho9).1;have hl293:n*(n+1)≤300*301:=Nat.mul_le_mul om om;refine sC [0] (rtremove_s (L:=o7.tab.list) (S:=o7.tab.rest) (hi17.obs o7 (get_mem ho9).1).tab ol ol x) ?_;refine nH [5,5,6,6]<|hp_ 12 [5,5,6,6] (.tuple #[.agg (vc (tremV ⟨o7.tab.list,o7.tab.rest⟩ x)),iw (tremE ⟨o7.tab.list,o7.tab.rest⟩ x)]) ?_
 refine hp_ 13 [5,5,6,6] (.agg (vc (tremV ⟨o7.tab.list,o7.tab.rest⟩ x))) ?_;refine hp_ 14 [5,5,6,6] (iw (tremE ⟨o7.tab.list,o7.tab.rest⟩ x)) ?_;refine h_stepS 16 ?_;refine s_store 4 (vc (tremV ⟨o7.tab.list,o7.tab.rest⟩ x)) ?_;refine nH [5,5,6,6]<|hp_ 17 [5,5,6,6] (iw (tremE ⟨o7.tab.list,o7.tab.rest⟩ x)) ?_
 refine h_doneS ?_;refine xs_then<|k_seq<|k_held [own VlT uv22.v (usr o7),own VlT rv23.v (rfs o7),blkA g28 (vc (tremV ⟨o7.tab.list,o7.tab.rest⟩ x)) 32,blkA b #[v14,iw (st.count:Int),tv15] 68,own RxT v14 L16,blkA g1 (vc t) 32] ?_
 refine h_l 0 rfl [1,1,2,2,2,4] (fun _=>(t_loadA 2 (vc (tremV ⟨o7.tab.list,o7.tab.rest⟩ x)))) ?_;refine hp_ 1 [1,1,2,2,2,4] (pB b 0) ?_;refine h_l 2 rfl [1,1,2,2,2,4] (fun _=>(t_loadA 5 (vc t))) ?_;refine hp_ 3 [1,1,2,2,2,4] (iw (tremE ⟨o7.tab.list,o7.tab.rest⟩ x)) ?_;refine h_stepS 4 ?_;by_cases hte:(tremE ⟨o7.tab.list,o7.tab.rest⟩ x)=0
 .refine s_call [5,6] (rtouch_s (vv:=v14) (m:=(st.count:Int)) (T:=st.tch) t om om om (tremE ⟨o7.tab.list,o7.tab.rest⟩ x)) ?_;rw[if_pos hte];rintro _ _ ⟨rfl,rfl⟩;refine nH [3,3,4,0,3,4]<|h_stepS 5 ?_
  refine s_store 8 (vc (tremV ⟨o7.tab.list,o7.tab.rest⟩ x)) ?_;refine nH [3,3,4,0,3,4]<|hp_ 6 [3,3,4,0,3,4] (iw (tremE ⟨o7.tab.list,o7.tab.rest⟩ x)) ?_
  refine h_doneS ?_;refine xs_then<|k_ret<|xs_mem (fun _ h=>rtO_shut (o:=o7) (T:=(trem ⟨o7.tab.list,o7.tab.rest⟩ x)) hk10 (h.re [2] [])) ?_
  refine xs_mem (fun _ h=>rall_in (o':={ o7 with tab:=(trem ⟨o7.tab.list,o7.tab.rest⟩ x) }) (uv':=uv22) (rv':=rv23) hy24 (h.re [3,3,0,2] [])) ?_;refine xs_mem (fun _ h=>own_set (y:=⟨some { o7 with tab:=(trem ⟨o7.tab.list,o7.tab.rest⟩ x) },tp21,uv22,rv23⟩) hy24 rfl (h.re [4] [])) ?_;have hob30:=hi17.obs o7 (get_mem ho9).1;refine xs_mem (fun _ h=>rh_shut (st:=((st.put t.ref { o7 with tab:=(trem ⟨o7.tab.list,o7.tab.rest⟩ x) }).touch t.ref)) (n:=(st.count:Int)) (T:=(st.tch.set ((t.ref-1)).toNat true)) ⟨⟨⟨touch_inv (put_inv (o:={ o7 with tab:=(trem ⟨o7.tab.list,o7.tab.rest⟩ x) }) hi17 ⟨hob30.kind,(trem_inv hob30.tab _),hob30.mt⟩) t.ref,rx_set hL18 ho9 rfl⟩,(show (st.count:Int)=((Hst.count (st.put t.ref { o7 with tab:=(trem ⟨o7.tab.list,o7.tab.rest⟩ x) }):Nat):Int) by rw[count_put ho9])⟩,by show _=List.set _ _ _;congr 1;omega⟩ (h.re [2,0,1,0] [])) ?_;have hp:=hrem_ok ht8 ho9 hte;refine xs_fin [.agg (vc (tremV ⟨o7.tab.list,o7.tab.rest⟩ x)),iw (tremE ⟨o7.tab.list,o7.tab.rest⟩ x)] (rhA b ((st.put t.ref { o7 with tab:=(trem ⟨o7.tab.list,o7.tab.rest⟩ x) }).touch t.ref)::F) (SI.agg 6 32 2 (SI.tmp 7 SI.nil)) (rr [0] [1,1,1]) ⟨?_,?_⟩
  .rw [hp.2.1,hp.2.2];exact congrArg (fun e=>pairV _ e) hte
  rw[hp.1];try rfl
 refine s_call [5,6] (rtouch_s (vv:=v14) (m:=(st.count:Int)) (T:=st.tch) t om om om (tremE ⟨o7.tab.list,o7.tab.rest⟩ x)) ?_;rw[if_neg hte];rintro _ _ ⟨rfl,rfl⟩;have hsame:trem ⟨o7.tab.list,o7.tab.rest⟩ x=o7.tab:=trem_err hte;refine s_mem (Bs:=blkA b #[v14,iw (st.count:Int),tv15] 68::own bTy tv15 st.tch::rtA tp21 o7.tab.list o7.tab.rest::own VlT uv22.v (usr o7)::own VlT rv23.v (rfs o7)::rallP (L16.eraseIdx ((t.ref-1)).toNat)::blkA g28 (vc (tremV ⟨o7.tab.list,o7.tab.rest⟩ x)) 32::own RxT v14 L16::blkA g2 zc 32::blkA g1 (vc t) 32::F) (fun _ h=>by rw[hsame]at h;exact h) ?_;refine nH [3,3,4,0,3,4]<|h_stepS 5 ?_
 refine s_store 8 (vc (tremV ⟨o7.tab.list,o7.tab.rest⟩ x)) ?_;refine nH [3,3,4,0,3,4]<|hp_ 6 [3,3,4,0,3,4] (iw (tremE ⟨o7.tab.list,o7.tab.rest⟩ x)) ?_
 refine h_doneS ?_;refine xs_then<|k_ret<|xs_mem (fun _ h=>rtO_shut (o:=o7) (T:=o7.tab) hk10 (h.re [2] [])) ?_
 refine xs_mem (fun _ h=>rall_in (o':={ o7 with tab:=o7.tab }) (uv':=uv22) (rv':=rv23) hy24 (h.re [3,3,0,2] [])) ?_;refine xs_mem (fun _ h=>rall_same hy24 h) ?_;refine xs_mem (fun _ h=>rh_shut (st:=st) (n:=(st.count:Int)) (T:=st.tch) ⟨⟨⟨hi17,hL18⟩,rfl⟩,rfl⟩ (h.re [1,3,1,0] [])) ?_;have hp:=hrem_err ht8 hte;refine xs_fin [.agg (vc (tremV ⟨o7.tab.list,o7.tab.rest⟩ x)),iw (tremE ⟨o7.tab.list,o7.tab.rest⟩ x)] (rhA b st::F) (SI.agg 6 32 2 (SI.tmp 7 SI.nil)) (rr [0] [1,1,1]) ⟨?_,?_⟩
 .rw [hp.2.1,hp.2.2];try rfl
 rw[hp.1];try rfl
theorem rhtag_no{st:Hst}{v:Vl}(h5:hfind st v=none∨v.kind≠5)(h7:hfind st v=none∨v.kind≠7):htagV st v=(0,false):=by
 unfold htagV;cases hf:hfind st v with
 | none=>rfl
 | some o=>
  have hk:=(hfind_some hf).2;rw[hf]at h5 h7;simp at h5 h7;exact if_neg om
theorem rhname_no{st:Hst}{v:Vl}(h8:hfind st v=none∨v.kind≠8):hnameV st v=(eb,false):=by
 unfold hnameV;cases hf:hfind st v with
 | none=>rfl
 | some o=>
  have hk:=(hfind_some hf).2;rw[hf]at h8;simp at h8;exact if_neg om
theorem rhtag_s{Z:Zone}{F:List Asr}{b:Nat}{st:Hst}(hl:st.objs.length≤1000000)(v:Vl):SF Tryz.prog 57 #[.pointer (some ⟨b,0,none⟩),v.v] Z (rhA b st::F) fun r Bs=>r=.tuple #[iw (htagV st v).1,.bool (htagV st v).2]∧Bs=rhA b st::F:=by
 refine sf_enter Tryz.func57 24 [(0,pB b 0),(1,.agg (vc v))] (fun w0=>?_);refine k_sr<|s_box (vc v) (fun g1=>?_)
 refine sP (iw 0)<|sP (.bool false)<|s_nt<|k_seq<|k_sr<|sP (pB b 0)<|sL (t_loadA 0 (vc v))<|s_call [1] (ris_s (st:=st) om v 5) ?_
 rintro u2 _ ⟨e3,rfl⟩;rcases is_cases st v 5 with ⟨hb4,hn5⟩|⟨o6,hb7,hf8,ho9,hk10,hv11⟩
 .rw [hb4]at e3;subst e3;refine sP (.bool false)<|sP (pB b 0)<|sL (t_loadA 1 (vc v))<|s_call [0] (ris_s (st:=st) om v 7) ?_
  rintro u12 _ ⟨e13,rfl⟩;rcases is_cases st v 7 with ⟨hb14,hn15⟩|⟨o16,hb17,hf18,ho19,hk20,hv21⟩
  .rw [hb14]at e13;subst e13;refine sP (.bool false)<|s_nt<|k_false<|k_st<|k_sr<|sP (iw 0)<|sP (.bool false)<|s_nt<|k_ret ?_
   have hp:htagV st v=(0,false):=rhtag_no hn5 hn15;refine xs_fin [iw 0,.bool false] (rhA b st::F) (SI.tmp 4 (SI.tmp 5 SI.nil)) (rr [0] [1]) ⟨?_,?_⟩
   .rw [hp];try rfl
   rfl
  rw[hb17]at e13;subst e13;have hgm22:=get_mem ho19;refine sP (.bool true)<|s_nt<|k_true<|k_seq<|k_draw<|sP3 (pB b 0)<|s_mem3 (fun H h=>rh_open (h.re [0] [])) (fun v23 tv24 L25 hw=>?_)
  obtain⟨hi26,hL27⟩:=hw;have hln28:=rx_len hL27;have htl29:=hi26.tch;refine sL (t_load 0 v23)<|sP (pB g1 4)<|sL (t_load 4 (iw v.ref))<|sL (t_sub v.ref 1 ol)<|sL (t_index RxT_ok Tryz.underlying65 (.own 1) (v.ref-1) (((v.ref-1)).toNat) om ol om)<|sP (.pointer (some ((elemAt RxT.size v23 (((v.ref-1)).toNat)).add 1))) ?_
  obtain⟨tp30,uv31,rv32,hy33⟩:=rx_get hL27 ho19;refine sL (t_loadF 1 RxT_ok (.own 1) hy33)<|sP (iw o16.tag)<|sP (.bool true)<|s_nil<|x_dynS (fun _ h=>by kernel_rfl) ?_
  refine xs_then<|k_ret<|xs_ret<|xs_mem (fun _ h=>rh_shut (st:=st) (n:=(st.count:Int)) (T:=st.tch) ⟨⟨⟨hi26,hL27⟩,rfl⟩,rfl⟩ (h.re [0,0,0,0] [])) ?_
  have hp:htagV st v=(o16.tag,true):=by unfold htagV;rw[hf18];exact if_pos om
  refine xs_fin [iw o16.tag,.bool true] (rhA b st::F) (SI.tmp 4 (SI.tmp 5 SI.nil)) (rr [0] [1]) ⟨?_,?_⟩
  .rw [hp];try rfl
  rfl
 rw[hb7]at e3;subst e3;have hgm34:=get_mem ho9;refine sP (.bool true)<|sK<|sK<|sK<|sP (.bool true)<|s_nt<|k_true<|k_seq<|k_draw<|sP3 (pB b 0)<|s_mem3 (fun H h=>rh_open (h.re [0] [])) (fun v35 tv36 L37 hw=>?_)
 obtain⟨hi38,hL39⟩:=hw;have hln40:=rx_len hL39;have htl41:=hi38.tch;refine sL (t_load 0 v35)<|sP (pB g1 4)<|sL (t_load 4 (iw v.ref))<|sL (t_sub v.ref 1 ol)<|sL (t_index RxT_ok Tryz.underlying65 (.own 1) (v.ref-1) (((v.ref-1)).toNat) om ol om)<|sP (.pointer (some ((elemAt RxT.size v35 (((v.ref-1)).toNat)).add 1))) ?_
 obtain⟨tp42,uv43,rv44,hy45⟩:=rx_get hL39 ho9;refine sL (t_loadF 1 RxT_ok (.own 1) hy45)<|sP (iw o6.tag)<|sP (.bool true)<|s_nil<|x_dynS (fun _ h=>by kernel_rfl) ?_
 refine xs_then<|k_ret<|xs_ret<|xs_mem (fun _ h=>rh_shut (st:=st) (n:=(st.count:Int)) (T:=st.tch) ⟨⟨⟨hi38,hL39⟩,rfl⟩,rfl⟩ (h.re [0,0,0,0] [])) ?_
 have hp:htagV st v=(o6.tag,true):=by unfold htagV;rw[hf8];exact if_pos om
 refine xs_fin [iw o6.tag,.bool true] (rhA b st::F) (SI.tmp 4 (SI.tmp 5 SI.nil)) (rr [0] [1]) ⟨?_,?_⟩
 .rw [hp];try rfl
 rfl
theorem rhname_s{Z:Zone}{F:List Asr}{b:Nat}{st:Hst}(hl:st.objs.length≤1000000)(v:Vl):SF Tryz.prog 58 #[.pointer (some ⟨b,0,none⟩),v.v] Z (rhA b st::F) fun r Bs=>r=.tuple #[sw (hnameV st v).1,.bool (hnameV st v).2]∧Bs=rhA b st::F:=by
 refine sf_enter Tryz.func58 19 [(0,pB b 0),(1,.agg (vc v))] (fun w0=>?_);refine k_sr<|s_box (vc v) (fun g1=>?_)
 refine sP (sw eb)<|sP (.bool false)<|s_nt<|k_seq<|k_sr<|sP (pB b 0)<|sL (t_loadA 0 (vc v))<|s_call [1] (ris_s (st:=st) om v 8) ?_
 rintro u2 _ ⟨e3,rfl⟩;rcases is_cases st v 8 with ⟨hb4,hn5⟩|⟨o6,hb7,hf8,ho9,hk10,hv11⟩
 .rw [hb4]at e3;subst e3;refine s_nt<|k_false<|k_st<|k_sr<|sP (sw eb)<|sP (.bool false)<|s_nt<|k_ret ?_
  have hp:hnameV st v=(eb,false):=rhname_no hn5;refine xs_fin [sw eb,.bool false] (rhA b st::F) (SI.tmp 4 (SI.tmp 5 SI.nil)) (rr [0] [1]) ⟨?_,?_⟩
  .rw [hp];try rfl
  rfl
 rw[hb7]at e3;subst e3;have hgm12:=get_mem ho9;refine s_nt<|k_true<|k_seq<|k_draw<|sP3 (pB b 0)<|s_mem3 (fun H h=>rh_open (h.re [0] [])) (fun v13 tv14 L15 hw=>?_)
 obtain⟨hi16,hL17⟩:=hw;have hln18:=rx_len hL17;have htl19:=hi16.tch;refine sL (t_load 0 v13)<|sP (pB g1 4)<|sL (t_load 4 (iw v.ref))<|sL (t_sub v.ref 1 ol)<|sL (t_index RxT_ok Tryz.underlying65 (.own 1) (v.ref-1) (((v.ref-1)).toNat) om ol om)<|sP (.pointer (some ((elemAt RxT.size v13 (((v.ref-1)).toNat)).add 2))) ?_
 obtain⟨tp20,uv21,rv22,hy23⟩:=rx_get hL17 ho9;refine sL (t_loadF 2 RxT_ok (.own 1) hy23)<|sP (sw o6.name)<|sP (.bool true)<|s_nil<|x_dynS (fun _ h=>by kernel_rfl) ?_
 refine xs_then<|k_ret<|xs_ret<|xs_mem (fun _ h=>rh_shut (st:=st) (n:=(st.count:Int)) (T:=st.tch) ⟨⟨⟨hi16,hL17⟩,rfl⟩,rfl⟩ (h.re [0,0,0,0] [])) ?_
 have hp:hnameV st v=(o6.name,true):=by unfold hnameV;rw[hf8];exact if_pos om
 refine xs_fin [sw o6.name,.bool true] (rhA b st::F) (SI.tmp 4 (SI.tmp 5 SI.nil)) (rr [0] [1]) ⟨?_,?_⟩
 .rw [hp];try rfl
 rfl
end Go.Proofs.YtmilekfknhglkaaGreat
end
