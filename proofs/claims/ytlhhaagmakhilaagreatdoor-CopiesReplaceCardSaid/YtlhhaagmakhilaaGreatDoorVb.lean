/-
  Texts of this proof, joined: AmT, AmU, AmV, AmW, AmX, CoA, TkA, TkC, TkD, TkE, BmA, AmY, AmZ, Ty, TkB, Shelf, CoB, CoC.
  Conditions: none.
-/
import Derived.Test.YtlhhaagmakhilaaGreatDoorVa
import Derived.Lib.UnsafeStr
import Derived.Lib.Builder
import Derived.Laws.Externs
import Derived.Lib.ItoaNum
import Derived.Scope
import Derived.Test.YtlhhaagmakhilaaGreatDoorRows
import Derived.KernelRfl
import Derived.Shelf.Strings.Builder1
import Derived.Shelf.Strings.Builder2
import Derived.Shelf.Strings.OnBuilder
import Derived.Shelf.Strings.Trim
import Derived.Shelf.Small.Utf8
import Derived.Shelf.Small.Strs
import Derived.Shelf.Strings.BuilderF
import Derived.Shelf.Strings.BuilderK
import Derived.Shelf.Utf8.RuneCount
import Derived.Shelf.Strings.Builder2Cap
import Derived.Shelf.Strings.Search1
import Derived.Shelf.Strings.Search2
import Derived.Shelf.Strings.Search3
import Derived.Shelf.Strings.Count
import Derived.Shelf.LaysM
import Derived.Shelf.Strings.Shaped
import Derived.Shelf.GgClosure.StringsIndexFunc
import Derived.Ground.GgwProg
import Derived.Shelf.GgClosure.StringsIndexFuncTop
import Derived.Shelf.GgClosure.StringsRunes
import Derived.Shelf.Strings.Prefix
import Derived.Shelf.Strings.Split
import Derived.Shelf.Strings.Replace
import Derived.Shelf.Strings.SplitShaped
import Derived.Shelf.Unicode.Decode
import Derived.Shelf.Strings.Runes
import Derived.Shelf.Strings.RuneCount
import Derived.Shelf.Strings.AsciiSet
import Derived.Shelf.Strings.Explode
import Derived.Shelf.Bits.Mul64
import Derived.Shelf.Strings.Repeat
import Derived.Shelf.Unicode.DecodeSlow
import Derived.Shelf.Unicode.DecodeAny
import Derived.Shelf.Unicode.DecodeLast
import Derived.Shelf.Strings.FuncGrows
import Derived.Shelf.Strings.BuilderCap
import Derived.Shelf.Slices.Turned
import Derived.Test.YtlhhaagmakhilaaGreatDoorProg
import Derived.Lib.SmallJoins
import Derived.Lib.AppendIntMem
import Derived.Lib.SpaceUEq
import Derived.Lib.SplitLaws
set_option linter.unusedSimpArgs false
set_option linter.unnecessarySimpa false
set_option linter.unusedVariables false
open List renaming mem_cons_of_mem->Jf,map_cons->Kc,mem_cons_self->Je,toList_toArray->JF,mem_map->JG,mem_append->JI,length_map->Jo,take_length->Jp,replicate->JL,take_of_length_le->Jq,getD->Kn,getElem?_eq_none->Kq,getElem?_append->Ja,length_append->Jb,length_singleton->JR,mem_cons->KW,range->KO,all_eq_true->JC,mem_range->JD,contains_iff_mem->JW,any_eq_true->JX,getElem?_eq_some_iff->JA,drop_length->JY,mem_of_getElem?->JZ,mem_filter->J2,length_pos_of_mem->J3,drop_eq_getElem_cons->J4,mem_append_left->J5,nil_append->Jd,length_nil->J8,getElem?_eq_getElem->Jz,length_filter_le->J9,getElem?_drop->Ko,map_nil->Vj,eq_nil_of_length_eq_zero->Ke,drop_zero->KP,isPrefixOf->Vp,takeWhile_sublist->Vr,length_drop->K5,drop_eq_nil_of_le->Vt,length_cons->KX,isPrefixOf_iff_prefix->Vv,cons_append->Kg,length_take->K4,map->Vw,flatten_cons->Vx,getElem?_append_right->VA,drop_succ_cons->VB,drop_of_length_le->VC,take_succ_cons->Kh,mem_of_mem_drop->VD,mem_of_mem_take->VE,set_append_right->VG,getElem_mem->VH,filterMap_cons->VI,take_add_one->VJ,map_map->VT,map_eq_nil_iff->VU,set_cons_zero->VW,set_cons_succ->Ki,getD_cons_zero->VX,getD_cons_succ->Km
open Array renaming toList_append->JH,range->Jc,length_toList->KM,getD->JE,replicate->Jw,getElem?_modify->KR
open Option renaming isSome_some->JJ,map_eq_some_iff->Kb,map_some->KH,isNone_iff_eq_none->JU,getD_some->VK
open Go.AM.PMap renaming upd->JK,upd_same->JM,le_trans->J6
open Bool renaming and_eq_true->Kw,and_true->JS,not_eq_true'->Ji,or_eq_true->JV,true_and->Vf,and_assoc->Vo,false_eq_true->KV,and_eq_false_iff->VP,or_eq_false_iff->VQ,not_eq_false'->VS,eq_iff_iff->Kz,not_true->VY,false_and->VZ
open Go.AM.AVal renaming live->JN,cells->VV
open Nat renaming lt_of_not_le->JO,lt_or_ge->KT,eq_or_lt_of_le->JB,strongRecOn->Jv,le_refl->KJ,le_of_not_lt->Kr,zero_le->Js,zero_add->Jr,zero_div->Ve,pos_of_ne_zero->Vm,zero_mul->K7,mul_div_cancel->Vn,add_zero->K6,succ_mul->Vy,add_comm->Vz,mul_le_mul_right->K8,sub_zero->Jg,le_of_ble_eq_true->VL
open Go.AM.Same renaming refl->JP
open Go.AM.Slots renaming get_keep->JQ,put->VM,keep->VN,get->VO
open Go.AM.Awp renaming of0->J7,keep->Va
open Go.AM.AHeap renaming set_ne->Vb,set_same->Vd,set_set->Vh,set_comm->Vi,del->Vk
open Go.AM.Sub renaming set->Vg,refl->Vl,trans_set->V3
open Int renaming toNat_natCast->Vq,natCast_zero->Vu,natCast_nonneg->VF
open UInt8 renaming ofNat->KC
namespace Go.AM
open Go.RowKit (Below)
theorem qej{s:Slots}{L:List Nat}{op:Op}(hL:∀t∈qoo op,t∈L):∀x∈op.operands.toList,ev (s.keep L) x=ev s x:=by
 intro x hx;refine Zu fun t ht=>hL t ?_;subst ht;exact List.mem_filterMap.2 ⟨_,hx,rfl⟩
theorem qik{s s':Slots}:∀{xs:List Operand},(∀x∈xs,ev s' x=ev s x)->evs s' xs=evs s xs
 |[],_=>rfl
 |x::xs,h=>by
  have:=qik (s:=s) (s':=s') (xs:=xs) fun y hy=>h y (Jf _ hy);simp only[evs,Kc]at this|-
  rw[h x Je,this]
theorem qlR{s s':Slots}:∀{xs:List (Nat×Operand)},(∀p∈xs,ev s' p.2=ev s p.2)->evP s' xs=evP s xs
 |[],_=>rfl
 |x::xs,h=>by
  have:=qlR (s:=s) (s':=s') (xs:=xs) fun y hy=>h y (Jf _ hy);simp only[evP,Kc]at this|-
  rw[h x Je,this]
theorem qlS{s s':Slots}{x:Option Operand}(h:∀y,x=some y->ev s' y=ev s y):evO s' x=evO s x:=by
 cases x with
 |none=>rfl
 |some y=>simp only[evO,h y rfl]
theorem qeF{P:Program}{wz:World}{h:AHeap}{s s':Slots}(op:Op)(E:∀x∈op.operands.toList,ev s' x=ev s x):pop P wz h s' op=pop P wz h s op:=by
 cases op with
 |move x=>simp only[pop,E x (by simp[Op.operands])]
 |assign x=>simp only[pop,E x (by simp[Op.operands])]
 |pick c a b=>simp only[pop,E c (by simp[Op.operands]),E a (by simp[Op.operands]),E b (by simp[Op.operands])]
 |binOp o t x y u=>simp only[pop,E x (by simp[Op.operands]),E y (by simp[Op.operands])]
 |unOp o t x=>simp only[pop,E x (by simp[Op.operands])]
 |convert a b x=>simp only[pop,E x (by simp[Op.operands])]
 |load t x=>simp only[pop,E x (by simp[Op.operands])]
 |field t x f=>simp only[pop,E x (by simp[Op.operands])]
 |fieldAddr t x f=>simp only[pop,E x (by simp[Op.operands])]
 |index t x i=>simp only[pop,E x (by simp[Op.operands]),E i (by simp[Op.operands])]
 |indexAddr t x i=>simp only[pop,E x (by simp[Op.operands]),E i (by simp[Op.operands])]
 |slice t x lo hi mx=>
  simp only[pop,E x (by simp[Op.operands])];rw[qlS (s:=s) (s':=s') (x:=lo) fun y hy=>E y (by subst hy;simp[Op.operands]),qlS (s:=s) (s':=s') (x:=hi) fun y hy=>E y (by subst hy;simp[Op.operands]),qlS (s:=s) (s':=s') (x:=mx) fun y hy=>E y (by subst hy;simp[Op.operands])]
 |extract x i=>simp only[pop,E x (by simp[Op.operands])]
 |nilCheck x=>simp only[pop,E x (by simp[Op.operands])]
 |build t ps=>
  simp only[pop];rw[qlR (s:=s) (s':=s') fun p hp=>E p.2 (by simp only[Op.operands,JF,JG];exact⟨p,hp,rfl⟩)]
 |makeFunc fn first cap=>
  simp only[pop];rw[qik (s:=s) (s':=s') (xs:=cap.toList) fun x hx=>E x (by simp only[Op.operands,JH,JI];exact .inr hx)]
 |makeInterface t x=>simp only[pop,E x (by simp[Op.operands])]
 |lookup t x i ok=>simp only[pop,E x (by simp[Op.operands]),E i (by simp[Op.operands])]
 |call c=>
  obtain⟨callee,args,ts⟩:=c;simp only[pop];cases callee with
  |builtin b=>
   simp only;rw[qik (s:=s) (s':=s') (xs:=args.toList) fun x hx=>E x (by simp only[Op.operands,Call.operands,JH,JI];exact .inr hx)]
  |_=>rfl
 |_=>rfl
theorem qcK{P:Program}{wz:World}{h:AHeap}{s s':Slots}(op:Op){K:AVal->AHeap->Prop}(E:∀x∈op.operands.toList,ev s' x=ev s x):eop P wz h s' op K=eop P wz h s op K:=by
 have hp:=qeF (P:=P) (wz:=wz) (h:=h) (s:=s) (s':=s') op E;cases op with
 |box e x=>simp only[eop,E x (by simp[Op.operands])]
 |buildSlice t n ps=>
  simp only[eop];rw[qlR (s:=s) (s':=s') fun p hp=>E p.2 (by simp only[Op.operands,JF,JG];exact⟨p,hp,rfl⟩)]
 |store t x v=>simp only[eop,E x (by simp[Op.operands]),E v (by simp[Op.operands])]
 |makeSlice t n c=>simp only[eop,E n (by simp[Op.operands]),E c (by simp[Op.operands])]
 |mapUpdate t m i v=>simp only[eop,E m (by simp[Op.operands]),E i (by simp[Op.operands]),E v (by simp[Op.operands])]
 |insert t m i v=>simp only[eop,E m (by simp[Op.operands]),E i (by simp[Op.operands]),E v (by simp[Op.operands])]
 |range t x=>simp only[eop,E x (by simp[Op.operands])]
 |next it b=>simp only[eop,E it (by simp[Op.operands])]
 |entry it=>simp only[eop,E it (by simp[Op.operands])]
 |convert a b x=>simp only[eop,E x (by simp[Op.operands]),hp]
 |call c=>
  obtain⟨callee,args,ts⟩:=c;have hx:evs s' args.toList=evs s args.toList:=qik fun x hx=>E x (by simp only[Op.operands,Call.operands,JH,JI];exact .inr hx);cases callee with
  |value f=>
   simp only[eop,hx];rw[E f (by simp[Op.operands,Call.operands])]
  |builtin b=>cases b<;>simp only[eop,hx]<;>rw[hp]
  |invoke r m=>simp only[eop,hp]
 |alloc e=>rfl
 |_=>simp only[eop,hp]
mutual
def AVal.okIn(f:Nat->Bool):AVal->Prop
 | .ptr (.own k) _=>f k=true
 | .slice (.own k) _ len c=>match c with
   | .exact c=>(c≠0\/len≠0->f k=true)
   | .grow _=>f k=true
 | .func _ cs=>Xu f cs
 | .map k=>f k=true
 | .iface _ x=>x.okIn f
 | .agg cs=>Xu f cs
 | .tuple cs=>Xu f cs
 |_=>True
def Xu(f:Nat->Bool):List AVal->Prop
 |[]=>True
 |x::xs=>x.okIn f/\Xu f xs
end
mutual
theorem Ui{fi:PMap}:∀(x:AVal) (v:Value),VR fi x v->x.okIn (fun k=>(fi k).isSome)
 | .dead,_,_=>by simp only[AVal.okIn]
 | .bool _,_,_=>by simp only[AVal.okIn]
 | .int _ _,_,_=>by simp only[AVal.okIn]
 | .str _,_,_=>by simp only[AVal.okIn]
 | .nilPtr,_,_=>by simp only[AVal.okIn]
 | .nilSlice,_,_=>by simp only[AVal.okIn]
 | .nilFunc,_,_=>by simp only[AVal.okIn]
 | .nilIface,_,_=>by simp only[AVal.okIn]
 | .nilMap,_,_=>by simp only[AVal.okIn]
 | .mapO _,_,_=>by simp only[AVal.okIn]
 | .mapE _ _ _,_,_=>by simp only[AVal.okIn]
 | .iterO _ _ _ _,_,_=>by simp only[AVal.okIn]
 | .map k,v,h=>by
   simp only[VR]at h;obtain⟨p,hp,_⟩:=h;simp only[AVal.okIn,hp,JJ]
 | .ptr (.base b) _,_,_=>by simp only[AVal.okIn]
 | .ptr (.own k) o,v,h=>by
   simp only[VR,Xl,Kb]at h;obtain⟨a,⟨p,hp,_⟩,_⟩:=h;simp only[AVal.okIn,hp,JJ]
 | .slice (.base b) _ _ _,_,_=>by simp only[AVal.okIn]
 | .slice (.own k) o len (.exact c),v,h=>by
   simp only[VR,Xl,Kb]at h;obtain⟨a,_,h2⟩:=h;simp only[AVal.okIn];intro hc;obtain⟨p,hp,_⟩:=h2 hc;simp only[hp,JJ]
 | .slice (.own k) o len (.grow es),v,h=>by
   simp only[VR]at h;obtain⟨k',p,c,a,e,hp,_⟩:=h;cases e;simp only[AVal.okIn,hp,JJ]
 | .func f cs,v,h=>by
   simp only[VR]at h;obtain⟨vs,_,h2⟩:=h;simp only[AVal.okIn];exact qae cs vs h2
 | .iface t x,v,h=>by
   simp only[VR]at h;obtain⟨y,_,h2⟩:=h;simp only[AVal.okIn];exact Ui x y h2
 | .agg cs,v,h=>by
   simp only[VR]at h;obtain⟨vs,_,h2⟩:=h;simp only[AVal.okIn];exact qae cs vs h2
 | .tuple cs,v,h=>by
   simp only[VR]at h;obtain⟨vs,_,h2⟩:=h;simp only[AVal.okIn];exact qae cs vs h2
theorem qae{fi:PMap}:∀(xs:List AVal) (vs:List Value),VRs fi xs vs->Xu (fun k=>(fi k).isSome) xs
 |[],_,_=>by simp only[Xu]
 |x::xs,vs,h=>by
  simp only[VRs]at h;obtain⟨v,vs',_,h1,h2⟩:=h;simp only[Xu];exact⟨Ui x v h1,qae xs vs' h2⟩
end
mutual
theorem qet{fi Ps:PMap}{f:Nat->Bool}(hf:∀k,f k=true->fi k=Ps k):∀(x:AVal) (v:Value),x.okIn f->VR fi x v->VR Ps x v
 | .dead,_,_,h=>h
 | .bool _,_,_,h=>h
 | .int _ _,_,_,h=>h
 | .str _,_,_,h=>h
 | .nilPtr,_,_,h=>h
 | .nilSlice,_,_,h=>h
 | .nilFunc,_,_,h=>h
 | .nilIface,_,_,h=>h
 | .nilMap,_,_,h=>h
 | .mapO _,_,_,h=>h
 | .mapE _ _ _,_,_,h=>h
 | .iterO _ _ _ _,_,_,h=>h
 | .map k,v,ok,h=>by
   simp only[AVal.okIn]at ok;simp only[VR,<-hf k ok]at h|-
   exact h
 | .ptr (.base b) _,_,_,h=>h
 | .ptr (.own k) o,v,ok,h=>by
   simp only[AVal.okIn]at ok;simp only[VR,Xl,<-hf k ok]at h|-
   exact h
 | .slice (.base b) _ _ (.exact c),_,_,h=>h
 | .slice (.base b) _ _ (.grow c),v,_,h=>by
   simp only[VR]at h;obtain⟨k,p,c,a,e,_⟩:=h;cases e
 | .slice (.own k) o len (.exact c),v,ok,h=>by
   simp only[AVal.okIn]at ok;simp only[VR,Xl]at h|-
   obtain⟨a,h1,h2⟩:=h;exact⟨a,h1,fun hc=>by rw[<-hf k (ok hc)];exact h2 hc⟩
 | .slice (.own k) o len (.grow es),v,ok,h=>by
   simp only[AVal.okIn]at ok;simp only[VR]at h|-
   obtain⟨k',p,c,a,e,hp,rest⟩:=h;cases e;exact⟨k,p,c,a,rfl,by rw[<-hf k ok];exact hp,rest⟩
 | .func f cs,v,ok,h=>by
   simp only[AVal.okIn]at ok;simp only[VR]at h|-
   obtain⟨vs,h1,h2⟩:=h;exact⟨vs,h1,qcO hf cs vs ok h2⟩
 | .iface t x,v,ok,h=>by
   simp only[AVal.okIn]at ok;simp only[VR]at h|-
   obtain⟨y,h1,h2⟩:=h;exact⟨y,h1,qet hf x y ok h2⟩
 | .agg cs,v,ok,h=>by
   simp only[AVal.okIn]at ok;simp only[VR]at h|-
   obtain⟨vs,h1,h2⟩:=h;exact⟨vs,h1,qcO hf cs vs ok h2⟩
 | .tuple cs,v,ok,h=>by
   simp only[AVal.okIn]at ok;simp only[VR]at h|-
   obtain⟨vs,h1,h2⟩:=h;exact⟨vs,h1,qcO hf cs vs ok h2⟩
theorem qcO{fi Ps:PMap}{f:Nat->Bool}(hf:∀k,f k=true->fi k=Ps k):∀(xs:List AVal) (vs:List Value),Xu f xs->VRs fi xs vs->VRs Ps xs vs
 |[],_,_,h=>h
 |x::xs,vs,ok,h=>by
  simp only[Xu]at ok;simp only[VRs]at h|-
  obtain⟨v,vs',h0,h1,h2⟩:=h;exact⟨v,vs',h0,qet hf x v ok.1 h1,qcO hf xs vs' ok.2 h2⟩
end
theorem ERel.limit{fi Ps ψ':PMap}(hk:∀k,(fi k).isSome=true->Ps k=ψ' k):∀{cs:List AVal} {l l':List MapEntry},ERel fi cs l->ERel Ps cs l'->ERel ψ' cs l'
 |[],_,_,_,h=>h
 |c::cs,l,l',h,h'=>by
  simp only[ERel]at h h'|-
  obtain⟨e,r,rfl,h1,h2⟩:=h;obtain⟨e',r',rfl,h1',h2'⟩:=h';refine⟨e',r',rfl,?_,ERel.limit hk h2 h2'⟩;cases c<;>first|exact h1.elim|exact⟨h1'.1,qet (f:=fun k=>(fi k).isSome) hk _ _ (Ui _ _ h1.2.1) h1'.2.1,qet (f:=fun k=>(fi k).isSome) hk _ _ (Ui _ _ h1.2.2) h1'.2.2⟩
theorem ORel.limit{fi Ps ψ':PMap}(hk:∀k,(fi k).isSome=true->Ps k=ψ' k){cs:List AVal}{o o':Obj}(h:ORel fi cs o)(h':ORel Ps cs o'):ORel ψ' cs o':=by
 unfold ORel at h'|-
 split at h'
 ·rename_i c es entries clock
  refine⟨h'.1,?_⟩;cases o with
  |map en cl=>exact ERel.limit hk (show cl=c/\ERel fi es en.toList from h).2 h'.2
  |_=>exact(show False from h).elim
 ·rename_i m since seen last r s1 s2 s3
  obtain⟨⟨p,g1,g2⟩,g3⟩:=h';refine⟨⟨p,?_,g2⟩,g3⟩;cases o with
  |mapIter mm b1 b2 b3=>
   cases mm with
   |none=>exact(show False from h).elim
   |some mm=>
    obtain⟨⟨q,q1,_⟩,_⟩:=(show(∃p,fi m=some p/\mm=p.blk)/\b1=since/\b2.toList=seen/\b3=last from h)
    rw[<-hk m (by rw[q1];rfl)];exact g1
  |_=>exact(show False from h).elim
 ·exact h'.elim
theorem HRel.limit{wz w w':World}{fi Ps ψ':PMap}{g:AHeap}(hr:HRel wz fi g w)(hr':HRel wz Ps g w')(hl:ψ'.le Ps)(hk:∀k,(fi k).isSome=true->Ps k=ψ' k):HRel wz ψ' g w':=by
 refine⟨hr'.below,fun k b hb=>?_,fun k k' b b' p p' hb hb' hp hp'=>hr'.inj k k' b b' p p' hb hb' (hl _ _ hp) (hl _ _ hp'),fun k p hp=>hr'.lt k p (hl _ _ hp),?_,fun k p hp=>hr'.typ k p (hl _ _ hp)⟩
 ·obtain⟨p,hp,h1,h2⟩:=hr'.own k b hb
  obtain⟨q,hq,_,c2⟩:=hr.own k b hb;refine⟨p,by rw[<-hk k (by simp[hq])];exact hp,h1,?_⟩;rcases h2 with h2|h2
  ·obtain⟨cs,e,lo,hi,r1,r2,r3,r4,r5,r6⟩:=h2.row
   obtain⟨cs',e',lo',hi',s1,s2,s3,s4,s5,s6⟩:=c2.row r4;exact .inl ⟨cs,e,lo,hi,r1,r2,r3,r4,qcO (f:=fun k=>(fi k).isSome) (fun k hf=>hk k hf) _ _ (qae _ _ s5) r5,r6⟩
  ·obtain⟨o,r1,r2⟩:=h2.obj
   obtain⟨o',s1,s2⟩:=(c2.obj h2.frz).obj;exact .inr ⟨h2.frz,h2.at_,o,r1,ORel.limit hk s2 r2⟩
 ·obtain⟨N,hN⟩:=hr'.fin
  refine⟨N,fun k hk'=>?_⟩;cases e:ψ' k with
  |none=>rfl
  |some p=>have:=hl k p e;rw[hN k hk']at this;cases this
def Ya(P:Program):Op->Nat
 | .alloc _=>0
 | .box _ _=>0
 | .buildSlice _ _ _=>0
 | .makeSlice _ _ _=>0
 | .store _ _ _=>3
 | .makeMap _ _=>3
 | .mapUpdate _ _ _ _=>3
 | .insert _ _ _ _=>3
 | .range _ _=>3
 | .next _ _=>3
 | .entry _=>3
 | .convert src dst _=>if ZZ P src dst=true then 0 else if qcL P src dst=true then 3 else 2
 | .call c=>match c.callee with
   | .value _=>1
   | .builtin .append=>3
   | .builtin .copy=>3
   | .builtin .delete=>3
   | .builtin _=>2
   | .invoke _ _=>3
 |_=>2
theorem qoy{P:Program}{op:Op}(h:Ya P op=2):Zb P op=true:=by
 cases op<;>simp only[Ya,Zb]at h|- <;>first|rfl|(cases h;done)|skip
 case convert a b x=>
  split at h
  ·cases h
  ·split at h
   ·cases h
   ·rename_i h1 h2
    simp[h1,h2]
 case call c=>
  obtain⟨callee,args,ts⟩:=c;cases callee with
  |value f=>simp at h
  |invoke r m=>simp at h
  |builtin b=>cases b<;>simp at h|-
theorem lay_ok{P:Program}{wz:World}{h:AHeap}{s:Slots}{op:Op}{K:AVal->AHeap->Prop}(hk0:Ya P op=0)(he:eop P wz h s op K):
 ∃(val:Nat->AVal) (b:Blk),(∀k,h k=none->K (val k) (h.set k b))/\
  ∀(k:Nat) (o:Oper),o.op=op->∀{w:World} {fi:PMap} {g:AHeap} {n:FrameK} {a:Act} {next:Act->World->Prop} {Q:Exit->Act->World->Prop},HRel wz fi g w->SRel fi n s a->g k=none->fi k=none->Uf k=none->
   (∀p v w',HRel wz (fi.upd k p) (g.set k b) w'->VR (fi.upd k p) (val k) v->next (a.put o.dst v) w')->o.wp P a w next Q:=by
 cases op<;>simp only[Ya]at hk0<;>first
  |(cases hk0;done)
  |skip
 case alloc e=>
  simp only[eop]at he;split at he<;>first|exact he.elim|skip
  rename_i z hz
  refine⟨fun k=> .ptr (.own k) 0,⟨z.cells.toList.map qF,0⟩,he,?_⟩;rintro k ⟨dst,op,type,pos,after,guard⟩ rfl w fi g n a next Q hr hs hk hφ hkt hn;obtain⟨e1,e2⟩:=hr.alloc k hk hφ (z.cells.toList.map qF) z.cells e 0 0 (by rw[Jo,Jp];exact WW fi z.cells.toList) qaT (fun t ht=>by rw[hkt]at ht;cases ht);refine XK (v:= .pointer (some ⟨w.heap.size,0,none⟩)) (w':=w.alloc (.cells z.cells e)) ?_ (hn _ _ _ e2 (qhw _ _ _));simp[execOp,Instr.alloc,qbr hz,newVar,newRow]
 case box e x=>
  simp only[eop]at he;obtain⟨hl,he⟩:=he;refine⟨fun k=> .ptr (.own k) 0,⟨(ev s x).cells,0⟩,he,?_⟩;rintro k ⟨dst,op,type,pos,after,guard⟩ rfl w fi g n a next Q hr hs hk hφ hkt hn;have hx:=qeZ (hs.ev x) hl;have hlen:=XN hx;obtain⟨e1,e2⟩:=hr.alloc k hk hφ (ev s x).cells (a.eval x).cells e 0 0 (by rw[<-hlen,Jp];exact hx) qaT (fun t ht=>by rw[hkt]at ht;cases ht);refine XK (v:= .pointer (some ⟨w.heap.size,0,none⟩)) (w':=w.alloc (.cells (a.eval x).cells e)) ?_ (hn _ _ _ e2 (qhw _ _ _));simp[execOp,Instr.box,newVar,newRow]
 case buildSlice t m parts=>
  simp only[eop]at he;split at he<;>first|exact he.elim|skip
  rename_i cs hb
  refine⟨fun k=> .slice (.own k) 0 m (.exact m),⟨cs,0⟩,he,?_⟩;rintro k ⟨dst,op,type,pos,after,guard⟩ rfl w fi g n a next Q hr hs hk hφ hkt hn;unfold UV at hb;split at hb<;>first|(cases hb;done)|skip
  rename_i e ht
  split at hb<;>first|(cases hb;done)|skip
  rename_i es z hes hz
  split at hb<;>first|(cases hb;done)|skip
  rename_i hc
  obtain⟨c1,c2,c3⟩:=hc;have hzs:VRs fi (z.cells.toList.map qF) z.cells.toList:=WW fi _;obtain⟨r,f1,f2⟩:=qgn (fi:=fi) (fun i=>some (i*es,es)) (vs:=(parts.map fun(i,x)=>(i,a.eval x)).toList) (us:=(Jc (m*es)).map (z.cells[· %z.cells.size]!)) (by simpa using hs.evP parts.toList) (qin hzs (by omega) (m*es)) hb;have hlen:=XN f2;simp only[KM]at hlen;have hcl:cs.length=m*es:=by rw[qeg _ hb];simp[WS]
  obtain⟨e1,e2⟩:=hr.alloc k hk hφ cs r e 0 0 (by rw[<-hlen,<-KM,Jp];exact f2) qaT (fun t ht=>by rw[hkt]at ht;cases ht);refine XK (v:= .slice (some ⟨w.heap.size,0,none⟩) m m) (w':=w.alloc (.cells r e)) ?_ (hn _ _ _ e2 ?_)
  ·have hbig:¬(m*es>2^24):=by omega
   have hb':¬(16777216<m*es):=by omega
   by_cases hz0:m*es=0
   ·have hr0:r= #[]:=Array.eq_empty_of_size_eq_zero (by omega)
    have harr:((Jc (m*es)).map (z.cells[· %z.cells.size]!))= #[]:=by rw[hz0];simp
    rw[harr]at f1;simp at f1;simp[execOp,Instr.buildSlice,qU ht,ZA hes,hz0,Array.range_zero',f1,newRow]
   ·simp[execOp,Instr.buildSlice,qU ht,ZA hes,hz0,hb',qbr hz]
    simp at f1;simp[f1,newRow]
  ·simp only[VR]
   exact⟨_,rfl,fun _=>by simp[Xl,JK]⟩
 case makeSlice t m c=>
  simp only[eop]at he;unfold qpM at he;split at he<;>first|exact he.elim|skip
  rename_i e len cap ht hlen hcap
  split at he<;>first|exact he.elim|skip
  rename_i es by' z hes hby hz
  obtain⟨⟨g1,g2,g3,g4,g5,g6⟩,he⟩:=he;refine⟨fun k=> .slice (.own k) 0 len.toNat (.exact cap.toNat),⟨WS (z.cells.toList.map qF) (cap.toNat*es),0⟩,he,?_⟩;rintro k ⟨dst,op,type,pos,after,guard⟩ rfl w fi g n a next Q hr hs hk hφ hkt hn;have i1:∃k,a.eval m= .int k len:=by
   have:=hs.ev m;revert hlen this;cases ev s m<;>simp[qrL,VR];intro e1 e2;subst e1;exact⟨_,e2⟩
  have i2:∃k,a.eval c= .int k cap:=by
   have:=hs.ev c;revert hcap this;cases ev s c<;>simp[qrL,VR];intro e1 e2;subst e1;exact⟨_,e2⟩
  obtain⟨k1,i1⟩:=i1;obtain⟨k2,i2⟩:=i2;simp only[ZP,Kb]at hes;obtain⟨ii,hi,hes⟩:=hes;simp only[qfB,hi,KH,Option.some.injEq]at hby;simp only[Uc,hi,Option.bind_some]at hz;subst hby;have hmake:=run_make (P:=P) w t e ii z ht hi hz k1 k2 len cap g1 g2 g3 g4;rw[hes]at hmake;have hzs:VRs fi (z.cells.toList.map qF) z.cells.toList:=WW fi _;have hrep:=qin hzs (by omega) (cap.toNat*es);obtain⟨e1,e2⟩:=hr.alloc k hk hφ (WS (z.cells.toList.map qF) (cap.toNat*es)) (madeCells z.cells (cap.toNat*es)) e 0 0 (by
   have hl:=XN hrep;rw[<-hl];unfold madeCells;rw[Jp];exact hrep) qaT (fun t ht=>by rw[hkt]at ht;cases ht)
  refine XK (v:= .slice (some ⟨w.heap.size,0,none⟩) len.toNat cap.toNat) (w':=w.alloc (.cells (madeCells z.cells (cap.toNat*es)) e)) ?_ (hn _ _ _ e2 ?_)
  ·simp only[execOp,i1,i2]
   exact Zh hmake
  ·simp only[VR]
   exact⟨_,rfl,fun _=>by simp[Xl,JK]⟩
 case convert src dst' x=>
  split at hk0
  ·rename_i hc
   simp only[eop]at he;split at he
   ·rename_i b hb
    rw[if_pos hc]at he;obtain⟨g1,he⟩:=he;refine⟨fun k=> .slice (.own k) 0 b.length (.grow 1),⟨byteCells b,0⟩,he,?_⟩;rintro k ⟨dst,op,type,pos,after,guard⟩ rfl w fi g n a next Q hr hs hk hφ hkt hn;unfold ZZ at hc;split at hc<;>first|(cases hc;done)|skip
    rename_i e h1 h2
    split at hc<;>first|(cases hc;done)|skip
    rename_i h3
    have hx:=hs.ev x;rw[hb]at hx;simp only[VR]at hx;have hcap:b.length<=grownCap w b.length 0 e:=by
     simp only[grownCap,Question.cut];omega
    have hrun:=run_bytes_of_string (P:=P) w src dst' e ⟨⟨b⟩⟩ h1 h2 h3;rw[qla]at hrun;generalize hG:grownCap w b.length 0 e=G at*
    have hrow:(bytesRow ⟨⟨b⟩⟩ G).toList=(b.map fun c=>Value.int .u8 c.toNat)++JL (G-b.length) (.int .u8 0):=by
     simp[bytesRow,qla]
    have hsize:(bytesRow ⟨⟨b⟩⟩ G).size=G:=by
     rw[<-KM,hrow];simp;omega
    rw[hsize]at hrun;have hcells:(byteCells b).length=b.length:=byteCells_length b;obtain⟨e1,e2⟩:=hr.drew.alloc k hk hφ (byteCells b) (bytesRow ⟨⟨b⟩⟩ G) e G (G+1) (by
     rw[hcells,hrow,List.take_append_of_le_length (by simp)];rw[Jq (by simp)];exact qfa fi b) (fun i h1 h2=>by rw[hsize];exact h1) (fun t ht=>by rw[hkt]at ht;cases ht)
    refine XK (v:= .slice (some ⟨w.heap.size,0,none⟩) b.length G) (w':=w.drew.alloc (.cells (bytesRow ⟨⟨b⟩⟩ G) e (G,G+1))) ?_ (hn _ _ _ e2 ?_)
    ·simp only[execOp,hx]
     exact Zh hrun
    ·simp only[VR]
     exact⟨k,_,G,⟨w.heap.size,0,none⟩,rfl,JM _ _ _,rfl,hcap,fun _=>⟨rfl,by simp[hsize]⟩⟩
   ·rename_i k o m c hx
    simp only[ZZ]at hc;split at he
    ·rename_i hc'
     simp only[qcL,Kw,beq_iff_eq]at hc';obtain⟨rfl,hc'⟩:=hc';split at hc<;>first|(cases hc;done)|skip
     rename_i e h1 h2
     rw[h1]at h2;cases h2
    ·exfalso
     simp only[pop,hx,qcA]at he;split at hc<;>first|(cases hc;done)|skip
     rename_i e h1 h2
     simp[h1,h2]at he;exact he.1
   ·rename_i hn1 hn2
    exfalso;unfold ZZ at hc;split at hc<;>first|(cases hc;done)|skip
    rename_i e h1 h2
    have he1:=he.1;simp only[pop]at he1;cases hx:ev s x with
    |str b=>exact hn1 b hx
    |_=>simp[hx,qcA,h1,h2,PR.no]at he1
  ·split at hk0<;>cases hk0
 case call c=>
  obtain⟨callee,args,ts⟩:=c;cases callee with
  |value f=>cases hk0
  |invoke r m=>cases hk0
  |builtin b=>cases b<;>cases hk0
section
variable {P:Program} {wz:World} {n:FrameK} {hZ:AHeap}
def qdG(P:Program)(wz:World)(hZ h:AHeap)(S:Slots)(op:Op)(V:AVal):Prop:=
 if Ya P op=2 then(pop P wz h S op).pre/\V=(pop P wz h S op).val
 else Ya P op=1/\V.okIn (fun k=>(hZ k).isSome)/\∀g,(∀k b,hZ k=some b->g k=some b)->eop P wz g S op (fun x h'=>x=V/\h'=g)
def ZL(P:Program)(wz:World)(ops:List Oper)(hZ:AHeap):List Oper->Slots->AHeap->(Slots->AHeap->Prop)->Prop
 |[],s,h,K=>K s h
 |o::rest,s,h,K=>
  if Ya P o.op=0 then o.guard=none/\eop P wz h (s.keep (QE ops o)) o.op (fun x h'=>ZL P wz ops hZ rest (putD s o.dst x) h' K)
  else match o.guard with
   |none=>∃V,qdG P wz hZ h (s.keep (QE ops o)) o.op V/\ZL P wz ops hZ rest (putD s o.dst V) h K
   |some (j,want)=>match qJ ops j with
    |none=>ZL P wz ops hZ rest (putD s o.dst (.tuple [])) h K
    |some d=>Wo (s.get d)=true/\∃V,(Xa (s.get d) want=true->qdG P wz hZ h (s.keep (QE ops o)) o.op V)/\ZL P wz ops hZ rest (putD s o.dst (Qw (Xa (s.get d) want) V)) h K
theorem qaA{ops:List Oper}{K K':Slots->AHeap->Prop}(hk:∀s h,K s h->K' s h):∀{l:List Oper} {s:Slots} {h:AHeap},ZL P wz ops hZ l s h K->ZL P wz ops hZ l s h K'
 |[],s,h,hv=>hk _ _ hv
 |o::rest,s,h,hv=>by
  simp only[ZL]at hv|-
  split
  ·rename_i h0
   rw[if_pos h0]at hv;exact⟨hv.1,qbL hv.2 fun x h' hx=>qaA hk hx⟩
  ·rename_i h0
   rw[if_neg h0]at hv;split
   ·rename_i hg
    rw[hg]at hv;obtain⟨V,h1,h2⟩:=hv;exact⟨V,h1,qaA hk h2⟩
   ·rename_i j want hg
    rw[hg]at hv;simp only at hv;split
    ·rename_i hj
     rw[hj]at hv;exact qaA hk hv
    ·rename_i d hj
     rw[hj]at hv;obtain⟨h1,V,h2,h3⟩:=hv;exact⟨h1,V,h2,qaA hk h3⟩
def gOf(hZ:AHeap)(N:Nat)(bl:List (Option Blk))(listed:Nat->Bool):AHeap:=fun k=>if N<=k then(bif listed (k-N)then bl.getD (k-N) none else none)else hZ k
def HH(wz:World)(hZ:AHeap)(N:Nat)(bl:List (Option Blk))(listed:Array Bool)(Ps:PMap)(w:World):Prop:=
 HRel wz Ps (gOf hZ N bl fun i=>listed.getD i false) w/\∀i,i<bl.length->listed.getD i false=false->Ps (N+i)=none
def HeadStep(P:Program)(wz:World)(n:FrameK)(hZ:AHeap)(l:List Oper)(N:Nat)(bl:List (Option Blk))(S:Slots)(i:Nat)(o:Oper)(V:AVal):Prop:=
 ∀(listed:Array Bool) (Ps:PMap) (w:World) (a:Act) (next:Act->World->Prop) (Q:Exit->Act->World->Prop),listed.getD i false=false->i<listed.size->HH wz hZ N bl listed Ps w->SRel Ps n (S.keep (QE l o)) a->
  (∀ψ' v w',Ps.le ψ'->HH wz hZ N bl (listed.setIfInBounds i true) ψ' w'->VR ψ' V v->next (a.put o.dst v) w')->
  if Region.wanted o (yielded l.toArray a.tmps)=true then o.wp P a w next Q else next (a.put o.dst undef) w
theorem qgB{Ps:PMap}{H g:AHeap}(hg:∀k b,H k=some b->(Ps k).isSome=true->g k=some b){l:Loc}(hl:∀k,l= .own k->(Ps k).isSome=true\/False):∀(n o:Nat),allLive (qf wz H l o n)=true->qf wz g l o n=qf wz H l o n
 |0,_,_=>rfl
 |n+1,o,ha=>by
  simp only[qf,allLive,Kw]at ha|-
  rw[qgB hg hl n (o+1) ha.2];congr 1;cases l with
  |base b=>rfl
  |own k=>
   have hs:=(hl k rfl).resolve_right id;have h1:=ha.1;simp only[rd]at h1|-
   cases hH:H k with
   |none=>simp[hH,JN]at h1
   |some b=>simp[hg k b hH hs]
theorem rd_up{Ps:PMap}{H g:AHeap}(hg:∀k b,H k=some b->(Ps k).isSome=true->g k=some b){l:Loc}(hl:∀k,l= .own k->(Ps k).isSome=true)(o:Nat)(ha:(rd wz H l o).live=true):rd wz g l o=rd wz H l o:=by
 have:=qgB (wz:=wz) hg (l:=l) (fun k e=> .inl (hl k e)) 1 o (by simp[qf,allLive,ha]);simpa[qf]using this
theorem qsU{Ps:PMap}{l:Loc}{o:Nat}{v:Value}(h:VR Ps (.ptr l o) v):∀k,l= .own k->(Ps k).isSome=true:=by
 rintro k rfl;have:=Ui _ _ h;simpa only[AVal.okIn]using this
theorem qdV{P:Program}{g H:AHeap}{b:Builtin}(hb:b≠ .len)(ts:Array TypeId)(xs:List AVal):YY P g b ts xs=YY P H b ts xs:=by
 unfold YY;generalize ts[0]?=q;cases b<;>first|exact absurd rfl hb|(rcases xs with _|⟨x,_|⟨y,xs⟩⟩<;>cases q<;>rfl)
theorem qgc{P:Program}{g H:AHeap}(ts:Array TypeId)(xs:List AVal)(h:∀t x,ts[0]?=some t->xs=[x]->Yn P g t x=Yn P H t x):YY P g .len ts xs=YY P H .len ts xs:=by
 unfold YY;generalize hq:ts[0]?=q at h;rcases xs with _|⟨x,_|⟨y,xs⟩⟩<;>cases q<;>first|rfl|exact h _ _ rfl rfl
theorem qsW{Ps:PMap}{H g:AHeap}{S:Slots}{a:Act}{op:Op}(hk:Ya P op=2)(hg:∀k b,H k=some b->(Ps k).isSome=true->g k=some b)(hs:SRel Ps n S a)(hp:(pop P wz H S op).pre):pop P wz g S op=pop P wz H S op:=by
 cases op<;>first
  |rfl
  |skip
 case load t x=>
  simp only[pop]at hp|-
  have hx:=hs.ev x;cases hv:ev S x with
  |ptr l o=>
   rw[hv]at hx hp;have hl:=qsU hx;simp only[YV]at hp|-
   split at hp
   ·rename_i h1 h2
    rw[qgB hg (fun k e=> .inl (hl k e)) _ _ hp]
   ·rename_i h1
    rw[rd_up hg hl _ hp]
   ·exact hp.elim
  |_=>rfl
 case convert src dst x=>
  simp only[pop]at hp|-
  have hx:=hs.ev x;cases hv:ev S x with
  |slice l o len c=>
   rw[hv]at hx hp;simp only[qcA]at hp|-
   split at hp<;>first|exact hp.elim|skip
   rename_i e h1 h2
   split at hp<;>first|exact hp.elim|skip
   rename_i h3
   by_cases hz:len=0
   ·subst hz;rfl
   ·have hl:∀k,l= .own k->(Ps k).isSome=true\/False:=by
     rintro k rfl;have:=Ui _ _ hx;simp only[AVal.okIn]at this;cases c with
     |exact c=>exact .inl (this (.inr hz))
     |grow es=>exact .inl this
    rw[qgB hg hl _ _ (UI hp)]
  |_=>rfl
 case lookup t x i ok=>
  simp only[pop]at hp|-
  have hx:=hs.ev x;cases hv:ev S x with
  |map k=>
   rw[hv]at hx hp;have hk2:(Ps k).isSome=true:=Ui _ _ hx;simp only[qac]at hp|-
   split at hp<;>first|exact hp.elim|skip
   split at hp<;>first|exact hp.elim|skip
   split at hp<;>first|exact hp.elim|skip
   rename_i c es hm
   rw[Ul (hg k _ (Wm hm) hk2)]
  |_=>rfl
 case call c=>
  obtain⟨callee,args,ts⟩:=c;cases callee with
  |builtin b=>
   have hvs:=hs.evs args.toList;have hp':(YY P H b ts (evs S args.toList)).pre:=hp;show YY P g b ts (evs S args.toList)=YY P H b ts (evs S args.toList)
   by_cases hb:b= .len
   ·subst hb
    refine qgc _ _ fun t x hq hxs=>?_;rw[hxs]at hvs hp';simp only[YY,hq]at hp';simp only[Yn]at hp'|-
    cases hmt:UK P t with
    |false=>rfl
    |true=>
     rw[hmt,cond_true]at hp';simp only[cond_true];simp only[VRs]at hvs;obtain⟨u,_,_,hx,_⟩:=hvs;cases x with
     |map k=>
      have hk2:(Ps k).isSome=true:=Ui _ _ hx;unfold qiN at hp'|-
      split at hp'<;>first|exact hp'.elim|rfl|skip
      rename_i k' _ e
      cases e;split at hp'<;>first|exact hp'.elim|skip
      rename_i c es hm
      rw[Ul (hg k _ (Wm hm) hk2)]
     |_=>
      unfold qiN;cases P.underlying t with
      |none=>rfl
      |some d=>cases d<;>rfl
   ·exact qdV hb _ _
  |_=>rfl
theorem gOf_set{hZ:AHeap}{N:Nat}{bl:List (Option Blk)}{i:Nat}{b:Blk}(hb:bl.getD i none=some b){listed:Array Bool}(hsz:i<listed.size):
 (gOf hZ N bl fun j=>listed.getD j false).set (N+i) b=gOf hZ N bl fun j=>(listed.setIfInBounds i true).getD j false:=by
 funext k;simp only[gOf,AHeap.set];by_cases e:k=N+i
 ·subst e
  rw[if_pos rfl,if_pos (by omega),show N+i-N=i by omega,set_self hsz,hb];rfl
 ·rw[if_neg e]
  by_cases hN:N<=k
  ·rw[if_pos hN,if_pos hN,Xy (by omega)]
  ·rw[if_neg hN,if_neg hN]
theorem gOf_none{hZ:AHeap}{N:Nat}{bl:List (Option Blk)}{i:Nat}(hb:bl.getD i none=none){listed:Array Bool}:
 (gOf hZ N bl fun j=>(listed.setIfInBounds i true).getD j false)=gOf hZ N bl fun j=>listed.getD j false:=by
 funext k;simp only[gOf];by_cases hN:N<=k
 ·rw[if_pos hN,if_pos hN]
  by_cases e:k-N=i
  ·rw[e,hb];simp
  ·rw[Xy e]
 ·rw[if_neg hN,if_neg hN]
theorem HH.quiet{N:Nat}{bl:List (Option Blk)}{i:Nat}(hb:bl.getD i none=none){listed:Array Bool}{Ps:PMap}{w:World}(h:HH wz hZ N bl listed Ps w):HH wz hZ N bl (listed.setIfInBounds i true) Ps w:=by
 refine⟨by rw[gOf_none hb];exact h.1,fun j hj hl=>h.2 j hj ?_⟩;by_cases e:j=i
 ·subst e
  cases hc:listed.getD j false with
  |false=>rfl
  |true=>
   have hsz:j<listed.size:=by
    refine JO fun hge=>?_;simp[JE,Nat.not_lt.2 hge]at hc
   rw[set_self hsz]at hl;cases hl
 ·rwa [Xy e]at hl
theorem HeadStep.of_step{l:List Oper}(hall:Xg n l=true){N:Nat}(hN:∀j,N<=j->hZ j=none){bl:List (Option Blk)}{H:AHeap}{i:Nat}(hH:∀k b,H k=some b->k<N/\hZ k=some b\/N<=k/\k-N<bl.length/\bl.getD (k-N) none=some b)(hb:bl.getD i none=none){S:Slots}{o:Oper}{V:AVal}
 (hstep:qdG P wz hZ H (S.keep (QE l o)) o.op V) {Ps:PMap} {w:World} {a:Act} {listed:Array Bool} {next:Act->World->Prop} {Q:Exit->Act->World->Prop} (hh:HH wz hZ N bl listed Ps w) (hs:SRel Ps n (S.keep (QE l o)) a)
 (hn:∀ψ' v w',Ps.le ψ'->HH wz hZ N bl (listed.setIfInBounds i true) ψ' w'->VR ψ' V v->next (a.put o.dst v) w'):o.wp P a w next Q:=by
 unfold qdG at hstep;split at hstep
 ·rename_i hk
  obtain⟨h1,h2⟩:=hstep;have hup:∀k b,H k=some b->(Ps k).isSome=true->(gOf hZ N bl fun j=>listed.getD j false) k=some b:=by
   intro k b hb' hs';simp only[gOf];rcases hH k b hb' with⟨c1,c2⟩|⟨c1,c2,c3⟩
   ·rw[if_neg (by omega)];exact c2
   ·rw[if_pos c1]
    cases hl:listed.getD (k-N) false with
    |true=>simpa using c3
    |false=>
     have:=hh.2 (k-N) c2 hl;rw[show N+(k-N)=k by omega]at this;rw[this]at hs';cases hs'
  have e:=qsW (P:=P) (wz:=wz) (n:=n) hk hup hs h1;obtain⟨r,e1,e2⟩:=qiK o (by rw[e];exact h1) hh.1 hs;rw[e,<-h2]at e2;exact XK (e1 w (JP w)) (hn Ps r w Ps.le_refl (hh.quiet hb) e2)
 ·obtain⟨_,hok,he⟩:=hstep
  have hsub:∀k b,hZ k=some b->(gOf hZ N bl fun j=>listed.getD j false) k=some b:=by
   intro k b hb';have hlt:k<N:=by
    refine JO fun hge=>?_;rw[hN k hge]at hb';cases hb'
   simp only[gOf];rw[if_neg (by omega)];exact hb'
  refine qhh o (he _ hsub) hh.1 hs fun ψ' x h' v w' h1 h2 h3 ⟨e1,e2⟩=>?_;subst e1 e2;have hle:Ps.le fun k=>if N<=k/\k-N<bl.length/\listed.getD (k-N) false=false then none else ψ' k:=by
   intro k p hp;simp only;rw[if_neg]
   ·exact h1 k p hp
   ·rintro⟨c1,c2,c3⟩
    have:=hh.2 (k-N) c2 c3;rw[show N+(k-N)=k by omega,hp]at this;cases this
  have hlt:(PMap.le (fun k=>if N<=k/\k-N<bl.length/\listed.getD (k-N) false=false then none else ψ' k) ψ'):=by
   intro k p hp;simp only at hp;split at hp
   ·cases hp
   ·exact hp
  have hsame:∀k,(Ps k).isSome=true->ψ' k=(fun k=>if N<=k/\k-N<bl.length/\listed.getD (k-N) false=false then none else ψ' k) k:=by
   intro k hk;obtain⟨p,hp⟩:=Option.isSome_iff_exists.1 hk;rw[hle k p hp,h1 k p hp]
  refine hn _ v w' hle (HH.quiet hb ⟨hh.1.limit h2 hlt hsame,fun j hj hl=>?_⟩) (qet (f:=fun k=>(hZ k).isSome) (fun k hk=>?_) _ _ hok h3)
  ·simp only
   rw[if_pos ⟨by omega,by rw[show N+j-N=j by omega];exact hj,by rw[show N+j-N=j by omega];exact hl⟩]
  ·have hlt:k<N:=by
    refine JO fun hge=>?_;simp[hN k hge]at hk
   rw[if_neg (by omega)]
theorem HeadStep.lay{l:List Oper}{N:Nat}{bl:List (Option Blk)}{i:Nat}(hil:i<bl.length){S:Slots}{o:Oper}{val:Nat->AVal}{b:Blk}(hb:bl.getD i none=some b)(hg:o.guard=none)
 (hlay:∀{w:World} {fi:PMap} {g:AHeap} {a:Act} {next:Act->World->Prop} {Q:Exit->Act->World->Prop},HRel wz fi g w->SRel fi n (S.keep (QE l o)) a->g (N+i)=none->fi (N+i)=none->
   (∀p v w',HRel wz (fi.upd (N+i) p) (g.set (N+i) b) w'->VR (fi.upd (N+i) p) (val (N+i)) v->next (a.put o.dst v) w')->o.wp P a w next Q):HeadStep P wz n hZ l N bl S i o (val (N+i)):=by
 intro listed Ps w a next Q hl hsz hh hs hn;have hw:Region.wanted o (yielded l.toArray a.tmps)=true:=by simp[Region.wanted,hg]
 rw[if_pos hw];have hφ:=hh.2 i hil hl;refine hlay hh.1 hs (by simp only[gOf];rw[if_pos (by omega),show N+i-N=i by omega,hl];rfl) hφ fun p v w' h1 h2=>?_;refine hn _ v w' (PMap.le_upd hφ p) ⟨by rw[<-gOf_set hb hsz];exact h1,fun j hj hl'=>?_⟩ h2;have e:j≠i:=fun e=>by subst e;rw[set_self hsz]at hl';cases hl'
 rw[Xy e]at hl';have:=hh.2 j hj hl';simp only[JK];rw[if_neg (by omega)];exact this
theorem HeadStep.one{l:List Oper}(hall:Xg n l=true){N:Nat}(hN:∀j,N<=j->hZ j=none){bl:List (Option Blk)}{H:AHeap}{i:Nat}(hH:∀k b,H k=some b->k<N/\hZ k=some b\/N<=k/\k-N<bl.length/\bl.getD (k-N) none=some b)(hb:bl.getD i none=none){S:Slots}{o:Oper}{V:AVal}(hg:o.guard=none)
 (hstep:qdG P wz hZ H (S.keep (QE l o)) o.op V):HeadStep P wz n hZ l N bl S i o V:=by
 intro listed Ps w a next Q _ _ hh hs hn;have hw:Region.wanted o (yielded l.toArray a.tmps)=true:=by simp[Region.wanted,hg]
 rw[if_pos hw];exact HeadStep.of_step hall hN hH hb hstep hh hs hn
theorem HeadStep.guarded{l:List Oper}(hall:Xg n l=true){N:Nat}(hN:∀j,N<=j->hZ j=none){bl:List (Option Blk)}{H:AHeap}{i:Nat}(hH:∀k b,H k=some b->k<N/\hZ k=some b\/N<=k/\k-N<bl.length/\bl.getD (k-N) none=some b)(hb:bl.getD i none=none){S:Slots}{o:Oper}{V:AVal}{j d:Nat}{want:Bool}(hg:o.guard=some (j,want))(hj:qJ l j=some d)(hk:Wo (S.get d)=true)
 (hstep:Xa (S.get d) want=true->qdG P wz hZ H (S.keep (QE l o)) o.op V):HeadStep P wz n hZ l N bl S i o (Qw (Xa (S.get d) want) V):=by
 intro listed Ps w a next Q _ _ hh hs hn;have hd:(S.keep (QE l o)).get d=S.get d:=by
  rw[JQ,if_pos];simp[QE,hg,hj]
 have hw:Region.wanted o (yielded l.toArray a.tmps)=Xa (S.get d) want:=by
  have:=qeb hs l j d hj (qbF l j d hall hj) (by rw[hd];exact hk) want;rw[hd]at this;simp only[Region.wanted,hg];exact this
 cases hb':Xa (S.get d) want with
 |true=>
  rw[hw,hb',if_pos rfl];rw[hb']at hn;exact HeadStep.of_step hall hN hH hb (hstep hb') hh hs hn
 |false=>
  rw[hw,hb',if_neg (by decide)];rw[hb']at hn;exact hn Ps undef w Ps.le_refl (hh.quiet hb) (Wi Ps)
theorem HeadStep.never{l:List Oper}{N:Nat}{bl:List (Option Blk)}{i:Nat}(hb:bl.getD i none=none){S:Slots}{o:Oper}{j:Nat}{want:Bool}(hg:o.guard=some (j,want))(hj:qJ l j=none):HeadStep P wz n hZ l N bl S i o (.tuple []):=by
 intro listed Ps w a next Q _ _ hh hs hn;have hd:(l.toArray[j]?).bind (·.dst)=none:=by rw[<-hj,Yf];simp
 have hw:Region.wanted o (yielded l.toArray a.tmps)=false:=by
  simp only[Region.wanted,hg,yielded,hd];rfl
 rw[if_neg (by rw[hw];decide)];exact hn Ps undef w Ps.le_refl (hh.quiet hb) (Wi Ps)
theorem gOf_at{N:Nat}(hN:∀j,N<=j->hZ j=none)(A B:List (Option Blk)):∀k b,(gOf hZ N A fun _=>true) k=some b->k<N/\hZ k=some b\/N<=k/\k-N<(A++B).length/\(A++B).getD (k-N) none=some b:=by
 intro k b h;simp only[gOf]at h;by_cases c:N<=k
 ·rw[if_pos c]at h
  simp only[cond_true]at h;right;have hlt:k-N<A.length:=by
   refine JO fun hge=>?_;simp[Kn,Kq hge]at h
  refine⟨c,by simp;omega,?_⟩;simpa[Kn,Ja,hlt]using h
 ·rw[if_neg c]at h
  exact .inl ⟨by omega,h⟩
theorem gOf_of{N:Nat}(hN:∀j,N<=j->hZ j=none){C:List (Option Blk)}{k:Nat}{b:Blk}(h:k<N/\hZ k=some b\/N<=k/\k-N<C.length/\C.getD (k-N) none=some b):(gOf hZ N C fun _=>true) k=some b:=by
 simp only[gOf,cond_true];rcases h with⟨c,e⟩|⟨c,_,e⟩
 ·rw[if_neg (by omega)];exact e
 ·rw[if_pos c];exact e
theorem gOf_push{N:Nat}(A:List (Option Blk))(b:Blk):(gOf hZ N A fun _=>true).set (N+A.length) b=gOf hZ N (A++[some b]) fun _=>true:=by
 funext k;simp only[gOf,AHeap.set,cond_true];by_cases e:k=N+A.length
 ·subst e
  rw[if_pos rfl,if_pos (by omega),show N+A.length-N=A.length by omega];simp[Kn]
 ·rw[if_neg e]
  by_cases c:N<=k
  ·rw[if_pos c,if_pos c]
   rcases KT (k-N) A.length with c2|c2
   ·simp[Kn,Ja,c2]
   ·have h1:A[k-N]?=none:=Kq c2
    have h2:(A++[some b])[k-N]?=none:=Kq (by simp;omega);simp[Kn,h1,h2]
  ·rw[if_neg c,if_neg c]
theorem qji{N:Nat}(A:List (Option Blk)):(gOf hZ N A fun _=>true)=gOf hZ N (A++[none]) fun _=>true:=by
 funext k;simp only[gOf,cond_true];by_cases c:N<=k
 ·rw[if_pos c,if_pos c]
  rcases Nat.lt_trichotomy (k-N) A.length with c2|c2|c2
  ·simp[Kn,Ja,c2]
  ·have h1:A[k-N]?=none:=Kq (by omega)
   simp[Kn,c2]
  ·have h1:A[k-N]?=none:=Kq (by omega)
   have h2:(A++[none])[k-N]?=none:=Kq (by simp;omega);simp[Kn,h1,h2]
 ·rw[if_neg c,if_neg c]
theorem qjm{l:List Oper}(hall:Xg n l=true){N:Nat}(hN:∀j,N<=j->hZ j=none)(hNt:∀i,i<l.length->Uf (N+i)=none)(tl:List Oper){s:Slots}{K:Slots->AHeap->Prop}:∀(rest pre:List Oper) (A:List AVal) (B:List (Option Blk)),l=pre++rest++tl->A.length=pre.length->B.length=pre.length->
 ZL P wz l hZ rest (Xh s l A pre.length) (gOf hZ N B fun _=>true) K->
 ∃A' B',A'.length=rest.length/\B'.length=rest.length/\
  (∀i o,pre.length<=i->i<pre.length+rest.length->l[i]?=some o->
    (B++B').length=pre.length+rest.length/\HeadStep P wz n hZ l N (B++B') (Xh s l (A++A') i) i o ((A++A').getD i .dead)/\(Ya P o.op=2->(B++B').getD i none=none/\(o.guard=none->∃H,(∀j b,H j=some b->(gOf hZ N (B++B') fun _=>true) j=some b)/\(pop P wz H ((Xh s l (A++A') i).keep (QE l o)) o.op).pre/\(A++A').getD i .dead=(pop P wz H ((Xh s l (A++A') i).keep (QE l o)) o.op).val)))/\
  K (Xh s l (A++A') (pre.length+rest.length)) (gOf hZ N (B++B') fun _=>true)
 |[],pre,A,B,hl,hA,hB,hv=>⟨[],[],rfl,rfl,fun i o h1 h2 _=>by simp at h2;omega,by simpa[ZL]using hv⟩
 |o::rest,pre,A,B,hl,hA,hB,hv=>by
  have hat:l[pre.length]?=some o:=by rw[hl];simp
  have hAt:∀V A',(A++V::A').getD pre.length .dead=V:=fun V A'=>by simp[Kn,<-hA]
  have hBt:∀b B',(B++b::B').getD pre.length none=b:=fun b B'=>by simp[Kn,<-hB]
  have hS:∀V,Xh s l (A++[V]) (pre++[o]).length=putD (Xh s l A pre.length) o.dst V:=fun V=>by
   rw[Jb,JR,Xh,hat];simp only;rw[UZ s l A [V] _ (by omega)];congr 1;simp[Kn,<-hA]
  have go:∀(V:AVal) (b:Option Blk),(∀(A':List AVal) (B':List (Option Blk)),(B++b::B').length=pre.length+(o::rest).length->HeadStep P wz n hZ l N (B++b::B') (Xh s l A pre.length) pre.length o V)->
   (Ya P o.op=2->b=none/\(o.guard=none->∃H,(∀B' j b',H j=some b'->(gOf hZ N (B++b::B') fun _=>true) j=some b')/\(pop P wz H ((Xh s l A pre.length).keep (QE l o)) o.op).pre/\V=(pop P wz H ((Xh s l A pre.length).keep (QE l o)) o.op).val))->
   ZL P wz l hZ rest (putD (Xh s l A pre.length) o.dst V) (gOf hZ N (B++[b]) fun _=>true) K->
   ∃A' B',A'.length=(o::rest).length/\B'.length=(o::rest).length/\
    (∀i o',pre.length<=i->i<pre.length+(o::rest).length->l[i]?=some o'->
      (B++B').length=pre.length+(o::rest).length/\HeadStep P wz n hZ l N (B++B') (Xh s l (A++A') i) i o' ((A++A').getD i .dead)/\(Ya P o'.op=2->(B++B').getD i none=none/\(o'.guard=none->∃H,(∀j b,H j=some b->(gOf hZ N (B++B') fun _=>true) j=some b)/\(pop P wz H ((Xh s l (A++A') i).keep (QE l o')) o'.op).pre/\(A++A').getD i .dead=(pop P wz H ((Xh s l (A++A') i).keep (QE l o')) o'.op).val)))/\
    K (Xh s l (A++A') (pre.length+(o::rest).length)) (gOf hZ N (B++B') fun _=>true):=by
   intro V b hst hpo hv';obtain⟨A',B',h1,h2,h3,h4⟩:=qjm hall hN hNt tl rest (pre++[o]) (A++[V]) (B++[b]) (by simp[hl]) (by simp[hA]) (by simp[hB]) (by rw[hS];exact hv');have hlen:(B++b::B').length=pre.length+(o::rest).length:=by simp[hB,h2]
   refine⟨V::A',b::B',by simp[h1],by simp[h2],fun i o' hi hi' ho'=>?_,?_⟩
   ·rcases JB hi with e'|e'
    ·subst e'
     rw[hat]at ho';obtain rfl:=Option.some.inj ho';rw[UZ s l A (V::A') _ (by omega),hAt];rw[hBt];exact⟨hlen,hst A' B' hlen,fun e=>⟨(hpo e).1,fun e'=>(hpo e).2 e' |>.elim fun H ⟨q0,q1⟩=>⟨H,q0 B',q1⟩⟩⟩
    ·have:=h3 i o' (by simp;omega) (by simp at hi'|-;omega) ho'
     refine⟨hlen,?_⟩;simpa using this.2
   ·have e:pre.length+(o::rest).length=(pre++[o]).length+rest.length:=by simp;omega
    rw[e];simpa using h4
  simp only[ZL]at hv;split at hv
  ·rename_i hk
   obtain⟨hg,he⟩:=hv;obtain⟨val,b,hc,hlay⟩:=lay_ok hk he;have hfree:(gOf hZ N B fun _=>true) (N+B.length)=none:=by
    simp only[gOf];rw[if_pos (by omega),show N+B.length-N=B.length by omega];simp[Kn]
   have hc':=hc (N+B.length) hfree;rw[gOf_push]at hc';refine go (val (N+B.length)) (some b) (fun A' B' hlen=>?_) (fun e=>by rw[hk]at e;cases e) hc';rw[hB];exact HeadStep.lay (by rw[hlen];simp) (hBt _ _) hg fun h1 h2 h3 h4 h5=>hlay (N+pre.length) o rfl h1 h2 h3 h4 (hNt _ (by rw[hl];simp)) h5
  ·rename_i hk
   have hH:=fun b B'=>gOf_at (hZ:=hZ) hN B (b::B');split at hv
   ·rename_i hg
    obtain⟨V,h1,h2⟩:=hv;rw[qji]at h2;refine go V none (fun A' B' _=>HeadStep.one hall hN (hH none B') (hBt _ _) hg h1) (fun e=>⟨rfl,fun _=>?_⟩) h2;unfold qdG at h1;rw[if_pos e]at h1;exact⟨_,fun B' j b' hb'=>gOf_of hN (hH none B' j b' hb'),h1⟩
   ·rename_i j want hg
    split at hv
    ·rename_i hj
     rw[qji]at hv;exact go _ none (fun A' B' _=>HeadStep.never (hBt _ _) hg hj) (fun _=>⟨rfl,fun e=>by rw[hg]at e;cases e⟩) hv
    ·rename_i d hj
     obtain⟨hk',V,h1,h2⟩:=hv;rw[qji]at h2;exact go _ none (fun A' B' _=>HeadStep.guarded hall hN (hH none B') (hBt _ _) hg hj hk' h1) (fun _=>⟨rfl,fun e=>by rw[hg]at e;cases e⟩) h2
def qgj(P:Program):Op->Bool
 | .load _ _=>false
 | .convert _ _ _=>false
 | .lookup _ _ _ _=>false
 | .call c=>match c.callee,c.argTypes[0]? with
   | .builtin .len,some t=> !UK P t
   |_,_=>true
 |_=>true
def isLoad:Op->Bool
 | .load _ _=>true
 |_=>false
def qci(l:List Oper)(ks:List Nat)(s:Slots):List Nat->Prop
 |[]=>True
 |i::r=>(match l[i]? with
   |some o=>(match o.op with
    | .load _ x=>(match ev s x with
      | .ptr (.own k) _=>k∈ks
      | .ptr (.base _) _=>True
      |_=>False)
    |_=>True)
   |none=>True)/\qci l ks s r
theorem qjb{l:List Oper}{ks:List Nat}{s:Slots}:∀{late:List Nat},qci l ks s late->∀i∈late,∀o t x,l[i]?=some o->o.op= .load t x->(∃k p,ev s x= .ptr (.own k) p/\k∈ks)\/∃b p,ev s x= .ptr (.base b) p
 |j::r,h,i,hi,o,t,x,ho,hop=>by
  simp only[qci]at h;rcases KW.1 hi with e|e
  ·subst e
   have h1:=h.1;simp only[ho,hop]at h1;split at h1
   ·rename_i k p hv;exact .inl ⟨k,p,hv,h1⟩
   ·rename_i b p hv;exact .inr ⟨b,p,hv⟩
   ·exact h1.elim
  ·exact qjb h.2 i e o t x ho hop
def qea(P:Program)(wz:World)(ks:List Nat):List Oper->Slots->AHeap->(Slots->AHeap->Prop)->Prop
 |[],s,h,K=>K s h
 |o::rest,s,h,K=>o.guard=none/\eop P wz h s o.op fun x h'=>(∀k∈ks,h' k=h k)/\qea P wz ks rest (putD s o.dst x) h' K
theorem qgg{ops:List Oper}{K:Slots->AHeap->Prop}:∀{l:List Oper} {s:Slots} {h:AHeap},(∀o∈l,o.guard=none)->QB P wz ops l s h K->qea P wz [] l s h K
 |[],_,_,_,ha=>ha
 |o::r,s,h,hg,ha=>by
  have h0:=hg o Je;simp only[QB,h0]at ha;exact⟨h0,qbL ha fun x h' hx=>⟨fun k hk=>(by cases hk),qgg (fun o ho=>hg o (Jf _ ho)) hx⟩⟩
theorem qkD{ks:List Nat}{K K':Slots->AHeap->Prop}(hk:∀s h,K s h->K' s h):∀{l:List Oper} {s:Slots} {h:AHeap},qea P wz ks l s h K->qea P wz ks l s h K'
 |[],_,_,ha=>hk _ _ ha
 |o::r,s,h,ha=>⟨ha.1,qbL ha.2 fun x h' hx=>⟨hx.1,qkD hk hx.2⟩⟩
theorem qrF{H g:AHeap}{S:Slots}{t:TypeId}{x:Operand}(hx:(∃k p,ev S x= .ptr (.own k) p/\∀b,H k=some b->g k=some b)\/∃b p,ev S x= .ptr (.base b) p)(hp:(pop P wz H S (.load t x)).pre):pop P wz g S (.load t x)=pop P wz H S (.load t x):=by
 simp only[pop]at hp|-
 rcases hx with⟨k,p,hv,hg⟩|⟨b,p,hv⟩
 ·rw[hv]at hp|-
  have up:∀(n o:Nat),allLive (qf wz H (.own k) o n)=true->qf wz g (.own k) o n=qf wz H (.own k) o n:=by
   intro n;induction n with
   |zero=>intro o _;rfl
   |succ n ih=>
    intro o ha;simp only[qf,allLive,Kw]at ha|-
    rw[ih (o+1) ha.2];congr 1;have h1:=ha.1;simp only[rd]at h1|-
    cases hH:H k with
    |none=>simp[hH,JN]at h1
    |some b=>simp[hg b hH]
  simp only[YV]at hp|-
  split at hp
  ·rw[up _ _ hp]
  ·have:=up 1 p (by simp only[qf,allLive,JS];exact hp)
   simp only[qf,List.cons.injEq,and_true]at this;rw[this]
  ·exact hp.elim
 ·rw[hv]at hp|-
  have same:∀(n o:Nat),qf wz g (.base b) o n=qf wz H (.base b) o n:=by
   intro n;induction n with
   |zero=>intro o;rfl
   |succ n ih=>intro o;simp only[qf];rw[ih];rfl
  simp only[YV,same];rfl
theorem qlv{g H:AHeap}{S:Slots}{op:Op}(h:qgj P op=true):pop P wz g S op=pop P wz H S op:=by
 cases op<;>first
  |rfl
  |(cases h;done)
  |skip
 case call c=>
  obtain⟨callee,args,ts⟩:=c;cases callee with
  |builtin b=>
   show YY P g b ts (evs S args.toList)=YY P H b ts (evs S args.toList)
   by_cases hb:b= .len
   ·subst hb
    refine qgc _ _ fun t x hq hxs=>?_;simp only[qgj,hq,Ji]at h;simp only[Yn,h,cond_false]
   ·exact qdV hb _ _
  |_=>rfl
def qhd(P:Program)(l:List Oper)(k:Nat)(late:List Nat):Bool:=
 WN l && decide (k<=l.length) && (late.all fun i=>decide (i<k)) &&
 ((KO k).all fun i=>if late.contains i then(match l[i]? with|some o=>o.guard.isNone && (qgj P o.op||isLoad o.op) && (Ya P o.op==2) && (KO k).all (fun j=>decide (j<=i)||match l[j]? with|some oj=>(match oj.dst with|some t=> !(QE l o).contains t|none=>true)|none=>true)|none=>true)
   else decide (k=l.length)||(KO (k+1)).any fun j=>decide (i<j) && !late.contains j && Region.waitsFor .any l.toArray j i) &&
 ((KO l.length).all fun t=>decide (t<k)||((match l[t]? with|some o=>o.guard.isNone|none=>true) && (decide (t=k)||Region.waitsFor .any l.toArray t (t-1))))
structure FloatS(P:Program)(l:List Oper)(k:Nat)(late:List Nat):Prop where
 order:WN l=true
 kle:k<=l.length
 latek:∀i,late.contains i=true->i<k
 lateo:∀i o,late.contains i=true->l[i]?=some o->o.guard=none/\(qgj P o.op=true\/isLoad o.op=true)/\Ya P o.op=2
 latew:∀i o,late.contains i=true->l[i]?=some o->∀j oj t,i<j->j<k->l[j]?=some oj->oj.dst=some t->t∉QE l o
 sink:∀i,i<k->late.contains i=false->k<l.length->∃j,i<j/\j<=k/\late.contains j=false/\Region.waitsFor .any l.toArray j i=true
 tailg:∀t o,k<=t->l[t]?=some o->o.guard=none
 chain:∀t,k<t->t<l.length->Region.waitsFor .any l.toArray t (t-1)=true
theorem qhO{l:List Oper}{k:Nat}{late:List Nat}(h:qhd P l k late=true):FloatS P l k late:=by
 unfold qhd at h;simp only[Kw,decide_eq_true_eq,JC,JD]at h;obtain⟨⟨⟨⟨h1,h2⟩,h3⟩,h4⟩,h5⟩:=h;have hlk:∀i,late.contains i=true->i<k:=fun i hi=>by
  have:=h3 i (by simpa using hi);simpa using this
 refine⟨h1,h2,hlk,fun i o hi ho=>?_,fun i o hi ho j oj t hij hjk hj hd=>?_,fun i hi hl hk=>?_,fun t o ht ho=>?_,fun t ht htl=>?_⟩
 ·have:=h4 i (hlk i hi)
  rw[if_pos hi,ho]at this;simp only[Kw,beq_iff_eq,JU,JV]at this;exact⟨this.1.1.1,this.1.1.2,this.1.2⟩
 ·have:=h4 i (hlk i hi)
  rw[if_pos hi,ho]at this;simp only[Kw,JC,JD]at this;have h6:=this.2 j hjk;rw[hj]at h6;simp only[hd,JV,decide_eq_true_eq,Ji]at h6;rcases h6 with e|e
  ·omega
  ·intro hm
   rw[<-JW]at hm;rw[hm]at e;cases e
 ·have:=h4 i hi
  rw[if_neg (by rw[hl];decide)]at this;simp only[JV,decide_eq_true_eq]at this;rcases this with e|e
  ·omega
  ·rw[JX]at e
   obtain⟨j,hj,e⟩:=e;simp only[Kw,decide_eq_true_eq,Ji]at e;rw[JD]at hj;exact⟨j,e.1.1,by omega,e.1.2,e.2⟩
 ·have hlt:=(JA.1 ho).1
  have:=h5 t hlt;rw[ho]at this;simp only[JV,decide_eq_true_eq,Kw,JU]at this;rcases this with e|e
  ·omega
  ·exact e.1
 ·have:=h5 t htl
  simp only[JV,decide_eq_true_eq,Kw]at this;rcases this with e|⟨_,e|e⟩
  ·omega
  ·omega
  ·exact e
structure InvF(l:List Oper)(k:Nat)(Vs:List AVal)(s:Slots)(Ps:PMap)(n:FrameK)(listed:Array Bool)(a:Act):Prop where
 size:listed.size=l.length
 closed:∀j oj,l[j]?=some oj->listed.getD j false=true->∀e∈oj.after,Region.binds .any e=true->listed.getD e.on false=true
 tsize:a.tmps.size=n
 defers:a.defers=n.dfr
 done:∀t j oj,j<k->l[j]?=some oj->oj.dst=some t->listed.getD j false=true->VR Ps (Vs.getD j .dead) (a.tmps.getD t undef)
 still:∀t,(∀j oj,l[j]?=some oj->oj.dst=some t->listed.getD j false=false)->VR Ps (s.get t) (a.tmps.getD t undef)
theorem Zz(a:Act){d:Option Tmp}{v:Value}{t:Nat}(hne:d≠some t):(a.put d v).tmps.getD t undef=a.tmps.getD t undef:=qmJ a d v hne
theorem Yr(a:Act){d:Option Tmp}{v:Value}{t:Nat}(hd:d=some t)(ht:t<a.tmps.size):(a.put d v).tmps.getD t undef=v:=by rw[hd];simp[Act.put,ht]
theorem UG(a:Act)(d:Option Tmp)(v:Value):(a.put d v).tmps.size=a.tmps.size:=by cases d<;>simp[Act.put]
theorem put_defers(a:Act)(d:Option Tmp)(v:Value):(a.put d v).defers=a.defers:=by cases d<;>simp[Act.put]
theorem InvF.looks{l:List Oper}{k:Nat}(hB:WN l=true){Vs:List AVal}{s:Slots}{Ps:PMap}{listed:Array Bool}{a:Act}(inv:InvF l k Vs s Ps n listed a){i:Nat}(hik:i<k){o:Oper}(hol:l[i]?=some o)(hif:listed.getD i false=false)
 (hedges:∀e∈o.after,Region.binds .any e=true->listed.getD e.on false=true):SRel Ps n ((Xh s l Vs i).keep (QE l o)) a:=by
 have hilt:i<l.length:=(JA.1 hol).1;have spec:=XC hB hol;refine⟨inv.tsize,inv.defers,fun t=>?_⟩;rw[JQ];by_cases ht:(QE l o).contains t=true
 ·rw[if_pos ht]
  have ht':t∈QE l o:=by simpa using ht
  by_cases hw:∃(j:Nat) (oj:Oper),l[j]?=some oj/\oj.dst=some t
  ·obtain⟨j,oj,hj,hd⟩:=hw
   rcases(spec.2 j oj t hj hd).2 ht' with⟨c1,c2⟩|⟨c1,c2⟩
   ·rw[Uh hB s Vs hj hd i c1 (by omega)]
    refine inv.done t j oj (by omega) hj hd ?_;obtain⟨oi,g1,e,g2,g3,g4⟩:=Region.waitsFor_spec c2;have g1':l[i]?=some oi:=by simpa using g1
    rw[hol]at g1';obtain rfl:=Option.some.inj g1';rw[<-g4];exact hedges e g2 g3
   ·rw[WL s Vs i fun j' oj' hj'' hj' hd'=>by
     have:=((XC hB hj').2 j oj t hj hd).1 hd';omega]
    refine inv.still t fun j' oj' hj' hd'=>?_;have e:=((XC hB hj').2 j oj t hj hd).1 hd';subst e;cases hl:listed.getD j' false with
    |false=>rfl
    |true=>
     exfalso;obtain⟨oi,g1,e,g2,g3,g4⟩:=Region.waitsFor_spec c2;have g1':l[j']?=some oi:=by simpa using g1
     have:=inv.closed j' oi g1' hl e g2 g3;rw[g4,hif]at this;cases this
  ·rw[WL s Vs i fun j oj _ hj hd=>hw ⟨j,oj,hj,hd⟩]
   exact inv.still t fun j oj hj hd=>absurd ⟨j,oj,hj,hd⟩ hw
 ·rw[if_neg ht]
  trivial
theorem InvF.next{l:List Oper}{k:Nat}(hall:Xg n l=true)(hB:WN l=true){Vs:List AVal}{s:Slots}{Ps ψ':PMap}(hle:Ps.le ψ'){listed:Array Bool}{a:Act}(inv:InvF l k Vs s Ps n listed a){i:Nat}{o:Oper}(hol:l[i]?=some o)
 (hedges:∀e∈o.after,Region.binds .any e=true->listed.getD e.on false=true) {v:Value} (hv:i<k->VR ψ' (Vs.getD i .dead) v):InvF l k Vs s ψ' n (listed.setIfInBounds i true) (a.put o.dst v):=by
 have hilt:i<l.length:=(JA.1 hol).1;have hisz:i<listed.size:=by rw[inv.size];exact hilt
 have spec:=XC hB hol;have hdn:∀d,o.dst=some d->d<n:=fun d hd=>qbF l i d hall (by rw[Yf,hol];exact hd);refine⟨by simp[inv.size],fun j oj hj hl e he hb=>?_,by rw[UG];exact inv.tsize,by rw[put_defers];exact inv.defers,fun t j oj hjk hj hd hl=>?_,fun t hun=>?_⟩
 ·by_cases e1:e.on=i
  ·rw[e1];exact set_self hisz
  ·rw[Xy e1]
   by_cases e2:j=i
   ·subst e2
    rw[hol]at hj;obtain rfl:=Option.some.inj hj;exact hedges e he hb
   ·rw[Xy e2]at hl
    exact inv.closed j oj hj hl e he hb
 ·by_cases e:j=i
  ·subst e
   rw[hol]at hj;obtain rfl:=Option.some.inj hj;rw[Yr a hd (by rw[inv.tsize];exact hdn t hd)];exact hv hjk
  ·rw[Xy e]at hl
   rw[Zz a fun hod=>e (((spec.2 j oj t hj hd).1 hod).symm)];exact Yj hle _ _ (inv.done t j oj hjk hj hd hl)
 ·have hne:o.dst≠some t:=fun hod=>by
   have:=hun i o hol hod;rw[set_self hisz]at this;cases this
  rw[Zz a hne];refine Yj hle _ _ (inv.still t fun j oj hj hd=>?_);have e:j≠i:=fun e=>by subst e;rw[hol]at hj;obtain rfl:=Option.some.inj hj;exact hne hd
  have:=hun j oj hj hd
  rwa [Xy e]at this
def qjY(P:Program)(wz:World)(l:List Oper)(k:Nat)(late ks:List Nat)(hf:AHeap)(Vs:List AVal)(K:Slots->AHeap->Prop)(listed:Array Bool)(Ps:PMap)(a:Act)(w:World):Prop:=
 ∃p S g,k<=p/\p<=l.length/\(∀t,k<=t->t<l.length->(listed.getD t false=true↔t<p))/\(∀i,i<k->late.contains i=false->listed.getD i false=true)/\HRel wz Ps g w/\qea P wz ks (l.drop p) S g K/\(∀j∈ks,g j=hf j)/\
  (∀i oi t,i<k->l[i]?=some oi->oi.dst=some t->S.get t=Vs.getD i .dead)/\
  ∀t,(∃i oi,i<k/\l[i]?=some oi/\oi.dst=some t/\listed.getD i false=false)\/VR Ps (S.get t) (a.tmps.getD t undef)
def qpr(wz:World)(hZ:AHeap)(l:List Oper)(k N:Nat)(bl:List (Option Blk))(listed:Array Bool)(Ps:PMap)(w:World):Prop:=
 (∀t,k<=t->t<l.length->listed.getD t false=false)/\HH wz hZ N bl listed Ps w
theorem qrM{l:List Oper}{k:Nat}{late:List Nat}(F:FloatS P l k late){Vs:List AVal}{s:Slots}{Ps:PMap}{listed:Array Bool}{a:Act}(inv:InvF l k Vs s Ps n listed a)(hkl:k<l.length)
 (hedges:∀o,l[k]?=some o->∀e∈o.after,Region.binds .any e=true->listed.getD e.on false=true):∀d i,i+d=k->i<k->late.contains i=false->listed.getD i false=true:=by
 intro d;induction d using Jv with
 |ind d ih=>
  intro i hd hik hl;obtain⟨j,h1,h2,h3,h4⟩:=F.sink i hik hl hkl;obtain⟨oj,g1,e,g2,g3,g4⟩:=Region.waitsFor_spec h4;have g1':l[j]?=some oj:=by simpa using g1
  rw[<-g4];rcases JB h2 with e'|e'
  ·subst e'
   exact hedges oj g1' e g2 g3
  ·exact inv.closed j oj g1' (ih (k-j) (by omega) j (by omega) e' h3) e g2 g3
theorem any_okF{l:List Oper}{k:Nat}{late ks:List Nat}(hall:Xg n l=true)(F:FloatS P l k late){s:Slots}{Vs:List AVal}{N:Nat}{bl:List (Option Blk)}(hbl:bl.length=k)
 (hst:∀i o,i<k->l[i]?=some o->HeadStep P wz n hZ l N bl (Xh s l Vs i) i o (Vs.getD i .dead))
 (hlb:∀i,late.contains i=true->bl.getD i none=none)
 (hlo:qci l ks (Xh s l Vs k) late)
 (hlate:∀i o,late.contains i=true->l[i]?=some o->∃H,(∀j b,H j=some b->(gOf hZ N bl fun _=>true) j=some b)/\(pop P wz H ((Xh s l Vs i).keep (QE l o)) o.op).pre/\Vs.getD i .dead=(pop P wz H ((Xh s l Vs i).keep (QE l o)) o.op).val)
 {K:Slots->AHeap->Prop} (hK:qea P wz ks (l.drop k) (Xh s l Vs k) (gOf hZ N bl fun _=>true) K) {fi:PMap} {Q:Exit->Act->World->Prop}
 (hq:∀Ps S g a w,fi.le Ps->HRel wz Ps g w->SRel Ps n S a->K S g->Q .normal a w):∀(fuel:Nat) (listed:Array Bool) (a:Act) (w:World) (Ps:PMap),fi.le Ps->InvF l k Vs s Ps n listed a->
 (qpr wz hZ l k N bl listed Ps w\/qjY P wz l k late ks (gOf hZ N bl fun _=>true) Vs K listed Ps a w)->(listed.toList.filter (!·)).length<=fuel->wpAny P .any l.toArray Q fuel listed a w:=by
 have hB:=F.order;have turn:∀(listed:Array Bool) (a:Act) (w:World) (Ps:PMap),InvF l k Vs s Ps n listed a->qpr wz hZ l k N bl listed Ps w->(∀i,i<k->late.contains i=false->listed.getD i false=true)->qjY P wz l k late ks (gOf hZ N bl fun _=>true) Vs K listed Ps a w:=by
  intro listed a w Ps inv ⟨h1,h2,h3⟩ hd;have hS:∀i oi t,i<k->l[i]?=some oi->oi.dst=some t->(Xh s l Vs k).get t=Vs.getD i .dead:=fun i oi t hi ho hdt=>Uh hB s Vs ho hdt k hi F.kle;refine⟨k,_,_,KJ _,F.kle,fun t ht htl=>?_,hd,?_,hK,fun _ _=>rfl,hS,fun t=>?_⟩
  ·rw[h1 t ht htl]
   simp;omega
  ·have e:(gOf hZ N bl fun i=>listed.getD i false)=gOf hZ N bl fun _=>true:=by
    funext j;simp only[gOf,cond_true];by_cases c:N<=j
    ·rw[if_pos c,if_pos c]
     cases hl:listed.getD (j-N) false with
     |true=>rfl
     |false=>
      simp only[cond_false];cases hc:late.contains (j-N)with
      |true=>exact(hlb _ hc).symm
      |false=>
       by_cases c2:j-N<k
       ·rw[hd _ c2 hc]at hl;cases hl
       ·have:bl[j-N]?=none:=Kq (by omega)
        simp[Kn,this]
    ·rw[if_neg c,if_neg c]
   rw[<-e];exact h2
  ·by_cases hw:∃i oi,i<k/\l[i]?=some oi/\oi.dst=some t
   ·obtain⟨i,oi,c1,c2,c3⟩:=hw
    cases hl:listed.getD i false with
    |false=>exact .inl ⟨i,oi,c1,c2,c3,hl⟩
    |true=>
     right;rw[hS i oi t c1 c2 c3];exact inv.done t i oi c1 c2 c3 hl
   ·right
    rw[WL s Vs k fun j oj hj ho hd'=>hw ⟨j,oj,hj,ho,hd'⟩];refine inv.still t fun j oj ho hd'=>?_;rcases KT j k with c|c
    ·exact absurd ⟨j,oj,c,ho,hd'⟩ hw
    ·exact h1 j c (JA.1 ho).1
 have fin:∀(listed:Array Bool) (a:Act) (w:World) (Ps:PMap),fi.le Ps->InvF l k Vs s Ps n listed a->(qpr wz hZ l k N bl listed Ps w\/qjY P wz l k late ks (gOf hZ N bl fun _=>true) Vs K listed Ps a w)->Region.ready .any l.toArray listed=[]->Q .normal a w:=by
  intro listed a w Ps hle inv hph hrd;have hal:=qaE hB inv.size hrd;have hT:qjY P wz l k late ks (gOf hZ N bl fun _=>true) Vs K listed Ps a w:=by
   rcases hph with hph|hph
   ·exact turn listed a w Ps inv hph fun i hi _=>hal i (by have:=F.kle;omega)
   ·exact hph
  obtain⟨p,S,g,h1,h2,h3,h4,h5,h6,_,h7,h8⟩:=hT;have hp:p=l.length:=by
   rcases JB h2 with e|e
   ·exact e
   ·have:=(h3 p h1 e).1 (hal p e)
    omega
  subst hp;rw[JY]at h6;refine hq Ps S g a w hle h5 ⟨inv.tsize,inv.defers,fun t=>?_⟩ h6;rcases h8 t with⟨i,oi,c1,c2,_,c4⟩|c
  ·rw[hal i (JA.1 c2).1]at c4;cases c4
  ·exact c
 intro fuel;induction fuel with
 |zero=>
  intro listed a w Ps hle inv hph hc;have hrd:Region.ready .any l.toArray listed=[]:=by
   cases hrd:Region.ready .any l.toArray listed with
   |nil=>rfl
   |cons i r=>
    exfalso;have hm:i∈Region.ready .any l.toArray listed:=by rw[hrd];exact Je
    obtain⟨h1,o,ho,_⟩:=mem_ready.1 hm;have hi:i<listed.size:=by
     have:l[i]?=some o:=by simpa using ho
     rw[inv.size];exact(JA.1 this).1
    have h2:listed.toList[i]?=some false:=by
     simp[JE,hi]at h1;simp[hi,h1]
    have:=JZ h2;have hmem:false∈listed.toList.filter (!·):=by simp[J2,this]
    have:=J3 hmem;omega
  exact⟨hrd,fin listed a w Ps hle inv hph hrd⟩
 |succ fuel ih=>
  intro listed a w Ps hle inv hph hc;refine⟨fun hrd=>fin listed a w Ps hle inv hph hrd,fun i hi=>?_⟩;obtain⟨h1,o,ho,hedges⟩:=mem_ready.1 hi;have hol:l[i]?=some o:=by simpa using ho
  have hilt:i<l.length:=(JA.1 hol).1;have hisz:i<listed.size:=by rw[inv.size];exact hilt
  have hif:listed.getD i false=false:=by simp[JE,hisz]at h1|-;exact h1
  have hcount:((listed.setIfInBounds i true).toList.filter (!·)).length<=fuel:=by
   have h2:listed.toList[i]?=some false:=by
    simp[JE,hisz]at h1;simp[hisz,h1]
   have:=qaB listed.toList i h2;have e:(listed.setIfInBounds i true).toList=listed.toList.set i true:=by simp
   rw[e];omega
  have goal:(if Region.wanted o (yielded l.toArray a.tmps)=true then o.wp P a w (wpAny P .any l.toArray Q fuel (listed.setIfInBounds i true)) Q else wpAny P .any l.toArray Q fuel (listed.setIfInBounds i true) (a.put o.dst undef) w):=by
   have tailstep:∀(hT:qjY P wz l k late ks (gOf hZ N bl fun _=>true) Vs K listed Ps a w),k<=i->(if Region.wanted o (yielded l.toArray a.tmps)=true then o.wp P a w (wpAny P .any l.toArray Q fuel (listed.setIfInBounds i true)) Q else wpAny P .any l.toArray Q fuel (listed.setIfInBounds i true) (a.put o.dst undef) w):=by
    rintro⟨p,S,g,t1,t2,t3,t4,t5,t6,tk,t7,t8⟩ hki;have hg:=F.tailg i o hki hol;have hw:Region.wanted o (yielded l.toArray a.tmps)=true:=by simp[Region.wanted,hg]
    rw[if_pos hw];have hpi:p<=i:=by
     refine Kr fun hlt=>?_;rw[(t3 i hki hilt).2 hlt]at hif;cases hif
    have hip:i=p:=by
     rcases JB hpi with e|e
     ·exact e.symm
     ·exfalso
      have hch:=F.chain i (by omega) hilt;obtain⟨oi,g1,e',g2,g3,g4⟩:=Region.waitsFor_spec hch;have g1':l[i]?=some oi:=by simpa using g1
      rw[hol]at g1';obtain rfl:=Option.some.inj g1';have h5:=hedges e' g2 g3;rw[g4]at h5;have:=(t3 (i-1) (by omega) (by omega)).1 h5;omega
    subst hip;have hdrop:l.drop i=o::l.drop (i+1):=by
     rw[J4 hilt];congr 1;exact(JA.1 hol).2
    rw[hdrop]at t6;have t6:=t6.2;have spec:=XC hB hol;have hlook:∀t,t∈QE l o->VR Ps (S.get t) (a.tmps.getD t undef):=by
     intro t ht;rcases t8 t with⟨j,oj,c1,c2,c3,c4⟩|c
     ·exfalso
      rcases(spec.2 j oj t c2 c3).2 ht with⟨d1,d2⟩|⟨d1,d2⟩
      ·obtain⟨oi,g1,e',g2,g3,g4⟩:=Region.waitsFor_spec d2
       have g1':l[i]?=some oi:=by simpa using g1
       rw[hol]at g1';obtain rfl:=Option.some.inj g1';have:=hedges e' g2 g3;rw[g4,c4]at this;cases this
      ·omega
     ·exact c
    have hs:SRel Ps n (S.keep (QE l o)) a:=by
     refine⟨inv.tsize,inv.defers,fun t=>?_⟩;rw[JQ];by_cases ht:(QE l o).contains t=true
     ·rw[if_pos ht];exact hlook t (by simpa using ht)
     ·rw[if_neg ht];trivial
    have t6':=t6;rw[<-qcK (s':=S.keep (QE l o)) o.op (qej fun t ht=>by unfold QE;exact J5 _ ht)]at t6';refine qhh o t6' t5 hs fun ψ' x h' v w' e1 e2 e3 ⟨ek,e4⟩=>?_;refine ih _ _ _ ψ' (J6 hle e1) (inv.next hall hB e1 hol hedges fun hik=>absurd hik (by omega)) (.inr ⟨i+1,_,h',by omega,by omega,fun t ht htl=>?_,fun j hj hl=>?_,e2,e4,fun j hj=>(ek j hj).trans (tk j hj),fun j oj t hj hoj hd=>?_,fun t=>?_⟩) hcount
    ·by_cases e:t=i
     ·subst e
      rw[set_self hisz];simp
     ·rw[Xy e,t3 t ht htl]
      omega
    ·rw[Xy (by omega)]
     exact t4 j hj hl
    ·rw[XG,if_neg fun hod=>by have:=(spec.2 j oj t hoj hd).1 hod;omega]
     exact t7 j oj t hj hoj hd
    ·by_cases hod:o.dst=some t
     ·right
      rw[XG,if_pos hod,Yr a hod (by rw[inv.tsize];exact qbF l i t hall (by rw[Yf,hol];exact hod))];exact e3
     ·rcases t8 t with⟨j,oj,c1,c2,c3,c4⟩|c
      ·exact .inl ⟨j,oj,c1,c2,c3,by rw[Xy (by omega)];exact c4⟩
      ·right
       rw[XG,if_neg hod,Zz a hod];exact Yj e1 _ _ c
   rcases hph with hH|hT
   ·rcases KT i k with hik|hki
    ·
     refine hst i o hik hol listed Ps w a _ Q hif hisz hH.2 (inv.looks hB hik hol hif hedges) fun ψ' v w' hle' hh' hv=>?_;exact ih _ _ _ ψ' (J6 hle hle') (inv.next hall hB hle' hol hedges fun _=>hv) (.inl ⟨fun t ht htl=>by rw[Xy (by omega)];exact hH.1 t ht htl,hh'⟩) hcount
    ·have hik:i=k:=by
      rcases JB hki with e|e
      ·exact e.symm
      ·exfalso
       have hch:=F.chain i e hilt;obtain⟨oi,g1,e',g2,g3,g4⟩:=Region.waitsFor_spec hch;have g1':l[i]?=some oi:=by simpa using g1
       rw[hol]at g1';obtain rfl:=Option.some.inj g1';have h5:=hedges e' g2 g3;rw[g4,hH.1 (i-1) (by omega) (by omega)]at h5;cases h5
     refine tailstep (turn listed a w Ps inv hH fun j hj hl=>?_) hki;exact qrM F inv (by omega) (fun o' ho'=>by
      subst hik;rw[hol]at ho';obtain rfl:=Option.some.inj ho';exact hedges) (k-j) j (by omega) hj hl
   ·rcases KT i k with hik|hki
    ·
     obtain⟨p,S,g,t1,t2,t3,t4,t5,t6,tk,t7,t8⟩:=hT;have hlt:late.contains i=true:=by
      cases hc:late.contains i with
      |true=>rfl
      |false=>rw[t4 i hik hc]at hif;cases hif
     obtain⟨hg,hhl,hkf⟩:=F.lateo i o hlt hol;have hw:Region.wanted o (yielded l.toArray a.tmps)=true:=by simp[Region.wanted,hg]
     rw[if_pos hw];obtain⟨H,q0,q1,q2⟩:=hlate i o hlt hol;have hs:=inv.looks hB hik hol hif hedges;have same:pop P wz g ((Xh s l Vs i).keep (QE l o)) o.op=pop P wz H ((Xh s l Vs i).keep (QE l o)) o.op:=by
      rcases hhl with hhl|hhl
      ·exact qlv hhl
      ·cases hop:o.op with
       |load ty x=>
        rw[hop]at q1;refine qrF ?_ q1;have hev:ev ((Xh s l Vs i).keep (QE l o)) x=ev (Xh s l Vs k) x:=by
         rw[Zu (XA (by rw[hop];simp[Op.operands]))];cases x with
         |tmp t=>
          have htl:t∈QE l o:=XA (x:= .tmp t) (by rw[hop];simp[Op.operands]) t rfl;simp only[ev];have noW:∀m,i<=m->m<=k->(Xh s l Vs m).get t=(Xh s l Vs i).get t:=by
           intro m;induction m with
           |zero=>intro h1 _;rw[Nat.le_zero.1 h1]
           |succ m ihm=>
            intro h1 h2;rcases JB h1 with e|e
            ·rw[e]
            ·rw[Xh]
             cases hm:l[m]? with
             |none=>exact ihm (by omega) (by omega)
             |some om=>
              simp only;rw[XG,if_neg fun hd=>?_]
              ·exact ihm (by omega) (by omega)
              ·rcases JB (show i<=m by omega)with e'|e'
               ·subst e'
                rw[hol]at hm;obtain rfl:=Option.some.inj hm;rcases((XC hB hol).2 i o t hol hd).2 htl with⟨c,_⟩|⟨c,_⟩<;>omega
               ·exact F.latew i o hlt hol m om t e' (by omega) hm hd htl
          exact(noW k (by omega) (KJ _)).symm
         |_=>rfl
        rcases qjb hlo i (by simpa using hlt) o ty x hol hop with⟨j,pp,c1,c2⟩|⟨b,pp,c1⟩
        ·exact .inl ⟨j,pp,by rw[hev];exact c1,fun b hb=>by rw[tk j c2];exact q0 j b hb⟩
        ·exact .inr ⟨b,pp,by rw[hev];exact c1⟩
       |_=>rw[hop]at hhl;cases hhl
     rw[<-same]at q1 q2;obtain⟨r,e1,e2⟩:=qiK o q1 t5 hs;rw[<-q2]at e2;refine XK (e1 w (JP w)) ?_;refine ih _ _ _ Ps hle (inv.next hall hB Ps.le_refl hol hedges fun _=>e2) (.inr ⟨p,S,g,t1,t2,fun t ht htl=>?_,fun j hj hl=>?_,t5,t6,tk,t7,fun t=>?_⟩) hcount
     ·rw[Xy (by omega)];exact t3 t ht htl
     ·by_cases e:j=i
      ·subst e;exact set_self hisz
      ·rw[Xy e];exact t4 j hj hl
     ·by_cases hod:o.dst=some t
      ·right
       rw[t7 i o t hik hol hod,Yr a hod (by rw[inv.tsize];exact qbF l i t hall (by rw[Yf,hol];exact hod))];exact e2
      ·rcases t8 t with⟨j,oj,c1,c2,c3,c4⟩|c
       ·refine .inl ⟨j,oj,c1,c2,c3,?_⟩
        have e:j≠i:=fun e=>by subst e;rw[hol]at c2;obtain rfl:=Option.some.inj c2;exact hod c3
        rw[Xy e];exact c4
       ·right
        rw[Zz a hod];exact c
    ·exact tailstep hT hki
  simp only[wpOp,ho];split
  ·rename_i hw
   rw[if_pos hw]at goal;exact .inl goal
  ·rename_i hw
   rw[if_neg hw]at goal;exact goal
theorem qjK{Q:Exit->Slots->AHeap->Prop}{s:Slots}{h:AHeap}{id:Nat}{l:List Oper}(k:Nat)(late ks:List Nat)(hm:P.follows .mixedOrders=true)(hB:qhd P l k late=true)(hd:Xg n l=true)
 (hc:ZL P wz l h (l.take k) s h (fun s' h'=>qci l ks s' late/\qea P wz ks (l.drop k) s' h' fun s'' h''=>Q .normal s'' h'')):Awp P wz n (.region id l.toArray true) Q s h:=by
 refine J7 ?_;intro fi a w hr hs;have F:=qhO hB;obtain⟨N₀,hN₀⟩:=hr.fin;obtain⟨N,hN1,hNt⟩:=qmw N₀ l.length;have hNφ:∀j,N<=j->fi j=none:=fun j hj=>hN₀ j (Nat.le_trans hN1 hj);have hN:∀j,N<=j->h j=none:=fun j hj=>hr.free (hNφ j hj);have hg0:gOf h N [] (fun _=>true)=h:=by
  funext j;simp only[gOf,cond_true];by_cases c:N<=j
  ·rw[if_pos c,hN j c];rfl
  ·rw[if_neg c]
 have htl:(l.take k).length=k:=by have:=F.kle;simp;omega
 obtain⟨Vs,bl,g1,g2,g3,g4⟩:=qjm (P:=P) (wz:=wz) (n:=n) (hZ:=h) hd hN hNt (l.drop k) (s:=s) (l.take k) [] [] [] (by simp) rfl rfl (by rw[hg0];exact hc);simp only[Jd,J8,Js,true_implies,Jr,htl]at g1 g2 g3 g4;refine wp_region_any hm ?_;have hf:∀j,(Jw l.toArray.size false).getD j false=false:=fun j=>by simp[JE]
 refine any_okF (fi:=fi) hd F (s:=s) (Vs:=Vs) (N:=N) (bl:=bl) g2 (fun i o hi ho=>(g3 i o hi ho).2.1) (fun i hl=>?_) g4.1 (fun i o hl ho=>?_) g4.2 (fun Ps S g a' w' hle h1 h2 h3=>⟨Ps,S,g,hle,h1,h2,h3⟩) _ _ _ _ fi fi.le_refl
  ⟨by simp,fun j oj _ hl=>(by rw[hf]at hl;cases hl),hs.size,hs.defers,fun t j oj _ _ _ hl=>(by rw[hf]at hl;cases hl),fun t _=>hs.val t⟩ (.inl ⟨fun t _ _=>hf t,?_,fun i hi _=>hNφ _ (by omega)⟩) ?_
 ·obtain⟨o,ho⟩:∃o,l[i]?=some o:=⟨_,Jz (by have:=F.latek i hl;have:=F.kle;omega)⟩
  obtain⟨_,_,q3⟩:=F.lateo i o hl ho;exact((g3 i o (F.latek i hl) ho).2.2 q3).1
 ·obtain⟨q1,q2,q3⟩:=F.lateo i o hl ho
  exact((g3 i o (F.latek i hl) ho).2.2 q3).2 q1
 ·have e:(gOf h N bl fun i=>(Jw l.toArray.size false).getD i false)=h:=by
   funext j;simp only[gOf,hf,cond_false];by_cases c:N<=j
   ·rw[if_pos c,hN j c]
   ·rw[if_neg c]
  rw[e];exact hr.drew
 ·have:=J9 (!·) (Jw l.toArray.size false).toList
  simpa using this
theorem qfD{Q:Exit->Slots->AHeap->Prop}{s:Slots}{h:AHeap}{id:Nat}{l:List Oper}{y:Code}(k:Nat)(late ks L:List Nat)(hm:P.follows .mixedOrders=true)(hB:qhd P l k late=true)(hd:Xg n l=true)
 (hc:∀K:Slots->AHeap->Prop,(∀s h,Awp P wz n y Q s h->K s h)->ZL P wz l h (l.take k) s h (fun s' h'=>qci l ks s' late/\qea P wz ks (l.drop k) s' h' fun s'' h''=>K (s''.keep L) h'')):Awp P wz n (.seq (.region id l.toArray true) y) Q s h:=
 qL (qjK k late ks hm hB hd (qaA (fun _ _ ha=>⟨ha.1,qkD (fun _ _ hk=>Va L hk) ha.2⟩) (hc (fun s h=>Awp P wz n y Q s h) (fun _ _ hk=>hk))))
def qeK(l:List Oper)(late:List Nat):Bool:=late.all fun i=>match l[i]? with|some o=> !isLoad o.op|none=>true
theorem qdz{l:List Oper}{s:Slots}:∀{late:List Nat},qeK l late=true->qci l [] s late
 |[],_=>trivial
 |i::r,h=>by
  unfold qeK at h;simp only[List.all_cons,Kw]at h;refine⟨?_,qdz h.2⟩;cases hi:l[i]? with
  |none=>trivial
  |some o=>
   simp only;have h1:=h.1;rw[hi]at h1;simp only[Ji]at h1;cases hop:o.op<;>first|trivial|(rw[hop]at h1;cases h1)
theorem qds{Q:Exit->Slots->AHeap->Prop}{s:Slots}{h:AHeap}{id:Nat}{l:List Oper}(k:Nat)(late:List Nat)(hm:P.follows .mixedOrders=true)(hB:(qhd P l k late && qeK l late)=true)(hd:Xg n l=true)
 (hc:ZL P wz l h (l.take k) s h (fun s' h'=>QB P wz l (l.drop k) s' h' fun s'' h''=>Q .normal s'' h'')):Awp P wz n (.region id l.toArray true) Q s h:=by
 rw[Kw]at hB;have F:=qhO hB.1;refine qjK k late [] hm hB.1 hd (qaA (fun s' h' ha=>⟨qdz hB.2,qgg (fun o ho=>?_) ha⟩) hc);obtain⟨j,hj⟩:=List.getElem?_of_mem ho;rw[Ko]at hj;exact F.tailg (k+j) o (by omega) hj
theorem YM{Q:Exit->Slots->AHeap->Prop}{s:Slots}{h:AHeap}{id:Nat}{l:List Oper}{y:Code}(k:Nat)(late L:List Nat)(hm:P.follows .mixedOrders=true)(hB:(qhd P l k late && qeK l late)=true)(hd:Xg n l=true)
 (hc:∀K:Slots->AHeap->Prop,(∀s h,Awp P wz n y Q s h->K s h)->ZL P wz l h (l.take k) s h (fun s' h'=>QB P wz l (l.drop k) s' h' fun s'' h''=>K (s''.keep L) h'')):Awp P wz n (.seq (.region id l.toArray true) y) Q s h:=
 qL (qds k late hm hB hd (qaA (fun _ _ ha=>awp_rseq.aOps_mono (fun _ _ hk=>Va L hk) ha) (hc (fun s h=>Awp P wz n y Q s h) (fun _ _ hk=>hk))))
end
end Go.AM
namespace Go.AM
open Go.RowKit (Below)
section
variable {P:Program} {wz:World} {ops rest:List Oper} {s:Slots} {h hZ:AHeap} {K:Slots->AHeap->Prop} {dst:Option Tmp} {ty:TypeId} {pos:String} {af:Array Edge}
theorem Yl:ZL P wz ops hZ [] s h K=K s h:=rfl
theorem qdA{op:Op}(hk:Ya P op=2):ZL P wz ops hZ (⟨dst,op,ty,pos,af,none⟩::rest) s h K=((pop P wz h s op).pre/\ZL P wz ops hZ rest (putD s dst (pop P wz h s op).val) h K):=by
 have e:pop P wz h (s.keep (QE ops ⟨dst,op,ty,pos,af,none⟩)) op=pop P wz h s op:=qeF op (qej fun t ht=>by unfold QE;exact J5 _ ht);have h0:¬Ya P op=0:=by omega
 simp only[ZL,if_neg h0,qdG,if_pos hk,e];exact propext ⟨fun⟨V,⟨h1,h2⟩,h3⟩=>⟨h1,h2 ▸ h3⟩,fun⟨h1,h2⟩=>⟨_,⟨h1,rfl⟩,h2⟩⟩
def fgP(P:Program)(wz:World)(ops rest:List Oper)(hZ:AHeap)(s:Slots)(h:AHeap)(K:Slots->AHeap->Prop)(dst:Option Tmp)(g:AVal)(want:Bool)(r:PR):Prop:=
 Wo g=true/\(Xa g want=true->r.pre)/\ZL P wz ops hZ rest (putD s dst (Qw (Xa g want) r.val)) h K
def fgQ(P:Program)(wz:World)(ops rest:List Oper)(hZ:AHeap)(s:Slots)(h:AHeap)(K:Slots->AHeap->Prop)(dst:Option Tmp)(want:Bool)(r:PR):Option Tmp->Prop
 |none=>ZL P wz ops hZ rest (putD s dst (.tuple [])) h K
 |some d=>fgP P wz ops rest hZ s h K dst (s.get d) want r
theorem fgQ_some{want:Bool}{r:PR}{d:Tmp}:fgQ P wz ops rest hZ s h K dst want r (some d)=fgP P wz ops rest hZ s h K dst (s.get d) want r:=rfl
theorem fg_of{op:Op}{j:Nat}{want:Bool}(hk:Ya P op=2):ZL P wz ops hZ (⟨dst,op,ty,pos,af,some (j,want)⟩::rest) s h K=fgQ P wz ops rest hZ s h K dst want (pop P wz h s op) (qJ ops j):=by
 have e:pop P wz h (s.keep (QE ops ⟨dst,op,ty,pos,af,some (j,want)⟩)) op=pop P wz h s op:=qeF op (qej fun t ht=>by unfold QE;exact J5 _ ht);have h0:¬Ya P op=0:=by omega
 simp only[ZL,if_neg h0];cases qJ ops j with
 |none=>rfl
 |some d=>
  simp only[fgQ,fgP,qdG,if_pos hk,e];refine propext ⟨fun⟨g0,V,g1,g2⟩=>?_,fun⟨g0,g1,g2⟩=>⟨g0,_,fun hg=>⟨g1 hg,rfl⟩,g2⟩⟩;cases hg:Xa (s.get d) want with
  |false=>
   rw[hg]at g2;exact⟨g0,fun e=>(by cases e),g2⟩
  |true=>
   obtain⟨c1,c2⟩:=g1 hg;subst c2;rw[hg]at g2;exact⟨g0,fun _=>c1,g2⟩
theorem XD(x:Operand):ZL P wz ops hZ (⟨dst, .move x,ty,pos,af,none⟩::rest) s h K=((pop P wz h s (.move x)).pre/\ZL P wz ops hZ rest (putD s dst (pop P wz h s (.move x)).val) h K):=qdA (by rfl)
theorem fg_move(x:Operand){j:Nat}{want:Bool}:ZL P wz ops hZ (⟨dst, .move x,ty,pos,af,some (j,want)⟩::rest) s h K=fgQ P wz ops rest hZ s h K dst want (pop P wz h s (.move x)) (qJ ops j):=fg_of (by rfl)
theorem qay(x:Operand):ZL P wz ops hZ (⟨dst, .assign x,ty,pos,af,none⟩::rest) s h K=((pop P wz h s (.assign x)).pre/\ZL P wz ops hZ rest (putD s dst (pop P wz h s (.assign x)).val) h K):=qdA (by rfl)
theorem fp_pick(c a b:Operand):ZL P wz ops hZ (⟨dst, .pick c a b,ty,pos,af,none⟩::rest) s h K=((pop P wz h s (.pick c a b)).pre/\ZL P wz ops hZ rest (putD s dst (pop P wz h s (.pick c a b)).val) h K):=qdA (by rfl)
theorem qec(o:BinOp)(t:TypeId)(x y:Operand)(u:TypeId):ZL P wz ops hZ (⟨dst, .binOp o t x y u,ty,pos,af,none⟩::rest) s h K=((pop P wz h s (.binOp o t x y u)).pre/\ZL P wz ops hZ rest (putD s dst (pop P wz h s (.binOp o t x y u)).val) h K):=qdA (by rfl)
theorem fg_binOp(o:BinOp)(t:TypeId)(x y:Operand)(u:TypeId){j:Nat}{want:Bool}:ZL P wz ops hZ (⟨dst, .binOp o t x y u,ty,pos,af,some (j,want)⟩::rest) s h K=fgQ P wz ops rest hZ s h K dst want (pop P wz h s (.binOp o t x y u)) (qJ ops j):=fg_of (by rfl)
theorem Zn(t:TypeId)(x:Operand):ZL P wz ops hZ (⟨dst, .load t x,ty,pos,af,none⟩::rest) s h K=((pop P wz h s (.load t x)).pre/\ZL P wz ops hZ rest (putD s dst (pop P wz h s (.load t x)).val) h K):=qdA (by rfl)
theorem ZG(t:TypeId)(x:Operand)(f:Nat):ZL P wz ops hZ (⟨dst, .fieldAddr t x f,ty,pos,af,none⟩::rest) s h K=((pop P wz h s (.fieldAddr t x f)).pre/\ZL P wz ops hZ rest (putD s dst (pop P wz h s (.fieldAddr t x f)).val) h K):=qdA (by rfl)
theorem qbh(t:TypeId)(x i:Operand):ZL P wz ops hZ (⟨dst, .indexAddr t x i,ty,pos,af,none⟩::rest) s h K=((pop P wz h s (.indexAddr t x i)).pre/\ZL P wz ops hZ rest (putD s dst (pop P wz h s (.indexAddr t x i)).val) h K):=qdA (by rfl)
theorem qoA(x:Operand)(i:Nat):ZL P wz ops hZ (⟨dst, .extract x i,ty,pos,af,none⟩::rest) s h K=((pop P wz h s (.extract x i)).pre/\ZL P wz ops hZ rest (putD s dst (pop P wz h s (.extract x i)).val) h K):=qdA (by rfl)
theorem WI(x:Operand):ZL P wz ops hZ (⟨dst, .nilCheck x,ty,pos,af,none⟩::rest) s h K=((pop P wz h s (.nilCheck x)).pre/\ZL P wz ops hZ rest (putD s dst (pop P wz h s (.nilCheck x)).val) h K):=qdA (by rfl)
theorem fp_len(a:List Operand)(t:Array TypeId):ZL P wz ops hZ (⟨dst, .call ⟨.builtin .len,a.toArray,t⟩,ty,pos,af,none⟩::rest) s h K=((pop P wz h s (.call ⟨.builtin .len,a.toArray,t⟩)).pre/\ZL P wz ops hZ rest (putD s dst (pop P wz h s (.call ⟨.builtin .len,a.toArray,t⟩)).val) h K):=qdA (by rfl)
theorem qni(t:TypeId)(x:Operand)(a b c:Option Operand):ZL P wz ops hZ (⟨dst, .slice t x a b c,ty,pos,af,none⟩::rest) s h K=((pop P wz h s (.slice t x a b c)).pre/\ZL P wz ops hZ rest (putD s dst (pop P wz h s (.slice t x a b c)).val) h K):=qdA (by rfl)
theorem Un(t:TypeId)(ps:List (Nat×Operand)):ZL P wz ops hZ (⟨dst, .build t ps.toArray,ty,pos,af,none⟩::rest) s h K=((pop P wz h s (.build t ps.toArray)).pre/\ZL P wz ops hZ rest (putD s dst (pop P wz h s (.build t ps.toArray)).val) h K):=qdA (by rfl)
theorem qcG{op:Op}(hk:Ya P op=0)(he:QB P wz ops [⟨dst,op,ty,pos,af,none⟩] s h (fun s' h'=>ZL P wz ops hZ rest s' h' K)):ZL P wz ops hZ (⟨dst,op,ty,pos,af,none⟩::rest) s h K:=by
 simp only[QB]at he;simp only[ZL,if_pos hk];refine⟨trivial,?_⟩;rw[qcK op (qej fun t ht=>by unfold QE;exact J5 _ ht)];exact he
theorem Xf{fo:Operand}{args:List Operand}{ts:Array TypeId}{f:FuncId}{cap xs:List AVal}{V:AVal}(hf:ev s fo= .func f cap)(hx:evs s args++cap=xs)(hV:V.okIn (fun k=>(hZ k).isSome))(hc:∀g,Sub hZ g->ACall P wz f xs g (fun x h'=>x=V/\h'=g))
 (hk:ZL P wz ops hZ rest (putD s dst V) h K):ZL P wz ops hZ (⟨dst, .call ⟨.value fo,args.toArray,ts⟩,ty,pos,af,none⟩::rest) s h K:=by
 have h0:¬Ya P (.call ⟨.value fo,args.toArray,ts⟩)=0:=by simp[Ya]
 simp only[ZL,if_neg h0];refine⟨V,?_,hk⟩;have h2:¬Ya P (.call ⟨.value fo,args.toArray,ts⟩)=2:=by simp[Ya]
 rw[qdG,if_neg h2];refine⟨rfl,hV,fun g hg=>?_⟩;rw[qcK _ (qej fun t ht=>by unfold QE;exact J5 _ ht)];simp only[eop,hf,hx];exact hc g hg
theorem qfw{fo:Operand}{args:List Operand}{ts:Array TypeId}{j:Nat}{want:Bool}{f:FuncId}{cap xs:List AVal}{V:AVal}(hk:Wo (gv s ops j)=true)
 (hf:Xa (gv s ops j) want=true->ev s fo= .func f cap/\evs s args++cap=xs) (hV:V.okIn (fun k=>(hZ k).isSome)) (hc:Xa (gv s ops j) want=true->∀g,Sub hZ g->ACall P wz f xs g (fun x h'=>x=V/\h'=g))
 (hr:ZL P wz ops hZ rest (putD s dst (Qw (Xa (gv s ops j) want) V)) h K):
 ZL P wz ops hZ (⟨dst, .call ⟨.value fo,args.toArray,ts⟩,ty,pos,af,some (j,want)⟩::rest) s h K:=by
 unfold gv at hk hf hc hr;have h0:¬Ya P (.call ⟨.value fo,args.toArray,ts⟩)=0:=by simp[Ya]
 have h2:¬Ya P (.call ⟨.value fo,args.toArray,ts⟩)=2:=by simp[Ya]
 simp only[ZL,if_neg h0];cases hj:qJ ops j with
 |none=>rw[hj]at hk;cases hk
 |some d=>
  simp only[hj]at hk hf hc hr|-
  refine⟨hk,V,fun hg=>?_,hr⟩;rw[qdG,if_neg h2];refine⟨rfl,hV,fun g hsub=>?_⟩;rw[qcK _ (qej fun t ht=>by unfold QE;exact J5 _ ht)];simp only[eop,(hf hg).1,(hf hg).2];exact hc hg g hsub
theorem qjd{ks:List Nat}:qea P wz ks [] s h K=K s h:=rfl
theorem qbs{ks:List Nat}{op:Op}(ha:QB P wz [] [⟨dst,op,ty,pos,af,none⟩] s h (fun s' h'=>(∀k∈ks,h' k=h k)/\qea P wz ks rest s' h' K)):qea P wz ks (⟨dst,op,ty,pos,af,none⟩::rest) s h K:=by
 simp only[QB]at ha;exact⟨rfl,ha⟩
theorem kp_of{ks:List Nat}{op:Op}(hp:Zb P op=true):qea P wz ks (⟨dst,op,ty,pos,af,none⟩::rest) s h K=((pop P wz h s op).pre/\qea P wz ks rest (putD s dst (pop P wz h s op).val) h K):=by
 refine propext ⟨fun⟨_,h1⟩=>?_,fun⟨h1,h2⟩=>⟨rfl,(Uo hp).2 ⟨h1,fun _ _=>rfl,h2⟩⟩⟩;obtain⟨g1,_,g2⟩:=(Uo hp).1 h1;exact⟨g1,g2⟩
theorem qkC{ks:List Nat}(x:Operand):qea P wz ks (⟨dst, .assign x,ty,pos,af,none⟩::rest) s h K=((pop P wz h s (.assign x)).pre/\qea P wz ks rest (putD s dst (pop P wz h s (.assign x)).val) h K):=kp_of rfl
theorem qlF{ks:List Nat}(t:TypeId)(x:Operand)(f:Nat):qea P wz ks (⟨dst, .fieldAddr t x f,ty,pos,af,none⟩::rest) s h K=((pop P wz h s (.fieldAddr t x f)).pre/\qea P wz ks rest (putD s dst (pop P wz h s (.fieldAddr t x f)).val) h K):=kp_of rfl
end
end Go.AM
namespace Go.AM
open Go.RowKit (Below)
theorem AHeap.set_none(h:AHeap)(k j:Nat)(b:Blk):((h.set k b) j=none)=(j≠k/\k≠j/\h j=none):=by
 refine propext ⟨fun e=>?_,fun⟨e1,_,e2⟩=>by rw[Vb _ _ e1];exact e2⟩;have hne:j≠k:=fun e'=>by subst e';rw[Vd]at e;cases e
 exact⟨hne,Ne.symm hne,by rwa [Vb _ _ hne]at e⟩
theorem QL(wz:World)(h:AHeap){j k:Nat}(hj:j≠k)(b:Blk)(o:Nat):rd wz (h.set k b) (.own j) o=rd wz h (.own j) o:=rd_ne wz h b hj o
theorem Sub.set_both{h h':AHeap}(hs:Sub h h')(k:Nat)(b:Blk):Sub (h.set k b) (h'.set k b):=fun j c e=>by
 by_cases ej:j=k
 ·subst ej;rw[Vd]at e|-;exact e
 ·rw[Vb _ _ ej]at e|-;exact hs j c e
theorem qB(b:Bool):(AVal.bool b).live=true:=rfl
theorem qi(k:IntKind)(n:Int):(AVal.int k n).live=true:=rfl
theorem qE(s:List UInt8):(AVal.str s).live=true:=rfl
theorem QU:AVal.nilSlice.live=true:=rfl
theorem qaf(l:Loc)(o n:Nat)(c:Cap):(AVal.slice l o n c).live=true:=rfl
theorem qlB(k:Nat):(AVal.map k).live=true:=rfl
theorem lv_agg(cs:List AVal):(AVal.agg cs).live=true:=rfl
section
variable {P:Program} {wz:World} {s:Slots} {h:AHeap}
theorem qbW(r u v x:ResultVar):qba P wz s h [r,u,v,x]= .tuple [(qda P wz s h r).val,(qda P wz s h u).val,(qda P wz s h v).val,(qda P wz s h x).val]:=rfl
end
section
variable {P:Program}
theorem qdf{t:TypeId}(ht:P.underlying t=some .string)(s:List UInt8)(k:IntKind)(b:Int):Yt P t (.str s) (some (.int k b)) none none=qaH s (qbo (some (.int k b)) 0) (qbo none s.length):=qhG ht s _ _
theorem qfp{t:TypeId}(ht:P.underlying t=some .string)(s:List UInt8)(k k':IntKind)(a b:Int):Yt P t (.str s) (some (.int k a)) (some (.int k' b)) none=qaH s (qbo (some (.int k a)) 0) (qbo (some (.int k' b)) s.length):=qhG ht s _ _
end
end Go.AM
namespace Go.AM
open Go.RowKit (Below)
theorem qsm{P:Program}{wz:World}{n:FrameK}{s:Slots}{h:AHeap}{Q:Exit->Slots->AHeap->Prop}{id:Nat}{d:Tmp}{e:TypeId}{z:Value}{cs:List AVal}{ty:TypeId}{pos:String}{af:Array Edge}{y:Code}(L:List Nat)
 (hd:d<n) (he:e<4096) (hz:Uc P e=some z) (hc:z.cells.toList.map qF=cs)
 (hk:∀k,h k=none->Uf k=some e->Awp P wz n y Q ((s.put d (.ptr (.own k) 0)).keep L) (h.set k ⟨cs,0⟩)):
 Awp P wz n (.seq (.region id [⟨some d, .alloc e,ty,pos,af,none⟩].toArray false) y) Q s h:=
 qL<|J7 fun fi a w hr hs=>wp_region (by
  obtain⟨k,hk0,hφ,hke,hkt⟩:=hr.freshE e;obtain⟨e1,e2⟩:=hr.alloc k hk0 hφ (z.cells.toList.map qF) z.cells e 0 0 (by rw[Jo,Jp];exact WW fi z.cells.toList) qaT hkt;have hw:Region.wanted (⟨some d, .alloc e,ty,pos,af,none⟩:Oper) (yielded #[⟨some d, .alloc e,ty,pos,af,none⟩] a.tmps)=true:=by simp[Region.wanted]
  simp only[List.size_toArray,JR,List.range_succ,List.range_zero,Jd,wpOps,List.getElem?_toArray,List.getElem?_cons_zero];rw[if_pos hw];refine .inl (XK (v:= .pointer (some ⟨w.heap.size,0,none⟩)) (w':=w.alloc (.cells z.cells e)) ?_ ?_)
  ·simp[execOp,Instr.alloc,qbr hz,newVar,newRow]
  ·refine⟨_,_,_,e1,e2,(hs.mono e1).put d hd (qhw _ _ _),?_⟩
   rw[hc];exact Va L (hk k hk0 (hke he)))
theorem HRel.dropRow{wz w w':World}{fi:PMap}{h h':AHeap}(hr:HRel wz fi h w){k:Nat}{b:Blk}{p:Place}(hk:h k=some b)(hp:fi k=some p)
 (hsize:w'.heap.size=w.heap.size) (hos:w'.os=w.os) (htape:w'.tape=w.tape) (hout:w'.output=w.output)
 (hother:∀i,i≠p.blk->w'.heap[i]?=w.heap[i]?) (hty:∀cs e fr,w.heap[p.blk]?=some (.cells cs e fr)->∃cs' fr',w'.heap[p.blk]?=some (.cells cs' e fr'))
 (hs:∀j c,h' j=some c->h j=some c/\j≠k):HRel wz fi h' w':=by
 obtain⟨q,hq,hq1,hq2⟩:=hr.own k b hk;have hpq:q=p:=by rw[hp]at hq;exact(Option.some.inj hq).symm
 subst hpq;refine⟨⟨hos.trans hr.below.os,htape.trans hr.below.tape,hout.trans hr.below.output,by rw[hsize];exact hr.below.size,fun i hi=>?_⟩,fun j c hj=>?_,fun j j' b1 b2 p1 p2 h1 h2 f1 f2 e=>?_,fun j r hj=>by rw[hsize];exact hr.lt j r hj,hr.fin,fun j r hj t ht=>?_⟩
 ·rw[hother i (by omega)]
  exact hr.below.block i hi
 ·obtain⟨h1,h2⟩:=hs j c hj
  obtain⟨r,hr0,hr1,hr2⟩:=hr.own j c h1;exact⟨r,hr0,hr1,hr2.world (hother _ fun e'=>h2 (hr.inj j k c b r q h1 hk hr0 hp e'))⟩
 ·exact hr.inj j j' b1 b2 p1 p2 (hs j b1 h1).1 (hs j' b2 h2).1 f1 f2 e
 ·obtain⟨h0,cs,fr,hcs⟩:=hr.typ j r hj t ht
  refine⟨h0,?_⟩;by_cases e:r.blk=q.blk
  ·rw[e]at hcs|-
   exact hty cs t fr hcs
  ·exact⟨cs,fr,by rw[hother _ e];exact hcs⟩
theorem qlI(w:World)(a:Addr)(n:Nat):(w.freeze a n).heap.size=w.heap.size/\(w.freeze a n).os=w.os/\(w.freeze a n).tape=w.tape/\(w.freeze a n).output=w.output/\
 (∀i,i≠a.block->(w.freeze a n).heap[i]?=w.heap[i]?)/\(∀cs e fr,w.heap[a.block]?=some (.cells cs e fr)->∃cs' fr',(w.freeze a n).heap[a.block]?=some (.cells cs' e fr')):=by
 unfold World.freeze;split
 ·exact⟨rfl,rfl,rfl,rfl,fun _ _=>rfl,fun cs e fr h=>⟨cs,fr,h⟩⟩
 ·refine⟨by simp,rfl,rfl,rfl,fun i hi=>by simp[KR,Ne.symm hi],fun cs e fr h=>?_⟩
  obtain⟨lo,hi⟩:=fr;refine⟨cs,if lo==hi then(a.off,a.off+n)else(min lo a.off,max hi (a.off+n)),?_⟩;simp only[KR,if_true,h,KH]
theorem HRel.setCell{wz w:World}{fi:PMap}{h:AHeap}(hr:HRel wz fi h w){k:Nat}{b:Blk}{p:Place}(hk:h k=some b)(hp:fi k=some p){o:Nat}{x:AVal}{v:Value}
 (hx:VR fi x v) (hs:x.scal=true) (hfit:o<b.cells.length) (hfrz:b.frz<=o):HRel wz fi (h.set k ⟨b.cells.set o x,b.frz⟩) (w.setCell ⟨p.blk,p.off+o,none⟩ v):=by
 obtain⟨q,hq,hq1,ok⟩:=hr.own k b hk;have hpq:q=p:=by rw[hp]at hq;exact(Option.some.inj hq).symm
 subst hpq;obtain⟨cs,e,lo,hi,h1,h2,h3,h4,h5,h6⟩:=ok.row (by omega);have hgl:q.blk<w.heap.size:=hr.lt k q hp;rw[qdK w q.blk (q.off+o) cs e (lo,hi) h1 v];refine hr.write k b _ q hk hp (by simp[AM.World.putRow]) rfl rfl rfl (fun i hi=>Uv w _ _ _ _ i hi) (fun cs' e' fr' h'=>by rw[h1]at h';cases h';exact⟨_,_,Wl w _ _ _ _ hgl⟩) ?_;refine .inl ⟨cs.setIfInBounds (q.off+o) v,e,lo,hi,Wl w _ _ _ _ hgl,by simp[h2],by simp[h3],by simp[h4],?_,?_⟩
 ·have:=qdw cs.toList q.off b.cells.length o [v] (by simp;omega)
  simp only[setAt]at this;simp only[Array.toList_setIfInBounds,List.length_set];rw[this];exact qmr h5 o hx
 ·refine⟨h6.1,fun i hi1 hi2=>?_⟩
  have:=h6.2 i hi1 hi2;simpa using this
theorem qlC{P:Program}{T U:TypeId}(h:liesAt P P.depth T 1 0 U 1=true)(hU:∀m u,P.underlying U≠some (.array m u)){c:Nat}(hc:1<=c):liesAt P P.depth T c 0 U 1=true:=by
 have noarr:∀(d c':Nat),liesAt P (d+1) T c' 0 U 1=rowAt P (sameLayout P P.depth · U) P.depth T c' 0 1:=fun d c'=>by
  unfold liesAt;cases e:P.underlying U with
  |none=>simp
  |some t=>cases t<;>first|exact absurd e (hU _ _)|simp
 cases hd:P.depth with
 |zero=>rw[hd]at h;simp[liesAt]at h
 |succ d=>
  rw[hd]at h;rw[noarr d]at h|-
  rw[hd]at h|-
  unfold rowAt at h|-
  simp only at h|-
  split at h
  ·cases h
  ·rename_i hs
   rw[if_neg hs];simp only[Ve,Nat.zero_mod,Jr,beq_self_eq_true,Vf,KJ,decide_true,show(0:Nat)<1 from Nat.one_pos]at h|-
   rw[decide_eq_true hc,decide_eq_true (show 0<c by omega),Vf,Vf];exact h
structure Bld where
 used:Bool
 buf:Option (Nat×List UInt8)
def Bld.bytes(b:Bld):List UInt8:=match b.buf with|none=>[]|some (_,l)=>l
def Bld.head(b:Bld)(k:Nat):AVal:=if b.used=true then .ptr (.own k) 0 else .nilPtr
def Bld.slice(b:Bld):AVal:=match b.buf with|none=> .nilSlice|some (kb,l)=> .slice (.own kb) 0 l.length (.grow 1)
def Bld.none:Bld:=⟨false,Option.none⟩
def Bld.ok(e:TypeId)(h:AHeap)(k:Nat)(b:Bld):Prop:=match b.buf with|Option.none=>True|some (kb,l)=>kb≠k/\h kb=Option.none/\Uf kb=some e/\l≠[]
def bldH(h:AHeap)(k:Nat)(rest:List AVal)(b:Bld):AHeap:=match b.buf with
 |Option.none=>h.set k ⟨b.head k:: .nilSlice::rest,0⟩
 |some (kb,l)=>(h.set k ⟨b.head k:: .slice (.own kb) 0 l.length (.grow 1)::rest,0⟩).set kb ⟨byteCells l,0⟩
theorem Bld.none_ok{e:TypeId}{h:AHeap}{k:Nat}:Bld.none.ok e h k:=trivial
theorem qgI{h:AHeap}{k:Nat}{rest:List AVal}{b:Bld}(hb:b.buf=Option.none):bldH h k rest b=h.set k ⟨b.head k:: .nilSlice::rest,0⟩:=by unfold bldH;rw[hb]
theorem qaD{h:AHeap}{k:Nat}{rest:List AVal}{b:Bld}{kb:Nat}{l:List UInt8}(hb:b.buf=some (kb,l)):
 bldH h k rest b=(h.set k ⟨b.head k:: .slice (.own kb) 0 l.length (.grow 1)::rest,0⟩).set kb ⟨byteCells l,0⟩:=by unfold bldH;rw[hb]
theorem Bld.slice_nil{b:Bld}(hb:b.buf=Option.none):b.slice= .nilSlice:=by unfold Bld.slice;rw[hb]
theorem Bld.slice_some{b:Bld}{kb:Nat}{l:List UInt8}(hb:b.buf=some (kb,l)):b.slice= .slice (.own kb) 0 l.length (.grow 1):=by unfold Bld.slice;rw[hb]
theorem Bld.bytes_nil{b:Bld}(hb:b.buf=Option.none):b.bytes=[]:=by unfold Bld.bytes;rw[hb]
theorem Bld.bytes_some{b:Bld}{kb:Nat}{l:List UInt8}(hb:b.buf=some (kb,l)):b.bytes=l:=by unfold Bld.bytes;rw[hb]
theorem Bld.ok_some{e:TypeId}{h:AHeap}{k:Nat}{b:Bld}{kb:Nat}{l:List UInt8}(hb:b.buf=some (kb,l)):b.ok e h k↔(kb≠k/\h kb=Option.none/\Uf kb=some e/\l≠[]):=by unfold Bld.ok;rw[hb]
theorem Sub.bldH{h:AHeap}{k:Nat}{rest:List AVal}{e:TypeId}{b:Bld}(hk:h k=Option.none)(hb:b.ok e h k):Sub h (AM.bldH h k rest b):=by
 cases hbuf:b.buf with
 |none=>rw[qgI hbuf];exact Vg hk
 |some q=>
  obtain⟨h1,h2,h3,h4⟩:=(Bld.ok_some hbuf).1 hb;rw[qaD hbuf];exact(Vg hk).trans (Vg (by rw[Vb _ _ h1];exact h2))
theorem qbu{h:AHeap}{k:Nat}{rest:List AVal}{e:TypeId}{b:Bld}(hb:b.ok e h k):bldH h k rest b k=some ⟨b.head k::b.slice::rest,0⟩:=by
 cases hbuf:b.buf with
 |none=>rw[qgI hbuf,Bld.slice_nil hbuf];exact Vd _ _ _
 |some q=>
  obtain⟨h1,h2,h3,h4⟩:=(Bld.ok_some hbuf).1 hb;rw[qaD hbuf,Bld.slice_some hbuf,Vb _ _ h1.symm,Vd]
theorem qnJ{h:AHeap}{k:Nat}{rest:List AVal}{b:Bld}{kb:Nat}{l:List UInt8}(hb:b.buf=some (kb,l)):bldH h k rest b kb=some ⟨byteCells l,0⟩:=by
 rw[qaD hb];exact Vd _ _ _
theorem qsk{h:AHeap}{k:Nat}{rest:List AVal}{e:TypeId}{b:Bld}(hb:b.ok e h k):(bldH h k rest b).set k ⟨.ptr (.own k) 0::b.slice::rest,0⟩=bldH h k rest ⟨true,b.buf⟩:=by
 cases hbuf:b.buf with
 |none=>
  rw[qgI hbuf,Bld.slice_nil hbuf,Vh,qgI rfl];rfl
 |some q=>
  obtain⟨h1,h2,h3,h4⟩:=(Bld.ok_some hbuf).1 hb;rw[qaD hbuf,Bld.slice_some hbuf,qaD rfl,Vi _ _ _ h1.symm,Vh];rfl
theorem Bld.slice_live(b:Bld):b.slice.live=true:=by unfold Bld.slice;split<;>rfl
theorem Bld.slice_scal(b:Bld):b.slice.scal=true:=by unfold Bld.slice;split<;>rfl
theorem Bld.slice_cells(b:Bld):b.slice.cells=[b.slice]:=by unfold Bld.slice;split<;>rfl
theorem Bld.head_live(b:Bld)(k:Nat):(b.head k).live=true:=by unfold Bld.head;split<;>rfl
theorem YB{h:AHeap}{k:Nat}{b:Blk}(hk:h k=some b):h.set k b=h:=by
 funext j;by_cases e:j=k
 ·subst e;rw[Vd,hk]
 ·rw[Vb _ _ e]
section
variable {P:Program} {wz:World} {ops rest:List Oper} {s:Slots} {h:AHeap} {K:Slots->AHeap->Prop} {dst:Option Tmp} {ty:TypeId} {pos:String} {af:Array Edge}
theorem qjU{ts:Array TypeId}{t u e:TypeId}{d:TypeDesc}{x y:Operand}{v:AVal}{src:List UInt8}{hZ:AHeap}{k:Nat}{cs:List AVal}{st:Bld}
 (h0:ts[0]?=some t) (h1:ts[1]?=some u) (ht:P.underlying t=some (.slice e)) (hu:P.underlying u=some d) (hd:∀k,d≠ .int k)
 (hs:ZP P e=some 1) (hb:qfB P e=some 1) (hz:Uc P e=some (.int .u8 0)) (he:e<4096)
 (hx:ev s x=st.slice) (hk0:hZ k=none) (hst:st.ok e hZ k) (hh:Sub (bldH hZ k cs st) h) (hy:ev s y=v) (hv:SrcB wz h v src) (hl:st.bytes.length+src.length<=140737488355328)
 (hk:∀st':Bld,st'.used=st.used->st'.ok e hZ k->st'.bytes=st.bytes++src->∀h',h' k=some ⟨st.head k::st.slice::cs,0⟩->Sub (bldH hZ k cs st') (h'.set k ⟨st'.head k::st'.slice::cs,0⟩)->
   QB P wz ops rest (putD s dst st'.slice) h' K):
 QB P wz ops (⟨dst, .call ⟨.builtin .append,[x,y].toArray,ts⟩,ty,pos,af,none⟩::rest) s h K:=by
 obtain⟨g1,g2⟩:=hv;obtain⟨p1,p2⟩:=g2 src.length (KJ _);rw[Jq (KJ _)]at p2;have hkc:h k=some ⟨st.head k::st.slice::cs,0⟩:=hh _ _ (qbu hst);have h₀h:Sub hZ h:=(Sub.bldH hk0 hst).trans hh;rw[qaY];simp only[eop,evs,Kc,Vj,hx,hy,qeP,h0,h1,ht,hu,hs,hb,hz,g1];cases hbuf:st.buf with
 |none=>
  rw[Bld.slice_nil hbuf]at*
  rw[Bld.bytes_nil hbuf]at*
  simp only[J8,Jr]at hl;refine⟨hd,⟨by omega,rfl⟩,p1,fun e0=>?_,fun e0=>⟨⟨by omega,by omega⟩,fun k' hk' htk=>?_⟩⟩
  ·have e1:src=[]:=Ke e0
   have:=hk st rfl hst (by rw[e1,Bld.bytes_nil hbuf];rfl) h hkc (by rw[Bld.slice_nil hbuf,YB hkc];exact hh);rw[Bld.slice_nil hbuf]at this;exact this
  ·have hne:k'≠k:=fun e'=>by subst e';rw[hkc]at hk';cases hk'
   have hsrc:src≠[]:=fun e'=>e0 (by rw[e'];rfl);have:=hk ⟨st.used,some (k',src)⟩ rfl ((Bld.ok_some rfl).2 ⟨hne,h₀h.none hk',htk he,hsrc⟩) rfl (h.set k' ⟨byteCells src,0⟩) (by rw[Vb _ _ hne.symm];exact hkc) (fun j c hj=>by
    rw[qaD rfl]at hj;by_cases e1:j=k'
    ·subst e1
     rw[Vd]at hj;rw[Vb _ _ hne,Vd];exact hj
    ·rw[Vb _ _ e1]at hj
     by_cases e2:j=k
     ·subst e2
      rw[Vd]at hj|-
      exact hj
     ·rw[Vb _ _ e2]at hj|-
      rw[Vb _ _ e1];exact h₀h j c hj)
   rw[p2];exact this
 |some q=>
  obtain⟨kb,l⟩:=q;obtain⟨s1,s2,s3,s4⟩:=(Bld.ok_some hbuf).1 hst;have hkb:h kb=some ⟨byteCells l,0⟩:=hh _ _ (qnJ hbuf);rw[Bld.slice_some hbuf]at*
  rw[Bld.bytes_some hbuf]at*
  simp only[hkb];refine⟨hd,⟨by omega,rfl⟩,p1,trivial,⟨by rw[byteCells_length];omega,by omega,by omega,by rw[p2];exact qcc _,?_, .inl trivial⟩,fun k' hk' htk=>?_⟩
  ·rw[KP];exact UI (qbO _)
  ·have hne:k'≠k:=fun e'=>by subst e';rw[hkc]at hk';cases hk'
   have hneb:k'≠kb:=fun e'=>by subst e';rw[hkb]at hk';cases hk'
   have hl':(l++src).length=l.length+src.length:=Jb;have:=hk ⟨st.used,some (k',l++src)⟩ rfl ((Bld.ok_some rfl).2 ⟨hne,h₀h.none hk',htk trivial s3,by simp[s4]⟩) rfl ((h.del kb).set k' ⟨byteCells (l++src),0⟩) (by rw[Vb _ _ hne.symm];simp only[Vk,s1.symm,if_false];exact hkc) (fun j c hj=>by
    rw[qaD rfl]at hj;by_cases e1:j=k'
    ·subst e1
     rw[Vd]at hj;rw[Vb _ _ hne,Vd];exact hj
    ·rw[Vb _ _ e1]at hj
     by_cases e2:j=k
     ·subst e2
      rw[Vd]at hj|-
      exact hj
     ·rw[Vb _ _ e2]at hj|-
      rw[Vb _ _ e1];have e3:j≠kb:=fun e'=>by subst e';rw[s2]at hj;cases hj
      simp only[Vk,e3,if_false];exact h₀h j c hj)
   rw[p2,KP,<-byteCells_append];rw[Bld.slice_some rfl,hl']at this;exact this
end
end Go.AM
namespace Go.AM
section
variable {P:Program} {wz:World} {ops rest:List Oper} {s:Slots} {h:AHeap} {K:Slots->AHeap->Prop} {dst:Option Tmp} {ty:TypeId} {pos:String} {af:Array Edge}
end
structure Buf where
 blk:Nat
 cells:List AVal
def QH(es:Nat):Option Buf->AVal
 |none=> .nilSlice
 |some b=> .slice (.own b.blk) 0 (b.cells.length / es) (.grow es)
def Ws:Option Buf->List AVal
 |none=>[]
 |some b=>b.cells
def Qv(h:AHeap):Option Buf->AHeap
 |none=>h
 |some b=>h.set b.blk ⟨b.cells,0⟩
def bufOk(h:AHeap)(es:Nat):Option Buf->Prop
 |none=>True
 |some b=>h b.blk=none/\b.cells.length%es=0/\allLive b.cells=true
theorem bufOk.sub{h h':AHeap}{es:Nat}{b:Option Buf}(hb:bufOk h es b)(hs:Sub h' h):bufOk h' es b:=by
 cases b with
 |none=>trivial
 |some b=>exact⟨hs.none hb.1,hb.2⟩
theorem Sub.buf{h:AHeap}{es:Nat}{b:Option Buf}(hb:bufOk h es b):Sub h (Qv h b):=by
 cases b with
 |none=>exact Vl _
 |some b=>exact Vg hb.1
theorem QY(es:Nat)(b:Option Buf):(QH es b).live=true:=by cases b<;>rfl
theorem WF(es:Nat)(b:Option Buf):(QH es b).scal=true:=by cases b<;>rfl
theorem sub_app{hZ h:AHeap}{kb k':Nat}{B C:Blk}(h0:hZ kb=none)(hs:Sub (hZ.set kb B) h)(hk':h k'=none):Sub (hZ.set k' C) ((h.del kb).set k' C):=fun j c hj=>by
 by_cases e:j=k'
 ·subst e;rw[Vd]at hj|-;exact hj
 ·rw[Vb _ _ e]at hj|-
  have e2:j≠kb:=fun e2=>by subst e2;rw[h0]at hj;cases hj
  simp only[Vk,e2,if_false];exact hs j c (by rw[Vb _ _ e2];exact hj)
section
variable {P:Program} {wz:World} {ops rest:List Oper} {s:Slots} {h:AHeap} {K:Slots->AHeap->Prop} {dst:Option Tmp} {ty:TypeId} {pos:String} {af:Array Edge}
theorem qjT{ts:Array TypeId}{t u e:TypeId}{d:TypeDesc}{x y:Operand}{v:AVal}{es by' m:Nat}{z:Value}{src:List AVal}{hZ:AHeap}{b:Option Buf}
 (h0:ts[0]?=some t) (h1:ts[1]?=some u) (ht:P.underlying t=some (.slice e)) (hu:P.underlying u=some d) (hd:∀k,d≠ .int k)
 (hs:ZP P e=some es) (hb:qfB P e=some by') (hz:Uc P e=some z) (hzs:z.cells.size=es) (hes:es≠0)
 (hx:ev s x=QH es b) (hok:bufOk hZ es b) (hh:Sub (Qv hZ b) h) (hy:ev s y=v) (hm:qcV v=some m) (hp:qcU wz h es m v) (hc:Zw wz h es m v=src) (hsl:src.length=m*es) (hsc:QG src=true) (hlv:allLive src=true)
 (hl:((Ws b).length / es+m)*by'<=140737488355328) (hl':(Ws b).length / es+m<4611686018427387904)
 (hk:∀b' h',bufOk hZ es b'->Ws b'=Ws b++src->Sub (Qv hZ b') h'->QB P wz ops rest (putD s dst (QH es b')) h' K):
 QB P wz ops (⟨dst, .call ⟨.builtin .append,[x,y].toArray,ts⟩,ty,pos,af,none⟩::rest) s h K:=by
 rw[qaY];simp only[eop,evs,Kc,Vj,hx,hy,qeP,h0,h1,ht,hu,hs,hb,hz,hm];have hev:0<es:=Vm hes;cases b with
 |none=>
  refine⟨hd,⟨hes,hzs⟩,hp,?_⟩;simp only[QH];simp only[Ws,J8,Ve,Jr]at hl hl';refine⟨fun e0=>?_,fun e0=>⟨⟨hl,hl'⟩,fun k hk0 _=>?_⟩⟩
  ·have:src=[]:=Ke (by rw[hsl,e0,K7])
   exact hk none h trivial (by rw[this];rfl) hh
  ·have hsub:Sub (Qv hZ (some ⟨k,src⟩)) (h.set k ⟨src,0⟩):=Sub.set_both hh k _
   have hk0':hZ k=none:=hh.none hk0;have e1:src.length / es=m:=by rw[hsl];exact Vn _ hev
   have:=hk (some ⟨k,src⟩) (h.set k ⟨src,0⟩) ⟨hk0',by simp only;rw[hsl];exact Nat.mul_mod_left _ _,hlv⟩ rfl hsub;simp only[QH,e1]at this;rw[hc];exact this
 |some b=>
  obtain⟨o1,o2,o3⟩:=hok;simp only[Ws]at hl hl';have hkb:h b.blk=some ⟨b.cells,0⟩:=hh _ _ (Vd _ _ _);refine⟨hd,⟨hes,hzs⟩,hp,?_⟩;simp only[QH,hkb];have hdiv:b.cells.length / es*es=b.cells.length:=Nat.div_mul_cancel (Nat.dvd_of_mod_eq_zero o2);refine⟨trivial,⟨by rw[Jr,hdiv],hl,hl',by rw[hc];exact hsc,by rw[KP];exact o3, .inl trivial⟩,fun k hk0 _=>?_⟩;rw[hc,KP];have hsub:Sub (Qv hZ (some ⟨k,b.cells++src⟩)) ((h.del b.blk).set k ⟨b.cells++src,0⟩):=sub_app o1 hh hk0;have hne:k≠b.blk:=fun e'=>by subst e';rw[hkb]at hk0;cases hk0
  have hk0':hZ k=none:=by
   have:=hh.none hk0
   rwa [show(Qv hZ (some b))=hZ.set b.blk ⟨b.cells,0⟩from rfl,Vb _ _ hne]at this
  have e1:(b.cells++src).length / es=b.cells.length / es+m:=by
   rw[Jb,hsl,Nat.add_mul_div_right _ _ hev]
  have e2:(b.cells++src).length%es=0:=by
   rw[Jb,hsl,Nat.add_mul_mod_self_right];exact o2
  have hlive:allLive (b.cells++src)=true:=by
   have:∀(a c:List AVal),allLive (a++c)=(allLive a && allLive c):=fun a c=>by
    induction a with
    |nil=>rfl
    |cons x a ih=>simp[allLive,ih,Vo]
   rw[this,o3,hlv];rfl
  have:=hk (some ⟨k,b.cells++src⟩) _ ⟨hk0',e2,hlive⟩ rfl hsub;simp only[QH,e1]at this;exact this
end
end Go.AM
namespace Go.Col
set_option maxRecDepth 100000
abbrev Str:=List UInt8
structure FaultC where
 e:Int
 line:Int
 col:Int
 deriving DecidableEq
def okF:FaultC:=⟨0,0,0⟩
structure MarkC where
 frm:Int
 line:Int
 col:Int
 deriving DecidableEq
structure CardC where
 left:Bool
 text:Str
 marks:List MarkC
 deriving DecidableEq
def okB(b:UInt8):Bool:=decide (32<=b.toNat) && decide (b.toNat<=126)
def quotes(s:Str):Nat:=s.countP (· ==34)
def qch(s:Str):Bool:=decide (quotes s%2=1)
def qcb(s:Str):Option Nat:=s.findIdx? (fun b=> !okB b)
def qiu(s:Str):Str:=s.dropWhile (· ==32)
def qfM(s:Str):Str:=(s.reverse.dropWhile (· ==32)).reverse
def sp(n:Nat):Str:=JL n 32
structure RowC where
 line:Int
 more:Bool
 text:Str
 col:Int
 deriving DecidableEq
def qkw:RowC:=⟨0,false,[],0⟩
def qbC(s:Str):Str:=s++sp (72-s.length)
def qkc(s:Str)(line:Int):RowC:=⟨line,(qbC s).getD 6 0==45,qiu (((qbC s).drop 7).take 65),73-(qiu (((qbC s).drop 7).take 65)).length⟩
def Um(s:Str)(line:Int)(debug:Bool):RowC×Bool×FaultC:=
 if 80<s.length then(qkw,false,⟨5,line,81⟩)else
 match qcb s with
 |some i=>(qkw,false,⟨4,line,i+1⟩)
 |none=>
  let r:=qkc s line
  let m:=(qbC s).getD 6 0
  if m=42\/m=47 then(r,false,okF)
  else if m=68\/m=100 then(r,debug && !decide (r.text=[]),okF)
  else if m=32\/m=45 then(r,!decide (r.text=[]),okF)
  else(r,false,⟨4,line,7⟩)
structure Rd where
 cards:List CardC
 line:Int
 col:Int
 odd:Bool
def Rd.start:Rd:=⟨[],0,0,false⟩
def qfb(c:CardC)(line col:Int)(text:Str):CardC:=
 let t:=if qch (c.text++text)then text else qfM text
 ⟨c.left,c.text++t,if t=[]then c.marks else c.marks++[⟨c.text.length,line,col⟩]⟩
def addE(x:Rd)(line col:Int)(text:Str):Rd:=
 match x.cards.getLast? with
 |none=>x
 |some c=>⟨x.cards.dropLast++[qfb c line col text],line,col,qch (c.text++text)⟩
def takeE(x:Rd)(r:RowC):Rd×FaultC:=
 if !r.more && x.odd then(x,⟨4,x.line,x.col⟩)
 else if !r.more then(addE {x with cards:=x.cards++[⟨decide (r.col<12),[],[]⟩]} r.line r.col r.text,okF)
 else if x.cards=[]then(x,⟨6,r.line,7⟩)
 else if r.col<12\/(x.odd=true/\r.text.getD 0 0≠34)then(x,⟨4,r.line,r.col⟩)
 else if x.odd then(addE x r.line (r.col+1) (r.text.drop 1),okF)
 else(addE x r.line r.col r.text,okF)
def Wt(debug:Bool):List Str->Int->Rd->Rd×FaultC
 |[],_,x=>(x,okF)
 |s::l,n,x=>
  match Um s n debug with
  |(r,counts,f)=>
   if f=okF/\counts=false then Wt debug l (n+1) x
   else if f=okF then
    match takeE x r with
    |(x',g)=>if g=okF then Wt debug l (n+1) x' else(x',g)
   else(x,f)
def XU:Str->List Str
 |[]=>[[]]
 |b::s=>if b=10 then[]::XU s else match XU s with
  |[]=>[[b]]
  |l::ls=>(b::l)::ls
def Yw(s:Str):Str:=if s.getLast?=some 10 then s.dropLast else s
def UD(text:Str)(debug:Bool):List CardC×FaultC:=
 if 1048576<text.length then([],⟨3,0,0⟩)
 else match Wt debug (XU (Yw text)) 1 .start with
  |(x,f)=>if f≠okF then([],f)else if x.odd then([],⟨4,x.line,x.col⟩)else(x.cards,okF)
def validC.go(c:CardC):Int->List MarkC->Bool
 |_,[]=>true
 |b,m::ms=>decide (b<m.frm/\m.frm<c.text.length/\1<=m.line/\8<=m.col/\m.col<=72) && validC.go c m.frm ms
def validC(c:CardC):Bool:=
 match c.marks with
 |[]=>false
 |m::_=>decide (m.frm=0) && validC.go c (-1) c.marks
def qfE(i:Int):List MarkC->Int×Int->Int×Int
 |[],p=>p
 |m::ms,p=>qfE i ms (if m.frm<=i then(m.line,m.col+i-m.frm)else p)
def atE(c:CardC)(i:Int):Int×Int×Int:=
 if validC c=true/\0<=i/\i<=c.text.length then((qfE i c.marks (0,0)).1,(qfE i c.marks (0,0)).2,0)else(0,0,1)
def digs(n:Nat):Str:=Lib.decDigits n
def outE(n:Nat)(mark:Str)(col:Nat)(text:Str):Str:=
 JL (6-(digs (n%1000000)).length) 48++digs (n%1000000)++mark++sp (col-8)++text++[10]
def qpu:Str->Nat->Nat->Bool->Nat->Nat
 |[],_,_,_,f=>f
 |b::s,i,n,q,f=>
  if n<i then f else
  let q':=if b=34 then !q else q
  qpu s (i+1) n q' (if b=32/\q'=false/\0<i then i else f)
def qnZ(s:Str)(n:Nat)(q:Bool):Nat:=qpu s 0 n q 0
def textE:Nat->Nat->Str->Bool->Nat->Str->Str->Nat×Str
 |0,_,_,_,k,out,_=>(k,out)
 |fuel+1,col,mark,q,k,out,s=>
  let n:=73-col-(if q then 1 else 0)
  let lead:Str:=if q then[34]else[]
  if s.length<=n then(k+1,out++outE (k+1) mark col (lead++s))
  else if 0<qnZ s n q then textE fuel 12 [32] false (k+1) (out++outE (k+1) mark col (lead++s.take (qnZ s n q))) (qiu (s.drop (qnZ s n q)))
  else textE fuel 12 [45] (q !=qch (s.take n)) (k+1) (out++outE (k+1) mark col (lead++s.take n)) (s.drop n)
end Go.Col
namespace Go.Tok
open Go.Col (Str CardC FaultC okF UD atE)
set_option maxRecDepth 100000
structure TokC where
 kind:UInt8
 text:Str
 line:Int
 col:Int
 left:Bool
 deriving DecidableEq
def Yu(b:UInt8):Bool:=decide (48<=b.toNat) && decide (b.toNat<=57)
def qpG(b:UInt8):Bool:=(decide (97<=b.toNat) && decide (b.toNat<=122))||(decide (65<=b.toNat) && decide (b.toNat<=90))
def ZJ(b:UInt8):Bool:=Yu b||qpG b||decide (b=45)
def qee(b:UInt8):UInt8:=if 97<=b.toNat/\b.toNat<=122 then b-32 else b
def YE(s:Str):Str:=s.map qee
def Qo(s:Str)(i:Int):UInt8:=if i<0\/(s.length:Int)<=i then 32 else s.getD i.toNat 0
def WG(s:Str)(i:Nat)(p:UInt8->Bool):Nat:=((s.drop i).takeWhile p).length
def PIC:Str:=[80,73,67]
def Ww:Str:=[80,73,67,84,85,82,69]
def IS:Str:=[73,83]
def qbv(l:List TokC)(n:Nat)(ws:List Str):Bool:=
 match l.reverse[n-1]? with
 |none=>false
 |some t=>decide (t.kind=1) && ws.contains t.text
def ZN(l:List TokC):Bool×Bool:=
 if qbv l 1 [PIC,Ww]=true then(true,true)else(qbv l 1 [IS] && qbv l 2 [PIC,Ww],false)
def qoc(b:UInt8):Bool:=decide (b=44)||decide (b=59)
def qoa(s:Str)(next:Bool):Nat->Nat->Nat
 |0,i=>i
 |f+1,i=>if s.length<=i then i else if Qo s i=32\/(next=false/\qoc (Qo s i)=true/\Qo s (i+1)=32)then qoa s next f (i+1)else i
def ZR(s:Str)(next:Bool)(i:Nat):Nat:=qoa s next (s.length-i) i
structure Nx where
 kind:UInt8
 text:Str
 n:Nat
 e:Int
 deriving DecidableEq
def Nx.err(e:Int):Nx:=⟨0,[],0,e⟩
def takeE(s:Str)(i:Nat)(kind:UInt8)(n:Nat):Nx:=⟨kind,(s.drop i).take n,n,0⟩
def qao(b:UInt8):Bool:=decide (b=46)||qoc b
def YS(s:Str)(i:Nat)(is:Bool):Nx:=
 if is=true/\YE [Qo s i,Qo s (i+1)]=IS/\ZJ (Qo s (i+2))=false then⟨1,IS,2,0⟩
 else
  let n0:=WG s i (fun b=> !decide (b=32))
  let n:=if qao (Qo s ((i:Int)+n0-1))=true then(n0:Int)-1 else n0
  if n=0\/qao (Qo s (i+n-1))=true then .err 4
  else
   let t:=YE ((s.drop i).take n.toNat)
   if t.contains 34=true then .err 4 else⟨4,t,n.toNat,0⟩
def Zr:Str->Str->Nat->Nx
 |[],_,_=> .err 4
 |b::s,acc,n=>
  if b=34 then
   match s with
   |34::r=>Zr r (acc++[34]) (n+2)
   |_=>if acc=[]then .err 4 else⟨3,acc,n+1,0⟩
  else Zr s (acc++[b]) (n+1)
def qaO(s:Str)(i:Nat):Nx:=Zr (s.drop (i+1)) [] 1
def Wu(s:Str)(i:Nat):Bool:=(decide (Qo s i=43)||decide (Qo s i=45)) && (decide (Qo s ((i:Int)-1)=32)||decide (Qo s ((i:Int)-1)=40))
def d0E(s:Str)(i:Nat):Nat:=WG s (i+(Wu s i).toNat) Yu
def n1E(s:Str)(i:Nat):Nat:=(Wu s i).toNat+d0E s i
def qnr(s:Str)(i:Nat):Bool:=decide (Qo s ((i:Int)+(n1E s i:Nat))=46) && Yu (Qo s ((i:Int)+(n1E s i:Nat)+1))
def qbG(s:Str)(i:Nat):Nat:=WG s (i+n1E s i+1) Yu
def WO(s:Str)(i:Nat):Nat:=if qnr s i=true then n1E s i+1+qbG s i else n1E s i
def qbE(s:Str)(i:Nat):Nat:=if qnr s i=true then d0E s i+qbG s i else d0E s i
def qhZ(w1 w2 sg:Bool)(d0 d:Nat)(t:Nx):Nx:=
 if 0<d0/\w1=true then(if sg=true then .err 4 else .err 0)
 else if d=0 then .err 0
 else if w2=true then .err 4
 else if 18<d then .err 5
 else t
def YZ(s:Str)(i:Nat):Nx:=qhZ (ZJ (Qo s ((i:Int)+(n1E s i:Nat)))) (ZJ (Qo s ((i:Int)+(WO s i:Nat)))) (Wu s i) (d0E s i) (qbE s i) (takeE s i 2 (WO s i))
def qff(s:Str)(i:Nat):Nx:=
 let n:=WG s i ZJ
 let t:=YE ((s.drop i).take n)
 if t.all (fun b=>Yu b||decide (b=45))=true\/t.getD 0 0=45\/t.getD (n-1) 0=45 then .err 4
 else if 30<n then .err 5
 else⟨1,t,n,0⟩
def signs:List Str:=[[42,42],[60,61],[62,61],[60,62],[40],[41],[58],[43],[45],[42],[47],[61],[60],[62]]
def qdJ(s:Str)(i:Nat):Nx:=
 match signs.find? (fun g=>g.isPrefixOf (s.drop i))with
 |some g=>takeE s i 5 g.length
 |none=> .err 4
def WH(s:Str)(i:Nat)(l:List TokC):Nx:=
 let eqs:=Vp [61,61] (s.drop i)
 if (ZN l).1=true/\eqs=false then YS s i (ZN l).2
 else if Qo s i=34 then qaO s i
 else if Qo s i=46/\Qo s (i+1)=32 then takeE s i 6 1
 else if eqs=true then takeE s i 7 2
 else if 0<(YZ s i).n\/(YZ s i).e≠0 then YZ s i
 else if ZJ (Qo s i)=true/\Qo s i≠45 then qff s i
 else qdJ s i
def qdp(c:CardC):Nat->Nat->List TokC->List TokC×FaultC
 |0,_,l=>(l,okF)
 |f+1,at0,l=>
  let i:=ZR c.text (ZN l).1 at0
  if c.text.length<=i then(l,okF)
  else
   let a:=atE c i
   let t:=WH c.text i l
   let e:=if t.e=0/\65536<=l.length then 3 else t.e
   if e≠0 then(l,⟨e,a.1,a.2.1⟩)
   else qdp c f (i+t.n) (l++[⟨t.kind,t.text,a.1,a.2.1,decide (a.2.1<12)⟩])
def qap(c:CardC)(l:List TokC):List TokC×FaultC:=if (atE c 0).2.2≠0 then(l,⟨(atE c 0).2.2,0,0⟩)else qdp c (c.text.length+1) 0 l
def qbz:List CardC->List TokC->List TokC×FaultC
 |[],l=>(l,okF)
 |c::r,l=>if (qap c l).2≠okF then([],(qap c l).2)else qbz r (qap c l).1
def qdL(cs:List CardC):List TokC×FaultC:=qbz cs []
def qeA(text:Str)(dbg:Bool):List TokC×FaultC:=if (UD text dbg).2≠okF then([],(UD text dbg).2)else qdL (UD text dbg).1
end Go.Tok
namespace Go.Tok
open Go.Col (Str CardC FaultC okF UD atE)
set_option maxRecDepth 100000
theorem YK{s:Str}{i:Nat}(h:i<s.length):Qo s i=s.getD i 0:=by
 unfold Qo;rw[if_neg (by omega),Vq]
theorem qmT{s:Str}{i:Int}(h:i<0\/(s.length:Int)<=i):Qo s i=32:=by
 unfold Qo;rw[if_pos h]
theorem qbB{s:Str}{i:Nat}(h:Qo s i≠32):i<s.length:=by
 by_cases q:i<s.length
 ·exact q
 ·exact absurd (qmT (.inr (by omega))) h
theorem qcZ(s:Str)(i:Nat)(p:UInt8->Bool)(hi:i<=s.length):i+WG s i p<=s.length:=by
 unfold WG;have h1:((s.drop i).takeWhile p).length<=(s.drop i).length:=(Vr p).length_le;rw[K5]at h1;omega
theorem qiC(s:Str)(i:Nat)(p:UInt8->Bool):WG s i p<=s.length:=by
 unfold WG;have h1:((s.drop i).takeWhile p).length<=(s.drop i).length:=(Vr p).length_le;rw[K5]at h1;omega
theorem qdn{s:Str}{i:Nat}(h:i<s.length):s.drop i=s.getD i 0::s.drop (i+1):=by
 rw[J4 h];simp[Kn,Jz h]
theorem qcv(s:Str)(i:Nat)(p:UInt8->Bool):WG s i p=if i<s.length/\p (s.getD i 0)=true then WG s (i+1) p+1 else 0:=by
 by_cases h:i<s.length
 ·unfold WG
  rw[qdn h,List.takeWhile_cons];by_cases hp:p (s.getD i 0)=true
  ·rw[if_pos hp,if_pos ⟨h,hp⟩]
   rfl
  ·rw[if_neg hp,if_neg (fun e=>hp e.2)]
   rfl
 ·rw[if_neg (fun e=>h e.1)]
  unfold WG;rw[Vt (by omega)];rfl
theorem qfW{s:Str}{i:Nat}{p:UInt8->Bool}(h:i<s.length)(hp:p (s.getD i 0)=true):0<WG s i p:=by
 rw[qcv,if_pos ⟨h,hp⟩];omega
theorem qiD{s:Str}{p:UInt8->Bool}:∀{n i:Nat},n<=WG s i p->∀j,j<n->p (s.getD (i+j) 0)=true
 |0,_,_,j,hj=>by omega
 |n+1,i,h,j,hj=>by
  rw[qcv]at h;by_cases q:i<s.length/\p (s.getD i 0)=true
  ·rw[if_pos q]at h
   cases j with
   |zero=>exact q.2
   |succ j=>rw[show i+(j+1)=(i+1)+j by omega];exact qiD (n:=n) (by omega) j (by omega)
  ·rw[if_neg q]at h
   omega
theorem qkp{s:Str}{p:UInt8->Bool}:∀{f i:Nat},s.length<=i+f->i+WG s i p<s.length->p (s.getD (i+WG s i p) 0)=false
 |0,i,h,h2=>by omega
 |f+1,i,h,h2=>by
  by_cases q:i<s.length/\p (s.getD i 0)=true
  ·have e:WG s i p=WG s (i+1) p+1:=by rw[qcv,if_pos q]
   rw[e]at h2|-
   rw[show i+(WG s (i+1) p+1)=(i+1)+WG s (i+1) p by omega];exact qkp (f:=f) (by omega) (by omega)
  ·have e:WG s i p=0:=by rw[qcv,if_neg q]
   rw[e]at h2|-
   rw[K6];cases hp:p (s.getD i 0)with
   |false=>rfl
   |true=>exact absurd ⟨by omega,hp⟩ q
theorem qiv{s:Str}{i n:Nat}(h:i<s.length)(hn:0<n):((s.drop i).take n).getD 0 0=s.getD i 0/\(s.drop i).take n≠[]:=by
 rw[qdn h];cases n with
 |zero=>omega
 |succ n=>exact⟨rfl,by simp⟩
theorem qkK{s:Str}{i n:Nat}(h:i<s.length)(hn:0<n):(YE ((s.drop i).take n)).getD 0 0=qee (s.getD i 0)/\YE ((s.drop i).take n)≠[]:=by
 rw[qdn h];cases n with
 |zero=>omega
 |succ n=>exact⟨rfl,by simp[YE]⟩
theorem qeL{b:UInt8}(h:b.toNat<97):qee b=b:=by
 unfold qee;rw[if_neg (by omega)]
theorem qoJ{b:UInt8}(h:Yu b=true):b.toNat<97:=by
 unfold Yu at h;simp only[Kw,decide_eq_true_eq]at h;omega
structure NxOk(s:Str)(i:Nat)(t:Nx):Prop where
 n0:0<t.n
 n1:i+t.n<=s.length
 ne:t.text≠[]
 quote:t.kind=3->s.getD i 0=34
 other:t.kind≠3->t.text.getD 0 0=qee (s.getD i 0)
 k0:1<=t.kind.toNat
 k1:t.kind.toNat<=7
theorem qif{s:Str}{i n:Nat}{k:UInt8}(hi:i<s.length)(hn:0<n)(h1:i+n<=s.length)(hk:k≠3)(k0:1<=k.toNat)(k1:k.toNat<=7)(hl:qee (s.getD i 0)=s.getD i 0):NxOk s i (takeE s i k n):=
 ⟨hn,h1,(qiv hi hn).2,fun e=>absurd e hk,fun _=>by rw[hl];exact(qiv hi hn).1,k0,k1⟩
theorem qok{s:Str}{i:Nat}{is:Bool}(hi:i<s.length)(h32:s.getD i 0≠32)(he:(YS s i is).e=0):NxOk s i (YS s i is):=by
 unfold YS at he|-
 by_cases hc:is=true/\YE [Qo s i,Qo s (i+1)]=IS/\ZJ (Qo s (i+2))=false
 ·rw[if_pos hc]at he|-
  have h1:qee (Qo s i)=73/\qee (Qo s (i+1))=83:=by
   have:=hc.2.1;simp only[YE,Kc,Vj,IS,List.cons.injEq,and_true]at this;exact this
  have h2:i+1<s.length:=by
   refine qbB (i:=i+1) fun e=>?_;have:=h1.2;rw[show(i:Int)+1=((i+1:Nat):Int) by omega,e]at this;exact absurd this (by decide)
  rw[YK hi]at h1;exact⟨by decide,by show i+2<=_;omega,by decide,fun e=>absurd e (by decide),fun _=>by rw[h1.1];rfl,by decide,by decide⟩
 ·rw[if_neg hc]at he|-
  simp only at he|-
  have hr:=qcZ s i (fun b=> !decide (b=32)) (by omega);have hp:=qfW (p:=fun b=> !decide (b=32)) hi (by simpa using h32);generalize WG s i (fun b=> !decide (b=32))=n0 at he hr hp|-
  generalize hm:(if qao (Qo s ((i:Int)+(n0:Int)-1))=true then(n0:Int)-1 else(n0:Int))=m at he|-
  have hm0:0<=m/\m<=n0:=by rw[<-hm];split<;>omega
  by_cases h1:m=0\/qao (Qo s ((i:Int)+m-1))=true
  ·rw[if_pos h1]at he
   exact absurd he (by simp[Nx.err])
  ·rw[if_neg h1]at he|-
   by_cases h2:(YE ((s.drop i).take m.toNat)).contains 34=true
   ·rw[if_pos h2]at he
    exact absurd he (by simp[Nx.err])
   ·rw[if_neg h2]
    have hn:0<m.toNat/\i+m.toNat<=s.length:=by
     have h3:¬m=0:=fun e=>h1 (Or.inl e);omega
    have:=qkK hi hn.1;exact⟨hn.1,hn.2,this.2,fun e=>absurd e (show ¬(4:UInt8)=3 by decide),fun _=>this.1,show 1<=(4:UInt8).toNat by decide,show(4:UInt8).toNat<=7 by decide⟩
theorem qdP(acc:Str)(n:Nat):Zr [] acc n= .err 4:=by rw[Zr]
theorem qaG{b:UInt8}(hb:b≠34)(s acc:Str)(n:Nat):Zr (b::s) acc n=Zr s (acc++[b]) (n+1):=by
 conv=>lhs;unfold Zr
 rw[if_neg hb]
theorem qdO(r acc:Str)(n:Nat):Zr (34::34::r) acc n=Zr r (acc++[34]) (n+2):=by
 rw[Zr,if_pos rfl]
theorem qdR{s:Str}(hs:s.head?≠some 34)(acc:Str)(n:Nat):Zr (34::s) acc n=if acc=[]then .err 4 else⟨3,acc,n+1,0⟩:=by
 cases s with
 |nil=>rfl
 |cons c r=>
  have hc:c≠34:=fun e=>hs (by rw[e];rfl);rw[Zr,if_pos rfl];intro r e;injection e with e1 _;exact hc e1
theorem qhC(P:UInt8->Str->Prop)(h1:∀b s,b≠34->P b s)(h2:∀r,P 34 (34::r))(h3:∀s:Str,s.head?≠some 34->P 34 s)(b:UInt8)(s:Str):P b s:=by
 by_cases hb:b=34
 ·subst hb
  by_cases hs:s.head?=some 34
  ·cases s with
   |nil=>cases hs
   |cons c r=>
    simp only[List.head?_cons,Option.some.injEq]at hs;subst hs;exact h2 r
  ·exact h3 s hs
 ·exact h1 b s hb
theorem qfn:∀(k:Nat) (r acc:Str) (n:Nat),r.length<=k->(Zr r acc n).e=0->n<(Zr r acc n).n/\(Zr r acc n).n<=n+r.length/\(Zr r acc n).text≠[]/\(Zr r acc n).kind=3
 |_,[],acc,n,_,he=>absurd he (by rw[qdP];simp[Nx.err])
 |0,b::s,acc,n,hk,he=>by simp at hk
 |k+1,b::s,acc,n,hk,he=>by
  revert he hk;refine qhC (fun b s=>(b::s).length<=k+1->(Zr (b::s) acc n).e=0->n<(Zr (b::s) acc n).n/\(Zr (b::s) acc n).n<=n+(b::s).length/\(Zr (b::s) acc n).text≠[]/\(Zr (b::s) acc n).kind=3) ?_ ?_ ?_ b s
  ·intro b s hb hk he
   rw[qaG hb]at he|-
   have:=qfn k s (acc++[b]) (n+1) (by simp at hk;omega) he;simp only[KX];exact⟨by omega,by omega,this.2.2⟩
  ·intro r hk he
   rw[qdO]at he|-
   have:=qfn k r (acc++[34]) (n+2) (by simp at hk;omega) he;simp only[KX];exact⟨by omega,by omega,this.2.2⟩
  ·intro s hs hk he
   rw[qdR hs]at he|-
   by_cases ha:acc=[]
   ·rw[if_pos ha]at he
    exact absurd he (by simp[Nx.err])
   ·rw[if_neg ha]
    exact⟨Nat.lt_succ_self n,by simp,ha,rfl⟩
theorem qsR{s:Str}{i:Nat}(hi:i<s.length)(h34:s.getD i 0=34)(he:(qaO s i).e=0):NxOk s i (qaO s i):=by
 unfold qaO at he|-
 have:=qfn _ _ _ _ (KJ _) he;rw[K5]at this;refine⟨by omega,by omega,this.2.2.1,fun _=>h34,fun e=>absurd this.2.2.2 e,?_,?_⟩<;>rw[this.2.2.2]<;>decide
theorem numF_pos{w1 w2 sg:Bool}{d0 d:Nat}{t:Nx}(hn:0<(qhZ w1 w2 sg d0 d t).n):qhZ w1 w2 sg d0 d t=t/\¬(0<d0/\w1=true)/\d≠0/\w2=false/\d<=18:=by
 unfold qhZ at hn|-
 by_cases c1:0<d0/\w1=true
 ·rw[if_pos c1]at hn
  split at hn<;>exact absurd hn (by simp[Nx.err])
 rw[if_neg c1]at hn|-
 by_cases c2:d=0
 ·rw[if_pos c2]at hn
  exact absurd hn (by simp[Nx.err])
 rw[if_neg c2]at hn|-
 by_cases c3:w2=true
 ·rw[if_pos c3]at hn
  exact absurd hn (by simp[Nx.err])
 rw[if_neg c3]at hn|-
 by_cases c4:18<d
 ·rw[if_pos c4]at hn
  exact absurd hn (by simp[Nx.err])
 rw[if_neg c4];exact⟨rfl,c1,c2,by simpa using c3,by omega⟩
theorem qmD{s:Str}{i:Nat}(h:Wu s i=true):Qo s i=43\/Qo s i=45:=by
 unfold Wu at h;simp only[Kw,JV,decide_eq_true_eq]at h;exact h.1
theorem dot_at{s:Str}{i:Nat}(h:qnr s i=true):Qo s ((i:Int)+(n1E s i:Nat))=46/\Yu (Qo s ((i:Int)+(n1E s i:Nat)+1))=true/\i+n1E s i<s.length:=by
 unfold qnr at h;simp only[Kw,decide_eq_true_eq]at h;refine⟨h.1,h.2,qbB (i:=i+n1E s i) ?_⟩;rw[show((i+n1E s i:Nat):Int)=i+((n1E s i:Nat):Int) by omega,h.1];decide
theorem n1_le{s:Str}{i:Nat}(hi:i<s.length):i+n1E s i<=s.length:=by
 have h0:=qcZ s (i+(Wu s i).toNat) Yu (by have:=Bool.toNat_le (Wu s i);omega);unfold n1E d0E;omega
theorem qkv{s:Str}{i:Nat}(hi:i<s.length):i+WO s i<=s.length:=by
 unfold WO;split
 ·rename_i h
  have:=(dot_at h).2.2;have:=qcZ s (i+n1E s i+1) Yu (by omega);unfold qbG;omega
 ·exact n1_le hi
theorem qop{s:Str}{i:Nat}(h:qbE s i≠0):0<WO s i:=by
 unfold qbE at h;unfold WO;split
 ·omega
 ·rename_i c
  rw[if_neg c]at h;unfold n1E;omega
theorem qrB{s:Str}{i:Nat}(hi:i<s.length)(hn:0<(YZ s i).n):NxOk s i (YZ s i):=by
 unfold YZ at hn|-
 obtain⟨e,c1,c2,c3,c4⟩:=numF_pos hn;rw[e];refine qif hi (qop c2) (qkv hi) (by decide) (by decide) (by decide) (qeL ?_);by_cases hs:Wu s i=true
 ·have:=qmD hs
  rw[YK hi]at this;rcases this with e|e<;>rw[e]<;>decide
 ·have hs:Wu s i=false:=by simpa using hs
  by_cases hd:0<d0E s i
  ·unfold d0E at hd
   rw[hs]at hd;exact qoJ (by have:=qiD (n:=1) (i:=i+0) hd 0 (by omega);simpa using this)
  ·have hq:qnr s i=true:=by
    cases hq:qnr s i with
    |true=>rfl
    |false=>
     unfold qbE at c2;rw[hq]at c2;simp at c2;omega
   have:=(dot_at hq).1;have e9:n1E s i=0:=by
    unfold n1E;rw[hs];simp;omega
   rw[e9]at this;simp only[Vu,Int.add_zero]at this;rw[YK hi]at this;rw[this];decide
theorem name_ok{s:Str}{i:Nat}(hi:i<s.length)(hw:ZJ (s.getD i 0)=true)(he:(qff s i).e=0):NxOk s i (qff s i):=by
 unfold qff at he|-
 simp only at he|-
 have hp:=qfW hi hw;have hr:=qcZ s i ZJ (by omega);have:=qkK hi hp;generalize WG s i ZJ=n at he hp hr this|-
 by_cases c1:((YE ((s.drop i).take n)).all fun b=>Yu b||decide (b=45))=true\/(YE ((s.drop i).take n)).getD 0 0=45\/(YE ((s.drop i).take n)).getD (n-1) 0=45
 ·rw[if_pos c1]at he
  exact absurd he (by simp[Nx.err])
 rw[if_neg c1]at he|-
 by_cases c2:30<n
 ·rw[if_pos c2]at he
  exact absurd he (by simp[Nx.err])
 rw[if_neg c2];exact⟨hp,hr,this.2,fun e=>absurd e (show ¬(1:UInt8)=3 by decide),fun _=>this.1,show 1<=(1:UInt8).toNat by decide,show(1:UInt8).toNat<=7 by decide⟩
theorem sign_ok{s:Str}{i:Nat}(hi:i<s.length)(he:(qdJ s i).e=0):NxOk s i (qdJ s i):=by
 unfold qdJ at he|-
 split at he
 ·rename_i g hg
  have hm:=List.mem_of_find?_eq_some hg;have hp:=List.find?_some hg;have hpre:=Vv.1 hp;have hlen:=hpre.length_le;rw[K5]at hlen;obtain⟨r,hr⟩:=hpre;rw[qdn hi]at hr;have key:∀g∈signs,0<g.length/\(g.getD 0 0).toNat<97:=by decide
  obtain⟨k1,k2⟩:=key g hm;refine qif hi k1 (by omega) (by decide) (by decide) (by decide) (qeL ?_);cases g with
  |nil=>simp at k1
  |cons x g=>
   simp only[Kg,List.cons.injEq]at hr;rw[<-hr.1];exact k2
 ·exact absurd he (by decide)
theorem next_ok{s:Str}{i:Nat}{l:List TokC}(hi:i<s.length)(h32:s.getD i 0≠32)(he:(WH s i l).e=0):NxOk s i (WH s i l):=by
 unfold WH at he|-
 simp only at he|-
 split at he
 ·rename_i c
  rw[if_pos c];exact qok hi h32 he
 rename_i c1
 rw[if_neg c1];split at he
 ·rename_i c
  rw[if_pos c];rw[YK hi]at c;exact qsR hi c he
 rename_i c2
 rw[if_neg c2];split at he
 ·rename_i c
  rw[if_pos c];rw[YK hi]at c;exact qif hi (by decide) (by omega) (by decide) (by decide) (by decide) (qeL (by rw[c.1];decide))
 rename_i c3
 rw[if_neg c3];split at he
 ·rename_i c
  rw[if_pos c];have hpre:=Vv.1 c;have hlen:=hpre.length_le;rw[K5]at hlen;obtain⟨r,hr⟩:=hpre;rw[qdn hi]at hr;simp only[Kg,List.cons.injEq]at hr;exact qif hi (by decide) (by simp at hlen;omega) (by decide) (by decide) (by decide) (qeL (by rw[<-hr.1];decide))
 rename_i c4
 rw[if_neg c4];split at he
 ·rename_i c
  rw[if_pos c];exact qrB hi (c.resolve_right (fun q=>q he))
 rename_i c5
 rw[if_neg c5];split at he
 ·rename_i c
  rw[if_pos c];rw[YK hi]at c;exact name_ok hi c.1 he
 rename_i c6
 rw[if_neg c6];exact sign_ok hi he
theorem qdc:∀(k:Nat) (r acc:Str) (n:Nat),r.length<=k->(Zr r acc n).text.length<=acc.length+r.length
 |_,[],acc,n,_=>by rw[qdP];simp[Nx.err]
 |0,b::s,acc,n,hk=>by simp at hk
 |k+1,b::s,acc,n,hk=>by
  revert hk;refine qhC (fun b s=>(b::s).length<=k+1->(Zr (b::s) acc n).text.length<=acc.length+(b::s).length) ?_ ?_ ?_ b s
  ·intro b s hb hk
   rw[qaG hb];have:=qdc k s (acc++[b]) (n+1) (by simp at hk;omega);simp only[Jb,KX,J8]at this|-
   omega
  ·intro r hk
   rw[qdO];have:=qdc k r (acc++[34]) (n+2) (by simp at hk;omega);simp only[Jb,KX,J8]at this|-
   omega
  ·intro s hs hk
   rw[qdR hs];split
   ·simp[Nx.err]
   ·simp only[KX]
    omega
theorem qez(s:Str)(i n:Nat)(k:UInt8):(takeE s i k n).text.length<=s.length:=by
 show((s.drop i).take n).length<=_
 rw[K4,K5];omega
theorem qrE(s:Str)(i:Nat)(l:List TokC)(hi:i<s.length):(WH s i l).text.length<=s.length+2:=by
 unfold WH;simp only;split
 ·unfold YS
  split
  ·show 2<=_
   omega
  ·simp only
   generalize WG s i (fun b=> !decide (b=32))=n0;generalize (if qao (Qo s ((i:Int)+(n0:Int)-1))=true then(n0:Int)-1 else(n0:Int))=m;by_cases h1:m=0\/qao (Qo s ((i:Int)+m-1))=true
   ·rw[if_pos h1];simp[Nx.err]
   ·rw[if_neg h1]
    by_cases h2:(YE ((s.drop i).take m.toNat)).contains 34=true
    ·rw[if_pos h2];simp[Nx.err]
    ·rw[if_neg h2]
     show(Vw qee ((s.drop i).take m.toNat)).length<=_
     rw[Jo,K4,K5];omega
 split
 ·have:=qdc _ (s.drop (i+1)) [] 1 (KJ _)
  rw[K5]at this;unfold qaO;simp only[J8]at this;omega
 split
 ·have:=qez s i 1 6;omega
 split
 ·have:=qez s i 2 7;omega
 split
 ·unfold YZ qhZ
  have:=qez s i (WO s i) 2;repeat' split
  all_goals first|(simp[Nx.err];done)|omega
 split
 ·unfold qff
  simp only;generalize WG s i ZJ=n;by_cases c1:((YE ((s.drop i).take n)).all fun b=>Yu b||decide (b=45))=true\/(YE ((s.drop i).take n)).getD 0 0=45\/(YE ((s.drop i).take n)).getD (n-1) 0=45
  ·rw[if_pos c1];simp[Nx.err]
  rw[if_neg c1];by_cases c2:30<n
  ·rw[if_pos c2];simp[Nx.err]
  rw[if_neg c2];show(Vw qee ((s.drop i).take n)).length<=_
  rw[Jo,K4,K5];omega
 ·unfold qdJ
  split
  ·rename_i g hg
   have:=qez s i g.length 5;omega
  ·simp[Nx.err]
end Go.Tok
namespace Go.Tok
open Go.Col (Str CardC FaultC okF UD atE quotes qch)
set_option maxRecDepth 100000
def skp(s:Str)(next:Bool)(i:Nat):Prop:=Qo s i=32\/(next=false/\qoc (Qo s i)=true/\Qo s (i+1)=32)
instance (s:Str)(next:Bool)(i:Nat):Decidable (skp s next i):=by unfold skp;infer_instance
theorem qas(s:Str)(next:Bool)(i:Nat):ZR s next i=if s.length<=i then i else if skp s next i then ZR s next (i+1)else i:=by
 unfold ZR;by_cases h:s.length<=i
 ·rw[if_pos h,show s.length-i=0 by omega]
  rfl
 ·rw[if_neg h,show s.length-i=(s.length-(i+1))+1 by omega,qoa,if_neg h]
  rfl
theorem qeB(s:Str)(next:Bool)(P:Nat->Nat->Prop)(h0:∀i,s.length<=i->P i i)(h1:∀i,i<s.length->¬skp s next i->P i i)(h2:∀i j,i<s.length->skp s next i->P (i+1) j->P i j):∀(k i:Nat),s.length<=i+k->P i (ZR s next i)
 |0,i,h=>by
  rw[qas,if_pos (by omega)];exact h0 i (by omega)
 |k+1,i,h=>by
  rw[qas];split
  ·exact h0 i (by assumption)
  ·rename_i hl
   split
   ·exact h2 i _ (by omega) (by assumption) (qeB s next P h0 h1 h2 k (i+1) (by omega))
   ·exact h1 i (by omega) (by assumption)
theorem qdI(s:Str)(next:Bool)(i:Nat):i<=ZR s next i:=
 qeB s next (fun i j=>i<=j) (fun _ _=>KJ _) (fun _ _ _=>KJ _) (fun _ _ _ _ h=>by omega) s.length i (by omega)
theorem qmC(s:Str)(next:Bool)(i:Nat)(hi:i<=s.length):ZR s next i<=s.length:=
 qeB s next (fun i j=>i<=s.length->j<=s.length) (fun _ _ h=>h) (fun _ _ _ h=>h) (fun _ _ _ _ h _=>h (by omega)) s.length i (by omega) hi
theorem qob{s:Str}{next:Bool}{i:Nat}(h:ZR s next i<s.length):¬skp s next (ZR s next i):=
 qeB s next (fun _ j=>j<s.length->¬skp s next j) (fun _ h1 h2=>by omega) (fun _ _ h _=>h) (fun _ _ _ _ h=>h) s.length i (by omega) h
theorem qrc{s:Str}{i:Nat}(h:Qo s i≠32):0<WG s i (fun b=> !decide (b=32)):=by
 have hi:=qbB h;rw[YK hi]at h;exact qfW hi (by simpa using h)
end Go.Tok
namespace Go.Tok
open Go.Col (Str CardC FaultC okF UD atE quotes qch)
set_option maxRecDepth 100000
def kt(t:TokC):UInt8×Str:=(t.kind,t.text)
def qgu(t:Nx)(n:Nat):Int:=if t.e=0/\65536<=n then 3 else t.e
theorem qgt{t:Nx}{n:Nat}(h:qgu t n=0):t.e=0:=by
 unfold qgu at h;split at h
 ·exact absurd h (by decide)
 ·exact h
theorem qiz{s:Str}{next:Bool}{i:Nat}(h:ZR s next i<s.length):Qo s (ZR s next i)≠32:=fun e=>qob h (.inl e)
theorem qmZ{s:Str}{l:List TokC}{i:Nat}(h:ZR s (ZN l).1 i<s.length)(he:(WH s (ZR s (ZN l).1 i) l).e=0):NxOk s (ZR s (ZN l).1 i) (WH s (ZR s (ZN l).1 i) l):=
 next_ok h (by have:=qiz h;rwa [YK h]at this) he
end Go.Tok
namespace Go.AM
def qfC(fn:Func):Code:=match fn.body with
 |some c=>c
 |none=> .skip
def UL:Nat->Code->Code
 |0,c=>c
 |k+1, .seq _ c=>UL k c
 |_+1,c=>c
def qie:Code->Code
 | .scope c=>c
 |c=>c
def qeH(Q:Exit->Slots->AHeap->Prop):Exit->Slots->AHeap->Prop
 | .goto _,_,_=>False
 |e,s,h=>Q e s h
theorem Wd{Q:Exit->Slots->AHeap->Prop}{s:Slots}{h:AHeap}:qeH Q .ret s h=Q .ret s h:=rfl
theorem qlc{P:Program}{wz:World}{n:FrameK}{s:Slots}{h:AHeap}{Q:Exit->Slots->AHeap->Prop}{c:Code}(hc:Awp P wz n c (qeH Q) s h):Awp P wz n (.scope c) Q s h:=
 fun fi a w hr hs=>wp_scope_straight (wp_mono (hc fi a w hr hs) fun e a' w' hq=>by
  rcases hq with⟨Ps,s',h',h1,h2,h3,h4⟩|hq
  ·cases e with
   |goto l=>exact h4.elim
   |normal=>exact .inl ⟨Ps,s',h',h1,h2,h3,h4⟩
   |exit i=>exact .inl ⟨Ps,s',h',h1,h2,h3,h4⟩
   |ret=>exact .inl ⟨Ps,s',h',h1,h2,h3,h4⟩
   |panic c=>exact .inl ⟨Ps,s',h',h1,h2,h3,h4⟩
   |outgrown=>exact .inl ⟨Ps,s',h',h1,h2,h3,h4⟩
  ·cases e with
   |goto l=>exact hq.1.elim
   |normal=>exact hq.1.elim
   |exit i=>exact hq.1.elim
   |ret=>exact .inr hq
   |panic c=>exact .inr hq
   |outgrown=>exact hq.1.elim)
inductive IsL(wz:World)(h:AHeap)(es:Nat):AVal->List (List AVal)->Prop
 |nil:IsL wz h es .nilSlice []
 |mk (l:Loc) (o n:Nat) (c:Cap) (xs:List (List AVal)) (hn:n=xs.length) (hw:∀x∈xs,x.length=es) (hc:qf wz h l o (n*es)=xs.flatten) (hl:allLive xs.flatten=true) (hcap:match c with| .exact c=>n<=c| .grow g=>g=es):IsL wz h es (.slice l o n c) xs
theorem Zp{α:Type}{es:Nat}:∀{xs:List (List α)},(∀x∈xs,x.length=es)->xs.flatten.length=xs.length*es
 |[],_=>by simp
 |x::xs,h=>by
  rw[Vx,Jb,Zp (fun y hy=>h y (Jf _ hy)),h x (Je),KX,Vy,Vz]
theorem qef{α:Type}{es:Nat}:∀{xs:List (List α)},(∀x∈xs,x.length=es)->∀{i j:Nat},i<xs.length->j<es->xs.flatten[i*es+j]?=(xs.getD i [])[j]?
 |[],_,_,_,hi,_=>by simp at hi
 |x::xs,h,0,j,_,hj=>by
  rw[Vx,K7,Jr,List.getElem?_append_left (by rw[h x Je];exact hj)];rfl
 |x::xs,h,i+1,j,hi,hj=>by
  have hx:=h x Je;rw[Vx,VA (by rw[hx,Vy];omega),hx,show(i+1)*es+j-es=i*es+j by rw[Vy];omega,qef (fun y hy=>h y (Jf _ hy)) (by simpa using hi) hj];rfl
theorem qgm{α:Type}{es:Nat}:∀{xs:List (List α)},(∀x∈xs,x.length=es)->∀i,xs.flatten.drop (i*es)=(xs.drop i).flatten
 |xs,_,0=>by simp
 |[],_,i+1=>by simp
 |x::xs,h,i+1=>by
  have hx:=h x Je;rw[Vx,VB,<-qgm (fun y hy=>h y (Jf _ hy)) i,Vy,List.drop_append,VC (by omega),Jd,show i*es+es-x.length=i*es by omega]
theorem qgl{α:Type}{es:Nat}:∀{xs:List (List α)},(∀x∈xs,x.length=es)->∀i,xs.flatten.take (i*es)=(xs.take i).flatten
 |xs,_,0=>by simp
 |[],_,i+1=>by simp
 |x::xs,h,i+1=>by
  have hx:=h x Je;rw[Vx,Kh,Vx,<-qgl (fun y hy=>h y (Jf _ hy)) i,Vy,Vz,List.take_append,Jq (by omega),show es+i*es-x.length=i*es by omega]
theorem qai:∀(a c:List AVal),allLive (a++c)=(allLive a && allLive c)
 |[],_=>rfl
 |x::a,c=>by simp[allLive,qai a c,Vo]
theorem Yc:∀{xs:List (List AVal)},allLive xs.flatten=true↔∀x∈xs,allLive x=true
 |[]=>by simp[allLive]
 |x::xs=>by
  rw[Vx,qai,Kw,Yc];simp
theorem qep:∀(a c:List AVal),QG (a++c)=(QG a && QG c)
 |[],_=>rfl
 |x::a,c=>by simp[QG,qep a c,Vo]
theorem WV:∀{xs:List (List AVal)},QG xs.flatten=true↔∀x∈xs,QG x=true
 |[]=>by simp[QG]
 |x::xs=>by
  rw[Vx,qep,Kw,WV];simp
theorem YF{x:AVal}(h:x.scal=true):x.live=true:=by cases x<;>first|rfl|cases h
def qfR(es:Nat):AVal->Nat->Nat->AVal
 | .slice l o _ (.exact c),i,j=> .slice l (o+i*es) (j-i) (.exact (c-i))
 | .slice l o _ (.grow g),i,j=> .slice l (o+i*es) (j-i) (.grow g)
 |v,_,_=>v
section
variable {P:Program} {wz:World} {h:AHeap} {es:Nat} {v:AVal} {xs:List (List AVal)}
theorem IsL.live(hb:IsL wz h es v xs):v.live=true:=by cases hb<;>rfl
theorem IsL.scal(hb:IsL wz h es v xs):v.scal=true:=by cases hb<;>rfl
theorem IsL.cells(hb:IsL wz h es v xs):v.cells=[v]:=by cases hb<;>rfl
theorem IsL.wide(hb:IsL wz h es v xs):∀x∈xs,x.length=es:=by
 cases hb with
 |nil=>simp
 |mk l o n c xs hn hw hc hl hcap=>exact hw
theorem IsL.allLive(hb:IsL wz h es v xs):allLive xs.flatten=true:=by
 cases hb with
 |nil=>rfl
 |mk l o n c xs hn hw hc hl hcap=>exact hl
theorem IsL.len(hb:IsL wz h es v xs){t e:TypeId}(ht:P.underlying t=some (.slice e)):∀H:AHeap,Yn P H t v=⟨True, .int .i64 xs.length⟩:=by
 intro H;cases hb with
 |nil=>simp[Yn,UK,qiO,ht]
 |mk l o n c xs hn hw hc hl hcap=>simp[Yn,UK,qiO,ht,hn]
theorem IsL.open(hb:IsL wz h es v xs)(hx:xs≠[]):∃l o c,v= .slice l o xs.length c:=by
 cases hb with
 |nil=>exact absurd rfl hx
 |mk l o n c xs hn hw hc hl hcap=>subst hn;exact⟨l,o,c,rfl⟩
theorem IsL.open'(hb:IsL wz h es v xs):(v= .nilSlice/\xs=[])\/∃l o c,v= .slice l o xs.length c:=by
 cases hb with
 |nil=>exact .inl ⟨rfl,rfl⟩
 |mk l o n c xs hn hw hc hl hcap=>subst hn;exact .inr ⟨l,o,c,rfl⟩
theorem IsL.part{l:Loc}{o n:Nat}{c:Cap}(hb:IsL wz h es (.slice l o n c) xs){i j:Nat}(hij:i<=j)(hj:j<=xs.length):qf wz h l (o+i*es) ((j-i)*es)=((xs.drop i).take (j-i)).flatten:=by
 cases hb with
 |mk l o n c xs hn hw hc hl hcap=>
  subst hn;have h1:i*es<=j*es:=K8 _ hij;have h2:j*es<=xs.length*es:=K8 _ hj;rw[Nat.sub_mul,qgC wz h l o (xs.length*es) (i*es) (j*es) h1 h2,hc,qgm hw,<-Nat.sub_mul,qgl (fun y hy=>hw y (VD hy))]
theorem IsL.elem{l:Loc}{o n:Nat}{c:Cap}(hb:IsL wz h es (.slice l o n c) xs){i:Nat}(hi:i<xs.length):qf wz h l (o+i*es) es=xs.getD i []:=by
 have:=hb.part (i:=i) (j:=i+1) (by omega) hi;rw[show i+1-i=1 by omega,Nat.one_mul]at this;rw[this,List.take_one,List.head?_drop,Jz hi];simp[Kn,hi]
theorem IsL.at{l:Loc}{o n:Nat}{c:Cap}(hb:IsL wz h es (.slice l o n c) xs){i j:Nat}(hi:i<xs.length)(hj:j<es):rd wz h l (o+i*es+j)=(xs.getD i []).getD j .dead:=by
 have:=UU wz h l es (o+i*es) j hj;rw[hb.elem hi]at this;rw[Kn,this];rfl
theorem IsL.at0{l:Loc}{o n:Nat}{c:Cap}(hb:IsL wz h es (.slice l o n c) xs){i:Nat}(hi:i<xs.length)(hj:0<es):rd wz h l (o+i*es)=(xs.getD i []).getD 0 .dead:=hb.at (j:=0) hi hj
theorem IsL.sub(hb:IsL wz h es v xs){i j:Nat}(hij:i<=j)(hj:j<=xs.length):IsL wz h es (qfR es v i j) ((xs.drop i).take (j-i)):=by
 have hb':=hb;cases hb with
 |nil=>
  simp only[qfR,List.drop_nil,List.take_nil];exact .nil
 |mk l o n c xs hn hw hc hl hcap=>
  subst hn;have e1:=hb'.part hij hj;have e2:AM.allLive ((xs.drop i).take (j-i)).flatten=true:=Yc.2 fun x hx=>Yc.1 hl x (VD (VE hx));cases c with
  |exact c=>exact .mk l _ _ _ _ (by simp;omega) (fun x hx=>hw x (VD (VE hx))) e1 e2 (by simp only at hcap|-;omega)
  |grow g=>exact .mk l _ _ _ _ (by simp;omega) (fun x hx=>hw x (VD (VE hx))) e1 e2 hcap
theorem IsL.slice(hb:IsL wz h es v xs){t e:TypeId}(ht:P.underlying t=some (.slice e))(hs:ZP P e=some es)(lo hi:Option AVal){l r:Int}(hl:qbo lo 0=some l)(hr:qbo hi xs.length=some r)
 (h0:0<=l) (h1:l<=r) (h2:r<=xs.length):Yt P t v lo hi none=⟨True,qfR es v l.toNat r.toNat⟩:=by
 cases hb with
 |nil=>
  simp only[J8]at h2 hr;have e1:l=0:=by omega
  have e2:r=0:=by omega
  subst e1 e2;simp only[Yt,ht,hs,hl,hr,qfR,and_self]
 |mk lc o n c xs hn hw hc hl' hcap=>
  subst hn;have e:(r-l).toNat=r.toNat-l.toNat:=by omega
  cases c with
  |exact c=>
   simp only at hcap;have e3:((c:Int)-l).toNat=c-l.toNat:=by omega
   have e4:r<=c:=by omega
   simp only[Yt,ht,hs,hl,hr,qfR,e,e3,h0,h1,e4,and_self]
  |grow g=>
   simp only at hcap;subst hcap;simp only[Yt,ht,hs,hl,hr,qfR,e,h0,h1,h2,and_self]
def Yd:AVal->AVal
 | .slice l o n _=> .slice l o n (.exact n)
 |v=>v
theorem IsL.clip(hb:IsL wz h es v xs):IsL wz h es (Yd v) xs:=by
 cases hb with
 |nil=>exact .nil
 |mk l o n c xs hn hw hc hl hcap=>exact .mk l o n _ xs hn hw hc hl (KJ _)
theorem IsL.slice3(hb:IsL wz h es v xs){t e:TypeId}(ht:P.underlying t=some (.slice e))(hs:ZP P e=some es)(k k':IntKind)(lo:Option AVal)(hl:qbo lo 0=some 0):Yt P t v lo (some (.int k xs.length)) (some (.int k' xs.length))=⟨True,Yd v⟩:=by
 cases hb with
 |nil=>simp only[Yt,ht,hs,hl,UH,Yd,J8,JJ,Vu,and_self]
 |mk lc o n c xs hn hw hc hl' hcap=>
  subst hn;have z0:(0:Int).toNat=0:=rfl;have e1:((xs.length:Int)-0).toNat=xs.length:=by omega
  cases c with
  |exact c=>
   simp only at hcap;have e4:(xs.length:Int)<=c:=by omega
   simp only[Yt,ht,hs,hl,UH,Yd,z0,e1,K7,K6,JJ,e4,VF,Int.le_refl,and_self]
  |grow g=>simp only[Yt,ht,hs,hl,UH,Yd,z0,e1,K7,K6,JJ,VF,Int.le_refl,and_self]
theorem qgD{l:Loc}{h h':AHeap}(hs:Sub h h'):∀(m o:Nat),allLive (qf wz h l o m)=true->qf wz h' l o m=qf wz h l o m:=by
 intro m;induction m with
 |zero=>intro o _;rfl
 |succ m ih=>
  intro o hl;simp only[qf,AM.allLive,Kw]at hl|-
  rw[ih _ hl.2];congr 1;cases l with
  |base b=>rfl
  |own k=>
   have hl1:=hl.1;unfold AM.rd at hl1|-
   cases hk:h k with
   |none=>simp[hk,JN]at hl1
   |some b=>simp only[hk,hs k b hk]
theorem IsL.mono(hb:IsL wz h es v xs){h':AHeap}(hs:Sub h h'):IsL wz h' es v xs:=by
 cases hb with
 |nil=>exact .nil
 |mk l o n c xs hn hw hc hl hcap=>exact .mk l o n c xs hn hw ((qgD hs _ _ (by rw[hc];exact hl)).trans hc) hl hcap
theorem IsL.own{k:Nat}{b:Blk}(hk:h k=some b)(hw:∀x∈xs,x.length=es)(hc:b.cells=xs.flatten)(hl:AM.allLive xs.flatten=true)(c:Cap)(hcap:match c with| .exact c=>xs.length<=c| .grow g=>g=es):IsL wz h es (.slice (.own k) 0 xs.length c) xs:=by
 refine .mk _ _ _ _ _ rfl hw ?_ hl hcap;have e:=Zp hw;rw[qhP hk 0 _ (by rw[hc,e];omega),KP,hc,Jq (by omega)]
theorem IsL.src(hb:IsL wz h es v xs):qcV v=some xs.length/\qcU wz h es xs.length v/\Zw wz h es xs.length v=xs.flatten:=by
 cases hb with
 |nil=>exact⟨rfl,trivial,rfl⟩
 |mk l o n c xs hn hw hc hl hcap=>
  subst hn;refine⟨rfl,?_,hc⟩;show AM.allLive (qf wz h l o (xs.length*es))=true
  rw[hc];exact hl
theorem IsL.buf{hZ:AHeap}{b:Option Buf}(hb:bufOk hZ es b)(hes:0<es)(hc:Ws b=xs.flatten)(hw:∀x∈xs,x.length=es)(hs:Sub (Qv hZ b) h):IsL wz h es (QH es b) xs:=by
 cases b with
 |none=>
  have e:=Zp hw;rw[<-hc]at e;have e0:xs.length*es=0:=by rw[<-e];rfl
  have:xs=[]:=by
   rcases Nat.mul_eq_zero.1 e0 with e1|e1
   ·exact Ke e1
   ·omega
  subst this;exact .nil
 |some b=>
  have hc':b.cells=xs.flatten:=hc;have e:b.cells.length / es=xs.length:=by rw[hc',Zp hw,Vn _ hes]
  show IsL wz h es (.slice (.own b.blk) 0 (b.cells.length / es) (.grow es)) xs
  rw[e];exact IsL.own (hs _ _ (Vd _ _ _)) hw hc' (by rw[<-hc'];exact hb.2.2) (.grow es) rfl
end
theorem qnH{H:AHeap}{es:Nat}{b:Buf}(hb:bufOk H es (some b)){j:Nat}{c:Blk}(hj:H j=some c):j≠b.blk:=fun e=>by
 subst e;have:=hb.1;rw[hj]at this;cases this
theorem ZU{H:AHeap}{es:Nat}{b:Option Buf}(hb:bufOk H es b){j:Nat}{c:Blk}(hj:H j=some c):Qv H b j=some c:=by
 cases b with
 |none=>exact hj
 |some b=>exact(Vb _ _ (qnH hb hj)).trans hj
theorem qfc(wz:World){H:AHeap}{es:Nat}{b:Option Buf}(hb:bufOk H es b){j:Nat}{c:Blk}(hj:H j=some c)(o:Nat):rd wz (Qv H b) (.own j) o=c.cells.getD o .dead:=Qz wz (ZU hb hj) o
theorem Wp{H:AHeap}{es:Nat}{b:Option Buf}(hb:bufOk H es b){j:Nat}{c:Blk}(hj:H j=some c)(c':Blk):(Qv H b).set j c'=Qv (H.set j c') b:=by
 cases b with
 |none=>rfl
 |some b=>exact(Vi _ _ _ (Ne.symm (qnH hb hj))).symm
theorem ZT{H:AHeap}{es:Nat}{b:Option Buf}(hb:bufOk H es b){j:Nat}{c:Blk}(hj:H j=some c)(c':Blk):bufOk (H.set j c') es b:=by
 cases b with
 |none=>trivial
 |some b=>
  refine⟨?_,hb.2⟩;rw[Vb _ _ (Ne.symm (qnH hb hj))];exact hb.1
theorem qgk{D E:List AVal}{m:Nat}(h:D.length=m)(j:Nat):(D++E).getD (m+j) .dead=E.getD j .dead:=by
 simp only[Kn];rw[VA (by omega),show m+j-D.length=j by omega]
theorem qct{D:List AVal}{m:Nat}(h:D.length=m):∀(vs E:List AVal) (j:Nat),setAt (D++E) (m+j) vs=D++setAt E j vs
 |[],_,_=>rfl
 |v::vs,E,j=>by
  simp only[setAt];rw[VG _ _ (by omega),show m+j-D.length=j by omega,Nat.add_assoc,qct h vs]
section
variable {α:Type} {wz:World} {h:AHeap} {es:Nat} {v:AVal} {enc:α->List AVal} {ys:List α}
theorem getD_map(d:α){i:Nat}(hi:i<ys.length):(ys.map enc).getD i []=enc (ys.getD i d):=by
 simp[Kn,hi]
end
section
variable {P:Program} {wz:World} {ops rest:List Oper} {s:Slots} {h:AHeap} {K:Slots->AHeap->Prop} {dst:Option Tmp} {ty:TypeId} {pos:String} {af:Array Edge}
theorem qhu{r:PR}:agL P wz ops rest s h K dst (.bool true) false r=QB P wz ops rest (putD s dst (.tuple [])) h K:=by
 unfold agL agP;simp[Wo,Xa,Qw]
theorem qso{r:PR}:agL P wz ops rest s h K dst (.bool false) true r=QB P wz ops rest (putD s dst (.tuple [])) h K:=by
 unfold agL agP;simp[Wo,Xa,Qw]
theorem Xw{ts:Array TypeId}{t u e:TypeId}{d:TypeDesc}{x y:Operand}{v:AVal}{es by':Nat}{z:Value}{zs xs:List (List AVal)}{hZ:AHeap}{b:Option Buf}
 (h0:ts[0]?=some t) (h1:ts[1]?=some u) (ht:P.underlying t=some (.slice e)) (hu:P.underlying u=some d) (hd:∀k,d≠ .int k)
 (hs:ZP P e=some es) (hb:qfB P e=some by') (hz:Uc P e=some z) (hzs:z.cells.size=es) (hes:es≠0)
 (hx:ev s x=QH es b) (hok:bufOk hZ es b) (hbz:Ws b=zs.flatten) (hzw:∀x∈zs,x.length=es) (hh:Sub (Qv hZ b) h) (hy:ev s y=v) (hv:IsL wz h es v xs) (hsc:QG xs.flatten=true)
 (hl:(zs.length+xs.length)*by'<=140737488355328) (hl':zs.length+xs.length<4611686018427387904)
 (hk:∀b' h',bufOk hZ es b'->Ws b'=(zs++xs).flatten->Sub (Qv hZ b') h'->QB P wz ops rest (putD s dst (QH es b')) h' K):
 QB P wz ops (⟨dst, .call ⟨.builtin .append,[x,y].toArray,ts⟩,ty,pos,af,none⟩::rest) s h K:=by
 obtain⟨s1,s2,s3⟩:=hv.src;have e:(Ws b).length / es=zs.length:=by rw[hbz,Zp hzw,Vn _ (Vm hes)]
 refine qjT (es:=es) (src:=xs.flatten) (m:=xs.length) h0 h1 ht hu hd hs hb hz hzs hes hx hok hh hy s1 s2 s3 (Zp hv.wide) hsc hv.allLive (by rw[e];exact hl) (by rw[e];exact hl') fun b' h' o1 o2 o3=>?_;exact hk b' h' o1 (by rw[o2,hbz,List.flatten_append]) o3
end
end Go.AM
namespace Go.AM
open Go.RowKit (Below)
section
variable {P:Program} {wz:World} {n:FrameK}
def qhc(P:Program)(wz:World)(l:List Oper):Nat->List Oper->Slots->AHeap->(Slots->AHeap->Prop)->Prop
 |_,[],s,h,K=>K s h
 |0,o::r,s,h,K=>QB P wz l (o::r) s h K
 |m+1,o::r,s,h,K=>QB P wz l [o] s h fun s' h'=>Sub h h'/\qhc P wz l m r s' h' K
theorem qbK{l:List Oper}{m:Nat}{s:Slots}{h:AHeap}{K:Slots->AHeap->Prop}:qhc P wz l m [] s h K=K s h:=by cases m<;>rfl
theorem qbt{l:List Oper}{m:Nat}{o:Oper}{r:List Oper}{s:Slots}{h:AHeap}{K:Slots->AHeap->Prop}:qhc P wz l (m+1) (o::r) s h K=QB P wz l [o] s h fun s' h'=>Sub h h'/\qhc P wz l m r s' h' K:=rfl
theorem qrN{l:List Oper}{o:Oper}{r:List Oper}{s:Slots}{h:AHeap}{K:Slots->AHeap->Prop}:qhc P wz l 0 (o::r) s h K=QB P wz l (o::r) s h K:=rfl
theorem AHeap.ne_some{h:AHeap}{k j:Nat}{b:Blk}(hk:h k=none)(hj:h j=some b):k≠j:=fun e=>by subst e;rw[hk]at hj;cases hj
theorem Yv(h:AHeap):Sub h h=True:=eq_true (Vl h)
theorem qjS{l:List Oper}{o:Oper}{r:List Oper}{s:Slots}{h:AHeap}{K:Slots->AHeap->Prop}(ha:QB P wz l (o::r) s h K):QB P wz l [o] s h fun s' h'=>QB P wz l r s' h' K:=by
 simp only[QB]at ha|-
 exact ha
theorem qbR{l:List Oper}{o:Oper}{s:Slots}{h:AHeap}{K K':Slots->AHeap->Prop}(hk:∀s h,K s h->K' s h)(ha:QB P wz l [o] s h K):QB P wz l [o] s h K':=by
 simp only[QB]at ha|-
 split
 ·rename_i hg
  rw[hg]at ha;exact qbL ha fun x h' hx=>hk _ _ hx
 ·rename_i j want hg
  rw[hg]at ha;simp only at ha;split
  ·rename_i hj
   rw[hj]at ha;exact hk _ _ ha
  ·rename_i d hj
   rw[hj]at ha;refine⟨ha.1,?_⟩;have h2:=ha.2;split
   ·rename_i hp
    rw[if_pos hp]at h2;exact⟨h2.1,hk _ _ h2.2⟩
   ·rename_i hp
    rw[if_neg hp]at h2;exact⟨fun e=>qbL (h2.1 e) fun x h' hx=>hk _ _ hx,fun e=>hk _ _ (h2.2 e)⟩
theorem qkJ{l:List Oper}{K K':Slots->AHeap->Prop}(hk:∀s h,K s h->K' s h):∀{r:List Oper} {m:Nat} {s:Slots} {h:AHeap},qhc P wz l m r s h K->qhc P wz l m r s h K'
 |[],m,s,h,ha=>by rw[qbK]at ha|-;exact hk _ _ ha
 |o::r,0,s,h,ha=>awp_rseq.aOps_mono hk ha
 |o::r,m+1,s,h,ha=>qbR (fun s' h' hx=>⟨hx.1,qkJ hk hx.2⟩) ha
def LookOk(Ps:PMap)(n:FrameK)(l:List Oper)(o:Oper)(S:Slots)(a:Act):Prop:=a.tmps.size=n/\a.defers=n.dfr/\∀t∈QE l o,VR Ps (S.get t) (a.tmps.getD t undef)
theorem LookOk.rel{Ps:PMap}{l:List Oper}{o:Oper}{S:Slots}{a:Act}(h:LookOk Ps n l o S a):SRel Ps n (S.keep (QE l o)) a:=by
 refine⟨h.1,h.2.1,fun t=>?_⟩;rw[JQ];by_cases ht:(QE l o).contains t=true
 ·rw[if_pos ht];exact h.2.2 t (by simpa using ht)
 ·rw[if_neg ht];trivial
theorem qjh{Ps:PMap}{l:List Oper}(hall:Xg n l=true){o:Oper}{S:Slots}{a:Act}(h:LookOk Ps n l o S a){j d:Nat}{want:Bool}(hg:o.guard=some (j,want))(hj:qJ l j=some d)(hk:Wo (S.get d)=true):
 Region.wanted o (yielded l.toArray a.tmps)=Xa (S.get d) want:=by
 have hd:(S.keep (QE l o)).get d=S.get d:=by
  rw[JQ,if_pos];simp[QE,hg,hj]
 have:=qeb h.rel l j d hj (qbF l j d hall hj) (by rw[hd];exact hk) want;rw[hd]at this;simp only[Region.wanted,hg];exact this
theorem qhL{l:List Oper}{o:Oper}{j:Nat}{want:Bool}{a:Act}(hg:o.guard=some (j,want))(hj:qJ l j=none):Region.wanted o (yielded l.toArray a.tmps)=false:=by
 have hd:(l.toArray[j]?).bind (·.dst)=none:=by rw[<-hj,Yf];simp
 simp only[Region.wanted,hg,yielded,hd];rfl
theorem qgY{l:List Oper}(hall:Xg n l=true){o:Oper}{S:Slots}{g:AHeap}{K:Slots->AHeap->Prop}(ha:QB P wz l [o] S g K){Ps:PMap}{w:World}{a:Act}(hr:HRel wz Ps g w)(hl:LookOk Ps n l o S a)
 {next:Act->World->Prop} {Q:Exit->Act->World->Prop} (hn:∀ψ' x h' v w',Ps.le ψ'->HRel wz ψ' h' w'->VR ψ' x v->K (putD S o.dst x) h'->next (a.put o.dst v) w'):
 if Region.wanted o (yielded l.toArray a.tmps)=true then o.wp P a w next Q else next (a.put o.dst undef) w:=by
 have hs:=hl.rel;have run:∀(K':AVal->AHeap->Prop),eop P wz g S o.op K'->(∀x h',K' x h'->K (putD S o.dst x) h')->o.wp P a w next Q:=fun K' he hk=>by
  rw[<-qcK (s':=S.keep (QE l o)) o.op (qej fun t ht=>by unfold QE;exact J5 _ ht)]at he;exact qhh o he hr hs fun ψ' x h' v w' e1 e2 e3 e4=>hn ψ' x h' v w' e1 e2 e3 (hk x h' e4)
 have skip:K (putD S o.dst (.tuple [])) g->next (a.put o.dst undef) w:=fun hk=>hn Ps _ g undef w Ps.le_refl hr (Wi Ps) hk;simp only[QB]at ha;cases hg:o.guard with
 |none=>
  simp only[hg]at ha;have hw:Region.wanted o (yielded l.toArray a.tmps)=true:=by simp[Region.wanted,hg]
  rw[if_pos hw];exact run _ ha fun _ _ hk=>hk
 |some gw=>
  obtain⟨j,want⟩:=gw;simp only[hg]at ha;cases hj:qJ l j with
  |none=>
   simp only[hj]at ha;rw[if_neg (by rw[qhL hg hj];decide)];exact skip ha
  |some d=>
   simp only[hj]at ha;obtain⟨hk,ha⟩:=ha;rw[qjh hall hl hg hj hk];split at ha
   ·rename_i hp
    obtain⟨h1,h2⟩:=ha;cases hb:Xa (S.get d) want with
    |true=>
     simp only[hb,Qw,cond_true]at h2;simp only[if_true];exact run (fun x h'=>x=(pop P wz g S o.op).val/\h'=g) ((Uo hp).2 ⟨h1 hb,rfl,rfl⟩) fun x h' ⟨e1,e2⟩=>by subst e1 e2;exact h2
    |false=>
     simp only[hb,Qw,cond_false]at h2;simp only[KV,if_false];exact skip h2
   ·obtain⟨h1,h2⟩:=ha
    cases hb:Xa (S.get d) want with
    |true=>
     simp only[if_true];exact run _ (h1 hb) fun _ _ hk=>hk
    |false=>
     simp only[KV,if_false];exact skip (h2 hb)
def FactR(P:Program)(wz:World)(n:FrameK)(l:List Oper)(g:AHeap)(S:Slots)(o:Oper)(V:AVal):Prop:=
 ∀(Ps:PMap) (w:World) (a:Act) (g':AHeap) (next:Act->World->Prop) (Q:Exit->Act->World->Prop),Sub g g'->HRel wz Ps g' w->LookOk Ps n l o S a->(∀v,VR Ps V v->next (a.put o.dst v) w)->
  if Region.wanted o (yielded l.toArray a.tmps)=true then o.wp P a w next Q else next (a.put o.dst undef) w
theorem FactR.sub{l:List Oper}{g g':AHeap}{S:Slots}{o:Oper}{V:AVal}(h:FactR P wz n l g S o V)(hs:Sub g g'):FactR P wz n l g' S o V:=
 fun Ps w a g₂ next Q h1 h2 h3 h4=>h Ps w a g₂ next Q (Sub.trans hs h1) h2 h3 h4
theorem FactR.slots{l:List Oper}{g:AHeap}{S S':Slots}{o:Oper}{V:AVal}(h:FactR P wz n l g S o V)(hs:∀t∈QE l o,S'.get t=S.get t):FactR P wz n l g S' o V:=
 fun Ps w a g₂ next Q h1 h2 h3 h4=>h Ps w a g₂ next Q h1 h2 ⟨h3.1,h3.2.1,fun t ht=>by rw[<-hs t ht];exact h3.2.2 t ht⟩ h4
theorem qgo{l:List Oper}(hall:Xg n l=true){o:Oper}(hk2:Ya P o.op=2){S:Slots}{g:AHeap}{K:Slots->AHeap->Prop}(ha:QB P wz l [o] S g K):∃V,K (putD S o.dst V) g/\FactR P wz n l g S o V:=by
 have hp:=qoy hk2;have same:pop P wz g (S.keep (QE l o)) o.op=pop P wz g S o.op:=qeF o.op (qej fun t ht=>by unfold QE;exact J5 _ ht);have run:(pop P wz g S o.op).pre->∀(Ps:PMap) (w:World) (a:Act) (g':AHeap) (next:Act->World->Prop) (Q:Exit->Act->World->Prop),Sub g g'->HRel wz Ps g' w->LookOk Ps n l o S a->(∀v,VR Ps (pop P wz g S o.op).val v->next (a.put o.dst v) w)->o.wp P a w next Q:=by
  intro hpre Ps w a g' next Q h1 h2 h3 h4;rw[<-same]at hpre h4;have up:=qsW (g:=g') hk2 (fun k b hb _=>h1 k b hb) h3.rel hpre;rw[<-up]at hpre h4;obtain⟨r,e1,e2⟩:=qiK o hpre h2 h3.rel;exact XK (e1 w (JP w)) (h4 r e2)
 simp only[QB]at ha;cases hg:o.guard with
 |none=>
  simp only[hg]at ha;rw[Uo hp]at ha;refine⟨_,ha.2,fun Ps w a g' next Q h1 h2 h3 h4=>?_⟩;have hw:Region.wanted o (yielded l.toArray a.tmps)=true:=by simp[Region.wanted,hg]
  rw[if_pos hw];exact run ha.1 Ps w a g' next Q h1 h2 h3 h4
 |some gw=>
  obtain⟨j,want⟩:=gw;simp only[hg]at ha;cases hj:qJ l j with
  |none=>
   simp only[hj]at ha;refine⟨_,ha,fun Ps w a g' next Q h1 h2 h3 h4=>?_⟩;rw[if_neg (by rw[qhL hg hj];decide)];exact h4 _ (Wi Ps)
  |some d=>
   simp only[hj]at ha;obtain⟨hk,ha⟩:=ha;rw[if_pos hp]at ha;obtain⟨h1,h2⟩:=ha;refine⟨_,h2,fun Ps w a g' next Q q1 q2 q3 q4=>?_⟩;rw[qjh hall q3 hg hj hk];cases hb:Xa (S.get d) want with
   |true=>
    simp only[hb,Qw,cond_true]at q4;simp only[if_true];exact run (h1 hb) Ps w a g' next Q q1 q2 q3 q4
   |false=>
    simp only[hb,Qw,cond_false]at q4;simp only[KV,if_false];exact q4 _ (Wi Ps)
def Zk(l:List Oper)(π:List Nat):List Oper:=π.filterMap fun i=>l[i]?
def isF(P:Program)(l:List Oper)(i:Nat):Bool:=match l[i]? with
 |some o=>Ya P o.op==2
 |none=>true
def qlM(P:Program)(l:List Oper)(π:List Nat)(ws:List (Option Nat))(m:Nat):Bool:=
 WN l && (π.all fun i=>decide (i<l.length)) && ((KO l.length).all fun i=>π.contains i) &&
 ((KO π.length).all fun q=>(KO π.length).all fun r=>decide (q=r)|| !(π.getD q 0==π.getD r 0)) &&
 ((KO π.length).all fun q=>match ws.getD q none with
   |none=>(KO q).all fun c=>isF P l (π.getD c 0)
   |some r=>decide (r<q) && Region.waitsFor .any l.toArray (π.getD q 0) (π.getD r 0) && (KO q).all fun c=>decide (c<=r)||isF P l (π.getD c 0)) &&
 ((KO π.length).all fun q=>match l[π.getD q 0]? with
   |none=>true
   |some o=>(KO π.length).all fun r=>match l[π.getD r 0]? with
    |none=>true
    |some oj=>(match oj.dst with
     |none=>true
     |some t=> !(QE l o).contains t||(decide (r<q) && Region.waitsFor .any l.toArray (π.getD q 0) (π.getD r 0)))) &&
 decide (m<=π.length) && ((KO π.length).all fun q=>decide (q<m)|| !isF P l (π.getD q 0)) &&
 (decide (m=π.length)||(KO m).all fun q=>(KO (m+1)).any fun r=>decide (q<r) && Region.waitsFor .any l.toArray (π.getD r 0) (π.getD q 0))
structure FloatP(P:Program)(l:List Oper)(π:List Nat)(m:Nat):Prop where
 order:WN l=true
 inr:∀q,q<π.length->π.getD q 0<l.length
 onto:∀i,i<l.length->∃q,q<π.length/\π.getD q 0=i
 inj:∀q r,q<π.length->r<π.length->π.getD q 0=π.getD r 0->q=r
 wait:∀q c,q<π.length->c<q->isF P l (π.getD c 0)=false->∃r,c<=r/\r<q/\Region.waitsFor .any l.toArray (π.getD q 0) (π.getD r 0)=true
 data:∀q r o oj t,q<π.length->r<π.length->l[π.getD q 0]?=some o->l[π.getD r 0]?=some oj->oj.dst=some t->t∈QE l o->r<q/\Region.waitsFor .any l.toArray (π.getD q 0) (π.getD r 0)=true
 mle:m<=π.length
 tail:∀q,m<=q->q<π.length->isF P l (π.getD q 0)=false
 sink:m<π.length->∀q,q<m->∃r,q<r/\r<=m/\Region.waitsFor .any l.toArray (π.getD r 0) (π.getD q 0)=true
theorem qnm{l:List Oper}{π:List Nat}{ws:List (Option Nat)}{m:Nat}(h:qlM P l π ws m=true):FloatP P l π m:=by
 unfold qlM at h;simp only[Kw]at h;obtain⟨⟨⟨⟨⟨⟨⟨⟨h1,h2⟩,h3⟩,h4⟩,h5⟩,h6⟩,h7⟩,h8⟩,h9⟩:=h;simp only[JC,JD]at h2 h3 h4 h5 h6 h8;refine⟨h1,fun q hq=>?_,fun i hi=>?_,fun q r hq hr e=>?_,fun q c hq hc hf=>?_,fun q r o oj t hq hr ho hoj hd ht=>?_,by simpa using h7,fun q hm hq=>?_,fun hm q hq=>?_⟩
 ·have:=h2 (π.getD q 0) (by rw[Kn,Jz hq];exact VH hq)
  simpa using this
 ·have:=h3 i hi
  rw[JW]at this;obtain⟨q,hq,e⟩:=List.getElem_of_mem this;exact⟨q,hq,by rw[Kn,Jz hq];exact e⟩
 ·have:=h4 q hq r hr
  rw[JV,decide_eq_true_eq]at this;rcases this with e'|e'
  ·exact e'
  ·rw[e]at e';simp at e'
 ·have:=h5 q hq
  split at this
  ·rw[JC]at this
   rw[this c (JD.2 hc)]at hf;cases hf
  ·rename_i r _
   simp only[Kw,decide_eq_true_eq,JC,JD,JV]at this;obtain⟨⟨t1,t2⟩,t3⟩:=this;rcases t3 c hc with e|e
   ·exact⟨r,e,t1,t2⟩
   ·rw[e]at hf;cases hf
 ·have:=h6 q hq
  rw[ho]at this;simp only[JC,JD]at this;have:=this r hr;rw[hoj]at this;simp only[hd,JV,Kw,decide_eq_true_eq,Ji]at this;rcases this with e|e
  ·have hm:(QE l o).contains t=true:=by simpa using ht
   rw[hm]at e;cases e
  ·exact e
 ·have:=h8 q hq
  simp only[JV,decide_eq_true_eq,Ji]at this;rcases this with e|e
  ·omega
  ·exact e
 ·rw[JV,decide_eq_true_eq]at h9
  rcases h9 with e|e
  ·omega
  ·rw[JC]at e
   have:=e q (JD.2 hq);rw[JX]at this;obtain⟨r,hr,hw⟩:=this;rw[JD]at hr;simp only[Kw,decide_eq_true_eq]at hw;exact⟨r,hw.1,by omega,hw.2⟩
theorem qmR{l:List Oper}:∀{π:List Nat},(∀q,q<π.length->π.getD q 0<l.length)->∀q,q<π.length->(Zk l π)[q]?=l[π.getD q 0]?
 |i::π,h,q,hq=>by
  have h0:i<l.length:=h 0 (by simp);have e:Zk l (i::π)=l[i]::Zk l π:=by
   unfold Zk;rw[VI,Jz h0]
  rw[e];cases q with
  |zero=>simp[Jz h0]
  |succ q=>
   rw[List.getElem?_cons_succ,qmR (π:=π) (fun q hq=>h (q+1) (by simpa using hq)) q (by simpa using hq)];rfl
theorem qab{l:List Oper}:∀{π:List Nat},(∀q,q<π.length->π.getD q 0<l.length)->(Zk l π).length=π.length
 |[],_=>rfl
 |i::π,h=>by
  have h0:i<l.length:=h 0 (by simp);unfold Zk;rw[VI,Jz h0];simp only[KX];exact congrArg (· +1) (qab (π:=π) fun q hq=>h (q+1) (by simpa using hq))
theorem YJ{l:List Oper}{π:List Nat}(h:∀q,q<π.length->π.getD q 0<l.length){p:Nat}(hp:p<π.length){o:Oper}(ho:l[π.getD p 0]?=some o):(Zk l π).drop p=o::(Zk l π).drop (p+1):=by
 have e:=qmR h p hp;rw[ho]at e;have hl:=(JA.1 e).1;rw[J4 hl];congr 1;exact(JA.1 e).2
theorem advance{l:List Oper}(hall:Xg n l=true){π:List Nat}{m:Nat}(F:FloatP P l π m){K:Slots->AHeap->Prop}{g:AHeap}:∀(d p:Nat) (S:Slots),π.length-p=d->p<=π.length->qhc P wz l (m-p) ((Zk l π).drop p) S g K->
 ∃p' S',p<=p'/\p'<=π.length/\(p'<π.length->isF P l (π.getD p' 0)=false)/\(∀q,p<=q->q<p'->isF P l (π.getD q 0)=true)/\qhc P wz l (m-p') ((Zk l π).drop p') S' g K/\
  (∀q o,p<=q->q<p'->l[π.getD q 0]?=some o->∃V,(∀t,o.dst=some t->S'.get t=V)/\FactR P wz n l g S' o V)/\
  (∀t,(∀q o,p<=q->q<p'->l[π.getD q 0]?=some o->o.dst≠some t)->S'.get t=S.get t):=by
 intro d;induction d with
 |zero=>
  intro p S hd hp ha;exact⟨p,S,KJ _,hp,fun h=>by omega,fun q h1 h2=>by omega,ha,fun q o h1 h2=>by omega,fun t _=>rfl⟩
 |succ d ih=>
  intro p S hd hp ha;have hpl:p<π.length:=by omega
  cases hf:isF P l (π.getD p 0)with
  |false=>exact⟨p,S,KJ _,hp,fun _=>hf,fun q h1 h2=>by omega,ha,fun q o h1 h2=>by omega,fun t _=>rfl⟩
  |true=>
   have hpm:p<m:=by
    refine JO fun h=>?_;rw[F.tail p h hpl]at hf;cases hf
   obtain⟨o,ho⟩:∃o,l[π.getD p 0]?=some o:=⟨_,Jz (F.inr p hpl)⟩
   have hk2:Ya P o.op=2:=by
    unfold isF at hf;rw[ho]at hf;simpa using hf
   rw[YJ F.inr hpl ho,show m-p=(m-(p+1))+1 by omega,qbt]at ha;obtain⟨V,⟨_,hv⟩,hfact⟩:=qgo hall hk2 ha;obtain⟨p',S',a1,a2,a3,a4,a5,a6,a7⟩:=ih (p+1) (putD S o.dst V) (by omega) (by omega) hv;have notlook:∀q oq t,p<=q->q<π.length->l[π.getD q 0]?=some oq->oq.dst=some t->t∉QE l o:=fun q oq t h1 h2 h3 h4 ht=>by
    have:=(F.data p q o oq t hpl h2 ho h3 h4 ht).1;omega
   have uniq:∀q oq t,p<q->q<π.length->l[π.getD q 0]?=some oq->oq.dst=some t->o.dst≠some t:=fun q oq t h1 h2 h3 h4 e=>by
    have:=((XC F.order ho).2 _ oq t h3 h4).1 e;have:=F.inj p q hpl h2 this;omega
   refine⟨p',S',by omega,a2,a3,fun q h1 h2=>?_,a5,fun q oq h1 h2 hq=>?_,fun t ht=>?_⟩
   ·rcases JB h1 with e|e
    ·rw[<-e];exact hf
    ·exact a4 q e h2
   ·rcases JB h1 with e|e
    ·subst e
     rw[ho]at hq;obtain rfl:=Option.some.inj hq;refine⟨V,fun t ht=>?_,hfact.slots fun t ht=>?_⟩
     ·rw[a7 t fun q oq h3 h4 h5 h6=>uniq q oq t h3 (by omega) h5 h6 ht,XG,if_pos ht]
     ·rw[a7 t fun q oq h3 h4 h5 h6=>notlook q oq t (by omega) (by omega) h5 h6 ht,XG,if_neg fun e=>notlook p o t (KJ _) hpl ho e ht]
    ·exact a6 q oq e h2 hq
   ·rw[a7 t fun q oq h3 h4 h5=>ht q oq (by omega) h4 h5,XG,if_neg (ht p o (KJ _) (by omega) ho)]
def PhaseP(P:Program)(wz:World)(n:FrameK)(l:List Oper)(π:List Nat)(m:Nat)(K:Slots->AHeap->Prop)(listed:Array Bool)(Ps:PMap)(a:Act)(w:World):Prop:=
 listed.size=l.length/\(∀j oj,l[j]?=some oj->listed.getD j false=true->∀e∈oj.after,Region.binds .any e=true->listed.getD e.on false=true)/\a.tmps.size=n/\a.defers=n.dfr/\
 ∃p S g,p<=π.length/\(p<π.length->isF P l (π.getD p 0)=false)/\(∀q,p<=q->q<π.length->listed.getD (π.getD q 0) false=false)/\(∀q,q<p->isF P l (π.getD q 0)=false->listed.getD (π.getD q 0) false=true)/\
  (m<p->∀q,q<p->listed.getD (π.getD q 0) false=true)/\HRel wz Ps g w/\qhc P wz l (m-p) ((Zk l π).drop p) S g K/\
  (∀q o,q<p->l[π.getD q 0]?=some o->listed.getD (π.getD q 0) false=false->∃V,(∀t,o.dst=some t->S.get t=V)/\FactR P wz n l g S o V)/\
  ∀t,(∃q o,q<p/\l[π.getD q 0]?=some o/\o.dst=some t/\listed.getD (π.getD q 0) false=false)\/VR Ps (S.get t) (a.tmps.getD t undef)
theorem YP{l:List Oper}{listed:Array Bool}{i j:Nat}{o:Oper}(ho:l[i]?=some o)(hedges:∀e∈o.after,Region.binds .any e=true->listed.getD e.on false=true)(hw:Region.waitsFor .any l.toArray i j=true):listed.getD j false=true:=by
 obtain⟨oi,g1,e,g2,g3,g4⟩:=Region.waitsFor_spec hw;have g1':l[i]?=some oi:=by simpa using g1
 rw[ho]at g1';obtain rfl:=Option.some.inj g1';rw[<-g4];exact hedges e g2 g3
theorem any_okP{l:List Oper}(hall:Xg n l=true){π:List Nat}{m:Nat}(F:FloatP P l π m){K:Slots->AHeap->Prop}{fi:PMap}{Q:Exit->Act->World->Prop}
 (hq:∀Ps S g a w,fi.le Ps->HRel wz Ps g w->SRel Ps n S a->K S g->Q .normal a w):∀(fuel:Nat) (listed:Array Bool) (a:Act) (w:World) (Ps:PMap),fi.le Ps->PhaseP P wz n l π m K listed Ps a w->
 (listed.toList.filter (!·)).length<=fuel->wpAny P .any l.toArray Q fuel listed a w:=by
 have hB:=F.order;have fin:∀(listed:Array Bool) (a:Act) (w:World) (Ps:PMap),fi.le Ps->PhaseP P wz n l π m K listed Ps a w->Region.ready .any l.toArray listed=[]->Q .normal a w:=by
  rintro listed a w Ps hle ⟨i1,i2,i3,i4,p,S,g,p1,p2,p3,p4,p5,p6,p7,p8,p9⟩ hrd;have hal:=qaE hB i1 hrd;have hp:p=π.length:=by
   rcases JB p1 with e|e
   ·exact e
   ·have:=p3 p (KJ _) e
    rw[hal _ (F.inr p e)]at this;cases this
  subst hp;rw[show(Zk l π).drop π.length=[] by rw[<-qab F.inr];simp,qbK]at p7;refine hq Ps S g a w hle p6 ⟨i3,i4,fun t=>?_⟩ p7;rcases p9 t with⟨q,o,c1,c2,c3,c4⟩|c
  ·rw[hal _ (F.inr q c1)]at c4;cases c4
  ·exact c
 intro fuel;induction fuel with
 |zero=>
  intro listed a w Ps hle inv hc;have hrd:Region.ready .any l.toArray listed=[]:=by
   cases hrd:Region.ready .any l.toArray listed with
   |nil=>rfl
   |cons i r=>
    exfalso;have hm:i∈Region.ready .any l.toArray listed:=by rw[hrd];exact Je
    obtain⟨h1,o,ho,_⟩:=mem_ready.1 hm;have hi:i<listed.size:=by
     have:l[i]?=some o:=by simpa using ho
     rw[inv.1];exact(JA.1 this).1
    have h2:listed.toList[i]?=some false:=by
     simp[JE,hi]at h1;simp[hi,h1]
    have:=JZ h2;have hmem:false∈listed.toList.filter (!·):=by simp[J2,this]
    have:=J3 hmem;omega
  exact⟨hrd,fin listed a w Ps hle inv hrd⟩
 |succ fuel ih=>
  intro listed a w Ps hle inv hc;refine⟨fun hrd=>fin listed a w Ps hle inv hrd,fun i hi=>?_⟩;obtain⟨i1,i2,i3,i4,p,S,g,p1,p2,p3,p4,p5,p6,p7,p8,p9⟩:=inv;obtain⟨h1,o,ho,hedges⟩:=mem_ready.1 hi;have hol:l[i]?=some o:=by simpa using ho
  have hilt:i<l.length:=(JA.1 hol).1;have hisz:i<listed.size:=by rw[i1];exact hilt
  have hif:listed.getD i false=false:=by simp[JE,hisz]at h1|-;exact h1
  have hcount:((listed.setIfInBounds i true).toList.filter (!·)).length<=fuel:=by
   have h2:listed.toList[i]?=some false:=by
    simp[JE,hisz]at h1;simp[hisz,h1]
   have:=qaB listed.toList i h2;have e:(listed.setIfInBounds i true).toList=listed.toList.set i true:=by simp
   rw[e];omega
  have hdn:∀d,o.dst=some d->d<n:=fun d hd=>qbF l i d hall (by rw[Yf,hol];exact hd);obtain⟨q,hql,hqi⟩:=F.onto i hilt;have hoq:l[π.getD q 0]?=some o:=by rw[hqi];exact hol
  have looks:LookOk Ps n l o S a:=⟨i3,i4,fun t ht=>by
   rcases p9 t with⟨r,oj,c1,c2,c3,c4⟩|c
   ·exfalso
    have:=(F.data q r o oj t hql (by omega) hoq c2 c3 ht).2;rw[hqi]at this;rw[YP hol hedges this]at c4;cases c4
   ·exact c⟩
  have closed':∀j oj,l[j]?=some oj->(listed.setIfInBounds i true).getD j false=true->∀e∈oj.after,Region.binds .any e=true->(listed.setIfInBounds i true).getD e.on false=true:=fun j oj hj hl e he hb=>by
   by_cases e1:e.on=i
   ·rw[e1];exact set_self hisz
   ·rw[Xy e1]
    by_cases e2:j=i
    ·subst e2
     rw[hol]at hj;obtain rfl:=Option.some.inj hj;exact hedges e he hb
    ·rw[Xy e2]at hl
     exact i2 j oj hj hl e he hb
  have other:∀r,r<π.length->r≠q->(listed.setIfInBounds i true).getD (π.getD r 0) false=listed.getD (π.getD r 0) false:=fun r hr hne=>Xy fun e=>hne (F.inj r q hr hql (by rw[e,hqi]));have nobehind:p<q->False:=fun hpq=>by
   obtain⟨r,r1,r2,r3⟩:=F.wait q p hql hpq (p2 (by omega));rw[hqi]at r3;have:=YP hol hedges r3;rw[p3 r r1 (by omega)]at this;cases this
  have goal:(if Region.wanted o (yielded l.toArray a.tmps)=true then o.wp P a w (wpAny P .any l.toArray Q fuel (listed.setIfInBounds i true)) Q else wpAny P .any l.toArray Q fuel (listed.setIfInBounds i true) (a.put o.dst undef) w):=by
   rcases KT q p with hqp|hqp
   ·
    obtain⟨V,v1,v2⟩:=p8 q o hqp hoq (by rw[hqi];exact hif);refine v2 Ps w a g _ Q (Vl g) p6 looks fun v hv=>?_;refine ih _ _ _ Ps hle ⟨by simp[i1],closed',by rw[UG];exact i3,by rw[put_defers];exact i4,p,S,g,p1,p2,fun r r1 r2=>?_,fun r r1 r2=>?_,fun hm r r1=>?_,p6,p7,fun r oj r1 r2 r3=>?_,fun t=>?_⟩ hcount
    ·rw[other r r2 (by omega)];exact p3 r r1 r2
    ·by_cases e:r=q
     ·rw[e,hqi];exact set_self hisz
     ·rw[other r (by omega) e];exact p4 r r1 r2
    ·by_cases e:r=q
     ·rw[e,hqi];exact set_self hisz
     ·rw[other r (by omega) e];exact p5 hm r r1
    ·by_cases e:r=q
     ·rw[e,hqi,set_self hisz]at r3;cases r3
     ·rw[other r (by omega) e]at r3
      exact p8 r oj r1 r2 r3
    ·by_cases hod:o.dst=some t
     ·right
      rw[v1 t hod,Yr a hod (by rw[i3];exact hdn t hod)];exact hv
     ·rcases p9 t with⟨r,oj,c1,c2,c3,c4⟩|c
      ·refine .inl ⟨r,oj,c1,c2,c3,?_⟩
       rw[other r (by omega) fun e=>by subst e;rw[hoq]at c2;obtain rfl:=Option.some.inj c2;exact hod c3];exact c4
      ·right
       rw[Zz a hod];exact c
   ·have hqe:q=p:=by
     rcases JB hqp with e|e
     ·exact e.symm
     ·exact(nobehind e).elim
    subst hqe;have all_m:m<=q->∀r,r<q->listed.getD (π.getD r 0) false=true:=fun hm r hr=>by
     rcases JB hm with e|e
     ·subst e
      have key:∀d r,r+d=m->r<m->listed.getD (π.getD r 0) false=true:=by
       intro d;induction d using Jv with
       |ind d ihd=>
        intro r hd hr;obtain⟨r',s1,s2,s3⟩:=F.sink hql r hr;rcases JB s2 with e|e
        ·subst e
         rw[hqi]at s3;exact YP hol hedges s3
        ·have hl:=ihd (m-r') (by omega) r' (by omega) e
         obtain⟨oj,hoj⟩:∃oj,l[π.getD r' 0]?=some oj:=⟨_,Jz (F.inr r' (by omega))⟩
         exact YP hoj (i2 _ oj hoj hl) s3
      exact key (m-r) r (by omega) hr
     ·exact p5 e r hr
    obtain⟨K',ha,hnext⟩:∃K':Slots->AHeap->Prop,QB P wz l [o] S g K'/\∀s' h',K' s' h'->(q<m->Sub g h')/\qhc P wz l (m-(q+1)) ((Zk l π).drop (q+1)) s' h' K:=by
     rw[YJ F.inr hql hoq]at p7;by_cases c:q<m
     ·rw[show m-q=(m-(q+1))+1 by omega,qbt]at p7
      exact⟨_,p7,fun s' h' hx=>⟨fun _=>hx.1,hx.2⟩⟩
     ·rw[show m-q=0 by omega,qrN]at p7
      refine⟨_,qjS p7,fun s' h' hx=>⟨fun hc=>absurd hc c,?_⟩⟩;rw[show m-(q+1)=0 by omega];cases hdr:(Zk l π).drop (q+1)with
      |nil=>rw[hdr]at hx;rw[qbK];exact hx
      |cons o' r'=>rw[hdr]at hx;exact hx
    refine qgY hall ha p6 looks fun ψ' x h' v w' e1 e2 e3 hk=>?_;obtain⟨k1,k2⟩:=hnext _ _ hk;obtain⟨p',S',a1,a2,a3,a4,a5,a6,a7⟩:=advance hall F (π.length-(q+1)) (q+1) (putD S o.dst x) rfl (by omega) k2;have keep:∀r or t,r<q->l[π.getD r 0]?=some or->(or.dst=some t\/t∈QE l or)->S'.get t=S.get t:=fun r or t hr hor ht=>by
     have nd:∀u ou,q<=u->u<π.length->l[π.getD u 0]?=some ou->ou.dst≠some t:=fun u ou h1 h2 h3 h4=>by
      rcases ht with ht|ht
      ·have:=((XC hB hor).2 _ ou t h3 h4).1 ht
       have:=F.inj r u (by omega) h2 this;omega
      ·have:=(F.data r u or ou t (by omega) h2 hor h3 h4 ht).1
       omega
     rw[a7 t fun u ou h1 h2 h3=>nd u ou (by omega) (by omega) h3,XG,if_neg (nd q o (KJ _) hql hoq)]
    refine ih _ _ _ ψ' (J6 hle e1) ⟨by simp[i1],closed',by rw[UG];exact i3,by rw[put_defers];exact i4,p',S',h',a2,a3,fun r r1 r2=>?_,fun r r1 r2=>?_,fun hm r r1=>?_,e2,a5,fun r oj r1 r2 r3=>?_,fun t=>?_⟩ hcount
    ·rw[other r r2 (by omega)];exact p3 r (by omega) r2
    ·by_cases e:r=q
     ·rw[e,hqi];exact set_self hisz
     ·rw[other r (by omega) e]
      rcases KT r q with c|c
      ·exact p4 r c r2
      ·rw[a4 r (by omega) r1]at r2;cases r2
    ·have hmq:m<=q:=by
      refine Kr fun hc=>?_;have hmp:m<π.length:=by omega
      have:=a4 m (by omega) hm;rw[F.tail m (KJ _) hmp]at this;cases this
     by_cases e:r=q
     ·rw[e,hqi];exact set_self hisz
     ·rw[other r (by omega) e]
      rcases KT r q with c|c
      ·exact all_m hmq r c
      ·have:=a4 r (by omega) r1
       rw[F.tail r (by omega) (by omega)]at this;cases this
    ·by_cases e:r=q
     ·rw[e,hqi,set_self hisz]at r3;cases r3
     ·rw[other r (by omega) e]at r3
      rcases KT r q with c|c
      ·obtain⟨V,v1,v2⟩:=p8 r oj c r2 r3
       have hqm:q<m:=by
        refine JO fun hm=>?_;rw[all_m hm r c]at r3;cases r3
       exact⟨V,fun t ht=>(keep r oj t c r2 (.inl ht)).trans (v1 t ht),(v2.sub (k1 hqm)).slots fun t ht=>keep r oj t c r2 (.inr ht)⟩
      ·exact a6 r oj (by omega) r1 r2
    ·by_cases hod:o.dst=some t
     ·right
      rw[a7 t fun u ou h1 h2 h3 h4=>by
       have:=((XC hB hoq).2 _ ou t h3 h4).1 hod;have:=F.inj q u hql (by omega) this;omega,XG,if_pos hod,Yr a hod (by rw[i3];exact hdn t hod)]
      exact e3
     ·by_cases hw:∃r or,q+1<=r/\r<p'/\l[π.getD r 0]?=some or/\or.dst=some t
      ·obtain⟨r,or,w1,w2,w3,w4⟩:=hw
       exact .inl ⟨r,or,w2,w3,w4,by rw[other r (by omega) (by omega)];exact p3 r (by omega) (by omega)⟩
      ·have hS:S'.get t=S.get t:=by
        rw[a7 t fun u ou h1 h2 h3 h4=>hw ⟨u,ou,h1,h2,h3,h4⟩,XG,if_neg hod]
       rcases p9 t with⟨r,oj,c1,c2,c3,c4⟩|c
       ·exact .inl ⟨r,oj,by omega,c2,c3,by rw[other r (by omega) (by omega)];exact c4⟩
       ·right
        rw[hS,Zz a hod];exact Yj e1 _ _ c
  simp only[wpOp,ho];split
  ·rename_i hw
   rw[if_pos hw]at goal;exact .inl goal
  ·rename_i hw
   rw[if_neg hw]at goal;exact goal
theorem qpk{Q:Exit->Slots->AHeap->Prop}{s:Slots}{h:AHeap}{id:Nat}{l:List Oper}(π:List Nat)(ws:List (Option Nat))(m:Nat)(hm:P.follows .mixedOrders=true)(hB:qlM P l π ws m=true)(hd:Xg n l=true)
 (hc:qhc P wz l m (Zk l π) s h fun s' h'=>Q .normal s' h'):Awp P wz n (.region id l.toArray true) Q s h:=by
 refine J7 ?_;intro fi a w hr hs;have F:=qnm hB;refine wp_region_any hm ?_;have hf:∀j,(Jw l.toArray.size false).getD j false=false:=fun j=>by simp[JE]
 obtain⟨p',S',a1,a2,a3,a4,a5,a6,a7⟩:=advance hd F π.length 0 s rfl (Js _) (by rw[Jg,KP];exact hc);refine any_okP (fi:=fi) hd F (K:=fun s' h'=>Q .normal s' h') (fun Ps S g a' w' hle h1 h2 h3=>⟨Ps,S,g,hle,h1,h2,h3⟩) _ _ _ _ fi fi.le_refl
  ⟨by simp,fun j oj _ hl=>(by rw[hf]at hl;cases hl),hs.size,hs.defers,p',S',h,a2,a3,fun r _ _=>hf _,fun r r1 r2=>?_,fun hm' r r1=>?_,hr.drew,a5,fun r oj r1 r2 _=>a6 r oj (Js _) r1 r2,fun t=>?_⟩ ?_
 ·rw[a4 r (Js _) r1]at r2;cases r2
 ·have:=a4 m (Js _) hm'
  rw[F.tail m (KJ _) (by omega)]at this;cases this
 ·by_cases hw:∃r or,r<p'/\l[π.getD r 0]?=some or/\or.dst=some t
  ·obtain⟨r,or,w2,w3,w4⟩:=hw
   exact .inl ⟨r,or,w2,w3,w4,hf _⟩
  ·right
   rw[a7 t fun u ou _ h2 h3 h4=>hw ⟨u,ou,h2,h3,h4⟩];exact hs.val t
 ·have:=J9 (!·) (Jw l.toArray.size false).toList
  simpa using this
theorem qdr{Q:Exit->Slots->AHeap->Prop}{s:Slots}{h:AHeap}{id:Nat}{l:List Oper}{y:Code}(π:List Nat)(ws:List (Option Nat))(m:Nat)(L:List Nat)(hm:P.follows .mixedOrders=true)(hB:qlM P l π ws m=true)(hd:Xg n l=true)
 (hc:∀K:Slots->AHeap->Prop,(∀s h,Awp P wz n y Q s h->K s h)->qhc P wz l m (Zk l π) s h fun s' h'=>K (s'.keep L) h'):Awp P wz n (.seq (.region id l.toArray true) y) Q s h:=
 qL (qpk π ws m hm hB hd (qkJ (fun _ _ hk=>Va L hk) (hc (fun s h=>Awp P wz n y Q s h) (fun _ _ hk=>hk))))
end
end Go.AM
namespace Go.AM
open Go.RowKit (Below)
section
variable {P:Program} {wz:World} {n:FrameK}
end
end Go.AM
namespace Go.Proofs.YtlhhaagmakhilaaGreatDoor
open Go.AM
theorem sz3:ZP Tryz.prog 3=some 1:=by kernel_rfl
theorem ze3:Uc Tryz.prog 3=some (.int .i64 0):=by kernel_rfl
theorem ag3:Wh Tryz.prog 3=some false:=by kernel_rfl
theorem sz4:ZP Tryz.prog 4=some 1:=by kernel_rfl
theorem ze4:Uc Tryz.prog 4=some (.bool false):=by kernel_rfl
theorem ag4:Wh Tryz.prog 4=some false:=by kernel_rfl
theorem sz5:ZP Tryz.prog 5=some 1:=by kernel_rfl
theorem by5:qfB Tryz.prog 5=some 1:=by kernel_rfl
theorem ze5:Uc Tryz.prog 5=some (.int .u8 0):=by kernel_rfl
theorem ag5:Wh Tryz.prog 5=some false:=by kernel_rfl
theorem sz9:ZP Tryz.prog 9=some 1:=by kernel_rfl
theorem by9:qfB Tryz.prog 9=some 16:=by kernel_rfl
theorem ze9:Uc Tryz.prog 9=some (.string .empty):=by kernel_rfl
theorem ag9:Wh Tryz.prog 9=some false:=by kernel_rfl
theorem sz22:ZP Tryz.prog 22=some 1:=by kernel_rfl
theorem ag22:Wh Tryz.prog 22=some false:=by kernel_rfl
theorem sz23:ZP Tryz.prog 23=some 1:=by kernel_rfl
theorem ag23:Wh Tryz.prog 23=some false:=by kernel_rfl
theorem sz26:ZP Tryz.prog 26=some 1:=by kernel_rfl
theorem UJ:Wh Tryz.prog 26=some false:=by kernel_rfl
theorem ag28:Wh Tryz.prog 28=some false:=by kernel_rfl
theorem sz30:ZP Tryz.prog 30=some 1:=by kernel_rfl
theorem ag30:Wh Tryz.prog 30=some false:=by kernel_rfl
theorem qbc:ZP Tryz.prog 33=some 2:=by kernel_rfl
theorem ze33:Uc Tryz.prog 33=some (.agg #[.int .i64 0, .int .i64 0]):=by kernel_rfl
theorem qfF:Wh Tryz.prog 33=some true:=by kernel_rfl
theorem QK:ZP Tryz.prog 35=some 3:=by kernel_rfl
theorem qbT:Uc Tryz.prog 35=some (.agg #[.int .i64 0, .int .i64 0, .int .i64 0]):=by kernel_rfl
theorem Xv:Wh Tryz.prog 35=some true:=by kernel_rfl
theorem egt35:Tryz.prog.eqGuardType Tryz.prog.depth 35=false:=by kernel_rfl
theorem sz43:ZP Tryz.prog 43=some 1:=by kernel_rfl
theorem ag43:Wh Tryz.prog 43=some false:=by kernel_rfl
theorem sz44:ZP Tryz.prog 44=some 2:=by kernel_rfl
theorem qcr:ZP Tryz.prog 46=some 2:=by kernel_rfl
theorem by46:qfB Tryz.prog 46=some 48:=by kernel_rfl
theorem qpY:Uc Tryz.prog 46=some (.agg #[.slice none 0 0, .slice none 0 0]):=by kernel_rfl
theorem qnO:Wh Tryz.prog 46=some true:=by kernel_rfl
theorem sz52:ZP Tryz.prog 52=some 1:=by kernel_rfl
theorem qsp:Wh Tryz.prog 52=some false:=by kernel_rfl
theorem QW:ZP Tryz.prog 54=some 5:=by kernel_rfl
theorem qhn:qfB Tryz.prog 54=some 48:=by kernel_rfl
theorem UO:Uc Tryz.prog 54=some (.agg #[.int .u8 0, .string .empty, .int .i64 0, .int .i64 0, .bool false]):=by kernel_rfl
theorem XY:Wh Tryz.prog 54=some true:=by kernel_rfl
theorem egt54:Tryz.prog.eqGuardType Tryz.prog.depth 54=false:=by kernel_rfl
theorem sz57:ZP Tryz.prog 57=some 2:=by kernel_rfl
theorem ag57:Wh Tryz.prog 57=some true:=by kernel_rfl
theorem ag74:Wh Tryz.prog 74=some false:=by kernel_rfl
theorem sz76:ZP Tryz.prog 76=some 4:=by kernel_rfl
theorem ze76:Uc Tryz.prog 76=some (.agg #[.slice none 0 0, .map none, .slice none 0 0, .int .i64 0]):=by kernel_rfl
theorem sz89:ZP Tryz.prog 89=some 2:=by kernel_rfl
theorem ze89:Uc Tryz.prog 89=some (.agg #[.slice none 0 0, .int .i64 0]):=by kernel_rfl
theorem UW:ZP Tryz.prog 91=some 6:=by kernel_rfl
theorem qst:Uc Tryz.prog 91=some (.agg #[.int .u8 0, .string .empty, .int .i64 0, .int .i64 0, .bool false, .slice none 0 0]):=by kernel_rfl
theorem qdt:Wh Tryz.prog 91=some true:=by kernel_rfl
theorem sz101:ZP Tryz.prog 101=some 1:=by kernel_rfl
theorem qhU:Wh Tryz.prog 101=some false:=by kernel_rfl
theorem ze116:Uc Tryz.prog 116=some (.agg #[.slice none 0 0, .int .i64 0, .int .i64 0, .bool false]):=by kernel_rfl
theorem Ye:ZP Tryz.prog 120=some 4:=by kernel_rfl
theorem qsv:Uc Tryz.prog 120=some (.agg #[.int .i64 0, .bool false, .string .empty, .int .i64 0]):=by kernel_rfl
theorem WK:Wh Tryz.prog 120=some true:=by kernel_rfl
theorem sz124:ZP Tryz.prog 124=some 1:=by kernel_rfl
theorem qjN:Wh Tryz.prog 124=some false:=by kernel_rfl
theorem qfO:ZP Tryz.prog 127=some 3:=by kernel_rfl
theorem by127:qfB Tryz.prog 127=some 24:=by kernel_rfl
theorem qsu:Uc Tryz.prog 127=some (.agg #[.int .i64 0, .int .i64 0, .int .i64 0]):=by kernel_rfl
theorem ag127:Wh Tryz.prog 127=some true:=by kernel_rfl
theorem qcs:ZP Tryz.prog 129=some 3:=by kernel_rfl
theorem by129:qfB Tryz.prog 129=some 48:=by kernel_rfl
theorem ze129:Uc Tryz.prog 129=some (.agg #[.bool false, .string .empty, .slice none 0 0]):=by kernel_rfl
theorem qnP:Wh Tryz.prog 129=some true:=by kernel_rfl
theorem ze132:Uc Tryz.prog 132=some (.agg #[.bool false, .string .empty, .slice none 0 0, .int .i64 0, .slice none 0 0]):=by kernel_rfl
theorem ze140:Uc Tryz.prog 140=some (.agg #[.pointer none, .slice none 0 0]):=by kernel_rfl
theorem fa33_0(l:AM.Loc)(o:Nat):QM Tryz.prog 33 (.ptr l o) 0=⟨1≠0, .ptr l (o+0)⟩:=by kernel_rfl
theorem qoF(l:AM.Loc)(o:Nat):QM Tryz.prog 33 (.ptr l o) 1=⟨1≠0, .ptr l (o+1)⟩:=by kernel_rfl
theorem fa35_1(l:AM.Loc)(o:Nat):QM Tryz.prog 35 (.ptr l o) 1=⟨2≠0, .ptr l (o+1)⟩:=by kernel_rfl
theorem eqv35(a0 b0:Int)(a1 b1:Int)(a2 b2:Int):(eqA Tryz.prog 40 35 (.agg [.int .i64 a0, .int .i64 a1, .int .i64 a2]) (.agg [.int .i64 b0, .int .i64 b1, .int .i64 b2])).val= .bool (decide (a0=b0) && ((decide (a1=b1) && (decide (a2=b2) && true)) && true)):=by kernel_rfl
theorem eqp35(a0 b0:Int)(a1 b1:Int)(a2 b2:Int):(eqA Tryz.prog 40 35 (.agg [.int .i64 a0, .int .i64 a1, .int .i64 a2]) (.agg [.int .i64 b0, .int .i64 b1, .int .i64 b2])).pre=((0<3)/\(0<3)/\True/\((1+2<=3)/\(1+2<=3)/\((0<2)/\(0<2)/\True/\((1<2)/\(1<2)/\True/\True))/\True)):=by kernel_rfl
theorem eq35(a0 b0:Int)(a1 b1:Int)(a2 b2:Int):qaR Tryz.prog .eql 35 (.agg [.int .i64 a0, .int .i64 a1, .int .i64 a2]) (.agg [.int .i64 b0, .int .i64 b1, .int .i64 b2])=⟨True, .bool (decide (a0=b0) && ((decide (a1=b1) && (decide (a2=b2) && true)) && true))⟩:=by
 simp only[qaR,eqv35,eqp35,egt35,PR.mk.injEq,and_true];decide
theorem qna(a0 b0:Int)(a1 b1:Int)(a2 b2:Int):qaR Tryz.prog .neq 35 (.agg [.int .i64 a0, .int .i64 a1, .int .i64 a2]) (.agg [.int .i64 b0, .int .i64 b1, .int .i64 b2])=⟨True, .bool (!(decide (a0=b0) && ((decide (a1=b1) && (decide (a2=b2) && true)) && true)))⟩:=by
 simp only[qaR,eqv35,eqp35,egt35,PR.mk.injEq,and_true];decide
theorem qhg(l:AM.Loc)(o:Nat):QM Tryz.prog 46 (.ptr l o) 0=⟨1≠0, .ptr l (o+0)⟩:=by kernel_rfl
theorem fa46_1(l:AM.Loc)(o:Nat):QM Tryz.prog 46 (.ptr l o) 1=⟨1≠0, .ptr l (o+1)⟩:=by kernel_rfl
theorem qjl(l:AM.Loc)(o:Nat):QM Tryz.prog 54 (.ptr l o) 0=⟨1≠0, .ptr l (o+0)⟩:=by kernel_rfl
theorem qag(l:AM.Loc)(o:Nat):QM Tryz.prog 54 (.ptr l o) 1=⟨1≠0, .ptr l (o+1)⟩:=by kernel_rfl
theorem qhf(l:AM.Loc)(o:Nat):QM Tryz.prog 54 (.ptr l o) 2=⟨2≠0, .ptr l (o+2)⟩:=by kernel_rfl
theorem fa54_3(l:AM.Loc)(o:Nat):QM Tryz.prog 54 (.ptr l o) 3=⟨1≠0, .ptr l (o+4)⟩:=by kernel_rfl
theorem eqv54(a0 b0:Int)(a1 b1:List UInt8)(a2 b2:Int)(a3 b3:Int)(a4 b4:Bool):(eqA Tryz.prog 40 54 (.agg [.int .u8 a0, .str a1, .int .i64 a2, .int .i64 a3, .bool a4]) (.agg [.int .u8 b0, .str b1, .int .i64 b2, .int .i64 b3, .bool b4])).val= .bool (decide (a0=b0) && (decide (a1=b1) && ((decide (a2=b2) && (decide (a3=b3) && true)) && ((a4==b4) && true)))):=by kernel_rfl
theorem eqp54(a0 b0:Int)(a1 b1:List UInt8)(a2 b2:Int)(a3 b3:Int)(a4 b4:Bool):(eqA Tryz.prog 40 54 (.agg [.int .u8 a0, .str a1, .int .i64 a2, .int .i64 a3, .bool a4]) (.agg [.int .u8 b0, .str b1, .int .i64 b2, .int .i64 b3, .bool b4])).pre=((0<5)/\(0<5)/\True/\((1<5)/\(1<5)/\True/\((2+2<=5)/\(2+2<=5)/\((0<2)/\(0<2)/\True/\((1<2)/\(1<2)/\True/\True))/\((4<5)/\(4<5)/\True/\True)))):=by kernel_rfl
theorem ne54(a0 b0:Int)(a1 b1:List UInt8)(a2 b2:Int)(a3 b3:Int)(a4 b4:Bool):qaR Tryz.prog .neq 54 (.agg [.int .u8 a0, .str a1, .int .i64 a2, .int .i64 a3, .bool a4]) (.agg [.int .u8 b0, .str b1, .int .i64 b2, .int .i64 b3, .bool b4])=⟨True, .bool (!(decide (a0=b0) && (decide (a1=b1) && ((decide (a2=b2) && (decide (a3=b3) && true)) && ((a4==b4) && true)))))⟩:=by
 simp only[qaR,eqv54,eqp54,egt54,PR.mk.injEq,and_true];decide
theorem fa57_0(l:AM.Loc)(o:Nat):QM Tryz.prog 57 (.ptr l o) 0=⟨1≠0, .ptr l (o+0)⟩:=by kernel_rfl
theorem fa57_1(l:AM.Loc)(o:Nat):QM Tryz.prog 57 (.ptr l o) 1=⟨1≠0, .ptr l (o+1)⟩:=by kernel_rfl
theorem fa76_0(l:AM.Loc)(o:Nat):QM Tryz.prog 76 (.ptr l o) 0=⟨1≠0, .ptr l (o+0)⟩:=by kernel_rfl
theorem qlO(l:AM.Loc)(o:Nat):QM Tryz.prog 76 (.ptr l o) 1=⟨1≠0, .ptr l (o+1)⟩:=by kernel_rfl
theorem qlN(l:AM.Loc)(o:Nat):QM Tryz.prog 76 (.ptr l o) 2=⟨1≠0, .ptr l (o+2)⟩:=by kernel_rfl
theorem fa76_3(l:AM.Loc)(o:Nat):QM Tryz.prog 76 (.ptr l o) 3=⟨1≠0, .ptr l (o+3)⟩:=by kernel_rfl
theorem UT(l:AM.Loc)(o:Nat):QM Tryz.prog 89 (.ptr l o) 0=⟨1≠0, .ptr l (o+0)⟩:=by kernel_rfl
theorem YL(l:AM.Loc)(o:Nat):QM Tryz.prog 89 (.ptr l o) 1=⟨1≠0, .ptr l (o+1)⟩:=by kernel_rfl
theorem qoE(l:AM.Loc)(o:Nat):QM Tryz.prog 91 (.ptr l o) 0=⟨5≠0, .ptr l (o+0)⟩:=by kernel_rfl
theorem qoD(l:AM.Loc)(o:Nat):QM Tryz.prog 91 (.ptr l o) 1=⟨1≠0, .ptr l (o+5)⟩:=by kernel_rfl
theorem qbj(l:AM.Loc)(o:Nat):QM Tryz.prog 116 (.ptr l o) 0=⟨1≠0, .ptr l (o+0)⟩:=by kernel_rfl
theorem qgs(l:AM.Loc)(o:Nat):QM Tryz.prog 116 (.ptr l o) 1=⟨2≠0, .ptr l (o+1)⟩:=by kernel_rfl
theorem qdl(l:AM.Loc)(o:Nat):QM Tryz.prog 116 (.ptr l o) 2=⟨1≠0, .ptr l (o+3)⟩:=by kernel_rfl
theorem qgr(l:AM.Loc)(o:Nat):QM Tryz.prog 120 (.ptr l o) 0=⟨1≠0, .ptr l (o+0)⟩:=by kernel_rfl
theorem qpJ(l:AM.Loc)(o:Nat):QM Tryz.prog 120 (.ptr l o) 1=⟨1≠0, .ptr l (o+1)⟩:=by kernel_rfl
theorem qij(l:AM.Loc)(o:Nat):QM Tryz.prog 120 (.ptr l o) 2=⟨1≠0, .ptr l (o+2)⟩:=by kernel_rfl
theorem qeO(l:AM.Loc)(o:Nat):QM Tryz.prog 120 (.ptr l o) 3=⟨1≠0, .ptr l (o+3)⟩:=by kernel_rfl
theorem qgp(l:AM.Loc)(o:Nat):QM Tryz.prog 127 (.ptr l o) 0=⟨1≠0, .ptr l (o+0)⟩:=by kernel_rfl
theorem qpI(l:AM.Loc)(o:Nat):QM Tryz.prog 127 (.ptr l o) 1=⟨2≠0, .ptr l (o+1)⟩:=by kernel_rfl
theorem We(l:AM.Loc)(o:Nat):QM Tryz.prog 129 (.ptr l o) 1=⟨1≠0, .ptr l (o+1)⟩:=by kernel_rfl
theorem qbi(l:AM.Loc)(o:Nat):QM Tryz.prog 129 (.ptr l o) 2=⟨1≠0, .ptr l (o+2)⟩:=by kernel_rfl
theorem Ue(l:AM.Loc)(o:Nat):QM Tryz.prog 132 (.ptr l o) 0=⟨3≠0, .ptr l (o+0)⟩:=by kernel_rfl
theorem Wv(l:AM.Loc)(o:Nat):QM Tryz.prog 132 (.ptr l o) 1=⟨1≠0, .ptr l (o+3)⟩:=by kernel_rfl
theorem qdk(l:AM.Loc)(o:Nat):QM Tryz.prog 132 (.ptr l o) 2=⟨1≠0, .ptr l (o+4)⟩:=by kernel_rfl
theorem qlP(l:AM.Loc)(o:Nat):QM Tryz.prog 140 (.ptr l o) 1=⟨1≠0, .ptr l (o+1)⟩:=by kernel_rfl
theorem qhr(x0:AVal)(hx0:Sc x0)(x1:AVal)(hx1:Sc x1):WM Tryz.prog 46 [(0,x0),(1,x1)]=⟨True, .agg [x0,x1]⟩:=by(cases x0<;>first|exact hx0.elim|skip)<;>(cases x1<;>first|exact hx1.elim|skip)<;>kernel_rfl
theorem ZV:WM Tryz.prog 35 []=⟨True, .agg [.int .i64 0, .int .i64 0, .int .i64 0]⟩:=by kernel_rfl
theorem qlb(x0:List UInt8)(x1:AVal)(hx1:Sc x1):WM Tryz.prog 57 [(0, .str x0),(1,x1)]=⟨True, .agg [.str x0,x1]⟩:=by(cases x1<;>first|exact hx1.elim|skip)<;>kernel_rfl
theorem UA(x0:Int)(x1:List UInt8):WM Tryz.prog 54 [(0, .int .u8 x0),(1, .str x1)]=⟨True, .agg [.int .u8 x0, .str x1, .int .i64 0, .int .i64 0, .bool false]⟩:=by kernel_rfl
theorem qcN(x0:Int)(x1:Int):WM Tryz.prog 33 [(0, .int .i64 x0),(1, .int .i64 x1)]=⟨True, .agg [.int .i64 x0, .int .i64 x1]⟩:=by kernel_rfl
theorem UB(x0:Int)(x1:Int)(x2:Int):WM Tryz.prog 35 [(0, .int .i64 x0),(1, .agg [.int .i64 x1, .int .i64 x2])]=⟨True, .agg [.int .i64 x0, .int .i64 x1, .int .i64 x2]⟩:=by kernel_rfl
theorem qsl(x0:AVal)(hx0:Sc x0)(x1:AVal)(hx1:Sc x1):WM Tryz.prog 76 [(0,x0),(1,x1)]=⟨True, .agg [x0,x1, .nilSlice, .int .i64 0]⟩:=by(cases x0<;>first|exact hx0.elim|skip)<;>(cases x1<;>first|exact hx1.elim|skip)<;>kernel_rfl
theorem bld89_0(x0:AVal)(hx0:Sc x0):WM Tryz.prog 89 [(0,x0)]=⟨True, .agg [x0, .int .i64 0]⟩:=by(cases x0<;>first|exact hx0.elim|skip)<;>kernel_rfl
theorem qhp:WM Tryz.prog 91 []=⟨True, .agg [.int .u8 0, .str [], .int .i64 0, .int .i64 0, .bool false, .nilSlice]⟩:=by kernel_rfl
theorem qpU(x0:Int):WM Tryz.prog 35 [(0, .int .i64 x0)]=⟨True, .agg [.int .i64 x0, .int .i64 0, .int .i64 0]⟩:=by kernel_rfl
theorem bld91_0(x0:Int)(x1:List UInt8)(x2:Int)(x3:Int)(x4:Bool):WM Tryz.prog 91 [(0, .agg [.int .u8 x0, .str x1, .int .i64 x2, .int .i64 x3, .bool x4])]=⟨True, .agg [.int .u8 x0, .str x1, .int .i64 x2, .int .i64 x3, .bool x4, .nilSlice]⟩:=by kernel_rfl
theorem qpV:WM Tryz.prog 120 []=⟨True, .agg [.int .i64 0, .bool false, .str [], .int .i64 0]⟩:=by kernel_rfl
theorem qjG(x0:Int)(x1:Bool)(x2:List UInt8)(x3:Int):WM Tryz.prog 120 [(0, .int .i64 x0),(1, .bool x1),(2, .str x2),(3, .int .i64 x3)]=⟨True, .agg [.int .i64 x0, .bool x1, .str x2, .int .i64 x3]⟩:=by kernel_rfl
theorem bld129_0(x0:Bool):WM Tryz.prog 129 [(0, .bool x0)]=⟨True, .agg [.bool x0, .str [], .nilSlice]⟩:=by kernel_rfl
theorem bld46_:WM Tryz.prog 46 []=⟨True, .agg [.nilSlice, .nilSlice]⟩:=by kernel_rfl
theorem qpc(x0:Int)(x1:Int)(x2:Int):WM Tryz.prog 127 [(0, .int .i64 x0),(1, .agg [.int .i64 x1, .int .i64 x2])]=⟨True, .agg [.int .i64 x0, .int .i64 x1, .int .i64 x2]⟩:=by kernel_rfl
theorem bld33_:WM Tryz.prog 33 []=⟨True, .agg [.int .i64 0, .int .i64 0]⟩:=by kernel_rfl
theorem qaV:WM Tryz.prog 54 []=⟨True, .agg [.int .u8 0, .str [], .int .i64 0, .int .i64 0, .bool false]⟩:=by kernel_rfl
theorem mixed:Tryz.prog.follows .mixedOrders=true:=by kernel_rfl
end Go.Proofs.YtlhhaagmakhilaaGreatDoor
namespace Go.Proofs.YtlhhaagmakhilaaGreatDoor
open Go.AM
open Go.Proofs
open Go.Col
open Go.Tok
set_option maxRecDepth 100000
def qan(b:UInt8):UInt8:=if 97<=(b.toNat:Int)/\(b.toNat:Int)<=122 then KC ((b.toNat:Int)-97+65).toNat else b
def qaz(s:List UInt8)(i:Nat):List UInt8:=(s.take i).map qan++s.drop i
theorem qfg(s:List UInt8)(i:Nat):(qaz s i).length=s.length:=by simp[qaz];omega
theorem qjj(s:List UInt8)(i:Nat)(hi:i<s.length):(qaz s i).getD i 0=s.getD i 0:=by
 have:(Vw qan (List.take i s)).length=i:=by simp;omega
 simp only[qaz,Kn];rw[VA (by omega),this,Ko];simp
theorem qed(s:List UInt8)(i:Nat)(hi:i<s.length):(qaz s i).set i (qan (s.getD i 0))=qaz s (i+1):=by
 have e:(Vw qan (List.take i s)).length=i:=by simp;omega
 have e1:s.drop i=s[i]::s.drop (i+1):=J4 hi;have e2:s.getD i 0=s[i]:=by simp[Kn,Jz hi]
 simp only[qaz];have e3:(s.drop i).set 0 (qan s[i])=qan s[i]::s.drop (i+1):=by rw[e1];rfl
 have e4:s.take (i+1)=s.take i++[s[i]]:=by rw[VJ,Jz hi];rfl
 rw[VG _ _ (by omega),e,Nat.sub_self,e2,e3,e4,List.map_append,List.append_assoc];rfl
theorem qhN(s:List UInt8)(i:Nat)(hi:i<s.length)(hf:qan (s.getD i 0)=s.getD i 0):qaz s (i+1)=qaz s i:=by
 rw[<-qed s i hi,hf];apply List.ext_getElem?;intro j;by_cases hj:i=j
 ·subst hj
  have:=qjj s i hi;simp only[Kn]at this;rw[List.getElem?_set];have h2:i<(qaz s i).length:=by rw[qfg];exact hi
  rw[Jz h2]at this|-
  simp only[VK]at this;rw[if_pos rfl,if_pos h2,Kn,this]
 ·rw[List.getElem?_set_ne hj]
theorem qoW(wz:World)(h:AHeap)(s:List UInt8)(hl:s.length<=9223372036854775807):ACall Tryz.prog wz 130 [.str s] h (fun v h'=>v= .str (s.map qan)/\h'=h):=by
 refine qP (n:=30) (rs:=[.tmp 2]) Tryz.func130 rfl rfl rfl rfl (VL rfl) ?_;simp only[Qd];refine awp_rseq [0] (by rfl) fun K hK=>?_;simp+decide only[qa,ev,qH,qF,putD,VM,VN,Ka,true_and,↓qd,qb];apply hK;clear hK K;refine awp_rseq [3] (by rfl) fun K hK=>?_;simp+decide only[ev,putD,VM,VO,Ka,true_and,↓qh,qc];refine qki Tryz.underlying9 Tryz.underlying22 Tryz.underlying5 (by rfl) (by omega) fun k1 hk1=>?_;simp+decide only[qa,ev,putD,VM,VO,VN,Ka,true_and,↓qd,qb];apply hK;clear hK K;refine qL ?_;refine awp_rseq [3,8,9,10] (by rfl) fun K hK=>?_;simp+decide only[qa,ev,qH,qF,putD,VM,VO,VN,Ka,true_and,↓qh,qc,↓Xt,QD,ZK Tryz.underlying22];apply hK;clear hK K;refine Qp ?_;refine XE [3,8,9,10] (fun i:Nat=>[(3, .slice (.own k1) 0 s.length (.grow 1)),(8, .slice (.own k1) 0 s.length (.grow 1)),(9, .int .i64 s.length),(10, .int .i64 i)]) (fun i:Nat=>h.set k1 ⟨byteCells (qaz s i),0⟩) (fun i:Nat=>i<=s.length) (fun i:Nat=>s.length-i) 0 rfl (Vl _) (Js _) ?_;rintro i hi1;have hlen:=qfg s i;refine awp_rseq [3,8,9,10,11] (by rfl) fun K hK=>?_;simp+decide only[qa,ev,putD,VM,VO,VN,Ka,true_and,↓qA,ql,qZ,cond_false,qp,Zc];apply hK;clear hK K;refine qL (qK (b:=_) rfl (fun hb1=>?_) (fun hb1=>?_))
 ·try simp only[decide_eq_true_eq]at hb1
  refine qV ?_;change Awp _ _ _ _ _ _ _;refine qL ?_;refine Qp ?_;refine awp_rseq [3,4,5,8,9,10] (by rfl) fun K hK=>?_;simp+decide only[qa,ev,putD,VM,VO,VN,Ka,true_and,↓qh,qc,↓QN,Qb,Qh Tryz.underlying22 sz5,↓qG,qz ag5,↓qd,qb,Qc,Jr,Nat.mul_one,Vq,qbP (bs:=qaz s i) (i:=i) (by omega),qjj s i (by omega),JN];repeat (with_reducible refine And.intro ?_ ?_;· first|trivial|omega|(intro hg;simp only[Kw,JV,Ji,VP,VQ,VS,decide_eq_true_eq,decide_eq_false_iff_not,XT]at hg;omega))
  apply hK;clear hK K;refine awp_rseq [3,4,5,8,9,10,20] (by rfl) fun K hK=>?_;simp+decide only[qa,ev,qH,qF,putD,VM,VO,VN,Ka,true_and,↓qh,qc,↓qA,ql,qC,cond_false,qp,qav,↓Xe,agP,Qt,qJ,qI,qy,implies_true,↓Xb,XZ,Za,qft,↓QR,Qs,Qg,Xn,Xp];apply hK;clear hK K;refine qK (b:=_) rfl (fun hb2=>?_) (fun hb2=>?_)
  ·try simp only[decide_eq_true_eq,Kw]at hb2
   refine XL [3,8,9,10] (by rfl) ?_;simp+decide only[ev,qH,qF,putD,VM,VO,Ka,true_and,↓qh,qc,↓qA,ql,qC,cond_false,qp,qad,Xc];try simp(disch:=omega)only[wrap_u8]
   try simp+decide only[ev,putD,VM,VO,Ka,↓QN,Qb,Qh Tryz.underlying22 sz5]
   repeat (with_reducible refine And.intro ?_ ?_;· first|trivial|omega|(intro hg;simp only[Kw,JV,Ji,VP,VQ,VS,decide_eq_true_eq,decide_eq_false_iff_not,XT]at hg;omega))
   refine qjR (i:=i) (by rfl) (by rfl) sz5 (by rfl) (by omega) (by omega) (Js _) (by omega) (by omega) ?_;simp+decide only[qa,putD,VN,Ka];change Awp _ _ _ _ _ _ _;refine XL [3,8,9,10] (by rfl) ?_;simp+decide only[qa,ev,qH,qF,putD,VM,VO,VN,Ka,true_and,↓qA,ql,qC,cond_false,qp,Xc,↓qh,qc];try simp(disch:=omega)only[wrap_i64]
   try simp only[Qi]
   refine⟨i+1,rfl,?_,by omega,by omega⟩;first
   |(have e:qan (s.getD i 0)=KC ((↑(s.getD i 0).toNat:Int)-97+65).toNat:=by rw[qan,if_pos hb2]
     rw[<-qed s i (by omega),e];exact Vl _)
   |(have e:qan (s.getD i 0)=s.getD i 0:=by
      rw[qan,if_neg];omega
     rw[qhN s i (by omega) e];exact Vl _)
  ·try simp only[decide_eq_false_iff_not,VP]at hb2
   refine qV ?_;change Awp _ _ _ _ _ _ _;refine XL [3,8,9,10] (by rfl) ?_;simp+decide only[qa,ev,qH,qF,putD,VM,VO,VN,Ka,true_and,↓qA,ql,qC,cond_false,qp,Xc,↓qh,qc];try simp(disch:=omega)only[wrap_i64]
   try simp only[Qi]
   refine⟨i+1,rfl,?_,by omega,by omega⟩;first
   |(have e:qan (s.getD i 0)=KC ((↑(s.getD i 0).toNat:Int)-97+65).toNat:=by rw[qan,if_pos hb2]
     rw[<-qed s i (by omega),e];exact Vl _)
   |(have e:qan (s.getD i 0)=s.getD i 0:=by
      rw[qan,if_neg];omega
     rw[qhN s i (by omega) e];exact Vl _)
 ·try simp only[decide_eq_false_iff_not]at hb1
  refine XJ ?_;change Awp _ _ _ _ _ _ _;refine awp_rseq [2] (by rfl) fun K hK=>?_;simp+decide only[qa,ev,putD,VM,VO,VN,Ka,true_and,↓qh,qc,↓qjL _ _ _ (es_str Tryz.underlying22 Tryz.underlying9),qdS,↓qd,qb,(IsB.own (wz:=wz) (Vd h k1 _) hlen.symm (c:= .grow 1) rfl).conv Tryz.underlying22 Tryz.underlying9 Tryz.underlying5];apply hK;clear hK K;refine qN ?_;refine qW h (Vg hk1) (qR (Qa)) ?_;simp+decide only[VO,if_true,and_true,Ql];all_goals rw[qaz,Jq (by omega),Vt (by omega),List.append_nil]
theorem qlJ(s:Str):s.map qan=YE s:=by
 unfold YE;congr 1;funext b;unfold qan qee;by_cases h:97<=(b.toNat:Int)/\(b.toNat:Int)<=122
 ·rw[if_pos h,if_pos (by omega)]
  apply UInt8.toNat.inj;rw[UInt8.toNat_sub_of_le _ _ (by rw[UInt8.le_iff_toNat_le];show 32<=b.toNat;omega)];show(KC ((b.toNat:Int)-97+65).toNat).toNat=b.toNat-32
  rw[UInt8.toNat_ofNat'];have:=UInt8.toNat_lt b;omega
 ·rw[if_neg h,if_neg (by omega)]
theorem qjw(wz:World)(h:AHeap)(b:UInt8):ACall Tryz.prog wz 136 [.int .u8 b.toNat] h (fun v h'=>v= .bool (Yu b)/\h'=h):=by
 refine qP (n:=9) (rs:=[.tmp 2]) Tryz.func136 rfl rfl rfl rfl (VL rfl) ?_;simp only[Qd];refine awp_rseq [0] (by rfl) fun K hK=>?_;simp+decide only[qa,ev,qH,qF,putD,VM,VN,Ka,true_and,↓qd,qb];apply hK;clear hK K;refine awp_rseq [2] (by rfl) fun K hK=>?_;simp+decide only[qa,ev,qH,qF,putD,VM,VO,VN,Ka,true_and,↓qh,qc,↓qA,ql,qC,cond_false,qp,qav,↓Xe,agP,Qt,qJ,qI,qy,implies_true,↓Xb,XZ,Za,qft,↓QR,Qs,Qg,Xn,Xp,↓qd,qb];apply hK;clear hK K;refine qN ?_;refine qW _ (Vl _) (qR (Qa)) ?_;simp+decide only[VO,if_true,and_true,Ql];unfold Yu;congr 1;rw[Kz];simp only[Kw,decide_eq_true_eq];omega
theorem qgE(wz:World)(h:AHeap)(b:UInt8):ACall Tryz.prog wz 111 [.int .u8 b.toNat] h (fun v h'=>v= .bool (ZJ b)/\h'=h):=by
 refine qP (n:=25) (rs:=[.tmp 2]) Tryz.func111 rfl rfl rfl rfl (VL rfl) ?_;simp only[Qd];refine awp_rseq [0] (by rfl) fun K hK=>?_;simp+decide only[qa,ev,qH,qF,putD,VM,VN,Ka,true_and,↓qd,qb];apply hK;clear hK K;refine awp_rseq [2] (by rfl) fun K hK=>?_;simp+decide only[ev,putD,VM,VO,Ka,true_and,↓qh,qc];refine qM (V:= .bool (Yu b)) (by rfl) (by rfl) (qjw wz _ b) ?_;simp+decide only[qa,ev,qH,qF,putD,VM,VO,VN,Ka,true_and,↓qh,qc,↓Xe,agP,Qt,qJ,qI,QZ,YD,qy,Qe,qnu,implies_true,↓Xb,ql,qC,cond_false,XZ,Za,qp,qav,qft,↓qgK,Qs,Qg,XO,qgA,Xp,ZF,qgy,qgz,↓QR,XH,↓qd,qb];apply hK;clear hK K;refine qN ?_;refine qW _ (Vl _) (qR (Qa)) ?_;simp+decide only[VO,if_true,and_true,Ql];unfold ZJ qpG;congr 1;rw[Kz];have e45:((b.toNat:Int)=45)↔b=45:=⟨fun q=>UInt8.toNat.inj (by have:((45:UInt8).toNat)=45:=rfl;omega),fun q=>by rw[q];rfl⟩
 simp only[JV,Kw,decide_eq_true_eq,e45];have c1:(97<=(b.toNat:Int))↔97<=b.toNat:=by omega
 have c2:((b.toNat:Int)<=122)↔b.toNat<=122:=by omega
 have c3:(65<=(b.toNat:Int))↔65<=b.toNat:=by omega
 have c4:((b.toNat:Int)<=90)↔b.toNat<=90:=by omega
 simp only[c1,c2,c3,c4,or_assoc]
end Go.Proofs.YtlhhaagmakhilaaGreatDoor
namespace Go.Proofs
open Go.Shelf
def Tryz.lays156_ren:Go.Shelf.Ren:=⟨fun|156=>55|165=>70|166=>71|169=>72|240=>89|241=>90|276=>119|277=>120|n=>n,fun|31=>30|9=>9|3=>3|4=>4|0=>0|20=>20|72=>140|76=>144|70=>138|37=>22|75=>143|127=>166|164=>189|5=>5|80=>146|n=>n,fun|n=>n⟩
theorem Tryz.lays156:Go.Proofs.Lays.n156 Tryz.prog Tryz.lays156_ren:={
 mixed:=by kernel_rfl
 f156:=Tryz.func55.trans (congrArg some (by kernel_rfl))
 f165:=Tryz.func70.trans (congrArg some (by kernel_rfl))
 f166:=Tryz.func71.trans (congrArg some (by kernel_rfl))
 f169:=Tryz.func72.trans (congrArg some (by kernel_rfl))
 f240:=Tryz.func89.trans (congrArg some (by kernel_rfl))
 f241:=Tryz.func90.trans (congrArg some (by kernel_rfl))
 f276:=Tryz.func119.trans (congrArg some (by kernel_rfl))
 f277:=Tryz.func120.trans (congrArg some (by kernel_rfl))
 t0:=Tryz.underlying0
 a0:=Tryz.isAgg0
 z0:=Tryz.sizeOf0
 v0:=Tryz.zeroValue0
 t3:=Tryz.underlying3
 a3:=Tryz.isAgg3
 z3:=Tryz.sizeOf3
 v3:=Tryz.zeroValue3
 t4:=Tryz.underlying4
 a4:=Tryz.isAgg4
 z4:=Tryz.sizeOf4
 v4:=Tryz.zeroValue4
 t9:=Tryz.underlying9
 a9:=Tryz.isAgg9
 z9:=Tryz.sizeOf9
 v9:=Tryz.zeroValue9
 t20:=Tryz.underlying20
 a20:=Tryz.isAgg20
 z20:=Tryz.sizeOf20
 v20:=Tryz.zeroValue20
 t31:=Tryz.underlying30
 a31:=Tryz.isAgg30
 z31:=Tryz.sizeOf30
 v31:=Tryz.zeroValue30
 t37:=Tryz.underlying22
 a37:=Tryz.isAgg22
 z37:=Tryz.sizeOf22
 v37:=Tryz.zeroValue22
 t70:=Tryz.underlying138
 a70:=Tryz.isAgg138
 z70:=Tryz.sizeOf138
 v70:=Tryz.zeroValue138
 t72:=Tryz.underlying140
 a72:=Tryz.isAgg140
 z72:=Tryz.sizeOf140
 v72:=Tryz.zeroValue140
 t75:=Tryz.underlying143
 a75:=Tryz.isAgg143
 z75:=Tryz.sizeOf143
 v75:=Tryz.zeroValue143
 t76:=Tryz.underlying144
 a76:=Tryz.isAgg144
 z76:=Tryz.sizeOf144
 v76:=Tryz.zeroValue144
 t127:=Tryz.underlying166
 a127:=Tryz.isAgg166
 z127:=Tryz.sizeOf166
 v127:=Tryz.zeroValue166
 t164:=Tryz.underlying189
 a164:=Tryz.isAgg189
 z164:=Tryz.sizeOf189
 v164:=Tryz.zeroValue189}
theorem Tryz.Builder_Extra_156:Builder.Extra Tryz.prog Tryz.lays156_ren:={
 sizeBuilder:=by kernel_rfl
 liesBuilder:=by kernel_rfl
 t5:=Tryz.underlying5
 a5:=Tryz.isAgg5
 z5:=Tryz.sizeOf5
 v5:=Tryz.zeroValue5
 infoByte:=by kernel_rfl
 cellsByte:=by kernel_rfl
 sizeByte:=by kernel_rfl
 neB5:=by decide}
open Go.RowKit in
theorem Tryz.strings_Join_none(a:Option Addr)(c:Nat)(sep:ByteArray)(w:World):
 Calls Tryz.prog 55 #[.slice a 0 c, .string sep] w fun e w'=>e= .returned (.string ⟨#[]⟩)/\w'=w:=Any.strings_Join_none Tryz.lays156 Tryz.Builder_Extra_156 a c sep w
open Go.RowKit in
theorem Tryz.strings_Join(bk o c:Nat)(xs:List ByteArray)(sep:ByteArray)(w:World)(hcells:∀(j:Nat) x,xs[j]?=some x->w.cell? ⟨bk,o+j,none⟩=some (.string x))(hbk:bk<w.heap.size)(hN:xs.length<=140737488355328)(hcap:xs.length<=c)(hlen:(Lib.join (xs.map (·.data.toList)) sep.data.toList).length<=140737488355328):
 Calls Tryz.prog 55 #[.slice (some ⟨bk,o,none⟩) xs.length c, .string sep] w fun e w'=>e= .returned (.string ⟨(Lib.join (xs.map (·.data.toList)) sep.data.toList).toArray⟩)/\Below w.heap.size w w':=Any.strings_Join Tryz.lays156 Tryz.Builder_Extra_156 bk o c xs sep w hcells hbk hN hcap hlen
def Tryz.lays161_ren:Go.Shelf.Ren:=⟨fun|161=>79|231=>97|227=>98|233=>99|235=>100|228=>124|197=>88|151=>125|260=>118|152=>142|137=>146|119=>147|224=>140|225=>139|217=>138|266=>144|n=>n,fun|9=>9|4=>4|3=>3|5=>5|117=>176|116=>175|0=>0|124=>179|105=>164|21=>21|119=>204|46=>169|139=>207|138=>206|n=>n,fun|3=>1|4=>2|n=>n⟩
theorem Tryz.lays161:Go.Proofs.Lays.n161 Tryz.prog Tryz.lays161_ren:={
 mixed:=by kernel_rfl
 f119:=Tryz.func147.trans (congrArg some (by kernel_rfl))
 f137:=Tryz.func146.trans (congrArg some (by kernel_rfl))
 f151:=Tryz.func125.trans (congrArg some (by kernel_rfl))
 f152:=Tryz.func142.trans (congrArg some (by kernel_rfl))
 f161:=Tryz.func79.trans (congrArg some (by kernel_rfl))
 f197:=Tryz.func88.trans (congrArg some (by kernel_rfl))
 f217:=Tryz.func138.trans (congrArg some (by kernel_rfl))
 f224:=Tryz.func140.trans (congrArg some (by kernel_rfl))
 f225:=Tryz.func139.trans (congrArg some (by kernel_rfl))
 f227:=Tryz.func98.trans (congrArg some (by kernel_rfl))
 f228:=Tryz.func124.trans (congrArg some (by kernel_rfl))
 f231:=Tryz.func97.trans (congrArg some (by kernel_rfl))
 f233:=Tryz.func99.trans (congrArg some (by kernel_rfl))
 f235:=Tryz.func100.trans (congrArg some (by kernel_rfl))
 f260:=Tryz.func118.trans (congrArg some (by kernel_rfl))
 f266:=Tryz.func144.trans (congrArg some (by kernel_rfl))
 t0:=Tryz.underlying0
 a0:=Tryz.isAgg0
 z0:=Tryz.sizeOf0
 v0:=Tryz.zeroValue0
 t3:=Tryz.underlying3
 a3:=Tryz.isAgg3
 z3:=Tryz.sizeOf3
 v3:=Tryz.zeroValue3
 t4:=Tryz.underlying4
 a4:=Tryz.isAgg4
 z4:=Tryz.sizeOf4
 v4:=Tryz.zeroValue4
 t5:=Tryz.underlying5
 a5:=Tryz.isAgg5
 z5:=Tryz.sizeOf5
 v5:=Tryz.zeroValue5
 t9:=Tryz.underlying9
 a9:=Tryz.isAgg9
 z9:=Tryz.sizeOf9
 v9:=Tryz.zeroValue9
 t21:=Tryz.underlying21
 a21:=Tryz.isAgg21
 z21:=Tryz.sizeOf21
 v21:=Tryz.zeroValue21
 t46:=Tryz.underlying169
 a46:=Tryz.isAgg169
 z46:=Tryz.sizeOf169
 v46:=Tryz.zeroValue169
 t105:=Tryz.underlying164
 a105:=Tryz.isAgg164
 z105:=Tryz.sizeOf164
 v105:=Tryz.zeroValue164
 t116:=Tryz.underlying175
 a116:=Tryz.isAgg175
 z116:=Tryz.sizeOf175
 t117:=Tryz.underlying176
 a117:=Tryz.isAgg176
 z117:=Tryz.sizeOf176
 v117:=Tryz.zeroValue176
 t119:=Tryz.underlying204
 a119:=Tryz.isAgg204
 z119:=Tryz.sizeOf204
 t124:=Tryz.underlying179
 a124:=Tryz.isAgg179
 z124:=Tryz.sizeOf179
 v124:=Tryz.zeroValue179
 t138:=Tryz.underlying206
 a138:=Tryz.isAgg206
 z138:=Tryz.sizeOf206
 v138:=Tryz.zeroValue206
 t139:=Tryz.underlying207
 a139:=Tryz.isAgg207
 z139:=Tryz.sizeOf207
 v139:=Tryz.zeroValue207
 g3:=by kernel_rfl
 g4:=by kernel_rfl}
open Go.RowKit in
theorem Tryz.strings_TrimLeft_one(s:ByteArray)(c:UInt8)(hc:c.toNat<128)(w:World):
 Calls Tryz.prog 79 #[.string s, .string ⟨#[c]⟩] w fun e w'=>e= .returned (.string ⟨(Lib.trimLeftB s.data.toList c).toArray⟩)/\w'=w:=Any.strings_TrimLeft_one Tryz.lays161 s c hc w
def Tryz.lays162_ren:Go.Shelf.Ren:=⟨fun|162=>102|232=>126|227=>98|234=>127|236=>128|228=>124|271=>143|151=>125|120=>148|197=>88|152=>142|260=>118|137=>146|119=>147|224=>140|225=>139|217=>138|266=>144|n=>n,fun|9=>9|4=>4|3=>3|5=>5|117=>176|116=>175|0=>0|124=>179|21=>21|105=>164|46=>169|119=>204|139=>207|138=>206|n=>n,fun|3=>1|4=>2|n=>n⟩
theorem Tryz.lays162:Go.Proofs.Lays.n162 Tryz.prog Tryz.lays162_ren:={
 mixed:=by kernel_rfl
 f119:=Tryz.func147.trans (congrArg some (by kernel_rfl))
 f120:=Tryz.func148.trans (congrArg some (by kernel_rfl))
 f137:=Tryz.func146.trans (congrArg some (by kernel_rfl))
 f151:=Tryz.func125.trans (congrArg some (by kernel_rfl))
 f152:=Tryz.func142.trans (congrArg some (by kernel_rfl))
 f162:=Tryz.func102.trans (congrArg some (by kernel_rfl))
 f197:=Tryz.func88.trans (congrArg some (by kernel_rfl))
 f217:=Tryz.func138.trans (congrArg some (by kernel_rfl))
 f224:=Tryz.func140.trans (congrArg some (by kernel_rfl))
 f225:=Tryz.func139.trans (congrArg some (by kernel_rfl))
 f227:=Tryz.func98.trans (congrArg some (by kernel_rfl))
 f228:=Tryz.func124.trans (congrArg some (by kernel_rfl))
 f232:=Tryz.func126.trans (congrArg some (by kernel_rfl))
 f234:=Tryz.func127.trans (congrArg some (by kernel_rfl))
 f236:=Tryz.func128.trans (congrArg some (by kernel_rfl))
 f260:=Tryz.func118.trans (congrArg some (by kernel_rfl))
 f266:=Tryz.func144.trans (congrArg some (by kernel_rfl))
 f271:=Tryz.func143.trans (congrArg some (by kernel_rfl))
 t0:=Tryz.underlying0
 a0:=Tryz.isAgg0
 z0:=Tryz.sizeOf0
 v0:=Tryz.zeroValue0
 t3:=Tryz.underlying3
 a3:=Tryz.isAgg3
 z3:=Tryz.sizeOf3
 v3:=Tryz.zeroValue3
 t4:=Tryz.underlying4
 a4:=Tryz.isAgg4
 z4:=Tryz.sizeOf4
 v4:=Tryz.zeroValue4
 t5:=Tryz.underlying5
 a5:=Tryz.isAgg5
 z5:=Tryz.sizeOf5
 v5:=Tryz.zeroValue5
 t9:=Tryz.underlying9
 a9:=Tryz.isAgg9
 z9:=Tryz.sizeOf9
 v9:=Tryz.zeroValue9
 t21:=Tryz.underlying21
 a21:=Tryz.isAgg21
 z21:=Tryz.sizeOf21
 v21:=Tryz.zeroValue21
 t46:=Tryz.underlying169
 a46:=Tryz.isAgg169
 z46:=Tryz.sizeOf169
 v46:=Tryz.zeroValue169
 t105:=Tryz.underlying164
 a105:=Tryz.isAgg164
 z105:=Tryz.sizeOf164
 v105:=Tryz.zeroValue164
 t116:=Tryz.underlying175
 a116:=Tryz.isAgg175
 z116:=Tryz.sizeOf175
 t117:=Tryz.underlying176
 a117:=Tryz.isAgg176
 z117:=Tryz.sizeOf176
 v117:=Tryz.zeroValue176
 t119:=Tryz.underlying204
 a119:=Tryz.isAgg204
 z119:=Tryz.sizeOf204
 t124:=Tryz.underlying179
 a124:=Tryz.isAgg179
 z124:=Tryz.sizeOf179
 v124:=Tryz.zeroValue179
 t138:=Tryz.underlying206
 a138:=Tryz.isAgg206
 z138:=Tryz.sizeOf206
 v138:=Tryz.zeroValue206
 t139:=Tryz.underlying207
 a139:=Tryz.isAgg207
 z139:=Tryz.sizeOf207
 v139:=Tryz.zeroValue207
 g3:=by kernel_rfl
 g4:=by kernel_rfl}
open Go.RowKit in
theorem Tryz.strings_TrimRight_one(s:ByteArray)(c:UInt8)(hc:c.toNat<128)(w:World)(hs:s.size<=9223372036854775807):
 Calls Tryz.prog 102 #[.string s, .string ⟨#[c]⟩] w fun e w'=>e= .returned (.string ⟨(Lib.trimRightB s.data.toList c).toArray⟩)/\w'=w:=Any.strings_TrimRight_one Tryz.lays162 s c hc w hs
def Tryz.lays160_ren:Go.Shelf.Ren:=⟨fun|160=>137|232=>126|231=>97|227=>98|234=>127|233=>99|236=>128|235=>100|228=>124|271=>143|151=>125|197=>88|120=>148|152=>142|260=>118|137=>146|119=>147|224=>140|225=>139|217=>138|266=>144|n=>n,fun|9=>9|4=>4|3=>3|5=>5|117=>176|116=>175|0=>0|124=>179|21=>21|105=>164|46=>169|119=>204|139=>207|138=>206|n=>n,fun|3=>1|4=>2|n=>n⟩
theorem Tryz.lays160:Go.Proofs.Lays.n160 Tryz.prog Tryz.lays160_ren:={
 mixed:=by kernel_rfl
 f119:=Tryz.func147.trans (congrArg some (by kernel_rfl))
 f120:=Tryz.func148.trans (congrArg some (by kernel_rfl))
 f137:=Tryz.func146.trans (congrArg some (by kernel_rfl))
 f151:=Tryz.func125.trans (congrArg some (by kernel_rfl))
 f152:=Tryz.func142.trans (congrArg some (by kernel_rfl))
 f160:=Tryz.func137.trans (congrArg some (by kernel_rfl))
 f197:=Tryz.func88.trans (congrArg some (by kernel_rfl))
 f217:=Tryz.func138.trans (congrArg some (by kernel_rfl))
 f224:=Tryz.func140.trans (congrArg some (by kernel_rfl))
 f225:=Tryz.func139.trans (congrArg some (by kernel_rfl))
 f227:=Tryz.func98.trans (congrArg some (by kernel_rfl))
 f228:=Tryz.func124.trans (congrArg some (by kernel_rfl))
 f231:=Tryz.func97.trans (congrArg some (by kernel_rfl))
 f232:=Tryz.func126.trans (congrArg some (by kernel_rfl))
 f233:=Tryz.func99.trans (congrArg some (by kernel_rfl))
 f234:=Tryz.func127.trans (congrArg some (by kernel_rfl))
 f235:=Tryz.func100.trans (congrArg some (by kernel_rfl))
 f236:=Tryz.func128.trans (congrArg some (by kernel_rfl))
 f260:=Tryz.func118.trans (congrArg some (by kernel_rfl))
 f266:=Tryz.func144.trans (congrArg some (by kernel_rfl))
 f271:=Tryz.func143.trans (congrArg some (by kernel_rfl))
 t0:=Tryz.underlying0
 a0:=Tryz.isAgg0
 z0:=Tryz.sizeOf0
 v0:=Tryz.zeroValue0
 t3:=Tryz.underlying3
 a3:=Tryz.isAgg3
 z3:=Tryz.sizeOf3
 v3:=Tryz.zeroValue3
 t4:=Tryz.underlying4
 a4:=Tryz.isAgg4
 z4:=Tryz.sizeOf4
 v4:=Tryz.zeroValue4
 t5:=Tryz.underlying5
 a5:=Tryz.isAgg5
 z5:=Tryz.sizeOf5
 v5:=Tryz.zeroValue5
 t9:=Tryz.underlying9
 a9:=Tryz.isAgg9
 z9:=Tryz.sizeOf9
 v9:=Tryz.zeroValue9
 t21:=Tryz.underlying21
 a21:=Tryz.isAgg21
 z21:=Tryz.sizeOf21
 v21:=Tryz.zeroValue21
 t46:=Tryz.underlying169
 a46:=Tryz.isAgg169
 z46:=Tryz.sizeOf169
 v46:=Tryz.zeroValue169
 t105:=Tryz.underlying164
 a105:=Tryz.isAgg164
 z105:=Tryz.sizeOf164
 v105:=Tryz.zeroValue164
 t116:=Tryz.underlying175
 a116:=Tryz.isAgg175
 z116:=Tryz.sizeOf175
 t117:=Tryz.underlying176
 a117:=Tryz.isAgg176
 z117:=Tryz.sizeOf176
 v117:=Tryz.zeroValue176
 t119:=Tryz.underlying204
 a119:=Tryz.isAgg204
 z119:=Tryz.sizeOf204
 t124:=Tryz.underlying179
 a124:=Tryz.isAgg179
 z124:=Tryz.sizeOf179
 v124:=Tryz.zeroValue179
 t138:=Tryz.underlying206
 a138:=Tryz.isAgg206
 z138:=Tryz.sizeOf206
 v138:=Tryz.zeroValue206
 t139:=Tryz.underlying207
 a139:=Tryz.isAgg207
 z139:=Tryz.sizeOf207
 v139:=Tryz.zeroValue207
 g3:=by kernel_rfl
 g4:=by kernel_rfl}
def Tryz.lays144_ren:Go.Shelf.Ren:=⟨fun|144=>134|143=>87|219=>117|217=>138|225=>139|224=>140|267=>141|266=>144|314=>145|n=>n,fun|9=>9|4=>4|3=>3|5=>5|46=>169|146=>193|51=>192|n=>n,fun|1=>0|n=>n⟩
theorem Tryz.lays144:Go.Proofs.Lays.n144 Tryz.prog Tryz.lays144_ren:={
 mixed:=by kernel_rfl
 f143:=Tryz.func87.trans (congrArg some (by kernel_rfl))
 f144:=Tryz.func134.trans (congrArg some (by kernel_rfl))
 f217:=Tryz.func138.trans (congrArg some (by kernel_rfl))
 f219:=Tryz.func117.trans (congrArg some (by kernel_rfl))
 f224:=Tryz.func140.trans (congrArg some (by kernel_rfl))
 f225:=Tryz.func139.trans (congrArg some (by kernel_rfl))
 f266:=Tryz.func144.trans (congrArg some (by kernel_rfl))
 f267:=Tryz.func141.trans (congrArg some (by kernel_rfl))
 f314:=Tryz.func145.trans (congrArg some (by kernel_rfl))
 t3:=Tryz.underlying3
 a3:=Tryz.isAgg3
 z3:=Tryz.sizeOf3
 v3:=Tryz.zeroValue3
 t4:=Tryz.underlying4
 a4:=Tryz.isAgg4
 z4:=Tryz.sizeOf4
 v4:=Tryz.zeroValue4
 t5:=Tryz.underlying5
 a5:=Tryz.isAgg5
 z5:=Tryz.sizeOf5
 v5:=Tryz.zeroValue5
 t9:=Tryz.underlying9
 a9:=Tryz.isAgg9
 z9:=Tryz.sizeOf9
 v9:=Tryz.zeroValue9
 t46:=Tryz.underlying169
 a46:=Tryz.isAgg169
 z46:=Tryz.sizeOf169
 v46:=Tryz.zeroValue169
 t51:=Tryz.underlying192
 a51:=Tryz.isAgg192
 z51:=Tryz.sizeOf192
 v51:=Tryz.zeroValue192
 t146:=Tryz.underlying193
 a146:=Tryz.isAgg193
 z146:=Tryz.sizeOf193
 v146:=Tryz.zeroValue193
 g1:=by kernel_rfl}
open Go.RowKit Go.Lib in
theorem Tryz.strings_Contains_one(s:ByteArray)(c:UInt8)(w:World):
 Calls Tryz.prog 134 #[.string s, .string ⟨#[c]⟩] w fun e w'=>e= .returned (.bool (decide (0<=Lib.indexByte s.data.toList c)))/\w'=w:=Any.strings_Contains_one Tryz.lays144 s c w
def Tryz.lays138_ren:Go.Shelf.Ren:=⟨fun|138=>86|195=>115|218=>116|143=>87|219=>117|217=>138|225=>139|224=>140|267=>141|266=>144|314=>145|n=>n,fun|9=>9|3=>3|4=>4|5=>5|0=>0|46=>169|146=>193|51=>192|n=>n,fun|1=>0|n=>n⟩
theorem Tryz.lays138:Go.Proofs.Lays.n138 Tryz.prog Tryz.lays138_ren:={
 mixed:=by kernel_rfl
 f138:=Tryz.func86.trans (congrArg some (by kernel_rfl))
 f143:=Tryz.func87.trans (congrArg some (by kernel_rfl))
 f195:=Tryz.func115.trans (congrArg some (by kernel_rfl))
 f217:=Tryz.func138.trans (congrArg some (by kernel_rfl))
 f218:=Tryz.func116.trans (congrArg some (by kernel_rfl))
 f219:=Tryz.func117.trans (congrArg some (by kernel_rfl))
 f224:=Tryz.func140.trans (congrArg some (by kernel_rfl))
 f225:=Tryz.func139.trans (congrArg some (by kernel_rfl))
 f266:=Tryz.func144.trans (congrArg some (by kernel_rfl))
 f267:=Tryz.func141.trans (congrArg some (by kernel_rfl))
 f314:=Tryz.func145.trans (congrArg some (by kernel_rfl))
 t0:=Tryz.underlying0
 a0:=Tryz.isAgg0
 z0:=Tryz.sizeOf0
 v0:=Tryz.zeroValue0
 t3:=Tryz.underlying3
 a3:=Tryz.isAgg3
 z3:=Tryz.sizeOf3
 v3:=Tryz.zeroValue3
 t4:=Tryz.underlying4
 a4:=Tryz.isAgg4
 z4:=Tryz.sizeOf4
 v4:=Tryz.zeroValue4
 t5:=Tryz.underlying5
 a5:=Tryz.isAgg5
 z5:=Tryz.sizeOf5
 v5:=Tryz.zeroValue5
 t9:=Tryz.underlying9
 a9:=Tryz.isAgg9
 z9:=Tryz.sizeOf9
 v9:=Tryz.zeroValue9
 t46:=Tryz.underlying169
 a46:=Tryz.isAgg169
 z46:=Tryz.sizeOf169
 v46:=Tryz.zeroValue169
 t51:=Tryz.underlying192
 a51:=Tryz.isAgg192
 z51:=Tryz.sizeOf192
 v51:=Tryz.zeroValue192
 t146:=Tryz.underlying193
 a146:=Tryz.isAgg193
 z146:=Tryz.sizeOf193
 v146:=Tryz.zeroValue193
 g1:=by kernel_rfl}
open Go.RowKit Go.Lib in
theorem Tryz.strings_Count_one(s:ByteArray)(c:UInt8)(w:World):
 Calls Tryz.prog 86 #[.string s, .string ⟨#[c]⟩] w fun e w'=>e= .returned (.int .i64 (Lib.countByte s.data.toList c))/\w'=w:=Any.strings_Count_one Tryz.lays138 s c w
def Tryz.laysGw15_ren:Go.Shelf.Ren:=⟨fun|15=>76|20=>93|n=>n,fun|9=>9|23=>150|3=>3|4=>4|0=>0|21=>21|n=>n,fun|n=>n⟩
theorem Tryz.laysGw15:Go.Proofs.LaysGw.n15 Tryz.prog Tryz.laysGw15_ren:={
 mixed:=by kernel_rfl
 f15:=Tryz.func76.trans (congrArg some (by kernel_rfl))
 f20:=Tryz.func93.trans (congrArg some (by kernel_rfl))
 t0:=Tryz.underlying0
 a0:=Tryz.isAgg0
 z0:=Tryz.sizeOf0
 v0:=Tryz.zeroValue0
 i0:=by kernel_rfl
 t3:=Tryz.underlying3
 a3:=Tryz.isAgg3
 z3:=Tryz.sizeOf3
 v3:=Tryz.zeroValue3
 i3:=by kernel_rfl
 t4:=Tryz.underlying4
 a4:=Tryz.isAgg4
 z4:=Tryz.sizeOf4
 v4:=Tryz.zeroValue4
 i4:=by kernel_rfl
 t9:=Tryz.underlying9
 a9:=Tryz.isAgg9
 z9:=Tryz.sizeOf9
 v9:=Tryz.zeroValue9
 i9:=by kernel_rfl
 t21:=Tryz.underlying21
 a21:=Tryz.isAgg21
 z21:=Tryz.sizeOf21
 v21:=Tryz.zeroValue21
 i21:=by kernel_rfl
 t23:=Tryz.underlying150
 a23:=Tryz.isAgg150
 z23:=Tryz.sizeOf150
 v23:=Tryz.zeroValue150
 i23:=by kernel_rfl}
open Go.RowKit Go.Lib in
theorem Tryz.strings_IndexFunc_runes(g:Nat)(lb:Array Value)(eg:∀args w,(callFunc g args).run Tryz.prog w= .ok (.enter g args) w)(p:Nat->Bool)(s:ByteArray)(w:World)(hp:PredAtRunes Tryz.prog g lb p w):
 Calls Tryz.prog 76 #[.string s, .func (.func g) #[] lb] w fun e w'=>e= .returned (.int .i64 (Lib.idxFunc p true s))/\Below w.heap.size w w':=Any.strings_IndexFunc_runes Tryz.laysGw15 g lb eg p s w hp
def Tryz.lays99_ren:Go.Shelf.Ren:=⟨fun|99=>95|206=>123|n=>n,fun|9=>9|4=>4|3=>3|n=>n,fun|n=>n⟩
theorem Tryz.lays99:Go.Proofs.Lays.n99 Tryz.prog Tryz.lays99_ren:={
 mixed:=by kernel_rfl
 f99:=Tryz.func95.trans (congrArg some (by kernel_rfl))
 f206:=Tryz.func123.trans (congrArg some (by kernel_rfl))
 t3:=Tryz.underlying3
 a3:=Tryz.isAgg3
 z3:=Tryz.sizeOf3
 v3:=Tryz.zeroValue3
 t4:=Tryz.underlying4
 a4:=Tryz.isAgg4
 z4:=Tryz.sizeOf4
 v4:=Tryz.zeroValue4
 t9:=Tryz.underlying9
 a9:=Tryz.isAgg9
 z9:=Tryz.sizeOf9
 v9:=Tryz.zeroValue9}
open Go.RowKit Go.Lib in
theorem Tryz.strings_HasPrefix(s p:ByteArray)(w:World):
 Calls Tryz.prog 95 #[.string s, .string p] w fun e w'=>e= .returned (.bool (Lib.hasPrefix s.data.toList p.data.toList))/\w'=w:=Any.strings_HasPrefix Tryz.lays99 s p w
def Tryz.lays102_ren:Go.Shelf.Ren:=⟨fun|102=>60|209=>74|207=>92|n=>n,fun|9=>9|4=>4|3=>3|n=>n,fun|n=>n⟩
theorem Tryz.lays102:Go.Proofs.Lays.n102 Tryz.prog Tryz.lays102_ren:={
 mixed:=by kernel_rfl
 f102:=Tryz.func60.trans (congrArg some (by kernel_rfl))
 f207:=Tryz.func92.trans (congrArg some (by kernel_rfl))
 f209:=Tryz.func74.trans (congrArg some (by kernel_rfl))
 t3:=Tryz.underlying3
 a3:=Tryz.isAgg3
 z3:=Tryz.sizeOf3
 v3:=Tryz.zeroValue3
 t4:=Tryz.underlying4
 a4:=Tryz.isAgg4
 z4:=Tryz.sizeOf4
 v4:=Tryz.zeroValue4
 t9:=Tryz.underlying9
 a9:=Tryz.isAgg9
 z9:=Tryz.sizeOf9
 v9:=Tryz.zeroValue9}
open Go.RowKit Go.Lib in
theorem Tryz.strings_TrimSuffix(s p:ByteArray)(w:World)(hs:s.size<=9223372036854775807):
 Calls Tryz.prog 60 #[.string s, .string p] w fun e w'=>e= .returned (.string ⟨(Lib.trimSuffix s.data.toList p.data.toList).toArray⟩)/\w'=w:=Any.strings_TrimSuffix Tryz.lays102 s p w hs
def Tryz.lays146_ren:Go.Shelf.Ren:=⟨fun|146=>59|221=>73|268=>91|138=>86|143=>87|195=>115|197=>88|218=>116|219=>117|260=>118|217=>138|225=>139|224=>140|267=>141|266=>144|314=>145|n=>n,fun|9=>9|31=>30|3=>3|4=>4|0=>0|105=>164|21=>21|5=>5|46=>169|119=>204|139=>207|138=>206|146=>193|51=>192|n=>n,fun|1=>0|3=>1|4=>2|n=>n⟩
theorem Tryz.lays146:Go.Proofs.Lays.n146 Tryz.prog Tryz.lays146_ren:={
 mixed:=by kernel_rfl
 f138:=Tryz.func86.trans (congrArg some (by kernel_rfl))
 f143:=Tryz.func87.trans (congrArg some (by kernel_rfl))
 f146:=Tryz.func59.trans (congrArg some (by kernel_rfl))
 f195:=Tryz.func115.trans (congrArg some (by kernel_rfl))
 f197:=Tryz.func88.trans (congrArg some (by kernel_rfl))
 f217:=Tryz.func138.trans (congrArg some (by kernel_rfl))
 f218:=Tryz.func116.trans (congrArg some (by kernel_rfl))
 f219:=Tryz.func117.trans (congrArg some (by kernel_rfl))
 f221:=Tryz.func73.trans (congrArg some (by kernel_rfl))
 f224:=Tryz.func140.trans (congrArg some (by kernel_rfl))
 f225:=Tryz.func139.trans (congrArg some (by kernel_rfl))
 f260:=Tryz.func118.trans (congrArg some (by kernel_rfl))
 f266:=Tryz.func144.trans (congrArg some (by kernel_rfl))
 f267:=Tryz.func141.trans (congrArg some (by kernel_rfl))
 f268:=Tryz.func91.trans (congrArg some (by kernel_rfl))
 f314:=Tryz.func145.trans (congrArg some (by kernel_rfl))
 t0:=Tryz.underlying0
 a0:=Tryz.isAgg0
 z0:=Tryz.sizeOf0
 v0:=Tryz.zeroValue0
 t3:=Tryz.underlying3
 a3:=Tryz.isAgg3
 z3:=Tryz.sizeOf3
 v3:=Tryz.zeroValue3
 t4:=Tryz.underlying4
 a4:=Tryz.isAgg4
 z4:=Tryz.sizeOf4
 v4:=Tryz.zeroValue4
 t5:=Tryz.underlying5
 a5:=Tryz.isAgg5
 z5:=Tryz.sizeOf5
 v5:=Tryz.zeroValue5
 t9:=Tryz.underlying9
 a9:=Tryz.isAgg9
 z9:=Tryz.sizeOf9
 v9:=Tryz.zeroValue9
 t21:=Tryz.underlying21
 a21:=Tryz.isAgg21
 z21:=Tryz.sizeOf21
 v21:=Tryz.zeroValue21
 t31:=Tryz.underlying30
 a31:=Tryz.isAgg30
 z31:=Tryz.sizeOf30
 v31:=Tryz.zeroValue30
 t46:=Tryz.underlying169
 a46:=Tryz.isAgg169
 z46:=Tryz.sizeOf169
 v46:=Tryz.zeroValue169
 t51:=Tryz.underlying192
 a51:=Tryz.isAgg192
 z51:=Tryz.sizeOf192
 v51:=Tryz.zeroValue192
 t105:=Tryz.underlying164
 a105:=Tryz.isAgg164
 z105:=Tryz.sizeOf164
 v105:=Tryz.zeroValue164
 t119:=Tryz.underlying204
 a119:=Tryz.isAgg204
 z119:=Tryz.sizeOf204
 t138:=Tryz.underlying206
 a138:=Tryz.isAgg206
 z138:=Tryz.sizeOf206
 v138:=Tryz.zeroValue206
 t139:=Tryz.underlying207
 a139:=Tryz.isAgg207
 z139:=Tryz.sizeOf207
 v139:=Tryz.zeroValue207
 t146:=Tryz.underlying193
 a146:=Tryz.isAgg193
 z146:=Tryz.sizeOf193
 v146:=Tryz.zeroValue193
 g1:=by kernel_rfl
 g3:=by kernel_rfl
 g4:=by kernel_rfl}
open Go.RowKit Go.Lib in
theorem Tryz.strings_Split(s sep:ByteArray)(m:Int)(w:World)(hs:s.size<4294967281)(hm:w.cell? ⟨0,0,none⟩=some (.int .i64 m))(h1:1<=sep.size):
 Calls Tryz.prog 59 #[.string s, .string sep] w fun e w'=>
  e= .returned (.slice (some ⟨w.heap.size,0,none⟩) (Lib.countB s sep+1) (Lib.countB s sep+1))/\w'=w.alloc (.cells ((Lib.splitB sep 0 (Lib.countB s sep) s).map Value.string).toArray 9):=Any.strings_Split Tryz.lays146 (by kernel_rfl) s sep m w hs hm h1
def Tryz.lays155_ren:Go.Shelf.Ren:=⟨fun|155=>54|154=>69|138=>86|165=>70|143=>87|166=>71|197=>88|169=>72|195=>115|218=>116|240=>89|241=>90|219=>117|260=>118|276=>119|277=>120|217=>138|225=>139|224=>140|267=>141|266=>144|314=>145|n=>n,fun|9=>9|3=>3|4=>4|72=>140|0=>0|76=>144|105=>164|21=>21|5=>5|70=>138|20=>20|37=>22|75=>143|127=>166|164=>189|46=>169|119=>204|139=>207|138=>206|146=>193|51=>192|80=>146|n=>n,fun|1=>0|3=>1|4=>2|n=>n⟩
theorem Tryz.lays155:Go.Proofs.Lays.n155 Tryz.prog Tryz.lays155_ren:={
 mixed:=by kernel_rfl
 f138:=Tryz.func86.trans (congrArg some (by kernel_rfl))
 f143:=Tryz.func87.trans (congrArg some (by kernel_rfl))
 f154:=Tryz.func69.trans (congrArg some (by kernel_rfl))
 f155:=Tryz.func54.trans (congrArg some (by kernel_rfl))
 f165:=Tryz.func70.trans (congrArg some (by kernel_rfl))
 f166:=Tryz.func71.trans (congrArg some (by kernel_rfl))
 f169:=Tryz.func72.trans (congrArg some (by kernel_rfl))
 f195:=Tryz.func115.trans (congrArg some (by kernel_rfl))
 f197:=Tryz.func88.trans (congrArg some (by kernel_rfl))
 f217:=Tryz.func138.trans (congrArg some (by kernel_rfl))
 f218:=Tryz.func116.trans (congrArg some (by kernel_rfl))
 f219:=Tryz.func117.trans (congrArg some (by kernel_rfl))
 f224:=Tryz.func140.trans (congrArg some (by kernel_rfl))
 f225:=Tryz.func139.trans (congrArg some (by kernel_rfl))
 f240:=Tryz.func89.trans (congrArg some (by kernel_rfl))
 f241:=Tryz.func90.trans (congrArg some (by kernel_rfl))
 f260:=Tryz.func118.trans (congrArg some (by kernel_rfl))
 f266:=Tryz.func144.trans (congrArg some (by kernel_rfl))
 f267:=Tryz.func141.trans (congrArg some (by kernel_rfl))
 f276:=Tryz.func119.trans (congrArg some (by kernel_rfl))
 f277:=Tryz.func120.trans (congrArg some (by kernel_rfl))
 f314:=Tryz.func145.trans (congrArg some (by kernel_rfl))
 t0:=Tryz.underlying0
 a0:=Tryz.isAgg0
 z0:=Tryz.sizeOf0
 v0:=Tryz.zeroValue0
 t3:=Tryz.underlying3
 a3:=Tryz.isAgg3
 z3:=Tryz.sizeOf3
 v3:=Tryz.zeroValue3
 t4:=Tryz.underlying4
 a4:=Tryz.isAgg4
 z4:=Tryz.sizeOf4
 v4:=Tryz.zeroValue4
 t5:=Tryz.underlying5
 a5:=Tryz.isAgg5
 z5:=Tryz.sizeOf5
 v5:=Tryz.zeroValue5
 t9:=Tryz.underlying9
 a9:=Tryz.isAgg9
 z9:=Tryz.sizeOf9
 v9:=Tryz.zeroValue9
 t20:=Tryz.underlying20
 a20:=Tryz.isAgg20
 z20:=Tryz.sizeOf20
 v20:=Tryz.zeroValue20
 t21:=Tryz.underlying21
 a21:=Tryz.isAgg21
 z21:=Tryz.sizeOf21
 v21:=Tryz.zeroValue21
 t37:=Tryz.underlying22
 a37:=Tryz.isAgg22
 z37:=Tryz.sizeOf22
 v37:=Tryz.zeroValue22
 t46:=Tryz.underlying169
 a46:=Tryz.isAgg169
 z46:=Tryz.sizeOf169
 v46:=Tryz.zeroValue169
 t51:=Tryz.underlying192
 a51:=Tryz.isAgg192
 z51:=Tryz.sizeOf192
 v51:=Tryz.zeroValue192
 t70:=Tryz.underlying138
 a70:=Tryz.isAgg138
 z70:=Tryz.sizeOf138
 v70:=Tryz.zeroValue138
 t72:=Tryz.underlying140
 a72:=Tryz.isAgg140
 z72:=Tryz.sizeOf140
 v72:=Tryz.zeroValue140
 t75:=Tryz.underlying143
 a75:=Tryz.isAgg143
 z75:=Tryz.sizeOf143
 v75:=Tryz.zeroValue143
 t76:=Tryz.underlying144
 a76:=Tryz.isAgg144
 z76:=Tryz.sizeOf144
 v76:=Tryz.zeroValue144
 t105:=Tryz.underlying164
 a105:=Tryz.isAgg164
 z105:=Tryz.sizeOf164
 v105:=Tryz.zeroValue164
 t119:=Tryz.underlying204
 a119:=Tryz.isAgg204
 z119:=Tryz.sizeOf204
 t127:=Tryz.underlying166
 a127:=Tryz.isAgg166
 z127:=Tryz.sizeOf166
 v127:=Tryz.zeroValue166
 t138:=Tryz.underlying206
 a138:=Tryz.isAgg206
 z138:=Tryz.sizeOf206
 v138:=Tryz.zeroValue206
 t139:=Tryz.underlying207
 a139:=Tryz.isAgg207
 z139:=Tryz.sizeOf207
 v139:=Tryz.zeroValue207
 t146:=Tryz.underlying193
 a146:=Tryz.isAgg193
 z146:=Tryz.sizeOf193
 v146:=Tryz.zeroValue193
 t164:=Tryz.underlying189
 a164:=Tryz.isAgg189
 z164:=Tryz.sizeOf189
 v164:=Tryz.zeroValue189
 g1:=by kernel_rfl
 g3:=by kernel_rfl
 g4:=by kernel_rfl}
theorem Tryz.Builder_Extra_155:Builder.Extra Tryz.prog Tryz.lays155_ren:={
 sizeBuilder:=by kernel_rfl
 liesBuilder:=by kernel_rfl
 t5:=Tryz.underlying5
 a5:=Tryz.isAgg5
 z5:=Tryz.sizeOf5
 v5:=Tryz.zeroValue5
 infoByte:=by kernel_rfl
 cellsByte:=by kernel_rfl
 sizeByte:=by kernel_rfl
 neB5:=by decide}
open Go.RowKit Go.Lib in
theorem Tryz.strings_ReplaceAll(s old new:ByteArray)(m:Int)(w:World)(hs:s.size<4294967281)(hm:w.cell? ⟨0,0,none⟩=some (.int .i64 m))(h1:1<=old.size)(hlen:s.size+Lib.countB s old*new.size<=140737488355328):
 Calls Tryz.prog 54 #[.string s, .string old, .string new] w fun e w'=>
  e= .returned (.string ⟨(Lib.replaceAll s.data.toList old.data.toList new.data.toList).toArray⟩)/\Below w.heap.size w w':=Any.strings_ReplaceAll Tryz.lays155 Tryz.Builder_Extra_155 s old new m w hs hm h1 hlen
def Tryz.lays105_ren:Go.Shelf.Ren:=⟨fun|105=>78|212=>94|99=>95|165=>70|166=>71|170=>96|169=>72|263=>121|264=>122|206=>123|240=>89|241=>90|276=>119|277=>120|n=>n,fun|9=>9|3=>3|4=>4|20=>20|0=>0|46=>169|109=>170|5=>5|72=>140|76=>144|51=>192|146=>193|53=>195|148=>196|70=>138|37=>22|75=>143|127=>166|164=>189|80=>146|n=>n,fun|n=>n⟩
theorem Tryz.lays105:Go.Proofs.Lays.n105 Tryz.prog Tryz.lays105_ren:={
 mixed:=by kernel_rfl
 f99:=Tryz.func95.trans (congrArg some (by kernel_rfl))
 f105:=Tryz.func78.trans (congrArg some (by kernel_rfl))
 f165:=Tryz.func70.trans (congrArg some (by kernel_rfl))
 f166:=Tryz.func71.trans (congrArg some (by kernel_rfl))
 f169:=Tryz.func72.trans (congrArg some (by kernel_rfl))
 f170:=Tryz.func96.trans (congrArg some (by kernel_rfl))
 f206:=Tryz.func123.trans (congrArg some (by kernel_rfl))
 f212:=Tryz.func94.trans (congrArg some (by kernel_rfl))
 f240:=Tryz.func89.trans (congrArg some (by kernel_rfl))
 f241:=Tryz.func90.trans (congrArg some (by kernel_rfl))
 f263:=Tryz.func121.trans (congrArg some (by kernel_rfl))
 f264:=Tryz.func122.trans (congrArg some (by kernel_rfl))
 f276:=Tryz.func119.trans (congrArg some (by kernel_rfl))
 f277:=Tryz.func120.trans (congrArg some (by kernel_rfl))
 t0:=Tryz.underlying0
 a0:=Tryz.isAgg0
 z0:=Tryz.sizeOf0
 v0:=Tryz.zeroValue0
 t3:=Tryz.underlying3
 a3:=Tryz.isAgg3
 z3:=Tryz.sizeOf3
 v3:=Tryz.zeroValue3
 t4:=Tryz.underlying4
 a4:=Tryz.isAgg4
 z4:=Tryz.sizeOf4
 v4:=Tryz.zeroValue4
 t5:=Tryz.underlying5
 a5:=Tryz.isAgg5
 z5:=Tryz.sizeOf5
 v5:=Tryz.zeroValue5
 t9:=Tryz.underlying9
 a9:=Tryz.isAgg9
 z9:=Tryz.sizeOf9
 v9:=Tryz.zeroValue9
 t20:=Tryz.underlying20
 a20:=Tryz.isAgg20
 z20:=Tryz.sizeOf20
 v20:=Tryz.zeroValue20
 t37:=Tryz.underlying22
 a37:=Tryz.isAgg22
 z37:=Tryz.sizeOf22
 v37:=Tryz.zeroValue22
 t46:=Tryz.underlying169
 a46:=Tryz.isAgg169
 z46:=Tryz.sizeOf169
 v46:=Tryz.zeroValue169
 t51:=Tryz.underlying192
 a51:=Tryz.isAgg192
 z51:=Tryz.sizeOf192
 v51:=Tryz.zeroValue192
 t53:=Tryz.underlying195
 a53:=Tryz.isAgg195
 z53:=Tryz.sizeOf195
 v53:=Tryz.zeroValue195
 t70:=Tryz.underlying138
 a70:=Tryz.isAgg138
 z70:=Tryz.sizeOf138
 v70:=Tryz.zeroValue138
 t72:=Tryz.underlying140
 a72:=Tryz.isAgg140
 z72:=Tryz.sizeOf140
 v72:=Tryz.zeroValue140
 t75:=Tryz.underlying143
 a75:=Tryz.isAgg143
 z75:=Tryz.sizeOf143
 v75:=Tryz.zeroValue143
 t76:=Tryz.underlying144
 a76:=Tryz.isAgg144
 z76:=Tryz.sizeOf144
 v76:=Tryz.zeroValue144
 t109:=Tryz.underlying170
 a109:=Tryz.isAgg170
 z109:=Tryz.sizeOf170
 v109:=Tryz.zeroValue170
 t127:=Tryz.underlying166
 a127:=Tryz.isAgg166
 z127:=Tryz.sizeOf166
 v127:=Tryz.zeroValue166
 t146:=Tryz.underlying193
 a146:=Tryz.isAgg193
 z146:=Tryz.sizeOf193
 v146:=Tryz.zeroValue193
 t148:=Tryz.underlying196
 a148:=Tryz.isAgg196
 z148:=Tryz.sizeOf196
 v148:=Tryz.zeroValue196
 t164:=Tryz.underlying189
 a164:=Tryz.isAgg189
 z164:=Tryz.sizeOf189
 v164:=Tryz.zeroValue189}
theorem Tryz.Builder_Extra_105:Builder.Extra Tryz.prog Tryz.lays105_ren:={
 sizeBuilder:=by kernel_rfl
 liesBuilder:=by kernel_rfl
 t5:=Tryz.underlying5
 a5:=Tryz.isAgg5
 z5:=Tryz.sizeOf5
 v5:=Tryz.zeroValue5
 infoByte:=by kernel_rfl
 cellsByte:=by kernel_rfl
 sizeByte:=by kernel_rfl
 neB5:=by decide}
open Go.RowKit Go.Lib in
theorem Tryz.strings_Repeat(s:ByteArray)(c:Nat)(w:World)(hc:c<=9223372036854775807)(hlen:s.size*c<=140737488355328):
 Calls Tryz.prog 78 #[.string s, .int .i64 c] w fun e w'=>e= .returned (.string ⟨(Lib.repeatL s.data.toList c).toArray⟩)/\Below w.heap.size w w':=Any.strings_Repeat Tryz.lays105 Tryz.Builder_Extra_105 s c w hc hlen
def Tryz.lays110_ren:Go.Shelf.Ren:=⟨fun|110=>53|109=>68|n=>n,fun|31=>30|9=>9|4=>4|3=>3|0=>0|n=>n,fun|n=>n⟩
theorem Tryz.lays110:Go.Proofs.Lays.n110 Tryz.prog Tryz.lays110_ren:={
 mixed:=by kernel_rfl
 f109:=Tryz.func68.trans (congrArg some (by kernel_rfl))
 f110:=Tryz.func53.trans (congrArg some (by kernel_rfl))
 t0:=Tryz.underlying0
 a0:=Tryz.isAgg0
 z0:=Tryz.sizeOf0
 v0:=Tryz.zeroValue0
 t3:=Tryz.underlying3
 a3:=Tryz.isAgg3
 z3:=Tryz.sizeOf3
 v3:=Tryz.zeroValue3
 t4:=Tryz.underlying4
 a4:=Tryz.isAgg4
 z4:=Tryz.sizeOf4
 v4:=Tryz.zeroValue4
 t9:=Tryz.underlying9
 a9:=Tryz.isAgg9
 z9:=Tryz.sizeOf9
 v9:=Tryz.zeroValue9
 t31:=Tryz.underlying30
 a31:=Tryz.isAgg30
 z31:=Tryz.sizeOf30
 v31:=Tryz.zeroValue30}
open Go.Lib in
theorem Tryz.slices_Contains_string(b off n c:Nat)(zs:List ByteArray)(x:ByteArray)(w:World)(hz:n<=zs.length)(hbig:n<=9223372036854775807)(hc:∀j,j<zs.length->w.cell? ⟨b,off+j,none⟩=some (.string (zs.getD j ByteArray.empty))):
 Calls Tryz.prog 53 #[.slice (some ⟨b,off,none⟩) n c, .string x] w fun e w'=>e= .returned (.bool (Lib.containsS (zs.take n) x))/\w'=w:=Any.slices_Contains_string Tryz.lays110 b off n c zs x w hz hbig hc
open Go.Lib in
theorem Tryz.slices_Contains_string_empty(a:Option Addr)(c:Nat)(x:ByteArray)(w:World):
 Calls Tryz.prog 53 #[.slice a 0 c, .string x] w fun e w'=>e= .returned (.bool false)/\w'=w:=Any.slices_Contains_string_empty Tryz.lays110 a c x w
end Go.Proofs
namespace Go.Proofs.YtlhhaagmakhilaaGreatDoor
open Go.AM
open Go.Proofs
open Go.Col
open Go.RowKit (Below)
set_option maxRecDepth 100000
theorem c_trimL(wz:World)(h:AHeap)(s:Str):ACall Tryz.prog wz 79 [.str s, .str [32]] h (fun v h'=>v= .str (qiu s)/\h'=h):=by
 refine ZW (vals:=[.string ⟨⟨s⟩⟩, .string ⟨⟨[32]⟩⟩]) (val:= .string ⟨⟨qiu s⟩⟩) Tryz.func79 rfl rfl (fun fi vs hv=>qer hv) (fun fi=>rfl) fun w=>?_;refine(Tryz.strings_TrimLeft_one ⟨⟨s⟩⟩ 32 (by decide) w).mono fun e w' ⟨e1,e2⟩=>⟨e1,?_⟩
 subst e2;exact Go.RowKit.Below.refl _ _
theorem c_trimR(wz:World)(h:AHeap)(s:Str)(hl:s.length<=9223372036854775807):ACall Tryz.prog wz 102 [.str s, .str [32]] h (fun v h'=>v= .str (qfM s)/\h'=h):=by
 refine ZW (vals:=[.string ⟨⟨s⟩⟩, .string ⟨⟨[32]⟩⟩]) (val:= .string ⟨⟨qfM s⟩⟩) Tryz.func102 rfl rfl (fun fi vs hv=>qer hv) (fun fi=>rfl) fun w=>?_;refine(Tryz.strings_TrimRight_one ⟨⟨s⟩⟩ 32 (by decide) w hl).mono fun e w' ⟨e1,e2⟩=>⟨e1,?_⟩
 subst e2;exact Go.RowKit.Below.refl _ _
theorem repeatL_one(b:UInt8):∀n,Go.Lib.repeatL [b] n=JL n b
 |0=>rfl
 |n+1=>by
  rw[Go.Lib.repeatL,repeatL_one b n];simp[List.replicate_succ]
theorem c_repeat(wz:World)(h:AHeap)(b:UInt8)(n:Nat)(hn:n<=140737488355328):ACall Tryz.prog wz 78 [.str [b], .int .i64 n] h (fun v h'=>v= .str (JL n b)/\h'=h):=by
 refine ZW (vals:=[.string ⟨⟨[b]⟩⟩, .int .i64 n]) (val:= .string ⟨⟨JL n b⟩⟩) Tryz.func78 rfl rfl (fun fi vs hv=>VRs_si hv) (fun fi=>rfl) fun w=>?_;have:=Tryz.strings_Repeat ⟨⟨[b]⟩⟩ n w (by omega) (by show 1*n<=_;omega);rw[repeatL_one]at this;exact this
theorem c_count(wz:World)(h:AHeap)(s:Str)(b:UInt8):ACall Tryz.prog wz 86 [.str s, .str [b]] h (fun v h'=>v= .int .i64 (s.countP (· ==b))/\h'=h):=by
 refine ZW (vals:=[.string ⟨⟨s⟩⟩, .string ⟨⟨[b]⟩⟩]) (val:= .int .i64 (s.countP (· ==b))) Tryz.func86 rfl rfl (fun fi vs hv=>qer hv) (fun fi=>rfl) fun w=>?_;refine(Tryz.strings_Count_one ⟨⟨s⟩⟩ b w).mono fun e w' ⟨e1,e2⟩=>⟨e1,?_⟩
 subst e2;exact Go.RowKit.Below.refl _ _
theorem qnY:∀(s:Str) (b:UInt8),List.isSuffixOf [b] s=decide (s.getLast?=some b):=by
 intro s b;rcases List.eq_nil_or_concat s with rfl|⟨l,x,rfl⟩
 ·rfl
 ·rw[List.concat_eq_append]
  rw[List.getLast?_append];rw[Kz,List.isSuffixOf_iff_suffix];simp only[List.getLast?_singleton,Option.some_or,Option.some.injEq,decide_eq_true_eq];constructor
  ·rintro⟨t,ht⟩
   exact(List.append_inj' ht rfl).2 |> List.singleton_inj.1 |>.symm
  ·rintro rfl
   exact⟨l,rfl⟩
theorem qkb(s:Str):Lib.trimSuffix s [10]=Yw s:=by
 unfold Lib.trimSuffix Lib.hasSuffix Yw;rw[qnY];by_cases h:s.getLast?=some 10
 ·rw[decide_eq_true h,if_pos rfl,if_pos h,List.dropLast_eq_take]
  rfl
 ·rw[decide_eq_false h,if_neg (by decide),if_neg h]
theorem c_trimNL(wz:World)(h:AHeap)(s:Str)(hl:s.length<=9223372036854775807):ACall Tryz.prog wz 60 [.str s, .str [10]] h (fun v h'=>v= .str (Yw s)/\h'=h):=by
 refine ZW (vals:=[.string ⟨⟨s⟩⟩, .string ⟨⟨[10]⟩⟩]) (val:= .string ⟨⟨Yw s⟩⟩) Tryz.func60 rfl rfl (fun fi vs hv=>qer hv) (fun fi=>rfl) fun w=>?_;refine(Tryz.strings_TrimSuffix ⟨⟨s⟩⟩ ⟨⟨[10]⟩⟩ w hl).mono fun e w' ⟨e1,e2⟩=>⟨?_,?_⟩
 ·rw[e1]
  show Ending.returned (.string ⟨(Lib.trimSuffix s [10]).toArray⟩)=_
  rw[qkb]
 ·subst e2;exact Go.RowKit.Below.refl _ _
theorem index_one:∀(s:Str) (b:UInt8),(Lib.index s [b]= -1/\b∉s)\/∃i:Nat,Lib.index s [b]=i/\i<s.length/\s=s.take i++b::s.drop (i+1)/\b∉s.take i
 |[],b=> .inl ⟨rfl,by simp⟩
 |x::s,b=>by
  by_cases h:b=x
  ·subst h
   refine .inr ⟨0,?_,by simp,by simp,by simp⟩;simp[Lib.index,Vp]
  ·have hp:Vp [b] (x::s)=false:=by simp[Vp,h]
   rcases index_one s b with⟨h1,h2⟩|⟨i,h1,h2,h3,h4⟩
   ·refine .inl ⟨?_,?_⟩
    ·unfold Lib.index
     rw[hp,if_neg (by decide),h1,if_pos (by decide)]
    ·simp[h,h2]
   ·refine .inr ⟨i+1,?_,by simp;omega,?_,?_⟩
    ·unfold Lib.index
     rw[hp,if_neg (by decide),h1,if_neg (by simp<;>omega)];omega
    ·simp only[Kh,VB,Kg,List.cons.injEq,true_and]
     exact h3
    ·simp only[Kh,KW,not_or]
     exact⟨h,h4⟩
theorem qfV:∀{s:Str},(10:UInt8)∉s->XU s=[s]
 |[],_=>rfl
 |x::s,h=>by
  simp only[KW,not_or]at h;unfold XU;rw[if_neg (fun e=>h.1 e.symm),qfV h.2]
theorem qhz:∀{a:Str} (b:Str),(10:UInt8)∉a->XU (a++10::b)=a::XU b
 |[],b,_=>by
  simp only[Jd];rw[XU,if_pos rfl]
 |x::a,b,h=>by
  simp only[KW,not_or]at h;rw[Kg,XU,if_neg (fun e=>h.1 e.symm),qhz b h.2]
theorem extract_mk(s:Str)(a b:Nat):((⟨⟨s⟩⟩:ByteArray).extract a b)=⟨⟨(s.drop a).take (b-a)⟩⟩:=by
 apply ByteArray.ext;apply Array.ext';rw[Lib.extract_data]
theorem qsG:∀(n:Nat) (s:Str),s.length<=n->Lib.splitB ⟨⟨[10]⟩⟩ 0 (Lib.countB ⟨⟨s⟩⟩ ⟨⟨[10]⟩⟩) ⟨⟨s⟩⟩=(XU s).map fun l=>(⟨⟨l⟩⟩:ByteArray):=by
 intro n;induction n with
 |zero=>
  intro s hs;have:s=[]:=Ke (by omega);subst this;rw[Lib.splitB_miss _ _ _ _ (by decide)];rfl
 |succ n ih=>
  intro s hs;rcases index_one s 10 with⟨h1,h2⟩|⟨i,h1,h2,h3,h4⟩
  ·rw[Lib.splitB_miss _ _ _ _ h1,qfV h2]
   rfl
  ·have h1':Lib.indexB ⟨⟨s⟩⟩ ⟨⟨[10]⟩⟩=(i:Int):=h1
   have hsz:(⟨⟨s⟩⟩:ByteArray).size=s.length:=rfl;have h10:(⟨⟨[10]⟩⟩:ByteArray).size=1:=rfl;rw[Lib.countB_hit _ _ i (by decide) h1',Vz 1,Lib.splitB_hit _ _ _ _ i h1',h10,hsz,extract_mk,extract_mk,KP,Jg,K6,Jq (l:=s.drop (i+1)) (by simp),ih _ (by simp;omega)];conv=>rhs;rw[h3,qhz _ h4]
   rfl
theorem qml{P:Program}{wz:World}{f:FuncId}{fn:Func}{h:AHeap}{args:List AVal}{vals:List Value}{cs:List Value}{n:Nat}{e:TypeId}{xs:List AVal}(hf:P.funcs[f]?=some fn)(hname:(fn.name== "runtime.NumGoroutine")=false)(hb:fn.body.isSome=true)
 (hv:∀fi vs,VRs fi args vs->vs=vals) (hx:∀fi,VRs fi xs cs)
 (hc:∀w,Go.RowKit.Below wz.heap.size wz w->Calls P f vals.toArray w fun en w'=>en= .returned (.slice (some ⟨w.heap.size,0,none⟩) n n)/\w'=w.alloc (.cells cs.toArray e)):
 ACall P wz f args h (fun v h'=>∃k,h k=none/\v= .slice (.own k) 0 n (.exact n)/\h'=h.set k ⟨xs,0⟩):=by
 intro fi vs w hr hvs;obtain rfl:=hv fi vs hvs;refine .inl ⟨fn,hf,hname,hb,(hc w hr.below).mono fun en w' ⟨e1,e2⟩=>?_⟩;obtain⟨k,hk,hφ,ht⟩:=hr.freshN;have hlen:xs.length=cs.length:=(XN (hx fi)).symm;obtain⟨h1,h2⟩:=hr.alloc k hk hφ xs cs.toArray e 0 0 (by rw[hlen];simpa using hx fi) qaT (fun t h'=>by rw[ht]at h';cases h');refine⟨_,e1,_,_,_,h1,?_,?_,k,hk,rfl,rfl⟩
 ·rw[e2];exact h2
 ·simp only[VR]
  refine⟨_,rfl,fun _=>?_⟩;simp[Xl,JM]
abbrev MaxL(w:World):Prop:=∃m,w.cell? ⟨0,0,none⟩=some (.int .i64 m)
theorem qmB(fi:PMap):∀l:List Str,VRs fi (l.map AVal.str) (l.map fun x=>Value.string ⟨⟨x⟩⟩)
 |[]=>rfl
 |x::l=>by
  simp only[Kc,VRs];exact⟨_,_,rfl,rfl,qmB fi l⟩
theorem c_split(wz:World)(hm:MaxL wz)(h:AHeap)(s:Str)(hl:s.length<4294967281):ACall Tryz.prog wz 59 [.str s, .str [10]] h (fun v h'=>∃k,h k=none/\v= .slice (.own k) 0 (XU s).length (.exact (XU s).length)/\h'=h.set k ⟨(XU s).map AVal.str,0⟩):=by
 obtain⟨m,hm⟩:=hm;refine qml (vals:=[.string ⟨⟨s⟩⟩, .string ⟨⟨[10]⟩⟩]) (cs:=(XU s).map fun x=>Value.string ⟨⟨x⟩⟩) (e:=9) Tryz.func59 rfl rfl (fun fi vs hv=>qer hv) (fun fi=>qmB fi _) fun w hb=>?_;have hlt:0<wz.heap.size:=qil hm;have hw:w.cell? ⟨0,0,none⟩=some (.int .i64 m):=(hb.cell (p:=⟨0,0,none⟩) hlt).trans hm;refine(Tryz.strings_Split ⟨⟨s⟩⟩ ⟨⟨[10]⟩⟩ m w hl hw (by decide)).mono fun e w' ⟨e1,e2⟩=>?_;have hs:=qsG s.length s (KJ _);have hn:Lib.countB ⟨⟨s⟩⟩ ⟨⟨[10]⟩⟩+1=(XU s).length:=by
  rw[<-Jo (f:=fun l=>(⟨⟨l⟩⟩:ByteArray)),<-hs,Lib.splitB_all _ (by decide) 0 _ _ rfl]
 rw[e1,e2,hn,hs,VT];exact⟨rfl,rfl⟩
theorem qjV{fi:PMap}:∀{l:List Str} {vs:List Value},VRs fi (l.map AVal.str) vs->vs=l.map fun x=>Value.string ⟨⟨x⟩⟩
 |[],_,h=>h
 |x::l,vs,h=>by
  simp only[Kc,VRs,VR]at h;obtain⟨v,vs',rfl,rfl,h2⟩:=h;rw[qjV h2];rfl
theorem qge{fi:PMap}{l:AM.Loc}{o:Nat}{a:Addr}(h:Xl fi l o=some a):a=⟨a.block,a.off,none⟩:=by
 cases l with
 |base b=>simp only[Xl,Option.some.injEq]at h;subst h;rfl
 |own k=>
  simp only[Xl,Kb]at h;obtain⟨p,_,rfl⟩:=h;rfl
abbrev IsStrs(wz:World)(h:AHeap)(v:AVal)(l:List Str):Prop:=IsL wz h 1 v (l.map fun s=>[AVal.str s])
theorem qeM:∀l:List Str,(l.map fun s=>[AVal.str s]).flatten=l.map AVal.str
 |[]=>rfl
 |x::l=>by simp[qeM l]
theorem c_join(wz:World)(h:AHeap)(v:AVal)(l:List Str)(sep:Str)(hv:IsStrs wz h v l)(hn:l.length<=140737488355328)(hl:(Lib.join l sep).length<=140737488355328):
 ACall Tryz.prog wz 55 [v, .str sep] h (fun r h'=>r= .str (Lib.join l sep)/\h'=h):=by
 intro fi vals w hr hvs;simp only[VRs,VR]at hvs;obtain⟨u,vs',rfl,hu,u2,vs2,rfl,rfl,rfl⟩:=hvs;have fin:∀{R:Ending->World->Prop},Calls Tryz.prog 55 #[u, .string ⟨⟨sep⟩⟩] w R->(∀e w',R e w'->e= .returned (.string ⟨⟨Lib.join l sep⟩⟩)/\Below w.heap.size w w')->
  Lands Tryz.prog 55 [u, .string ⟨⟨sep⟩⟩].toArray w fun v w'=>∃Ps x h',fi.le Ps/\HRel wz Ps h' w'/\VR Ps x v/\x= .str (Lib.join l sep)/\h'=h:=fun hc hq=>
  .inl ⟨_,Tryz.func55,rfl,rfl,hc.mono fun e w' hR=>⟨_,(hq e w' hR).1,fi, .str (Lib.join l sep),h,fi.le_refl,hr.later (hq e w' hR).2,rfl,rfl,rfl⟩⟩
 obtain⟨xs,hxs⟩:∃xs,xs=l.map fun s=>[AVal.str s]:=⟨_,rfl⟩
 unfold IsStrs at hv;rw[<-hxs]at hv;cases hv with
 |nil=>
  have e0:l=[]:=VU.1 hxs.symm;subst e0;simp only[VR]at hu;subst hu;exact fin (Tryz.strings_Join_none none 0 ⟨⟨sep⟩⟩ w) fun e w' ⟨e1,e2⟩=>⟨e1,by subst e2;exact Below.refl _ _⟩
 |mk lc o n c xs hn' hw hc hlv hcap=>
  subst hxs;rw[Jo]at hn';subst hn';obtain⟨a,cp,rfl,ha⟩:=Yi hu;by_cases h0:l.length=0
  ·have e0:l=[]:=Ke h0
   subst e0;exact fin (Tryz.strings_Join_none (some a) cp ⟨⟨sep⟩⟩ w) fun e w' ⟨e1,e2⟩=>⟨e1,by subst e2;exact Below.refl _ _⟩
  ·have ha':=ha h0
   obtain⟨us,u1,u2,u3⟩:=qdo hr lc (l.length*1) o a ha' (by rw[hc];exact hlv);rw[hc,qeM]at u2;have hus:=qjV u2;have has:=qge ha';have hcell:∀(j:Nat) (x:ByteArray),(l.map fun x=>(⟨⟨x⟩⟩:ByteArray))[j]?=some x->w.cell? ⟨a.block,a.off+j,none⟩=some (.string x):=fun j x hj=>by
    have:=u3 j (.string x) (by rw[hus];simp only[List.getElem?_map,Kb]at hj|-;obtain⟨y,hy,rfl⟩:=hj;exact⟨y,hy,rfl⟩);rw[has]at this;by_cases hj0:j=0
    ·subst hj0
     simpa[Addr.add]using this
    ·simpa[Addr.add,hj0]using this
   have hblk:a.block<w.heap.size:=by
    cases hl0:l with
    |nil=>rw[hl0]at h0;exact absurd rfl h0
    |cons x r=>exact qil (hcell 0 ⟨⟨x⟩⟩ (by rw[hl0];rfl))
   have hcp:l.length<=cp:=by
    cases c with
    |exact c=>
     simp only[VR]at hu;obtain⟨a',e1,_⟩:=hu;cases e1;exact hcap
    |grow es=>
     simp only[VR]at hu;obtain⟨k,p,c',a',_,_,e1,hle,_⟩:=hu;cases e1;exact hle
   have hmm:(l.map fun x=>(⟨⟨x⟩⟩:ByteArray)).map (fun x=>x.data.toList)=l:=by rw[VT];exact List.map_id _
   have hj:=Tryz.strings_Join a.block a.off cp (l.map fun x=>(⟨⟨x⟩⟩:ByteArray)) ⟨⟨sep⟩⟩ w hcell hblk (by rw[Jo];exact hn) (by rw[Jo];exact hcp) (by rw[hmm];exact hl);rw[Jo,hmm,<-has]at hj;exact fin hj fun e w' ⟨e1,e2⟩=>⟨e1,e2⟩
theorem qrn(w:World):PredAtRunes Tryz.prog 77 #[] (fun x=>decide ((x:Int)<32)||decide (126<(x:Int))) w:=fun W x hx hb=>by
 show Calls Tryz.prog 77 #[.int .i32 x] W _
 go_enter Tryz.func77,Tryz.ntmps77
 go_wp2
 all_goals (go_ret;exact⟨by simp_all,0,rfl⟩)
def qpd(s:Str):Int:=match qcb s with|some i=>(i:Int)|none=> -1
theorem qpe{s:Str}{pos:Nat}(hp:pos<s.length):(qcb (s.drop pos))=if okB (s.getD pos 0)=true then(qcb (s.drop (pos+1))).map (· +1)else some 0:=by
 unfold qcb;rw[J4 hp,List.findIdx?_cons];simp only[Kn,Jz hp,VK];cases okB s[pos]<;>simp
theorem qpH(s:Str):∀(f pos:Nat),s.length<=pos+f->Lib.idxFuncFrom (fun x=>decide ((x:Int)<32)||decide (126<(x:Int))) true ⟨⟨s⟩⟩ f pos=match qcb (s.drop pos)with|some i=>((pos+i:Nat):Int)|none=> -1
 |0,pos,h=>by
  rw[VC (by omega)];rfl
 |f+1,pos,h=>by
  unfold Lib.idxFuncFrom;have hsz:(⟨⟨s⟩⟩:ByteArray).size=s.length:=rfl;rw[hsz];by_cases hp:pos<s.length
  ·rw[if_pos hp,qpe hp,Lib.decode_N]
   show(if (decide ((Lib.decodeN (s.length-pos) (s.getD pos 0).toNat (s.getD (pos+1) 0).toNat (s.getD (pos+2) 0).toNat (s.getD (pos+3) 0).toNat).1<(32:Int))||_)=true then _ else _)=_
   by_cases ha:(s.getD pos 0).toNat<128
   ·rw[Lib.decodeN_ascii _ _ _ _ _ ha]
    simp only;by_cases hk:okB (s.getD pos 0)=true
    ·rw[if_pos hk]
     unfold okB at hk;simp only[Kw,decide_eq_true_eq]at hk;rw[if_neg (by simp only[JV,decide_eq_true_eq];omega),qpH s f (pos+1) (by omega)];cases qcb (s.drop (pos+1))with
     |none=>rfl
     |some i=>simp only[KH];congr 1;omega
    ·rw[if_neg hk]
     unfold okB at hk;simp only[Kw,decide_eq_true_eq]at hk;rw[if_pos (by simp only[JV,decide_eq_true_eq];omega)];simp
   ·have hk:¬okB (s.getD pos 0)=true:=by unfold okB;simp only[Kw,decide_eq_true_eq];omega
    rw[if_neg hk,if_pos]
    ·simp
    ·have:=Lib.decodeN_cases (s.length-pos) (s.getD pos 0).toNat (s.getD (pos+1) 0).toNat (s.getD (pos+2) 0).toNat (s.getD (pos+3) 0).toNat
     rcases this with h1|h1|h1|h1|h1
     ·omega
     ·rw[h1.2.2.2.2];simp only[JV,decide_eq_true_eq];omega
     ·rw[h1.2.2.2.2.2];simp only[JV,decide_eq_true_eq];omega
     ·simp only[JV,decide_eq_true_eq];omega
     ·rw[h1];rfl
  ·rw[if_neg hp,VC (by omega)]
   rfl
theorem c_bad(wz:World)(h:AHeap)(s:Str):ACall Tryz.prog wz 76 [.str s, .func 77 []] h (fun v h'=>v= .int .i64 (qpd s)/\h'=h):=by
 refine ZW (vals:=[.string ⟨⟨s⟩⟩, .func (.func 77) #[] #[]]) (val:= .int .i64 (qpd s)) Tryz.func76 rfl rfl (fun fi vs hv=>?_) (fun fi=>rfl) fun w=>?_
 ·simp only[VRs,VR]at hv
  obtain⟨v,vs',rfl,rfl,v2,vs2,rfl,⟨cs,rfl,rfl⟩,rfl⟩:=hv;rfl
 ·refine(Tryz.strings_IndexFunc_runes 77 #[] (enters_of Tryz.func77 (by kernel_rfl) rfl) _ ⟨⟨s⟩⟩ w (qrn w)).mono fun e w' ⟨e1,e2⟩=>⟨?_,e2⟩
  rw[e1];unfold Lib.idxFunc;rw[qpH s _ 0 (by show s.length<=0+s.length;omega),KP];unfold qpd;cases qcb s with
  |none=>rfl
  |some i=>simp only[Jr]
end Go.Proofs.YtlhhaagmakhilaaGreatDoor
namespace Go.Proofs.YtlhhaagmakhilaaGreatDoor
open Go.AM
open Go.Proofs
open Go.Col
set_option maxRecDepth 100000
def QA(f:FaultC):AVal:= .agg [.int .i64 f.e, .int .i64 f.line, .int .i64 f.col]
def Uk(m:MarkC):List AVal:=[.int .i64 m.frm, .int .i64 m.line, .int .i64 m.col]
def YR(line col:Int):AVal:= .agg [.int .i64 line, .int .i64 col]
def qfi(c:CardC)(mv:AVal):AVal:= .agg [.bool c.left, .str c.text,mv]
theorem qgG(wz:World)(h:AHeap)(e line col:Int):ACall Tryz.prog wz 75 [.int .i64 e, .int .i64 line, .int .i64 col] h (fun v h'=>v=QA ⟨e,line,col⟩/\h'=h):=by
 refine qP (n:=12) (rs:=[.cell 6 35]) Tryz.func75 rfl rfl rfl rfl (VL rfl) ?_;simp only[Qd];refine awp_rseq [0,1,2,6] (by rfl) fun K hK=>?_;refine Qk qbT (cs:=[.int .i64 0, .int .i64 0, .int .i64 0]) (by rfl) fun k0q0 hk0q0=>?_;try have hf_0q0:h k0q0=none:=by first|assumption|(simp only[AHeap.set_none]at hk0q0;simp only[hk0q0])
 simp+decide only[qa,putD,VM,VN,Ka,Jr,Nat.reduceAdd];apply hK;clear hK K;refine awp_rseq [6] (by rfl) fun K hK=>?_;simp+decide only[ev,qH,qF,putD,VM,VO,Ka,true_and,↓qh,qc,↓Qr,↓qY,qcN,evP,Kc,Vj,UB];refine qo (by rfl) (by rfl) zqA QK (by rfl) (by rfl) zqD (Js _) (by rfl) ?_;simp only[Vh,VV];simp+decide only[qa,ev,putD,VO,VN,Ka,setAt,VW,Ki,Jr,Nat.reduceAdd];apply hK;clear hK K;refine qN ?_;refine qW h zqC (?_) ?_
 ·simp+decide only[QC,qj,VO,if_true,and_true,qj,qg Xv QK,Qc,qf,VX,Km,Jr,Nat.reduceAdd,qi,allLive,JS,qf,VX,Km,Jr,Nat.reduceAdd,qi,allLive,JS]
 simp+decide only[VO,if_true,and_true,YH,qj,qg Xv QK,Qc,qf,VX,Km,Jr,Nat.reduceAdd,qi,allLive,JS,qf,VX,Km,Jr,Nat.reduceAdd,qi,allLive,JS,QA];all_goals first|rfl|exact⟨rfl,rfl⟩|(simp+decide only[Ka, *];done)|(trace_state;fail)
theorem qkk{c:CardC}{b:Int}{i:Nat}(hi:i<c.marks.length):validC.go c b (c.marks.drop i)=(decide (b<(c.marks.getD i ⟨0,0,0⟩).frm/\(c.marks.getD i ⟨0,0,0⟩).frm<c.text.length/\1<=(c.marks.getD i ⟨0,0,0⟩).line/\8<=(c.marks.getD i ⟨0,0,0⟩).col/\(c.marks.getD i ⟨0,0,0⟩).col<=72) && validC.go c (c.marks.getD i ⟨0,0,0⟩).frm (c.marks.drop (i+1))):=by
 rw[J4 hi];simp only[validC.go,Kn,Jz hi,VK]
theorem qew{c:CardC}(hn:c.marks≠[]):validC c=(decide ((c.marks.getD 0 ⟨0,0,0⟩).frm=0) && validC.go c (-1) c.marks):=by
 unfold validC;split
 ·rename_i h;exact absurd h hn
 ·rename_i m ms h;rw[h];rfl
theorem c_validN(wz:World)(h:AHeap)(b:Bool)(t:Str):ACall Tryz.prog wz 103 [.agg [.bool b, .str t, .nilSlice]] h (fun v h'=>v= .bool false/\h'=h):=by
 refine qP (n:=58) (rs:=[.tmp 2]) Tryz.func103 rfl rfl rfl rfl (VL rfl) ?_;simp only[Qd];refine awp_rseq [1] (by rfl) fun K hK=>?_;refine YN (by rfl) (by rfl) (by rfl) fun k0q0 hk0q0=>?_;try have hf_0q0:h k0q0=none:=by first|assumption|(simp only[AHeap.set_none]at hk0q0;simp only[hk0q0])
 skip;simp+decide only[qa,ev,qH,qF,putD,VM,VO,VN,Ka,true_and,↓qd,qb,VV];apply hK;clear hK K;refine qL ?_;refine awp_rseq [1,17] (by rfl) fun K hK=>?_;simp+decide only[qa,ev,qH,qF,putD,VM,VO,VN,Ka,true_and,↓qD,qm,qbi,↓qG,Qb,qz qjN,↓Xt,QD,qdU Tryz.underlying124,↓qA,ql,qC,cond_false,qp,XH,↓qh,qc,↓XI,agP,Qt,qJ,qI,Qe,implies_true,decide_true,VY,ZM,false_implies,qde,qhu,↓Zy,Zd,↓Yh,↓Xb,↓QR,Qs,Qg,QP,VX,Km,Jr,QU];apply hK;clear hK K;refine qK (b:=_) rfl (fun hb1=>?_) (fun hb1=>?_)
 ·try simp only at hb1
  refine awp_rseq [2] (by rfl) fun K hK=>?_;simp+decide only[qa,ev,qH,qF,putD,VM,VN,Ka,true_and,↓qd,qb];apply hK;clear hK K;refine qN ?_;try simp only[Qf]
  refine qW h zqC (qR (Qa)) ?_;simp+decide only[VO,if_true,and_true,Ql];all_goals first|rfl|exact⟨rfl,rfl⟩|(simp+decide only[Ka, *];done)|(trace_state;fail)
 ·exact absurd hb1 (by decide)
theorem c_validE(wz:World)(h:AHeap)(b:Bool)(t:Str)(l:AM.Loc)(o:Nat)(cp:Cap):ACall Tryz.prog wz 103 [.agg [.bool b, .str t, .slice l o 0 cp]] h (fun v h'=>v= .bool false/\h'=h):=by
 refine qP (n:=58) (rs:=[.tmp 2]) Tryz.func103 rfl rfl rfl rfl (VL rfl) ?_;simp only[Qd];refine awp_rseq [1] (by rfl) fun K hK=>?_;refine YN (by rfl) (by rfl) (by rfl) fun k0q0 hk0q0=>?_;try have hf_0q0:h k0q0=none:=by first|assumption|(simp only[AHeap.set_none]at hk0q0;simp only[hk0q0])
 skip;simp+decide only[qa,ev,qH,qF,putD,VM,VO,VN,Ka,true_and,↓qd,qb,VV];apply hK;clear hK K;refine qL ?_;refine awp_rseq [1,17] (by rfl) fun K hK=>?_;simp+decide only[qa,ev,qH,qF,putD,VM,VO,VN,Ka,true_and,↓qD,qm,qbi,↓qG,Qb,qz qjN,↓Xt,QD,ZK Tryz.underlying124,↓qA,ql,qC,cond_false,qp,XH,↓qh,qc,↓XI,agP,Qt,qJ,qI,Qe,implies_true,decide_true,VY,ZM,false_implies,qde,qhu,↓Zy,Zd,↓Yh,↓Xb,↓QR,Qs,Qg,QP,VX,Km,Jr,qaf,Vu];apply hK;clear hK K;refine qK (b:=_) rfl (fun hb1=>?_) (fun hb1=>?_)
 ·try simp only at hb1
  refine awp_rseq [2] (by rfl) fun K hK=>?_;simp+decide only[qa,ev,qH,qF,putD,VM,VN,Ka,true_and,↓qd,qb];apply hK;clear hK K;refine qN ?_;try simp only[Qf]
  refine qW h zqC (qR (Qa)) ?_;simp+decide only[VO,if_true,and_true,Ql];all_goals first|rfl|exact⟨rfl,rfl⟩|(simp+decide only[Ka, *];done)|(trace_state;fail)
 ·exact absurd hb1 (by decide)
theorem c_validS(wz:World)(h:AHeap)(c:CardC)(l:AM.Loc)(o:Nat)(cp:Cap)(hm:IsL wz h 3 (.slice l o c.marks.length cp) (c.marks.map Uk))(hn:c.marks≠[])(hl:c.marks.length<=4611686018427387904):ACall Tryz.prog wz 103 [qfi c (.slice l o c.marks.length cp)] h (fun v h'=>v= .bool (validC c)/\h'=h):=by
 have hn0:0<c.marks.length:=List.length_pos_iff.2 hn;have hnb:¬((c.marks.length:Int)=0):=by omega
 unfold qfi;refine qP (n:=58) (rs:=[.tmp 2]) Tryz.func103 rfl rfl rfl rfl (VL rfl) ?_;simp only[Qd];refine awp_rseq [1] (by rfl) fun K hK=>?_;refine YN (by rfl) (by rfl) (by rfl) fun k0q0 hk0q0=>?_;try have hf_0q0:h k0q0=none:=by first|assumption|(simp only[AHeap.set_none]at hk0q0;simp only[hk0q0])
 skip;simp+decide only[qa,ev,qH,qF,putD,VM,VO,VN,Ka,true_and,↓qd,qb,VV];have hm0:=hm.mono (h':=h.set k0q0 ⟨[.bool c.left, .str c.text, .slice l o c.marks.length cp],0⟩) (Vg hk0q0);have he0:=hm0.elem (i:=0) (by rw[Jo];exact hn0);rw[getD_map ⟨0,0,0⟩ hn0]at he0;simp only[qf,Uk,List.cons.injEq,and_true]at he0;obtain⟨e00,e01,e02⟩:=he0;apply hK;clear hK K;refine qL ?_;refine awp_rseq [1,17] (by rfl) fun K hK=>?_;simp+decide only[qa,ev,qH,qF,putD,VM,VO,VN,Ka,true_and,↓qD,qm,qbi,↓qG,Qb,qz qjN,↓Xt,QD,ZK Tryz.underlying124,↓qA,ql,qC,cond_false,qp,XH,↓qh,qc,↓XI,agP,Qt,qJ,qI,Qe,implies_true,decide_false,Bool.not_false,Qy,forall_const,Bool.false_or,↓Zy,Zd,Ud,↓Yh,Qh Tryz.underlying124 qfO,qgp,qz ag3,↓Xb,qaP,↓QR,Qs,Qg,ZF,QP,VX,Km,Jr,qi,qaf,e00,hnb,decide_false,Int.toNat_zero];repeat (with_reducible refine And.intro ?_ ?_;· first|trivial|omega|(intro hg;simp only[Kw,JV,Ji,VP,VQ,VS,decide_eq_true_eq,decide_eq_false_iff_not,XT]at hg;omega))
 apply hK;clear hK K;refine qK (b:=_) rfl (fun hb1=>?_) (fun hb1=>?_)
 ·try simp only[decide_eq_false_iff_not,Ji]at hb1
  refine awp_rseq [2] (by rfl) fun K hK=>?_;simp+decide only[qa,ev,qH,qF,putD,VM,VN,Ka,true_and,↓qd,qb];apply hK;clear hK K;refine qN ?_;try simp only[Qf]
  refine qW h zqC (qR (Qa)) ?_;simp+decide only[VO,if_true,and_true,Ql];rw[qew hn,decide_eq_false hb1,VZ]
 ·try simp only[decide_eq_true_eq,VS]at hb1
  refine qV ?_;change Awp _ _ _ _ _ _ _;refine awp_rseq [1,3] (by rfl) fun K hK=>?_;simp+decide only[qa,ev,qH,qF,putD,VM,VN,Ka,true_and,↓qd,qb];apply hK;clear hK K;refine qL ?_;refine awp_rseq [1,3,19,20,21] (by rfl) fun K hK=>?_;simp+decide only[qa,ev,qH,qF,putD,VM,VO,VN,Ka,true_and,↓qD,qm,qbi,↓qG,Qb,qz qjN,↓Xt,QD,ZK Tryz.underlying124,↓qh,qc,QP,VX,Km,Jr,qaf];apply hK;clear hK K;refine Qp ?_;refine XE [1,3,19,20,21] (fun g:Nat×Int=>[(1, .ptr (.own k0q0) 0),(3, .int .i64 g.2),(19, .slice l o c.marks.length cp),(20, .int .i64 c.marks.length),(21, .int .i64 g.1)]) (fun g:Nat×Int=>h.set k0q0 ⟨[.bool c.left, .str c.text, .slice l o c.marks.length cp],0⟩) (fun g:Nat×Int=>g.1<=c.marks.length/\validC.go c g.2 (c.marks.drop g.1)=validC.go c (-1) c.marks) (fun g:Nat×Int=>c.marks.length-g.1) (0,-1) (by rfl) (Vl _) ⟨Js _,rfl⟩ ?_;rintro⟨i,b⟩ ⟨hi,hg⟩;simp only at hi hg|-
  refine awp_rseq [1,3,19,20,21,22] (by rfl) fun K hK=>?_;simp+decide only[qa,ev,putD,VM,VO,VN,Ka,true_and,↓qA,ql,qZ,cond_false,qp,Zc];apply hK;clear hK K;refine qL (qK (b:=_) rfl (fun hb2=>?_) (fun hb2=>?_))
  ·try simp only[decide_eq_true_eq]at hb2
   have hi':i<c.marks.length:=by omega
   have he:=hm0.elem (i:=i) (by rw[Jo];exact hi');rw[getD_map ⟨0,0,0⟩ hi']at he;simp only[qf,Uk,List.cons.injEq,and_true]at he;obtain⟨e0,e1,e2⟩:=he;refine qV ?_;change Awp _ _ _ _ _ _ _;refine qL ?_;refine Qp ?_;refine awp_rseq [1,3,5,19,20,21] (by rfl) fun K hK=>?_;simp+decide only[ev,putD,VM,VO,Ka,true_and,↓QN,Qb,Qh Tryz.underlying124 qfO,↓qG,qg ag127 qfO,qf,qi,allLive,JS,e0,e1,e2,Vq];repeat (with_reducible refine And.intro ?_ ?_;· first|trivial|omega|(intro hg;simp only[Kw,JV,Ji,VP,VQ,VS,decide_eq_true_eq,decide_eq_false_iff_not,XT]at hg;omega))
   refine Qk qsu (cs:=[.int .i64 0, .int .i64 0, .int .i64 0]) (by rfl) fun k6q2 hk6q2=>?_;have ne_6q2_0q0:k6q2≠k0q0:=by simp only[AHeap.set_none]at hk6q2;simp only[hk6q2,ne_eq,not_false_eq_true]
   try have hf_6q2:h k6q2=none:=by first|assumption|(simp only[AHeap.set_none]at hk6q2;simp only[hk6q2])
   refine qo (by rfl) (by rfl) zqA qfO (by rfl) (by rfl) zqD (Js _) (by rfl) ?_;simp only[Vh,VV];simp+decide only[qa,ev,putD,VM,VO,VN,Ka,setAt,VW,Ki,Jr,Nat.reduceAdd];apply hK;clear hK K;refine qL ?_;refine awp_rseq [1,5,19,20,21,54] (by kernel_rfl) fun K hK=>?_;simp+decide only[qa,ev,qH,qF,putD,VM,VO,VN,Ka,true_and,↓qD,qm,qgp,↓qG,Qb,qz ag3,↓qh,qc,↓qA,ql,qZ,cond_false,qp,qft,↓XI,agP,Qt,qJ,qI,Qe,implies_true,ZH,ZI,↓Zy,Zd,Ud,qce,We,qz ag9,↓qaW,QD,YW Tryz.underlying9,qel,qem,↓Xb,XZ,qbl,Za,qbm,qav,↓QR,Qs,Qg,XO,ZF,qpI,fa33_0,qC,Zc,qoF,UE,QL,ne_eq,not_false_eq_true,ne_6q2_0q0.symm,QP,VX,Km,Jr,Nat.reduceAdd,qi,qE];apply hK;clear hK K;refine qK (b:=_) rfl (fun hb3=>?_) (fun hb3=>?_)
   ·try simp only[decide_eq_true_eq,JV]at hb3
    refine awp_rseq [2] (by rfl) fun K hK=>?_;simp+decide only[qa,ev,qH,qF,putD,VM,VN,Ka,true_and,↓qd,qb];apply hK;clear hK K;refine qN ?_;try simp only[Qf,Qu]
    refine qW h zqC (qR (Qa)) ?_;simp+decide only[VO,if_true,and_true,Ql];rw[qew hn,decide_eq_true hb1,Vf,<-hg,qkk hi',decide_eq_false (by omega),VZ]
   ·try simp only[decide_eq_false_iff_not,VQ]at hb3
    refine qV ?_;change Awp _ _ _ _ _ _ _;refine XL [1,3,19,20,21] (by rfl) ?_;simp+decide only[qa,ev,putD,VM,VO,VN,Ka,true_and,↓qD,qm,qgp,↓qG,Qb,qz ag3,↓qd,qb,QP,VX,Jr,qi];change Awp _ _ _ _ _ _ _;refine XL [1,3,19,20,21] (by rfl) ?_;simp+decide only[qa,ev,qH,qF,putD,VM,VO,VN,Ka,true_and,↓qA,ql,qC,cond_false,qp,Xc,↓qh,qc];try simp(disch:=omega)only[wrap_i64]
    try simp only[Qi]
    refine⟨(i+1,(c.marks.getD i ⟨0,0,0⟩).frm),rfl,(by repeat (first|exact Vl _|refine V3 ?_ (by assumption))),⟨by simp only;omega,?_⟩,by simp only;omega⟩;simp only;rw[<-hg,qkk hi',decide_eq_true (by omega),Vf]
  ·try simp only[decide_eq_false_iff_not]at hb2
   refine XJ ?_;change Awp _ _ _ _ _ _ _;refine awp_rseq [2] (by rfl) fun K hK=>?_;simp+decide only[qa,ev,qH,qF,putD,VM,VN,Ka,true_and,↓qd,qb];apply hK;clear hK K;refine qN ?_;refine qW h zqC (qR (Qa)) ?_;simp+decide only[VO,if_true,and_true,Ql];rw[qew hn,decide_eq_true hb1,Vf,<-hg,show i=c.marks.length by omega,JY];rfl
theorem c_valid(wz:World)(h:AHeap)(c:CardC)(mv:AVal)(hm:IsL wz h 3 mv (c.marks.map Uk))(hl:c.marks.length<=4611686018427387904):ACall Tryz.prog wz 103 [qfi c mv] h (fun v h'=>v= .bool (validC c)/\h'=h):=by
 by_cases hn:c.marks=[]
 ·have hv:validC c=false:=by unfold validC;rw[hn]
  rw[hv];rcases hm.open' with⟨rfl,_⟩|⟨l,o,cp,rfl⟩
  ·exact c_validN wz h c.left c.text
  ·rw[hn]
   exact c_validE wz h c.left c.text l o cp
 ·obtain⟨l,o,cp,e⟩:=hm.open (fun e=>hn (VU.1 e))
  rw[Jo]at e;subst e;exact c_validS wz h c l o cp hm hn hl
theorem qhT(i:Int):∀(a b:List MarkC) (p:Int×Int),qfE i (a++b) p=qfE i b (qfE i a p)
 |[],_,_=>rfl
 |m::a,b,p=>by simp only[Kg,qfE];exact qhT i a b _
theorem qle{i:Int}{l:List MarkC}{k:Nat}(hk:k<l.length)(p:Int×Int):qfE i (l.take (k+1)) p=if (l.getD k ⟨0,0,0⟩).frm<=i then((l.getD k ⟨0,0,0⟩).line,(l.getD k ⟨0,0,0⟩).col+i-(l.getD k ⟨0,0,0⟩).frm)else qfE i (l.take k) p:=by
 have e:l.take (k+1)=l.take k++[l.getD k ⟨0,0,0⟩]:=by
  rw[VJ,Jz hk];simp[Kn,hk]
 rw[e,qhT];rfl
theorem qli{c:CardC}(hv:validC c=true):∀m∈c.marks,0<=m.frm/\m.frm<c.text.length/\1<=m.line/\8<=m.col/\m.col<=72:=by
 have go:∀(l:List MarkC) (b:Int),-1<=b->validC.go c b l=true->∀m∈l,0<=m.frm/\m.frm<c.text.length/\1<=m.line/\8<=m.col/\m.col<=72:=by
  intro l;induction l with
  |nil=>intro b _ _ m hm;simp at hm
  |cons x l ih=>
   intro b hb hg m hm;simp only[validC.go,Kw,decide_eq_true_eq]at hg;rcases KW.1 hm with rfl|hm
   ·omega
   ·exact ih _ (by omega) hg.2 m hm
 by_cases hn:c.marks=[]
 ·rw[hn];simp
 ·rw[qew hn,Kw]at hv
  exact go _ _ (by omega) hv.2
theorem c_At(wz:World)(h:AHeap)(c:CardC)(mv:AVal)(i:Int)(hm:IsL wz h 3 mv (c.marks.map Uk))(hl:c.marks.length<=4611686018427387904)(ht:c.text.length<=4611686018427387904)(hi0: -9223372036854775808<=i):ACall Tryz.prog wz 81 [qfi c mv, .int .i64 i] h (fun v h'=>v= .tuple [YR (atE c i).1 (atE c i).2.1, .int .i64 (atE c i).2.2]/\h'=h):=by
 have hlm:=hm.live;have hlen:=hm.len Tryz.underlying124;rw[Jo]at hlen;unfold qfi;refine qP (n:=49) (rs:=[.cell 4 33, .tmp 5]) Tryz.func81 rfl rfl rfl rfl (VL rfl) ?_;simp only[Qd];refine awp_rseq [1,2,4] (by rfl) fun K hK=>?_;refine YN (by rfl) (by rfl) (by rfl) fun k0q0 hk0q0=>?_;try have hf_0q0:h k0q0=none:=by first|assumption|(simp only[AHeap.set_none]at hk0q0;simp only[hk0q0])
 skip;refine Qk ze33 (cs:=[.int .i64 0, .int .i64 0]) (by rfl) fun k0q1 hk0q1=>?_;have ne_0q1_0q0:k0q1≠k0q0:=by simp only[AHeap.set_none]at hk0q1;simp only[hk0q1,ne_eq,not_false_eq_true]
 try have hf_0q1:h k0q1=none:=by first|assumption|(simp only[AHeap.set_none]at hk0q1;simp only[hk0q1])
 simp+decide only[qa,ev,qH,qF,putD,VM,VO,VN,Ka,true_and,↓qd,qb,VV,Jr];apply hK;clear hK K;refine qL ?_;refine awp_rseq [1,2,4,22] (by rfl) fun K hK=>?_;simp+decide only[ev,putD,VM,VO,Ka,true_and,↓qG,Qb,qg qnP qcs,QL,ne_eq,not_false_eq_true,ne_0q1_0q0.symm,QP,qf,VX,Km,Jr,Nat.reduceAdd,qB,qE,allLive,JS,hlm];refine qM (V:= .bool (validC c)) (by rfl) (by rfl) (c_valid wz _ c mv (hm.mono (by repeat (first|exact Vl _|refine V3 ?_ (by assumption)))) hl) ?_;simp+decide only[qa,ev,qH,qF,putD,VM,VO,VN,Ka,true_and,↓Yz,XP,Yk,↓qh,qc,↓Xe,agP,Qt,qJ,qI,Qe,implies_true,Bool.not_not,↓Xb,ql,qC,cond_false,XZ,qbl,Za,qbm,qp,Zc,↓QR,Qs,Qg,XO,qfd,ZF,↓XI,qm,We,↓Zy,Zd,Ud,qce,qz ag9,↓qaW,QD,YW Tryz.underlying9,qel,qem,qZ,UE,QL,ne_eq,not_false_eq_true,ne_0q1_0q0.symm,QP,VX,Km,Jr,qE];apply hK;clear hK K;refine qK (b:=_) rfl (fun hb1=>?_) (fun hb1=>?_)
 ·try simp only[decide_eq_true_eq,Ji,JV]at hb1
  skip;refine awp_rseq [4,5] (by rfl) fun K hK=>?_;simp+decide only[ev,qH,qF,putD,VM,VO,if_false,true_and,↓Qr,↓qY,bld33_,evP,Vj];refine qo (by rfl) (by rfl) zqA qbc (by rfl) (by rfl) zqD (Js _) (by rfl) ?_;simp only[Vh,VV];simp+decide only[qa,ev,qH,qF,putD,VM,VO,VN,Ka,true_and,↓qd,qb,setAt,VW,Ki,Jr];apply hK;clear hK K;refine qN ?_;try simp only[Qf]
  refine qW h zqC (?_) ?_
  ·simp+decide only[QC,qw,qj,VO,Ka,and_true,qw,qj,qg qfF qbc,Qc,qf,VX,Km,Jr,qi,allLive,JS,qf,VX,Km,Jr,qi,allLive,JS]
  simp+decide only[VO,Ka,and_true,Xi,qw,qj,qg qfF qbc,Qc,qf,VX,Km,Jr,qi,allLive,JS,qf,VX,Km,Jr,qi,allLive,JS,YR];rw[show atE c i=(0,0,1) by unfold atE;rw[if_neg (by rintro⟨q1,q2,q3⟩;rw[q1]at hb1;simp at hb1;omega)]]
 ·try simp only[decide_eq_false_iff_not,VS,VQ]at hb1
  have hv:validC c=true:=by have:=hb1.1.1;simpa using this
  have hsm:=qli hv;have hei:atE c i=((qfE i c.marks (0,0)).1,(qfE i c.marks (0,0)).2,0):=by unfold atE;rw[if_pos ⟨hv,by omega,by omega⟩]
  have hn:c.marks≠[]:=fun e=>by unfold validC at hv;rw[e]at hv;cases hv
  obtain⟨l,o,cp,e⟩:=hm.open (fun e=>hn (VU.1 e));rw[Jo]at e;subst e;refine qV ?_;change Awp _ _ _ _ _ _ _;refine awp_rseq [1,2,4,6] (by rfl) fun K hK=>?_;refine Qk ze33 (cs:=[.int .i64 0, .int .i64 0]) (by rfl) fun k3q0 hk3q0=>?_;have ne_3q0_0q0:k3q0≠k0q0:=by simp only[AHeap.set_none]at hk3q0;simp only[hk3q0,ne_eq,not_false_eq_true]
  have ne_3q0_0q1:k3q0≠k0q1:=by simp only[AHeap.set_none]at hk3q0;simp only[hk3q0,ne_eq,not_false_eq_true]
  try have hf_3q0:h k3q0=none:=by first|assumption|(simp only[AHeap.set_none]at hk3q0;simp only[hk3q0])
  simp+decide only[qa,putD,VM,VN,Ka];apply hK;clear hK K;refine qL ?_;refine awp_rseq [1,4,6,25,26,27] (by rfl) fun K hK=>?_;simp+decide only[qa,ev,qH,qF,putD,VM,VO,VN,Ka,true_and,↓qD,qm,qbi,↓qG,Qb,qz qjN,↓Xt,QD,ZK Tryz.underlying124,↓qh,qc,QL,ne_eq,not_false_eq_true,ne_0q1_0q0.symm,ne_3q0_0q0.symm,QP,VX,Km,Jr,hlm];apply hK;clear hK K;refine Qp ?_;refine XE [1,4,6,25,26,27] (fun k:Nat=>[(1, .int .i64 i),(4, .ptr (.own k0q1) 0),(6, .ptr (.own k3q0) 0),(25, .slice l o c.marks.length cp),(26, .int .i64 c.marks.length),(27, .int .i64 k)]) (fun k:Nat=>((h.set k0q0 ⟨[.bool c.left, .str c.text, .slice l o c.marks.length cp],0⟩).set k0q1 ⟨[.int .i64 0, .int .i64 0],0⟩).set k3q0 ⟨[.int .i64 (qfE i (c.marks.take k) (0,0)).1, .int .i64 (qfE i (c.marks.take k) (0,0)).2],0⟩) (fun k:Nat=>k<=c.marks.length) (fun k:Nat=>c.marks.length-k) 0 (by rfl) (Vl _) (Js _) ?_;intro k hk;have hmk:=hm.mono (h':=((h.set k0q0 ⟨[.bool c.left, .str c.text, .slice l o c.marks.length cp],0⟩).set k0q1 ⟨[.int .i64 0, .int .i64 0],0⟩).set k3q0 ⟨[.int .i64 (qfE i (c.marks.take k) (0,0)).1, .int .i64 (qfE i (c.marks.take k) (0,0)).2],0⟩) (by repeat (first|exact Vl _|refine V3 ?_ (by assumption)));refine awp_rseq [1,4,6,25,26,27,28] (by rfl) fun K hK=>?_;simp+decide only[qa,ev,putD,VM,VO,VN,Ka,true_and,↓qA,ql,qZ,cond_false,qp,Zc];apply hK;clear hK K;refine qL (qK (b:=_) rfl (fun hb2=>?_) (fun hb2=>?_))
  ·try simp only[decide_eq_true_eq]at hb2
   have hk':k<c.marks.length:=by omega
   have he:=hmk.elem (i:=k) (by rw[Jo];exact hk');rw[getD_map ⟨0,0,0⟩ hk']at he;simp only[qf,Uk,List.cons.injEq,and_true]at he;obtain⟨e0,e1,e2⟩:=he;obtain⟨m1,m2,m3,m4,m5⟩:=hsm (c.marks.getD k ⟨0,0,0⟩) (by rw[Kn,Jz hk'];exact VH hk');refine qV ?_;change Awp _ _ _ _ _ _ _;refine qL ?_;refine Qp ?_;refine awp_rseq [1,4,6,8,25,26,27] (by rfl) fun K hK=>?_;simp+decide only[ev,putD,VM,VO,Ka,true_and,↓QN,Qb,Qh Tryz.underlying124 qfO,↓qG,qg ag127 qfO,qf,qi,allLive,JS,e0,e1,e2,Vq];repeat (with_reducible refine And.intro ?_ ?_;· first|trivial|omega|(intro hg;simp only[Kw,JV,Ji,VP,VQ,VS,decide_eq_true_eq,decide_eq_false_iff_not,XT]at hg;omega))
   refine Qk qsu (cs:=[.int .i64 0, .int .i64 0, .int .i64 0]) (by rfl) fun k6q2 hk6q2=>?_;have ne_6q2_0q0:k6q2≠k0q0:=by simp only[AHeap.set_none]at hk6q2;simp only[hk6q2,ne_eq,not_false_eq_true]
   have ne_6q2_0q1:k6q2≠k0q1:=by simp only[AHeap.set_none]at hk6q2;simp only[hk6q2,ne_eq,not_false_eq_true]
   have ne_6q2_3q0:k6q2≠k3q0:=by simp only[AHeap.set_none]at hk6q2;simp only[hk6q2,ne_eq,not_false_eq_true]
   try have hf_6q2:h k6q2=none:=by first|assumption|(simp only[AHeap.set_none]at hk6q2;simp only[hk6q2])
   refine qo (by rfl) (by rfl) zqA qfO (by rfl) (by rfl) zqD (Js _) (by rfl) ?_;simp only[Vh,VV];simp+decide only[qa,ev,putD,VM,VO,VN,Ka,setAt,VW,Ki,Jr,Nat.reduceAdd];apply hK;clear hK K;refine awp_rseq [1,4,6,8,25,26,27,34] (by rfl) fun K hK=>?_;simp+decide only[qa,ev,putD,VM,VO,VN,Ka,true_and,↓qD,qm,qgp,↓qG,Qb,qz ag3,↓qh,qc,↓qA,ql,qZ,cond_false,qp,qft,QP,VX,Jr,qi];apply hK;clear hK K;refine qK (b:=_) rfl (fun hb3=>?_) (fun hb3=>?_)
   ·try simp only[decide_eq_true_eq]at hb3
    refine XL [1,4,6,25,26,27] (by rfl) ?_;simp+decide only[ev,qH,qF,putD,VM,VO,Ka,true_and,↓qD,qm,qpI,fa33_0,↓qG,Qb,qz ag3,qoF,↓qh,qc,↓qA,ql,qZ,cond_false,qp,Xc,qgp,qad,↓Qr,↓qY,qcN,evP,Kc,Vj,QP,VX,Km,Jr,Nat.reduceAdd,qi,YR];try simp(disch:=omega)only[wrap_i64]
    refine qo (by rfl) (by rfl) zqA qbc (by rfl) (by rfl) zqD (Js _) (by rfl) ?_;simp only[VV];simp+decide only[qa,ev,putD,VO,VN,Ka,setAt,VW,Ki,Jr];change Awp _ _ _ _ _ _ _;refine XL [1,4,6,25,26,27] (by rfl) ?_;simp+decide only[qa,ev,qH,qF,putD,VM,VO,VN,Ka,true_and,↓qA,ql,qC,cond_false,qp,Xc,↓qh,qc];try simp(disch:=omega)only[wrap_i64]
    try simp only[Qi]
    refine⟨k+1,rfl,?_,by omega,by omega⟩
    (rw[qle hk',if_pos hb3];exact zqB)
   ·try simp only[decide_eq_false_iff_not]at hb3
    refine qV ?_;change Awp _ _ _ _ _ _ _;refine XL [1,4,6,25,26,27] (by rfl) ?_;simp+decide only[qa,ev,qH,qF,putD,VM,VO,VN,Ka,true_and,↓qA,ql,qC,cond_false,qp,Xc,↓qh,qc,YR];try simp(disch:=omega)only[wrap_i64]
    try simp only[Qi]
    refine⟨k+1,rfl,?_,by omega,by omega⟩
    (rw[qle hk',if_neg hb3];exact zqB)
  ·try simp only[decide_eq_false_iff_not]at hb2
   refine XJ ?_;change Awp _ _ _ _ _ _ _;refine awp_rseq [4,5] (by rfl) fun K hK=>?_;simp+decide only[ev,putD,VM,VO,Ka,true_and,↓qG,Qb,qg qfF qbc,QP,qf,VX,Km,Jr,qi,allLive,JS];refine qo (by rfl) (by rfl) zqA qbc (by rfl) (by rfl) zqD (Js _) (by rfl) ?_;simp only[VV];simp+decide only[qa,ev,qH,qF,putD,VM,VO,VN,Ka,true_and,↓qd,qb,setAt,VW,Ki,Jr];apply hK;clear hK K;refine qN ?_;refine qW h zqC (?_) ?_
   ·simp+decide only[QC,qw,qj,VO,Ka,and_true,qw,qj,qg qfF qbc,Qc,qf,VX,Km,Jr,qi,allLive,JS,qf,VX,Km,Jr,qi,allLive,JS]
   simp+decide only[VO,Ka,and_true,Xi,qw,qj,qg qfF qbc,Qc,qf,VX,Km,Jr,qi,allLive,JS,qf,VX,Km,Jr,qi,allLive,JS,YR];rw[hei,show k=c.marks.length by omega,Jp]
end Go.Proofs.YtlhhaagmakhilaaGreatDoor
