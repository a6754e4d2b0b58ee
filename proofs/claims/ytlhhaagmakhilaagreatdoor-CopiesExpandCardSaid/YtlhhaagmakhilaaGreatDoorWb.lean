/-
  Texts of this proof, joined: AmT, AmU, AmV, AmW, AmX, CoA, TkA, TkC, TkD, TkE, BmA, AmY, AmZ, Ty, TkB, Shelf, CoB, CoC.
  Conditions: none.
-/
import Derived.Test.YtlhhaagmakhilaaGreatDoorWa
import Derived.Lib.UnsafeStr
import Derived.Lib.Builder
import Derived.Laws.Externs
import Derived.Lib.ItoaNum
import Derived.Scope
import Derived.Test.YtlhhaagmakhilaaGreatDoorRows
import Derived.KernelRfl
import Derived.Shelf.Strings.Builder1
import Derived.Shelf.Strings.Builder2
import Derived.Shelf.Strings.OnBuilder
import Derived.Shelf.Strings.Trim
import Derived.Shelf.Small.Utf8
import Derived.Shelf.Small.Strs
import Derived.Shelf.Strings.BuilderF
import Derived.Shelf.Strings.BuilderK
import Derived.Shelf.Utf8.RuneCount
import Derived.Shelf.Strings.Builder2Cap
import Derived.Shelf.Strings.Search1
import Derived.Shelf.Strings.Search2
import Derived.Shelf.Strings.Search3
import Derived.Shelf.Strings.Count
import Derived.Shelf.LaysM
import Derived.Shelf.Strings.Shaped
import Derived.Shelf.GgClosure.StringsIndexFunc
import Derived.Ground.GgwProg
import Derived.Shelf.GgClosure.StringsIndexFuncTop
import Derived.Shelf.GgClosure.StringsRunes
import Derived.Shelf.Strings.Prefix
import Derived.Shelf.Strings.Split
import Derived.Shelf.Strings.Replace
import Derived.Shelf.Strings.SplitShaped
import Derived.Shelf.Unicode.Decode
import Derived.Shelf.Strings.Runes
import Derived.Shelf.Strings.RuneCount
import Derived.Shelf.Strings.AsciiSet
import Derived.Shelf.Strings.Explode
import Derived.Shelf.Bits.Mul64
import Derived.Shelf.Strings.Repeat
import Derived.Shelf.Unicode.DecodeSlow
import Derived.Shelf.Unicode.DecodeAny
import Derived.Shelf.Unicode.DecodeLast
import Derived.Shelf.Strings.FuncGrows
import Derived.Shelf.Strings.BuilderCap
import Derived.Shelf.Slices.Turned
import Derived.Test.YtlhhaagmakhilaaGreatDoorProg
import Derived.Lib.SmallJoins
import Derived.Lib.AppendIntMem
import Derived.Lib.SpaceUEq
import Derived.Lib.SplitLaws
set_option linter.unusedSimpArgs false
set_option linter.unnecessarySimpa false
set_option linter.unusedVariables false
open List renaming mem_cons_of_mem->Jg,map_cons->Ke,mem_cons_self->Jf,toList_toArray->JG,mem_map->JH,mem_append->JJ,length_map->Jp,take_length->Jq,replicate->JM,take_of_length_le->Jr,getD->Ko,getElem?_eq_none->Kr,getElem?_append->Jb,length_append->Jc,length_singleton->JS,mem_cons->KX,range->KP,all_eq_true->JD,mem_range->JE,contains_iff_mem->JX,any_eq_true->JY,getElem?_eq_some_iff->JB,drop_length->JZ,mem_of_getElem?->J2,mem_filter->J3,length_pos_of_mem->J4,drop_eq_getElem_cons->J5,mem_append_left->J6,nil_append->Je,length_nil->J9,getElem?_eq_getElem->JA,length_filter_le->Va,getElem?_drop->Kq,map_nil->Vk,eq_nil_of_length_eq_zero->Kg,drop_zero->KQ,isPrefixOf->Vq,takeWhile_sublist->Vt,length_drop->K6,drop_eq_nil_of_le->Vu,length_cons->KY,isPrefixOf_iff_prefix->Vw,cons_append->Kh,length_take->K5,map->Vx,drop_append->Vy,drop_of_length_le->Vz,flatten_cons->VA,getElem?_append_right->VD,drop_succ_cons->VE,take_succ_cons->Ki,mem_of_mem_drop->VF,mem_of_mem_take->VG,set_append_right->VI,getElem_mem->VJ,filterMap_cons->VK,take_add_one->VL,map_map->VV,map_eq_nil_iff->VW,set_cons_zero->VY,set_cons_succ->Kj,getD_cons_zero->VZ,getD_cons_succ->Kn
open Array renaming toList_append->JI,range->Jd,length_toList->KN,getD->JF,replicate->Jy,getElem?_modify->KS
open Option renaming isSome_some->JK,map_eq_some_iff->Kc,map_some->KI,isNone_iff_eq_none->JV,getD_some->VM
open Go.AM.PMap renaming upd->JL,upd_same->JN,le_trans->J7
open Bool renaming and_eq_true->Ky,and_true->JU,not_eq_true'->Jj,or_eq_true->JW,true_and->Vg,and_assoc->Vp,false_eq_true->KW,and_eq_false_iff->VS,or_eq_false_iff->VT,not_eq_false'->VU,eq_iff_iff->KA,not_true->V3,false_and->V4
open Go.AM.AVal renaming live->JO,cells->VX
open Nat renaming lt_of_not_le->JP,lt_or_ge->KU,eq_or_lt_of_le->JC,strongRecOn->Jw,le_refl->KL,le_of_not_lt->Kt,zero_le->Jt,zero_add->Js,zero_div->Vf,pos_of_ne_zero->Vn,zero_mul->K8,mul_div_cancel->Vo,add_zero->K7,succ_mul->VB,add_comm->VC,mul_le_mul_right->K9,sub_zero->Jh,le_of_ble_eq_true->VN
open Go.AM.Same renaming refl->JQ
open Go.AM.Slots renaming get_keep->JR,put->VO,keep->VP,get->VQ
open Go.AM.Awp renaming of0->J8,keep->Vb
open Go.AM.AHeap renaming set_ne->Vd,set_same->Ve,set_set->Vi,set_comm->Vj,del->Vl
open Go.AM.Sub renaming set->Vh,refl->Vm,trans_set->V5
open Int renaming toNat_natCast->Vr,natCast_zero->Vv,natCast_nonneg->VH
open UInt8 renaming ofNat->KD
namespace Go.AM
open Go.RowKit (Below)
theorem qfH{s:Slots}{L:List Nat}{op:Op}(hL:∀t∈qrM op,t∈L):∀x∈op.operands.toList,ev (s.keep L) x=ev s x:=by
 intro x hx;refine ZR fun t ht=>hL t ?_;subst ht;exact List.mem_filterMap.2 ⟨_,hx,rfl⟩
theorem qke{s s':Slots}:∀{xs:List Operand},(∀x∈xs,ev s' x=ev s x)->evs s' xs=evs s xs
 |[],_=>rfl
 |x::xs,h=>by
  have:=qke (s:=s) (s':=s') (xs:=xs) fun y hy=>h y (Jg _ hy);simp only[evs,Ke]at this|-
  rw[h x Jf,this]
theorem qod{s s':Slots}:∀{xs:List (Nat×Operand)},(∀p∈xs,ev s' p.2=ev s p.2)->evP s' xs=evP s xs
 |[],_=>rfl
 |x::xs,h=>by
  have:=qod (s:=s) (s':=s') (xs:=xs) fun y hy=>h y (Jg _ hy);simp only[evP,Ke]at this|-
  rw[h x Jf,this]
theorem qoe{s s':Slots}{x:Option Operand}(h:∀y,x=some y->ev s' y=ev s y):evO s' x=evO s x:=by
 cases x with
 |none=>rfl
 |some y=>simp only[evO,h y rfl]
theorem qgd{P:Program}{wz:World}{h:AHeap}{s s':Slots}(op:Op)(E:∀x∈op.operands.toList,ev s' x=ev s x):pop P wz h s' op=pop P wz h s op:=by
 cases op with
 |move x=>simp only[pop,E x (by simp[Op.operands])]
 |assign x=>simp only[pop,E x (by simp[Op.operands])]
 |pick c a b=>simp only[pop,E c (by simp[Op.operands]),E a (by simp[Op.operands]),E b (by simp[Op.operands])]
 |binOp o t x y u=>simp only[pop,E x (by simp[Op.operands]),E y (by simp[Op.operands])]
 |unOp o t x=>simp only[pop,E x (by simp[Op.operands])]
 |convert a b x=>simp only[pop,E x (by simp[Op.operands])]
 |load t x=>simp only[pop,E x (by simp[Op.operands])]
 |field t x f=>simp only[pop,E x (by simp[Op.operands])]
 |fieldAddr t x f=>simp only[pop,E x (by simp[Op.operands])]
 |index t x i=>simp only[pop,E x (by simp[Op.operands]),E i (by simp[Op.operands])]
 |indexAddr t x i=>simp only[pop,E x (by simp[Op.operands]),E i (by simp[Op.operands])]
 |slice t x lo hi mx=>
  simp only[pop,E x (by simp[Op.operands])];rw[qoe (s:=s) (s':=s') (x:=lo) fun y hy=>E y (by subst hy;simp[Op.operands]),qoe (s:=s) (s':=s') (x:=hi) fun y hy=>E y (by subst hy;simp[Op.operands]),qoe (s:=s) (s':=s') (x:=mx) fun y hy=>E y (by subst hy;simp[Op.operands])]
 |extract x i=>simp only[pop,E x (by simp[Op.operands])]
 |nilCheck x=>simp only[pop,E x (by simp[Op.operands])]
 |build t ps=>
  simp only[pop];rw[qod (s:=s) (s':=s') fun p hp=>E p.2 (by simp only[Op.operands,JG,JH];exact⟨p,hp,rfl⟩)]
 |makeFunc fn first cap=>
  simp only[pop];rw[qke (s:=s) (s':=s') (xs:=cap.toList) fun x hx=>E x (by simp only[Op.operands,JI,JJ];exact .inr hx)]
 |makeInterface t x=>simp only[pop,E x (by simp[Op.operands])]
 |lookup t x i ok=>simp only[pop,E x (by simp[Op.operands]),E i (by simp[Op.operands])]
 |call c=>
  obtain⟨callee,args,ts⟩:=c;simp only[pop];cases callee with
  |builtin b=>
   simp only;rw[qke (s:=s) (s':=s') (xs:=args.toList) fun x hx=>E x (by simp only[Op.operands,Call.operands,JI,JJ];exact .inr hx)]
  |_=>rfl
 |_=>rfl
theorem qdL{P:Program}{wz:World}{h:AHeap}{s s':Slots}(op:Op){K:AVal->AHeap->Prop}(E:∀x∈op.operands.toList,ev s' x=ev s x):eop P wz h s' op K=eop P wz h s op K:=by
 have hp:=qgd (P:=P) (wz:=wz) (h:=h) (s:=s) (s':=s') op E;cases op with
 |box e x=>simp only[eop,E x (by simp[Op.operands])]
 |buildSlice t n ps=>
  simp only[eop];rw[qod (s:=s) (s':=s') fun p hp=>E p.2 (by simp only[Op.operands,JG,JH];exact⟨p,hp,rfl⟩)]
 |store t x v=>simp only[eop,E x (by simp[Op.operands]),E v (by simp[Op.operands])]
 |makeSlice t n c=>simp only[eop,E n (by simp[Op.operands]),E c (by simp[Op.operands])]
 |mapUpdate t m i v=>simp only[eop,E m (by simp[Op.operands]),E i (by simp[Op.operands]),E v (by simp[Op.operands])]
 |insert t m i v=>simp only[eop,E m (by simp[Op.operands]),E i (by simp[Op.operands]),E v (by simp[Op.operands])]
 |range t x=>simp only[eop,E x (by simp[Op.operands])]
 |next it b=>simp only[eop,E it (by simp[Op.operands])]
 |entry it=>simp only[eop,E it (by simp[Op.operands])]
 |convert a b x=>simp only[eop,E x (by simp[Op.operands]),hp]
 |call c=>
  obtain⟨callee,args,ts⟩:=c;have hx:evs s' args.toList=evs s args.toList:=qke fun x hx=>E x (by simp only[Op.operands,Call.operands,JI,JJ];exact .inr hx);cases callee with
  |value f=>
   simp only[eop,hx];rw[E f (by simp[Op.operands,Call.operands])]
  |builtin b=>cases b<;>simp only[eop,hx]<;>rw[hp]
  |invoke r m=>simp only[eop,hp]
 |alloc e=>rfl
 |_=>simp only[eop,hp]
mutual
def AVal.okIn(f:Nat->Bool):AVal->Prop
 | .ptr (.own k) _=>f k=true
 | .slice (.own k) _ len c=>match c with
   | .exact c=>(c≠0\/len≠0->f k=true)
   | .grow _=>f k=true
 | .func _ cs=>XL f cs
 | .map k=>f k=true
 | .iface _ x=>x.okIn f
 | .agg cs=>XL f cs
 | .tuple cs=>XL f cs
 |_=>True
def XL(f:Nat->Bool):List AVal->Prop
 |[]=>True
 |x::xs=>x.okIn f/\XL f xs
end
mutual
theorem UV{fi:PMap}:∀(x:AVal) (v:Value),VR fi x v->x.okIn (fun k=>(fi k).isSome)
 | .dead,_,_=>by simp only[AVal.okIn]
 | .bool _,_,_=>by simp only[AVal.okIn]
 | .int _ _,_,_=>by simp only[AVal.okIn]
 | .str _,_,_=>by simp only[AVal.okIn]
 | .nilPtr,_,_=>by simp only[AVal.okIn]
 | .nilSlice,_,_=>by simp only[AVal.okIn]
 | .nilFunc,_,_=>by simp only[AVal.okIn]
 | .nilIface,_,_=>by simp only[AVal.okIn]
 | .nilMap,_,_=>by simp only[AVal.okIn]
 | .mapO _,_,_=>by simp only[AVal.okIn]
 | .mapE _ _ _,_,_=>by simp only[AVal.okIn]
 | .iterO _ _ _ _,_,_=>by simp only[AVal.okIn]
 | .map k,v,h=>by
   simp only[VR]at h;obtain⟨p,hp,_⟩:=h;simp only[AVal.okIn,hp,JK]
 | .ptr (.base b) _,_,_=>by simp only[AVal.okIn]
 | .ptr (.own k) o,v,h=>by
   simp only[VR,XD,Kc]at h;obtain⟨a,⟨p,hp,_⟩,_⟩:=h;simp only[AVal.okIn,hp,JK]
 | .slice (.base b) _ _ _,_,_=>by simp only[AVal.okIn]
 | .slice (.own k) o len (.exact c),v,h=>by
   simp only[VR,XD,Kc]at h;obtain⟨a,_,h2⟩:=h;simp only[AVal.okIn];intro hc;obtain⟨p,hp,_⟩:=h2 hc;simp only[hp,JK]
 | .slice (.own k) o len (.grow es),v,h=>by
   simp only[VR]at h;obtain⟨k',p,c,a,e,hp,_⟩:=h;cases e;simp only[AVal.okIn,hp,JK]
 | .func f cs,v,h=>by
   simp only[VR]at h;obtain⟨vs,_,h2⟩:=h;simp only[AVal.okIn];exact qaW cs vs h2
 | .iface t x,v,h=>by
   simp only[VR]at h;obtain⟨y,_,h2⟩:=h;simp only[AVal.okIn];exact UV x y h2
 | .agg cs,v,h=>by
   simp only[VR]at h;obtain⟨vs,_,h2⟩:=h;simp only[AVal.okIn];exact qaW cs vs h2
 | .tuple cs,v,h=>by
   simp only[VR]at h;obtain⟨vs,_,h2⟩:=h;simp only[AVal.okIn];exact qaW cs vs h2
theorem qaW{fi:PMap}:∀(xs:List AVal) (vs:List Value),VRs fi xs vs->XL (fun k=>(fi k).isSome) xs
 |[],_,_=>by simp only[XL]
 |x::xs,vs,h=>by
  simp only[VRs]at h;obtain⟨v,vs',_,h1,h2⟩:=h;simp only[XL];exact⟨UV x v h1,qaW xs vs' h2⟩
end
mutual
theorem qfN{fi Ps:PMap}{f:Nat->Bool}(hf:∀k,f k=true->fi k=Ps k):∀(x:AVal) (v:Value),x.okIn f->VR fi x v->VR Ps x v
 | .dead,_,_,h=>h
 | .bool _,_,_,h=>h
 | .int _ _,_,_,h=>h
 | .str _,_,_,h=>h
 | .nilPtr,_,_,h=>h
 | .nilSlice,_,_,h=>h
 | .nilFunc,_,_,h=>h
 | .nilIface,_,_,h=>h
 | .nilMap,_,_,h=>h
 | .mapO _,_,_,h=>h
 | .mapE _ _ _,_,_,h=>h
 | .iterO _ _ _ _,_,_,h=>h
 | .map k,v,ok,h=>by
   simp only[AVal.okIn]at ok;simp only[VR,<-hf k ok]at h|-
   exact h
 | .ptr (.base b) _,_,_,h=>h
 | .ptr (.own k) o,v,ok,h=>by
   simp only[AVal.okIn]at ok;simp only[VR,XD,<-hf k ok]at h|-
   exact h
 | .slice (.base b) _ _ (.exact c),_,_,h=>h
 | .slice (.base b) _ _ (.grow c),v,_,h=>by
   simp only[VR]at h;obtain⟨k,p,c,a,e,_⟩:=h;cases e
 | .slice (.own k) o len (.exact c),v,ok,h=>by
   simp only[AVal.okIn]at ok;simp only[VR,XD]at h|-
   obtain⟨a,h1,h2⟩:=h;exact⟨a,h1,fun hc=>by rw[<-hf k (ok hc)];exact h2 hc⟩
 | .slice (.own k) o len (.grow es),v,ok,h=>by
   simp only[AVal.okIn]at ok;simp only[VR]at h|-
   obtain⟨k',p,c,a,e,hp,rest⟩:=h;cases e;exact⟨k,p,c,a,rfl,by rw[<-hf k ok];exact hp,rest⟩
 | .func f cs,v,ok,h=>by
   simp only[AVal.okIn]at ok;simp only[VR]at h|-
   obtain⟨vs,h1,h2⟩:=h;exact⟨vs,h1,qdT hf cs vs ok h2⟩
 | .iface t x,v,ok,h=>by
   simp only[AVal.okIn]at ok;simp only[VR]at h|-
   obtain⟨y,h1,h2⟩:=h;exact⟨y,h1,qfN hf x y ok h2⟩
 | .agg cs,v,ok,h=>by
   simp only[AVal.okIn]at ok;simp only[VR]at h|-
   obtain⟨vs,h1,h2⟩:=h;exact⟨vs,h1,qdT hf cs vs ok h2⟩
 | .tuple cs,v,ok,h=>by
   simp only[AVal.okIn]at ok;simp only[VR]at h|-
   obtain⟨vs,h1,h2⟩:=h;exact⟨vs,h1,qdT hf cs vs ok h2⟩
theorem qdT{fi Ps:PMap}{f:Nat->Bool}(hf:∀k,f k=true->fi k=Ps k):∀(xs:List AVal) (vs:List Value),XL f xs->VRs fi xs vs->VRs Ps xs vs
 |[],_,_,h=>h
 |x::xs,vs,ok,h=>by
  simp only[XL]at ok;simp only[VRs]at h|-
  obtain⟨v,vs',h0,h1,h2⟩:=h;exact⟨v,vs',h0,qfN hf x v ok.1 h1,qdT hf xs vs' ok.2 h2⟩
end
theorem ERel.limit{fi Ps ψ':PMap}(hk:∀k,(fi k).isSome=true->Ps k=ψ' k):∀{cs:List AVal} {l l':List MapEntry},ERel fi cs l->ERel Ps cs l'->ERel ψ' cs l'
 |[],_,_,_,h=>h
 |c::cs,l,l',h,h'=>by
  simp only[ERel]at h h'|-
  obtain⟨e,r,rfl,h1,h2⟩:=h;obtain⟨e',r',rfl,h1',h2'⟩:=h';refine⟨e',r',rfl,?_,ERel.limit hk h2 h2'⟩;cases c<;>first|exact h1.elim|exact⟨h1'.1,qfN (f:=fun k=>(fi k).isSome) hk _ _ (UV _ _ h1.2.1) h1'.2.1,qfN (f:=fun k=>(fi k).isSome) hk _ _ (UV _ _ h1.2.2) h1'.2.2⟩
theorem ORel.limit{fi Ps ψ':PMap}(hk:∀k,(fi k).isSome=true->Ps k=ψ' k){cs:List AVal}{o o':Obj}(h:ORel fi cs o)(h':ORel Ps cs o'):ORel ψ' cs o':=by
 unfold ORel at h'|-
 split at h'
 ·rename_i c es entries clock
  refine⟨h'.1,?_⟩;cases o with
  |map en cl=>exact ERel.limit hk (show cl=c/\ERel fi es en.toList from h).2 h'.2
  |_=>exact(show False from h).elim
 ·rename_i m since seen last r s1 s2 s3
  obtain⟨⟨p,g1,g2⟩,g3⟩:=h';refine⟨⟨p,?_,g2⟩,g3⟩;cases o with
  |mapIter mm b1 b2 b3=>
   cases mm with
   |none=>exact(show False from h).elim
   |some mm=>
    obtain⟨⟨q,q1,_⟩,_⟩:=(show(∃p,fi m=some p/\mm=p.blk)/\b1=since/\b2.toList=seen/\b3=last from h)
    rw[<-hk m (by rw[q1];rfl)];exact g1
  |_=>exact(show False from h).elim
 ·exact h'.elim
theorem HRel.limit{wz w w':World}{fi Ps ψ':PMap}{g:AHeap}(hr:HRel wz fi g w)(hr':HRel wz Ps g w')(hl:ψ'.le Ps)(hk:∀k,(fi k).isSome=true->Ps k=ψ' k):HRel wz ψ' g w':=by
 refine⟨hr'.below,fun k b hb=>?_,fun k k' b b' p p' hb hb' hp hp'=>hr'.inj k k' b b' p p' hb hb' (hl _ _ hp) (hl _ _ hp'),fun k p hp=>hr'.lt k p (hl _ _ hp),?_,fun k p hp=>hr'.typ k p (hl _ _ hp)⟩
 ·obtain⟨p,hp,h1,h2⟩:=hr'.own k b hb
  obtain⟨q,hq,_,c2⟩:=hr.own k b hb;refine⟨p,by rw[<-hk k (by simp[hq])];exact hp,h1,?_⟩;rcases h2 with h2|h2
  ·obtain⟨cs,e,lo,hi,r1,r2,r3,r4,r5,r6⟩:=h2.row
   obtain⟨cs',e',lo',hi',s1,s2,s3,s4,s5,s6⟩:=c2.row r4;exact .inl ⟨cs,e,lo,hi,r1,r2,r3,r4,qdT (f:=fun k=>(fi k).isSome) (fun k hf=>hk k hf) _ _ (qaW _ _ s5) r5,r6⟩
  ·obtain⟨o,r1,r2⟩:=h2.obj
   obtain⟨o',s1,s2⟩:=(c2.obj h2.frz).obj;exact .inr ⟨h2.frz,h2.at_,o,r1,ORel.limit hk s2 r2⟩
 ·obtain⟨N,hN⟩:=hr'.fin
  refine⟨N,fun k hk'=>?_⟩;cases e:ψ' k with
  |none=>rfl
  |some p=>have:=hl k p e;rw[hN k hk']at this;cases this
def ZW(P:Program):Op->Nat
 | .alloc _=>0
 | .box _ _=>0
 | .buildSlice _ _ _=>0
 | .makeSlice _ _ _=>0
 | .store _ _ _=>3
 | .makeMap _ _=>3
 | .mapUpdate _ _ _ _=>3
 | .insert _ _ _ _=>3
 | .range _ _=>3
 | .next _ _=>3
 | .entry _=>3
 | .convert src dst _=>if Yy P src dst=true then 0 else if qdM P src dst=true then 3 else 2
 | .call c=>match c.callee with
   | .value _=>1
   | .builtin .append=>3
   | .builtin .copy=>3
   | .builtin .delete=>3
   | .builtin _=>2
   | .invoke _ _=>3
 |_=>2
theorem qrV{P:Program}{op:Op}(h:ZW P op=2):ZE P op=true:=by
 cases op<;>simp only[ZW,ZE]at h|- <;>first|rfl|(cases h;done)|skip
 case convert a b x=>
  split at h
  ·cases h
  ·split at h
   ·cases h
   ·rename_i h1 h2
    simp[h1,h2]
 case call c=>
  obtain⟨callee,args,ts⟩:=c;cases callee with
  |value f=>simp at h
  |invoke r m=>simp at h
  |builtin b=>cases b<;>simp at h|-
theorem qBl{P:Program}{wz:World}{h:AHeap}{s:Slots}{op:Op}{K:AVal->AHeap->Prop}(hk0:ZW P op=0)(he:eop P wz h s op K):
 ∃(val:Nat->AVal) (b:Blk),(∀k,h k=none->K (val k) (h.set k b))/\
  ∀(k:Nat) (o:Oper),o.op=op->∀{w:World} {fi:PMap} {g:AHeap} {n:FrameK} {a:Act} {next:Act->World->Prop} {Q:Exit->Act->World->Prop},HRel wz fi g w->SRel fi n s a->g k=none->fi k=none->UM k=none->
   (∀p v w',HRel wz (fi.upd k p) (g.set k b) w'->VR (fi.upd k p) (val k) v->next (a.put o.dst v) w')->o.wp P a w next Q:=by
 cases op<;>simp only[ZW]at hk0<;>first
  |(cases hk0;done)
  |skip
 case alloc e=>
  simp only[eop]at he;split at he<;>first|exact he.elim|skip
  rename_i z hz
  refine⟨fun k=> .ptr (.own k) 0,⟨z.cells.toList.map qG,0⟩,he,?_⟩;rintro k ⟨dst,op,type,pos,after,guard⟩ rfl w fi g n a next Q hr hs hk hφ hkt hn;obtain⟨e1,e2⟩:=hr.alloc k hk hφ (z.cells.toList.map qG) z.cells e 0 0 (by rw[Jp,Jq];exact UB fi z.cells.toList) qbU (fun t ht=>by rw[hkt]at ht;cases ht);refine Zg (v:= .pointer (some ⟨w.heap.size,0,none⟩)) (w':=w.alloc (.cells z.cells e)) ?_ (hn _ _ _ e2 (qjf _ _ _));simp[execOp,Instr.alloc,qcl hz,newVar,newRow]
 case box e x=>
  simp only[eop]at he;obtain⟨hl,he⟩:=he;refine⟨fun k=> .ptr (.own k) 0,⟨(ev s x).cells,0⟩,he,?_⟩;rintro k ⟨dst,op,type,pos,after,guard⟩ rfl w fi g n a next Q hr hs hk hφ hkt hn;have hx:=qgw (hs.ev x) hl;have hlen:=Zp hx;obtain⟨e1,e2⟩:=hr.alloc k hk hφ (ev s x).cells (a.eval x).cells e 0 0 (by rw[<-hlen,Jq];exact hx) qbU (fun t ht=>by rw[hkt]at ht;cases ht);refine Zg (v:= .pointer (some ⟨w.heap.size,0,none⟩)) (w':=w.alloc (.cells (a.eval x).cells e)) ?_ (hn _ _ _ e2 (qjf _ _ _));simp[execOp,Instr.box,newVar,newRow]
 case buildSlice t m parts=>
  simp only[eop]at he;split at he<;>first|exact he.elim|skip
  rename_i cs hb
  refine⟨fun k=> .slice (.own k) 0 m (.exact m),⟨cs,0⟩,he,?_⟩;rintro k ⟨dst,op,type,pos,after,guard⟩ rfl w fi g n a next Q hr hs hk hφ hkt hn;unfold qaO at hb;split at hb<;>first|(cases hb;done)|skip
  rename_i e ht
  split at hb<;>first|(cases hb;done)|skip
  rename_i es z hes hz
  split at hb<;>first|(cases hb;done)|skip
  rename_i hc
  obtain⟨c1,c2,c3⟩:=hc;have hzs:VRs fi (z.cells.toList.map qG) z.cells.toList:=UB fi _;obtain⟨r,f1,f2⟩:=qhW (fi:=fi) (fun i=>some (i*es,es)) (vs:=(parts.map fun(i,x)=>(i,a.eval x)).toList) (us:=(Jd (m*es)).map (z.cells[· %z.cells.size]!)) (by simpa using hs.evP parts.toList) (qkh hzs (by omega) (m*es)) hb;have hlen:=Zp f2;simp only[KN]at hlen;have hcl:cs.length=m*es:=by rw[qfE _ hb];simp[Uz]
  obtain⟨e1,e2⟩:=hr.alloc k hk hφ cs r e 0 0 (by rw[<-hlen,<-KN,Jq];exact f2) qbU (fun t ht=>by rw[hkt]at ht;cases ht);refine Zg (v:= .slice (some ⟨w.heap.size,0,none⟩) m m) (w':=w.alloc (.cells r e)) ?_ (hn _ _ _ e2 ?_)
  ·have hbig:¬(m*es>2^24):=by omega
   have hb':¬(16777216<m*es):=by omega
   by_cases hz0:m*es=0
   ·have hr0:r= #[]:=Array.eq_empty_of_size_eq_zero (by omega)
    have harr:((Jd (m*es)).map (z.cells[· %z.cells.size]!))= #[]:=by rw[hz0];simp
    rw[harr]at f1;simp at f1;simp[execOp,Instr.buildSlice,Qf ht,Ya hes,hz0,Array.range_zero',f1,newRow]
   ·simp[execOp,Instr.buildSlice,Qf ht,Ya hes,hz0,hb',qcl hz]
    simp at f1;simp[f1,newRow]
  ·simp only[VR]
   exact⟨_,rfl,fun _=>by simp[XD,JL]⟩
 case makeSlice t m c=>
  simp only[eop]at he;unfold qtz at he;split at he<;>first|exact he.elim|skip
  rename_i e len cap ht hlen hcap
  split at he<;>first|exact he.elim|skip
  rename_i es by' z hes hby hz
  obtain⟨⟨g1,g2,g3,g4,g5,g6⟩,he⟩:=he;refine⟨fun k=> .slice (.own k) 0 len.toNat (.exact cap.toNat),⟨Uz (z.cells.toList.map qG) (cap.toNat*es),0⟩,he,?_⟩;rintro k ⟨dst,op,type,pos,after,guard⟩ rfl w fi g n a next Q hr hs hk hφ hkt hn;have i1:∃k,a.eval m= .int k len:=by
   have:=hs.ev m;revert hlen this;cases ev s m<;>simp[quC,VR];intro e1 e2;subst e1;exact⟨_,e2⟩
  have i2:∃k,a.eval c= .int k cap:=by
   have:=hs.ev c;revert hcap this;cases ev s c<;>simp[quC,VR];intro e1 e2;subst e1;exact⟨_,e2⟩
  obtain⟨k1,i1⟩:=i1;obtain⟨k2,i2⟩:=i2;simp only[Yz,Kc]at hes;obtain⟨ii,hi,hes⟩:=hes;simp only[qgz,hi,KI,Option.some.injEq]at hby;simp only[Uk,hi,Option.bind_some]at hz;subst hby;have hmake:=run_make (P:=P) w t e ii z ht hi hz k1 k2 len cap g1 g2 g3 g4;rw[hes]at hmake;have hzs:VRs fi (z.cells.toList.map qG) z.cells.toList:=UB fi _;have hrep:=qkh hzs (by omega) (cap.toNat*es);obtain⟨e1,e2⟩:=hr.alloc k hk hφ (Uz (z.cells.toList.map qG) (cap.toNat*es)) (madeCells z.cells (cap.toNat*es)) e 0 0 (by
   have hl:=Zp hrep;rw[<-hl];unfold madeCells;rw[Jq];exact hrep) qbU (fun t ht=>by rw[hkt]at ht;cases ht)
  refine Zg (v:= .slice (some ⟨w.heap.size,0,none⟩) len.toNat cap.toNat) (w':=w.alloc (.cells (madeCells z.cells (cap.toNat*es)) e)) ?_ (hn _ _ _ e2 ?_)
  ·simp only[execOp,i1,i2]
   exact ZK hmake
  ·simp only[VR]
   exact⟨_,rfl,fun _=>by simp[XD,JL]⟩
 case convert src dst' x=>
  split at hk0
  ·rename_i hc
   simp only[eop]at he;split at he
   ·rename_i b hb
    rw[if_pos hc]at he;obtain⟨g1,he⟩:=he;refine⟨fun k=> .slice (.own k) 0 b.length (.grow 1),⟨byteCells b,0⟩,he,?_⟩;rintro k ⟨dst,op,type,pos,after,guard⟩ rfl w fi g n a next Q hr hs hk hφ hkt hn;unfold Yy at hc;split at hc<;>first|(cases hc;done)|skip
    rename_i e h1 h2
    split at hc<;>first|(cases hc;done)|skip
    rename_i h3
    have hx:=hs.ev x;rw[hb]at hx;simp only[VR]at hx;have hcap:b.length<=grownCap w b.length 0 e:=by
     simp only[grownCap,Question.cut];omega
    have hrun:=run_bytes_of_string (P:=P) w src dst' e ⟨⟨b⟩⟩ h1 h2 h3;rw[qnn]at hrun;generalize hG:grownCap w b.length 0 e=G at*
    have hrow:(bytesRow ⟨⟨b⟩⟩ G).toList=(b.map fun c=>Value.int .u8 c.toNat)++JM (G-b.length) (.int .u8 0):=by
     simp[bytesRow,qnn]
    have hsize:(bytesRow ⟨⟨b⟩⟩ G).size=G:=by
     rw[<-KN,hrow];simp;omega
    rw[hsize]at hrun;have hcells:(byteCells b).length=b.length:=byteCells_length b;obtain⟨e1,e2⟩:=hr.drew.alloc k hk hφ (byteCells b) (bytesRow ⟨⟨b⟩⟩ G) e G (G+1) (by
     rw[hcells,hrow,List.take_append_of_le_length (by simp)];rw[Jr (by simp)];exact qgy fi b) (fun i h1 h2=>by rw[hsize];exact h1) (fun t ht=>by rw[hkt]at ht;cases ht)
    refine Zg (v:= .slice (some ⟨w.heap.size,0,none⟩) b.length G) (w':=w.drew.alloc (.cells (bytesRow ⟨⟨b⟩⟩ G) e (G,G+1))) ?_ (hn _ _ _ e2 ?_)
    ·simp only[execOp,hx]
     exact ZK hrun
    ·simp only[VR]
     exact⟨k,_,G,⟨w.heap.size,0,none⟩,rfl,JN _ _ _,rfl,hcap,fun _=>⟨rfl,by simp[hsize]⟩⟩
   ·rename_i k o m c hx
    simp only[Yy]at hc;split at he
    ·rename_i hc'
     simp only[qdM,Ky,beq_iff_eq]at hc';obtain⟨rfl,hc'⟩:=hc';split at hc<;>first|(cases hc;done)|skip
     rename_i e h1 h2
     rw[h1]at h2;cases h2
    ·exfalso
     simp only[pop,hx,qdz]at he;split at hc<;>first|(cases hc;done)|skip
     rename_i e h1 h2
     simp[h1,h2]at he;exact he.1
   ·rename_i hn1 hn2
    exfalso;unfold Yy at hc;split at hc<;>first|(cases hc;done)|skip
    rename_i e h1 h2
    have he1:=he.1;simp only[pop]at he1;cases hx:ev s x with
    |str b=>exact hn1 b hx
    |_=>simp[hx,qdz,h1,h2,PR.no]at he1
  ·split at hk0<;>cases hk0
 case call c=>
  obtain⟨callee,args,ts⟩:=c;cases callee with
  |value f=>cases hk0
  |invoke r m=>cases hk0
  |builtin b=>cases b<;>cases hk0
section
variable {P:Program} {wz:World} {n:FrameK} {hZ:AHeap}
def qfa(P:Program)(wz:World)(hZ h:AHeap)(S:Slots)(op:Op)(V:AVal):Prop:=
 if ZW P op=2 then(pop P wz h S op).pre/\V=(pop P wz h S op).val
 else ZW P op=1/\V.okIn (fun k=>(hZ k).isSome)/\∀g,(∀k b,hZ k=some b->g k=some b)->eop P wz g S op (fun x h'=>x=V/\h'=g)
def Yj(P:Program)(wz:World)(ops:List Oper)(hZ:AHeap):List Oper->Slots->AHeap->(Slots->AHeap->Prop)->Prop
 |[],s,h,K=>K s h
 |o::rest,s,h,K=>
  if ZW P o.op=0 then o.guard=none/\eop P wz h (s.keep (QS ops o)) o.op (fun x h'=>Yj P wz ops hZ rest (putD s o.dst x) h' K)
  else match o.guard with
   |none=>∃V,qfa P wz hZ h (s.keep (QS ops o)) o.op V/\Yj P wz ops hZ rest (putD s o.dst V) h K
   |some (j,want)=>match qM ops j with
    |none=>Yj P wz ops hZ rest (putD s o.dst (.tuple [])) h K
    |some d=>Wu (s.get d)=true/\∃V,(Xk (s.get d) want=true->qfa P wz hZ h (s.keep (QS ops o)) o.op V)/\Yj P wz ops hZ rest (putD s o.dst (QK (Xk (s.get d) want) V)) h K
theorem qbu{ops:List Oper}{K K':Slots->AHeap->Prop}(hk:∀s h,K s h->K' s h):∀{l:List Oper} {s:Slots} {h:AHeap},Yj P wz ops hZ l s h K->Yj P wz ops hZ l s h K'
 |[],s,h,hv=>hk _ _ hv
 |o::rest,s,h,hv=>by
  simp only[Yj]at hv|-
  split
  ·rename_i h0
   rw[if_pos h0]at hv;exact⟨hv.1,qcK hv.2 fun x h' hx=>qbu hk hx⟩
  ·rename_i h0
   rw[if_neg h0]at hv;split
   ·rename_i hg
    rw[hg]at hv;obtain⟨V,h1,h2⟩:=hv;exact⟨V,h1,qbu hk h2⟩
   ·rename_i j want hg
    rw[hg]at hv;simp only at hv;split
    ·rename_i hj
     rw[hj]at hv;exact qbu hk hv
    ·rename_i d hj
     rw[hj]at hv;obtain⟨h1,V,h2,h3⟩:=hv;exact⟨h1,V,h2,qbu hk h3⟩
def gOf(hZ:AHeap)(N:Nat)(bl:List (Option Blk))(listed:Nat->Bool):AHeap:=fun k=>if N<=k then(bif listed (k-N)then bl.getD (k-N) none else none)else hZ k
def HH(wz:World)(hZ:AHeap)(N:Nat)(bl:List (Option Blk))(listed:Array Bool)(Ps:PMap)(w:World):Prop:=
 HRel wz Ps (gOf hZ N bl fun i=>listed.getD i false) w/\∀i,i<bl.length->listed.getD i false=false->Ps (N+i)=none
def HeadStep(P:Program)(wz:World)(n:FrameK)(hZ:AHeap)(l:List Oper)(N:Nat)(bl:List (Option Blk))(S:Slots)(i:Nat)(o:Oper)(V:AVal):Prop:=
 ∀(listed:Array Bool) (Ps:PMap) (w:World) (a:Act) (next:Act->World->Prop) (Q:Exit->Act->World->Prop),listed.getD i false=false->i<listed.size->HH wz hZ N bl listed Ps w->SRel Ps n (S.keep (QS l o)) a->
  (∀ψ' v w',Ps.le ψ'->HH wz hZ N bl (listed.setIfInBounds i true) ψ' w'->VR ψ' V v->next (a.put o.dst v) w')->
  if Region.wanted o (yielded l.toArray a.tmps)=true then o.wp P a w next Q else next (a.put o.dst undef) w
theorem qil{Ps:PMap}{H g:AHeap}(hg:∀k b,H k=some b->(Ps k).isSome=true->g k=some b){l:Loc}(hl:∀k,l= .own k->(Ps k).isSome=true\/False):∀(n o:Nat),allLive (qf wz H l o n)=true->qf wz g l o n=qf wz H l o n
 |0,_,_=>rfl
 |n+1,o,ha=>by
  simp only[qf,allLive,Ky]at ha|-
  rw[qil hg hl n (o+1) ha.2];congr 1;cases l with
  |base b=>rfl
  |own k=>
   have hs:=(hl k rfl).resolve_right id;have h1:=ha.1;simp only[rd]at h1|-
   cases hH:H k with
   |none=>simp[hH,JO]at h1
   |some b=>simp[hg k b hH hs]
theorem qCl{Ps:PMap}{H g:AHeap}(hg:∀k b,H k=some b->(Ps k).isSome=true->g k=some b){l:Loc}(hl:∀k,l= .own k->(Ps k).isSome=true)(o:Nat)(ha:(rd wz H l o).live=true):rd wz g l o=rd wz H l o:=by
 have:=qil (wz:=wz) hg (l:=l) (fun k e=> .inl (hl k e)) 1 o (by simp[qf,allLive,ha]);simpa[qf]using this
theorem qvZ{Ps:PMap}{l:Loc}{o:Nat}{v:Value}(h:VR Ps (.ptr l o) v):∀k,l= .own k->(Ps k).isSome=true:=by
 rintro k rfl;have:=UV _ _ h;simpa only[AVal.okIn]using this
theorem qfp{P:Program}{g H:AHeap}{b:Builtin}(hb:b≠ .len)(ts:Array TypeId)(xs:List AVal):WC P g b ts xs=WC P H b ts xs:=by
 unfold WC;generalize ts[0]?=q;cases b<;>first|exact absurd rfl hb|(rcases xs with _|⟨x,_|⟨y,xs⟩⟩<;>cases q<;>rfl)
theorem qhG{P:Program}{g H:AHeap}(ts:Array TypeId)(xs:List AVal)(h:∀t x,ts[0]?=some t->xs=[x]->YN P g t x=YN P H t x):WC P g .len ts xs=WC P H .len ts xs:=by
 unfold WC;generalize hq:ts[0]?=q at h;rcases xs with _|⟨x,_|⟨y,xs⟩⟩<;>cases q<;>first|rfl|exact h _ _ rfl rfl
theorem qwb{Ps:PMap}{H g:AHeap}{S:Slots}{a:Act}{op:Op}(hk:ZW P op=2)(hg:∀k b,H k=some b->(Ps k).isSome=true->g k=some b)(hs:SRel Ps n S a)(hp:(pop P wz H S op).pre):pop P wz g S op=pop P wz H S op:=by
 cases op<;>first
  |rfl
  |skip
 case load t x=>
  simp only[pop]at hp|-
  have hx:=hs.ev x;cases hv:ev S x with
  |ptr l o=>
   rw[hv]at hx hp;have hl:=qvZ hx;simp only[WA]at hp|-
   split at hp
   ·rename_i h1 h2
    rw[qil hg (fun k e=> .inl (hl k e)) _ _ hp]
   ·rename_i h1
    rw[qCl hg hl _ hp]
   ·exact hp.elim
  |_=>rfl
 case convert src dst x=>
  simp only[pop]at hp|-
  have hx:=hs.ev x;cases hv:ev S x with
  |slice l o len c=>
   rw[hv]at hx hp;simp only[qdz]at hp|-
   split at hp<;>first|exact hp.elim|skip
   rename_i e h1 h2
   split at hp<;>first|exact hp.elim|skip
   rename_i h3
   by_cases hz:len=0
   ·subst hz;rfl
   ·have hl:∀k,l= .own k->(Ps k).isSome=true\/False:=by
     rintro k rfl;have:=UV _ _ hx;simp only[AVal.okIn]at this;cases c with
     |exact c=>exact .inl (this (.inr hz))
     |grow es=>exact .inl this
    rw[qil hg hl _ _ (qay hp)]
  |_=>rfl
 case lookup t x i ok=>
  simp only[pop]at hp|-
  have hx:=hs.ev x;cases hv:ev S x with
  |map k=>
   rw[hv]at hx hp;have hk2:(Ps k).isSome=true:=UV _ _ hx;simp only[qaV]at hp|-
   split at hp<;>first|exact hp.elim|skip
   split at hp<;>first|exact hp.elim|skip
   split at hp<;>first|exact hp.elim|skip
   rename_i c es hm
   rw[UZ (hg k _ (WN hm) hk2)]
  |_=>rfl
 case call c=>
  obtain⟨callee,args,ts⟩:=c;cases callee with
  |builtin b=>
   have hvs:=hs.evs args.toList;have hp':(WC P H b ts (evs S args.toList)).pre:=hp;show WC P g b ts (evs S args.toList)=WC P H b ts (evs S args.toList)
   by_cases hb:b= .len
   ·subst hb
    refine qhG _ _ fun t x hq hxs=>?_;rw[hxs]at hvs hp';simp only[WC,hq]at hp';simp only[YN]at hp'|-
    cases hmt:qaB P t with
    |false=>rfl
    |true=>
     rw[hmt,cond_true]at hp';simp only[cond_true];simp only[VRs]at hvs;obtain⟨u,_,_,hx,_⟩:=hvs;cases x with
     |map k=>
      have hk2:(Ps k).isSome=true:=UV _ _ hx;unfold qkM at hp'|-
      split at hp'<;>first|exact hp'.elim|rfl|skip
      rename_i k' _ e
      cases e;split at hp'<;>first|exact hp'.elim|skip
      rename_i c es hm
      rw[UZ (hg k _ (WN hm) hk2)]
     |_=>
      unfold qkM;cases P.underlying t with
      |none=>rfl
      |some d=>cases d<;>rfl
   ·exact qfp hb _ _
  |_=>rfl
theorem qzI{hZ:AHeap}{N:Nat}{bl:List (Option Blk)}{i:Nat}{b:Blk}(hb:bl.getD i none=some b){listed:Array Bool}(hsz:i<listed.size):
 (gOf hZ N bl fun j=>listed.getD j false).set (N+i) b=gOf hZ N bl fun j=>(listed.setIfInBounds i true).getD j false:=by
 funext k;simp only[gOf,AHeap.set];by_cases e:k=N+i
 ·subst e
  rw[if_pos rfl,if_pos (by omega),show N+i-N=i by omega,set_self hsz,hb];rfl
 ·rw[if_neg e]
  by_cases hN:N<=k
  ·rw[if_pos hN,if_pos hN,XG (by omega)]
  ·rw[if_neg hN,if_neg hN]
theorem qwK{hZ:AHeap}{N:Nat}{bl:List (Option Blk)}{i:Nat}(hb:bl.getD i none=none){listed:Array Bool}:
 (gOf hZ N bl fun j=>(listed.setIfInBounds i true).getD j false)=gOf hZ N bl fun j=>listed.getD j false:=by
 funext k;simp only[gOf];by_cases hN:N<=k
 ·rw[if_pos hN,if_pos hN]
  by_cases e:k-N=i
  ·rw[e,hb];simp
  ·rw[XG e]
 ·rw[if_neg hN,if_neg hN]
theorem HH.quiet{N:Nat}{bl:List (Option Blk)}{i:Nat}(hb:bl.getD i none=none){listed:Array Bool}{Ps:PMap}{w:World}(h:HH wz hZ N bl listed Ps w):HH wz hZ N bl (listed.setIfInBounds i true) Ps w:=by
 refine⟨by rw[qwK hb];exact h.1,fun j hj hl=>h.2 j hj ?_⟩;by_cases e:j=i
 ·subst e
  cases hc:listed.getD j false with
  |false=>rfl
  |true=>
   have hsz:j<listed.size:=by
    refine JP fun hge=>?_;simp[JF,Nat.not_lt.2 hge]at hc
   rw[set_self hsz]at hl;cases hl
 ·rwa [XG e]at hl
theorem HeadStep.of_step{l:List Oper}(hall:Xl n l=true){N:Nat}(hN:∀j,N<=j->hZ j=none){bl:List (Option Blk)}{H:AHeap}{i:Nat}(hH:∀k b,H k=some b->k<N/\hZ k=some b\/N<=k/\k-N<bl.length/\bl.getD (k-N) none=some b)(hb:bl.getD i none=none){S:Slots}{o:Oper}{V:AVal}
 (hstep:qfa P wz hZ H (S.keep (QS l o)) o.op V) {Ps:PMap} {w:World} {a:Act} {listed:Array Bool} {next:Act->World->Prop} {Q:Exit->Act->World->Prop} (hh:HH wz hZ N bl listed Ps w) (hs:SRel Ps n (S.keep (QS l o)) a)
 (hn:∀ψ' v w',Ps.le ψ'->HH wz hZ N bl (listed.setIfInBounds i true) ψ' w'->VR ψ' V v->next (a.put o.dst v) w'):o.wp P a w next Q:=by
 unfold qfa at hstep;split at hstep
 ·rename_i hk
  obtain⟨h1,h2⟩:=hstep;have hup:∀k b,H k=some b->(Ps k).isSome=true->(gOf hZ N bl fun j=>listed.getD j false) k=some b:=by
   intro k b hb' hs';simp only[gOf];rcases hH k b hb' with⟨c1,c2⟩|⟨c1,c2,c3⟩
   ·rw[if_neg (by omega)];exact c2
   ·rw[if_pos c1]
    cases hl:listed.getD (k-N) false with
    |true=>simpa using c3
    |false=>
     have:=hh.2 (k-N) c2 hl;rw[show N+(k-N)=k by omega]at this;rw[this]at hs';cases hs'
  have e:=qwb (P:=P) (wz:=wz) (n:=n) hk hup hs h1;obtain⟨r,e1,e2⟩:=qkJ o (by rw[e];exact h1) hh.1 hs;rw[e,<-h2]at e2;exact Zg (e1 w (JQ w)) (hn Ps r w Ps.le_refl (hh.quiet hb) e2)
 ·obtain⟨_,hok,he⟩:=hstep
  have hsub:∀k b,hZ k=some b->(gOf hZ N bl fun j=>listed.getD j false) k=some b:=by
   intro k b hb';have hlt:k<N:=by
    refine JP fun hge=>?_;rw[hN k hge]at hb';cases hb'
   simp only[gOf];rw[if_neg (by omega)];exact hb'
  refine qiP o (he _ hsub) hh.1 hs fun ψ' x h' v w' h1 h2 h3 ⟨e1,e2⟩=>?_;subst e1 e2;have hle:Ps.le fun k=>if N<=k/\k-N<bl.length/\listed.getD (k-N) false=false then none else ψ' k:=by
   intro k p hp;simp only;rw[if_neg]
   ·exact h1 k p hp
   ·rintro⟨c1,c2,c3⟩
    have:=hh.2 (k-N) c2 c3;rw[show N+(k-N)=k by omega,hp]at this;cases this
  have hlt:(PMap.le (fun k=>if N<=k/\k-N<bl.length/\listed.getD (k-N) false=false then none else ψ' k) ψ'):=by
   intro k p hp;simp only at hp;split at hp
   ·cases hp
   ·exact hp
  have hsame:∀k,(Ps k).isSome=true->ψ' k=(fun k=>if N<=k/\k-N<bl.length/\listed.getD (k-N) false=false then none else ψ' k) k:=by
   intro k hk;obtain⟨p,hp⟩:=Option.isSome_iff_exists.1 hk;rw[hle k p hp,h1 k p hp]
  refine hn _ v w' hle (HH.quiet hb ⟨hh.1.limit h2 hlt hsame,fun j hj hl=>?_⟩) (qfN (f:=fun k=>(hZ k).isSome) (fun k hk=>?_) _ _ hok h3)
  ·simp only
   rw[if_pos ⟨by omega,by rw[show N+j-N=j by omega];exact hj,by rw[show N+j-N=j by omega];exact hl⟩]
  ·have hlt:k<N:=by
    refine JP fun hge=>?_;simp[hN k hge]at hk
   rw[if_neg (by omega)]
theorem HeadStep.lay{l:List Oper}{N:Nat}{bl:List (Option Blk)}{i:Nat}(hil:i<bl.length){S:Slots}{o:Oper}{val:Nat->AVal}{b:Blk}(hb:bl.getD i none=some b)(hg:o.guard=none)
 (hlay:∀{w:World} {fi:PMap} {g:AHeap} {a:Act} {next:Act->World->Prop} {Q:Exit->Act->World->Prop},HRel wz fi g w->SRel fi n (S.keep (QS l o)) a->g (N+i)=none->fi (N+i)=none->
   (∀p v w',HRel wz (fi.upd (N+i) p) (g.set (N+i) b) w'->VR (fi.upd (N+i) p) (val (N+i)) v->next (a.put o.dst v) w')->o.wp P a w next Q):HeadStep P wz n hZ l N bl S i o (val (N+i)):=by
 intro listed Ps w a next Q hl hsz hh hs hn;have hw:Region.wanted o (yielded l.toArray a.tmps)=true:=by simp[Region.wanted,hg]
 rw[if_pos hw];have hφ:=hh.2 i hil hl;refine hlay hh.1 hs (by simp only[gOf];rw[if_pos (by omega),show N+i-N=i by omega,hl];rfl) hφ fun p v w' h1 h2=>?_;refine hn _ v w' (PMap.le_upd hφ p) ⟨by rw[<-qzI hb hsz];exact h1,fun j hj hl'=>?_⟩ h2;have e:j≠i:=fun e=>by subst e;rw[set_self hsz]at hl';cases hl'
 rw[XG e]at hl';have:=hh.2 j hj hl';simp only[JL];rw[if_neg (by omega)];exact this
theorem HeadStep.one{l:List Oper}(hall:Xl n l=true){N:Nat}(hN:∀j,N<=j->hZ j=none){bl:List (Option Blk)}{H:AHeap}{i:Nat}(hH:∀k b,H k=some b->k<N/\hZ k=some b\/N<=k/\k-N<bl.length/\bl.getD (k-N) none=some b)(hb:bl.getD i none=none){S:Slots}{o:Oper}{V:AVal}(hg:o.guard=none)
 (hstep:qfa P wz hZ H (S.keep (QS l o)) o.op V):HeadStep P wz n hZ l N bl S i o V:=by
 intro listed Ps w a next Q _ _ hh hs hn;have hw:Region.wanted o (yielded l.toArray a.tmps)=true:=by simp[Region.wanted,hg]
 rw[if_pos hw];exact HeadStep.of_step hall hN hH hb hstep hh hs hn
theorem HeadStep.guarded{l:List Oper}(hall:Xl n l=true){N:Nat}(hN:∀j,N<=j->hZ j=none){bl:List (Option Blk)}{H:AHeap}{i:Nat}(hH:∀k b,H k=some b->k<N/\hZ k=some b\/N<=k/\k-N<bl.length/\bl.getD (k-N) none=some b)(hb:bl.getD i none=none){S:Slots}{o:Oper}{V:AVal}{j d:Nat}{want:Bool}(hg:o.guard=some (j,want))(hj:qM l j=some d)(hk:Wu (S.get d)=true)
 (hstep:Xk (S.get d) want=true->qfa P wz hZ H (S.keep (QS l o)) o.op V):HeadStep P wz n hZ l N bl S i o (QK (Xk (S.get d) want) V):=by
 intro listed Ps w a next Q _ _ hh hs hn;have hd:(S.keep (QS l o)).get d=S.get d:=by
  rw[JR,if_pos];simp[QS,hg,hj]
 have hw:Region.wanted o (yielded l.toArray a.tmps)=Xk (S.get d) want:=by
  have:=qfz hs l j d hj (qbT l j d hall hj) (by rw[hd];exact hk) want;rw[hd]at this;simp only[Region.wanted,hg];exact this
 cases hb':Xk (S.get d) want with
 |true=>
  rw[hw,hb',if_pos rfl];rw[hb']at hn;exact HeadStep.of_step hall hN hH hb (hstep hb') hh hs hn
 |false=>
  rw[hw,hb',if_neg (by decide)];rw[hb']at hn;exact hn Ps undef w Ps.le_refl (hh.quiet hb) (WI Ps)
theorem HeadStep.never{l:List Oper}{N:Nat}{bl:List (Option Blk)}{i:Nat}(hb:bl.getD i none=none){S:Slots}{o:Oper}{j:Nat}{want:Bool}(hg:o.guard=some (j,want))(hj:qM l j=none):HeadStep P wz n hZ l N bl S i o (.tuple []):=by
 intro listed Ps w a next Q _ _ hh hs hn;have hd:(l.toArray[j]?).bind (·.dst)=none:=by rw[<-hj,Yv];simp
 have hw:Region.wanted o (yielded l.toArray a.tmps)=false:=by
  simp only[Region.wanted,hg,yielded,hd];rfl
 rw[if_neg (by rw[hw];decide)];exact hn Ps undef w Ps.le_refl (hh.quiet hb) (WI Ps)
theorem qBp{N:Nat}(hN:∀j,N<=j->hZ j=none)(A B:List (Option Blk)):∀k b,(gOf hZ N A fun _=>true) k=some b->k<N/\hZ k=some b\/N<=k/\k-N<(A++B).length/\(A++B).getD (k-N) none=some b:=by
 intro k b h;simp only[gOf]at h;by_cases c:N<=k
 ·rw[if_pos c]at h
  simp only[cond_true]at h;right;have hlt:k-N<A.length:=by
   refine JP fun hge=>?_;simp[Ko,Kr hge]at h
  refine⟨c,by simp;omega,?_⟩;simpa[Ko,Jb,hlt]using h
 ·rw[if_neg c]at h
  exact .inl ⟨by omega,h⟩
theorem qBo{N:Nat}(hN:∀j,N<=j->hZ j=none){C:List (Option Blk)}{k:Nat}{b:Blk}(h:k<N/\hZ k=some b\/N<=k/\k-N<C.length/\C.getD (k-N) none=some b):(gOf hZ N C fun _=>true) k=some b:=by
 simp only[gOf,cond_true];rcases h with⟨c,e⟩|⟨c,_,e⟩
 ·rw[if_neg (by omega)];exact e
 ·rw[if_pos c];exact e
theorem qwJ{N:Nat}(A:List (Option Blk))(b:Blk):(gOf hZ N A fun _=>true).set (N+A.length) b=gOf hZ N (A++[some b]) fun _=>true:=by
 funext k;simp only[gOf,AHeap.set,cond_true];by_cases e:k=N+A.length
 ·subst e
  rw[if_pos rfl,if_pos (by omega),show N+A.length-N=A.length by omega];simp[Ko]
 ·rw[if_neg e]
  by_cases c:N<=k
  ·rw[if_pos c,if_pos c]
   rcases KU (k-N) A.length with c2|c2
   ·simp[Ko,Jb,c2]
   ·have h1:A[k-N]?=none:=Kr c2
    have h2:(A++[some b])[k-N]?=none:=Kr (by simp;omega);simp[Ko,h1,h2]
  ·rw[if_neg c,if_neg c]
theorem qlj{N:Nat}(A:List (Option Blk)):(gOf hZ N A fun _=>true)=gOf hZ N (A++[none]) fun _=>true:=by
 funext k;simp only[gOf,cond_true];by_cases c:N<=k
 ·rw[if_pos c,if_pos c]
  rcases Nat.lt_trichotomy (k-N) A.length with c2|c2|c2
  ·simp[Ko,Jb,c2]
  ·have h1:A[k-N]?=none:=Kr (by omega)
   simp[Ko,c2]
  ·have h1:A[k-N]?=none:=Kr (by omega)
   have h2:(A++[none])[k-N]?=none:=Kr (by simp;omega);simp[Ko,h1,h2]
 ·rw[if_neg c,if_neg c]
theorem qlm{l:List Oper}(hall:Xl n l=true){N:Nat}(hN:∀j,N<=j->hZ j=none)(hNt:∀i,i<l.length->UM (N+i)=none)(tl:List Oper){s:Slots}{K:Slots->AHeap->Prop}:∀(rest pre:List Oper) (A:List AVal) (B:List (Option Blk)),l=pre++rest++tl->A.length=pre.length->B.length=pre.length->
 Yj P wz l hZ rest (Xz s l A pre.length) (gOf hZ N B fun _=>true) K->
 ∃A' B',A'.length=rest.length/\B'.length=rest.length/\
  (∀i o,pre.length<=i->i<pre.length+rest.length->l[i]?=some o->
    (B++B').length=pre.length+rest.length/\HeadStep P wz n hZ l N (B++B') (Xz s l (A++A') i) i o ((A++A').getD i .dead)/\(ZW P o.op=2->(B++B').getD i none=none/\(o.guard=none->∃H,(∀j b,H j=some b->(gOf hZ N (B++B') fun _=>true) j=some b)/\(pop P wz H ((Xz s l (A++A') i).keep (QS l o)) o.op).pre/\(A++A').getD i .dead=(pop P wz H ((Xz s l (A++A') i).keep (QS l o)) o.op).val)))/\
  K (Xz s l (A++A') (pre.length+rest.length)) (gOf hZ N (B++B') fun _=>true)
 |[],pre,A,B,hl,hA,hB,hv=>⟨[],[],rfl,rfl,fun i o h1 h2 _=>by simp at h2;omega,by simpa[Yj]using hv⟩
 |o::rest,pre,A,B,hl,hA,hB,hv=>by
  have hat:l[pre.length]?=some o:=by rw[hl];simp
  have hAt:∀V A',(A++V::A').getD pre.length .dead=V:=fun V A'=>by simp[Ko,<-hA]
  have hBt:∀b B',(B++b::B').getD pre.length none=b:=fun b B'=>by simp[Ko,<-hB]
  have hS:∀V,Xz s l (A++[V]) (pre++[o]).length=putD (Xz s l A pre.length) o.dst V:=fun V=>by
   rw[Jc,JS,Xz,hat];simp only;rw[qaS s l A [V] _ (by omega)];congr 1;simp[Ko,<-hA]
  have go:∀(V:AVal) (b:Option Blk),(∀(A':List AVal) (B':List (Option Blk)),(B++b::B').length=pre.length+(o::rest).length->HeadStep P wz n hZ l N (B++b::B') (Xz s l A pre.length) pre.length o V)->
   (ZW P o.op=2->b=none/\(o.guard=none->∃H,(∀B' j b',H j=some b'->(gOf hZ N (B++b::B') fun _=>true) j=some b')/\(pop P wz H ((Xz s l A pre.length).keep (QS l o)) o.op).pre/\V=(pop P wz H ((Xz s l A pre.length).keep (QS l o)) o.op).val))->
   Yj P wz l hZ rest (putD (Xz s l A pre.length) o.dst V) (gOf hZ N (B++[b]) fun _=>true) K->
   ∃A' B',A'.length=(o::rest).length/\B'.length=(o::rest).length/\
    (∀i o',pre.length<=i->i<pre.length+(o::rest).length->l[i]?=some o'->
      (B++B').length=pre.length+(o::rest).length/\HeadStep P wz n hZ l N (B++B') (Xz s l (A++A') i) i o' ((A++A').getD i .dead)/\(ZW P o'.op=2->(B++B').getD i none=none/\(o'.guard=none->∃H,(∀j b,H j=some b->(gOf hZ N (B++B') fun _=>true) j=some b)/\(pop P wz H ((Xz s l (A++A') i).keep (QS l o')) o'.op).pre/\(A++A').getD i .dead=(pop P wz H ((Xz s l (A++A') i).keep (QS l o')) o'.op).val)))/\
    K (Xz s l (A++A') (pre.length+(o::rest).length)) (gOf hZ N (B++B') fun _=>true):=by
   intro V b hst hpo hv';obtain⟨A',B',h1,h2,h3,h4⟩:=qlm hall hN hNt tl rest (pre++[o]) (A++[V]) (B++[b]) (by simp[hl]) (by simp[hA]) (by simp[hB]) (by rw[hS];exact hv');have hlen:(B++b::B').length=pre.length+(o::rest).length:=by simp[hB,h2]
   refine⟨V::A',b::B',by simp[h1],by simp[h2],fun i o' hi hi' ho'=>?_,?_⟩
   ·rcases JC hi with e'|e'
    ·subst e'
     rw[hat]at ho';obtain rfl:=Option.some.inj ho';rw[qaS s l A (V::A') _ (by omega),hAt];rw[hBt];exact⟨hlen,hst A' B' hlen,fun e=>⟨(hpo e).1,fun e'=>(hpo e).2 e' |>.elim fun H ⟨q0,q1⟩=>⟨H,q0 B',q1⟩⟩⟩
    ·have:=h3 i o' (by simp;omega) (by simp at hi'|-;omega) ho'
     refine⟨hlen,?_⟩;simpa using this.2
   ·have e:pre.length+(o::rest).length=(pre++[o]).length+rest.length:=by simp;omega
    rw[e];simpa using h4
  simp only[Yj]at hv;split at hv
  ·rename_i hk
   obtain⟨hg,he⟩:=hv;obtain⟨val,b,hc,hlay⟩:=qBl hk he;have hfree:(gOf hZ N B fun _=>true) (N+B.length)=none:=by
    simp only[gOf];rw[if_pos (by omega),show N+B.length-N=B.length by omega];simp[Ko]
   have hc':=hc (N+B.length) hfree;rw[qwJ]at hc';refine go (val (N+B.length)) (some b) (fun A' B' hlen=>?_) (fun e=>by rw[hk]at e;cases e) hc';rw[hB];exact HeadStep.lay (by rw[hlen];simp) (hBt _ _) hg fun h1 h2 h3 h4 h5=>hlay (N+pre.length) o rfl h1 h2 h3 h4 (hNt _ (by rw[hl];simp)) h5
  ·rename_i hk
   have hH:=fun b B'=>qBp (hZ:=hZ) hN B (b::B');split at hv
   ·rename_i hg
    obtain⟨V,h1,h2⟩:=hv;rw[qlj]at h2;refine go V none (fun A' B' _=>HeadStep.one hall hN (hH none B') (hBt _ _) hg h1) (fun e=>⟨rfl,fun _=>?_⟩) h2;unfold qfa at h1;rw[if_pos e]at h1;exact⟨_,fun B' j b' hb'=>qBo hN (hH none B' j b' hb'),h1⟩
   ·rename_i j want hg
    split at hv
    ·rename_i hj
     rw[qlj]at hv;exact go _ none (fun A' B' _=>HeadStep.never (hBt _ _) hg hj) (fun _=>⟨rfl,fun e=>by rw[hg]at e;cases e⟩) hv
    ·rename_i d hj
     obtain⟨hk',V,h1,h2⟩:=hv;rw[qlj]at h2;exact go _ none (fun A' B' _=>HeadStep.guarded hall hN (hH none B') (hBt _ _) hg hj hk' h1) (fun _=>⟨rfl,fun e=>by rw[hg]at e;cases e⟩) h2
def qhS(P:Program):Op->Bool
 | .load _ _=>false
 | .convert _ _ _=>false
 | .lookup _ _ _ _=>false
 | .call c=>match c.callee,c.argTypes[0]? with
   | .builtin .len,some t=> !qaB P t
   |_,_=>true
 |_=>true
def isLoad:Op->Bool
 | .load _ _=>true
 |_=>false
def qdk(l:List Oper)(ks:List Nat)(s:Slots):List Nat->Prop
 |[]=>True
 |i::r=>(match l[i]? with
   |some o=>(match o.op with
    | .load _ x=>(match ev s x with
      | .ptr (.own k) _=>k∈ks
      | .ptr (.base _) _=>True
      |_=>False)
    |_=>True)
   |none=>True)/\qdk l ks s r
theorem qle{l:List Oper}{ks:List Nat}{s:Slots}:∀{late:List Nat},qdk l ks s late->∀i∈late,∀o t x,l[i]?=some o->o.op= .load t x->(∃k p,ev s x= .ptr (.own k) p/\k∈ks)\/∃b p,ev s x= .ptr (.base b) p
 |j::r,h,i,hi,o,t,x,ho,hop=>by
  simp only[qdk]at h;rcases KX.1 hi with e|e
  ·subst e
   have h1:=h.1;simp only[ho,hop]at h1;split at h1
   ·rename_i k p hv;exact .inl ⟨k,p,hv,h1⟩
   ·rename_i b p hv;exact .inr ⟨b,p,hv⟩
   ·exact h1.elim
  ·exact qle h.2 i e o t x ho hop
def qfv(P:Program)(wz:World)(ks:List Nat):List Oper->Slots->AHeap->(Slots->AHeap->Prop)->Prop
 |[],s,h,K=>K s h
 |o::rest,s,h,K=>o.guard=none/\eop P wz h s o.op fun x h'=>(∀k∈ks,h' k=h k)/\qfv P wz ks rest (putD s o.dst x) h' K
theorem qhO{ops:List Oper}{K:Slots->AHeap->Prop}:∀{l:List Oper} {s:Slots} {h:AHeap},(∀o∈l,o.guard=none)->QO P wz ops l s h K->qfv P wz [] l s h K
 |[],_,_,_,ha=>ha
 |o::r,s,h,hg,ha=>by
  have h0:=hg o Jf;simp only[QO,h0]at ha;exact⟨h0,qcK ha fun x h' hx=>⟨fun k hk=>(by cases hk),qhO (fun o ho=>hg o (Jg _ ho)) hx⟩⟩
theorem qmN{ks:List Nat}{K K':Slots->AHeap->Prop}(hk:∀s h,K s h->K' s h):∀{l:List Oper} {s:Slots} {h:AHeap},qfv P wz ks l s h K->qfv P wz ks l s h K'
 |[],_,_,ha=>hk _ _ ha
 |o::r,s,h,ha=>⟨ha.1,qcK ha.2 fun x h' hx=>⟨hx.1,qmN hk hx.2⟩⟩
theorem quw{H g:AHeap}{S:Slots}{t:TypeId}{x:Operand}(hx:(∃k p,ev S x= .ptr (.own k) p/\∀b,H k=some b->g k=some b)\/∃b p,ev S x= .ptr (.base b) p)(hp:(pop P wz H S (.load t x)).pre):pop P wz g S (.load t x)=pop P wz H S (.load t x):=by
 simp only[pop]at hp|-
 rcases hx with⟨k,p,hv,hg⟩|⟨b,p,hv⟩
 ·rw[hv]at hp|-
  have up:∀(n o:Nat),allLive (qf wz H (.own k) o n)=true->qf wz g (.own k) o n=qf wz H (.own k) o n:=by
   intro n;induction n with
   |zero=>intro o _;rfl
   |succ n ih=>
    intro o ha;simp only[qf,allLive,Ky]at ha|-
    rw[ih (o+1) ha.2];congr 1;have h1:=ha.1;simp only[rd]at h1|-
    cases hH:H k with
    |none=>simp[hH,JO]at h1
    |some b=>simp[hg b hH]
  simp only[WA]at hp|-
  split at hp
  ·rw[up _ _ hp]
  ·have:=up 1 p (by simp only[qf,allLive,JU];exact hp)
   simp only[qf,List.cons.injEq,and_true]at this;rw[this]
  ·exact hp.elim
 ·rw[hv]at hp|-
  have same:∀(n o:Nat),qf wz g (.base b) o n=qf wz H (.base b) o n:=by
   intro n;induction n with
   |zero=>intro o;rfl
   |succ n ih=>intro o;simp only[qf];rw[ih];rfl
  simp only[WA,same];rfl
theorem qnJ{g H:AHeap}{S:Slots}{op:Op}(h:qhS P op=true):pop P wz g S op=pop P wz H S op:=by
 cases op<;>first
  |rfl
  |(cases h;done)
  |skip
 case call c=>
  obtain⟨callee,args,ts⟩:=c;cases callee with
  |builtin b=>
   show WC P g b ts (evs S args.toList)=WC P H b ts (evs S args.toList)
   by_cases hb:b= .len
   ·subst hb
    refine qhG _ _ fun t x hq hxs=>?_;simp only[qhS,hq,Jj]at h;simp only[YN,h,cond_false]
   ·exact qfp hb _ _
  |_=>rfl
def qiM(P:Program)(l:List Oper)(k:Nat)(late:List Nat):Bool:=
 Uo l && decide (k<=l.length) && (late.all fun i=>decide (i<k)) &&
 ((KP k).all fun i=>if late.contains i then(match l[i]? with|some o=>o.guard.isNone && (qhS P o.op||isLoad o.op) && (ZW P o.op==2) && (KP k).all (fun j=>decide (j<=i)||match l[j]? with|some oj=>(match oj.dst with|some t=> !(QS l o).contains t|none=>true)|none=>true)|none=>true)
   else decide (k=l.length)||(KP (k+1)).any fun j=>decide (i<j) && !late.contains j && Region.waitsFor .any l.toArray j i) &&
 ((KP l.length).all fun t=>decide (t<k)||((match l[t]? with|some o=>o.guard.isNone|none=>true) && (decide (t=k)||Region.waitsFor .any l.toArray t (t-1))))
structure FloatS(P:Program)(l:List Oper)(k:Nat)(late:List Nat):Prop where
 order:Uo l=true
 kle:k<=l.length
 latek:∀i,late.contains i=true->i<k
 lateo:∀i o,late.contains i=true->l[i]?=some o->o.guard=none/\(qhS P o.op=true\/isLoad o.op=true)/\ZW P o.op=2
 latew:∀i o,late.contains i=true->l[i]?=some o->∀j oj t,i<j->j<k->l[j]?=some oj->oj.dst=some t->t∉QS l o
 sink:∀i,i<k->late.contains i=false->k<l.length->∃j,i<j/\j<=k/\late.contains j=false/\Region.waitsFor .any l.toArray j i=true
 tailg:∀t o,k<=t->l[t]?=some o->o.guard=none
 chain:∀t,k<t->t<l.length->Region.waitsFor .any l.toArray t (t-1)=true
theorem qjA{l:List Oper}{k:Nat}{late:List Nat}(h:qiM P l k late=true):FloatS P l k late:=by
 unfold qiM at h;simp only[Ky,decide_eq_true_eq,JD,JE]at h;obtain⟨⟨⟨⟨h1,h2⟩,h3⟩,h4⟩,h5⟩:=h;have hlk:∀i,late.contains i=true->i<k:=fun i hi=>by
  have:=h3 i (by simpa using hi);simpa using this
 refine⟨h1,h2,hlk,fun i o hi ho=>?_,fun i o hi ho j oj t hij hjk hj hd=>?_,fun i hi hl hk=>?_,fun t o ht ho=>?_,fun t ht htl=>?_⟩
 ·have:=h4 i (hlk i hi)
  rw[if_pos hi,ho]at this;simp only[Ky,beq_iff_eq,JV,JW]at this;exact⟨this.1.1.1,this.1.1.2,this.1.2⟩
 ·have:=h4 i (hlk i hi)
  rw[if_pos hi,ho]at this;simp only[Ky,JD,JE]at this;have h6:=this.2 j hjk;rw[hj]at h6;simp only[hd,JW,decide_eq_true_eq,Jj]at h6;rcases h6 with e|e
  ·omega
  ·intro hm
   rw[<-JX]at hm;rw[hm]at e;cases e
 ·have:=h4 i hi
  rw[if_neg (by rw[hl];decide)]at this;simp only[JW,decide_eq_true_eq]at this;rcases this with e|e
  ·omega
  ·rw[JY]at e
   obtain⟨j,hj,e⟩:=e;simp only[Ky,decide_eq_true_eq,Jj]at e;rw[JE]at hj;exact⟨j,e.1.1,by omega,e.1.2,e.2⟩
 ·have hlt:=(JB.1 ho).1
  have:=h5 t hlt;rw[ho]at this;simp only[JW,decide_eq_true_eq,Ky,JV]at this;rcases this with e|e
  ·omega
  ·exact e.1
 ·have:=h5 t htl
  simp only[JW,decide_eq_true_eq,Ky]at this;rcases this with e|⟨_,e|e⟩
  ·omega
  ·omega
  ·exact e
structure InvF(l:List Oper)(k:Nat)(Vs:List AVal)(s:Slots)(Ps:PMap)(n:FrameK)(listed:Array Bool)(a:Act):Prop where
 size:listed.size=l.length
 closed:∀j oj,l[j]?=some oj->listed.getD j false=true->∀e∈oj.after,Region.binds .any e=true->listed.getD e.on false=true
 tsize:a.tmps.size=n
 defers:a.defers=n.dfr
 done:∀t j oj,j<k->l[j]?=some oj->oj.dst=some t->listed.getD j false=true->VR Ps (Vs.getD j .dead) (a.tmps.getD t undef)
 still:∀t,(∀j oj,l[j]?=some oj->oj.dst=some t->listed.getD j false=false)->VR Ps (s.get t) (a.tmps.getD t undef)
theorem Zo(a:Act){d:Option Tmp}{v:Value}{t:Nat}(hne:d≠some t):(a.put d v).tmps.getD t undef=a.tmps.getD t undef:=qpb a d v hne
theorem Yg(a:Act){d:Option Tmp}{v:Value}{t:Nat}(hd:d=some t)(ht:t<a.tmps.size):(a.put d v).tmps.getD t undef=v:=by rw[hd];simp[Act.put,ht]
theorem WZ(a:Act)(d:Option Tmp)(v:Value):(a.put d v).tmps.size=a.tmps.size:=by cases d<;>simp[Act.put]
theorem put_defers(a:Act)(d:Option Tmp)(v:Value):(a.put d v).defers=a.defers:=by cases d<;>simp[Act.put]
theorem InvF.looks{l:List Oper}{k:Nat}(hB:Uo l=true){Vs:List AVal}{s:Slots}{Ps:PMap}{listed:Array Bool}{a:Act}(inv:InvF l k Vs s Ps n listed a){i:Nat}(hik:i<k){o:Oper}(hol:l[i]?=some o)(hif:listed.getD i false=false)
 (hedges:∀e∈o.after,Region.binds .any e=true->listed.getD e.on false=true):SRel Ps n ((Xz s l Vs i).keep (QS l o)) a:=by
 have hilt:i<l.length:=(JB.1 hol).1;have spec:=XP hB hol;refine⟨inv.tsize,inv.defers,fun t=>?_⟩;rw[JR];by_cases ht:(QS l o).contains t=true
 ·rw[if_pos ht]
  have ht':t∈QS l o:=by simpa using ht
  by_cases hw:∃(j:Nat) (oj:Oper),l[j]?=some oj/\oj.dst=some t
  ·obtain⟨j,oj,hj,hd⟩:=hw
   rcases(spec.2 j oj t hj hd).2 ht' with⟨c1,c2⟩|⟨c1,c2⟩
   ·rw[UR hB s Vs hj hd i c1 (by omega)]
    refine inv.done t j oj (by omega) hj hd ?_;obtain⟨oi,g1,e,g2,g3,g4⟩:=Region.waitsFor_spec c2;have g1':l[i]?=some oi:=by simpa using g1
    rw[hol]at g1';obtain rfl:=Option.some.inj g1';rw[<-g4];exact hedges e g2 g3
   ·rw[Um s Vs i fun j' oj' hj'' hj' hd'=>by
     have:=((XP hB hj').2 j oj t hj hd).1 hd';omega]
    refine inv.still t fun j' oj' hj' hd'=>?_;have e:=((XP hB hj').2 j oj t hj hd).1 hd';subst e;cases hl:listed.getD j' false with
    |false=>rfl
    |true=>
     exfalso;obtain⟨oi,g1,e,g2,g3,g4⟩:=Region.waitsFor_spec c2;have g1':l[j']?=some oi:=by simpa using g1
     have:=inv.closed j' oi g1' hl e g2 g3;rw[g4,hif]at this;cases this
  ·rw[Um s Vs i fun j oj _ hj hd=>hw ⟨j,oj,hj,hd⟩]
   exact inv.still t fun j oj hj hd=>absurd ⟨j,oj,hj,hd⟩ hw
 ·rw[if_neg ht]
  trivial
theorem InvF.next{l:List Oper}{k:Nat}(hall:Xl n l=true)(hB:Uo l=true){Vs:List AVal}{s:Slots}{Ps ψ':PMap}(hle:Ps.le ψ'){listed:Array Bool}{a:Act}(inv:InvF l k Vs s Ps n listed a){i:Nat}{o:Oper}(hol:l[i]?=some o)
 (hedges:∀e∈o.after,Region.binds .any e=true->listed.getD e.on false=true) {v:Value} (hv:i<k->VR ψ' (Vs.getD i .dead) v):InvF l k Vs s ψ' n (listed.setIfInBounds i true) (a.put o.dst v):=by
 have hilt:i<l.length:=(JB.1 hol).1;have hisz:i<listed.size:=by rw[inv.size];exact hilt
 have spec:=XP hB hol;have hdn:∀d,o.dst=some d->d<n:=fun d hd=>qbT l i d hall (by rw[Yv,hol];exact hd);refine⟨by simp[inv.size],fun j oj hj hl e he hb=>?_,by rw[WZ];exact inv.tsize,by rw[put_defers];exact inv.defers,fun t j oj hjk hj hd hl=>?_,fun t hun=>?_⟩
 ·by_cases e1:e.on=i
  ·rw[e1];exact set_self hisz
  ·rw[XG e1]
   by_cases e2:j=i
   ·subst e2
    rw[hol]at hj;obtain rfl:=Option.some.inj hj;exact hedges e he hb
   ·rw[XG e2]at hl
    exact inv.closed j oj hj hl e he hb
 ·by_cases e:j=i
  ·subst e
   rw[hol]at hj;obtain rfl:=Option.some.inj hj;rw[Yg a hd (by rw[inv.tsize];exact hdn t hd)];exact hv hjk
  ·rw[XG e]at hl
   rw[Zo a fun hod=>e (((spec.2 j oj t hj hd).1 hod).symm)];exact Ye hle _ _ (inv.done t j oj hjk hj hd hl)
 ·have hne:o.dst≠some t:=fun hod=>by
   have:=hun i o hol hod;rw[set_self hisz]at this;cases this
  rw[Zo a hne];refine Ye hle _ _ (inv.still t fun j oj hj hd=>?_);have e:j≠i:=fun e=>by subst e;rw[hol]at hj;obtain rfl:=Option.some.inj hj;exact hne hd
  have:=hun j oj hj hd
  rwa [XG e]at this
def qma(P:Program)(wz:World)(l:List Oper)(k:Nat)(late ks:List Nat)(hf:AHeap)(Vs:List AVal)(K:Slots->AHeap->Prop)(listed:Array Bool)(Ps:PMap)(a:Act)(w:World):Prop:=
 ∃p S g,k<=p/\p<=l.length/\(∀t,k<=t->t<l.length->(listed.getD t false=true↔t<p))/\(∀i,i<k->late.contains i=false->listed.getD i false=true)/\HRel wz Ps g w/\qfv P wz ks (l.drop p) S g K/\(∀j∈ks,g j=hf j)/\
  (∀i oi t,i<k->l[i]?=some oi->oi.dst=some t->S.get t=Vs.getD i .dead)/\
  ∀t,(∃i oi,i<k/\l[i]?=some oi/\oi.dst=some t/\listed.getD i false=false)\/VR Ps (S.get t) (a.tmps.getD t undef)
def qsV(wz:World)(hZ:AHeap)(l:List Oper)(k N:Nat)(bl:List (Option Blk))(listed:Array Bool)(Ps:PMap)(w:World):Prop:=
 (∀t,k<=t->t<l.length->listed.getD t false=false)/\HH wz hZ N bl listed Ps w
theorem quD{l:List Oper}{k:Nat}{late:List Nat}(F:FloatS P l k late){Vs:List AVal}{s:Slots}{Ps:PMap}{listed:Array Bool}{a:Act}(inv:InvF l k Vs s Ps n listed a)(hkl:k<l.length)
 (hedges:∀o,l[k]?=some o->∀e∈o.after,Region.binds .any e=true->listed.getD e.on false=true):∀d i,i+d=k->i<k->late.contains i=false->listed.getD i false=true:=by
 intro d;induction d using Jw with
 |ind d ih=>
  intro i hd hik hl;obtain⟨j,h1,h2,h3,h4⟩:=F.sink i hik hl hkl;obtain⟨oj,g1,e,g2,g3,g4⟩:=Region.waitsFor_spec h4;have g1':l[j]?=some oj:=by simpa using g1
  rw[<-g4];rcases JC h2 with e'|e'
  ·subst e'
   exact hedges oj g1' e g2 g3
  ·exact inv.closed j oj g1' (ih (k-j) (by omega) j (by omega) e' h3) e g2 g3
theorem qAu{l:List Oper}{k:Nat}{late ks:List Nat}(hall:Xl n l=true)(F:FloatS P l k late){s:Slots}{Vs:List AVal}{N:Nat}{bl:List (Option Blk)}(hbl:bl.length=k)
 (hst:∀i o,i<k->l[i]?=some o->HeadStep P wz n hZ l N bl (Xz s l Vs i) i o (Vs.getD i .dead))
 (hlb:∀i,late.contains i=true->bl.getD i none=none)
 (hlo:qdk l ks (Xz s l Vs k) late)
 (hlate:∀i o,late.contains i=true->l[i]?=some o->∃H,(∀j b,H j=some b->(gOf hZ N bl fun _=>true) j=some b)/\(pop P wz H ((Xz s l Vs i).keep (QS l o)) o.op).pre/\Vs.getD i .dead=(pop P wz H ((Xz s l Vs i).keep (QS l o)) o.op).val)
 {K:Slots->AHeap->Prop} (hK:qfv P wz ks (l.drop k) (Xz s l Vs k) (gOf hZ N bl fun _=>true) K) {fi:PMap} {Q:Exit->Act->World->Prop}
 (hq:∀Ps S g a w,fi.le Ps->HRel wz Ps g w->SRel Ps n S a->K S g->Q .normal a w):∀(fuel:Nat) (listed:Array Bool) (a:Act) (w:World) (Ps:PMap),fi.le Ps->InvF l k Vs s Ps n listed a->
 (qsV wz hZ l k N bl listed Ps w\/qma P wz l k late ks (gOf hZ N bl fun _=>true) Vs K listed Ps a w)->(listed.toList.filter (!·)).length<=fuel->wpAny P .any l.toArray Q fuel listed a w:=by
 have hB:=F.order;have turn:∀(listed:Array Bool) (a:Act) (w:World) (Ps:PMap),InvF l k Vs s Ps n listed a->qsV wz hZ l k N bl listed Ps w->(∀i,i<k->late.contains i=false->listed.getD i false=true)->qma P wz l k late ks (gOf hZ N bl fun _=>true) Vs K listed Ps a w:=by
  intro listed a w Ps inv ⟨h1,h2,h3⟩ hd;have hS:∀i oi t,i<k->l[i]?=some oi->oi.dst=some t->(Xz s l Vs k).get t=Vs.getD i .dead:=fun i oi t hi ho hdt=>UR hB s Vs ho hdt k hi F.kle;refine⟨k,_,_,KL _,F.kle,fun t ht htl=>?_,hd,?_,hK,fun _ _=>rfl,hS,fun t=>?_⟩
  ·rw[h1 t ht htl]
   simp;omega
  ·have e:(gOf hZ N bl fun i=>listed.getD i false)=gOf hZ N bl fun _=>true:=by
    funext j;simp only[gOf,cond_true];by_cases c:N<=j
    ·rw[if_pos c,if_pos c]
     cases hl:listed.getD (j-N) false with
     |true=>rfl
     |false=>
      simp only[cond_false];cases hc:late.contains (j-N)with
      |true=>exact(hlb _ hc).symm
      |false=>
       by_cases c2:j-N<k
       ·rw[hd _ c2 hc]at hl;cases hl
       ·have:bl[j-N]?=none:=Kr (by omega)
        simp[Ko,this]
    ·rw[if_neg c,if_neg c]
   rw[<-e];exact h2
  ·by_cases hw:∃i oi,i<k/\l[i]?=some oi/\oi.dst=some t
   ·obtain⟨i,oi,c1,c2,c3⟩:=hw
    cases hl:listed.getD i false with
    |false=>exact .inl ⟨i,oi,c1,c2,c3,hl⟩
    |true=>
     right;rw[hS i oi t c1 c2 c3];exact inv.done t i oi c1 c2 c3 hl
   ·right
    rw[Um s Vs k fun j oj hj ho hd'=>hw ⟨j,oj,hj,ho,hd'⟩];refine inv.still t fun j oj ho hd'=>?_;rcases KU j k with c|c
    ·exact absurd ⟨j,oj,c,ho,hd'⟩ hw
    ·exact h1 j c (JB.1 ho).1
 have fin:∀(listed:Array Bool) (a:Act) (w:World) (Ps:PMap),fi.le Ps->InvF l k Vs s Ps n listed a->(qsV wz hZ l k N bl listed Ps w\/qma P wz l k late ks (gOf hZ N bl fun _=>true) Vs K listed Ps a w)->Region.ready .any l.toArray listed=[]->Q .normal a w:=by
  intro listed a w Ps hle inv hph hrd;have hal:=qaK hB inv.size hrd;have hT:qma P wz l k late ks (gOf hZ N bl fun _=>true) Vs K listed Ps a w:=by
   rcases hph with hph|hph
   ·exact turn listed a w Ps inv hph fun i hi _=>hal i (by have:=F.kle;omega)
   ·exact hph
  obtain⟨p,S,g,h1,h2,h3,h4,h5,h6,_,h7,h8⟩:=hT;have hp:p=l.length:=by
   rcases JC h2 with e|e
   ·exact e
   ·have:=(h3 p h1 e).1 (hal p e)
    omega
  subst hp;rw[JZ]at h6;refine hq Ps S g a w hle h5 ⟨inv.tsize,inv.defers,fun t=>?_⟩ h6;rcases h8 t with⟨i,oi,c1,c2,_,c4⟩|c
  ·rw[hal i (JB.1 c2).1]at c4;cases c4
  ·exact c
 intro fuel;induction fuel with
 |zero=>
  intro listed a w Ps hle inv hph hc;have hrd:Region.ready .any l.toArray listed=[]:=by
   cases hrd:Region.ready .any l.toArray listed with
   |nil=>rfl
   |cons i r=>
    exfalso;have hm:i∈Region.ready .any l.toArray listed:=by rw[hrd];exact Jf
    obtain⟨h1,o,ho,_⟩:=mem_ready.1 hm;have hi:i<listed.size:=by
     have:l[i]?=some o:=by simpa using ho
     rw[inv.size];exact(JB.1 this).1
    have h2:listed.toList[i]?=some false:=by
     simp[JF,hi]at h1;simp[hi,h1]
    have:=J2 h2;have hmem:false∈listed.toList.filter (!·):=by simp[J3,this]
    have:=J4 hmem;omega
  exact⟨hrd,fin listed a w Ps hle inv hph hrd⟩
 |succ fuel ih=>
  intro listed a w Ps hle inv hph hc;refine⟨fun hrd=>fin listed a w Ps hle inv hph hrd,fun i hi=>?_⟩;obtain⟨h1,o,ho,hedges⟩:=mem_ready.1 hi;have hol:l[i]?=some o:=by simpa using ho
  have hilt:i<l.length:=(JB.1 hol).1;have hisz:i<listed.size:=by rw[inv.size];exact hilt
  have hif:listed.getD i false=false:=by simp[JF,hisz]at h1|-;exact h1
  have hcount:((listed.setIfInBounds i true).toList.filter (!·)).length<=fuel:=by
   have h2:listed.toList[i]?=some false:=by
    simp[JF,hisz]at h1;simp[hisz,h1]
   have:=qaM listed.toList i h2;have e:(listed.setIfInBounds i true).toList=listed.toList.set i true:=by simp
   rw[e];omega
  have goal:(if Region.wanted o (yielded l.toArray a.tmps)=true then o.wp P a w (wpAny P .any l.toArray Q fuel (listed.setIfInBounds i true)) Q else wpAny P .any l.toArray Q fuel (listed.setIfInBounds i true) (a.put o.dst undef) w):=by
   have tailstep:∀(hT:qma P wz l k late ks (gOf hZ N bl fun _=>true) Vs K listed Ps a w),k<=i->(if Region.wanted o (yielded l.toArray a.tmps)=true then o.wp P a w (wpAny P .any l.toArray Q fuel (listed.setIfInBounds i true)) Q else wpAny P .any l.toArray Q fuel (listed.setIfInBounds i true) (a.put o.dst undef) w):=by
    rintro⟨p,S,g,t1,t2,t3,t4,t5,t6,tk,t7,t8⟩ hki;have hg:=F.tailg i o hki hol;have hw:Region.wanted o (yielded l.toArray a.tmps)=true:=by simp[Region.wanted,hg]
    rw[if_pos hw];have hpi:p<=i:=by
     refine Kt fun hlt=>?_;rw[(t3 i hki hilt).2 hlt]at hif;cases hif
    have hip:i=p:=by
     rcases JC hpi with e|e
     ·exact e.symm
     ·exfalso
      have hch:=F.chain i (by omega) hilt;obtain⟨oi,g1,e',g2,g3,g4⟩:=Region.waitsFor_spec hch;have g1':l[i]?=some oi:=by simpa using g1
      rw[hol]at g1';obtain rfl:=Option.some.inj g1';have h5:=hedges e' g2 g3;rw[g4]at h5;have:=(t3 (i-1) (by omega) (by omega)).1 h5;omega
    subst hip;have hdrop:l.drop i=o::l.drop (i+1):=by
     rw[J5 hilt];congr 1;exact(JB.1 hol).2
    rw[hdrop]at t6;have t6:=t6.2;have spec:=XP hB hol;have hlook:∀t,t∈QS l o->VR Ps (S.get t) (a.tmps.getD t undef):=by
     intro t ht;rcases t8 t with⟨j,oj,c1,c2,c3,c4⟩|c
     ·exfalso
      rcases(spec.2 j oj t c2 c3).2 ht with⟨d1,d2⟩|⟨d1,d2⟩
      ·obtain⟨oi,g1,e',g2,g3,g4⟩:=Region.waitsFor_spec d2
       have g1':l[i]?=some oi:=by simpa using g1
       rw[hol]at g1';obtain rfl:=Option.some.inj g1';have:=hedges e' g2 g3;rw[g4,c4]at this;cases this
      ·omega
     ·exact c
    have hs:SRel Ps n (S.keep (QS l o)) a:=by
     refine⟨inv.tsize,inv.defers,fun t=>?_⟩;rw[JR];by_cases ht:(QS l o).contains t=true
     ·rw[if_pos ht];exact hlook t (by simpa using ht)
     ·rw[if_neg ht];trivial
    have t6':=t6;rw[<-qdL (s':=S.keep (QS l o)) o.op (qfH fun t ht=>by unfold QS;exact J6 _ ht)]at t6';refine qiP o t6' t5 hs fun ψ' x h' v w' e1 e2 e3 ⟨ek,e4⟩=>?_;refine ih _ _ _ ψ' (J7 hle e1) (inv.next hall hB e1 hol hedges fun hik=>absurd hik (by omega)) (.inr ⟨i+1,_,h',by omega,by omega,fun t ht htl=>?_,fun j hj hl=>?_,e2,e4,fun j hj=>(ek j hj).trans (tk j hj),fun j oj t hj hoj hd=>?_,fun t=>?_⟩) hcount
    ·by_cases e:t=i
     ·subst e
      rw[set_self hisz];simp
     ·rw[XG e,t3 t ht htl]
      omega
    ·rw[XG (by omega)]
     exact t4 j hj hl
    ·rw[Xv,if_neg fun hod=>by have:=(spec.2 j oj t hoj hd).1 hod;omega]
     exact t7 j oj t hj hoj hd
    ·by_cases hod:o.dst=some t
     ·right
      rw[Xv,if_pos hod,Yg a hod (by rw[inv.tsize];exact qbT l i t hall (by rw[Yv,hol];exact hod))];exact e3
     ·rcases t8 t with⟨j,oj,c1,c2,c3,c4⟩|c
      ·exact .inl ⟨j,oj,c1,c2,c3,by rw[XG (by omega)];exact c4⟩
      ·right
       rw[Xv,if_neg hod,Zo a hod];exact Ye e1 _ _ c
   rcases hph with hH|hT
   ·rcases KU i k with hik|hki
    ·
     refine hst i o hik hol listed Ps w a _ Q hif hisz hH.2 (inv.looks hB hik hol hif hedges) fun ψ' v w' hle' hh' hv=>?_;exact ih _ _ _ ψ' (J7 hle hle') (inv.next hall hB hle' hol hedges fun _=>hv) (.inl ⟨fun t ht htl=>by rw[XG (by omega)];exact hH.1 t ht htl,hh'⟩) hcount
    ·have hik:i=k:=by
      rcases JC hki with e|e
      ·exact e.symm
      ·exfalso
       have hch:=F.chain i e hilt;obtain⟨oi,g1,e',g2,g3,g4⟩:=Region.waitsFor_spec hch;have g1':l[i]?=some oi:=by simpa using g1
       rw[hol]at g1';obtain rfl:=Option.some.inj g1';have h5:=hedges e' g2 g3;rw[g4,hH.1 (i-1) (by omega) (by omega)]at h5;cases h5
     refine tailstep (turn listed a w Ps inv hH fun j hj hl=>?_) hki;exact quD F inv (by omega) (fun o' ho'=>by
      subst hik;rw[hol]at ho';obtain rfl:=Option.some.inj ho';exact hedges) (k-j) j (by omega) hj hl
   ·rcases KU i k with hik|hki
    ·
     obtain⟨p,S,g,t1,t2,t3,t4,t5,t6,tk,t7,t8⟩:=hT;have hlt:late.contains i=true:=by
      cases hc:late.contains i with
      |true=>rfl
      |false=>rw[t4 i hik hc]at hif;cases hif
     obtain⟨hg,hhl,hkf⟩:=F.lateo i o hlt hol;have hw:Region.wanted o (yielded l.toArray a.tmps)=true:=by simp[Region.wanted,hg]
     rw[if_pos hw];obtain⟨H,q0,q1,q2⟩:=hlate i o hlt hol;have hs:=inv.looks hB hik hol hif hedges;have same:pop P wz g ((Xz s l Vs i).keep (QS l o)) o.op=pop P wz H ((Xz s l Vs i).keep (QS l o)) o.op:=by
      rcases hhl with hhl|hhl
      ·exact qnJ hhl
      ·cases hop:o.op with
       |load ty x=>
        rw[hop]at q1;refine quw ?_ q1;have hev:ev ((Xz s l Vs i).keep (QS l o)) x=ev (Xz s l Vs k) x:=by
         rw[ZR (XV (by rw[hop];simp[Op.operands]))];cases x with
         |tmp t=>
          have htl:t∈QS l o:=XV (x:= .tmp t) (by rw[hop];simp[Op.operands]) t rfl;simp only[ev];have noW:∀m,i<=m->m<=k->(Xz s l Vs m).get t=(Xz s l Vs i).get t:=by
           intro m;induction m with
           |zero=>intro h1 _;rw[Nat.le_zero.1 h1]
           |succ m ihm=>
            intro h1 h2;rcases JC h1 with e|e
            ·rw[e]
            ·rw[Xz]
             cases hm:l[m]? with
             |none=>exact ihm (by omega) (by omega)
             |some om=>
              simp only;rw[Xv,if_neg fun hd=>?_]
              ·exact ihm (by omega) (by omega)
              ·rcases JC (show i<=m by omega)with e'|e'
               ·subst e'
                rw[hol]at hm;obtain rfl:=Option.some.inj hm;rcases((XP hB hol).2 i o t hol hd).2 htl with⟨c,_⟩|⟨c,_⟩<;>omega
               ·exact F.latew i o hlt hol m om t e' (by omega) hm hd htl
          exact(noW k (by omega) (KL _)).symm
         |_=>rfl
        rcases qle hlo i (by simpa using hlt) o ty x hol hop with⟨j,pp,c1,c2⟩|⟨b,pp,c1⟩
        ·exact .inl ⟨j,pp,by rw[hev];exact c1,fun b hb=>by rw[tk j c2];exact q0 j b hb⟩
        ·exact .inr ⟨b,pp,by rw[hev];exact c1⟩
       |_=>rw[hop]at hhl;cases hhl
     rw[<-same]at q1 q2;obtain⟨r,e1,e2⟩:=qkJ o q1 t5 hs;rw[<-q2]at e2;refine Zg (e1 w (JQ w)) ?_;refine ih _ _ _ Ps hle (inv.next hall hB Ps.le_refl hol hedges fun _=>e2) (.inr ⟨p,S,g,t1,t2,fun t ht htl=>?_,fun j hj hl=>?_,t5,t6,tk,t7,fun t=>?_⟩) hcount
     ·rw[XG (by omega)];exact t3 t ht htl
     ·by_cases e:j=i
      ·subst e;exact set_self hisz
      ·rw[XG e];exact t4 j hj hl
     ·by_cases hod:o.dst=some t
      ·right
       rw[t7 i o t hik hol hod,Yg a hod (by rw[inv.tsize];exact qbT l i t hall (by rw[Yv,hol];exact hod))];exact e2
      ·rcases t8 t with⟨j,oj,c1,c2,c3,c4⟩|c
       ·refine .inl ⟨j,oj,c1,c2,c3,?_⟩
        have e:j≠i:=fun e=>by subst e;rw[hol]at c2;obtain rfl:=Option.some.inj c2;exact hod c3
        rw[XG e];exact c4
       ·right
        rw[Zo a hod];exact c
    ·exact tailstep hT hki
  simp only[wpOp,ho];split
  ·rename_i hw
   rw[if_pos hw]at goal;exact .inl goal
  ·rename_i hw
   rw[if_neg hw]at goal;exact goal
theorem qlM{Q:Exit->Slots->AHeap->Prop}{s:Slots}{h:AHeap}{id:Nat}{l:List Oper}(k:Nat)(late ks:List Nat)(hm:P.follows .mixedOrders=true)(hB:qiM P l k late=true)(hd:Xl n l=true)
 (hc:Yj P wz l h (l.take k) s h (fun s' h'=>qdk l ks s' late/\qfv P wz ks (l.drop k) s' h' fun s'' h''=>Q .normal s'' h'')):Awp P wz n (.region id l.toArray true) Q s h:=by
 refine J8 ?_;intro fi a w hr hs;have F:=qjA hB;obtain⟨N₀,hN₀⟩:=hr.fin;obtain⟨N,hN1,hNt⟩:=qoP N₀ l.length;have hNφ:∀j,N<=j->fi j=none:=fun j hj=>hN₀ j (Nat.le_trans hN1 hj);have hN:∀j,N<=j->h j=none:=fun j hj=>hr.free (hNφ j hj);have hg0:gOf h N [] (fun _=>true)=h:=by
  funext j;simp only[gOf,cond_true];by_cases c:N<=j
  ·rw[if_pos c,hN j c];rfl
  ·rw[if_neg c]
 have htl:(l.take k).length=k:=by have:=F.kle;simp;omega
 obtain⟨Vs,bl,g1,g2,g3,g4⟩:=qlm (P:=P) (wz:=wz) (n:=n) (hZ:=h) hd hN hNt (l.drop k) (s:=s) (l.take k) [] [] [] (by simp) rfl rfl (by rw[hg0];exact hc);simp only[Je,J9,Jt,true_implies,Js,htl]at g1 g2 g3 g4;refine wp_region_any hm ?_;have hf:∀j,(Jy l.toArray.size false).getD j false=false:=fun j=>by simp[JF]
 refine qAu (fi:=fi) hd F (s:=s) (Vs:=Vs) (N:=N) (bl:=bl) g2 (fun i o hi ho=>(g3 i o hi ho).2.1) (fun i hl=>?_) g4.1 (fun i o hl ho=>?_) g4.2 (fun Ps S g a' w' hle h1 h2 h3=>⟨Ps,S,g,hle,h1,h2,h3⟩) _ _ _ _ fi fi.le_refl
  ⟨by simp,fun j oj _ hl=>(by rw[hf]at hl;cases hl),hs.size,hs.defers,fun t j oj _ _ _ hl=>(by rw[hf]at hl;cases hl),fun t _=>hs.val t⟩ (.inl ⟨fun t _ _=>hf t,?_,fun i hi _=>hNφ _ (by omega)⟩) ?_
 ·obtain⟨o,ho⟩:∃o,l[i]?=some o:=⟨_,JA (by have:=F.latek i hl;have:=F.kle;omega)⟩
  obtain⟨_,_,q3⟩:=F.lateo i o hl ho;exact((g3 i o (F.latek i hl) ho).2.2 q3).1
 ·obtain⟨q1,q2,q3⟩:=F.lateo i o hl ho
  exact((g3 i o (F.latek i hl) ho).2.2 q3).2 q1
 ·have e:(gOf h N bl fun i=>(Jy l.toArray.size false).getD i false)=h:=by
   funext j;simp only[gOf,hf,cond_false];by_cases c:N<=j
   ·rw[if_pos c,hN j c]
   ·rw[if_neg c]
  rw[e];exact hr.drew
 ·have:=Va (!·) (Jy l.toArray.size false).toList
  simpa using this
theorem qhb{Q:Exit->Slots->AHeap->Prop}{s:Slots}{h:AHeap}{id:Nat}{l:List Oper}{y:Code}(k:Nat)(late ks L:List Nat)(hm:P.follows .mixedOrders=true)(hB:qiM P l k late=true)(hd:Xl n l=true)
 (hc:∀K:Slots->AHeap->Prop,(∀s h,Awp P wz n y Q s h->K s h)->Yj P wz l h (l.take k) s h (fun s' h'=>qdk l ks s' late/\qfv P wz ks (l.drop k) s' h' fun s'' h''=>K (s''.keep L) h'')):Awp P wz n (.seq (.region id l.toArray true) y) Q s h:=
 qJ (qlM k late ks hm hB hd (qbu (fun _ _ ha=>⟨ha.1,qmN (fun _ _ hk=>Vb L hk) ha.2⟩) (hc (fun s h=>Awp P wz n y Q s h) (fun _ _ hk=>hk))))
def qgi(l:List Oper)(late:List Nat):Bool:=late.all fun i=>match l[i]? with|some o=> !isLoad o.op|none=>true
theorem qeO{l:List Oper}{s:Slots}:∀{late:List Nat},qgi l late=true->qdk l [] s late
 |[],_=>trivial
 |i::r,h=>by
  unfold qgi at h;simp only[List.all_cons,Ky]at h;refine⟨?_,qeO h.2⟩;cases hi:l[i]? with
  |none=>trivial
  |some o=>
   simp only;have h1:=h.1;rw[hi]at h1;simp only[Jj]at h1;cases hop:o.op<;>first|trivial|(rw[hop]at h1;cases h1)
theorem qeD{Q:Exit->Slots->AHeap->Prop}{s:Slots}{h:AHeap}{id:Nat}{l:List Oper}(k:Nat)(late:List Nat)(hm:P.follows .mixedOrders=true)(hB:(qiM P l k late && qgi l late)=true)(hd:Xl n l=true)
 (hc:Yj P wz l h (l.take k) s h (fun s' h'=>QO P wz l (l.drop k) s' h' fun s'' h''=>Q .normal s'' h'')):Awp P wz n (.region id l.toArray true) Q s h:=by
 rw[Ky]at hB;have F:=qjA hB.1;refine qlM k late [] hm hB.1 hd (qbu (fun s' h' ha=>⟨qeO hB.2,qhO (fun o ho=>?_) ha⟩) hc);obtain⟨j,hj⟩:=List.getElem?_of_mem ho;rw[Kq]at hj;exact F.tailg (k+j) o (by omega) hj
theorem Wo{Q:Exit->Slots->AHeap->Prop}{s:Slots}{h:AHeap}{id:Nat}{l:List Oper}{y:Code}(k:Nat)(late L:List Nat)(hm:P.follows .mixedOrders=true)(hB:(qiM P l k late && qgi l late)=true)(hd:Xl n l=true)
 (hc:∀K:Slots->AHeap->Prop,(∀s h,Awp P wz n y Q s h->K s h)->Yj P wz l h (l.take k) s h (fun s' h'=>QO P wz l (l.drop k) s' h' fun s'' h''=>K (s''.keep L) h'')):Awp P wz n (.seq (.region id l.toArray true) y) Q s h:=
 qJ (qeD k late hm hB hd (qbu (fun _ _ ha=>awp_rseq.aOps_mono (fun _ _ hk=>Vb L hk) ha) (hc (fun s h=>Awp P wz n y Q s h) (fun _ _ hk=>hk))))
end
section
variable {P:Program} {wz:World} {ops rest:List Oper} {s:Slots} {h hZ:AHeap} {K:Slots->AHeap->Prop} {dst:Option Tmp} {ty:TypeId} {pos:String} {af:Array Edge}
theorem YK:Yj P wz ops hZ [] s h K=K s h:=rfl
theorem qeP{op:Op}(hk:ZW P op=2):Yj P wz ops hZ (⟨dst,op,ty,pos,af,none⟩::rest) s h K=((pop P wz h s op).pre/\Yj P wz ops hZ rest (putD s dst (pop P wz h s op).val) h K):=by
 have e:pop P wz h (s.keep (QS ops ⟨dst,op,ty,pos,af,none⟩)) op=pop P wz h s op:=qgd op (qfH fun t ht=>by unfold QS;exact J6 _ ht);have h0:¬ZW P op=0:=by omega
 simp only[Yj,if_neg h0,qfa,if_pos hk,e];exact propext ⟨fun⟨V,⟨h1,h2⟩,h3⟩=>⟨h1,h2 ▸ h3⟩,fun⟨h1,h2⟩=>⟨_,⟨h1,rfl⟩,h2⟩⟩
def fgP(P:Program)(wz:World)(ops rest:List Oper)(hZ:AHeap)(s:Slots)(h:AHeap)(K:Slots->AHeap->Prop)(dst:Option Tmp)(g:AVal)(want:Bool)(r:PR):Prop:=
 Wu g=true/\(Xk g want=true->r.pre)/\Yj P wz ops hZ rest (putD s dst (QK (Xk g want) r.val)) h K
def fgQ(P:Program)(wz:World)(ops rest:List Oper)(hZ:AHeap)(s:Slots)(h:AHeap)(K:Slots->AHeap->Prop)(dst:Option Tmp)(want:Bool)(r:PR):Option Tmp->Prop
 |none=>Yj P wz ops hZ rest (putD s dst (.tuple [])) h K
 |some d=>fgP P wz ops rest hZ s h K dst (s.get d) want r
theorem qwO{want:Bool}{r:PR}{d:Tmp}:fgQ P wz ops rest hZ s h K dst want r (some d)=fgP P wz ops rest hZ s h K dst (s.get d) want r:=rfl
theorem qAP{op:Op}{j:Nat}{want:Bool}(hk:ZW P op=2):Yj P wz ops hZ (⟨dst,op,ty,pos,af,some (j,want)⟩::rest) s h K=fgQ P wz ops rest hZ s h K dst want (pop P wz h s op) (qM ops j):=by
 have e:pop P wz h (s.keep (QS ops ⟨dst,op,ty,pos,af,some (j,want)⟩)) op=pop P wz h s op:=qgd op (qfH fun t ht=>by unfold QS;exact J6 _ ht);have h0:¬ZW P op=0:=by omega
 simp only[Yj,if_neg h0];cases qM ops j with
 |none=>rfl
 |some d=>
  simp only[fgQ,fgP,qfa,if_pos hk,e];refine propext ⟨fun⟨g0,V,g1,g2⟩=>?_,fun⟨g0,g1,g2⟩=>⟨g0,_,fun hg=>⟨g1 hg,rfl⟩,g2⟩⟩;cases hg:Xk (s.get d) want with
  |false=>
   rw[hg]at g2;exact⟨g0,fun e=>(by cases e),g2⟩
  |true=>
   obtain⟨c1,c2⟩:=g1 hg;subst c2;rw[hg]at g2;exact⟨g0,fun _=>c1,g2⟩
theorem Zd(x:Operand):Yj P wz ops hZ (⟨dst, .move x,ty,pos,af,none⟩::rest) s h K=((pop P wz h s (.move x)).pre/\Yj P wz ops hZ rest (putD s dst (pop P wz h s (.move x)).val) h K):=qeP (by rfl)
theorem qzL(x:Operand){j:Nat}{want:Bool}:Yj P wz ops hZ (⟨dst, .move x,ty,pos,af,some (j,want)⟩::rest) s h K=fgQ P wz ops rest hZ s h K dst want (pop P wz h s (.move x)) (qM ops j):=qAP (by rfl)
theorem qbs(x:Operand):Yj P wz ops hZ (⟨dst, .assign x,ty,pos,af,none⟩::rest) s h K=((pop P wz h s (.assign x)).pre/\Yj P wz ops hZ rest (putD s dst (pop P wz h s (.assign x)).val) h K):=qeP (by rfl)
theorem qzJ(c a b:Operand):Yj P wz ops hZ (⟨dst, .pick c a b,ty,pos,af,none⟩::rest) s h K=((pop P wz h s (.pick c a b)).pre/\Yj P wz ops hZ rest (putD s dst (pop P wz h s (.pick c a b)).val) h K):=qeP (by rfl)
theorem qfA(o:BinOp)(t:TypeId)(x y:Operand)(u:TypeId):Yj P wz ops hZ (⟨dst, .binOp o t x y u,ty,pos,af,none⟩::rest) s h K=((pop P wz h s (.binOp o t x y u)).pre/\Yj P wz ops hZ rest (putD s dst (pop P wz h s (.binOp o t x y u)).val) h K):=qeP (by rfl)
theorem qwN(o:BinOp)(t:TypeId)(x y:Operand)(u:TypeId){j:Nat}{want:Bool}:Yj P wz ops hZ (⟨dst, .binOp o t x y u,ty,pos,af,some (j,want)⟩::rest) s h K=fgQ P wz ops rest hZ s h K dst want (pop P wz h s (.binOp o t x y u)) (qM ops j):=qAP (by rfl)
theorem ZN(t:TypeId)(x:Operand):Yj P wz ops hZ (⟨dst, .load t x,ty,pos,af,none⟩::rest) s h K=((pop P wz h s (.load t x)).pre/\Yj P wz ops hZ rest (putD s dst (pop P wz h s (.load t x)).val) h K):=qeP (by rfl)
theorem Yd(t:TypeId)(x:Operand)(f:Nat):Yj P wz ops hZ (⟨dst, .fieldAddr t x f,ty,pos,af,none⟩::rest) s h K=((pop P wz h s (.fieldAddr t x f)).pre/\Yj P wz ops hZ rest (putD s dst (pop P wz h s (.fieldAddr t x f)).val) h K):=qeP (by rfl)
theorem qce(t:TypeId)(x i:Operand):Yj P wz ops hZ (⟨dst, .indexAddr t x i,ty,pos,af,none⟩::rest) s h K=((pop P wz h s (.indexAddr t x i)).pre/\Yj P wz ops hZ rest (putD s dst (pop P wz h s (.indexAddr t x i)).val) h K):=qeP (by rfl)
theorem qrW(x:Operand)(i:Nat):Yj P wz ops hZ (⟨dst, .extract x i,ty,pos,af,none⟩::rest) s h K=((pop P wz h s (.extract x i)).pre/\Yj P wz ops hZ rest (putD s dst (pop P wz h s (.extract x i)).val) h K):=qeP (by rfl)
theorem Uh(x:Operand):Yj P wz ops hZ (⟨dst, .nilCheck x,ty,pos,af,none⟩::rest) s h K=((pop P wz h s (.nilCheck x)).pre/\Yj P wz ops hZ rest (putD s dst (pop P wz h s (.nilCheck x)).val) h K):=qeP (by rfl)
theorem qwL(a:List Operand)(t:Array TypeId):Yj P wz ops hZ (⟨dst, .call ⟨.builtin .len,a.toArray,t⟩,ty,pos,af,none⟩::rest) s h K=((pop P wz h s (.call ⟨.builtin .len,a.toArray,t⟩)).pre/\Yj P wz ops hZ rest (putD s dst (pop P wz h s (.call ⟨.builtin .len,a.toArray,t⟩)).val) h K):=qeP (by rfl)
theorem qpz(t:TypeId)(x:Operand)(a b c:Option Operand):Yj P wz ops hZ (⟨dst, .slice t x a b c,ty,pos,af,none⟩::rest) s h K=((pop P wz h s (.slice t x a b c)).pre/\Yj P wz ops hZ rest (putD s dst (pop P wz h s (.slice t x a b c)).val) h K):=qeP (by rfl)
theorem qac(t:TypeId)(ps:List (Nat×Operand)):Yj P wz ops hZ (⟨dst, .build t ps.toArray,ty,pos,af,none⟩::rest) s h K=((pop P wz h s (.build t ps.toArray)).pre/\Yj P wz ops hZ rest (putD s dst (pop P wz h s (.build t ps.toArray)).val) h K):=qeP (by rfl)
theorem qdH{op:Op}(hk:ZW P op=0)(he:QO P wz ops [⟨dst,op,ty,pos,af,none⟩] s h (fun s' h'=>Yj P wz ops hZ rest s' h' K)):Yj P wz ops hZ (⟨dst,op,ty,pos,af,none⟩::rest) s h K:=by
 simp only[QO]at he;simp only[Yj,if_pos hk];refine⟨trivial,?_⟩;rw[qdL op (qfH fun t ht=>by unfold QS;exact J6 _ ht)];exact he
theorem Xu{fo:Operand}{args:List Operand}{ts:Array TypeId}{f:FuncId}{cap xs:List AVal}{V:AVal}(hf:ev s fo= .func f cap)(hx:evs s args++cap=xs)(hV:V.okIn (fun k=>(hZ k).isSome))(hc:∀g,Sub hZ g->ACall P wz f xs g (fun x h'=>x=V/\h'=g))
 (hk:Yj P wz ops hZ rest (putD s dst V) h K):Yj P wz ops hZ (⟨dst, .call ⟨.value fo,args.toArray,ts⟩,ty,pos,af,none⟩::rest) s h K:=by
 have h0:¬ZW P (.call ⟨.value fo,args.toArray,ts⟩)=0:=by simp[ZW]
 simp only[Yj,if_neg h0];refine⟨V,?_,hk⟩;have h2:¬ZW P (.call ⟨.value fo,args.toArray,ts⟩)=2:=by simp[ZW]
 rw[qfa,if_neg h2];refine⟨rfl,hV,fun g hg=>?_⟩;rw[qdL _ (qfH fun t ht=>by unfold QS;exact J6 _ ht)];simp only[eop,hf,hx];exact hc g hg
theorem qgU{fo:Operand}{args:List Operand}{ts:Array TypeId}{j:Nat}{want:Bool}{f:FuncId}{cap xs:List AVal}{V:AVal}(hk:Wu (gv s ops j)=true)
 (hf:Xk (gv s ops j) want=true->ev s fo= .func f cap/\evs s args++cap=xs) (hV:V.okIn (fun k=>(hZ k).isSome)) (hc:Xk (gv s ops j) want=true->∀g,Sub hZ g->ACall P wz f xs g (fun x h'=>x=V/\h'=g))
 (hr:Yj P wz ops hZ rest (putD s dst (QK (Xk (gv s ops j) want) V)) h K):
 Yj P wz ops hZ (⟨dst, .call ⟨.value fo,args.toArray,ts⟩,ty,pos,af,some (j,want)⟩::rest) s h K:=by
 unfold gv at hk hf hc hr;have h0:¬ZW P (.call ⟨.value fo,args.toArray,ts⟩)=0:=by simp[ZW]
 have h2:¬ZW P (.call ⟨.value fo,args.toArray,ts⟩)=2:=by simp[ZW]
 simp only[Yj,if_neg h0];cases hj:qM ops j with
 |none=>rw[hj]at hk;cases hk
 |some d=>
  simp only[hj]at hk hf hc hr|-
  refine⟨hk,V,fun hg=>?_,hr⟩;rw[qfa,if_neg h2];refine⟨rfl,hV,fun g hsub=>?_⟩;rw[qdL _ (qfH fun t ht=>by unfold QS;exact J6 _ ht)];simp only[eop,(hf hg).1,(hf hg).2];exact hc hg g hsub
theorem qlf{ks:List Nat}:qfv P wz ks [] s h K=K s h:=rfl
theorem qcn{ks:List Nat}{op:Op}(ha:QO P wz [] [⟨dst,op,ty,pos,af,none⟩] s h (fun s' h'=>(∀k∈ks,h' k=h k)/\qfv P wz ks rest s' h' K)):qfv P wz ks (⟨dst,op,ty,pos,af,none⟩::rest) s h K:=by
 simp only[QO]at ha;exact⟨rfl,ha⟩
theorem qAO{ks:List Nat}{op:Op}(hp:ZE P op=true):qfv P wz ks (⟨dst,op,ty,pos,af,none⟩::rest) s h K=((pop P wz h s op).pre/\qfv P wz ks rest (putD s dst (pop P wz h s op).val) h K):=by
 refine propext ⟨fun⟨_,h1⟩=>?_,fun⟨h1,h2⟩=>⟨rfl,(qad hp).2 ⟨h1,fun _ _=>rfl,h2⟩⟩⟩;obtain⟨g1,_,g2⟩:=(qad hp).1 h1;exact⟨g1,g2⟩
theorem qmM{ks:List Nat}(x:Operand):qfv P wz ks (⟨dst, .assign x,ty,pos,af,none⟩::rest) s h K=((pop P wz h s (.assign x)).pre/\qfv P wz ks rest (putD s dst (pop P wz h s (.assign x)).val) h K):=qAO rfl
theorem qnT{ks:List Nat}(t:TypeId)(x:Operand)(f:Nat):qfv P wz ks (⟨dst, .fieldAddr t x f,ty,pos,af,none⟩::rest) s h K=((pop P wz h s (.fieldAddr t x f)).pre/\qfv P wz ks rest (putD s dst (pop P wz h s (.fieldAddr t x f)).val) h K):=qAO rfl
end
theorem AHeap.set_none(h:AHeap)(k j:Nat)(b:Blk):((h.set k b) j=none)=(j≠k/\k≠j/\h j=none):=by
 refine propext ⟨fun e=>?_,fun⟨e1,_,e2⟩=>by rw[Vd _ _ e1];exact e2⟩;have hne:j≠k:=fun e'=>by subst e';rw[Ve]at e;cases e
 exact⟨hne,Ne.symm hne,by rwa [Vd _ _ hne]at e⟩
theorem QZ(wz:World)(h:AHeap){j k:Nat}(hj:j≠k)(b:Blk)(o:Nat):rd wz (h.set k b) (.own j) o=rd wz h (.own j) o:=qCm wz h b hj o
theorem Sub.set_both{h h':AHeap}(hs:Sub h h')(k:Nat)(b:Blk):Sub (h.set k b) (h'.set k b):=fun j c e=>by
 by_cases ej:j=k
 ·subst ej;rw[Ve]at e|-;exact e
 ·rw[Vd _ _ ej]at e|-;exact hs j c e
theorem qD(b:Bool):(AVal.bool b).live=true:=rfl
theorem qi(k:IntKind)(n:Int):(AVal.int k n).live=true:=rfl
theorem qE(s:List UInt8):(AVal.str s).live=true:=rfl
theorem QM:AVal.nilSlice.live=true:=rfl
theorem qaY(l:Loc)(o n:Nat)(c:Cap):(AVal.slice l o n c).live=true:=rfl
theorem qnP(k:Nat):(AVal.map k).live=true:=rfl
theorem qwu(cs:List AVal):(AVal.agg cs).live=true:=rfl
section
variable {P:Program} {wz:World} {s:Slots} {h:AHeap}
theorem qcU(r u v x:ResultVar):qbG P wz s h [r,u,v,x]= .tuple [(qeh P wz s h r).val,(qeh P wz s h u).val,(qeh P wz s h v).val,(qeh P wz s h x).val]:=rfl
end
section
variable {P:Program}
theorem qen{t:TypeId}(ht:P.underlying t=some .string)(s:List UInt8)(k:IntKind)(b:Int):YR P t (.str s) (some (.int k b)) none none=qaU s (qci (some (.int k b)) 0) (qci none s.length):=qjo ht s _ _
theorem qem{t:TypeId}(ht:P.underlying t=some .string)(s:List UInt8)(k k':IntKind)(a b:Int):YR P t (.str s) (some (.int k a)) (some (.int k' b)) none=qaU s (qci (some (.int k a)) 0) (qci (some (.int k' b)) s.length):=qjo ht s _ _
end
theorem qvm{P:Program}{wz:World}{n:FrameK}{s:Slots}{h:AHeap}{Q:Exit->Slots->AHeap->Prop}{id:Nat}{d:Tmp}{e:TypeId}{z:Value}{cs:List AVal}{ty:TypeId}{pos:String}{af:Array Edge}{y:Code}(L:List Nat)
 (hd:d<n) (he:e<4096) (hz:Uk P e=some z) (hc:z.cells.toList.map qG=cs)
 (hk:∀k,h k=none->UM k=some e->Awp P wz n y Q ((s.put d (.ptr (.own k) 0)).keep L) (h.set k ⟨cs,0⟩)):
 Awp P wz n (.seq (.region id [⟨some d, .alloc e,ty,pos,af,none⟩].toArray false) y) Q s h:=
 qJ<|J8 fun fi a w hr hs=>wp_region (by
  obtain⟨k,hk0,hφ,hke,hkt⟩:=hr.freshE e;obtain⟨e1,e2⟩:=hr.alloc k hk0 hφ (z.cells.toList.map qG) z.cells e 0 0 (by rw[Jp,Jq];exact UB fi z.cells.toList) qbU hkt;have hw:Region.wanted (⟨some d, .alloc e,ty,pos,af,none⟩:Oper) (yielded #[⟨some d, .alloc e,ty,pos,af,none⟩] a.tmps)=true:=by simp[Region.wanted]
  simp only[List.size_toArray,JS,List.range_succ,List.range_zero,Je,wpOps,List.getElem?_toArray,List.getElem?_cons_zero];rw[if_pos hw];refine .inl (Zg (v:= .pointer (some ⟨w.heap.size,0,none⟩)) (w':=w.alloc (.cells z.cells e)) ?_ ?_)
  ·simp[execOp,Instr.alloc,qcl hz,newVar,newRow]
  ·refine⟨_,_,_,e1,e2,(hs.mono e1).put d hd (qjf _ _ _),?_⟩
   rw[hc];exact Vb L (hk k hk0 (hke he)))
theorem HRel.dropRow{wz w w':World}{fi:PMap}{h h':AHeap}(hr:HRel wz fi h w){k:Nat}{b:Blk}{p:Place}(hk:h k=some b)(hp:fi k=some p)
 (hsize:w'.heap.size=w.heap.size) (hos:w'.os=w.os) (htape:w'.tape=w.tape) (hout:w'.output=w.output)
 (hother:∀i,i≠p.blk->w'.heap[i]?=w.heap[i]?) (hty:∀cs e fr,w.heap[p.blk]?=some (.cells cs e fr)->∃cs' fr',w'.heap[p.blk]?=some (.cells cs' e fr'))
 (hs:∀j c,h' j=some c->h j=some c/\j≠k):HRel wz fi h' w':=by
 obtain⟨q,hq,hq1,hq2⟩:=hr.own k b hk;have hpq:q=p:=by rw[hp]at hq;exact(Option.some.inj hq).symm
 subst hpq;refine⟨⟨hos.trans hr.below.os,htape.trans hr.below.tape,hout.trans hr.below.output,by rw[hsize];exact hr.below.size,fun i hi=>?_⟩,fun j c hj=>?_,fun j j' b1 b2 p1 p2 h1 h2 f1 f2 e=>?_,fun j r hj=>by rw[hsize];exact hr.lt j r hj,hr.fin,fun j r hj t ht=>?_⟩
 ·rw[hother i (by omega)]
  exact hr.below.block i hi
 ·obtain⟨h1,h2⟩:=hs j c hj
  obtain⟨r,hr0,hr1,hr2⟩:=hr.own j c h1;exact⟨r,hr0,hr1,hr2.world (hother _ fun e'=>h2 (hr.inj j k c b r q h1 hk hr0 hp e'))⟩
 ·exact hr.inj j j' b1 b2 p1 p2 (hs j b1 h1).1 (hs j' b2 h2).1 f1 f2 e
 ·obtain⟨h0,cs,fr,hcs⟩:=hr.typ j r hj t ht
  refine⟨h0,?_⟩;by_cases e:r.blk=q.blk
  ·rw[e]at hcs|-
   exact hty cs t fr hcs
  ·exact⟨cs,fr,by rw[hother _ e];exact hcs⟩
theorem qnV(w:World)(a:Addr)(n:Nat):(w.freeze a n).heap.size=w.heap.size/\(w.freeze a n).os=w.os/\(w.freeze a n).tape=w.tape/\(w.freeze a n).output=w.output/\
 (∀i,i≠a.block->(w.freeze a n).heap[i]?=w.heap[i]?)/\(∀cs e fr,w.heap[a.block]?=some (.cells cs e fr)->∃cs' fr',(w.freeze a n).heap[a.block]?=some (.cells cs' e fr')):=by
 unfold World.freeze;split
 ·exact⟨rfl,rfl,rfl,rfl,fun _ _=>rfl,fun cs e fr h=>⟨cs,fr,h⟩⟩
 ·refine⟨by simp,rfl,rfl,rfl,fun i hi=>by simp[KS,Ne.symm hi],fun cs e fr h=>?_⟩
  obtain⟨lo,hi⟩:=fr;refine⟨cs,if lo==hi then(a.off,a.off+n)else(min lo a.off,max hi (a.off+n)),?_⟩;simp only[KS,if_true,h,KI]
theorem HRel.setCell{wz w:World}{fi:PMap}{h:AHeap}(hr:HRel wz fi h w){k:Nat}{b:Blk}{p:Place}(hk:h k=some b)(hp:fi k=some p){o:Nat}{x:AVal}{v:Value}
 (hx:VR fi x v) (hs:x.scal=true) (hfit:o<b.cells.length) (hfrz:b.frz<=o):HRel wz fi (h.set k ⟨b.cells.set o x,b.frz⟩) (w.setCell ⟨p.blk,p.off+o,none⟩ v):=by
 obtain⟨q,hq,hq1,ok⟩:=hr.own k b hk;have hpq:q=p:=by rw[hp]at hq;exact(Option.some.inj hq).symm
 subst hpq;obtain⟨cs,e,lo,hi,h1,h2,h3,h4,h5,h6⟩:=ok.row (by omega);have hgl:q.blk<w.heap.size:=hr.lt k q hp;rw[qff w q.blk (q.off+o) cs e (lo,hi) h1 v];refine hr.write k b _ q hk hp (by simp[AM.World.putRow]) rfl rfl rfl (fun i hi=>qaj w _ _ _ _ i hi) (fun cs' e' fr' h'=>by rw[h1]at h';cases h';exact⟨_,_,WM w _ _ _ _ hgl⟩) ?_;refine .inl ⟨cs.setIfInBounds (q.off+o) v,e,lo,hi,WM w _ _ _ _ hgl,by simp[h2],by simp[h3],by simp[h4],?_,?_⟩
 ·have:=qeL cs.toList q.off b.cells.length o [v] (by simp;omega)
  simp only[setAt]at this;simp only[Array.toList_setIfInBounds,List.length_set];rw[this];exact qoH h5 o hx
 ·refine⟨h6.1,fun i hi1 hi2=>?_⟩
  have:=h6.2 i hi1 hi2;simpa using this
theorem qnR{P:Program}{T U:TypeId}(h:liesAt P P.depth T 1 0 U 1=true)(hU:∀m u,P.underlying U≠some (.array m u)){c:Nat}(hc:1<=c):liesAt P P.depth T c 0 U 1=true:=by
 have noarr:∀(d c':Nat),liesAt P (d+1) T c' 0 U 1=rowAt P (sameLayout P P.depth · U) P.depth T c' 0 1:=fun d c'=>by
  unfold liesAt;cases e:P.underlying U with
  |none=>simp
  |some t=>cases t<;>first|exact absurd e (hU _ _)|simp
 cases hd:P.depth with
 |zero=>rw[hd]at h;simp[liesAt]at h
 |succ d=>
  rw[hd]at h;rw[noarr d]at h|-
  rw[hd]at h|-
  unfold rowAt at h|-
  simp only at h|-
  split at h
  ·cases h
  ·rename_i hs
   rw[if_neg hs];simp only[Vf,Nat.zero_mod,Js,beq_self_eq_true,Vg,KL,decide_true,show(0:Nat)<1 from Nat.one_pos]at h|-
   rw[decide_eq_true hc,decide_eq_true (show 0<c by omega),Vg,Vg];exact h
structure Bld where
 used:Bool
 buf:Option (Nat×List UInt8)
def Bld.bytes(b:Bld):List UInt8:=match b.buf with|none=>[]|some (_,l)=>l
def Bld.head(b:Bld)(k:Nat):AVal:=if b.used=true then .ptr (.own k) 0 else .nilPtr
def Bld.slice(b:Bld):AVal:=match b.buf with|none=> .nilSlice|some (kb,l)=> .slice (.own kb) 0 l.length (.grow 1)
def Bld.none:Bld:=⟨false,Option.none⟩
def Bld.ok(e:TypeId)(h:AHeap)(k:Nat)(b:Bld):Prop:=match b.buf with|Option.none=>True|some (kb,l)=>kb≠k/\h kb=Option.none/\UM kb=some e/\l≠[]
def bldH(h:AHeap)(k:Nat)(rest:List AVal)(b:Bld):AHeap:=match b.buf with
 |Option.none=>h.set k ⟨b.head k:: .nilSlice::rest,0⟩
 |some (kb,l)=>(h.set k ⟨b.head k:: .slice (.own kb) 0 l.length (.grow 1)::rest,0⟩).set kb ⟨byteCells l,0⟩
theorem Bld.none_ok{e:TypeId}{h:AHeap}{k:Nat}:Bld.none.ok e h k:=trivial
theorem qit{h:AHeap}{k:Nat}{rest:List AVal}{b:Bld}(hb:b.buf=Option.none):bldH h k rest b=h.set k ⟨b.head k:: .nilSlice::rest,0⟩:=by unfold bldH;rw[hb]
theorem qbv{h:AHeap}{k:Nat}{rest:List AVal}{b:Bld}{kb:Nat}{l:List UInt8}(hb:b.buf=some (kb,l)):
 bldH h k rest b=(h.set k ⟨b.head k:: .slice (.own kb) 0 l.length (.grow 1)::rest,0⟩).set kb ⟨byteCells l,0⟩:=by unfold bldH;rw[hb]
theorem Bld.slice_nil{b:Bld}(hb:b.buf=Option.none):b.slice= .nilSlice:=by unfold Bld.slice;rw[hb]
theorem Bld.slice_some{b:Bld}{kb:Nat}{l:List UInt8}(hb:b.buf=some (kb,l)):b.slice= .slice (.own kb) 0 l.length (.grow 1):=by unfold Bld.slice;rw[hb]
theorem Bld.bytes_nil{b:Bld}(hb:b.buf=Option.none):b.bytes=[]:=by unfold Bld.bytes;rw[hb]
theorem Bld.bytes_some{b:Bld}{kb:Nat}{l:List UInt8}(hb:b.buf=some (kb,l)):b.bytes=l:=by unfold Bld.bytes;rw[hb]
theorem Bld.ok_some{e:TypeId}{h:AHeap}{k:Nat}{b:Bld}{kb:Nat}{l:List UInt8}(hb:b.buf=some (kb,l)):b.ok e h k↔(kb≠k/\h kb=Option.none/\UM kb=some e/\l≠[]):=by unfold Bld.ok;rw[hb]
theorem Sub.bldH{h:AHeap}{k:Nat}{rest:List AVal}{e:TypeId}{b:Bld}(hk:h k=Option.none)(hb:b.ok e h k):Sub h (AM.bldH h k rest b):=by
 cases hbuf:b.buf with
 |none=>rw[qit hbuf];exact Vh hk
 |some q=>
  obtain⟨h1,h2,h3,h4⟩:=(Bld.ok_some hbuf).1 hb;rw[qbv hbuf];exact(Vh hk).trans (Vh (by rw[Vd _ _ h1];exact h2))
theorem qcr{h:AHeap}{k:Nat}{rest:List AVal}{e:TypeId}{b:Bld}(hb:b.ok e h k):bldH h k rest b k=some ⟨b.head k::b.slice::rest,0⟩:=by
 cases hbuf:b.buf with
 |none=>rw[qit hbuf,Bld.slice_nil hbuf];exact Ve _ _ _
 |some q=>
  obtain⟨h1,h2,h3,h4⟩:=(Bld.ok_some hbuf).1 hb;rw[qbv hbuf,Bld.slice_some hbuf,Vd _ _ h1.symm,Ve]
theorem qrd{h:AHeap}{k:Nat}{rest:List AVal}{b:Bld}{kb:Nat}{l:List UInt8}(hb:b.buf=some (kb,l)):bldH h k rest b kb=some ⟨byteCells l,0⟩:=by
 rw[qbv hb];exact Ve _ _ _
theorem qvk{h:AHeap}{k:Nat}{rest:List AVal}{e:TypeId}{b:Bld}(hb:b.ok e h k):(bldH h k rest b).set k ⟨.ptr (.own k) 0::b.slice::rest,0⟩=bldH h k rest ⟨true,b.buf⟩:=by
 cases hbuf:b.buf with
 |none=>
  rw[qit hbuf,Bld.slice_nil hbuf,Vi,qit rfl];rfl
 |some q=>
  obtain⟨h1,h2,h3,h4⟩:=(Bld.ok_some hbuf).1 hb;rw[qbv hbuf,Bld.slice_some hbuf,qbv rfl,Vj _ _ _ h1.symm,Vi];rfl
theorem Bld.slice_live(b:Bld):b.slice.live=true:=by unfold Bld.slice;split<;>rfl
theorem Bld.slice_scal(b:Bld):b.slice.scal=true:=by unfold Bld.slice;split<;>rfl
theorem Bld.slice_cells(b:Bld):b.slice.cells=[b.slice]:=by unfold Bld.slice;split<;>rfl
theorem Bld.head_live(b:Bld)(k:Nat):(b.head k).live=true:=by unfold Bld.head;split<;>rfl
theorem YH{h:AHeap}{k:Nat}{b:Blk}(hk:h k=some b):h.set k b=h:=by
 funext j;by_cases e:j=k
 ·subst e;rw[Ve,hk]
 ·rw[Vd _ _ e]
section
variable {P:Program} {wz:World} {ops rest:List Oper} {s:Slots} {h:AHeap} {K:Slots->AHeap->Prop} {dst:Option Tmp} {ty:TypeId} {pos:String} {af:Array Edge}
theorem qlW{ts:Array TypeId}{t u e:TypeId}{d:TypeDesc}{x y:Operand}{v:AVal}{src:List UInt8}{hZ:AHeap}{k:Nat}{cs:List AVal}{st:Bld}
 (h0:ts[0]?=some t) (h1:ts[1]?=some u) (ht:P.underlying t=some (.slice e)) (hu:P.underlying u=some d) (hd:∀k,d≠ .int k)
 (hs:Yz P e=some 1) (hb:qgz P e=some 1) (hz:Uk P e=some (.int .u8 0)) (he:e<4096)
 (hx:ev s x=st.slice) (hk0:hZ k=none) (hst:st.ok e hZ k) (hh:Sub (bldH hZ k cs st) h) (hy:ev s y=v) (hv:SrcB wz h v src) (hl:st.bytes.length+src.length<=140737488355328)
 (hk:∀st':Bld,st'.used=st.used->st'.ok e hZ k->st'.bytes=st.bytes++src->∀h',h' k=some ⟨st.head k::st.slice::cs,0⟩->Sub (bldH hZ k cs st') (h'.set k ⟨st'.head k::st'.slice::cs,0⟩)->
   QO P wz ops rest (putD s dst st'.slice) h' K):
 QO P wz ops (⟨dst, .call ⟨.builtin .append,[x,y].toArray,ts⟩,ty,pos,af,none⟩::rest) s h K:=by
 obtain⟨g1,g2⟩:=hv;obtain⟨p1,p2⟩:=g2 src.length (KL _);rw[Jr (KL _)]at p2;have hkc:h k=some ⟨st.head k::st.slice::cs,0⟩:=hh _ _ (qcr hst);have h₀h:Sub hZ h:=(Sub.bldH hk0 hst).trans hh;rw[qbZ];simp only[eop,evs,Ke,Vk,hx,hy,qgo,h0,h1,ht,hu,hs,hb,hz,g1];cases hbuf:st.buf with
 |none=>
  rw[Bld.slice_nil hbuf]at*
  rw[Bld.bytes_nil hbuf]at*
  simp only[J9,Js]at hl;refine⟨hd,⟨by omega,rfl⟩,p1,fun e0=>?_,fun e0=>⟨⟨by omega,by omega⟩,fun k' hk' htk=>?_⟩⟩
  ·have e1:src=[]:=Kg e0
   have:=hk st rfl hst (by rw[e1,Bld.bytes_nil hbuf];rfl) h hkc (by rw[Bld.slice_nil hbuf,YH hkc];exact hh);rw[Bld.slice_nil hbuf]at this;exact this
  ·have hne:k'≠k:=fun e'=>by subst e';rw[hkc]at hk';cases hk'
   have hsrc:src≠[]:=fun e'=>e0 (by rw[e'];rfl);have:=hk ⟨st.used,some (k',src)⟩ rfl ((Bld.ok_some rfl).2 ⟨hne,h₀h.none hk',htk he,hsrc⟩) rfl (h.set k' ⟨byteCells src,0⟩) (by rw[Vd _ _ hne.symm];exact hkc) (fun j c hj=>by
    rw[qbv rfl]at hj;by_cases e1:j=k'
    ·subst e1
     rw[Ve]at hj;rw[Vd _ _ hne,Ve];exact hj
    ·rw[Vd _ _ e1]at hj
     by_cases e2:j=k
     ·subst e2
      rw[Ve]at hj|-
      exact hj
     ·rw[Vd _ _ e2]at hj|-
      rw[Vd _ _ e1];exact h₀h j c hj)
   rw[p2];exact this
 |some q=>
  obtain⟨kb,l⟩:=q;obtain⟨s1,s2,s3,s4⟩:=(Bld.ok_some hbuf).1 hst;have hkb:h kb=some ⟨byteCells l,0⟩:=hh _ _ (qrd hbuf);rw[Bld.slice_some hbuf]at*
  rw[Bld.bytes_some hbuf]at*
  simp only[hkb];refine⟨hd,⟨by omega,rfl⟩,p1,trivial,⟨by rw[byteCells_length];omega,by omega,by omega,by rw[p2];exact qdd _,?_, .inl trivial⟩,fun k' hk' htk=>?_⟩
  ·rw[KQ];exact qay (qcN _)
  ·have hne:k'≠k:=fun e'=>by subst e';rw[hkc]at hk';cases hk'
   have hneb:k'≠kb:=fun e'=>by subst e';rw[hkb]at hk';cases hk'
   have hl':(l++src).length=l.length+src.length:=Jc;have:=hk ⟨st.used,some (k',l++src)⟩ rfl ((Bld.ok_some rfl).2 ⟨hne,h₀h.none hk',htk trivial s3,by simp[s4]⟩) rfl ((h.del kb).set k' ⟨byteCells (l++src),0⟩) (by rw[Vd _ _ hne.symm];simp only[Vl,s1.symm,if_false];exact hkc) (fun j c hj=>by
    rw[qbv rfl]at hj;by_cases e1:j=k'
    ·subst e1
     rw[Ve]at hj;rw[Vd _ _ hne,Ve];exact hj
    ·rw[Vd _ _ e1]at hj
     by_cases e2:j=k
     ·subst e2
      rw[Ve]at hj|-
      exact hj
     ·rw[Vd _ _ e2]at hj|-
      rw[Vd _ _ e1];have e3:j≠kb:=fun e'=>by subst e';rw[s2]at hj;cases hj
      simp only[Vl,e3,if_false];exact h₀h j c hj)
   rw[p2,KQ,<-byteCells_append];rw[Bld.slice_some rfl,hl']at this;exact this
end
end Go.AM
namespace Go.AM
section
variable {P:Program} {wz:World} {ops rest:List Oper} {s:Slots} {h:AHeap} {K:Slots->AHeap->Prop} {dst:Option Tmp} {ty:TypeId} {pos:String} {af:Array Edge}
end
structure Buf where
 blk:Nat
 cells:List AVal
def QH(es:Nat):Option Buf->AVal
 |none=> .nilSlice
 |some b=> .slice (.own b.blk) 0 (b.cells.length / es) (.grow es)
def Yh:Option Buf->List AVal
 |none=>[]
 |some b=>b.cells
def Ql(h:AHeap):Option Buf->AHeap
 |none=>h
 |some b=>h.set b.blk ⟨b.cells,0⟩
def bufOk(h:AHeap)(es:Nat):Option Buf->Prop
 |none=>True
 |some b=>h b.blk=none/\b.cells.length%es=0/\allLive b.cells=true
theorem bufOk.sub{h h':AHeap}{es:Nat}{b:Option Buf}(hb:bufOk h es b)(hs:Sub h' h):bufOk h' es b:=by
 cases b with
 |none=>trivial
 |some b=>exact⟨hs.none hb.1,hb.2⟩
theorem Sub.buf{h:AHeap}{es:Nat}{b:Option Buf}(hb:bufOk h es b):Sub h (Ql h b):=by
 cases b with
 |none=>exact Vm _
 |some b=>exact Vh hb.1
theorem QP(es:Nat)(b:Option Buf):(QH es b).live=true:=by cases b<;>rfl
theorem XR(es:Nat)(b:Option Buf):(QH es b).scal=true:=by cases b<;>rfl
theorem qzi{hZ h:AHeap}{kb k':Nat}{B C:Blk}(h0:hZ kb=none)(hs:Sub (hZ.set kb B) h)(hk':h k'=none):Sub (hZ.set k' C) ((h.del kb).set k' C):=fun j c hj=>by
 by_cases e:j=k'
 ·subst e;rw[Ve]at hj|-;exact hj
 ·rw[Vd _ _ e]at hj|-
  have e2:j≠kb:=fun e2=>by subst e2;rw[h0]at hj;cases hj
  simp only[Vl,e2,if_false];exact hs j c (by rw[Vd _ _ e2];exact hj)
section
variable {P:Program} {wz:World} {ops rest:List Oper} {s:Slots} {h:AHeap} {K:Slots->AHeap->Prop} {dst:Option Tmp} {ty:TypeId} {pos:String} {af:Array Edge}
theorem qlV{ts:Array TypeId}{t u e:TypeId}{d:TypeDesc}{x y:Operand}{v:AVal}{es by' m:Nat}{z:Value}{src:List AVal}{hZ:AHeap}{b:Option Buf}
 (h0:ts[0]?=some t) (h1:ts[1]?=some u) (ht:P.underlying t=some (.slice e)) (hu:P.underlying u=some d) (hd:∀k,d≠ .int k)
 (hs:Yz P e=some es) (hb:qgz P e=some by') (hz:Uk P e=some z) (hzs:z.cells.size=es) (hes:es≠0)
 (hx:ev s x=QH es b) (hok:bufOk hZ es b) (hh:Sub (Ql hZ b) h) (hy:ev s y=v) (hm:qec v=some m) (hp:qeb wz h es m v) (hc:ZV wz h es m v=src) (hsl:src.length=m*es) (hsc:Qt src=true) (hlv:allLive src=true)
 (hl:((Yh b).length / es+m)*by'<=140737488355328) (hl':(Yh b).length / es+m<4611686018427387904)
 (hk:∀b' h',bufOk hZ es b'->Yh b'=Yh b++src->Sub (Ql hZ b') h'->QO P wz ops rest (putD s dst (QH es b')) h' K):
 QO P wz ops (⟨dst, .call ⟨.builtin .append,[x,y].toArray,ts⟩,ty,pos,af,none⟩::rest) s h K:=by
 rw[qbZ];simp only[eop,evs,Ke,Vk,hx,hy,qgo,h0,h1,ht,hu,hs,hb,hz,hm];have hev:0<es:=Vn hes;cases b with
 |none=>
  refine⟨hd,⟨hes,hzs⟩,hp,?_⟩;simp only[QH];simp only[Yh,J9,Vf,Js]at hl hl';refine⟨fun e0=>?_,fun e0=>⟨⟨hl,hl'⟩,fun k hk0 _=>?_⟩⟩
  ·have:src=[]:=Kg (by rw[hsl,e0,K8])
   exact hk none h trivial (by rw[this];rfl) hh
  ·have hsub:Sub (Ql hZ (some ⟨k,src⟩)) (h.set k ⟨src,0⟩):=Sub.set_both hh k _
   have hk0':hZ k=none:=hh.none hk0;have e1:src.length / es=m:=by rw[hsl];exact Vo _ hev
   have:=hk (some ⟨k,src⟩) (h.set k ⟨src,0⟩) ⟨hk0',by simp only;rw[hsl];exact Nat.mul_mod_left _ _,hlv⟩ rfl hsub;simp only[QH,e1]at this;rw[hc];exact this
 |some b=>
  obtain⟨o1,o2,o3⟩:=hok;simp only[Yh]at hl hl';have hkb:h b.blk=some ⟨b.cells,0⟩:=hh _ _ (Ve _ _ _);refine⟨hd,⟨hes,hzs⟩,hp,?_⟩;simp only[QH,hkb];have hdiv:b.cells.length / es*es=b.cells.length:=Nat.div_mul_cancel (Nat.dvd_of_mod_eq_zero o2);refine⟨trivial,⟨by rw[Js,hdiv],hl,hl',by rw[hc];exact hsc,by rw[KQ];exact o3, .inl trivial⟩,fun k hk0 _=>?_⟩;rw[hc,KQ];have hsub:Sub (Ql hZ (some ⟨k,b.cells++src⟩)) ((h.del b.blk).set k ⟨b.cells++src,0⟩):=qzi o1 hh hk0;have hne:k≠b.blk:=fun e'=>by subst e';rw[hkb]at hk0;cases hk0
  have hk0':hZ k=none:=by
   have:=hh.none hk0
   rwa [show(Ql hZ (some b))=hZ.set b.blk ⟨b.cells,0⟩from rfl,Vd _ _ hne]at this
  have e1:(b.cells++src).length / es=b.cells.length / es+m:=by
   rw[Jc,hsl,Nat.add_mul_div_right _ _ hev]
  have e2:(b.cells++src).length%es=0:=by
   rw[Jc,hsl,Nat.add_mul_mod_self_right];exact o2
  have hlive:allLive (b.cells++src)=true:=by
   have:∀(a c:List AVal),allLive (a++c)=(allLive a && allLive c):=fun a c=>by
    induction a with
    |nil=>rfl
    |cons x a ih=>simp[allLive,ih,Vp]
   rw[this,o3,hlv];rfl
  have:=hk (some ⟨k,b.cells++src⟩) _ ⟨hk0',e2,hlive⟩ rfl hsub;simp only[QH,e1]at this;exact this
end
end Go.AM
namespace Go.Col
set_option maxRecDepth 100000
abbrev Str:=List UInt8
structure FaultC where
 e:Int
 line:Int
 col:Int
 deriving DecidableEq
def okF:FaultC:=⟨0,0,0⟩
structure MarkC where
 frm:Int
 line:Int
 col:Int
 deriving DecidableEq
structure CardC where
 left:Bool
 text:Str
 marks:List MarkC
 deriving DecidableEq
def okB(b:UInt8):Bool:=decide (32<=b.toNat) && decide (b.toNat<=126)
def quotes(s:Str):Nat:=s.countP (· ==34)
def qdi(s:Str):Bool:=decide (quotes s%2=1)
def qdc(s:Str):Option Nat:=s.findIdx? (fun b=> !okB b)
def qkr(s:Str):Str:=s.dropWhile (· ==32)
def qhn(s:Str):Str:=(s.reverse.dropWhile (· ==32)).reverse
def sp(n:Nat):Str:=JM n 32
structure RowC where
 line:Int
 more:Bool
 text:Str
 col:Int
 deriving DecidableEq
def qmF:RowC:=⟨0,false,[],0⟩
def qcB(s:Str):Str:=s++sp (72-s.length)
def qmd(s:Str)(line:Int):RowC:=⟨line,(qcB s).getD 6 0==45,qkr (((qcB s).drop 7).take 65),73-(qkr (((qcB s).drop 7).take 65)).length⟩
def qaa(s:Str)(line:Int)(debug:Bool):RowC×Bool×FaultC:=
 if 80<s.length then(qmF,false,⟨5,line,81⟩)else
 match qdc s with
 |some i=>(qmF,false,⟨4,line,i+1⟩)
 |none=>
  let r:=qmd s line
  let m:=(qcB s).getD 6 0
  if m=42\/m=47 then(r,false,okF)
  else if m=68\/m=100 then(r,debug && !decide (r.text=[]),okF)
  else if m=32\/m=45 then(r,!decide (r.text=[]),okF)
  else(r,false,⟨4,line,7⟩)
structure Rd where
 cards:List CardC
 line:Int
 col:Int
 odd:Bool
def Rd.start:Rd:=⟨[],0,0,false⟩
def qgA(c:CardC)(line col:Int)(text:Str):CardC:=
 let t:=if qdi (c.text++text)then text else qhn text
 ⟨c.left,c.text++t,if t=[]then c.marks else c.marks++[⟨c.text.length,line,col⟩]⟩
def addE(x:Rd)(line col:Int)(text:Str):Rd:=
 match x.cards.getLast? with
 |none=>x
 |some c=>⟨x.cards.dropLast++[qgA c line col text],line,col,qdi (c.text++text)⟩
def takeE(x:Rd)(r:RowC):Rd×FaultC:=
 if !r.more && x.odd then(x,⟨4,x.line,x.col⟩)
 else if !r.more then(addE {x with cards:=x.cards++[⟨decide (r.col<12),[],[]⟩]} r.line r.col r.text,okF)
 else if x.cards=[]then(x,⟨6,r.line,7⟩)
 else if r.col<12\/(x.odd=true/\r.text.getD 0 0≠34)then(x,⟨4,r.line,r.col⟩)
 else if x.odd then(addE x r.line (r.col+1) (r.text.drop 1),okF)
 else(addE x r.line r.col r.text,okF)
def WP(debug:Bool):List Str->Int->Rd->Rd×FaultC
 |[],_,x=>(x,okF)
 |s::l,n,x=>
  match qaa s n debug with
  |(r,counts,f)=>
   if f=okF/\counts=false then WP debug l (n+1) x
   else if f=okF then
    match takeE x r with
    |(x',g)=>if g=okF then WP debug l (n+1) x' else(x',g)
   else(x,f)
def Zz:Str->List Str
 |[]=>[[]]
 |b::s=>if b=10 then[]::Zz s else match Zz s with
  |[]=>[[b]]
  |l::ls=>(b::l)::ls
def YU(s:Str):Str:=if s.getLast?=some 10 then s.dropLast else s
def qas(text:Str)(debug:Bool):List CardC×FaultC:=
 if 1048576<text.length then([],⟨3,0,0⟩)
 else match WP debug (Zz (YU text)) 1 .start with
  |(x,f)=>if f≠okF then([],f)else if x.odd then([],⟨4,x.line,x.col⟩)else(x.cards,okF)
def validC.go(c:CardC):Int->List MarkC->Bool
 |_,[]=>true
 |b,m::ms=>decide (b<m.frm/\m.frm<c.text.length/\1<=m.line/\8<=m.col/\m.col<=72) && validC.go c m.frm ms
def validC(c:CardC):Bool:=
 match c.marks with
 |[]=>false
 |m::_=>decide (m.frm=0) && validC.go c (-1) c.marks
def qhc(i:Int):List MarkC->Int×Int->Int×Int
 |[],p=>p
 |m::ms,p=>qhc i ms (if m.frm<=i then(m.line,m.col+i-m.frm)else p)
def atE(c:CardC)(i:Int):Int×Int×Int:=
 if validC c=true/\0<=i/\i<=c.text.length then((qhc i c.marks (0,0)).1,(qhc i c.marks (0,0)).2,0)else(0,0,1)
def qCC(n:Nat):Str:=Lib.decDigits n
def qBg(n:Nat)(mark:Str)(col:Nat)(text:Str):Str:=
 JM (6-(qCC (n%1000000)).length) 48++qCC (n%1000000)++mark++sp (col-8)++text++[10]
def qtc:Str->Nat->Nat->Bool->Nat->Nat
 |[],_,_,_,f=>f
 |b::s,i,n,q,f=>
  if n<i then f else
  let q':=if b=34 then !q else q
  qtc s (i+1) n q' (if b=32/\q'=false/\0<i then i else f)
def qru(s:Str)(n:Nat)(q:Bool):Nat:=qtc s 0 n q 0
def textE:Nat->Nat->Str->Bool->Nat->Str->Str->Nat×Str
 |0,_,_,_,k,out,_=>(k,out)
 |fuel+1,col,mark,q,k,out,s=>
  let n:=73-col-(if q then 1 else 0)
  let lead:Str:=if q then[34]else[]
  if s.length<=n then(k+1,out++qBg (k+1) mark col (lead++s))
  else if 0<qru s n q then textE fuel 12 [32] false (k+1) (out++qBg (k+1) mark col (lead++s.take (qru s n q))) (qkr (s.drop (qru s n q)))
  else textE fuel 12 [45] (q !=qdi (s.take n)) (k+1) (out++qBg (k+1) mark col (lead++s.take n)) (s.drop n)
end Go.Col
namespace Go.Tok
open Go.Col (Str CardC FaultC okF qas atE)
set_option maxRecDepth 100000
structure TokC where
 kind:UInt8
 text:Str
 line:Int
 col:Int
 left:Bool
 deriving DecidableEq
def YS(b:UInt8):Bool:=decide (48<=b.toNat) && decide (b.toNat<=57)
def qtp(b:UInt8):Bool:=(decide (97<=b.toNat) && decide (b.toNat<=122))||(decide (65<=b.toNat) && decide (b.toNat<=90))
def Yf(b:UInt8):Bool:=YS b||qtp b||decide (b=45)
def qfC(b:UInt8):UInt8:=if 97<=b.toNat/\b.toNat<=122 then b-32 else b
def Wh(s:Str):Str:=s.map qfC
def QF(s:Str)(i:Int):UInt8:=if i<0\/(s.length:Int)<=i then 32 else s.getD i.toNat 0
def Uf(s:Str)(i:Nat)(p:UInt8->Bool):Nat:=((s.drop i).takeWhile p).length
def PIC:Str:=[80,73,67]
def WV:Str:=[80,73,67,84,85,82,69]
def IS:Str:=[73,83]
def qcs(l:List TokC)(n:Nat)(ws:List Str):Bool:=
 match l.reverse[n-1]? with
 |none=>false
 |some t=>decide (t.kind=1) && ws.contains t.text
def Yl(l:List TokC):Bool×Bool:=
 if qcs l 1 [PIC,WV]=true then(true,true)else(qcs l 1 [IS] && qcs l 2 [PIC,WV],false)
def qry(b:UInt8):Bool:=decide (b=44)||decide (b=59)
def qrv(s:Str)(next:Bool):Nat->Nat->Nat
 |0,i=>i
 |f+1,i=>if s.length<=i then i else if QF s i=32\/(next=false/\qry (QF s i)=true/\QF s (i+1)=32)then qrv s next f (i+1)else i
def Yo(s:Str)(next:Bool)(i:Nat):Nat:=qrv s next (s.length-i) i
structure Nx where
 kind:UInt8
 text:Str
 n:Nat
 e:Int
 deriving DecidableEq
def Nx.err(e:Int):Nx:=⟨0,[],0,e⟩
def takeE(s:Str)(i:Nat)(kind:UInt8)(n:Nat):Nx:=⟨kind,(s.drop i).take n,n,0⟩
def qbj(b:UInt8):Bool:=decide (b=46)||qry b
def Wz(s:Str)(i:Nat)(is:Bool):Nx:=
 if is=true/\Wh [QF s i,QF s (i+1)]=IS/\Yf (QF s (i+2))=false then⟨1,IS,2,0⟩
 else
  let n0:=Uf s i (fun b=> !decide (b=32))
  let n:=if qbj (QF s ((i:Int)+n0-1))=true then(n0:Int)-1 else n0
  if n=0\/qbj (QF s (i+n-1))=true then .err 4
  else
   let t:=Wh ((s.drop i).take n.toNat)
   if t.contains 34=true then .err 4 else⟨4,t,n.toNat,0⟩
def ZP:Str->Str->Nat->Nx
 |[],_,_=> .err 4
 |b::s,acc,n=>
  if b=34 then
   match s with
   |34::r=>ZP r (acc++[34]) (n+2)
   |_=>if acc=[]then .err 4 else⟨3,acc,n+1,0⟩
  else ZP s (acc++[b]) (n+1)
def qbO(s:Str)(i:Nat):Nx:=ZP (s.drop (i+1)) [] 1
def WS(s:Str)(i:Nat):Bool:=(decide (QF s i=43)||decide (QF s i=45)) && (decide (QF s ((i:Int)-1)=32)||decide (QF s ((i:Int)-1)=40))
def d0E(s:Str)(i:Nat):Nat:=Uf s (i+(WS s i).toNat) YS
def n1E(s:Str)(i:Nat):Nat:=(WS s i).toNat+d0E s i
def qpG(s:Str)(i:Nat):Bool:=decide (QF s ((i:Int)+(n1E s i:Nat))=46) && YS (QF s ((i:Int)+(n1E s i:Nat)+1))
def qcF(s:Str)(i:Nat):Nat:=Uf s (i+n1E s i+1) YS
def Us(s:Str)(i:Nat):Nat:=if qpG s i=true then n1E s i+1+qcF s i else n1E s i
def qcD(s:Str)(i:Nat):Nat:=if qpG s i=true then d0E s i+qcF s i else d0E s i
def qjR(w1 w2 sg:Bool)(d0 d:Nat)(t:Nx):Nx:=
 if 0<d0/\w1=true then(if sg=true then .err 4 else .err 0)
 else if d=0 then .err 0
 else if w2=true then .err 4
 else if 18<d then .err 5
 else t
def WE(s:Str)(i:Nat):Nx:=qjR (Yf (QF s ((i:Int)+(n1E s i:Nat)))) (Yf (QF s ((i:Int)+(Us s i:Nat)))) (WS s i) (d0E s i) (qcD s i) (takeE s i 2 (Us s i))
def qgF(s:Str)(i:Nat):Nx:=
 let n:=Uf s i Yf
 let t:=Wh ((s.drop i).take n)
 if t.all (fun b=>YS b||decide (b=45))=true\/t.getD 0 0=45\/t.getD (n-1) 0=45 then .err 4
 else if 30<n then .err 5
 else⟨1,t,n,0⟩
def signs:List Str:=[[42,42],[60,61],[62,61],[60,62],[40],[41],[58],[43],[45],[42],[47],[61],[60],[62]]
def qfe(s:Str)(i:Nat):Nx:=
 match signs.find? (fun g=>g.isPrefixOf (s.drop i))with
 |some g=>takeE s i 5 g.length
 |none=> .err 4
def Ug(s:Str)(i:Nat)(l:List TokC):Nx:=
 let eqs:=Vq [61,61] (s.drop i)
 if (Yl l).1=true/\eqs=false then Wz s i (Yl l).2
 else if QF s i=34 then qbO s i
 else if QF s i=46/\QF s (i+1)=32 then takeE s i 6 1
 else if eqs=true then takeE s i 7 2
 else if 0<(WE s i).n\/(WE s i).e≠0 then WE s i
 else if Yf (QF s i)=true/\QF s i≠45 then qgF s i
 else qfe s i
def qeA(c:CardC):Nat->Nat->List TokC->List TokC×FaultC
 |0,_,l=>(l,okF)
 |f+1,at0,l=>
  let i:=Yo c.text (Yl l).1 at0
  if c.text.length<=i then(l,okF)
  else
   let a:=atE c i
   let t:=Ug c.text i l
   let e:=if t.e=0/\65536<=l.length then 3 else t.e
   if e≠0 then(l,⟨e,a.1,a.2.1⟩)
   else qeA c f (i+t.n) (l++[⟨t.kind,t.text,a.1,a.2.1,decide (a.2.1<12)⟩])
def qbk(c:CardC)(l:List TokC):List TokC×FaultC:=if (atE c 0).2.2≠0 then(l,⟨(atE c 0).2.2,0,0⟩)else qeA c (c.text.length+1) 0 l
def qcv:List CardC->List TokC->List TokC×FaultC
 |[],l=>(l,okF)
 |c::r,l=>if (qbk c l).2≠okF then([],(qbk c l).2)else qcv r (qbk c l).1
def qfg(cs:List CardC):List TokC×FaultC:=qcv cs []
def qfW(text:Str)(dbg:Bool):List TokC×FaultC:=if (qas text dbg).2≠okF then([],(qas text dbg).2)else qfg (qas text dbg).1
theorem Wm{s:Str}{i:Nat}(h:i<s.length):QF s i=s.getD i 0:=by
 unfold QF;rw[if_neg (by omega),Vr]
theorem qpj{s:Str}{i:Int}(h:i<0\/(s.length:Int)<=i):QF s i=32:=by
 unfold QF;rw[if_pos h]
theorem qcA{s:Str}{i:Nat}(h:QF s i≠32):i<s.length:=by
 by_cases q:i<s.length
 ·exact q
 ·exact absurd (qpj (.inr (by omega))) h
theorem qef(s:Str)(i:Nat)(p:UInt8->Bool)(hi:i<=s.length):i+Uf s i p<=s.length:=by
 unfold Uf;have h1:((s.drop i).takeWhile p).length<=(s.drop i).length:=(Vt p).length_le;rw[K6]at h1;omega
theorem qkB(s:Str)(i:Nat)(p:UInt8->Bool):Uf s i p<=s.length:=by
 unfold Uf;have h1:((s.drop i).takeWhile p).length<=(s.drop i).length:=(Vt p).length_le;rw[K6]at h1;omega
theorem qey{s:Str}{i:Nat}(h:i<s.length):s.drop i=s.getD i 0::s.drop (i+1):=by
 rw[J5 h];simp[Ko,JA h]
theorem qdu(s:Str)(i:Nat)(p:UInt8->Bool):Uf s i p=if i<s.length/\p (s.getD i 0)=true then Uf s (i+1) p+1 else 0:=by
 by_cases h:i<s.length
 ·unfold Uf
  rw[qey h,List.takeWhile_cons];by_cases hp:p (s.getD i 0)=true
  ·rw[if_pos hp,if_pos ⟨h,hp⟩]
   rfl
  ·rw[if_neg hp,if_neg (fun e=>hp e.2)]
   rfl
 ·rw[if_neg (fun e=>h e.1)]
  unfold Uf;rw[Vu (by omega)];rfl
theorem qhy{s:Str}{i:Nat}{p:UInt8->Bool}(h:i<s.length)(hp:p (s.getD i 0)=true):0<Uf s i p:=by
 rw[qdu,if_pos ⟨h,hp⟩];omega
theorem qkC{s:Str}{p:UInt8->Bool}:∀{n i:Nat},n<=Uf s i p->∀j,j<n->p (s.getD (i+j) 0)=true
 |0,_,_,j,hj=>by omega
 |n+1,i,h,j,hj=>by
  rw[qdu]at h;by_cases q:i<s.length/\p (s.getD i 0)=true
  ·rw[if_pos q]at h
   cases j with
   |zero=>exact q.2
   |succ j=>rw[show i+(j+1)=(i+1)+j by omega];exact qkC (n:=n) (by omega) j (by omega)
  ·rw[if_neg q]at h
   omega
theorem qmt{s:Str}{p:UInt8->Bool}:∀{f i:Nat},s.length<=i+f->i+Uf s i p<s.length->p (s.getD (i+Uf s i p) 0)=false
 |0,i,h,h2=>by omega
 |f+1,i,h,h2=>by
  by_cases q:i<s.length/\p (s.getD i 0)=true
  ·have e:Uf s i p=Uf s (i+1) p+1:=by rw[qdu,if_pos q]
   rw[e]at h2|-
   rw[show i+(Uf s (i+1) p+1)=(i+1)+Uf s (i+1) p by omega];exact qmt (f:=f) (by omega) (by omega)
  ·have e:Uf s i p=0:=by rw[qdu,if_neg q]
   rw[e]at h2|-
   rw[K7];cases hp:p (s.getD i 0)with
   |false=>rfl
   |true=>exact absurd ⟨by omega,hp⟩ q
theorem qks{s:Str}{i n:Nat}(h:i<s.length)(hn:0<n):((s.drop i).take n).getD 0 0=s.getD i 0/\(s.drop i).take n≠[]:=by
 rw[qey h];cases n with
 |zero=>omega
 |succ n=>exact⟨rfl,by simp⟩
theorem qmV{s:Str}{i n:Nat}(h:i<s.length)(hn:0<n):(Wh ((s.drop i).take n)).getD 0 0=qfC (s.getD i 0)/\Wh ((s.drop i).take n)≠[]:=by
 rw[qey h];cases n with
 |zero=>omega
 |succ n=>exact⟨rfl,by simp[Wh]⟩
theorem qgj{b:UInt8}(h:b.toNat<97):qfC b=b:=by
 unfold qfC;rw[if_neg (by omega)]
theorem qsi{b:UInt8}(h:YS b=true):b.toNat<97:=by
 unfold YS at h;simp only[Ky,decide_eq_true_eq]at h;omega
structure NxOk(s:Str)(i:Nat)(t:Nx):Prop where
 n0:0<t.n
 n1:i+t.n<=s.length
 ne:t.text≠[]
 quote:t.kind=3->s.getD i 0=34
 other:t.kind≠3->t.text.getD 0 0=qfC (s.getD i 0)
 k0:1<=t.kind.toNat
 k1:t.kind.toNat<=7
theorem qka{s:Str}{i n:Nat}{k:UInt8}(hi:i<s.length)(hn:0<n)(h1:i+n<=s.length)(hk:k≠3)(k0:1<=k.toNat)(k1:k.toNat<=7)(hl:qfC (s.getD i 0)=s.getD i 0):NxOk s i (takeE s i k n):=
 ⟨hn,h1,(qks hi hn).2,fun e=>absurd e hk,fun _=>by rw[hl];exact(qks hi hn).1,k0,k1⟩
theorem qrG{s:Str}{i:Nat}{is:Bool}(hi:i<s.length)(h32:s.getD i 0≠32)(he:(Wz s i is).e=0):NxOk s i (Wz s i is):=by
 unfold Wz at he|-
 by_cases hc:is=true/\Wh [QF s i,QF s (i+1)]=IS/\Yf (QF s (i+2))=false
 ·rw[if_pos hc]at he|-
  have h1:qfC (QF s i)=73/\qfC (QF s (i+1))=83:=by
   have:=hc.2.1;simp only[Wh,Ke,Vk,IS,List.cons.injEq,and_true]at this;exact this
  have h2:i+1<s.length:=by
   refine qcA (i:=i+1) fun e=>?_;have:=h1.2;rw[show(i:Int)+1=((i+1:Nat):Int) by omega,e]at this;exact absurd this (by decide)
  rw[Wm hi]at h1;exact⟨by decide,by show i+2<=_;omega,by decide,fun e=>absurd e (by decide),fun _=>by rw[h1.1];rfl,by decide,by decide⟩
 ·rw[if_neg hc]at he|-
  simp only at he|-
  have hr:=qef s i (fun b=> !decide (b=32)) (by omega);have hp:=qhy (p:=fun b=> !decide (b=32)) hi (by simpa using h32);generalize Uf s i (fun b=> !decide (b=32))=n0 at he hr hp|-
  generalize hm:(if qbj (QF s ((i:Int)+(n0:Int)-1))=true then(n0:Int)-1 else(n0:Int))=m at he|-
  have hm0:0<=m/\m<=n0:=by rw[<-hm];split<;>omega
  by_cases h1:m=0\/qbj (QF s ((i:Int)+m-1))=true
  ·rw[if_pos h1]at he
   exact absurd he (by simp[Nx.err])
  ·rw[if_neg h1]at he|-
   by_cases h2:(Wh ((s.drop i).take m.toNat)).contains 34=true
   ·rw[if_pos h2]at he
    exact absurd he (by simp[Nx.err])
   ·rw[if_neg h2]
    have hn:0<m.toNat/\i+m.toNat<=s.length:=by
     have h3:¬m=0:=fun e=>h1 (Or.inl e);omega
    have:=qmV hi hn.1;exact⟨hn.1,hn.2,this.2,fun e=>absurd e (show ¬(4:UInt8)=3 by decide),fun _=>this.1,show 1<=(4:UInt8).toNat by decide,show(4:UInt8).toNat<=7 by decide⟩
theorem qfj(acc:Str)(n:Nat):ZP [] acc n= .err 4:=by rw[ZP]
theorem qbz{b:UInt8}(hb:b≠34)(s acc:Str)(n:Nat):ZP (b::s) acc n=ZP s (acc++[b]) (n+1):=by
 conv=>lhs;unfold ZP
 rw[if_neg hb]
theorem qfi(r acc:Str)(n:Nat):ZP (34::34::r) acc n=ZP r (acc++[34]) (n+2):=by
 rw[ZP,if_pos rfl]
theorem qfk{s:Str}(hs:s.head?≠some 34)(acc:Str)(n:Nat):ZP (34::s) acc n=if acc=[]then .err 4 else⟨3,acc,n+1,0⟩:=by
 cases s with
 |nil=>rfl
 |cons c r=>
  have hc:c≠34:=fun e=>hs (by rw[e];rfl);rw[ZP,if_pos rfl];intro r e;injection e with e1 _;exact hc e1
theorem qjk(P:UInt8->Str->Prop)(h1:∀b s,b≠34->P b s)(h2:∀r,P 34 (34::r))(h3:∀s:Str,s.head?≠some 34->P 34 s)(b:UInt8)(s:Str):P b s:=by
 by_cases hb:b=34
 ·subst hb
  by_cases hs:s.head?=some 34
  ·cases s with
   |nil=>cases hs
   |cons c r=>
    simp only[List.head?_cons,Option.some.injEq]at hs;subst hs;exact h2 r
  ·exact h3 s hs
 ·exact h1 b s hb
theorem qgL:∀(k:Nat) (r acc:Str) (n:Nat),r.length<=k->(ZP r acc n).e=0->n<(ZP r acc n).n/\(ZP r acc n).n<=n+r.length/\(ZP r acc n).text≠[]/\(ZP r acc n).kind=3
 |_,[],acc,n,_,he=>absurd he (by rw[qfj];simp[Nx.err])
 |0,b::s,acc,n,hk,he=>by simp at hk
 |k+1,b::s,acc,n,hk,he=>by
  revert he hk;refine qjk (fun b s=>(b::s).length<=k+1->(ZP (b::s) acc n).e=0->n<(ZP (b::s) acc n).n/\(ZP (b::s) acc n).n<=n+(b::s).length/\(ZP (b::s) acc n).text≠[]/\(ZP (b::s) acc n).kind=3) ?_ ?_ ?_ b s
  ·intro b s hb hk he
   rw[qbz hb]at he|-
   have:=qgL k s (acc++[b]) (n+1) (by simp at hk;omega) he;simp only[KY];exact⟨by omega,by omega,this.2.2⟩
  ·intro r hk he
   rw[qfi]at he|-
   have:=qgL k r (acc++[34]) (n+2) (by simp at hk;omega) he;simp only[KY];exact⟨by omega,by omega,this.2.2⟩
  ·intro s hs hk he
   rw[qfk hs]at he|-
   by_cases ha:acc=[]
   ·rw[if_pos ha]at he
    exact absurd he (by simp[Nx.err])
   ·rw[if_neg ha]
    exact⟨Nat.lt_succ_self n,by simp,ha,rfl⟩
theorem qvV{s:Str}{i:Nat}(hi:i<s.length)(h34:s.getD i 0=34)(he:(qbO s i).e=0):NxOk s i (qbO s i):=by
 unfold qbO at he|-
 have:=qgL _ _ _ _ (KL _) he;rw[K6]at this;refine⟨by omega,by omega,this.2.2.1,fun _=>h34,fun e=>absurd this.2.2.2 e,?_,?_⟩<;>rw[this.2.2.2]<;>decide
theorem qwr{w1 w2 sg:Bool}{d0 d:Nat}{t:Nx}(hn:0<(qjR w1 w2 sg d0 d t).n):qjR w1 w2 sg d0 d t=t/\¬(0<d0/\w1=true)/\d≠0/\w2=false/\d<=18:=by
 unfold qjR at hn|-
 by_cases c1:0<d0/\w1=true
 ·rw[if_pos c1]at hn
  split at hn<;>exact absurd hn (by simp[Nx.err])
 rw[if_neg c1]at hn|-
 by_cases c2:d=0
 ·rw[if_pos c2]at hn
  exact absurd hn (by simp[Nx.err])
 rw[if_neg c2]at hn|-
 by_cases c3:w2=true
 ·rw[if_pos c3]at hn
  exact absurd hn (by simp[Nx.err])
 rw[if_neg c3]at hn|-
 by_cases c4:18<d
 ·rw[if_pos c4]at hn
  exact absurd hn (by simp[Nx.err])
 rw[if_neg c4];exact⟨rfl,c1,c2,by simpa using c3,by omega⟩
theorem qoV{s:Str}{i:Nat}(h:WS s i=true):QF s i=43\/QF s i=45:=by
 unfold WS at h;simp only[Ky,JW,decide_eq_true_eq]at h;exact h.1
theorem qyg{s:Str}{i:Nat}(h:qpG s i=true):QF s ((i:Int)+(n1E s i:Nat))=46/\YS (QF s ((i:Int)+(n1E s i:Nat)+1))=true/\i+n1E s i<s.length:=by
 unfold qpG at h;simp only[Ky,decide_eq_true_eq]at h;refine⟨h.1,h.2,qcA (i:=i+n1E s i) ?_⟩;rw[show((i+n1E s i:Nat):Int)=i+((n1E s i:Nat):Int) by omega,h.1];decide
theorem qAK{s:Str}{i:Nat}(hi:i<s.length):i+n1E s i<=s.length:=by
 have h0:=qef s (i+(WS s i).toNat) YS (by have:=Bool.toNat_le (WS s i);omega);unfold n1E d0E;omega
theorem qmC{s:Str}{i:Nat}(hi:i<s.length):i+Us s i<=s.length:=by
 unfold Us;split
 ·rename_i h
  have:=(qyg h).2.2;have:=qef s (i+n1E s i+1) YS (by omega);unfold qcF;omega
 ·exact qAK hi
theorem qrN{s:Str}{i:Nat}(h:qcD s i≠0):0<Us s i:=by
 unfold qcD at h;unfold Us;split
 ·omega
 ·rename_i c
  rw[if_neg c]at h;unfold n1E;omega
theorem qur{s:Str}{i:Nat}(hi:i<s.length)(hn:0<(WE s i).n):NxOk s i (WE s i):=by
 unfold WE at hn|-
 obtain⟨e,c1,c2,c3,c4⟩:=qwr hn;rw[e];refine qka hi (qrN c2) (qmC hi) (by decide) (by decide) (by decide) (qgj ?_);by_cases hs:WS s i=true
 ·have:=qoV hs
  rw[Wm hi]at this;rcases this with e|e<;>rw[e]<;>decide
 ·have hs:WS s i=false:=by simpa using hs
  by_cases hd:0<d0E s i
  ·unfold d0E at hd
   rw[hs]at hd;exact qsi (by have:=qkC (n:=1) (i:=i+0) hd 0 (by omega);simpa using this)
  ·have hq:qpG s i=true:=by
    cases hq:qpG s i with
    |true=>rfl
    |false=>
     unfold qcD at c2;rw[hq]at c2;simp at c2;omega
   have:=(qyg hq).1;have e9:n1E s i=0:=by
    unfold n1E;rw[hs];simp;omega
   rw[e9]at this;simp only[Vv,Int.add_zero]at this;rw[Wm hi]at this;rw[this];decide
theorem qzC{s:Str}{i:Nat}(hi:i<s.length)(hw:Yf (s.getD i 0)=true)(he:(qgF s i).e=0):NxOk s i (qgF s i):=by
 unfold qgF at he|-
 simp only at he|-
 have hp:=qhy hi hw;have hr:=qef s i Yf (by omega);have:=qmV hi hp;generalize Uf s i Yf=n at he hp hr this|-
 by_cases c1:((Wh ((s.drop i).take n)).all fun b=>YS b||decide (b=45))=true\/(Wh ((s.drop i).take n)).getD 0 0=45\/(Wh ((s.drop i).take n)).getD (n-1) 0=45
 ·rw[if_pos c1]at he
  exact absurd he (by simp[Nx.err])
 rw[if_neg c1]at he|-
 by_cases c2:30<n
 ·rw[if_pos c2]at he
  exact absurd he (by simp[Nx.err])
 rw[if_neg c2];exact⟨hp,hr,this.2,fun e=>absurd e (show ¬(1:UInt8)=3 by decide),fun _=>this.1,show 1<=(1:UInt8).toNat by decide,show(1:UInt8).toNat<=7 by decide⟩
theorem qzl{s:Str}{i:Nat}(hi:i<s.length)(he:(qfe s i).e=0):NxOk s i (qfe s i):=by
 unfold qfe at he|-
 split at he
 ·rename_i g hg
  have hm:=List.mem_of_find?_eq_some hg;have hp:=List.find?_some hg;have hpre:=Vw.1 hp;have hlen:=hpre.length_le;rw[K6]at hlen;obtain⟨r,hr⟩:=hpre;rw[qey hi]at hr;have key:∀g∈signs,0<g.length/\(g.getD 0 0).toNat<97:=by decide
  obtain⟨k1,k2⟩:=key g hm;refine qka hi k1 (by omega) (by decide) (by decide) (by decide) (qgj ?_);cases g with
  |nil=>simp at k1
  |cons x g=>
   simp only[Kh,List.cons.injEq]at hr;rw[<-hr.1];exact k2
 ·exact absurd he (by decide)
theorem next_ok{s:Str}{i:Nat}{l:List TokC}(hi:i<s.length)(h32:s.getD i 0≠32)(he:(Ug s i l).e=0):NxOk s i (Ug s i l):=by
 unfold Ug at he|-
 simp only at he|-
 split at he
 ·rename_i c
  rw[if_pos c];exact qrG hi h32 he
 rename_i c1
 rw[if_neg c1];split at he
 ·rename_i c
  rw[if_pos c];rw[Wm hi]at c;exact qvV hi c he
 rename_i c2
 rw[if_neg c2];split at he
 ·rename_i c
  rw[if_pos c];rw[Wm hi]at c;exact qka hi (by decide) (by omega) (by decide) (by decide) (by decide) (qgj (by rw[c.1];decide))
 rename_i c3
 rw[if_neg c3];split at he
 ·rename_i c
  rw[if_pos c];have hpre:=Vw.1 c;have hlen:=hpre.length_le;rw[K6]at hlen;obtain⟨r,hr⟩:=hpre;rw[qey hi]at hr;simp only[Kh,List.cons.injEq]at hr;exact qka hi (by decide) (by simp at hlen;omega) (by decide) (by decide) (by decide) (qgj (by rw[<-hr.1];decide))
 rename_i c4
 rw[if_neg c4];split at he
 ·rename_i c
  rw[if_pos c];exact qur hi (c.resolve_right (fun q=>q he))
 rename_i c5
 rw[if_neg c5];split at he
 ·rename_i c
  rw[if_pos c];rw[Wm hi]at c;exact qzC hi c.1 he
 rename_i c6
 rw[if_neg c6];exact qzl hi he
theorem qek:∀(k:Nat) (r acc:Str) (n:Nat),r.length<=k->(ZP r acc n).text.length<=acc.length+r.length
 |_,[],acc,n,_=>by rw[qfj];simp[Nx.err]
 |0,b::s,acc,n,hk=>by simp at hk
 |k+1,b::s,acc,n,hk=>by
  revert hk;refine qjk (fun b s=>(b::s).length<=k+1->(ZP (b::s) acc n).text.length<=acc.length+(b::s).length) ?_ ?_ ?_ b s
  ·intro b s hb hk
   rw[qbz hb];have:=qek k s (acc++[b]) (n+1) (by simp at hk;omega);simp only[Jc,KY,J9]at this|-
   omega
  ·intro r hk
   rw[qfi];have:=qek k r (acc++[34]) (n+2) (by simp at hk;omega);simp only[Jc,KY,J9]at this|-
   omega
  ·intro s hs hk
   rw[qfk hs];split
   ·simp[Nx.err]
   ·simp only[KY]
    omega
theorem qfV(s:Str)(i n:Nat)(k:UInt8):(takeE s i k n).text.length<=s.length:=by
 show((s.drop i).take n).length<=_
 rw[K5,K6];omega
theorem quu(s:Str)(i:Nat)(l:List TokC)(hi:i<s.length):(Ug s i l).text.length<=s.length+2:=by
 unfold Ug;simp only;split
 ·unfold Wz
  split
  ·show 2<=_
   omega
  ·simp only
   generalize Uf s i (fun b=> !decide (b=32))=n0;generalize (if qbj (QF s ((i:Int)+(n0:Int)-1))=true then(n0:Int)-1 else(n0:Int))=m;by_cases h1:m=0\/qbj (QF s ((i:Int)+m-1))=true
   ·rw[if_pos h1];simp[Nx.err]
   ·rw[if_neg h1]
    by_cases h2:(Wh ((s.drop i).take m.toNat)).contains 34=true
    ·rw[if_pos h2];simp[Nx.err]
    ·rw[if_neg h2]
     show(Vx qfC ((s.drop i).take m.toNat)).length<=_
     rw[Jp,K5,K6];omega
 split
 ·have:=qek _ (s.drop (i+1)) [] 1 (KL _)
  rw[K6]at this;unfold qbO;simp only[J9]at this;omega
 split
 ·have:=qfV s i 1 6;omega
 split
 ·have:=qfV s i 2 7;omega
 split
 ·unfold WE qjR
  have:=qfV s i (Us s i) 2;repeat' split
  all_goals first|(simp[Nx.err];done)|omega
 split
 ·unfold qgF
  simp only;generalize Uf s i Yf=n;by_cases c1:((Wh ((s.drop i).take n)).all fun b=>YS b||decide (b=45))=true\/(Wh ((s.drop i).take n)).getD 0 0=45\/(Wh ((s.drop i).take n)).getD (n-1) 0=45
  ·rw[if_pos c1];simp[Nx.err]
  rw[if_neg c1];by_cases c2:30<n
  ·rw[if_pos c2];simp[Nx.err]
  rw[if_neg c2];show(Vx qfC ((s.drop i).take n)).length<=_
  rw[Jp,K5,K6];omega
 ·unfold qfe
  split
  ·rename_i g hg
   have:=qfV s i g.length 5;omega
  ·simp[Nx.err]
end Go.Tok
namespace Go.Tok
open Go.Col (Str CardC FaultC okF qas atE quotes qdi)
set_option maxRecDepth 100000
def skp(s:Str)(next:Bool)(i:Nat):Prop:=QF s i=32\/(next=false/\qry (QF s i)=true/\QF s (i+1)=32)
instance (s:Str)(next:Bool)(i:Nat):Decidable (skp s next i):=by unfold skp;infer_instance
theorem qbm(s:Str)(next:Bool)(i:Nat):Yo s next i=if s.length<=i then i else if skp s next i then Yo s next (i+1)else i:=by
 unfold Yo;by_cases h:s.length<=i
 ·rw[if_pos h,show s.length-i=0 by omega]
  rfl
 ·rw[if_neg h,show s.length-i=(s.length-(i+1))+1 by omega,qrv,if_neg h]
  rfl
theorem qfY(s:Str)(next:Bool)(P:Nat->Nat->Prop)(h0:∀i,s.length<=i->P i i)(h1:∀i,i<s.length->¬skp s next i->P i i)(h2:∀i j,i<s.length->skp s next i->P (i+1) j->P i j):∀(k i:Nat),s.length<=i+k->P i (Yo s next i)
 |0,i,h=>by
  rw[qbm,if_pos (by omega)];exact h0 i (by omega)
 |k+1,i,h=>by
  rw[qbm];split
  ·exact h0 i (by assumption)
  ·rename_i hl
   split
   ·exact h2 i _ (by omega) (by assumption) (qfY s next P h0 h1 h2 k (i+1) (by omega))
   ·exact h1 i (by omega) (by assumption)
theorem qfd(s:Str)(next:Bool)(i:Nat):i<=Yo s next i:=
 qfY s next (fun i j=>i<=j) (fun _ _=>KL _) (fun _ _ _=>KL _) (fun _ _ _ _ h=>by omega) s.length i (by omega)
theorem qoU(s:Str)(next:Bool)(i:Nat)(hi:i<=s.length):Yo s next i<=s.length:=
 qfY s next (fun i j=>i<=s.length->j<=s.length) (fun _ _ h=>h) (fun _ _ _ h=>h) (fun _ _ _ _ h _=>h (by omega)) s.length i (by omega) hi
theorem qrw{s:Str}{next:Bool}{i:Nat}(h:Yo s next i<s.length):¬skp s next (Yo s next i):=
 qfY s next (fun _ j=>j<s.length->¬skp s next j) (fun _ h1 h2=>by omega) (fun _ _ h _=>h) (fun _ _ _ _ h=>h) s.length i (by omega) h
theorem qtR{s:Str}{i:Nat}(h:QF s i≠32):0<Uf s i (fun b=> !decide (b=32)):=by
 have hi:=qcA h;rw[Wm hi]at h;exact qhy hi (by simpa using h)
theorem drop_shift(w v:Str)(i:Nat):(w++v).drop (w.length+i)=v.drop i:=by
 rw[Vy,Vz (by omega),Je];congr 1;omega
def kt(t:TokC):UInt8×Str:=(t.kind,t.text)
def qic(t:Nx)(n:Nat):Int:=if t.e=0/\65536<=n then 3 else t.e
theorem qib{t:Nx}{n:Nat}(h:qic t n=0):t.e=0:=by
 unfold qic at h;split at h
 ·exact absurd h (by decide)
 ·exact h
theorem qku{s:Str}{next:Bool}{i:Nat}(h:Yo s next i<s.length):QF s (Yo s next i)≠32:=fun e=>qrw h (.inl e)
theorem qpp{s:Str}{l:List TokC}{i:Nat}(h:Yo s (Yl l).1 i<s.length)(he:(Ug s (Yo s (Yl l).1 i) l).e=0):NxOk s (Yo s (Yl l).1 i) (Ug s (Yo s (Yl l).1 i) l):=
 next_ok h (by have:=qku h;rwa [Wm h]at this) he
end Go.Tok
namespace Go.AM
def qeB(fn:Func):Code:=match fn.body with
 |some c=>c
 |none=> .skip
def UL:Nat->Code->Code
 |0,c=>c
 |k+1, .seq _ c=>UL k c
 |_+1,c=>c
def qjZ:Code->Code
 | .scope c=>c
 |c=>c
def qgf(Q:Exit->Slots->AHeap->Prop):Exit->Slots->AHeap->Prop
 | .goto _,_,_=>False
 |e,s,h=>Q e s h
theorem WF{Q:Exit->Slots->AHeap->Prop}{s:Slots}{h:AHeap}:qgf Q .ret s h=Q .ret s h:=rfl
theorem qnp{P:Program}{wz:World}{n:FrameK}{s:Slots}{h:AHeap}{Q:Exit->Slots->AHeap->Prop}{c:Code}(hc:Awp P wz n c (qgf Q) s h):Awp P wz n (.scope c) Q s h:=
 fun fi a w hr hs=>wp_scope_straight (wp_mono (hc fi a w hr hs) fun e a' w' hq=>by
  rcases hq with⟨Ps,s',h',h1,h2,h3,h4⟩|hq
  ·cases e with
   |goto l=>exact h4.elim
   |normal=>exact .inl ⟨Ps,s',h',h1,h2,h3,h4⟩
   |exit i=>exact .inl ⟨Ps,s',h',h1,h2,h3,h4⟩
   |ret=>exact .inl ⟨Ps,s',h',h1,h2,h3,h4⟩
   |panic c=>exact .inl ⟨Ps,s',h',h1,h2,h3,h4⟩
   |outgrown=>exact .inl ⟨Ps,s',h',h1,h2,h3,h4⟩
  ·cases e with
   |goto l=>exact hq.1.elim
   |normal=>exact hq.1.elim
   |exit i=>exact hq.1.elim
   |ret=>exact .inr hq
   |panic c=>exact .inr hq
   |outgrown=>exact hq.1.elim)
inductive IsL(wz:World)(h:AHeap)(es:Nat):AVal->List (List AVal)->Prop
 |nil:IsL wz h es .nilSlice []
 |mk (l:Loc) (o n:Nat) (c:Cap) (xs:List (List AVal)) (hn:n=xs.length) (hw:∀x∈xs,x.length=es) (hc:qf wz h l o (n*es)=xs.flatten) (hl:allLive xs.flatten=true) (hcap:match c with| .exact c=>n<=c| .grow g=>g=es):IsL wz h es (.slice l o n c) xs
theorem ZF{α:Type}{es:Nat}:∀{xs:List (List α)},(∀x∈xs,x.length=es)->xs.flatten.length=xs.length*es
 |[],_=>by simp
 |x::xs,h=>by
  rw[VA,Jc,ZF (fun y hy=>h y (Jg _ hy)),h x (Jf),KY,VB,VC]
theorem qfD{α:Type}{es:Nat}:∀{xs:List (List α)},(∀x∈xs,x.length=es)->∀{i j:Nat},i<xs.length->j<es->xs.flatten[i*es+j]?=(xs.getD i [])[j]?
 |[],_,_,_,hi,_=>by simp at hi
 |x::xs,h,0,j,_,hj=>by
  rw[VA,K8,Js,List.getElem?_append_left (by rw[h x Jf];exact hj)];rfl
 |x::xs,h,i+1,j,hi,hj=>by
  have hx:=h x Jf;rw[VA,VD (by rw[hx,VB];omega),hx,show(i+1)*es+j-es=i*es+j by rw[VB];omega,qfD (fun y hy=>h y (Jg _ hy)) (by simpa using hi) hj];rfl
theorem qhV{α:Type}{es:Nat}:∀{xs:List (List α)},(∀x∈xs,x.length=es)->∀i,xs.flatten.drop (i*es)=(xs.drop i).flatten
 |xs,_,0=>by simp
 |[],_,i+1=>by simp
 |x::xs,h,i+1=>by
  have hx:=h x Jf;rw[VA,VE,<-qhV (fun y hy=>h y (Jg _ hy)) i,VB,Vy,Vz (by omega),Je,show i*es+es-x.length=i*es by omega]
theorem qhU{α:Type}{es:Nat}:∀{xs:List (List α)},(∀x∈xs,x.length=es)->∀i,xs.flatten.take (i*es)=(xs.take i).flatten
 |xs,_,0=>by simp
 |[],_,i+1=>by simp
 |x::xs,h,i+1=>by
  have hx:=h x Jf;rw[VA,Ki,VA,<-qhU (fun y hy=>h y (Jg _ hy)) i,VB,VC,List.take_append,Jr (by omega),show es+i*es-x.length=i*es by omega]
theorem qbc:∀(a c:List AVal),allLive (a++c)=(allLive a && allLive c)
 |[],_=>rfl
 |x::a,c=>by simp[allLive,qbc a c,Vp]
theorem YB:∀{xs:List (List AVal)},allLive xs.flatten=true↔∀x∈xs,allLive x=true
 |[]=>by simp[allLive]
 |x::xs=>by
  rw[VA,qbc,Ky,YB];simp
theorem qfK:∀(a c:List AVal),Qt (a++c)=(Qt a && Qt c)
 |[],_=>rfl
 |x::a,c=>by simp[Qt,qfK a c,Vp]
theorem YT:∀{xs:List (List AVal)},Qt xs.flatten=true↔∀x∈xs,Qt x=true
 |[]=>by simp[Qt]
 |x::xs=>by
  rw[VA,qfK,Ky,YT];simp
theorem Yu{x:AVal}(h:x.scal=true):x.live=true:=by cases x<;>first|rfl|cases h
theorem qiw:∀{xs:List AVal},Qt xs=true->allLive xs=true
 |[],_=>rfl
 |x::xs,h=>by
  simp only[Qt,Ky]at h;simp only[allLive,Ky];exact⟨Yu h.1,qiw h.2⟩
def qhs(es:Nat):AVal->Nat->Nat->AVal
 | .slice l o _ (.exact c),i,j=> .slice l (o+i*es) (j-i) (.exact (c-i))
 | .slice l o _ (.grow g),i,j=> .slice l (o+i*es) (j-i) (.grow g)
 |v,_,_=>v
section
variable {P:Program} {wz:World} {h:AHeap} {es:Nat} {v:AVal} {xs:List (List AVal)}
theorem IsL.live(hb:IsL wz h es v xs):v.live=true:=by cases hb<;>rfl
theorem IsL.scal(hb:IsL wz h es v xs):v.scal=true:=by cases hb<;>rfl
theorem IsL.cells(hb:IsL wz h es v xs):v.cells=[v]:=by cases hb<;>rfl
theorem IsL.wide(hb:IsL wz h es v xs):∀x∈xs,x.length=es:=by
 cases hb with
 |nil=>simp
 |mk l o n c xs hn hw hc hl hcap=>exact hw
theorem IsL.allLive(hb:IsL wz h es v xs):allLive xs.flatten=true:=by
 cases hb with
 |nil=>rfl
 |mk l o n c xs hn hw hc hl hcap=>exact hl
theorem IsL.len(hb:IsL wz h es v xs){t e:TypeId}(ht:P.underlying t=some (.slice e)):∀H:AHeap,YN P H t v=⟨True, .int .i64 xs.length⟩:=by
 intro H;cases hb with
 |nil=>simp[YN,qaB,qkN,ht]
 |mk l o n c xs hn hw hc hl hcap=>simp[YN,qaB,qkN,ht,hn]
theorem IsL.open(hb:IsL wz h es v xs)(hx:xs≠[]):∃l o c,v= .slice l o xs.length c:=by
 cases hb with
 |nil=>exact absurd rfl hx
 |mk l o n c xs hn hw hc hl hcap=>subst hn;exact⟨l,o,c,rfl⟩
theorem IsL.open'(hb:IsL wz h es v xs):(v= .nilSlice/\xs=[])\/∃l o c,v= .slice l o xs.length c:=by
 cases hb with
 |nil=>exact .inl ⟨rfl,rfl⟩
 |mk l o n c xs hn hw hc hl hcap=>subst hn;exact .inr ⟨l,o,c,rfl⟩
theorem IsL.part{l:Loc}{o n:Nat}{c:Cap}(hb:IsL wz h es (.slice l o n c) xs){i j:Nat}(hij:i<=j)(hj:j<=xs.length):qf wz h l (o+i*es) ((j-i)*es)=((xs.drop i).take (j-i)).flatten:=by
 cases hb with
 |mk l o n c xs hn hw hc hl hcap=>
  subst hn;have h1:i*es<=j*es:=K9 _ hij;have h2:j*es<=xs.length*es:=K9 _ hj;rw[Nat.sub_mul,qim wz h l o (xs.length*es) (i*es) (j*es) h1 h2,hc,qhV hw,<-Nat.sub_mul,qhU (fun y hy=>hw y (VF hy))]
theorem IsL.elem{l:Loc}{o n:Nat}{c:Cap}(hb:IsL wz h es (.slice l o n c) xs){i:Nat}(hi:i<xs.length):qf wz h l (o+i*es) es=xs.getD i []:=by
 have:=hb.part (i:=i) (j:=i+1) (by omega) hi;rw[show i+1-i=1 by omega,Nat.one_mul]at this;rw[this,List.take_one,List.head?_drop,JA hi];simp[Ko,hi]
theorem IsL.at{l:Loc}{o n:Nat}{c:Cap}(hb:IsL wz h es (.slice l o n c) xs){i j:Nat}(hi:i<xs.length)(hj:j<es):rd wz h l (o+i*es+j)=(xs.getD i []).getD j .dead:=by
 have:=qaN wz h l es (o+i*es) j hj;rw[hb.elem hi]at this;rw[Ko,this];rfl
theorem IsL.at0{l:Loc}{o n:Nat}{c:Cap}(hb:IsL wz h es (.slice l o n c) xs){i:Nat}(hi:i<xs.length)(hj:0<es):rd wz h l (o+i*es)=(xs.getD i []).getD 0 .dead:=hb.at (j:=0) hi hj
theorem IsL.sub(hb:IsL wz h es v xs){i j:Nat}(hij:i<=j)(hj:j<=xs.length):IsL wz h es (qhs es v i j) ((xs.drop i).take (j-i)):=by
 have hb':=hb;cases hb with
 |nil=>
  simp only[qhs,List.drop_nil,List.take_nil];exact .nil
 |mk l o n c xs hn hw hc hl hcap=>
  subst hn;have e1:=hb'.part hij hj;have e2:AM.allLive ((xs.drop i).take (j-i)).flatten=true:=YB.2 fun x hx=>YB.1 hl x (VF (VG hx));cases c with
  |exact c=>exact .mk l _ _ _ _ (by simp;omega) (fun x hx=>hw x (VF (VG hx))) e1 e2 (by simp only at hcap|-;omega)
  |grow g=>exact .mk l _ _ _ _ (by simp;omega) (fun x hx=>hw x (VF (VG hx))) e1 e2 hcap
theorem IsL.slice(hb:IsL wz h es v xs){t e:TypeId}(ht:P.underlying t=some (.slice e))(hs:Yz P e=some es)(lo hi:Option AVal){l r:Int}(hl:qci lo 0=some l)(hr:qci hi xs.length=some r)
 (h0:0<=l) (h1:l<=r) (h2:r<=xs.length):YR P t v lo hi none=⟨True,qhs es v l.toNat r.toNat⟩:=by
 cases hb with
 |nil=>
  simp only[J9]at h2 hr;have e1:l=0:=by omega
  have e2:r=0:=by omega
  subst e1 e2;simp only[YR,ht,hs,hl,hr,qhs,and_self]
 |mk lc o n c xs hn hw hc hl' hcap=>
  subst hn;have e:(r-l).toNat=r.toNat-l.toNat:=by omega
  cases c with
  |exact c=>
   simp only at hcap;have e3:((c:Int)-l).toNat=c-l.toNat:=by omega
   have e4:r<=c:=by omega
   simp only[YR,ht,hs,hl,hr,qhs,e,e3,h0,h1,e4,and_self]
  |grow g=>
   simp only at hcap;subst hcap;simp only[YR,ht,hs,hl,hr,qhs,e,h0,h1,h2,and_self]
def Yp:AVal->AVal
 | .slice l o n _=> .slice l o n (.exact n)
 |v=>v
theorem IsL.clip(hb:IsL wz h es v xs):IsL wz h es (Yp v) xs:=by
 cases hb with
 |nil=>exact .nil
 |mk l o n c xs hn hw hc hl hcap=>exact .mk l o n _ xs hn hw hc hl (KL _)
theorem IsL.slice3(hb:IsL wz h es v xs){t e:TypeId}(ht:P.underlying t=some (.slice e))(hs:Yz P e=some es)(k k':IntKind)(lo:Option AVal)(hl:qci lo 0=some 0):YR P t v lo (some (.int k xs.length)) (some (.int k' xs.length))=⟨True,Yp v⟩:=by
 cases hb with
 |nil=>simp only[YR,ht,hs,hl,qah,Yp,J9,JK,Vv,and_self]
 |mk lc o n c xs hn hw hc hl' hcap=>
  subst hn;have z0:(0:Int).toNat=0:=rfl;have e1:((xs.length:Int)-0).toNat=xs.length:=by omega
  cases c with
  |exact c=>
   simp only at hcap;have e4:(xs.length:Int)<=c:=by omega
   simp only[YR,ht,hs,hl,qah,Yp,z0,e1,K8,K7,JK,e4,VH,Int.le_refl,and_self]
  |grow g=>simp only[YR,ht,hs,hl,qah,Yp,z0,e1,K8,K7,JK,VH,Int.le_refl,and_self]
theorem qin{l:Loc}{h h':AHeap}(hs:Sub h h'):∀(m o:Nat),allLive (qf wz h l o m)=true->qf wz h' l o m=qf wz h l o m:=by
 intro m;induction m with
 |zero=>intro o _;rfl
 |succ m ih=>
  intro o hl;simp only[qf,AM.allLive,Ky]at hl|-
  rw[ih _ hl.2];congr 1;cases l with
  |base b=>rfl
  |own k=>
   have hl1:=hl.1;unfold AM.rd at hl1|-
   cases hk:h k with
   |none=>simp[hk,JO]at hl1
   |some b=>simp only[hk,hs k b hk]
theorem IsL.mono(hb:IsL wz h es v xs){h':AHeap}(hs:Sub h h'):IsL wz h' es v xs:=by
 cases hb with
 |nil=>exact .nil
 |mk l o n c xs hn hw hc hl hcap=>exact .mk l o n c xs hn hw ((qin hs _ _ (by rw[hc];exact hl)).trans hc) hl hcap
theorem IsL.own{k:Nat}{b:Blk}(hk:h k=some b)(hw:∀x∈xs,x.length=es)(hc:b.cells=xs.flatten)(hl:AM.allLive xs.flatten=true)(c:Cap)(hcap:match c with| .exact c=>xs.length<=c| .grow g=>g=es):IsL wz h es (.slice (.own k) 0 xs.length c) xs:=by
 refine .mk _ _ _ _ _ rfl hw ?_ hl hcap;have e:=ZF hw;rw[qjD hk 0 _ (by rw[hc,e];omega),KQ,hc,Jr (by omega)]
theorem IsL.src(hb:IsL wz h es v xs):qec v=some xs.length/\qeb wz h es xs.length v/\ZV wz h es xs.length v=xs.flatten:=by
 cases hb with
 |nil=>exact⟨rfl,trivial,rfl⟩
 |mk l o n c xs hn hw hc hl hcap=>
  subst hn;refine⟨rfl,?_,hc⟩;show AM.allLive (qf wz h l o (xs.length*es))=true
  rw[hc];exact hl
theorem IsL.buf{hZ:AHeap}{b:Option Buf}(hb:bufOk hZ es b)(hes:0<es)(hc:Yh b=xs.flatten)(hw:∀x∈xs,x.length=es)(hs:Sub (Ql hZ b) h):IsL wz h es (QH es b) xs:=by
 cases b with
 |none=>
  have e:=ZF hw;rw[<-hc]at e;have e0:xs.length*es=0:=by rw[<-e];rfl
  have:xs=[]:=by
   rcases Nat.mul_eq_zero.1 e0 with e1|e1
   ·exact Kg e1
   ·omega
  subst this;exact .nil
 |some b=>
  have hc':b.cells=xs.flatten:=hc;have e:b.cells.length / es=xs.length:=by rw[hc',ZF hw,Vo _ hes]
  show IsL wz h es (.slice (.own b.blk) 0 (b.cells.length / es) (.grow es)) xs
  rw[e];exact IsL.own (hs _ _ (Ve _ _ _)) hw hc' (by rw[<-hc'];exact hb.2.2) (.grow es) rfl
end
theorem qlF{H:AHeap}{es:Nat}{b:Buf}(hb:bufOk H es (some b)){j:Nat}{c:Blk}(hj:H j=some c):j≠b.blk:=fun e=>by
 subst e;have:=hb.1;rw[hj]at this;cases this
theorem ZY{H:AHeap}{es:Nat}{b:Option Buf}(hb:bufOk H es b){j:Nat}{c:Blk}(hj:H j=some c):Ql H b j=some c:=by
 cases b with
 |none=>exact hj
 |some b=>exact(Vd _ _ (qlF hb hj)).trans hj
theorem qgC(wz:World){H:AHeap}{es:Nat}{b:Option Buf}(hb:bufOk H es b){j:Nat}{c:Blk}(hj:H j=some c)(o:Nat):rd wz (Ql H b) (.own j) o=c.cells.getD o .dead:=QB wz (ZY hb hj) o
theorem Wv{H:AHeap}{es:Nat}{b:Option Buf}(hb:bufOk H es b){j:Nat}{c:Blk}(hj:H j=some c)(c':Blk):(Ql H b).set j c'=Ql (H.set j c') b:=by
 cases b with
 |none=>rfl
 |some b=>exact(Vj _ _ _ (Ne.symm (qlF hb hj))).symm
theorem Yk{H:AHeap}{es:Nat}{b:Option Buf}(hb:bufOk H es b){j:Nat}{c:Blk}(hj:H j=some c)(c':Blk):bufOk (H.set j c') es b:=by
 cases b with
 |none=>trivial
 |some b=>
  refine⟨?_,hb.2⟩;rw[Vd _ _ (Ne.symm (qlF hb hj))];exact hb.1
theorem qhT{D E:List AVal}{m:Nat}(h:D.length=m)(j:Nat):(D++E).getD (m+j) .dead=E.getD j .dead:=by
 simp only[Ko];rw[VD (by omega),show m+j-D.length=j by omega]
theorem qds{D:List AVal}{m:Nat}(h:D.length=m):∀(vs E:List AVal) (j:Nat),setAt (D++E) (m+j) vs=D++setAt E j vs
 |[],_,_=>rfl
 |v::vs,E,j=>by
  simp only[setAt];rw[VI _ _ (by omega),show m+j-D.length=j by omega,Nat.add_assoc,qds h vs]
section
variable {α:Type} {wz:World} {h:AHeap} {es:Nat} {v:AVal} {enc:α->List AVal} {ys:List α}
theorem getD_map(d:α){i:Nat}(hi:i<ys.length):(ys.map enc).getD i []=enc (ys.getD i d):=by
 simp[Ko,hi]
end
section
variable {P:Program} {wz:World} {ops rest:List Oper} {s:Slots} {h:AHeap} {K:Slots->AHeap->Prop} {dst:Option Tmp} {ty:TypeId} {pos:String} {af:Array Edge}
theorem qdR{r:PR}:agL P wz ops rest s h K dst (.bool true) false r=QO P wz ops rest (putD s dst (.tuple [])) h K:=by
 unfold agL agP;simp[Wu,Xk,QK]
theorem qdS{r:PR}:agL P wz ops rest s h K dst (.bool false) true r=QO P wz ops rest (putD s dst (.tuple [])) h K:=by
 unfold agL agP;simp[Wu,Xk,QK]
theorem qnt{r:PR}(want:Bool):agL P wz ops rest s h K dst (.tuple []) want r=QO P wz ops rest (putD s dst (.tuple [])) h K:=by
 unfold agL agP;simp[Wu,Xk,QK]
theorem Xt{ts:Array TypeId}{t u e:TypeId}{d:TypeDesc}{x y:Operand}{v:AVal}{es by':Nat}{z:Value}{zs xs:List (List AVal)}{hZ:AHeap}{b:Option Buf}
 (h0:ts[0]?=some t) (h1:ts[1]?=some u) (ht:P.underlying t=some (.slice e)) (hu:P.underlying u=some d) (hd:∀k,d≠ .int k)
 (hs:Yz P e=some es) (hb:qgz P e=some by') (hz:Uk P e=some z) (hzs:z.cells.size=es) (hes:es≠0)
 (hx:ev s x=QH es b) (hok:bufOk hZ es b) (hbz:Yh b=zs.flatten) (hzw:∀x∈zs,x.length=es) (hh:Sub (Ql hZ b) h) (hy:ev s y=v) (hv:IsL wz h es v xs) (hsc:Qt xs.flatten=true)
 (hl:(zs.length+xs.length)*by'<=140737488355328) (hl':zs.length+xs.length<4611686018427387904)
 (hk:∀b' h',bufOk hZ es b'->Yh b'=(zs++xs).flatten->Sub (Ql hZ b') h'->QO P wz ops rest (putD s dst (QH es b')) h' K):
 QO P wz ops (⟨dst, .call ⟨.builtin .append,[x,y].toArray,ts⟩,ty,pos,af,none⟩::rest) s h K:=by
 obtain⟨s1,s2,s3⟩:=hv.src;have e:(Yh b).length / es=zs.length:=by rw[hbz,ZF hzw,Vo _ (Vn hes)]
 refine qlV (es:=es) (src:=xs.flatten) (m:=xs.length) h0 h1 ht hu hd hs hb hz hzs hes hx hok hh hy s1 s2 s3 (ZF hv.wide) hsc hv.allLive (by rw[e];exact hl) (by rw[e];exact hl') fun b' h' o1 o2 o3=>?_;exact hk b' h' o1 (by rw[o2,hbz,List.flatten_append]) o3
end
end Go.AM
namespace Go.AM
open Go.RowKit (Below)
section
variable {P:Program} {wz:World} {n:FrameK}
def qiK(P:Program)(wz:World)(l:List Oper):Nat->List Oper->Slots->AHeap->(Slots->AHeap->Prop)->Prop
 |_,[],s,h,K=>K s h
 |0,o::r,s,h,K=>QO P wz l (o::r) s h K
 |m+1,o::r,s,h,K=>QO P wz l [o] s h fun s' h'=>Sub h h'/\qiK P wz l m r s' h' K
theorem qcJ{l:List Oper}{m:Nat}{s:Slots}{h:AHeap}{K:Slots->AHeap->Prop}:qiK P wz l m [] s h K=K s h:=by cases m<;>rfl
theorem qco{l:List Oper}{m:Nat}{o:Oper}{r:List Oper}{s:Slots}{h:AHeap}{K:Slots->AHeap->Prop}:qiK P wz l (m+1) (o::r) s h K=QO P wz l [o] s h fun s' h'=>Sub h h'/\qiK P wz l m r s' h' K:=rfl
theorem quE{l:List Oper}{o:Oper}{r:List Oper}{s:Slots}{h:AHeap}{K:Slots->AHeap->Prop}:qiK P wz l 0 (o::r) s h K=QO P wz l (o::r) s h K:=rfl
theorem AHeap.ne_some{h:AHeap}{k j:Nat}{b:Blk}(hk:h k=none)(hj:h j=some b):k≠j:=fun e=>by subst e;rw[hk]at hj;cases hj
theorem Yt(h:AHeap):Sub h h=True:=eq_true (Vm h)
theorem qlU{l:List Oper}{o:Oper}{r:List Oper}{s:Slots}{h:AHeap}{K:Slots->AHeap->Prop}(ha:QO P wz l (o::r) s h K):QO P wz l [o] s h fun s' h'=>QO P wz l r s' h' K:=by
 simp only[QO]at ha|-
 exact ha
theorem qaL{l:List Oper}{o:Oper}{s:Slots}{h:AHeap}{K K':Slots->AHeap->Prop}(hk:∀s h,K s h->K' s h)(ha:QO P wz l [o] s h K):QO P wz l [o] s h K':=by
 simp only[QO]at ha|-
 split
 ·rename_i hg
  rw[hg]at ha;exact qcK ha fun x h' hx=>hk _ _ hx
 ·rename_i j want hg
  rw[hg]at ha;simp only at ha;split
  ·rename_i hj
   rw[hj]at ha;exact hk _ _ ha
  ·rename_i d hj
   rw[hj]at ha;refine⟨ha.1,?_⟩;have h2:=ha.2;split
   ·rename_i hp
    rw[if_pos hp]at h2;exact⟨h2.1,hk _ _ h2.2⟩
   ·rename_i hp
    rw[if_neg hp]at h2;exact⟨fun e=>qcK (h2.1 e) fun x h' hx=>hk _ _ hx,fun e=>hk _ _ (h2.2 e)⟩
theorem qmU{l:List Oper}{K K':Slots->AHeap->Prop}(hk:∀s h,K s h->K' s h):∀{r:List Oper} {m:Nat} {s:Slots} {h:AHeap},qiK P wz l m r s h K->qiK P wz l m r s h K'
 |[],m,s,h,ha=>by rw[qcJ]at ha|-;exact hk _ _ ha
 |o::r,0,s,h,ha=>awp_rseq.aOps_mono hk ha
 |o::r,m+1,s,h,ha=>qaL (fun s' h' hx=>⟨hx.1,qmU hk hx.2⟩) ha
def LookOk(Ps:PMap)(n:FrameK)(l:List Oper)(o:Oper)(S:Slots)(a:Act):Prop:=a.tmps.size=n/\a.defers=n.dfr/\∀t∈QS l o,VR Ps (S.get t) (a.tmps.getD t undef)
theorem LookOk.rel{Ps:PMap}{l:List Oper}{o:Oper}{S:Slots}{a:Act}(h:LookOk Ps n l o S a):SRel Ps n (S.keep (QS l o)) a:=by
 refine⟨h.1,h.2.1,fun t=>?_⟩;rw[JR];by_cases ht:(QS l o).contains t=true
 ·rw[if_pos ht];exact h.2.2 t (by simpa using ht)
 ·rw[if_neg ht];trivial
theorem qlh{Ps:PMap}{l:List Oper}(hall:Xl n l=true){o:Oper}{S:Slots}{a:Act}(h:LookOk Ps n l o S a){j d:Nat}{want:Bool}(hg:o.guard=some (j,want))(hj:qM l j=some d)(hk:Wu (S.get d)=true):
 Region.wanted o (yielded l.toArray a.tmps)=Xk (S.get d) want:=by
 have hd:(S.keep (QS l o)).get d=S.get d:=by
  rw[JR,if_pos];simp[QS,hg,hj]
 have:=qfz h.rel l j d hj (qbT l j d hall hj) (by rw[hd];exact hk) want;rw[hd]at this;simp only[Region.wanted,hg];exact this
theorem qjv{l:List Oper}{o:Oper}{j:Nat}{want:Bool}{a:Act}(hg:o.guard=some (j,want))(hj:qM l j=none):Region.wanted o (yielded l.toArray a.tmps)=false:=by
 have hd:(l.toArray[j]?).bind (·.dst)=none:=by rw[<-hj,Yv];simp
 simp only[Region.wanted,hg,yielded,hd];rfl
theorem qfr{l:List Oper}(hall:Xl n l=true){o:Oper}{S:Slots}{g:AHeap}{K:Slots->AHeap->Prop}(ha:QO P wz l [o] S g K){Ps:PMap}{w:World}{a:Act}(hr:HRel wz Ps g w)(hl:LookOk Ps n l o S a)
 {next:Act->World->Prop} {Q:Exit->Act->World->Prop} (hn:∀ψ' x h' v w',Ps.le ψ'->HRel wz ψ' h' w'->VR ψ' x v->K (putD S o.dst x) h'->next (a.put o.dst v) w'):
 if Region.wanted o (yielded l.toArray a.tmps)=true then o.wp P a w next Q else next (a.put o.dst undef) w:=by
 have hs:=hl.rel;have run:∀(K':AVal->AHeap->Prop),eop P wz g S o.op K'->(∀x h',K' x h'->K (putD S o.dst x) h')->o.wp P a w next Q:=fun K' he hk=>by
  rw[<-qdL (s':=S.keep (QS l o)) o.op (qfH fun t ht=>by unfold QS;exact J6 _ ht)]at he;exact qiP o he hr hs fun ψ' x h' v w' e1 e2 e3 e4=>hn ψ' x h' v w' e1 e2 e3 (hk x h' e4)
 have skip:K (putD S o.dst (.tuple [])) g->next (a.put o.dst undef) w:=fun hk=>hn Ps _ g undef w Ps.le_refl hr (WI Ps) hk;simp only[QO]at ha;cases hg:o.guard with
 |none=>
  simp only[hg]at ha;have hw:Region.wanted o (yielded l.toArray a.tmps)=true:=by simp[Region.wanted,hg]
  rw[if_pos hw];exact run _ ha fun _ _ hk=>hk
 |some gw=>
  obtain⟨j,want⟩:=gw;simp only[hg]at ha;cases hj:qM l j with
  |none=>
   simp only[hj]at ha;rw[if_neg (by rw[qjv hg hj];decide)];exact skip ha
  |some d=>
   simp only[hj]at ha;obtain⟨hk,ha⟩:=ha;rw[qlh hall hl hg hj hk];split at ha
   ·rename_i hp
    obtain⟨h1,h2⟩:=ha;cases hb:Xk (S.get d) want with
    |true=>
     simp only[hb,QK,cond_true]at h2;simp only[if_true];exact run (fun x h'=>x=(pop P wz g S o.op).val/\h'=g) ((qad hp).2 ⟨h1 hb,rfl,rfl⟩) fun x h' ⟨e1,e2⟩=>by subst e1 e2;exact h2
    |false=>
     simp only[hb,QK,cond_false]at h2;simp only[KW,if_false];exact skip h2
   ·obtain⟨h1,h2⟩:=ha
    cases hb:Xk (S.get d) want with
    |true=>
     simp only[if_true];exact run _ (h1 hb) fun _ _ hk=>hk
    |false=>
     simp only[KW,if_false];exact skip (h2 hb)
def FactR(P:Program)(wz:World)(n:FrameK)(l:List Oper)(g:AHeap)(S:Slots)(o:Oper)(V:AVal):Prop:=
 ∀(Ps:PMap) (w:World) (a:Act) (g':AHeap) (next:Act->World->Prop) (Q:Exit->Act->World->Prop),Sub g g'->HRel wz Ps g' w->LookOk Ps n l o S a->(∀v,VR Ps V v->next (a.put o.dst v) w)->
  if Region.wanted o (yielded l.toArray a.tmps)=true then o.wp P a w next Q else next (a.put o.dst undef) w
theorem FactR.sub{l:List Oper}{g g':AHeap}{S:Slots}{o:Oper}{V:AVal}(h:FactR P wz n l g S o V)(hs:Sub g g'):FactR P wz n l g' S o V:=
 fun Ps w a g₂ next Q h1 h2 h3 h4=>h Ps w a g₂ next Q (Sub.trans hs h1) h2 h3 h4
theorem FactR.slots{l:List Oper}{g:AHeap}{S S':Slots}{o:Oper}{V:AVal}(h:FactR P wz n l g S o V)(hs:∀t∈QS l o,S'.get t=S.get t):FactR P wz n l g S' o V:=
 fun Ps w a g₂ next Q h1 h2 h3 h4=>h Ps w a g₂ next Q h1 h2 ⟨h3.1,h3.2.1,fun t ht=>by rw[<-hs t ht];exact h3.2.2 t ht⟩ h4
theorem qgm{l:List Oper}(hall:Xl n l=true){o:Oper}(hk2:ZW P o.op=2){S:Slots}{g:AHeap}{K:Slots->AHeap->Prop}(ha:QO P wz l [o] S g K):∃V,K (putD S o.dst V) g/\FactR P wz n l g S o V:=by
 have hp:=qrV hk2;have same:pop P wz g (S.keep (QS l o)) o.op=pop P wz g S o.op:=qgd o.op (qfH fun t ht=>by unfold QS;exact J6 _ ht);have run:(pop P wz g S o.op).pre->∀(Ps:PMap) (w:World) (a:Act) (g':AHeap) (next:Act->World->Prop) (Q:Exit->Act->World->Prop),Sub g g'->HRel wz Ps g' w->LookOk Ps n l o S a->(∀v,VR Ps (pop P wz g S o.op).val v->next (a.put o.dst v) w)->o.wp P a w next Q:=by
  intro hpre Ps w a g' next Q h1 h2 h3 h4;rw[<-same]at hpre h4;have up:=qwb (g:=g') hk2 (fun k b hb _=>h1 k b hb) h3.rel hpre;rw[<-up]at hpre h4;obtain⟨r,e1,e2⟩:=qkJ o hpre h2 h3.rel;exact Zg (e1 w (JQ w)) (h4 r e2)
 simp only[QO]at ha;cases hg:o.guard with
 |none=>
  simp only[hg]at ha;rw[qad hp]at ha;refine⟨_,ha.2,fun Ps w a g' next Q h1 h2 h3 h4=>?_⟩;have hw:Region.wanted o (yielded l.toArray a.tmps)=true:=by simp[Region.wanted,hg]
  rw[if_pos hw];exact run ha.1 Ps w a g' next Q h1 h2 h3 h4
 |some gw=>
  obtain⟨j,want⟩:=gw;simp only[hg]at ha;cases hj:qM l j with
  |none=>
   simp only[hj]at ha;refine⟨_,ha,fun Ps w a g' next Q h1 h2 h3 h4=>?_⟩;rw[if_neg (by rw[qjv hg hj];decide)];exact h4 _ (WI Ps)
  |some d=>
   simp only[hj]at ha;obtain⟨hk,ha⟩:=ha;rw[if_pos hp]at ha;obtain⟨h1,h2⟩:=ha;refine⟨_,h2,fun Ps w a g' next Q q1 q2 q3 q4=>?_⟩;rw[qlh hall q3 hg hj hk];cases hb:Xk (S.get d) want with
   |true=>
    simp only[hb,QK,cond_true]at q4;simp only[if_true];exact run (h1 hb) Ps w a g' next Q q1 q2 q3 q4
   |false=>
    simp only[hb,QK,cond_false]at q4;simp only[KW,if_false];exact q4 _ (WI Ps)
def Zy(l:List Oper)(π:List Nat):List Oper:=π.filterMap fun i=>l[i]?
def isF(P:Program)(l:List Oper)(i:Nat):Bool:=match l[i]? with
 |some o=>ZW P o.op==2
 |none=>true
def qnZ(P:Program)(l:List Oper)(π:List Nat)(ws:List (Option Nat))(m:Nat):Bool:=
 Uo l && (π.all fun i=>decide (i<l.length)) && ((KP l.length).all fun i=>π.contains i) &&
 ((KP π.length).all fun q=>(KP π.length).all fun r=>decide (q=r)|| !(π.getD q 0==π.getD r 0)) &&
 ((KP π.length).all fun q=>match ws.getD q none with
   |none=>(KP q).all fun c=>isF P l (π.getD c 0)
   |some r=>decide (r<q) && Region.waitsFor .any l.toArray (π.getD q 0) (π.getD r 0) && (KP q).all fun c=>decide (c<=r)||isF P l (π.getD c 0)) &&
 ((KP π.length).all fun q=>match l[π.getD q 0]? with
   |none=>true
   |some o=>(KP π.length).all fun r=>match l[π.getD r 0]? with
    |none=>true
    |some oj=>(match oj.dst with
     |none=>true
     |some t=> !(QS l o).contains t||(decide (r<q) && Region.waitsFor .any l.toArray (π.getD q 0) (π.getD r 0)))) &&
 decide (m<=π.length) && ((KP π.length).all fun q=>decide (q<m)|| !isF P l (π.getD q 0)) &&
 (decide (m=π.length)||(KP m).all fun q=>(KP (m+1)).any fun r=>decide (q<r) && Region.waitsFor .any l.toArray (π.getD r 0) (π.getD q 0))
structure FloatP(P:Program)(l:List Oper)(π:List Nat)(m:Nat):Prop where
 order:Uo l=true
 inr:∀q,q<π.length->π.getD q 0<l.length
 onto:∀i,i<l.length->∃q,q<π.length/\π.getD q 0=i
 inj:∀q r,q<π.length->r<π.length->π.getD q 0=π.getD r 0->q=r
 wait:∀q c,q<π.length->c<q->isF P l (π.getD c 0)=false->∃r,c<=r/\r<q/\Region.waitsFor .any l.toArray (π.getD q 0) (π.getD r 0)=true
 data:∀q r o oj t,q<π.length->r<π.length->l[π.getD q 0]?=some o->l[π.getD r 0]?=some oj->oj.dst=some t->t∈QS l o->r<q/\Region.waitsFor .any l.toArray (π.getD q 0) (π.getD r 0)=true
 mle:m<=π.length
 tail:∀q,m<=q->q<π.length->isF P l (π.getD q 0)=false
 sink:m<π.length->∀q,q<m->∃r,q<r/\r<=m/\Region.waitsFor .any l.toArray (π.getD r 0) (π.getD q 0)=true
theorem qpC{l:List Oper}{π:List Nat}{ws:List (Option Nat)}{m:Nat}(h:qnZ P l π ws m=true):FloatP P l π m:=by
 unfold qnZ at h;simp only[Ky]at h;obtain⟨⟨⟨⟨⟨⟨⟨⟨h1,h2⟩,h3⟩,h4⟩,h5⟩,h6⟩,h7⟩,h8⟩,h9⟩:=h;simp only[JD,JE]at h2 h3 h4 h5 h6 h8;refine⟨h1,fun q hq=>?_,fun i hi=>?_,fun q r hq hr e=>?_,fun q c hq hc hf=>?_,fun q r o oj t hq hr ho hoj hd ht=>?_,by simpa using h7,fun q hm hq=>?_,fun hm q hq=>?_⟩
 ·have:=h2 (π.getD q 0) (by rw[Ko,JA hq];exact VJ hq)
  simpa using this
 ·have:=h3 i hi
  rw[JX]at this;obtain⟨q,hq,e⟩:=List.getElem_of_mem this;exact⟨q,hq,by rw[Ko,JA hq];exact e⟩
 ·have:=h4 q hq r hr
  rw[JW,decide_eq_true_eq]at this;rcases this with e'|e'
  ·exact e'
  ·rw[e]at e';simp at e'
 ·have:=h5 q hq
  split at this
  ·rw[JD]at this
   rw[this c (JE.2 hc)]at hf;cases hf
  ·rename_i r _
   simp only[Ky,decide_eq_true_eq,JD,JE,JW]at this;obtain⟨⟨t1,t2⟩,t3⟩:=this;rcases t3 c hc with e|e
   ·exact⟨r,e,t1,t2⟩
   ·rw[e]at hf;cases hf
 ·have:=h6 q hq
  rw[ho]at this;simp only[JD,JE]at this;have:=this r hr;rw[hoj]at this;simp only[hd,JW,Ky,decide_eq_true_eq,Jj]at this;rcases this with e|e
  ·have hm:(QS l o).contains t=true:=by simpa using ht
   rw[hm]at e;cases e
  ·exact e
 ·have:=h8 q hq
  simp only[JW,decide_eq_true_eq,Jj]at this;rcases this with e|e
  ·omega
  ·exact e
 ·rw[JW,decide_eq_true_eq]at h9
  rcases h9 with e|e
  ·omega
  ·rw[JD]at e
   have:=e q (JE.2 hq);rw[JY]at this;obtain⟨r,hr,hw⟩:=this;rw[JE]at hr;simp only[Ky,decide_eq_true_eq]at hw;exact⟨r,hw.1,by omega,hw.2⟩
theorem qpi{l:List Oper}:∀{π:List Nat},(∀q,q<π.length->π.getD q 0<l.length)->∀q,q<π.length->(Zy l π)[q]?=l[π.getD q 0]?
 |i::π,h,q,hq=>by
  have h0:i<l.length:=h 0 (by simp);have e:Zy l (i::π)=l[i]::Zy l π:=by
   unfold Zy;rw[VK,JA h0]
  rw[e];cases q with
  |zero=>simp[JA h0]
  |succ q=>
   rw[List.getElem?_cons_succ,qpi (π:=π) (fun q hq=>h (q+1) (by simpa using hq)) q (by simpa using hq)];rfl
theorem qak{l:List Oper}:∀{π:List Nat},(∀q,q<π.length->π.getD q 0<l.length)->(Zy l π).length=π.length
 |[],_=>rfl
 |i::π,h=>by
  have h0:i<l.length:=h 0 (by simp);unfold Zy;rw[VK,JA h0];simp only[KY];exact congrArg (· +1) (qak (π:=π) fun q hq=>h (q+1) (by simpa using hq))
theorem ZZ{l:List Oper}{π:List Nat}(h:∀q,q<π.length->π.getD q 0<l.length){p:Nat}(hp:p<π.length){o:Oper}(ho:l[π.getD p 0]?=some o):(Zy l π).drop p=o::(Zy l π).drop (p+1):=by
 have e:=qpi h p hp;rw[ho]at e;have hl:=(JB.1 e).1;rw[J5 hl];congr 1;exact(JB.1 e).2
theorem advance{l:List Oper}(hall:Xl n l=true){π:List Nat}{m:Nat}(F:FloatP P l π m){K:Slots->AHeap->Prop}{g:AHeap}:∀(d p:Nat) (S:Slots),π.length-p=d->p<=π.length->qiK P wz l (m-p) ((Zy l π).drop p) S g K->
 ∃p' S',p<=p'/\p'<=π.length/\(p'<π.length->isF P l (π.getD p' 0)=false)/\(∀q,p<=q->q<p'->isF P l (π.getD q 0)=true)/\qiK P wz l (m-p') ((Zy l π).drop p') S' g K/\
  (∀q o,p<=q->q<p'->l[π.getD q 0]?=some o->∃V,(∀t,o.dst=some t->S'.get t=V)/\FactR P wz n l g S' o V)/\
  (∀t,(∀q o,p<=q->q<p'->l[π.getD q 0]?=some o->o.dst≠some t)->S'.get t=S.get t):=by
 intro d;induction d with
 |zero=>
  intro p S hd hp ha;exact⟨p,S,KL _,hp,fun h=>by omega,fun q h1 h2=>by omega,ha,fun q o h1 h2=>by omega,fun t _=>rfl⟩
 |succ d ih=>
  intro p S hd hp ha;have hpl:p<π.length:=by omega
  cases hf:isF P l (π.getD p 0)with
  |false=>exact⟨p,S,KL _,hp,fun _=>hf,fun q h1 h2=>by omega,ha,fun q o h1 h2=>by omega,fun t _=>rfl⟩
  |true=>
   have hpm:p<m:=by
    refine JP fun h=>?_;rw[F.tail p h hpl]at hf;cases hf
   obtain⟨o,ho⟩:∃o,l[π.getD p 0]?=some o:=⟨_,JA (F.inr p hpl)⟩
   have hk2:ZW P o.op=2:=by
    unfold isF at hf;rw[ho]at hf;simpa using hf
   rw[ZZ F.inr hpl ho,show m-p=(m-(p+1))+1 by omega,qco]at ha;obtain⟨V,⟨_,hv⟩,hfact⟩:=qgm hall hk2 ha;obtain⟨p',S',a1,a2,a3,a4,a5,a6,a7⟩:=ih (p+1) (putD S o.dst V) (by omega) (by omega) hv;have notlook:∀q oq t,p<=q->q<π.length->l[π.getD q 0]?=some oq->oq.dst=some t->t∉QS l o:=fun q oq t h1 h2 h3 h4 ht=>by
    have:=(F.data p q o oq t hpl h2 ho h3 h4 ht).1;omega
   have uniq:∀q oq t,p<q->q<π.length->l[π.getD q 0]?=some oq->oq.dst=some t->o.dst≠some t:=fun q oq t h1 h2 h3 h4 e=>by
    have:=((XP F.order ho).2 _ oq t h3 h4).1 e;have:=F.inj p q hpl h2 this;omega
   refine⟨p',S',by omega,a2,a3,fun q h1 h2=>?_,a5,fun q oq h1 h2 hq=>?_,fun t ht=>?_⟩
   ·rcases JC h1 with e|e
    ·rw[<-e];exact hf
    ·exact a4 q e h2
   ·rcases JC h1 with e|e
    ·subst e
     rw[ho]at hq;obtain rfl:=Option.some.inj hq;refine⟨V,fun t ht=>?_,hfact.slots fun t ht=>?_⟩
     ·rw[a7 t fun q oq h3 h4 h5 h6=>uniq q oq t h3 (by omega) h5 h6 ht,Xv,if_pos ht]
     ·rw[a7 t fun q oq h3 h4 h5 h6=>notlook q oq t (by omega) (by omega) h5 h6 ht,Xv,if_neg fun e=>notlook p o t (KL _) hpl ho e ht]
    ·exact a6 q oq e h2 hq
   ·rw[a7 t fun q oq h3 h4 h5=>ht q oq (by omega) h4 h5,Xv,if_neg (ht p o (KL _) (by omega) ho)]
def qza(P:Program)(wz:World)(n:FrameK)(l:List Oper)(π:List Nat)(m:Nat)(K:Slots->AHeap->Prop)(listed:Array Bool)(Ps:PMap)(a:Act)(w:World):Prop:=
 listed.size=l.length/\(∀j oj,l[j]?=some oj->listed.getD j false=true->∀e∈oj.after,Region.binds .any e=true->listed.getD e.on false=true)/\a.tmps.size=n/\a.defers=n.dfr/\
 ∃p S g,p<=π.length/\(p<π.length->isF P l (π.getD p 0)=false)/\(∀q,p<=q->q<π.length->listed.getD (π.getD q 0) false=false)/\(∀q,q<p->isF P l (π.getD q 0)=false->listed.getD (π.getD q 0) false=true)/\
  (m<p->∀q,q<p->listed.getD (π.getD q 0) false=true)/\HRel wz Ps g w/\qiK P wz l (m-p) ((Zy l π).drop p) S g K/\
  (∀q o,q<p->l[π.getD q 0]?=some o->listed.getD (π.getD q 0) false=false->∃V,(∀t,o.dst=some t->S.get t=V)/\FactR P wz n l g S o V)/\
  ∀t,(∃q o,q<p/\l[π.getD q 0]?=some o/\o.dst=some t/\listed.getD (π.getD q 0) false=false)\/VR Ps (S.get t) (a.tmps.getD t undef)
theorem YF{l:List Oper}{listed:Array Bool}{i j:Nat}{o:Oper}(ho:l[i]?=some o)(hedges:∀e∈o.after,Region.binds .any e=true->listed.getD e.on false=true)(hw:Region.waitsFor .any l.toArray i j=true):listed.getD j false=true:=by
 obtain⟨oi,g1,e,g2,g3,g4⟩:=Region.waitsFor_spec hw;have g1':l[i]?=some oi:=by simpa using g1
 rw[ho]at g1';obtain rfl:=Option.some.inj g1';rw[<-g4];exact hedges e g2 g3
theorem qAr{l:List Oper}(hall:Xl n l=true){π:List Nat}{m:Nat}(F:FloatP P l π m){K:Slots->AHeap->Prop}{fi:PMap}{Q:Exit->Act->World->Prop}
 (hq:∀Ps S g a w,fi.le Ps->HRel wz Ps g w->SRel Ps n S a->K S g->Q .normal a w):∀(fuel:Nat) (listed:Array Bool) (a:Act) (w:World) (Ps:PMap),fi.le Ps->qza P wz n l π m K listed Ps a w->
 (listed.toList.filter (!·)).length<=fuel->wpAny P .any l.toArray Q fuel listed a w:=by
 have hB:=F.order;have fin:∀(listed:Array Bool) (a:Act) (w:World) (Ps:PMap),fi.le Ps->qza P wz n l π m K listed Ps a w->Region.ready .any l.toArray listed=[]->Q .normal a w:=by
  rintro listed a w Ps hle ⟨i1,i2,i3,i4,p,S,g,p1,p2,p3,p4,p5,p6,p7,p8,p9⟩ hrd;have hal:=qaK hB i1 hrd;have hp:p=π.length:=by
   rcases JC p1 with e|e
   ·exact e
   ·have:=p3 p (KL _) e
    rw[hal _ (F.inr p e)]at this;cases this
  subst hp;rw[show(Zy l π).drop π.length=[] by rw[<-qak F.inr];simp,qcJ]at p7;refine hq Ps S g a w hle p6 ⟨i3,i4,fun t=>?_⟩ p7;rcases p9 t with⟨q,o,c1,c2,c3,c4⟩|c
  ·rw[hal _ (F.inr q c1)]at c4;cases c4
  ·exact c
 intro fuel;induction fuel with
 |zero=>
  intro listed a w Ps hle inv hc;have hrd:Region.ready .any l.toArray listed=[]:=by
   cases hrd:Region.ready .any l.toArray listed with
   |nil=>rfl
   |cons i r=>
    exfalso;have hm:i∈Region.ready .any l.toArray listed:=by rw[hrd];exact Jf
    obtain⟨h1,o,ho,_⟩:=mem_ready.1 hm;have hi:i<listed.size:=by
     have:l[i]?=some o:=by simpa using ho
     rw[inv.1];exact(JB.1 this).1
    have h2:listed.toList[i]?=some false:=by
     simp[JF,hi]at h1;simp[hi,h1]
    have:=J2 h2;have hmem:false∈listed.toList.filter (!·):=by simp[J3,this]
    have:=J4 hmem;omega
  exact⟨hrd,fin listed a w Ps hle inv hrd⟩
 |succ fuel ih=>
  intro listed a w Ps hle inv hc;refine⟨fun hrd=>fin listed a w Ps hle inv hrd,fun i hi=>?_⟩;obtain⟨i1,i2,i3,i4,p,S,g,p1,p2,p3,p4,p5,p6,p7,p8,p9⟩:=inv;obtain⟨h1,o,ho,hedges⟩:=mem_ready.1 hi;have hol:l[i]?=some o:=by simpa using ho
  have hilt:i<l.length:=(JB.1 hol).1;have hisz:i<listed.size:=by rw[i1];exact hilt
  have hif:listed.getD i false=false:=by simp[JF,hisz]at h1|-;exact h1
  have hcount:((listed.setIfInBounds i true).toList.filter (!·)).length<=fuel:=by
   have h2:listed.toList[i]?=some false:=by
    simp[JF,hisz]at h1;simp[hisz,h1]
   have:=qaM listed.toList i h2;have e:(listed.setIfInBounds i true).toList=listed.toList.set i true:=by simp
   rw[e];omega
  have hdn:∀d,o.dst=some d->d<n:=fun d hd=>qbT l i d hall (by rw[Yv,hol];exact hd);obtain⟨q,hql,hqi⟩:=F.onto i hilt;have hoq:l[π.getD q 0]?=some o:=by rw[hqi];exact hol
  have looks:LookOk Ps n l o S a:=⟨i3,i4,fun t ht=>by
   rcases p9 t with⟨r,oj,c1,c2,c3,c4⟩|c
   ·exfalso
    have:=(F.data q r o oj t hql (by omega) hoq c2 c3 ht).2;rw[hqi]at this;rw[YF hol hedges this]at c4;cases c4
   ·exact c⟩
  have closed':∀j oj,l[j]?=some oj->(listed.setIfInBounds i true).getD j false=true->∀e∈oj.after,Region.binds .any e=true->(listed.setIfInBounds i true).getD e.on false=true:=fun j oj hj hl e he hb=>by
   by_cases e1:e.on=i
   ·rw[e1];exact set_self hisz
   ·rw[XG e1]
    by_cases e2:j=i
    ·subst e2
     rw[hol]at hj;obtain rfl:=Option.some.inj hj;exact hedges e he hb
    ·rw[XG e2]at hl
     exact i2 j oj hj hl e he hb
  have other:∀r,r<π.length->r≠q->(listed.setIfInBounds i true).getD (π.getD r 0) false=listed.getD (π.getD r 0) false:=fun r hr hne=>XG fun e=>hne (F.inj r q hr hql (by rw[e,hqi]));have nobehind:p<q->False:=fun hpq=>by
   obtain⟨r,r1,r2,r3⟩:=F.wait q p hql hpq (p2 (by omega));rw[hqi]at r3;have:=YF hol hedges r3;rw[p3 r r1 (by omega)]at this;cases this
  have goal:(if Region.wanted o (yielded l.toArray a.tmps)=true then o.wp P a w (wpAny P .any l.toArray Q fuel (listed.setIfInBounds i true)) Q else wpAny P .any l.toArray Q fuel (listed.setIfInBounds i true) (a.put o.dst undef) w):=by
   rcases KU q p with hqp|hqp
   ·
    obtain⟨V,v1,v2⟩:=p8 q o hqp hoq (by rw[hqi];exact hif);refine v2 Ps w a g _ Q (Vm g) p6 looks fun v hv=>?_;refine ih _ _ _ Ps hle ⟨by simp[i1],closed',by rw[WZ];exact i3,by rw[put_defers];exact i4,p,S,g,p1,p2,fun r r1 r2=>?_,fun r r1 r2=>?_,fun hm r r1=>?_,p6,p7,fun r oj r1 r2 r3=>?_,fun t=>?_⟩ hcount
    ·rw[other r r2 (by omega)];exact p3 r r1 r2
    ·by_cases e:r=q
     ·rw[e,hqi];exact set_self hisz
     ·rw[other r (by omega) e];exact p4 r r1 r2
    ·by_cases e:r=q
     ·rw[e,hqi];exact set_self hisz
     ·rw[other r (by omega) e];exact p5 hm r r1
    ·by_cases e:r=q
     ·rw[e,hqi,set_self hisz]at r3;cases r3
     ·rw[other r (by omega) e]at r3
      exact p8 r oj r1 r2 r3
    ·by_cases hod:o.dst=some t
     ·right
      rw[v1 t hod,Yg a hod (by rw[i3];exact hdn t hod)];exact hv
     ·rcases p9 t with⟨r,oj,c1,c2,c3,c4⟩|c
      ·refine .inl ⟨r,oj,c1,c2,c3,?_⟩
       rw[other r (by omega) fun e=>by subst e;rw[hoq]at c2;obtain rfl:=Option.some.inj c2;exact hod c3];exact c4
      ·right
       rw[Zo a hod];exact c
   ·have hqe:q=p:=by
     rcases JC hqp with e|e
     ·exact e.symm
     ·exact(nobehind e).elim
    subst hqe;have all_m:m<=q->∀r,r<q->listed.getD (π.getD r 0) false=true:=fun hm r hr=>by
     rcases JC hm with e|e
     ·subst e
      have key:∀d r,r+d=m->r<m->listed.getD (π.getD r 0) false=true:=by
       intro d;induction d using Jw with
       |ind d ihd=>
        intro r hd hr;obtain⟨r',s1,s2,s3⟩:=F.sink hql r hr;rcases JC s2 with e|e
        ·subst e
         rw[hqi]at s3;exact YF hol hedges s3
        ·have hl:=ihd (m-r') (by omega) r' (by omega) e
         obtain⟨oj,hoj⟩:∃oj,l[π.getD r' 0]?=some oj:=⟨_,JA (F.inr r' (by omega))⟩
         exact YF hoj (i2 _ oj hoj hl) s3
      exact key (m-r) r (by omega) hr
     ·exact p5 e r hr
    obtain⟨K',ha,hnext⟩:∃K':Slots->AHeap->Prop,QO P wz l [o] S g K'/\∀s' h',K' s' h'->(q<m->Sub g h')/\qiK P wz l (m-(q+1)) ((Zy l π).drop (q+1)) s' h' K:=by
     rw[ZZ F.inr hql hoq]at p7;by_cases c:q<m
     ·rw[show m-q=(m-(q+1))+1 by omega,qco]at p7
      exact⟨_,p7,fun s' h' hx=>⟨fun _=>hx.1,hx.2⟩⟩
     ·rw[show m-q=0 by omega,quE]at p7
      refine⟨_,qlU p7,fun s' h' hx=>⟨fun hc=>absurd hc c,?_⟩⟩;rw[show m-(q+1)=0 by omega];cases hdr:(Zy l π).drop (q+1)with
      |nil=>rw[hdr]at hx;rw[qcJ];exact hx
      |cons o' r'=>rw[hdr]at hx;exact hx
    refine qfr hall ha p6 looks fun ψ' x h' v w' e1 e2 e3 hk=>?_;obtain⟨k1,k2⟩:=hnext _ _ hk;obtain⟨p',S',a1,a2,a3,a4,a5,a6,a7⟩:=advance hall F (π.length-(q+1)) (q+1) (putD S o.dst x) rfl (by omega) k2;have keep:∀r or t,r<q->l[π.getD r 0]?=some or->(or.dst=some t\/t∈QS l or)->S'.get t=S.get t:=fun r or t hr hor ht=>by
     have nd:∀u ou,q<=u->u<π.length->l[π.getD u 0]?=some ou->ou.dst≠some t:=fun u ou h1 h2 h3 h4=>by
      rcases ht with ht|ht
      ·have:=((XP hB hor).2 _ ou t h3 h4).1 ht
       have:=F.inj r u (by omega) h2 this;omega
      ·have:=(F.data r u or ou t (by omega) h2 hor h3 h4 ht).1
       omega
     rw[a7 t fun u ou h1 h2 h3=>nd u ou (by omega) (by omega) h3,Xv,if_neg (nd q o (KL _) hql hoq)]
    refine ih _ _ _ ψ' (J7 hle e1) ⟨by simp[i1],closed',by rw[WZ];exact i3,by rw[put_defers];exact i4,p',S',h',a2,a3,fun r r1 r2=>?_,fun r r1 r2=>?_,fun hm r r1=>?_,e2,a5,fun r oj r1 r2 r3=>?_,fun t=>?_⟩ hcount
    ·rw[other r r2 (by omega)];exact p3 r (by omega) r2
    ·by_cases e:r=q
     ·rw[e,hqi];exact set_self hisz
     ·rw[other r (by omega) e]
      rcases KU r q with c|c
      ·exact p4 r c r2
      ·rw[a4 r (by omega) r1]at r2;cases r2
    ·have hmq:m<=q:=by
      refine Kt fun hc=>?_;have hmp:m<π.length:=by omega
      have:=a4 m (by omega) hm;rw[F.tail m (KL _) hmp]at this;cases this
     by_cases e:r=q
     ·rw[e,hqi];exact set_self hisz
     ·rw[other r (by omega) e]
      rcases KU r q with c|c
      ·exact all_m hmq r c
      ·have:=a4 r (by omega) r1
       rw[F.tail r (by omega) (by omega)]at this;cases this
    ·by_cases e:r=q
     ·rw[e,hqi,set_self hisz]at r3;cases r3
     ·rw[other r (by omega) e]at r3
      rcases KU r q with c|c
      ·obtain⟨V,v1,v2⟩:=p8 r oj c r2 r3
       have hqm:q<m:=by
        refine JP fun hm=>?_;rw[all_m hm r c]at r3;cases r3
       exact⟨V,fun t ht=>(keep r oj t c r2 (.inl ht)).trans (v1 t ht),(v2.sub (k1 hqm)).slots fun t ht=>keep r oj t c r2 (.inr ht)⟩
      ·exact a6 r oj (by omega) r1 r2
    ·by_cases hod:o.dst=some t
     ·right
      rw[a7 t fun u ou h1 h2 h3 h4=>by
       have:=((XP hB hoq).2 _ ou t h3 h4).1 hod;have:=F.inj q u hql (by omega) this;omega,Xv,if_pos hod,Yg a hod (by rw[i3];exact hdn t hod)]
      exact e3
     ·by_cases hw:∃r or,q+1<=r/\r<p'/\l[π.getD r 0]?=some or/\or.dst=some t
      ·obtain⟨r,or,w1,w2,w3,w4⟩:=hw
       exact .inl ⟨r,or,w2,w3,w4,by rw[other r (by omega) (by omega)];exact p3 r (by omega) (by omega)⟩
      ·have hS:S'.get t=S.get t:=by
        rw[a7 t fun u ou h1 h2 h3 h4=>hw ⟨u,ou,h1,h2,h3,h4⟩,Xv,if_neg hod]
       rcases p9 t with⟨r,oj,c1,c2,c3,c4⟩|c
       ·exact .inl ⟨r,oj,by omega,c2,c3,by rw[other r (by omega) (by omega)];exact c4⟩
       ·right
        rw[hS,Zo a hod];exact Ye e1 _ _ c
  simp only[wpOp,ho];split
  ·rename_i hw
   rw[if_pos hw]at goal;exact .inl goal
  ·rename_i hw
   rw[if_neg hw]at goal;exact goal
theorem qsN{Q:Exit->Slots->AHeap->Prop}{s:Slots}{h:AHeap}{id:Nat}{l:List Oper}(π:List Nat)(ws:List (Option Nat))(m:Nat)(hm:P.follows .mixedOrders=true)(hB:qnZ P l π ws m=true)(hd:Xl n l=true)
 (hc:qiK P wz l m (Zy l π) s h fun s' h'=>Q .normal s' h'):Awp P wz n (.region id l.toArray true) Q s h:=by
 refine J8 ?_;intro fi a w hr hs;have F:=qpC hB;refine wp_region_any hm ?_;have hf:∀j,(Jy l.toArray.size false).getD j false=false:=fun j=>by simp[JF]
 obtain⟨p',S',a1,a2,a3,a4,a5,a6,a7⟩:=advance hd F π.length 0 s rfl (Jt _) (by rw[Jh,KQ];exact hc);refine qAr (fi:=fi) hd F (K:=fun s' h'=>Q .normal s' h') (fun Ps S g a' w' hle h1 h2 h3=>⟨Ps,S,g,hle,h1,h2,h3⟩) _ _ _ _ fi fi.le_refl
  ⟨by simp,fun j oj _ hl=>(by rw[hf]at hl;cases hl),hs.size,hs.defers,p',S',h,a2,a3,fun r _ _=>hf _,fun r r1 r2=>?_,fun hm' r r1=>?_,hr.drew,a5,fun r oj r1 r2 _=>a6 r oj (Jt _) r1 r2,fun t=>?_⟩ ?_
 ·rw[a4 r (Jt _) r1]at r2;cases r2
 ·have:=a4 m (Jt _) hm'
  rw[F.tail m (KL _) (by omega)]at this;cases this
 ·by_cases hw:∃r or,r<p'/\l[π.getD r 0]?=some or/\or.dst=some t
  ·obtain⟨r,or,w2,w3,w4⟩:=hw
   exact .inl ⟨r,or,w2,w3,w4,hf _⟩
  ·right
   rw[a7 t fun u ou _ h2 h3 h4=>hw ⟨u,ou,h2,h3,h4⟩];exact hs.val t
 ·have:=Va (!·) (Jy l.toArray.size false).toList
  simpa using this
theorem qeC{Q:Exit->Slots->AHeap->Prop}{s:Slots}{h:AHeap}{id:Nat}{l:List Oper}{y:Code}(π:List Nat)(ws:List (Option Nat))(m:Nat)(L:List Nat)(hm:P.follows .mixedOrders=true)(hB:qnZ P l π ws m=true)(hd:Xl n l=true)
 (hc:∀K:Slots->AHeap->Prop,(∀s h,Awp P wz n y Q s h->K s h)->qiK P wz l m (Zy l π) s h fun s' h'=>K (s'.keep L) h'):Awp P wz n (.seq (.region id l.toArray true) y) Q s h:=
 qJ (qsN π ws m hm hB hd (qmU (fun _ _ hk=>Vb L hk) (hc (fun s h=>Awp P wz n y Q s h) (fun _ _ hk=>hk))))
end
section
variable {P:Program} {wz:World} {n:FrameK}
end
end Go.AM
namespace Go.Proofs.YtlhhaagmakhilaaGreatDoor
open Go.AM
theorem sz3:Yz Tryz.prog 3=some 1:=by kernel_rfl
theorem ze3:Uk Tryz.prog 3=some (.int .i64 0):=by kernel_rfl
theorem ag3:Ws Tryz.prog 3=some false:=by kernel_rfl
theorem sz4:Yz Tryz.prog 4=some 1:=by kernel_rfl
theorem ze4:Uk Tryz.prog 4=some (.bool false):=by kernel_rfl
theorem ag4:Ws Tryz.prog 4=some false:=by kernel_rfl
theorem sz5:Yz Tryz.prog 5=some 1:=by kernel_rfl
theorem by5:qgz Tryz.prog 5=some 1:=by kernel_rfl
theorem ze5:Uk Tryz.prog 5=some (.int .u8 0):=by kernel_rfl
theorem ag5:Ws Tryz.prog 5=some false:=by kernel_rfl
theorem sz9:Yz Tryz.prog 9=some 1:=by kernel_rfl
theorem by9:qgz Tryz.prog 9=some 16:=by kernel_rfl
theorem ze9:Uk Tryz.prog 9=some (.string .empty):=by kernel_rfl
theorem ag9:Ws Tryz.prog 9=some false:=by kernel_rfl
theorem qDa:Yz Tryz.prog 22=some 1:=by kernel_rfl
theorem qCN:Ws Tryz.prog 22=some false:=by kernel_rfl
theorem qCj:Yz Tryz.prog 23=some 1:=by kernel_rfl
theorem qCM:Ws Tryz.prog 23=some false:=by kernel_rfl
theorem qCi:Yz Tryz.prog 26=some 1:=by kernel_rfl
theorem qaw:Ws Tryz.prog 26=some false:=by kernel_rfl
theorem qCL:Ws Tryz.prog 28=some false:=by kernel_rfl
theorem qCZ:Yz Tryz.prog 30=some 1:=by kernel_rfl
theorem qBV:Ws Tryz.prog 30=some false:=by kernel_rfl
theorem qDe:Ws Tryz.prog 31=some false:=by kernel_rfl
theorem qbd:Yz Tryz.prog 33=some 2:=by kernel_rfl
theorem qzf:Uk Tryz.prog 33=some (.agg #[.int .i64 0, .int .i64 0]):=by kernel_rfl
theorem qeG:Ws Tryz.prog 33=some true:=by kernel_rfl
theorem QN:Yz Tryz.prog 35=some 3:=by kernel_rfl
theorem qaE:Uk Tryz.prog 35=some (.agg #[.int .i64 0, .int .i64 0, .int .i64 0]):=by kernel_rfl
theorem Xw:Ws Tryz.prog 35=some true:=by kernel_rfl
theorem qAU:Tryz.prog.eqGuardType Tryz.prog.depth 35=false:=by kernel_rfl
theorem qCh:Yz Tryz.prog 43=some 1:=by kernel_rfl
theorem qAD:Ws Tryz.prog 43=some false:=by kernel_rfl
theorem qea:Yz Tryz.prog 46=some 2:=by kernel_rfl
theorem qCI:qgz Tryz.prog 46=some 48:=by kernel_rfl
theorem qvw:Uk Tryz.prog 46=some (.agg #[.slice none 0 0, .slice none 0 0]):=by kernel_rfl
theorem qrh:Ws Tryz.prog 46=some true:=by kernel_rfl
theorem qCY:Yz Tryz.prog 52=some 1:=by kernel_rfl
theorem qjd:Ws Tryz.prog 52=some false:=by kernel_rfl
theorem Xb:Yz Tryz.prog 54=some 5:=by kernel_rfl
theorem qha:qgz Tryz.prog 54=some 48:=by kernel_rfl
theorem qat:Uk Tryz.prog 54=some (.agg #[.int .u8 0, .string .empty, .int .i64 0, .int .i64 0, .bool false]):=by kernel_rfl
theorem ZB:Ws Tryz.prog 54=some true:=by kernel_rfl
theorem qCB:Tryz.prog.eqGuardType Tryz.prog.depth 54=false:=by kernel_rfl
theorem qtO:Yz Tryz.prog 57=some 2:=by kernel_rfl
theorem qDc:qgz Tryz.prog 57=some 40:=by kernel_rfl
theorem qCU:Uk Tryz.prog 57=some (.agg #[.string .empty, .slice none 0 0]):=by kernel_rfl
theorem qDd:Ws Tryz.prog 57=some true:=by kernel_rfl
theorem UN:Yz Tryz.prog 70=some 8:=by kernel_rfl
theorem qvv:Uk Tryz.prog 70=some (.agg #[.int .u8 0, .string .empty, .int .i64 0, .int .i64 0, .bool false, .slice none 0 0, .int .i64 0, .int .i64 0]):=by kernel_rfl
theorem qcj:Ws Tryz.prog 70=some true:=by kernel_rfl
theorem qAC:Ws Tryz.prog 74=some false:=by kernel_rfl
theorem qCW:Yz Tryz.prog 76=some 4:=by kernel_rfl
theorem qCT:Uk Tryz.prog 76=some (.agg #[.slice none 0 0, .map none, .slice none 0 0, .int .i64 0]):=by kernel_rfl
theorem qCV:Yz Tryz.prog 89=some 2:=by kernel_rfl
theorem qCS:Uk Tryz.prog 89=some (.agg #[.slice none 0 0, .int .i64 0]):=by kernel_rfl
theorem qaP:Yz Tryz.prog 91=some 6:=by kernel_rfl
theorem qvu:Uk Tryz.prog 91=some (.agg #[.int .u8 0, .string .empty, .int .i64 0, .int .i64 0, .bool false, .slice none 0 0]):=by kernel_rfl
theorem qeF:Ws Tryz.prog 91=some true:=by kernel_rfl
theorem qCk:Yz Tryz.prog 101=some 1:=by kernel_rfl
theorem qjI:Ws Tryz.prog 101=some false:=by kernel_rfl
theorem qCc:Uk Tryz.prog 116=some (.agg #[.slice none 0 0, .int .i64 0, .int .i64 0, .bool false]):=by kernel_rfl
theorem YE:Yz Tryz.prog 120=some 4:=by kernel_rfl
theorem qvz:Uk Tryz.prog 120=some (.agg #[.int .i64 0, .bool false, .string .empty, .int .i64 0]):=by kernel_rfl
theorem Uj:Ws Tryz.prog 120=some true:=by kernel_rfl
theorem qAI:Yz Tryz.prog 124=some 1:=by kernel_rfl
theorem qlP:Ws Tryz.prog 124=some false:=by kernel_rfl
theorem qhp:Yz Tryz.prog 127=some 3:=by kernel_rfl
theorem qCK:qgz Tryz.prog 127=some 24:=by kernel_rfl
theorem qvy:Uk Tryz.prog 127=some (.agg #[.int .i64 0, .int .i64 0, .int .i64 0]):=by kernel_rfl
theorem qAW:Ws Tryz.prog 127=some true:=by kernel_rfl
theorem qdr:Yz Tryz.prog 129=some 3:=by kernel_rfl
theorem qCJ:qgz Tryz.prog 129=some 48:=by kernel_rfl
theorem qAH:Uk Tryz.prog 129=some (.agg #[.bool false, .string .empty, .slice none 0 0]):=by kernel_rfl
theorem qri:Ws Tryz.prog 129=some true:=by kernel_rfl
theorem qCb:Uk Tryz.prog 132=some (.agg #[.bool false, .string .empty, .slice none 0 0, .int .i64 0, .slice none 0 0]):=by kernel_rfl
theorem qCa:Uk Tryz.prog 140=some (.agg #[.pointer none, .slice none 0 0]):=by kernel_rfl
theorem qwW(l:AM.Loc)(o:Nat):QR Tryz.prog 33 (.ptr l o) 0=⟨1≠0, .ptr l (o+0)⟩:=by kernel_rfl
theorem qsd(l:AM.Loc)(o:Nat):QR Tryz.prog 33 (.ptr l o) 1=⟨1≠0, .ptr l (o+1)⟩:=by kernel_rfl
theorem qBt(l:AM.Loc)(o:Nat):QR Tryz.prog 35 (.ptr l o) 0=⟨1≠0, .ptr l (o+0)⟩:=by kernel_rfl
theorem qBs(l:AM.Loc)(o:Nat):QR Tryz.prog 35 (.ptr l o) 1=⟨2≠0, .ptr l (o+1)⟩:=by kernel_rfl
theorem qAS(a0 b0:Int)(a1 b1:Int)(a2 b2:Int):(eqA Tryz.prog 40 35 (.agg [.int .i64 a0, .int .i64 a1, .int .i64 a2]) (.agg [.int .i64 b0, .int .i64 b1, .int .i64 b2])).val= .bool (decide (a0=b0) && ((decide (a1=b1) && (decide (a2=b2) && true)) && true)):=by kernel_rfl
theorem qAT(a0 b0:Int)(a1 b1:Int)(a2 b2:Int):(eqA Tryz.prog 40 35 (.agg [.int .i64 a0, .int .i64 a1, .int .i64 a2]) (.agg [.int .i64 b0, .int .i64 b1, .int .i64 b2])).pre=((0<3)/\(0<3)/\True/\((1+2<=3)/\(1+2<=3)/\((0<2)/\(0<2)/\True/\((1<2)/\(1<2)/\True/\True))/\True)):=by kernel_rfl
theorem qyc(a0 b0:Int)(a1 b1:Int)(a2 b2:Int):qbR Tryz.prog .eql 35 (.agg [.int .i64 a0, .int .i64 a1, .int .i64 a2]) (.agg [.int .i64 b0, .int .i64 b1, .int .i64 b2])=⟨True, .bool (decide (a0=b0) && ((decide (a1=b1) && (decide (a2=b2) && true)) && true))⟩:=by
 simp only[qbR,qAS,qAT,qAU,PR.mk.injEq,and_true];decide
theorem qpr(a0 b0:Int)(a1 b1:Int)(a2 b2:Int):qbR Tryz.prog .neq 35 (.agg [.int .i64 a0, .int .i64 a1, .int .i64 a2]) (.agg [.int .i64 b0, .int .i64 b1, .int .i64 b2])=⟨True, .bool (!(decide (a0=b0) && ((decide (a1=b1) && (decide (a2=b2) && true)) && true)))⟩:=by
 simp only[qbR,qAS,qAT,qAU,PR.mk.injEq,and_true];decide
theorem qiO(l:AM.Loc)(o:Nat):QR Tryz.prog 46 (.ptr l o) 0=⟨1≠0, .ptr l (o+0)⟩:=by kernel_rfl
theorem qwV(l:AM.Loc)(o:Nat):QR Tryz.prog 46 (.ptr l o) 1=⟨1≠0, .ptr l (o+1)⟩:=by kernel_rfl
theorem qbW(l:AM.Loc)(o:Nat):QR Tryz.prog 54 (.ptr l o) 0=⟨1≠0, .ptr l (o+0)⟩:=by kernel_rfl
theorem Uu(l:AM.Loc)(o:Nat):QR Tryz.prog 54 (.ptr l o) 1=⟨1≠0, .ptr l (o+1)⟩:=by kernel_rfl
theorem qdm(l:AM.Loc)(o:Nat):QR Tryz.prog 54 (.ptr l o) 2=⟨2≠0, .ptr l (o+2)⟩:=by kernel_rfl
theorem qBr(l:AM.Loc)(o:Nat):QR Tryz.prog 54 (.ptr l o) 3=⟨1≠0, .ptr l (o+4)⟩:=by kernel_rfl
theorem qCz(a0 b0:Int)(a1 b1:List UInt8)(a2 b2:Int)(a3 b3:Int)(a4 b4:Bool):(eqA Tryz.prog 40 54 (.agg [.int .u8 a0, .str a1, .int .i64 a2, .int .i64 a3, .bool a4]) (.agg [.int .u8 b0, .str b1, .int .i64 b2, .int .i64 b3, .bool b4])).val= .bool (decide (a0=b0) && (decide (a1=b1) && ((decide (a2=b2) && (decide (a3=b3) && true)) && ((a4==b4) && true)))):=by kernel_rfl
theorem qCA(a0 b0:Int)(a1 b1:List UInt8)(a2 b2:Int)(a3 b3:Int)(a4 b4:Bool):(eqA Tryz.prog 40 54 (.agg [.int .u8 a0, .str a1, .int .i64 a2, .int .i64 a3, .bool a4]) (.agg [.int .u8 b0, .str b1, .int .i64 b2, .int .i64 b3, .bool b4])).pre=((0<5)/\(0<5)/\True/\((1<5)/\(1<5)/\True/\((2+2<=5)/\(2+2<=5)/\((0<2)/\(0<2)/\True/\((1<2)/\(1<2)/\True/\True))/\((4<5)/\(4<5)/\True/\True)))):=by kernel_rfl
theorem qDb(a0 b0:Int)(a1 b1:List UInt8)(a2 b2:Int)(a3 b3:Int)(a4 b4:Bool):qbR Tryz.prog .neq 54 (.agg [.int .u8 a0, .str a1, .int .i64 a2, .int .i64 a3, .bool a4]) (.agg [.int .u8 b0, .str b1, .int .i64 b2, .int .i64 b3, .bool b4])=⟨True, .bool (!(decide (a0=b0) && (decide (a1=b1) && ((decide (a2=b2) && (decide (a3=b3) && true)) && ((a4==b4) && true)))))⟩:=by
 simp only[qbR,qCz,qCA,qCB,PR.mk.injEq,and_true];decide
theorem qwU(l:AM.Loc)(o:Nat):QR Tryz.prog 57 (.ptr l o) 0=⟨1≠0, .ptr l (o+0)⟩:=by kernel_rfl
theorem qwT(l:AM.Loc)(o:Nat):QR Tryz.prog 57 (.ptr l o) 1=⟨1≠0, .ptr l (o+1)⟩:=by kernel_rfl
theorem qgT(l:AM.Loc)(o:Nat):QR Tryz.prog 70 (.ptr l o) 0=⟨5≠0, .ptr l (o+0)⟩:=by kernel_rfl
theorem qsc(l:AM.Loc)(o:Nat):QR Tryz.prog 70 (.ptr l o) 1=⟨1≠0, .ptr l (o+5)⟩:=by kernel_rfl
theorem qwS(l:AM.Loc)(o:Nat):QR Tryz.prog 70 (.ptr l o) 2=⟨1≠0, .ptr l (o+6)⟩:=by kernel_rfl
theorem qet(l:AM.Loc)(o:Nat):QR Tryz.prog 70 (.ptr l o) 3=⟨1≠0, .ptr l (o+7)⟩:=by kernel_rfl
theorem qwR(l:AM.Loc)(o:Nat):QR Tryz.prog 76 (.ptr l o) 0=⟨1≠0, .ptr l (o+0)⟩:=by kernel_rfl
theorem qob(l:AM.Loc)(o:Nat):QR Tryz.prog 76 (.ptr l o) 1=⟨1≠0, .ptr l (o+1)⟩:=by kernel_rfl
theorem qoa(l:AM.Loc)(o:Nat):QR Tryz.prog 76 (.ptr l o) 2=⟨1≠0, .ptr l (o+2)⟩:=by kernel_rfl
theorem qwP(l:AM.Loc)(o:Nat):QR Tryz.prog 76 (.ptr l o) 3=⟨1≠0, .ptr l (o+3)⟩:=by kernel_rfl
theorem qaJ(l:AM.Loc)(o:Nat):QR Tryz.prog 89 (.ptr l o) 0=⟨1≠0, .ptr l (o+0)⟩:=by kernel_rfl
theorem Wn(l:AM.Loc)(o:Nat):QR Tryz.prog 89 (.ptr l o) 1=⟨1≠0, .ptr l (o+1)⟩:=by kernel_rfl
theorem qsb(l:AM.Loc)(o:Nat):QR Tryz.prog 91 (.ptr l o) 0=⟨5≠0, .ptr l (o+0)⟩:=by kernel_rfl
theorem qsa(l:AM.Loc)(o:Nat):QR Tryz.prog 91 (.ptr l o) 1=⟨1≠0, .ptr l (o+5)⟩:=by kernel_rfl
theorem qcg(l:AM.Loc)(o:Nat):QR Tryz.prog 116 (.ptr l o) 0=⟨1≠0, .ptr l (o+0)⟩:=by kernel_rfl
theorem qia(l:AM.Loc)(o:Nat):QR Tryz.prog 116 (.ptr l o) 1=⟨2≠0, .ptr l (o+1)⟩:=by kernel_rfl
theorem qev(l:AM.Loc)(o:Nat):QR Tryz.prog 116 (.ptr l o) 2=⟨1≠0, .ptr l (o+3)⟩:=by kernel_rfl
theorem qhZ(l:AM.Loc)(o:Nat):QR Tryz.prog 120 (.ptr l o) 0=⟨1≠0, .ptr l (o+0)⟩:=by kernel_rfl
theorem qtv(l:AM.Loc)(o:Nat):QR Tryz.prog 120 (.ptr l o) 1=⟨1≠0, .ptr l (o+1)⟩:=by kernel_rfl
theorem qkd(l:AM.Loc)(o:Nat):QR Tryz.prog 120 (.ptr l o) 2=⟨1≠0, .ptr l (o+2)⟩:=by kernel_rfl
theorem qgn(l:AM.Loc)(o:Nat):QR Tryz.prog 120 (.ptr l o) 3=⟨1≠0, .ptr l (o+3)⟩:=by kernel_rfl
theorem qhY(l:AM.Loc)(o:Nat):QR Tryz.prog 127 (.ptr l o) 0=⟨1≠0, .ptr l (o+0)⟩:=by kernel_rfl
theorem qtu(l:AM.Loc)(o:Nat):QR Tryz.prog 127 (.ptr l o) 1=⟨2≠0, .ptr l (o+1)⟩:=by kernel_rfl
theorem WH(l:AM.Loc)(o:Nat):QR Tryz.prog 129 (.ptr l o) 1=⟨1≠0, .ptr l (o+1)⟩:=by kernel_rfl
theorem qcf(l:AM.Loc)(o:Nat):QR Tryz.prog 129 (.ptr l o) 2=⟨1≠0, .ptr l (o+2)⟩:=by kernel_rfl
theorem UK(l:AM.Loc)(o:Nat):QR Tryz.prog 132 (.ptr l o) 0=⟨3≠0, .ptr l (o+0)⟩:=by kernel_rfl
theorem WU(l:AM.Loc)(o:Nat):QR Tryz.prog 132 (.ptr l o) 1=⟨1≠0, .ptr l (o+3)⟩:=by kernel_rfl
theorem qeu(l:AM.Loc)(o:Nat):QR Tryz.prog 132 (.ptr l o) 2=⟨1≠0, .ptr l (o+4)⟩:=by kernel_rfl
theorem qoc(l:AM.Loc)(o:Nat):QR Tryz.prog 140 (.ptr l o) 1=⟨1≠0, .ptr l (o+1)⟩:=by kernel_rfl
theorem qno(x0:AVal)(hx0:Sc x0)(x1:AVal)(hx1:Sc x1):Ub Tryz.prog 46 [(0,x0),(1,x1)]=⟨True, .agg [x0,x1]⟩:=by(cases x0<;>first|exact hx0.elim|skip)<;>(cases x1<;>first|exact hx1.elim|skip)<;>kernel_rfl
theorem Yn:Ub Tryz.prog 35 []=⟨True, .agg [.int .i64 0, .int .i64 0, .int .i64 0]⟩:=by kernel_rfl
theorem qjb(x0:List UInt8)(x1:AVal)(hx1:Sc x1):Ub Tryz.prog 57 [(0, .str x0),(1,x1)]=⟨True, .agg [.str x0,x1]⟩:=by(cases x1<;>first|exact hx1.elim|skip)<;>kernel_rfl
theorem qar(x0:Int)(x1:List UInt8):Ub Tryz.prog 54 [(0, .int .u8 x0),(1, .str x1)]=⟨True, .agg [.int .u8 x0, .str x1, .int .i64 0, .int .i64 0, .bool false]⟩:=by kernel_rfl
theorem qdP(x0:Int)(x1:Int):Ub Tryz.prog 33 [(0, .int .i64 x0),(1, .int .i64 x1)]=⟨True, .agg [.int .i64 x0, .int .i64 x1]⟩:=by kernel_rfl
theorem Wi(x0:Int)(x1:Int)(x2:Int):Ub Tryz.prog 35 [(0, .int .i64 x0),(1, .agg [.int .i64 x1, .int .i64 x2])]=⟨True, .agg [.int .i64 x0, .int .i64 x1, .int .i64 x2]⟩:=by kernel_rfl
theorem qvl(x0:AVal)(hx0:Sc x0)(x1:AVal)(hx1:Sc x1):Ub Tryz.prog 76 [(0,x0),(1,x1)]=⟨True, .agg [x0,x1, .nilSlice, .int .i64 0]⟩:=by(cases x0<;>first|exact hx0.elim|skip)<;>(cases x1<;>first|exact hx1.elim|skip)<;>kernel_rfl
theorem qAl(x0:AVal)(hx0:Sc x0):Ub Tryz.prog 89 [(0,x0)]=⟨True, .agg [x0, .int .i64 0]⟩:=by(cases x0<;>first|exact hx0.elim|skip)<;>kernel_rfl
theorem qtF(x7:Int):Ub Tryz.prog 70 [(3, .int .i64 x7)]=⟨True, .agg [.int .u8 0, .str [], .int .i64 0, .int .i64 0, .bool false, .nilSlice, .int .i64 0, .int .i64 x7]⟩:=by kernel_rfl
theorem qja:Ub Tryz.prog 91 []=⟨True, .agg [.int .u8 0, .str [], .int .i64 0, .int .i64 0, .bool false, .nilSlice]⟩:=by kernel_rfl
theorem qtG(x0:Int):Ub Tryz.prog 35 [(0, .int .i64 x0)]=⟨True, .agg [.int .i64 x0, .int .i64 0, .int .i64 0]⟩:=by kernel_rfl
theorem qAk(x0:Int)(x1:List UInt8)(x2:Int)(x3:Int)(x4:Bool):Ub Tryz.prog 91 [(0, .agg [.int .u8 x0, .str x1, .int .i64 x2, .int .i64 x3, .bool x4])]=⟨True, .agg [.int .u8 x0, .str x1, .int .i64 x2, .int .i64 x3, .bool x4, .nilSlice]⟩:=by kernel_rfl
theorem qtH:Ub Tryz.prog 120 []=⟨True, .agg [.int .i64 0, .bool false, .str [], .int .i64 0]⟩:=by kernel_rfl
theorem qlH(x0:Int)(x1:Bool)(x2:List UInt8)(x3:Int):Ub Tryz.prog 120 [(0, .int .i64 x0),(1, .bool x1),(2, .str x2),(3, .int .i64 x3)]=⟨True, .agg [.int .i64 x0, .bool x1, .str x2, .int .i64 x3]⟩:=by kernel_rfl
theorem qyO(x0:Bool):Ub Tryz.prog 129 [(0, .bool x0)]=⟨True, .agg [.bool x0, .str [], .nilSlice]⟩:=by kernel_rfl
theorem qyN:Ub Tryz.prog 46 []=⟨True, .agg [.nilSlice, .nilSlice]⟩:=by kernel_rfl
theorem qsD(x0:Int)(x1:Int)(x2:Int):Ub Tryz.prog 127 [(0, .int .i64 x0),(1, .agg [.int .i64 x1, .int .i64 x2])]=⟨True, .agg [.int .i64 x0, .int .i64 x1, .int .i64 x2]⟩:=by kernel_rfl
theorem qBR:Ub Tryz.prog 33 []=⟨True, .agg [.int .i64 0, .int .i64 0]⟩:=by kernel_rfl
theorem qbY:Ub Tryz.prog 54 []=⟨True, .agg [.int .u8 0, .str [], .int .i64 0, .int .i64 0, .bool false]⟩:=by kernel_rfl
theorem mixed:Tryz.prog.follows .mixedOrders=true:=by kernel_rfl
end Go.Proofs.YtlhhaagmakhilaaGreatDoor
namespace Go.Proofs.YtlhhaagmakhilaaGreatDoor
open Go.AM
open Go.Proofs
open Go.Col
open Go.Tok
set_option maxRecDepth 100000
def qbi(b:UInt8):UInt8:=if 97<=(b.toNat:Int)/\(b.toNat:Int)<=122 then KD ((b.toNat:Int)-97+65).toNat else b
def qbt(s:List UInt8)(i:Nat):List UInt8:=(s.take i).map qbi++s.drop i
theorem qgG(s:List UInt8)(i:Nat):(qbt s i).length=s.length:=by simp[qbt];omega
theorem qlk(s:List UInt8)(i:Nat)(hi:i<s.length):(qbt s i).getD i 0=s.getD i 0:=by
 have:(Vx qbi (List.take i s)).length=i:=by simp;omega
 simp only[qbt,Ko];rw[VD (by omega),this,Kq];simp
theorem qfB(s:List UInt8)(i:Nat)(hi:i<s.length):(qbt s i).set i (qbi (s.getD i 0))=qbt s (i+1):=by
 have e:(Vx qbi (List.take i s)).length=i:=by simp;omega
 have e1:s.drop i=s[i]::s.drop (i+1):=J5 hi;have e2:s.getD i 0=s[i]:=by simp[Ko,JA hi]
 simp only[qbt];have e3:(s.drop i).set 0 (qbi s[i])=qbi s[i]::s.drop (i+1):=by rw[e1];rfl
 have e4:s.take (i+1)=s.take i++[s[i]]:=by rw[VL,JA hi];rfl
 rw[VI _ _ (by omega),e,Nat.sub_self,e2,e3,e4,List.map_append,List.append_assoc];rfl
theorem qjy(s:List UInt8)(i:Nat)(hi:i<s.length)(hf:qbi (s.getD i 0)=s.getD i 0):qbt s (i+1)=qbt s i:=by
 rw[<-qfB s i hi,hf];apply List.ext_getElem?;intro j;by_cases hj:i=j
 ·subst hj
  have:=qlk s i hi;simp only[Ko]at this;rw[List.getElem?_set];have h2:i<(qbt s i).length:=by rw[qgG];exact hi
  rw[JA h2]at this|-
  simp only[VM]at this;rw[if_pos rfl,if_pos h2,Ko,this]
 ·rw[List.getElem?_set_ne hj]
theorem qsy(wz:World)(h:AHeap)(s:List UInt8)(hl:s.length<=9223372036854775807):ACall Tryz.prog wz 130 [.str s] h (fun v h'=>v= .str (s.map qbi)/\h'=h):=by
 refine qU (n:=30) (rs:=[.tmp 2]) Tryz.func130 rfl rfl rfl rfl (VN rfl) ?_;simp only[Qg];refine awp_rseq [0] (by rfl) fun K hK=>?_;simp+decide only[qa,ev,qH,qG,putD,VO,VP,Ka,Kb,↓qd,qb];apply hK;clear hK K;refine awp_rseq [3] (by rfl) fun K hK=>?_;simp+decide only[ev,putD,VO,VQ,Ka,Kb,↓qg,qc];refine qml Tryz.underlying9 Tryz.underlying22 Tryz.underlying5 (by rfl) (by omega) fun k1 hk1=>?_;simp+decide only[qa,ev,putD,VO,VQ,VP,Ka,Kb,↓qd,qb];apply hK;clear hK K;refine qJ ?_;refine awp_rseq [3,8,9,10] (by rfl) fun K hK=>?_;simp+decide only[qa,ev,qH,qG,putD,VO,VQ,VP,Ka,Kb,↓qg,qc,↓Xe,Qw,Zh Tryz.underlying22];apply hK;clear hK K;refine Qm ?_;refine XC [3,8,9,10] (fun i:Nat=>[(3, .slice (.own k1) 0 s.length (.grow 1)),(8, .slice (.own k1) 0 s.length (.grow 1)),(9, .int .i64 s.length),(10, .int .i64 i)]) (fun i:Nat=>h.set k1 ⟨byteCells (qbt s i),0⟩) (fun i:Nat=>i<=s.length) (fun i:Nat=>s.length-i) 0 rfl (Vm _) (Jt _) ?_;rintro i hi1;have hlen:=qgG s i;refine awp_rseq [3,8,9,10,11] (by rfl) fun K hK=>?_;simp+decide only[qa,ev,putD,VO,VQ,VP,Ka,Kb,↓qw,qm,qR,cond_false,qo,XZ];apply hK;clear hK K;refine qJ (qI (b:=_) rfl (fun hb1=>?_) (fun hb1=>?_))
 ·try simp only[decide_eq_true_eq]at hb1
  refine qP ?_;change Awp _ _ _ _ _ _ _;refine qJ ?_;refine Qm ?_;refine awp_rseq [3,4,5,8,9,10] (by rfl) fun K hK=>?_;simp+decide only[qa,ev,putD,VO,VQ,VP,Ka,Kb,↓qg,qc,↓QE,qY,qW Tryz.underlying22 sz5,↓qF,qz ag5,↓qd,qb,qZ,Js,Nat.mul_one,Vr,qcO (bs:=qbt s i) (i:=i) (by omega),qlk s i (by omega),JO];repeat (with_reducible refine And.intro ?_ ?_;· first|trivial|omega|(intro hg;simp only[Ky,JW,Jj,VS,VT,VU,decide_eq_true_eq,decide_eq_false_iff_not,XY]at hg;omega))
  apply hK;clear hK K;refine awp_rseq [3,4,5,8,9,10,20] (by rfl) fun K hK=>?_;simp+decide only[qa,ev,qH,qG,putD,VO,VQ,VP,Ka,Kb,↓qg,qc,↓qw,qm,qA,cond_false,qo,Ua,↓Xf,agP,Qv,qM,qK,qC,implies_true,↓Xd,Zv,Zw,qgM,↓QW,Qz,Qk,Xp,Xy];apply hK;clear hK K;refine qI (b:=_) rfl (fun hb2=>?_) (fun hb2=>?_)
  ·try simp only[decide_eq_true_eq,Ky]at hb2
   refine XW [3,8,9,10] (by rfl) ?_;simp+decide only[ev,qH,qG,putD,VO,VQ,Ka,Kb,↓qg,qc,↓qw,qm,qA,cond_false,qo,qaI,Xa];try simp(disch:=omega)only[wrap_u8]
   try simp+decide only[ev,putD,VO,VQ,Ka,↓QE,qY,qW Tryz.underlying22 sz5]
   repeat (with_reducible refine And.intro ?_ ?_;· first|trivial|omega|(intro hg;simp only[Ky,JW,Jj,VS,VT,VU,decide_eq_true_eq,decide_eq_false_iff_not,XY]at hg;omega))
   refine qlT (i:=i) (by rfl) (by rfl) sz5 (by rfl) (by omega) (by omega) (Jt _) (by omega) (by omega) ?_;simp+decide only[qa,putD,VP,Ka];change Awp _ _ _ _ _ _ _;refine XW [3,8,9,10] (by rfl) ?_;simp+decide only[qa,ev,qH,qG,putD,VO,VQ,VP,Ka,Kb,↓qw,qm,qA,cond_false,qo,Xa,↓qg,qc];try simp(disch:=omega)only[wrap_i64]
   try simp only[Qj]
   refine⟨i+1,rfl,?_,by omega,by omega⟩;first
   |(have e:qbi (s.getD i 0)=KD ((↑(s.getD i 0).toNat:Int)-97+65).toNat:=by rw[qbi,if_pos hb2]
     rw[<-qfB s i (by omega),e];exact Vm _)
   |(have e:qbi (s.getD i 0)=s.getD i 0:=by
      rw[qbi,if_neg];omega
     rw[qjy s i (by omega) e];exact Vm _)
  ·try simp only[decide_eq_false_iff_not,VS]at hb2
   refine qP ?_;change Awp _ _ _ _ _ _ _;refine XW [3,8,9,10] (by rfl) ?_;simp+decide only[qa,ev,qH,qG,putD,VO,VQ,VP,Ka,Kb,↓qw,qm,qA,cond_false,qo,Xa,↓qg,qc];try simp(disch:=omega)only[wrap_i64]
   try simp only[Qj]
   refine⟨i+1,rfl,?_,by omega,by omega⟩;first
   |(have e:qbi (s.getD i 0)=KD ((↑(s.getD i 0).toNat:Int)-97+65).toNat:=by rw[qbi,if_pos hb2]
     rw[<-qfB s i (by omega),e];exact Vm _)
   |(have e:qbi (s.getD i 0)=s.getD i 0:=by
      rw[qbi,if_neg];omega
     rw[qjy s i (by omega) e];exact Vm _)
 ·try simp only[decide_eq_false_iff_not]at hb1
  refine XE ?_;change Awp _ _ _ _ _ _ _;refine awp_rseq [2] (by rfl) fun K hK=>?_;simp+decide only[qa,ev,putD,VO,VQ,VP,Ka,Kb,↓qg,qc,↓qlN _ _ _ (qyb Tryz.underlying22 Tryz.underlying9),qfl,↓qd,qb,(IsB.own (wz:=wz) (Ve h k1 _) hlen.symm (c:= .grow 1) rfl).conv Tryz.underlying22 Tryz.underlying9 Tryz.underlying5];apply hK;clear hK K;refine qL ?_;refine Qb h (Vh hk1) (qN (Qc)) ?_;simp+decide only[VQ,if_true,and_true,Qs];all_goals rw[qbt,Jr (by omega),Vu (by omega),List.append_nil]
theorem qnW(s:Str):s.map qbi=Wh s:=by
 unfold Wh;congr 1;funext b;unfold qbi qfC;by_cases h:97<=(b.toNat:Int)/\(b.toNat:Int)<=122
 ·rw[if_pos h,if_pos (by omega)]
  apply UInt8.toNat.inj;rw[UInt8.toNat_sub_of_le _ _ (by rw[UInt8.le_iff_toNat_le];show 32<=b.toNat;omega)];show(KD ((b.toNat:Int)-97+65).toNat).toNat=b.toNat-32
  rw[UInt8.toNat_ofNat'];have:=UInt8.toNat_lt b;omega
 ·rw[if_neg h,if_neg (by omega)]
theorem qly(wz:World)(h:AHeap)(b:UInt8):ACall Tryz.prog wz 136 [.int .u8 b.toNat] h (fun v h'=>v= .bool (YS b)/\h'=h):=by
 refine qU (n:=9) (rs:=[.tmp 2]) Tryz.func136 rfl rfl rfl rfl (VN rfl) ?_;simp only[Qg];refine awp_rseq [0] (by rfl) fun K hK=>?_;simp+decide only[qa,ev,qH,qG,putD,VO,VP,Ka,Kb,↓qd,qb];apply hK;clear hK K;refine awp_rseq [2] (by rfl) fun K hK=>?_;simp+decide only[qa,ev,qH,qG,putD,VO,VQ,VP,Ka,Kb,↓qg,qc,↓qw,qm,qA,cond_false,qo,Ua,↓Xf,agP,Qv,qM,qK,qC,implies_true,↓Xd,Zv,Zw,qgM,↓QW,Qz,Qk,Xp,Xy,↓qd,qb];apply hK;clear hK K;refine qL ?_;refine Qb _ (Vm _) (qN (Qc)) ?_;simp+decide only[VQ,if_true,and_true,Qs];unfold YS;congr 1;rw[KA];simp only[Ky,decide_eq_true_eq];omega
theorem qio(wz:World)(h:AHeap)(b:UInt8):ACall Tryz.prog wz 111 [.int .u8 b.toNat] h (fun v h'=>v= .bool (Yf b)/\h'=h):=by
 refine qU (n:=25) (rs:=[.tmp 2]) Tryz.func111 rfl rfl rfl rfl (VN rfl) ?_;simp only[Qg];refine awp_rseq [0] (by rfl) fun K hK=>?_;simp+decide only[qa,ev,qH,qG,putD,VO,VP,Ka,Kb,↓qd,qb];apply hK;clear hK K;refine awp_rseq [2] (by rfl) fun K hK=>?_;simp+decide only[ev,putD,VO,VQ,Ka,Kb,↓qg,qc];refine qO (V:= .bool (YS b)) (by rfl) (by rfl) (qly wz _ b) ?_;simp+decide only[qa,ev,qH,qG,putD,VO,VQ,VP,Ka,Kb,↓qg,qc,↓Xf,agP,Qv,qM,qK,Xg,We,qC,Qh,qpK,implies_true,↓Xd,qm,qA,cond_false,Zv,Zw,qo,Ua,qgM,↓qdf,Qz,Qk,ZA,qii,Xy,ZO,qif,qih,↓QW,Za,↓qd,qb];apply hK;clear hK K;refine qL ?_;refine Qb _ (Vm _) (qN (Qc)) ?_;simp+decide only[VQ,if_true,and_true,Qs];unfold Yf qtp;congr 1;rw[KA];have e45:((b.toNat:Int)=45)↔b=45:=⟨fun q=>UInt8.toNat.inj (by have:((45:UInt8).toNat)=45:=rfl;omega),fun q=>by rw[q];rfl⟩
 simp only[JW,Ky,decide_eq_true_eq,e45];have c1:(97<=(b.toNat:Int))↔97<=b.toNat:=by omega
 have c2:((b.toNat:Int)<=122)↔b.toNat<=122:=by omega
 have c3:(65<=(b.toNat:Int))↔65<=b.toNat:=by omega
 have c4:((b.toNat:Int)<=90)↔b.toNat<=90:=by omega
 simp only[c1,c2,c3,c4,or_assoc]
end Go.Proofs.YtlhhaagmakhilaaGreatDoor
namespace Go.Proofs
open Go.Shelf
def Tryz.lays156_ren:Go.Shelf.Ren:=⟨fun|156=>55|165=>70|166=>71|169=>72|240=>89|241=>90|276=>119|277=>120|n=>n,fun|31=>30|9=>9|3=>3|4=>4|0=>0|20=>20|72=>140|76=>144|70=>138|37=>22|75=>143|127=>166|164=>189|5=>5|80=>146|n=>n,fun|n=>n⟩
theorem Tryz.lays156:Go.Proofs.Lays.n156 Tryz.prog Tryz.lays156_ren:={
 mixed:=by kernel_rfl
 f156:=Tryz.func55.trans (congrArg some (by kernel_rfl))
 f165:=Tryz.func70.trans (congrArg some (by kernel_rfl))
 f166:=Tryz.func71.trans (congrArg some (by kernel_rfl))
 f169:=Tryz.func72.trans (congrArg some (by kernel_rfl))
 f240:=Tryz.func89.trans (congrArg some (by kernel_rfl))
 f241:=Tryz.func90.trans (congrArg some (by kernel_rfl))
 f276:=Tryz.func119.trans (congrArg some (by kernel_rfl))
 f277:=Tryz.func120.trans (congrArg some (by kernel_rfl))
 t0:=Tryz.underlying0
 a0:=Tryz.isAgg0
 z0:=Tryz.sizeOf0
 v0:=Tryz.zeroValue0
 t3:=Tryz.underlying3
 a3:=Tryz.isAgg3
 z3:=Tryz.sizeOf3
 v3:=Tryz.zeroValue3
 t4:=Tryz.underlying4
 a4:=Tryz.isAgg4
 z4:=Tryz.sizeOf4
 v4:=Tryz.zeroValue4
 t9:=Tryz.underlying9
 a9:=Tryz.isAgg9
 z9:=Tryz.sizeOf9
 v9:=Tryz.zeroValue9
 t20:=Tryz.underlying20
 a20:=Tryz.isAgg20
 z20:=Tryz.sizeOf20
 v20:=Tryz.zeroValue20
 t31:=Tryz.underlying30
 a31:=Tryz.isAgg30
 z31:=Tryz.sizeOf30
 v31:=Tryz.zeroValue30
 t37:=Tryz.underlying22
 a37:=Tryz.isAgg22
 z37:=Tryz.sizeOf22
 v37:=Tryz.zeroValue22
 t70:=Tryz.underlying138
 a70:=Tryz.isAgg138
 z70:=Tryz.sizeOf138
 v70:=Tryz.zeroValue138
 t72:=Tryz.underlying140
 a72:=Tryz.isAgg140
 z72:=Tryz.sizeOf140
 v72:=Tryz.zeroValue140
 t75:=Tryz.underlying143
 a75:=Tryz.isAgg143
 z75:=Tryz.sizeOf143
 v75:=Tryz.zeroValue143
 t76:=Tryz.underlying144
 a76:=Tryz.isAgg144
 z76:=Tryz.sizeOf144
 v76:=Tryz.zeroValue144
 t127:=Tryz.underlying166
 a127:=Tryz.isAgg166
 z127:=Tryz.sizeOf166
 v127:=Tryz.zeroValue166
 t164:=Tryz.underlying189
 a164:=Tryz.isAgg189
 z164:=Tryz.sizeOf189
 v164:=Tryz.zeroValue189}
theorem Tryz.Builder_Extra_156:Builder.Extra Tryz.prog Tryz.lays156_ren:={
 sizeBuilder:=by kernel_rfl
 liesBuilder:=by kernel_rfl
 t5:=Tryz.underlying5
 a5:=Tryz.isAgg5
 z5:=Tryz.sizeOf5
 v5:=Tryz.zeroValue5
 infoByte:=by kernel_rfl
 cellsByte:=by kernel_rfl
 sizeByte:=by kernel_rfl
 neB5:=by decide}
open Go.RowKit in
theorem Tryz.strings_Join_none(a:Option Addr)(c:Nat)(sep:ByteArray)(w:World):
 Calls Tryz.prog 55 #[.slice a 0 c, .string sep] w fun e w'=>e= .returned (.string ⟨#[]⟩)/\w'=w:=Any.strings_Join_none Tryz.lays156 Tryz.Builder_Extra_156 a c sep w
open Go.RowKit in
theorem Tryz.strings_Join(bk o c:Nat)(xs:List ByteArray)(sep:ByteArray)(w:World)(hcells:∀(j:Nat) x,xs[j]?=some x->w.cell? ⟨bk,o+j,none⟩=some (.string x))(hbk:bk<w.heap.size)(hN:xs.length<=140737488355328)(hcap:xs.length<=c)(hlen:(Lib.join (xs.map (·.data.toList)) sep.data.toList).length<=140737488355328):
 Calls Tryz.prog 55 #[.slice (some ⟨bk,o,none⟩) xs.length c, .string sep] w fun e w'=>e= .returned (.string ⟨(Lib.join (xs.map (·.data.toList)) sep.data.toList).toArray⟩)/\Below w.heap.size w w':=Any.strings_Join Tryz.lays156 Tryz.Builder_Extra_156 bk o c xs sep w hcells hbk hN hcap hlen
def Tryz.lays161_ren:Go.Shelf.Ren:=⟨fun|161=>79|231=>97|227=>98|233=>99|235=>100|228=>124|197=>88|151=>125|260=>118|152=>142|137=>146|119=>147|224=>140|225=>139|217=>138|266=>144|n=>n,fun|9=>9|4=>4|3=>3|5=>5|117=>176|116=>175|0=>0|124=>179|105=>164|21=>21|119=>204|46=>169|139=>207|138=>206|n=>n,fun|3=>1|4=>2|n=>n⟩
theorem Tryz.lays161:Go.Proofs.Lays.n161 Tryz.prog Tryz.lays161_ren:={
 mixed:=by kernel_rfl
 f119:=Tryz.func147.trans (congrArg some (by kernel_rfl))
 f137:=Tryz.func146.trans (congrArg some (by kernel_rfl))
 f151:=Tryz.func125.trans (congrArg some (by kernel_rfl))
 f152:=Tryz.func142.trans (congrArg some (by kernel_rfl))
 f161:=Tryz.func79.trans (congrArg some (by kernel_rfl))
 f197:=Tryz.func88.trans (congrArg some (by kernel_rfl))
 f217:=Tryz.func138.trans (congrArg some (by kernel_rfl))
 f224:=Tryz.func140.trans (congrArg some (by kernel_rfl))
 f225:=Tryz.func139.trans (congrArg some (by kernel_rfl))
 f227:=Tryz.func98.trans (congrArg some (by kernel_rfl))
 f228:=Tryz.func124.trans (congrArg some (by kernel_rfl))
 f231:=Tryz.func97.trans (congrArg some (by kernel_rfl))
 f233:=Tryz.func99.trans (congrArg some (by kernel_rfl))
 f235:=Tryz.func100.trans (congrArg some (by kernel_rfl))
 f260:=Tryz.func118.trans (congrArg some (by kernel_rfl))
 f266:=Tryz.func144.trans (congrArg some (by kernel_rfl))
 t0:=Tryz.underlying0
 a0:=Tryz.isAgg0
 z0:=Tryz.sizeOf0
 v0:=Tryz.zeroValue0
 t3:=Tryz.underlying3
 a3:=Tryz.isAgg3
 z3:=Tryz.sizeOf3
 v3:=Tryz.zeroValue3
 t4:=Tryz.underlying4
 a4:=Tryz.isAgg4
 z4:=Tryz.sizeOf4
 v4:=Tryz.zeroValue4
 t5:=Tryz.underlying5
 a5:=Tryz.isAgg5
 z5:=Tryz.sizeOf5
 v5:=Tryz.zeroValue5
 t9:=Tryz.underlying9
 a9:=Tryz.isAgg9
 z9:=Tryz.sizeOf9
 v9:=Tryz.zeroValue9
 t21:=Tryz.underlying21
 a21:=Tryz.isAgg21
 z21:=Tryz.sizeOf21
 v21:=Tryz.zeroValue21
 t46:=Tryz.underlying169
 a46:=Tryz.isAgg169
 z46:=Tryz.sizeOf169
 v46:=Tryz.zeroValue169
 t105:=Tryz.underlying164
 a105:=Tryz.isAgg164
 z105:=Tryz.sizeOf164
 v105:=Tryz.zeroValue164
 t116:=Tryz.underlying175
 a116:=Tryz.isAgg175
 z116:=Tryz.sizeOf175
 t117:=Tryz.underlying176
 a117:=Tryz.isAgg176
 z117:=Tryz.sizeOf176
 v117:=Tryz.zeroValue176
 t119:=Tryz.underlying204
 a119:=Tryz.isAgg204
 z119:=Tryz.sizeOf204
 t124:=Tryz.underlying179
 a124:=Tryz.isAgg179
 z124:=Tryz.sizeOf179
 v124:=Tryz.zeroValue179
 t138:=Tryz.underlying206
 a138:=Tryz.isAgg206
 z138:=Tryz.sizeOf206
 v138:=Tryz.zeroValue206
 t139:=Tryz.underlying207
 a139:=Tryz.isAgg207
 z139:=Tryz.sizeOf207
 v139:=Tryz.zeroValue207
 g3:=by kernel_rfl
 g4:=by kernel_rfl}
open Go.RowKit in
theorem Tryz.strings_TrimLeft_one(s:ByteArray)(c:UInt8)(hc:c.toNat<128)(w:World):
 Calls Tryz.prog 79 #[.string s, .string ⟨#[c]⟩] w fun e w'=>e= .returned (.string ⟨(Lib.trimLeftB s.data.toList c).toArray⟩)/\w'=w:=Any.strings_TrimLeft_one Tryz.lays161 s c hc w
def Tryz.lays162_ren:Go.Shelf.Ren:=⟨fun|162=>102|232=>126|227=>98|234=>127|236=>128|228=>124|271=>143|151=>125|120=>148|197=>88|152=>142|260=>118|137=>146|119=>147|224=>140|225=>139|217=>138|266=>144|n=>n,fun|9=>9|4=>4|3=>3|5=>5|117=>176|116=>175|0=>0|124=>179|21=>21|105=>164|46=>169|119=>204|139=>207|138=>206|n=>n,fun|3=>1|4=>2|n=>n⟩
theorem Tryz.lays162:Go.Proofs.Lays.n162 Tryz.prog Tryz.lays162_ren:={
 mixed:=by kernel_rfl
 f119:=Tryz.func147.trans (congrArg some (by kernel_rfl))
 f120:=Tryz.func148.trans (congrArg some (by kernel_rfl))
 f137:=Tryz.func146.trans (congrArg some (by kernel_rfl))
 f151:=Tryz.func125.trans (congrArg some (by kernel_rfl))
 f152:=Tryz.func142.trans (congrArg some (by kernel_rfl))
 f162:=Tryz.func102.trans (congrArg some (by kernel_rfl))
 f197:=Tryz.func88.trans (congrArg some (by kernel_rfl))
 f217:=Tryz.func138.trans (congrArg some (by kernel_rfl))
 f224:=Tryz.func140.trans (congrArg some (by kernel_rfl))
 f225:=Tryz.func139.trans (congrArg some (by kernel_rfl))
 f227:=Tryz.func98.trans (congrArg some (by kernel_rfl))
 f228:=Tryz.func124.trans (congrArg some (by kernel_rfl))
 f232:=Tryz.func126.trans (congrArg some (by kernel_rfl))
 f234:=Tryz.func127.trans (congrArg some (by kernel_rfl))
 f236:=Tryz.func128.trans (congrArg some (by kernel_rfl))
 f260:=Tryz.func118.trans (congrArg some (by kernel_rfl))
 f266:=Tryz.func144.trans (congrArg some (by kernel_rfl))
 f271:=Tryz.func143.trans (congrArg some (by kernel_rfl))
 t0:=Tryz.underlying0
 a0:=Tryz.isAgg0
 z0:=Tryz.sizeOf0
 v0:=Tryz.zeroValue0
 t3:=Tryz.underlying3
 a3:=Tryz.isAgg3
 z3:=Tryz.sizeOf3
 v3:=Tryz.zeroValue3
 t4:=Tryz.underlying4
 a4:=Tryz.isAgg4
 z4:=Tryz.sizeOf4
 v4:=Tryz.zeroValue4
 t5:=Tryz.underlying5
 a5:=Tryz.isAgg5
 z5:=Tryz.sizeOf5
 v5:=Tryz.zeroValue5
 t9:=Tryz.underlying9
 a9:=Tryz.isAgg9
 z9:=Tryz.sizeOf9
 v9:=Tryz.zeroValue9
 t21:=Tryz.underlying21
 a21:=Tryz.isAgg21
 z21:=Tryz.sizeOf21
 v21:=Tryz.zeroValue21
 t46:=Tryz.underlying169
 a46:=Tryz.isAgg169
 z46:=Tryz.sizeOf169
 v46:=Tryz.zeroValue169
 t105:=Tryz.underlying164
 a105:=Tryz.isAgg164
 z105:=Tryz.sizeOf164
 v105:=Tryz.zeroValue164
 t116:=Tryz.underlying175
 a116:=Tryz.isAgg175
 z116:=Tryz.sizeOf175
 t117:=Tryz.underlying176
 a117:=Tryz.isAgg176
 z117:=Tryz.sizeOf176
 v117:=Tryz.zeroValue176
 t119:=Tryz.underlying204
 a119:=Tryz.isAgg204
 z119:=Tryz.sizeOf204
 t124:=Tryz.underlying179
 a124:=Tryz.isAgg179
 z124:=Tryz.sizeOf179
 v124:=Tryz.zeroValue179
 t138:=Tryz.underlying206
 a138:=Tryz.isAgg206
 z138:=Tryz.sizeOf206
 v138:=Tryz.zeroValue206
 t139:=Tryz.underlying207
 a139:=Tryz.isAgg207
 z139:=Tryz.sizeOf207
 v139:=Tryz.zeroValue207
 g3:=by kernel_rfl
 g4:=by kernel_rfl}
open Go.RowKit in
theorem Tryz.strings_TrimRight_one(s:ByteArray)(c:UInt8)(hc:c.toNat<128)(w:World)(hs:s.size<=9223372036854775807):
 Calls Tryz.prog 102 #[.string s, .string ⟨#[c]⟩] w fun e w'=>e= .returned (.string ⟨(Lib.trimRightB s.data.toList c).toArray⟩)/\w'=w:=Any.strings_TrimRight_one Tryz.lays162 s c hc w hs
def Tryz.lays160_ren:Go.Shelf.Ren:=⟨fun|160=>137|232=>126|231=>97|227=>98|234=>127|233=>99|236=>128|235=>100|228=>124|271=>143|151=>125|197=>88|120=>148|152=>142|260=>118|137=>146|119=>147|224=>140|225=>139|217=>138|266=>144|n=>n,fun|9=>9|4=>4|3=>3|5=>5|117=>176|116=>175|0=>0|124=>179|21=>21|105=>164|46=>169|119=>204|139=>207|138=>206|n=>n,fun|3=>1|4=>2|n=>n⟩
theorem Tryz.lays160:Go.Proofs.Lays.n160 Tryz.prog Tryz.lays160_ren:={
 mixed:=by kernel_rfl
 f119:=Tryz.func147.trans (congrArg some (by kernel_rfl))
 f120:=Tryz.func148.trans (congrArg some (by kernel_rfl))
 f137:=Tryz.func146.trans (congrArg some (by kernel_rfl))
 f151:=Tryz.func125.trans (congrArg some (by kernel_rfl))
 f152:=Tryz.func142.trans (congrArg some (by kernel_rfl))
 f160:=Tryz.func137.trans (congrArg some (by kernel_rfl))
 f197:=Tryz.func88.trans (congrArg some (by kernel_rfl))
 f217:=Tryz.func138.trans (congrArg some (by kernel_rfl))
 f224:=Tryz.func140.trans (congrArg some (by kernel_rfl))
 f225:=Tryz.func139.trans (congrArg some (by kernel_rfl))
 f227:=Tryz.func98.trans (congrArg some (by kernel_rfl))
 f228:=Tryz.func124.trans (congrArg some (by kernel_rfl))
 f231:=Tryz.func97.trans (congrArg some (by kernel_rfl))
 f232:=Tryz.func126.trans (congrArg some (by kernel_rfl))
 f233:=Tryz.func99.trans (congrArg some (by kernel_rfl))
 f234:=Tryz.func127.trans (congrArg some (by kernel_rfl))
 f235:=Tryz.func100.trans (congrArg some (by kernel_rfl))
 f236:=Tryz.func128.trans (congrArg some (by kernel_rfl))
 f260:=Tryz.func118.trans (congrArg some (by kernel_rfl))
 f266:=Tryz.func144.trans (congrArg some (by kernel_rfl))
 f271:=Tryz.func143.trans (congrArg some (by kernel_rfl))
 t0:=Tryz.underlying0
 a0:=Tryz.isAgg0
 z0:=Tryz.sizeOf0
 v0:=Tryz.zeroValue0
 t3:=Tryz.underlying3
 a3:=Tryz.isAgg3
 z3:=Tryz.sizeOf3
 v3:=Tryz.zeroValue3
 t4:=Tryz.underlying4
 a4:=Tryz.isAgg4
 z4:=Tryz.sizeOf4
 v4:=Tryz.zeroValue4
 t5:=Tryz.underlying5
 a5:=Tryz.isAgg5
 z5:=Tryz.sizeOf5
 v5:=Tryz.zeroValue5
 t9:=Tryz.underlying9
 a9:=Tryz.isAgg9
 z9:=Tryz.sizeOf9
 v9:=Tryz.zeroValue9
 t21:=Tryz.underlying21
 a21:=Tryz.isAgg21
 z21:=Tryz.sizeOf21
 v21:=Tryz.zeroValue21
 t46:=Tryz.underlying169
 a46:=Tryz.isAgg169
 z46:=Tryz.sizeOf169
 v46:=Tryz.zeroValue169
 t105:=Tryz.underlying164
 a105:=Tryz.isAgg164
 z105:=Tryz.sizeOf164
 v105:=Tryz.zeroValue164
 t116:=Tryz.underlying175
 a116:=Tryz.isAgg175
 z116:=Tryz.sizeOf175
 t117:=Tryz.underlying176
 a117:=Tryz.isAgg176
 z117:=Tryz.sizeOf176
 v117:=Tryz.zeroValue176
 t119:=Tryz.underlying204
 a119:=Tryz.isAgg204
 z119:=Tryz.sizeOf204
 t124:=Tryz.underlying179
 a124:=Tryz.isAgg179
 z124:=Tryz.sizeOf179
 v124:=Tryz.zeroValue179
 t138:=Tryz.underlying206
 a138:=Tryz.isAgg206
 z138:=Tryz.sizeOf206
 v138:=Tryz.zeroValue206
 t139:=Tryz.underlying207
 a139:=Tryz.isAgg207
 z139:=Tryz.sizeOf207
 v139:=Tryz.zeroValue207
 g3:=by kernel_rfl
 g4:=by kernel_rfl}
def Tryz.lays144_ren:Go.Shelf.Ren:=⟨fun|144=>134|143=>87|219=>117|217=>138|225=>139|224=>140|267=>141|266=>144|314=>145|n=>n,fun|9=>9|4=>4|3=>3|5=>5|46=>169|146=>193|51=>192|n=>n,fun|1=>0|n=>n⟩
theorem Tryz.lays144:Go.Proofs.Lays.n144 Tryz.prog Tryz.lays144_ren:={
 mixed:=by kernel_rfl
 f143:=Tryz.func87.trans (congrArg some (by kernel_rfl))
 f144:=Tryz.func134.trans (congrArg some (by kernel_rfl))
 f217:=Tryz.func138.trans (congrArg some (by kernel_rfl))
 f219:=Tryz.func117.trans (congrArg some (by kernel_rfl))
 f224:=Tryz.func140.trans (congrArg some (by kernel_rfl))
 f225:=Tryz.func139.trans (congrArg some (by kernel_rfl))
 f266:=Tryz.func144.trans (congrArg some (by kernel_rfl))
 f267:=Tryz.func141.trans (congrArg some (by kernel_rfl))
 f314:=Tryz.func145.trans (congrArg some (by kernel_rfl))
 t3:=Tryz.underlying3
 a3:=Tryz.isAgg3
 z3:=Tryz.sizeOf3
 v3:=Tryz.zeroValue3
 t4:=Tryz.underlying4
 a4:=Tryz.isAgg4
 z4:=Tryz.sizeOf4
 v4:=Tryz.zeroValue4
 t5:=Tryz.underlying5
 a5:=Tryz.isAgg5
 z5:=Tryz.sizeOf5
 v5:=Tryz.zeroValue5
 t9:=Tryz.underlying9
 a9:=Tryz.isAgg9
 z9:=Tryz.sizeOf9
 v9:=Tryz.zeroValue9
 t46:=Tryz.underlying169
 a46:=Tryz.isAgg169
 z46:=Tryz.sizeOf169
 v46:=Tryz.zeroValue169
 t51:=Tryz.underlying192
 a51:=Tryz.isAgg192
 z51:=Tryz.sizeOf192
 v51:=Tryz.zeroValue192
 t146:=Tryz.underlying193
 a146:=Tryz.isAgg193
 z146:=Tryz.sizeOf193
 v146:=Tryz.zeroValue193
 g1:=by kernel_rfl}
open Go.RowKit Go.Lib in
theorem Tryz.strings_Contains_one(s:ByteArray)(c:UInt8)(w:World):
 Calls Tryz.prog 134 #[.string s, .string ⟨#[c]⟩] w fun e w'=>e= .returned (.bool (decide (0<=Lib.indexByte s.data.toList c)))/\w'=w:=Any.strings_Contains_one Tryz.lays144 s c w
def Tryz.lays138_ren:Go.Shelf.Ren:=⟨fun|138=>86|195=>115|218=>116|143=>87|219=>117|217=>138|225=>139|224=>140|267=>141|266=>144|314=>145|n=>n,fun|9=>9|3=>3|4=>4|5=>5|0=>0|46=>169|146=>193|51=>192|n=>n,fun|1=>0|n=>n⟩
theorem Tryz.lays138:Go.Proofs.Lays.n138 Tryz.prog Tryz.lays138_ren:={
 mixed:=by kernel_rfl
 f138:=Tryz.func86.trans (congrArg some (by kernel_rfl))
 f143:=Tryz.func87.trans (congrArg some (by kernel_rfl))
 f195:=Tryz.func115.trans (congrArg some (by kernel_rfl))
 f217:=Tryz.func138.trans (congrArg some (by kernel_rfl))
 f218:=Tryz.func116.trans (congrArg some (by kernel_rfl))
 f219:=Tryz.func117.trans (congrArg some (by kernel_rfl))
 f224:=Tryz.func140.trans (congrArg some (by kernel_rfl))
 f225:=Tryz.func139.trans (congrArg some (by kernel_rfl))
 f266:=Tryz.func144.trans (congrArg some (by kernel_rfl))
 f267:=Tryz.func141.trans (congrArg some (by kernel_rfl))
 f314:=Tryz.func145.trans (congrArg some (by kernel_rfl))
 t0:=Tryz.underlying0
 a0:=Tryz.isAgg0
 z0:=Tryz.sizeOf0
 v0:=Tryz.zeroValue0
 t3:=Tryz.underlying3
 a3:=Tryz.isAgg3
 z3:=Tryz.sizeOf3
 v3:=Tryz.zeroValue3
 t4:=Tryz.underlying4
 a4:=Tryz.isAgg4
 z4:=Tryz.sizeOf4
 v4:=Tryz.zeroValue4
 t5:=Tryz.underlying5
 a5:=Tryz.isAgg5
 z5:=Tryz.sizeOf5
 v5:=Tryz.zeroValue5
 t9:=Tryz.underlying9
 a9:=Tryz.isAgg9
 z9:=Tryz.sizeOf9
 v9:=Tryz.zeroValue9
 t46:=Tryz.underlying169
 a46:=Tryz.isAgg169
 z46:=Tryz.sizeOf169
 v46:=Tryz.zeroValue169
 t51:=Tryz.underlying192
 a51:=Tryz.isAgg192
 z51:=Tryz.sizeOf192
 v51:=Tryz.zeroValue192
 t146:=Tryz.underlying193
 a146:=Tryz.isAgg193
 z146:=Tryz.sizeOf193
 v146:=Tryz.zeroValue193
 g1:=by kernel_rfl}
open Go.RowKit Go.Lib in
theorem Tryz.strings_Count_one(s:ByteArray)(c:UInt8)(w:World):
 Calls Tryz.prog 86 #[.string s, .string ⟨#[c]⟩] w fun e w'=>e= .returned (.int .i64 (Lib.countByte s.data.toList c))/\w'=w:=Any.strings_Count_one Tryz.lays138 s c w
def Tryz.laysGw15_ren:Go.Shelf.Ren:=⟨fun|15=>76|20=>93|n=>n,fun|9=>9|23=>150|3=>3|4=>4|0=>0|21=>21|n=>n,fun|n=>n⟩
theorem Tryz.laysGw15:Go.Proofs.LaysGw.n15 Tryz.prog Tryz.laysGw15_ren:={
 mixed:=by kernel_rfl
 f15:=Tryz.func76.trans (congrArg some (by kernel_rfl))
 f20:=Tryz.func93.trans (congrArg some (by kernel_rfl))
 t0:=Tryz.underlying0
 a0:=Tryz.isAgg0
 z0:=Tryz.sizeOf0
 v0:=Tryz.zeroValue0
 i0:=by kernel_rfl
 t3:=Tryz.underlying3
 a3:=Tryz.isAgg3
 z3:=Tryz.sizeOf3
 v3:=Tryz.zeroValue3
 i3:=by kernel_rfl
 t4:=Tryz.underlying4
 a4:=Tryz.isAgg4
 z4:=Tryz.sizeOf4
 v4:=Tryz.zeroValue4
 i4:=by kernel_rfl
 t9:=Tryz.underlying9
 a9:=Tryz.isAgg9
 z9:=Tryz.sizeOf9
 v9:=Tryz.zeroValue9
 i9:=by kernel_rfl
 t21:=Tryz.underlying21
 a21:=Tryz.isAgg21
 z21:=Tryz.sizeOf21
 v21:=Tryz.zeroValue21
 i21:=by kernel_rfl
 t23:=Tryz.underlying150
 a23:=Tryz.isAgg150
 z23:=Tryz.sizeOf150
 v23:=Tryz.zeroValue150
 i23:=by kernel_rfl}
open Go.RowKit Go.Lib in
theorem Tryz.strings_IndexFunc_runes(g:Nat)(lb:Array Value)(eg:∀args w,(callFunc g args).run Tryz.prog w= .ok (.enter g args) w)(p:Nat->Bool)(s:ByteArray)(w:World)(hp:PredAtRunes Tryz.prog g lb p w):
 Calls Tryz.prog 76 #[.string s, .func (.func g) #[] lb] w fun e w'=>e= .returned (.int .i64 (Lib.idxFunc p true s))/\Below w.heap.size w w':=Any.strings_IndexFunc_runes Tryz.laysGw15 g lb eg p s w hp
def Tryz.lays99_ren:Go.Shelf.Ren:=⟨fun|99=>95|206=>123|n=>n,fun|9=>9|4=>4|3=>3|n=>n,fun|n=>n⟩
theorem Tryz.lays99:Go.Proofs.Lays.n99 Tryz.prog Tryz.lays99_ren:={
 mixed:=by kernel_rfl
 f99:=Tryz.func95.trans (congrArg some (by kernel_rfl))
 f206:=Tryz.func123.trans (congrArg some (by kernel_rfl))
 t3:=Tryz.underlying3
 a3:=Tryz.isAgg3
 z3:=Tryz.sizeOf3
 v3:=Tryz.zeroValue3
 t4:=Tryz.underlying4
 a4:=Tryz.isAgg4
 z4:=Tryz.sizeOf4
 v4:=Tryz.zeroValue4
 t9:=Tryz.underlying9
 a9:=Tryz.isAgg9
 z9:=Tryz.sizeOf9
 v9:=Tryz.zeroValue9}
open Go.RowKit Go.Lib in
theorem Tryz.strings_HasPrefix(s p:ByteArray)(w:World):
 Calls Tryz.prog 95 #[.string s, .string p] w fun e w'=>e= .returned (.bool (Lib.hasPrefix s.data.toList p.data.toList))/\w'=w:=Any.strings_HasPrefix Tryz.lays99 s p w
def Tryz.lays102_ren:Go.Shelf.Ren:=⟨fun|102=>60|209=>74|207=>92|n=>n,fun|9=>9|4=>4|3=>3|n=>n,fun|n=>n⟩
theorem Tryz.lays102:Go.Proofs.Lays.n102 Tryz.prog Tryz.lays102_ren:={
 mixed:=by kernel_rfl
 f102:=Tryz.func60.trans (congrArg some (by kernel_rfl))
 f207:=Tryz.func92.trans (congrArg some (by kernel_rfl))
 f209:=Tryz.func74.trans (congrArg some (by kernel_rfl))
 t3:=Tryz.underlying3
 a3:=Tryz.isAgg3
 z3:=Tryz.sizeOf3
 v3:=Tryz.zeroValue3
 t4:=Tryz.underlying4
 a4:=Tryz.isAgg4
 z4:=Tryz.sizeOf4
 v4:=Tryz.zeroValue4
 t9:=Tryz.underlying9
 a9:=Tryz.isAgg9
 z9:=Tryz.sizeOf9
 v9:=Tryz.zeroValue9}
open Go.RowKit Go.Lib in
theorem Tryz.strings_TrimSuffix(s p:ByteArray)(w:World)(hs:s.size<=9223372036854775807):
 Calls Tryz.prog 60 #[.string s, .string p] w fun e w'=>e= .returned (.string ⟨(Lib.trimSuffix s.data.toList p.data.toList).toArray⟩)/\w'=w:=Any.strings_TrimSuffix Tryz.lays102 s p w hs
def Tryz.lays146_ren:Go.Shelf.Ren:=⟨fun|146=>59|221=>73|268=>91|138=>86|143=>87|195=>115|197=>88|218=>116|219=>117|260=>118|217=>138|225=>139|224=>140|267=>141|266=>144|314=>145|n=>n,fun|9=>9|31=>30|3=>3|4=>4|0=>0|105=>164|21=>21|5=>5|46=>169|119=>204|139=>207|138=>206|146=>193|51=>192|n=>n,fun|1=>0|3=>1|4=>2|n=>n⟩
theorem Tryz.lays146:Go.Proofs.Lays.n146 Tryz.prog Tryz.lays146_ren:={
 mixed:=by kernel_rfl
 f138:=Tryz.func86.trans (congrArg some (by kernel_rfl))
 f143:=Tryz.func87.trans (congrArg some (by kernel_rfl))
 f146:=Tryz.func59.trans (congrArg some (by kernel_rfl))
 f195:=Tryz.func115.trans (congrArg some (by kernel_rfl))
 f197:=Tryz.func88.trans (congrArg some (by kernel_rfl))
 f217:=Tryz.func138.trans (congrArg some (by kernel_rfl))
 f218:=Tryz.func116.trans (congrArg some (by kernel_rfl))
 f219:=Tryz.func117.trans (congrArg some (by kernel_rfl))
 f221:=Tryz.func73.trans (congrArg some (by kernel_rfl))
 f224:=Tryz.func140.trans (congrArg some (by kernel_rfl))
 f225:=Tryz.func139.trans (congrArg some (by kernel_rfl))
 f260:=Tryz.func118.trans (congrArg some (by kernel_rfl))
 f266:=Tryz.func144.trans (congrArg some (by kernel_rfl))
 f267:=Tryz.func141.trans (congrArg some (by kernel_rfl))
 f268:=Tryz.func91.trans (congrArg some (by kernel_rfl))
 f314:=Tryz.func145.trans (congrArg some (by kernel_rfl))
 t0:=Tryz.underlying0
 a0:=Tryz.isAgg0
 z0:=Tryz.sizeOf0
 v0:=Tryz.zeroValue0
 t3:=Tryz.underlying3
 a3:=Tryz.isAgg3
 z3:=Tryz.sizeOf3
 v3:=Tryz.zeroValue3
 t4:=Tryz.underlying4
 a4:=Tryz.isAgg4
 z4:=Tryz.sizeOf4
 v4:=Tryz.zeroValue4
 t5:=Tryz.underlying5
 a5:=Tryz.isAgg5
 z5:=Tryz.sizeOf5
 v5:=Tryz.zeroValue5
 t9:=Tryz.underlying9
 a9:=Tryz.isAgg9
 z9:=Tryz.sizeOf9
 v9:=Tryz.zeroValue9
 t21:=Tryz.underlying21
 a21:=Tryz.isAgg21
 z21:=Tryz.sizeOf21
 v21:=Tryz.zeroValue21
 t31:=Tryz.underlying30
 a31:=Tryz.isAgg30
 z31:=Tryz.sizeOf30
 v31:=Tryz.zeroValue30
 t46:=Tryz.underlying169
 a46:=Tryz.isAgg169
 z46:=Tryz.sizeOf169
 v46:=Tryz.zeroValue169
 t51:=Tryz.underlying192
 a51:=Tryz.isAgg192
 z51:=Tryz.sizeOf192
 v51:=Tryz.zeroValue192
 t105:=Tryz.underlying164
 a105:=Tryz.isAgg164
 z105:=Tryz.sizeOf164
 v105:=Tryz.zeroValue164
 t119:=Tryz.underlying204
 a119:=Tryz.isAgg204
 z119:=Tryz.sizeOf204
 t138:=Tryz.underlying206
 a138:=Tryz.isAgg206
 z138:=Tryz.sizeOf206
 v138:=Tryz.zeroValue206
 t139:=Tryz.underlying207
 a139:=Tryz.isAgg207
 z139:=Tryz.sizeOf207
 v139:=Tryz.zeroValue207
 t146:=Tryz.underlying193
 a146:=Tryz.isAgg193
 z146:=Tryz.sizeOf193
 v146:=Tryz.zeroValue193
 g1:=by kernel_rfl
 g3:=by kernel_rfl
 g4:=by kernel_rfl}
open Go.RowKit Go.Lib in
theorem Tryz.strings_Split(s sep:ByteArray)(m:Int)(w:World)(hs:s.size<4294967281)(hm:w.cell? ⟨0,0,none⟩=some (.int .i64 m))(h1:1<=sep.size):
 Calls Tryz.prog 59 #[.string s, .string sep] w fun e w'=>
  e= .returned (.slice (some ⟨w.heap.size,0,none⟩) (Lib.countB s sep+1) (Lib.countB s sep+1))/\w'=w.alloc (.cells ((Lib.splitB sep 0 (Lib.countB s sep) s).map Value.string).toArray 9):=Any.strings_Split Tryz.lays146 (by kernel_rfl) s sep m w hs hm h1
def Tryz.lays155_ren:Go.Shelf.Ren:=⟨fun|155=>54|154=>69|138=>86|165=>70|143=>87|166=>71|197=>88|169=>72|195=>115|218=>116|240=>89|241=>90|219=>117|260=>118|276=>119|277=>120|217=>138|225=>139|224=>140|267=>141|266=>144|314=>145|n=>n,fun|9=>9|3=>3|4=>4|72=>140|0=>0|76=>144|105=>164|21=>21|5=>5|70=>138|20=>20|37=>22|75=>143|127=>166|164=>189|46=>169|119=>204|139=>207|138=>206|146=>193|51=>192|80=>146|n=>n,fun|1=>0|3=>1|4=>2|n=>n⟩
theorem Tryz.lays155:Go.Proofs.Lays.n155 Tryz.prog Tryz.lays155_ren:={
 mixed:=by kernel_rfl
 f138:=Tryz.func86.trans (congrArg some (by kernel_rfl))
 f143:=Tryz.func87.trans (congrArg some (by kernel_rfl))
 f154:=Tryz.func69.trans (congrArg some (by kernel_rfl))
 f155:=Tryz.func54.trans (congrArg some (by kernel_rfl))
 f165:=Tryz.func70.trans (congrArg some (by kernel_rfl))
 f166:=Tryz.func71.trans (congrArg some (by kernel_rfl))
 f169:=Tryz.func72.trans (congrArg some (by kernel_rfl))
 f195:=Tryz.func115.trans (congrArg some (by kernel_rfl))
 f197:=Tryz.func88.trans (congrArg some (by kernel_rfl))
 f217:=Tryz.func138.trans (congrArg some (by kernel_rfl))
 f218:=Tryz.func116.trans (congrArg some (by kernel_rfl))
 f219:=Tryz.func117.trans (congrArg some (by kernel_rfl))
 f224:=Tryz.func140.trans (congrArg some (by kernel_rfl))
 f225:=Tryz.func139.trans (congrArg some (by kernel_rfl))
 f240:=Tryz.func89.trans (congrArg some (by kernel_rfl))
 f241:=Tryz.func90.trans (congrArg some (by kernel_rfl))
 f260:=Tryz.func118.trans (congrArg some (by kernel_rfl))
 f266:=Tryz.func144.trans (congrArg some (by kernel_rfl))
 f267:=Tryz.func141.trans (congrArg some (by kernel_rfl))
 f276:=Tryz.func119.trans (congrArg some (by kernel_rfl))
 f277:=Tryz.func120.trans (congrArg some (by kernel_rfl))
 f314:=Tryz.func145.trans (congrArg some (by kernel_rfl))
 t0:=Tryz.underlying0
 a0:=Tryz.isAgg0
 z0:=Tryz.sizeOf0
 v0:=Tryz.zeroValue0
 t3:=Tryz.underlying3
 a3:=Tryz.isAgg3
 z3:=Tryz.sizeOf3
 v3:=Tryz.zeroValue3
 t4:=Tryz.underlying4
 a4:=Tryz.isAgg4
 z4:=Tryz.sizeOf4
 v4:=Tryz.zeroValue4
 t5:=Tryz.underlying5
 a5:=Tryz.isAgg5
 z5:=Tryz.sizeOf5
 v5:=Tryz.zeroValue5
 t9:=Tryz.underlying9
 a9:=Tryz.isAgg9
 z9:=Tryz.sizeOf9
 v9:=Tryz.zeroValue9
 t20:=Tryz.underlying20
 a20:=Tryz.isAgg20
 z20:=Tryz.sizeOf20
 v20:=Tryz.zeroValue20
 t21:=Tryz.underlying21
 a21:=Tryz.isAgg21
 z21:=Tryz.sizeOf21
 v21:=Tryz.zeroValue21
 t37:=Tryz.underlying22
 a37:=Tryz.isAgg22
 z37:=Tryz.sizeOf22
 v37:=Tryz.zeroValue22
 t46:=Tryz.underlying169
 a46:=Tryz.isAgg169
 z46:=Tryz.sizeOf169
 v46:=Tryz.zeroValue169
 t51:=Tryz.underlying192
 a51:=Tryz.isAgg192
 z51:=Tryz.sizeOf192
 v51:=Tryz.zeroValue192
 t70:=Tryz.underlying138
 a70:=Tryz.isAgg138
 z70:=Tryz.sizeOf138
 v70:=Tryz.zeroValue138
 t72:=Tryz.underlying140
 a72:=Tryz.isAgg140
 z72:=Tryz.sizeOf140
 v72:=Tryz.zeroValue140
 t75:=Tryz.underlying143
 a75:=Tryz.isAgg143
 z75:=Tryz.sizeOf143
 v75:=Tryz.zeroValue143
 t76:=Tryz.underlying144
 a76:=Tryz.isAgg144
 z76:=Tryz.sizeOf144
 v76:=Tryz.zeroValue144
 t105:=Tryz.underlying164
 a105:=Tryz.isAgg164
 z105:=Tryz.sizeOf164
 v105:=Tryz.zeroValue164
 t119:=Tryz.underlying204
 a119:=Tryz.isAgg204
 z119:=Tryz.sizeOf204
 t127:=Tryz.underlying166
 a127:=Tryz.isAgg166
 z127:=Tryz.sizeOf166
 v127:=Tryz.zeroValue166
 t138:=Tryz.underlying206
 a138:=Tryz.isAgg206
 z138:=Tryz.sizeOf206
 v138:=Tryz.zeroValue206
 t139:=Tryz.underlying207
 a139:=Tryz.isAgg207
 z139:=Tryz.sizeOf207
 v139:=Tryz.zeroValue207
 t146:=Tryz.underlying193
 a146:=Tryz.isAgg193
 z146:=Tryz.sizeOf193
 v146:=Tryz.zeroValue193
 t164:=Tryz.underlying189
 a164:=Tryz.isAgg189
 z164:=Tryz.sizeOf189
 v164:=Tryz.zeroValue189
 g1:=by kernel_rfl
 g3:=by kernel_rfl
 g4:=by kernel_rfl}
theorem Tryz.Builder_Extra_155:Builder.Extra Tryz.prog Tryz.lays155_ren:={
 sizeBuilder:=by kernel_rfl
 liesBuilder:=by kernel_rfl
 t5:=Tryz.underlying5
 a5:=Tryz.isAgg5
 z5:=Tryz.sizeOf5
 v5:=Tryz.zeroValue5
 infoByte:=by kernel_rfl
 cellsByte:=by kernel_rfl
 sizeByte:=by kernel_rfl
 neB5:=by decide}
open Go.RowKit Go.Lib in
theorem Tryz.strings_ReplaceAll(s old new:ByteArray)(m:Int)(w:World)(hs:s.size<4294967281)(hm:w.cell? ⟨0,0,none⟩=some (.int .i64 m))(h1:1<=old.size)(hlen:s.size+Lib.countB s old*new.size<=140737488355328):
 Calls Tryz.prog 54 #[.string s, .string old, .string new] w fun e w'=>
  e= .returned (.string ⟨(Lib.replaceAll s.data.toList old.data.toList new.data.toList).toArray⟩)/\Below w.heap.size w w':=Any.strings_ReplaceAll Tryz.lays155 Tryz.Builder_Extra_155 s old new m w hs hm h1 hlen
def Tryz.lays105_ren:Go.Shelf.Ren:=⟨fun|105=>78|212=>94|99=>95|165=>70|166=>71|170=>96|169=>72|263=>121|264=>122|206=>123|240=>89|241=>90|276=>119|277=>120|n=>n,fun|9=>9|3=>3|4=>4|20=>20|0=>0|46=>169|109=>170|5=>5|72=>140|76=>144|51=>192|146=>193|53=>195|148=>196|70=>138|37=>22|75=>143|127=>166|164=>189|80=>146|n=>n,fun|n=>n⟩
theorem Tryz.lays105:Go.Proofs.Lays.n105 Tryz.prog Tryz.lays105_ren:={
 mixed:=by kernel_rfl
 f99:=Tryz.func95.trans (congrArg some (by kernel_rfl))
 f105:=Tryz.func78.trans (congrArg some (by kernel_rfl))
 f165:=Tryz.func70.trans (congrArg some (by kernel_rfl))
 f166:=Tryz.func71.trans (congrArg some (by kernel_rfl))
 f169:=Tryz.func72.trans (congrArg some (by kernel_rfl))
 f170:=Tryz.func96.trans (congrArg some (by kernel_rfl))
 f206:=Tryz.func123.trans (congrArg some (by kernel_rfl))
 f212:=Tryz.func94.trans (congrArg some (by kernel_rfl))
 f240:=Tryz.func89.trans (congrArg some (by kernel_rfl))
 f241:=Tryz.func90.trans (congrArg some (by kernel_rfl))
 f263:=Tryz.func121.trans (congrArg some (by kernel_rfl))
 f264:=Tryz.func122.trans (congrArg some (by kernel_rfl))
 f276:=Tryz.func119.trans (congrArg some (by kernel_rfl))
 f277:=Tryz.func120.trans (congrArg some (by kernel_rfl))
 t0:=Tryz.underlying0
 a0:=Tryz.isAgg0
 z0:=Tryz.sizeOf0
 v0:=Tryz.zeroValue0
 t3:=Tryz.underlying3
 a3:=Tryz.isAgg3
 z3:=Tryz.sizeOf3
 v3:=Tryz.zeroValue3
 t4:=Tryz.underlying4
 a4:=Tryz.isAgg4
 z4:=Tryz.sizeOf4
 v4:=Tryz.zeroValue4
 t5:=Tryz.underlying5
 a5:=Tryz.isAgg5
 z5:=Tryz.sizeOf5
 v5:=Tryz.zeroValue5
 t9:=Tryz.underlying9
 a9:=Tryz.isAgg9
 z9:=Tryz.sizeOf9
 v9:=Tryz.zeroValue9
 t20:=Tryz.underlying20
 a20:=Tryz.isAgg20
 z20:=Tryz.sizeOf20
 v20:=Tryz.zeroValue20
 t37:=Tryz.underlying22
 a37:=Tryz.isAgg22
 z37:=Tryz.sizeOf22
 v37:=Tryz.zeroValue22
 t46:=Tryz.underlying169
 a46:=Tryz.isAgg169
 z46:=Tryz.sizeOf169
 v46:=Tryz.zeroValue169
 t51:=Tryz.underlying192
 a51:=Tryz.isAgg192
 z51:=Tryz.sizeOf192
 v51:=Tryz.zeroValue192
 t53:=Tryz.underlying195
 a53:=Tryz.isAgg195
 z53:=Tryz.sizeOf195
 v53:=Tryz.zeroValue195
 t70:=Tryz.underlying138
 a70:=Tryz.isAgg138
 z70:=Tryz.sizeOf138
 v70:=Tryz.zeroValue138
 t72:=Tryz.underlying140
 a72:=Tryz.isAgg140
 z72:=Tryz.sizeOf140
 v72:=Tryz.zeroValue140
 t75:=Tryz.underlying143
 a75:=Tryz.isAgg143
 z75:=Tryz.sizeOf143
 v75:=Tryz.zeroValue143
 t76:=Tryz.underlying144
 a76:=Tryz.isAgg144
 z76:=Tryz.sizeOf144
 v76:=Tryz.zeroValue144
 t109:=Tryz.underlying170
 a109:=Tryz.isAgg170
 z109:=Tryz.sizeOf170
 v109:=Tryz.zeroValue170
 t127:=Tryz.underlying166
 a127:=Tryz.isAgg166
 z127:=Tryz.sizeOf166
 v127:=Tryz.zeroValue166
 t146:=Tryz.underlying193
 a146:=Tryz.isAgg193
 z146:=Tryz.sizeOf193
 v146:=Tryz.zeroValue193
 t148:=Tryz.underlying196
 a148:=Tryz.isAgg196
 z148:=Tryz.sizeOf196
 v148:=Tryz.zeroValue196
 t164:=Tryz.underlying189
 a164:=Tryz.isAgg189
 z164:=Tryz.sizeOf189
 v164:=Tryz.zeroValue189}
theorem Tryz.Builder_Extra_105:Builder.Extra Tryz.prog Tryz.lays105_ren:={
 sizeBuilder:=by kernel_rfl
 liesBuilder:=by kernel_rfl
 t5:=Tryz.underlying5
 a5:=Tryz.isAgg5
 z5:=Tryz.sizeOf5
 v5:=Tryz.zeroValue5
 infoByte:=by kernel_rfl
 cellsByte:=by kernel_rfl
 sizeByte:=by kernel_rfl
 neB5:=by decide}
open Go.RowKit Go.Lib in
theorem Tryz.strings_Repeat(s:ByteArray)(c:Nat)(w:World)(hc:c<=9223372036854775807)(hlen:s.size*c<=140737488355328):
 Calls Tryz.prog 78 #[.string s, .int .i64 c] w fun e w'=>e= .returned (.string ⟨(Lib.repeatL s.data.toList c).toArray⟩)/\Below w.heap.size w w':=Any.strings_Repeat Tryz.lays105 Tryz.Builder_Extra_105 s c w hc hlen
def Tryz.lays110_ren:Go.Shelf.Ren:=⟨fun|110=>53|109=>68|n=>n,fun|31=>30|9=>9|4=>4|3=>3|0=>0|n=>n,fun|n=>n⟩
theorem Tryz.lays110:Go.Proofs.Lays.n110 Tryz.prog Tryz.lays110_ren:={
 mixed:=by kernel_rfl
 f109:=Tryz.func68.trans (congrArg some (by kernel_rfl))
 f110:=Tryz.func53.trans (congrArg some (by kernel_rfl))
 t0:=Tryz.underlying0
 a0:=Tryz.isAgg0
 z0:=Tryz.sizeOf0
 v0:=Tryz.zeroValue0
 t3:=Tryz.underlying3
 a3:=Tryz.isAgg3
 z3:=Tryz.sizeOf3
 v3:=Tryz.zeroValue3
 t4:=Tryz.underlying4
 a4:=Tryz.isAgg4
 z4:=Tryz.sizeOf4
 v4:=Tryz.zeroValue4
 t9:=Tryz.underlying9
 a9:=Tryz.isAgg9
 z9:=Tryz.sizeOf9
 v9:=Tryz.zeroValue9
 t31:=Tryz.underlying30
 a31:=Tryz.isAgg30
 z31:=Tryz.sizeOf30
 v31:=Tryz.zeroValue30}
open Go.Lib in
theorem Tryz.slices_Contains_string(b off n c:Nat)(zs:List ByteArray)(x:ByteArray)(w:World)(hz:n<=zs.length)(hbig:n<=9223372036854775807)(hc:∀j,j<zs.length->w.cell? ⟨b,off+j,none⟩=some (.string (zs.getD j ByteArray.empty))):
 Calls Tryz.prog 53 #[.slice (some ⟨b,off,none⟩) n c, .string x] w fun e w'=>e= .returned (.bool (Lib.containsS (zs.take n) x))/\w'=w:=Any.slices_Contains_string Tryz.lays110 b off n c zs x w hz hbig hc
open Go.Lib in
theorem Tryz.slices_Contains_string_empty(a:Option Addr)(c:Nat)(x:ByteArray)(w:World):
 Calls Tryz.prog 53 #[.slice a 0 c, .string x] w fun e w'=>e= .returned (.bool false)/\w'=w:=Any.slices_Contains_string_empty Tryz.lays110 a c x w
end Go.Proofs
namespace Go.Proofs.YtlhhaagmakhilaaGreatDoor
open Go.AM
open Go.Proofs
open Go.Col
open Go.RowKit (Below)
set_option maxRecDepth 100000
theorem qzV(wz:World)(h:AHeap)(s:Str):ACall Tryz.prog wz 79 [.str s, .str [32]] h (fun v h'=>v= .str (qkr s)/\h'=h):=by
 refine Yr (vals:=[.string ⟨⟨s⟩⟩, .string ⟨⟨[32]⟩⟩]) (val:= .string ⟨⟨qkr s⟩⟩) Tryz.func79 rfl rfl (fun fi vs hv=>qfL hv) (fun fi=>rfl) fun w=>?_;refine(Tryz.strings_TrimLeft_one ⟨⟨s⟩⟩ 32 (by decide) w).mono fun e w' ⟨e1,e2⟩=>⟨e1,?_⟩
 subst e2;exact Go.RowKit.Below.refl _ _
theorem qzU(wz:World)(h:AHeap)(s:Str)(hl:s.length<=9223372036854775807):ACall Tryz.prog wz 102 [.str s, .str [32]] h (fun v h'=>v= .str (qhn s)/\h'=h):=by
 refine Yr (vals:=[.string ⟨⟨s⟩⟩, .string ⟨⟨[32]⟩⟩]) (val:= .string ⟨⟨qhn s⟩⟩) Tryz.func102 rfl rfl (fun fi vs hv=>qfL hv) (fun fi=>rfl) fun w=>?_;refine(Tryz.strings_TrimRight_one ⟨⟨s⟩⟩ 32 (by decide) w hl).mono fun e w' ⟨e1,e2⟩=>⟨e1,?_⟩
 subst e2;exact Go.RowKit.Below.refl _ _
theorem repeatL_one(b:UInt8):∀n,Go.Lib.repeatL [b] n=JM n b
 |0=>rfl
 |n+1=>by
  rw[Go.Lib.repeatL,repeatL_one b n];simp[List.replicate_succ]
theorem qyA(wz:World)(h:AHeap)(b:UInt8)(n:Nat)(hn:n<=140737488355328):ACall Tryz.prog wz 78 [.str [b], .int .i64 n] h (fun v h'=>v= .str (JM n b)/\h'=h):=by
 refine Yr (vals:=[.string ⟨⟨[b]⟩⟩, .int .i64 n]) (val:= .string ⟨⟨JM n b⟩⟩) Tryz.func78 rfl rfl (fun fi vs hv=>qBZ hv) (fun fi=>rfl) fun w=>?_;have:=Tryz.strings_Repeat ⟨⟨[b]⟩⟩ n w (by omega) (by show 1*n<=_;omega);rw[repeatL_one]at this;exact this
theorem qAc(wz:World)(h:AHeap)(s:Str)(b:UInt8):ACall Tryz.prog wz 86 [.str s, .str [b]] h (fun v h'=>v= .int .i64 (s.countP (· ==b))/\h'=h):=by
 refine Yr (vals:=[.string ⟨⟨s⟩⟩, .string ⟨⟨[b]⟩⟩]) (val:= .int .i64 (s.countP (· ==b))) Tryz.func86 rfl rfl (fun fi vs hv=>qfL hv) (fun fi=>rfl) fun w=>?_;refine(Tryz.strings_Count_one ⟨⟨s⟩⟩ b w).mono fun e w' ⟨e1,e2⟩=>⟨e1,?_⟩
 subst e2;exact Go.RowKit.Below.refl _ _
theorem qrt:∀(s:Str) (b:UInt8),List.isSuffixOf [b] s=decide (s.getLast?=some b):=by
 intro s b;rcases List.eq_nil_or_concat s with rfl|⟨l,x,rfl⟩
 ·rfl
 ·rw[List.concat_eq_append]
  rw[List.getLast?_append];rw[KA,List.isSuffixOf_iff_suffix];simp only[List.getLast?_singleton,Option.some_or,Option.some.injEq,decide_eq_true_eq];constructor
  ·rintro⟨t,ht⟩
   exact(List.append_inj' ht rfl).2 |> List.singleton_inj.1 |>.symm
  ·rintro rfl
   exact⟨l,rfl⟩
theorem qmc(s:Str):Lib.trimSuffix s [10]=YU s:=by
 unfold Lib.trimSuffix Lib.hasSuffix YU;rw[qrt];by_cases h:s.getLast?=some 10
 ·rw[decide_eq_true h,if_pos rfl,if_pos h,List.dropLast_eq_take]
  rfl
 ·rw[decide_eq_false h,if_neg (by decide),if_neg h]
theorem qyw(wz:World)(h:AHeap)(s:Str)(hl:s.length<=9223372036854775807):ACall Tryz.prog wz 60 [.str s, .str [10]] h (fun v h'=>v= .str (YU s)/\h'=h):=by
 refine Yr (vals:=[.string ⟨⟨s⟩⟩, .string ⟨⟨[10]⟩⟩]) (val:= .string ⟨⟨YU s⟩⟩) Tryz.func60 rfl rfl (fun fi vs hv=>qfL hv) (fun fi=>rfl) fun w=>?_;refine(Tryz.strings_TrimSuffix ⟨⟨s⟩⟩ ⟨⟨[10]⟩⟩ w hl).mono fun e w' ⟨e1,e2⟩=>⟨?_,?_⟩
 ·rw[e1]
  show Ending.returned (.string ⟨(Lib.trimSuffix s [10]).toArray⟩)=_
  rw[qmc]
 ·subst e2;exact Go.RowKit.Below.refl _ _
theorem index_one:∀(s:Str) (b:UInt8),(Lib.index s [b]= -1/\b∉s)\/∃i:Nat,Lib.index s [b]=i/\i<s.length/\s=s.take i++b::s.drop (i+1)/\b∉s.take i
 |[],b=> .inl ⟨rfl,by simp⟩
 |x::s,b=>by
  by_cases h:b=x
  ·subst h
   refine .inr ⟨0,?_,by simp,by simp,by simp⟩;simp[Lib.index,Vq]
  ·have hp:Vq [b] (x::s)=false:=by simp[Vq,h]
   rcases index_one s b with⟨h1,h2⟩|⟨i,h1,h2,h3,h4⟩
   ·refine .inl ⟨?_,?_⟩
    ·unfold Lib.index
     rw[hp,if_neg (by decide),h1,if_pos (by decide)]
    ·simp[h,h2]
   ·refine .inr ⟨i+1,?_,by simp;omega,?_,?_⟩
    ·unfold Lib.index
     rw[hp,if_neg (by decide),h1,if_neg (by simp<;>omega)];omega
    ·simp only[Ki,VE,Kh,List.cons.injEq,Kb]
     exact h3
    ·simp only[Ki,KX,not_or]
     exact⟨h,h4⟩
theorem qhw:∀{s:Str},(10:UInt8)∉s->Zz s=[s]
 |[],_=>rfl
 |x::s,h=>by
  simp only[KX,not_or]at h;unfold Zz;rw[if_neg (fun e=>h.1 e.symm),qhw h.2]
theorem qjh:∀{a:Str} (b:Str),(10:UInt8)∉a->Zz (a++10::b)=a::Zz b
 |[],b,_=>by
  simp only[Je];rw[Zz,if_pos rfl]
 |x::a,b,h=>by
  simp only[KX,not_or]at h;rw[Kh,Zz,if_neg (fun e=>h.1 e.symm),qjh b h.2]
theorem extract_mk(s:Str)(a b:Nat):((⟨⟨s⟩⟩:ByteArray).extract a b)=⟨⟨(s.drop a).take (b-a)⟩⟩:=by
 apply ByteArray.ext;apply Array.ext';rw[Lib.extract_data]
theorem qvJ:∀(n:Nat) (s:Str),s.length<=n->Lib.splitB ⟨⟨[10]⟩⟩ 0 (Lib.countB ⟨⟨s⟩⟩ ⟨⟨[10]⟩⟩) ⟨⟨s⟩⟩=(Zz s).map fun l=>(⟨⟨l⟩⟩:ByteArray):=by
 intro n;induction n with
 |zero=>
  intro s hs;have:s=[]:=Kg (by omega);subst this;rw[Lib.splitB_miss _ _ _ _ (by decide)];rfl
 |succ n ih=>
  intro s hs;rcases index_one s 10 with⟨h1,h2⟩|⟨i,h1,h2,h3,h4⟩
  ·rw[Lib.splitB_miss _ _ _ _ h1,qhw h2]
   rfl
  ·have h1':Lib.indexB ⟨⟨s⟩⟩ ⟨⟨[10]⟩⟩=(i:Int):=h1
   have hsz:(⟨⟨s⟩⟩:ByteArray).size=s.length:=rfl;have h10:(⟨⟨[10]⟩⟩:ByteArray).size=1:=rfl;rw[Lib.countB_hit _ _ i (by decide) h1',VC 1,Lib.splitB_hit _ _ _ _ i h1',h10,hsz,extract_mk,extract_mk,KQ,Jh,K7,Jr (l:=s.drop (i+1)) (by simp),ih _ (by simp;omega)];conv=>rhs;rw[h3,qjh _ h4]
   rfl
theorem qoC{P:Program}{wz:World}{f:FuncId}{fn:Func}{h:AHeap}{args:List AVal}{vals:List Value}{cs:List Value}{n:Nat}{e:TypeId}{xs:List AVal}(hf:P.funcs[f]?=some fn)(hname:(fn.name== "runtime.NumGoroutine")=false)(hb:fn.body.isSome=true)
 (hv:∀fi vs,VRs fi args vs->vs=vals) (hx:∀fi,VRs fi xs cs)
 (hc:∀w,Go.RowKit.Below wz.heap.size wz w->Calls P f vals.toArray w fun en w'=>en= .returned (.slice (some ⟨w.heap.size,0,none⟩) n n)/\w'=w.alloc (.cells cs.toArray e)):
 ACall P wz f args h (fun v h'=>∃k,h k=none/\v= .slice (.own k) 0 n (.exact n)/\h'=h.set k ⟨xs,0⟩):=by
 intro fi vs w hr hvs;obtain rfl:=hv fi vs hvs;refine .inl ⟨fn,hf,hname,hb,(hc w hr.below).mono fun en w' ⟨e1,e2⟩=>?_⟩;obtain⟨k,hk,hφ,ht⟩:=hr.freshN;have hlen:xs.length=cs.length:=(Zp (hx fi)).symm;obtain⟨h1,h2⟩:=hr.alloc k hk hφ xs cs.toArray e 0 0 (by rw[hlen];simpa using hx fi) qbU (fun t h'=>by rw[ht]at h';cases h');refine⟨_,e1,_,_,_,h1,?_,?_,k,hk,rfl,rfl⟩
 ·rw[e2];exact h2
 ·simp only[VR]
  refine⟨_,rfl,fun _=>?_⟩;simp[XD,JN]
abbrev MaxL(w:World):Prop:=∃m,w.cell? ⟨0,0,none⟩=some (.int .i64 m)
theorem qoT(fi:PMap):∀l:List Str,VRs fi (l.map AVal.str) (l.map fun x=>Value.string ⟨⟨x⟩⟩)
 |[]=>rfl
 |x::l=>by
  simp only[Ke,VRs];exact⟨_,_,rfl,rfl,qoT fi l⟩
theorem qzW(wz:World)(hm:MaxL wz)(h:AHeap)(s:Str)(hl:s.length<4294967281):ACall Tryz.prog wz 59 [.str s, .str [10]] h (fun v h'=>∃k,h k=none/\v= .slice (.own k) 0 (Zz s).length (.exact (Zz s).length)/\h'=h.set k ⟨(Zz s).map AVal.str,0⟩):=by
 obtain⟨m,hm⟩:=hm;refine qoC (vals:=[.string ⟨⟨s⟩⟩, .string ⟨⟨[10]⟩⟩]) (cs:=(Zz s).map fun x=>Value.string ⟨⟨x⟩⟩) (e:=9) Tryz.func59 rfl rfl (fun fi vs hv=>qfL hv) (fun fi=>qoT fi _) fun w hb=>?_;have hlt:0<wz.heap.size:=qkf hm;have hw:w.cell? ⟨0,0,none⟩=some (.int .i64 m):=(hb.cell (p:=⟨0,0,none⟩) hlt).trans hm;refine(Tryz.strings_Split ⟨⟨s⟩⟩ ⟨⟨[10]⟩⟩ m w hl hw (by decide)).mono fun e w' ⟨e1,e2⟩=>?_;have hs:=qvJ s.length s (KL _);have hn:Lib.countB ⟨⟨s⟩⟩ ⟨⟨[10]⟩⟩+1=(Zz s).length:=by
  rw[<-Jp (f:=fun l=>(⟨⟨l⟩⟩:ByteArray)),<-hs,Lib.splitB_all _ (by decide) 0 _ _ rfl]
 rw[e1,e2,hn,hs,VV];exact⟨rfl,rfl⟩
theorem qlY{fi:PMap}:∀{l:List Str} {vs:List Value},VRs fi (l.map AVal.str) vs->vs=l.map fun x=>Value.string ⟨⟨x⟩⟩
 |[],_,h=>h
 |x::l,vs,h=>by
  simp only[Ke,VRs,VR]at h;obtain⟨v,vs',rfl,rfl,h2⟩:=h;rw[qlY h2];rfl
theorem qhM{fi:PMap}{l:AM.Loc}{o:Nat}{a:Addr}(h:XD fi l o=some a):a=⟨a.block,a.off,none⟩:=by
 cases l with
 |base b=>simp only[XD,Option.some.injEq]at h;subst h;rfl
 |own k=>
  simp only[XD,Kc]at h;obtain⟨p,_,rfl⟩:=h;rfl
abbrev IsStrs(wz:World)(h:AHeap)(v:AVal)(l:List Str):Prop:=IsL wz h 1 v (l.map fun s=>[AVal.str s])
theorem qgk:∀l:List Str,(l.map fun s=>[AVal.str s]).flatten=l.map AVal.str
 |[]=>rfl
 |x::l=>by simp[qgk l]
theorem qBH(wz:World)(h:AHeap)(v:AVal)(l:List Str)(sep:Str)(hv:IsStrs wz h v l)(hn:l.length<=140737488355328)(hl:(Lib.join l sep).length<=140737488355328):
 ACall Tryz.prog wz 55 [v, .str sep] h (fun r h'=>r= .str (Lib.join l sep)/\h'=h):=by
 intro fi vals w hr hvs;simp only[VRs,VR]at hvs;obtain⟨u,vs',rfl,hu,u2,vs2,rfl,rfl,rfl⟩:=hvs;have fin:∀{R:Ending->World->Prop},Calls Tryz.prog 55 #[u, .string ⟨⟨sep⟩⟩] w R->(∀e w',R e w'->e= .returned (.string ⟨⟨Lib.join l sep⟩⟩)/\Below w.heap.size w w')->
  Lands Tryz.prog 55 [u, .string ⟨⟨sep⟩⟩].toArray w fun v w'=>∃Ps x h',fi.le Ps/\HRel wz Ps h' w'/\VR Ps x v/\x= .str (Lib.join l sep)/\h'=h:=fun hc hq=>
  .inl ⟨_,Tryz.func55,rfl,rfl,hc.mono fun e w' hR=>⟨_,(hq e w' hR).1,fi, .str (Lib.join l sep),h,fi.le_refl,hr.later (hq e w' hR).2,rfl,rfl,rfl⟩⟩
 obtain⟨xs,hxs⟩:∃xs,xs=l.map fun s=>[AVal.str s]:=⟨_,rfl⟩
 unfold IsStrs at hv;rw[<-hxs]at hv;cases hv with
 |nil=>
  have e0:l=[]:=VW.1 hxs.symm;subst e0;simp only[VR]at hu;subst hu;exact fin (Tryz.strings_Join_none none 0 ⟨⟨sep⟩⟩ w) fun e w' ⟨e1,e2⟩=>⟨e1,by subst e2;exact Below.refl _ _⟩
 |mk lc o n c xs hn' hw hc hlv hcap=>
  subst hxs;rw[Jp]at hn';subst hn';obtain⟨a,cp,rfl,ha⟩:=YJ hu;by_cases h0:l.length=0
  ·have e0:l=[]:=Kg h0
   subst e0;exact fin (Tryz.strings_Join_none (some a) cp ⟨⟨sep⟩⟩ w) fun e w' ⟨e1,e2⟩=>⟨e1,by subst e2;exact Below.refl _ _⟩
  ·have ha':=ha h0
   obtain⟨us,u1,u2,u3⟩:=qez hr lc (l.length*1) o a ha' (by rw[hc];exact hlv);rw[hc,qgk]at u2;have hus:=qlY u2;have has:=qhM ha';have hcell:∀(j:Nat) (x:ByteArray),(l.map fun x=>(⟨⟨x⟩⟩:ByteArray))[j]?=some x->w.cell? ⟨a.block,a.off+j,none⟩=some (.string x):=fun j x hj=>by
    have:=u3 j (.string x) (by rw[hus];simp only[List.getElem?_map,Kc]at hj|-;obtain⟨y,hy,rfl⟩:=hj;exact⟨y,hy,rfl⟩);rw[has]at this;by_cases hj0:j=0
    ·subst hj0
     simpa[Addr.add]using this
    ·simpa[Addr.add,hj0]using this
   have hblk:a.block<w.heap.size:=by
    cases hl0:l with
    |nil=>rw[hl0]at h0;exact absurd rfl h0
    |cons x r=>exact qkf (hcell 0 ⟨⟨x⟩⟩ (by rw[hl0];rfl))
   have hcp:l.length<=cp:=by
    cases c with
    |exact c=>
     simp only[VR]at hu;obtain⟨a',e1,_⟩:=hu;cases e1;exact hcap
    |grow es=>
     simp only[VR]at hu;obtain⟨k,p,c',a',_,_,e1,hle,_⟩:=hu;cases e1;exact hle
   have hmm:(l.map fun x=>(⟨⟨x⟩⟩:ByteArray)).map (fun x=>x.data.toList)=l:=by rw[VV];exact List.map_id _
   have hj:=Tryz.strings_Join a.block a.off cp (l.map fun x=>(⟨⟨x⟩⟩:ByteArray)) ⟨⟨sep⟩⟩ w hcell hblk (by rw[Jp];exact hn) (by rw[Jp];exact hcp) (by rw[hmm];exact hl);rw[Jp,hmm,<-has]at hj;exact fin hj fun e w' ⟨e1,e2⟩=>⟨e1,e2⟩
theorem quc(w:World):PredAtRunes Tryz.prog 77 #[] (fun x=>decide ((x:Int)<32)||decide (126<(x:Int))) w:=fun W x hx hb=>by
 show Calls Tryz.prog 77 #[.int .i32 x] W _
 go_enter Tryz.func77,Tryz.ntmps77
 go_wp2
 all_goals (go_ret;exact⟨by simp_all,0,rfl⟩)
def qsF(s:Str):Int:=match qdc s with|some i=>(i:Int)|none=> -1
theorem qsG{s:Str}{pos:Nat}(hp:pos<s.length):(qdc (s.drop pos))=if okB (s.getD pos 0)=true then(qdc (s.drop (pos+1))).map (· +1)else some 0:=by
 unfold qdc;rw[J5 hp,List.findIdx?_cons];simp only[Ko,JA hp,VM];cases okB s[pos]<;>simp
theorem qtt(s:Str):∀(f pos:Nat),s.length<=pos+f->Lib.idxFuncFrom (fun x=>decide ((x:Int)<32)||decide (126<(x:Int))) true ⟨⟨s⟩⟩ f pos=match qdc (s.drop pos)with|some i=>((pos+i:Nat):Int)|none=> -1
 |0,pos,h=>by
  rw[Vz (by omega)];rfl
 |f+1,pos,h=>by
  unfold Lib.idxFuncFrom;have hsz:(⟨⟨s⟩⟩:ByteArray).size=s.length:=rfl;rw[hsz];by_cases hp:pos<s.length
  ·rw[if_pos hp,qsG hp,Lib.decode_N]
   show(if (decide ((Lib.decodeN (s.length-pos) (s.getD pos 0).toNat (s.getD (pos+1) 0).toNat (s.getD (pos+2) 0).toNat (s.getD (pos+3) 0).toNat).1<(32:Int))||_)=true then _ else _)=_
   by_cases ha:(s.getD pos 0).toNat<128
   ·rw[Lib.decodeN_ascii _ _ _ _ _ ha]
    simp only;by_cases hk:okB (s.getD pos 0)=true
    ·rw[if_pos hk]
     unfold okB at hk;simp only[Ky,decide_eq_true_eq]at hk;rw[if_neg (by simp only[JW,decide_eq_true_eq];omega),qtt s f (pos+1) (by omega)];cases qdc (s.drop (pos+1))with
     |none=>rfl
     |some i=>simp only[KI];congr 1;omega
    ·rw[if_neg hk]
     unfold okB at hk;simp only[Ky,decide_eq_true_eq]at hk;rw[if_pos (by simp only[JW,decide_eq_true_eq];omega)];simp
   ·have hk:¬okB (s.getD pos 0)=true:=by unfold okB;simp only[Ky,decide_eq_true_eq];omega
    rw[if_neg hk,if_pos]
    ·simp
    ·have:=Lib.decodeN_cases (s.length-pos) (s.getD pos 0).toNat (s.getD (pos+1) 0).toNat (s.getD (pos+2) 0).toNat (s.getD (pos+3) 0).toNat
     rcases this with h1|h1|h1|h1|h1
     ·omega
     ·rw[h1.2.2.2.2];simp only[JW,decide_eq_true_eq];omega
     ·rw[h1.2.2.2.2.2];simp only[JW,decide_eq_true_eq];omega
     ·simp only[JW,decide_eq_true_eq];omega
     ·rw[h1];rfl
  ·rw[if_neg hp,Vz (by omega)]
   rfl
theorem qCF(wz:World)(h:AHeap)(s:Str):ACall Tryz.prog wz 76 [.str s, .func 77 []] h (fun v h'=>v= .int .i64 (qsF s)/\h'=h):=by
 refine Yr (vals:=[.string ⟨⟨s⟩⟩, .func (.func 77) #[] #[]]) (val:= .int .i64 (qsF s)) Tryz.func76 rfl rfl (fun fi vs hv=>?_) (fun fi=>rfl) fun w=>?_
 ·simp only[VRs,VR]at hv
  obtain⟨v,vs',rfl,rfl,v2,vs2,rfl,⟨cs,rfl,rfl⟩,rfl⟩:=hv;rfl
 ·refine(Tryz.strings_IndexFunc_runes 77 #[] (enters_of Tryz.func77 (by kernel_rfl) rfl) _ ⟨⟨s⟩⟩ w (quc w)).mono fun e w' ⟨e1,e2⟩=>⟨?_,e2⟩
  rw[e1];unfold Lib.idxFunc;rw[qtt s _ 0 (by show s.length<=0+s.length;omega),KQ];unfold qsF;cases qdc s with
  |none=>rfl
  |some i=>simp only[Js]
end Go.Proofs.YtlhhaagmakhilaaGreatDoor
namespace Go.Proofs.YtlhhaagmakhilaaGreatDoor
open Go.AM
open Go.Proofs
open Go.Col
set_option maxRecDepth 100000
def QC(f:FaultC):AVal:= .agg [.int .i64 f.e, .int .i64 f.line, .int .i64 f.col]
def UY(m:MarkC):List AVal:=[.int .i64 m.frm, .int .i64 m.line, .int .i64 m.col]
def Wy(line col:Int):AVal:= .agg [.int .i64 line, .int .i64 col]
def qgI(c:CardC)(mv:AVal):AVal:= .agg [.bool c.left, .str c.text,mv]
theorem qir(wz:World)(h:AHeap)(e line col:Int):ACall Tryz.prog wz 75 [.int .i64 e, .int .i64 line, .int .i64 col] h (fun v h'=>v=QC ⟨e,line,col⟩/\h'=h):=by
 refine qU (n:=12) (rs:=[.cell 6 35]) Tryz.func75 rfl rfl rfl rfl (VN rfl) ?_;simp only[Qg];refine awp_rseq [0,1,2,6] (by rfl) fun K hK=>?_;refine Qi qaE (cs:=[.int .i64 0, .int .i64 0, .int .i64 0]) (by rfl) fun k0q0 hk0q0=>?_;try have hf_0q0:h k0q0=none:=by first|assumption|(simp only[AHeap.set_none]at hk0q0;simp only[hk0q0])
 simp+decide only[qa,putD,VO,VP,Ka,Js,Nat.reduceAdd];apply hK;clear hK K;refine awp_rseq [6] (by rfl) fun K hK=>?_;simp+decide only[ev,qH,qG,putD,VO,VQ,Ka,Kb,↓qg,qc,↓Qu,↓Qa,qdP,evP,Ke,Vk,Wi];refine qp (by rfl) (by rfl) zqA QN (by rfl) (by rfl) zqD (Jt _) (by rfl) ?_;simp only[Vi,VX];simp+decide only[qa,ev,putD,VQ,VP,Ka,setAt,VY,Kj,Js,Nat.reduceAdd];apply hK;clear hK K;refine qL ?_;refine Qb h zqC (?_) ?_
 ·simp+decide only[QG,qj,VQ,if_true,and_true,qj,qh Xw QN,qZ,qf,VZ,Kn,Js,Nat.reduceAdd,qi,allLive,JU,qf,VZ,Kn,Js,Nat.reduceAdd,qi,allLive,JU]
 simp+decide only[VQ,if_true,and_true,Zu,qj,qh Xw QN,qZ,qf,VZ,Kn,Js,Nat.reduceAdd,qi,allLive,JU,qf,VZ,Kn,Js,Nat.reduceAdd,qi,allLive,JU,QC];all_goals first|rfl|exact⟨rfl,rfl⟩|(simp+decide only[Ka, *];done)|(trace_state;fail)
theorem qmn{c:CardC}{b:Int}{i:Nat}(hi:i<c.marks.length):validC.go c b (c.marks.drop i)=(decide (b<(c.marks.getD i ⟨0,0,0⟩).frm/\(c.marks.getD i ⟨0,0,0⟩).frm<c.text.length/\1<=(c.marks.getD i ⟨0,0,0⟩).line/\8<=(c.marks.getD i ⟨0,0,0⟩).col/\(c.marks.getD i ⟨0,0,0⟩).col<=72) && validC.go c (c.marks.getD i ⟨0,0,0⟩).frm (c.marks.drop (i+1))):=by
 rw[J5 hi];simp only[validC.go,Ko,JA hi,VM]
theorem qfT{c:CardC}(hn:c.marks≠[]):validC c=(decide ((c.marks.getD 0 ⟨0,0,0⟩).frm=0) && validC.go c (-1) c.marks):=by
 unfold validC;split
 ·rename_i h;exact absurd h hn
 ·rename_i m ms h;rw[h];rfl
theorem qyu(wz:World)(h:AHeap)(b:Bool)(t:Str):ACall Tryz.prog wz 103 [.agg [.bool b, .str t, .nilSlice]] h (fun v h'=>v= .bool false/\h'=h):=by
 refine qU (n:=58) (rs:=[.tmp 2]) Tryz.func103 rfl rfl rfl rfl (VN rfl) ?_;simp only[Qg];refine awp_rseq [1] (by rfl) fun K hK=>?_;refine Wt (by rfl) (by rfl) (by rfl) fun k0q0 hk0q0=>?_;try have hf_0q0:h k0q0=none:=by first|assumption|(simp only[AHeap.set_none]at hk0q0;simp only[hk0q0])
 skip;simp+decide only[qa,ev,qH,qG,putD,VO,VQ,VP,Ka,Kb,↓qd,qb,VX];apply hK;clear hK K;refine qJ ?_;refine awp_rseq [1,17] (by rfl) fun K hK=>?_;simp+decide only[qa,ev,qH,qG,putD,VO,VQ,VP,Ka,Kb,↓qB,ql,qcf,↓qF,qY,qz qlP,↓Xe,Qw,qfo Tryz.underlying124,↓qw,qm,qA,cond_false,qo,Za,↓qg,qc,↓Xj,agP,Qv,qM,qK,Qh,implies_true,decide_true,V3,Zr,false_implies,qaF,qdR,↓Zn,XT,↓Zf,↓Xd,↓QW,Qz,Qk,QT,VZ,Kn,Js,QM];apply hK;clear hK K;refine qI (b:=_) rfl (fun hb1=>?_) (fun hb1=>?_)
 ·try simp only at hb1
  refine awp_rseq [2] (by rfl) fun K hK=>?_;simp+decide only[qa,ev,qH,qG,putD,VO,VP,Ka,Kb,↓qd,qb];apply hK;clear hK K;refine qL ?_;try simp only[Qe]
  refine Qb h zqC (qN (Qc)) ?_;simp+decide only[VQ,if_true,and_true,Qs];all_goals first|rfl|exact⟨rfl,rfl⟩|(simp+decide only[Ka, *];done)|(trace_state;fail)
 ·exact absurd hb1 (by decide)
theorem qyv(wz:World)(h:AHeap)(b:Bool)(t:Str)(l:AM.Loc)(o:Nat)(cp:Cap):ACall Tryz.prog wz 103 [.agg [.bool b, .str t, .slice l o 0 cp]] h (fun v h'=>v= .bool false/\h'=h):=by
 refine qU (n:=58) (rs:=[.tmp 2]) Tryz.func103 rfl rfl rfl rfl (VN rfl) ?_;simp only[Qg];refine awp_rseq [1] (by rfl) fun K hK=>?_;refine Wt (by rfl) (by rfl) (by rfl) fun k0q0 hk0q0=>?_;try have hf_0q0:h k0q0=none:=by first|assumption|(simp only[AHeap.set_none]at hk0q0;simp only[hk0q0])
 skip;simp+decide only[qa,ev,qH,qG,putD,VO,VQ,VP,Ka,Kb,↓qd,qb,VX];apply hK;clear hK K;refine qJ ?_;refine awp_rseq [1,17] (by rfl) fun K hK=>?_;simp+decide only[qa,ev,qH,qG,putD,VO,VQ,VP,Ka,Kb,↓qB,ql,qcf,↓qF,qY,qz qlP,↓Xe,Qw,Zh Tryz.underlying124,↓qw,qm,qA,cond_false,qo,Za,↓qg,qc,↓Xj,agP,Qv,qM,qK,Qh,implies_true,decide_true,V3,Zr,false_implies,qaF,qdR,↓Zn,XT,↓Zf,↓Xd,↓QW,Qz,Qk,QT,VZ,Kn,Js,qaY,Vv];apply hK;clear hK K;refine qI (b:=_) rfl (fun hb1=>?_) (fun hb1=>?_)
 ·try simp only at hb1
  refine awp_rseq [2] (by rfl) fun K hK=>?_;simp+decide only[qa,ev,qH,qG,putD,VO,VP,Ka,Kb,↓qd,qb];apply hK;clear hK K;refine qL ?_;try simp only[Qe]
  refine Qb h zqC (qN (Qc)) ?_;simp+decide only[VQ,if_true,and_true,Qs];all_goals first|rfl|exact⟨rfl,rfl⟩|(simp+decide only[Ka, *];done)|(trace_state;fail)
 ·exact absurd hb1 (by decide)
theorem qyt(wz:World)(h:AHeap)(c:CardC)(l:AM.Loc)(o:Nat)(cp:Cap)(hm:IsL wz h 3 (.slice l o c.marks.length cp) (c.marks.map UY))(hn:c.marks≠[])(hl:c.marks.length<=4611686018427387904):ACall Tryz.prog wz 103 [qgI c (.slice l o c.marks.length cp)] h (fun v h'=>v= .bool (validC c)/\h'=h):=by
 have hn0:0<c.marks.length:=List.length_pos_iff.2 hn;have hnb:¬((c.marks.length:Int)=0):=by omega
 unfold qgI;refine qU (n:=58) (rs:=[.tmp 2]) Tryz.func103 rfl rfl rfl rfl (VN rfl) ?_;simp only[Qg];refine awp_rseq [1] (by rfl) fun K hK=>?_;refine Wt (by rfl) (by rfl) (by rfl) fun k0q0 hk0q0=>?_;try have hf_0q0:h k0q0=none:=by first|assumption|(simp only[AHeap.set_none]at hk0q0;simp only[hk0q0])
 skip;simp+decide only[qa,ev,qH,qG,putD,VO,VQ,VP,Ka,Kb,↓qd,qb,VX];have hm0:=hm.mono (h':=h.set k0q0 ⟨[.bool c.left, .str c.text, .slice l o c.marks.length cp],0⟩) (Vh hk0q0);have he0:=hm0.elem (i:=0) (by rw[Jp];exact hn0);rw[getD_map ⟨0,0,0⟩ hn0]at he0;simp only[qf,UY,List.cons.injEq,and_true]at he0;obtain⟨e00,e01,e02⟩:=he0;apply hK;clear hK K;refine qJ ?_;refine awp_rseq [1,17] (by rfl) fun K hK=>?_;simp+decide only[qa,ev,qH,qG,putD,VO,VQ,VP,Ka,Kb,↓qB,ql,qcf,↓qF,qY,qz qlP,↓Xe,Qw,Zh Tryz.underlying124,↓qw,qm,qA,cond_false,qo,Za,↓qg,qc,↓Xj,agP,Qv,qM,qK,Qh,implies_true,decide_false,Bool.not_false,Qy,forall_const,Bool.false_or,↓Zn,XT,YY,↓Zf,qW Tryz.underlying124 qhp,qhY,qz ag3,↓Xd,Un,↓QW,Qz,Qk,ZO,QT,VZ,Kn,Js,qi,qaY,e00,hnb,decide_false,Int.toNat_zero];repeat (with_reducible refine And.intro ?_ ?_;· first|trivial|omega|(intro hg;simp only[Ky,JW,Jj,VS,VT,VU,decide_eq_true_eq,decide_eq_false_iff_not,XY]at hg;omega))
 apply hK;clear hK K;refine qI (b:=_) rfl (fun hb1=>?_) (fun hb1=>?_)
 ·try simp only[decide_eq_false_iff_not,Jj]at hb1
  refine awp_rseq [2] (by rfl) fun K hK=>?_;simp+decide only[qa,ev,qH,qG,putD,VO,VP,Ka,Kb,↓qd,qb];apply hK;clear hK K;refine qL ?_;try simp only[Qe]
  refine Qb h zqC (qN (Qc)) ?_;simp+decide only[VQ,if_true,and_true,Qs];rw[qfT hn,decide_eq_false hb1,V4]
 ·try simp only[decide_eq_true_eq,VU]at hb1
  refine qP ?_;change Awp _ _ _ _ _ _ _;refine awp_rseq [1,3] (by rfl) fun K hK=>?_;simp+decide only[qa,ev,qH,qG,putD,VO,VP,Ka,Kb,↓qd,qb];apply hK;clear hK K;refine qJ ?_;refine awp_rseq [1,3,19,20,21] (by rfl) fun K hK=>?_;simp+decide only[qa,ev,qH,qG,putD,VO,VQ,VP,Ka,Kb,↓qB,ql,qcf,↓qF,qY,qz qlP,↓Xe,Qw,Zh Tryz.underlying124,↓qg,qc,QT,VZ,Kn,Js,qaY];apply hK;clear hK K;refine Qm ?_;refine XC [1,3,19,20,21] (fun g:Nat×Int=>[(1, .ptr (.own k0q0) 0),(3, .int .i64 g.2),(19, .slice l o c.marks.length cp),(20, .int .i64 c.marks.length),(21, .int .i64 g.1)]) (fun g:Nat×Int=>h.set k0q0 ⟨[.bool c.left, .str c.text, .slice l o c.marks.length cp],0⟩) (fun g:Nat×Int=>g.1<=c.marks.length/\validC.go c g.2 (c.marks.drop g.1)=validC.go c (-1) c.marks) (fun g:Nat×Int=>c.marks.length-g.1) (0,-1) (by rfl) (Vm _) ⟨Jt _,rfl⟩ ?_;rintro⟨i,b⟩ ⟨hi,hg⟩;simp only at hi hg|-
  refine awp_rseq [1,3,19,20,21,22] (by rfl) fun K hK=>?_;simp+decide only[qa,ev,putD,VO,VQ,VP,Ka,Kb,↓qw,qm,qR,cond_false,qo,XZ];apply hK;clear hK K;refine qJ (qI (b:=_) rfl (fun hb2=>?_) (fun hb2=>?_))
  ·try simp only[decide_eq_true_eq]at hb2
   have hi':i<c.marks.length:=by omega
   have he:=hm0.elem (i:=i) (by rw[Jp];exact hi');rw[getD_map ⟨0,0,0⟩ hi']at he;simp only[qf,UY,List.cons.injEq,and_true]at he;obtain⟨e0,e1,e2⟩:=he;refine qP ?_;change Awp _ _ _ _ _ _ _;refine qJ ?_;refine Qm ?_;refine awp_rseq [1,3,5,19,20,21] (by rfl) fun K hK=>?_;simp+decide only[ev,putD,VO,VQ,Ka,Kb,↓QE,qY,qW Tryz.underlying124 qhp,↓qF,qh qAW qhp,qf,qi,allLive,JU,e0,e1,e2,Vr];repeat (with_reducible refine And.intro ?_ ?_;· first|trivial|omega|(intro hg;simp only[Ky,JW,Jj,VS,VT,VU,decide_eq_true_eq,decide_eq_false_iff_not,XY]at hg;omega))
   refine Qi qvy (cs:=[.int .i64 0, .int .i64 0, .int .i64 0]) (by rfl) fun k6q2 hk6q2=>?_;have ne_6q2_0q0:k6q2≠k0q0:=by simp only[AHeap.set_none]at hk6q2;simp only[hk6q2,ne_eq,not_false_eq_true]
   try have hf_6q2:h k6q2=none:=by first|assumption|(simp only[AHeap.set_none]at hk6q2;simp only[hk6q2])
   refine qp (by rfl) (by rfl) zqA qhp (by rfl) (by rfl) zqD (Jt _) (by rfl) ?_;simp only[Vi,VX];simp+decide only[qa,ev,putD,VO,VQ,VP,Ka,setAt,VY,Kj,Js,Nat.reduceAdd];apply hK;clear hK K;refine qJ ?_;refine awp_rseq [1,5,19,20,21,54] (by kernel_rfl) fun K hK=>?_;simp+decide only[qa,ev,qH,qG,putD,VO,VQ,VP,Ka,Kb,↓qB,ql,qhY,↓qF,qY,qz ag3,↓qg,qc,↓qw,qm,qR,cond_false,qo,qgM,↓Xj,agP,Qv,qM,qK,Qh,implies_true,ZH,ZI,↓Zn,XT,YY,qdg,WH,qz ag9,↓qdn,Qw,WB Tryz.underlying9,qiU,qiV,↓Xd,Zv,qbB,Zw,qbC,Ua,↓QW,Qz,Qk,ZA,ZO,qtu,qwW,qA,XZ,qsd,qau,QZ,ne_eq,not_false_eq_true,ne_6q2_0q0.symm,QT,VZ,Kn,Js,Nat.reduceAdd,qi,qE];apply hK;clear hK K;refine qI (b:=_) rfl (fun hb3=>?_) (fun hb3=>?_)
   ·try simp only[decide_eq_true_eq,JW]at hb3
    refine awp_rseq [2] (by rfl) fun K hK=>?_;simp+decide only[qa,ev,qH,qG,putD,VO,VP,Ka,Kb,↓qd,qb];apply hK;clear hK K;refine qL ?_;try simp only[Qe,Qp]
    refine Qb h zqC (qN (Qc)) ?_;simp+decide only[VQ,if_true,and_true,Qs];rw[qfT hn,decide_eq_true hb1,Vg,<-hg,qmn hi',decide_eq_false (by omega),V4]
   ·try simp only[decide_eq_false_iff_not,VT]at hb3
    refine qP ?_;change Awp _ _ _ _ _ _ _;refine XW [1,3,19,20,21] (by rfl) ?_;simp+decide only[qa,ev,putD,VO,VQ,VP,Ka,Kb,↓qB,ql,qhY,↓qF,qY,qz ag3,↓qd,qb,QT,VZ,Js,qi];change Awp _ _ _ _ _ _ _;refine XW [1,3,19,20,21] (by rfl) ?_;simp+decide only[qa,ev,qH,qG,putD,VO,VQ,VP,Ka,Kb,↓qw,qm,qA,cond_false,qo,Xa,↓qg,qc];try simp(disch:=omega)only[wrap_i64]
    try simp only[Qj]
    refine⟨(i+1,(c.marks.getD i ⟨0,0,0⟩).frm),rfl,(by repeat (first|exact Vm _|refine V5 ?_ (by assumption))),⟨by simp only;omega,?_⟩,by simp only;omega⟩;simp only;rw[<-hg,qmn hi',decide_eq_true (by omega),Vg]
  ·try simp only[decide_eq_false_iff_not]at hb2
   refine XE ?_;change Awp _ _ _ _ _ _ _;refine awp_rseq [2] (by rfl) fun K hK=>?_;simp+decide only[qa,ev,qH,qG,putD,VO,VP,Ka,Kb,↓qd,qb];apply hK;clear hK K;refine qL ?_;refine Qb h zqC (qN (Qc)) ?_;simp+decide only[VQ,if_true,and_true,Qs];rw[qfT hn,decide_eq_true hb1,Vg,<-hg,show i=c.marks.length by omega,JZ];rfl
theorem qzS(wz:World)(h:AHeap)(c:CardC)(mv:AVal)(hm:IsL wz h 3 mv (c.marks.map UY))(hl:c.marks.length<=4611686018427387904):ACall Tryz.prog wz 103 [qgI c mv] h (fun v h'=>v= .bool (validC c)/\h'=h):=by
 by_cases hn:c.marks=[]
 ·have hv:validC c=false:=by unfold validC;rw[hn]
  rw[hv];rcases hm.open' with⟨rfl,_⟩|⟨l,o,cp,rfl⟩
  ·exact qyu wz h c.left c.text
  ·rw[hn]
   exact qyv wz h c.left c.text l o cp
 ·obtain⟨l,o,cp,e⟩:=hm.open (fun e=>hn (VW.1 e))
  rw[Jp]at e;subst e;exact qyt wz h c l o cp hm hn hl
theorem qjH(i:Int):∀(a b:List MarkC) (p:Int×Int),qhc i (a++b) p=qhc i b (qhc i a p)
 |[],_,_=>rfl
 |m::a,b,p=>by simp only[Kh,qhc];exact qjH i a b _
theorem qns{i:Int}{l:List MarkC}{k:Nat}(hk:k<l.length)(p:Int×Int):qhc i (l.take (k+1)) p=if (l.getD k ⟨0,0,0⟩).frm<=i then((l.getD k ⟨0,0,0⟩).line,(l.getD k ⟨0,0,0⟩).col+i-(l.getD k ⟨0,0,0⟩).frm)else qhc i (l.take k) p:=by
 have e:l.take (k+1)=l.take k++[l.getD k ⟨0,0,0⟩]:=by
  rw[VL,JA hk];simp[Ko,hk]
 rw[e,qjH];rfl
theorem qny{c:CardC}(hv:validC c=true):∀m∈c.marks,0<=m.frm/\m.frm<c.text.length/\1<=m.line/\8<=m.col/\m.col<=72:=by
 have go:∀(l:List MarkC) (b:Int),-1<=b->validC.go c b l=true->∀m∈l,0<=m.frm/\m.frm<c.text.length/\1<=m.line/\8<=m.col/\m.col<=72:=by
  intro l;induction l with
  |nil=>intro b _ _ m hm;simp at hm
  |cons x l ih=>
   intro b hb hg m hm;simp only[validC.go,Ky,decide_eq_true_eq]at hg;rcases KX.1 hm with rfl|hm
   ·omega
   ·exact ih _ (by omega) hg.2 m hm
 by_cases hn:c.marks=[]
 ·rw[hn];simp
 ·rw[qfT hn,Ky]at hv
  exact go _ _ (by omega) hv.2
theorem qCH(wz:World)(h:AHeap)(c:CardC)(mv:AVal)(i:Int)(hm:IsL wz h 3 mv (c.marks.map UY))(hl:c.marks.length<=4611686018427387904)(ht:c.text.length<=4611686018427387904)(hi0: -9223372036854775808<=i):ACall Tryz.prog wz 81 [qgI c mv, .int .i64 i] h (fun v h'=>v= .tuple [Wy (atE c i).1 (atE c i).2.1, .int .i64 (atE c i).2.2]/\h'=h):=by
 have hlm:=hm.live;have hlen:=hm.len Tryz.underlying124;rw[Jp]at hlen;unfold qgI;refine qU (n:=49) (rs:=[.cell 4 33, .tmp 5]) Tryz.func81 rfl rfl rfl rfl (VN rfl) ?_;simp only[Qg];refine awp_rseq [1,2,4] (by rfl) fun K hK=>?_;refine Wt (by rfl) (by rfl) (by rfl) fun k0q0 hk0q0=>?_;try have hf_0q0:h k0q0=none:=by first|assumption|(simp only[AHeap.set_none]at hk0q0;simp only[hk0q0])
 skip;refine Qi qzf (cs:=[.int .i64 0, .int .i64 0]) (by rfl) fun k0q1 hk0q1=>?_;have ne_0q1_0q0:k0q1≠k0q0:=by simp only[AHeap.set_none]at hk0q1;simp only[hk0q1,ne_eq,not_false_eq_true]
 try have hf_0q1:h k0q1=none:=by first|assumption|(simp only[AHeap.set_none]at hk0q1;simp only[hk0q1])
 simp+decide only[qa,ev,qH,qG,putD,VO,VQ,VP,Ka,Kb,↓qd,qb,VX,Js];apply hK;clear hK K;refine qJ ?_;refine awp_rseq [1,2,4,22] (by rfl) fun K hK=>?_;simp+decide only[ev,putD,VO,VQ,Ka,Kb,↓qF,qY,qh qri qdr,QZ,ne_eq,not_false_eq_true,ne_0q1_0q0.symm,QT,qf,VZ,Kn,Js,Nat.reduceAdd,qD,qE,allLive,JU,hlm];refine qO (V:= .bool (validC c)) (by rfl) (by rfl) (qzS wz _ c mv (hm.mono (by repeat (first|exact Vm _|refine V5 ?_ (by assumption)))) hl) ?_;simp+decide only[qa,ev,qH,qG,putD,VO,VQ,VP,Ka,Kb,↓YI,Zl,YC,↓qg,qc,↓Xf,agP,Qv,qM,qK,Qh,implies_true,Bool.not_not,↓Xd,qm,qA,cond_false,Zv,qbB,Zw,qbC,qo,XZ,↓QW,Qz,Qk,ZA,qgD,ZO,↓Xj,ql,WH,↓Zn,XT,YY,qdg,qz ag9,↓qdn,Qw,WB Tryz.underlying9,qiU,qiV,qR,qau,QZ,ne_eq,not_false_eq_true,ne_0q1_0q0.symm,QT,VZ,Kn,Js,qE];apply hK;clear hK K;refine qI (b:=_) rfl (fun hb1=>?_) (fun hb1=>?_)
 ·try simp only[decide_eq_true_eq,Jj,JW]at hb1
  skip;refine awp_rseq [4,5] (by rfl) fun K hK=>?_;simp+decide only[ev,qH,qG,putD,VO,VQ,if_false,Kb,↓Qu,↓Qa,qBR,evP,Vk];refine qp (by rfl) (by rfl) zqA qbd (by rfl) (by rfl) zqD (Jt _) (by rfl) ?_;simp only[Vi,VX];simp+decide only[qa,ev,qH,qG,putD,VO,VQ,VP,Ka,Kb,↓qd,qb,setAt,VY,Kj,Js];apply hK;clear hK K;refine qL ?_;try simp only[Qe]
  refine Qb h zqC (?_) ?_
  ·simp+decide only[QG,qy,qj,VQ,Ka,and_true,qy,qj,qh qeG qbd,qZ,qf,VZ,Kn,Js,qi,allLive,JU,qf,VZ,Kn,Js,qi,allLive,JU]
  simp+decide only[VQ,Ka,and_true,XA,qy,qj,qh qeG qbd,qZ,qf,VZ,Kn,Js,qi,allLive,JU,qf,VZ,Kn,Js,qi,allLive,JU,Wy];rw[show atE c i=(0,0,1) by unfold atE;rw[if_neg (by rintro⟨q1,q2,q3⟩;rw[q1]at hb1;simp at hb1;omega)]]
 ·try simp only[decide_eq_false_iff_not,VU,VT]at hb1
  have hv:validC c=true:=by have:=hb1.1.1;simpa using this
  have hsm:=qny hv;have hei:atE c i=((qhc i c.marks (0,0)).1,(qhc i c.marks (0,0)).2,0):=by unfold atE;rw[if_pos ⟨hv,by omega,by omega⟩]
  have hn:c.marks≠[]:=fun e=>by unfold validC at hv;rw[e]at hv;cases hv
  obtain⟨l,o,cp,e⟩:=hm.open (fun e=>hn (VW.1 e));rw[Jp]at e;subst e;refine qP ?_;change Awp _ _ _ _ _ _ _;refine awp_rseq [1,2,4,6] (by rfl) fun K hK=>?_;refine Qi qzf (cs:=[.int .i64 0, .int .i64 0]) (by rfl) fun k3q0 hk3q0=>?_;have ne_3q0_0q0:k3q0≠k0q0:=by simp only[AHeap.set_none]at hk3q0;simp only[hk3q0,ne_eq,not_false_eq_true]
  have ne_3q0_0q1:k3q0≠k0q1:=by simp only[AHeap.set_none]at hk3q0;simp only[hk3q0,ne_eq,not_false_eq_true]
  try have hf_3q0:h k3q0=none:=by first|assumption|(simp only[AHeap.set_none]at hk3q0;simp only[hk3q0])
  simp+decide only[qa,putD,VO,VP,Ka];apply hK;clear hK K;refine qJ ?_;refine awp_rseq [1,4,6,25,26,27] (by rfl) fun K hK=>?_;simp+decide only[qa,ev,qH,qG,putD,VO,VQ,VP,Ka,Kb,↓qB,ql,qcf,↓qF,qY,qz qlP,↓Xe,Qw,Zh Tryz.underlying124,↓qg,qc,QZ,ne_eq,not_false_eq_true,ne_0q1_0q0.symm,ne_3q0_0q0.symm,QT,VZ,Kn,Js,hlm];apply hK;clear hK K;refine Qm ?_;refine XC [1,4,6,25,26,27] (fun k:Nat=>[(1, .int .i64 i),(4, .ptr (.own k0q1) 0),(6, .ptr (.own k3q0) 0),(25, .slice l o c.marks.length cp),(26, .int .i64 c.marks.length),(27, .int .i64 k)]) (fun k:Nat=>((h.set k0q0 ⟨[.bool c.left, .str c.text, .slice l o c.marks.length cp],0⟩).set k0q1 ⟨[.int .i64 0, .int .i64 0],0⟩).set k3q0 ⟨[.int .i64 (qhc i (c.marks.take k) (0,0)).1, .int .i64 (qhc i (c.marks.take k) (0,0)).2],0⟩) (fun k:Nat=>k<=c.marks.length) (fun k:Nat=>c.marks.length-k) 0 (by rfl) (Vm _) (Jt _) ?_;intro k hk;have hmk:=hm.mono (h':=((h.set k0q0 ⟨[.bool c.left, .str c.text, .slice l o c.marks.length cp],0⟩).set k0q1 ⟨[.int .i64 0, .int .i64 0],0⟩).set k3q0 ⟨[.int .i64 (qhc i (c.marks.take k) (0,0)).1, .int .i64 (qhc i (c.marks.take k) (0,0)).2],0⟩) (by repeat (first|exact Vm _|refine V5 ?_ (by assumption)));refine awp_rseq [1,4,6,25,26,27,28] (by rfl) fun K hK=>?_;simp+decide only[qa,ev,putD,VO,VQ,VP,Ka,Kb,↓qw,qm,qR,cond_false,qo,XZ];apply hK;clear hK K;refine qJ (qI (b:=_) rfl (fun hb2=>?_) (fun hb2=>?_))
  ·try simp only[decide_eq_true_eq]at hb2
   have hk':k<c.marks.length:=by omega
   have he:=hmk.elem (i:=k) (by rw[Jp];exact hk');rw[getD_map ⟨0,0,0⟩ hk']at he;simp only[qf,UY,List.cons.injEq,and_true]at he;obtain⟨e0,e1,e2⟩:=he;obtain⟨m1,m2,m3,m4,m5⟩:=hsm (c.marks.getD k ⟨0,0,0⟩) (by rw[Ko,JA hk'];exact VJ hk');refine qP ?_;change Awp _ _ _ _ _ _ _;refine qJ ?_;refine Qm ?_;refine awp_rseq [1,4,6,8,25,26,27] (by rfl) fun K hK=>?_;simp+decide only[ev,putD,VO,VQ,Ka,Kb,↓QE,qY,qW Tryz.underlying124 qhp,↓qF,qh qAW qhp,qf,qi,allLive,JU,e0,e1,e2,Vr];repeat (with_reducible refine And.intro ?_ ?_;· first|trivial|omega|(intro hg;simp only[Ky,JW,Jj,VS,VT,VU,decide_eq_true_eq,decide_eq_false_iff_not,XY]at hg;omega))
   refine Qi qvy (cs:=[.int .i64 0, .int .i64 0, .int .i64 0]) (by rfl) fun k6q2 hk6q2=>?_;have ne_6q2_0q0:k6q2≠k0q0:=by simp only[AHeap.set_none]at hk6q2;simp only[hk6q2,ne_eq,not_false_eq_true]
   have ne_6q2_0q1:k6q2≠k0q1:=by simp only[AHeap.set_none]at hk6q2;simp only[hk6q2,ne_eq,not_false_eq_true]
   have ne_6q2_3q0:k6q2≠k3q0:=by simp only[AHeap.set_none]at hk6q2;simp only[hk6q2,ne_eq,not_false_eq_true]
   try have hf_6q2:h k6q2=none:=by first|assumption|(simp only[AHeap.set_none]at hk6q2;simp only[hk6q2])
   refine qp (by rfl) (by rfl) zqA qhp (by rfl) (by rfl) zqD (Jt _) (by rfl) ?_;simp only[Vi,VX];simp+decide only[qa,ev,putD,VO,VQ,VP,Ka,setAt,VY,Kj,Js,Nat.reduceAdd];apply hK;clear hK K;refine awp_rseq [1,4,6,8,25,26,27,34] (by rfl) fun K hK=>?_;simp+decide only[qa,ev,putD,VO,VQ,VP,Ka,Kb,↓qB,ql,qhY,↓qF,qY,qz ag3,↓qg,qc,↓qw,qm,qR,cond_false,qo,qgM,QT,VZ,Js,qi];apply hK;clear hK K;refine qI (b:=_) rfl (fun hb3=>?_) (fun hb3=>?_)
   ·try simp only[decide_eq_true_eq]at hb3
    refine XW [1,4,6,25,26,27] (by rfl) ?_;simp+decide only[ev,qH,qG,putD,VO,VQ,Ka,Kb,↓qB,ql,qtu,qwW,↓qF,qY,qz ag3,qsd,↓qg,qc,↓qw,qm,qR,cond_false,qo,Xa,qhY,qaI,↓Qu,↓Qa,qdP,evP,Ke,Vk,QT,VZ,Kn,Js,Nat.reduceAdd,qi,Wy];try simp(disch:=omega)only[wrap_i64]
    refine qp (by rfl) (by rfl) zqA qbd (by rfl) (by rfl) zqD (Jt _) (by rfl) ?_;simp only[VX];simp+decide only[qa,ev,putD,VQ,VP,Ka,setAt,VY,Kj,Js];change Awp _ _ _ _ _ _ _;refine XW [1,4,6,25,26,27] (by rfl) ?_;simp+decide only[qa,ev,qH,qG,putD,VO,VQ,VP,Ka,Kb,↓qw,qm,qA,cond_false,qo,Xa,↓qg,qc];try simp(disch:=omega)only[wrap_i64]
    try simp only[Qj]
    refine⟨k+1,rfl,?_,by omega,by omega⟩
    (rw[qns hk',if_pos hb3];exact zqB)
   ·try simp only[decide_eq_false_iff_not]at hb3
    refine qP ?_;change Awp _ _ _ _ _ _ _;refine XW [1,4,6,25,26,27] (by rfl) ?_;simp+decide only[qa,ev,qH,qG,putD,VO,VQ,VP,Ka,Kb,↓qw,qm,qA,cond_false,qo,Xa,↓qg,qc,Wy];try simp(disch:=omega)only[wrap_i64]
    try simp only[Qj]
    refine⟨k+1,rfl,?_,by omega,by omega⟩
    (rw[qns hk',if_neg hb3];exact zqB)
  ·try simp only[decide_eq_false_iff_not]at hb2
   refine XE ?_;change Awp _ _ _ _ _ _ _;refine awp_rseq [4,5] (by rfl) fun K hK=>?_;simp+decide only[ev,putD,VO,VQ,Ka,Kb,↓qF,qY,qh qeG qbd,QT,qf,VZ,Kn,Js,qi,allLive,JU];refine qp (by rfl) (by rfl) zqA qbd (by rfl) (by rfl) zqD (Jt _) (by rfl) ?_;simp only[VX];simp+decide only[qa,ev,qH,qG,putD,VO,VQ,VP,Ka,Kb,↓qd,qb,setAt,VY,Kj,Js];apply hK;clear hK K;refine qL ?_;refine Qb h zqC (?_) ?_
   ·simp+decide only[QG,qy,qj,VQ,Ka,and_true,qy,qj,qh qeG qbd,qZ,qf,VZ,Kn,Js,qi,allLive,JU,qf,VZ,Kn,Js,qi,allLive,JU]
   simp+decide only[VQ,Ka,and_true,XA,qy,qj,qh qeG qbd,qZ,qf,VZ,Kn,Js,qi,allLive,JU,qf,VZ,Kn,Js,qi,allLive,JU,Wy];rw[hei,show k=c.marks.length by omega,Jq]
end Go.Proofs.YtlhhaagmakhilaaGreatDoor
