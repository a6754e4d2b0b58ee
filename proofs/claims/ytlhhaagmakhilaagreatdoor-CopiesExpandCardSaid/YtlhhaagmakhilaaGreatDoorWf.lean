/-
  Texts of this proof, joined: BmH, CtR, CtL, CtF, CtM, CtN, CtO, CpN, BmI, CtT, CtG, CtH, CtP, CtI, CtJ, CtK, CtQ, CtU, LwR, LwS, LwX, LwL.
  Conditions: none.
-/
import Derived.Test.YtlhhaagmakhilaaGreatDoorWd
import Derived.Test.YtlhhaagmakhilaaGreatDoorWe
import Derived.Test.YtlhhaagmakhilaaGreatDoorProg
import Derived.Test.YtlhhaagmakhilaaGreatDoorWb
import Derived.WalkKit
import Derived.ProofKit
import Derived.OpenShut
import Derived.ShutString
import Derived.ChangeOld
import Derived.Below
import Derived.Deep.Strs
import Derived.Handed
import Derived.HandedShaped
import Derived.Shelf.Vars
import Derived.Test.YtlhhaagmakhilaaGreatDoorRows
import Derived.Lib.LaidTab
import Derived.MakeChecks
set_option linter.unusedSimpArgs false
set_option linter.unnecessarySimpa false
set_option linter.unusedVariables false
open List renaming mem_cons->KX,range->KP,any_eq_true->JY,mem_range->JE,all_eq_true->JD,getD->Ko,getElem?_eq_getElem->JA,getElem_mem->VJ,contains_iff_mem->JX,getElem_of_mem->BO,mem_cons_self->Jf,getElem?_eq_some_iff->JB,mem_of_getElem?->J2,mem_filter->J3,length_pos_of_mem->J4,drop_drop->BP,mem_of_mem_drop->VF,drop_zero->KQ,length_filter_le->Va,mem_append->JJ,flatten_append->Eu,length_append->Jc,eq_nil_of_length_eq_zero->Kg,append_nil->Bg,map_cons->Ke,map_nil->Vk,length_nil->J9,nil_append->Je,find?_eq_none->EL,find?_eq_some_iff_getElem->EM,getElem?_map->Ej,length_map->Jp,mem_map_of_mem->EO,length->BR,map_drop->El,take_of_length_le->Jr,length_drop->K6,filterMap_cons->VK,filterMap_nil->Ep,getElem?_cons_zero->Kz,getElem?_cons_succ->KM,map_append->Bd,length_cons->KY,set_cons_zero->VY,set_cons_succ->Kj,getD_cons_zero->VZ,getD_cons_succ->Kn,length_take->K5,mem_singleton->BG,take_append_drop->Bq,append_assoc->Ja,mem_map->JH,map_map->VV,length_mapIdx->EQ,getElem?_eq_none->Kr
open Bool renaming false_eq_true->KW,and_true->JU,and_eq_true->Ky,true_and->Vg,not_true->V3,false_or->BQ,or_eq_true->JW,not_eq_true'->Jj,and_eq_false_iff->VS,or_eq_false_iff->VT,not_eq_false'->VU,false_and->V4,not_false->Er,false_ne_true->EP
open Go.AM.Sub renaming refl->Vm,set->Vh,trans->BL,buf->BJ,none->Bi
open Nat renaming le_refl->KL,lt_of_not_le->JP,eq_or_lt_of_le->JC,le_of_lt_succ->EK,le_of_not_lt->Kt,lt_or_ge->KU,strongRecOn->Jw,zero_le->Jt,zero_add->Js,le_of_ble_eq_true->VN,not_lt_zero->EN,add_zero->K7,zero_mul->K8,mul_one->BK,add_assoc->Kw,succ_mul->VB,mul_le_mul_right->K9,le_trans->V7,mul_comm->Ee
open Array renaming getD->JF,replicate->Jy
open Go.AM.AHeap renaming set_same->Ve,set_none->V9,set_set->Vi,set_ne->Vd,ne_some->Bj,del->Vl
open Go.AM.PMap renaming le_trans->J7
open Go.AM.Awp renaming keep->Vb
open Go.AM.IsL renaming own->Ba,buf->BH
open Go.AM.Slots renaming put->VO,keep->VP,get->VQ
open Int renaming toNat_natCast->Vr
open UInt8 renaming toNat_inj->BN,ofNat->KD
open Go.AM.AVal renaming cells->VX
open Option renaming map_some->KI
namespace Go.AM
open Go.RowKit (Below)
section
variable {P:Program} {wz:World} {n:FrameK} {la:List Nat} {ly:Nat->List AVal×(Nat->AVal)}
def qeT(la:List Nat)(o:Oper):Bool:=match o.dst with
 |some t=>la.contains t
 |none=>false
def isY(la:List Nat)(l:List Oper)(i:Nat):Bool:=match l[i]? with
 |some o=>qeT la o
 |none=>false
def lyO(ly:Nat->List AVal×(Nat->AVal))(o:Oper):List AVal×(Nat->AVal):=ly (o.dst.getD 0)
def qbL(P:Program)(wz:World)(l:List Oper)(s:Slots)(o:Oper)(c:List AVal×(Nat->AVal)):Prop:=
 ∀g,QO P wz l [o] s g fun s' h'=>∃k,g k=none/\s'=putD s o.dst (c.2 k)/\h'=g.set k ⟨c.1,0⟩
def qbw(P:Program)(wz:World)(l:List Oper)(la:List Nat)(ly:Nat->List AVal×(Nat->AVal))(s:Slots)(r:List Oper):Prop:=∀o∈r,qeT la o=true->qbL P wz l s o (lyO ly o)
theorem qab{l:List Oper}{s:Slots}:qbw P wz l la ly s []:=fun o ho=>by cases ho
theorem Xo{l:List Oper}{s:Slots}{o:Oper}{r:List Oper}(ho:qeT la o=false)(hr:qbw P wz l la ly s r):qbw P wz l la ly s (o::r):=fun x hx hy=>by
 rcases KX.1 hx with e|e
 ·subst e;rw[ho]at hy;cases hy
 ·exact hr x e hy
theorem qbp{l:List Oper}{s:Slots}{o:Oper}{r:List Oper}(ho:qbL P wz l s o (lyO ly o))(hr:qbw P wz l la ly s r):qbw P wz l la ly s (o::r):=fun x hx hy=>by
 rcases KX.1 hx with e|e
 ·subst e;exact ho
 ·exact hr x e hy
def qbE(P:Program)(wz:World)(l:List Oper)(la:List Nat)(ly:Nat->List AVal×(Nat->AVal))(hZ:AHeap):Nat->List Oper->Slots->AHeap->(Slots->AHeap->Prop)->Prop
 |_,[],s,g,K=>K s g
 |0,o::r,s,g,K=>QO P wz l (o::r) s g K
 |m+1,o::r,s,g,K=>
  if qeT la o=true then qbL P wz l s o (lyO ly o)/\qbw P wz l la ly s r/\∀k g',hZ k=none->Sub g g'->g' k=some ⟨(lyO ly o).1,0⟩->qbE P wz l la ly hZ m r (putD s o.dst ((lyO ly o).2 k)) g' K
  else if ZW P o.op=2 then QO P wz l [o] s g fun s' g'=>Sub g g'/\qbE P wz l la ly hZ m r s' g' K
   else qbw P wz l la ly s r/\∀g',Sub g g'->QO P wz l [o] s g' fun s' h'=>Sub g' h'/\qbE P wz l la ly hZ m r s' h' K
theorem qkl{l:List Oper}{hZ:AHeap}{m:Nat}{s:Slots}{h:AHeap}{K:Slots->AHeap->Prop}:qbE P wz l la ly hZ m [] s h K=K s h:=by cases m<;>rfl
theorem qmm{l:List Oper}{hZ:AHeap}{o:Oper}{r:List Oper}{s:Slots}{h:AHeap}{K:Slots->AHeap->Prop}:qbE P wz l la ly hZ 0 (o::r) s h K=QO P wz l (o::r) s h K:=rfl
theorem qck{l:List Oper}{hZ:AHeap}{m:Nat}{o:Oper}{r:List Oper}{s:Slots}{h:AHeap}{K:Slots->AHeap->Prop}(ha:qeT la o=false)(hk:ZW P o.op=2)(hc:QO P wz l [o] s h fun s' g'=>Sub h g'/\qbE P wz l la ly hZ m r s' g' K):qbE P wz l la ly hZ (m+1) (o::r) s h K:=by
 simp only[qbE,ha,hk,if_true,KW,if_false];exact hc
theorem qtK{l:List Oper}{hZ:AHeap}{m:Nat}{o:Oper}{r:List Oper}{s:Slots}{h:AHeap}{K:Slots->AHeap->Prop}(ha:qeT la o=false)(hL:qbw P wz l la ly s r)(hc:∀g',Sub h g'->QO P wz l [o] s g' fun s' h'=>Sub g' h'/\qbE P wz l la ly hZ m r s' h' K):qbE P wz l la ly hZ (m+1) (o::r) s h K:=by
 simp only[qbE,ha,KW,if_false];split
 ·exact hc h (Vm h)
 ·exact⟨hL,hc⟩
theorem qvB{l:List Oper}{hZ:AHeap}{m:Nat}{o:Oper}{r:List Oper}{s:Slots}{h:AHeap}{K:Slots->AHeap->Prop}(ha:qeT la o=true)(ho:qbL P wz l s o (lyO ly o))(hL:qbw P wz l la ly s r)(hc:∀k g',hZ k=none->Sub h g'->g' k=some ⟨(lyO ly o).1,0⟩->qbE P wz l la ly hZ m r (putD s o.dst ((lyO ly o).2 k)) g' K):qbE P wz l la ly hZ (m+1) (o::r) s h K:=by
 simp only[qbE,ha,if_true];exact⟨ho,hL,hc⟩
theorem qfR{l:List Oper}{hZ:AHeap}{K K':Slots->AHeap->Prop}(hk:∀s h,K s h->K' s h):∀{r:List Oper} {m:Nat} {s:Slots} {h:AHeap},qbE P wz l la ly hZ m r s h K->qbE P wz l la ly hZ m r s h K'
 |[],m,s,h,ha=>by rw[qkl]at ha|-;exact hk _ _ ha
 |o::r,0,s,h,ha=>awp_rseq.aOps_mono hk ha
 |o::r,m+1,s,h,ha=>by
  simp only[qbE]at ha|-
  by_cases h1:qeT la o=true
  ·rw[if_pos h1]at ha|-
   exact⟨ha.1,ha.2.1,fun k g' q1 q2 q3=>qfR hk (ha.2.2 k g' q1 q2 q3)⟩
  ·rw[if_neg h1]at ha|-
   by_cases h2:ZW P o.op=2
   ·rw[if_pos h2]at ha|-
    exact qaL (fun s' h' hx=>⟨hx.1,qfR hk hx.2⟩) ha
   ·rw[if_neg h2]at ha|-
    exact⟨ha.1,fun g' hg=>qaL (fun s' h' hx=>⟨hx.1,qfR hk hx.2⟩) (ha.2 g' hg)⟩
def isM(P:Program)(l:List Oper)(π:List Nat)(m i:Nat):Bool:=isF P l i && (KP m).any fun q=>π.getD q 0==i
theorem qiI{l:List Oper}{π:List Nat}{m q:Nat}(h:q<m):isM P l π m (π.getD q 0)=isF P l (π.getD q 0):=by
 have:((KP m).any fun c=>π.getD c 0==π.getD q 0)=true:=JY.2 ⟨q,JE.2 h,by simp⟩;unfold isM;rw[this,JU]
def qiL(P:Program)(la:List Nat)(l:List Oper)(π:List Nat)(ws:List (Option Nat))(m:Nat):Bool:=
 Uo l && ((KP l.length).all fun i=> !(isM P l π m i && isY la l i)) && ((KP π.length).all fun q=> !isY la l (π.getD q 0)||match l[π.getD q 0]? with
  |none=>true
  |some o=>(KP π.length).all fun r=>match l[π.getD r 0]? with
   |none=>true
   |some oj=>(match oj.dst with
    |none=>true
    |some t=> !(QS l o).contains t|| !isY la l (π.getD r 0))) && (π.all fun i=>decide (i<l.length)) && ((KP l.length).all fun i=>π.contains i) &&
 ((KP π.length).all fun q=>(KP π.length).all fun r=>decide (q=r)|| !(π.getD q 0==π.getD r 0)) &&
 ((KP π.length).all fun q=>isY la l (π.getD q 0)||match ws.getD q none with
   |none=>(KP q).all fun c=>isM P l π m (π.getD c 0)
   |some r=>decide (r<q) && Region.waitsFor .any l.toArray (π.getD q 0) (π.getD r 0) && !isY la l (π.getD r 0) && (KP q).all fun c=>decide (c<=r)||isM P l π m (π.getD c 0)||(isY la l (π.getD c 0) && Region.waitsFor .any l.toArray (π.getD q 0) (π.getD c 0))) &&
 ((KP π.length).all fun q=>match l[π.getD q 0]? with
   |none=>true
   |some o=>(KP π.length).all fun r=>match l[π.getD r 0]? with
    |none=>true
    |some oj=>(match oj.dst with
     |none=>true
     |some t=> !(QS l o).contains t||(decide (r<q) && Region.waitsFor .any l.toArray (π.getD q 0) (π.getD r 0)))) &&
 decide (m<=π.length) && ((KP π.length).all fun q=>decide (q<m)||(!isM P l π m (π.getD q 0) && !isY la l (π.getD q 0))) &&
 (decide (m=π.length)||(KP m).all fun q=>(KP (m+1)).any fun r=>decide (q<r) && Region.waitsFor .any l.toArray (π.getD r 0) (π.getD q 0))
structure FloatY(P:Program)(la:List Nat)(l:List Oper)(π:List Nat)(m:Nat):Prop where
 order:Uo l=true
 notF:∀i,i<l.length->isM P l π m i=true->isY la l i=false
 dataY:∀q r o oj t,q<π.length->r<π.length->isY la l (π.getD q 0)=true->l[π.getD q 0]?=some o->l[π.getD r 0]?=some oj->oj.dst=some t->t∈QS l o->isY la l (π.getD r 0)=false
 inr:∀q,q<π.length->π.getD q 0<l.length
 onto:∀i,i<l.length->∃q,q<π.length/\π.getD q 0=i
 inj:∀q r,q<π.length->r<π.length->π.getD q 0=π.getD r 0->q=r
 wait:∀q c,q<π.length->c<q->isY la l (π.getD q 0)=false->isM P l π m (π.getD c 0)=false->∃r,c<=r/\r<q/\(r=c\/isY la l (π.getD r 0)=false)/\Region.waitsFor .any l.toArray (π.getD q 0) (π.getD r 0)=true
 data:∀q r o oj t,q<π.length->r<π.length->l[π.getD q 0]?=some o->l[π.getD r 0]?=some oj->oj.dst=some t->t∈QS l o->r<q/\Region.waitsFor .any l.toArray (π.getD q 0) (π.getD r 0)=true
 mle:m<=π.length
 tail:∀q,m<=q->q<π.length->isM P l π m (π.getD q 0)=false/\isY la l (π.getD q 0)=false
 sink:m<π.length->∀q,q<m->∃r,q<r/\r<=m/\Region.waitsFor .any l.toArray (π.getD r 0) (π.getD q 0)=true
theorem qjz{l:List Oper}{π:List Nat}{ws:List (Option Nat)}{m:Nat}(h:qiL P la l π ws m=true):FloatY P la l π m:=by
 unfold qiL at h;simp only[Ky]at h;obtain⟨⟨⟨⟨⟨⟨⟨⟨⟨⟨h1,hF⟩,hY⟩,h2⟩,h3⟩,h4⟩,h5⟩,h6⟩,h7⟩,h8⟩,h9⟩:=h;simp only[JD,JE]at hF hY h2 h3 h4 h5 h6 h8;refine⟨h1,fun i hi hf=>?_,fun q r o oj t hq hr hy ho hoj hd ht=>?_,fun q hq=>?_,fun i hi=>?_,fun q r hq hr e=>?_,fun q c hq hc hqa hf=>?_,fun q r o oj t hq hr ho hoj hd ht=>?_,by simpa using h7,fun q hm hq=>?_,fun hm q hq=>?_⟩
 ·have:=hF i hi
  rw[hf,Vg]at this;simpa using this
 ·have:=hY q hq
  rw[hy,ho]at this;simp only[V3,BQ,JD,JE]at this;have:=this r hr;rw[hoj]at this;simp only[hd,JW,Jj]at this;rcases this with e|e
  ·have hm:(QS l o).contains t=true:=by simpa using ht
   rw[hm]at e;cases e
  ·exact e
 ·have:=h2 (π.getD q 0) (by rw[Ko,JA hq];exact VJ hq)
  simpa using this
 ·have:=h3 i hi
  rw[JX]at this;obtain⟨q,hq,e⟩:=BO this;exact⟨q,hq,by rw[Ko,JA hq];exact e⟩
 ·have:=h4 q hq r hr
  rw[JW,decide_eq_true_eq]at this;rcases this with e'|e'
  ·exact e'
  ·rw[e]at e';simp at e'
 ·have:=h5 q hq
  rw[hqa,BQ]at this;split at this
  ·rw[JD]at this
   rw[this c (JE.2 hc)]at hf;cases hf
  ·rename_i r _
   simp only[Ky,decide_eq_true_eq,JD,JE,JW,Jj]at this;obtain⟨⟨⟨t1,t2⟩,t4⟩,t3⟩:=this;rcases t3 c hc with(e|e)|e
   ·exact⟨r,e,t1, .inr t4,t2⟩
   ·rw[e]at hf;cases hf
   ·exact⟨c,KL _,hc, .inl rfl,e.2⟩
 ·have:=h6 q hq
  rw[ho]at this;simp only[JD,JE]at this;have:=this r hr;rw[hoj]at this;simp only[hd,JW,Ky,decide_eq_true_eq,Jj]at this;rcases this with e|e
  ·have hm:(QS l o).contains t=true:=by simpa using ht
   rw[hm]at e;cases e
  ·exact e
 ·have:=h8 q hq
  simp only[JW,decide_eq_true_eq,Jj,Ky]at this;rcases this with e|e
  ·omega
  ·exact e
 ·rw[JW,decide_eq_true_eq]at h9
  rcases h9 with e|e
  ·omega
  ·rw[JD]at e
   have:=e q (JE.2 hq);rw[JY]at this;obtain⟨r,hr,hw⟩:=this;rw[JE]at hr;simp only[Ky,decide_eq_true_eq]at hw;exact⟨r,hw.1,by omega,hw.2⟩
structure PreY(P:Program)(wz:World)(n:FrameK)(la:List Nat)(ly:Nat->List AVal×(Nat->AVal))(l:List Oper)(π:List Nat)(m:Nat)(hZ:AHeap)(K:Slots->AHeap->Prop)(listed:Array Bool)(Ps:PMap)(a:Act)(w:World)(p:Nat)(S:Slots)(g ga:AHeap):Prop where
 size:listed.size=l.length
 closed:∀j oj,l[j]?=some oj->listed.getD j false=true->∀e∈oj.after,Region.binds .any e=true->listed.getD e.on false=true
 tsize:a.tmps.size=n
 defers:a.defers=n.dfr
 ple:p<=π.length
 ahead:∀q,p<=q->q<π.length->isY la l (π.getD q 0)=false->listed.getD (π.getD q 0) false=false
 behind:∀q,q<p->isM P l π m (π.getD q 0)=false->listed.getD (π.getD q 0) false=true
 past:m<p->∀q,q<p->listed.getD (π.getD q 0) false=true
 rel:HRel wz Ps ga w
 sub:Sub g ga
 sub0:p<=m->Sub hZ ga
 ev:qbE P wz l la ly hZ (m-p) ((Zy l π).drop p) S g K
 fact:∀q o,q<p->l[π.getD q 0]?=some o->listed.getD (π.getD q 0) false=false->∃V,(∀t,o.dst=some t->S.get t=V)/\FactR P wz n l g S o V
 early:∀q o,p<=q->q<π.length->l[π.getD q 0]?=some o->isY la l (π.getD q 0)=true->listed.getD (π.getD q 0) false=true->∃k,hZ k=none/\ga k=some ⟨(lyO ly o).1,0⟩/\∀t,o.dst=some t->VR Ps ((lyO ly o).2 k) (a.tmps.getD t undef)
 slot:∀t,(∃q o,q<π.length/\l[π.getD q 0]?=some o/\o.dst=some t/\((q<p/\listed.getD (π.getD q 0) false=false)\/(p<=q/\listed.getD (π.getD q 0) false=true)))\/VR Ps (S.get t) (a.tmps.getD t undef)
theorem qfw{l:List Oper}{i:Nat}{o:Oper}(ho:l[i]?=some o):isY la l i=qeT la o:=by unfold isY;rw[ho]
theorem qkw{l:List Oper}(hall:Xl n l=true){π:List Nat}{m:Nat}(F:FloatY P la l π m){hZ:AHeap}{K:Slots->AHeap->Prop}{listed:Array Bool}{Ps:PMap}{a:Act}{w:World}:∀(d p:Nat) (S:Slots) (g ga:AHeap),π.length-p=d->PreY P wz n la ly l π m hZ K listed Ps a w p S g ga->
 ∃p' S' g' ga',PreY P wz n la ly l π m hZ K listed Ps a w p' S' g' ga'/\(p'<π.length->isM P l π m (π.getD p' 0)=false/\listed.getD (π.getD p' 0) false=false):=by
 intro d;induction d with
 |zero=>intro p S g ga hd pre;exact⟨p,S,g,ga,pre,fun h=>by omega⟩
 |succ d ih=>
  intro p S g ga hd pre;have hpl:p<π.length:=by omega
  obtain⟨o,ho⟩:∃o,l[π.getD p 0]?=some o:=⟨_,JA (F.inr p hpl)⟩
  have hev:=pre.ev;have notlook:∀q oq,q<=p->l[π.getD q 0]?=some oq->∀t,o.dst=some t->t∉QS l oq:=fun q oq h1 h2 t h3 ht=>by
   have:=(F.data q p oq o t (by omega) hpl h2 ho h3 ht).1;omega
  have uniq:∀q oq t,q≠p->q<π.length->l[π.getD q 0]?=some oq->oq.dst=some t->o.dst≠some t:=fun q oq t h1 h2 h3 h4 e=>by
   have:=((XP F.order ho).2 _ oq t h3 h4).1 e;exact h1 (F.inj p q hpl h2 this).symm
  cases hf:isM P l π m (π.getD p 0)with
  |true=>
   have hpm:p<m:=by
    refine JP fun h=>?_;rw[(F.tail p h hpl).1]at hf;cases hf
   have hk2:ZW P o.op=2:=by
    rw[qiI hpm]at hf;unfold isF at hf;rw[ho]at hf;simpa using hf
   have hna:=F.notF _ (F.inr p hpl) hf;rw[ZZ F.inr hpl ho,show m-p=(m-(p+1))+1 by omega]at hev;simp only[qbE,((qfw ho).symm.trans hna),hk2,if_true,KW,if_false]at hev;obtain⟨V,⟨_,hv⟩,hfact⟩:=qgm hall hk2 hev;have hun:=pre.ahead p (KL _) hpl hna;refine ih (p+1) (putD S o.dst V) g ga (by omega) ⟨pre.size,pre.closed,pre.tsize,pre.defers,by omega,fun q h1 h2 h3=>pre.ahead q (by omega) h2 h3,fun q h1 h2=>?_,fun hm=>by omega,pre.rel,pre.sub,fun _=>pre.sub0 (by omega),hv,fun q oq h1 h2 h3=>?_,fun q oq h1 h2 h3 h4 h5=>pre.early q oq (by omega) h2 h3 h4 h5,fun t=>?_⟩
   ·rcases JC (EK h1)with e|e
    ·subst e;rw[hf]at h2;cases h2
    ·exact pre.behind q e h2
   ·rcases JC (EK h1)with e|e
    ·subst e
     rw[ho]at h2;obtain rfl:=Option.some.inj h2;exact⟨V,fun t ht=>by rw[Xv,if_pos ht],hfact.slots fun t ht=>by rw[Xv,if_neg fun e=>notlook q o (KL _) ho t e ht]⟩
    ·obtain⟨V',v1,v2⟩:=pre.fact q oq e h2 h3
     refine⟨V',fun t ht=>?_,v2.slots fun t ht=>?_⟩
     ·rw[Xv,if_neg (uniq q oq t (by omega) (by omega) h2 ht)];exact v1 t ht
     ·rw[Xv,if_neg fun e'=>notlook q oq (by omega) h2 t e' ht]
   ·by_cases hod:o.dst=some t
    ·exact .inl ⟨p,o,hpl,ho,hod, .inl ⟨by omega,hun⟩⟩
    ·rcases pre.slot t with⟨q,oq,c1,c2,c3,c4⟩|c
     ·refine .inl ⟨q,oq,c1,c2,c3,?_⟩
      rcases c4 with⟨c4,c5⟩|⟨c4,c5⟩
      ·exact .inl ⟨by omega,c5⟩
      ·refine .inr ⟨?_,c5⟩
       rcases JC c4 with e|e
       ·subst e;rw[hun]at c5;cases c5
       ·exact e
     ·right
      rw[Xv,if_neg hod];exact c
  |false=>
   cases hl:listed.getD (π.getD p 0) false with
   |false=>exact⟨p,S,g,ga,pre,fun _=>⟨hf,hl⟩⟩
   |true=>
    have hA:isY la l (π.getD p 0)=true:=by
     cases hA:isY la l (π.getD p 0)with
     |true=>rfl
     |false=>rw[pre.ahead p (KL _) hpl hA]at hl;cases hl
    have hpm:p<m:=by
     refine JP fun h=>?_;rw[(F.tail p h hpl).2]at hA;cases hA
    obtain⟨k,e2,e3,e4⟩:=pre.early p o (KL _) hpl ho hA hl;rw[ZZ F.inr hpl ho,show m-p=(m-(p+1))+1 by omega]at hev;simp only[qbE,((qfw ho).symm.trans hA),if_true]at hev;refine ih (p+1) (putD S o.dst ((lyO ly o).2 k)) ga ga (by omega) ⟨pre.size,pre.closed,pre.tsize,pre.defers,by omega,fun q h1 h2 h3=>pre.ahead q (by omega) h2 h3,fun q h1 h2=>?_,fun hm=>by omega,pre.rel,Vm _,fun _=>pre.sub0 (by omega),hev.2.2 k ga e2 pre.sub e3,fun q oq h1 h2 h3=>?_,fun q oq h1 h2 h3 h4 h5=>pre.early q oq (by omega) h2 h3 h4 h5,fun t=>?_⟩
    ·rcases JC (EK h1)with e|e
     ·subst e;exact hl
     ·exact pre.behind q e h2
    ·rcases JC (EK h1)with e|e
     ·subst e;rw[hl]at h3;cases h3
     ·obtain⟨V',v1,v2⟩:=pre.fact q oq e h2 h3
      refine⟨V',fun t ht=>?_,(v2.sub pre.sub).slots fun t ht=>?_⟩
      ·rw[Xv,if_neg (uniq q oq t (by omega) (by omega) h2 ht)];exact v1 t ht
      ·rw[Xv,if_neg fun e'=>notlook q oq (by omega) h2 t e' ht]
    ·by_cases hod:o.dst=some t
     ·right
      rw[Xv,if_pos hod];exact e4 t hod
     ·rcases pre.slot t with⟨q,oq,c1,c2,c3,c4⟩|c
      ·refine .inl ⟨q,oq,c1,c2,c3,?_⟩
       rcases c4 with⟨c4,c5⟩|⟨c4,c5⟩
       ·exact .inl ⟨by omega,c5⟩
       ·refine .inr ⟨?_,c5⟩
        rcases JC c4 with e|e
        ·subst e;rw[ho]at c2;obtain rfl:=Option.some.inj c2;exact absurd c3 hod
        ·exact e
      ·right
       rw[Xv,if_neg hod];exact c
def qyZ(P:Program)(wz:World)(n:FrameK)(la:List Nat)(ly:Nat->List AVal×(Nat->AVal))(l:List Oper)(π:List Nat)(m:Nat)(hZ:AHeap)(K:Slots->AHeap->Prop)(listed:Array Bool)(Ps:PMap)(a:Act)(w:World):Prop:=
 ∃p S g ga,PreY P wz n la ly l π m hZ K listed Ps a w p S g ga/\(p<π.length->isM P l π m (π.getD p 0)=false/\listed.getD (π.getD p 0) false=false)
theorem qAp{l:List Oper}(hall:Xl n l=true){π:List Nat}{m:Nat}(F:FloatY P la l π m){hZ:AHeap}{K:Slots->AHeap->Prop}{fi:PMap}{Q:Exit->Act->World->Prop}
 (hq:∀Ps S g a w,fi.le Ps->HRel wz Ps g w->SRel Ps n S a->K S g->Q .normal a w):∀(fuel:Nat) (listed:Array Bool) (a:Act) (w:World) (Ps:PMap),fi.le Ps->qyZ P wz n la ly l π m hZ K listed Ps a w->
 (listed.toList.filter (!·)).length<=fuel->wpAny P .any l.toArray Q fuel listed a w:=by
 have hB:=F.order;have fin:∀(listed:Array Bool) (a:Act) (w:World) (Ps:PMap),fi.le Ps->qyZ P wz n la ly l π m hZ K listed Ps a w->Region.ready .any l.toArray listed=[]->Q .normal a w:=by
  rintro listed a w Ps hle ⟨p,S,g,ga,pre,stop⟩ hrd;have hal:=qaK hB pre.size hrd;have hp:p=π.length:=by
   rcases JC pre.ple with e|e
   ·exact e
   ·have:=(stop e).2
    rw[hal _ (F.inr p e)]at this;cases this
  subst hp;have hev:=pre.ev;rw[show(Zy l π).drop π.length=[] by rw[<-qak F.inr];simp,qkl]at hev;refine hq Ps S g a w hle (pre.rel.forget pre.sub) ⟨pre.tsize,pre.defers,fun t=>?_⟩ hev;rcases pre.slot t with⟨q,o,c1,c2,c3,c4⟩|c
  ·rcases c4 with⟨_,c5⟩|⟨c4,_⟩
   ·rw[hal _ (F.inr q c1)]at c5;cases c5
   ·omega
  ·exact c
 intro fuel;induction fuel with
 |zero=>
  intro listed a w Ps hle inv hc;have hrd:Region.ready .any l.toArray listed=[]:=by
   cases hrd:Region.ready .any l.toArray listed with
   |nil=>rfl
   |cons i r=>
    exfalso;have hm:i∈Region.ready .any l.toArray listed:=by rw[hrd];exact Jf
    obtain⟨h1,o,ho,_⟩:=mem_ready.1 hm;have hi:i<listed.size:=by
     have:l[i]?=some o:=by simpa using ho
     obtain⟨_,_,_,_,pre,_⟩:=inv;rw[pre.size];exact(JB.1 this).1
    have h2:listed.toList[i]?=some false:=by
     simp[JF,hi]at h1;simp[hi,h1]
    have:=J2 h2;have hmem:false∈listed.toList.filter (!·):=by simp[J3,this]
    have:=J4 hmem;omega
  exact⟨hrd,fin listed a w Ps hle inv hrd⟩
 |succ fuel ih=>
  intro listed a w Ps hle inv hc;refine⟨fun hrd=>fin listed a w Ps hle inv hrd,fun i hi=>?_⟩;obtain⟨p,S,g,ga,pre,stop⟩:=inv;obtain⟨h1,o,ho,hedges⟩:=mem_ready.1 hi;have hol:l[i]?=some o:=by simpa using ho
  have hilt:i<l.length:=(JB.1 hol).1;have hisz:i<listed.size:=by rw[pre.size];exact hilt
  have hif:listed.getD i false=false:=by simp[JF,hisz]at h1|-;exact h1
  have hcount:((listed.setIfInBounds i true).toList.filter (!·)).length<=fuel:=by
   have h2:listed.toList[i]?=some false:=by
    simp[JF,hisz]at h1;simp[hisz,h1]
   have:=qaM listed.toList i h2;have e:(listed.setIfInBounds i true).toList=listed.toList.set i true:=by simp
   rw[e];omega
  have hdn:∀d,o.dst=some d->d<n:=fun d hd=>qbT l i d hall (by rw[Yv,hol];exact hd);obtain⟨q,hql,hqi⟩:=F.onto i hilt;have hoq:l[π.getD q 0]?=some o:=by rw[hqi];exact hol
  have looks:q<=p\/isY la l (π.getD q 0)=true->LookOk Ps n l o S a:=fun hqp=>⟨pre.tsize,pre.defers,fun t ht=>by
   rcases pre.slot t with⟨r,oj,c1,c2,c3,c4⟩|c
   ·exfalso
    have:=F.data q r o oj t hql c1 hoq c2 c3 ht;have hw:=this.2;rw[hqi]at hw;rcases c4 with⟨_,c5⟩|⟨c4,c5⟩
    ·rw[YF hol hedges hw]at c5
     cases c5
    ·rcases hqp with hqp|hqp
     ·omega
     ·have hra:=F.dataY q r o oj t hql c1 hqp hoq c2 c3 ht
      rw[pre.ahead r c4 c1 hra]at c5;cases c5
   ·exact c⟩
  have closed':∀j oj,l[j]?=some oj->(listed.setIfInBounds i true).getD j false=true->∀e∈oj.after,Region.binds .any e=true->(listed.setIfInBounds i true).getD e.on false=true:=fun j oj hj hl e he hb=>by
   by_cases e1:e.on=i
   ·rw[e1];exact set_self hisz
   ·rw[XG e1]
    by_cases e2:j=i
    ·subst e2
     rw[hol]at hj;obtain rfl:=Option.some.inj hj;exact hedges e he hb
    ·rw[XG e2]at hl
     exact pre.closed j oj hj hl e he hb
  have other:∀r,r<π.length->r≠q->(listed.setIfInBounds i true).getD (π.getD r 0) false=listed.getD (π.getD r 0) false:=fun r hr hne=>XG fun e=>hne (F.inj r q hr hql (by rw[e,hqi]));have self:(listed.setIfInBounds i true).getD (π.getD q 0) false=true:=by rw[hqi];exact set_self hisz
  have uniqd:∀r or t,r<π.length->r≠q->l[π.getD r 0]?=some or->or.dst=some t->o.dst≠some t:=fun r or t h1 h2 h3 h4 e=>by
   have:=((XP hB hoq).2 _ or t h3 h4).1 e;exact h2 (F.inj q r hql h1 this).symm
  have nobehind:isY la l (π.getD q 0)=false->p<q->False:=fun hna hpq=>by
   obtain⟨s1,s2⟩:=stop (by omega);obtain⟨r,r1,r2,r4,r3⟩:=F.wait q p hql hpq hna s1;rw[hqi]at r3;have hr:=YF hol hedges r3;rcases r4 with e|e
   ·subst e;rw[s2]at hr;cases hr
   ·rw[pre.ahead r r1 (by omega) e]at hr;cases hr
  have goal:(if Region.wanted o (yielded l.toArray a.tmps)=true then o.wp P a w (wpAny P .any l.toArray Q fuel (listed.setIfInBounds i true)) Q else wpAny P .any l.toArray Q fuel (listed.setIfInBounds i true) (a.put o.dst undef) w):=by
   cases hqa:isY la l (π.getD q 0)with
   |true=>
    have hnf:isM P l π m (π.getD q 0)=false:=by
     cases hf:isM P l π m (π.getD q 0)with
     |false=>rfl
     |true=>rw[F.notF _ (F.inr q hql) hf]at hqa;cases hqa
    have hpq:p<=q:=by
     refine Kt fun hlt=>?_;have:=pre.behind q hlt hnf;rw[hqi,hif]at this;cases this
    have hqm:q<m:=by
     refine JP fun h=>?_;rw[(F.tail q h hql).2]at hqa;cases hqa
    have hlay:qbL P wz l S o (lyO ly o):=by
     have hpl:p<π.length:=by omega
     obtain⟨op,hop⟩:∃o,l[π.getD p 0]?=some o:=⟨_,JA (F.inr p hpl)⟩
     have hev:=pre.ev;rw[ZZ F.inr hpl hop,show m-p=(m-(p+1))+1 by omega]at hev;have hyo:qeT la o=true:=(qfw hoq).symm.trans hqa;have hmem:p<q->o∈(Zy l π).drop (p+1):=fun hlt=>by
      have h1:=ZZ F.inr hql hoq;have h2:(Zy l π).drop q=((Zy l π).drop (p+1)).drop (q-(p+1)):=by rw[BP,show p+1+(q-(p+1))=q by omega]
      rw[h2]at h1;exact VF (by rw[h1];exact Jf)
     rcases JC hpq with e|e
     ·subst e
      rw[hoq]at hop;obtain rfl:=Option.some.inj hop;simp only[qbE,hyo,if_true]at hev;exact hev.1
     ·simp only[qbE]at hev
      by_cases h1:qeT la op=true
      ·rw[if_pos h1]at hev
       exact hev.2.1 o (hmem e) hyo
      ·rw[if_neg h1]at hev
       have hk2:¬ZW P op.op=2:=fun h2=>by
        have:=(stop hpl).1;rw[qiI (by omega)]at this;unfold isF at this;rw[hop]at this;simp[h2]at this
       rw[if_neg hk2]at hev;exact hev.1 o (hmem e) hyo
    refine qfr hall (hlay ga) pre.rel (looks (.inr hqa)) fun ψ' x h' v w' e1 e2 e3 ⟨k,k1,k2,k3⟩=>?_;subst k3;have hxk:∀t,o.dst=some t->x=(lyO ly o).2 k:=fun t ht=>by
     have:=congrArg (fun s:Slots=>s.get t) k2;simp only[Xv,ht,if_true]at this;exact this
    have hsub:Sub ga (ga.set k ⟨(lyO ly o).1,0⟩):=Vh k1;have pre':PreY P wz n la ly l π m hZ K (listed.setIfInBounds i true) ψ' (a.put o.dst v) w' p S g (ga.set k ⟨(lyO ly o).1,0⟩):=by
     refine⟨by simp[pre.size],closed',by rw[WZ];exact pre.tsize,by rw[put_defers];exact pre.defers,pre.ple,fun r r1 r2 r3=>?_,fun r r1 r2=>?_,fun hm=>by omega,e2,BL pre.sub hsub,fun hm=>BL (pre.sub0 hm) hsub,pre.ev,fun r oj r1 r2 r3=>?_,fun r oj r1 r2 r3 r4 r5=>?_,fun t=>?_⟩
     ·have hne:r≠q:=fun e=>by subst e;rw[hqa]at r3;cases r3
      rw[other r r2 hne];exact pre.ahead r r1 r2 r3
     ·rw[other r (by have:=pre.ple;omega) (by omega)];exact pre.behind r r1 r2
     ·rw[other r (by have:=pre.ple;omega) (by omega)]at r3
      exact pre.fact r oj r1 r2 r3
     ·by_cases er:r=q
      ·subst er
       rw[hoq]at r3;obtain rfl:=Option.some.inj r3;refine⟨k,(pre.sub0 (by omega)).none k1,Ve _ _ _,fun t ht=>?_⟩;rw[Yg a ht (by rw[pre.tsize];exact hdn t ht),<-hxk t ht];exact e3
      ·rw[other r r2 er]at r5
       obtain⟨k',q2,q3,q4⟩:=pre.early r oj r1 r2 r3 r4 r5;refine⟨k',q2,hsub _ _ q3,fun t ht=>?_⟩;rw[Zo a (uniqd r oj t r2 er r3 ht)];exact Ye e1 _ _ (q4 t ht)
     ·by_cases hod:o.dst=some t
      ·exact .inl ⟨q,o,hql,hoq,hod, .inr ⟨hpq,self⟩⟩
      ·rcases pre.slot t with⟨r,oj,c1,c2,c3,c4⟩|c
       ·have hne:r≠q:=fun e=>by subst e;rw[hoq]at c2;obtain rfl:=Option.some.inj c2;exact hod c3
        exact .inl ⟨r,oj,c1,c2,c3,by rw[other r c1 hne];exact c4⟩
       ·right
        rw[Zo a hod];exact Ye e1 _ _ c
    obtain⟨p',S',g',ga',pre2,stop2⟩:=qkw hall F _ _ _ _ _ rfl pre';exact ih _ _ _ ψ' (J7 hle e1) ⟨p',S',g',ga',pre2,stop2⟩ hcount
   |false=>
    rcases KU q p with hqp|hqp
    ·
     obtain⟨V,v1,v2⟩:=pre.fact q o hqp hoq (by rw[hqi];exact hif);refine v2 Ps w a ga _ Q pre.sub pre.rel (looks (.inl (by omega))) fun v hv=>?_;refine ih _ _ _ Ps hle ⟨p,S,g,ga,⟨by simp[pre.size],closed',by rw[WZ];exact pre.tsize,by rw[put_defers];exact pre.defers,pre.ple,fun r r1 r2 r3=>?_,fun r r1 r2=>?_,fun hm r r1=>?_,pre.rel,pre.sub,pre.sub0,pre.ev,fun r oj r1 r2 r3=>?_,fun r oj r1 r2 r3 r4 r5=>?_,fun t=>?_⟩,fun hp=>?_⟩ hcount
     ·rw[other r r2 (by omega)];exact pre.ahead r r1 r2 r3
     ·by_cases e:r=q
      ·rw[e];exact self
      ·rw[other r (by have:=pre.ple;omega) e];exact pre.behind r r1 r2
     ·by_cases e:r=q
      ·rw[e];exact self
      ·rw[other r (by have:=pre.ple;omega) e];exact pre.past hm r r1
     ·by_cases e:r=q
      ·rw[e,self]at r3;cases r3
      ·rw[other r (by have:=pre.ple;omega) e]at r3
       exact pre.fact r oj r1 r2 r3
     ·rw[other r r2 (by omega)]at r5
      obtain⟨k',q2,q3,q4⟩:=pre.early r oj r1 r2 r3 r4 r5;refine⟨k',q2,q3,fun t ht=>?_⟩;rw[Zo a (uniqd r oj t r2 (by omega) r3 ht)];exact q4 t ht
     ·by_cases hod:o.dst=some t
      ·right
       rw[v1 t hod,Yg a hod (by rw[pre.tsize];exact hdn t hod)];exact hv
      ·rcases pre.slot t with⟨r,oj,c1,c2,c3,c4⟩|c
       ·have hne:r≠q:=fun e=>by subst e;rw[hoq]at c2;obtain rfl:=Option.some.inj c2;exact hod c3
        exact .inl ⟨r,oj,c1,c2,c3,by rw[other r c1 hne];exact c4⟩
       ·right
        rw[Zo a hod];exact c
     ·rw[other p hp (by omega)];exact stop hp
    ·have hqe:q=p:=by
      rcases JC hqp with e|e
      ·exact e.symm
      ·exact(nobehind hqa e).elim
     subst hqe;have all_m:m<=q->∀r,r<q->listed.getD (π.getD r 0) false=true:=fun hm r hr=>by
      rcases JC hm with e|e
      ·subst e
       have key:∀d r,r+d=m->r<m->listed.getD (π.getD r 0) false=true:=by
        intro d;induction d using Jw with
        |ind d ihd=>
         intro r hd hr;obtain⟨r',s1,s2,s3⟩:=F.sink hql r hr;rcases JC s2 with e|e
         ·subst e
          rw[hqi]at s3;exact YF hol hedges s3
         ·have hl:=ihd (m-r') (by omega) r' (by omega) e
          obtain⟨oj,hoj⟩:∃oj,l[π.getD r' 0]?=some oj:=⟨_,JA (F.inr r' (by omega))⟩
          exact YF hoj (pre.closed _ oj hoj hl) s3
       exact key (m-r) r (by omega) hr
      ·exact pre.past e r hr
     have hnf:isM P l π m (π.getD q 0)=false:=(stop hql).1;have hk2:q<m->¬ZW P o.op=2:=fun c h2=>by
      rw[qiI c]at hnf;unfold isF at hnf;rw[hoq]at hnf;simp[h2]at hnf
     obtain⟨gx,K',ha,relx,hnext⟩:∃(gx:AHeap) (K':Slots->AHeap->Prop),QO P wz l [o] S gx K'/\HRel wz Ps gx w/\∀s' h',K' s' h'->(q<m->Sub ga h')/\qbE P wz l la ly hZ (m-(q+1)) ((Zy l π).drop (q+1)) s' h' K:=by
      have hev:=pre.ev;rw[ZZ F.inr hql hoq]at hev;by_cases c:q<m
      ·rw[show m-q=(m-(q+1))+1 by omega]at hev
       simp only[qbE,((qfw hoq).symm.trans hqa),hk2 c,if_false,KW]at hev;exact⟨ga,_,hev.2 ga pre.sub,pre.rel,fun s' h' hx=>⟨fun _=>hx.1,hx.2⟩⟩
      ·rw[show m-q=0 by omega,qmm]at hev
       refine⟨g,_,qlU hev,pre.rel.forget pre.sub,fun s' h' hx=>⟨fun hc=>absurd hc c,?_⟩⟩;rw[show m-(q+1)=0 by omega];cases hdr:(Zy l π).drop (q+1)with
       |nil=>rw[hdr]at hx;rw[qkl];exact hx
       |cons o' r'=>rw[hdr]at hx;exact hx
     refine qfr hall ha relx (looks (.inl (KL _))) fun ψ' x h' v w' e1 e2 e3 hk=>?_;obtain⟨k1,k2⟩:=hnext _ _ hk;have pre':PreY P wz n la ly l π m hZ K (listed.setIfInBounds i true) ψ' (a.put o.dst v) w' (q+1) (putD S o.dst x) h' h':=by
      refine⟨by simp[pre.size],closed',by rw[WZ];exact pre.tsize,by rw[put_defers];exact pre.defers,by omega,fun r r1 r2 r3=>?_,fun r r1 r2=>?_,fun hm r r1=>?_,e2,Vm _,fun hm=>BL (pre.sub0 (by omega)) (k1 (by omega)),k2,fun r oj r1 r2 r3=>?_,fun r oj r1 r2 r3 r4 r5=>?_,fun t=>?_⟩
      ·rw[other r r2 (by omega)];exact pre.ahead r (by omega) r2 r3
      ·by_cases e:r=q
       ·rw[e];exact self
       ·rw[other r (by omega) e];exact pre.behind r (by omega) r2
      ·by_cases e:r=q
       ·rw[e];exact self
       ·rw[other r (by omega) e];exact all_m (by omega) r (by omega)
      ·by_cases e:r=q
       ·rw[e,self]at r3;cases r3
       ·rw[other r (by omega) e]at r3
        have hrq:r<q:=by omega
        obtain⟨V,v1,v2⟩:=pre.fact r oj hrq r2 r3;have hqm:q<m:=by
         refine JP fun hm=>?_;rw[all_m hm r hrq]at r3;cases r3
        refine⟨V,fun t ht=>?_,(v2.sub (BL pre.sub (k1 hqm))).slots fun t ht=>?_⟩
        ·rw[Xv,if_neg (uniqd r oj t (by omega) e r2 ht)];exact v1 t ht
        ·rw[Xv,if_neg fun e'=>by
          have:=(F.data r q oj o t (by omega) hql r2 hoq e' ht).1;omega]
      ·have hrm:r<m:=by
        refine JP fun h=>?_;rw[(F.tail r h r2).2]at r4;cases r4
       rw[other r r2 (by omega)]at r5;obtain⟨k',q2,q3,q4⟩:=pre.early r oj (by omega) r2 r3 r4 r5;refine⟨k',q2,k1 (by omega) _ _ q3,fun t ht=>?_⟩;rw[Zo a (uniqd r oj t r2 (by omega) r3 ht)];exact Ye e1 _ _ (q4 t ht)
      ·by_cases hod:o.dst=some t
       ·right
        rw[Xv,if_pos hod,Yg a hod (by rw[pre.tsize];exact hdn t hod)];exact e3
       ·rcases pre.slot t with⟨r,oj,c1,c2,c3,c4⟩|c
        ·have hne:r≠q:=fun e=>by subst e;rw[hoq]at c2;obtain rfl:=Option.some.inj c2;exact hod c3
         refine .inl ⟨r,oj,c1,c2,c3,?_⟩;rw[other r c1 hne];rcases c4 with⟨c4,c5⟩|⟨c4,c5⟩
         ·exact .inl ⟨by omega,c5⟩
         ·exact .inr ⟨by omega,c5⟩
        ·right
         rw[Xv,if_neg hod,Zo a hod];exact Ye e1 _ _ c
     obtain⟨p',S',g',ga',pre2,stop2⟩:=qkw hall F _ _ _ _ _ rfl pre';exact ih _ _ _ ψ' (J7 hle e1) ⟨p',S',g',ga',pre2,stop2⟩ hcount
  simp only[wpOp,ho];split
  ·rename_i hw
   rw[if_pos hw]at goal;exact .inl goal
  ·rename_i hw
   rw[if_neg hw]at goal;exact goal
theorem qsL{Q:Exit->Slots->AHeap->Prop}{s:Slots}{h:AHeap}{id:Nat}{l:List Oper}(π:List Nat)(ws:List (Option Nat))(m:Nat)(la:List Nat)(ly:Nat->List AVal×(Nat->AVal))(hm:P.follows .mixedOrders=true)(hB:qiL P la l π ws m=true)(hd:Xl n l=true)
 (hc:qbE P wz l la ly h m (Zy l π) s h fun s' h'=>Q .normal s' h'):Awp P wz n (.region id l.toArray true) Q s h:=by
 refine Awp.of0 ?_;intro fi a w hr hs;have F:=qjz hB;refine wp_region_any hm ?_;have hf:∀j,(Jy l.toArray.size false).getD j false=false:=fun j=>by simp[JF]
 have pre:PreY P wz n la ly l π m h (fun s' h'=>Q .normal s' h') (Jy l.toArray.size false) fi a w.drew 0 s h h:=
  ⟨by simp,fun j oj _ hl=>(by rw[hf]at hl;cases hl),hs.size,hs.defers,Jt _,fun q _ _ _=>hf _,fun q h1=>by omega,fun h1=>by omega,hr.drew,Vm _,fun _=>Vm _,by rw[Nat.sub_zero,KQ];exact hc,fun q o h1=>by omega,fun q o _ _ _ _ h5=>(by rw[hf]at h5;cases h5),fun t=> .inr (hs.val t)⟩
 obtain⟨p',S',g',ga',pre2,stop2⟩:=qkw hd F _ _ _ _ _ rfl pre;refine qAp (fi:=fi) hd F (K:=fun s' h'=>Q .normal s' h') (fun Ps S g a' w' hle h1 h2 h3=>⟨Ps,S,g,hle,h1,h2,h3⟩) _ _ _ _ fi fi.le_refl ⟨p',S',g',ga',pre2,stop2⟩ ?_;have:=Va (!·) (Jy l.toArray.size false).toList;simpa using this
theorem qsI{Q:Exit->Slots->AHeap->Prop}{s:Slots}{h:AHeap}{id:Nat}{l:List Oper}{y:Code}(π:List Nat)(ws:List (Option Nat))(m:Nat)(la:List Nat)(ly:Nat->List AVal×(Nat->AVal))(L:List Nat)(hm:P.follows .mixedOrders=true)(hB:qiL P la l π ws m=true)(hd:Xl n l=true)
 (hc:∀K:Slots->AHeap->Prop,(∀s h,Awp P wz n y Q s h->K s h)->qbE P wz l la ly h m (Zy l π) s h fun s' h'=>K (s'.keep L) h'):Awp P wz n (.seq (.region id l.toArray true) y) Q s h:=
 qJ (qsL π ws m la ly hm hB hd (qfR (fun _ _ hk=>Vb L hk) (hc (fun s h=>Awp P wz n y Q s h) (fun _ _ hk=>hk))))
end
end Go.AM
namespace Go.Proofs.YtlhhaagmakhilaaGreatDoor
open Go.AM
open Go.Proofs
open Go.Col (Str FaultC okF sp)
open Go.Tok
open Go.Cop
open Go.RowKit (Below)
set_option maxRecDepth 100000
theorem qoG{P:Program}{wz:World}{ops rest:List Oper}{s:Slots}{h:AHeap}{K:Slots->AHeap->Prop}{dst:Option Tmp}{ty:TypeId}{pos:String}{af:Array Edge}{ts:Array TypeId}{t u e:TypeId}{d:TypeDesc}{x y:Operand}{v v':AVal}{es by':Nat}{z:Value}{xs ys:List (List AVal)}
 (h0:ts[0]?=some t) (h1:ts[1]?=some u) (ht:P.underlying t=some (.slice e)) (hu:P.underlying u=some d) (hd:∀k,d≠ .int k)
 (hs:Yz P e=some es) (hb:qgz P e=some by') (hz:Uk P e=some z) (hzs:z.cells.size=es) (hes:es≠0)
 (hx:ev s x=Yp v) (hv:IsL wz h es v xs) (hy:ev s y=v') (hv':IsL wz h es v' ys)
 (hl:(xs.length+ys.length)*by'<=140737488355328) (hl':xs.length+ys.length<4611686018427387904)
 (hk:∀r h',Sub h h'->IsL wz h' es r (xs++ys)->QO P wz ops rest (putD s dst r) h' K):
 QO P wz ops (⟨dst, .call ⟨.builtin .append,[x,y].toArray,ts⟩,ty,pos,af,none⟩::rest) s h K:=by
 obtain⟨s1,s2,s3⟩:=hv'.src;have hw:∀x∈xs++ys,x.length=es:=fun x hx=>by
  rcases JJ.1 hx with h|h
  ·exact hv.wide x h
  ·exact hv'.wide x h
 have hal:AM.allLive (xs++ys).flatten=true:=by rw[Eu,qbc,hv.allLive,hv'.allLive];rfl
 have key:∀k,h k=none->QO P wz ops rest (putD s dst (.slice (.own k) 0 (xs.length+ys.length) (.grow es))) (h.set k ⟨xs.flatten++ys.flatten,0⟩) K:=fun k hk0=>by
  have:=hk (.slice (.own k) 0 (xs.length+ys.length) (.grow es)) (h.set k ⟨(xs++ys).flatten,0⟩) (Vh hk0) (by rw[<-Jc];exact Ba (Ve _ _ _) hw rfl hal (.grow es) rfl)
  rwa [Eu]at this
 have none:ys.length=0->QO P wz ops rest (putD s dst (Yp v)) h K:=fun e0=>by
  refine hk (Yp v) h (Vm _) ?_;rw[Kg e0,Bg];exact hv.clip
 rw[qbZ];simp only[eop,evs,Ke,Vk,hx,hy,qgo,h0,h1,ht,hu,hs,hb,hz,s1];refine⟨hd,⟨hes,hzs⟩,s2,?_⟩;cases hv with
 |nil=>
  simp only[Yp]at none|-
  simp only[J9,Js,List.flatten_nil,Je]at hl hl' key;exact⟨none,fun _=>⟨⟨hl,hl'⟩,fun k hk0 _=>by rw[s3];exact key k hk0⟩⟩
 |mk lc o n c xs hn hw hc hl2 hcap=>
  subst hn;simp only[Yp]at none|-
  refine⟨fun h1=> .inl ⟨by omega,none (by omega)⟩,fun _=>⟨⟨by rw[hc];exact hl2,hl,hl'⟩,fun k hk0 _=>?_⟩⟩;rw[hc,s3];exact key k hk0
theorem qtV{r:List RepC}(hr:∀x∈r,x.old≠[]){l:List TokC}(hi:0<l.length)(hn:∀x∈r,Yb l x.old=false):WL r l=l.getD 0 noT::WL r (l.drop 1):=by
 have h:=qgb hr (l:=l) (i:=0) hi;rw[KQ]at h;rw[h,EL.2 (fun x hx=>by rw[hn x hx];decide)]
theorem qvM{r:List RepC}(hr:∀x∈r,x.old≠[]){l:List TokC}{i:Nat}(h0:0<l.length)(hi:i<r.length)(hf:Yb l (r.getD i ⟨[],[]⟩).old=true)(hn:∀j,j<i->Yb l (r.getD j ⟨[],[]⟩).old=false):WL r l=(r.getD i ⟨[],[]⟩).new++WL r (l.drop (r.getD i ⟨[],[]⟩).old.length):=by
 have h:=qgb hr (l:=l) (i:=0) h0;rw[KQ]at h;have hfind:r.find? (fun x=>Yb l x.old)=some (r.getD i ⟨[],[]⟩):=by
  rw[EM];refine⟨hf,i,hi,by rw[Ko,JA hi];rfl,fun j hj=>?_⟩;have:=hn j hj;rw[Ko,JA (by omega)]at this;simpa using this
 rw[h,hfind];simp only[Js]
theorem qwM{l o:List TokC}(h:Yb l o=true):o.length<=l.length:=by
 unfold Yb at h;rw[Ky,decide_eq_true_eq]at h;exact h.1
theorem qtU{qs:List RepQ}{i:Nat}(hi:i<qs.length):(qs.map (·.1)).getD i ⟨[],[]⟩=(qs.getD i qjc).1:=by
 rw[Ko,Ej,JA hi,Ko,JA hi];rfl
set_option maxHeartbeats 4000000 in
theorem qsp(wz:World)(n:Nat)(rs:List RepC)(hr:∀x∈rs,x.old≠[])(hrl:rs.length<=1000000)(ih:∀(h:AHeap) (v rv:AVal) (l:List TokC),l.length<n->l.length<=1000000->(WL rs l).length<=1000000000->IsL wz h 5 v (l.map QI)->IsReps wz h rv rs->
 ACall Tryz.prog wz 17 [v,rv] h (fun r h'=>IsL wz h' 5 r ((WL rs l).map QI)/\Sub h h'))
 (h:AHeap) (v rv:AVal) (l:List TokC) (hn:l.length=n) (hl:l.length<=1000000) (hR:(WL rs l).length<=1000000000) (hv:IsL wz h 5 v (l.map QI)) (hrv:IsReps wz h rv rs):
 ACall Tryz.prog wz 17 [v,rv] h (fun r h'=>IsL wz h' 5 r ((WL rs l).map QI)/\Sub h h'):=by
 have hlv:=hv.live;have nv:=Zc hv;have hrv0:=hrv;obtain⟨qs,hq0,hq1,hq2⟩:=hrv0;have hrvl:=hq1.live;have nr:=qnG hq1;have hqm:rs.length=qs.length:=by rw[hq0,Jp]
 have hcl:(AVal.bool true).live=true:=rfl;refine qU (n:=48) (rs:=[.tmp 4]) Tryz.func17 rfl rfl rfl rfl (VN rfl) ?_;simp only[Qg];refine awp_rseq [0,1] (by rfl) fun K hK=>?_;simp+decide only[qa,ev,qH,qG,putD,VO,VP,Ka,Kb,↓qd,qb,Js];apply hK;clear hK K;refine qJ ?_;refine awp_rseq [0,1,8] (by rfl) fun K hK=>?_;simp+decide only[qa,ev,qH,qG,putD,VO,VQ,VP,Ka,Kb,↓qg,qc,↓Xe,Qw,↓qw,qm,qA,cond_false,qo,Za,nv];apply hK;clear hK K;refine qI (b:=_) rfl (fun hb1=>?_) (fun hb1=>?_)
 ·try simp only[decide_eq_true_eq]at hb1
  refine awp_rseq [4] (by rfl) fun K hK=>?_;simp+decide only[qa,ev,qH,qG,putD,VO,VP,Ka,Kb,↓qd,qb];apply hK;clear hK K;refine qL ?_;try simp only[Qe]
  refine Qb h zqC (qN (Qc)) ?_;simp+decide only[VQ,if_true,Qs];have:l=[]:=Kg (by omega);subst this;exact⟨.nil,Vm _⟩
 ·try simp only[decide_eq_false_iff_not]at hb1
  have h0:0<l.length:=by omega
  obtain⟨lc,o,c,rfl⟩:=YD hv h0;refine qP ?_;change Awp _ _ _ _ _ _ _;refine qJ ?_;refine awp_rseq [0,1,5] (by rfl) fun K hK=>?_;simp+decide only[qa,ev,qH,qG,putD,VO,VP,Ka,Kb,↓qd,qb];apply hK;clear hK K;refine Qm ?_;refine XC [0,1,5] (fun i:Nat=>[(0, .slice lc o l.length c),(1,rv),(5, .int .i64 i)]) (fun i:Nat=>h) (fun i:Nat=>i<=qs.length/\∀j,j<i->Yb l (rs.getD j ⟨[],[]⟩).old=false) (fun i:Nat=>qs.length-i) 0 (by rfl) (Vm _) ⟨Jt _,fun j hj=>absurd hj (EN _)⟩ ?_;rintro i ⟨hi,hnf⟩;refine qJ ?_;refine awp_rseq [0,1,5,12] (by rfl) fun K hK=>?_;simp+decide only[qa,ev,putD,VO,VQ,VP,Ka,Kb,↓qg,qc,↓Xe,Qw,↓qw,qm,qR,cond_false,qo,XZ,nr];apply hK;clear hK K;refine qI (b:=_) rfl (fun hb2=>?_) (fun hb2=>?_)
  ·try simp only[decide_eq_true_eq]at hb2
   have hi':i<qs.length:=by omega
   obtain⟨lr,or,cr,hre⟩:=qkE hq1 (by omega);have hq1':=hq1;rw[hre]at hq1';obtain⟨a0,a1⟩:=qnH hq1' hi';obtain⟨q,hq⟩:∃q,q=qs.getD i qjc:=⟨_,rfl⟩
   rw[<-hq]at a0 a1;have hqm':q∈qs:=by rw[hq];exact qaZ qjc hi'
   have hrq:rs.getD i ⟨[],[]⟩=q.1:=by rw[hq0,hq];exact qtU hi'
   have hqr:q.1∈rs:=by rw[hq0];exact EO hqm'
   obtain⟨ho,hw⟩:=hq2 q hqm';have hol:=ho.live;have hwl:=hw.live;have non:=Zc ho;refine qP ?_;change Awp _ _ _ _ _ _ _;refine qJ ?_;refine Qm ?_;refine awp_rseq [0,1,5,21] (by rfl) fun K hK=>?_;simp+decide only[ev,putD,VO,VQ,Ka,Kb,↓qg,qc,↓QE,qY,qW Tryz.underlying43 qea,↓qB,ql,qiO,↓qF,qz qaw,hre,a0,hol,Vr,K7];repeat (with_reducible refine And.intro ?_ ?_;· first|trivial|omega|(intro hg;simp only[Ky,JW,Jj,VS,VT,VU,decide_eq_true_eq,decide_eq_false_iff_not,XY]at hg;omega))
   refine qO (V:= .bool (Yb l q.1.old)) (by rfl) (by rfl) (qyH wz _ _ q.2.1 l q.1.old hv ho (by omega)) ?_;simp+decide only[qa,putD,VO,VP,Ka];apply hK;clear hK K;refine qI (b:=_) rfl (fun hb3=>?_) (fun hb3=>?_)
   ·skip
    have hx:=qvM hr h0 (by omega) (by rw[hrq];exact hb3) hnf;rw[hrq]at hx;have hol2:=qwM hb3;have ho1:0<q.1.old.length:=List.length_pos_iff.2 (hr _ hqr);have hxl:=congrArg BR hx;rw[Jc]at hxl;have hsl:=hv.slice Tryz.underlying26 Xb (some (.int .i64 (q.1.old.length:Int))) none (l:=(q.1.old.length:Int)) (r:=(l.length:Int)) rfl (by rw[Jp];rfl) (by omega) (by omega) (by rw[Jp];exact Int.le_refl _);have htail:IsL wz h 5 (qhs 5 (.slice lc o l.length c) q.1.old.length l.length) ((l.drop q.1.old.length).map QI):=by
     have:=hv.sub (i:=q.1.old.length) (j:=l.length) hol2 (by rw[Jp];exact KL _)
     rwa [<-El,Jr (by rw[Jp,K6];exact KL _)]at this
    refine qsJ [0,1,2,3,4,6,7,8,9,10,11,12,13,14,5,15,16,17] [false,false,false,false,false,false,false,false,false,false,false,false,false,false,false,false,false,false] [none,none,none,none,none,none,none,none,none,none,none,none,none,none,none,some 14,some 15,some 16] 16 [4] mixed (by kernel_rfl) (by rfl) fun K hK=>?_;simp only[Zy,VK,Ep,Kz,KM];simp+decide only[qa,ev,putD,VO,VQ,Ka,Kb,qmR,qiH,Yt,↓qg,qc,↓QE,qY,qW Tryz.underlying43 qea,↓qB,ql,qwV,↓qF,qz qaw,qiO,↓Xe,Qw,↓Wp,ZG,evO,a0,a1,hol,hwl,non,hsl,Vr,K7];repeat (with_reducible refine And.intro ?_ ?_;· first|trivial|omega|(intro hg;simp only[Ky,JW,Jj,VS,VT,VU,decide_eq_true_eq,decide_eq_false_iff_not,XY]at hg;omega))
    refine Xt (es:=5) (zs:=[]) (xs:=q.1.new.map QI) (hZ:=h) (b:=none) (by rfl) (by rfl) Tryz.underlying26 Tryz.underlying26 (fun k e=>by cases e) Xb qha qat (by rfl) (by decide) (by rfl) trivial rfl (fun x hx=>by cases hx) (Vm _) (by rfl) hw (qdZ _) (by simp only[J9,Jp];omega) (by simp only[J9,Jp];omega) fun tb h7 o1 o2 o3=>?_;have hs7:Sub h h7:=(BJ o1).trans o3;rw[qa];refine And.intro (by first|exact Vm _|assumption|exact Vh (by assumption)) ?_;simp+decide only[putD,VO,Ka];refine QU (by rfl) (by rfl) (ih h7 (qhs 5 (.slice lc o l.length c) q.1.old.length l.length) _ (l.drop q.1.old.length) (by rw[K6];omega) (by rw[K6];omega) (by omega) (htail.mono hs7) (by rw[<-hre];exact hrv.mono hs7)) fun x7q15 h7q15 hx7q15=>?_;obtain⟨hres,hs15⟩:=hx7q15;have hb7:=QP 5 tb;rw[qa];refine And.intro (by first|exact Vm _|assumption|exact Vh (by assumption)) ?_;simp+decide only[putD,VO,if_false];refine Xt (es:=5) (zs:=q.1.new.map QI) (xs:=(WL rs (l.drop q.1.old.length)).map QI) (hZ:=h) (b:=tb) (by rfl) (by rfl) Tryz.underlying26 Tryz.underlying26 (fun k e=>by cases e) Xb qha qat (by rfl) (by decide) (by rfl) o1 (by rw[o2];simp) Xn (o3.trans hs15) (by rfl) hres (qdZ _) (by simp only[Jp];omega) (by simp only[Jp];omega) fun tb2 h16 p1 p2 p3=>?_;have hb16:=QP 5 tb2;simp+decide only[qa,ev,putD,VO,VQ,VP,Ka,Kb,↓qd,qb];apply hK;clear hK K;refine qL ?_;try simp only[Qe,Qp]
    refine QD (qN (Qc)) ?_;simp+decide only[VQ,if_true,Qs];exact⟨Ql h tb2,p3,by rw[hx];exact BH p1 (by decide) (by rw[p2,Bd]) Xn (Vm _),BJ p1⟩
   ·skip
    refine qP ?_;change Awp _ _ _ _ _ _ _;refine XW [0,1,5] (by rfl) ?_;simp+decide only[qa,ev,qH,qG,putD,VO,VQ,VP,Ka,Kb,↓qg,qc,↓qw,qm,qA,cond_false,qo,Xa,↓qd,qb];try simp(disch:=omega)only[wrap_i64]
    try simp only[Qj]
    exact⟨i+1,by rw[hre];rfl,Vm _,⟨hi',fun j hj=>by
     rcases KU j i with z|z
     ·exact hnf j z
     ·rw[show j=i by omega,hrq];simpa using hb3⟩,by omega⟩
  ·try simp only[decide_eq_false_iff_not]at hb2
   have hall:∀x∈rs,Yb l x.old=false:=by
    intro x hx;obtain⟨j,hj,rfl⟩:=BO hx;have:=hnf j (by omega)
    rwa [Ko,JA hj]at this
   have hx:=qtV hr h0 hall;have hxl:=congrArg BR hx;rw[KY]at hxl;have hsl1:=hv.slice Tryz.underlying26 Xb (some (.int .i64 1)) none (l:=1) (r:=(l.length:Int)) rfl (by rw[Jp];rfl) (by omega) (by omega) (by rw[Jp];exact Int.le_refl _);have htail:IsL wz h 5 (qhs 5 (.slice lc o l.length c) 1 l.length) ((l.drop 1).map QI):=by
    have:=hv.sub (i:=1) (j:=l.length) (by omega) (by rw[Jp];exact KL _)
    rwa [<-El,Jr (by rw[Jp,K6];exact KL _)]at this
   obtain⟨t,ht⟩:∃t,t=l.getD 0 Zi:=⟨_,rfl⟩
   obtain⟨e0,e1,e2,e3,e4⟩:=YP hv h0;rw[<-ht]at e0 e1 e2 e3 e4;rw[Ue l noT Zi h0,<-ht]at hx;rw[K8,K7]at e0 e1 e2 e3 e4;have e2':rd wz h lc (o+1+1)= .int .i64 t.line:=e2;have e3':rd wz h lc (o+1+1+1)= .int .i64 t.col:=e3;have e4':rd wz h lc (o+1+1+1+1)= .bool t.left:=e4;refine XE ?_;change Awp _ _ _ _ _ _ _;refine qsI [0,1,2,4,5,6,7,3,8,9] [none,none,none,none,none,none,none,none,some 6,some 8] 8 [42] (fun _=>(QI t,fun k=> .slice (.own k) 0 1 (.exact 1))) [4] mixed (by kernel_rfl) (by rfl) fun K hK=>?_;simp only[Zy,VK,Ep,Kz,KM];refine qck (by rfl) (by kernel_rfl) ?_;try simp+decide only[qa,ev,putD,VO,VQ,Ka,Kb,Yt,↓qg,qc]
   refine qck (by rfl) (by kernel_rfl) ?_;try simp+decide only[qa,ev,qH,qG,putD,VO,VQ,Ka,Kb,Yt,↓QE,qY,qW Tryz.underlying26 Xb,K8,K7,Int.toNat_zero]
   repeat (with_reducible refine And.intro ?_ ?_;· first|trivial|omega|(intro hg;simp only[Ky,JW,Jj,VS,VT,VU,decide_eq_true_eq,decide_eq_false_iff_not,XY]at hg;omega))
   refine qck (by rfl) (by kernel_rfl) ?_;try simp+decide only[qa,ev,putD,VO,VQ,Ka,Kb,Yt,↓qF,qY,qh ZB Xb,qf,qD,qi,qE,allLive,JU,e0,e1,e2',e3',e4']
   refine qck (by rfl) (by kernel_rfl) ?_;try simp+decide only[qa,ev,putD,VO,VQ,Ka,Kb,Yt,↓qg,qc]
   refine qck (by rfl) (by kernel_rfl) ?_;try simp+decide only[qa,ev,qH,qG,putD,VO,VQ,Ka,Kb,Yt,↓Wp,ZG,evO,hsl1]
   refine qck (by rfl) (by kernel_rfl) ?_;try simp+decide only[qa,ev,putD,VO,VQ,Ka,Kb,Yt,↓qg,qc]
   refine qtK (by rfl) (qbp (by unfold qbL lyO;intro g;refine Qr (cs:=QI t) (by kernel_rfl) fun k hk=>?_;rw[qa];exact⟨k,hk,rfl,rfl⟩) (Xo (by rfl) (Xo (by rfl) qab))) fun g8q7 hg8q7=>?_;have hs_g8q7:Sub h g8q7:=BL zqC hg8q7;have hr_g8q7:=hs_g8q7;refine QU (by rfl) (by rfl) (ih g8q7 _ _ (l.drop 1) (by rw[K6];omega) (by rw[K6];omega) (by omega) (htail.mono (by assumption)) (hrv.mono (by assumption))) fun x8q7 h8q7 hx8q7=>?_;obtain⟨hres,hs8⟩:=hx8q7;have hs_h8q7:Sub h h8q7:=BL zqC hs8;have hr_h8q7:Sub g8q7 h8q7:=BL zqC hs8;rw[qa];refine And.intro (by first|exact Vm _|assumption|exact Vh (by assumption)) ?_;try simp+decide only[putD,VO,if_false]
   refine qvB (by rfl) (by unfold qbL lyO;intro g;refine Qr (cs:=QI t) (by kernel_rfl) fun k hk=>?_;rw[qa];exact⟨k,hk,rfl,rfl⟩) (Xo (by rfl) (Xo (by rfl) qab)) fun k8q3 g8q3 hz8q3 hg8q3 ez8q3=>?_;have eb_8q3:g8q3 k8q3=some ⟨QI t,0⟩:=ez8q3;clear ez8q3;simp only[lyO];have hf_8q3:h k8q3=none:=Bi zqC hz8q3;have hs_g8q3:Sub h g8q3:=BL zqC hg8q3;have hr_g8q3:Sub h8q7 g8q3:=BL zqC hg8q3;try simp+decide only[putD,VO,Ka,qmm]
   refine qoG (es:=5) (v:= .slice (.own k8q3) 0 1 (.exact 1)) (xs:=[t].map QI) (ys:=(WL rs (l.drop 1)).map QI) (by rfl) (by rfl) Tryz.underlying26 Tryz.underlying26 (fun k e=>by cases e) Xb qha qat (by rfl) (by decide) (by rfl) (Ba (xs:=[t].map QI) eb_8q3 (Xn (l:=[t])) (by rfl) (WJ _) (.exact 1) (KL _)) (by rfl) (hres.mono (by assumption)) (by simp only[Jp,KY,J9];omega) (by simp only[Jp,KY,J9];omega) fun rr h8 p1 p2=>?_;have hrl:=p2.live;try simp+decide only[qa,ev,putD,VO,VQ,VP,Ka,Kb,↓qd,qb]
   apply hK;clear hK K;refine qL ?_;refine QD (qN (Qc)) ?_;simp+decide only[VQ,if_true,Qs];exact⟨h8,Vm _,by rw[hx];exact p2,hs_g8q3.trans p1⟩
theorem qpS(wz:World)(rs:List RepC)(hr:∀x∈rs,x.old≠[])(hrl:rs.length<=1000000):∀(n:Nat) (h:AHeap) (v rv:AVal) (l:List TokC),l.length=n->l.length<=1000000->(WL rs l).length<=1000000000->IsL wz h 5 v (l.map QI)->IsReps wz h rv rs->
 ACall Tryz.prog wz 17 [v,rv] h (fun r h'=>IsL wz h' 5 r ((WL rs l).map QI)/\Sub h h'):=fun n=>
 Jw n fun n ih h v rv l hn hl hR hv hrv=>qsp wz n rs hr hrl (fun h v rv l' h1 h2 h3 h4 h5=>ih _ h1 h v rv l' rfl h2 h3 h4 h5) h v rv l hn hl hR hv hrv
theorem qcH(k n:UInt8):decide ((k.toNat:Int)=(n.toNat:Nat))=decide (k=n):=decide_eq_decide.2 ⟨fun q=>BN.1 (by omega),fun q=>by rw[q]⟩
theorem qAL(j n:Nat):(j<n/\decide ((j:Int)<(n:Int))=true)\/(¬j<n/\decide ((j:Int)<(n:Int))=false):=by
 by_cases q:j<n
 ·exact .inl ⟨q,decide_eq_true (by omega)⟩
 ·exact .inr ⟨q,decide_eq_false (by omega)⟩
theorem qso(wz:World)(h:AHeap)(v:AVal)(l:List TokC)(i:Nat)(s:Str)(hv:IsL wz h 5 v (l.map QI))(hl:l.length<=1099511627776)(hi:i<l.length):
 ACall Tryz.prog wz 28 [v, .int .i64 i, .str s] h (fun r h'=>r= .bool (XH l i s)/\h'=h):=by
 have hlv:=hv.live;have nv:=Zc hv;obtain⟨lc,o,c,rfl⟩:=YD hv (by omega);obtain⟨e0,e1,-,-,-⟩:=YP hv hi;have hd:decide ((i:Int)<(l.length:Int))=true:=decide_eq_true (by omega);have hw:XH l i s=(decide (((l.getD i Zi).kind.toNat:Int)=1) && decide ((l.getD i Zi).text=s)):=by
  unfold XH Xc;rw[decide_eq_true hi,Vg,show((1:Int))=((1:UInt8).toNat:Nat)from rfl,qcH,Ue l noT Zi hi];simp
 rw[hw];refine qU (n:=28) (rs:=[.tmp 6]) Tryz.func28 rfl rfl rfl rfl (VN rfl) ?_;simp only[Qg];refine awp_rseq [0,1,2] (by rfl) fun K hK=>?_;simp+decide only[qa,ev,qH,qG,putD,VO,VP,Ka,Kb,↓qd,qb,Js,Nat.reduceAdd];apply hK;clear hK K;refine awp_rseq [6] (by rfl) fun K hK=>?_;simp+decide only[qa,ev,qH,qG,putD,VO,VQ,VP,Ka,Kb,↓qg,qc,↓Xe,Qw,Zh Tryz.underlying26,↓qw,qm,qR,cond_false,qo,XZ,↓Xf,agP,Qv,qM,qK,qC,implies_true,Qy,forall_const,Vg,↓Zf,XT,YY,qoB,qoA,qW Tryz.underlying26 Xb,↓Xj,ql,qbW,ZH,ZI,↓Zn,qeE,qz qjd,↓Xd,qA,Zv,qbB,Zw,qbC,Za,↓QW,Qz,Qk,Xp,Xy,Uu,qz ag9,Zj,qep,↓qd,qb,qi,qE,hd,e0,e1,Vr,K7];repeat (with_reducible refine And.intro ?_ ?_;· first|trivial|omega|(intro hg;simp only[Ky,JW,Jj,VS,VT,VU,decide_eq_true_eq,decide_eq_false_iff_not,XY]at hg;omega))
 apply hK;clear hK K;refine qL ?_;refine Qb h zqC (qN (Qc)) ?_;simp+decide only[VQ,if_true,and_true,Qs];all_goals first|rfl|exact⟨rfl,rfl⟩|(simp+decide only[Ka, *];done)|(trace_state;fail)
theorem qpP(wz:World)(h:AHeap)(v:AVal)(l:List TokC)(i:Nat)(s:Str)(hv:IsL wz h 5 v (l.map QI))(hi:¬i<l.length):
 ACall Tryz.prog wz 28 [v, .int .i64 i, .str s] h (fun r h'=>r= .bool (XH l i s)/\h'=h):=by
 have hlv:=hv.live;have nv:=Zc hv;have hd:decide ((i:Int)<(l.length:Int))=false:=decide_eq_false (by omega);have hw:XH l i s=false:=by unfold XH Xc;rw[decide_eq_false hi,V4,V4]
 rw[hw];refine qU (n:=28) (rs:=[.tmp 6]) Tryz.func28 rfl rfl rfl rfl (VN rfl) ?_;simp only[Qg];refine awp_rseq [0,1,2] (by rfl) fun K hK=>?_;simp+decide only[qa,ev,qH,qG,putD,VO,VP,Ka,Kb,↓qd,qb,Js,Nat.reduceAdd];apply hK;clear hK K;refine awp_rseq [6] (by rfl) fun K hK=>?_;simp+decide only[qa,ev,qH,qG,putD,VO,VQ,VP,Ka,Kb,↓qg,qc,↓Xe,Qw,↓qw,qm,qR,cond_false,qo,XZ,↓Xf,agP,Qv,qM,qK,qC,implies_true,Zr,false_implies,UU,qdS,↓Zf,XT,↓Xj,ql,↓Zn,↓Xd,qA,↓QW,Qz,Qk,↓qd,qb,nv,hd];apply hK;clear hK K;refine qL ?_;refine Qb h zqC (qN (Qc)) ?_;simp+decide only[VQ,if_true,and_true,Qs];all_goals first|rfl|exact⟨rfl,rfl⟩|(simp+decide only[Ka, *];done)|(trace_state;fail)
theorem qlt(wz:World)(h:AHeap)(v:AVal)(l:List TokC)(i:Nat)(s:Str)(hv:IsL wz h 5 v (l.map QI))(hl:l.length<=1099511627776):
 ACall Tryz.prog wz 28 [v, .int .i64 i, .str s] h (fun r h'=>r= .bool (XH l i s)/\h'=h):=by
 by_cases hi:i<l.length
 ·exact qso wz h v l i s hv hl hi
 ·exact qpP wz h v l i s hv hi
theorem qrU{l:List TokC}{i:Nat}(hi:i<l.length):Xc l i [1,2,3]=((decide (((l.getD i Zi).kind.toNat:Int)=1)||decide (((l.getD i Zi).kind.toNat:Int)=2))||decide (((l.getD i Zi).kind.toNat:Int)=3)):=by
 unfold Xc;rw[decide_eq_true hi,Vg,show((1:Int))=((1:UInt8).toNat:Nat)from rfl,qcH,show((2:Int))=((2:UInt8).toNat:Nat)from rfl,qcH,show((3:Int))=((3:UInt8).toNat:Nat)from rfl,qcH,Ue l noT Zi hi];simp[Bool.or_assoc]
set_option maxHeartbeats 1000000 in
theorem qjG(wz:World)(h:AHeap)(v:AVal)(l:List TokC)(i:Nat)(hv:IsL wz h 5 v (l.map QI))(hl:l.length<=1099511627776)(hi:i<=l.length):
 ACall Tryz.prog wz 46 [v, .int .i64 i] h (fun r h'=>r= .tuple [qdB v (Qd l i true), .int .i64 (if (Qd l i true).ok=true then(Qd l i true).at_ else-1), .int .i64 (if (Qd l i true).ok=true then 0 else(Qd l i true).at_)]/\h'=h):=by
 have hlv:=hv.live;have nv:=Zc hv;obtain⟨O,ho⟩:∃O,O=Qd l i true:=⟨_,rfl⟩
 rw[<-ho];unfold Qd at ho;refine qU (n:=77) (rs:=[.tmp 4, .tmp 5, .tmp 6]) Tryz.func46 rfl rfl rfl rfl (VN rfl) ?_;simp only[Qg];refine awp_rseq [0,1] (by rfl) fun K hK=>?_;simp+decide only[qa,ev,qH,qG,putD,VO,VP,Ka,Kb,↓qd,qb,Js];apply hK;clear hK K;refine qJ ?_;refine awp_rseq [0,1,11] (by rfl) fun K hK=>?_;simp+decide only[qa,ev,putD,VO,VQ,VP,Ka,Kb,↓qg,qc,↓Xe,Qw,↓qw,qm,qR,cond_false,qo,Ua,nv];apply hK;clear hK K;refine qI (b:=_) rfl (fun hb1=>?_) (fun hb1=>?_)
 ·try simp only[decide_eq_true_eq]at hb1
  refine awp_rseq [4,5,6] (by rfl) fun K hK=>?_;simp+decide only[qa,ev,qH,qG,putD,VO,VQ,VP,Ka,Kb,↓qg,qc,↓qd,qb];apply hK;clear hK K;refine qL ?_;try simp only[Qe]
  refine Qb h zqC (qN (qN (qN (Qc)))) ?_;simp+decide only[VQ,Ka,and_true,qbF];have hki:∀ks,Xc l i ks=false:=fun ks=>by unfold Xc;rw[decide_eq_false (by omega),V4]
  rw[if_neg (by rw[hki];decide),if_pos (hki _)]at ho;rw[ho];rfl
 ·try simp only[decide_eq_false_iff_not]at hb1
  have hlt:i<l.length:=by omega
  obtain⟨lc,o,c,rfl⟩:=YD hv (by omega);obtain⟨e0,-,-,-,-⟩:=YP hv hlt;have hk3:=qrU hlt;have hk7:=qgO hlt;have hsl:=hv.slice Tryz.underlying26 Xb (some (.int .i64 i)) (some (.int .i64 ((i:Int)+1))) (l:=i) (r:=(i:Int)+1) rfl rfl (by omega) (by omega) (by rw[Jp];omega);refine qP ?_;change Awp _ _ _ _ _ _ _;refine qJ ?_;refine awp_rseq [0,1,34] (by rfl) fun K hK=>?_;simp+decide only[qa,ev,qH,qG,putD,VO,VQ,VP,Ka,Kb,↓qg,qc,↓QE,qY,qW Tryz.underlying26 Xb,↓qB,ql,qbW,↓qF,qz qjd,↓qw,qm,qA,cond_false,qo,Za,↓Xf,agP,Qv,qM,qK,Qh,implies_true,↓Zf,XT,YY,qAB,qAz,↓Xj,ZH,ZI,↓Zn,qdg,↓Xd,Zv,Zw,↓QW,Qz,Qk,ZA,ZO,qi,e0,Vr,K7];repeat (with_reducible refine And.intro ?_ ?_;· first|trivial|omega|(intro hg;simp only[Ky,JW,Jj,VS,VT,VU,decide_eq_true_eq,decide_eq_false_iff_not,XY]at hg;omega))
  apply hK;clear hK K;refine qI (b:=_) rfl (fun hb2=>?_) (fun hb2=>?_)
  ·try simp only[decide_eq_true_eq,JW]at hb2
   refine awp_rseq [4,5,6] (by rfl) fun K hK=>?_;simp+decide only[ev,qH,qG,putD,VO,VQ,Ka,Kb,↓qg,qc,↓qw,qm,qA,cond_false,qo,Xa];try simp(disch:=omega)only[wrap_i64]
   try simp+decide only[qa,ev,qH,qG,putD,VO,VQ,VP,Ka,Kb,↓Wp,ZG,evO,↓qg,qc,↓qw,qm,qA,cond_false,qo,Xa,↓qd,qb,Vr,hsl]
   try simp(disch:=omega)only[wrap_i64]
   apply hK;clear hK K;refine qL ?_;try simp only[Qe]
   refine Qb h zqC (qN (qN (qN (Qc)))) ?_;simp+decide only[VQ,Ka,and_true,qbF];rw[if_pos (by rw[hk3];simpa using hb2)]at ho;rw[ho];rfl
  ·try simp only[decide_eq_false_iff_not,VT]at hb2
   rw[if_neg (by rw[hk3];simpa using hb2)]at ho;refine qP ?_;change Awp _ _ _ _ _ _ _;refine qJ ?_;refine awp_rseq [0,1,47] (by rfl) fun K hK=>?_;simp+decide only[qa,ev,qH,qG,putD,VO,VQ,VP,Ka,Kb,↓qg,qc,↓QE,qY,qW Tryz.underlying26 Xb,↓qB,ql,qbW,↓qF,qz qjd,↓qw,qm,qA,cond_false,qo,Un,qi,e0,Vr,K7];repeat (with_reducible refine And.intro ?_ ?_;· first|trivial|omega|(intro hg;simp only[Ky,JW,Jj,VS,VT,VU,decide_eq_true_eq,decide_eq_false_iff_not,XY]at hg;omega))
   apply hK;clear hK K;refine qI (b:=_) rfl (fun hb3=>?_) (fun hb3=>?_)
   ·try simp only[decide_eq_false_iff_not,Jj]at hb3
    refine awp_rseq [4,5,6] (by rfl) fun K hK=>?_;simp+decide only[qa,ev,qH,qG,putD,VO,VQ,VP,Ka,Kb,↓qg,qc,↓qd,qb];apply hK;clear hK K;refine qL ?_;try simp only[Qe]
    refine Qb h zqC (qN (qN (qN (Qc)))) ?_;simp+decide only[VQ,Ka,and_true,qbF];rw[if_pos (by rw[hk7];refine decide_eq_false fun q=>hb3 ?_;rw[Ue l Zi noT hlt,q];rfl)]at ho;rw[ho];rfl
   ·try simp only[decide_eq_true_eq,VU]at hb3
    rw[if_neg (by rw[hk7];intro q;have q:=of_decide_eq_false q;apply q;rw[Ue l noT Zi hlt];exact BN.1 (by have:(7:UInt8).toNat=7:=rfl;omega))]at ho;refine qP ?_;change Awp _ _ _ _ _ _ _;refine awp_rseq [0,1,7] (by rfl) fun K hK=>?_;simp+decide only[qa,ev,qH,qG,putD,VO,VQ,VP,Ka,Kb,↓qg,qc,↓qw,qm,qA,cond_false,qo,Xa,↓qd,qb];try simp(disch:=omega)only[wrap_i64]
    apply hK;clear hK K;refine qJ ?_;refine Qm ?_;refine XC [0,1,7] (fun j:Nat=>[(0, .slice lc o l.length c),(1, .int .i64 i),(7, .int .i64 j)]) (fun j:Nat=>h) (fun j:Nat=>i+1<=j/\j<=l.length/\Xh l j=Xh l (i+1)) (fun j:Nat=>l.length-j) (i+1) (by rfl) (Vm _) ⟨KL _,hlt,rfl⟩ ?_;rintro j ⟨hj1,hj2,hj3⟩;have ek:j<l.length->rd wz h lc (o+j*5)= .int .u8 (l.getD j Zi).kind.toNat:=fun hj=>(YP hv hj).1;refine qJ ?_;rcases qAL j l.length with⟨hjl,hd⟩|⟨hjl,hd⟩
    all_goals
     refine awp_rseq [0,1,7,62] (by rfl) fun K hK=>?_;simp+decide only[qa,ev,qH,qG,putD,VO,VQ,VP,Ka,Kb,↓qg,qc,↓Xe,Qw,Zh Tryz.underlying26,↓qw,qm,qR,cond_false,qo,XZ,↓Xf,agP,Qv,qM,qK,qC,implies_true,Qy,Zr,forall_const,false_implies,UU,Vg,qdS,↓Zf,XT,YY,qW Tryz.underlying26 Xb,↓Xj,ql,qbW,↓Zn,qz qjd,↓Xd,qA,Un,↓QW,Qz,Qk,Xy,qi,hd,hjl,ek,Vr,K7];repeat (with_reducible refine And.intro ?_ ?_;· first|trivial|omega|(intro hg;simp only[Ky,JW,Jj,VS,VT,VU,decide_eq_true_eq,decide_eq_false_iff_not,XY]at hg;omega))
     apply hK;clear hK K;refine qI (b:=_) rfl (fun hb4=>?_) (fun hb4=>?_)
     ·try exact absurd hb4 (by decide)
      all_goals
       try simp only[decide_eq_false_iff_not,Jj]at hb4
       refine qP ?_;change Awp _ _ _ _ _ _ _;refine Qm ?_;refine XW [0,1,7] (by rfl) ?_;simp+decide only[qa,ev,qH,qG,putD,VO,VQ,VP,Ka,Kb,↓qg,qc,↓qw,qm,qA,cond_false,qo,Xa,↓qd,qb];try simp(disch:=omega)only[wrap_i64]
       try simp only[Qj,Yc]
       have hst:=qcV hjl;rw[if_neg (by rw[Ue l noT Zi hjl];intro q;apply hb4;rw[q];rfl)]at hst;exact⟨j+1,rfl,Vm _,⟨by omega,hjl,by rw[<-hst];exact hj3⟩,by omega⟩
     ·try simp only[decide_eq_true_eq,VU]at hb4
      have hje:Xh l (i+1)=j:=by
       rw[<-hj3];first
       |exact qkI (Kt hjl)
       |(rw[qcV hjl,if_pos (by rw[Ue l noT Zi hjl];exact BN.1 (by have:(7:UInt8).toNat=7:=rfl;omega))])
      rw[hje]at ho;refine XE ?_;change Awp _ _ _ _ _ _ _;refine qJ ?_;refine awp_rseq [0,1,7,68] (by rfl) fun K hK=>?_;simp+decide only[qa,ev,putD,VO,VQ,VP,Ka,Kb,↓qg,qc,↓Xe,Qw,Zh Tryz.underlying26,↓qw,qm,qR,cond_false,qo,Za];apply hK;clear hK K;refine qI (b:=_) rfl (fun hb5=>?_) (fun hb5=>?_)
      ·try simp only[decide_eq_true_eq]at hb5
       refine awp_rseq [4,5,6] (by rfl) fun K hK=>?_;simp+decide only[qa,ev,qH,qG,putD,VO,VQ,VP,Ka,Kb,↓qg,qc,↓qd,qb];apply hK;clear hK K;refine qL ?_;try simp only[Qe]
       refine Qb h zqC (qN (qN (qN (Qc)))) ?_;simp+decide only[VQ,Ka,and_true,qbF];rw[if_pos (.inl (by omega))]at ho;rw[ho];rfl
      ·try simp only[decide_eq_false_iff_not]at hb5
       rw[if_neg (by rintro(q|⟨q,-⟩)<;>first|omega|cases q)]at ho;have hsl2:=hv.slice Tryz.underlying26 Xb (some (.int .i64 ((i:Int)+1))) (some (.int .i64 (j:Int))) (l:=(i:Int)+1) (r:=(j:Int)) rfl rfl (by omega) (by omega) (by rw[Jp];omega);refine qP ?_;change Awp _ _ _ _ _ _ _;refine awp_rseq [4,5,6] (by rfl) fun K hK=>?_;simp+decide only[ev,qH,qG,putD,VO,VQ,Ka,Kb,↓qg,qc,↓qw,qm,qA,cond_false,qo,Xa];try simp(disch:=omega)only[wrap_i64]
       try simp+decide only[qa,ev,qH,qG,putD,VO,VQ,VP,Ka,Kb,↓Wp,ZG,evO,↓qg,qc,↓qw,qm,qA,cond_false,qo,Xa,↓qd,qb,hsl2]
       try simp(disch:=omega)only[wrap_i64]
       apply hK;clear hK K;refine qL ?_;refine Qb h zqC (qN (qN (qN (Qc)))) ?_;simp+decide only[VQ,Ka,and_true,qbF];rw[ho];rfl
theorem qve(wz:World)(h:AHeap)(v:AVal)(l:List TokC)(i j:Nat)(hv:IsL wz h 5 v (l.map QI))(hl:l.length<=1099511627776)(hi:i<l.length):
 ACall Tryz.prog wz 30 [v, .int .i64 i, .int .i64 j] h (fun r h'=>r=QC (qao l i j)/\h'=h):=by
 have hlv:=hv.live;have nv:=Zc hv;obtain⟨lc,o,c,rfl⟩:=YD hv (by omega);refine qU (n:=23) (rs:=[.cell 6 35]) Tryz.func30 rfl rfl rfl rfl (VN rfl) ?_;simp only[Qg];refine awp_rseq [0,1,2,6] (by rfl) fun K hK=>?_;refine Qi qaE (cs:=[.int .i64 0, .int .i64 0, .int .i64 0]) (by rfl) fun k0q0 hk0q0=>?_;try have hf_0q0:h k0q0=none:=by first|assumption|(simp only[V9]at hk0q0;simp only[hk0q0])
 simp+decide only[qa,putD,VO,VP,Ka,Js,Nat.reduceAdd];apply hK;clear hK K;refine qJ ?_;refine awp_rseq [0,1,2,6,10] (by rfl) fun K hK=>?_;simp+decide only[qa,ev,putD,VO,VQ,VP,Ka,Kb,↓qg,qc,↓Xe,Qw,Zh Tryz.underlying26,↓qw,qm,qR,cond_false,qo,Ua];apply hK;clear hK K;refine qI (b:=_) rfl (fun hb1=>?_) (fun hb1=>?_)
 ·try simp only[decide_eq_true_eq]at hb1
  have e2:∀c,rd wz (h.set k0q0 c) lc (o+i*5+2)= .int .i64 (l.getD i Zi).line:=fun c=>(YP (hv.mono (Vh hf_0q0)) hi).2.2.1;have e3:∀c,rd wz (h.set k0q0 c) lc (o+i*5+2+1)= .int .i64 (l.getD i Zi).col:=fun c=>(YP (hv.mono (Vh hf_0q0)) hi).2.2.2.1;refine awp_rseq [6] (by rfl) fun K hK=>?_;simp+decide only[ev,qH,qG,putD,VO,VQ,Ka,Kb,↓qg,qc,↓QE,qY,qW Tryz.underlying26 Xb,↓qB,ql,qdm,↓qF,qh qeG qbd,↓Qu,↓Qa,Wi,evP,Ke,Vk,qf,qi,allLive,JU,e2,e3,Vr];repeat (with_reducible refine And.intro ?_ ?_;· first|trivial|omega|(intro hg;simp only[Ky,JW,Jj,VS,VT,VU,decide_eq_true_eq,decide_eq_false_iff_not,XY]at hg;omega))
  refine qp (by rfl) (by rfl) zqA QN (by rfl) (by rfl) zqD (Jt _) (by rfl) ?_;simp only[Vi,VX];simp+decide only[qa,ev,putD,VQ,VP,Ka,setAt,VY,Kj,Js,Nat.reduceAdd];apply hK;clear hK K;refine qL ?_;try simp only[Qe]
  refine QD (?_) ?_
  ·simp+decide only[QG,qj,VQ,if_true,and_true,qj,qh Xw QN,qZ,qf,VZ,Kn,Js,Nat.reduceAdd,qi,allLive,JU,qf,VZ,Kn,Js,Nat.reduceAdd,qi,allLive,JU]
  simp+decide only[VQ,if_true,Zu,qj,qh Xw QN,qZ,qf,VZ,Kn,Js,Nat.reduceAdd,qi,allLive,JU,qf,VZ,Kn,Js,Nat.reduceAdd,qi,allLive,JU,QC];refine⟨h,zqB,?_,rfl⟩;unfold qao;rw[if_neg (by omega),Ue l noT Zi hi]
 ·try simp only[decide_eq_false_iff_not]at hb1
  refine qP ?_;change Awp _ _ _ _ _ _ _;have hj:j<l.length:=by omega
  have d2:∀c,rd wz (h.set k0q0 c) lc (o+j*5+2)= .int .i64 (l.getD j Zi).line:=fun c=>(YP (hv.mono (Vh hf_0q0)) hj).2.2.1;have d3:∀c,rd wz (h.set k0q0 c) lc (o+j*5+2+1)= .int .i64 (l.getD j Zi).col:=fun c=>(YP (hv.mono (Vh hf_0q0)) hj).2.2.2.1;refine awp_rseq [6] (by rfl) fun K hK=>?_;simp+decide only[ev,qH,qG,putD,VO,VQ,Ka,Kb,↓qg,qc,↓QE,qY,qW Tryz.underlying26 Xb,↓qB,ql,qdm,↓qF,qh qeG qbd,↓Qu,↓Qa,Wi,evP,Ke,Vk,qf,qi,allLive,JU,d2,d3,Vr];repeat (with_reducible refine And.intro ?_ ?_;· first|trivial|omega|(intro hg;simp only[Ky,JW,Jj,VS,VT,VU,decide_eq_true_eq,decide_eq_false_iff_not,XY]at hg;omega))
  refine qp (by rfl) (by rfl) zqA QN (by rfl) (by rfl) zqD (Jt _) (by rfl) ?_;simp only[Vi,VX];simp+decide only[qa,ev,putD,VQ,VP,Ka,setAt,VY,Kj,Js,Nat.reduceAdd];apply hK;clear hK K;refine qL ?_;refine QD (?_) ?_
  ·simp+decide only[QG,qj,VQ,if_true,and_true,qj,qh Xw QN,qZ,qf,VZ,Kn,Js,Nat.reduceAdd,qi,allLive,JU,qf,VZ,Kn,Js,Nat.reduceAdd,qi,allLive,JU]
  simp+decide only[VQ,if_true,Zu,qj,qh Xw QN,qZ,qf,VZ,Kn,Js,Nat.reduceAdd,qi,allLive,JU,qf,VZ,Kn,Js,Nat.reduceAdd,qi,allLive,JU,QC];refine⟨h,zqB,?_,rfl⟩;have hj:j<l.length:=by omega
  unfold qao;rw[if_pos hj,Ue l noT Zi hj]
theorem qBW{l:List Str}{s:Str}(h:s∈l):addE l s=l:=by unfold addE;rw[if_pos (by simpa using h)]
theorem qAE{l:List Str}{s:Str}(h:s∉l):addE l s=l++[s]:=by unfold addE;rw[if_neg (by simpa using h)]
theorem qyI(wz:World)(B:AHeap)(nb:Option Buf)(l:List Str)(s:Str)(hok:bufOk B 1 nb)(heq:Yh nb=(l.map Ut).flatten)(hl:l.length<=1000000):
 ACall Tryz.prog wz 31 [QH 1 nb, .str s] (Ql B nb) (fun r h'=>∃nb',r=QH 1 nb'/\bufOk B 1 nb'/\Yh nb'=((addE l s).map Ut).flatten/\h'=Ql B nb'):=by
 have hv:IsL wz (Ql B nb) 1 (QH 1 nb) (l.map Ut):=BH hok (by decide) heq qam (Vm _);have hlv:=QP 1 nb;have nv:=qes hv;refine qU (n:=23) (rs:=[.tmp 4]) Tryz.func31 rfl rfl rfl rfl (VN rfl) ?_;simp only[Qg];refine awp_rseq [0,1] (by rfl) fun K hK=>?_;simp+decide only[qa,ev,qH,qG,putD,VO,VP,Ka,Kb,↓qd,qb,Js];apply hK;clear hK K;refine qJ ?_;refine awp_rseq [0,1,5] (by rfl) fun K hK=>?_;simp+decide only[qa,ev,qH,qG,putD,VO,VP,Ka,Kb,↓qd,qb];apply hK;clear hK K;refine Qm ?_;refine XC [0,1,5] (fun i:Nat=>[(0,QH 1 nb),(1, .str s),(5, .int .i64 i)]) (fun i:Nat=>Ql B nb) (fun i:Nat=>i<=l.length/\∀j,j<i->¬l.getD j []=s) (fun i:Nat=>l.length-i) 0 (by rfl) (Vm _) ⟨Jt _,fun j hj=>by omega⟩ ?_;rintro i ⟨hi,hn⟩;refine qJ ?_;refine awp_rseq [0,1,5,9] (by rfl) fun K hK=>?_;simp+decide only[qa,ev,putD,VO,VQ,VP,Ka,Kb,↓qg,qc,↓Xe,Qw,↓qw,qm,qR,cond_false,qo,XZ,nv];apply hK;clear hK K;refine qI (b:=_) rfl (fun hb1=>?_) (fun hb1=>?_)
 ·try simp only[decide_eq_true_eq]at hb1
  have hi':i<l.length:=by omega
  obtain⟨lc,o,c,hbv⟩:=qhJ hv (by omega);have hv':=hv;rw[hbv]at hv';have he:=qnO hv' hi';refine qP ?_;change Awp _ _ _ _ _ _ _;refine qJ ?_;refine Qm ?_;refine awp_rseq [0,1,5,17] (by rfl) fun K hK=>?_;simp+decide only[qa,ev,putD,VO,VQ,VP,Ka,Kb,↓qg,qc,↓QE,qY,qW Tryz.underlying30 sz9,↓qF,qz ag9,↓qw,qm,qR,cond_false,Zj,qep,qE,hbv,he,qE,Vr,BK];repeat (with_reducible refine And.intro ?_ ?_;· first|trivial|omega|(intro hg;simp only[Ky,JW,Jj,VS,VT,VU,decide_eq_true_eq,decide_eq_false_iff_not,XY]at hg;omega))
  apply hK;clear hK K;refine qI (b:=_) rfl (fun hb2=>?_) (fun hb2=>?_)
  ·try simp only[decide_eq_true_eq]at hb2
   refine awp_rseq [4] (by rfl) fun K hK=>?_;simp+decide only[qa,ev,putD,VO,VQ,VP,Ka,Kb,↓qg,qc,↓qd,qb];apply hK;clear hK K;refine qL ?_;try simp only[Qe,Qp]
   refine QD (qN (Qc)) ?_;simp+decide only[VQ,if_true,Qs];exact⟨Ql B nb,Vm _,nb,by rw[<-hbv],hok,by rw[qBW (by rw[<-hb2];exact qaZ [] hi')];exact heq,rfl⟩
  ·try simp only[decide_eq_false_iff_not]at hb2
   refine qP ?_;change Awp _ _ _ _ _ _ _;refine XW [0,1,5] (by rfl) ?_;simp+decide only[qa,ev,qH,qG,putD,VO,VQ,VP,Ka,Kb,↓qg,qc,↓qw,qm,qA,cond_false,qo,Xa,↓qd,qb];try simp(disch:=omega)only[wrap_i64]
   try simp only[Qj]
   exact⟨i+1,by rw[hbv];rfl,Vm _,⟨hi',fun j hj=>by
    rcases KU j i with z|z
    ·exact hn j z
    ·rw[show j=i by omega];exact hb2⟩,by omega⟩
 ·try simp only[decide_eq_false_iff_not]at hb1
  have hns:s∉l:=by
   intro hm;obtain⟨j,hj,e⟩:=BO hm;exact hn j (by omega) (by rw[Ko,JA hj];exact e)
  refine XE ?_;change Awp _ _ _ _ _ _ _;refine awp_rseq [4] (by rfl) fun K hK=>?_;simp+decide only[ev,putD,VO,VQ,Ka,Kb,↓qg,qc];refine Qr (cs:=[.str s]) (by kernel_rfl) fun k6q2 hk6q2=>?_;try have hf_6q2:h k6q2=none:=by first|assumption|(simp only[V9]at hk6q2;simp only[hk6q2])
  refine Xt (es:=1) (zs:=l.map Ut) (xs:=[[.str s]]) (hZ:=B) (b:=nb) (by rfl) (by rfl) Tryz.underlying30 Tryz.underlying30 (fun k e=>by cases e) sz9 by9 ze9 (by rfl) (by decide) (by rfl) hok heq qam (Vh (by assumption)) (by rfl) (Ba (Ve _ _ _) (by simp) (by rfl) (by rfl) (.exact 1) (KL _)) (by rfl) (by simp;omega) (by simp;omega) fun nb2 h6 o1 o2 o3=>?_;simp+decide only[qa,ev,putD,VO,VQ,VP,Ka,Kb,↓qd,qb];apply hK;clear hK K;refine qL ?_;refine QD (qN (Qc)) ?_;simp+decide only[VQ,if_true,Qs];exact⟨Ql B nb2,o3,nb2,rfl,o1,by rw[o2,qAE hns,Bd];rfl,rfl⟩
theorem IsL.has{wz:World}{H:AHeap}{es:Nat}{ob:Option Buf}{xs:List (List AVal)}(hb:hasB H ob)(hes:0<es)(hc:Yh ob=xs.flatten)(hw:∀x∈xs,x.length=es)(hl:AM.allLive xs.flatten=true):IsL wz H es (QH es ob) xs:=by
 cases ob with
 |none=>
  have e:=ZF hw;rw[<-hc]at e;have e0:xs.length*es=0:=by rw[<-e];rfl
  have:xs=[]:=by
   rcases Nat.mul_eq_zero.1 e0 with e1|e1
   ·exact Kg e1
   ·omega
  subst this;exact .nil
 |some b=>
  have hc':b.cells=xs.flatten:=hc;have e:b.cells.length / es=xs.length:=by rw[hc',ZF hw,Nat.mul_div_cancel _ hes]
  show IsL wz H es (.slice (.own b.blk) 0 (b.cells.length / es) (.grow es)) xs
  rw[e];exact Ba (hb b rfl) hw hc' hl (.grow es) rfl
theorem UO{h H:AHeap}(hs:Sub h H){k:Nat}(hk:h k=none)(c:Blk):Sub h (H.set k c):=fun j d hj=>by
 have e:j≠k:=fun e=>by subst e;rw[hk]at hj;cases hj
 rw[Vd _ _ e];exact hs j d hj
structure AcOk(h H:AHeap)(mb:Option Buf)(ms:List MemC)(qs:List MemB):Prop where
 sub:Sub h H
 has:hasB H mb
 new:∀b,mb=some b->h b.blk=none
 eq:Yh mb=(qs.map qmH).flatten
 ms:qs.map (·.1)=ms
 tk:TkOk h H qs
 ap:∀q∈qs,apart mb q.2
theorem AcOk.of{h:AHeap}{ms:List MemC}{s:LbG}(hs:LbOk h ms s):AcOk h (Ql s.B s.mb) s.mb ms s.qs:=by
 have hS:Sub s.B (Ql s.B s.mb):=BJ hs.ok;refine⟨hs.sub.trans hS,qfy _ _,fun b e=>?_,hs.eq,hs.ms,⟨hs.tk.toks,fun q hq=>(hs.tk.has q hq).mono hS,hs.tk.new,hs.tk.apart⟩,fun q hq x y ex ey e=>?_⟩
 ·have:=hs.ok
  rw[e]at this;exact hs.sub.none this.1
 ·have h1:=hs.tk.has q hq y ey
  have h2:=hs.ok;rw[ex]at h2;rw[<-e,h2.1]at h1;cases h1
theorem quv{qs:List MemB}:AM.allLive ((qs.map qmH).flatten)=true:=qiw (qrO qs)
def qjW(t:TokC)(pv:AVal)(en wr:Int):List AVal:=[.int .u8 t.kind.toNat, .str t.text, .int .i64 t.line, .int .i64 t.col, .bool t.left,pv, .int .i64 en, .int .i64 wr]
def qAG(wz:World)(v:AVal)(l:List TokC)(q:RepQ):Prop:=∀g,IsL wz g 5 v (l.map QI)->RepOk wz g q
def qhd(wz:World)(h:AHeap)(v:AVal)(l:List TokC)(S:Stm)(r:AVal)(h':AHeap):Prop:=
 ∃(t:TokC) (pb:Option Buf) (en wr:Int) (qs:List RepQ),r= .agg (qjW t (QH 2 pb) en wr)/\bufOk h 2 pb/\h'=Ql h pb/\Yh pb=(qs.map UT).flatten/\(∀q∈qs,qAG wz v l q)/\(S.ok=true->t=S.name/\en=S.at_/\wr= -1/\S.reps=qs.map (·.1))/\(S.ok=false->wr=S.at_)
structure ParG where
 first:Bool
 at_:Nat
 pb:Option Buf
 qs:List RepQ
structure ParOk(wz:World)(v:AVal)(H:AHeap)(l:List TokC)(s:ParG):Prop where
 at_:s.at_<=l.length
 ok:bufOk H 2 s.pb
 eq:Yh s.pb=(s.qs.map UT).flatten
 reps:∀q∈s.qs,qAG wz v l q
 few:s.qs.length<=s.at_
theorem qpn{l:List TokC}{i:Nat}:((Qd l i false).ok=true->Qd l i true=Qd l i false)/\((Qd l i false).ok=false->(Qd l i true).ok=false/\(Qd l i true).at_=(Qd l i false).at_\/(Qd l i true).ok=true/\(Qd l i true).lo=(Qd l i true).hi/\(Qd l i true).at_=(Qd l i false).at_+1):=by
 unfold Qd;by_cases h1:Xc l i [1,2,3]=true
 ·rw[if_pos h1,if_pos h1]
  exact⟨fun _=>rfl,fun h=>by cases h⟩
 ·rw[if_neg h1,if_neg h1]
  by_cases h2:Xc l i [7]=false
  ·rw[if_pos h2,if_pos h2]
   exact⟨fun h=>(by cases h),fun _=> .inl ⟨rfl,rfl⟩⟩
  ·rw[if_neg h2,if_neg h2]
   by_cases h3:Xh l (i+1)=l.length
   ·rw[if_pos (.inl h3),if_pos (.inl h3)]
    exact⟨fun h=>(by cases h),fun _=> .inl ⟨rfl,rfl⟩⟩
   ·have ht:¬(Xh l (i+1)=l.length\/true=false/\Xh l (i+1)=i+1):=by rintro(q|⟨q,-⟩)<;>first|exact h3 q|cases q
    rw[if_neg ht];by_cases h4:Xh l (i+1)=i+1
    ·have hf:Xh l (i+1)=l.length\/false=false/\Xh l (i+1)=i+1:= .inr ⟨rfl,h4⟩
     rw[if_pos hf];exact⟨fun h=>(by cases h),fun _=> .inr ⟨rfl,h4.symm,rfl⟩⟩
    ·have hf:¬(Xh l (i+1)=l.length\/false=false/\Xh l (i+1)=i+1):=by rintro(q|⟨-,q⟩)<;>first|exact h3 q|exact h4 q
     rw[if_neg hf];exact⟨fun _=>rfl,fun h=>by cases h⟩
theorem qzt{l:List TokC}{i:Nat}(hi:i<=l.length):XO l i=
 if (Qd l i true).ok=false then⟨false,⟨[],[]⟩,(Qd l i true).at_⟩
 else if (ZT l (Qd l i true).lo (Qd l i true).hi).length=0 then⟨false,⟨[],[]⟩,(Qd l i true).at_-1⟩
 else if XH l (Qd l i true).at_ BY=false then⟨false,⟨[],[]⟩,(Qd l i true).at_⟩
 else⟨(Qd l ((Qd l i true).at_+1) true).ok,⟨ZT l (Qd l i true).lo (Qd l i true).hi,ZT l (Qd l ((Qd l i true).at_+1) true).lo (Qd l ((Qd l i true).at_+1) true).hi⟩,(Qd l ((Qd l i true).at_+1) true).at_⟩:=by
 obtain⟨h1,h2⟩:=@qpn l i;obtain⟨o1,o2,o3⟩:=Ur (e:=false) hi;unfold XO;simp only;cases hok:(Qd l i false).ok with
 |true=>
  obtain⟨o3,o4,o5,o6⟩:=o3 hok;have o6:=o6 rfl;have:¬(ZT l (Qd l i false).lo (Qd l i false).hi).length=0:=by
   unfold ZT;rw[K5,K6];omega
  rw[h1 hok,hok,if_neg (show ¬(true=false) by decide),if_neg (show ¬(true=false) by decide),if_neg this]
 |false=>
  rw[if_pos rfl];rcases h2 hok with⟨q1,q2⟩|⟨q1,q2,q3⟩
  ·rw[if_pos q1,q2]
  ·rw[if_neg (by rw[q1];decide),if_pos (by unfold ZT;rw[q2];simp),q3,Nat.add_sub_cancel]
theorem qtk{h:AHeap}{k0 k1:Nat}{Z0 Z1:Blk}(h0:h k0=none)(h1:h k1=none)(hne:k1≠k0){pb:Option Buf}(hok:bufOk ((h.set k0 Z0).set k1 Z1) 2 pb):
 bufOk h 2 pb/\Ql h pb k0=none/\Ql h pb k1=none/\Sub (Ql h pb) (Ql ((h.set k0 Z0).set k1 Z1) pb):=by
 have hs:Sub h ((h.set k0 Z0).set k1 Z1):=UO (Vh h0) h1 _;have e0:((h.set k0 Z0).set k1 Z1) k0=some Z0:=(Vd _ _ hne.symm).trans (Ve _ _ _);have e1:((h.set k0 Z0).set k1 Z1) k1=some Z1:=Ve _ _ _;refine⟨hok.sub hs,?_,?_,Sub.bufBoth hs⟩
 ·cases pb with
  |none=>exact h0
  |some b=>exact(Vd _ _ (qlF hok e0)).trans h0
 ·cases pb with
  |none=>exact h1
  |some b=>exact(Vd _ _ (qlF hok e1)).trans h1
theorem qbo{wz:World}{h:AHeap}{v:AVal}{l:List TokC}{S:Stm}{t:TokC}{pb:Option Buf}{en wr:Int}{qs:List RepQ}(hok:bufOk h 2 pb)(hb:Yh pb=(qs.map UT).flatten)(hq:∀q∈qs,qAG wz v l q)(hS:S.ok=false)(hw:wr=S.at_):qhd wz h v l S (.agg (qjW t (QH 2 pb) en wr)) (Ql h pb):=
 ⟨t,pb,en,wr,qs,rfl,hok,rfl,hb,hq,(fun e=>by rw[hS]at e;cases e),fun _=>hw⟩
theorem qsu(wz:World)(h:AHeap)(v:AVal)(l:List TokC)(a:Nat)(hv:IsL wz h 5 v (l.map QI))(hl:l.length<=1000000)(ha:a<l.length)(hi:¬a+1<l.length):
 ACall Tryz.prog wz 29 [v, .int .i64 a] h (fun r h'=>qhd wz h v l (Qn l (a+1)) r h'):=by
 have hlv:=hv.live;have nv:=Zc hv;have hd:decide ((l.length:Int)<=(a:Int)+1)=true:=decide_eq_true (by omega);have hS:Qn l (a+1)=qdD (a+1):=by unfold Qn;rw[if_pos (by unfold Xc;rw[decide_eq_false hi,V4])]
 rw[hS];refine qU (n:=132) (rs:=[.cell 4 70]) Tryz.func29 rfl rfl rfl rfl (VN rfl) ?_;simp only[Qg];refine awp_rseq [0,1,4] (by rfl) fun K hK=>?_;refine Qi qvv (cs:=[.int .u8 0, .str [], .int .i64 0, .int .i64 0, .bool false, .nilSlice, .int .i64 0, .int .i64 0]) (by rfl) fun k0q0 hk0q0=>?_;try have hf_0q0:h k0q0=none:=by first|assumption|(simp only[V9]at hk0q0;simp only[hk0q0])
 simp+decide only[qa,putD,VO,VP,Ka,Js];apply hK;clear hK K;refine awp_rseq [0,1,4,5] (by rfl) fun K hK=>?_;simp+decide only[ev,qH,qG,putD,VO,VQ,if_false,Kb,↓Qu,↓Qa,qtF,evP,Ke,Vk];refine Qi qvv (cs:=[.int .u8 0, .str [], .int .i64 0, .int .i64 0, .bool false, .nilSlice, .int .i64 0, .int .i64 0]) (by rfl) fun k1q1 hk1q1=>?_;have ne_1q1_0q0:k1q1≠k0q0:=by simp only[V9]at hk1q1;simp only[hk1q1,ne_eq,not_false_eq_true]
 try have hf_1q1:h k1q1=none:=by first|assumption|(simp only[V9]at hk1q1;simp only[hk1q1])
 refine qp (by rfl) (by rfl) zqA UN (by rfl) (by rfl) zqD (Jt _) (by rfl) ?_;simp only[Vi,VX];simp+decide only[qa,ev,putD,VO,VQ,VP,Ka,setAt,VY,Kj,Js,Nat.reduceAdd];apply hK;clear hK K;refine awp_rseq [0,4,5,6] (by rfl) fun K hK=>?_;simp+decide only[qa,ev,qH,qG,putD,VO,VQ,VP,Ka,Kb,↓qg,qc,↓qw,qm,qA,cond_false,qo,Xa,↓qd,qb];try simp(disch:=omega)only[wrap_i64]
 apply hK;clear hK K;refine qJ ?_;refine awp_rseq [0,4,5,6,34] (by rfl) fun K hK=>?_;simp+decide only[qa,ev,qH,qG,putD,VO,VQ,VP,Ka,Kb,↓qg,qc,↓Xe,Qw,↓qw,qm,qR,cond_false,qo,Ua,↓Xf,agP,Qv,qM,qK,Qh,implies_true,V3,Zr,false_implies,qaF,qdR,qnt,↓Zf,XT,↓Xj,ql,↓Zn,↓Xd,qA,↓qdf,Qz,Qk,↓QW,nv,hd];apply hK;clear hK K;refine qI (b:=_) rfl (fun hb1=>?_) (fun hb1=>?_)
 ·try simp only at hb1
  refine awp_rseq [4,5] (by rfl) fun K hK=>?_;simp+decide only[ev,putD,VO,VQ,Ka,Kb,↓qg,qc,↓qB,ql,qet,Js];refine qp (by rfl) (by rfl) zqA sz3 (by rfl) (by rfl) zqD (Jt _) (by rfl) ?_;simp only[Vi,VX];simp+decide only[qa,ev,putD,VQ,VP,Ka,setAt,VY,Kj];apply hK;clear hK K;refine awp_rseq [4] (by rfl) fun K hK=>?_;simp+decide only[ev,putD,VO,VQ,Ka,Kb,↓qF,qY,qh qcj UN,QT,qf,VZ,Kn,Js,Nat.reduceAdd,qD,qi,qE,QM,allLive,JU];refine qp (by rfl) (by rfl) zqA UN (by rfl) (by rfl) zqD (Jt _) (by rfl) ?_;simp only[VX];simp+decide only[qa,ev,putD,VQ,VP,Ka,setAt,VY,Kj,Js,Nat.reduceAdd];apply hK;clear hK K;refine qL ?_;try simp only[Qe]
  refine QD (?_) ?_
  ·simp+decide only[QG,qj,VQ,if_true,and_true,qj,qh qcj UN,qZ,qf,VZ,Kn,Js,Nat.reduceAdd,qD,qi,qE,QM,allLive,JU,qf,VZ,Kn,Js,Nat.reduceAdd,qD,qi,qE,QM,allLive,JU]
  simp+decide only[VQ,if_true,Zu,qj,qh qcj UN,qZ,qf,VZ,Kn,Js,Nat.reduceAdd,qD,qi,qE,QM,allLive,JU,qf,VZ,Kn,Js,Nat.reduceAdd,qD,qi,qE,QM,allLive,JU];exact⟨Ql h none,zqB,qbo (t:=noT) (pb:=none) (en:=0) (qs:=[]) trivial rfl (fun q hq=>by cases hq) rfl rfl⟩
 ·exact absurd hb1 (by decide)
theorem qwB{l:List TokC}{i:Nat}(hi:i<l.length):Xc l i [1,3]=(decide (((l.getD i Zi).kind.toNat:Int)=1)||decide (((l.getD i Zi).kind.toNat:Int)=3)):=by
 unfold Xc;rw[decide_eq_true hi,Vg,show((1:Int))=((1:UInt8).toNat:Nat)from rfl,qcH,show((3:Int))=((3:UInt8).toNat:Nat)from rfl,qcH,Ue l noT Zi hi];simp
theorem qfu{l:List TokC}{i:Nat}(hi:i<l.length):Xc l i [6]=decide (((l.getD i Zi).kind.toNat:Int)=6):=by
 unfold Xc;rw[decide_eq_true hi,Vg,show((6:Int))=((6:UInt8).toNat:Nat)from rfl,qcH,Ue l noT Zi hi];simp
theorem qwC{l:List TokC}{i:Nat}(hi:¬i<l.length)(ks:List UInt8):Xc l i ks=false:=by unfold Xc;rw[decide_eq_false hi,V4]
theorem qAN(j n:Nat):(j<n/\decide ((j:Int)<(n:Int))=true/\decide ((n:Int)<=(j:Int))=false)\/(¬j<n/\decide ((j:Int)<(n:Int))=false/\decide ((n:Int)<=(j:Int))=true):=by
 by_cases q:j<n
 ·exact .inl ⟨q,decide_eq_true (by omega),decide_eq_false (by omega)⟩
 ·exact .inr ⟨q,decide_eq_false (by omega),decide_eq_true (by omega)⟩
theorem qmB(O:Opd)(k wr:Int)(hk:k=if O.ok=true then(O.at_:Int)else-1)(hw:wr=if O.ok=true then 0 else(O.at_:Int)):(O.ok=true/\k=O.at_)\/(O.ok=false/\k= -1/\wr=O.at_):=by
 cases h:O.ok with
 |true=>rw[h,if_pos rfl]at hk;exact .inl ⟨rfl,hk⟩
 |false=>rw[h,if_neg (by decide)]at hk hw;exact .inr ⟨rfl,hk,hw⟩
def qhE(h:AHeap)(k0 k1:Nat)(t:TokC)(pb:Option Buf):AHeap:=(h.set k0 ⟨[.int .u8 0, .str [], .int .i64 0, .int .i64 0, .bool false, .nilSlice, .int .i64 0, .int .i64 0],0⟩).set k1 ⟨[.int .u8 t.kind.toNat, .str t.text, .int .i64 t.line, .int .i64 t.col, .bool t.left,QH 2 pb, .int .i64 0, .int .i64 (-1)],0⟩
theorem qwe{wz:World}{h:AHeap}{v:AVal}{l:List TokC}{S:Stm}{t:TokC}{pb:Option Buf}{qs:List RepQ}(hok:bufOk h 2 pb)(hb:Yh pb=(qs.map UT).flatten)(hq:∀q∈qs,qAG wz v l q)(hS:S=⟨true,t,qs.map (·.1),S.at_⟩):qhd wz h v l S (.agg (qjW t (QH 2 pb) S.at_ (-1))) (Ql h pb):=
 ⟨t,pb,_,_,qs,rfl,hok,rfl,hb,hq,fun _=>⟨by rw[hS],rfl,rfl,by rw[hS]⟩,fun e=>by rw[hS]at e;cases e⟩
set_option maxHeartbeats 1000000 in
theorem qgg(wz:World)(h:AHeap)(lc:AM.Loc)(o:Nat)(c:Cap)(l:List TokC)(t:TokC)(hv:IsL wz h 5 (.slice lc o l.length c) (l.map QI))(hl:l.length<=1000000)(k0 k1:Nat)(h0:h k0=none)(h1:h k1=none)(hne:k1≠k0)(s:ParG)(hs:ParOk wz (.slice lc o l.length c) (qhE h k0 k1 t s.pb) l s):
 Awp Tryz.prog wz 132 (UL 7 (qeB Tryz.f29)) (qeg Tryz.prog wz [.cell 4 70] (qhd wz h (.slice lc o l.length c) l (Ze l t ⟨true,s.qs.map (·.1),s.at_⟩))) [(0, .slice lc o l.length c),(4, .ptr (.own k0) 0),(5, .ptr (.own k1) 0),(6, .int .i64 s.at_)] (Ql (qhE h k0 k1 t s.pb) s.pb):=by
 obtain⟨first,i,pb,qs⟩:=s;obtain⟨s1,s2,s3,s4,s5⟩:=hs;simp only at s1 s2 s3 s4 s5|-
 obtain⟨p1,p2,p3,p4⟩:=qtk h0 h1 hne s2;obtain⟨H7,hH7⟩:∃H7,H7=Ql (qhE h k0 k1 t pb) pb:=⟨_,rfl⟩
 have hs_H7:Sub h H7:=by rw[hH7];exact(UO (Vh h0) h1 _).trans (BJ s2)
 have eb_0:H7 k0=some ⟨[.int .u8 0, .str [], .int .i64 0, .int .i64 0, .bool false, .nilSlice, .int .i64 0, .int .i64 0],0⟩:=by rw[hH7];exact ZY s2 ((Vd _ _ hne.symm).trans (Ve _ _ _))
 have eb_1:H7 k1=some ⟨[.int .u8 t.kind.toNat, .str t.text, .int .i64 t.line, .int .i64 t.col, .bool t.left,QH 2 pb, .int .i64 0, .int .i64 (-1)],0⟩:=by rw[hH7];exact ZY s2 (Ve _ _ _)
 have ne_1_0:k1≠k0:=hne;have hp7:Sub (Ql h pb) H7:=by rw[hH7];exact p4
 rw[<-hH7];have hlv:=hv.live;have nv:=Zc hv;have hbl:=QP 2 pb;have hvl:=hv.mono hs_H7;have ek:i<l.length->rd wz H7 lc (o+i*5)= .int .u8 (l.getD i Zi).kind.toNat:=fun hj=>(YP hvl hj).1;obtain⟨S,hS⟩:∃S,S=Ze l t ⟨true,qs.map (·.1),i⟩:=⟨_,rfl⟩
 rw[<-hS];have hS:S=if Xc l i [6]=false then qdD i else⟨true,t,qs.map (·.1),i+1⟩:=by
  rw[hS];unfold Ze;rw[if_neg (by intro e;cases e)]
 change Awp _ _ _ (Code.seq _ _) _ _ _;refine qJ ?_;rcases qAN i l.length with⟨hjl,hd,hd2⟩|⟨hjl,hd,hd2⟩
 all_goals
  refine awp_rseq [4,5,6,124] (by rfl) fun K hK=>?_;simp+decide only[qa,ev,qH,qG,putD,VO,VQ,VP,Ka,Kb,↓qg,qc,↓Xe,Qw,Zh Tryz.underlying26,↓qw,qm,qR,cond_false,qo,Ua,↓Xf,agP,Qv,qM,qK,Qh,implies_true,Er,V3,Qy,Zr,forall_const,false_implies,qaF,BQ,qdR,↓Zf,XT,YY,qW Tryz.underlying26 Xb,↓Xj,ql,qbW,↓Zn,qz qjd,↓Xd,qA,Un,↓QW,Qz,Qk,ZO,qi,hd2,hjl,ek,Vr,K7];repeat (with_reducible refine And.intro ?_ ?_;· first|trivial|omega|(intro hg;simp only[Ky,JW,Jj,VS,VT,VU,decide_eq_true_eq,decide_eq_false_iff_not,XY]at hg;omega))
  apply hK;clear hK K;refine qI (b:=_) rfl (fun hb1=>?_) (fun hb1=>?_)
  ·try simp only[decide_eq_false_iff_not,Jj]at hb1
   refine awp_rseq [4,5] (by rfl) fun K hK=>?_;simp+decide only[ev,putD,VO,VQ,Ka,Kb,↓qg,qc,↓qB,ql,qet,Js];refine qp (by rfl) (by rfl) zqA sz3 (by rfl) (by rfl) zqD (Jt _) (by first|rfl|(simp+decide only[ev,putD,VO,VQ,Ka,VX,Qt,JU,Vg,XR,XJ,XM,Xi])) ?_;simp only[VX];simp+decide only[qa,ev,putD,VQ,VP,Ka,setAt,VY,Kj];apply hK;clear hK K;refine awp_rseq [4] (by rfl) fun K hK=>?_;simp+decide only[ev,putD,VO,VQ,Ka,Kb,↓qF,qY,qh qcj UN,QT,qf,VZ,Kn,Js,Nat.reduceAdd,qD,qi,qE,allLive,JU,hbl];refine qp (by rfl) (by rfl) zqA UN (by rfl) (by rfl) zqD (Jt _) (by first|rfl|(simp+decide only[ev,VQ,Ka,VX,Qt,JU,XR,XJ,XM,Xi])) ?_;simp only[VX];simp+decide only[qa,ev,putD,VQ,VP,Ka,setAt,VY,Kj,Js,Nat.reduceAdd];apply hK;clear hK K;refine qL ?_;try simp only[Qe]
   refine QD (?_) ?_
   ·simp+decide only[QG,qj,VQ,if_true,and_true,qj,qh qcj UN,qZ,qf,VZ,Kn,Js,Nat.reduceAdd,qD,qi,qE,allLive,JU,qf,VZ,Kn,Js,Nat.reduceAdd,qD,qi,qE,allLive,JU,hbl]
   simp+decide only[VQ,if_true,Zu,qj,qh qcj UN,qZ,qf,VZ,Kn,Js,Nat.reduceAdd,qD,qi,qE,allLive,JU,qf,VZ,Kn,Js,Nat.reduceAdd,qD,qi,qE,allLive,JU,hbl];have hk6:Xc l i [6]=false:=by
    first
    |exact qwC hjl _
    |(rw[qfu hjl];exact decide_eq_false hb1)
   rw[if_pos hk6]at hS;exact⟨Ql h pb,UO (UO hp7 p3 _) p2 _,qbo p1 s3 s4 (by rw[hS];rfl) (by rw[hS];rfl)⟩
  ·try exact absurd hb1 (by decide)
   all_goals
    try simp only[decide_eq_true_eq,VU]at hb1
    refine qP ?_;change Awp _ _ _ _ _ _ _;refine awp_rseq [4,5] (by rfl) fun K hK=>?_;simp+decide only[ev,qH,qG,putD,VO,VQ,Ka,Kb,↓qg,qc,↓qw,qm,qA,cond_false,qo,Xa,↓qB,ql,qwS,Js];try simp(disch:=omega)only[wrap_i64]
    refine qp (by rfl) (by rfl) zqA sz3 (by rfl) (by rfl) zqD (Jt _) (by first|rfl|(simp+decide only[ev,putD,VO,VQ,Ka,VX,Qt,JU,Vg,XR,XJ,XM,Xi])) ?_;simp only[VX];simp+decide only[qa,ev,putD,VQ,VP,Ka,setAt,VY,Kj];apply hK;clear hK K;refine awp_rseq [4] (by rfl) fun K hK=>?_;simp+decide only[ev,putD,VO,VQ,Ka,Kb,↓qF,qY,qh qcj UN,QT,qf,VZ,Kn,Js,Nat.reduceAdd,qD,qi,qE,allLive,JU,hbl];refine qp (by rfl) (by rfl) zqA UN (by rfl) (by rfl) zqD (Jt _) (by first|rfl|(simp+decide only[ev,VQ,Ka,VX,Qt,JU,XR,XJ,XM,Xi])) ?_;simp only[VX];simp+decide only[qa,ev,putD,VQ,VP,Ka,setAt,VY,Kj,Js,Nat.reduceAdd];apply hK;clear hK K;refine qL ?_;refine QD (?_) ?_
    ·simp+decide only[QG,qj,VQ,if_true,and_true,qj,qh qcj UN,qZ,qf,VZ,Kn,Js,Nat.reduceAdd,qD,qi,qE,allLive,JU,qf,VZ,Kn,Js,Nat.reduceAdd,qD,qi,qE,allLive,JU,hbl]
    simp+decide only[VQ,if_true,Zu,qj,qh qcj UN,qZ,qf,VZ,Kn,Js,Nat.reduceAdd,qD,qi,qE,allLive,JU,qf,VZ,Kn,Js,Nat.reduceAdd,qD,qi,qE,allLive,JU,hbl];rw[if_neg (by rw[qfu hjl,decide_eq_true hb1];decide)]at hS;subst hS;exact⟨Ql h pb,UO (UO hp7 p3 _) p2 _,qwe (S:=⟨true,t,qs.map (·.1),i+1⟩) p1 s3 s4 rfl⟩
set_option maxHeartbeats 4000000 in
theorem qwA(wz:World)(h:AHeap)(lc:AM.Loc)(o:Nat)(c:Cap)(l:List TokC)(t:TokC)(hv:IsL wz h 5 (.slice lc o l.length c) (l.map QI))(hl:l.length<=1000000)(k0 k1:Nat)(h0:h k0=none)(h1:h k1=none)(hne:k1≠k0)(i:Nat)(hi:i<l.length):
 Awp Tryz.prog wz 132 (UL 6 (qeB Tryz.f29)) (qeg Tryz.prog wz [.cell 4 70] (qhd wz h (.slice lc o l.length c) l (Ze l t (if XH l (i+1) ZL=true then XB l (l.length+2) (i+2) true []else⟨true,[],i+1⟩)))) [(0, .slice lc o l.length c),(4, .ptr (.own k0) 0),(5, .ptr (.own k1) 0),(6, .int .i64 ((i+1:Nat):Int))] (qhE h k0 k1 t none):=by
 have hs0:Sub h (qhE h k0 k1 t none):=UO (Vh h0) h1 _;have hlv:=hv.live;have nv:=Zc hv;obtain⟨W,hW⟩:∃W,W=XH l (i+1) ZL:=⟨_,rfl⟩
 rw[<-hW];obtain⟨H7,hH7⟩:∃H7,H7=qhE h k0 k1 t none:=⟨_,rfl⟩
 have hs_H7:Sub h H7:=by rw[hH7];exact hs0
 rw[<-hH7];have hsn:(AVal.bool true).scal=true:=rfl;have hso:(AVal.bool true).scal=true:=rfl;have hln:(AVal.bool true).live=true:=rfl;have hlo:(AVal.bool true).live=true:=rfl;have hbl:=QP 2 none;change Awp _ _ _ (Code.seq _ _) _ _ _;refine qJ ?_;refine awp_rseq [0,4,5,6,47] (by rfl) fun K hK=>?_;simp+decide only[ev,putD,VO,VQ,Ka,Kb,↓qg,qc];refine qO (V:= .bool W) (by rfl) (by rfl) (by rw[hW];exact qlt wz _ _ l (i+1) ZL (hv.mono zqB) (by omega)) ?_;simp+decide only[qa,putD,VO,VP,Ka];apply hK;clear hK K;refine qI (b:=_) rfl (fun hb1=>?_) (fun hb1=>?_)
 ·skip
  have hlt2:i+1<l.length:=UC (hW.symm.trans hb1);rw[hb1,if_pos rfl];have hPr:XB l (l.length+2) (i+2) true []=qbP l (i+2) true []:=qaG l _ _ _ _ _ (by omega) (by omega) (by omega);rw[hPr];refine awp_rseq [0,4,5,6] (by rfl) fun K hK=>?_;simp+decide only[qa,ev,qH,qG,putD,VO,VQ,VP,Ka,Kb,↓qg,qc,↓qw,qm,qA,cond_false,qo,Xa,↓qd,qb];try simp(disch:=omega)only[wrap_i64]
  apply hK;clear hK K;refine awp_rseq [0,4,5,6,7] (by rfl) fun K hK=>?_;simp+decide only[qa,ev,qH,qG,putD,VO,VP,Ka,Kb,↓qd,qb];apply hK;clear hK K;refine Qm ?_;refine XC [0,4,5,6,7] (fun g:ParG=>[(0, .slice lc o l.length c),(4, .ptr (.own k0) 0),(5, .ptr (.own k1) 0),(6, .int .i64 g.at_),(7, .bool g.first)]) (fun g:ParG=>Ql (qhE h k0 k1 t g.pb) g.pb) (fun g:ParG=>ParOk wz (.slice lc o l.length c) (qhE h k0 k1 t g.pb) l g/\qbP l (i+2) true []=qbP l g.at_ g.first (g.qs.map (·.1))) (fun g:ParG=>l.length-g.at_) ⟨true,i+2,none,[]⟩ (by rfl) (by rw[hH7];exact Vm _) ⟨⟨by simp only;omega,trivial,rfl,(fun q hq=>by cases hq),Jt _⟩,rfl⟩ ?_;rintro⟨first,at_,pb,qs⟩ ⟨⟨g1,g2,g3,g4,g5⟩,hPe⟩;simp only at g1 g2 g3 g4 g5 hPe|-
  obtain⟨p1,p2,p3,p4⟩:=qtk h0 h1 hne g2;obtain⟨H8,hH8⟩:∃H8,H8=Ql (qhE h k0 k1 t pb) pb:=⟨_,rfl⟩
  have hs_H8:Sub h H8:=by rw[hH8];exact(UO (Vh h0) h1 _).trans (BJ g2)
  have eb_0:H8 k0=some ⟨[.int .u8 0, .str [], .int .i64 0, .int .i64 0, .bool false, .nilSlice, .int .i64 0, .int .i64 0],0⟩:=by rw[hH8];exact ZY g2 ((Vd _ _ hne.symm).trans (Ve _ _ _))
  have eb_1:H8 k1=some ⟨[.int .u8 t.kind.toNat, .str t.text, .int .i64 t.line, .int .i64 t.col, .bool t.left,QH 2 pb, .int .i64 0, .int .i64 (-1)],0⟩:=by rw[hH8];exact ZY g2 (Ve _ _ _)
  have ne_1_0:k1≠k0:=hne;have hp8:Sub (Ql h pb) H8:=by rw[hH8];exact p4
  rw[<-hH8];have hbl:=QP 2 pb;have hvl:=hv.mono hs_H8;have ek:at_<l.length->rd wz H8 lc (o+at_*5)= .int .u8 (l.getD at_ Zi).kind.toNat:=fun hj=>(YP hvl hj).1;have hst:=qfm g1 first (qs.map (·.1))
  refine qJ ?_;rcases first with _|_<;>rcases qAN at_ l.length with⟨hjl,hd,hd2⟩|⟨hjl,hd,hd2⟩
  all_goals
   refine awp_rseq [0,4,5,6,64] (by rfl) fun K hK=>?_;simp+decide only[qa,ev,qH,qG,putD,VO,VQ,VP,Ka,Kb,↓qg,qc,↓Xf,agP,Qv,qM,qK,qC,Qh,implies_true,Er,V3,Qy,Zr,forall_const,false_implies,qaF,UU,JU,Vg,BQ,qdS,qnt,↓qdn,Qw,Zh Tryz.underlying26,↓Xd,qm,qR,cond_false,qo,XZ,↓Zf,XT,YY,qW Tryz.underlying26 Xb,↓Xj,ql,qbW,↓Zn,qz qjd,qA,Un,↓qdf,Qz,Qk,Xy,ZO,↓QW,qi,JU,hd,hjl,ek,Vr,K7];repeat (with_reducible refine And.intro ?_ ?_;· first|trivial|omega|(intro hg;simp only[Ky,JW,Jj,VS,VT,VU,decide_eq_true_eq,decide_eq_false_iff_not,XY]at hg;omega))
   apply hK;clear hK K;refine qI (b:=_) rfl (fun hb2=>?_) (fun hb2=>?_)
   ·try exact absurd hb2 (by decide)
    all_goals
     try simp only[decide_eq_false_iff_not,Jj]at hb2
     refine qP ?_;change Awp _ _ _ _ _ _ _;refine qJ ?_;refine Qm ?_;rw[if_pos (by first|exact .inl rfl|(refine .inr ⟨hjl,?_⟩;rw[qfu hjl];exact decide_eq_false hb2))]at hst;obtain⟨O,hO⟩:∃O,O=Qd l at_ true:=⟨_,rfl⟩
     obtain⟨p,hp⟩:∃p,p=XO l at_:=⟨_,rfl⟩
     have hpe:=hp.trans (qzt g1);rw[<-hO]at hpe;rw[<-hp]at hst;obtain⟨o1,o2,o3⟩:=Ur (l:=l) (i:=at_) (e:=true) g1;rw[<-hO]at o1 o2 o3;obtain⟨kk,hkk⟩:∃kk,kk=if O.ok=true then(O.at_:Int)else-1:=⟨_,rfl⟩
     obtain⟨wr,hwr⟩:∃wr,wr=if O.ok=true then 0 else(O.at_:Int):=⟨_,rfl⟩
     have hoc:=qmB O kk wr hkk hwr;have hso:=qcC hv O;have hSo:=qkS hv O;obtain⟨ov,hov⟩:∃ov,ov=qdB (.slice lc o l.length c) O:=⟨_,rfl⟩
     rw[<-hov]at hso hSo;have hlo:=Yu hso;refine awp_rseq [0,4,5,8,9,10] (by rfl) fun K hK=>?_;simp+decide only[ev,putD,VO,VQ,Ka,Kb,↓qg,qc];refine qO (V:= .tuple [ov, .int .i64 kk, .int .i64 wr]) (by rfl) (by rfl) (by rw[hov,hkk,hwr,hO];exact qjG wz _ _ l at_ hvl (by omega) g1) ?_;simp+decide only[qa,ev,putD,VO,VQ,VP,Ka,Kb,↓qg,qc,↓QY,QL,QV,KY,J9,VZ,Kn,↓qd,qb,VZ,Kn,Js,Nat.reduceAdd];apply hK;clear hK K;refine qJ ?_;refine awp_rseq [0,4,5,8,9,10,73] (by rfl) fun K hK=>?_;simp+decide only[qa,ev,qH,qG,putD,VO,VQ,VP,Ka,Kb,↓qg,qc,↓qw,qm,qA,cond_false,qo,XZ];apply hK;clear hK K;refine qI (b:=_) rfl (fun hb3=>?_) (fun hb3=>?_)
     ·try simp only[decide_eq_true_eq]at hb3
      have hok:O.ok=false:=by
       rcases hoc with⟨-,e⟩|⟨e,-⟩
       ·omega
       ·exact e
      have hwe:wr=O.at_:=by
       rcases hoc with⟨e,-⟩|⟨-,-,e⟩
       ·rw[hok]at e;cases e
       ·exact e
      rw[if_pos hok]at hpe;rw[if_pos (by rw[hpe])]at hst;refine awp_rseq [4,5] (by rfl) fun K hK=>?_;simp+decide only[ev,putD,VO,VQ,Ka,Kb,↓qg,qc,↓qB,ql,qet,Js];refine qp (by rfl) (by rfl) zqA sz3 (by rfl) (by rfl) zqD (Jt _) (by first|rfl|(simp+decide only[ev,putD,VO,VQ,Ka,VX,Qt,JU,Vg,hso,hsn,XR,XJ,XM,Xi])) ?_;simp only[VX];simp+decide only[qa,ev,putD,VQ,VP,Ka,setAt,VY,Kj];apply hK;clear hK K;refine awp_rseq [4] (by rfl) fun K hK=>?_;simp+decide only[ev,putD,VO,VQ,Ka,Kb,↓qF,qY,qh qcj UN,QT,qf,VZ,Kn,Js,Nat.reduceAdd,qD,qi,qE,allLive,JU,hbl];refine qp (by rfl) (by rfl) zqA UN (by rfl) (by rfl) zqD (Jt _) (by first|rfl|(simp+decide only[ev,VQ,Ka,VX,Qt,JU,XR,XJ,XM,Xi])) ?_;simp only[VX];simp+decide only[qa,ev,putD,VQ,VP,Ka,setAt,VY,Kj,Js,Nat.reduceAdd];apply hK;clear hK K;refine qL ?_;try simp only[Qe,Qp]
      refine QD (?_) ?_
      ·simp+decide only[QG,qj,VQ,if_true,and_true,qj,qh qcj UN,qZ,qf,VZ,Kn,Js,Nat.reduceAdd,qD,qi,qE,allLive,JU,qf,VZ,Kn,Js,Nat.reduceAdd,qD,qi,qE,allLive,JU,hbl]
      simp+decide only[VQ,if_true,Zu,qj,qh qcj UN,qZ,qf,VZ,Kn,Js,Nat.reduceAdd,qD,qi,qE,allLive,JU,qf,VZ,Kn,Js,Nat.reduceAdd,qD,qi,qE,allLive,JU,hbl];have hSe:Ze l t (qbP l (i+2) true [])=qdD p.at_:=by rw[hPe,hst];rfl
      rw[hSe];exact⟨Ql h pb,UO (UO hp8 p3 _) p2 _,qbo p1 g3 g4 rfl (by rw[hwe,hpe];rfl)⟩
     ·try simp only[decide_eq_false_iff_not]at hb3
      obtain⟨hok,hke⟩:O.ok=true/\kk=O.at_:=by
       rcases hoc with e|⟨-,e,-⟩
       ·exact e
       ·omega
      rw[if_neg (by rw[hok];decide)]at hpe;obtain⟨o3,o4,o5,-⟩:=o3 hok;have hol:IsL wz h 5 ov ((ZT l O.lo O.hi).map QI):=by rw[hov];exact qbH hv o4 o5 hok
      have hol':∀g,IsL wz g 5 (.slice lc o l.length c) (l.map QI)->IsL wz g 5 ov ((ZT l O.lo O.hi).map QI):=fun g hg=>by rw[hov];exact qbH hg o4 o5 hok
      have nov:=Zc (hol.mono hs_H8);refine qP ?_;change Awp _ _ _ _ _ _ _;refine qJ ?_;refine awp_rseq [0,4,5,8,9,79] (by rfl) fun K hK=>?_;simp+decide only[qa,ev,qH,qG,putD,VO,VQ,VP,Ka,Kb,↓qg,qc,↓Xe,Qw,↓qw,qm,qA,cond_false,qo,Za,nov];apply hK;clear hK K;refine qI (b:=_) rfl (fun hb4=>?_) (fun hb4=>?_)
      ·try simp only[decide_eq_true_eq]at hb4
       rw[if_pos (by omega)]at hpe;rw[if_pos (by rw[hpe])]at hst;refine awp_rseq [4,5] (by rfl) fun K hK=>?_;simp+decide only[ev,qH,qG,putD,VO,VQ,Ka,Kb,↓qg,qc,↓qw,qm,qA,cond_false,qo,qaI,↓qB,ql,qet,Js];try simp(disch:=omega)only[wrap_i64]
       refine qp (by rfl) (by rfl) zqA sz3 (by rfl) (by rfl) zqD (Jt _) (by first|rfl|(simp+decide only[ev,putD,VO,VQ,Ka,VX,Qt,JU,Vg,hso,hsn,XR,XJ,XM,Xi])) ?_;simp only[VX];simp+decide only[qa,ev,putD,VQ,VP,Ka,setAt,VY,Kj];apply hK;clear hK K;refine awp_rseq [4] (by rfl) fun K hK=>?_;simp+decide only[ev,putD,VO,VQ,Ka,Kb,↓qF,qY,qh qcj UN,QT,qf,VZ,Kn,Js,Nat.reduceAdd,qD,qi,qE,allLive,JU,hbl];refine qp (by rfl) (by rfl) zqA UN (by rfl) (by rfl) zqD (Jt _) (by first|rfl|(simp+decide only[ev,VQ,Ka,VX,Qt,JU,XR,XJ,XM,Xi])) ?_;simp only[VX];simp+decide only[qa,ev,putD,VQ,VP,Ka,setAt,VY,Kj,Js,Nat.reduceAdd];apply hK;clear hK K;refine qL ?_;try simp only[Qe,Qp]
       refine QD (?_) ?_
       ·simp+decide only[QG,qj,VQ,if_true,and_true,qj,qh qcj UN,qZ,qf,VZ,Kn,Js,Nat.reduceAdd,qD,qi,qE,allLive,JU,qf,VZ,Kn,Js,Nat.reduceAdd,qD,qi,qE,allLive,JU,hbl]
       simp+decide only[VQ,if_true,Zu,qj,qh qcj UN,qZ,qf,VZ,Kn,Js,Nat.reduceAdd,qD,qi,qE,allLive,JU,qf,VZ,Kn,Js,Nat.reduceAdd,qD,qi,qE,allLive,JU,hbl];have hSe:Ze l t (qbP l (i+2) true [])=qdD p.at_:=by rw[hPe,hst];rfl
       rw[hSe];exact⟨Ql h pb,UO (UO hp8 p3 _) p2 _,qbo p1 g3 g4 rfl (by rw[hpe];show kk-1=((O.at_-1:Nat):Int);omega)⟩
      ·try simp only[decide_eq_false_iff_not]at hb4
       rw[if_neg (by omega)]at hpe;obtain⟨W2,hW2⟩:∃W2,W2=XH l O.at_ BY:=⟨_,rfl⟩
       rw[<-hW2]at hpe;refine qP ?_;change Awp _ _ _ _ _ _ _;refine qJ ?_;refine awp_rseq [0,4,5,8,9,87] (by rfl) fun K hK=>?_;simp+decide only[ev,putD,VO,VQ,Ka,Kb,↓qg,qc];refine qO (V:= .bool W2) (by rfl) (by rfl) (by rw[hW2,hke];exact qlt wz _ _ l O.at_ BY hvl (by omega)) ?_;simp+decide only[qa,ev,putD,VO,VQ,VP,Ka,Kb,↓YI,Zl,YC];apply hK;clear hK K;refine qI (b:=_) rfl (fun hb5=>?_) (fun hb5=>?_)
       ·try simp only[Jj]at hb5
        rw[if_pos (by simpa using hb5)]at hpe;rw[if_pos (by rw[hpe])]at hst;refine awp_rseq [4,5] (by rfl) fun K hK=>?_;simp+decide only[ev,putD,VO,VQ,Ka,Kb,↓qg,qc,↓qB,ql,qet,Js];refine qp (by rfl) (by rfl) zqA sz3 (by rfl) (by rfl) zqD (Jt _) (by first|rfl|(simp+decide only[ev,putD,VO,VQ,Ka,VX,Qt,JU,Vg,hso,hsn,XR,XJ,XM,Xi])) ?_;simp only[VX];simp+decide only[qa,ev,putD,VQ,VP,Ka,setAt,VY,Kj];apply hK;clear hK K;refine awp_rseq [4] (by rfl) fun K hK=>?_;simp+decide only[ev,putD,VO,VQ,Ka,Kb,↓qF,qY,qh qcj UN,QT,qf,VZ,Kn,Js,Nat.reduceAdd,qD,qi,qE,allLive,JU,hbl];refine qp (by rfl) (by rfl) zqA UN (by rfl) (by rfl) zqD (Jt _) (by first|rfl|(simp+decide only[ev,VQ,Ka,VX,Qt,JU,XR,XJ,XM,Xi])) ?_;simp only[VX];simp+decide only[qa,ev,putD,VQ,VP,Ka,setAt,VY,Kj,Js,Nat.reduceAdd];apply hK;clear hK K;refine qL ?_;try simp only[Qe,Qp]
        refine QD (?_) ?_
        ·simp+decide only[QG,qj,VQ,if_true,and_true,qj,qh qcj UN,qZ,qf,VZ,Kn,Js,Nat.reduceAdd,qD,qi,qE,allLive,JU,qf,VZ,Kn,Js,Nat.reduceAdd,qD,qi,qE,allLive,JU,hbl]
        simp+decide only[VQ,if_true,Zu,qj,qh qcj UN,qZ,qf,VZ,Kn,Js,Nat.reduceAdd,qD,qi,qE,allLive,JU,qf,VZ,Kn,Js,Nat.reduceAdd,qD,qi,qE,allLive,JU,hbl];have hSe:Ze l t (qbP l (i+2) true [])=qdD p.at_:=by rw[hPe,hst];rfl
        rw[hSe];exact⟨Ql h pb,UO (UO hp8 p3 _) p2 _,qbo p1 g3 g4 rfl (by rw[hpe];exact hke)⟩
       ·try simp only[VU]at hb5
        have hW3:W2=true:=by simpa using hb5
        rw[if_neg (by rw[hW3];decide)]at hpe;have hlt3:O.at_<l.length:=UC (hW2.symm.trans hW3);obtain⟨O2,hO2⟩:∃O2,O2=Qd l (O.at_+1) true:=⟨_,rfl⟩
        rw[<-hO2]at hpe;obtain⟨u1,u2,u3⟩:=Ur (l:=l) (i:=O.at_+1) (e:=true) (by omega);rw[<-hO2]at u1 u2 u3;obtain⟨k2,hk2⟩:∃kk,kk=if O2.ok=true then(O2.at_:Int)else-1:=⟨_,rfl⟩
        obtain⟨wr2,hwr2⟩:∃wr,wr=if O2.ok=true then 0 else(O2.at_:Int):=⟨_,rfl⟩
        have hoc2:=qmB O2 k2 wr2 hk2 hwr2;have hsn:=qcC hv O2;have hSn:=qkS hv O2;obtain⟨nw,hnw⟩:∃nw,nw=qdB (.slice lc o l.length c) O2:=⟨_,rfl⟩
        rw[<-hnw]at hsn hSn;have hln:=Yu hsn;refine qP ?_;change Awp _ _ _ _ _ _ _;refine awp_rseq [0,4,5,8,9,10,11] (by rfl) fun K hK=>?_;simp+decide only[ev,qH,qG,putD,VO,VQ,Ka,Kb,↓qg,qc,↓qw,qm,qA,cond_false,qo,Xa];try simp(disch:=omega)only[wrap_i64]
        refine qO (V:= .tuple [nw, .int .i64 k2, .int .i64 wr2]) (by rfl) (by rfl) (by rw[hnw,hk2,hwr2,hO2,show kk+1=((O.at_+1:Nat):Int) by omega];exact qjG wz _ _ l (O.at_+1) hvl (by omega) (by omega)) ?_;simp+decide only[qa,ev,putD,VO,VQ,VP,Ka,Kb,↓qg,qc,↓QY,QL,QV,KY,J9,VZ,Kn,↓qd,qb,VZ,Kn,Js,Nat.reduceAdd];apply hK;clear hK K;refine qJ ?_;refine awp_rseq [0,4,5,8,9,10,11,100] (by rfl) fun K hK=>?_;simp+decide only[qa,ev,qH,qG,putD,VO,VQ,VP,Ka,Kb,↓qg,qc,↓qw,qm,qA,cond_false,qo,XZ];apply hK;clear hK K;refine qI (b:=_) rfl (fun hb6=>?_) (fun hb6=>?_)
        ·try simp only[decide_eq_true_eq]at hb6
         have hok2:O2.ok=false:=by
          rcases hoc2 with⟨-,e⟩|⟨e,-⟩
          ·omega
          ·exact e
         have hwe:wr2=O2.at_:=by
          rcases hoc2 with⟨e,-⟩|⟨-,-,e⟩
          ·rw[hok2]at e;cases e
          ·exact e
         rw[if_pos (by rw[hpe];exact hok2)]at hst;refine awp_rseq [4,5] (by rfl) fun K hK=>?_;simp+decide only[ev,putD,VO,VQ,Ka,Kb,↓qg,qc,↓qB,ql,qet,Js];refine qp (by rfl) (by rfl) zqA sz3 (by rfl) (by rfl) zqD (Jt _) (by first|rfl|(simp+decide only[ev,putD,VO,VQ,Ka,VX,Qt,JU,Vg,hso,hsn,XR,XJ,XM,Xi])) ?_;simp only[VX];simp+decide only[qa,ev,putD,VQ,VP,Ka,setAt,VY,Kj];apply hK;clear hK K;refine awp_rseq [4] (by rfl) fun K hK=>?_;simp+decide only[ev,putD,VO,VQ,Ka,Kb,↓qF,qY,qh qcj UN,QT,qf,VZ,Kn,Js,Nat.reduceAdd,qD,qi,qE,allLive,JU,hbl];refine qp (by rfl) (by rfl) zqA UN (by rfl) (by rfl) zqD (Jt _) (by first|rfl|(simp+decide only[ev,VQ,Ka,VX,Qt,JU,XR,XJ,XM,Xi])) ?_;simp only[VX];simp+decide only[qa,ev,putD,VQ,VP,Ka,setAt,VY,Kj,Js,Nat.reduceAdd];apply hK;clear hK K;refine qL ?_;try simp only[Qe,Qp]
         refine QD (?_) ?_
         ·simp+decide only[QG,qj,VQ,if_true,and_true,qj,qh qcj UN,qZ,qf,VZ,Kn,Js,Nat.reduceAdd,qD,qi,qE,allLive,JU,qf,VZ,Kn,Js,Nat.reduceAdd,qD,qi,qE,allLive,JU,hbl]
         simp+decide only[VQ,if_true,Zu,qj,qh qcj UN,qZ,qf,VZ,Kn,Js,Nat.reduceAdd,qD,qi,qE,allLive,JU,qf,VZ,Kn,Js,Nat.reduceAdd,qD,qi,qE,allLive,JU,hbl];have hSe:Ze l t (qbP l (i+2) true [])=qdD p.at_:=by rw[hPe,hst];rfl
         rw[hSe];exact⟨Ql h pb,UO (UO hp8 p3 _) p2 _,qbo p1 g3 g4 rfl (by rw[hpe];exact hwe)⟩
        ·try simp only[decide_eq_false_iff_not]at hb6
         obtain⟨hok2,hke2⟩:O2.ok=true/\k2=O2.at_:=by
          rcases hoc2 with e|⟨-,e,-⟩
          ·exact e
          ·omega
         rw[if_neg (by rw[hpe];simp[hok2])]at hst;obtain⟨u3,u4,u5,-⟩:=u3 hok2;have hnl:∀g,IsL wz g 5 (.slice lc o l.length c) (l.map QI)->IsL wz g 5 nw ((ZT l O2.lo O2.hi).map QI):=fun g hg=>by rw[hnw];exact qbH hg u4 u5 hok2
         have hpat:p.at_=O2.at_:=by rw[hpe]
         have hprep:p.rep=⟨ZT l O.lo O.hi,ZT l O2.lo O2.hi⟩:=by rw[hpe]
         refine qP ?_;change Awp _ _ _ _ _ _ _;refine awp_rseq [0,4,5,9] (by rfl) fun K hK=>?_;simp+decide only[ev,qH,qG,putD,VO,VQ,Ka,Kb,↓qB,ql,qsc,↓qF,qY,qz qAD,↓qg,qc,↓Qu,↓Qa,qno,evP,Ke,Vk,QB wz eb_1,VZ,Kn,Js,hbl,hSo,hSn];refine Qr (cs:=[ov,nw]) (by kernel_rfl) fun k27q5 hk27q5=>?_;have hn_27q5:H8 k27q5=none:=by first|assumption|(simp only[V9]at hk27q5;simp only[hk27q5])
         have hf_27q5:h k27q5=none:=Bi hs_H8 hn_27q5;have ne_27q5_0:k27q5≠k0:=Bj hn_27q5 eb_0;have ne_27q5_1:k27q5≠k1:=Bj hn_27q5 eb_1;refine Xt (es:=2) (zs:=qs.map UT) (xs:=[[ov,nw]]) (hZ:=qhE h k0 k1 t pb) (b:=pb) (by rfl) (by rfl) Tryz.underlying43 Tryz.underlying43 (fun k e=>by cases e) qea qCI qvw (by rfl) (by decide) (by rfl) g2 g3 qei (by rw[<-hH8];exact Vh (by assumption)) (by rfl) (Ba (Ve _ _ _) (by simp) (by rfl) (by simp[AM.allLive,hlo,hln]) (.exact 1) (KL _)) (by simp[Qt,hso,hsn]) (by simp;omega) (by simp;omega) fun pb2 h27 v1 v2 v3=>?_;have eb27:h27 k1=some ⟨[.int .u8 t.kind.toNat, .str t.text, .int .i64 t.line, .int .i64 t.col, .bool t.left,QH 2 pb, .int .i64 0, .int .i64 (-1)],0⟩:=v3 _ _ (ZY v1 (Ve _ _ _));simp+decide only[ev,putD,VO,VQ,Ka,Kb,↓qB,ql,qsc,Js];refine qp (v:=QH 2 pb2) (k:=k1) (o:=5) (by rfl) (by rfl) eb27 qCh (QP _ _) (by rw[Uv];rfl) (by show 5+1<=8;decide) (Jt _) (by rw[Uv];simp[Qt,XR]) ?_;simp only[setAt,Uv,VY,Kj];simp+decide only[qa,putD,VP,Ka];apply hK;clear hK K;refine XW [0,4,5,6] (by rfl) ?_;simp+decide only[qa,ev,putD,VO,VQ,VP,Ka,Kb,↓qg,qc,↓qd,qb];change Awp _ _ _ _ _ _ _;refine XW [0,4,5,6,7] (by rfl) ?_;simp+decide only[qa,ev,qH,qG,putD,VO,VP,Ka,Kb,↓qd,qb];try simp only[Qj]
         refine⟨⟨false,O2.at_,pb2,qs++[(p.rep,ov,nw)]⟩,by rw[hke2];rfl,?_,⟨⟨u2,?_,by rw[v2,Bd];rfl,fun q hq=>?_,by(simp only[Jc,KY,J9];omega)⟩,?_⟩,by simp only;omega⟩
         ·have:=Wv v1 (show qhE h k0 k1 t pb k1=some _ from Ve _ _ _) ⟨[.int .u8 t.kind.toNat, .str t.text, .int .i64 t.line, .int .i64 t.col, .bool t.left,QH 2 pb2, .int .i64 0, .int .i64 (-1)],0⟩
          unfold qhE at this|-
          rw[Vi]at this;rw[<-this];exact Sub.set_both v3 _ _
         ·have:=Yk v1 (show qhE h k0 k1 t pb k1=some _ from Ve _ _ _) ⟨[.int .u8 t.kind.toNat, .str t.text, .int .i64 t.line, .int .i64 t.col, .bool t.left,QH 2 pb2, .int .i64 0, .int .i64 (-1)],0⟩
          unfold qhE at this|-
          rw[Vi]at this;exact this
         ·rcases JJ.1 hq with z|z
          ·exact g4 q z
          ·rw[BG.1 z,hprep];exact fun g hg=>⟨hol' g hg,hnl g hg⟩
         ·simp only
          rw[hPe,hst,hpat,Bd];rfl
   ·try exact absurd hb2 (by decide)
    all_goals
     try simp only[decide_eq_true_eq,VU]at hb2
     refine XE ?_;change Awp _ _ _ _ _ _ _;first
     |(rw[if_neg (by
        rintro(q|⟨q1,q2⟩)
        ·cases q
        ·first
         |exact hjl q1
         |(rw[qfu hjl,decide_eq_true (by simpa using hb2)]at q2;cases q2))]at hst
       rw[hPe,hst,hH8];refine Vb [0,4,5,6] ?_;exact qgg wz h lc o c l t hv hl k0 k1 h0 h1 hne ⟨false,at_,pb,qs⟩ ⟨g1,g2,g3,g4,g5⟩)
     |(rw[hb1,if_neg (by decide),hH7]
       refine Vb [0,4,5,6] ?_;exact qgg wz h lc o c l t hv hl k0 k1 h0 h1 hne ⟨false,i+1,none,[]⟩ ⟨hi,trivial,rfl,(fun q hq=>by cases hq),Jt _⟩)
 ·skip
  refine qP ?_;change Awp _ _ _ _ _ _ _;first
  |(rw[if_neg (by
     rintro(q|⟨q1,q2⟩)
     ·cases q
     ·first
      |exact hjl q1
      |(rw[qfu hjl,decide_eq_true (by simpa using hb2)]at q2;cases q2))]at hst
    rw[hPe,hst,hH8];refine Vb [0,4,5,6] ?_;exact qgg wz h lc o c l t hv hl k0 k1 h0 h1 hne ⟨false,at_,pb,qs⟩ ⟨g1,g2,g3,g4,g5⟩)
  |(rw[hb1,if_neg (by decide),hH7]
    refine Vb [0,4,5,6] ?_;exact qgg wz h lc o c l t hv hl k0 k1 h0 h1 hne ⟨false,i+1,none,[]⟩ ⟨hi,trivial,rfl,(fun q hq=>by cases hq),Jt _⟩)
set_option maxHeartbeats 4000000 in
theorem qvb(wz:World)(h:AHeap)(v:AVal)(l:List TokC)(a:Nat)(hv:IsL wz h 5 v (l.map QI))(hl:l.length<=1000000)(hi:a+1<l.length):
 ACall Tryz.prog wz 29 [v, .int .i64 a] h (fun r h'=>qhd wz h v l (Qn l (a+1)) r h'):=by
 have hlv:=hv.live;have nv:=Zc hv;obtain⟨lc,o,c,rfl⟩:=YD hv (by omega);obtain⟨i,hia⟩:∃i,i=a+1:=⟨_,rfl⟩
 rw[<-hia]at hi|-
 have hcast:(a:Int)+1=(i:Int):=by omega
 have hdl:decide ((l.length:Int)<=(i:Int))=false:=decide_eq_false (by omega);obtain⟨k1,hk1⟩:∃k,k=Xc l i [1,3]:=⟨_,rfl⟩
 have hk2:=qwB hi;rw[<-hk1]at hk2;obtain⟨W,hW⟩:∃W,W=XH l (i+1) ZL:=⟨_,rfl⟩
 obtain⟨S,hS⟩:∃S,S=Qn l i:=⟨_,rfl⟩
 rw[<-hS];unfold Qn at hS;rw[<-hk1,<-hW]at hS;obtain⟨t,ht⟩:∃t,t=l.getD i Zi:=⟨_,rfl⟩
 rw[Ue l noT Zi hi,<-ht]at hS;obtain⟨e0,e1,e2,e3,e4⟩:=YP hv hi;have f:=fun k0 k1 (c0 c1:Blk) (h0:h k0=none) (h1:h k1=none)=>YP (hv.mono (UO (Vh h0) h1 c1:Sub h ((h.set k0 c0).set k1 c1))) hi;rw[<-ht]at f;rw[<-ht]at hk2;refine qU (n:=132) (rs:=[.cell 4 70]) Tryz.func29 rfl rfl rfl rfl (VN rfl) ?_;simp only[Qg];refine awp_rseq [0,1,4] (by rfl) fun K hK=>?_;refine Qi qvv (cs:=[.int .u8 0, .str [], .int .i64 0, .int .i64 0, .bool false, .nilSlice, .int .i64 0, .int .i64 0]) (by rfl) fun k0q0 hk0q0=>?_;try have hf_0q0:h k0q0=none:=by first|assumption|(simp only[V9]at hk0q0;simp only[hk0q0])
 simp+decide only[qa,putD,VO,VP,Ka,Js];apply hK;clear hK K;refine awp_rseq [0,1,4,5] (by rfl) fun K hK=>?_;simp+decide only[ev,qH,qG,putD,VO,VQ,if_false,Kb,↓Qu,↓Qa,qtF,evP,Ke,Vk];refine Qi qvv (cs:=[.int .u8 0, .str [], .int .i64 0, .int .i64 0, .bool false, .nilSlice, .int .i64 0, .int .i64 0]) (by rfl) fun k1q1 hk1q1=>?_;have ne_1q1_0q0:k1q1≠k0q0:=by simp only[V9]at hk1q1;simp only[hk1q1,ne_eq,not_false_eq_true]
 try have hf_1q1:h k1q1=none:=by first|assumption|(simp only[V9]at hk1q1;simp only[hk1q1])
 refine qp (by rfl) (by rfl) zqA UN (by rfl) (by rfl) zqD (Jt _) (by rfl) ?_;simp only[Vi,VX];simp+decide only[qa,ev,putD,VO,VQ,VP,Ka,setAt,VY,Kj,Js,Nat.reduceAdd];apply hK;clear hK K;refine awp_rseq [0,4,5,6] (by rfl) fun K hK=>?_;simp+decide only[qa,ev,qH,qG,putD,VO,VQ,VP,Ka,Kb,↓qg,qc,↓qw,qm,qA,cond_false,qo,Xa,↓qd,qb,hcast];try simp(disch:=omega)only[wrap_i64]
 apply hK;clear hK K;refine qJ ?_;have g0:=fun c0 c1=>(f k0q0 k1q1 c0 c1 hf_0q0 hf_1q1).1;refine awp_rseq [0,4,5,6,34] (by rfl) fun K hK=>?_;simp+decide only[qa,ev,qH,qG,putD,VO,VQ,VP,Ka,Kb,↓qg,qc,↓Xe,Qw,Zh Tryz.underlying26,↓qw,qm,qR,cond_false,qo,Ua,↓Xf,agP,Qv,qM,qK,qC,Qh,implies_true,Er,Qy,forall_const,BQ,↓Zf,XT,YY,qoB,qoA,qW Tryz.underlying26 Xb,↓Xj,ql,qbW,ZH,ZI,↓Zn,qeE,qz qjd,↓Xd,qA,Zv,Zw,Un,↓qdf,Qz,Qk,Xp,Xy,ZO,↓QW,qi,hdl,g0,Vr,K7];repeat (with_reducible refine And.intro ?_ ?_;· first|trivial|omega|(intro hg;simp only[Ky,JW,Jj,VS,VT,VU,decide_eq_true_eq,decide_eq_false_iff_not,XY]at hg;omega))
 apply hK;clear hK K;refine qI (b:=_) rfl (fun hb1=>?_) (fun hb1=>?_)
 ·try simp only[decide_eq_false_iff_not,Jj,Ky]at hb1
  refine awp_rseq [4,5] (by rfl) fun K hK=>?_;simp+decide only[ev,putD,VO,VQ,Ka,Kb,↓qg,qc,↓qB,ql,qet,Js];refine qp (by rfl) (by rfl) zqA sz3 (by rfl) (by rfl) zqD (Jt _) (by rfl) ?_;simp only[Vi,VX];simp+decide only[qa,ev,putD,VQ,VP,Ka,setAt,VY,Kj];apply hK;clear hK K;refine awp_rseq [4] (by rfl) fun K hK=>?_;simp+decide only[ev,putD,VO,VQ,Ka,Kb,↓qF,qY,qh qcj UN,QT,qf,VZ,Kn,Js,Nat.reduceAdd,qD,qi,qE,QM,allLive,JU];refine qp (by rfl) (by rfl) zqA UN (by rfl) (by rfl) zqD (Jt _) (by rfl) ?_;simp only[VX];simp+decide only[qa,ev,putD,VQ,VP,Ka,setAt,VY,Kj,Js,Nat.reduceAdd];apply hK;clear hK K;refine qL ?_;try simp only[Qe]
  refine QD (?_) ?_
  ·simp+decide only[QG,qj,VQ,if_true,and_true,qj,qh qcj UN,qZ,qf,VZ,Kn,Js,Nat.reduceAdd,qD,qi,qE,QM,allLive,JU,qf,VZ,Kn,Js,Nat.reduceAdd,qD,qi,qE,QM,allLive,JU]
  simp+decide only[VQ,if_true,Zu,qj,qh qcj UN,qZ,qf,VZ,Kn,Js,Nat.reduceAdd,qD,qi,qE,QM,allLive,JU,qf,VZ,Kn,Js,Nat.reduceAdd,qD,qi,qE,QM,allLive,JU];rw[if_pos (by rw[hk2];rcases hb1 with⟨q1,q2⟩;simp[q1,q2])]at hS;rw[hS];exact⟨Ql h none,zqB,qbo (t:=noT) (pb:=none) (en:=0) (qs:=[]) trivial rfl (fun q hq=>by cases hq) rfl rfl⟩
 ·try simp only[decide_eq_true_eq,VU,VS]at hb1
  rw[if_neg (by rw[hk2];rcases hb1 with q|q<;>simp[q])]at hS;refine qP ?_;change Awp _ _ _ _ _ _ _;have g0:=fun c0 c1=>(f k0q0 k1q1 c0 c1 hf_0q0 hf_1q1).1;have g1:=fun c0 c1=>(f k0q0 k1q1 c0 c1 hf_0q0 hf_1q1).2.1;have g2:∀c0 c1,rd wz ((h.set k0q0 c0).set k1q1 c1) lc (o+i*5+1+1)= .int .i64 t.line:=fun c0 c1=>(f k0q0 k1q1 c0 c1 hf_0q0 hf_1q1).2.2.1;have g3:∀c0 c1,rd wz ((h.set k0q0 c0).set k1q1 c1) lc (o+i*5+1+1+1)= .int .i64 t.col:=fun c0 c1=>(f k0q0 k1q1 c0 c1 hf_0q0 hf_1q1).2.2.2.1;have g4:∀c0 c1,rd wz ((h.set k0q0 c0).set k1q1 c1) lc (o+i*5+1+1+1+1)= .bool t.left:=fun c0 c1=>(f k0q0 k1q1 c0 c1 hf_0q0 hf_1q1).2.2.2.2;refine awp_rseq [0,4,5,6] (by rfl) fun K hK=>?_;simp+decide only[ev,putD,VO,VQ,Ka,Kb,↓qg,qc,↓QE,qY,qW Tryz.underlying26 Xb,↓qF,qh ZB Xb,↓qB,ql,qgT,qf,qD,qi,qE,allLive,JU,g0,g1,g2,g3,g4,Vr,K7];repeat (with_reducible refine And.intro ?_ ?_;· first|trivial|omega|(intro hg;simp only[Ky,JW,Jj,VS,VT,VU,decide_eq_true_eq,decide_eq_false_iff_not,XY]at hg;omega))
  refine qp (by rfl) (by rfl) zqA Xb (by rfl) (by rfl) zqD (Jt _) (by rfl) ?_;simp only[Vi,VX];simp+decide only[qa,ev,putD,VQ,VP,Ka,setAt,VY,Kj,Js,Nat.reduceAdd];apply hK;clear hK K;refine awp_rseq [0,4,5,6] (by rfl) fun K hK=>?_;simp+decide only[qa,ev,qH,qG,putD,VO,VQ,VP,Ka,Kb,↓qg,qc,↓qw,qm,qA,cond_false,qo,Xa,↓qd,qb];try simp(disch:=omega)only[wrap_i64]
  apply hK;clear hK K;rw[hS,hW];refine Vb [0,4,5,6] ?_;exact qwA wz h lc o c l t hv hl k0q0 k1q1 hf_0q0 hf_1q1 ne_1q1_0q0 i hi
theorem qvc(wz:World)(h:AHeap)(v:AVal)(l:List TokC)(a:Nat)(hv:IsL wz h 5 v (l.map QI))(hl:l.length<=1000000)(ha:a<l.length):
 ACall Tryz.prog wz 29 [v, .int .i64 a] h (fun r h'=>qhd wz h v l (Qn l (a+1)) r h'):=by
 by_cases hi:a+1<l.length
 ·exact qvb wz h v l a hv hl hi
 ·exact qsu wz h v l a hv hl ha hi
theorem qcp{G:AHeap}{es k:Nat}{nb:Option Buf}(hn:Ql G nb k=none)(c:Blk):(Ql G nb).set k c=Ql (G.set k c) nb/\(bufOk G es nb->bufOk (G.set k c) es nb):=by
 cases nb with
 |none=>exact⟨rfl,fun _=>trivial⟩
 |some b=>
  have hne:k≠b.blk:=fun e=>by
   subst e;rw[show Ql G (some b)=G.set b.blk ⟨b.cells,0⟩from rfl,Ve]at hn;cases hn
  exact⟨AHeap.set_comm _ _ _ hne,fun h=>⟨(Vd _ _ hne.symm).trans h.1,h.2⟩⟩
theorem quR{l:List TokC}{i:Nat}(h:XH l i COPY=true):Xm l i=i:=by
 rw[qdO (UC h),if_pos h]
theorem qud{wz:World}{S:Stm}{t:TokC}{en wr:Int}{qs:List RepQ}(h1:S.ok=true->t=S.name/\en=S.at_/\wr= -1/\S.reps=qs.map (·.1))(h2:S.ok=false->wr=S.at_):(S.ok=true/\t=S.name/\en=S.at_/\wr= -1/\S.reps=qs.map (·.1))\/(S.ok=false/\wr=S.at_):=by
 cases h:S.ok with
 |true=>exact .inl ⟨rfl,h1 h⟩
 |false=>exact .inr ⟨rfl,h2 h⟩
end Go.Proofs.YtlhhaagmakhilaaGreatDoor
namespace Go.Cop
open Go.Col (Str FaultC okF)
open Go.Tok
set_option maxRecDepth 100000
structure StpOk(op:List Str)(l:List TokC)(i:Nat)(out:List TokC)(st:Xs)(ns:List Nat):Prop where
 le:i<=l.length
 raw:(l.drop i).map strip=XI ns
 lt:∀n∈ns,n<256
 copies:st.copies+ns.length*Y op.length<=4096
 phi:Phi op.length out+ns.length*X op.length<=65536
section
variable {mem:List MemC} (hL:Lib mem)
include hL
theorem qzk{op:List Str}(hk:op.length<=3)(hnd:op.Nodup)(hop:∀x∈op,UJ mem x≠none){l:List TokC}{i:Nat}{out:List TokC}{st:Xs}{ns:List Nat}(H:StpOk op l i out st ns)(hc:Xm l i<l.length){S:Stm}(hS:Qn l (Xm l i+1)=S)(hok:S.ok=true):
 ∃rest,∀mm,UJ mem S.name.text=some mm->S.name.text∉op->op.length<3/\(op++[S.name.text]).Nodup/\(∀x∈op++[S.name.text],UJ mem x≠none)/\∃ms,mm.toks.map strip=XI ms/\ms.length<=8/\(∀n∈ms,n<256)/\st.copies+1+ms.length*Y (op.length+1)<=4096/\ms.length*X (op.length+1)<=65536/\
  ∀l2 st2,Phi (op.length+1) l2<=ms.length*X (op.length+1)->st2.copies<=st.copies+1+ms.length*Y (op.length+1)->
   l2.length<=65536/\(WL S.reps l2).length<=65536/\StpOk op l S.at_ (out++ZT l i (Xm l i)++WL S.reps l2) st2 rest:=by
 obtain⟨hi,hb,h256,hcp,hph⟩:=H;obtain⟨a,ha⟩:∃a,a=l.take i:=⟨_,rfl⟩
 obtain⟨b,hbe⟩:∃b,b=l.drop i:=⟨_,rfl⟩
 have hab:a++b=l:=by rw[ha,hbe,Bq]
 have hal0:a.length=i:=by rw[ha,K5];omega
 rw[<-hbe]at hb;subst hab;subst hal0;have hcs:=qik a b 0;rw[K7]at hcs;have hbs:Xm b 0=Xm (XI ns) 0:=by rw[<-hb,qij]
 have hlen:b.length=(XI ns).length:=by rw[<-hb,Jp]
 rw[hcs,hbs]at hc hS;rw[hcs,hbs];rcases qiD ns with hpl|⟨ps,n,rest,rfl,hps,hn1⟩
 ·exfalso
  obtain⟨q1,q2⟩:=qdw hpl;have e:=qmE q2;rw[e,Jc,hlen]at hc;omega
 ·obtain⟨q1,q2⟩:=qdw hps
  obtain⟨t1,r1,et,_⟩:=qbJ hn1;have hraw:XI (ps++n::rest)=XI ps++(XN n++XI rest):=by rw[qcz,UE]
  have hcopy:Xm (XI (ps++n::rest)) 0=ps.length:=by
   rw[hraw,qlp q2,et,List.cons_append,qjC (by rfl),q1];omega
  rw[hcopy]at hc hS|-
  have hn2:n<256:=h256 n (by simp);have hblen:b.length=ps.length+((XN n).length+(XI rest).length):=by rw[hlen,hraw,Jc,Jc,q1]
  have hcl:3<=(XN n).length:=by rw[et];simp
  have hst:=qaA a b (ps.length+1) (by omega);rw[<-Kw]at hst;rw[hst]at hS;obtain⟨s1,s2,s3⟩:=qeM b (ps.length+1);rw[hb,hraw]at s1 s2 s3;have hss:=qaA (XI ps) (XN n++XI rest) 1 (by rw[Jc];omega);rw[q1]at hss;rw[hss]at s1 s2 s3;simp only at s1 s2 s3;obtain⟨T,hT⟩:∃T,T=Qn b (ps.length+1):=⟨_,rfl⟩
  rw[<-hT]at s1 s2 s3 hS;subst hS;simp only at hok|-
  obtain⟨m,m1,m2,m3⟩:=qta hn1 hn2 (by rw[s1];exact hok);have hrs:∀x∈T.reps,RS x:=fun x hx=>qrr (m3 _ (by rw[s3];exact EO hx));have hold:∀x∈T.reps,x.old≠[]:=by
   obtain⟨_,_,_,q⟩:=Ul (l:=b) (i:=ps.length+1) (by omega);rw[<-hT]at q;exact q
  simp only[Jc,KY]at hcp hph;have hY:(ps.length+(rest.length+1))*Y op.length=ps.length*Y op.length+(rest.length*Y op.length+Y op.length):=by rw[Nat.add_mul,VB]
  have hX:(ps.length+(rest.length+1))*X op.length=ps.length*X op.length+(rest.length*X op.length+X op.length):=by rw[Nat.add_mul,VB]
  rw[hY]at hcp;rw[hX]at hph;refine⟨rest.drop m,fun mm hfi hnm=>?_⟩;have hnd':(op++[T.name.text]).Nodup:=List.nodup_append.2 ⟨hnd,by simp,fun x hx y hy e=>by
   rw[BG.1 hy]at e;exact hnm (e ▸ hx)⟩
  have hop':∀x∈op++[T.name.text],UJ mem x≠none:=fun x hx=>by
   rcases JJ.1 hx with hx|hx
   ·exact hop x hx
   ·rw[BG.1 hx,hfi]
    exact fun q=>by cases q
  have hk3:op.length<3:=by
   have:=hL.few (op++[T.name.text]) hnd' hop';simp at this;omega
  obtain⟨x1,x2,x3⟩:=qsR hk3;obtain⟨ms,r1,r2,r3⟩:=hL.raw _ mm hfi;have h8:ms.length*Y (op.length+1)<=8*Y (op.length+1):=K9 _ r2;have h9:ms.length*X (op.length+1)<=8*X (op.length+1):=K9 _ r2;refine⟨hk3,hnd',hop',ms,r1,r2,r3,by omega,by omega,fun l2 st2 w3 w4=>?_⟩;have l1:=qeJ (op.length+1) l2;have l3:=qki hold hrs op.length _ l2 (KL _);have l4:=qeJ op.length (WL T.reps l2);refine⟨by omega,by omega,?_⟩;have hcut:Phi op.length (ZT (a++b) a.length (a.length+ps.length))<=ps.length*X op.length:=by
   have:=qkk hk (ZT (a++b) a.length (a.length+ps.length));have hl:(ZT (a++b) a.length (a.length+ps.length)).length<=ps.length:=by unfold ZT;simp;omega
   exact V7 this (K9 _ hl)
  have hout:Phi op.length (out++ZT (a++b) a.length (a.length+ps.length)++WL T.reps l2)<=Phi op.length out+ps.length*X op.length+X op.length:=by
   rw[qeK,qeK];omega
  have hat:T.at_=ps.length+((XN n).length+(XI (rest.take m)).length):=by
   rw[<-s2,m2,Jc]
  have hrl:(XI rest).length=(XI (rest.take m)).length+(XI (rest.drop m)).length:=by
   rw[<-Jc,<-qcz,Bq]
  have hbd:(b.drop T.at_).map strip=XI (rest.drop m):=by
   rw[El,hb,hraw,hat];have e1:XI rest=XI (rest.take m)++XI (rest.drop m):=by rw[<-qcz,Bq]
   rw[e1,<-Ja,<-Ja];rw[List.drop_append_of_le_length (by rw[Jc,Jc,q1];omega)];rw[List.drop_of_length_le (by rw[Jc,Jc,q1];omega),Je]
  have hdl:(rest.drop m).length=rest.length-m:=K6;have hY2:(rest.drop m).length*Y op.length<=rest.length*Y op.length:=K9 _ (by omega);have hX2:(rest.drop m).length*X op.length<=rest.length*X op.length:=K9 _ (by omega);refine⟨by rw[Jc];omega,?_,fun x hx=>h256 x (by simp[VF hx]),by omega,by omega⟩;have:(a++b).drop (a.length+T.at_)=b.drop T.at_:=by
   rw[List.drop_append];simp
  rw[this];exact hbd
end
end Go.Cop
namespace Go.AM
open Go.RowKit (Below)
section
variable {P:Program} {wz:World} {n:FrameK} {la:List Nat} {ly:Nat->List AVal×(Nat->AVal)}
def uni(g e:AHeap):AHeap:=fun k=>match g k with
 |some b=>some b
 |none=>e k
def dis(g e:AHeap):Prop:=∀k b,e k=some b->g k=none
theorem Wj{g e:AHeap}{k:Nat}{b:Blk}(h:g k=some b):uni g e k=some b:=by unfold uni;rw[h]
theorem Ww{g e:AHeap}{k:Nat}(h:g k=none):uni g e k=e k:=by unfold uni;rw[h]
theorem qhm{g e:AHeap}{k:Nat}(h:uni g e k=none):g k=none/\e k=none:=by
 cases hg:g k with
 |some b=>rw[Wj hg]at h;cases h
 |none=>rw[Ww hg]at h;exact⟨rfl,h⟩
theorem Sub.uni(g e:AHeap):Sub g (uni g e):=fun _ _ h=>Wj h
theorem Sub.uni2{g e:AHeap}(h:dis g e):Sub e (AM.uni g e):=fun k b he=>(Ww (h k b he)).trans he
theorem qtL(g:AHeap):uni g (fun _=>none)=g:=by
 funext k;cases hg:g k with
 |some b=>rw[Wj hg]
 |none=>rw[Ww hg]
theorem qzh{g e:AHeap}{k:Nat}{b:Blk}(h:uni g e k=none):uni g (e.set k b)=(uni g e).set k b:=by
 funext j;by_cases e1:j=k
 ·subst e1
  rw[Ww (qhm h).1,Ve,Ve]
 ·rw[Vd _ _ e1]
  cases hg:g j with
  |some c=>rw[Wj hg,Wj hg]
  |none=>rw[Ww hg,Ww hg,Vd _ _ e1]
theorem qvG{g e:AHeap}(hd:dis g e){k:Nat}{b:Blk}(h:e k=some b):uni (g.set k b) (e.del k)=uni g e:=by
 funext j;by_cases e1:j=k
 ·subst e1
  rw[Wj (Ve _ _ _),Ww (hd _ _ h),h]
 ·cases hg:g j with
  |some c=>rw[Wj hg,Wj ((Vd _ _ e1).trans hg)]
  |none=>rw[Ww hg,Ww ((Vd _ _ e1).trans hg)];unfold Vl;rw[if_neg e1]
theorem qzN{g e:AHeap}(hd:dis g e){k:Nat}{b:Blk}(h:uni g e k=none):dis g (e.set k b):=fun j c hj=>by
 by_cases e1:j=k
 ·subst e1;exact(qhm h).1
 ·rw[Vd _ _ e1]at hj;exact hd j c hj
theorem qyh{g e:AHeap}(hd:dis g e){k:Nat}{b:Blk}:dis (g.set k b) (e.del k):=fun j c hj=>by
 unfold Vl at hj;by_cases e1:j=k
 ·rw[if_pos e1]at hj;cases hj
 ·rw[if_neg e1]at hj
  rw[Vd _ _ e1];exact hd j c hj
def qbl(P:Program)(wz:World)(l:List Oper)(la:List Nat)(ly:Nat->List AVal×(Nat->AVal))(g₀:AHeap):List Oper->Slots->AHeap->(Slots->AHeap->Prop)->Prop
 |[],s,g,K=>K s g
 |o::r,s,g,K=>
  if qeT la o=true then qbL P wz l s o (lyO ly o)/\qbw P wz l la ly s r/\∀k,g k=none->qbl P wz l la ly g₀ r (putD s o.dst ((lyO ly o).2 k)) (g.set k ⟨(lyO ly o).1,0⟩) K
  else if ZW P o.op=2 then QO P wz l [o] s g₀ fun s' _=>qbl P wz l la ly g₀ r s' g K
   else qbw P wz l la ly s r/\∀e,dis g e->QO P wz l [o] s (uni g e) fun s' h'=>∃h1,Sub g₀ h1/\dis h1 e/\Sub (uni h1 e) h'/\qbl P wz l la ly g₀ r s' h1 K
theorem qvA{l:List Oper}{g₀:AHeap}{s:Slots}{h:AHeap}{K:Slots->AHeap->Prop}:qbl P wz l la ly g₀ [] s h K=K s h:=rfl
theorem Yi{l:List Oper}{g₀:AHeap}{o:Oper}{r:List Oper}{s:Slots}{h:AHeap}{K:Slots->AHeap->Prop}(ha:qeT la o=false)(hk:ZW P o.op=2)(hc:QO P wz l [o] s g₀ fun s' _=>qbl P wz l la ly g₀ r s' h K):qbl P wz l la ly g₀ (o::r) s h K:=by
 simp only[qbl,ha,hk,if_true,KW,if_false];exact hc
theorem qfP{l:List Oper}{g₀:AHeap}{o:Oper}{r:List Oper}{s:Slots}{h:AHeap}{K:Slots->AHeap->Prop}(ha:qeT la o=false)(hk:¬ZW P o.op=2)(hL:qbw P wz l la ly s r)(hc:∀e,dis h e->QO P wz l [o] s (uni h e) fun s' h'=>∃h1,Sub g₀ h1/\dis h1 e/\Sub (uni h1 e) h'/\qbl P wz l la ly g₀ r s' h1 K):qbl P wz l la ly g₀ (o::r) s h K:=by
 simp only[qbl,ha,hk,KW,if_false];exact⟨hL,hc⟩
theorem qoK{l:List Oper}{g₀:AHeap}{o:Oper}{r:List Oper}{s:Slots}{h:AHeap}{K:Slots->AHeap->Prop}(ha:qeT la o=true)(ho:qbL P wz l s o (lyO ly o))(hL:qbw P wz l la ly s r)(hc:∀k,h k=none->qbl P wz l la ly g₀ r (putD s o.dst ((lyO ly o).2 k)) (h.set k ⟨(lyO ly o).1,0⟩) K):qbl P wz l la ly g₀ (o::r) s h K:=by
 simp only[qbl,ha,if_true];exact⟨ho,hL,hc⟩
theorem qfO{l:List Oper}{g₀:AHeap}{K K':Slots->AHeap->Prop}(hk:∀s h,K s h->K' s h):∀{r:List Oper} {s:Slots} {h:AHeap},qbl P wz l la ly g₀ r s h K->qbl P wz l la ly g₀ r s h K'
 |[],s,h,ha=>hk _ _ ha
 |o::r,s,h,ha=>by
  simp only[qbl]at ha|-
  by_cases h1:qeT la o=true
  ·rw[if_pos h1]at ha|-
   exact⟨ha.1,ha.2.1,fun k q1=>qfO hk (ha.2.2 k q1)⟩
  ·rw[if_neg h1]at ha|-
   by_cases h2:ZW P o.op=2
   ·rw[if_pos h2]at ha|-
    exact qaL (fun s' h' hx=>qfO hk hx) ha
   ·rw[if_neg h2]at ha|-
    exact⟨ha.1,fun e he=>qaL (fun s' h' ⟨h1,x1,x2,x3,x4⟩=>⟨h1,x1,x2,x3,qfO hk x4⟩) (ha.2 e he)⟩
structure PreZ(P:Program)(wz:World)(n:FrameK)(la:List Nat)(ly:Nat->List AVal×(Nat->AVal))(l:List Oper)(π:List Nat)(hZ:AHeap)(K:Slots->AHeap->Prop)(listed:Array Bool)(Ps:PMap)(a:Act)(w:World)(p:Nat)(S:Slots)(g e:AHeap)(E:Nat->Nat):Prop where
 size:listed.size=l.length
 closed:∀j oj,l[j]?=some oj->listed.getD j false=true->∀e∈oj.after,Region.binds .any e=true->listed.getD e.on false=true
 tsize:a.tmps.size=n
 defers:a.defers=n.dfr
 ple:p<=π.length
 ahead:∀q,p<=q->q<π.length->isY la l (π.getD q 0)=false->listed.getD (π.getD q 0) false=false
 behind:∀q,q<p->isM P l π π.length (π.getD q 0)=false->listed.getD (π.getD q 0) false=true
 rel:HRel wz Ps (uni g e) w
 dis:dis g e
 sub0:Sub hZ g
 ev:qbl P wz l la ly hZ ((Zy l π).drop p) S g K
 fact:∀q o,q<p->l[π.getD q 0]?=some o->listed.getD (π.getD q 0) false=false->∃V,(∀t,o.dst=some t->S.get t=V)/\FactR P wz n l hZ S o V
 early:∀q o,p<=q->q<π.length->l[π.getD q 0]?=some o->isY la l (π.getD q 0)=true->listed.getD (π.getD q 0) false=true->e (E q)=some ⟨(lyO ly o).1,0⟩/\∀t,o.dst=some t->VR Ps ((lyO ly o).2 (E q)) (a.tmps.getD t undef)
 apart:∀q r,p<=q->p<=r->q<π.length->r<π.length->isY la l (π.getD q 0)=true->isY la l (π.getD r 0)=true->listed.getD (π.getD q 0) false=true->listed.getD (π.getD r 0) false=true->q≠r->E q≠E r
 slot:∀t,(∃q o,q<π.length/\l[π.getD q 0]?=some o/\o.dst=some t/\((q<p/\listed.getD (π.getD q 0) false=false)\/(p<=q/\listed.getD (π.getD q 0) false=true)))\/VR Ps (S.get t) (a.tmps.getD t undef)
theorem qkv{l:List Oper}(hall:Xl n l=true){π:List Nat}(F:FloatY P la l π π.length){hZ:AHeap}{K:Slots->AHeap->Prop}{listed:Array Bool}{Ps:PMap}{a:Act}{w:World}:∀(d p:Nat) (S:Slots) (g e:AHeap) (E:Nat->Nat),π.length-p=d->PreZ P wz n la ly l π hZ K listed Ps a w p S g e E->
 ∃p' S' g' e' E',PreZ P wz n la ly l π hZ K listed Ps a w p' S' g' e' E'/\(p'<π.length->isM P l π π.length (π.getD p' 0)=false/\listed.getD (π.getD p' 0) false=false):=by
 intro d;induction d with
 |zero=>intro p S g e E hd pre;exact⟨p,S,g,e,E,pre,fun h=>by omega⟩
 |succ d ih=>
  intro p S g e E hd pre;have hpl:p<π.length:=by omega
  obtain⟨o,ho⟩:∃o,l[π.getD p 0]?=some o:=⟨_,JA (F.inr p hpl)⟩
  have hev:=pre.ev;have notlook:∀q oq,q<=p->l[π.getD q 0]?=some oq->∀t,o.dst=some t->t∉QS l oq:=fun q oq h1 h2 t h3 ht=>by
   have:=(F.data q p oq o t (by omega) hpl h2 ho h3 ht).1;omega
  have uniq:∀q oq t,q≠p->q<π.length->l[π.getD q 0]?=some oq->oq.dst=some t->o.dst≠some t:=fun q oq t h1 h2 h3 h4 e=>by
   have:=((XP F.order ho).2 _ oq t h3 h4).1 e;exact h1 (F.inj p q hpl h2 this).symm
  cases hf:isM P l π π.length (π.getD p 0)with
  |true=>
   have hk2:ZW P o.op=2:=by
    rw[qiI hpl]at hf;unfold isF at hf;rw[ho]at hf;simpa using hf
   have hna:=F.notF _ (F.inr p hpl) hf;rw[ZZ F.inr hpl ho]at hev;simp only[qbl,((qfw ho).symm.trans hna),hk2,if_true,KW,if_false]at hev;obtain⟨V,hv,hfact⟩:=qgm hall hk2 hev;have hun:=pre.ahead p (KL _) hpl hna;refine ih (p+1) (putD S o.dst V) g e E (by omega) ⟨pre.size,pre.closed,pre.tsize,pre.defers,by omega,fun q h1 h2 h3=>pre.ahead q (by omega) h2 h3,fun q h1 h2=>?_,pre.rel,pre.dis,pre.sub0,hv,fun q oq h1 h2 h3=>?_,fun q oq h1 h2 h3 h4 h5=>pre.early q oq (by omega) h2 h3 h4 h5,fun q r h1 h2=>pre.apart q r (by omega) (by omega),fun t=>?_⟩
   ·rcases JC (EK h1)with e|e
    ·subst e;rw[hf]at h2;cases h2
    ·exact pre.behind q e h2
   ·rcases JC (EK h1)with e|e
    ·subst e
     rw[ho]at h2;obtain rfl:=Option.some.inj h2;exact⟨V,fun t ht=>by rw[Xv,if_pos ht],hfact.slots fun t ht=>by rw[Xv,if_neg fun e=>notlook q o (KL _) ho t e ht]⟩
    ·obtain⟨V',v1,v2⟩:=pre.fact q oq e h2 h3
     refine⟨V',fun t ht=>?_,v2.slots fun t ht=>?_⟩
     ·rw[Xv,if_neg (uniq q oq t (by omega) (by omega) h2 ht)];exact v1 t ht
     ·rw[Xv,if_neg fun e'=>notlook q oq (by omega) h2 t e' ht]
   ·by_cases hod:o.dst=some t
    ·exact .inl ⟨p,o,hpl,ho,hod, .inl ⟨by omega,hun⟩⟩
    ·rcases pre.slot t with⟨q,oq,c1,c2,c3,c4⟩|c
     ·refine .inl ⟨q,oq,c1,c2,c3,?_⟩
      rcases c4 with⟨c4,c5⟩|⟨c4,c5⟩
      ·exact .inl ⟨by omega,c5⟩
      ·refine .inr ⟨?_,c5⟩
       rcases JC c4 with e|e
       ·subst e;rw[hun]at c5;cases c5
       ·exact e
     ·right
      rw[Xv,if_neg hod];exact c
  |false=>
   cases hl:listed.getD (π.getD p 0) false with
   |false=>exact⟨p,S,g,e,E,pre,fun _=>⟨hf,hl⟩⟩
   |true=>
    have hA:isY la l (π.getD p 0)=true:=by
     cases hA:isY la l (π.getD p 0)with
     |true=>rfl
     |false=>rw[pre.ahead p (KL _) hpl hA]at hl;cases hl
    obtain⟨e3,e4⟩:=pre.early p o (KL _) hpl ho hA hl;have hgk:=pre.dis _ _ e3;rw[ZZ F.inr hpl ho]at hev;simp only[qbl,((qfw ho).symm.trans hA),if_true]at hev;refine ih (p+1) (putD S o.dst ((lyO ly o).2 (E p))) (g.set (E p) ⟨(lyO ly o).1,0⟩) (e.del (E p)) E (by omega) ⟨pre.size,pre.closed,pre.tsize,pre.defers,by omega,fun q h1 h2 h3=>pre.ahead q (by omega) h2 h3,fun q h1 h2=>?_,by rw[qvG pre.dis e3];exact pre.rel,qyh pre.dis,BL pre.sub0 (Vh hgk),hev.2.2 _ hgk,fun q oq h1 h2 h3=>?_,fun q oq h1 h2 h3 h4 h5=>?_,fun q r h1 h2=>pre.apart q r (by omega) (by omega),fun t=>?_⟩
    ·rcases JC (EK h1)with e|e
     ·subst e;exact hl
     ·exact pre.behind q e h2
    ·rcases JC (EK h1)with e|e
     ·subst e;rw[hl]at h3;cases h3
     ·obtain⟨V',v1,v2⟩:=pre.fact q oq e h2 h3
      refine⟨V',fun t ht=>?_,v2.slots fun t ht=>?_⟩
      ·rw[Xv,if_neg (uniq q oq t (by omega) (by omega) h2 ht)];exact v1 t ht
      ·rw[Xv,if_neg fun e'=>notlook q oq (by omega) h2 t e' ht]
    ·obtain⟨z1,z2⟩:=pre.early q oq (by omega) h2 h3 h4 h5
     refine⟨?_,z2⟩;have:=pre.apart q p (by omega) (KL _) h2 hpl h4 hA h5 hl (by omega);unfold Vl;rw[if_neg this];exact z1
    ·by_cases hod:o.dst=some t
     ·right
      rw[Xv,if_pos hod];exact e4 t hod
     ·rcases pre.slot t with⟨q,oq,c1,c2,c3,c4⟩|c
      ·refine .inl ⟨q,oq,c1,c2,c3,?_⟩
       rcases c4 with⟨c4,c5⟩|⟨c4,c5⟩
       ·exact .inl ⟨by omega,c5⟩
       ·refine .inr ⟨?_,c5⟩
        rcases JC c4 with e|e
        ·subst e;rw[ho]at c2;obtain rfl:=Option.some.inj c2;exact absurd c3 hod
        ·exact e
      ·right
       rw[Xv,if_neg hod];exact c
def qyY(P:Program)(wz:World)(n:FrameK)(la:List Nat)(ly:Nat->List AVal×(Nat->AVal))(l:List Oper)(π:List Nat)(hZ:AHeap)(K:Slots->AHeap->Prop)(listed:Array Bool)(Ps:PMap)(a:Act)(w:World):Prop:=
 ∃p S g e E,PreZ P wz n la ly l π hZ K listed Ps a w p S g e E/\(p<π.length->isM P l π π.length (π.getD p 0)=false/\listed.getD (π.getD p 0) false=false)
theorem qAo{l:List Oper}(hall:Xl n l=true){π:List Nat}(F:FloatY P la l π π.length){hZ:AHeap}{K:Slots->AHeap->Prop}{fi:PMap}{Q:Exit->Act->World->Prop}
 (hq:∀Ps S g a w,fi.le Ps->HRel wz Ps g w->SRel Ps n S a->K S g->Q .normal a w):∀(fuel:Nat) (listed:Array Bool) (a:Act) (w:World) (Ps:PMap),fi.le Ps->qyY P wz n la ly l π hZ K listed Ps a w->
 (listed.toList.filter (!·)).length<=fuel->wpAny P .any l.toArray Q fuel listed a w:=by
 have hB:=F.order;have fin:∀(listed:Array Bool) (a:Act) (w:World) (Ps:PMap),fi.le Ps->qyY P wz n la ly l π hZ K listed Ps a w->Region.ready .any l.toArray listed=[]->Q .normal a w:=by
  rintro listed a w Ps hle ⟨p,S,g,e,E,pre,stop⟩ hrd;have hal:=qaK hB pre.size hrd;have hp:p=π.length:=by
   rcases JC pre.ple with e|e
   ·exact e
   ·have:=(stop e).2
    rw[hal _ (F.inr p e)]at this;cases this
  subst hp;have hev:=pre.ev;rw[show(Zy l π).drop π.length=[] by rw[<-qak F.inr];simp]at hev;simp only[qbl]at hev;refine hq Ps S g a w hle (pre.rel.forget (Sub.uni _ _)) ⟨pre.tsize,pre.defers,fun t=>?_⟩ hev;rcases pre.slot t with⟨q,o,c1,c2,c3,c4⟩|c
  ·rcases c4 with⟨_,c5⟩|⟨c4,_⟩
   ·rw[hal _ (F.inr q c1)]at c5;cases c5
   ·omega
  ·exact c
 intro fuel;induction fuel with
 |zero=>
  intro listed a w Ps hle inv hc;have hrd:Region.ready .any l.toArray listed=[]:=by
   cases hrd:Region.ready .any l.toArray listed with
   |nil=>rfl
   |cons i r=>
    exfalso;have hm:i∈Region.ready .any l.toArray listed:=by rw[hrd];exact Jf
    obtain⟨h1,o,ho,_⟩:=mem_ready.1 hm;have hi:i<listed.size:=by
     have:l[i]?=some o:=by simpa using ho
     obtain⟨_,_,_,_,_,pre,_⟩:=inv;rw[pre.size];exact(JB.1 this).1
    have h2:listed.toList[i]?=some false:=by
     simp[JF,hi]at h1;simp[hi,h1]
    have:=J2 h2;have hmem:false∈listed.toList.filter (!·):=by simp[J3,this]
    have:=J4 hmem;omega
  exact⟨hrd,fin listed a w Ps hle inv hrd⟩
 |succ fuel ih=>
  intro listed a w Ps hle inv hc;refine⟨fun hrd=>fin listed a w Ps hle inv hrd,fun i hi=>?_⟩;obtain⟨p,S,g,e,E,pre,stop⟩:=inv;obtain⟨h1,o,ho,hedges⟩:=mem_ready.1 hi;have hol:l[i]?=some o:=by simpa using ho
  have hilt:i<l.length:=(JB.1 hol).1;have hisz:i<listed.size:=by rw[pre.size];exact hilt
  have hif:listed.getD i false=false:=by simp[JF,hisz]at h1|-;exact h1
  have hcount:((listed.setIfInBounds i true).toList.filter (!·)).length<=fuel:=by
   have h2:listed.toList[i]?=some false:=by
    simp[JF,hisz]at h1;simp[hisz,h1]
   have:=qaM listed.toList i h2;have e:(listed.setIfInBounds i true).toList=listed.toList.set i true:=by simp
   rw[e];omega
  have hdn:∀d,o.dst=some d->d<n:=fun d hd=>qbT l i d hall (by rw[Yv,hol];exact hd);obtain⟨q,hql,hqi⟩:=F.onto i hilt;have hoq:l[π.getD q 0]?=some o:=by rw[hqi];exact hol
  have looks:q<=p\/isY la l (π.getD q 0)=true->LookOk Ps n l o S a:=fun hqp=>⟨pre.tsize,pre.defers,fun t ht=>by
   rcases pre.slot t with⟨r,oj,c1,c2,c3,c4⟩|c
   ·exfalso
    have:=F.data q r o oj t hql c1 hoq c2 c3 ht;have hw:=this.2;rw[hqi]at hw;rcases c4 with⟨_,c5⟩|⟨c4,c5⟩
    ·rw[YF hol hedges hw]at c5
     cases c5
    ·rcases hqp with hqp|hqp
     ·omega
     ·have hra:=F.dataY q r o oj t hql c1 hqp hoq c2 c3 ht
      rw[pre.ahead r c4 c1 hra]at c5;cases c5
   ·exact c⟩
  have closed':∀j oj,l[j]?=some oj->(listed.setIfInBounds i true).getD j false=true->∀e∈oj.after,Region.binds .any e=true->(listed.setIfInBounds i true).getD e.on false=true:=fun j oj hj hl e he hb=>by
   by_cases e1:e.on=i
   ·rw[e1];exact set_self hisz
   ·rw[XG e1]
    by_cases e2:j=i
    ·subst e2
     rw[hol]at hj;obtain rfl:=Option.some.inj hj;exact hedges e he hb
    ·rw[XG e2]at hl
     exact pre.closed j oj hj hl e he hb
  have other:∀r,r<π.length->r≠q->(listed.setIfInBounds i true).getD (π.getD r 0) false=listed.getD (π.getD r 0) false:=fun r hr hne=>XG fun e=>hne (F.inj r q hr hql (by rw[e,hqi]));have self:(listed.setIfInBounds i true).getD (π.getD q 0) false=true:=by rw[hqi];exact set_self hisz
  have uniqd:∀r or t,r<π.length->r≠q->l[π.getD r 0]?=some or->or.dst=some t->o.dst≠some t:=fun r or t h1 h2 h3 h4 e=>by
   have:=((XP hB hoq).2 _ or t h3 h4).1 e;exact h2 (F.inj q r hql h1 this).symm
  have nobehind:isY la l (π.getD q 0)=false->p<q->False:=fun hna hpq=>by
   obtain⟨s1,s2⟩:=stop (by omega);obtain⟨r,r1,r2,r4,r3⟩:=F.wait q p hql hpq hna s1;rw[hqi]at r3;have hr:=YF hol hedges r3;rcases r4 with e|e
   ·subst e;rw[s2]at hr;cases hr
   ·rw[pre.ahead r r1 (by omega) e]at hr;cases hr
  have goal:(if Region.wanted o (yielded l.toArray a.tmps)=true then o.wp P a w (wpAny P .any l.toArray Q fuel (listed.setIfInBounds i true)) Q else wpAny P .any l.toArray Q fuel (listed.setIfInBounds i true) (a.put o.dst undef) w):=by
   cases hqa:isY la l (π.getD q 0)with
   |true=>
    have hnf:isM P l π π.length (π.getD q 0)=false:=by
     cases hf:isM P l π π.length (π.getD q 0)with
     |false=>rfl
     |true=>rw[F.notF _ (F.inr q hql) hf]at hqa;cases hqa
    have hpq:p<=q:=by
     refine Kt fun hlt=>?_;have:=pre.behind q hlt hnf;rw[hqi,hif]at this;cases this
    have hlay:qbL P wz l S o (lyO ly o):=by
     have hpl:p<π.length:=by omega
     obtain⟨op,hop⟩:∃o,l[π.getD p 0]?=some o:=⟨_,JA (F.inr p hpl)⟩
     have hev:=pre.ev;rw[ZZ F.inr hpl hop]at hev;have hyo:qeT la o=true:=(qfw hoq).symm.trans hqa;have hmem:p<q->o∈(Zy l π).drop (p+1):=fun hlt=>by
      have h1:=ZZ F.inr hql hoq;have h2:(Zy l π).drop q=((Zy l π).drop (p+1)).drop (q-(p+1)):=by rw[BP,show p+1+(q-(p+1))=q by omega]
      rw[h2]at h1;exact VF (by rw[h1];exact Jf)
     rcases JC hpq with e|e
     ·subst e
      rw[hoq]at hop;obtain rfl:=Option.some.inj hop;simp only[qbl,hyo,if_true]at hev;exact hev.1
     ·simp only[qbl]at hev
      by_cases h1:qeT la op=true
      ·rw[if_pos h1]at hev
       exact hev.2.1 o (hmem e) hyo
      ·rw[if_neg h1]at hev
       have hk2:¬ZW P op.op=2:=fun h2=>by
        have:=(stop hpl).1;rw[qiI hpl]at this;unfold isF at this;rw[hop]at this;simp[h2]at this
       rw[if_neg hk2]at hev;exact hev.1 o (hmem e) hyo
    refine qfr hall (hlay (uni g e)) pre.rel (looks (.inr hqa)) fun ψ' x h' v w' e1 e2 e3 ⟨k,k1,k2,k3⟩=>?_;subst k3;have hxk:∀t,o.dst=some t->x=(lyO ly o).2 k:=fun t ht=>by
     have:=congrArg (fun s:Slots=>s.get t) k2;simp only[Xv,ht,if_true]at this;exact this
    have eold:∀{j b},e j=some b->j≠k:=fun{j b} hj he=>by
     rw[he,(qhm k1).2]at hj;cases hj
    have pre':PreZ P wz n la ly l π hZ K (listed.setIfInBounds i true) ψ' (a.put o.dst v) w' p S g (e.set k ⟨(lyO ly o).1,0⟩) (fun r=>if r=q then k else E r):=by
     refine⟨by simp[pre.size],closed',by rw[WZ];exact pre.tsize,by rw[put_defers];exact pre.defers,pre.ple,fun r r1 r2 r3=>?_,fun r r1 r2=>?_,by rw[qzh k1];exact e2,qzN pre.dis k1,pre.sub0,pre.ev,fun r oj r1 r2 r3=>?_,fun r oj r1 r2 r3 r4 r5=>?_,fun r r' r1 r2 r3 r4 r5 r6 r7 r8 r9=>?_,fun t=>?_⟩
     ·have hne:r≠q:=fun e=>by subst e;rw[hqa]at r3;cases r3
      rw[other r r2 hne];exact pre.ahead r r1 r2 r3
     ·rw[other r (by have:=pre.ple;omega) (by omega)];exact pre.behind r r1 r2
     ·rw[other r (by have:=pre.ple;omega) (by omega)]at r3
      exact pre.fact r oj r1 r2 r3
     ·by_cases er:r=q
      ·subst er
       rw[hoq]at r3;obtain rfl:=Option.some.inj r3;simp only[if_true];refine⟨Ve _ _ _,fun t ht=>?_⟩;rw[Yg a ht (by rw[pre.tsize];exact hdn t ht),<-hxk t ht];exact e3
      ·rw[other r r2 er]at r5
       obtain⟨q3,q4⟩:=pre.early r oj r1 r2 r3 r4 r5;simp only[er,if_false];refine⟨(Vd _ _ (eold q3)).trans q3,fun t ht=>?_⟩;rw[Zo a (uniqd r oj t r2 er r3 ht)];exact Ye e1 _ _ (q4 t ht)
     ·have old:∀z,z<π.length->p<=z->isY la l (π.getD z 0)=true->(listed.setIfInBounds i true).getD (π.getD z 0) false=true->z≠q->E z≠k:=fun z z1 z2 z3 z4 z5=>by
       rw[other z z1 z5]at z4;obtain⟨oz,hoz⟩:∃o,l[π.getD z 0]?=some o:=⟨_,JA (F.inr z z1)⟩
       exact eold (pre.early z oz z2 z1 hoz z3 z4).1
      by_cases er:r=q
      ·have er':r'≠q:=fun e=>r9 (er.trans e.symm)
       rw[if_pos er,if_neg er'];exact(old r' r4 r2 r6 r8 er').symm
      ·rw[if_neg er]
       by_cases er':r'=q
       ·rw[if_pos er']
        exact old r r3 r1 r5 r7 er
       ·rw[if_neg er']
        rw[other r r3 er]at r7;rw[other r' r4 er']at r8;exact pre.apart r r' r1 r2 r3 r4 r5 r6 r7 r8 r9
     ·by_cases hod:o.dst=some t
      ·exact .inl ⟨q,o,hql,hoq,hod, .inr ⟨hpq,self⟩⟩
      ·rcases pre.slot t with⟨r,oj,c1,c2,c3,c4⟩|c
       ·have hne:r≠q:=fun e=>by subst e;rw[hoq]at c2;obtain rfl:=Option.some.inj c2;exact hod c3
        exact .inl ⟨r,oj,c1,c2,c3,by rw[other r c1 hne];exact c4⟩
       ·right
        rw[Zo a hod];exact Ye e1 _ _ c
    obtain⟨p',S',g',e',E',pre2,stop2⟩:=qkv hall F _ _ _ _ _ _ rfl pre';exact ih _ _ _ ψ' (J7 hle e1) ⟨p',S',g',e',E',pre2,stop2⟩ hcount
   |false=>
    rcases KU q p with hqp|hqp
    ·
     obtain⟨V,v1,v2⟩:=pre.fact q o hqp hoq (by rw[hqi];exact hif);refine v2 Ps w a (uni g e) _ Q (BL pre.sub0 (Sub.uni _ _)) pre.rel (looks (.inl (by omega))) fun v hv=>?_;refine ih _ _ _ Ps hle ⟨p,S,g,e,E,⟨by simp[pre.size],closed',by rw[WZ];exact pre.tsize,by rw[put_defers];exact pre.defers,pre.ple,fun r r1 r2 r3=>?_,fun r r1 r2=>?_,pre.rel,pre.dis,pre.sub0,pre.ev,fun r oj r1 r2 r3=>?_,fun r oj r1 r2 r3 r4 r5=>?_,fun r r' r1 r2 r3 r4 r5 r6 r7 r8 r9=>?_,fun t=>?_⟩,fun hp=>?_⟩ hcount
     ·rw[other r r2 (by omega)];exact pre.ahead r r1 r2 r3
     ·by_cases e:r=q
      ·rw[e];exact self
      ·rw[other r (by have:=pre.ple;omega) e];exact pre.behind r r1 r2
     ·by_cases e:r=q
      ·rw[e,self]at r3;cases r3
      ·rw[other r (by have:=pre.ple;omega) e]at r3
       exact pre.fact r oj r1 r2 r3
     ·rw[other r r2 (by omega)]at r5
      obtain⟨q3,q4⟩:=pre.early r oj r1 r2 r3 r4 r5;refine⟨q3,fun t ht=>?_⟩;rw[Zo a (uniqd r oj t r2 (by omega) r3 ht)];exact q4 t ht
     ·rw[other r r3 (by omega)]at r7
      rw[other r' r4 (by omega)]at r8;exact pre.apart r r' r1 r2 r3 r4 r5 r6 r7 r8 r9
     ·by_cases hod:o.dst=some t
      ·right
       rw[v1 t hod,Yg a hod (by rw[pre.tsize];exact hdn t hod)];exact hv
      ·rcases pre.slot t with⟨r,oj,c1,c2,c3,c4⟩|c
       ·have hne:r≠q:=fun e=>by subst e;rw[hoq]at c2;obtain rfl:=Option.some.inj c2;exact hod c3
        exact .inl ⟨r,oj,c1,c2,c3,by rw[other r c1 hne];exact c4⟩
       ·right
        rw[Zo a hod];exact c
     ·rw[other p hp (by omega)];exact stop hp
    ·have hqe:q=p:=by
      rcases JC hqp with e|e
      ·exact e.symm
      ·exact(nobehind hqa e).elim
     subst hqe;have hnf:isM P l π π.length (π.getD q 0)=false:=(stop hql).1;have hk2:¬ZW P o.op=2:=fun h2=>by
      rw[qiI hql]at hnf;unfold isF at hnf;rw[hoq]at hnf;simp[h2]at hnf
     have hev:=pre.ev;rw[ZZ F.inr hql hoq]at hev;simp only[qbl,((qfw hoq).symm.trans hqa),hk2,if_false,KW]at hev;refine qfr hall (hev.2 e pre.dis) pre.rel (looks (.inl (KL _))) fun ψ' x h' v w' e1 e2 e3 hk=>?_;obtain⟨h1',k1,k2,k3,k4⟩:=hk;have pre':PreZ P wz n la ly l π hZ K (listed.setIfInBounds i true) ψ' (a.put o.dst v) w' (q+1) (putD S o.dst x) h1' e E:=by
      refine⟨by simp[pre.size],closed',by rw[WZ];exact pre.tsize,by rw[put_defers];exact pre.defers,by omega,fun r r1 r2 r3=>?_,fun r r1 r2=>?_,e2.forget k3,k2,k1,k4,fun r oj r1 r2 r3=>?_,fun r oj r1 r2 r3 r4 r5=>?_,fun r r' r1 r2 r3 r4 r5 r6 r7 r8 r9=>?_,fun t=>?_⟩
      ·rw[other r r2 (by omega)];exact pre.ahead r (by omega) r2 r3
      ·by_cases e:r=q
       ·rw[e];exact self
       ·rw[other r (by omega) e];exact pre.behind r (by omega) r2
      ·by_cases e:r=q
       ·rw[e,self]at r3;cases r3
       ·rw[other r (by omega) e]at r3
        have hrq:r<q:=by omega
        obtain⟨V,v1,v2⟩:=pre.fact r oj hrq r2 r3;refine⟨V,fun t ht=>?_,v2.slots fun t ht=>?_⟩
        ·rw[Xv,if_neg (uniqd r oj t (by omega) e r2 ht)];exact v1 t ht
        ·rw[Xv,if_neg fun e'=>by
          have:=(F.data r q oj o t (by omega) hql r2 hoq e' ht).1;omega]
      ·rw[other r r2 (by omega)]at r5
       obtain⟨q3,q4⟩:=pre.early r oj (by omega) r2 r3 r4 r5;refine⟨q3,fun t ht=>?_⟩;rw[Zo a (uniqd r oj t r2 (by omega) r3 ht)];exact Ye e1 _ _ (q4 t ht)
      ·rw[other r r3 (by omega)]at r7
       rw[other r' r4 (by omega)]at r8;exact pre.apart r r' (by omega) (by omega) r3 r4 r5 r6 r7 r8 r9
      ·by_cases hod:o.dst=some t
       ·right
        rw[Xv,if_pos hod,Yg a hod (by rw[pre.tsize];exact hdn t hod)];exact e3
       ·rcases pre.slot t with⟨r,oj,c1,c2,c3,c4⟩|c
        ·have hne:r≠q:=fun e=>by subst e;rw[hoq]at c2;obtain rfl:=Option.some.inj c2;exact hod c3
         refine .inl ⟨r,oj,c1,c2,c3,?_⟩;rw[other r c1 hne];rcases c4 with⟨c4,c5⟩|⟨c4,c5⟩
         ·exact .inl ⟨by omega,c5⟩
         ·exact .inr ⟨by omega,c5⟩
        ·right
         rw[Xv,if_neg hod,Zo a hod];exact Ye e1 _ _ c
     obtain⟨p',S',g',e',E',pre2,stop2⟩:=qkv hall F _ _ _ _ _ _ rfl pre';exact ih _ _ _ ψ' (J7 hle e1) ⟨p',S',g',e',E',pre2,stop2⟩ hcount
  simp only[wpOp,ho];split
  ·rename_i hw
   rw[if_pos hw]at goal;exact .inl goal
  ·rename_i hw
   rw[if_neg hw]at goal;exact goal
theorem qsK{Q:Exit->Slots->AHeap->Prop}{s:Slots}{h g₀:AHeap}{id:Nat}{l:List Oper}(π:List Nat)(ws:List (Option Nat))(la:List Nat)(ly:Nat->List AVal×(Nat->AVal))(hm:P.follows .mixedOrders=true)(hB:qiL P la l π ws π.length=true)(hd:Xl n l=true)(hg:Sub g₀ h)
 (hc:qbl P wz l la ly g₀ (Zy l π) s h fun s' h'=>Q .normal s' h'):Awp P wz n (.region id l.toArray true) Q s h:=by
 refine Awp.of0 ?_;intro fi a w hr hs;have F:=qjz hB;refine wp_region_any hm ?_;have hf:∀j,(Jy l.toArray.size false).getD j false=false:=fun j=>by simp[JF]
 have pre:PreZ P wz n la ly l π g₀ (fun s' h'=>Q .normal s' h') (Jy l.toArray.size false) fi a w.drew 0 s h (fun _=>none) (fun _=>0):=
  ⟨by simp,fun j oj _ hl=>(by rw[hf]at hl;cases hl),hs.size,hs.defers,Jt _,fun q _ _ _=>hf _,fun q h1=>by omega,by rw[qtL];exact hr.drew,fun k b he=>(by cases he),hg,(by rw[KQ];exact hc),fun q o h1=>by omega,fun q o _ _ _ _ h5=>(by rw[hf]at h5;cases h5),fun q r _ _ _ _ _ _ h7=>(by rw[hf]at h7;cases h7),fun t=> .inr (hs.val t)⟩
 obtain⟨p',S',g',e',E',pre2,stop2⟩:=qkv hd F _ _ _ _ _ _ rfl pre;refine qAo (fi:=fi) hd F (K:=fun s' h'=>Q .normal s' h') (fun Ps S g a' w' hle h1 h2 h3=>⟨Ps,S,g,hle,h1,h2,h3⟩) _ _ _ _ fi fi.le_refl ⟨p',S',g',e',E',pre2,stop2⟩ ?_;have:=Va (!·) (Jy l.toArray.size false).toList;simpa using this
theorem qsH{Q:Exit->Slots->AHeap->Prop}{s:Slots}{h g₀:AHeap}{id:Nat}{l:List Oper}{y:Code}(π:List Nat)(ws:List (Option Nat))(la:List Nat)(ly:Nat->List AVal×(Nat->AVal))(L:List Nat)(hm:P.follows .mixedOrders=true)(hB:qiL P la l π ws π.length=true)(hd:Xl n l=true)(hg:Sub g₀ h)
 (hc:∀K:Slots->AHeap->Prop,(∀s h,Awp P wz n y Q s h->K s h)->qbl P wz l la ly g₀ (Zy l π) s h fun s' h'=>K (s'.keep L) h'):Awp P wz n (.seq (.region id l.toArray true) y) Q s h:=
 qJ (qsK π ws la ly hm hB hd hg (qfO (fun _ _ hk=>Vb L hk) (hc (fun s h=>Awp P wz n y Q s h) (fun _ _ hk=>hk))))
end
end Go.AM
namespace Go.Proofs.YtlhhaagmakhilaaGreatDoor
open Go.AM
open Go.Proofs
open Go.Col (Str FaultC okF sp)
open Go.Tok
open Go.Cop
open Go.RowKit (Below)
set_option maxRecDepth 100000
abbrev RecT:=List TokC->List Str->Xs->Xr
def qvr(B:AHeap)(X:Xr)(r:AVal)(h':AHeap):Prop:=match X with
 | .bad f=>r= .tuple [.nilSlice, .nilSlice,QC f]/\f.e≠0/\Sub B h'
 | .ok out st=>∃(tb nb:Option Buf) (C:AHeap),r= .tuple [QH 5 tb,QH 1 nb,QC okF]/\Sub B C/\bufOk C 5 tb/\Yh tb=(out.map QI).flatten/\bufOk (Ql C tb) 1 nb/\Yh nb=(st.names.map Ut).flatten/\Sub (Ql (Ql C tb) nb) h'/\st.names.length<=st.copies
def qoJ:Blk:=⟨[.int .i64 0, .int .i64 0, .int .i64 0],0⟩
structure RxG where
 i:Nat
 i0:Nat
 out:List TokC
 st:Xs
 ns:List Nat
 G:AHeap
 tb:Option Buf
 nb:Option Buf
structure RxOk(B:AHeap)(k0:Nat)(mem:List MemC)(op:List Str)(rec:RecT)(l:List TokC)(X:Xr)(s:RxG):Prop where
 sub:Sub B s.G
 cell:s.G k0=some qoJ
 tok:bufOk s.G 5 s.tb
 teq:Yh s.tb=((s.out++ZT l s.i0 s.i).map QI).flatten
 nok:bufOk (Ql s.G s.tb) 1 s.nb
 neq:Yh s.nb=(s.st.names.map Ut).flatten
 few:s.st.names.length<=s.st.copies
 ok:StpOk op l s.i0 s.out s.st s.ns
 le:s.i0<=s.i/\s.i<=l.length/\s.i<=Xm l s.i0
 go:qlc false mem op rec l s.i0 s.out s.st=X
theorem qzj{op:List Str}{l out:List TokC}{i:Nat}{st:Xs}{ns:List Nat}(H:StpOk op l i out st ns)(hi:i=0):l.length<=100000:=by
 subst hi;have h1:=congrArg BR H.raw;rw[Jp,KQ]at h1;have h2:=(qcm H.lt).2;have h3:=H.phi;have h4:ns.length*12<=ns.length*X op.length:=Nat.mul_le_mul_left _ (by unfold X;split<;>omega);omega
theorem qsZ{op:List Str}{l out:List TokC}{i:Nat}{st:Xs}{ns:List Nat}(H:StpOk op l i out st ns):out.length<=65536:=by
 have:=qeJ op.length out;have:=H.phi;omega
theorem qyk{l:List TokC}{i j:Nat}(hi:i<=j)(hj:j<l.length):ZT l i (j+1)=ZT l i j++[l.getD j Zi]:=by
 unfold ZT;rw[show j+1-i=(j-i)+1 by omega,List.take_add_one,List.getElem?_drop,show i+(j-i)=j by omega,JA hj,Ko,JA hj];rfl
theorem qpL(l:List TokC)(i:Nat):ZT l i i=[]:=by unfold ZT;rw[Nat.sub_self,List.take_zero]
theorem qzO{l:List TokC}{i:Nat}:ZT l i l.length=l.drop i:=by
 unfold ZT;exact Jr (by rw[K6];exact KL _)
theorem qlo{l:List TokC}{i j:Nat}(h1:i<=j)(h2:j<=Xm l i)(hi:i<=l.length):Xm l j=Xm l i:=by
 obtain⟨d,rfl⟩:∃d,j=i+d:=⟨j-i,by omega⟩
 clear h1;induction d with
 |zero=>rfl
 |succ d ih=>
  have h3:=ih (by omega);have h4:=qap hi;have h5:=qdO (l:=l) (i:=i+d) (by omega);by_cases hw:XH l (i+d) COPY=true
  ·rw[if_pos hw]at h5
   omega
  ·rw[if_neg hw]at h5
   rw[<-h3,h5];rfl
theorem qCo{B:AHeap}{ea eb ec:Nat}{a b c:Option Buf}(ha:bufOk B ea a)(hb:bufOk (Ql B a) eb b)(hc:bufOk (Ql (Ql B a) b) ec c):
 Ql (Ql (Ql B a) b) c=Ql (Ql (Ql B c) a) b/\bufOk B ec c/\bufOk (Ql B c) ea a/\bufOk (Ql (Ql B c) a) eb b:=by
 obtain⟨a1,a2,a3⟩:=qbK hb hc;obtain⟨b1,b2,b3⟩:=qbK ha a2;rw[b1]at a1 a3;exact⟨a1,b2,b3,a3⟩
theorem set2{G:AHeap}{ea eb k:Nat}{a b:Option Buf}(ha:bufOk G ea a)(hb:bufOk (Ql G a) eb b)(hk:Ql (Ql G a) b k=none)(c:Blk):
 (Ql (Ql G a) b).set k c=Ql (Ql (G.set k c) a) b/\bufOk (G.set k c) ea a/\bufOk (Ql (G.set k c) a) eb b/\G k=none:=by
 have h1:=Bi (BJ hb) hk;obtain⟨x1,x2⟩:=qcp (es:=eb) hk c;obtain⟨y1,y2⟩:=qcp (es:=ea) h1 c;rw[y1]at x1 x2;exact⟨x1,y2 ha,x2 hb,Bi (BJ ha) h1⟩
theorem qhl{g e:AHeap}{k:Nat}{c:Blk}(h:e k=none):uni (g.set k c) e=(uni g e).set k c:=by
 funext j;by_cases e1:j=k
 ·subst e1
  rw[Wj (Ve _ _ _),Ve]
 ·rw[Vd _ _ e1]
  cases hg:g j with
  |some b=>rw[Wj hg,Wj ((Vd _ _ e1).trans hg)]
  |none=>rw[Ww hg,Ww ((Vd _ _ e1).trans hg)]
theorem qoj{g e:AHeap}{k:Nat}{c:Blk}(hd:dis g e)(hg:g k=some c):e k=none:=by
 cases he:e k with
 |none=>rfl
 |some b=>rw[hd k b he]at hg;cases hg
theorem qjY{g e:AHeap}{es:Nat}{b:Option Buf}(hd:dis g e)(hb:bufOk (uni g e) es b):bufOk g es b/\dis (Ql g b) e/\uni (Ql g b) e=Ql (uni g e) b:=by
 cases b with
 |none=>exact⟨trivial,hd,rfl⟩
 |some b=>
  obtain⟨h1,h2⟩:=qhm hb.1;refine⟨⟨h1,hb.2⟩,fun j c hj=>?_,qhl h2⟩;have hne:j≠b.blk:=fun e1=>by rw[e1,h2]at hj;cases hj
  exact(Vd _ _ hne).trans (hd j c hj)
theorem qoO{g e:AHeap}{es:Nat}{b:Option Buf}(hb:bufOk g es b)(hd:dis (Ql g b) e):dis g e/\bufOk (uni g e) es b/\uni (Ql g b) e=Ql (uni g e) b:=by
 cases b with
 |none=>exact⟨hd,trivial,rfl⟩
 |some b=>
  have h2:e b.blk=none:=qoj hd (Ve _ _ _);refine⟨fun j c hj=>Bi (Vh hb.1) (hd j c hj),⟨(Ww hb.1).trans h2,hb.2⟩,qhl h2⟩
theorem qtP{X e C:AHeap}(hd:dis X e)(hs:Sub (uni X e) C):∃C1,Sub X C1/\dis C1 e/\uni C1 e=C:=by
 refine⟨fun j=>match e j with|some _=>none|none=>C j,fun j c hj=>?_,fun j c hj=>?_,?_⟩
 ·have:=qoj hd hj
  simp only[this];exact hs j c (Wj hj)
 ·simp only[hj]
 ·funext j
  cases he:e j with
  |some b=>
   rw[Ww (by simp only[he]),he];exact(hs j b (Sub.uni2 hd j b he)).symm
  |none=>
   cases hc:C j with
   |some b=>exact Wj (by simp only[he];exact hc)
   |none=>rw[Ww (by simp only[he];exact hc),he]
theorem qkW(l:List Str):Qt ((l.map Ut).flatten)=true:=YT.2 fun x hx=>by obtain⟨y,_,rfl⟩:=JH.1 hx;rfl
theorem qtW{X e B1:AHeap}{R:Xr}{r:AVal}{h':AHeap}(hd:dis X e)(hB:Sub B1 X)(hr:qvr (uni X e) R r h'):
 ∃(iv mv:AVal) (f:FaultC) (h1:AHeap),r= .tuple [iv,mv,QC f]/\iv.live=true/\mv.live=true/\Sub B1 h1/\dis h1 e/\Sub (uni h1 e) h'/\((f.e≠0/\R= .bad f)\/
  (f=okF/\∃out st tb nb C,R= .ok out st/\iv=QH 5 tb/\mv=QH 1 nb/\h1=Ql (Ql C tb) nb/\Sub X C/\bufOk C 5 tb/\Yh tb=(out.map QI).flatten/\bufOk (Ql C tb) 1 nb/\Yh nb=(st.names.map Ut).flatten/\st.names.length<=st.copies)):=by
 cases R with
 |bad f=>
  obtain⟨h1,h2,h3⟩:=hr;exact⟨_,_,f,X,h1,rfl,rfl,hB,hd,h3, .inl ⟨h2,rfl⟩⟩
 |ok out st=>
  obtain⟨tb,nb,C,h1,h2,h3,h4,h5,h6,h7,h8⟩:=hr;obtain⟨C1,s1,s2,s3⟩:=qtP hd h2;subst s3;obtain⟨u1,u2,u3⟩:=qjY s2 h3;rw[<-u3]at h5 h7;obtain⟨v1,v2,v3⟩:=qjY u2 h5;rw[<-v3]at h7;exact⟨_,_,okF,_,h1,QP _ _,QP _ _,((hB.trans s1).trans (BJ u1)).trans (BJ v1),v2,h7, .inr ⟨rfl,out,st,tb,nb,C1,rfl,rfl,rfl,rfl,s1,u1,h4,v1,h6,h8⟩⟩
theorem quH(l:List TokC)(c a:Nat):(qao l c a).e≠0:=by
 unfold qao;split<;>simp
def qDi(wz:World)(mem:List MemC)(op:List Str)(rec:RecT):Prop:=
 ∀(B:AHeap) (v mv ov:AVal) (nb:Option Buf) (m:MemC) (t:Str) (st:Xs) (ns:List Nat),bufOk B 1 nb->Yh nb=(st.names.map Ut).flatten->st.names.length<=st.copies->
  IsL wz B 5 v (m.toks.map QI)->IsMems wz B mv mem->IsL wz B 1 ov ((op++[t]).map Ut)->UJ mem t=some m->op.length<3->(op++[t]).Nodup->(∀x∈op++[t],UJ mem x≠none)->StpOk (op++[t]) m.toks 0 [] st ns->
  ACall Tryz.prog wz 12 [v,mv,ov,QH 1 nb] (Ql B nb) (fun r h'=>qvr B (rec m.toks (op++[t]) st) r h')/\
   ∀o s,rec m.toks (op++[t]) st= .ok o s->Phi (op.length+1) o<=ns.length*X (op.length+1)/\s.copies<=st.copies+ns.length*Y (op.length+1)
set_option maxHeartbeats 4000000 in
theorem qnk(wz:World)(mem:List MemC)(hL:Lib mem)(hml:mem.length<=1000)(rec:RecT)(op:List Str)(hrec:qDi wz mem op rec)(B:AHeap)(v mv ov:AVal)(nb:Option Buf)(l:List TokC)(st:Xs)(ns:List Nat)(hn1:bufOk B 1 nb)(hn2:Yh nb=(st.names.map Ut).flatten)(hn3:st.names.length<=st.copies)
 (hv:IsL wz B 5 v (l.map QI)) (hmv:IsMems wz B mv mem) (hov:IsL wz B 1 ov (op.map Ut)) (h3:op.length<=3) (hnd:op.Nodup) (hop:∀x∈op,UJ mem x≠none) (hst:StpOk op l 0 [] st ns) (X:Xr) (hX:qlc false mem op rec l 0 [] st=X):
 ACall Tryz.prog wz 12 [v,mv,ov,QH 1 nb] (Ql B nb) (fun r h'=>qvr B X r h'):=by
 have hl:=qzj hst rfl;have hlv:=hv.live;have nv:=Zc hv;have hol:=hov.live;have no:=qes hov;have hmv0:=hmv;obtain⟨qs,hmq,hm1,hm2⟩:=hmv0;have hml':=hm1.live;have nm:=qtn hm1;have hqm:mem.length=qs.length:=by rw[hmq,Jp]
 have hbn:=QP 1 nb;have hsB:Sub B (Ql B nb):=BJ hn1;refine qU (n:=137) (rs:=[.tmp 8, .tmp 9, .cell 10 35]) Tryz.func12 rfl rfl rfl rfl (VN rfl) ?_;simp only[Qg];refine awp_rseq [0,1,2,3,10] (by rfl) fun K hK=>?_;simp+decide only[ev,qH,qG,putD,VO,if_false,Kb,↓qd,qb,Js,Nat.reduceAdd];refine Qi qaE (cs:=[.int .i64 0, .int .i64 0, .int .i64 0]) (by rfl) fun k0q2 hk0q2=>?_;try have hf_0q2:((Ql B nb)) k0q2=none:=by first|assumption|(simp only[V9]at hk0q2;simp only[hk0q2])
 simp+decide only[qa,putD,VO,VP,Ka];apply hK;clear hK K;refine awp_rseq [0,1,2,3,10,11] (by rfl) fun K hK=>?_;simp+decide only[qa,ev,qH,qG,putD,VO,VP,Ka,Kb,↓qd,qb];apply hK;clear hK K;refine qJ ?_;refine awp_rseq [0,1,2,3,10,11,12] (by rfl) fun K hK=>?_;simp+decide only[qa,ev,qH,qG,putD,VO,VP,Ka,Kb,↓qd,qb];apply hK;clear hK K;refine Qm ?_;refine XC [0,1,2,3,10,11,12] (fun s:RxG=>[(0,v),(1,mv),(2,ov),(3,QH 1 s.nb),(10, .ptr (.own k0q2) 0),(11,QH 5 s.tb),(12, .int .i64 s.i)]) (fun s:RxG=>Ql (Ql s.G s.tb) s.nb) (fun s:RxG=>RxOk B k0q2 mem op rec l X s) (fun s:RxG=>l.length-s.i) ⟨0,0,[],st,ns,B.set k0q2 qoJ,none,nb⟩ (by rfl) (by rw[show(⟨[.int .i64 0, .int .i64 0, .int .i64 0],0⟩:Blk)=qoJ from rfl,(qcp (es:=1) hf_0q2 qoJ).1];exact Vm _) ⟨Vh (Bi hsB hf_0q2),Ve _ _ _,trivial,rfl,(qcp (es:=1) hf_0q2 qoJ).2 hn1,hn2,hn3,hst,⟨KL _,Jt _,Jt _⟩,hX⟩ ?_;rintro⟨i,i0,out,st,ns,G,tb,nb⟩ ⟨g1,g2,g3,g4,g5,g6,g7,g8,⟨g9,g10,g11⟩,g12⟩;simp only at g1 g2 g3 g4 g5 g6 g7 g8 g9 g10 g11 g12|-
 obtain⟨H1,hH1⟩:∃H1,H1=Ql (Ql G tb) nb:=⟨_,rfl⟩
 have hGH:Sub G H1:=by rw[hH1];exact(BJ g3).trans (BJ g5)
 have hs_H1:Sub B H1:=g1.trans hGH;have eb_0q2:H1 k0q2=some ⟨[.int .i64 0, .int .i64 0, .int .i64 0],0⟩:=hGH _ _ g2;rw[<-hH1];have hbn:=QP 1 nb;have hbt:=QP 5 tb;have hvl:=hv.mono hs_H1;have hf_0q2:B k0q2=none:=Bi hsB hf_0q2;refine qJ ?_;refine awp_rseq [0,1,2,3,10,11,12,22] (by rfl) fun K hK=>?_;simp+decide only[qa,ev,putD,VO,VQ,VP,Ka,Kb,↓qg,qc,↓Xe,Qw,↓qw,qm,qR,cond_false,qo,XZ,nv];apply hK;clear hK K;refine qI (b:=_) rfl (fun hb1=>?_) (fun hb1=>?_)
 ·try simp only[decide_eq_true_eq]at hb1
  have hi:i<l.length:=by omega
  obtain⟨W,hW⟩:∃W,W=XH l i COPY:=⟨_,rfl⟩
  refine qP ?_;change Awp _ _ _ _ _ _ _;refine Qm ?_;refine qJ ?_;refine awp_rseq [0,1,2,3,10,11,12,26] (by rfl) fun K hK=>?_;simp+decide only[ev,putD,VO,VQ,Ka,Kb,↓qg,qc];refine qO (V:= .bool W) (by rfl) (by rfl) (by rw[hW];exact qlt wz _ _ l i COPY hvl (by omega)) ?_;simp+decide only[qa,ev,putD,VO,VQ,VP,Ka,Kb,↓YI,Zl,YC];apply hK;clear hK K;refine qI (b:=_) rfl (fun hb2=>?_) (fun hb2=>?_)
  ·try simp only[Jj]at hb2
   obtain⟨w1,w2,w3⟩:=qbK g3 g5;have hw0:XH l i COPY=false:=by rw[<-hW];simpa using hb2
   obtain⟨lc,o,c,hve⟩:=YD hv (by omega);have hvl':=hvl;rw[hve]at hvl';obtain⟨e0,e1,e2,e3,e4⟩:=YP hvl' hi;obtain⟨t,ht⟩:∃t,t=l.getD i Zi:=⟨_,rfl⟩
   rw[<-ht]at e0 e1 e2 e3 e4;have e2':rd wz H1 lc (o+i*5+1+1)= .int .i64 t.line:=e2;have e3':rd wz H1 lc (o+i*5+1+1+1)= .int .i64 t.col:=e3;have e4':rd wz H1 lc (o+i*5+1+1+1+1)= .bool t.left:=e4;have hcn:=qyk g9 hi;rw[<-ht]at hcn;have hol2:(out++ZT l i0 i).length<=200000:=by
    have h1:=qsZ g8;have h2:=qig l i0 i;rw[Jc];omega
   refine awp_rseq [0,1,2,3,10,11,12] (by rfl) fun K hK=>?_;simp+decide only[ev,putD,VO,VQ,Ka,Kb,↓qg,qc,↓QE,qY,qW Tryz.underlying26 Xb,↓qF,qh ZB Xb,qf,qD,qi,qE,allLive,JU,hve,e0,e1,e2',e3',e4',Vr];repeat (with_reducible refine And.intro ?_ ?_;· first|trivial|omega|(intro hg;simp only[Ky,JW,Jj,VS,VT,VU,decide_eq_true_eq,decide_eq_false_iff_not,XY]at hg;omega))
   refine Qr (cs:=QI t) (by kernel_rfl) fun k5q5 hk5q5=>?_;have hn_5q5:H1 k5q5=none:=by first|assumption|(simp only[V9]at hk5q5;simp only[hk5q5])
   have hf_5q5:B k5q5=none:=Bi hs_H1 hn_5q5;have ne_5q5_0q2:k5q5≠k0q2:=Bj hn_5q5 eb_0q2;refine Xt (es:=5) (zs:=(out++ZT l i0 i).map QI) (xs:=[t].map QI) (hZ:=Ql G nb) (b:=tb) (by rfl) (by rfl) Tryz.underlying26 Tryz.underlying26 (fun k e=>by cases e) Xb qha qat (by rfl) (by decide) (by rfl) w3 g4 Xn (by rw[<-w1,<-hH1];exact Vh (by assumption)) (by rfl) (Ba (xs:=[t].map QI) (Ve _ _ _) (Xn (l:=[t])) (by rfl) (WJ _) (.exact 1) (KL _)) (by rfl) (by simp only[Jp,KY,J9];omega) (by simp only[Jp,KY,J9];omega) fun tb2 h5 y1 y2 y3=>?_;obtain⟨z1,z2,z3⟩:=qbK w2 y1;have hbt2:=QP 5 tb2;simp+decide only[qa,ev,putD,VO,VQ,VP,Ka,Kb,↓qd,qb];apply hK;clear hK K;refine awp_rseq [0,1,2,3,10,11,12] (by rfl) fun K hK=>?_;simp+decide only[qa,ev,qH,qG,putD,VO,VQ,VP,Ka,Kb,↓qg,qc,↓qw,qm,qA,cond_false,qo,Xa,↓qd,qb];try simp(disch:=omega)only[wrap_i64]
   apply hK;clear hK K;refine XE ?_;first
   |exact⟨⟨S.at_,S.at_,out++ZT l i0 i++WL S.reps out2,st2,rest,B1,tb3,nb3⟩,by rw[hwe,hen];rfl,e7,⟨g1.trans hGB,hGB _ _ g2,f6,by rw[e6,qpL,Bg,<-Bd],f7,k5,k6,n3,⟨KL _,s2,(qap s2).1⟩,hstep.symm⟩,by have:=s3 hok;simp only;omega⟩
   |exact⟨⟨i+1,i0,out,st,ns,G,tb2,nb⟩,by rw[hve];rfl,by rw[<-z1];exact y3,⟨g1,g2,z2,by rw[y2,hcn,<-Ja,<-Bd],z3,g6,g7,g8,⟨by simp only;omega,by simp only;omega,by simp only;have:=qdO (l:=l) (i:=i) hi;rw[if_neg (by rw[hw0];exact EP)]at this;have h5:=qlo g9 g11 g8.le;have h6:=qap (l:=l) (i:=i+1) (by omega);omega⟩,g12⟩,by simp only;omega⟩
  ·try simp only[VU]at hb2
   have hwi:XH l i COPY=true:=hW.symm.trans (by simpa using hb2);have hcopy:=quR hwi;have hci:Xm l i0=i:=(qlo g9 g11 g8.le).symm.trans hcopy;have hstep:=qgN (lim:=false) (mem:=mem) (op:=op) (rec:=rec) g8.le out st;rw[g12,hci,if_neg (by omega)]at hstep;refine qP ?_;change Awp _ _ _ _ _ _ _;refine awp_rseq [0,1,2,3,10,11,12,13] (by rfl) fun K hK=>?_;simp+decide only[ev,putD,VO,VQ,Ka,Kb,↓qg,qc];refine QU (by rfl) (by rfl) (qvc wz _ v l i hvl (by omega) hi) fun x7q2 h7q2 hx7q2=>?_;obtain⟨t,pb,en,wr,ps,rfl,p1,p2,p3,p4,p5,p6⟩:=hx7q2;rw[hH1]at p1;obtain⟨u1,u2,u3,u4⟩:=qCo g3 g5 p1;have hs7:Sub H1 h7q2:=by rw[p2,hH1];exact BJ p1
   obtain⟨S,hS⟩:∃S,S=Qn l (i+1):=⟨_,rfl⟩
   rw[<-hS]at hstep p5 p6;have hwc:=qud (wz:=wz) p5 p6;have hs_h7q2:Sub B h7q2:=BL zqC hs7;have hr_h7q2:Sub H1 h7q2:=BL zqC hs7;have eb_0q2:=hs7 k0q2 _ zqA;refine Qi qvv (cs:=[.int .u8 0, .str [], .int .i64 0, .int .i64 0, .bool false, .nilSlice, .int .i64 0, .int .i64 0]) (by rfl) fun k7q3 hk7q3=>?_;have hn_7q3:h7q2 k7q3=none:=by first|assumption|(simp only[V9]at hk7q3;simp only[hk7q3])
   have hf_7q3:B k7q3=none:=Bi hs_h7q2 hn_7q3;have ne_7q3_0q2:k7q3≠k0q2:=Bj hn_7q3 eb_0q2;refine qp (by rfl) (by rfl) zqA UN (by rfl) (by rfl) zqD (Jt _) (by first|rfl|(simp+decide only[ev,putD,VO,VQ,Ka,VX,Qt,JU,qjW,XR,XJ,XM,Xi])) ?_;simp only[Vi,VX];simp+decide only[qa,ev,putD,VO,VQ,VP,Ka,setAt,VY,Kj,Js,Nat.reduceAdd,qjW];apply hK;clear hK K;refine qJ ?_;refine awp_rseq [0,1,2,3,10,11,12,13,41] (by rfl) fun K hK=>?_;simp+decide only[qa,ev,qH,qG,putD,VO,VQ,VP,Ka,Kb,↓qB,ql,qet,↓qF,qY,qz ag3,↓qw,qm,qA,cond_false,qo,Ua,QT,VZ,Kn,Js,qi];apply hK;clear hK K;refine qI (b:=_) rfl (fun hb3=>?_) (fun hb3=>?_)
   ·try simp only[decide_eq_true_eq]at hb3
    obtain⟨hok,hwe⟩:S.ok=false/\wr=S.at_:=by
     rcases hwc with⟨-,-,-,e,-⟩|e
     ·omega
     ·exact e
    rw[if_pos hok]at hstep;refine awp_rseq [8,9,10] (by rfl) fun K hK=>?_;simp+decide only[ev,putD,VO,VQ,Ka,Kb,↓qg,qc,↓qB,ql,qet,↓qF,qY,qz ag3,QT,VZ,Kn,Js,qi];refine qO (V:=QC (qao l i S.at_)) (by rfl) (by rfl) (by rw[hwe];exact qve wz _ v l i S.at_ (hv.mono zqB) (by omega) hi) ?_;simp+decide only[ev,qH,qG,putD,VO,Ka,Kb,↓qd,qb,QC];refine qp (by rfl) (by rfl) zqA QN (by rfl) (by rfl) zqD (Jt _) (by first|rfl|(simp+decide only[ev,putD,VO,VQ,Ka,VX,Qt,JU,Vg,qjW,XR,XJ,XM,Xi])) ?_;simp only[VX];simp+decide only[qa,ev,putD,VQ,VP,Ka,setAt,VY,Kj,Js,Nat.reduceAdd];apply hK;clear hK K;refine qL ?_;try simp only[Qe,Qp]
    refine QD (?_) ?_
    ·simp+decide only[QG,qy,qj,VQ,Ka,and_true,qy,qj,qh Xw QN,qZ,qf,VZ,Kn,Js,Nat.reduceAdd,qi,allLive,JU,qf,VZ,Kn,Js,Nat.reduceAdd,qi,allLive,JU]
    simp+decide only[VQ,Ka,QJ,qy,qj,qh Xw QN,qZ,qf,VZ,Kn,Js,Nat.reduceAdd,qi,allLive,JU,qf,VZ,Kn,Js,Nat.reduceAdd,qi,allLive,JU];exact⟨B,zqB,by rw[hstep];exact⟨rfl,quH _ _ _,Vm _⟩⟩
   ·try simp only[decide_eq_false_iff_not]at hb3
    obtain⟨hok,hte,hen,-,hrp⟩:S.ok=true/\t=S.name/\en=S.at_/\wr= -1/\S.reps=ps.map (·.1):=by
     rcases hwc with⟨a1,a2,a3,a4,a5⟩|⟨-,e⟩
     ·exact⟨a1,a2,a3,a4,a5⟩
     ·omega
    rw[if_neg (by rw[hok];decide)]at hstep;obtain⟨s1,s2,s3,s4⟩:=Ul (l:=l) (i:=i+1) (by omega);rw[<-hS]at s1 s2 s3 s4;refine qP ?_;change Awp _ _ _ _ _ _ _;obtain⟨B1,hB1⟩:∃B1,B1=(Ql G pb).set k7q3 ⟨qjW t (QH 2 pb) en wr,0⟩:=⟨_,rfl⟩
    have hn0:Ql (Ql (Ql G pb) tb) nb k7q3=none:=by rw[<-u1,<-hH1,<-p2];first|exact hk7q3|exact Bi (Vm _) hk7q3
    obtain⟨v1,v2,v3,v4⟩:=set2 u3 u4 hn0 ⟨qjW t (QH 2 pb) en wr,0⟩;rw[<-hB1]at v1 v2 v3;refine Awp.forget (h':=Ql (Ql B1 tb) nb) (by rw[<-v1,<-u1,<-hH1,<-p2];exact Vm _) ?_;have hGB:Sub G B1:=by rw[hB1];exact(BJ u2).trans (Vh v4)
    have hB7:B1 k7q3=some ⟨[.int .u8 t.kind.toNat, .str t.text, .int .i64 t.line, .int .i64 t.col, .bool t.left,QH 2 pb, .int .i64 en, .int .i64 wr],0⟩:=by rw[hB1];exact Ve _ _ _
    obtain⟨H9,hH9⟩:∃H9,H9=Ql (Ql B1 tb) nb:=⟨_,rfl⟩
    have hB19:Sub B1 H9:=by rw[hH9];exact(BJ v2).trans (BJ v3)
    have hs_H9:Sub B H9:=(g1.trans hGB).trans hB19;have eb_0q2:H9 k0q2=some ⟨[.int .i64 0, .int .i64 0, .int .i64 0],0⟩:=hB19 _ _ (hGB _ _ g2);have eb_7q3:H9 k7q3=some ⟨[.int .u8 t.kind.toNat, .str t.text, .int .i64 t.line, .int .i64 t.col, .bool t.left,QH 2 pb, .int .i64 en, .int .i64 wr],0⟩:=hB19 _ _ hB7;rw[<-hH9];refine awp_rseq [0,1,2,3,10,11,13,14] (by rfl) fun K hK=>?_;simp+decide only[qa,ev,qH,qG,putD,VO,VP,Ka,Kb,↓qd,qb];apply hK;clear hK K;refine qJ ?_;refine Qm ?_;refine XC [0,1,2,3,10,11,13,14] (fun k:Nat=>[(0,v),(1,mv),(2,ov),(3,QH 1 nb),(10, .ptr (.own k0q2) 0),(11,QH 5 tb),(13, .ptr (.own k7q3) 0),(14, .int .i64 k)]) (fun k:Nat=>H9) (fun k:Nat=>k<=qs.length/\∀j,j<k->(qs.getD j qcP).1.name≠t.text) (fun k:Nat=>qs.length-k) 0 (by rfl) (Vm _) ⟨Jt _,fun j hj=>absurd hj (EN _)⟩ ?_;rintro k ⟨hk,hkn⟩;refine qJ ?_;have mcase:(∃lc o c,mv= .slice lc o qs.length c/\k<qs.length/\decide ((k:Int)<(qs.length:Int))=true/\rd wz H9 lc (o+k*2)= .str (qs.getD k qcP).1.name)\/(∃(lc:AM.Loc) (o:Nat) (c:Cap),mv=mv/\¬k<qs.length/\decide ((k:Int)<(qs.length:Int))=false/\True):=by
     rcases qAL k qs.length with⟨hkl,hkd⟩|⟨hkl,hkd⟩
     ·obtain⟨lc,o,c,hwe⟩:=qhK hm1 (by omega)
      have hm9:=hm1.mono hs_H9;rw[hwe]at hm9;exact .inl ⟨lc,o,c,hwe,hkl,hkd,(qkY hm9 hkl).1⟩
     ·exact .inr ⟨.base 0,0, .exact 0,rfl,hkl,hkd,trivial⟩
    refine Zt [0,1,2,3,10,11,13,14,61] mixed (by kernel_rfl) (by rfl) (by rfl) fun K hK=>?_;suffices hM:∀b:Bool,((b=true/\k<qs.length/\(qs.getD k qcP).1.name≠t.text)\/(b=false/\((k<qs.length/\(qs.getD k qcP).1.name=t.text)\/k=qs.length)))->K [(0,v),(1,mv),(2,ov),(3,QH 1 nb),(10, .ptr (.own k0q2) 0),(11,QH 5 tb),(13, .ptr (.own k7q3) 0),(14, .int .i64 k),(61, .bool b)] (H9) by
     rcases mcase with⟨lc,o,c,hwe,hkl,hkd,ek⟩|⟨lc,o,c,hwe,hkl,hkd,ek⟩<;>(
      simp+decide only[qa,ev,qH,qG,putD,VO,VQ,VP,Ka,Kb,↓qg,qc,↓Xe,Qw,Zh Tryz.underlying28,↓qw,qm,qR,cond_false,qo,XZ,↓Xf,agP,Qv,qM,qK,qC,implies_true,Qy,Zr,forall_const,false_implies,UU,Vg,qdS,↓Zf,XT,YY,qW Tryz.underlying28 qtO,↓Xj,ql,qwU,↓Zn,qz ag9,qgT,Uu,↓Xd,Zj,qeo,↓QW,Qz,Qk,Xy,QB wz eb_7q3,VZ,Kn,Js,qE,nm,hwe,hkd,ek,Vr,K7];repeat (with_reducible refine And.intro ?_ ?_;· first|trivial|omega|(intro hg;simp only[Ky,JW,Jj,VS,VT,VU,decide_eq_true_eq,decide_eq_false_iff_not,XY]at hg;omega))
      try rw[hwe]at hM
      refine hM _ ?_;first|exact .inr ⟨rfl, .inr (by omega)⟩|exact(if hq:(qs.getD k qcP).1.name=t.text then .inr ⟨by simpa using hq, .inl ⟨hkl,hq⟩⟩else .inl ⟨by simpa using hq,hkl,hq⟩))
    intro b hb_11;apply hK;clear hK K;refine qI (b:=_) rfl (fun hb4=>?_) (fun hb4=>?_)
    ·skip
     obtain⟨hkl,hne⟩:k<qs.length/\(qs.getD k qcP).1.name≠t.text:=by
      rcases hb_11 with⟨-,z1,z2⟩|⟨z,-⟩
      ·exact⟨z1,z2⟩
      ·rw[hb4]at z;cases z
     refine qP ?_;change Awp _ _ _ _ _ _ _;refine Qm ?_;refine XW [0,1,2,3,10,11,13,14] (by rfl) ?_;simp+decide only[qa,ev,qH,qG,putD,VO,VQ,VP,Ka,Kb,↓qg,qc,↓qw,qm,qA,cond_false,qo,Xa,↓qd,qb,ne_eq];try simp(disch:=omega)only[wrap_i64]
     try simp only[Qj,Yc]
     exact⟨k+1,rfl,Vm _,⟨hkl,fun j hj=>by
      rcases KU j k with z|z
      ·exact hkn j z
      ·rw[show j=k by omega];exact hne⟩,by omega⟩
    ·skip
     have hkc:(k<qs.length/\(qs.getD k qcP).1.name=t.text)\/k=qs.length:=by
      rcases hb_11 with⟨z,-⟩|⟨-,z⟩
      ·rw[hb4]at z;cases z
      ·exact z
     refine XE ?_;change Awp _ _ _ _ _ _ _;refine qJ ?_;refine awp_rseq [0,1,2,3,10,11,13,14,67] (by rfl) fun K hK=>?_;simp+decide only[qa,ev,putD,VO,VQ,VP,Ka,Kb,↓qg,qc,↓Xe,Qw,↓qw,qm,qR,cond_false,qo,Za,nm];apply hK;clear hK K;refine qI (b:=_) rfl (fun hb5=>?_) (fun hb5=>?_)
     ·try simp only[decide_eq_true_eq]at hb5
      have hke:k=qs.length:=by omega
      have hfind:UJ mem t.text=none:=by
       unfold UJ;rw[EL];intro m hm;rw[hmq]at hm;obtain⟨q,hq,rfl⟩:=JH.1 hm;obtain⟨j,hj,rfl⟩:=BO hq;have:=hkn j (by omega);rw[Ko,JA hj]at this;simpa using this
      rw[hte]at hfind;unfold WT at hstep;unfold UJ at hfind;rw[hfind]at hstep;refine Zk 6 [8,9,10] mixed (by kernel_rfl) (by rfl) (by rfl) fun K hK=>?_;simp+decide only[ev,qH,qG,putD,VO,VQ,Ka,Kb,↓qB,ql,qgT,qdm,↓qF,qY,qh qeG qbd,↓Qu,↓Qa,Wi,evP,Ke,Vk,↓qd,qb,QB wz eb_7q3,qf,VZ,Kn,Js,Nat.reduceAdd,qi,allLive,JU];refine qp (by rfl) (by rfl) zqA QN (by rfl) (by rfl) zqD (Jt _) (by first|rfl|(simp+decide only[ev,putD,VO,VQ,Ka,VX,Qt,JU,Vg,qjW,XR,XJ,XM,Xi])) ?_;simp only[VX];simp+decide only[qa,ev,putD,VQ,VP,Ka,setAt,VY,Kj,Js,Nat.reduceAdd];apply hK;clear hK K;refine qL ?_;try simp only[Qe,Qp]
      refine QD (?_) ?_
      ·simp+decide only[QG,qy,qj,VQ,Ka,and_true,qy,qj,qh Xw QN,qZ,qf,VZ,Kn,Js,Nat.reduceAdd,qi,allLive,JU,qf,VZ,Kn,Js,Nat.reduceAdd,qi,allLive,JU]
      simp+decide only[VQ,Ka,QJ,qy,qj,qh Xw QN,qZ,qf,VZ,Kn,Js,Nat.reduceAdd,qi,allLive,JU,qf,VZ,Kn,Js,Nat.reduceAdd,qi,allLive,JU];exact⟨B,zqB,by rw[hstep,<-hte];exact⟨rfl,by simp,Vm _⟩⟩
     ·try simp only[decide_eq_false_iff_not]at hb5
      obtain⟨hkl,hkq⟩:k<qs.length/\(qs.getD k qcP).1.name=t.text:=by
       rcases hkc with z|z
       ·exact z
       ·omega
      obtain⟨lc,o,c,hwe⟩:=qhK hm1 (by omega);obtain⟨q,hq⟩:∃q,q=qs.getD k qcP:=⟨_,rfl⟩
      have hqm2:q∈qs:=by rw[hq];exact qaZ qcP hkl
      have hfind:UJ mem t.text=some q.1:=by
       unfold UJ;rw[EM];refine⟨by rw[hq];simpa using hkq,k,by rw[hmq,Jp];exact hkl,by rw[hq];simp[hmq,Ko,JA hkl],fun j hj=>?_⟩;have:=hkn j hj;rw[Ko,JA (by omega)]at this;simpa[hmq]using this
      have hstep2:=hstep;rw[hte]at hfind;have hfindM:=hfind;unfold WT at hstep;unfold UJ at hfind;rw[hfind]at hstep;simp only at hstep;refine qP ?_;change Awp _ _ _ _ _ _ _;refine qJ ?_;refine awp_rseq [0,1,2,3,10,11,13,14,15] (by rfl) fun K hK=>?_;simp+decide only[qa,ev,qH,qG,putD,VO,VP,Ka,Kb,↓qd,qb];apply hK;clear hK K;refine Qm ?_;refine XC [0,1,2,3,10,11,13,14,15] (fun j:Nat=>[(0,v),(1,mv),(2,ov),(3,QH 1 nb),(10, .ptr (.own k0q2) 0),(11,QH 5 tb),(13, .ptr (.own k7q3) 0),(14, .int .i64 k),(15, .int .i64 j)]) (fun j:Nat=>H9) (fun j:Nat=>j<=op.length/\∀x,x<j->op.getD x []≠t.text) (fun j:Nat=>op.length-j) 0 (by rfl) (Vm _) ⟨Jt _,fun x hx=>absurd hx (EN _)⟩ ?_;rintro j ⟨hj,hjn⟩;refine qJ ?_;refine awp_rseq [0,1,2,3,10,11,13,14,15,75] (by rfl) fun K hK=>?_;simp+decide only[qa,ev,putD,VO,VQ,VP,Ka,Kb,↓qg,qc,↓Xe,Qw,↓qw,qm,qR,cond_false,qo,XZ,no];apply hK;clear hK K;refine qI (b:=_) rfl (fun hb6=>?_) (fun hb6=>?_)
      ·try simp only[decide_eq_true_eq]at hb6
       have hjl:j<op.length:=by omega
       have hov9:=hov.mono hs_H9;obtain⟨lo,oo,co,hwo⟩:=qhJ hov9 (by omega);rw[hwo]at hov9;have ej:=qnO hov9 hjl;refine qP ?_;change Awp _ _ _ _ _ _ _;refine qJ ?_;refine Qm ?_;refine Zt [0,1,2,3,10,11,13,14,15,85] mixed (by kernel_rfl) (by rfl) (by rfl) fun K hK=>?_;simp+decide only[qa,ev,putD,VO,VQ,VP,Ka,Kb,↓qg,qc,↓QE,qY,qW Tryz.underlying30 sz9,↓qF,qz ag9,↓qB,ql,qgT,Uu,↓qw,qm,qR,cond_false,Zj,qep,QB wz eb_7q3,VZ,Kn,Js,qE,hwo,ej,Vr,BK];repeat (with_reducible refine And.intro ?_ ?_;· first|trivial|omega|(intro hg;simp only[Ky,JW,Jj,VS,VT,VU,decide_eq_true_eq,decide_eq_false_iff_not,XY]at hg;omega))
       apply hK;clear hK K;refine qI (b:=_) rfl (fun hb7=>?_) (fun hb7=>?_)
       ·try simp only[decide_eq_true_eq]at hb7
        have hin:op.contains S.name.text=true:=by
         rw[<-hte,JX,<-hb7,Ko,JA hjl];exact VJ hjl
        rw[if_pos hin]at hstep;refine Zk 6 [8,9,10] mixed (by kernel_rfl) (by rfl) (by rfl) fun K hK=>?_;simp+decide only[ev,qH,qG,putD,VO,VQ,Ka,Kb,↓qB,ql,qgT,qdm,↓qF,qY,qh qeG qbd,↓Qu,↓Qa,Wi,evP,Ke,Vk,↓qd,qb,QB wz eb_7q3,qf,VZ,Kn,Js,Nat.reduceAdd,qi,allLive,JU];refine qp (by rfl) (by rfl) zqA QN (by rfl) (by rfl) zqD (Jt _) (by first|rfl|(simp+decide only[ev,putD,VO,VQ,Ka,VX,Qt,JU,Vg,qjW,XR,XJ,XM,Xi])) ?_;simp only[VX];simp+decide only[qa,ev,putD,VQ,VP,Ka,setAt,VY,Kj,Js,Nat.reduceAdd];apply hK;clear hK K;refine qL ?_;try simp only[Qe,Qp]
        refine QD (?_) ?_
        ·simp+decide only[QG,qy,qj,VQ,Ka,and_true,qy,qj,qh Xw QN,qZ,qf,VZ,Kn,Js,Nat.reduceAdd,qi,allLive,JU,qf,VZ,Kn,Js,Nat.reduceAdd,qi,allLive,JU]
        simp+decide only[VQ,Ka,QJ,qy,qj,qh Xw QN,qZ,qf,VZ,Kn,Js,Nat.reduceAdd,qi,allLive,JU,qf,VZ,Kn,Js,Nat.reduceAdd,qi,allLive,JU];exact⟨B,zqB,by rw[hstep,<-hte];exact⟨rfl,by simp,Vm _⟩⟩
       ·try simp only[decide_eq_false_iff_not]at hb7
        refine qP ?_;change Awp _ _ _ _ _ _ _;refine XW [0,1,2,3,10,11,13,14,15] (by rfl) ?_;simp+decide only[qa,ev,qH,qG,putD,VO,VQ,VP,Ka,Kb,↓qg,qc,↓qw,qm,qA,cond_false,qo,Xa,↓qd,qb,ne_eq];try simp(disch:=omega)only[wrap_i64]
        try simp only[Qj]
        exact⟨j+1,by rw[hwo];rfl,Vm _,⟨hjl,fun x hx=>by
         rcases KU x j with z|z
         ·exact hjn x z
         ·rw[show x=j by omega];exact hb7⟩,by omega⟩
      ·try simp only[decide_eq_false_iff_not]at hb6
       have hout:S.name.text∉op:=by
        intro hm;obtain⟨x,hx,hxe⟩:=BO hm;have:=hjn x (by omega);rw[Ko,JA hx]at this;exact this (hxe.trans (by rw[hte]))
       rw[if_neg (by simpa using hout),if_neg (fun z=>by rcases z with z|⟨z,-⟩<;>first|omega|cases z)]at hstep;refine XE ?_;change Awp _ _ _ _ _ _ _;refine qJ ?_;obtain⟨rest,hstp⟩:=qzk hL h3 hnd hop g8 (by rw[hci];exact hi) (S:=S) (by rw[hci];exact hS.symm) hok;obtain⟨hk3,hnd2,hop2,ms,m1,m2,m3,m4,m5,m6⟩:=hstp q.1 hfindM hout;refine awp_rseq [0,1,2,3,10,11,13,14,92] (by rfl) fun K hK=>?_;simp+decide only[qa,ev,qH,qG,putD,VO,VQ,VP,Ka,Kb,↓qg,qc,↓Xe,Qw,↓qw,qm,qA,cond_false,qo,Ua,no];apply hK;clear hK K;refine qI (b:=_) rfl (fun hb8=>?_) (fun hb8=>?_)
       ·exact absurd (of_decide_eq_true hb8) (by omega)
       ·try simp only[decide_eq_false_iff_not]at hb8
        have hcop:=g8.copies;refine qP ?_;change Awp _ _ _ _ _ _ _;refine awp_rseq [0,1,2,3,10,11,13,14] (by rfl) fun K hK=>?_;simp+decide only[ev,putD,VO,VQ,Ka,Kb,↓qg,qc,↓qB,ql,qgT,Uu,↓qF,qY,qz ag9,QB wz eb_7q3,VZ,Kn,Js,qE];refine QU (by rfl) (by rfl) (by rw[hH9];exact qyI wz (Ql B1 tb) nb st.names t.text v3 g6 (by omega)) fun x22q4 h22q4 hx22q4=>?_;obtain⟨nb2,rfl,a1,a2,a3⟩:=hx22q4;have hB22:Sub B1 h22q4:=by rw[a3];exact(BJ v2).trans (BJ a1)
        have hs22:Sub B h22q4:=(g1.trans hGB).trans hB22;have eb0:h22q4 k0q2=some ⟨[.int .i64 0, .int .i64 0, .int .i64 0],0⟩:=hB22 _ _ (hGB _ _ g2);have eb7:h22q4 k7q3=some ⟨[.int .u8 t.kind.toNat, .str t.text, .int .i64 t.line, .int .i64 t.col, .bool t.left,QH 2 pb, .int .i64 en, .int .i64 wr],0⟩:=hB22 _ _ hB7;have hbn2:=QP 1 nb2;simp+decide only[qa,ev,putD,VO,VQ,VP,Ka,Kb,↓qd,qb];apply hK;clear hK K;have hs_h22q4:=hs22;have eb_0q2:=eb0;have eb_7q3:=eb7;have hm9:=hm1.mono (g1.trans hGB);have hmv9:=hm9;rw[hwe]at hm9;have hmem1:=(qkY hm9 hkl).1;have hmem2:=(qkY hm9 hkl).2;rw[<-hq]at hmem1 hmem2;have hqv:=(hm2 q hqm2).live;have hsB1:=QB wz hB7;refine qsH (g₀:=B1) [0,1,2,3,4,5,6,8,9,10,13,7,11,12,14,15,16,17,18,19,20,21,22] [none,none,none,none,none,none,none,none,none,none,none,none,none,some 11,some 13,some 14,some 15,some 15,some 15,none,some 16,some 17,some 18] [114,18] (fun x=>if x=114 then([.str t.text],fun k=> .slice (.own k) 0 1 (.exact 1))else([.int .i64 0, .int .i64 0, .int .i64 0],fun k=> .ptr (.own k) 0)) [0,1,2,10,11,13,16,17,18] mixed (by kernel_rfl) (by rfl) (hB22) fun K hK=>?_;simp only[Zy,VK,Ep,Kz,KM];try simp+decide only[hwe]
        refine Yi (by rfl) (by kernel_rfl) ?_;try simp+decide only[qa,ev,putD,VO,VQ,Ka,Kb,↓qg,qc]
        refine Yi (by rfl) (by kernel_rfl) ?_;try simp+decide only[qa,ev,putD,VO,VQ,Ka,Kb,↓qg,qc]
        refine Yi (by rfl) (by kernel_rfl) ?_;try simp+decide only[qa,ev,putD,VO,VQ,Ka,↓QE,qY,qW Tryz.underlying28 qtO,Vr]
        repeat (with_reducible refine And.intro ?_ ?_;· first|trivial|omega|(intro hg;simp only[Ky,JW,Jj,VS,VT,VU,decide_eq_true_eq,decide_eq_false_iff_not,XY]at hg;omega))
        refine Yi (by rfl) (by kernel_rfl) ?_;try simp+decide only[qa,ev,putD,VO,VQ,Ka,Kb,↓qB,ql,qwT]
        refine Yi (by rfl) (by kernel_rfl) ?_;try simp+decide only[qa,ev,putD,VO,VQ,Ka,Kb,↓qF,qY,qz qaw,hmem2,hqv]
        refine Yi (by rfl) (by kernel_rfl) ?_;try simp+decide only[qa,ev,putD,VO,VQ,Ka,Kb,↓qg,qc]
        refine Yi (by rfl) (by kernel_rfl) ?_;try simp+decide only[qa,ev,putD,VO,VQ,Ka,Kb,↓qg,qc]
        refine Yi (by rfl) (by kernel_rfl) ?_;try simp+decide only[qa,ev,putD,VO,VQ,Ka,Kb,↓qB,ql,qgT,K7]
        refine Yi (by rfl) (by kernel_rfl) ?_;try simp+decide only[qa,ev,putD,VO,VQ,Ka,Kb,↓qB,ql,Uu,Js]
        refine Yi (by rfl) (by kernel_rfl) ?_;try simp+decide only[qa,ev,putD,VO,VQ,Ka,Kb,↓qF,qY,qz ag9,VZ,Kn,qE,hsB1]
        refine Yi (by rfl) (by kernel_rfl) ?_;try simp+decide only[qa,ev,putD,VO,VQ,Ka,Kb,↓qg,qc]
        refine qfP (by rfl) (fun h=>absurd (show(3:Nat)=2 from h) (by decide)) (qbp (by unfold qbL lyO;intro g;refine Qr (cs:=[.str t.text]) (by kernel_rfl) fun k hk=>?_;rw[qa];exact⟨k,hk,rfl,rfl⟩) (Xo (by rfl) (Xo (by rfl) (Xo (by rfl) (Xo (by rfl) (Xo (by rfl) (Xo (by rfl) (qbp (by unfold qbL lyO;intro g;refine Qi qaE (cs:=[.int .i64 0, .int .i64 0, .int .i64 0]) (by rfl) fun k hk=>?_;rw[qa];exact⟨k,hk,rfl,rfl⟩) (Xo (by rfl) (Xo (by rfl) (Xo (by rfl) qab))))))))))) fun e23q7 he23q7=>?_;refine Xt (es:=1) (zs:=[]) (xs:=op.map Ut) (hZ:=uni h22q4 e23q7) (b:=none) (by rfl) (by rfl) Tryz.underlying30 Tryz.underlying30 (fun k e=>by cases e) sz9 by9 ze9 (by rfl) (by decide) (by rfl) trivial rfl (fun x hx=>by cases hx) (Vm _) (by rfl) (hov.mono (hs_h22q4.trans (Sub.uni _ _))) (qkW _) (by simp only[Jp,J9];omega) (by simp only[Jp,J9];omega) fun ob h23a o1 o2 o3=>?_;rw[qa];obtain⟨o4,o5,o6⟩:=qjY he23q7 o1;refine⟨Ql h22q4 ob,hB22.trans (BJ o4),o5,by rw[o6];exact o3,?_⟩;clear o1 o3 o5 o6;have hobl:=QP 1 ob;try simp+decide only[putD,VO,Ka]
        refine qoK (by rfl) (by unfold qbL lyO;intro g;refine Qr (cs:=[.str t.text]) (by kernel_rfl) fun k hk=>?_;rw[qa];exact⟨k,hk,rfl,rfl⟩) (Xo (by rfl) (Xo (by rfl) (Xo (by rfl) (Xo (by rfl) (Xo (by rfl) (Xo (by rfl) (qbp (by unfold qbL lyO;intro g;refine Qi qaE (cs:=[.int .i64 0, .int .i64 0, .int .i64 0]) (by rfl) fun k hk=>?_;rw[qa];exact⟨k,hk,rfl,rfl⟩) (Xo (by rfl) (Xo (by rfl) (Xo (by rfl) qab)))))))))) fun k23q11 hz23q11=>?_;simp only[lyO];obtain⟨x1,x2⟩:=qcp (es:=1) hz23q11 ⟨[.str t.text],0⟩;have hz1:h22q4 k23q11=none:=Bi (BJ o4) hz23q11;obtain⟨G11,hG11⟩:∃G,G=h22q4.set k23q11 ⟨[.str t.text],0⟩:=⟨_,rfl⟩
        have x2:=x2 o4;have hC0k:Ql (Ql B1 tb) nb2 k23q11=none:=by rw[<-a3];exact hz1
        obtain⟨c1,c2⟩:=qcp (es:=1) hC0k ⟨[.str t.text],0⟩;obtain⟨C0,hC0⟩:∃C,C=(Ql B1 tb).set k23q11 ⟨[.str t.text],0⟩:=⟨_,rfl⟩
        have c2:=c2 a1;rw[<-hC0]at c1 c2;have hGC:G11=Ql C0 nb2:=by rw[hG11,a3,c1]
        have hkt:Ql B1 tb k23q11=none:=Bi (BJ a1) hC0k;have hBC0:Sub (Ql B1 tb) C0:=by rw[hC0];exact Vh hkt
        rw[<-hG11]at x1 x2;change qbl _ _ _ _ _ _ _ _ ((Ql h22q4 ob).set k23q11 ⟨[.str t.text],0⟩) _;rw[x1];try simp+decide only[putD,VO,Ka]
        refine qfP (by rfl) (fun h=>absurd (show(3:Nat)=2 from h) (by decide)) (Xo (by rfl) (Xo (by rfl) (Xo (by rfl) (Xo (by rfl) (Xo (by rfl) (qbp (by unfold qbL lyO;intro g;refine Qi qaE (cs:=[.int .i64 0, .int .i64 0, .int .i64 0]) (by rfl) fun k hk=>?_;rw[qa];exact⟨k,hk,rfl,rfl⟩) (Xo (by rfl) (Xo (by rfl) (Xo (by rfl) qab))))))))) fun e23q12 he23q12=>?_;obtain⟨y1,y2,y3⟩:=qoO x2 he23q12;refine Xt (es:=1) (zs:=op.map Ut) (xs:=[t.text].map Ut) (hZ:=uni G11 e23q12) (b:=ob) (by rfl) (by rfl) Tryz.underlying30 Tryz.underlying30 (fun k e=>by cases e) sz9 by9 ze9 (by rfl) (by decide) (by rfl) y2 o2 qam (by rw[<-y3];exact Vm _) (by rfl) (Ba (xs:=[t.text].map Ut) (by rw[y3];exact ZY y2 (Wj (by rw[hG11];exact Ve _ _ _))) (qam (l:=[t.text])) (by rfl) (by rfl) (.exact 1) (KL _)) (qkW _) (by simp only[Jp,KY,J9];omega) (by simp only[Jp,KY,J9];omega) fun ob2 h23b o7 o8 o9=>?_;rw[qa];obtain⟨w4,w5,w6⟩:=qjY y1 o7;refine⟨Ql G11 ob2,(hB22.trans (by rw[hG11];exact Vh hz1)).trans (BJ w4),w5,by rw[w6];exact o9,?_⟩;clear o7 o9 w5 w6 y1 y2 y3;have hob2l:=QP 1 ob2;try simp+decide only[putD,VO,Ka]
        refine qfP (by rfl) (fun h=>absurd (show(1:Nat)=2 from h) (by decide)) (Xo (by rfl) (Xo (by rfl) (Xo (by rfl) (Xo (by rfl) (qbp (by unfold qbL lyO;intro g;refine Qi qaE (cs:=[.int .i64 0, .int .i64 0, .int .i64 0]) (by rfl) fun k hk=>?_;rw[qa];exact⟨k,hk,rfl,rfl⟩) (Xo (by rfl) (Xo (by rfl) (Xo (by rfl) qab)))))))) fun e23q14 he23q14=>?_;rw[hGC]at w4 he23q14|-
        obtain⟨z1,z2,z3⟩:=qbK c2 w4;rw[z1]at he23q14|-
        obtain⟨X9,hX9⟩:∃Y,Y=Ql C0 ob2:=⟨_,rfl⟩
        rw[<-hX9]at he23q14 z3|-
        obtain⟨t1,t2,t3⟩:=qoO z3 he23q14;rw[t3];have hTX:Sub (Ql B1 tb) X9:=by rw[hX9];exact hBC0.trans (BJ z2)
        have hB1X:Sub B1 X9:=(BJ v2).trans hTX;have hBX:Sub B (uni X9 e23q14):=((g1.trans hGB).trans hB1X).trans (Sub.uni _ _);have hadd:=qrl st.names t.text;obtain⟨hcall,hbnd⟩:=hrec (uni X9 e23q14) q.2 mv (QH 1 ob2) nb2 q.1 t.text ⟨addE st.names t.text,st.copies+1⟩ ms t2 a2 (by simp only;omega) ((hm2 q hqm2).mono hBX) (hmv.mono hBX) (BH z2 (by decide) (by rw[o8,Bd]) qam (by rw[<-hX9];exact Sub.uni _ _)) (by rw[hte];exact hfindM) hk3 (by rw[hte];exact hnd2) (by rw[hte];exact hop2) ⟨Jt _,by simpa using m1,m3,by rw[Jc];exact m4,by rw[Jc,qeI,Js];exact m5⟩;rw[<-hwe];refine QU (by rfl) (by rfl) hcall fun x23 h23c hx23=>?_;rw[qa];obtain⟨iv,mv2,f,Z1,rfl,l1,l2,r1,r2,r3,hcs⟩:=qtW t1 hB1X hx23;refine⟨Z1,r1,r2,r3,?_⟩;clear r2 r3 hx23 hcall he23q14 t1 t2 t3;try simp+decide only[putD,VO,if_false,QC,hwe]
        refine Yi (by rfl) (by kernel_rfl) ?_;try simp+decide only[qa,ev,putD,VO,VQ,Ka,Kb,↓qg,qc]
        refine Yi (by rfl) (by kernel_rfl) ?_;try simp+decide only[qa,ev,putD,VO,VQ,Ka,Kb,↓QY,QL,QV,KY,J9,VZ,VZ,Js,Nat.reduceAdd]
        refine Yi (by rfl) (by kernel_rfl) ?_;try simp+decide only[qa,ev,putD,VO,VQ,Ka,Kb,↓QY,QL,QV,KY,J9,VZ,Kn,VZ,Kn,Js,Nat.reduceAdd]
        refine Yi (by rfl) (by kernel_rfl) ?_;try simp+decide only[qa,ev,putD,VO,VQ,Ka,Kb,↓QY,QL,QV,KY,J9,VZ,Kn,VZ,Kn,Js,Nat.reduceAdd]
        refine qoK (by rfl) (by unfold qbL lyO;intro g;refine Qi qaE (cs:=[.int .i64 0, .int .i64 0, .int .i64 0]) (by rfl) fun k hk=>?_;rw[qa];exact⟨k,hk,rfl,rfl⟩) (Xo (by rfl) (Xo (by rfl) (Xo (by rfl) qab))) fun k23q19 hz23q19=>?_;simp only[lyO];change qbl _ _ _ _ _ _ _ _ (Z1.set k23q19 ⟨[.int .i64 0, .int .i64 0, .int .i64 0],0⟩) _;try simp+decide only[putD,VO,Ka]
        refine Yi (by rfl) (by kernel_rfl) ?_;try simp+decide only[qa,ev,putD,VO,VQ,Ka,Kb,↓qd,qb]
        refine Yi (by rfl) (by kernel_rfl) ?_;try simp+decide only[qa,ev,putD,VO,VQ,Ka,Kb,↓qd,qb]
        refine qfP (by rfl) (fun h=>absurd (show(3:Nat)=2 from h) (by decide)) qab fun e23q22 he23q22=>?_;have hek:e23q22 k23q19=none:=qoj he23q22 (Ve _ _ _);refine qp (b:=⟨[.int .i64 0, .int .i64 0, .int .i64 0],0⟩) (by rfl) (by rfl) (Wj (Ve _ _ _)) QN (by rfl) (by rfl) (by decide) (Jt _) (by rfl) ?_;rw[qa];refine⟨Z1.set k23q19 ⟨[.int .i64 f.e, .int .i64 f.line, .int .i64 f.col],0⟩,r1.trans (Vh hz23q19),fun j c hj=>?_,?_,?_⟩
        ·by_cases e1:j=k23q19
         ·subst e1;rw[hek]at hj;cases hj
         ·exact(Vd _ _ e1).trans ((Vd _ _ e1).symm.trans (he23q22 j c hj))
        ·rw[qhl hek,qhl hek,Vi];exact Vm _
        try simp+decide only[putD,VP,Ka,qvA]
        apply hK;clear hK K;refine qJ ?_;obtain⟨H24,hH24⟩:∃H,H=Z1.set k23q19 ⟨[.int .i64 f.e, .int .i64 f.line, .int .i64 f.col],0⟩:=⟨_,rfl⟩
        have hZ24:Sub Z1 H24:=by rw[hH24];exact Vh hz23q19
        have hB24:Sub B1 H24:=r1.trans hZ24;have hs_H24:Sub B H24:=(g1.trans hGB).trans hB24;have eb_0q2:H24 k0q2=some ⟨[.int .i64 0, .int .i64 0, .int .i64 0],0⟩:=hB24 _ _ (hGB _ _ g2);have eb_7q3:H24 k7q3=some ⟨[.int .u8 t.kind.toNat, .str t.text, .int .i64 t.line, .int .i64 t.col, .bool t.left,QH 2 pb, .int .i64 en, .int .i64 wr],0⟩:=hB24 _ _ hB7;have eb_23q19:H24 k23q19=some ⟨[.int .i64 f.e, .int .i64 f.line, .int .i64 f.col],0⟩:=by rw[hH24];exact Ve _ _ _
        rw[<-hH24];rw[<-hte]at hstep;refine awp_rseq [0,1,2,10,11,13,16,17,18,123] (by rfl) fun K hK=>?_;simp+decide only[qa,ev,qH,qG,putD,VO,VQ,VP,Ka,Kb,↓qB,ql,qBt,↓qF,qY,qz qDe,↓qw,qm,qA,cond_false,qo,Un,QB wz eb_23q19,VZ,Js,qi];apply hK;clear hK K;refine qI (b:=_) rfl (fun hb9=>?_) (fun hb9=>?_)
        ·try simp only[decide_eq_false_iff_not,Jj]at hb9
         have hbad:rec q.1.toks (op++[t.text]) ⟨addE st.names t.text,st.copies+1⟩= .bad f:=by
          rcases hcs with⟨-,z⟩|⟨z,-⟩
          ·exact z
          ·rw[z]at hb9;exact absurd rfl hb9
         rw[hbad]at hstep;simp only at hstep;refine Zk 3 [8,9,10] mixed (by kernel_rfl) (by rfl) (by rfl) fun K hK=>?_;simp+decide only[ev,qH,qG,putD,VO,VQ,Ka,Kb,↓qF,qY,qh Xw QN,↓qd,qb,QB wz eb_23q19,qf,VZ,Kn,Js,Nat.reduceAdd,qi,allLive,JU];refine qp (by rfl) (by rfl) zqA QN (by rfl) (by rfl) zqD (Jt _) (by first|rfl|(simp+decide only[ev,putD,VO,VQ,Ka,VX,Qt,JU,Vg,qjW,XR,XJ,XM,Xi])) ?_;simp only[VX];simp+decide only[qa,ev,putD,VQ,VP,Ka,setAt,VY,Kj,Js,Nat.reduceAdd];apply hK;clear hK K;refine qL ?_;try simp only[Qe,Qp]
         refine QD (?_) ?_
         ·simp+decide only[QG,qy,qj,VQ,Ka,and_true,qy,qj,qh Xw QN,qZ,qf,VZ,Kn,Js,Nat.reduceAdd,qi,allLive,JU,qf,VZ,Kn,Js,Nat.reduceAdd,qi,allLive,JU]
         simp+decide only[VQ,Ka,QJ,qy,qj,qh Xw QN,qZ,qf,VZ,Kn,Js,Nat.reduceAdd,qi,allLive,JU,qf,VZ,Kn,Js,Nat.reduceAdd,qi,allLive,JU];exact⟨B,zqB,by rw[hstep];exact⟨rfl,by simpa using hb9,Vm _⟩⟩
        ·try simp only[decide_eq_true_eq,VU]at hb9
         obtain⟨hf0,out2,st2,tb2,nb3,C9,hR,rfl,rfl,hZe,k1,k2,k3,k4,k5,k6⟩:f=okF/\∃out st2 tb nb C,rec q.1.toks (op++[t.text]) ⟨addE st.names t.text,st.copies+1⟩= .ok out st2/\iv=QH 5 tb/\mv2=QH 1 nb/\Z1=Ql (Ql C tb) nb/\Sub X9 C/\bufOk C 5 tb/\Yh tb=(out.map QI).flatten/\bufOk (Ql C tb) 1 nb/\Yh nb=(st2.names.map Ut).flatten/\st2.names.length<=st2.copies:=by
          rcases hcs with⟨z,-⟩|z
          ·exact absurd (by simpa using hb9) z
          ·exact z
         obtain⟨b1,b2⟩:=hbnd out2 st2 hR;obtain⟨n1,n2,n3⟩:=m6 out2 st2 b1 b2;rw[hR]at hstep;have htl:∀z,WR false z=false:=fun z=>rfl;simp only[htl,KW,if_false]at hstep;rw[hci]at n3;have hB1C:Sub (Ql B1 tb) C9:=hTX.trans k1;have d1:bufOk (Ql B1 tb) 1 nb3:=k4.sub (hB1C.trans (BJ k2));obtain⟨d2,d3,d4⟩:=qbK v2 d1;have hZb:Sub (Ql (Ql B1 nb3) tb) H24:=by rw[<-d2];exact(Sub.bufBoth (hB1C.trans (BJ k2))).trans (by rw[<-hZe];exact hZ24)
         have hin2:IsL wz H24 5 (QH 5 tb2) (out2.map QI):=BH k2 (by decide) k3 Xn ((BJ k4).trans (by rw[<-hZe];exact hZ24));have hGp:Sub (Ql G pb) B1:=by rw[hB1];exact Vh v4
         have hrps:IsReps wz H24 (QH 2 pb) S.reps:=⟨ps,hrp,BH u2 (by decide) p3 qei (hGp.trans hB24),fun q hq=>p4 q hq H24 (hv.mono hs_H24)⟩
         have hrl:S.reps.length<=1000000:=by
          have:=(qfb l (i+1)).2;rw[<-hS]at this;omega
         have ho1:=qsZ g8;have ho2:=qig l i0 i;refine qP ?_;change Awp _ _ _ _ _ _ _;refine awp_rseq [0,1,2,3,10,11,13,16] (by rfl) fun K hK=>?_;simp+decide only[qa,ev,putD,VO,VQ,VP,Ka,Kb,↓qg,qc,↓qd,qb];apply hK;clear hK K;refine awp_rseq [0,1,2,3,10,11,13] (by rfl) fun K hK=>?_;simp+decide only[ev,putD,VO,VQ,Ka,Kb,↓qg,qc,↓qB,ql,qsc,↓qF,qY,qz qAD,QB wz eb_7q3,VZ,Kn,Js,QP];refine QU (by rfl) (by rfl) (qpS wz S.reps s4 hrl out2.length _ (QH 5 tb2) (QH 2 pb) out2 rfl (by omega) (by omega) hin2 hrps) fun x27q4 h27q4 hx27q4=>?_;obtain⟨hrr,hs27⟩:=hx27q4;have hrrl:=hrr.live;have hs_h27q4:Sub B h27q4:=BL zqC hs27;have hr_h27q4:Sub H24 h27q4:=BL zqC hs27;have eb_0q2:=hs27 k0q2 _ zqA;have eb_7q3:=hs27 k7q3 _ zqA;have eb_23q19:=hs27 k23q19 _ zqA;refine Xt (es:=5) (zs:=(out++ZT l i0 i).map QI) (xs:=(WL S.reps out2).map QI) (hZ:=Ql B1 nb3) (b:=tb) (by rfl) (by rfl) Tryz.underlying26 Tryz.underlying26 (fun k e=>by cases e) Xb qha qat (by rfl) (by decide) (by rfl) d4 g4 Xn (hZb.trans hs27) (by rfl) hrr (qdZ _) (by simp only[Jp,Jc];omega) (by simp only[Jp,Jc];omega) fun tb3 h27 e5 e6 e7=>?_;obtain⟨f5,f6,f7⟩:=qbK d3 e5;rw[f5]at e7;have hbt3:=QP 5 tb3;simp+decide only[qa,ev,putD,VO,VQ,VP,Ka,Kb,↓qd,qb];apply hK;clear hK K;have hB28:Sub B1 h27:=((BJ f6).trans (BJ f7)).trans e7;have hs_h27:Sub B h27:=(g1.trans hGB).trans hB28;have eb_0q2:h27 k0q2=some ⟨[.int .i64 0, .int .i64 0, .int .i64 0],0⟩:=hB28 _ _ (hGB _ _ g2);have eb_7q3:h27 k7q3=some ⟨[.int .u8 t.kind.toNat, .str t.text, .int .i64 t.line, .int .i64 t.col, .bool t.left,QH 2 pb, .int .i64 en, .int .i64 wr],0⟩:=hB28 _ _ hB7;refine XW [0,1,2,3,10,11,12] (by rfl) ?_;simp+decide only[qa,ev,putD,VO,VQ,VP,Ka,Kb,↓qB,ql,qwS,↓qF,qY,qz ag3,↓qd,qb,QB wz eb_7q3,VZ,Kn,Js,qi];try simp only[Qj,Yc]
         first
         |exact⟨⟨S.at_,S.at_,out++ZT l i0 i++WL S.reps out2,st2,rest,B1,tb3,nb3⟩,by rw[hwe,hen];rfl,e7,⟨g1.trans hGB,hGB _ _ g2,f6,by rw[e6,qpL,Bg,<-Bd],f7,k5,k6,n3,⟨KL _,s2,(qap s2).1⟩,hstep.symm⟩,by have:=s3 hok;simp only;omega⟩
         |exact⟨⟨i+1,i0,out,st,ns,G,tb2,nb⟩,by rw[hve];rfl,by rw[<-z1];exact y3,⟨g1,g2,z2,by rw[y2,hcn,<-Ja,<-Bd],z3,g6,g7,g8,⟨by simp only;omega,by simp only;omega,by simp only;have:=qdO (l:=l) (i:=i) hi;rw[if_neg (by rw[hw0];exact EP)]at this;have h5:=qlo g9 g11 g8.le;have h6:=qap (l:=l) (i:=i+1) (by omega);omega⟩,g12⟩,by simp only;omega⟩
 ·try simp only[decide_eq_false_iff_not]at hb1
  refine XE ?_;change Awp _ _ _ _ _ _ _;refine awp_rseq [8,9,10] (by rfl) fun K hK=>?_;simp+decide only[ev,qH,qG,putD,VO,VQ,Ka,Kb,↓qg,qc,↓Qu,↓Qa,Yn,evP,Vk,↓qd,qb];refine qp (by rfl) (by rfl) zqA QN (by rfl) (by rfl) zqD (Jt _) (by first|rfl|(simp+decide only[ev,putD,VO,VQ,Ka,VX,Qt,JU,Vg,qjW,XR,XJ,XM,Xi])) ?_;simp only[VX];simp+decide only[qa,ev,putD,VQ,VP,Ka,setAt,VY,Kj,Js,Nat.reduceAdd];apply hK;clear hK K;refine qL ?_;refine QD (?_) ?_
  ·simp+decide only[QG,qy,qj,VQ,Ka,and_true,qy,qj,qh Xw QN,qZ,qf,VZ,Kn,Js,Nat.reduceAdd,qi,allLive,JU,qf,VZ,Kn,Js,Nat.reduceAdd,qi,allLive,JU]
  simp+decide only[VQ,Ka,QJ,qy,qj,qh Xw QN,qZ,qf,VZ,Kn,Js,Nat.reduceAdd,qi,allLive,JU,qf,VZ,Kn,Js,Nat.reduceAdd,qi,allLive,JU];have hil:i=l.length:=by omega
  have hend:=qgN (lim:=false) (mem:=mem) (op:=op) (rec:=rec) g8.le out st;rw[g12,if_pos (by omega)]at hend;refine⟨H1,by rw[YH eb_0q2];exact Vm _,?_⟩;rw[hend];exact⟨tb,nb,G,rfl,g1,g3,by rw[g4,hil,qzO],g5,g6,by rw[hH1];exact Vm _,g7⟩
theorem qnl(wz:World)(mem:List MemC)(hL:Lib mem)(hml:mem.length<=1000):∀(d:Nat) (op:List Str),3<=d+op.length->op.length<=3->∀(B:AHeap) (v mv ov:AVal) (nb:Option Buf) (l:List TokC) (st:Xs) (ns:List Nat),bufOk B 1 nb->Yh nb=(st.names.map Ut).flatten->st.names.length<=st.copies->
 IsL wz B 5 v (l.map QI)->IsMems wz B mv mem->IsL wz B 1 ov (op.map Ut)->op.Nodup->(∀x∈op,UJ mem x≠none)->StpOk op l 0 [] st ns->
 ACall Tryz.prog wz 12 [v,mv,ov,QH 1 nb] (Ql B nb) (fun r h'=>qvr B (qbI false mem d l op st) r h')
 |0,op,hd,h3,B,v,mv,ov,nb,l,st,ns,n1,n2,n3,hv,hm,ho,hnd,hop,hst=>by
  rw[qbI];exact qnk wz mem hL hml _ op (fun B v mv ov nb m t st ns _ _ _ _ _ _ _ hlt=>by omega) B v mv ov nb l st ns n1 n2 n3 hv hm ho h3 hnd hop hst _ rfl
 |d+1,op,hd,h3,B,v,mv,ov,nb,l,st,ns,n1,n2,n3,hv,hm,ho,hnd,hop,hst=>by
  rw[qbI];refine qnk wz mem hL hml _ op (fun B v mv ov nb m t st ns q1 q2 q3 q4 q5 q6 q7 q8 q9 q10 q11=>⟨?_,?_⟩) B v mv ov nb l st ns n1 n2 n3 hv hm ho h3 hnd hop hst _ rfl
  ·exact qnl wz mem hL hml d (op++[t]) (by rw[Jc];simp only[KY,J9];omega) (by rw[Jc];simp only[KY,J9];omega) B v mv ov nb m.toks st ns q1 q2 q3 q4 q5 q6 q9 q10 q11
  ·have hraw:=q11.raw
   rw[KQ]at hraw;have hph:=q11.phi;rw[qeI,Js]at hph;have:=(qkA hL d m.toks ns (op++[t]) st (by rw[Jc];simp only[KY,J9];omega) (by rw[Jc];simp only[KY,J9];omega) q9 q10 hraw q11.lt q11.copies hph).2;rw[Jc]at this;exact this
theorem qsz(wz:World)(mem:List MemC)(hL:Lib mem)(hml:mem.length<=1000)(B:AHeap)(v mv:AVal)(l:List TokC)(ns:List Nat)(hv:IsL wz B 5 v (l.map QI))(hm:IsMems wz B mv mem)(hraw:l.map strip=XI ns)(hlt:∀n∈ns,n<256)(hn:ns.length<=10):
 ACall Tryz.prog wz 12 [v,mv, .nilSlice, .nilSlice] B (fun r h'=>qvr B (qaC true l mem) r h'):=by
 rw[qse hL hraw hlt hn];exact qnl wz mem hL hml 8 [] (by simp) (by simp) B v mv .nilSlice none l ⟨[],0⟩ ns trivial rfl (KL _) hv hm .nil List.nodup_nil (fun x hx=>by cases hx) ⟨Jt _,by rw[KQ];exact hraw,hlt,by simp only[J9,Y];omega,by simp only[J9,X,qeI];omega⟩
theorem AcOk.mems{wz:World}{h H:AHeap}{mb:Option Buf}{ms:List MemC}{qs:List MemB}(ha:AcOk h H mb ms qs):IsMems wz H (QH 2 mb) ms:=by
 refine⟨qs.map fun q=>(q.1,QH 5 q.2),?_,?_,?_⟩
 ·rw[VV,<-ha.ms];rfl
 ·rw[VV]
  exact IsL.has ha.has (by decide) ha.eq qkZ quv
 ·intro q hq
  obtain⟨x,hx,rfl⟩:=JH.1 hq;exact IsL.has (ha.tk.has x hx) (by decide) (ha.tk.toks x hx) Xn (WJ _)
theorem qCO(m:List (List UInt8)):(qCP m).length<=m.length:=by
 unfold qCP;rw[EQ,K5];omega
theorem qrP(m:List (List UInt8)):∀q∈qeS m,q.toks.length<=100000:=by
 intro q hq;unfold qeS at hq;obtain⟨i,hi,rfl⟩:=List.mem_mapIdx.1 hq;exact V7 (qts _).2 (by decide)
theorem qpv(m:List (List UInt8)):(qeS m).length<=m.length:=by
 unfold qeS;rw[EQ,K5];omega
theorem qww{qs:List LisQ}{i:Nat}(hi:i<qs.length):(qs.map (·.1)).getD i []=(qs.getD i qsE).1:=by
 rw[Ko,Ej,JA hi,Ko,JA hi];rfl
theorem qpO{wz:World}{h:AHeap}{es:Nat}{v:AVal}{xs:List (List AVal)}(hv:IsL wz h es v xs)(hc:Yp v=v){P:Program}{t e:TypeId}(ht:P.underlying t=some (.slice e)):qmg P t v=⟨True, .int .i64 xs.length⟩:=by
 cases hv with
 |nil=>exact qwm ht
 |mk l o n c xs hn hw hcs hl hcap=>
  have:c= .exact n:=by
   simp only[Yp,AVal.slice.injEq,Kb]at hc;exact hc.symm
  subst this;rw[qrL ht,hn]
def FlatX(X:Xr)(f:FaultC)(O:List TokC)(N:List Str):Prop:=(X= .bad f/\O=[]/\N=[])\/(f=okF/\∃st,X= .ok O st/\N=st.names)
theorem FlatX.one{X:Xr}{f f':FaultC}{O O':List TokC}{N N':List Str}(h:FlatX X f O N)(h':FlatX X f' O' N'):f'=f/\O'=O/\N'=N:=by
 rcases h with⟨h1,rfl,rfl⟩|⟨h1,st,h2,rfl⟩<;>rcases h' with⟨h3,rfl,rfl⟩|⟨h3,st',h4,rfl⟩
 ·rw[h1]at h3;injection h3 with h3;exact⟨h3.symm,rfl,rfl⟩
 ·rw[h1]at h4;cases h4
 ·rw[h2]at h3;cases h3
 ·rw[h2]at h4;injection h4 with h4 h5;subst h4 h5;exact⟨h3.trans h1.symm,rfl,rfl⟩
theorem qvN{wz:World}{B h':AHeap}{X:Xr}{r:AVal}(hr:qvr B X r h'):∃(iv mv:AVal) (f:FaultC) (O:List TokC) (N:List Str),r= .tuple [iv,mv,QC f]/\Sub B h'/\IsL wz h' 5 iv (O.map QI)/\IsL wz h' 1 mv (N.map Ut)/\FlatX X f O N:=by
 cases X with
 |bad f=>
  obtain⟨h1,h2,h3⟩:=hr;exact⟨_,_,f,[],[],h1,h3, .nil, .nil, .inl ⟨rfl,rfl,rfl⟩⟩
 |ok out st=>
  obtain⟨tb,nb,C,h1,h2,h3,h4,h5,h6,h7,h8⟩:=hr;exact⟨_,_,okF,out,st.names,h1,((h2.trans (BJ h3)).trans (BJ h5)).trans h7,BH h3 (by decide) h4 Xn ((BJ h5).trans h7),BH h5 (by decide) h6 qam h7, .inr ⟨rfl,st,rfl,rfl⟩⟩
theorem qya{wz:World}{h h':AHeap}{X:Xr}{r:AVal}(hr:qtJ wz h X r h'):∃(ov nv:AVal) (f:FaultC) (O:List TokC) (N:List Str),r= .tuple [ov,nv,QC f]/\Sub h h'/\Yp ov=ov/\Yp nv=nv/\IsL wz h' 5 ov (O.map QI)/\IsL wz h' 1 nv (N.map Ut)/\O.length<=200000/\N.length<=4096/\FlatX X f O N:=by
 obtain⟨ov,nv,f,h1,h2,h3,h4,hc⟩:=hr;rcases hc with⟨-,e1,rfl,rfl⟩|⟨e0,out,st,e1,e2,e3,e4,e5⟩
 ·exact⟨_,_,f,[],[],h1,h2,h3,h4, .nil, .nil,by simp,by simp, .inl ⟨e1,rfl,rfl⟩⟩
 ·exact⟨_,_,f,out,st.names,h1,h2,h3,h4,e2,e3,e4,e5, .inr ⟨e0,st,e1,rfl⟩⟩
set_option maxHeartbeats 4000000 in
theorem l_CopiesExpand(wz:World)(hm:MaxL wz)(h:AHeap)(v:AVal)(x:List UInt8)(hx:IsL wz h 1 v (x.map qdE))(hx63:x.length<=9223372036854775807)(w:AVal)(m:List (List UInt8))(hms:IsLs wz h w m)(hm0:m.length<=9223372036854775807)(hm63:∀y∈m,y.length<=9223372036854775807):
 ACall Tryz.prog wz 3 [v,w] h (fun r _=>r= .bool true):=by
 refine ACall.mono (R:=fun r h'=>r= .bool true/\h'=h) ?_ fun r h' hr=>hr.1;have hlv:=hx.live;have hlen:=hx.len Tryz.underlying23;rw[Jp]at hlen;have hms0:=hms;obtain⟨qs,hmq,hq1,hq2⟩:=hms0;have hwv:=hq1.live;have hqm:qs.length=m.length:=by rw[hmq,Jp]
 have hwlen:=qto hq1;refine qU (n:=86) (rs:=[.tmp 4]) Tryz.func3 rfl rfl rfl rfl (VN rfl) ?_;simp only[Qg];refine awp_rseq [0,1] (by rfl) fun K hK=>?_;simp+decide only[qa,ev,qH,qG,putD,VO,VP,Ka,Kb,↓qd,qb,Js];apply hK;clear hK K;refine qJ ?_;refine awp_rseq [0,1,21] (by rfl) fun K hK=>?_;simp+decide only[qa,ev,qH,qG,putD,VO,VQ,VP,Ka,Kb,↓qg,qc,↓Xe,Qw,↓qw,qm,qA,cond_false,qo,qau,↓Xf,agP,Qv,qM,qK,Qh,implies_true,↓qdn,qiU,qiV,↓Xd,Zv,Zw,↓QW,Qz,Qk,ZA,ZO,hlen,hwlen];apply hK;clear hK K;refine qI (b:=_) rfl (fun hb1=>?_) (fun hb1=>?_)
 ·try simp only[decide_eq_true_eq,JW]at hb1
  refine awp_rseq [4] (by rfl) fun K hK=>?_;refine qO (V:= .bool true) (by rfl) (by rfl) (qiY wz hm _) ?_;simp+decide only[qa,ev,putD,VO,VQ,VP,Ka,Kb,↓qd,qb];apply hK;clear hK K;refine qL ?_;try simp only[Qe]
  refine Qb h zqC (qN (Qc)) ?_;simp+decide only[VQ,if_true,and_true,Qs];all_goals first|rfl|exact⟨rfl,rfl⟩|(simp+decide only[Ka, *];done)|(trace_state;fail)
 ·try simp only[decide_eq_false_iff_not,VT]at hb1
  have hxl:x.length<=10:=by omega
  have hml:m.length<=3:=by omega
  refine qP ?_;change Awp _ _ _ _ _ _ _;refine qJ ?_;refine awp_rseq [0,1,5] (by rfl) fun K hK=>?_;simp+decide only[qa,ev,qH,qG,putD,VO,VP,Ka,Kb,↓qd,qb];apply hK;clear hK K;refine Qm ?_;refine XC [0,1,5] (fun i:Nat=>[(0,v),(1,w),(5, .int .i64 i)]) (fun i:Nat=>h) (fun i:Nat=>i<=qs.length/\∀j,j<i->(m.getD j []).length<=8) (fun i:Nat=>qs.length-i) 0 (by rfl) (Vm _) ⟨Jt _,fun j hj=>absurd hj (EN _)⟩ ?_;rintro i ⟨hi,h6⟩;refine qJ ?_;refine awp_rseq [0,1,5,26] (by rfl) fun K hK=>?_;simp+decide only[qa,ev,putD,VO,VQ,VP,Ka,Kb,↓qg,qc,↓Xe,Qw,↓qw,qm,qR,cond_false,qo,XZ,hwlen];apply hK;clear hK K;refine qI (b:=_) rfl (fun hb2=>?_) (fun hb2=>?_)
  ·try simp only[decide_eq_true_eq]at hb2
   have hi':i<qs.length:=by omega
   obtain⟨lc,o,c,hwe⟩:=qpt hq1 (by omega);have hq1':=hq1;rw[hwe]at hq1';have he:=qwy hq1' hi';obtain⟨y,hy⟩:∃y,y=qs.getD i qsE:=⟨_,rfl⟩
   rw[<-hy]at he;have hym:y∈qs:=by rw[hy];exact qaZ qsE hi'
   have hyv:=hq2 y hym;have hyl:=hyv.live;have hyn:=hyv.len Tryz.underlying23;rw[Jp]at hyn;have hmy:m.getD i []=y.1:=by rw[hmq,hy];exact qww hi'
   have hy63:y.1.length<=9223372036854775807:=hm63 _ (by rw[hmq];exact EO hym);refine qP ?_;change Awp _ _ _ _ _ _ _;refine qJ ?_;refine Qm ?_;refine awp_rseq [0,1,5,34] (by rfl) fun K hK=>?_;simp+decide only[qa,ev,qH,qG,putD,VO,VQ,VP,Ka,Kb,↓qg,qc,↓QE,qY,qW Tryz.underlying24 qCj,↓qF,qz qCM,↓Xe,Qw,↓qw,qm,qA,cond_false,qo,qau,hwe,he,hyl,hyn,Vr,BK];repeat (with_reducible refine And.intro ?_ ?_;· first|trivial|omega|(intro hg;simp only[Ky,JW,Jj,VS,VT,VU,decide_eq_true_eq,decide_eq_false_iff_not,XY]at hg;omega))
   apply hK;clear hK K;refine qI (b:=_) rfl (fun hb3=>?_) (fun hb3=>?_)
   ·try simp only[decide_eq_true_eq]at hb3
    refine awp_rseq [4] (by rfl) fun K hK=>?_;refine qO (V:= .bool true) (by rfl) (by rfl) (qiY wz hm _) ?_;simp+decide only[qa,ev,putD,VO,VQ,VP,Ka,Kb,↓qd,qb];apply hK;clear hK K;refine qL ?_;try simp only[Qe,Qp]
    refine Qb h zqC (qN (Qc)) ?_;simp+decide only[VQ,if_true,and_true,Qs];all_goals first|rfl|exact⟨rfl,rfl⟩|(simp+decide only[Ka, *];done)|(trace_state;fail)
   ·try simp only[decide_eq_false_iff_not]at hb3
    refine qP ?_;change Awp _ _ _ _ _ _ _;refine XW [0,1,5] (by rfl) ?_;simp+decide only[qa,ev,qH,qG,putD,VO,VQ,VP,Ka,Kb,↓qg,qc,↓qw,qm,qA,cond_false,qo,Xa,↓qd,qb];try simp(disch:=omega)only[wrap_i64]
    try simp only[Qj]
    exact⟨i+1,by rw[hwe];rfl,Vm _,⟨hi',fun j hj=>by
     rcases KU j i with z|z
     ·exact h6 j z
     ·rw[show j=i by omega,hmy];omega⟩,by omega⟩
  ·try simp only[decide_eq_false_iff_not]at hb2
   have hm6:∀y∈m,y.length<=8:=by
    intro y hy;obtain⟨j,hj,rfl⟩:=BO hy;have:=h6 j (by omega)
    rwa [Ko,JA hj]at this
   refine XE ?_;change Awp _ _ _ _ _ _ _;refine awp_rseq [1,6] (by rfl) fun K hK=>?_;simp+decide only[ev,putD,VO,VQ,Ka,Kb,↓qg,qc];refine QU (by rfl) (by rfl) (qyK wz _ v x hx hx63) fun x8q1 h8q1 hx8q1=>?_;obtain⟨tb,hxe,o1,o2,o3⟩:=hx8q1;subst hxe;have hs1:Sub h h8q1:=by rw[o3];exact BJ o1
   have hlist:IsL wz h8q1 5 (QH 5 tb) ((lOf x).map QI):=by rw[o3];exact BH o1 (by decide) o2 Xn (Vm _)
   have htl:=QP 5 tb;have hs_h8q1:Sub h h8q1:=BL zqC hs1;have hr_h8q1:=hs_h8q1;simp+decide only[qa,ev,putD,VO,VQ,VP,Ka,Kb,↓qd,qb];apply hK;clear hK K;refine awp_rseq [6,7] (by rfl) fun K hK=>?_;simp+decide only[ev,putD,VO,VQ,Ka,Kb,↓qg,qc];refine QU (by rfl) (by rfl) (qpV wz _ w m (hms.mono hs_h8q1) (by omega) hm63) fun x9q1 h9q1 hx9q1=>?_;obtain⟨s9,hxe,hh9,hL⟩:=hx9q1;subst hxe;have hA:=AcOk.of hL;rw[<-hh9]at hA;have hs3:=hA.sub;have hmem:IsMems wz h9q1 (QH 2 s9.mb) (qeS m):=hA.mems;have hmbl:=QP 2 s9.mb;have hll:=(qts x).2;have hs_h9q1:Sub h h9q1:=BL zqC hs3;have hr_h9q1:Sub h8q1 h9q1:=BL zqC hs3;simp+decide only[qa,ev,putD,VO,VQ,VP,Ka,Kb,↓qd,qb];apply hK;clear hK K;refine awp_rseq [6,7,8,9,10] (by rfl) fun K hK=>?_;simp+decide only[ev,putD,VO,VQ,Ka,Kb,↓qg,qc];refine QU (by rfl) (by rfl) (qsz wz (qeS m) (qBj hml hm6) (V7 (qpv m) (by omega)) _ (QH 5 tb) (QH 2 s9.mb) (lOf x) (qcE x) (hlist.mono hs3) hmem (qiG x) (qhH x) (V7 (qkV x).1 hxl)) fun x10q2 h10q2 hx10q2=>?_;obtain⟨iv,rn,f,O,N,rfl,hs4,hiv,hrn,hX1⟩:=qvN (wz:=wz) hx10q2;have hivl:=hiv.live;have hrnl:=hrn.live;have hs_h10q2:Sub h h10q2:=BL zqC hs4;have hr_h10q2:Sub h9q1 h10q2:=BL zqC hs4;simp+decide only[ev,putD,VO,VQ,Ka,Kb,↓qg,qc,↓QY,QL,QV,KY,J9,VZ,Kn,VZ,Kn,Js,Nat.reduceAdd,QC];refine Qi qaE (cs:=[.int .i64 0, .int .i64 0, .int .i64 0]) (by rfl) fun k10q7 hk10q7=>?_;have hn_10q7:h10q2 k10q7=none:=by first|assumption|(simp only[V9]at hk10q7;simp only[hk10q7])
   have hf_10q7:h k10q7=none:=Bi hs_h10q2 hn_10q7;simp+decide only[ev,putD,VO,VQ,Ka,Kb,↓qd,qb];refine qp (by rfl) (by rfl) zqA QN (by rfl) (by rfl) zqD (Jt _) (by rfl) ?_;simp only[Vi,VX];simp+decide only[qa,ev,putD,VQ,VP,Ka,setAt,VY,Kj,Js,Nat.reduceAdd];apply hK;clear hK K;refine awp_rseq [8,9,10,11,12,13] (by rfl) fun K hK=>?_;simp+decide only[ev,putD,VO,VQ,Ka,Kb,↓qg,qc];refine QU (by rfl) (by rfl) (qis wz _ (QH 5 tb) (QH 2 s9.mb) (lOf x) (qeS m) ((hlist.mono hs3).mono (hs4.trans (Vh hn_10q7))) (hmem.mono (hs4.trans (Vh hn_10q7))) (by omega) (V7 (qpv m) (by omega)) (qrP m)) fun x11q2 h11q2 hx11q2=>?_;obtain⟨ov,nv,f2,O2,N2,rfl,hs5,hc1,hc2,hov,hnv,hO,hN,hX2⟩:=qya hx11q2;obtain⟨rfl,rfl,rfl⟩:=hX1.one hX2;have hovl:=hov.live;have hnvl:=hnv.live;have hon:=Zc hov;have hnn:=qes hnv;have hocap:=qpO hov hc1 Tryz.underlying26;have hncap:=qpO hnv hc2 Tryz.underlying30;rw[Jp]at hocap hncap;have hs_h11q2:Sub h h11q2:=BL zqC hs5;have hr_h11q2:Sub h10q2 h11q2:=BL zqC hs5;have eb_10q7:=hs5 k10q7 _ zqA;simp+decide only[ev,putD,VO,VQ,Ka,Kb,↓qg,qc,↓QY,QL,QV,KY,J9,VZ,Kn,VZ,Kn,Js,Nat.reduceAdd,QC];refine Qi qaE (cs:=[.int .i64 0, .int .i64 0, .int .i64 0]) (by rfl) fun k11q7 hk11q7=>?_;have hn_11q7:h11q2 k11q7=none:=by first|assumption|(simp only[V9]at hk11q7;simp only[hk11q7])
   have hf_11q7:h k11q7=none:=Bi hs_h11q2 hn_11q7;have ne_11q7_10q7:k11q7≠k10q7:=Bj hn_11q7 eb_10q7;simp+decide only[ev,putD,VO,VQ,Ka,Kb,↓qd,qb];refine qp (by rfl) (by rfl) zqA QN (by rfl) (by rfl) zqD (Jt _) (by rfl) ?_;simp only[Vi,VX];simp+decide only[qa,ev,putD,VQ,VP,Ka,setAt,VY,Kj,Js,Nat.reduceAdd];apply hK;clear hK K;refine awp_rseq [4] (by kernel_rfl) fun K hK=>?_;simp+decide only[ev,putD,VO,VQ,Ka,Kb,↓qF,qY,qh Xw QN,↓qw,qm,qR,cond_false,YO,qyc,↓qg,qc,↓Xf,agP,Qv,qM,qK,qC,implies_true,decide_true,Qy,JU,QZ,ne_eq,not_false_eq_true,ne_11q7_10q7.symm,QB wz eb_10q7,QT,qf,VZ,Kn,Js,Nat.reduceAdd,qi,allLive,JU]
   (refine YM (by rfl) ?_;refine qO (V:= .int .i64 0) (by rfl) (by rfl) (qvf wz _ ov iv _ (hov.mono (Vh hn_11q7)) (hiv.mono (((Vh hn_10q7).trans hs5).trans (Vh hn_11q7))) (by omega)) ?_)
   simp+decide only[ev,qH,qG,putD,VO,VQ,Ka,Kb,qM,qC,↓Xd,qm,agP,Qv,qK,implies_true,decide_true,Qy,JU,qA,cond_false,qo,Za,↓QW,Qz,Qk,Xy,↓qg,qc,↓Xf,JU]
   (refine YM (by rfl) ?_;refine qO (V:= .int .i64 0) (by rfl) (by rfl) (quY wz _ nv rn _ (hnv.mono (Vh hn_11q7)) (hrn.mono (((Vh hn_10q7).trans hs5).trans (Vh hn_11q7))) (by omega)) ?_)
   simp+decide only[ev,qH,qG,putD,VO,VQ,Ka,Kb,qM,qC,↓Xd,qm,agP,Qv,qK,implies_true,decide_true,Qy,JU,qA,cond_false,qo,Za,↓QW,Qz,Qk,Xy,↓qg,qc,↓Xf,↓qBT,qzp,↓qdn,Qw,qR,JU,hon,hnn,hocap,hncap]
   (refine YM (by rfl) ?_;refine qO (V:= .bool true) (by rfl) (by rfl) (qiY wz hm _) ?_)
   simp+decide only[qa,ev,qH,qG,putD,VO,VQ,VP,Ka,Kb,↓QW,Qz,Qk,Xy,↓qd,qb,JU];apply hK;clear hK K;refine qL ?_;refine Qb h zqC (qN (Qc)) ?_;simp+decide only[VQ,if_true,and_true,Qs];all_goals first|rfl|exact⟨rfl,rfl⟩|(simp+decide only[Ka, *];done)|(trace_state;fail)
end Go.Proofs.YtlhhaagmakhilaaGreatDoor
namespace Go.Proofs.YtlhhaagmakhilaaGreatDoor
open Go.AM
open Go.ChangeShapes Go.WideShapes Go.ChangeAt Go.RowKit
set_option maxRecDepth 100000
section
variable {H:Type} {enc:TypeId×Value->H} {W:World} {base:Nat} {v:Value} {x:DataW H×List MemPlace}
end
theorem returns_and_shaped{H:Type}{enc:TypeId×Value->H}{a:Assume}{C:Checked}{os:Os}{f:FuncId}{fn:Func}{s:ChangeSpec}{conds:List PathCond}{apart fresh handsOn again:Bool}{X:World->Array Value->Prop}
 (hX:∀(w w':World) (args:Array Value),w.heap=w'.heap->X w args->X w' args)
 (own:ownKnob C.prog.godebug=none) (started:os.Started) (noInit:C.prog.inits.idxOf? f=none) (hfn:C.prog.funcs[f]?=some fn)
 (witness:∃(w:World) (tape:Tape) (i:Input),w.os=os/\(w.forCall tape i).Shaped C.prog/\i.vars=[]/\Input.okWide C.prog (w.forCall tape i) .any w.heap.size f i/\
   ((s.pre enc C.prog fn conds apart (w.forCall tape i).memory i.args/\X (w.forCall tape i).memory i.args)/\sizedMet enc C.prog fn (OpenSpec.ofChange s) apart (w.forCall tape i).memory i.args)/\a.holds C.prog (lone (Frame.enter C.prog f i.args .normal) [] (w.forCall tape i)))
 (contract:∀(W:World) (base:Nat) (args:Array Value) (ds gs:List (DataW H)) (before:List MemPlace),W.ShapedOpen C.prog->
   (∀(j:Nat) t v,fn.params[j]?=some t->args[j]?=some v->Value.okWide C.prog W .any base t v)->
   DataW.Whole enc C.prog fn.params.toList s.vars apart W args.toList ds gs before->
   conds.all (PathCond.test C.prog ⟨fn.params.toList,ds,s.plain.varTypes C.prog,gs⟩)=true->
   (DataW.weightsEach C.prog (fn.params.toList++s.plain.varTypes C.prog) (ds++gs)).all (· <=reachBytes)=true->X W args->
   a.holds C.prog (lone (Frame.enter C.prog f args .normal) [] W)->
   Calls C.prog f args W fun e W'=>∃v,e= .returned v/\s.post enc C.prog fn apart fresh handsOn again W args v W'):
 ReturnsInHanded a C os f .any (fun w args=>(s.pre enc C.prog fn conds apart w args/\X w args)/\sizedMet enc C.prog fn (OpenSpec.ofChange s) apart w args) (s.post enc C.prog fn apart fresh handsOn again):=by
 refine returnsInHanded_of_calls own started noInit witness ?_;intro w tape i _ hsh _ hok hpre hholds;obtain⟨_,_,_,fn',hfn',_,_,_,_,hval⟩:=hok;have e:fn'=fn:=Option.some.inj (hfn'.symm.trans hfn);subst e;obtain⟨⟨⟨ds,gs,before,hw,hc⟩,hx⟩,hz⟩:=hpre;have hw':=DataW.Whole.of_heap (w':=w.forCall tape i) (by rfl) hw;refine(contract (w.forCall tape i) w.heap.size i.args ds gs before hsh hval hw' hc (hz.weights hw) (hX _ _ _ (by rfl) hx) hholds).mono fun e W' ⟨v,he,hp⟩=>?_;subst he;exact ChangeSpec.post_blind hp
theorem maxl_of{W:World}(h:W.ShapedOpen Tryz.prog):MaxL W:=
 cell_of_shapedOpen_int (t:=3) (zero:= #[.int .i64 0]) h (of_decide_eq_true (by kernel_rfl)) (by kernel_rfl) rfl (by kernel_rfl) (by kernel_rfl) Tryz.underlying3
end Go.Proofs.YtlhhaagmakhilaaGreatDoor
namespace Go.AM
open Go.ChangeShapes Go.WideShapes Go.ChangeAt Go.RowKit
section
variable {P:Program} {H:Type} {enc:TypeId×Value->H} {W:World} {α:Type}
structure RowOf(P:Program)(enc:TypeId×Value->H)(W:World)(e:TypeId)(es:Nat)(el:α->List Value)(inv:α->Prop):Prop where
 size:P.cellsOf e=es
 pos:0<es
 len:∀x,(el x).length=es
 live:∀x,inv x->allLive ((el x).map qG)=true
 cell:∀(n:Nat) (cs:List Value) (y:DataW H×List MemPlace),DataW.trod enc P W 0 (fun _=>true) true n e cs=some y->∃x,cs=el x/\inv x
theorem qmu{el:α->List Value}{inv:α->Prop}{es:Nat}{a:Addr}:∀(len:Nat),(∀i,i<len->∃x:α,inv x/\∀j,j<es->W.cell? (a.add (i*es+j))=(el x)[j]?)->
 ∃l:List α,l.length=len/\(∀x∈l,inv x)/\∀i (hi:i<l.length),∀j,j<es->W.cell? (a.add (i*es+j))=(el l[i])[j]?
 |0,_=>⟨[],rfl,by simp,fun i hi=>by simp at hi⟩
 |n+1,h=>by
  obtain⟨l,h1,h2,h3⟩:=qmu n fun i hi=>h i (by omega);obtain⟨x,hx,hc⟩:=h n (by omega);refine⟨l++[x],by simp[h1],?_,fun i hi j hj=>?_⟩
  ·intro y hy
   rcases JJ.1 hy with hy|hy
   ·exact h2 y hy
   ·rw[BG.1 hy];exact hx
  ·by_cases hin:i<l.length
   ·rw[List.getElem_append_left hin]
    exact h3 i hin j hj
   ·have e:i=n:=by simp at hi;omega
    subst e;have:(l++[x])[i]=x:=by rw[List.getElem_append_right (by omega)];simp
    rw[this];exact hc j hj
theorem qlg{el:α->List Value}{inv:α->Prop}{es:Nat}(hes:0<es)(hlen:∀x,(el x).length=es)(hlive:∀x,inv x->allLive ((el x).map qG)=true){b o cap:Nat}{l:List α}(hi:∀x∈l,inv x)(hcap:l.length<=cap)
 (hc:∀i (hi:i<l.length),∀j,j<es->W.cell? ((⟨b,o,none⟩:Addr).add (i*es+j))=(el l[i])[j]?):
 IsL W (fun _=>none) es (.slice (.base b) o l.length (.exact cap)) (l.map fun x=>(el x).map qG):=by
 have hw:∀x∈l.map (fun x=>(el x).map qG),x.length=es:=by
  intro x hx;obtain⟨y,_,rfl⟩:=JH.1 hx;rw[Jp,hlen]
 refine .mk _ _ _ _ _ (by rw[Jp]) hw ?_ (YB.2 fun x hx=>by obtain⟨y,hy,rfl⟩:=JH.1 hx;exact hlive y (hi y hy)) hcap;apply List.ext_getElem?;intro q;by_cases hq:q<l.length*es
 ·rw[qaN _ _ _ _ _ _ hq]
  have hm:q%es<es:=Nat.mod_lt _ hes;have hd:q / es<l.length:=Nat.div_lt_of_lt_mul (by rw[Ee];exact hq);have hqe:q=q / es*es+q%es:=by rw[Ee];exact(Nat.div_add_mod q es).symm
  have hcell:=hc (q / es) hd (q%es) hm;rw[<-hqe]at hcell;have ea:(⟨b,o,none⟩:Addr).add q=⟨b,o+q,none⟩:=by by_cases e:q=0<;>simp[Addr.add,e]
  rw[ea,JA (by rw[hlen];exact hm)]at hcell;have h2:=qfD hw (i:=q / es) (j:=q%es) (by rw[Jp];exact hd) hm;rw[<-hqe]at h2;rw[h2,List.getD_eq_getElem?_getD,Ej,JA hd,KI,Option.getD_some,Ej,JA (by rw[hlen];exact hm),KI];have hlt:b<W.heap.size:=qkf hcell;simp only[AM.rd,hlt,if_true,hcell]
 ·rw[Kr (by rw[qae];omega),Kr (by rw[ZF hw,Jp];omega)]
theorem qmp{e t:TypeId}{es:Nat}{el:α->List Value}{inv:α->Prop}(R:RowOf P enc W e es el inv)(ht:P.underlying t=some (.slice e)){n:Nat}{cs:List Value}{y:DataW H×List MemPlace}(h:DataW.trod enc P W 0 (fun _=>true) true n t cs=some y):
 ∃(v:Value) (l:List α),cs=[v]/\IsL W (fun _=>none) es (qG v) (l.map fun x=>(el x).map qG)/\l.length<=9223372036854775807/\∀x∈l,inv x:=by
 rcases DataW.trod_slice ht h with⟨hcs,_⟩|⟨a,len,cap,elems,rest,n',_,hcs,_,_,hlc,hcm,hel,hcell,hspare,_⟩
 ·exact⟨_,[],hcs, .nil,by simp,by simp⟩
 ·have hlen:len<=9223372036854775807:=V7 hlc hcm
  have one:∀(m i:Nat) (q:Option (DataW H×List MemPlace)),(W.cells? 0 (a.add (i*P.cellsOf e)) (P.cellsOf e)).bind (DataW.trod enc P W 0 (fun _=>true) true m e)=q->q.isSome=true->∃x:α,inv x/\∀j,j<es->W.cell? (a.add (i*es+j))=(el x)[j]?:=by
   intro m i q hq hs;cases q with
   |none=>cases hs
   |some z=>
    rw[Option.bind_eq_some_iff]at hq;obtain⟨cs',hcs',hy⟩:=hq;obtain⟨x,rfl,hx⟩:=R.cell _ _ _ hy;rw[R.size]at hcs';refine⟨x,hx,fun j hj=>?_⟩;have:=(World.cells?_some hcs').2.2 j hj;rw[<-this];congr 1;obtain⟨ab,ao,asp⟩:=a;by_cases e1:i*es=0<;>by_cases e2:j=0<;>simp[Addr.add,e1,e2,Kw]
  obtain⟨l,l1,l2,l3⟩:=qmu (W:=W) (el:=el) (inv:=inv) (es:=es) (a:=a) len fun i hi=>one n' i _ (hcell i hi) (by rw[JA (by omega)];rfl);have spot:∀(x:α),(∀j,j<es->W.cell? (a.add (0*es+j))=(el x)[j]?)->a.spot=none:=by
   intro x hx;have h0:=hx 0 R.pos;rw[JA (by rw[R.len];exact R.pos)]at h0;have:=World.cell?_spot h0
   rwa [Addr.add,if_pos (by rw[K8])]at this
  refine⟨.slice (some a) len cap,l,hcs,?_,by omega,l2⟩;subst l1;obtain⟨ab,ao,asp⟩:=a;by_cases hc0:cap=0
  ·have hl0:l=[]:=Kg (by omega)
   subst hl0;subst hc0;cases asp with
   |none=>exact qlg (l:=([]:List α)) (inv:=inv) R.pos R.len R.live (fun x hx=>by cases hx) (KL _) fun i hi=>absurd hi (EN i)
   |some s=>exact qlg (l:=([]:List α)) (inv:=inv) R.pos R.len R.live (fun x hx=>by cases hx) (KL _) fun i hi=>absurd hi (EN i)
  ·have hs:asp=none:=by
    by_cases hl0:l.length=0
    ·obtain⟨r1,r2⟩:=hspare rfl
     obtain⟨x,_,hx⟩:=one n' l.length _ (r2 0 (by omega)) (by rw[JA (by omega)];rfl);rw[hl0]at hx;exact spot x hx
    ·exact spot _ (l3 0 (by omega))
   subst hs;exact qlg (inv:=inv) R.pos R.len R.live l2 hlc l3
end
end Go.AM
namespace Go.Proofs.YtlhhaagmakhilaaGreatDoor
open Go.AM
open Go.Cop
open Go.ChangeShapes Go.WideShapes Go.ChangeAt Go.RowKit
set_option maxRecDepth 100000
section
variable {H:Type} {enc:TypeId×Value->H} {W:World} {base:Nat} {v:Value} {x:DataW H×List MemPlace}
def qBn(b:UInt8):List Value:=[.int .u8 b.toNat]
theorem qwE(l:List UInt8):(l.map fun e=>(qBn e).map qG)=l.map qdE:=rfl
theorem qzG:RowOf Tryz.prog enc W 5 1 qBn (fun _=>True):=by
 refine⟨by kernel_rfl,by decide,fun _=>rfl,fun _ _=>rfl,fun n cs y h=>?_⟩;obtain⟨a,e0,_,w0⟩:=DataW.trod_int Tryz.underlying5 h;subst e0;obtain⟨a0,a1⟩:=wf_u8 w0;refine⟨KD a.toNat,?_,trivial⟩;unfold qBn;have:((KD a.toNat).toNat:Int)=a:=by
  rw[UInt8.toNat_ofNat',Nat.mod_eq_of_lt (by omega)];omega
 rw[this]
theorem qmI{n:Nat}{cs:List Value}{y:DataW H×List MemPlace}(h:DataW.trod enc Tryz.prog W 0 (fun _=>true) true n 23 cs=some y):
 ∃(v:Value) (l:List UInt8),cs=[v]/\IsL W (fun _=>none) 1 (qG v) (l.map qdE)/\l.length<=9223372036854775807:=by
 obtain⟨v',l,hcs,hL,hl,_⟩:=qmp qzG Tryz.underlying23 h;rw[qwE]at hL;exact⟨v',l,hcs,hL,hl⟩
def qDj(W:World)(q:List UInt8×Value):Prop:=IsL W (fun _=>none) 1 (qG q.2) (q.1.map qdE)/\q.1.length<=9223372036854775807
theorem qwv:RowOf Tryz.prog enc W 23 1 (fun q:List UInt8×Value=>[q.2]) (qDj W):=by
 refine⟨by kernel_rfl,by decide,fun _=>rfl,fun q hq=>?_,fun n cs y h=>?_⟩
 ·simp only[Ke,Vk,AM.allLive,hq.1.live,JU]
 ·obtain⟨v',l,hcs,hL,hl⟩:=qmI h
  exact⟨(l,v'),hcs,hL,hl⟩
theorem arg_L(h:∃fuel,DataW.trod enc Tryz.prog W 0 (fun _=>true) true fuel 23 v.cells.toList=some x)(hv:Value.okWide Tryz.prog W .any base 23 v):
 ∃(l:List UInt8) (y:AVal),VR (fun _=>none) y v/\IsL W (fun _=>none) 1 y (l.map qdE)/\l.length<=9223372036854775807:=by
 obtain⟨fuel,h2⟩:=h;obtain⟨a0,len0,cap0,rfl⟩:=okWide_slice Tryz.underlying23 hv;have h2':DataW.trod enc Tryz.prog W 0 (fun _=>true) true fuel 23 [.slice a0 len0 cap0]=some x:=h2;obtain⟨v',l,hcs,hL,hl⟩:=qmI h2';simp only[List.cons.injEq,and_true]at hcs;subst hcs;exact⟨l,_,qiA _ _,hL,hl⟩
theorem arg_Ls(h:∃fuel,DataW.trod enc Tryz.prog W 0 (fun _=>true) true fuel 24 v.cells.toList=some x)(hv:Value.okWide Tryz.prog W .any base 24 v):
 ∃(m:List (List UInt8)) (y:AVal),VR (fun _=>none) y v/\IsLs W (fun _=>none) y m/\m.length<=9223372036854775807/\∀z∈m,z.length<=9223372036854775807:=by
 obtain⟨fuel,h2⟩:=h;obtain⟨a0,len0,cap0,rfl⟩:=okWide_slice Tryz.underlying24 hv;have h2':DataW.trod enc Tryz.prog W 0 (fun _=>true) true fuel 24 [.slice a0 len0 cap0]=some x:=h2;obtain⟨v',l,hcs,hL,hl,hi⟩:=qmp qwv Tryz.underlying24 h2';simp only[List.cons.injEq,and_true]at hcs;subst hcs;refine⟨l.map (·.1),_,qiA _ _,⟨l.map fun q=>(q.1,qG q.2),?_,?_,?_⟩,by rw[Jp];exact hl,?_⟩
 ·rw[VV];rfl
 ·rw[VV];exact hL
 ·intro q hq
  obtain⟨z,hz,rfl⟩:=JH.1 hq;exact(hi z hz).1
 ·intro z hz
  obtain⟨q,hq,rfl⟩:=JH.1 hz;exact(hi q hq).2
end
end Go.Proofs.YtlhhaagmakhilaaGreatDoor
