/-
  Texts of this proof, joined: AmA, AmB, AmC, AmD, AmE, AmF, AmG, AmH, AmI, AmJ, AmK, AmL, AmM, AmN, AmO, AmP, AmQ, AmR, AmS.
  Conditions: none.
-/
import Derived.WalkKit
import Derived.Lib.Strings
import Derived.Laws.BytesArg
import Derived.Laws.StructEq
import Derived.ChangeKeysEq
import Derived.Laws.Tables
import Derived.Laws.MakeOwn
import Derived.Laws.IdiomStrings
import Derived.Still
import Derived.StillTail
import Derived.ProofKit
import Derived.OpenShut
import Derived.ShutString
import Derived.ChangeOld
import Derived.Below
set_option linter.unusedSimpArgs false
set_option linter.unnecessarySimpa false
set_option linter.unusedVariables false
theorem zqA {p : Prop} (h : p := by repeat (first | exact AHeap.set_same _ _ _ | assumption | refine (AHeap.set_ne _ _ (by first | assumption | exact Ne.symm (by assumption))).trans ?_)) : p := h
theorem zqB {p : Prop} (h : p := by repeat (first | exact Sub.refl _ | assumption | refine Sub.set_both ?_ _ _ | refine Sub.trans_set ?_ (by repeat (first | assumption | refine (AHeap.set_ne _ _ (by first | assumption | exact Ne.symm (by assumption))).trans ?_)))) : p := h
theorem zqC {p : Prop} (h : p := by repeat (first | exact Sub.refl _ | assumption | refine Sub.trans_set ?_ (by assumption))) : p := h
theorem zqD {p : Prop} (h : p := by first | exact Nat.le_refl _ | decide | (simp; done) | (simp; omega)) : p := h
theorem Kb(p:Prop):(True∧p)=p:=true_and p
theorem Ka.{u}{α:Sort u}{a b:α}:(∀{_:Decidable True},(if True then a else b)=a)∧∀{_:Decidable False},(if False then a else b)=b:=⟨if_true _ _,if_false _ _⟩
open Option renaming map_eq_some_iff->Kc,map_some->KJ,bind_some->KP
open List renaming map_cons->Ke,eq_nil_of_length_eq_zero->Kg,cons_append->Kh,take_succ_cons->Ki,set_cons_succ->Kj,getD_cons_succ->Kn,getD->Ko,getElem?_drop->Kq,getElem?_eq_none->Kr,getElem?_cons_zero->Kz,size_toArray->KD,all_cons->KF,getElem?_cons_succ->KN,range->KQ,mem_cons->KX,length_cons->KY,ext_getElem?->KZ,getElem?_take->K3,getElem?_set->K4,length_take->K5,length_drop->K6,append_assoc->Ja,getElem?_append->Jb,length_append->Jc,nil_append->Je,mem_cons_self->Jf,mem_cons_of_mem->Jg,length_map->Jo,take_length->Jp,range'->Jt,getElem?_eq_some_iff->Jy,append_nil->Jz,length_singleton->JA,all_eq_true->JC,mem_range->JD,contains_eq_mem->JG,getElem?_eq_getElem->JH,mem_of_getElem?->JK,mem_filter->JL,length_pos_of_mem->JM,length_nil->JN
open Nat renaming lt_two_pow_self->Kk,lt_of_lt_of_le->Kl,mod_lt->Km,le_of_not_lt->Kt,add_assoc->Kw,add_comm->KA,add_mul->KL,le_refl->KM,lt_or_ge->KU,add_zero->K7,zero_mul->K8,mul_le_mul_right->K9,zero_add->Jq,zero_le->Jr,strongRecOn->Ju,eq_or_lt_of_le->JB,le_of_lt_succ->JI
open Array renaming getD_eq_getD_getElem?->Ku,getElem?_setIfInBounds_ne->Kv,ext'->KG,length_toList->KO,ext_getElem?->KR,getElem?_modify->KS,getElem?_setIfInBounds->KT,getElem?_eq_none->KV,range->Jd,toList_push->Jh,size_pos_iff->Jj,mem_filter->Jk,size_append->Jl,empty_append->Jm,size_map->Jn,replicate->Jv,getElem?_append->Jw,all_eq_true'->JE,getD->JJ
open Bool renaming and_eq_true->Ky,eq_iff_iff->KC,false_eq_true->KW,not_eq_true'->Ji,or_eq_true->JF
open UInt8 renaming ofNat->KE
open Int renaming eq_ofNat_of_zero_le->KH,le_trans->KI
open Iff renaming rfl->Js
namespace Go.AM
open Go.RowKit (Below)
inductive Loc where
 |base (b:Nat)
 |own (k:Nat)
 deriving DecidableEq
inductive Cap where
 |exact(c:Nat)
 |grow (es:Nat)
 deriving DecidableEq
inductive AVal where
 |dead
 |bool (b:Bool)
 |int (k:IntKind) (n:Int)
 |str (s:List UInt8)
 |nilPtr
 |ptr (l:Loc) (o:Nat)
 |nilSlice
 |slice (l:Loc) (o len:Nat) (c:Cap)
 |nilFunc
 |func (f:FuncId) (cap:List AVal)
 |nilIface
 |iface (t:TypeId) (v:AVal)
 |nilMap
 |agg (cs:List AVal)
 |tuple (vs:List AVal)
 |map (k:Nat)
 |mapO (clock:Nat)
 |mapE (born:Nat) (key val:AVal)
 |iterO (m:Nat) (since:Nat) (seen:List Nat) (last:Nat)
instance:Inhabited AVal:=⟨.dead⟩
structure Place where
 blk:Nat
 off:Nat
 room:Nat
abbrev PMap:=Nat->Option Place
def Xi(fi:PMap):Loc->Nat->Option Addr
 | .base b,o=>some ⟨b,o,none⟩
 | .own k,o=>(fi k).map fun p=>⟨p.blk,p.off+o,none⟩
mutual
def VR(fi:PMap):AVal->Value->Prop
 | .dead,_=>True
 | .bool b,v=>v= .bool b
 | .int k n,v=>v= .int k n
 | .str s,v=>v= .string ⟨⟨s⟩⟩
 | .nilPtr,v=>v= .pointer none
 | .ptr l o,v=>∃a,Xi fi l o=some a/\v= .pointer (some a)
 | .nilSlice,v=>v= .slice none 0 0
 | .slice l o len c,v=>match c with
   | .exact c=>∃a,v= .slice (some a) len c/\(c≠0\/len≠0->Xi fi l o=some a)
   | .grow es=>∃k p c a,l= .own k/\fi k=some p/\v= .slice (some a) len c/\len<=c/\(c≠0->a=⟨p.blk,p.off+o,none⟩/\o+c*es=p.room)
 | .nilFunc,v=>v= .nilFunc
 | .func f cs,v=>∃vs:List Value,v= .func (.func f) #[] vs.toArray/\VRs fi cs vs
 | .nilIface,v=>v= .nilIface
 | .iface t x,v=>∃y,v= .iface t y/\VR fi x y
 | .nilMap,v=>v= .map none
 | .agg cs,v=>∃vs:List Value,v= .agg vs.toArray/\VRs fi cs vs
 | .tuple cs,v=>∃vs:List Value,v= .tuple vs.toArray/\VRs fi cs vs
 | .map k,v=>∃p,fi k=some p/\v= .map (some p.blk)
 | .mapO _,_=>False
 | .mapE _ _ _,_=>False
 | .iterO _ _ _ _,_=>False
def VRs(fi:PMap):List AVal->List Value->Prop
 |[],vs=>vs=[]
 |c::cs,vs=>∃v vs',vs=v::vs'/\VR fi c v/\VRs fi cs vs'
end
def PMap.le(fi Ps:PMap):Prop:=∀k p,fi k=some p->Ps k=some p
theorem PMap.le_refl(fi:PMap):fi.le fi:=fun _ _ h=>h
theorem PMap.le_trans{fi Ps χ:PMap}(h:fi.le Ps)(h':Ps.le χ):fi.le χ:=fun k p hk=>h' k p (h k p hk)
theorem qfR{fi Ps:PMap}(h:fi.le Ps){l:Loc}{o:Nat}{a:Addr}(ha:Xi fi l o=some a):Xi Ps l o=some a:=by
 cases l with
 |base b=>exact ha
 |own k=>
  simp only[Xi,Kc]at ha|-
  obtain⟨p,hp,rfl⟩:=ha;exact⟨p,h k p hp,rfl⟩
mutual
theorem YG{fi Ps:PMap}(h:fi.le Ps):∀(x:AVal) (v:Value),VR fi x v->VR Ps x v
 | .dead,_,hv=>hv
 | .bool _,_,hv=>hv
 | .int _ _,_,hv=>hv
 | .str _,_,hv=>hv
 | .nilPtr,_,hv=>hv
 | .ptr _ _,_,hv=>by
   simp only[VR]at hv|-
   obtain⟨a,ha,rfl⟩:=hv;exact⟨a,qfR h ha,rfl⟩
 | .nilSlice,_,hv=>hv
 | .slice _ _ _ c,_,hv=>by
   cases c with
   |exact c=>
    simp only[VR]at hv|-
    obtain⟨a,rfl,ha⟩:=hv;exact⟨a,rfl,fun hc=>qfR h (ha hc)⟩
   |grow es=>
    simp only[VR]at hv|-
    obtain⟨k,p,c,a,hl,hp,rest⟩:=hv;exact⟨k,p,c,a,hl,h k p hp,rest⟩
 | .nilFunc,_,hv=>hv
 | .func _ cs,_,hv=>by
   simp only[VR]at hv|-
   obtain⟨vs,rfl,hs⟩:=hv;exact⟨vs,rfl,qaa h cs vs hs⟩
 | .nilIface,_,hv=>hv
 | .iface _ x,_,hv=>by
   simp only[VR]at hv|-
   obtain⟨y,rfl,hy⟩:=hv;exact⟨y,rfl,YG h x y hy⟩
 | .nilMap,_,hv=>hv
 | .agg cs,_,hv=>by
   simp only[VR]at hv|-
   obtain⟨vs,rfl,hs⟩:=hv;exact⟨vs,rfl,qaa h cs vs hs⟩
 | .tuple cs,_,hv=>by
   simp only[VR]at hv|-
   obtain⟨vs,rfl,hs⟩:=hv;exact⟨vs,rfl,qaa h cs vs hs⟩
 | .map k,_,hv=>by
   simp only[VR]at hv|-
   obtain⟨p,hp,rfl⟩:=hv;exact⟨p,h k p hp,rfl⟩
 | .mapO _,_,hv=>by simp only[VR]at hv
 | .mapE _ _ _,_,hv=>by simp only[VR]at hv
 | .iterO _ _ _ _,_,hv=>by simp only[VR]at hv
theorem qaa{fi Ps:PMap}(h:fi.le Ps):∀(xs:List AVal) (vs:List Value),VRs fi xs vs->VRs Ps xs vs
 |[],_,hv=>hv
 |x::xs,vs,hv=>by
  simp only[VRs]at hv|-
  obtain⟨v,vs',rfl,h1,h2⟩:=hv;exact⟨v,vs',rfl,YG h x v h1,qaa h xs vs' h2⟩
end
def qG:Value->AVal
 | .bool b=> .bool b
 | .int k n=> .int k n
 | .string s=> .str s.data.toList
 | .pointer none=> .nilPtr
 | .pointer (some ⟨b,o,none⟩)=> .ptr (.base b) o
 | .slice none 0 0=> .nilSlice
 | .slice (some ⟨b,o,none⟩) len cap=> .slice (.base b) o len (.exact cap)
 | .slice (some ⟨b,o,some _⟩) 0 0=> .slice (.base b) o 0 (.exact 0)
 | .nilFunc=> .nilFunc
 | .nilIface=> .nilIface
 | .map none=> .nilMap
 |_=> .dead
def qK:Value->AVal
 | .agg cs=> .agg (cs.toList.map qG)
 | .tuple cs=> .tuple (cs.toList.map qG)
 |v=>qG v
theorem qin(fi:PMap)(v:Value):VR fi (qG v) v:=by
 unfold qG;split<;>simp[VR,Xi]
theorem WM(fi:PMap):∀l:List Value,VRs fi (l.map qG) l
 |[]=>by simp[VRs]
 |v::l=>by
  simp only[Ke,VRs];exact⟨v,l,rfl,qin fi v,WM fi l⟩
theorem qmE(fi:PMap)(v:Value):VR fi (qK v) v:=by
 unfold qK;split
 ·rename_i cs
  simp only[VR];exact⟨cs.toList,by simp,WM fi _⟩
 ·rename_i cs
  simp only[VR];exact⟨cs.toList,by simp,WM fi _⟩
 ·exact qin fi v
theorem XF{fi:PMap}:∀{xs:List AVal} {vs:List Value},VRs fi xs vs->vs.length=xs.length
 |[],_,h=>by simp only[VRs]at h;simp[h]
 |x::xs,vs,h=>by
  simp only[VRs]at h;obtain⟨v,vs',rfl,_,h2⟩:=h;simp[XF h2]
theorem qgs{fi:PMap}:∀{xs:List AVal} {vs:List Value},VRs fi xs vs->∀(j:Nat) (d:Value),j<xs.length->VR fi (xs.getD j .dead) (vs.getD j d)
 |[],_,_,j,_,hj=>by simp at hj
 |x::xs,vs,h,j,d,hj=>by
  simp only[VRs]at h;obtain⟨v,vs',rfl,h1,h2⟩:=h;cases j with
  |zero=>simpa using h1
  |succ j=>simpa using qgs h2 j d (by simpa using hj)
theorem qjO{fi:PMap}:∀{xs:List AVal} {vs:List Value},vs.length=xs.length->(∀j,j<xs.length->VR fi (xs.getD j .dead) (vs.getD j default))->VRs fi xs vs
 |[],vs,hl,_=>by simp only[VRs];exact Kg (by simpa using hl)
 |x::xs,vs,hl,h=>by
  cases vs with
  |nil=>simp at hl
  |cons v vs'=>
   simp only[VRs];exact⟨v,vs',rfl,by simpa using h 0 (by simp),qjO (by simpa using hl) fun j hj=>by simpa using h (j+1) (by simpa using hj)⟩
theorem qao{fi:PMap}{xs ys:List AVal}{vs us:List Value}(h:VRs fi xs vs)(h':VRs fi ys us):VRs fi (xs++ys) (vs++us):=by
 induction xs generalizing vs with
 |nil=>simp only[VRs]at h;subst h;simpa using h'
 |cons x xs ih=>
  simp only[VRs]at h;obtain⟨v,vs',rfl,h1,h2⟩:=h;simp only[Kh,VRs];exact⟨v,vs'++us,rfl,h1,ih h2⟩
theorem qgt{fi:PMap}:∀(n:Nat) {xs:List AVal} {vs:List Value},VRs fi xs vs->VRs fi (xs.drop n) (vs.drop n)
 |0,_,_,h=>by simpa using h
 |n+1,[],vs,h=>by simp only[VRs]at h;subst h;simp[VRs]
 |n+1,x::xs,vs,h=>by
  simp only[VRs]at h;obtain⟨v,vs',rfl,_,h2⟩:=h;simpa using qgt n h2
theorem qjM{fi:PMap}:∀(n:Nat) {xs:List AVal} {vs:List Value},VRs fi xs vs->VRs fi (xs.take n) (vs.take n)
 |0,_,_,_=>by simp[VRs]
 |n+1,[],vs,h=>by simp only[VRs]at h;subst h;simp[VRs]
 |n+1,x::xs,vs,h=>by
  simp only[VRs]at h;obtain⟨v,vs',rfl,h1,h2⟩:=h;simp only[Ki,VRs];exact⟨v,vs'.take n,rfl,h1,qjM n h2⟩
theorem qrD{fi:PMap}:∀{xs:List AVal} {vs:List Value},VRs fi xs vs->∀(j:Nat) {x:AVal} {v:Value},VR fi x v->VRs fi (xs.set j x) (vs.set j v)
 |[],vs,h,j,_,_,_=>by simp only[VRs]at h;subst h;simp[VRs]
 |y::xs,vs,h,j,x,v,hv=>by
  simp only[VRs]at h;obtain⟨u,vs',rfl,h1,h2⟩:=h;cases j with
  |zero=>simp only[List.set_cons_zero,VRs];exact⟨v,vs',rfl,hv,h2⟩
  |succ j=>simp only[Kj,VRs];exact⟨u,vs'.set j v,rfl,h1,qrD h2 j hv⟩
structure Blk where
 cells:List AVal
 frz:Nat:=0
abbrev AHeap:=Nat->Option Blk
def AHeap.set(h:AHeap)(k:Nat)(b:Blk):AHeap:=fun j=>if j=k then some b else h j
def AHeap.del(h:AHeap)(k:Nat):AHeap:=fun j=>if j=k then none else h j
theorem AHeap.set_same(h:AHeap)(k:Nat)(b:Blk):h.set k b k=some b:=by simp[AHeap.set]
theorem AHeap.set_ne(h:AHeap){k j:Nat}(b:Blk)(hj:j≠k):h.set k b j=h j:=by simp[AHeap.set,hj]
theorem AHeap.set_set(h:AHeap)(k:Nat)(b c:Blk):(h.set k b).set k c=h.set k c:=by
 funext j;by_cases e:j=k<;>simp[AHeap.set,e]
structure RowOk(fi:PMap)(b:Blk)(p:Place)(w:World):Prop where
 row:∃cs e lo hi,w.heap[p.blk]?=some (.cells cs e (lo,hi))/\p.off+p.room=cs.size/\b.cells.length<=p.room/\b.frz<=b.cells.length/\
  VRs fi b.cells ((cs.toList.drop p.off).take b.cells.length)/\(lo<=hi/\∀i,lo<=i->i<hi->(0<b.frz/\i<p.off+b.frz)\/cs.size<=i)
def ERel(fi:PMap):List AVal->List MapEntry->Prop
 |[],l=>l=[]
 |c::cs,l=>∃e l',l=e::l'/\(match c with
  | .mapE b k v=>e.born=b/\VR fi k e.key/\VR fi v e.val
  |_=>False)/\ERel fi cs l'
def ORel(fi:PMap):List AVal->Obj->Prop
 | .mapO c::es, .map entries clock=>clock=c/\ERel fi es entries.toList
 |[.iterO m since seen last], .mapIter (some r) since' seen' last'=>(∃p,fi m=some p/\r=p.blk)/\since'=since/\seen'.toList=seen/\last'=last
 |_,_=>False
structure ObjOk(fi:PMap)(b:Blk)(p:Place)(w:World):Prop where
 frz:b.frz=b.cells.length+1
 at_:p.off=0/\p.room=0
 obj:∃o,w.heap[p.blk]?=some o/\ORel fi b.cells o
def BlkOk(fi:PMap)(b:Blk)(p:Place)(w:World):Prop:=RowOk fi b p w\/ObjOk fi b p w
theorem BlkOk.row{fi:PMap}{b:Blk}{p:Place}{w:World}(h:BlkOk fi b p w)(hf:b.frz<=b.cells.length):∃cs e lo hi,w.heap[p.blk]?=some (.cells cs e (lo,hi))/\p.off+p.room=cs.size/\b.cells.length<=p.room/\b.frz<=b.cells.length/\
 VRs fi b.cells ((cs.toList.drop p.off).take b.cells.length)/\(lo<=hi/\∀i,lo<=i->i<hi->(0<b.frz/\i<p.off+b.frz)\/cs.size<=i):=by
 rcases h with h|h
 ·exact h.row
 ·have:=h.frz
  omega
theorem BlkOk.obj{fi:PMap}{b:Blk}{p:Place}{w:World}(h:BlkOk fi b p w)(hf:b.frz=b.cells.length+1):ObjOk fi b p w:=by
 rcases h with h|h
 ·obtain⟨cs,e,lo,hi,h1,h2,h3,h4,h5,h6⟩:=h.row
  omega
 ·exact h
theorem ERel.mono{fi Ps:PMap}(hl:fi.le Ps):∀{cs:List AVal} {l:List MapEntry},ERel fi cs l->ERel Ps cs l
 |[],_,h=>h
 |c::cs,l,h=>by
  obtain⟨e,l',h1,h2,h3⟩:=h;refine⟨e,l',h1,?_,h3.mono hl⟩;cases c<;>first|exact h2.elim|exact⟨h2.1,YG hl _ _ h2.2.1,YG hl _ _ h2.2.2⟩
theorem ORel.mono{fi Ps:PMap}(hl:fi.le Ps){cs:List AVal}{o:Obj}(h:ORel fi cs o):ORel Ps cs o:=by
 unfold ORel at h|-
 split at h
 ·exact⟨h.1,h.2.mono hl⟩
 ·obtain⟨⟨p,h1,h2⟩,h3⟩:=h
  exact⟨⟨p,hl _ _ h1,h2⟩,h3⟩
 ·exact h.elim
def UD(k:Nat):Option TypeId:=if k=2^k.log2 then some (k.log2%4096)else none
def TyOk(k:Nat)(p:Place)(w:World):Prop:=∀t,UD k=some t->p.off=0/\∃cs fr,w.heap[p.blk]?=some (.cells cs t fr)
theorem TyOk.world{k:Nat}{p:Place}{w w':World}(h:TyOk k p w)(hw:w'.heap[p.blk]?=w.heap[p.blk]?):TyOk k p w':=fun t ht=>by rw[hw];exact h t ht
theorem TyOk.none{k:Nat}{p:Place}{w:World}(h:UD k=Option.none):TyOk k p w:=fun t ht=>by rw[h]at ht;cases ht
theorem qto(e:TypeId)(he:e<4096)(N:Nat):∃k,N<=k/\UD k=some e:=by
 refine⟨2^(4096*N+e),?_,?_⟩
 ·have:=@Kk (4096*N+e)
  omega
 ·unfold UD
  rw[Nat.log2_two_pow,if_pos rfl,Nat.mul_add_mod,Nat.mod_eq_of_lt he]
theorem qmL(N L:Nat):∃M,N<=M/\∀i,i<L->UD (M+i)=none:=by
 refine⟨2^(N+L+1)+1,?_,fun i hi=>?_⟩
 ·have:=@Kk (N+L+1)
  omega
 ·have h1:=@Kk (N+L+1)
  have h2:(2^(N+L+1)+1+i).log2=N+L+1:=by
   rw[Nat.log2_eq_iff (by omega)];rw[Nat.pow_succ 2 (N+L+1)];omega
  unfold UD;rw[h2,if_neg (by omega)]
structure HRel(wz:World)(fi:PMap)(h:AHeap)(w:World):Prop where
 below:Below wz.heap.size wz w
 own:∀k b,h k=some b->∃p,fi k=some p/\wz.heap.size<=p.blk/\BlkOk fi b p w
 inj:∀k k' b b' p p',h k=some b->h k'=some b'->fi k=some p->fi k'=some p'->p.blk=p'.blk->k=k'
 lt:∀k p,fi k=some p->p.blk<w.heap.size
 fin:∃N,∀k,N<=k->fi k=none
 typ:∀k p,fi k=some p->TyOk k p w
theorem HRel.start(w:World):HRel w (fun _=>none) (fun _=>none) w:=
 ⟨Below.refl _ _,by simp,by simp,by simp,⟨0,by simp⟩,by simp⟩
theorem HRel.forget{wz w:World}{fi:PMap}{h h':AHeap}(hr:HRel wz fi h w)(hs:∀k b,h' k=some b->h k=some b):HRel wz fi h' w:=
 ⟨hr.below,fun k b hb=>hr.own k b (hs k b hb),fun k k' b b' p p' hb hb'=>hr.inj k k' b b' p p' (hs k b hb) (hs k' b' hb'),hr.lt,hr.fin,hr.typ⟩
theorem BlkOk.mono{fi Ps:PMap}{b:Blk}{p:Place}{w:World}(h:BlkOk fi b p w)(hl:fi.le Ps):BlkOk Ps b p w:=by
 rcases h with h|h
 ·obtain⟨cs,e,lo,hi,h1,h2,h3,h4,h5,h6⟩:=h.row
  exact .inl ⟨cs,e,lo,hi,h1,h2,h3,h4,qaa hl _ _ h5,h6⟩
 ·obtain⟨o,h1,h2⟩:=h.obj
  exact .inr ⟨h.frz,h.at_,o,h1,h2.mono hl⟩
theorem BlkOk.world{fi:PMap}{b:Blk}{p:Place}{w w':World}(h:BlkOk fi b p w)(hw:w'.heap[p.blk]?=w.heap[p.blk]?):BlkOk fi b p w':=by
 rcases h with h|h
 ·obtain⟨cs,e,lo,hi,h1,rest⟩:=h.row
  exact .inl ⟨cs,e,lo,hi,by rw[hw];exact h1,rest⟩
 ·obtain⟨o,h1,h2⟩:=h.obj
  exact .inr ⟨h.frz,h.at_,o,by rw[hw];exact h1,h2⟩
theorem HRel.later{wz w w':World}{fi:PMap}{h:AHeap}(hr:HRel wz fi h w)(hb:Below w.heap.size w w'):HRel wz fi h w':=by
 refine⟨hr.below.trans (hb.mono hr.below.size),fun k b hk=>?_,hr.inj,fun k p hk=>Kl (hr.lt k p hk) hb.size,hr.fin,fun k p hk=>(hr.typ k p hk).world (hb.block _ (hr.lt k p hk))⟩;obtain⟨p,hp,h1,h2⟩:=hr.own k b hk;exact⟨p,hp,h1,h2.world (hb.block _ (hr.lt k p hp))⟩
theorem HRel.push{wz w w':World}{fi:PMap}{h:AHeap}(hr:HRel wz fi h w)(k:Nat)(hk:h k=none)(hφ:fi k=none)(b:Blk)(p:Place)
 (hb:Below w.heap.size w w') (hp:w.heap.size<=p.blk) (hp':p.blk<w'.heap.size) (ok:BlkOk (fun j=>if j=k then some p else fi j) b p w') (ht:TyOk k p w'):
 fi.le (fun j=>if j=k then some p else fi j)/\HRel wz (fun j=>if j=k then some p else fi j) (h.set k b) w':=by
 have hle:fi.le (fun j=>if j=k then some p else fi j):=fun j q hj=>by
  by_cases e:j=k
  ·subst e;rw[hφ]at hj;cases hj
  ·simp[e,hj]
 have old:∀j b',h j=some b'->j≠k:=fun j b' hj e=>by subst e;rw[hk]at hj;cases hj
 refine⟨hle,hr.below.trans (hb.mono hr.below.size),fun j b' hj=>?_,fun j j' b1 b2 p1 p2 h1 h2 f1 f2 e=>?_,fun j q hj=>?_,?_,fun j q hj=>?_⟩
 ·by_cases e:j=k
  ·subst e
   simp only[AHeap.set_same,Option.some.injEq]at hj;subst hj;exact⟨p,by simp,Nat.le_trans hr.below.size hp,ok⟩
  ·rw[AHeap.set_ne _ _ e]at hj
   obtain⟨q,hq,h1,h2⟩:=hr.own j b' hj;exact⟨q,by simp[e,hq],h1,(h2.world (hb.block _ (hr.lt j q hq))).mono hle⟩
 ·by_cases e1:j=k<;>by_cases e2:j'=k
  ·rw[e1,e2]
  ·exfalso
   simp only[e1,if_true,Option.some.injEq]at f1;simp only[e2,if_false]at f2;have:=hr.lt j' p2 f2;subst f1;omega
  ·exfalso
   simp only[e2,if_true,Option.some.injEq]at f2;simp only[e1,if_false]at f1;have:=hr.lt j p1 f1;subst f2;omega
  ·rw[AHeap.set_ne _ _ e1]at h1
   rw[AHeap.set_ne _ _ e2]at h2;simp only[e1,e2,if_false]at f1 f2;exact hr.inj j j' b1 b2 p1 p2 h1 h2 f1 f2 e
 ·by_cases e:j=k
  ·simp only[e,if_true,Option.some.injEq]at hj
   subst hj;exact hp'
  ·simp only[e,if_false]at hj
   exact Kl (hr.lt j q hj) hb.size
 ·obtain⟨N,hN⟩:=hr.fin
  exact⟨max N (k+1),fun j hj=>by
   have h1:j≠k:=by omega
   simp only[h1,if_false];exact hN j (by omega)⟩
 ·by_cases e:j=k
  ·subst e
   simp only[if_true,Option.some.injEq]at hj;subst hj;exact ht
  ·simp only[e,if_false]at hj
   exact(hr.typ j q hj).world (hb.block _ (hr.lt j q hj))
theorem HRel.free{wz w:World}{fi:PMap}{h:AHeap}(hr:HRel wz fi h w){k:Nat}(hφ:fi k=none):h k=none:=by
 cases e:h k with
 |none=>rfl
 |some b=>
  obtain⟨p,hp,_⟩:=hr.own _ b e;rw[hφ]at hp;cases hp
theorem HRel.freshN{wz w:World}{fi:PMap}{h:AHeap}(hr:HRel wz fi h w):∃k,h k=none/\fi k=none/\UD k=none:=by
 obtain⟨N,hN⟩:=hr.fin;obtain⟨M,h1,h2⟩:=qmL N 1;exact⟨M,hr.free (hN M h1),hN M h1,h2 0 (by omega)⟩
theorem HRel.freshE{wz w:World}{fi:PMap}{h:AHeap}(hr:HRel wz fi h w)(e:TypeId):∃k,h k=none/\fi k=none/\(e<4096->UD k=some e)/\∀t,UD k=some t->t=e:=by
 by_cases he:e<4096
 ·obtain⟨N,hN⟩:=hr.fin
  obtain⟨k,h1,h2⟩:=qto e he N;exact⟨k,hr.free (hN k h1),hN k h1,fun _=>h2,fun t ht=>by rw[h2]at ht;exact(Option.some.inj ht).symm⟩
 ·obtain⟨k,h1,h2,h3⟩:=hr.freshN
  exact⟨k,h1,h2,fun h=>absurd h he,fun t ht=>by rw[h3]at ht;cases ht⟩
theorem qpT{k:Nat}{t:TypeId}(h:UD k=some t):t<4096:=by
 unfold UD at h;split at h
 ·rw[<-Option.some.inj h];exact Km _ (by omega)
 ·cases h
theorem HRel.freshT{wz w:World}{fi:PMap}{h:AHeap}(hr:HRel wz fi h w)(k₀:Nat):∃k,h k=none/\fi k=none/\UD k=UD k₀:=by
 cases e:UD k₀ with
 |none=>exact hr.freshN
 |some t=>
  obtain⟨k,h1,h2,h3,_⟩:=hr.freshE t;exact⟨k,h1,h2,h3 (qpT e)⟩
theorem HRel.write{wz w w':World}{fi:PMap}{h:AHeap}(hr:HRel wz fi h w)(k:Nat)(b b':Blk)(p:Place)(hk:h k=some b)(hp:fi k=some p)
 (hsize:w'.heap.size=w.heap.size) (hos:w'.os=w.os) (htape:w'.tape=w.tape) (hout:w'.output=w.output)
 (hother:∀i,i≠p.blk->w'.heap[i]?=w.heap[i]?) (hty:∀cs e fr,w.heap[p.blk]?=some (.cells cs e fr)->∃cs' fr',w'.heap[p.blk]?=some (.cells cs' e fr')) (ok:BlkOk fi b' p w'):HRel wz fi (h.set k b') w':=by
 obtain⟨q,hq,hq1,hq2⟩:=hr.own k b hk;have hpq:q=p:=by rw[hp]at hq;exact(Option.some.inj hq).symm
 subst hpq;refine⟨⟨hos.trans hr.below.os,htape.trans hr.below.tape,hout.trans hr.below.output,by rw[hsize];exact hr.below.size,fun i hi=>?_⟩,fun j b1 hj=>?_,fun j j' b1 b2 p1 p2 h1 h2 f1 f2 e=>?_,fun j r hj=>by rw[hsize];exact hr.lt j r hj,hr.fin,fun j r hj t ht=>?_⟩
 ·rw[hother i (by omega)]
  exact hr.below.block i hi
 ·by_cases e:j=k
  ·subst e
   simp only[AHeap.set_same,Option.some.injEq]at hj;subst hj;exact⟨q,hp,hq1,ok⟩
  ·rw[AHeap.set_ne _ _ e]at hj
   obtain⟨r,hr0,hr1,hr2⟩:=hr.own j b1 hj;refine⟨r,hr0,hr1,hr2.world (hother _ fun e'=>e ?_)⟩;exact hr.inj j k b1 b r q hj hk hr0 hp e'
 ·have g:∀i c,h.set k b' i=some c->∃c',h i=some c':=fun i c hi=>by
   by_cases e:i=k
   ·subst e;exact⟨b,hk⟩
   ·rw[AHeap.set_ne _ _ e]at hi;exact⟨c,hi⟩
  obtain⟨c1,g1⟩:=g j b1 h1;obtain⟨c2,g2⟩:=g j' b2 h2;exact hr.inj j j' c1 c2 p1 p2 g1 g2 f1 f2 e
 ·obtain⟨h0,cs,fr,hcs⟩:=hr.typ j r hj t ht
  refine⟨h0,?_⟩;by_cases e:r.blk=q.blk
  ·rw[e]at hcs|-
   exact hty cs t fr hcs
  ·exact⟨cs,fr,by rw[hother _ e];exact hcs⟩
def AVal.live:AVal->Bool
 | .dead=>false
 | .mapO _=>false
 | .mapE _ _ _=>false
 | .iterO _ _ _ _=>false
 |_=>true
theorem ERel.dead{fi:PMap}:∀{cs:List AVal} {l:List MapEntry},ERel fi cs l->∀o,(cs.getD o .dead).live=false
 |[],_,_,o=>by simp[AVal.live]
 |c::cs,l,h,o=>by
  obtain⟨e,l',h1,h2,h3⟩:=h;cases o with
  |zero=>cases c<;>first|rfl|exact h2.elim
  |succ o=>rw[Kn];exact h3.dead o
theorem ORel.dead{fi:PMap}{cs:List AVal}{ob:Obj}(h:ORel fi cs ob)(o:Nat):(cs.getD o .dead).live=false:=by
 unfold ORel at h;split at h
 ·cases o with
  |zero=>rfl
  |succ o=>rw[Kn];exact h.2.dead o
 ·cases o with
  |zero=>rfl
  |succ o=>simp[AVal.live]
 ·exact h.elim
theorem BlkOk.cell{fi:PMap}{b:Blk}{p:Place}{w:World}(h0:BlkOk fi b p w)(o:Nat)(ho:o<b.cells.length)(hl:(b.cells.getD o .dead).live=true):
 ∃v,w.cell? ⟨p.blk,p.off+o,none⟩=some v/\VR fi (b.cells.getD o .dead) v:=by
 rcases h0 with h|h
 rotate_left
 ·exfalso
  obtain⟨ob,_,h2⟩:=h.obj;rw[h2.dead]at hl;cases hl
 obtain⟨cs,e,lo,hi,h1,h2,h3,h4,h5,h6⟩:=h.row;have hlt:p.off+o<cs.size:=by omega
 refine⟨cs[p.off+o],?_,?_⟩
 ·simp[World.cell?,h1,hlt]
 ·have:=qgs h5 o default ho
  have e2:((cs.toList.drop p.off).take b.cells.length).getD o default=cs[p.off+o]:=by
   simp[Ko,Kq,ho,hlt]
  rw[e2]at this;exact this
def rd(wz:World)(h:AHeap):Loc->Nat->AVal
 | .base b,o=>if b<wz.heap.size then(match wz.cell? ⟨b,o,none⟩with|some v=>qG v|none=> .dead)else .dead
 | .own k,o=>match h k with|some b=>b.cells.getD o .dead|none=> .dead
theorem HRel.rd{wz w:World}{fi:PMap}{h:AHeap}(hr:HRel wz fi h w)(l:Loc)(o:Nat)(hl:(rd wz h l o).live=true):
 ∃a v,Xi fi l o=some a/\w.cell? a=some v/\VR fi (AM.rd wz h l o) v/\a.spot=none:=by
 cases l with
 |base b=>
  simp only[AM.rd]at hl|-
  by_cases hb:b<wz.heap.size
  ·simp only[hb,if_true]at hl|-
   cases hc:wz.cell? ⟨b,o,none⟩with
   |none=>simp[hc,AVal.live]at hl
   |some v=>
    simp only[Xi,Option.some.injEq];exact⟨_,v,rfl,by rw[hr.below.cell (p:=⟨b,o,none⟩) hb];exact hc,qin fi v,rfl⟩
  ·simp[hb,AVal.live]at hl
 |own k=>
  simp only[AM.rd]at hl|-
  cases hk:h k with
  |none=>simp[hk,AVal.live]at hl
  |some b=>
   simp only[hk]at hl|-
   obtain⟨p,hp,_,ok⟩:=hr.own k b hk;have ho:o<b.cells.length:=by
    by_cases hlt:o<b.cells.length
    ·exact hlt
    ·simp[Ko,Kr (Kt hlt),AVal.live]at hl
   obtain⟨v,h1,h2⟩:=ok.cell o ho hl;exact⟨_,v,by simp[Xi,hp],h1,h2,rfl⟩
abbrev Slots:=List (Nat×AVal)
def Slots.get:Slots->Nat->AVal
 |[],_=> .dead
 |(j,v)::r,i=>if i=j then v else Slots.get r i
def Slots.put:Slots->Nat->AVal->Slots
 |[],i,v=>[(i,v)]
 |(j,u)::r,i,v=>if i<j then(i,v)::(j,u)::r else if i=j then(i,v)::r else(j,u)::Slots.put r i v
def Slots.keep:Slots->List Nat->Slots
 |[],_=>[]
 |(j,v)::r,l=>if l.contains j then(j,v)::Slots.keep r l else Slots.keep r l
theorem Slots.get_put:∀(s:Slots) (i:Nat) (v:AVal) (j:Nat),(s.put i v).get j=if j=i then v else s.get j
 |[],i,v,j=>by simp[Slots.put,Slots.get]
 |(k,u)::r,i,v,j=>by
  simp only[Slots.put];split
  ·simp[Slots.get]
  ·split
   ·rename_i h1 h2
    subst h2;by_cases e:j=i<;>simp[Slots.get,e]
   ·rename_i h1 h2
    simp only[Slots.get];rw[Slots.get_put r i v j];by_cases e:j=k
    ·subst e
     simp[Ne.symm h2]
    ·simp[e]
theorem Slots.get_keep:∀(s:Slots) (l:List Nat) (j:Nat),(s.keep l).get j=if l.contains j then s.get j else .dead
 |[],l,j=>by simp[Slots.keep,Slots.get]
 |(k,u)::r,l,j=>by
  simp only[Slots.keep];by_cases hk:l.contains k=true
  ·simp only[hk,if_true,Slots.get]
   rw[Slots.get_keep r l j];by_cases e:j=k
   ·subst e;rw[if_pos rfl,if_pos hk,if_pos rfl]
   ·rw[if_neg e,if_neg e]
  ·simp only[hk,Slots.get]
   rw[if_neg (by simp),Slots.get_keep r l j];by_cases e:j=k
   ·subst e;rw[if_neg hk,if_neg hk]
   ·rw[if_neg e]
structure FrameK where
 sz:Nat
 dfr:List Deferred
 G:Exit->PMap->Act->World->Prop
instance:Coe FrameK Nat:=⟨FrameK.sz⟩
instance (k:Nat):OfNat FrameK k:=⟨⟨k,[],fun _ _ _ _=>False⟩⟩
structure SRel(fi:PMap)(n:FrameK)(s:Slots)(a:Act):Prop where
 size:a.tmps.size=n.sz
 defers:a.defers=n.dfr
 val:∀i,VR fi (s.get i) (a.tmps.getD i undef)
theorem SRel.mono{fi Ps:PMap}{n:FrameK}{s:Slots}{a:Act}(h:SRel fi n s a)(hl:fi.le Ps):SRel Ps n s a:=
 ⟨h.size,h.defers,fun i=>YG hl _ _ (h.val i)⟩
theorem SRel.put{fi:PMap}{n:FrameK}{s:Slots}{a:Act}(h:SRel fi n s a)(d:Nat)(hd:d<n.sz){x:AVal}{v:Value}(hv:VR fi x v):
 SRel fi n (s.put d x) (a.put (some d) v):=by
 refine⟨by simp[Act.put,h.size],h.defers,fun i=>?_⟩;rw[Slots.get_put];by_cases e:i=d
 ·subst e
  have hs:i<a.tmps.size:=by rw[h.size];exact hd
  simp[Act.put,hs];exact hv
 ·rw[if_neg e]
  have:(a.put (some d) v).tmps.getD i undef=a.tmps.getD i undef:=by
   simp[Act.put,Ku,Kv (Ne.symm e)]
  rw[this];exact h.val i
theorem SRel.keep{fi:PMap}{n:FrameK}{s:Slots}{a:Act}(h:SRel fi n s a)(l:List Nat):SRel fi n (s.keep l) a:=
 ⟨h.size,h.defers,fun i=>by
  rw[Slots.get_keep];split
  ·exact h.val i
  ·simp[VR]⟩
def ev(s:Slots):Operand->AVal
 | .tmp t=>s.get t
 | .const v=>qK v
 | .global g=> .ptr (.base g) 0
 | .func f=> .func f []
theorem SRel.ev{fi:PMap}{n:FrameK}{s:Slots}{a:Act}(h:SRel fi n s a)(x:Operand):VR fi (ev s x) (a.eval x):=by
 cases x with
 |tmp t=>exact h.val t
 |const v=>exact qmE fi v
 |global g=>simp[AM.ev,VR,Xi,Act.eval]
 |func f=>simp only[AM.ev,VR,Act.eval];exact⟨[],rfl,by simp[VRs]⟩
structure PR where
 pre:Prop
 val:AVal
def PR.no:PR:=⟨False, .dead⟩
def ZH(P:Program)(t:TypeId):Option Nat:=(P.info? t).map (·.size)
def qdO(P:Program)(t:TypeId):Option Nat:=(P.info? t).map (·.bytes)
def Ua(P:Program)(t:TypeId):Option Value:=(P.info? t).bind (·.zero)
def Yt(P:Program)(t:TypeId):Option Bool:=
 match P.underlying t with
 |some (.struct _)|some (.array _ _)=>some true
 |some _=>some false
 |none=>none
theorem Qa{P:Program}{t:TypeId}{d:TypeDesc}(h:P.underlying t=some d)(w:World):(underlying t).run P w= .ok d w:=by
 simp[underlying,h]
theorem Zk{P:Program}{t:TypeId}{n:Nat}(h:ZH P t=some n)(w:World):(sizeOf t).run P w= .ok n w:=by
 simp only[ZH,Kc]at h;obtain⟨i,hi,rfl⟩:=h;simp[sizeOf,typeInfo,hi]
theorem qcJ{P:Program}{t:TypeId}{b:Bool}(h:Yt P t=some b)(w:World):(isAgg t).run P w= .ok b w:=by
 unfold Yt at h;unfold isAgg;cases hu:P.underlying t with
 |none=>simp[hu]at h
 |some d=>
  simp only[hu]at h;simp only[Sem.run_bind,Qa hu,Result.andThen_ok];cases d<;>simp_all
theorem qce{P:Program}{t:TypeId}{v:Value}(h:Ua P t=some v)(w:World):(zeroValue t).run P w= .ok v w:=by
 simp only[Ua,Option.bind_eq_some_iff]at h;obtain⟨i,hi,hz⟩:=h;simp[zeroValue,typeInfo,hi,hz]
def Qd(wz:World)(h:AHeap)(l:Loc):Nat->Nat->List AVal
 |_,0=>[]
 |o,n+1=>rd wz h l o::Qd wz h l (o+1) n
def allLive:List AVal->Bool
 |[]=>true
 |c::cs=>c.live && allLive cs
theorem ZW{fi:PMap}{l:Loc}{o j:Nat}{a:Addr}(h:Xi fi l o=some a):Xi fi l (o+j)=some (a.add j):=by
 unfold Addr.add;cases l with
 |base b=>
  simp only[Xi,Option.some.injEq]at h|-
  subst h;by_cases e:j=0<;>simp[e]
 |own k=>
  simp only[Xi,Kc]at h|-
  obtain⟨p,hp,rfl⟩:=h;refine⟨p,hp,?_⟩;by_cases e:j=0
  ·simp[e]
  ·simp[e,Kw]
theorem qcZ{wz w:World}{fi:PMap}{h:AHeap}(hr:HRel wz fi h w)(l:Loc):∀(n o:Nat) (a:Addr),Xi fi l o=some a->allLive (Qd wz h l o n)=true->
 ∃vs:List Value,vs.length=n/\VRs fi (Qd wz h l o n) vs/\∀j v,vs[j]?=some v->w.cell? (a.add j)=some v
 |0,o,a,_,_=>⟨[],rfl,by simp[Qd,VRs],by simp⟩
 |n+1,o,a,ha,hl=>by
  simp only[Qd,allLive,Ky]at hl;obtain⟨a',v,h1,h2,h3,h4⟩:=hr.rd l o hl.1;have:a'=a:=by rw[ha]at h1;exact(Option.some.inj h1).symm
  subst this;obtain⟨vs,e1,e2,e3⟩:=qcZ hr l n (o+1) (a'.add 1) (ZW ha) hl.2;refine⟨v::vs,by simp[e1],by simp only[Qd,VRs];exact⟨v,vs,rfl,h3,e2⟩,fun j u hj=>?_⟩;cases j with
  |zero=>simp only[Kz,Option.some.injEq]at hj;subst hj;simpa[Addr.add]using h2
  |succ j=>
   have:=e3 j u (by simpa using hj);have e5:(a'.add 1).add j=a'.add (j+1):=by
    unfold Addr.add;by_cases e:j=0<;>simp[e,Kw,KA 1]
   rwa [e5]at this
def YN(c:Bool)(a b:AVal):AVal:=
 match a,b with
 | .bool x, .bool y=> .bool (bif c then x else y)
 |_,_=>bif c then a else b
theorem VR_pickV{fi:PMap}{c:Bool}{a b:AVal}{u v:Value}(hu:VR fi a u)(hv:VR fi b v):VR fi (YN c a b) (if c then u else v):=by
 unfold YN;split
 ·simp only[VR]at hu hv|-
  subst hu hv;cases c<;>rfl
 ·cases c<;>simpa
def pInt(op:BinOp)(k:IntKind)(a b:Int):PR:=
 match op with
 | .add=>⟨True, .int k (k.wrap (a+b))⟩
 | .sub=>⟨True, .int k (k.wrap (a-b))⟩
 | .mul=>⟨True, .int k (k.wrap (a*b))⟩
 | .quo=>⟨b≠0, .int k (k.wrap (a.tdiv b))⟩
 | .rem=>⟨b≠0, .int k (a.tmod b)⟩
 | .and=>⟨True, .int k (k.wrap (BitVec.ofInt k.bits a &&& BitVec.ofInt k.bits b).toNat)⟩
 | .or=>⟨True, .int k (k.wrap (BitVec.ofInt k.bits a|||BitVec.ofInt k.bits b).toNat)⟩
 | .xor=>⟨True, .int k (k.wrap (BitVec.ofInt k.bits a^^^BitVec.ofInt k.bits b).toNat)⟩
 | .eql=>⟨True, .bool (decide (a=b))⟩
 | .neq=>⟨True, .bool (!decide (a=b))⟩
 | .lss=>⟨True, .bool (decide (a<b))⟩
 | .leq=>⟨True, .bool (decide (a<=b))⟩
 | .gtr=>⟨True, .bool (decide (b<a))⟩
 | .geq=>⟨True, .bool (decide (b<=a))⟩
 |_=> .no
def qsc(op:BinOp)(a b:List UInt8):PR:=
 match op with
 | .add=>⟨a.length+b.length<9223372036854775808, .str (a++b)⟩
 | .eql=>⟨True, .bool (decide (a=b))⟩
 | .neq=>⟨True, .bool (!decide (a=b))⟩
 | .lss=>⟨True, .bool (Op.bytesLess a b)⟩
 | .leq=>⟨True, .bool (Op.bytesLess a b||decide (a=b))⟩
 | .gtr=>⟨True, .bool (!(Op.bytesLess a b||decide (a=b)))⟩
 | .geq=>⟨True, .bool (!Op.bytesLess a b)⟩
 |_=> .no
def nilK:AVal->Option (Nat×Bool)
 | .nilSlice=>some (0,true)
 | .slice _ _ _ _=>some (0,false)
 | .nilPtr=>some (1,true)
 | .ptr _ _=>some (1,false)
 | .nilFunc=>some (2,true)
 | .func _ _=>some (2,false)
 | .nilMap=>some (3,true)
 | .map _=>some (3,false)
 |_=>none
def tyK(P:Program)(t:TypeId):Option Nat:=
 match P.underlying t with
 |some (.slice _)=>some 0
 |some (.pointer _)=>some 1
 |some (.func _ _ _)=>some 2
 |some (.map _ _)=>some 3
 |_=>none
def qgM(P:Program)(op:BinOp)(t:TypeId)(x y:AVal):PR:=
 match nilK x,nilK y,tyK P t with
 |some (c,a),some (c',b),some c''=>match op with
  | .eql=>⟨(c=c'/\c'=c'')/\(a=true\/b=true), .bool (a && b)⟩
  | .neq=>⟨(c=c'/\c'=c'')/\(a=true\/b=true), .bool (!(a && b))⟩
  |_=> .no
 |_,_,_=> .no
def qjV(c:Nat)(a:Bool)(u:Value):Prop:=
 match c with
 |0=>∃o l k,u= .slice o l k/\o.isNone=a
 |1=>∃o,u= .pointer o/\o.isNone=a
 |2=>(a=true/\u= .nilFunc)\/(a=false/\∃f x y,u= .func f x y)
 |3=>∃o,u= .map o/\o.isNone=a
 |_=>False
theorem qja{fi:PMap}{x:AVal}{u:Value}{c:Nat}{a:Bool}(h:nilK x=some (c,a))(hx:VR fi x u):qjV c a u:=by
 cases x with
 |slice l o len cp=>
  cases h;cases cp with
  |exact cp=>
   simp only[VR]at hx;obtain⟨ad,rfl,_⟩:=hx;exact⟨_,_,_,rfl,rfl⟩
  |grow g=>
   simp only[VR]at hx;obtain⟨k,p,cp,ad,_,_,rfl,_⟩:=hx;exact⟨_,_,_,rfl,rfl⟩
 |nilSlice=>cases h;simp only[VR]at hx;subst hx;exact⟨_,_,_,rfl,rfl⟩
 |nilPtr=>cases h;simp only[VR]at hx;subst hx;exact⟨_,rfl,rfl⟩
 |ptr l o=>cases h;simp only[VR]at hx;obtain⟨ad,_,rfl⟩:=hx;exact⟨_,rfl,rfl⟩
 |nilFunc=>cases h;simp only[VR]at hx;subst hx;exact .inl ⟨rfl,rfl⟩
 |func f cs=>cases h;simp only[VR]at hx;obtain⟨vs,rfl,_⟩:=hx;exact .inr ⟨rfl,_,_,_,rfl⟩
 |nilMap=>cases h;simp only[VR]at hx;subst hx;exact⟨_,rfl,rfl⟩
 |map k=>cases h;simp only[VR]at hx;obtain⟨p,_,rfl⟩:=hx;exact⟨_,rfl,rfl⟩
 |_=>cases h
theorem qsr{P:Program}{t:TypeId}{c:Nat}{a b:Bool}{u v:Value}(ht:tyK P t=some c)(hu:qjV c a u)(hv:qjV c b v)(hab:a=true\/b=true)(w:World):
 (Op.equal t u v).run P w= .ok (a && b) w:=by
 unfold tyK at ht;obtain⟨d,hdep⟩:∃d,Op.maxDepth=d+1:=⟨Op.maxDepth-1,by decide+kernel⟩
 unfold Op.equal;rw[hdep];split at ht
 ·rename_i e hd
  cases ht;obtain⟨o,l,k,rfl,rfl⟩:=hu;obtain⟨o',l',k',rfl,rfl⟩:=hv;simp only[Op.equalIn,Sem.run_bind,Qa hd,Result.andThen_ok];cases o<;>cases o'<;>simp_all
 ·rename_i e hd
  cases ht;obtain⟨o,rfl,rfl⟩:=hu;obtain⟨o',rfl,rfl⟩:=hv;simp only[Op.equalIn,Sem.run_bind,Qa hd,Result.andThen_ok];cases o<;>cases o'<;>simp_all
 ·rename_i x y z hd
  cases ht;rcases hu with⟨rfl,rfl⟩|⟨rfl,f,x,y,rfl⟩<;>rcases hv with⟨rfl,rfl⟩|⟨rfl,f',x',y',rfl⟩<;>simp only[Op.equalIn,Sem.run_bind,Qa hd,Result.andThen_ok]<;>simp at hab|-
 ·rename_i e f hd
  cases ht;obtain⟨o,rfl,rfl⟩:=hu;obtain⟨o',rfl,rfl⟩:=hv;simp only[Op.equalIn,Sem.run_bind,Qa hd,Result.andThen_ok];cases o<;>cases o'<;>simp_all
 ·cases ht
theorem qsf{P:Program}{fi:PMap}{op:BinOp}{t:TypeId}{x y:AVal}{u v:Value}(hp:(qgM P op t x y).pre)(hx:VR fi x u)(hy:VR fi y v)(X Y:Operand):
 ∃r,(∀w,(do eqGuard op t X Y u v;binOp op t u v:Sem Value).run P w= .ok r w)/\VR fi (qgM P op t x y).val r:=by
 unfold qgM at hp|-
 split at hp
 ·rename_i c a c' b c'' h1 h2 h3
  have key:∀(hc:c=c'/\c'=c'') (hab:a=true\/b=true),(∀w,(eqGuard op t X Y u v).run P w= .ok () w)/\(∀w,(Op.equal t u v).run P w= .ok (a && b) w)/\
   (binOp .eql t u v=(do pure (.bool (<-Op.equal t u v))))/\(binOp .neq t u v=(do pure (.bool (!(<-Op.equal t u v))))):=by
   intro⟨e1,e2⟩ hab;subst e1 e2;have s1:=qja h1 hx;have s2:=qja h2 hy;refine⟨fun w=>?_,qsr h3 s1 s2 hab,?_,?_⟩
   ·unfold eqGuard
    match c,s1,s2 with
    |0,⟨_,_,_,e,_⟩,_=>subst e;cases op<;>simp
    |1,⟨_,e,_⟩,_=>subst e;cases op<;>simp
    |2, .inl ⟨_,e⟩,_=>subst e;cases op<;>simp
    |2, .inr ⟨_,_,_,_,e⟩,_=>subst e;cases op<;>simp
    |3,⟨_,e,_⟩,_=>subst e;cases op<;>simp
   ·match c,s1,s2 with
    |0,⟨_,_,_,e,_⟩,_=>subst e;simp[binOp]
    |1,⟨_,e,_⟩,⟨_,e',_⟩=>subst e e';simp[binOp]
    |2, .inl ⟨_,e⟩,_=>subst e;simp[binOp]
    |2, .inr ⟨_,_,_,_,e⟩,_=>subst e;simp[binOp]
    |3,⟨_,e,_⟩,_=>subst e;simp[binOp]
   ·match c,s1,s2 with
    |0,⟨_,_,_,e,_⟩,_=>subst e;simp[binOp]
    |1,⟨_,e,_⟩,⟨_,e',_⟩=>subst e e';simp[binOp]
    |2, .inl ⟨_,e⟩,_=>subst e;simp[binOp]
    |2, .inr ⟨_,_,_,_,e⟩,_=>subst e;simp[binOp]
    |3,⟨_,e,_⟩,_=>subst e;simp[binOp]
  split at hp
  ·obtain⟨hc,hab⟩:=hp
   obtain⟨k1,k2,k3,_⟩:=key hc hab;refine⟨.bool (a && b),fun w=>?_,by simp only[VR]⟩;rw[k3];simp[Sem.run_bind,k1,k2]
  ·obtain⟨hc,hab⟩:=hp
   obtain⟨k1,k2,_,k4⟩:=key hc hab;refine⟨.bool (!(a && b)),fun w=>?_,by simp only[VR]⟩;rw[k4];simp[Sem.run_bind,k1,k2]
  ·exact hp.elim
 ·exact hp.elim
def qni(P:Program)(op:BinOp)(t:TypeId)(x y:AVal):PR:=
 match x,y with
 | .int k a, .int k' b=>match op with
   | .shl=>⟨0<=b, .int k (k.wrap (a*2^(min b.toNat k.bits)))⟩
   | .shr=>⟨0<=b, .int k (a.fdiv (2^(min b.toNat k.bits)))⟩
   |op=>if k=k' then pInt op k a b else .no
 | .str a, .str b=>qsc op a b
 | .bool a, .bool b=>match P.underlying t with
   |some .bool=>match op with
    | .eql=>⟨True, .bool (a==b)⟩
    | .neq=>⟨True, .bool (!(a==b))⟩
    |_=> .no
   |_=> .no
 |x,y=>qgM P op t x y
theorem qgm{α:Type}[BEq α][LawfulBEq α][DecidableEq α](a b:α):(a==b)=decide (a=b):=by
 rw[KC];simp
theorem pBin_ok{P:Program}{fi:PMap}{op:BinOp}{t:TypeId}{x y:AVal}{u v:Value}(hp:(qni P op t x y).pre)(hx:VR fi x u)(hy:VR fi y v)(X Y:Operand):
 ∃r,(∀w,(do eqGuard op t X Y u v;binOp op t u v:Sem Value).run P w= .ok r w)/\VR fi (qni P op t x y).val r:=by
 unfold qni at hp|-
 split at hp
 ·rename_i k a k' b
  simp only[VR]at hx hy;subst hx hy;have hg:∀w,(eqGuard op t X Y (.int k a) (.int k' b)).run P w= .ok () w:=by
   intro w;unfold eqGuard;cases op<;>simp
  simp only[Sem.run_bind,hg,Result.andThen_ok];cases op<;>simp only[]at hp|-
  case shl=>
   have:¬b<0:=by omega
   simp[binOp,Op.shift,VR,this]
  case shr=>
   have:¬b<0:=by omega
   simp[binOp,Op.shift,VR,this]
  all_goals
   by_cases hk:k=k'
   ·subst hk
    simp only[if_true,pInt]at hp|-
    first
     |exact hp.elim
     |(simp[binOp,Op.intArith,Op.intDiv,Op.intBits,Op.intCmp,VR,hp];done)
     |(simp[binOp,Op.intCmp,VR];simp[qgm,bne])
   ·simp only[hk,if_false]at hp
    exact hp.elim
 ·rename_i a b
  simp only[VR]at hx hy;subst hx hy;have hg:∀w,(eqGuard op t X Y (.string ⟨⟨a⟩⟩) (.string ⟨⟨b⟩⟩)).run P w= .ok () w:=by
   intro w;unfold eqGuard;cases op<;>simp
  simp only[Sem.run_bind,hg,Result.andThen_ok];have e1:ByteArray.toList ⟨⟨a⟩⟩=a:=by rw[ByteArray.toList_eq]
  have e2:ByteArray.toList ⟨⟨b⟩⟩=b:=by rw[ByteArray.toList_eq]
  have hbin:binOp op t (.string ⟨⟨a⟩⟩) (.string ⟨⟨b⟩⟩)=Op.stringOp op ⟨⟨a⟩⟩ ⟨⟨b⟩⟩:=by
   cases op<;>simp[binOp]
  rw[hbin];unfold qsc at hp|-
  unfold Op.stringOp;rw[e1,e2];cases op<;>simp only[]at hp|- <;>first
   |exact hp.elim
   |(simp[VR];done)
   |(rw[qgm];simp[VR];done)
   |skip
  have h2:¬((((⟨⟨a⟩⟩:ByteArray).size+(⟨⟨b⟩⟩:ByteArray).size:Nat):Int)>IntKind.i64.max):=by
   have:IntKind.i64.max=9223372036854775807:=by decide
   rw[this];simp only[ByteArray.size,KD]at*
   omega
  refine⟨.string (⟨⟨a⟩⟩++⟨⟨b⟩⟩),fun w=>by simp only[h2,if_false,Sem.run_pure],?_⟩;simp only[VR];congr 1
 ·rename_i a b
  simp only[VR]at hx hy;subst hx hy;have hg:∀w,(eqGuard op t X Y (.bool a) (.bool b)).run P w= .ok () w:=by
   intro w;unfold eqGuard;cases op<;>simp
  simp only[Sem.run_bind,hg,Result.andThen_ok];split at hp
  ·rename_i ht
   cases op<;>simp only[]at hp|- <;>first
    |exact hp.elim
    |(simp[run_eql_bool,run_neq_bool,ht,VR];done)
  ·exact hp.elim
 ·exact qsf hp hx hy X Y
theorem qte{fi:PMap}{x:AVal}{v:Value}(h:VR fi x v)(hx:∀cs,x≠ .agg cs)(hl:x.live=true):v.cells= #[v]:=by
 cases x<;>simp only[VR]at h<;>first
  |(simp[AVal.live]at hl;done)
  |(subst h;rfl)
  |exact absurd rfl (hx _)
  |(obtain⟨_,_,rfl⟩:=h;rfl)
  |(obtain⟨_,rfl,_⟩:=h;rfl)
  |skip
 rename_i l o len c
 cases c<;>simp only[]at h
 ·obtain⟨_,rfl,_⟩:=h;rfl
 ·obtain⟨_,_,_,_,_,_,rfl,_⟩:=h;rfl
structure Same(w w':World):Prop where
 cell:∀(a:Addr) (u:Value),w.cell? a=some u->w'.cell? a=some u
 obj:∀(r:Nat) (es:Array MapEntry) (c:Nat),w.heap[r]?=some (.map es c)->w'.heap[r]?=some (.map es c)
theorem Same.refl(w:World):Same w w:=⟨fun _ _ h=>h,fun _ _ _ h=>h⟩
def pUn(op:UnOp)(x:AVal):PR:=
 match op,x with
 | .neg, .int k n=>⟨True, .int k (k.wrap (0-n))⟩
 | .not, .bool b=>⟨True, .bool (!b)⟩
 |_,_=> .no
theorem pUn_ok{P:Program}{fi:PMap}{op:UnOp}{x:AVal}{v:Value}(hp:(pUn op x).pre)(hx:VR fi x v):
 ∃r,(∀w,(Op.unary op v).run P w= .ok r w)/\VR fi (pUn op x).val r:=by
 unfold pUn at hp|-
 split at hp
 ·simp only[VR]at hx;subst hx;simp[Op.unary,Op.intArith,VR]
 ·simp only[VR]at hx;subst hx;simp[Op.unary,VR]
 ·exact hp.elim
def AVal.isU8:AVal->Bool
 | .int .u8 _=>true
 |_=>false
def AVal.byte:AVal->UInt8
 | .int _ n=>KE n.toNat
 |_=>0
def byteCells(s:List UInt8):List AVal:=s.map fun b=> .int .u8 b.toNat
theorem byteCells_length(s:List UInt8):(byteCells s).length=s.length:=by simp[byteCells]
theorem qjz(s:List UInt8):(byteCells s).all AVal.isU8=true:=by simp[byteCells,AVal.isU8]
theorem qjA(s:List UInt8):(byteCells s).map AVal.byte=s:=by
 induction s with
 |nil=>rfl
 |cons b s ih=>
  simp only[byteCells,Ke,List.map_map,AVal.byte]at ih|-
  rw[ih];congr 1;simp
theorem VRs_u8{fi:PMap}:∀{cs:List AVal} {vs:List Value},VRs fi cs vs->cs.all AVal.isU8=true->∃ns:List Int,vs=ns.map (Value.int .u8)/\cs.map AVal.byte=ns.map fun n=>KE n.toNat
 |[],vs,h,_=>by simp only[VRs]at h;subst h;exact⟨[],rfl,rfl⟩
 |c::cs,vs,h,hu=>by
  simp only[VRs]at h;obtain⟨v,vs',rfl,h1,h2⟩:=h;simp only[KF,Ky]at hu;obtain⟨ns,e1,e2⟩:=VRs_u8 h2 hu.2;match c,hu.1,h1 with
  | .int .u8 n,_,h1=>
    simp only[VR]at h1;exact⟨n::ns,by simp[h1,e1],by simp[AVal.byte,e2]⟩
theorem qca:∀{cs:List AVal},cs.all AVal.isU8=true->allLive cs=true
 |[],_=>rfl
 |c::cs,h=>by
  simp only[KF,Ky]at h;simp only[allLive,qca h.2,Bool.and_true];match c,h.1 with
  | .int .u8 n,_=>rfl
def qch(P:Program)(wz:World)(h:AHeap)(src dst:TypeId)(x:AVal):PR:=
 match x with
 | .int _ n=>match P.underlying src,P.underlying dst with
   |some _,some (.int k)=>⟨True, .int k (k.wrap n)⟩
   |_,_=> .no
 | .str s=>match P.underlying src,P.underlying dst with
   |some .string,some .string=>⟨True, .str s⟩
   |_,_=> .no
 | .nilSlice=>match P.underlying src,P.underlying dst with
   |some (.slice e),some .string=>match P.underlying e with
    |some (.int .u8)=>⟨True, .str []⟩
    |_=> .no
   |_,_=> .no
 | .slice l o len _=>match P.underlying src,P.underlying dst with
   |some (.slice e),some .string=>match P.underlying e with
    |some (.int .u8)=>⟨(Qd wz h l o len).all AVal.isU8=true, .str ((Qd wz h l o len).map AVal.byte)⟩
    |_=> .no
   |_,_=> .no
 |_=> .no
theorem ZR{fi:PMap}{l:Loc}{o len:Nat}{c:Cap}{v:Value}(h:VR fi (.slice l o len c) v):
 ∃a cap,v= .slice (some a) len cap/\(len≠0->Xi fi l o=some a):=by
 cases c with
 |exact c=>
  simp only[VR]at h;obtain⟨a,rfl,ha⟩:=h;exact⟨a,c,rfl,fun hne=>ha (.inr hne)⟩
 |grow es=>
  simp only[VR]at h;obtain⟨k,p,c,a,rfl,hp,rfl,hl,hc⟩:=h;exact⟨a,c,rfl,fun hne=>by
   have:=(hc (by omega)).1;subst this;simp[Xi,hp]⟩
theorem qaU{P:Program}{wz w:World}{fi:PMap}{h:AHeap}(hr:HRel wz fi h w){l:Loc}{o n:Nat}{a:Addr}(ha:n≠0->Xi fi l o=some a)(hl:allLive (Qd wz h l o n)=true):
 ∃vs:List Value,vs.length=n/\VRs fi (Qd wz h l o n) vs/\(∀w',Same w w'->(loadCells a n).run P w'= .ok vs.toArray w')/\∀j v,vs[j]?=some v->w.cell? (a.add j)=some v:=by
 by_cases hn:n=0
 ·subst hn
  exact⟨[],rfl,by simp[Qd,VRs],by simp[loadCells,loadCellsFrom],by simp⟩
 ·obtain⟨vs,e1,e2,e3⟩:=qcZ hr l n o a (ha hn) hl
  exact⟨vs,e1,e2,fun w' hw=>by rw[<-e1];exact run_loadCells_list w' a vs fun j v hj=>hw.cell _ _ (e3 j v hj),e3⟩
theorem pConv_ok{P:Program}{wz w:World}{fi:PMap}{h:AHeap}{src dst:TypeId}{x:AVal}{v:Value}(hp:(qch P wz h src dst x).pre)(hr:HRel wz fi h w)(hx:VR fi x v):
 ∃r,(∀w',Same w w'->(convert src dst v).run P w'= .ok r w')/\VR fi (qch P wz h src dst x).val r:=by
 unfold qch at hp|-
 split at hp
 ·rename_i k n
  simp only[VR]at hx;subst hx;split at hp
  ·rename_i d k' h1 h2
   exact⟨.int k' (k'.wrap n),fun w' _=>by simp[convert,Qa h1,Qa h2,Conv.intToInt],by simp only[VR]⟩
  ·exact hp.elim
 ·simp only[VR]at hx;subst hx
  split at hp
  ·rename_i h1 h2
   exact⟨_,fun w' _=>by simp[convert,Qa h1,Qa h2];rfl,by simp only[VR]⟩
  ·exact hp.elim
 ·simp only[VR]at hx;subst hx
  split at hp
  ·rename_i e h1 h2
   split at hp
   ·rename_i h3
    refine⟨.string .empty,fun w' _=>?_,by simp only[VR];rfl⟩;rw[run_convert_bytes_string w' src dst e none 0 0 h1 h3 h2];simp[Conv.bytesToString]
   ·exact hp.elim
  ·exact hp.elim
 ·rename_i l o len c
  split at hp
  ·rename_i e h1 h2
   split at hp
   ·rename_i h3
    simp only at hp|-
    obtain⟨a,cap,rfl,ha⟩:=ZR hx;obtain⟨vs,e1,e2,e3,_⟩:=qaU (P:=P) hr ha (qca hp);obtain⟨ns,f1,f2⟩:=VRs_u8 e2 hp;subst f1;refine⟨.string ⟨ByteArray.empty.data++(ns.map fun n=>KE n.toNat).toArray⟩,fun w' hw=>?_,?_⟩
    ·rw[run_convert_bytes_string w' src dst e (some a) len cap h1 h3 h2,run_bytesToString w' a len cap ns (e3 w' hw),foldl_push_bytes]
    ·simp only[VR]
     rw[f2];simp[ByteArray.empty,ByteArray.emptyWithCapacity];rfl
   ·exact hp.elim
  ·exact hp.elim
 ·exact hp.elim
def qad(P:Program)(t:TypeId)(cs:List AVal)(off:Nat):PR:=
 match Yt P t,ZH P t with
 |some true,some n=>⟨off+n<=cs.length, .agg ((cs.drop off).take n)⟩
 |some false,some _=>⟨off<cs.length,cs.getD off .dead⟩
 |_,_=> .no
theorem qcg{P:Program}{fi:PMap}{t:TypeId}{cs:List AVal}{off:Nat}{vs:List Value}(hp:(qad P t cs off).pre)(hs:VRs fi cs vs):
 ∃r,(∀w,(part t vs.toArray off).run P w= .ok r w)/\VR fi (qad P t cs off).val r:=by
 unfold qad at hp|-
 split at hp
 ·rename_i n h1 h2
  simp only at hp|-
  refine⟨.agg (vs.toArray.extract off (off+n)),fun w=>by simp[part,qcJ h1,Zk h2],?_⟩;simp only[VR];refine⟨(vs.drop off).take n,?_,qjM n (qgt off hs)⟩;congr 1;apply KG;simp[List.extract]
 ·rename_i h1 h2
  simp only at hp|-
  have hl:=XF hs;have:=qgs hs off undef (by omega);refine⟨vs.getD off undef,fun w=>?_,this⟩;have hlt:off<vs.length:=by omega
  simp[part,qcJ h1,hlt]
 ·exact hp.elim
def qlJ(P:Program)(t:TypeId)(x:AVal)(f:Nat):PR:=
 match x,P.underlying t with
 | .agg cs,some (.struct fs)=>match fs[f]? with
   |some fd=>qad P fd.type cs fd.offset
   |none=> .no
 |_,_=> .no
theorem qsk{P:Program}{fi:PMap}{t:TypeId}{x:AVal}{f:Nat}{v:Value}(hp:(qlJ P t x f).pre)(hx:VR fi x v):
 ∃r,(∀w,(Instr.field t v f).run P w= .ok r w)/\VR fi (qlJ P t x f).val r:=by
 unfold qlJ at hp|-
 split at hp
 ·rename_i cs fs h1
  split at hp
  ·rename_i fd h2
   simp only[VR]at hx;obtain⟨vs,rfl,hs⟩:=hx;obtain⟨r,e1,e2⟩:=qcg hp hs;exact⟨r,fun w=>by simp[Instr.field,Qa h1,h2,asAgg,e1],e2⟩
  ·exact hp.elim
 ·exact hp.elim
def qbr(P:Program)(t:TypeId)(x i:AVal):PR:=
 match x,i with
 | .str s, .int _ n=>match P.underlying t with
   |some .string=>⟨0<=n/\n<s.length, .int .u8 (s.getD n.toNat 0).toNat⟩
   |_=> .no
 | .agg cs, .int _ n=>match P.underlying t with
   |some (.array len e)=>match ZH P e with
    |some es=>⟨(0<=n/\n<len)/\(qad P e cs (n.toNat*es)).pre,(qad P e cs (n.toNat*es)).val⟩
    |none=> .no
   |_=> .no
 |_,_=> .no
theorem qsi{P:Program}{fi:PMap}{t:TypeId}{x i:AVal}{v u:Value}(hp:(qbr P t x i).pre)(hx:VR fi x v)(hi:VR fi i u):
 ∃r,(∀w,(Instr.index t v u).run P w= .ok r w)/\VR fi (qbr P t x i).val r:=by
 unfold qbr at hp|-
 split at hp
 ·rename_i s k n
  split at hp
  ·rename_i h1
   simp only[VR]at hx hi;subst hx hi;simp only at hp|-
   obtain⟨h0,h2⟩:=hp;refine⟨.int .u8 (s.getD n.toNat 0).toNat,fun w=>?_,by simp only[VR]⟩;have hlt:n.toNat<s.length:=by omega
   have hg:(⟨⟨s⟩⟩:ByteArray)[n.toNat]?=some (s.getD n.toNat 0):=by
    rw[getElem?_pos _ _ (by simpa[ByteArray.size]using hlt)];simp[ByteArray.getElem_eq_getElem_data,Ko,hlt]
   simp[Instr.index,asIntOf,Qa h1,h0,hg]
  ·exact hp.elim
 ·rename_i cs k n
  split at hp
  ·rename_i len e h1
   split at hp
   ·rename_i es h2
    simp only[VR]at hx hi;subst hi;obtain⟨vs,rfl,hs⟩:=hx;simp only at hp|-
    obtain⟨⟨h3,h4⟩,h5⟩:=hp;obtain⟨r,e1,e2⟩:=qcg h5 hs;exact⟨r,fun w=>by simp[Instr.index,asIntOf,Qa h1,h3,h4,Zk h2,e1],e2⟩
   ·exact hp.elim
  ·exact hp.elim
 ·exact hp.elim
def Xh(P:Program)(t:TypeId)(x i:AVal):PR:=
 match x,i with
 | .slice l o len _, .int _ n=>match P.underlying t with
   |some (.slice e)=>match ZH P e with
    |some es=>⟨0<=n/\n<len, .ptr l (o+n.toNat*es)⟩
    |none=> .no
   |_=> .no
 | .ptr l o, .int _ n=>match P.underlying t with
   |some (.array len e)=>match ZH P e with
    |some es=>⟨0<=n/\n<len, .ptr l (o+n.toNat*es)⟩
    |none=> .no
   |_=> .no
 |_,_=> .no
theorem qkc{P:Program}{fi:PMap}{t:TypeId}{x i:AVal}{v u:Value}(hp:(Xh P t x i).pre)(hx:VR fi x v)(hi:VR fi i u):
 ∃r,(∀w,(Instr.indexAt t v u).run P w= .ok r w)/\VR fi (Xh P t x i).val r:=by
 unfold Xh at hp|-
 split at hp
 ·rename_i l o len c k n
  split at hp
  ·rename_i e h1
   split at hp
   ·rename_i es h2
    simp only at hp|-
    obtain⟨h3,h4⟩:=hp;obtain⟨a,cap,rfl,ha⟩:=ZR hx;simp only[VR]at hi;subst hi;have ha':=ha (by omega);refine⟨.pointer (some (a.add (n.toNat*es))),fun w=>?_,by simp only[VR];exact⟨_,ZW ha',rfl⟩⟩;simp[Instr.indexAt,asIntOf,Qa h1,h3,h4,Zk h2]
   ·exact hp.elim
  ·exact hp.elim
 ·rename_i l o k n
  split at hp
  ·rename_i len e h1
   split at hp
   ·rename_i es h2
    simp only at hp|-
    obtain⟨h3,h4⟩:=hp;simp only[VR]at hi hx;subst hi;obtain⟨a,ha,rfl⟩:=hx;refine⟨.pointer (some (a.add (n.toNat*es))),fun w=>?_,by simp only[VR];exact⟨_,ZW ha,rfl⟩⟩;simp[Instr.indexAt,Instr.sureAddr,asIntOf,Qa h1,h3,h4,Zk h2]
   ·exact hp.elim
  ·exact hp.elim
 ·exact hp.elim
def QR(P:Program)(t:TypeId)(x:AVal)(f:Nat):PR:=
 match x,P.underlying t with
 | .ptr l o,some (.struct fs)=>match fs[f]? with
   |some fd=>match ZH P fd.type with
    |some n=>⟨n≠0, .ptr l (o+fd.offset)⟩
    |none=> .no
   |none=> .no
 |_,_=> .no
theorem qkd{P:Program}{fi:PMap}{t:TypeId}{x:AVal}{f:Nat}{v:Value}(hp:(QR P t x f).pre)(hx:VR fi x v):
 ∃r,(∀w,(Instr.fieldAt t v f).run P w= .ok r w)/\VR fi (QR P t x f).val r:=by
 unfold QR at hp|-
 split at hp
 ·rename_i l o fs h1
  split at hp
  ·rename_i fd h2
   split at hp
   ·rename_i n h3
    simp only[VR]at hx;obtain⟨a,ha,rfl⟩:=hx;simp only at hp|-
    refine⟨.pointer (some (a.add fd.offset)),fun w=>?_,by simp only[VR];exact⟨_,ZW ha,rfl⟩⟩;simp[Instr.fieldAt,Qa h1,h2,Instr.sureAddr,fieldPlace,Zk h3,hp]
   ·exact hp.elim
  ·exact hp.elim
 ·exact hp.elim
def ZV(P:Program)(wz:World)(h:AHeap)(t:TypeId)(x:AVal):PR:=
 match x with
 | .ptr l o=>match Yt P t,ZH P t with
   |some true,some n=>⟨allLive (Qd wz h l o n)=true, .agg (Qd wz h l o n)⟩
   |some false,_=>⟨(rd wz h l o).live=true,rd wz h l o⟩
   |_,_=> .no
 |_=> .no
theorem qnf{P:Program}{wz w:World}{fi:PMap}{h:AHeap}{t:TypeId}{x:AVal}{v:Value}(hp:(ZV P wz h t x).pre)(hr:HRel wz fi h w)(hx:VR fi x v):
 ∃r,(∀w',Same w w'->(Instr.loadAt t v).run P w'= .ok r w')/\VR fi (ZV P wz h t x).val r:=by
 unfold ZV at hp|-
 split at hp
 ·rename_i l o
  simp only[VR]at hx;obtain⟨a,ha,rfl⟩:=hx;split at hp
  ·rename_i n h1 h2
   simp only at hp|-
   obtain⟨vs,e1,e2,e3,_⟩:=qaU (P:=P) hr (fun _=>ha) hp;refine⟨.agg vs.toArray,fun w' hw=>?_,by simp only[VR];exact⟨vs,rfl,e2⟩⟩;simp[Instr.loadAt,Instr.sureAddr,loadVar,qcJ h1,Zk h2,e3 w' hw]
  ·rename_i _ _ h1
   simp only at hp|-
   obtain⟨a',u,g1,g2,g3,_⟩:=hr.rd l o hp;have:a'=a:=by rw[ha]at g1;exact(Option.some.inj g1).symm
   subst this;exact⟨u,fun w' hw=>by simp[Instr.loadAt,Instr.sureAddr,loadVar,qcJ h1,hw.cell _ _ g2],g3⟩
  ·exact hp.elim
 ·exact hp.elim
def qcw(x:Option AVal)(d:Nat):Option Int:=
 match x with
 |none=>some d
 |some (.int _ n)=>some n
 |_=>none
def WI(P:Program)(t:TypeId)(x:AVal)(lo hi mx:Option AVal):PR:=
 match x,P.underlying t with
 | .str s,some .string=>match mx,qcw lo 0,qcw hi s.length with
   |none,some l,some h=>⟨0<=l/\l<=h/\h<=s.length, .str ((s.drop l.toNat).take (h.toNat-l.toNat))⟩
   |_,_,_=> .no
 | .nilSlice,some (.slice e)=>match ZH P e,mx,qcw lo 0,qcw hi 0 with
   |some _,none,some l,some h=>⟨l=0/\h=0, .nilSlice⟩
   |some _,some (.int _ m),some l,some h=>⟨(l=0/\h=0/\m=0)/\hi.isSome=true, .nilSlice⟩
   |_,_,_,_=> .no
 | .slice lc o len c,some (.slice e)=>match ZH P e,qcw lo 0,qcw hi len,mx,c with
   |some es,some l,some h,none, .exact c=>⟨0<=l/\l<=h/\h<=c, .slice lc (o+l.toNat*es) (h-l).toNat (.exact (c-l).toNat)⟩
   |some es,some l,some h,none, .grow g=>⟨0<=l/\l<=h/\h<=len/\g=es, .slice lc (o+l.toNat*es) (h-l).toNat (.grow g)⟩
   |some es,some l,some h,some (.int _ m), .exact c=>⟨(0<=l/\l<=h/\h<=m/\m<=c)/\hi.isSome=true, .slice lc (o+l.toNat*es) (h-l).toNat (.exact (m-l).toNat)⟩
   |some es,some l,some h,some (.int _ m), .grow _=>⟨(0<=l/\l<=h/\h<=m/\m<=len)/\hi.isSome=true, .slice lc (o+l.toNat*es) (h-l).toNat (.exact (m-l).toNat)⟩
   |_,_,_,_,_=> .no
 |_,_=> .no
theorem UG{P:Program}(b:Bool)(len cap:Nat)(lo hi:Option Value)(l h:Int)
 (hlo:(lo=none/\l=0)\/∃k,lo=some (.int k l)) (hhi:(hi=none/\h=len)\/∃k,hi=some (.int k h)) (h0:0<=l) (h1:l<=h) (h2:h<=cap):
 ∀w:World,(Instr.sliceBounds b len cap lo hi none).run P w= .ok (l.toNat,h.toNat,cap) w:=by
 intro w;obtain⟨l,rfl⟩:=KH h0;obtain⟨h,rfl⟩:=KH (KI h0 h1);have b1:l<=h:=by omega
 have b2:h<=cap:=by omega
 rcases hlo with⟨rfl,e⟩|⟨k,rfl⟩<;>rcases hhi with⟨rfl,e'⟩|⟨k',rfl⟩
 ·obtain rfl:l=0:=by omega
  obtain rfl:h=len:=by omega
  simp[Instr.sliceBounds]
 ·obtain rfl:l=0:=by omega
  simp[Instr.sliceBounds,Instr.sliceBound,asIntOf,b2]
 ·obtain rfl:h=len:=by omega
  simp[Instr.sliceBounds,Instr.sliceBound,asIntOf,b1]
 ·simp[Instr.sliceBounds,Instr.sliceBound,asIntOf,b1,b2]
theorem qaM{P:Program}(len cap:Nat)(lo:Option Value)(l h m:Int)(k' k'':IntKind)
 (hlo:(lo=none/\l=0)\/∃k,lo=some (.int k l)) (h0:0<=l) (h1:l<=h) (h2:h<=m) (h3:m<=cap):
 ∀w:World,(Instr.sliceBounds true len cap lo (some (.int k' h)) (some (.int k'' m))).run P w= .ok (l.toNat,h.toNat,m.toNat) w:=by
 intro w;obtain⟨l,rfl⟩:=KH h0;obtain⟨h,rfl⟩:=KH (KI h0 h1);obtain⟨m,rfl⟩:=KH (KI h0 (KI h1 h2));have b1:l<=h:=by omega
 have b2:h<=m:=by omega
 have b3:m<=cap:=by omega
 rcases hlo with⟨rfl,e⟩|⟨k,rfl⟩
 ·obtain rfl:l=0:=by omega
  simp[Instr.sliceBounds,Instr.sliceBound,asIntOf,b2,b3]
 ·simp[Instr.sliceBounds,Instr.sliceBound,asIntOf,b1,b2,b3]
def OVR(fi:PMap):Option AVal->Option Value->Prop
 |none,v=>v=none
 |some x,v=>∃u,v=some u/\VR fi x u
theorem qaY{fi:PMap}{x:Option AVal}{v:Option Value}{d:Nat}{n:Int}(h:qcw x d=some n)(hx:OVR fi x v):
 (v=none/\n=d/\x=none)\/∃k,v=some (.int k n):=by
 unfold qcw at h;split at h
 ·simp only[OVR]at hx
  exact .inl ⟨hx,(Option.some.inj h).symm,rfl⟩
 ·rename_i k n'
  simp only[OVR,VR]at hx;obtain⟨u,rfl,rfl⟩:=hx;cases h;exact .inr ⟨k,rfl⟩
 ·cases h
theorem qhV{P:Program}(t:TypeId)(ht:P.underlying t=some .string)(s:List UInt8)(lo hi:Option Value)(l h:Int)
 (hlo:(lo=none/\l=0)\/∃k,lo=some (.int k l)) (hhi:(hi=none/\h=s.length)\/∃k,hi=some (.int k h)) (h0:0<=l) (h1:l<=h) (h2:h<=s.length):
 ∀w:World,(Instr.sliceAt t (.string ⟨⟨s⟩⟩) lo hi none).run P w= .ok (.string ⟨⟨(s.drop l.toNat).take (h.toNat-l.toNat)⟩⟩) w:=by
 intro w;have hb:=UG (P:=P) false s.length s.length lo hi l h hlo hhi h0 h1 h2 w;have hx:(⟨⟨s⟩⟩:ByteArray).extract l.toNat h.toNat=⟨⟨(s.drop l.toNat).take (h.toNat-l.toNat)⟩⟩:=by
  apply ByteArray.ext;apply KG;rw[Lib.extract_data]
 have hsz:(⟨⟨s⟩⟩:ByteArray).size=s.length:=by simp[ByteArray.size]
 simp[Instr.sliceAt,Instr.slice,Qa ht,hsz,hb,hx]
theorem YS{P:Program}(t e:TypeId)(ht:P.underlying t=some (.slice e))(es:Nat)(he:ZH P e=some es)(a:Option Addr)(len cap:Nat)(lo hi mx:Option Value)(l h m:Nat)
 (hb:∀w:World,(Instr.sliceBounds true len cap lo hi mx).run P w= .ok (l,h,m) w):
 ∀w:World,(Instr.sliceAt t (.slice a len cap) lo hi mx).run P w= .ok (.slice (if m=l then a else a.map (·.add (l*es))) (h-l) (m-l)) w:=by
 intro w;simp[Instr.sliceAt,Instr.slice,Qa ht,hb w,Zk he]
theorem qsd{P:Program}{fi:PMap}{t:TypeId}{x:AVal}{lo hi mx:Option AVal}{v:Value}{vl vh vm:Option Value}(hp:(WI P t x lo hi mx).pre)(hx:VR fi x v)
 (hl:OVR fi lo vl) (hh:OVR fi hi vh) (hm:OVR fi mx vm):
 ∃r,(∀w,(Instr.sliceAt t v vl vh vm).run P w= .ok r w)/\VR fi (WI P t x lo hi mx).val r:=by
 unfold WI at hp|-
 split at hp
 ·rename_i s h1
  split at hp
  ·rename_i l h h2 h3
   simp only[VR]at hx;subst hx;simp only[OVR]at hm;subst hm;simp only at hp|-
   obtain⟨p1,p2,p3⟩:=hp;refine⟨_,qhV t h1 s vl vh l h ?_ ?_ p1 p2 p3,by simp only[VR]⟩
   ·rcases qaY h2 hl with⟨e1,e2,_⟩|e
    ·exact .inl ⟨e1,by simpa using e2⟩
    ·exact .inr e
   ·rcases qaY h3 hh with⟨e1,e2,_⟩|e
    ·exact .inl ⟨e1,by simpa using e2⟩
    ·exact .inr e
  ·exact hp.elim
 ·rename_i e h1
  split at hp
  ·rename_i n l h h2 h3 h4
   simp only[VR]at hx;subst hx;simp only[OVR]at hm;subst hm;simp only at hp|-
   obtain⟨rfl,rfl⟩:=hp;have hb:=UG (P:=P) true 0 0 vl vh 0 0 (by
    rcases qaY h3 hl with⟨e1,_,_⟩|e
    ·exact .inl ⟨e1,rfl⟩
    ·exact .inr e) (by
    rcases qaY h4 hh with⟨e1,_,_⟩|e
    ·exact .inl ⟨e1,rfl⟩
    ·exact .inr e) (by omega) (by omega) (by omega)
   exact⟨_,YS t e h1 n h2 none 0 0 vl vh none _ _ _ hb,by simp[VR]⟩
  ·rename_i n k m l h h2 h3 h4
   simp only[VR]at hx;subst hx;simp only[OVR,VR]at hm;obtain⟨u,rfl,rfl⟩:=hm;simp only at hp|-
   obtain⟨⟨rfl,rfl,rfl⟩,p5⟩:=hp;obtain⟨kh,rfl⟩:∃k,vh=some (.int k 0):=by
    rcases qaY h4 hh with⟨_,_,e3⟩|e
    ·subst e3;cases p5
    ·exact e
   have hb:=qaM (P:=P) 0 0 vl 0 0 0 kh k (by
    rcases qaY h3 hl with⟨e1,_,_⟩|e
    ·exact .inl ⟨e1,rfl⟩
    ·exact .inr e) (by omega) (by omega) (by omega) (by omega)
   exact⟨_,YS t e h1 n h2 none 0 0 vl _ _ _ _ _ hb,by simp[VR]⟩
  ·exact hp.elim
 ·rename_i lc o len c e h1
  have low:∀l,qcw lo 0=some l->(vl=none/\l=0)\/∃k,vl=some (.int k l):=fun l hb=>by
   rcases qaY hb hl with⟨e1,e2,_⟩|e
   ·exact .inl ⟨e1,by simpa using e2⟩
   ·exact .inr e
  have high:∀h,qcw hi len=some h->(vh=none/\h=len)\/∃k,vh=some (.int k h):=fun h hb=>by
   rcases qaY hb hh with⟨e1,e2,_⟩|e
   ·exact .inl ⟨e1,e2⟩
   ·exact .inr e
  have high':∀h,qcw hi len=some h->hi.isSome=true->∃k,vh=some (.int k h):=fun h hb hs=>by
   rcases qaY hb hh with⟨_,_,e3⟩|e
   ·subst e3;cases hs
   ·exact e
  split at hp
  ·rename_i es l h c h2 h3 h4
   simp only[OVR]at hm;subst hm;simp only at hp|-
   obtain⟨p1,p2,p3⟩:=hp;simp only[VR]at hx;obtain⟨a,rfl,ha⟩:=hx;have hb:=UG (P:=P) true len c vl vh l h (low l h3) (high h h4) p1 p2 p3;refine⟨_,YS t e h1 es h2 (some a) len c vl vh none _ _ _ hb,?_⟩;simp only[VR];refine⟨if c=l.toNat then a else a.add (l.toNat*es),?_,fun hne=>?_⟩
   ·congr 1
    ·split<;>simp
    ·omega
    ·omega
   ·have hcl:c≠l.toNat:=by omega
    rw[if_neg hcl];exact ZW (ha (by omega))
  ·rename_i es l h g h2 h3 h4
   simp only[OVR]at hm;subst hm;simp only at hp|-
   obtain⟨p1,p2,p3,rfl⟩:=hp;simp only[VR]at hx;obtain⟨k,p,c,a,rfl,hp,rfl,hlc,hc⟩:=hx;have hb:=UG (P:=P) true len c vl vh l h (low l h3) (high h h4) p1 p2 (by omega);refine⟨_,YS t e h1 g h2 (some a) len c vl vh none _ _ _ hb,?_⟩;simp only[VR];refine⟨k,p,c-l.toNat,if c=l.toNat then a else a.add (l.toNat*g),rfl,hp,?_,by omega,fun hne=>?_⟩
   ·congr 1
    ·split<;>simp
    ·omega
   ·have hcl:c≠l.toNat:=by omega
    rw[if_neg hcl];obtain⟨e1,e2⟩:=hc (by omega);constructor
    ·have:Xi fi (.own k) o=some a:=by simp[Xi,hp,e1]
     have:=ZW (j:=l.toNat*g) this;simp only[Xi,hp,KJ,Option.some.injEq]at this;exact this.symm
    ·rw[Kw,<-KL]
     rw[show l.toNat+(c-l.toNat)=c by omega];exact e2
  ·rename_i es l h k m c h2 h3 h4
   simp only[OVR,VR]at hm;obtain⟨u,rfl,rfl⟩:=hm;simp only at hp|-
   obtain⟨⟨p1,p2,p3,p4⟩,p5⟩:=hp;obtain⟨kh,rfl⟩:=high' h h4 p5;simp only[VR]at hx;obtain⟨a,rfl,ha⟩:=hx;have hb:=qaM (P:=P) len c vl l h m kh k (low l h3) p1 p2 p3 p4;refine⟨_,YS t e h1 es h2 (some a) len c vl _ _ _ _ _ hb,?_⟩;simp only[VR];refine⟨if m.toNat=l.toNat then a else a.add (l.toNat*es),?_,fun hne=>?_⟩
   ·congr 1
    ·split<;>simp
    ·omega
    ·omega
   ·have hcl:m.toNat≠l.toNat:=by omega
    rw[if_neg hcl];exact ZW (ha (by omega))
  ·rename_i es l h k m g h2 h3 h4
   simp only[OVR,VR]at hm;obtain⟨u,rfl,rfl⟩:=hm;simp only at hp|-
   obtain⟨⟨p1,p2,p3,p4⟩,p5⟩:=hp;obtain⟨kh,rfl⟩:=high' h h4 p5;simp only[VR]at hx;obtain⟨k',p,c,a,rfl,hp,rfl,hlc,hc⟩:=hx;have hb:=qaM (P:=P) len c vl l h m kh k (low l h3) p1 p2 p3 (by omega);refine⟨_,YS t e h1 es h2 (some a) len c vl _ _ _ _ _ hb,?_⟩;simp only[VR];refine⟨if m.toNat=l.toNat then a else a.add (l.toNat*es),?_,fun hne=>?_⟩
   ·congr 1
    ·split<;>simp
    ·omega
    ·omega
   ·have hcl:m.toNat≠l.toNat:=by omega
    rw[if_neg hcl];obtain⟨e1,e2⟩:=hc (by omega);exact ZW (by simp[Xi,hp,e1])
  ·exact hp.elim
 ·exact hp.elim
def kEq:AVal->AVal->Option Bool
 | .str a, .str b=>some (decide (a=b))
 | .int k a, .int k' b=>if k=k' then some (decide (a=b))else none
 |_,_=>none
def qaF(P:Program)(kt:TypeId)(x:AVal):Bool:=
 match P.underlying kt,x with
 |some .string, .str _=>true
 |some (.int _), .int _ _=>true
 |_,_=>false
def qbI(key:AVal):List AVal->Nat->Option (Option (Nat×AVal))
 |[],_=>some none
 | .mapE _ k v::es,i=>match kEq key k with
   |some true=>some (some (i,v))
   |some false=>qbI key es (i+1)
   |none=>none
 |_::_,_=>none
def Wu(h:AHeap)(k:Nat):Option (Nat×List AVal):=
 match h k with
 |some ⟨.mapO c::es,f⟩=>if f=es.length+2 then some (c,es)else none
 |_=>none
def ZK(c:Nat)(es:List AVal):Blk:=⟨.mapO c::es,es.length+2⟩
theorem YL{h:AHeap}{k c:Nat}{es:List AVal}(hm:Wu h k=some (c,es)):h k=some (ZK c es):=by
 unfold Wu at hm;split at hm
 ·rename_i c' es' f hk
  split at hm
  ·rename_i hf
   cases hm;rw[hk,hf];rfl
  ·cases hm
 ·cases hm
theorem qaD{h:AHeap}{k c:Nat}{es:List AVal}(hm:h k=some (ZK c es)):Wu h k=some (c,es):=by
 unfold Wu;rw[hm];simp[ZK]
theorem HRel.mapAt{wz w:World}{fi:PMap}{h:AHeap}(hr:HRel wz fi h w){k c:Nat}{es:List AVal}(hm:Wu h k=some (c,es)):
 ∃p entries,fi k=some p/\w.heap[p.blk]?=some (.map entries c)/\ERel fi es entries.toList:=by
 have hk:=YL hm;obtain⟨p,hp,_,ok⟩:=hr.own k _ hk;obtain⟨o,h1,h2⟩:=(ok.obj rfl).obj;refine⟨p,?_⟩;cases o with
 |map entries clock=>
  obtain⟨e1,e2⟩:=(show clock=c/\ERel fi es entries.toList from h2)
  subst e1;exact⟨entries,hp,h1,e2⟩
 |_=>exact(show False from h2).elim
theorem qlL:∀a b:ByteArray,(a==b)=true->a=b
 |⟨a⟩,⟨b⟩,h=>by
  have h1:(a==b)=true:=h;rw[beq_iff_eq]at h1;rw[h1]
theorem qdS(a:ByteArray):(a==a)=true:=by
 show(a.data==a.data)=true
 exact beq_self_eq_true _
theorem kEq_ok{fi:PMap}{P:Program}{kt:TypeId}{d:TypeDesc}{x y:AVal}{u v:Value}{b:Bool}(hd:P.underlying kt=some d)(hk:qaF P kt x=true)(he:kEq x y=some b)(hx:VR fi x u)(hy:VR fi y v):
 Instr.sameNow d u v=some b/\(b=true->y=x):=by
 unfold qaF at hk;rw[hd]at hk;cases d with
 |string=>
  cases x with
  |str a=>
   cases y<;>simp only[kEq]at he<;>first|(cases he;done)|skip
   rename_i c
   simp only[VR]at hx hy;subst hx hy;cases he;refine⟨?_,fun h=>?_⟩
   ·have e:((⟨⟨a⟩⟩:ByteArray)==⟨⟨c⟩⟩)=decide (a=c):=by
     rw[KC,decide_eq_true_eq];constructor
     ·intro h
      have h2:=qlL _ _ h;cases h2;rfl
     ·rintro rfl
      exact qdS _
    simp only[Instr.sameNow];rw[e]
   ·rw[of_decide_eq_true h]
  |_=>cases hk
 |int k=>
  cases x with
  |int n m=>
   cases y<;>simp only[kEq]at he<;>first|(cases he;done)|skip
   rename_i k' n'
   split at he
   ·rename_i hkk
    subst hkk;simp only[VR]at hx hy;subst hx hy;cases he;refine⟨by simp[Instr.sameNow,qgm],fun h=>by rw[of_decide_eq_true h]⟩
   ·cases he
  |_=>cases hk
 |_=>cases x<;>cases hk
theorem find_ok{fi:PMap}{P:Program}{kt:TypeId}{d:TypeDesc}{x:AVal}{u:Value}(hd:P.underlying kt=some d)(hk:qaF P kt x=true)(hx:VR fi x u):∀{es:List AVal} {l:List MapEntry} {i:Nat} {r:Option (Nat×AVal)},
 ERel fi es l->qbI x es i=some r->∃r',Instr.findNow d u l i=some r'/\match r,r' with
  |none,none=>True
  |some (j,y),some (j',v)=>j=j'/\VR fi y v/\i<=j/\∃e,l[j-i]?=some e/\e.val=v/\VR fi x e.key
  |_,_=>False
 |[],l,i,r,he,hf=>by
  simp only[ERel]at he;subst he;simp only[qbI,Option.some.injEq]at hf;subst hf;exact⟨none,rfl,trivial⟩
 |c::es,l,i,r,he,hf=>by
  simp only[ERel]at he;obtain⟨e,l',rfl,hc,he⟩:=he;cases c<;>first|(exact hc.elim;done)|skip
  rename_i b k v
  simp only at hc;obtain⟨c1,c2,c3⟩:=hc;simp only[qbI]at hf;split at hf
  ·rename_i hq
   obtain⟨q1,q2⟩:=kEq_ok hd hk hq hx c2;cases hf;refine⟨some (i,e.val),by simp only[Instr.findNow,q1],rfl,c3,KM _,e,by simp,rfl,?_⟩;rw[<-q2 rfl];exact c2
  ·rename_i hq
   obtain⟨q1,_⟩:=kEq_ok hd hk hq hx c2;obtain⟨r',g1,g2⟩:=find_ok hd hk hx he hf;refine⟨r',by simp only[Instr.findNow,q1];exact g1,?_⟩;match r,r',g2 with
   |none,none,_=>trivial
   |some (j,y),some (j',v'),⟨f1,f2,f3,e',f4,f5⟩=>exact⟨f1,f2,by omega,e',by rw[show j-i=(j-(i+1))+1 by omega,KN];exact f4,f5⟩
  ·cases hf
theorem run_findKey{P:Program}{kt:TypeId}{d:TypeDesc}{u:Value}{l:List MapEntry}{r:Option (Nat×Value)}(hd:P.underlying kt=some d)(h:Instr.findNow d u l 0=some r)(w:World):(Instr.findKey kt u l).run P w= .ok r w:=by
 simp[Instr.findKey,Qa hd,h]
theorem run_checkKey{P:Program}{kt:TypeId}{x:AVal}(hk:qaF P kt x=true)(b:Bool)(u:Value)(w:World):(Instr.checkKey b 10000 kt u).run P w= .ok () w:=by
 unfold qaF at hk;cases hd:P.underlying kt with
 |none=>simp[hd]at hk
 |some d=>
  have key:∀n,(Instr.checkKey b (n+1) kt u).run P w= .ok () w:=fun n=>by
   simp only[Instr.checkKey,Sem.run_bind,Qa hd,Result.andThen_ok];rw[hd]at hk;cases d<;>first|(cases x<;>cases hk;done)|rfl
  exact key 9999
theorem qck{P:Program}{kt:TypeId}{x:AVal}(hk:qaF P kt x=true):∃d,P.underlying kt=some d:=by
 unfold qaF at hk;cases hd:P.underlying kt with
 |none=>simp[hd]at hk
 |some d=>exact⟨d,rfl⟩
def qhD(ok:Bool)(v:AVal)(b:Bool):AVal:=if ok then .tuple [v, .bool b]else v
def UL(P:Program)(h:AHeap)(t:TypeId)(x i:AVal)(ok:Bool):PR:=
 match P.underlying t with
 |some (.map kt et)=>match Ua P et with
  |some z=>match x with
   | .nilMap=>⟨qaF P kt i=true,qhD ok (qK z) false⟩
   | .map k=>match Wu h k with
     |some (_,es)=>match qbI i es 0 with
      |some (some (_,v))=>⟨qaF P kt i=true,qhD ok v true⟩
      |some none=>⟨qaF P kt i=true,qhD ok (qK z) false⟩
      |none=> .no
     |none=> .no
   |_=> .no
  |none=> .no
 |_=> .no
theorem qjb{fi:PMap}{ok:Bool}{y:AVal}{v:Value}{b:Bool}(h:VR fi y v):VR fi (qhD ok y b) (if ok then .tuple #[v, .bool b]else v):=by
 unfold qhD;cases ok
 ·exact h
 ·simp only[if_true,VR]
  exact⟨[v, .bool b],rfl,by simp only[VRs,VR];exact⟨_,_,rfl,h,_,_,rfl,rfl,rfl⟩⟩
theorem qoH{P:Program}{wz w:World}{fi:PMap}{h:AHeap}{t:TypeId}{x i:AVal}{ok:Bool}{v u:Value}(hp:(UL P h t x i ok).pre)(hr:HRel wz fi h w)(hx:VR fi x v)(hi:VR fi i u):
 ∃r,(∀w',Same w w'->(Instr.lookup t v u ok).run P w'= .ok r w')/\VR fi (UL P h t x i ok).val r:=by
 unfold UL at hp|-
 split at hp<;>first|exact hp.elim|skip
 rename_i kt et ht
 split at hp<;>first|exact hp.elim|skip
 rename_i z hz
 have hz':=fun w=>qce hz w;split at hp<;>first|exact hp.elim|skip
 ·simp only[VR]at hx
  subst hx;simp only at hp|-
  obtain⟨d,hd⟩:=qck hp;refine⟨_,fun w' _=>?_,qjb (qmE fi z)⟩;simp[Instr.lookup,Qa ht,run_checkKey hp,run_findKey hd (show Instr.findNow d u [] 0=some none from rfl),hz']
 ·rename_i k
  simp only[VR]at hx;obtain⟨p,hpk,rfl⟩:=hx;split at hp<;>first|exact hp.elim|skip
  rename_i c es hm
  obtain⟨q,entries,hq,g1,g2⟩:=hr.mapAt hm;have hpq:q=p:=by rw[hpk]at hq;exact(Option.some.inj hq).symm
  subst hpq;have go:∀w',Same w w'->(getObj q.blk).run P w'= .ok (.map entries c) w':=fun w' hw=>by
   simp[getObj,Sem.run,hw.obj _ _ _ g1]
  split at hp<;>first|exact hp.elim|skip
  ·rename_i j y hf
   simp only at hp|-
   obtain⟨d,hd⟩:=qck hp;obtain⟨r',f1,f2⟩:=find_ok hd hp hi g2 hf;cases r' with
   |none=>exact f2.elim
   |some r'=>
    obtain⟨j',v'⟩:=r';obtain⟨_,f3,_⟩:=f2;refine⟨_,fun w' hw=>?_,qjb f3⟩;simp[Instr.lookup,Qa ht,go w' hw,run_checkKey hp,run_findKey hd f1]
  ·rename_i hf
   simp only at hp|-
   obtain⟨d,hd⟩:=qck hp;obtain⟨r',f1,f2⟩:=find_ok hd hp hi g2 hf;cases r' with
   |some r'=>exact f2.elim
   |none=>
    refine⟨_,fun w' hw=>?_,qjb (qmE fi z)⟩;simp[Instr.lookup,Qa ht,go w' hw,run_checkKey hp,run_findKey hd f1,hz']
def qkG(P:Program)(h:AHeap)(t:TypeId)(x:AVal):PR:=
 match P.underlying t,x with
 |some (.map _ _), .nilMap=>⟨True, .int .i64 0⟩
 |some (.map _ _), .map k=>match Wu h k with
  |some (_,es)=>⟨True, .int .i64 es.length⟩
  |none=> .no
 |_,_=> .no
theorem ERel.len{fi:PMap}:∀{cs:List AVal} {l:List MapEntry},ERel fi cs l->l.length=cs.length
 |[],_,h=>by simp only[ERel]at h;simp[h]
 |c::cs,l,h=>by
  simp only[ERel]at h;obtain⟨e,l',rfl,_,h3⟩:=h;simp[h3.len]
theorem pLenM_ok{P:Program}{wz w:World}{fi:PMap}{h:AHeap}{t ty:TypeId}{ts:Array TypeId}{x:AVal}{v:Value}(ht:ts[0]?=some t)(hp:(qkG P h t x).pre)(hr:HRel wz fi h w)(hx:VR fi x v):
 ∃r,(∀w',Same w w'->(Builtin.len_ ts ty #[v]).run P w'= .ok r w')/\VR fi (qkG P h t x).val r:=by
 unfold qkG at hp|-
 split at hp<;>first|exact hp.elim|skip
 ·rename_i h1
  simp only[VR]at hx;subst hx;exact⟨.int .i64 0,fun w' _=>by simp[Builtin.len_,ht,Qa h1,goInt],rfl⟩
 ·rename_i k h1
  simp only[VR]at hx;obtain⟨p,hpk,rfl⟩:=hx;split at hp<;>first|exact hp.elim|skip
  rename_i c es hm
  obtain⟨q,entries,hq,g1,g2⟩:=hr.mapAt hm;have hpq:q=p:=by rw[hpk]at hq;exact(Option.some.inj hq).symm
  subst hpq;have hl:=g2.len;simp only[KO]at hl;refine⟨.int .i64 es.length,fun w' hw=>?_,rfl⟩;have go:(getObj q.blk).run P w'= .ok (.map entries c) w':=by simp[getObj,Sem.run,hw.obj _ _ _ g1]
  simp[Builtin.len_,ht,Qa h1,goInt,go,hl]
def AVal.cells:AVal->List AVal
 | .agg cs=>cs
 |x=>[x]
theorem qeD{fi:PMap}{x:AVal}{v:Value}(h:VR fi x v)(hl:x.live=true):VRs fi x.cells v.cells.toList:=by
 by_cases hx:∃cs,x= .agg cs
 ·obtain⟨cs,rfl⟩:=hx
  simp only[VR]at h;obtain⟨vs,rfl,hs⟩:=h;simpa[AVal.cells,Value.cells]using hs
 ·have e:x.cells=[x]:=by
   unfold AVal.cells;split
   ·exact absurd ⟨_,rfl⟩ hx
   ·rfl
  rw[e,qte h (fun cs hcs=>hx ⟨cs,hcs⟩) hl];simp only[VRs];exact⟨v,[],rfl,h,rfl⟩
def setAt{α:Type}(cells:List α)(off:Nat):List α->List α
 |[]=>cells
 |c::cs=>setAt (cells.set off c) (off+1) cs
theorem Yj{α:Type}:∀(vs cells:List α) (off:Nat),(setAt cells off vs).length=cells.length
 |[],_,_=>rfl
 |c::cs,cells,off=>by simp[setAt,Yj cs]
theorem qhn{fi:PMap}:∀{cs:List AVal} {us:List Value} {cells:List AVal} {vs:List Value} (off:Nat),VRs fi cs us->VRs fi cells vs->VRs fi (setAt cells off cs) (setAt vs off us)
 |[],us,_,_,_,h,h'=>by simp only[VRs]at h;subst h;exact h'
 |c::cs,us,cells,vs,off,h,h'=>by
  simp only[VRs]at h;obtain⟨u,us',rfl,h1,h2⟩:=h;simp only[setAt];exact qhn (off+1) h2 (qrD h' off h1)
def qeR(place:Nat->Option (Nat×Nat))(cells:List AVal):List (Nat×AVal)->Option (List AVal)
 |[]=>some cells
 |(i,v)::rest=>
  match place i with
  |none=>none
  |some (off,size)=>if v.live=true/\v.cells.length=size/\off+size<=cells.length then qeR place (setAt cells off v.cells) rest else none
theorem qhH(off:Nat):∀(us:List Value) (k:Nat) (cells:Array Value),
 ((us.zipIdx k).foldl (fun cs (x:Value×Nat)=>cs.setIfInBounds (off+x.2) x.1) cells).toList=setAt cells.toList (off+k) us
 |[],_,_=>by simp[setAt]
 |u::us,k,cells=>by
  simp only[List.zipIdx_cons,List.foldl_cons,setAt];rw[qhH off us (k+1)];simp[Kw]
inductive VParts(fi:PMap):List (Nat×AVal)->List (Nat×Value)->Prop
 |nil:VParts fi [] []
 |cons {i:Nat} {x:AVal} {v:Value} {xs:List (Nat×AVal)} {vs:List (Nat×Value)}:VR fi x v->VParts fi xs vs->VParts fi ((i,x)::xs) ((i,v)::vs)
theorem qga{fi:PMap}(place:Nat->Option (Nat×Nat)):∀{xs:List (Nat×AVal)} {vs:List (Nat×Value)} {cells:List AVal} {us:Array Value} {r:List AVal},VParts fi xs vs->
 VRs fi cells us.toList->qeR place cells xs=some r->∃r',Instr.fill place us vs=some r'/\VRs fi r r'.toList
 |[],vs,cells,us,r,h,hc,hf=>by
  cases h;simp only[qeR,Option.some.injEq]at hf;subst hf;exact⟨us,by simp[Instr.fill],hc⟩
 |(i,x)::xs,vs,cells,us,r,h,hc,hf=>by
  cases h with
  |cons hv hs=>
   rename_i v vs
   simp only[qeR]at hf;cases hp:place i with
   |none=>simp[hp]at hf
   |some q=>
    obtain⟨off,size⟩:=q;simp only[hp]at hf;split at hf
    ·rename_i hcond
     obtain⟨g1,g2,g3⟩:=hcond;have hvc:=qeD hv g1;have e1:=XF hvc;have e2:=XF hc;simp only[KO]at e1 e2;have step:VRs fi (setAt cells off x.cells) (v.cells.zipIdx.foldl (fun cs (c,j)=>cs.setIfInBounds (off+j) c) us).toList:=by
      have e3:(v.cells.zipIdx.foldl (fun cs (c,j)=>cs.setIfInBounds (off+j) c) us).toList=setAt us.toList off v.cells.toList:=by
       rw[<-Array.foldl_toList,Array.toList_zipIdx];exact qhH off v.cells.toList 0 us
      rw[e3];exact qhn off hvc hc
     obtain⟨r',f1,f2⟩:=qga place hs step hf;refine⟨r',?_,f2⟩;simp only[Instr.fill,hp];have c1:¬(v.cells.size≠size\/off+v.cells.size>us.size):=by
      rintro(h1|h1)
      ·exact h1 (by omega)
      ·omega
     have c2:(decide (v.cells.size≠size)||decide (off+v.cells.size>us.size))=false:=by
      simp only[Bool.or_eq_false_iff,decide_eq_false_iff_not];exact⟨fun h1=>c1 (.inl h1),fun h1=>c1 (.inr h1)⟩
     (simp only[c2];exact f1)
    ·cases hf
def placesOf(P:Program)(fs:List Field):Option (List (Nat×Nat)):=fs.mapM fun f=>(ZH P f.type).map fun n=>(f.offset,n)
def qmr(P:Program)(t:TypeId)(parts:List (Nat×AVal)):Option (List AVal):=
 match Ua P t,P.underlying t with
 |some z,some (.array _ e)=>match ZH P e with
  |some es=>qeR (fun i=>some (i*es,es)) (z.cells.toList.map qG) parts
  |none=>none
 |some z,some (.struct fs)=>match placesOf P fs.toList with
  |some pl=>qeR (fun i=>pl[i]?) (z.cells.toList.map qG) parts
  |none=>none
 |_,_=>none
theorem build_ok{P:Program}{fi:PMap}{t:TypeId}{xs:List (Nat×AVal)}{vs:Array (Nat×Value)}{r:List AVal}(hp:qmr P t xs=some r)(h:VParts fi xs vs.toList):
 ∃r',(∀w,(Instr.build t vs).run P w= .ok (.agg r') w)/\VRs fi r r'.toList:=by
 unfold qmr at hp;have key:∀r',P.built t vs.toList=some r'->VRs fi r r'.toList->∃r',(∀w,(Instr.build t vs).run P w= .ok (.agg r') w)/\VRs fi r r'.toList:=
  fun r' h1 h2=>⟨r',fun w=>run_build w t vs r' h1,h2⟩
 simp only[Ua]at hp;cases hi:P.info? t with
 |none=>simp[hi]at hp
 |some it=>
  simp only[hi,KP]at hp;split at hp
  ·rename_i z len e hz hu
   split at hp
   ·rename_i es he
    obtain⟨r',f1,f2⟩:=qga _ h (WM fi _) hp;refine key r' ?_ f2;simp only[ZH,Kc]at he;obtain⟨ie,hie,rfl⟩:=he;simp only[Program.built,hi,hu,hz,hie];exact f1
   ·cases hp
  ·rename_i z fs hz hu
   split at hp
   ·rename_i pl hpl
    obtain⟨r',f1,f2⟩:=qga _ h (WM fi _) hp;refine key r' ?_ f2;have e:fs.toList.mapM (fun f=>(P.info? f.type).map fun i=>(f.offset,i.size))=some pl:=by
     rw[<-hpl];unfold placesOf;congr 1;funext f;simp only[ZH];cases P.info? f.type<;>rfl
    simp only[Program.built,hi,hu,hz,e];simpa using f1
   ·cases hp
  ·cases hp
mutual
def eqA(P:Program):Nat->TypeId->AVal->AVal->PR
 |0,_,_,_=> .no
 |d+1,t,x,y=>
  match x,y,P.underlying t with
  | .bool a, .bool b,some .bool=>⟨True, .bool (a==b)⟩
  | .int k a, .int k' b,some (.int _)=>if k=k' then⟨True, .bool (decide (a=b))⟩else .no
  | .str a, .str b,some .string=>⟨True, .bool (decide (a=b))⟩
  | .agg xs, .agg ys,some (.struct fs)=>if P.stoodInHeld t=false then qki P d xs ys fs.toList else .no
  | .agg xs, .agg ys,some (.array n e)=>if (P.info? e).isSome then qmc P d e (P.cellsOf e) xs ys (KQ n)else .no
  |_,_,_=> .no
def qmc(P:Program):Nat->TypeId->Nat->List AVal->List AVal->List Nat->PR
 |0,_,_,_,_,[]=>⟨True, .bool true⟩
 |0,_,_,_,_,_::_=> .no
 |_+1,_,_,_,_,[]=>⟨True, .bool true⟩
 |d+1,t,n,xs,ys,i::is=>
  match (eqA P d t (qad P t xs (i*n)).val (qad P t ys (i*n)).val).val,(qmc P d t n xs ys is).val with
  | .bool a, .bool b=>⟨(qad P t xs (i*n)).pre/\(qad P t ys (i*n)).pre/\(eqA P d t (qad P t xs (i*n)).val (qad P t ys (i*n)).val).pre/\(qmc P d t n xs ys is).pre, .bool (a && b)⟩
  |_,_=> .no
def qki(P:Program):Nat->List AVal->List AVal->List Field->PR
 |0,_,_,[]=>⟨True, .bool true⟩
 |0,_,_,_::_=> .no
 |_+1,_,_,[]=>⟨True, .bool true⟩
 |d+1,xs,ys,f::fs=>
  if f.name= "_" then qki P d xs ys fs else
  match (eqA P d f.type (qad P f.type xs f.offset).val (qad P f.type ys f.offset).val).val,(qki P d xs ys fs).val with
  | .bool a, .bool b=>⟨(qad P f.type xs f.offset).pre/\(qad P f.type ys f.offset).pre/\(eqA P d f.type (qad P f.type xs f.offset).val (qad P f.type ys f.offset).val).pre/\(qki P d xs ys fs).pre, .bool (a && b)⟩
  |_,_=> .no
end
mutual
theorem qph{P:Program}{fi:PMap}:∀(d e:Nat) (t:TypeId) (x y:AVal) (u v:Value),d<=e->(eqA P d t x y).pre->VR fi x u->VR fi y v->
 ∃b,(eqA P d t x y).val= .bool b/\∀w,(Op.equalIn e t u v).run P w= .ok b w
 |0,_,_,_,_,_,_,_,hp,_,_=>by simp only[eqA]at hp;exact hp.elim
 |d+1,0,_,_,_,_,_,hde,_,_,_=>by omega
 |d+1,e+1,t,x,y,u,v,hde,hp,hx,hy=>by
  simp only[eqA]at hp|-
  split at hp
  ·rename_i a b ht
   simp only[VR]at hx hy;subst hx hy;exact⟨_,rfl,fun w=>run_equalIn_bool' w e t a b ht⟩
  ·rename_i k a k' b kk ht
   simp only[VR]at hx hy;subst hx hy;split at hp
   ·rename_i hk
    subst hk;rw[if_pos rfl];refine⟨_,rfl,fun w=>?_⟩;rw[run_equalIn_int w e t k kk a b ht,qgm]
   ·exact hp.elim
  ·rename_i a b ht
   simp only[VR]at hx hy;subst hx hy;refine⟨_,rfl,fun w=>?_⟩;rw[run_equalIn_string w e t _ _ ht,qgm,ByteArray.toList_eq,ByteArray.toList_eq]
  ·rename_i xs ys fs ht
   split at hp
   ·rename_i hh
    simp only[VR]at hx hy;obtain⟨us,rfl,hus⟩:=hx;obtain⟨vs,rfl,hvs⟩:=hy;have hf:P.fieldsOf t=fs:=by simp[Program.fieldsOf,ht]
    obtain⟨b,e1,e2⟩:=qmd d e xs ys fs.toList us vs (by omega) hp hus hvs;rw[if_pos hh];refine⟨b,e1,fun w=>?_⟩;rw[run_equalIn_struct w e t us.toArray vs.toArray (by rw[hf];exact ht) hh,hf];exact e2 w
   ·exact hp.elim
  ·rename_i xs ys n el ht
   split at hp
   ·rename_i hh
    simp only[VR]at hx hy;obtain⟨us,rfl,hus⟩:=hx;obtain⟨vs,rfl,hvs⟩:=hy;obtain⟨inf,hinf⟩:=Option.isSome_iff_exists.1 hh;obtain⟨b,e1,e2⟩:=qrn d e el (P.cellsOf el) xs ys (KQ n) us vs (by omega) hp hus hvs;rw[if_pos hh];refine⟨b,e1,fun w=>?_⟩;rw[run_equalIn_array w e us.toArray vs.toArray ht hinf];exact e2 w
   ·exact hp.elim
  ·exact hp.elim
theorem qrn{P:Program}{fi:PMap}:∀(d e:Nat) (t:TypeId) (n:Nat) (xs ys:List AVal) (is:List Nat) (us vs:List Value),d<=e->(qmc P d t n xs ys is).pre->VRs fi xs us->VRs fi ys vs->
 ∃b,(qmc P d t n xs ys is).val= .bool b/\∀w,(Op.eqItems e t n us.toArray vs.toArray is).run P w= .ok b w
 |0,_,_,_,_,_,[],_,_,_,_,_,_=>⟨true,by simp[qmc],fun w=>by simp[Op.eqItems]⟩
 |0,_,_,_,_,_,_::_,_,_,_,hp,_,_=>by simp only[qmc]at hp;exact hp.elim
 |_+1,_,_,_,_,_,[],_,_,_,_,_,_=>⟨true,by simp[qmc],fun w=>by simp[Op.eqItems]⟩
 |d+1,e,t,n,xs,ys,i::is,us,vs,hde,hp,hx,hy=>by
  simp only[qmc]at hp|-
  split at hp
  ·rename_i a b ha hb
   obtain⟨p1,p2,p3,p4⟩:=hp;obtain⟨u,q1,q2⟩:=qcg p1 hx;obtain⟨v,q3,q4⟩:=qcg p2 hy;obtain⟨b1,q5,q6⟩:=qph d e t _ _ u v (by omega) p3 q2 q4;obtain⟨b2,q7,q8⟩:=qrn d e t n xs ys is us vs (by omega) p4 hx hy;rw[ha]at q5;rw[hb]at q7;cases q5;cases q7;refine⟨a && b,rfl,fun w=>?_⟩;simp only[Op.eqItems,Sem.run_bind,q1,Result.andThen_ok,q3,q6];cases a
   ·simp
   ·simpa using q8 w
  ·exact hp.elim
theorem qmd{P:Program}{fi:PMap}:∀(d e:Nat) (xs ys:List AVal) (fs:List Field) (us vs:List Value),d<=e->(qki P d xs ys fs).pre->VRs fi xs us->VRs fi ys vs->
 ∃b,(qki P d xs ys fs).val= .bool b/\∀w,(Op.eqFields e us.toArray vs.toArray fs).run P w= .ok b w
 |0,_,_,_,[],_,_,_,_,_,_=>⟨true,by simp[qki],fun w=>by simp[Op.eqFields]⟩
 |0,_,_,_,_::_,_,_,_,hp,_,_=>by simp only[qki]at hp;exact hp.elim
 |_+1,_,_,_,[],_,_,_,_,_,_=>⟨true,by simp[qki],fun w=>by simp[Op.eqFields]⟩
 |d+1,e,xs,ys,f::fs,us,vs,hde,hp,hx,hy=>by
  simp only[qki]at hp|-
  by_cases hn:f.name= "_"
  ·simp only[hn,if_true]at hp|-
   obtain⟨b,e1,e2⟩:=qmd d e xs ys fs us vs (by omega) hp hx hy;exact⟨b,e1,fun w=>by simpa[Op.eqFields,hn]using e2 w⟩
  ·simp only[hn,if_false]at hp|-
   split at hp
   ·rename_i a b ha hb
    obtain⟨p1,p2,p3,p4⟩:=hp;obtain⟨u,q1,q2⟩:=qcg p1 hx;obtain⟨v,q3,q4⟩:=qcg p2 hy;obtain⟨b1,q5,q6⟩:=qph d e f.type _ _ u v (by omega) p3 q2 q4;obtain⟨b2,q7,q8⟩:=qmd d e xs ys fs us vs (by omega) p4 hx hy;rw[ha]at q5;rw[hb]at q7;cases q5;cases q7;refine⟨a && b,rfl,fun w=>?_⟩;simp only[Op.eqFields,ne_eq,hn,not_false_eq_true,if_true,Sem.run_bind,q1,Result.andThen_ok,q3,q6];cases a
    ·simp
    ·simpa using q8 w
   ·exact hp.elim
end
def qdE(P:Program)(op:BinOp)(t:TypeId)(x y:AVal):PR:=
 match (eqA P 40 t x y).val with
 | .bool b=>match op with
   | .eql=>⟨(eqA P 40 t x y).pre/\P.eqGuardType P.depth t=false, .bool b⟩
   | .neq=>⟨(eqA P 40 t x y).pre/\P.eqGuardType P.depth t=false, .bool (!b)⟩
   |_=> .no
 |_=> .no
theorem qso{P:Program}{fi:PMap}{op:BinOp}{t:TypeId}{xs ys:List AVal}{u v:Value}(hp:(qdE P op t (.agg xs) (.agg ys)).pre)(hx:VR fi (.agg xs) u)(hy:VR fi (.agg ys) v)(X Y:Operand):
 ∃r,(∀w,(do eqGuard op t X Y u v;binOp op t u v:Sem Value).run P w= .ok r w)/\VR fi (qdE P op t (.agg xs) (.agg ys)).val r:=by
 unfold qdE at hp|-
 split at hp
 ·rename_i b hb
  have go:(eqA P 40 t (.agg xs) (.agg ys)).pre->P.eqGuardType P.depth t=false->(∀w,(eqGuard op t X Y u v).run P w= .ok () w)/\∀w,(Op.equalIn 10000 t u v).run P w= .ok b w:=fun h1 h2=>by
   obtain⟨b',e1,e2⟩:=qph 40 10000 t _ _ u v (by omega) h1 hx hy;rw[hb]at e1;cases e1;simp only[VR]at hx hy;obtain⟨us,rfl,_⟩:=hx;obtain⟨vs,rfl,_⟩:=hy;exact⟨fun w=>run_eqGuard_agg w op t X Y _ _ h2,e2⟩
  cases op<;>simp only[]at hp|- <;>first
   |exact hp.elim
   |skip
  all_goals
   obtain⟨g1,g2⟩:=go hp.1 hp.2;simp only[VR]at hx hy;obtain⟨us,rfl,_⟩:=hx;obtain⟨vs,rfl,_⟩:=hy;refine⟨_,fun w=>?_,rfl⟩;simp only[Sem.run_bind,g1,Result.andThen_ok,run_eql_struct,run_neq_struct,g2]
 ·exact hp.elim
theorem qld(s:List UInt8):(⟨⟨s⟩⟩:ByteArray).size=s.length:=rfl
theorem map_toArray{α β:Type}(f:α->β)(xs:Array α):xs.map f=(xs.toList.map f).toArray:=by
 apply KG;simp
def qng(P:Program)(t:TypeId)(x:AVal):PR:=
 match x,P.underlying t with
 | .str s,some .string=>⟨True, .int .i64 s.length⟩
 | .slice _ _ n _,some (.slice _)=>⟨True, .int .i64 n⟩
 | .nilSlice,some (.slice _)=>⟨True, .int .i64 0⟩
 |_,some (.array n _)=>⟨True, .int .i64 n⟩
 |_,_=> .no
theorem pLen_ok{P:Program}{fi:PMap}{t ty:TypeId}{ts:Array TypeId}{x:AVal}{v:Value}(ht:ts[0]?=some t)(hp:(qng P t x).pre)(hx:VR fi x v):
 ∃r,(∀w,(Builtin.len_ ts ty #[v]).run P w= .ok r w)/\VR fi (qng P t x).val r:=by
 unfold qng at hp|-
 split at hp
 ·rename_i s h1
  simp only[VR]at hx;subst hx;exact⟨.int .i64 s.length,fun w=>by simp[Builtin.len_,ht,Qa h1,goInt,qld],rfl⟩
 ·rename_i l o n c e h1
  obtain⟨a,cap,rfl,_⟩:=ZR hx;exact⟨.int .i64 n,fun w=>by simp[Builtin.len_,ht,Qa h1,goInt],rfl⟩
 ·rename_i e h1
  simp only[VR]at hx;subst hx;exact⟨.int .i64 0,fun w=>by simp[Builtin.len_,ht,Qa h1,goInt],rfl⟩
 ·rename_i _ _ _ n e h1
  exact⟨.int .i64 n,fun w=>by simp[Builtin.len_,ht,Qa h1,goInt],rfl⟩
 ·exact hp.elim
def qlK(P:Program)(t:TypeId)(x:AVal):PR:=
 match x,P.underlying t with
 | .slice _ _ _ (.exact c),some (.slice _)=>⟨True, .int .i64 c⟩
 | .nilSlice,some (.slice _)=>⟨True, .int .i64 0⟩
 |_,_=> .no
theorem pCap_ok{P:Program}{fi:PMap}{t ty:TypeId}{ts:Array TypeId}{x:AVal}{v:Value}(ht:ts[0]?=some t)(hp:(qlK P t x).pre)(hx:VR fi x v):
 ∃r,(∀w,(Builtin.cap_ ts ty #[v]).run P w= .ok r w)/\VR fi (qlK P t x).val r:=by
 unfold qlK at hp|-
 split at hp
 ·rename_i l o n c e h1
  simp only[VR]at hx;obtain⟨a,rfl,_⟩:=hx;exact⟨.int .i64 c,fun w=>by simp[Builtin.cap_,ht,Qa h1,goInt],rfl⟩
 ·rename_i e h1
  simp only[VR]at hx;subst hx;exact⟨.int .i64 0,fun w=>by simp[Builtin.cap_,ht,Qa h1,goInt],rfl⟩
 ·exact hp.elim
def pMax:List AVal->PR
 |[.int k a, .int _ b]=>⟨True, .int k (max a b)⟩
 |_=> .no
def qsh:List AVal->PR
 |[.int k a, .int _ b]=>⟨True, .int k (min a b)⟩
 |_=> .no
theorem pMax_ok{P:Program}{fi:PMap}{ty:TypeId}{ts:Array TypeId}{xs:List AVal}{vs:List Value}(hp:(pMax xs).pre)(hx:VRs fi xs vs):
 ∃r,(∀w,(Builtin.max_ ts ty vs.toArray).run P w= .ok r w)/\VR fi (pMax xs).val r:=by
 unfold pMax at hp|-
 split at hp
 ·rename_i k a k' b
  simp only[VRs,VR]at hx;obtain⟨_,_,rfl,rfl,_,_,rfl,rfl,rfl⟩:=hx;refine⟨_,fun w=>run_max_int2 w ts ty k k' a b,?_⟩;simp only[VR];congr 1;split<;>omega
 ·exact hp.elim
theorem pMin_ok{P:Program}{fi:PMap}{ty:TypeId}{ts:Array TypeId}{xs:List AVal}{vs:List Value}(hp:(qsh xs).pre)(hx:VRs fi xs vs):
 ∃r,(∀w,(Builtin.min_ ts ty vs.toArray).run P w= .ok r w)/\VR fi (qsh xs).val r:=by
 unfold qsh at hp|-
 split at hp
 ·rename_i k a k' b
  simp only[VRs,VR]at hx;obtain⟨_,_,rfl,rfl,_,_,rfl,rfl,rfl⟩:=hx;refine⟨_,fun w=>run_min_int2 w ts ty k k' a b,?_⟩;simp only[VR];congr 1;split<;>omega
 ·exact hp.elim
def evs(s:Slots)(xs:List Operand):List AVal:=xs.map (ev s)
def evO(s:Slots):Option Operand->Option AVal
 |none=>none
 |some x=>some (ev s x)
def evP(s:Slots)(xs:List (Nat×Operand)):List (Nat×AVal):=xs.map fun p=>(p.1,ev s p.2)
def qbJ(P:Program)(t:TypeId):Bool:=match P.underlying t with|some (.map _ _)=>true|_=>false
def Zh(P:Program)(h:AHeap)(t:TypeId)(x:AVal):PR:=bif qbJ P t then qkG P h t x else qng P t x
def YB(P:Program)(h:AHeap)(b:Builtin)(ts:Array TypeId)(xs:List AVal):PR:=
 match b,xs,ts[0]? with
 | .len,[x],some t=>Zh P h t x
 | .cap,[x],some t=>qlK P t x
 | .max,xs,_=>pMax xs
 | .min,xs,_=>qsh xs
 |_,_,_=> .no
def qcR:Operand->Bool
 | .const .nilIface=>true
 |_=>false
def qfg(P:Program)(op:BinOp)(t:TypeId)(x:AVal):PR:=
 match P.underlying t,x,op with
 |some (.interface _), .nilIface, .eql=>⟨True, .bool true⟩
 |some (.interface _), .nilIface, .neq=>⟨True, .bool false⟩
 |some (.interface _), .iface _ _, .eql=>⟨True, .bool false⟩
 |some (.interface _), .iface _ _, .neq=>⟨True, .bool true⟩
 |_,_,_=> .no
theorem qsj{P:Program}{fi:PMap}{op:BinOp}{t:TypeId}{x:AVal}{u:Value}(hp:(qfg P op t x).pre)(hx:VR fi x u)(X:Operand):
 ∃r,(∀w,(do eqGuard op t X (.const .nilIface) u .nilIface;binOp op t u .nilIface:Sem Value).run P w= .ok r w)/\VR fi (qfg P op t x).val r:=by
 obtain⟨d,hdep⟩:∃d,Op.maxDepth=d+1:=⟨Op.maxDepth-1,by decide+kernel⟩
 unfold qfg at hp|-
 split at hp<;>first|exact hp.elim|skip
 ·rename_i m ht
  simp only[VR]at hx;subst hx;exact⟨.bool true,fun w=>by simp[eqGuard,binOp,Op.equal,hdep,Op.equalIn,Qa ht],by simp[VR]⟩
 ·rename_i m ht
  simp only[VR]at hx;subst hx;exact⟨.bool false,fun w=>by simp[eqGuard,binOp,Op.equal,hdep,Op.equalIn,Qa ht],by simp[VR]⟩
 ·rename_i m te y ht
  simp only[VR]at hx;obtain⟨y',rfl,_⟩:=hx;exact⟨.bool false,fun w=>by simp[eqGuard,binOp,Op.equal,hdep,Op.equalIn,Qa ht],by simp[VR]⟩
 ·rename_i m te y ht
  simp only[VR]at hx;obtain⟨y',rfl,_⟩:=hx;exact⟨.bool true,fun w=>by simp[eqGuard,binOp,Op.equal,hdep,Op.equalIn,Qa ht],by simp[VR]⟩
def pop(P:Program)(wz:World)(h:AHeap)(s:Slots):Op->PR
 | .move x=>⟨True,ev s x⟩
 | .assign x=>⟨True,ev s x⟩
 | .pick c a b=>match ev s c with
   | .bool c=>⟨True,YN c (ev s a) (ev s b)⟩
   |_=> .no
 | .binOp op t x y _=>bif qcR y then qfg P op t (ev s x)else match ev s x,ev s y with
   | .agg xs, .agg ys=>qdE P op t (.agg xs) (.agg ys)
   |a,b=>qni P op t a b
 | .unOp op _ x=>pUn op (ev s x)
 | .convert src dst x=>qch P wz h src dst (ev s x)
 | .load t x=>ZV P wz h t (ev s x)
 | .field t x f=>qlJ P t (ev s x) f
 | .fieldAddr t x f=>QR P t (ev s x) f
 | .index t x i=>qbr P t (ev s x) (ev s i)
 | .indexAddr t x i=>Xh P t (ev s x) (ev s i)
 | .slice t x lo hi mx=>WI P t (ev s x) (evO s lo) (evO s hi) (evO s mx)
 | .extract x i=>match ev s x with
   | .tuple vs=>⟨i<vs.length,vs.getD i .dead⟩
   |_=> .no
 | .nilCheck x=>match ev s x with
   | .ptr l o=>⟨True, .ptr l o⟩
   | .func f c=>⟨True, .func f c⟩
   |_=> .no
 | .build t parts=>match qmr P t (evP s parts.toList)with
   |some cs=>⟨True, .agg cs⟩
   |none=> .no
 | .makeFunc fn first cap=>match fn with
   | .func f=>⟨first.toList=[], .func f (evs s cap.toList)⟩
   |_=> .no
 | .makeInterface t x=>⟨P.concrete t=true, .iface t (ev s x)⟩
 | .call c=>match c.callee with
   | .builtin b=>YB P h b c.argTypes (evs s c.args.toList)
   |_=> .no
 | .lookup t x i ok=>UL P h t (ev s x) (ev s i) ok
 |_=> .no
theorem SRel.evs{fi:PMap}{n:FrameK}{s:Slots}{a:Act}(h:SRel fi n s a):∀xs:List Operand,VRs fi (evs s xs) (xs.map a.eval)
 |[]=>by simp[AM.evs,VRs]
 |x::xs=>by
  simp only[AM.evs,Ke,VRs];exact⟨_,_,rfl,h.ev x,h.evs xs⟩
theorem SRel.evO{fi:PMap}{n:FrameK}{s:Slots}{a:Act}(h:SRel fi n s a)(x:Option Operand):OVR fi (evO s x) (x.map a.eval):=by
 cases x with
 |none=>simp[AM.evO,OVR]
 |some x=>simp only[AM.evO,OVR,KJ];exact⟨_,rfl,h.ev x⟩
theorem SRel.evP{fi:PMap}{n:FrameK}{s:Slots}{a:Act}(h:SRel fi n s a):∀xs:List (Nat×Operand),VParts fi (evP s xs) (xs.map fun p=>(p.1,a.eval p.2))
 |[]=> .nil
 |x::xs=> .cons (h.ev x.2) (h.evP xs)
theorem Zc{P:Program}{w w':World}{s:Sem Value}{r:Value}(h:s.run P w= .ok r w'):(do pure (Next.value (<-s)):Sem Next).run P w= .ok (.value r) w':=by
 simp[h]
theorem YH{P:Program}{s:Sem Value}{r:Value}{p:World->Prop}(h:∀w,s.run P w= .ok r w):∀w,p w->(do pure (Next.value (<-s)):Sem Next).run P w= .ok (.value r) w:=
 fun w _=>Zc (h w)
theorem qgK{P:Program}{wz w:World}{fi:PMap}{h:AHeap}{n:FrameK}{s:Slots}{a:Act}(o:Oper)(hp:(pop P wz h s o.op).pre)(hr:HRel wz fi h w)(hs:SRel fi n s a):
 ∃r,(∀w',Same w w'->(execOp a.eval o).run P w'= .ok (.value r) w')/\VR fi (pop P wz h s o.op).val r:=by
 obtain⟨dst,op,type,pos,after,guard⟩:=o;cases op<;>simp only[pop]at hp|- <;>first
  |exact hp.elim
  |skip
 case move x=>exact⟨_,fun _ _=>rfl,hs.ev x⟩
 case assign x=>exact⟨_,fun _ _=>rfl,hs.ev x⟩
 case pick c x y=>
  split at hp
  ·rename_i b hb
   have hc:=hs.ev c;rw[hb]at hc;simp only[VR]at hc;refine⟨if b then a.eval x else a.eval y,fun w' _=>?_,VR_pickV (hs.ev x) (hs.ev y)⟩;simp[execOp,hc,asBool]
  ·exact hp.elim
 case binOp op t x y yt=>
  have hx:=hs.ev x;have hy:=hs.ev y;cases hn:qcR y with
  |true=>
   have e:y= .const .nilIface:=by
    unfold qcR at hn;split at hn
    ·rfl
    ·cases hn
   subst e;rw[hn,cond_true]at hp;obtain⟨r,h1,h2⟩:=qsj hp hx x;exact⟨r,YH h1,h2⟩
  |false=>
  rw[hn,cond_false]at hp;simp only[cond_false];split at hp
  ·rename_i xs ys e1 e2
   rw[e1]at hx;rw[e2]at hy;obtain⟨r,h1,h2⟩:=qso hp hx hy x y;exact⟨r,YH h1,h2⟩
  ·obtain⟨r,h1,h2⟩:=pBin_ok hp hx hy x y
   exact⟨r,YH h1,h2⟩
 case unOp op t x=>
  obtain⟨r,h1,h2⟩:=pUn_ok (P:=P) hp (hs.ev x);exact⟨r,YH h1,h2⟩
 case convert src dst x=>
  obtain⟨r,h1,h2⟩:=pConv_ok hp hr (hs.ev x);exact⟨r,fun w' hw=>Zc (h1 w' hw),h2⟩
 case load t x=>
  obtain⟨r,h1,h2⟩:=qnf hp hr (hs.ev x);exact⟨r,fun w' hw=>Zc (h1 w' hw),h2⟩
 case field t x f=>
  obtain⟨r,h1,h2⟩:=qsk hp (hs.ev x);exact⟨r,YH h1,h2⟩
 case fieldAddr t x f=>
  obtain⟨r,h1,h2⟩:=qkd hp (hs.ev x);exact⟨r,YH h1,h2⟩
 case index t x i=>
  obtain⟨r,h1,h2⟩:=qsi hp (hs.ev x) (hs.ev i);exact⟨r,YH h1,h2⟩
 case indexAddr t x i=>
  obtain⟨r,h1,h2⟩:=qkc hp (hs.ev x) (hs.ev i);exact⟨r,YH h1,h2⟩
 case slice t x lo hi mx=>
  obtain⟨r,h1,h2⟩:=qsd hp (hs.ev x) (hs.evO lo) (hs.evO hi) (hs.evO mx);exact⟨r,YH h1,h2⟩
 case extract x i=>
  have hx:=hs.ev x;split at hp
  ·rename_i vs e
   rw[e]at hx;simp only[VR]at hx;obtain⟨us,e2,hus⟩:=hx;simp only at hp|-
   have hl:=XF hus;have hlt:i<us.length:=by omega
   refine⟨us.getD i default,fun w' _=>?_,qgs hus i default hp⟩;simp[execOp,e2,Instr.extract,hlt]
  ·exact hp.elim
 case nilCheck x=>
  have hx:=hs.ev x;split at hp
  ·rename_i l o e
   rw[e]at hx;refine⟨a.eval x,fun w' _=>?_,hx⟩;simp only[VR]at hx;obtain⟨ad,_,e2⟩:=hx;simp[execOp,e2]
  ·rename_i f c e
   rw[e]at hx;refine⟨a.eval x,fun w' _=>?_,hx⟩;simp only[VR]at hx;obtain⟨vs,e2,_⟩:=hx;simp[execOp,e2]
  ·exact hp.elim
 case build t parts=>
  split at hp
  ·rename_i cs e
   obtain⟨r,h1,h2⟩:=build_ok (vs:=parts.map fun(i,x)=>(i,a.eval x)) e (by simpa using hs.evP parts.toList);refine⟨.agg r,YH h1,?_⟩;simp only[VR];exact⟨r.toList,by simp,h2⟩
  ·exact hp.elim
 case makeFunc fn first cap=>
  split at hp
  ·rename_i f
   simp only at hp|-
   have e:first= #[]:=by simpa using hp
   subst e;refine⟨.func (.func f) #[] (cap.map a.eval),fun w' _=>by simp[execOp,Instr.makeFunc],?_⟩;simp only[VR];exact⟨cap.toList.map a.eval,by rw[map_toArray],hs.evs _⟩
  ·exact hp.elim
 case makeInterface t x=>
  refine⟨.iface t (a.eval x),fun w' _=>Zc (run_makeInterface w' t _ hp),?_⟩;simp only[VR];exact⟨_,rfl,hs.ev x⟩
 case lookup t x i ok=>
  obtain⟨r,h1,h2⟩:=qoH hp hr (hs.ev x) (hs.ev i);exact⟨r,fun w' hw=>Zc (h1 w' hw),h2⟩
 case call c=>
  obtain⟨callee,args,ats⟩:=c;split at hp
  ·rename_i b hb
   subst hb;simp only at hp|-
   have hv:=hs.evs args.toList;have run:∀r w,(builtin b ats type (args.map fun| .const _=>true|_=>false) (args.map a.eval)).run P w= .ok (.value r) w->(execOp a.eval ⟨dst, .call ⟨.builtin b,args,ats⟩,type,pos,after,guard⟩).run P w= .ok (.value r) w:=by
    intro r w hr;simp only[execOp,resolve,Sem.run_bind,Sem.run_pure,Result.andThen_ok,invoke];exact hr
   have ea:args.map a.eval=(args.toList.map a.eval).toArray:=map_toArray _ _;unfold YB at hp|-
   split at hp
   ·rename_i x t e1 e2
    rw[e1]at hv;simp only[VRs]at hv;obtain⟨v,_,e3,hx,rfl⟩:=hv;unfold Zh at hp|-
    cases hmt:qbJ P t with
    |true=>
     rw[hmt,cond_true]at hp;obtain⟨r,h1,h2⟩:=pLenM_ok (P:=P) (ty:=type) e2 hp hr hx;refine⟨r,fun w' hw=>run r w' ?_,h2⟩;rw[ea,e3];exact Zc (h1 w' hw)
    |false=>
     rw[hmt,cond_false]at hp;obtain⟨r,h1,h2⟩:=pLen_ok (P:=P) (ty:=type) e2 hp hx;refine⟨r,fun w' _=>run r w' ?_,h2⟩;rw[ea,e3];exact Zc (h1 w')
   ·rename_i x t e1 e2
    rw[e1]at hv;simp only[VRs]at hv;obtain⟨v,_,e3,hx,rfl⟩:=hv;obtain⟨r,h1,h2⟩:=pCap_ok (P:=P) (ty:=type) e2 hp hx;refine⟨r,fun w' _=>run r w' ?_,h2⟩;rw[ea,e3];exact Zc (h1 w')
   ·obtain⟨r,h1,h2⟩:=pMax_ok (P:=P) (ty:=type) (ts:=ats) hp hv
    refine⟨r,fun w' _=>run r w' ?_,h2⟩;rw[ea];exact Zc (h1 w')
   ·obtain⟨r,h1,h2⟩:=pMin_ok (P:=P) (ty:=type) (ts:=ats) hp hv
    refine⟨r,fun w' _=>run r w' ?_,h2⟩;rw[ea];exact Zc (h1 w')
   ·exact hp.elim
  ·exact hp.elim
def PMap.upd(fi:PMap)(k:Nat)(p:Place):PMap:=fun j=>if j=k then some p else fi j
theorem PMap.upd_same(fi:PMap)(k:Nat)(p:Place):fi.upd k p k=some p:=by simp[PMap.upd]
theorem PMap.le_upd{fi:PMap}{k:Nat}(hφ:fi k=none)(p:Place):fi.le (fi.upd k p):=fun j q hj=>by
 by_cases e:j=k
 ·subst e;rw[hφ]at hj;cases hj
 ·simp[PMap.upd,e,hj]
theorem HRel.drew{wz w:World}{fi:PMap}{h:AHeap}(hr:HRel wz fi h w):HRel wz fi h w.drew:=
 hr.later ⟨rfl,rfl,rfl,KM _,fun _ _=>rfl⟩
theorem Below.allocd(w:World)(o:Obj):Below w.heap.size w (w.alloc o):=(Below.refl _ w).alloc (KM _) o
theorem HRel.alloc{wz w:World}{fi:PMap}{h:AHeap}(hr:HRel wz fi h w)(k:Nat)(hk:h k=none)(hφ:fi k=none)(xs:List AVal)(cs:Array Value)(e:TypeId)(lo hi:Nat)
 (hx:VRs fi xs (cs.toList.take xs.length)) (hfr:∀i,lo<=i->i<hi->cs.size<=i) (ht:∀t,UD k=some t->t=e) (hlh:lo<=hi:=by omega):
 fi.le (fi.upd k ⟨w.heap.size,0,cs.size⟩)/\HRel wz (fi.upd k ⟨w.heap.size,0,cs.size⟩) (h.set k ⟨xs,0⟩) (w.alloc (.cells cs e (lo,hi))):=by
 have hl:xs.length<=cs.size:=by
  have:=XF hx;simp at this;omega
 have hsz:w.heap.size<(w.alloc (.cells cs e (lo,hi))).heap.size:=by show _<(w.heap.push _).size;simp
 have hget:(w.alloc (.cells cs e (lo,hi))).heap[w.heap.size]?=some (.cells cs e (lo,hi)):=by show(w.heap.push _)[w.heap.size]?=_;simp
 refine hr.push k hk hφ ⟨xs,0⟩ ⟨w.heap.size,0,cs.size⟩ (Below.allocd w _) (KM _) hsz ?_ (fun t h1=>⟨rfl,cs,(lo,hi),by rw[ht t h1];exact hget⟩);exact .inl ⟨cs,e,lo,hi,hget,by simp,hl,by simp,by simp only[List.drop_zero];exact qaa (PMap.le_upd hφ _) _ _ hx,hlh,fun i h1 h2=> .inr (hfr i h1 h2)⟩
theorem HRel.allocO{wz w:World}{fi:PMap}{h:AHeap}(hr:HRel wz fi h w)(k:Nat)(hk:h k=none)(hφ:fi k=none)(hkt:UD k=none)(b:Blk)(o:Obj)(hf:b.frz=b.cells.length+1)(ho:ORel fi b.cells o):
 fi.le (fi.upd k ⟨w.heap.size,0,0⟩)/\HRel wz (fi.upd k ⟨w.heap.size,0,0⟩) (h.set k b) (w.alloc o):=by
 have hsz:w.heap.size<(w.alloc o).heap.size:=by show _<(w.heap.push _).size;simp
 have hget:(w.alloc o).heap[w.heap.size]?=some o:=by show(w.heap.push _)[w.heap.size]?=_;simp
 exact hr.push k hk hφ b ⟨w.heap.size,0,0⟩ (Below.allocd w _) (KM _) hsz (.inr ⟨hf,⟨rfl,rfl⟩,o,hget,ho.mono (PMap.le_upd hφ _)⟩) (TyOk.none hkt)
theorem HRel.putO{wz w:World}{fi:PMap}{h:AHeap}(hr:HRel wz fi h w){k:Nat}{b b':Blk}{p:Place}{o o':Obj}(hk:h k=some b)(hp:fi k=some p)(hf:b.frz=b.cells.length+1)(hf':b'.frz=b'.cells.length+1)(ho:w.heap[p.blk]?=some o)(hno:∀c e f,o≠ .cells c e f)(ho':ORel fi b'.cells o'):
 HRel wz fi (h.set k b') {w with heap:=w.heap.setIfInBounds p.blk o'}:=by
 have hgl:p.blk<w.heap.size:=hr.lt k p hp;obtain⟨q,hq,hq1,ok⟩:=hr.own k b hk;have hpq:q=p:=by rw[hp]at hq;exact(Option.some.inj hq).symm
 subst hpq;have hob:=ok.obj hf;refine hr.write k b b' q hk hp (by simp) rfl rfl rfl (fun i hi=>by simp[Kv (Ne.symm hi)]) (fun cs e fr hc=>?_) (.inr ⟨hf',hob.at_,o',by simp[hgl],ho'⟩);rw[ho]at hc;exact absurd (Option.some.inj hc) (hno _ _ _)
theorem qbt{n:Nat}:∀i:Nat,0<=i->i<0->n<=i:=by omega
def World.putRow(w:World)(g:Nat)(cs:Array Value)(e:TypeId)(fr:Nat×Nat):World:={w with heap:=w.heap.setIfInBounds g (.cells cs e fr)}
theorem qiH(w:World)(g o:Nat)(cs:Array Value)(e:TypeId)(fr:Nat×Nat)(hg:w.heap[g]?=some (.cells cs e fr))(v:Value):
 w.setCell ⟨g,o,none⟩ v=AM.World.putRow w g (cs.setIfInBounds o v) e fr:=by
 unfold World.setCell AM.World.putRow;congr 1;apply KR;intro i;rw[KS,KT];by_cases hi:g=i
 ·subst hi
  have hlt:g<w.heap.size:=by
   rcases KU g w.heap.size with h|h
   ·exact h
   ·rw[KV h]at hg;cases hg
  rw[hg];simp[hlt]
 ·simp[hi]
theorem WH(w:World)(g:Nat)(cs:Array Value)(e:TypeId)(fr:Nat×Nat)(hg:g<w.heap.size):(AM.World.putRow w g cs e fr).heap[g]?=some (.cells cs e fr):=by
 simp[AM.World.putRow,hg]
theorem UJ(w:World)(g:Nat)(cs:Array Value)(e:TypeId)(fr:Nat×Nat)(i:Nat)(hi:i≠g):(AM.World.putRow w g cs e fr).heap[i]?=w.heap[i]?:=by
 simp only[AM.World.putRow];rw[Kv (Ne.symm hi)]
theorem putRow_putRow(w:World)(g:Nat)(cs cs':Array Value)(e:TypeId)(fr:Nat×Nat):AM.World.putRow (AM.World.putRow w g cs e fr) g cs' e fr=AM.World.putRow w g cs' e fr:=by
 simp[AM.World.putRow]
theorem putRow_self(w:World)(g:Nat)(cs:Array Value)(e:TypeId)(fr:Nat×Nat)(hg:w.heap[g]?=some (.cells cs e fr)):AM.World.putRow w g cs e fr=w:=by
 unfold AM.World.putRow;have:w.heap.setIfInBounds g (.cells cs e fr)=w.heap:=by
  apply KR;intro i;rw[KT];by_cases hi:g=i
  ·subst hi
   have hlt:g<w.heap.size:=by
    rcases KU g w.heap.size with h|h
    ·exact h
    ·rw[KV h]at hg;cases hg
   simp[hlt,<-hg]
  ·simp[hi]
 rw[this]
theorem qaN{P:Program}(g o:Nat)(e:TypeId)(lo hi:Nat):∀(vs:List Value) (i:Nat) (cs:Array Value) (w:World),w.heap[g]?=some (.cells cs e (lo,hi))->
 o+i+vs.length<=cs.size->(∀v∈vs,v.oneCell'=true)->(∀j,o+i<=j->j<o+i+vs.length->¬(lo<=j/\j<hi))->
 (storeCells ⟨g,o,none⟩ vs i).run P w= .ok () (AM.World.putRow w g (setAt cs.toList (o+i) vs).toArray e (lo,hi))
 |[],i,cs,w,hg,_,_,_=>by
  simp only[storeCells,setAt,Sem.run_pure];rw[putRow_self];simpa using hg
 |v::vs,i,cs,w,hg,hfit,h1,hfr=>by
  have hlt:o+i<cs.size:=by simp at hfit;omega
  have hadd:(⟨g,o,none⟩:Addr).add i=⟨g,o+i,none⟩:=by
   unfold Addr.add;by_cases hi:i=0<;>simp[hi]
  have hc:w.cell? ⟨g,o+i,none⟩=some cs[o+i]:=by simp[World.cell?,hg,hlt]
  have hz:w.frozen? ⟨g,o+i,none⟩=false:=by
   have:=hfr (o+i) (by omega) (by simp);simp only[World.frozen?,hg];simp only[Bool.and_eq_false_iff,decide_eq_false_iff_not];omega
  have hgl:g<w.heap.size:=by
   rcases KU g w.heap.size with h|h
   ·exact h
   ·rw[KV h]at hg;cases hg
  simp only[storeCells,Sem.run_bind,hadd,run_store P w ⟨g,o+i,none⟩ v .plain (h1 v (by simp)),hc,hz,KW,if_false,Result.andThen_ok];rw[qiH w g (o+i) cs e (lo,hi) hg v];rw[qaN g o e lo hi vs (i+1) (cs.setIfInBounds (o+i) v) _ (WH w g _ e _ hgl) (by simp at hfit|-;omega) (fun u hu=>h1 u (by simp[hu])) (fun j hj hj'=>hfr j (by omega) (by simp;omega))];rw[putRow_putRow];simp[setAt,Kw]
def AVal.scal:AVal->Bool
 | .dead=>false
 | .mapO _=>false
 | .mapE _ _ _=>false
 | .iterO _ _ _ _=>false
 | .agg _=>false
 | .tuple _=>false
 |_=>true
theorem qpK{fi:PMap}{x:AVal}{v:Value}(h:VR fi x v)(hs:x.scal=true):v.oneCell'=true:=by
 cases x<;>simp only[VR]at h<;>first
  |(simp[AVal.scal]at hs;done)
  |(subst h;rfl)
  |(obtain⟨_,_,rfl⟩:=h;rfl)
  |(obtain⟨_,rfl,_⟩:=h;rfl)
  |exact h.elim
  |skip
 rename_i l o len c
 cases c<;>simp only[]at h
 ·obtain⟨_,rfl,_⟩:=h;rfl
 ·obtain⟨_,_,_,_,_,_,rfl,_⟩:=h;rfl
def QU:List AVal->Bool
 |[]=>true
 |x::xs=>x.scal && QU xs
theorem qdU{fi:PMap}:∀{xs:List AVal} {vs:List Value},VRs fi xs vs->QU xs=true->∀v∈vs,v.oneCell'=true
 |[],vs,h,_,v,hv=>by simp only[VRs]at h;subst h;cases hv
 |x::xs,vs,h,hs,v,hv=>by
  simp only[VRs]at h;obtain⟨u,vs',rfl,h1,h2⟩:=h;simp only[QU,Ky]at hs;rcases KX.1 hv with e|e
  ·subst e;exact qpK h1 hs.1
  ·exact qdU h2 hs.2 v e
theorem qhU(cs:List Value)(po n o:Nat)(us:List Value)(h:o+us.length<=n):((setAt cs (po+o) us).drop po).take n=setAt ((cs.drop po).take n) o us:=by
 induction us generalizing cs o with
 |nil=>rfl
 |cons u us ih=>
  simp only[setAt];simp only[KY]at h;rw[show po+o+1=po+(o+1) by omega,ih _ (o+1) (by omega)];congr 1;apply KZ;intro i;simp only[K3,Kq,K4];by_cases h1:i<n
  ·simp only[h1,if_true]
   by_cases h2:o=i
   ·subst h2
    simp only[if_true,K5,K6];by_cases h3:po+o<cs.length
    ·rw[if_pos h3,if_pos (by omega)]
    ·rw[if_neg h3,if_neg (by omega)]
   ·rw[if_neg (by omega),if_neg h2]
  ·simp only[h1,if_false]
   by_cases h2:o=i
   ·omega
   ·rw[if_neg h2]
theorem qgO{P:Program}{wz w:World}{fi:PMap}{h:AHeap}(hr:HRel wz fi h w){k:Nat}{b:Blk}{p:Place}(hk:h k=some b)(hp:fi k=some p){o:Nat}{xs:List AVal}{vs:List Value}
 (hx:VRs fi xs vs) (hs:QU xs=true) (hfit:o+xs.length<=b.cells.length) (hfrz:b.frz<=o):
 ∃w',(storeCells ⟨p.blk,p.off+o,none⟩ vs).run P w= .ok () w'/\HRel wz fi (h.set k ⟨setAt b.cells o xs,b.frz⟩) w':=by
 obtain⟨q,hq,hq1,ok⟩:=hr.own k b hk;have hpq:q=p:=by rw[hp]at hq;exact(Option.some.inj hq).symm
 subst hpq;have hl:=XF hx;have hbz:b.frz<=b.cells.length:=by omega
 obtain⟨cs,e,lo,hi,h1,h2,h3,h4,h5,h6⟩:=ok.row hbz;have hgl:q.blk<w.heap.size:=hr.lt k q hp;refine⟨_,qaN q.blk (q.off+o) e lo hi vs 0 cs w h1 (by omega) (qdU hx hs) (fun j hj hj' hc=>?_),?_⟩
 ·have:=h6.2 j hc.1 hc.2
  omega
 ·refine hr.write k b _ q hk hp (by simp[AM.World.putRow]) rfl rfl rfl (fun i hi=>UJ w _ _ _ _ i hi) (fun cs' e' fr' h'=>by rw[h1]at h';cases h';exact⟨_,_,WH w _ _ _ _ hgl⟩) ?_
  refine .inl ⟨(setAt cs.toList (q.off+o+0) vs).toArray,e,lo,hi,WH w _ _ _ _ hgl,?_,?_,?_,?_,?_⟩
  ·simp[Yj,h2]
  ·simp[Yj,h3]
  ·simp[Yj,h4]
  ·simp only[Yj,K7]
   rw[qhU _ _ _ _ _ (by omega)];exact qhn o hx h5
  ·refine⟨h6.1,fun i hi1 hi2=>?_⟩
   have:=h6.2 i hi1 hi2;simpa[Yj]using this
def qdy:AVal->Option Nat
 | .nilSlice=>some 0
 | .slice _ _ n _=>some n
 | .str s=>some s.length
 |_=>none
def qfb(wz:World)(h:AHeap)(es n:Nat):AVal->Prop
 | .nilSlice=>True
 | .slice l o _ _=>allLive (Qd wz h l o (n*es))=true
 | .str _=>es=1
 |_=>False
def Zu(wz:World)(h:AHeap)(es n:Nat):AVal->List AVal
 | .slice l o _ _=>Qd wz h l o (n*es)
 | .str s=>byteCells (s.take n)
 |_=>[]
theorem qpY{P:Program}{fi:PMap}{x:AVal}{v:Value}{n:Nat}(hn:qdy x=some n)(hx:VR fi x v)(w:World):(Builtin.lenOf v).run P w= .ok n w:=by
 unfold qdy at hn;split at hn
 ·cases hn;simp only[VR]at hx;subst hx;simp[Builtin.lenOf]
 ·cases hn
  obtain⟨a,cap,rfl,_⟩:=ZR hx;simp[Builtin.lenOf]
 ·cases hn;simp only[VR]at hx;subst hx;simp[Builtin.lenOf,qld]
 ·cases hn
theorem WL(wz:World)(h:AHeap)(l:Loc):∀(n o:Nat),(Qd wz h l o n).length=n
 |0,_=>rfl
 |n+1,o=>by simp[Qd,WL wz h l n]
theorem qeE(fi:PMap):∀s:List UInt8,VRs fi (byteCells s) (s.map fun b=>Value.int .u8 b.toNat)
 |[]=>by simp[byteCells,VRs]
 |b::s=>by
  have:=qeE fi s;simp only[byteCells,Ke,VRs]at this|-
  exact⟨_,_,rfl,by simp[VR],this⟩
theorem qgE{P:Program}{wz w:World}{fi:PMap}{h:AHeap}{es n m:Nat}{x:AVal}{v:Value}(hn:qdy x=some m)(hm:n<=m)(hp:qfb wz h es n x)(hr:HRel wz fi h w)(hx:VR fi x v)(hes:es≠0):
 ∃vs:List Value,(∀w':World,(∀a u,w.cell? a=some u->w'.cell? a=some u)->(Builtin.firstCells es n v).run P w'= .ok vs.toArray w')/\VRs fi (Zu wz h es n x) vs/\vs.length=n*es/\(Zu wz h es n x).length=n*es:=by
 unfold qfb at hp;unfold qdy at hn;unfold Zu;split at hp
 ·cases hn
  simp only[VR]at hx;subst hx;obtain rfl:n=0:=by omega
  exact⟨[],fun w' _=>by simp[Builtin.firstCells],by simp[VRs],by simp,by simp⟩
 ·rename_i l o k c
  cases hn;obtain⟨a,cap,rfl,ha⟩:=ZR hx;have ha':n*es≠0->Xi fi l o=some a:=fun hne=>ha (by
   intro e;apply hne;have:n=0:=by omega
   rw[this,K8])
  obtain⟨vs,e1,e2,_,e4⟩:=qaU (P:=P) hr ha' hp;refine⟨vs,fun w' hw=>?_,e2,e1,WL _ _ _ _ _⟩;simp only[Builtin.firstCells];rw[<-e1];exact run_loadCells_list w' a vs fun j u hj=>hw _ _ (e4 j u hj)
 ·rename_i s
  cases hn;simp only[VR]at hx;subst hx;subst hp;refine⟨(s.take n).map fun b=>Value.int .u8 b.toNat,fun w' _=>?_,qeE fi _,by simp;omega,by simp[byteCells];omega⟩;have hx:(⟨⟨s⟩⟩:ByteArray).extract 0 n=⟨⟨s.take n⟩⟩:=by
   apply ByteArray.ext;apply KG;rw[Lib.extract_data];simp
  simp[Builtin.firstCells,hx]
 ·exact hp.elim
section
variable {P:Program}
theorem qat(w w':World)(ts:Array TypeId)(t u ty e:TypeId)(h0:ts[0]?=some t)(h1:ts[1]?=some u)(i:TypeInfo)(d:TypeDesc)(ht:P.underlying t=some (.slice e))(hu:P.underlying u=some d)(hd:∀k,d≠ .int k)(hi:P.info? e=some i)
 (a:Addr) (len c n:Nat) (v:Value) (news:List Value) (hlen:(Builtin.lenOf v).run P w= .ok n w) (hf:(Builtin.firstCells i.size n v).run P w= .ok news.toArray w)
 (hroom:len+n<=c) (hst:(storeCells (a.add (len*i.size)) news).run P w= .ok () w'):
 (Builtin.append_ ts ty #[.slice (some a) len c,v]).run P w= .ok (.slice (some a) (len+n) c) w':=by
 have hd':(∀k:IntKind,¬d= .int k):=hd;simp only[Builtin.append_];simp[h0,h1,Qa ht,Qa hu,sizeOf,typeInfo,hi,hlen,hf,hst,hroom]
theorem qbn(w:World)(ts:Array TypeId)(t u ty e:TypeId)(h0:ts[0]?=some t)(h1:ts[1]?=some u)(i:TypeInfo)(z:Value)(d:TypeDesc)(ht:P.underlying t=some (.slice e))(hu:P.underlying u=some d)(hd:∀k,d≠ .int k)(hi:P.info? e=some i)
 (hz:i.zero=some z) (s v:Value) (a:Option Addr) (len c n:Nat) (olds news:List Value) (hs:s= .slice a len c) (hlen:(Builtin.lenOf v).run P w= .ok n w)
 (ho:(Builtin.firstCells i.size len s).run P w.drew= .ok olds.toArray w.drew) (hf:(Builtin.firstCells i.size n v).run P w.drew= .ok news.toArray w.drew)
 (hg:c<len+n) (hb:(len+n)*i.bytes<=140737488355328) (h62:len+n<4611686018427387904):
 (Builtin.append_ ts ty #[s,v]).run P w= .ok (.slice (some ⟨w.heap.size,0,none⟩) (len+n) (grownCap w (len+n) c e))
  (w.drew.alloc (.cells ((olds++news).toArray++Builtin.zeroCells z.cells (grownCap w (len+n) c e-(len+n))) e)):=by
 subst hs;have hn:¬(len+n<=c):=by omega
 have h48':¬(Builtin.nextslicecap (len+n) c*i.bytes>2^48):=by
  have h1:=nextslicecap_le hg;have h2:=K9 i.bytes h1;have h3:2*(len+n)*i.bytes=2*((len+n)*i.bytes):=by rw[Nat.mul_assoc]
  omega
 have h63a:¬(9223372036854775807<((len:Int)+(n:Int))):=by omega
 have h48a:¬(281474976710656<Builtin.nextslicecap (len+n) c*i.bytes):=by omega
 have hd':(∀k:IntKind,¬d= .int k):=hd;simp only[Builtin.append_];simp[h0,h1,Qa ht,Qa hu,sizeOf,typeInfo,zeroValue,hi,hz,hlen,hn,h63a,h48a,Question.forced,ho,hf,newRow,grownCap];congr 2;apply KG;simp[Ja]
end
def Lands(P:Program)(f:FuncId)(vals:Array Value)(w:World)(R:Value->World->Prop):Prop:=
 (∃fn,P.funcs[f]?=some fn/\(fn.name== "runtime.NumGoroutine")=false/\fn.body.isSome=true/\Calls P f vals w (fun e w'=>∃v,e= .returned v/\R v w'))\/
 (∃v w',(callFunc f vals).run P w= .ok (.value v) w'/\R v w')
theorem Lands.mono{P:Program}{f:FuncId}{vals:Array Value}{w:World}{R R':Value->World->Prop}(h:Lands P f vals w R)(hr:∀v w',R v w'->R' v w'):Lands P f vals w R':=by
 rcases h with⟨fn,h1,h2,h3,h4⟩|⟨v,w',h1,h2⟩
 ·exact .inl ⟨fn,h1,h2,h3,h4.mono fun e w' ⟨v,hv,hR⟩=>⟨v,hv,hr v w' hR⟩⟩
 ·exact .inr ⟨v,w',h1,hr _ _ h2⟩
def ACall(P:Program)(wz:World)(f:FuncId)(args:List AVal)(h:AHeap)(R:AVal->AHeap->Prop):Prop:=
 ∀(fi:PMap) (vals:List Value) (w:World),HRel wz fi h w->VRs fi args vals->
  Lands P f vals.toArray w fun v w'=>∃Ps x h',fi.le Ps/\HRel wz Ps h' w'/\VR Ps x v/\R x h'
theorem ACall.mono{P:Program}{wz:World}{f:FuncId}{args:List AVal}{h:AHeap}{R R':AVal->AHeap->Prop}(hc:ACall P wz f args h R)(hr:∀x h',R x h'->R' x h'):ACall P wz f args h R':=
 fun fi vals w h1 h2=>(hc fi vals w h1 h2).mono fun _ _ ⟨Ps,x,h',e1,e2,e3,e4⟩=>⟨Ps,x,h',e1,e2,e3,hr _ _ e4⟩
def Ws(z:List AVal)(m:Nat):List AVal:=(KQ m).map fun i=>z.getD (i%z.length) .dead
def qsw:AVal->Option Int
 | .int _ n=>some n
 |_=>none
def qro(P:Program)(h:AHeap)(t:TypeId)(len cap:AVal)(K:AVal->AHeap->Prop):Prop:=
 match P.underlying t,qsw len,qsw cap with
 |some (.slice e),some n,some c=>match ZH P e,qdO P e,Ua P e with
  |some es,some by',some z=>(0<=n/\n<=c/\(by':Int)*c<=281474976710656/\c<=9223372036854775807/\z.cells.size=es/\es≠0)/\
    ∀k,h k=none->K (.slice (.own k) 0 n.toNat (.exact c.toNat)) (h.set k ⟨Ws (z.cells.toList.map qG) (c.toNat*es),0⟩)
  |_,_,_=>False
 |_,_,_=>False
def qeu(P:Program)(wz:World)(h:AHeap)(ts:Array TypeId)(s x:AVal)(K:AVal->AHeap->Prop):Prop:=
 match ts[0]?,ts[1]? with
 |some t,some u=>match P.underlying t,P.underlying u with
  |some (.slice e),some d=>(∀k,d≠ .int k)/\match ZH P e,qdO P e,Ua P e,qdy x with
   |some es,some by',some z,some n=>(es≠0/\z.cells.size=es)/\qfb wz h es n x/\match s with
    | .nilSlice=>(n=0->K .nilSlice h)/\(n≠0->(n*by'<=140737488355328/\n<4611686018427387904)/\∀k,h k=none->(e<4096->UD k=some e)->K (.slice (.own k) 0 n (.grow es)) (h.set k ⟨Zu wz h es n x,0⟩))
    | .slice l o len (.grow g)=>g=es/\match l with
      | .own k=>match h k with
        |some b=>(o+len*es=b.cells.length/\(len+n)*by'<=140737488355328/\len+n<4611686018427387904/\QU (Zu wz h es n x)=true/\allLive (b.cells.drop o)=true/\(b.frz=0\/(o<b.frz/\b.frz<=b.cells.length)))/\
          ∀k',h k'=none->(o=0->UD k=some e->UD k'=some e)->K (.slice (.own k') 0 (len+n) (.grow es)) ((h.del k).set k' ⟨b.cells.drop o++Zu wz h es n x,b.frz-o⟩)
        |none=>False
      |_=>False
    | .slice l o len (.exact c)=>(len+n<=c->(n=0/\K (.slice l o len (.exact c)) h)\/(n≠0/\match l with
       | .own k=>match h k with
         |some b=>(o+len*es+n*es<=b.cells.length/\b.frz<=o+len*es/\QU (Zu wz h es n x)=true)/\
           K (.slice (.own k) o (len+n) (.exact c)) (h.set k ⟨setAt b.cells (o+len*es) (Zu wz h es n x),b.frz⟩)
         |none=>False
       |_=>False))/\
      (c<len+n->(allLive (Qd wz h l o (len*es))=true/\(len+n)*by'<=140737488355328/\len+n<4611686018427387904)/\
        ∀k,h k=none->(e<4096->UD k=some e)->K (.slice (.own k) 0 (len+n) (.grow es)) (h.set k ⟨Qd wz h l o (len*es)++Zu wz h es n x,0⟩))
    |_=>False
   |_,_,_,_=>False
  |_,_=>False
 |_,_=>False
def eCopy(P:Program)(wz:World)(h:AHeap)(ts:Array TypeId)(dst x:AVal)(K:AVal->AHeap->Prop):Prop:=
 match ts[0]? with
 |some t=>match P.underlying t with
  |some (.slice e)=>match ZH P e,qdy x with
   |some es,some m=>es≠0/\match dst with
    | .nilSlice=>qfb wz h es 0 x/\K (.int .i64 0) h
    | .slice l o len _=>qfb wz h es (min m len) x/\((min m len=0->K (.int .i64 0) h)/\(min m len≠0->match l with
      | .own k=>match h k with
        |some b=>(o+min m len*es<=b.cells.length/\b.frz<=o/\QU (Zu wz h es (min m len) x)=true)/\
          K (.int .i64 (min m len:Nat)) (h.set k ⟨setAt b.cells o (Zu wz h es (min m len) x),b.frz⟩)
        |none=>False
      |_=>False))
    |_=>False
   |_,_=>False
  |_=>False
 |none=>False
def qme(P:Program)(h:AHeap)(t:TypeId)(x v:AVal)(K:AVal->AHeap->Prop):Prop:=
 match x with
 | .ptr (.own k) o=>match h k,ZH P t with
   |some b,some n=>(v.live=true/\v.cells.length=n/\o+v.cells.length<=b.cells.length/\b.frz<=o/\QU v.cells=true)/\K (.tuple []) (h.set k ⟨setAt b.cells o v.cells,b.frz⟩)
   |_,_=>False
 |_=>False
def qaI(P:Program)(t:TypeId)(n:Nat)(parts:List (Nat×AVal)):Option (List AVal):=
 match P.underlying t with
 |some (.slice e)=>match ZH P e,Ua P e with
  |some es,some z=>if n*es<=16777216/\es≠0/\z.cells.size=es then qeR (fun i=>some (i*es,es)) (Ws (z.cells.toList.map qG) (n*es)) parts else none
  |_,_=>none
 |_=>none
def Zy(P:Program)(src dst:TypeId):Bool:=
 match P.underlying src,P.underlying dst with
 |some .string,some (.slice e)=>match P.underlying e with
  |some (.int .u8)=>true
  |_=>false
 |_,_=>false
def qbO(P:Program)(src dst:TypeId):Bool:=
 src==dst && match P.underlying src with
 |some (.slice e)=>match P.underlying e with
  |some (.int .u8)=>true
  |_=>false
 |_=>false
def eMakeMap(h:AHeap)(K:AVal->AHeap->Prop):Prop:=∀k,h k=none->K (.map k) (h.set k (ZK 0 []))
def mSet(i v:AVal):AVal->AVal
 | .mapE b _ _=> .mapE b i v
 |x=>x
def qbN(P:Program)(h:AHeap)(t:TypeId)(m i v:AVal)(K:AVal->AHeap->Prop):Prop:=
 match P.underlying t,m with
 |some (.map kt _), .map k=>match Wu h k with
  |some (c,es)=>qaF P kt i=true/\match qbI i es 0 with
   |some (some (j,_))=>K (.tuple []) (h.set k (ZK c (es.modify j (mSet i v))))
   |some none=>K (.tuple []) (h.set k (ZK (c+1) (es++[.mapE c i v])))
   |none=>False
  |none=>False
 |_,_=>False
def qet(P:Program)(h:AHeap)(ts:Array TypeId)(m i:AVal)(K:AVal->AHeap->Prop):Prop:=
 match ts[0]? with
 |some t=>match P.underlying t,m with
  |some (.map kt _), .map k=>match Wu h k with
   |some (c,es)=>qaF P kt i=true/\match qbI i es 0 with
    |some (some (j,_))=>K (.tuple []) (h.set k (ZK c (es.eraseIdx j)))
    |some none=>K (.tuple []) (h.set k (ZK c es))
    |none=>False
   |none=>False
  |_,_=>False
 |none=>False
def qjp(P:Program)(h:AHeap)(t:TypeId)(x:AVal)(K:AVal->AHeap->Prop):Prop:=
 match P.underlying t,x with
 |some (.map _ _), .map k=>match Wu h k with
  |some (c,_)=>∀k',h k'=none->K (.ptr (.own k') 0) (h.set k' ⟨[.iterO k c [] c],2⟩)
  |none=>False
 |_,_=>False
def qjB:AVal->Nat
 | .mapE b _ _=>b
 |_=>0
def qkV(h:AHeap)(it:AVal)(K:AVal->AHeap->Prop):Prop:=
 match it with
 | .ptr (.own k') 0=>match h k' with
   |some ⟨[.iterO m since seen last],2⟩=>match Wu h m with
    |some (c,es)=>(∀e∈es,qjB e<since/\qjB e<last)/\(∀b k v, .mapE b k v∈es->b∉seen->K (.tuple [.bool true,k,v]) (h.set k' ⟨[.iterO m since (seen++[b]) c],2⟩))/\
      ((∀e∈es,qjB e∈seen)->K (.tuple [.bool false]) h)
    |none=>False
   |_=>False
 |_=>False
def qhe(h:AHeap)(it:AVal)(K:AVal->AHeap->Prop):Prop:=
 match it with
 | .ptr (.own k') 0=>match h k' with
   |some ⟨[.iterO m _ seen last],2⟩=>match seen.getLast?,Wu h m with
    |some b,some (c,es)=>c=last/\match es.find? (fun e=>qjB e==b)with
     |some (.mapE _ y v)=>K (.tuple [y,v]) h
     |_=>False
    |_,_=>False
   |_=>False
 |_=>False
def eop(P:Program)(wz:World)(h:AHeap)(s:Slots)(op:Op)(K:AVal->AHeap->Prop):Prop:=
 match op with
 | .alloc e=>match Ua P e with
   |some z=>∀k,h k=none->K (.ptr (.own k) 0) (h.set k ⟨z.cells.toList.map qG,0⟩)
   |none=>False
 | .box _ x=>(ev s x).live=true/\∀k,h k=none->K (.ptr (.own k) 0) (h.set k ⟨(ev s x).cells,0⟩)
 | .buildSlice t n parts=>match qaI P t n (evP s parts.toList)with
   |some cs=>∀k,h k=none->K (.slice (.own k) 0 n (.exact n)) (h.set k ⟨cs,0⟩)
   |none=>False
 | .store t x v=>qme P h t (ev s x) (ev s v) K
 | .makeSlice t n c=>qro P h t (ev s n) (ev s c) K
 | .convert src dst x=>match ev s x with
   | .str b=>if Zy P src dst=true then(b.length<9223372036854775808/\∀k,h k=none->K (.slice (.own k) 0 b.length (.grow 1)) (h.set k ⟨byteCells b,0⟩))
      else(pop P wz h s op).pre/\K (pop P wz h s op).val h
   | .slice (.own k) o n c=>if qbO P src dst=true then((n≠0/\match h k with|some b=>b.frz=0|none=>False)/\K (.slice (.own k) o n c) h)
      else(pop P wz h s op).pre/\K (pop P wz h s op).val h
   |_=>(pop P wz h s op).pre/\K (pop P wz h s op).val h
 | .call c=>match c.callee with
   | .builtin .append=>match evs s c.args.toList with
     |[a,x]=>qeu P wz h c.argTypes a x K
     |_=>False
   | .builtin .copy=>match evs s c.args.toList with
     |[a,x]=>eCopy P wz h c.argTypes a x K
     |_=>False
   | .builtin .delete=>match evs s c.args.toList with
     |[a,x]=>qet P h c.argTypes a x K
     |_=>False
   | .value f=>match ev s f with
     | .func f cap=>ACall P wz f (evs s c.args.toList++cap) h K
     |_=>False
   |_=>(pop P wz h s op).pre/\K (pop P wz h s op).val h
 | .makeMap _ r=>match r with
   |none=>eMakeMap h K
   |some _=>False
 | .mapUpdate t m i v=>qbN P h t (ev s m) (ev s i) (ev s v) K
 | .insert t m i v=>qbN P h t (ev s m) (ev s i) (ev s v) K
 | .range t x=>qjp P h t (ev s x) K
 | .next it str=>str=false/\qkV h (ev s it) K
 | .entry it=>qhe h (ev s it) K
 |_=>(pop P wz h s op).pre/\K (pop P wz h s op).val h
theorem qge{P:Program}{h:AHeap}{t:TypeId}{m i v:AVal}{K K':AVal->AHeap->Prop}(he:qbN P h t m i v K)(hk:∀x h',K x h'->K' x h'):qbN P h t m i v K':=by
 unfold qbN at he|-
 split at he<;>first|exact he.elim|skip
 split at he<;>first|exact he.elim|skip
 refine⟨he.1,?_⟩;have h2:=he.2;split at h2<;>first|exact h2.elim|exact hk _ _ h2
theorem qmf{P:Program}{h:AHeap}{ts:Array TypeId}{m i:AVal}{K K':AVal->AHeap->Prop}(he:qet P h ts m i K)(hk:∀x h',K x h'->K' x h'):qet P h ts m i K':=by
 unfold qet at he|-
 split at he<;>first|exact he.elim|skip
 split at he<;>first|exact he.elim|skip
 split at he<;>first|exact he.elim|skip
 refine⟨he.1,?_⟩;have h2:=he.2;split at h2<;>first|exact h2.elim|exact hk _ _ h2
theorem qnA{P:Program}{h:AHeap}{t:TypeId}{x:AVal}{K K':AVal->AHeap->Prop}(he:qjp P h t x K)(hk:∀x h',K x h'->K' x h'):qjp P h t x K':=by
 unfold qjp at he|-
 split at he<;>first|exact he.elim|skip
 split at he<;>first|exact he.elim|skip
 exact fun k' hk'=>hk _ _ (he k' hk')
theorem qpi{h:AHeap}{x:AVal}{K K':AVal->AHeap->Prop}(he:qkV h x K)(hk:∀x h',K x h'->K' x h'):qkV h x K':=by
 unfold qkV at he|-
 split at he<;>first|exact he.elim|skip
 split at he<;>first|exact he.elim|skip
 split at he<;>first|exact he.elim|skip
 exact⟨he.1,fun b k v h1 h2=>hk _ _ (he.2.1 b k v h1 h2),fun h1=>hk _ _ (he.2.2 h1)⟩
theorem qnB{h:AHeap}{x:AVal}{K K':AVal->AHeap->Prop}(he:qhe h x K)(hk:∀x h',K x h'->K' x h'):qhe h x K':=by
 unfold qhe at he|-
 split at he<;>first|exact he.elim|skip
 split at he<;>first|exact he.elim|skip
 split at he<;>first|exact he.elim|skip
 refine⟨he.1,?_⟩;have h2:=he.2;split at h2<;>first|exact h2.elim|exact hk _ _ h2
theorem qcp{P:Program}{wz:World}{h:AHeap}{s:Slots}{op:Op}{K K':AVal->AHeap->Prop}(he:eop P wz h s op K)(hk:∀x h',K x h'->K' x h'):eop P wz h s op K':=by
 cases op<;>simp only[eop]at he|- <;>first
  |exact⟨he.1,hk _ _ he.2⟩
  |skip
 case alloc e=>split at he<;>first|exact fun k hk'=>hk _ _ (he k hk')|exact he.elim
 case box e x=>exact⟨he.1,fun k hk'=>hk _ _ (he.2 k hk')⟩
 case buildSlice t n parts=>split at he<;>first|exact fun k hk'=>hk _ _ (he k hk')|exact he.elim
 case store t x v=>
  unfold qme at he|-
  split at he
  ·split at he
   ·exact⟨he.1,hk _ _ he.2⟩
   ·exact he.elim
  ·exact he.elim
 case makeSlice t n c=>
  unfold qro at he|-
  split at he
  ·split at he
   ·exact⟨he.1,fun k hk'=>hk _ _ (he.2 k hk')⟩
   ·exact he.elim
  ·exact he.elim
 case convert src dst x=>
  split at he
  ·split at he
   ·rename_i hc
    simp only[hc,if_true];exact⟨he.1,fun k hk'=>hk _ _ (he.2 k hk')⟩
   ·rename_i hc
    rw[if_neg hc];exact⟨he.1,hk _ _ he.2⟩
  ·split at he
   ·rename_i hc
    simp only[hc,if_true];exact⟨he.1,hk _ _ he.2⟩
   ·rename_i hc
    rw[if_neg hc];exact⟨he.1,hk _ _ he.2⟩
  ·exact⟨he.1,hk _ _ he.2⟩
 case call c=>
  split at he
  ·split at he
   ·unfold qeu at he|-
    split at he<;>first|exact he.elim|skip
    split at he<;>first|exact he.elim|skip
    refine⟨he.1,?_⟩;obtain⟨_,he⟩:=he;split at he<;>first|exact he.elim|skip
    obtain⟨e1,e2,he⟩:=he;refine⟨e1,e2,?_⟩;split at he<;>first|exact he.elim|skip
    ·exact⟨fun hn=>hk _ _ (he.1 hn),fun hn=>⟨(he.2 hn).1,fun k hk' ht=>hk _ _ ((he.2 hn).2 k hk' ht)⟩⟩
    ·obtain⟨e3,he⟩:=he
     refine⟨e3,?_⟩;split at he<;>first|exact he.elim|skip
     split at he<;>first|exact he.elim|skip
     exact⟨he.1,fun k hk' ht=>hk _ _ (he.2 k hk' ht)⟩
    ·refine⟨fun hle=>?_,fun hlt=>⟨(he.2 hlt).1,fun k hk' ht=>hk _ _ ((he.2 hlt).2 k hk' ht)⟩⟩
     rcases he.1 hle with⟨a1,a2⟩|⟨a1,a2⟩
     ·exact .inl ⟨a1,hk _ _ a2⟩
     ·refine .inr ⟨a1,?_⟩
      split at a2<;>first|exact a2.elim|skip
      split at a2<;>first|exact a2.elim|skip
      exact⟨a2.1,hk _ _ a2.2⟩
   ·exact he.elim
  ·split at he
   ·unfold eCopy at he|-
    split at he<;>first|exact he.elim|skip
    split at he<;>first|exact he.elim|skip
    split at he<;>first|exact he.elim|skip
    refine⟨he.1,?_⟩;obtain⟨_,he⟩:=he;split at he<;>first|exact he.elim|skip
    ·exact⟨he.1,hk _ _ he.2⟩
    ·refine⟨he.1,fun h0=>hk _ _ (he.2.1 h0),fun h0=>?_⟩
     have h3:=he.2.2 h0;split at h3<;>first|exact h3.elim|skip
     split at h3<;>first|exact h3.elim|skip
     exact⟨h3.1,hk _ _ h3.2⟩
   ·exact he.elim
  ·split at he
   ·exact qmf he hk
   ·exact he.elim
  ·split at he
   ·exact he.mono hk
   ·exact he.elim
  ·exact⟨he.1,hk _ _ he.2⟩
 case makeMap t r=>
  split at he<;>first|exact he.elim|exact fun k hk'=>hk _ _ (he k hk')
 case mapUpdate t m i v=>exact qge he hk
 case insert t m i v=>exact qge he hk
 case range t x=>exact qnA he hk
 case next it str=>exact⟨he.1,qpi he.2 hk⟩
 case entry it=>exact qnB he hk
theorem qmR{α:Type}:∀(vs cs:List α) (m:Nat),m+vs.length<=cs.length->setAt cs m vs=cs.take m++vs++cs.drop (m+vs.length)
 |[],cs,m,_=>by simp[setAt]
 |v::vs,cs,m,h=>by
  simp only[KY]at h;simp only[setAt];rw[qmR vs _ (m+1) (by simp;omega)];have e1:(cs.set m v).drop (m+1+vs.length)=cs.drop (m+(v::vs).length):=by
   rw[List.drop_set_of_lt (by omega)];congr 1;simp only[KY];omega
  have e2:(cs.set m v).take (m+1)=cs.take m++[v]:=by
   apply KZ;intro i;simp only[K3,K4,Jb,K5];have c0:min m cs.length=m:=by omega
   rw[c0];rcases Nat.lt_trichotomy i m with c|c|c
   ·have c1:i<m+1:=by omega
    have c2:¬m=i:=by omega
    simp[c,c1,c2]
   ·subst c
    have c1:i<cs.length:=by omega
    simp[c1]
   ·have c1:¬i<m+1:=by omega
    have c2:¬i<m:=by omega
    have c3:i-m≠0:=by omega
    simp[c1,c2,c3]
  rw[e1,e2,Ja (cs.take m)];rfl
theorem qkh(w:World)(g n:Nat)(cs:Array Value)(e:TypeId)(lo hi:Nat)(hg:w.heap[g]?=some (.cells cs e (lo,hi))):
 w.freeze ⟨g,n,none⟩ 1=AM.World.putRow w g cs e (if lo==hi then(n,n+1)else(min lo n,max hi (n+1))):=by
 unfold World.freeze AM.World.putRow;rw[if_neg (by decide)];congr 1;apply KR;intro i;rw[KS,KT];by_cases hi:g=i
 ·subst hi
  have hlt:g<w.heap.size:=by
   rcases KU g w.heap.size with h|h
   ·exact h
   ·rw[KV h]at hg;cases hg
  rw[hg];simp[hlt]
 ·simp[hi]
theorem HRel.mark{P:Program}{wz w:World}{fi:PMap}{h:AHeap}(hr:HRel wz fi h w){k:Nat}{b:Blk}{p:Place}(hk:h k=some b)(hp:fi k=some p)(hf:b.frz=0)(ad:Addr)(had:ad.block=p.blk):
 ∃w',(markStringish ad).run P w= .ok () w'/\HRel wz fi h w':=by
 obtain⟨q,hq,hq1,ok⟩:=hr.own k b hk;have hpq:q=p:=by rw[hp]at hq;exact(Option.some.inj hq).symm
 subst hpq;obtain⟨cs,e,lo,hi,h1,h2,h3,h4,h5,h6⟩:=ok.row (by omega);have hgl:q.blk<w.heap.size:=hr.lt k q hp;have hsh:w.shape? q.blk=some (e,cs.size):=by simp[World.shape?,h1]
 refine⟨w.freeze ⟨q.blk,cs.size,none⟩ 1,by simp[markStringish,had,hsh],?_⟩;rw[qkh w q.blk cs.size cs e lo hi h1];refine HRel.forget (h:=h.set k b) (hr.write k b b q hk hp (by simp[AM.World.putRow]) rfl rfl rfl (fun i hi=>UJ w _ _ _ _ i hi) (fun cs' e' fr' h'=>by rw[h1]at h';cases h';exact⟨_,_,WH w _ _ _ _ hgl⟩) ?_) fun j c hj=>?_
 ·have hle:(if lo==hi then(cs.size,cs.size+1)else(min lo cs.size,max hi (cs.size+1))).1<=(if lo==hi then(cs.size,cs.size+1)else(min lo cs.size,max hi (cs.size+1))).2:=by
   have:=h6.1;split
   ·exact Nat.le_succ _
   ·simp only
    omega
  have hfr:∀i,(if lo==hi then(cs.size,cs.size+1)else(min lo cs.size,max hi (cs.size+1))).1<=i->i<(if lo==hi then(cs.size,cs.size+1)else(min lo cs.size,max hi (cs.size+1))).2->cs.size<=i:=by
   intro i i1 i2;split at i1
   ·exact i1
   ·rename_i hne
    have hne':lo≠hi:=by simpa using hne
    simp only at i1;by_cases hlh:lo<hi
    ·have:=h6.2 lo (KM _) hlh
     omega
    ·have:=h6.1
     omega
  exact .inl ⟨cs,e,_,_,WH w _ _ _ _ hgl,h2,h3,h4,h5,hle,fun i i1 i2=> .inr (hfr i i1 i2)⟩
 ·by_cases ej:j=k
  ·subst ej;rw[AHeap.set_same];rw[hk]at hj;exact hj
  ·rw[AHeap.set_ne _ _ ej];exact hj
theorem qpJ{fi:PMap}{k o m:Nat}{c:Cap}{v:Value}{ad:Addr}{cap:Nat}{q:Place}(h:VR fi (.slice (.own k) o m c) v)(hv:v= .slice (some ad) m cap)(hq:fi k=some q)(hm:m≠0):ad.block=q.blk:=by
 subst hv;cases c with
 |exact c=>
  simp only[VR]at h;obtain⟨a,e,ha⟩:=h;simp only[Value.slice.injEq,Option.some.injEq]at e;have:=ha (.inr hm);simp only[Xi,hq,KJ,Option.some.injEq]at this;rw[e.1,<-this]
 |grow es=>
  simp only[VR]at h;obtain⟨k',p,c',a,e0,e1,e,e2,e3⟩:=h;cases e0;rw[hq]at e1;cases e1;simp only[Value.slice.injEq,Option.some.injEq]at e;have:=(e3 (by omega)).1;rw[e.1,this]
theorem qiW{P:Program}{wz w:World}{fi:PMap}{h:AHeap}(hr:HRel wz fi h w){k:Nat}{b:Blk}{p:Place}(hk:h k=some b)(hp:fi k=some p){o:Nat}{xs:List AVal}{vs:List Value}
 (hx:VRs fi xs vs) (hs:QU xs=true) (ho:o<=b.cells.length) (hfit:b.cells.length+xs.length<=p.room) (hz:b.frz=0\/(o<b.frz/\b.frz<=b.cells.length)) (k':Nat) (hk':h k'=none) (hφ:fi k'=none) (hty:UD k'=if o=0 then UD k else none):
 ∃w',(storeCells ⟨p.blk,p.off+b.cells.length,none⟩ vs).run P w= .ok () w'/\fi.le (fi.upd k' ⟨p.blk,p.off+o,p.room-o⟩)/\
  HRel wz (fi.upd k' ⟨p.blk,p.off+o,p.room-o⟩) ((h.del k).set k' ⟨b.cells.drop o++xs,b.frz-o⟩) w':=by
 obtain⟨q,hq,hq1,ok⟩:=hr.own k b hk;have hpq:q=p:=by rw[hp]at hq;exact(Option.some.inj hq).symm
 subst hpq;obtain⟨cs,e,lo,hi,h1,h2,h3,h4,h5,h6⟩:=ok.row (by omega);have hl:=XF hx;have hgl:q.blk<w.heap.size:=hr.lt k q hp;have hle:=PMap.le_upd hφ (⟨q.blk,q.off+o,q.room-o⟩:Place);have hkk:k'≠k:=fun e=>by subst e;rw[hk]at hk';cases hk'
 refine⟨_,qaN q.blk (q.off+b.cells.length) e lo hi vs 0 cs w h1 (by omega) (qdU hx hs) (fun j hj hj' hc=>?_),hle,?_⟩
 ·have:=h6.2 j hc.1 hc.2
  omega
 ·have hset:=qmR vs cs.toList (q.off+b.cells.length+0) (by simp;omega)
  have other:∀j b',((h.del k).set k' ⟨b.cells.drop o++xs,b.frz-o⟩:AHeap) j=some b'->j=k'\/(j≠k'/\j≠k/\h j=some b'):=fun j b' hj=>by
   by_cases e1:j=k'
   ·exact .inl e1
   ·rw[AHeap.set_ne _ _ e1]at hj
    by_cases e2:j=k
    ·subst e2;simp[AHeap.del]at hj
    ·simp only[AHeap.del,e2,if_false]at hj
     exact .inr ⟨e1,e2,hj⟩
  refine⟨⟨hr.below.os,hr.below.tape,hr.below.output,by simpa[AM.World.putRow]using hr.below.size,fun i hi=>?_⟩,fun j b' hj=>?_,fun j j' b1 b2 p1 p2 g1 g2 f1 f2 ee=>?_,fun j r hj=>?_,?_,fun j r hj t ht=>?_⟩
  ·rw[UJ _ _ _ _ _ i (by omega)]
   exact hr.below.block i hi
  ·rcases other j b' hj with rfl|⟨n1,n2,hj'⟩
   ·rw[AHeap.set_same]at hj
    simp only[Option.some.injEq]at hj;subst hj;refine⟨_,PMap.upd_same _ _ _,hq1, .inl ⟨(setAt cs.toList (q.off+b.cells.length+0) vs).toArray,e,lo,hi,WH w _ _ _ _ hgl,?_,?_,?_,?_,?_⟩⟩
    ·simp only[KD,Yj,KO]
     omega
    ·simp only[Jc,K6]
     omega
    ·simp only[Jc,K6]
     omega
    ·have h5':=qaa hle _ _ (qao (qgt o h5) hx)
     have e5:((setAt cs.toList (q.off+b.cells.length+0) vs).drop (q.off+o)).take (b.cells.drop o++xs).length=((cs.toList.drop q.off).take b.cells.length).drop o++vs:=by
      rw[hset];simp only[K7,Jc,K6];rw[Ja,List.drop_append_of_le_length (by simp;omega)];apply KZ;intro i;simp only[K3,Jb,Kq,K6,K5,KO];by_cases c1:i<b.cells.length-o
      ·have:i<min (q.off+b.cells.length) cs.size-(q.off+o):=by omega
       have c2:i<min b.cells.length (cs.size-q.off)-o:=by omega
       have c3:i<b.cells.length-o+xs.length:=by omega
       have c4:q.off+o+i<q.off+b.cells.length:=by omega
       have c5:o+i<b.cells.length:=by omega
       simp only[c3,this,c2,c4,c5,if_true];congr 1;omega
      ·have c2:¬i<min (q.off+b.cells.length) cs.size-(q.off+o):=by omega
       have c3:¬i<min b.cells.length (cs.size-q.off)-o:=by omega
       simp only[c2,c3,if_false];have c6:i-(min (q.off+b.cells.length) cs.size-(q.off+o))=i-(min b.cells.length (cs.size-q.off)-o):=by omega
       rw[c6];by_cases c4:i<b.cells.length-o+xs.length
       ·have c5:i-(min b.cells.length (cs.size-q.off)-o)<vs.length:=by omega
        simp only[c4,c5,if_true]
       ·have c5:¬i-(min b.cells.length (cs.size-q.off)-o)<vs.length:=by omega
        simp only[c4,if_false];rw[Kr (by omega)]
     simp only;rw[e5];exact h5'
    ·refine⟨h6.1,fun i hi1 hi2=>?_⟩
     have:=h6.2 i hi1 hi2;simp only[KD,Yj,KO];omega
   ·obtain⟨r,hr0,hr1,hr2⟩:=hr.own j b' hj'
    have hne:r.blk≠q.blk:=fun e'=>n2 (hr.inj j k b' b r q hj' hk hr0 hp e');exact⟨r,hle j r hr0,hr1,(hr2.world (UJ _ _ _ _ _ _ hne)).mono hle⟩
  ·rcases other j b1 g1 with rfl|⟨n1,n2,g1'⟩<;>rcases other j' b2 g2 with rfl|⟨m1,m2,g2'⟩
   ·rfl
   ·exfalso
    rw[PMap.upd_same]at f1;simp only[Option.some.injEq]at f1;subst f1;obtain⟨r,hr0,_,_⟩:=hr.own j' b2 g2';have:r=p2:=by
     have:=hle j' r hr0;rw[f2]at this;exact(Option.some.inj this).symm
    subst this;exact m2 (hr.inj j' k b2 b r q g2' hk hr0 hp ee.symm)
   ·exfalso
    rw[PMap.upd_same]at f2;simp only[Option.some.injEq]at f2;subst f2;obtain⟨r,hr0,_,_⟩:=hr.own j b1 g1';have:r=p1:=by
     have:=hle j r hr0;rw[f1]at this;exact(Option.some.inj this).symm
    subst this;exact n2 (hr.inj j k b1 b r q g1' hk hr0 hp ee)
   ·simp only[PMap.upd,n1,m1,if_false]at f1 f2
    exact hr.inj j j' b1 b2 p1 p2 g1' g2' f1 f2 ee
  ·simp only[AM.World.putRow,Array.size_setIfInBounds]
   by_cases e1:j=k'
   ·subst e1
    rw[PMap.upd_same]at hj;simp only[Option.some.injEq]at hj;subst hj;exact hgl
   ·simp only[PMap.upd,e1,if_false]at hj
    exact hr.lt j r hj
  ·obtain⟨N,hN⟩:=hr.fin
   exact⟨max N (k'+1),fun j hj=>by
    have h1:j≠k':=by omega
    simp only[PMap.upd,h1,if_false];exact hN j (by omega)⟩
  ·by_cases e1:j=k'
   ·subst e1
    rw[PMap.upd_same]at hj;simp only[Option.some.injEq]at hj;subst hj;rw[hty]at ht;by_cases e0:o=0
    ·rw[if_pos e0]at ht
     obtain⟨t0,cs',fr',t1⟩:=hr.typ k q hp t ht;rw[h1]at t1;cases t1;exact⟨by simp only;omega,_,_,WH w _ _ _ _ hgl⟩
    ·rw[if_neg e0]at ht;cases ht
   ·simp only[PMap.upd,e1,if_false]at hj
    obtain⟨t0,cs',fr',t1⟩:=hr.typ j r hj t ht;refine⟨t0,?_⟩;by_cases e2:r.blk=q.blk
    ·rw[e2]at t1|-
     rw[h1]at t1;cases t1;exact⟨_,_,WH w _ _ _ _ hgl⟩
    ·exact⟨cs',fr',by rw[UJ _ _ _ _ _ _ e2];exact t1⟩
theorem XG{P:Program}{o:Oper}{a:Act}{w w':World}{v:Value}{next:Act->World->Prop}{Q:Exit->Act->World->Prop}(h:(execOp a.eval o).run P w= .ok (.value v) w')(hn:next (a.put o.dst v) w'):o.wp P a w next Q:=by
 unfold Oper.wp;rw[h];exact hn
theorem qir{P:Program}{o:Oper}{a:Act}{w w':World}{next:Act->World->Prop}{Q:Exit->Act->World->Prop}(h:(execOp a.eval o).run P w= .ok .skip w')(hn:next (a.put o.dst undef) w'):o.wp P a w next Q:=by
 unfold Oper.wp;rw[h];exact hn
theorem Yu(fi:PMap):VR fi (.tuple []) undef:=by
 simp only[VR];exact⟨[],rfl,by simp[VRs]⟩
theorem qjP(fi:PMap)(k:Nat)(p:Place):VR (fi.upd k p) (.ptr (.own k) 0) (.pointer (some ⟨p.blk,p.off,none⟩)):=by
 simp only[VR];exact⟨_,by simp[Xi,PMap.upd],rfl⟩
theorem qth{P:Program}{o:Oper}{a:Act}{w:World}{f:FuncId}{vals:Array Value}{R:Value->World->Prop}{next:Act->World->Prop}{Q:Exit->Act->World->Prop}
 (hx:(execOp a.eval o).run P w=(callFunc f vals).run P w) (h:Lands P f vals w R) (hn:∀v w',R v w'->next (a.put o.dst v) w'):o.wp P a w next Q:=by
 unfold Oper.wp;rw[hx];rcases h with⟨fn,h1,h2,h3,h4⟩|⟨v,w',h1,h2⟩
 ·have:(callFunc f vals).run P w= .ok (.enter f vals) w:=by
   have hb:¬fn.body=none:=fun e=>by rw[e]at h3;cases h3
   have hn':¬fn.name= "runtime.NumGoroutine":=by simpa using h2
   simp[callFunc,h1,hn',hb]
  rw[this,Oper.upon_enter];refine h4.mono fun e w' he=>?_;obtain⟨v,rfl,hR⟩:=he;exact hn v w' hR
 ·rw[h1]
  exact hn v w' h2
theorem qdK(place:Nat->Option (Nat×Nat)):∀{xs:List (Nat×AVal)} {cells r:List AVal},qeR place cells xs=some r->r.length=cells.length
 |[],cells,r,h=>by simp only[qeR,Option.some.injEq]at h;subst h;rfl
 |(i,x)::xs,cells,r,h=>by
  simp only[qeR]at h;split at h
  ·cases h
  ·split at h
   ·rw[qdK place h,Yj]
   ·cases h
theorem qim{fi:PMap}{z:List AVal}{u:Array Value}(hz:VRs fi z u.toList)(hne:u.size≠0)(m:Nat):VRs fi (Ws z m) ((Jd m).map (u[· %u.size]!)).toList:=by
 have hl:=XF hz;simp only[KO]at hl;refine qjO (by simp[Ws]) fun j hj=>?_;have hj':j<m:=by simpa[Ws]using hj
 have hlt:j%u.size<u.size:=Km _ (by omega);have h1:=qgs hz (j%z.length) default (by rw[<-hl];exact hlt);have e1:(Ws z m).getD j .dead=z.getD (j%z.length) .dead:=by simp[Ws,hj']
 have e2:(((Jd m).map (u[· %u.size]!)).toList).getD j default=u.toList.getD (j%z.length) default:=by
  rw[<-hl];simp[hj',hlt]
 rw[e1,e2];exact h1
theorem qpL{fi:PMap}{k:Nat}{p:Place}{v:Value}(hp:fi k=some p)(h:VR fi (.map k) v):v= .map (some p.blk):=by
 simp only[VR]at h;obtain⟨q,hq,rfl⟩:=h;rw[hp]at hq;cases hq;rfl
theorem ERel.app{fi:PMap}:∀{cs:List AVal} {l:List MapEntry} {b:Nat} {k v:AVal} {e:MapEntry},ERel fi cs l->e.born=b->VR fi k e.key->VR fi v e.val->ERel fi (cs++[.mapE b k v]) (l++[e])
 |[],l,b,k,v,e,h,h1,h2,h3=>by
  simp only[ERel]at h;subst h;simp only[Je,ERel];exact⟨e,[],rfl,⟨h1,h2,h3⟩,rfl⟩
 |c::cs,l,b,k,v,e,h,h1,h2,h3=>by
  simp only[ERel]at h;obtain⟨e',l',rfl,g1,g2⟩:=h;simp only[Kh,ERel];exact⟨e',l'++[e],rfl,g1,g2.app h1 h2 h3⟩
theorem ERel.put{fi:PMap}{i v:AVal}{u x:Value}(hi:VR fi i u)(hv:VR fi v x):∀{cs:List AVal} {l:List MapEntry} {j:Nat},ERel fi cs l->ERel fi (cs.modify j (mSet i v)) (l.modify j fun e=>{e with key:=u,val:=x})
 |[],l,j,h=>by
  simp only[ERel]at h;subst h;simp[ERel]
 |c::cs,l,j,h=>by
  simp only[ERel]at h;obtain⟨e',l',rfl,g1,g2⟩:=h;cases j with
  |zero=>
   simp only[List.modify_zero_cons,ERel];refine⟨_,l',rfl,?_,g2⟩;cases c<;>first|exact g1.elim|exact⟨g1.1,hi,hv⟩
  |succ j=>
   simp only[List.modify_succ_cons,ERel];exact⟨e',_,rfl,g1,g2.put hi hv⟩
theorem ERel.erase{fi:PMap}:∀{cs:List AVal} {l:List MapEntry} {j:Nat},ERel fi cs l->ERel fi (cs.eraseIdx j) (l.eraseIdx j)
 |[],l,j,h=>by
  simp only[ERel]at h;subst h;simp[ERel]
 |c::cs,l,j,h=>by
  simp only[ERel]at h;obtain⟨e',l',rfl,g1,g2⟩:=h;cases j with
  |zero=>exact g2
  |succ j=>
   simp only[List.eraseIdx_cons_succ,ERel];exact⟨e',_,rfl,g1,g2.erase⟩
theorem ERel.mem{fi:PMap}:∀{cs:List AVal} {l:List MapEntry},ERel fi cs l->(∀e∈l,∃k v, .mapE e.born k v∈cs/\VR fi k e.key/\VR fi v e.val)/\∀c∈cs,∃e∈l,e.born=qjB c
 |[],l,h=>by
  simp only[ERel]at h;subst h;simp
 |c::cs,l,h=>by
  simp only[ERel]at h;obtain⟨e',l',rfl,g1,g2⟩:=h;obtain⟨h1,h2⟩:=g2.mem;refine⟨fun e he=>?_,fun d hd=>?_⟩
  ·rcases KX.1 he with rfl|he
   ·cases c<;>first|exact g1.elim|exact⟨_,_,by rw[g1.1];exact Jf,g1.2.1,g1.2.2⟩
   ·obtain⟨k,v,a1,a2⟩:=h1 e he
    exact⟨k,v,Jg _ a1,a2⟩
  ·rcases KX.1 hd with rfl|hd
   ·cases d<;>first|exact g1.elim|exact⟨e',Jf,g1.1⟩
   ·obtain⟨e,a1,a2⟩:=h2 d hd
    exact⟨e,Jg _ a1,a2⟩
theorem qlw{P:Program}{fi:PMap}{kt:TypeId}{x:AVal}{u v:Value}(hk:qaF P kt x=true)(hu:VR fi x u)(hv:VR fi x v)(n:Nat):v=u/\Instr.sameBits n u u=true:=by
 unfold qaF at hk;cases x with
 |str s=>
  simp only[VR]at hu hv;subst hu hv;exact⟨rfl,by cases n<;>simp only[Instr.sameBits]<;>exact qdS _⟩
 |int k m=>
  simp only[VR]at hu hv;subst hu hv;exact⟨rfl,by cases n<;>simp[Instr.sameBits]⟩
 |_=>split at hk<;>first|(cases hk;done)|(rename_i e;cases e)
theorem choose_lt{P:Program}(w:World){n:Nat}(hn:0<n):∃k w1,(choose (.mapNext n)).run P w= .ok k w1/\k<n/\(w1=w\/w1=w.drew):=by
 unfold choose;simp only[Sem.run];split
 ·exact⟨0,w,rfl,hn, .inl rfl⟩
 ·refine⟨_,_,rfl,?_, .inr rfl⟩
  simp only[Question.cut];exact Km _ hn
theorem qkt{P:Program}{wz w:World}{fi:PMap}{h:AHeap}{t:TypeId}{m i v:AVal}{um ui uv:Value}{K:AVal->AHeap->Prop}(he:qbN P h t m i v K)(hr:HRel wz fi h w)(hm:VR fi m um)(hi:VR fi i ui)(hv:VR fi v uv):
 ∃w' h',(Instr.mapUpdate t um ui uv).run P w= .ok () w'/\HRel wz fi h' w'/\K (.tuple []) h':=by
 unfold qbN at he;split at he<;>first|exact he.elim|skip
 rename_i kt et k ht
 split at he<;>first|exact he.elim|skip
 rename_i c es hc
 obtain⟨hk,he⟩:=he;obtain⟨d,hd⟩:=qck hk;obtain⟨p,entries,hp,g1,g2⟩:=hr.mapAt hc;have hum:=qpL hp hm;subst hum;have hget:(getObj p.blk).run P w= .ok (.map entries c) w:=by simp[getObj,Sem.run,g1]
 have hset:∀o,(setObj p.blk o).run P w= .ok () {w with heap:=w.heap.setIfInBounds p.blk o}:=fun o=>by simp[setObj,Sem.run,g1]
 have hnc:∀cc e f,(Obj.map entries c)≠ .cells cc e f:=fun _ _ _ h=>by cases h
 split at he<;>first|exact he.elim|skip
 ·rename_i j y hf
  obtain⟨r',f1,f2⟩:=find_ok hd hk hi g2 hf;cases r' with
  |none=>exact f2.elim
  |some r'=>
   obtain⟨j',v'⟩:=r';obtain⟨rfl,_,_,e,f4,f5,f6⟩:=f2;rw[Nat.sub_zero,Array.getElem?_toList]at f4;obtain⟨hkey,hsb⟩:=qlw hk hi f6 10000;refine⟨_,_,?_,hr.putO (YL hc) hp rfl (b':=ZK c (es.modify j (mSet i v))) (by simp[ZK]) g1 hnc (o':= .map (entries.modify j fun e=>{e with key:=ui,val:=uv}) c) ⟨rfl,?_⟩,he⟩
   ·simp only[Instr.mapUpdate,Sem.run_bind,Qa ht,Result.andThen_ok,hget,run_checkKey hk,run_findKey hd f1,f4,KJ,Option.getD_some,hkey,Instr.keyThatStays,hsb,if_true,Sem.run_pure,hset]
   ·rw[Array.toList_modify]
    exact g2.put hi hv
 ·rename_i hf
  obtain⟨r',f1,f2⟩:=find_ok hd hk hi g2 hf;cases r' with
  |some r'=>exact f2.elim
  |none=>
   refine⟨_,_,?_,hr.putO (YL hc) hp rfl (b':=ZK (c+1) (es++[.mapE c i v])) (by simp[ZK]) g1 hnc (o':= .map (entries.push {key:=ui,val:=uv,born:=c}) (c+1)) ⟨rfl,?_⟩,he⟩
   ·simp only[Instr.mapUpdate,Sem.run_bind,Qa ht,Result.andThen_ok,hget,run_checkKey hk,run_findKey hd f1,hset]
   ·rw[Jh]
    exact g2.app rfl hi hv
theorem qsF{P:Program}{wz w:World}{fi:PMap}{h:AHeap}{ts:Array TypeId}{ty:TypeId}{m i:AVal}{um ui:Value}{K:AVal->AHeap->Prop}(he:qet P h ts m i K)(hr:HRel wz fi h w)(hm:VR fi m um)(hi:VR fi i ui):
 ∃w' h',(Builtin.delete_ ts ty #[um,ui]).run P w= .ok undef w'/\HRel wz fi h' w'/\K (.tuple []) h':=by
 unfold qet at he;split at he<;>first|exact he.elim|skip
 rename_i t ht0
 split at he<;>first|exact he.elim|skip
 rename_i kt et k ht
 split at he<;>first|exact he.elim|skip
 rename_i c es hc
 obtain⟨hk,he⟩:=he;obtain⟨d,hd⟩:=qck hk;obtain⟨p,entries,hp,g1,g2⟩:=hr.mapAt hc;have hum:=qpL hp hm;subst hum;have hget:(getObj p.blk).run P w= .ok (.map entries c) w:=by simp[getObj,Sem.run,g1]
 have hset:∀o,(setObj p.blk o).run P w= .ok () {w with heap:=w.heap.setIfInBounds p.blk o}:=fun o=>by simp[setObj,Sem.run,g1]
 have hnc:∀cc e f,(Obj.map entries c)≠ .cells cc e f:=fun _ _ _ h=>by cases h
 split at he<;>first|exact he.elim|skip
 ·rename_i j y hf
  obtain⟨r',f1,f2⟩:=find_ok hd hk hi g2 hf;cases r' with
  |none=>exact f2.elim
  |some r'=>
   obtain⟨j',v'⟩:=r';obtain⟨rfl,_,_,e,f4,f5,f6⟩:=f2;refine⟨_,_,?_,hr.putO (YL hc) hp rfl (b':=ZK c (es.eraseIdx j)) (by simp[ZK]) g1 hnc (o':= .map (entries.eraseIdxIfInBounds j) c) ⟨rfl,?_⟩,he⟩
   ·simp[Builtin.delete_,ht0,Qa ht,hget,run_checkKey hk,run_findKey hd f1,hset]
    rfl
   ·rw[Array.toList_eraseIdxIfInBounds]
    exact g2.erase
 ·rename_i hf
  obtain⟨r',f1,f2⟩:=find_ok hd hk hi g2 hf;cases r' with
  |some r'=>exact f2.elim
  |none=>
   refine⟨_,_,?_,hr.putO (YL hc) hp rfl (b':=ZK c es) (by simp[ZK]) g1 hnc (o':= .map entries c) ⟨rfl,g2⟩,he⟩;simp[Builtin.delete_,ht0,Qa ht,hget,run_checkKey hk,run_findKey hd f1,hset];rfl
theorem ERel.find{fi:PMap}{b:Nat}:∀{es:List AVal} {l:List MapEntry},ERel fi es l->∀{b':Nat} {y v:AVal},es.find? (fun e=>qjB e==b)=some (.mapE b' y v)->∃e,l.find? (fun e=>e.born==b)=some e/\VR fi y e.key/\VR fi v e.val
 |[],_,_,b',y,v,hf=>by cases hf
 |c::cs,l,h,b',y,v,hf=>by
  simp only[ERel]at h;obtain⟨e,l',rfl,h2,h3⟩:=h;cases c<;>first|exact h2.elim|skip
  rename_i b1 y1 v1
  obtain⟨e1,e2,e3⟩:=(show e.born=b1/\VR fi y1 e.key/\VR fi v1 e.val from h2)
  rw[List.find?_cons]at hf|-
  simp only[qjB]at hf;rw[e1];by_cases hb:(b1==b)=true
  ·rw[hb]at hf|-
   simp only[Option.some.injEq,AVal.mapE.injEq]at hf;obtain⟨_,rfl,rfl⟩:=hf;exact⟨e,rfl,e2,e3⟩
  ·rw[Bool.not_eq_true]at hb
   rw[hb]at hf|-
   exact ERel.find h3 hf
theorem entry_ok{P:Program}{wz w:World}{fi:PMap}{h:AHeap}{it:AVal}{ui:Value}{K:AVal->AHeap->Prop}(he:qhe h it K)(hr:HRel wz fi h w)(hi:VR fi it ui):
 ∃v x,(Instr.entry ui).run P w= .ok v w/\VR fi x v/\K x h:=by
 unfold qhe at he;split at he<;>first|exact he.elim|skip
 rename_i k'
 split at he<;>first|exact he.elim|skip
 rename_i m since seen last hk'
 split at he<;>first|exact he.elim|skip
 rename_i b c es hb hc
 obtain⟨rfl,he⟩:=he;split at he<;>first|exact he.elim|skip
 rename_i b' y v hf
 obtain⟨p,entries,hp,g1,g2⟩:=hr.mapAt hc;obtain⟨q,hq,_,ok⟩:=hr.own k' _ hk';have hob:=ok.obj rfl;obtain⟨o,o1,o2⟩:=hob.obj;simp only[VR]at hi;obtain⟨ad,ha,rfl⟩:=hi;simp only[Xi,hq,KJ,Option.some.injEq,hob.at_.1,K7]at ha;subst ha;cases o with
 |mapIter mm since' seen' last'=>
  cases mm with
  |none=>exact(show False from o2).elim
  |some mm=>
   obtain⟨⟨pm,hpm,rfl⟩,rfl,hseen,rfl⟩:=(show(∃p,fi m=some p/\mm=p.blk)/\since'=since/\seen'.toList=seen/\last'=c from o2)
   rw[hp]at hpm;cases hpm;obtain⟨e,f1,f2,f3⟩:=ERel.find g2 hf;have hget1:(getObj q.blk).run P w= .ok (.mapIter (some p.blk) since' seen' last') w:=by simp[getObj,Sem.run,o1]
   have hget2:(getObj p.blk).run P w= .ok (.map entries last') w:=by simp[getObj,Sem.run,g1]
   have hback:seen'.back?=some b:=by rw[<-Array.getLast?_toList,hseen];exact hb
   have hfind:entries.find? (fun e=>e.born==b)=some e:=by rw[<-Array.find?_toList];exact f1
   refine⟨.tuple #[e.key,e.val], .tuple [y,v],?_,?_,he⟩
   ·simp[Instr.entry,hget1,hget2,hback,hfind]
   ·simp only[VR]
    exact⟨[e.key,e.val],rfl,by simp only[VRs];exact⟨_,_,rfl,f2,_,_,rfl,f3,rfl⟩⟩
 |_=>exact(show False from o2).elim
theorem next_ok{P:Program}{wz w:World}{fi:PMap}{h:AHeap}{ty:TypeId}{it:AVal}{ui:Value}{K:AVal->AHeap->Prop}(he:qkV h it K)(hr:HRel wz fi h w)(hi:VR fi it ui):
 ∃v w' x h',(Instr.next ui false ty).run P w= .ok v w'/\HRel wz fi h' w'/\VR fi x v/\K x h':=by
 unfold qkV at he;split at he<;>first|exact he.elim|skip
 rename_i k'
 split at he<;>first|exact he.elim|skip
 rename_i m since seen last hk'
 split at he<;>first|exact he.elim|skip
 rename_i c es hc
 obtain⟨h1,h2,h3⟩:=he;obtain⟨p,entries,hp,g1,g2⟩:=hr.mapAt hc;obtain⟨q,hq,_,ok⟩:=hr.own k' _ hk';have hob:=ok.obj rfl;obtain⟨o,o1,o2⟩:=hob.obj;simp only[VR]at hi;obtain⟨ad,ha,rfl⟩:=hi;simp only[Xi,hq,KJ,Option.some.injEq,hob.at_.1,K7]at ha;subst ha;cases o with
 |mapIter mm since' seen' last'=>
  cases mm with
  |none=>exact(show False from o2).elim
  |some mm=>
   obtain⟨⟨pm,hpm,rfl⟩,rfl,hseen,rfl⟩:=(show(∃p,fi m=some p/\mm=p.blk)/\since'=since/\seen'.toList=seen/\last'=last from o2)
   rw[hp]at hpm;cases hpm;obtain⟨m1,m2⟩:=g2.mem;have old:∀e∈entries.toList,e.born<since'/\e.born<last':=fun e he=>by
    obtain⟨k,v,a1,_⟩:=m1 e he;exact h1 _ a1
   have hget1:∀w',w'.heap=w.heap->(getObj q.blk).run P w'= .ok (.mapIter (some p.blk) since' seen' last') w':=fun w' hw=>by simp[getObj,Sem.run,hw,o1]
   have hget2:(getObj p.blk).run P w= .ok (.map entries c) w:=by simp[getObj,Sem.run,g1]
   have hnone:¬(!seen'.isEmpty && !entries.isEmpty && entries.all (fun e=>decide (e.born >= last')))=true:=by
    intro hq;simp only[Ky,Ji,Array.isEmpty_eq_false_iff]at hq;obtain⟨⟨_,hne⟩,hall⟩:=hq;rw[Array.all_eq_true]at hall;have hpos:0<entries.size:=Jj.2 hne;have:=hall 0 hpos;simp only[decide_eq_true_eq]at this;have h9:=(old entries[0] (by simp)).2;omega
   obtain⟨left,hleft⟩:∃left,left=entries.filter fun e=> !seen'.contains e.born:=⟨_,rfl⟩
   have hnew:left.filter (fun e=>decide (e.born >= since'))= #[]:=by
    rw[Array.filter_eq_empty_iff];intro e he;rw[hleft,Jk]at he;have:=(old e (by simpa using he.1)).1;simp;omega
   have hold:left.filter (fun e=>decide (e.born<since'))=left:=by
    rw[Array.filter_eq_self];intro e he;rw[hleft,Jk]at he;have:=(old e (by simpa using he.1)).1;simpa using this
   obtain⟨cand,hcand⟩:∃cand,cand=(if left.isEmpty then #[none]else #[])++left.map some:=⟨_,rfl⟩
   have hsz:0<cand.size:=by
    rw[hcand];by_cases e:left.isEmpty=true
    ·rw[if_pos e,Jl]
     show 0<1+_
     omega
    ·rw[if_neg e]
     simp only[Jm,Jn];exact Jj.2 (by simpa using e)
   obtain⟨n,w1,hch,hn,hw1⟩:∃n w1,(choose (.mapNext cand.size)).run P w= .ok n w1/\n<cand.size/\(w1=w\/w1=w.drew):=choose_lt w hsz;have hr1:HRel wz fi h w1:=by
    rcases hw1 with rfl|rfl
    ·exact hr
    ·exact hr.drew
   have hh1:w1.heap=w.heap:=by rcases hw1 with rfl|rfl<;>rfl
   have hrun:∀x,cand[n]?=some x->(Instr.next (.pointer (some ⟨q.blk,0,none⟩)) false ty).run P w=(match x with
    |some e=>(do setObj q.blk (.mapIter (some p.blk) since' (seen'.push e.born) c);pure (.tuple #[.bool true,e.key,e.val]):Sem Value)
    |none=>pure (.tuple #[.bool false])).run P w1:=fun x hx=>by
    simp only[Instr.next,Sem.run_bind,hget1 w rfl,Result.andThen_ok,hget2,if_neg hnone,<-hleft,hnew,hold,Array.append_empty,<-hcand,hch,hx];cases x<;>rfl
   have hnq:=hn;rw[hcand]at hn;by_cases e:left.isEmpty=true
   ·rw[if_pos e]at hn hcand
    have hl0:left= #[]:=by simpa using e
    rw[hl0]at hn hcand;simp at hn;subst hn;refine⟨_,w1, .tuple [.bool false],h,by rw[hrun none (by rw[hcand];simp)];rfl,hr1,by simp only[VR];exact⟨[.bool false],rfl,by simp[VRs,VR]⟩,h3 fun x hx=>?_⟩;obtain⟨en,he1,he2⟩:=m2 x hx;rw[<-he2,<-hseen];have:en∉left:=by rw[hl0];simp
    rw[hleft,Jk]at this;have h4:en∈entries:=by simpa using he1
    simpa[h4]using this
   ·rw[if_neg e]at hn hcand
    simp only[Jm,Jn]at hn hcand;have hx:cand[n]?=some (some left[n]):=by rw[hcand];simp[hn]
    have hmem:left[n]∈left:=Array.getElem_mem hn;obtain⟨en,hen⟩:∃en,en=left[n]:=⟨_,rfl⟩
    rw[<-hen]at hmem hx;rw[hleft,Jk]at hmem;obtain⟨k,v,a1,a2,a3⟩:=m1 en (by simpa using hmem.1);have hns:en.born∉seen:=by rw[<-hseen];simpa using hmem.2
    refine⟨_,_, .tuple [.bool true,k,v],_,by rw[hrun (some en) hx];simp only[Sem.run_bind,setObj,Sem.run,hh1,o1];rfl,?_,?_,h2 _ k v a1 hns⟩
    ·have:=hr1.putO hk' hq rfl (b':=⟨[.iterO m since' (seen++[en.born]) c],2⟩) rfl (o:= .mapIter (some p.blk) since' seen' last') (by rw[hh1];exact o1) (fun _ _ _ h=>by cases h) (o':= .mapIter (some p.blk) since' (seen'.push en.born) c) ⟨⟨p,hp,rfl⟩,rfl,by rw[Jh,hseen],rfl⟩
     rw[hh1]at this;exact this
    ·simp only[VR]
     exact⟨[.bool true,en.key,en.val],rfl,by simp only[VRs,VR];exact⟨_,_,rfl,rfl,_,_,rfl,a2,_,_,rfl,a3,rfl⟩⟩
 |_=>exact(show False from o2).elim
theorem qfm{P:Program}{wz w:World}{fi:PMap}{h:AHeap}{n:FrameK}{s:Slots}{a:Act}(o:Oper){K:AVal->AHeap->Prop}(he:eop P wz h s o.op K)(hr:HRel wz fi h w)(hs:SRel fi n s a)
 {next:Act->World->Prop} {Q:Exit->Act->World->Prop} (hn:∀Ps x h' v w',fi.le Ps->HRel wz Ps h' w'->VR Ps x v->K x h'->next (a.put o.dst v) w'):o.wp P a w next Q:=by
 have plain:(pop P wz h s o.op).pre/\K (pop P wz h s o.op).val h->o.wp P a w next Q:=fun⟨h1,h2⟩=>by
  obtain⟨r,e1,e2⟩:=qgK o h1 hr hs;exact XG (e1 w (Same.refl w)) (hn fi _ h r w fi.le_refl hr e2 h2)
 obtain⟨dst,op,type,pos,after,guard⟩:=o;cases op<;>simp only[eop]at he<;>first
  |exact plain he
  |skip
 case alloc e=>
  split at he<;>first|exact he.elim|skip
  rename_i z hz
  obtain⟨k,hk,hφ,hkt⟩:=hr.freshN;obtain⟨e1,e2⟩:=hr.alloc k hk hφ (z.cells.toList.map qG) z.cells e 0 0 (by rw[Jo,Jp];exact WM fi z.cells.toList) qbt (fun t ht=>by rw[hkt]at ht;cases ht);refine XG (v:= .pointer (some ⟨w.heap.size,0,none⟩)) (w':=w.alloc (.cells z.cells e)) ?_ (hn _ _ _ _ _ e1 e2 (qjP _ _ _) (he k hk));simp[execOp,Instr.alloc,qce hz,newVar,newRow]
 case box e x=>
  obtain⟨hl,he⟩:=he;obtain⟨k,hk,hφ,hkt⟩:=hr.freshN;have hx:=qeD (hs.ev x) hl;have hlen:=XF hx;obtain⟨e1,e2⟩:=hr.alloc k hk hφ (ev s x).cells (a.eval x).cells e 0 0 (by rw[<-hlen,Jp];exact hx) qbt (fun t ht=>by rw[hkt]at ht;cases ht);refine XG (v:= .pointer (some ⟨w.heap.size,0,none⟩)) (w':=w.alloc (.cells (a.eval x).cells e)) ?_ (hn _ _ _ _ _ e1 e2 (qjP _ _ _) (he k hk));simp[execOp,Instr.box,newVar,newRow]
 case buildSlice t m parts=>
  split at he<;>first|exact he.elim|skip
  rename_i cs hb
  unfold qaI at hb;split at hb<;>first|(cases hb;done)|skip
  rename_i e ht
  split at hb<;>first|(cases hb;done)|skip
  rename_i es z hes hz
  split at hb<;>first|(cases hb;done)|skip
  rename_i hc
  obtain⟨c1,c2,c3⟩:=hc;have hzs:VRs fi (z.cells.toList.map qG) z.cells.toList:=WM fi _;obtain⟨r,f1,f2⟩:=qga (fi:=fi) (fun i=>some (i*es,es)) (vs:=(parts.map fun(i,x)=>(i,a.eval x)).toList) (us:=(Jd (m*es)).map (z.cells[· %z.cells.size]!)) (by simpa using hs.evP parts.toList) (qim hzs (by omega) (m*es)) hb;have hlen:=XF f2;simp only[KO]at hlen;have hcl:cs.length=m*es:=by rw[qdK _ hb];simp[Ws]
  obtain⟨k,hk,hφ,hkt⟩:=hr.freshN;obtain⟨e1,e2⟩:=hr.alloc k hk hφ cs r e 0 0 (by rw[<-hlen,<-KO,Jp];exact f2) qbt (fun t ht=>by rw[hkt]at ht;cases ht);refine XG (v:= .slice (some ⟨w.heap.size,0,none⟩) m m) (w':=w.alloc (.cells r e)) ?_ (hn _ _ _ _ _ e1 e2 ?_ (he k hk))
  ·have hbig:¬(m*es>2^24):=by omega
   have hb':¬(16777216<m*es):=by omega
   by_cases hz0:m*es=0
   ·have hr0:r= #[]:=Array.eq_empty_of_size_eq_zero (by omega)
    have harr:((Jd (m*es)).map (z.cells[· %z.cells.size]!))= #[]:=by rw[hz0];simp
    rw[harr]at f1;simp at f1;simp[execOp,Instr.buildSlice,Qa ht,Zk hes,hz0,Array.range_zero',f1,newRow]
   ·simp[execOp,Instr.buildSlice,Qa ht,Zk hes,hz0,hb',qce hz]
    simp at f1;simp[f1,newRow]
  ·simp only[VR]
   exact⟨_,rfl,fun _=>by simp[Xi,PMap.upd]⟩
 case store t x v=>
  unfold qme at he;split at he<;>first|exact he.elim|skip
  rename_i k o' hx
  split at he<;>first|exact he.elim|skip
  rename_i b m hb hm
  obtain⟨⟨g1,g2,g3,g4,g5⟩,hK⟩:=he;have hx':=hs.ev x;rw[hx]at hx';simp only[VR]at hx';obtain⟨ad,ha,hx'⟩:=hx';obtain⟨p,hp,_,_⟩:=hr.own k b hb;simp only[Xi,hp,KJ,Option.some.injEq]at ha;subst ha;have hv:=qeD (hs.ev v) g1;have hlen:=XF hv;simp only[KO]at hlen;obtain⟨w',f1,f2⟩:=qgO (P:=P) hr hb hp hv g5 g3 g4;refine qir (w':=w') ?_ (hn fi _ _ _ _ fi.le_refl f2 (Yu fi) hK);have hsz:¬(a.eval v).cells.size≠m:=by omega
  simp[execOp,hx',Instr.storeAt,Instr.sureAddr,storeVar,Zk hm,f1];omega
 case makeSlice t m c=>
  unfold qro at he;split at he<;>first|exact he.elim|skip
  rename_i e len cap ht hlen hcap
  split at he<;>first|exact he.elim|skip
  rename_i es by' z hes hby hz
  obtain⟨⟨g1,g2,g3,g4,g5,g6⟩,he⟩:=he;have i1:∃k,a.eval m= .int k len:=by
   have:=hs.ev m;revert hlen this;cases ev s m<;>simp[qsw,VR];intro e1 e2;subst e1;exact⟨_,e2⟩
  have i2:∃k,a.eval c= .int k cap:=by
   have:=hs.ev c;revert hcap this;cases ev s c<;>simp[qsw,VR];intro e1 e2;subst e1;exact⟨_,e2⟩
  obtain⟨k1,i1⟩:=i1;obtain⟨k2,i2⟩:=i2;simp only[ZH,Kc]at hes;obtain⟨ii,hi,hes⟩:=hes;simp only[qdO,hi,KJ,Option.some.injEq]at hby;simp only[Ua,hi,KP]at hz;subst hby;have hmake:=run_make (P:=P) w t e ii z ht hi hz k1 k2 len cap g1 g2 g3 g4;rw[hes]at hmake;have hzs:VRs fi (z.cells.toList.map qG) z.cells.toList:=WM fi _;have hrep:=qim hzs (by omega) (cap.toNat*es);obtain⟨k,hk,hφ,hkt⟩:=hr.freshN;obtain⟨e1,e2⟩:=hr.alloc k hk hφ (Ws (z.cells.toList.map qG) (cap.toNat*es)) (madeCells z.cells (cap.toNat*es)) e 0 0 (by
   have hl:=XF hrep;rw[<-hl];unfold madeCells;rw[Jp];exact hrep) qbt (fun t ht=>by rw[hkt]at ht;cases ht)
  refine XG (v:= .slice (some ⟨w.heap.size,0,none⟩) len.toNat cap.toNat) (w':=w.alloc (.cells (madeCells z.cells (cap.toNat*es)) e)) ?_ (hn _ _ _ _ _ e1 e2 ?_ (he k hk))
  ·simp only[execOp,i1,i2]
   exact Zc hmake
  ·simp only[VR]
   exact⟨_,rfl,fun _=>by simp[Xi,PMap.upd]⟩
 case convert src dst' x=>
  split at he
  ·rename_i b hb
   split at he
   ·rename_i hc
    obtain⟨g1,he⟩:=he;unfold Zy at hc;split at hc<;>first|(cases hc;done)|skip
    rename_i e h1 h2
    split at hc<;>first|(cases hc;done)|skip
    rename_i h3
    have hx:=hs.ev x;rw[hb]at hx;simp only[VR]at hx;obtain⟨k,hk,hφ,hkt⟩:=hr.freshN;have hcap:b.length<=grownCap w b.length 0 e:=by
     simp only[grownCap,Question.cut];omega
    have hrun:=run_bytes_of_string (P:=P) w src dst' e ⟨⟨b⟩⟩ h1 h2 h3;rw[qld]at hrun;generalize hG:grownCap w b.length 0 e=G at*
    have hrow:(bytesRow ⟨⟨b⟩⟩ G).toList=(b.map fun c=>Value.int .u8 c.toNat)++List.replicate (G-b.length) (.int .u8 0):=by
     simp[bytesRow,qld]
    have hsize:(bytesRow ⟨⟨b⟩⟩ G).size=G:=by
     rw[<-KO,hrow];simp;omega
    rw[hsize]at hrun;have hcells:(byteCells b).length=b.length:=byteCells_length b;obtain⟨e1,e2⟩:=hr.drew.alloc k hk hφ (byteCells b) (bytesRow ⟨⟨b⟩⟩ G) e G (G+1) (by
     rw[hcells,hrow,List.take_append_of_le_length (by simp)];rw[List.take_of_length_le (by simp)];exact qeE fi b) (fun i h1 h2=>by rw[hsize];exact h1) (fun t ht=>by rw[hkt]at ht;cases ht)
    refine XG (v:= .slice (some ⟨w.heap.size,0,none⟩) b.length G) (w':=w.drew.alloc (.cells (bytesRow ⟨⟨b⟩⟩ G) e (G,G+1))) ?_ (hn _ _ _ _ _ e1 e2 ?_ (he k hk))
    ·simp only[execOp,hx]
     exact Zc hrun
    ·simp only[VR]
     exact⟨k,_,G,⟨w.heap.size,0,none⟩,rfl,PMap.upd_same _ _ _,rfl,hcap,fun _=>⟨rfl,by simp[hsize]⟩⟩
   ·exact plain he
  ·rename_i k o m c hx
   split at he
   ·rename_i hc
    obtain⟨g1,he⟩:=he;obtain⟨g0,g1⟩:=g1;split at g1<;>first|exact g1.elim|skip
    rename_i b hb
    simp only[qbO,Ky,beq_iff_eq]at hc;obtain⟨rfl,hc⟩:=hc;split at hc<;>first|(cases hc;done)|skip
    rename_i e h1
    split at hc<;>first|(cases hc;done)|skip
    rename_i h2
    have hv:=hs.ev x;rw[hx]at hv;obtain⟨ad,cap,hval,_⟩:=ZR hv;obtain⟨q,hq,_,_⟩:=hr.own k b hb;obtain⟨w',f1,f2⟩:=hr.mark (P:=P) hb hq g1 ad (qpJ hv hval hq g0);refine XG (v:=a.eval x) (w':=w') ?_ (hn fi _ _ _ _ fi.le_refl f2 hv he);have hcv:(convert src src (.slice (some ad) m cap)).run P w= .ok (.slice (some ad) m cap) w':=by
     simp[convert,Qa h1,Qa h2,f1]
    simp only[execOp];rw[hval];exact Zc hcv
   ·exact plain he
  ·exact plain he
 case call c=>
  obtain⟨callee,args,ats⟩:=c;have hv:=hs.evs args.toList;have ea:args.map a.eval=(args.toList.map a.eval).toArray:=map_toArray _ _;have run:∀(b:Builtin) (r:Value) (w':World),callee= .builtin b->(builtin b ats type (args.map fun| .const _=>true|_=>false) (args.map a.eval)).run P w= .ok (.value r) w'->
   (execOp a.eval ⟨dst, .call ⟨callee,args,ats⟩,type,pos,after,guard⟩).run P w= .ok (.value r) w':=by
   intro b r w' hb hr';subst hb;simp only[execOp,resolve,Sem.run_bind,Sem.run_pure,Result.andThen_ok,invoke];exact hr'
  split at he
  ·rename_i hb
   simp only at hb he;split at he<;>first|exact he.elim|skip
   rename_i sa xa hsx
   rw[hsx]at hv;simp only[VRs]at hv;obtain⟨sv,_,hargs,hsv,xv,_,rfl,hxv,rfl⟩:=hv;have app:∀(r:Value) (w':World),(Builtin.append_ ats type #[sv,xv]).run P w= .ok r w'->(execOp a.eval ⟨dst, .call ⟨callee,args,ats⟩,type,pos,after,guard⟩).run P w= .ok (.value r) w':=fun r w' hr'=>
    run .append r w' hb (by rw[ea,hargs];exact Zc hr')
   unfold qeu at he;split at he<;>first|exact he.elim|skip
   rename_i t u ht0 hu0
   split at he<;>first|exact he.elim|skip
   rename_i e d ht hu
   obtain⟨hd,he⟩:=he;split at he<;>first|exact he.elim|skip
   rename_i es by' z m hes hby hz hm
   obtain⟨⟨c1,c2⟩,c3,he⟩:=he;simp only[ZH,Kc]at hes;obtain⟨ii,hi,hes⟩:=hes;simp only[qdO,hi,KJ,Option.some.injEq]at hby;simp only[Ua,hi,KP]at hz;obtain⟨news,n1,n2,n3,n4⟩:=qgE (P:=P) hm (KM _) c3 hr hxv c1;have hlen:=qpY (P:=P) hm hxv w;have hsame:∀(ad:Addr) (u:Value),w.cell? ad=some u->w.drew.cell? ad=some u:=fun _ _ h=>h;have hgc:∀need old,need<4611686018427387904->need<=grownCap w need old e:=fun need old _=>by
    simp only[grownCap,Question.cut];omega
   have newgood:∀(need old:Nat) (xs:List AVal) (vs:List Value),VRs fi xs vs->need<4611686018427387904->vs.length=need*es->(∀k,h k=none->(e<4096->UD k=some e)->K (.slice (.own k) 0 need (.grow es)) (h.set k ⟨xs,0⟩))->
    (Builtin.append_ ats type #[sv,xv]).run P w= .ok (.slice (some ⟨w.heap.size,0,none⟩) need (grownCap w need old e)) (w.drew.alloc (.cells (vs.toArray++Builtin.zeroCells z.cells (grownCap w need old e-need)) e))->
    Oper.wp P ⟨dst, .call ⟨callee,args,ats⟩,type,pos,after,guard⟩ a w next Q:=by
    intro need old xs vs hxs hlt hvl hK happ;obtain⟨k,hk,hφ,hke,hkt⟩:=hr.freshE e;have hxl:=XF hxs;have hG:=hgc need old hlt;generalize grownCap w need old e=G at*
    obtain⟨e1,e2⟩:=hr.drew.alloc k hk hφ xs (vs.toArray++Builtin.zeroCells z.cells (G-need)) e 0 0 (by
     rw[<-hxl];simpa[List.take_append]using hxs) qbt hkt
    refine XG (app _ _ happ) (hn _ _ _ _ _ e1 e2 ?_ (hK k hk hke));simp only[VR];refine⟨k,_,G,⟨w.heap.size,0,none⟩,rfl,PMap.upd_same _ _ _,rfl,hG,fun _=>⟨rfl,?_⟩⟩;simp only[Jl,KD,size_zeroCells,c2,hvl];rw[Jq,<-KL];congr 1;omega
   split at he
   ·simp only[VR]at hsv
    subst hsv;by_cases hm0:m=0
    ·subst hm0
     have hK:=he.1 rfl;refine XG (app (.slice none 0 0) w ?_) (hn fi _ _ _ _ fi.le_refl hr (by simp only[VR]) hK);have hd':(∀k:IntKind,¬d= .int k):=hd;have hf0:news=[]:=Kg (by omega);have hnw:=n1 w (fun _ _ h=>h);rw[<-hes,hf0]at hnw;simp only[Builtin.append_];simp[ht0,hu0,Qa ht,Qa hu,sizeOf,typeInfo,hi,hlen,hnw]
    ·obtain⟨⟨b1,b2⟩,hK⟩:=he.2 hm0
     refine newgood m 0 _ news n2 b2 n3 hK ?_;have:=qbn (P:=P) w ats t u type e ht0 hu0 ii z d ht hu hd hi hz (.slice none 0 0) xv none 0 0 m [] news rfl hlen (by simp[Builtin.firstCells]) (by rw[hes];exact n1 _ hsame) (by omega) (by rw[hby];simpa using b1) (by omega);simpa using this
   ·rename_i l o len g
    obtain⟨rfl,he⟩:=he;split at he<;>first|exact he.elim|skip
    rename_i k
    split at he<;>first|exact he.elim|skip
    rename_i b hb
    obtain⟨⟨b1,b2,b3,b4,b5,b6⟩,hK⟩:=he;simp only[VR]at hsv;obtain⟨k0,p,c,ad,hk0,hp,rfl,hle,hc⟩:=hsv;cases hk0;obtain⟨k',hk',hφ',hty'⟩:∃k',h k'=none/\fi k'=none/\UD k'=if o=0 then UD k else none:=by
     split
     ·exact hr.freshT k
     ·exact hr.freshN
    have hkt':o=0->UD k=some e->UD k'=some e:=fun h0 h1=>by rw[hty',if_pos h0,h1]
    by_cases hroom:len+m<=c
    ·obtain⟨q,hq,_,ok⟩:=hr.own k b hb
     have hqp:q=p:=by rw[hp]at hq;exact(Option.some.inj hq).symm
     subst hqp;obtain⟨cs,_,_,_,_,hrow2,hrow3,_⟩:=ok.row (by omega);by_cases hc0:c=0
     ·subst hc0
      obtain rfl:len=0:=by omega
      obtain rfl:m=0:=by omega
      have hnews:news=[]:=Kg (by omega);obtain⟨w',f1,f2,f3⟩:=qiW (P:=P) hr hb hp (o:=o) (xs:=Zu wz h g 0 xa) (vs:=[]) (by rw[hnews]at n2;exact n2) b4 (by omega) (by rw[n4];omega) b6 k' hk' hφ' hty';have hw:w'=w:=by
       simp only[storeCells,Sem.run_pure,Result.ok.injEq,Kb]at f1;exact f1.symm
      subst hw;refine XG (app (.slice (some ad) 0 0) w' ?_) (hn _ _ _ _ _ f2 f3 ?_ (hK k' hk' hkt'))
      ·have:=qat (P:=P) w' w' ats t u type e ht0 hu0 ii d ht hu hd hi ad 0 0 0 xv [] hlen (by rw[hes,<-hnews];exact n1 _ (fun _ _ h=>h)) (by omega) (by simp[storeCells])
       simpa using this
      ·simp only[VR]
       exact⟨k',_,0,ad,rfl,PMap.upd_same _ _ _,rfl,by omega,fun hne=>absurd rfl hne⟩
     ·obtain⟨g1,g2⟩:=hc hc0
      have hfit:b.cells.length+(Zu wz h g m xa).length<=q.room:=by
       rw[n4,<-b1,<-g2,Kw,<-KL];exact Nat.add_le_add_left (K9 _ hroom) _
      obtain⟨w',f1,f2,f3⟩:=qiW (P:=P) hr hb hp (o:=o) n2 b4 (by omega) hfit b6 k' hk' hφ' hty';refine XG (app (.slice (some ad) (len+m) c) w' ?_) (hn _ _ _ _ _ f2 f3 ?_ (hK k' hk' hkt'))
      ·refine qat (P:=P) w w' ats t u type e ht0 hu0 ii d ht hu hd hi ad len c m xv news hlen (by rw[hes];exact n1 _ (fun _ _ h=>h)) hroom ?_
       rw[hes];have:ad.add (len*g)=⟨q.blk,q.off+b.cells.length,none⟩:=by
        have e0:Xi fi (.own k) o=some ad:=by simp[Xi,hp,g1]
        have e9:=ZW (j:=len*g) e0;rw[b1]at e9;simp only[Xi,hp,KJ,Option.some.injEq]at e9;exact e9.symm
       rw[this];exact f1
      ·simp only[VR]
       refine⟨k',_,c,ad,rfl,PMap.upd_same _ _ _,rfl,hroom,fun _=>⟨by simpa using g1,?_⟩⟩;simp only;omega
    ·obtain⟨q,hq,_,ok⟩:=hr.own k b hb
     have hqp:q=p:=by rw[hp]at hq;exact(Option.some.inj hq).symm
     subst hqp;obtain⟨cs,_,_,_,hrow1,hrow2,hrow3,hrow4,hrow5,_⟩:=ok.row (by omega);have holds:∃olds:List Value,olds.length=len*g/\VRs fi (b.cells.drop o) olds/\(Builtin.firstCells g len (.slice (some ad) len c)).run P w.drew= .ok olds.toArray w.drew:=by
      refine⟨((cs.toList.drop q.off).take b.cells.length).drop o,by simp;omega,qgt o hrow5,?_⟩;by_cases hl0:len=0
      ·subst hl0
       have e9:((cs.toList.drop q.off).take b.cells.length).drop o=[]:=Kg (by simp;omega);rw[e9];simp[Builtin.firstCells,loadCells,loadCellsFrom]
      ·obtain⟨g1,g2⟩:=hc (by omega)
       subst g1;refine run_firstCells_some (P:=P) w.drew g len _ len c _ (by simp;omega) ?_;intro j v hj;have hj1:j<b.cells.length-o:=by
        rcases KU j (b.cells.length-o)with hx|hx
        ·exact hx
        ·rw[Kr (by simp;omega)]at hj;cases hj
       rw[Kq,K3,if_pos (by omega),Kq]at hj;have e8:(⟨q.blk,q.off+o,none⟩:Addr).add j=⟨q.blk,q.off+o+j,none⟩:=by
        unfold Addr.add;by_cases hi:j=0<;>simp[hi]
       rw[e8];show w.cell? _=_
       simp only[World.cell?,hrow1];simp only[Option.isSome_none,KW,if_false];rw[<-hj];simp[Kw]
     obtain⟨olds,ho1,ho2,ho3⟩:=holds;obtain⟨k2,hk2,hφ2,hke2,hkt2⟩:=hr.freshE e;have hxs:=qao ho2 n2;have hG:=hgc (len+m) c b3;have happ:=qbn (P:=P) w ats t u type e ht0 hu0 ii z d ht hu hd hi hz (.slice (some ad) len c) xv (some ad) len c m olds news rfl hlen (by rw[hes];exact ho3) (by rw[hes];exact n1 _ hsame) (by omega) (by rw[hby];exact b2) b3;generalize grownCap w (len+m) c e=G at*
     have hkk:k2≠k:=fun e=>by subst e;rw[hb]at hk2;cases hk2
     have hrd:HRel wz fi (h.del k) w.drew:=hr.drew.forget fun j b' hj=>by
      by_cases e9:j=k
      ·subst e9;simp[AHeap.del]at hj
      ·simpa[AHeap.del,e9]using hj
     have hxl:=XF hxs;obtain⟨e1,e2⟩:=hrd.alloc k2 (by simp[AHeap.del,hk2]) hφ2 (b.cells.drop o++Zu wz h g m xa) ((olds++news).toArray++Builtin.zeroCells z.cells (G-(len+m))) e 0 0 (by
      rw[<-hxl,Array.toList_append];simp only[List.take_left];exact hxs) qbt hkt2
     have e3:HRel wz (fi.upd k2 ⟨w.drew.heap.size,0,((olds++news).toArray++Builtin.zeroCells z.cells (G-(len+m))).size⟩) ((h.del k).set k2 ⟨b.cells.drop o++Zu wz h g m xa,b.frz-o⟩) (w.drew.alloc (.cells ((olds++news).toArray++Builtin.zeroCells z.cells (G-(len+m))) e)):=by
      refine⟨e2.below,fun j b' hj=>?_,?_,e2.lt,e2.fin,e2.typ⟩
      ·by_cases e9:j=k2
       ·subst e9
        rw[AHeap.set_same]at hj;simp only[Option.some.injEq]at hj;subst hj;obtain⟨p9,hp9,hp8,ok9⟩:=e2.own j _ (AHeap.set_same _ _ _);refine⟨p9,hp9,hp8,?_⟩;obtain⟨cs9,x1,x2,x3,y1,y2,y3,y4,y5,y6⟩:=ok9.row (Jr _);refine .inl ⟨cs9,x1,x2,x3,y1,y2,y3,?_,y5,y6.1,fun i i1 i2=>?_⟩
        ·simp only[Jc,K6]
         omega
        ·have:=y6.2 i i1 i2
         simp only at this|-
         omega
       ·rw[AHeap.set_ne _ _ e9]at hj
        exact e2.own j b' (by rw[AHeap.set_ne _ _ e9];exact hj)
      ·intro j j' b1 b2 p1 p2 g1 g2
       have conv:∀i bb,((h.del k).set k2 ⟨b.cells.drop o++Zu wz h g m xa,b.frz-o⟩:AHeap) i=some bb->∃bb',((h.del k).set k2 ⟨b.cells.drop o++Zu wz h g m xa,0⟩:AHeap) i=some bb':=fun i bb hi=>by
        by_cases e9:i=k2
        ·subst e9;exact⟨_,AHeap.set_same _ _ _⟩
        ·rw[AHeap.set_ne _ _ e9]at hi|-;exact⟨bb,hi⟩
       obtain⟨b1',g1'⟩:=conv j b1 g1
       obtain⟨b2',g2'⟩:=conv j' b2 g2
       exact e2.inj j j' b1' b2' p1 p2 g1' g2'
     refine XG (app _ _ happ) (hn _ _ _ _ _ e1 e3 ?_ (hK k2 hk2 fun _ h1=>hke2 (qpT h1)));simp only[VR];refine⟨k2,_,G,⟨w.heap.size,0,none⟩,rfl,PMap.upd_same _ _ _,rfl,hG,fun _=>⟨rfl,?_⟩⟩;simp only[Jl,KD,size_zeroCells,c2,Jc,ho1,n3];rw[Jq,<-KL,<-KL];congr 1;omega
   ·rename_i l o len c
    simp only[VR]at hsv;obtain⟨ad,rfl,hadd⟩:=hsv;by_cases hroom:len+m<=c
    ·rcases he.1 hroom with⟨rfl,hK⟩|⟨hm0,hK⟩
     ·refine XG (app (.slice (some ad) len c) w ?_) (hn fi _ _ _ _ fi.le_refl hr (by simp only[VR];exact⟨ad,rfl,hadd⟩) hK)
      have hnews:news=[]:=Kg (by omega);have:=qat (P:=P) w w ats t u type e ht0 hu0 ii d ht hu hd hi ad len c 0 xv [] hlen (by rw[hes,<-hnews];exact n1 _ (fun _ _ h=>h)) hroom (by simp[storeCells]);simpa using this
     ·split at hK<;>first|exact hK.elim|skip
      rename_i k
      split at hK<;>first|exact hK.elim|skip
      rename_i b hb
      obtain⟨⟨b1,b2,b3⟩,hK⟩:=hK;obtain⟨q,hq,_,ok⟩:=hr.own k b hb;have hloc:=hadd (.inl (by omega));have hoa:=ZW (j:=len*es) hloc;simp only[Xi,hq,KJ,Option.some.injEq]at hoa hloc;obtain⟨w',f1,f2⟩:=qgO (P:=P) hr hb hq (o:=o+len*es) n2 b3 (by rw[n4];omega) b2;refine XG (app (.slice (some ad) (len+m) c) w' ?_) (hn fi _ _ _ _ fi.le_refl f2 ?_ hK)
      ·refine qat (P:=P) w w' ats t u type e ht0 hu0 ii d ht hu hd hi ad len c m xv news hlen (by rw[hes];exact n1 _ (fun _ _ h=>h)) hroom ?_
       rw[hes,<-hoa];exact f1
      ·simp only[VR]
       exact⟨ad,rfl,fun _=>by simp[Xi,hq,<-hloc]⟩
    ·obtain⟨⟨b1,b2,b3⟩,hK⟩:=he.2 (by omega)
     obtain⟨olds,ho1,ho2,_,ho4⟩:=qaU (P:=P) (l:=l) (o:=o) (n:=len*es) (a:=ad) hr (fun hne=>hadd (.inr (by intro e9;apply hne;rw[e9,K8]))) b1;have hxs:=qao ho2 n2;have happ:=qbn (P:=P) w ats t u type e ht0 hu0 ii z d ht hu hd hi hz (.slice (some ad) len c) xv (some ad) len c m olds news rfl hlen
      (by rw[hes];exact run_firstCells_some (P:=P) w.drew es len ad len c olds ho1 (fun j v hj=>ho4 j v hj)) (by rw[hes];exact n1 _ hsame) (by omega) (by rw[hby];exact b2) b3
     exact newgood (len+m) c _ (olds++news) hxs b3 (by rw[Jc,ho1,n3,<-KL]) hK happ
   ·exact he.elim
  ·rename_i hb
   simp only at hb he;split at he<;>first|exact he.elim|skip
   rename_i da xa hsx
   rw[hsx]at hv;simp only[VRs]at hv;obtain⟨dv,_,hargs,hdv,xv,_,rfl,hxv,rfl⟩:=hv;have app:∀(r:Value) (w':World),(Builtin.copy_ ats type #[dv,xv]).run P w= .ok r w'->(execOp a.eval ⟨dst, .call ⟨callee,args,ats⟩,type,pos,after,guard⟩).run P w= .ok (.value r) w':=fun r w' hr'=>
    run .copy r w' hb (by rw[ea,hargs];exact Zc hr')
   unfold eCopy at he;split at he<;>first|exact he.elim|skip
   rename_i t ht0
   split at he<;>first|exact he.elim|skip
   rename_i e ht
   split at he<;>first|exact he.elim|skip
   rename_i es m hes hm
   obtain⟨c1,he⟩:=he;have hlen:=qpY (P:=P) hm hxv w;have copied:∀(base:Option Addr) (dLen dCap k:Nat) (news:List Value) (w':World),dv= .slice base dLen dCap->Nat.min m dLen=k->(Builtin.firstCells es k xv).run P w= .ok news.toArray w->
    (base=none/\w'=w\/∃ad,base=some ad/\(storeCells ad news).run P w= .ok () w')->(Builtin.copy_ ats type #[dv,xv]).run P w= .ok (.int .i64 (k:Nat)) w':=by
    intro base dLen dCap k news w' hd hk hf hst;subst hd;rcases hst with⟨rfl,rfl⟩|⟨ad,rfl,hst⟩
    ·simp[Builtin.copy_,ht0,Qa ht,hlen,Zk hes,hk,hf,goInt]
    ·simp[Builtin.copy_,ht0,Qa ht,hlen,Zk hes,hk,hf,hst,goInt]
   split at he<;>first|exact he.elim|skip
   ·obtain⟨c3,hK⟩:=he
    simp only[VR]at hdv;subst hdv;obtain⟨news,n1,n2,n3,n4⟩:=qgE (P:=P) hm (Jr m) c3 hr hxv c1;refine XG (app _ w (copied none 0 0 0 news w rfl (by simp[Nat.min]) (n1 w (fun _ _ h=>h)) (.inl ⟨rfl,rfl⟩))) (hn fi _ _ _ _ fi.le_refl hr (by simp[VR]) hK)
   ·rename_i l o len c
    obtain⟨c3,he0,he1⟩:=he;obtain⟨ad,cap,rfl,ha⟩:=ZR hdv;obtain⟨news,n1,n2,n3,n4⟩:=qgE (P:=P) hm (Nat.min_le_left m len) c3 hr hxv c1;by_cases hz:min m len=0
    ·have hnews:news=[]:=Kg (by rw[n3,hz,K8])
     refine XG (app _ w (copied (some ad) len cap 0 [] w rfl hz (by rw[<-hnews];have:=n1 w (fun _ _ h=>h);rw[hz]at this;exact this) (.inr ⟨ad,rfl,by simp[storeCells]⟩))) (hn fi _ _ _ _ fi.le_refl hr (by simp[VR]) (he0 hz))
    ·have hK:=he1 hz
     split at hK<;>first|exact hK.elim|skip
     rename_i k
     split at hK<;>first|exact hK.elim|skip
     rename_i b hb
     obtain⟨⟨b1,b2,b3⟩,hK⟩:=hK;obtain⟨q,hq,_,ok⟩:=hr.own k b hb;have hloc:=ha (by omega);simp only[Xi,hq,KJ,Option.some.injEq]at hloc;obtain⟨w',f1,f2⟩:=qgO (P:=P) hr hb hq (o:=o) n2 b3 (by rw[n4];omega) b2;rw[hloc]at f1;exact XG (app _ w' (copied (some ad) len cap (min m len) news w' rfl rfl (n1 w (fun _ _ h=>h)) (.inr ⟨ad,rfl,f1⟩))) (hn fi _ _ _ _ fi.le_refl f2 (by simp[VR]) hK)
  ·rename_i hb
   simp only at hb he;split at he<;>first|exact he.elim|skip
   rename_i da xa hsx
   rw[hsx]at hv;simp only[VRs]at hv;obtain⟨dv,_,hargs,hdv,xv,_,rfl,hxv,rfl⟩:=hv;obtain⟨w',h',f1,f2,f3⟩:=qsF (ty:=type) he hr hdv hxv;exact XG (run .delete undef w' hb (by rw[ea,hargs];exact Zc f1)) (hn fi _ _ _ _ fi.le_refl f2 (Yu fi) f3)
  ·rename_i f hb
   simp only at hb he;subst hb;split at he<;>first|exact he.elim|skip
   rename_i fid cap hf
   have hfv:=hs.ev f;rw[hf]at hfv;simp only[VR]at hfv;obtain⟨vs,hfe,hcap⟩:=hfv;have hland:=he fi (args.toList.map a.eval++vs) w hr (qao hv hcap);refine qth (f:=fid) (vals:=(args.toList.map a.eval++vs).toArray) ?_ hland fun v w' ⟨Ps,x,h',e1,e2,e3,e4⟩=>hn Ps x h' v w' e1 e2 e3 e4;simp only[execOp,resolve,hfe,Deferred.ofValue,Sem.run_bind,Sem.run_pure,Result.andThen_ok,invoke];rw[ea];simp
  ·exact plain he
 case makeMap t r=>
  split at he<;>first|exact he.elim|skip
  obtain⟨k,hk,hφ,hkt⟩:=hr.freshN;obtain⟨e1,e2⟩:=hr.allocO k hk hφ hkt (ZK 0 []) (.map #[] 0) rfl ⟨rfl,rfl⟩;refine XG (v:= .map (some w.heap.size)) (w':=w.alloc (.map #[] 0)) ?_ (hn _ _ _ _ _ e1 e2 (by simp only[VR];exact⟨_,PMap.upd_same _ _ _,rfl⟩) (he k hk));simp[execOp,Instr.makeMap,newObj,Sem.run]
 case mapUpdate t m i v=>
  obtain⟨w',h',f1,f2,f3⟩:=qkt he hr (hs.ev m) (hs.ev i) (hs.ev v);exact qir (w':=w') (by simp[execOp,f1]) (hn fi _ _ _ _ fi.le_refl f2 (Yu fi) f3)
 case insert t m i v=>
  obtain⟨w',h',f1,f2,f3⟩:=qkt he hr (hs.ev m) (hs.ev i) (hs.ev v);exact qir (w':=w') (by simp[execOp,f1]) (hn fi _ _ _ _ fi.le_refl f2 (Yu fi) f3)
 case range t x=>
  unfold qjp at he;split at he<;>first|exact he.elim|skip
  rename_i kt et k ht hx
  split at he<;>first|exact he.elim|skip
  rename_i c es hc
  obtain⟨p,entries,hp,g1,g2⟩:=hr.mapAt hc;have hxv:=hs.ev x;rw[hx]at hxv;have hum:=qpL hp hxv;obtain⟨k',hk',hφ',hkt'⟩:=hr.freshN;obtain⟨e1,e2⟩:=hr.allocO k' hk' hφ' hkt' ⟨[.iterO k c [] c],2⟩ (.mapIter (some p.blk) c #[] c) rfl ⟨⟨p,hp,rfl⟩,rfl,rfl,rfl⟩;refine XG (v:= .pointer (some ⟨w.heap.size,0,none⟩)) (w':=w.alloc (.mapIter (some p.blk) c #[] c)) ?_ (hn _ _ _ _ _ e1 e2 (qjP _ _ _) (he k' hk'));have hget:(getObj p.blk).run P w= .ok (.map entries c) w:=by simp[getObj,Sem.run,g1]
  simp[execOp,Instr.range,hum,Qa ht,hget,newObj,Sem.run]
 case entry it=>
  obtain⟨v,x,f1,f2,f3⟩:=entry_ok (P:=P) he hr (hs.ev it);exact XG (by simp only[execOp];exact Zc f1) (hn fi _ _ _ _ fi.le_refl hr f2 f3)
 case next it str=>
  obtain⟨rfl,he⟩:=he;obtain⟨v,w',x,h',f1,f2,f3,f4⟩:=next_ok (ty:=type) he hr (hs.ev it);exact XG (by simp only[execOp];exact Zc f1) (hn fi _ _ _ _ fi.le_refl f2 f3 f4)
def qW:List Oper->Nat->Option Tmp
 |[],_=>none
 |o::_,0=>o.dst
 |_::r,j+1=>qW r j
theorem ZJ:∀(l:List Oper) (j:Nat),qW l j=(l[j]?).bind (·.dst)
 |[],j=>by simp[qW]
 |o::r,0=>by simp[qW]
 |o::r,j+1=>by simp[qW,ZJ r j]
def putD(s:Slots):Option Tmp->AVal->Slots
 |none,_=>s
 |some d,x=>s.put d x
def QY:AVal->Bool->Bool
 | .bool b,want=>b==want
 |_,_=>false
def Yw:AVal->Bool
 | .bool _=>true
 | .tuple []=>true
 |_=>false
def Qt(g:Bool)(v:AVal):AVal:=bif g then v else .tuple []
def XU(P:Program):Op->Bool
 | .alloc _=>false
 | .box _ _=>false
 | .buildSlice _ _ _=>false
 | .store _ _ _=>false
 | .makeSlice _ _ _=>false
 | .makeMap _ _=>false
 | .mapUpdate _ _ _ _=>false
 | .insert _ _ _ _=>false
 | .range _ _=>false
 | .next _ _=>false
 | .entry _=>false
 | .convert src dst _=> !Zy P src dst && !qbO P src dst
 | .call c=>match c.callee with
   | .builtin .append=>false
   | .builtin .copy=>false
   | .builtin .delete=>false
   | .builtin _=>true
   |_=>false
 |_=>true
theorem Uc{P:Program}{wz:World}{h:AHeap}{s:Slots}{op:Op}{K:AVal->AHeap->Prop}(hp:XU P op=true):eop P wz h s op K↔(pop P wz h s op).pre/\K (pop P wz h s op).val h:=by
 cases op<;>simp only[XU]at hp<;>first
  |(cases hp;done)
  |exact Js
  |skip
 case convert src dst x=>
  simp only[Ky,Ji]at hp;simp only[eop,hp.1,hp.2,KW,if_false];split<;>exact Js
 case call c=>
  obtain⟨callee,args,ts⟩:=c;cases callee with
  |value f=>simp at hp
  |invoke r m=>simp[eop]
  |builtin b=>cases b<;>first|(simp at hp;done)|exact Js
def QA(P:Program)(wz:World)(ops:List Oper):List Oper->Slots->AHeap->(Slots->AHeap->Prop)->Prop
 |[],s,h,K=>K s h
 |o::rest,s,h,K=>
  match o.guard with
  |none=>eop P wz h s o.op fun x h'=>QA P wz ops rest (putD s o.dst x) h' K
  |some (j,want)=>match qW ops j with
   |none=>QA P wz ops rest (putD s o.dst (.tuple [])) h K
   |some d=>Yw (s.get d)=true/\
    if XU P o.op=true then
     (QY (s.get d) want=true->(pop P wz h s o.op).pre)/\QA P wz ops rest (putD s o.dst (Qt (QY (s.get d) want) (pop P wz h s o.op).val)) h K
    else
     (QY (s.get d) want=true->eop P wz h s o.op fun x h'=>QA P wz ops rest (putD s o.dst x) h' K)/\
     (QY (s.get d) want=false->QA P wz ops rest (putD s o.dst (.tuple [])) h K)
def QD(n:Nat):List Oper->Bool
 |[]=>true
 |o::r=>(match o.dst with|some d=>decide (d<n)|none=>true) && QD n r
theorem SRel.putD{fi:PMap}{n:FrameK}{s:Slots}{a:Act}(h:SRel fi n s a){d:Option Tmp}(hd:(match d with|some d=>decide (d<n.sz)|none=>true)=true){x:AVal}{v:Value}(hv:VR fi x v):
 SRel fi n (putD s d x) (a.put d v):=by
 cases d with
 |none=>exact h
 |some d=>exact h.put d (by simpa using hd) hv
theorem qco{fi:PMap}{n:FrameK}{s:Slots}{a:Act}(hs:SRel fi n s a)(ops:List Oper)(j d:Nat)(hd:qW ops j=some d)(hn:d<n.sz)(hk:Yw (s.get d)=true)(want:Bool):
 (yielded ops.toArray a.tmps j==some want)=QY (s.get d) want:=by
 have hv:=hs.val d;have hdst:((ops.toArray[j]?).bind (·.dst))=some d:=by
  rw[<-hd,ZJ];simp
 have hget:a.tmps[d]?=some (a.tmps.getD d undef):=by
  have:d<a.tmps.size:=by rw[hs.size];exact hn
  simp[this]
 unfold yielded;rw[hdst];simp only[KP,hget];generalize a.tmps.getD d undef=v at hv;unfold Yw at hk;split at hk
 ·rename_i b hb
  rw[hb]at hv|-
  simp only[VR]at hv;subst hv;simp only[QY];cases b<;>cases want<;>rfl
 ·rename_i hb
  rw[hb]at hv|-
  simp only[VR,VRs]at hv;obtain⟨vs,rfl,rfl⟩:=hv;simp[QY]
 ·cases hk
theorem qgr{P:Program}{wz:World}(ops:List Oper)(n:FrameK)(hall:QD n ops=true):∀(l:List Oper) (i:Nat) (fi:PMap) (s:Slots) (h:AHeap) (a:Act) (w:World) (K:Slots->AHeap->Prop) (Q:Exit->Act->World->Prop),
 (∀j,l[j]?=ops[i+j]?)->QD n l=true->QA P wz ops l s h K->HRel wz fi h w->SRel fi n s a->
 (∀Ps s' h' a' w',fi.le Ps->HRel wz Ps h' w'->SRel Ps n s' a'->K s' h'->Q .normal a' w')->wpOps P ops.toArray Q (Jt i l.length) a w
 |[],i,fi,s,h,a,w,K,Q,_,_,ha,hr,hs,hq=>hq fi s h a w fi.le_refl hr hs ha
 |o::l,i,fi,s,h,a,w,K,Q,hl,hd,ha,hr,hs,hq=>by
  have ho:ops.toArray[i]?=some o:=by
   have:=hl 0;simp only[Kz,K7]at this;simp[<-this]
  simp only[QD,Ky]at hd;have hrest:∀j,l[j]?=ops[i+1+j]?:=fun j=>by
   have:=hl (j+1);simp only[KN]at this;rw[this];congr 1;omega
  have ih:=fun fi s h a w Q=>qgr (P:=P) (wz:=wz) ops n hall l (i+1) fi s h a w K Q hrest hd.2;have run:∀(K':AVal->AHeap->Prop),eop P wz h s o.op K'->(∀x h',K' x h'->QA P wz ops l (putD s o.dst x) h' K)->o.wp P a w (wpOps P ops.toArray Q (Jt (i+1) l.length)) Q:=fun K' he hk=>
   qfm o he hr hs fun Ps x h' v w' e1 e2 e3 e4=>ih Ps _ h' _ w' Q (hk x h' e4) e2 ((hs.mono e1).putD hd.1 e3) fun χ s' h'' a' w'' f1 f2 f3 f4=>hq χ s' h'' a' w'' (PMap.le_trans e1 f1) f2 f3 f4
  have skip:QA P wz ops l (putD s o.dst (.tuple [])) h K->wpOps P ops.toArray Q (Jt (i+1) l.length) (a.put o.dst undef) w:=fun hk=>
   ih fi _ h _ w Q hk hr (hs.putD hd.1 (Yu fi)) hq
  simp only[KY,List.range'_succ,wpOps,ho];simp only[QA]at ha;cases hg:o.guard with
  |none=>
   simp only[hg]at ha;have hw:Region.wanted o (yielded ops.toArray a.tmps)=true:=by simp[Region.wanted,hg]
   rw[if_pos hw];exact .inl (run _ ha fun _ _ hk=>hk)
  |some gw=>
   obtain⟨j,want⟩:=gw;simp only[hg]at ha;have hwanted:Region.wanted o (yielded ops.toArray a.tmps)=(yielded ops.toArray a.tmps j==some want):=by simp[Region.wanted,hg]
   cases hj:qW ops j with
   |none=>
    simp only[hj]at ha;have hn:(ops.toArray[j]?).bind (·.dst)=none:=by
     rw[<-hj,ZJ];simp
    have hw:Region.wanted o (yielded ops.toArray a.tmps)=false:=by
     rw[hwanted];simp only[yielded,hn];rfl
    rw[if_neg (by simp[hw])];exact skip ha
   |some d=>
    simp only[hj]at ha;obtain⟨hk,ha⟩:=ha;have hdn:d<n:=by
     have:∀(l:List Oper) (j d:Nat),QD n l=true->qW l j=some d->d<n:=by
      intro l;induction l with
      |nil=>intro j d _ h;simp[qW]at h
      |cons o r ih=>
       intro j d h1 h2;simp only[QD,Ky]at h1;cases j with
       |zero=>simp only[qW]at h2;rw[h2]at h1;simpa using h1.1
       |succ j=>exact ih j d h1.2 h2
     exact this ops j d hall hj
    have hgd:=qco hs ops j d hj hdn hk want;rw[hwanted,hgd];split at ha
    ·rename_i hp
     obtain⟨h1,h2⟩:=ha;cases hb:QY (s.get d) want with
     |true=>
      simp only[hb,Qt,cond_true]at h2;simp only[if_true];exact .inl (run (fun x h'=>x=(pop P wz h s o.op).val/\h'=h) ((Uc hp).2 ⟨h1 hb,rfl,rfl⟩) fun x h' ⟨e1,e2⟩=>by subst e1 e2;exact h2)
     |false=>
      simp only[hb,Qt,cond_false]at h2;simp only[KW,if_false];exact skip h2
    ·obtain⟨h1,h2⟩:=ha
     cases hb:QY (s.get d) want with
     |true=>
      simp only[if_true];exact .inl (run _ (h1 hb) fun _ _ hk=>hk)
     |false=>
      simp only[KW,if_false];exact skip (h2 hb)
def abrupt:Exit->Prop
 | .ret=>True
 | .panic _=>True
 |_=>False
def AQ(wz:World)(n:FrameK)(fi:PMap)(Q:Exit->Slots->AHeap->Prop)(e:Exit)(a':Act)(w':World):Prop:=
 (∃Ps s' h',fi.le Ps/\HRel wz Ps h' w'/\SRel Ps n s' a'/\Q e s' h')\/(abrupt e/\∃Ps,fi.le Ps/\n.G e Ps a' w')
theorem AQ.up{wz:World}{n:FrameK}{fi Ps:PMap}{Q:Exit->Slots->AHeap->Prop}{e:Exit}{a:Act}{w:World}(hl:fi.le Ps)(h:AQ wz n Ps Q e a w):AQ wz n fi Q e a w:=by
 rcases h with⟨χ,s,h,e1,rest⟩|⟨ha,χ,e1,hg⟩
 ·exact .inl ⟨χ,s,h,PMap.le_trans hl e1,rest⟩
 ·exact .inr ⟨ha,χ,PMap.le_trans hl e1,hg⟩
def Awp(P:Program)(wz:World)(n:FrameK)(c:Code)(Q:Exit->Slots->AHeap->Prop)(s:Slots)(h:AHeap):Prop:=
 ∀(fi:PMap) (a:Act) (w:World),HRel wz fi h w->SRel fi n s a->c.wp P (AQ wz n fi Q) a w
section
variable {P:Program} {wz:World} {n:FrameK} {s:Slots} {h:AHeap} {Q:Exit->Slots->AHeap->Prop}
theorem Awp.of0{c:Code}(h0:∀(fi:PMap) (a:Act) (w:World),HRel wz fi h w->SRel fi n s a->c.wp P (fun e a' w'=>∃Ps s' h',fi.le Ps/\HRel wz Ps h' w'/\SRel Ps n s' a'/\Q e s' h') a w):Awp P wz n c Q s h:=
 fun fi a w hr hs=>wp_mono (h0 fi a w hr hs) fun _ _ _ hq=> .inl hq
theorem Awp.mono{c:Code}{Q':Exit->Slots->AHeap->Prop}(hc:Awp P wz n c Q s h)(hq:∀e s h,Q e s h->Q' e s h):Awp P wz n c Q' s h:=
 fun fi a w hr hs=>wp_mono (hc fi a w hr hs) fun _ _ _ q=>q.imp (fun⟨Ps,s',h',e1,e2,e3,e4⟩=>⟨Ps,s',h',e1,e2,e3,hq _ _ _ e4⟩) id
theorem Awp.weaken{c:Code}{s':Slots}(hs':∀i,s'.get i=s.get i\/s'.get i= .dead)(hc:Awp P wz n c Q s' h):Awp P wz n c Q s h:=
 fun fi a w hr hs=>hc fi a w hr ⟨hs.size,hs.defers,fun i=>by
  rcases hs' i with e|e
  ·rw[e];exact hs.val i
  ·rw[e];simp[VR]⟩
theorem Awp.keep{c:Code}(L:List Nat)(hc:Awp P wz n c Q (s.keep L) h):Awp P wz n c Q s h:=
 hc.weaken fun i=>by
  rw[Slots.get_keep];split
  ·exact .inl rfl
  ·exact .inr rfl
theorem Awp.forget{c:Code}{h':AHeap}(hh:∀k b,h' k=some b->h k=some b)(hc:Awp P wz n c Q s h'):Awp P wz n c Q s h:=
 fun fi a w hr hs=>hc fi a w (hr.forget hh) hs
theorem qV(hq:Q .normal s h):Awp P wz n .skip Q s h:=fun fi _ _ hr hs=>wp_skip (.inl ⟨fi,s,h,fi.le_refl,hr,hs,hq⟩)
theorem qta{l:Nat}(hq:Q .normal s h):Awp P wz n (.label l) Q s h:=fun fi _ _ hr hs=>wp_label (.inl ⟨fi,s,h,fi.le_refl,hr,hs,hq⟩)
theorem QI{id:Nat}(hq:Q (.exit id) s h):Awp P wz n (.exit id) Q s h:=fun fi _ _ hr hs=>wp_exit (.inl ⟨fi,s,h,fi.le_refl,hr,hs,hq⟩)
theorem Qn(hq:Q .ret s h):Awp P wz n .ret Q s h:=fun fi _ _ hr hs=>wp_ret (.inl ⟨fi,s,h,fi.le_refl,hr,hs,hq⟩)
def qdh(K:Slots->AHeap->Prop)(Q:Exit->Slots->AHeap->Prop):Exit->Slots->AHeap->Prop
 | .normal,s,h=>K s h
 |e,s,h=>Q e s h
theorem qF{x y:Code}(hx:Awp P wz n x (qdh (Awp P wz n y Q) Q) s h):Awp P wz n (.seq x y) Q s h:=
 fun fi a w hr hs=>wp_seq (wp_mono (hx fi a w hr hs) fun e a' w' q=>by
  rcases q with⟨Ps,s',h',e1,e2,e3,e4⟩|q
  ·cases e<;>simp only[qdh]at e4<;>simp only[Exit.then]<;>first
    |exact .inl ⟨Ps,s',h',e1,e2,e3,e4⟩
    |exact wp_mono (e4 Ps a' w' e2 e3) fun _ _ _ q=>q.up e1
  ·cases e<;>simp only[Exit.then]<;>first
    |exact .inr q
    |exact q.1.elim)
theorem qM{c:Operand}{x y:Code}{b:Bool}(hc:ev s c= .bool b)(ht:b=true->Awp P wz n x Q s h)(hf:b=false->Awp P wz n y Q s h):Awp P wz n (.cond c x y) Q s h:=
 fun fi a w hr hs=>by
  have hv:=hs.ev c;rw[hc]at hv;simp only[VR]at hv;exact wp_cond_split hv (fun e=>ht e fi a w hr hs) (fun e=>hf e fi a w hr hs)
def qcn(id:Nat)(Q:Exit->Slots->AHeap->Prop):Exit->Slots->AHeap->Prop
 | .exit id',s,h=>if id'=id then Q .normal s h else Q (.exit id') s h
 |e,s,h=>Q e s h
theorem Qb{id:Nat}{c:Code}(hc:Awp P wz n c (qcn id Q) s h):Awp P wz n (.block id c) Q s h:=
 fun fi a w hr hs=>wp_block (wp_mono (hc fi a w hr hs) fun e a' w' q=>by
  rcases q with⟨Ps,s',h',e1,e2,e3,e4⟩|q
  ·cases e<;>simp only[qcn]at e4<;>simp only[Exit.inBlock]<;>first
    |exact .inl ⟨Ps,s',h',e1,e2,e3,e4⟩
    |(split at e4
      ·rename_i hid;rw[if_pos hid];exact .inl ⟨Ps,s',h',e1,e2,e3,e4⟩
      ·rename_i hid;rw[if_neg hid];exact .inl ⟨Ps,s',h',e1,e2,e3,e4⟩)
  ·cases e<;>simp only[Exit.inBlock]<;>first
    |exact .inr q
    |exact q.1.elim)
theorem qfp{id:Nat}{l:List Oper}(hd:QD n l=true)(hc:QA P wz l l s h (fun s' h'=>Q .normal s' h')):Awp P wz n (.region id l.toArray false) Q s h:=
 Awp.of0 fun fi a w hr hs=>wp_region (by
  have:=qgr (P:=P) (wz:=wz) l n hd l 0 fi s h a w _ (fun e a' w'=>∃Ps s' h',fi.le Ps/\HRel wz Ps h' w'/\SRel Ps n s' a'/\Q e s' h') (fun j=>by simp) hd hc hr hs
   (fun Ps s' h' a' w' e1 e2 e3 e4=>⟨Ps,s',h',e1,e2,e3,e4⟩)
  rw[KD,List.range_eq_range'];exact this)
theorem awp_rseq{id:Nat}{l:List Oper}{y:Code}(L:List Nat)(hd:QD n l=true)
 (hc:∀K:Slots->AHeap->Prop,(∀s h,Awp P wz n y Q s h->K s h)->QA P wz l l s h (fun s' h'=>K (s'.keep L) h')):Awp P wz n (.seq (.region id l.toArray false) y) Q s h:=
 qF (qfp hd (hc (fun s h=>Awp P wz n y Q s h) (fun _ _ hk=>hk) |> aOps_mono fun s' h' hk=>Awp.keep L hk))
where
 aOps_mono {l ops:List Oper} {s:Slots} {h:AHeap} {K K':Slots->AHeap->Prop} (hk:∀s h,K s h->K' s h) (ha:QA P wz ops l s h K):QA P wz ops l s h K':=by
  induction l generalizing s h with
  |nil=>exact hk _ _ ha
  |cons o l ih=>
   simp only[QA]at ha|-
   split
   ·rename_i hg
    simp only[hg]at ha;exact qcp ha fun x h'=>ih
   ·rename_i j want hg
    simp only[hg]at ha;split
    ·rename_i hj
     simp only[hj]at ha;exact ih ha
    ·rename_i d hj
     simp only[hj]at ha;refine⟨ha.1,?_⟩;obtain⟨_,ha⟩:=ha;split
     ·rename_i hp
      rw[if_pos hp]at ha;exact⟨ha.1,ih ha.2⟩
     ·rename_i hp
      rw[if_neg hp]at ha;exact⟨fun hb=>qcp (ha.1 hb) fun x h'=>ih,fun hb=>ih (ha.2 hb)⟩
theorem qlN{p:Nat->Prop}:∀k,p k->∃j,p j/\∀i,p i->j<=i:=by
 intro k;induction k using Ju with
 |_ k ih=>
  intro hk;by_cases hs:∃i,i<k/\p i
  ·obtain⟨i,h1,h2⟩:=hs
   exact ih i h1 h2
  ·exact⟨k,hk,fun i hi=>Kt fun hlt=>hs ⟨i,hlt,hi⟩⟩
noncomputable def leastOf (p:Nat->Prop):Nat:=open Classical in if h:∃j,p j/\∀i,p i->j<=i then Classical.choose h else 0
theorem leastOf_spec{p:Nat->Prop}(h:∃k,p k):p (leastOf p)/\∀i,p i->leastOf p<=i:=by
 obtain⟨k,hk⟩:=h;have h':=qlN k hk;unfold leastOf;rw[dif_pos h'];exact Classical.choose_spec h'
theorem awp_loop{c:Code}(I:Slots->AHeap->Prop)(m:Slots->AHeap->Nat)(h0:I s h)
 (round:∀s h,I s h->Awp P wz n c (qdh (fun s' h'=>∃s'',(∀i,s''.get i=s'.get i\/s''.get i= .dead)/\I s'' h'/\m s'' h'<m s h) Q) s h):Awp P wz n (.loop c) Q s h:=by
 intro fi a w hr hs;let S:Act->World->Nat->Prop:=fun a' w' k=>∃φ' s' h',fi.le φ'/\HRel wz φ' h' w'/\SRel φ' n s' a'/\I s' h'/\m s' h'=k
 refine wp_loop (fun a' w'=>∃k,S a' w' k) (fun a' w'=>leastOf (S a' w')) ⟨_,fi,s,h,fi.le_refl,hr,hs,h0,rfl⟩ fun a' w' hI=>?_;obtain⟨⟨φ',s',h',e1,e2,e3,e4,e5⟩,hmin⟩:=leastOf_spec hI;refine wp_mono (round s' h' e4 φ' a' w' e2 e3) fun e a1 w1 q=>?_;rcases q with⟨Ps,s1,h1,f1,f2,f3,f4⟩|⟨q1,q2⟩
 rotate_left
 ·cases e<;>simp only[Exit.then]<;>first
   |(exact(show AQ wz n φ' Q _ a1 w1 from .inr ⟨q1,q2⟩).up e1)
   |exact q1.elim
 cases e<;>simp only[qdh]at f4<;>simp only[Exit.then]<;>first
  |exact .inl ⟨Ps,s1,h1,PMap.le_trans e1 f1,f2,f3,f4⟩
  |skip
 obtain⟨s2,hs2,hI2,hlt⟩:=f4;have hs3:SRel Ps n s2 a1:=⟨f3.size,f3.defers,fun i=>by
  rcases hs2 i with e|e
  ·rw[e];exact f3.val i
  ·rw[e];simp[VR]⟩
 have hS:S a1 w1 (m s2 h1):=⟨Ps,s2,h1,PMap.le_trans e1 f1,f2,hs3,hI2,rfl⟩
 refine⟨⟨_,hS⟩,?_⟩;have:=(leastOf_spec ⟨_,hS⟩).2 _ hS;omega
end
section
variable {P:Program} {wz:World} {n:FrameK} {s:Slots} {h:AHeap} {Q:Exit->Slots->AHeap->Prop}
theorem qiE{fi:PMap}{w:World}(ops:List Oper)(hall:QD n ops=true)(hr:HRel wz fi h w)(K:Slots->AHeap->Prop)(Q':Act->Prop):∀(hd tl:List Oper) (s:Slots) (a:Act),
 (hd.all fun o=>XU P o.op)=true->QD n hd=true->QA P wz ops (hd++tl) s h K->SRel fi n s a->(∀s' a',SRel fi n s' a'->QA P wz ops tl s' h K->Q' a')->wpStill P ops.toArray w Q' hd a
 |[],tl,s,a,_,_,ha,hs,hq=>hq s a hs ha
 |o::hd,tl,s,a,hp,hd',ha,hs,hq=>by
  simp only[KF,Ky]at hp;simp only[QD,Ky]at hd';have ih:=fun s a=>qiE ops hall hr K Q' hd tl s a hp.2 hd'.2;have run:(pop P wz h s o.op).pre->(∀v,VR fi (pop P wz h s o.op).val v->wpStill P ops.toArray w Q' hd (a.put o.dst v))->o.still P a w (wpStill P ops.toArray w Q' hd):=fun h1 h2=>by
   obtain⟨r,e1,e2⟩:=qgK o h1 hr hs;unfold Oper.still;rw[e1 w (Same.refl w),Oper.stillUpon_value]
   ·simpa[Oper.stillUpon]using h2 r e2
  simp only[Kh,QA]at ha;simp only[wpStill];cases hg:o.guard with
  |none=>
   simp only[hg]at ha;have hw:Region.wanted o (yielded ops.toArray a.tmps)=true:=by simp[Region.wanted,hg]
   rw[if_pos hw];obtain⟨h1,h2⟩:=(Uc hp.1).1 ha;exact run h1 fun v hv=>ih _ _ h2 (hs.putD hd'.1 hv) hq
  |some gw=>
   obtain⟨j,want⟩:=gw;simp only[hg]at ha;have hwanted:Region.wanted o (yielded ops.toArray a.tmps)=(yielded ops.toArray a.tmps j==some want):=by simp[Region.wanted,hg]
   cases hj:qW ops j with
   |none=>
    simp only[hj]at ha;have hn:(ops.toArray[j]?).bind (·.dst)=none:=by
     rw[<-hj,ZJ];simp
    have hw:Region.wanted o (yielded ops.toArray a.tmps)=false:=by
     rw[hwanted];simp only[yielded,hn];rfl
    rw[if_neg (by simp[hw])];exact ih _ _ ha (hs.putD hd'.1 (Yu fi)) hq
   |some d=>
    simp only[hj]at ha;obtain⟨hk,ha⟩:=ha;have hdn:d<n:=by
     have:∀(l:List Oper) (j d:Nat),QD n l=true->qW l j=some d->d<n:=by
      intro l;induction l with
      |nil=>intro j d _ h;simp[qW]at h
      |cons o r ih=>
       intro j d h1 h2;simp only[QD,Ky]at h1;cases j with
       |zero=>simp only[qW]at h2;rw[h2]at h1;simpa using h1.1
       |succ j=>exact ih j d h1.2 h2
     exact this ops j d hall hj
    have hgd:=qco hs ops j d hj hdn hk want;rw[hwanted,hgd];rw[if_pos hp.1]at ha;obtain⟨h1,h2⟩:=ha;cases hb:QY (s.get d) want with
    |true=>
     simp only[hb,Qt,cond_true]at h2;simp only[if_true];exact run (h1 hb) fun v hv=>ih _ _ h2 (hs.putD hd'.1 hv) hq
    |false=>
     simp only[hb,Qt,cond_false]at h2;simp only[KW,if_false];exact ih _ _ h2 (hs.putD hd'.1 (Yu fi)) hq
theorem qmu{id:Nat}{l:List Oper}(hm:P.follows .mixedOrders=true)(hB:Region.lexB .any l.toArray=true)(hp:(l.all fun o=>XU P o.op)=true)(hd:QD n l=true)
 (hc:QA P wz l l s h (fun s' h'=>Q .normal s' h')):Awp P wz n (.region id l.toArray true) Q s h:=
 Awp.of0 fun fi a w hr hs=>wp_region_still (w:=w) hm hB (by
  refine qiE (w:=w.drew) l hd hr.drew (fun s' h'=>Q .normal s' h') _ l [] s a hp hd (by simpa using hc) hs fun s' _ hs' hk=>?_;exact⟨fi,s',h,fi.le_refl,hr.drew,hs',hk⟩)
theorem qeV{id:Nat}{l:List Oper}(m:Nat)(hm:P.follows .mixedOrders=true)(hB:Region.lexTailB .any l.toArray m=true)(hp:((l.take m).all fun o=>XU P o.op)=true)(hd:QD n l=true)
 (hc:QA P wz l l s h (fun s' h'=>Q .normal s' h')):Awp P wz n (.region id l.toArray true) Q s h:=
 Awp.of0 fun fi a w hr hs=>wp_region_still_tail (w:=w) m hm hB (by
  have dtake:∀(l:List Oper) (m:Nat),QD n l=true->QD n (l.take m)=true/\QD n (l.drop m)=true:=by
   intro l;induction l with
   |nil=>intro m _;simp[QD]
   |cons o r ih=>
    intro m h;cases m with
    |zero=>exact⟨by simp[QD],by simpa using h⟩
    |succ m=>
     simp only[QD,Ky]at h;obtain⟨h1,h2⟩:=ih m h.2;exact⟨by simp only[Ki,QD,Ky];exact⟨h.1,h1⟩,by simpa using h2⟩
  refine qiE (w:=w.drew) l hd hr.drew (fun s' h'=>Q .normal s' h') _ (l.take m) (l.drop m) s a hp (dtake l m hd).1 (by simpa using hc) hs fun s' a' hs' hk=>?_;have:=qgr (P:=P) (wz:=wz) l n hd (l.drop m) m fi s' h a' w.drew _ (fun e a' w'=>∃Ps s' h',fi.le Ps/\HRel wz Ps h' w'/\SRel Ps n s' a'/\Q e s' h') (fun j=>by simp[Kq]) (dtake l m hd).2 hk hr.drew hs'
   (fun Ps s' h' a' w' e1 e2 e3 e4=>⟨Ps,s',h',e1,e2,e3,e4⟩)
  rw[wpOps_eq_wpList (l.drop m) m (fun j=>by simp[Kq])]at this;exact this)
theorem WP{id:Nat}{l:List Oper}{y:Code}(L:List Nat)(hm:P.follows .mixedOrders=true)(hB:Region.lexB .any l.toArray=true)(hp:(l.all fun o=>XU P o.op)=true)(hd:QD n l=true)
 (hc:∀K:Slots->AHeap->Prop,(∀s h,Awp P wz n y Q s h->K s h)->QA P wz l l s h (fun s' h'=>K (s'.keep L) h')):Awp P wz n (.seq (.region id l.toArray true) y) Q s h:=
 qF (qmu hm hB hp hd (hc (fun s h=>Awp P wz n y Q s h) (fun _ _ hk=>hk) |> awp_rseq.aOps_mono fun _ _ hk=>Awp.keep L hk))
theorem qeT{id:Nat}{l:List Oper}{y:Code}(m:Nat)(L:List Nat)(hm:P.follows .mixedOrders=true)(hB:Region.lexTailB .any l.toArray m=true)(hp:((l.take m).all fun o=>XU P o.op)=true)(hd:QD n l=true)
 (hc:∀K:Slots->AHeap->Prop,(∀s h,Awp P wz n y Q s h->K s h)->QA P wz l l s h (fun s' h'=>K (s'.keep L) h')):Awp P wz n (.seq (.region id l.toArray true) y) Q s h:=
 qF (qeV m hm hB hp hd (hc (fun s h=>Awp P wz n y Q s h) (fun _ _ hk=>hk) |> awp_rseq.aOps_mono fun _ _ hk=>Awp.keep L hk))
theorem Xa{id:Nat}{l:List Oper}(L:List Nat)(hd:QD n l=true)(hc:QA P wz l l s h (fun s' h'=>Q .normal (s'.keep L) h')):Awp P wz n (.region id l.toArray false) Q s h:=
 fun fi a w hr hs=>wp_mono (qfp (Q:=fun e s' h'=>Q e (if e matches .normal then s'.keep L else s') h') hd hc fi a w hr hs) fun e a' w' q=>by
  rcases q with⟨Ps,s',h',e1,e2,e3,e4⟩|q
  ·cases e<;>first
    |exact .inl ⟨Ps,s',h',e1,e2,e3,e4⟩
    |exact .inl ⟨Ps,s'.keep L,h',e1,e2,e3.keep L,e4⟩
  ·exact .inr q
end
def qiN(P:Program)(wz:World)(s:Slots)(h:AHeap):ResultVar->PR
 | .tmp t=>⟨True,s.get t⟩
 | .cell a t=>ZV P wz h t (s.get a)
def Wz(P:Program)(wz:World)(s:Slots)(h:AHeap):List ResultVar->Prop
 |[]=>True
 |r::rs=>(qiN P wz s h r).pre/\Wz P wz s h rs
def qaR(P:Program)(wz:World)(s:Slots)(h:AHeap):List ResultVar->AVal
 |[r]=>(qiN P wz s h r).val
 |rs=> .tuple (rs.map fun r=>(qiN P wz s h r).val)
def qcf(P:Program)(wz:World)(rs:List ResultVar)(R:AVal->AHeap->Prop):Exit->Slots->AHeap->Prop
 | .normal,s,h=>Wz P wz s h rs/\∃h',(∀k b,h' k=some b->h k=some b)/\R (qaR P wz s h rs) h'
 | .ret,s,h=>Wz P wz s h rs/\∃h',(∀k b,h' k=some b->h k=some b)/\R (qaR P wz s h rs) h'
 |_,_,_=>False
def Qm:Nat->List AVal->Slots
 |_,[]=>[]
 |k,x::xs=>(k,x)::Qm (k+1) xs
theorem qav(fi:PMap):∀(xs:List AVal) (vs:List Value) (k i:Nat),VRs fi xs vs->(i<k->(Qm k xs).get i= .dead)/\∀d,k<=i->VR fi ((Qm k xs).get i) (vs.getD (i-k) d)
 |[],vs,k,i,_=>⟨fun _=>rfl,fun _ _=>by simp[Qm,Slots.get,VR]⟩
 |x::xs,vs,k,i,h=>by
  simp only[VRs]at h;obtain⟨v,vs',rfl,h1,h2⟩:=h;obtain⟨i1,i2⟩:=qav fi xs vs' (k+1) i h2;refine⟨fun hlt=>?_,fun d hle=>?_⟩
  ·simp only[Qm,Slots.get]
   rw[if_neg (by omega)];exact i1 (by omega)
  ·simp only[Qm,Slots.get]
   by_cases e:i=k
   ·subst e
    simpa using h1
   ·rw[if_neg e]
    have:=i2 d (by omega);rw[show i-k=(i-(k+1))+1 by omega];simpa using this
def qlA(tmps:Array Value):ResultVar->Sem Value
 | .tmp t=>pure (tmps.getD t undef)
 | .cell a t=>do loadVar t (<-asAddr (tmps.getD a undef))
theorem qcK{P:Program}{wz w:World}{fi:PMap}{n:FrameK}{s:Slots}{h:AHeap}{a:Act}(hr:HRel wz fi h w)(hs:SRel fi n s a)(fn:Func)(hp:Wz P wz s h fn.results.toList):
 ∃v,(results fn a.tmps).run P w= .ok v w/\VR fi (qaR P wz s h fn.results.toList) v:=by
 have one:∀r,(qiN P wz s h r).pre->∃v,(qlA a.tmps r).run P w= .ok v w/\VR fi (qiN P wz s h r).val v:=by
  intro r hr';cases r with
  |tmp t=>exact⟨_,rfl,hs.val t⟩
  |cell b t=>
   simp only[qiN]at hr'|-
   obtain⟨r,h1,h2⟩:=qnf hr' hr (hs.val b);refine⟨r,?_,h2⟩;have:=h1 w (Same.refl w);have hv:=hs.val b;unfold ZV at hr';split at hr'
   ·rename_i l o hl
    rw[hl]at hv;simp only[VR]at hv;obtain⟨ad,_,e2⟩:=hv;rw[e2]at this;simp only[qlA];rw[e2];simpa[Instr.loadAt,Instr.sureAddr,asAddr]using this
   ·exact hr'.elim
 have all:∀rs:List ResultVar,Wz P wz s h rs->∃vs,(rs.mapM (qlA a.tmps)).run P w= .ok vs w/\VRs fi (rs.map fun r=>(qiN P wz s h r).val) vs:=by
  intro rs;induction rs with
  |nil=>intro _;exact⟨[],by simp,by simp[VRs]⟩
  |cons r rs ih=>
   intro hp;simp only[Wz]at hp;obtain⟨v,e1,e2⟩:=one r hp.1;obtain⟨vs,e3,e4⟩:=ih hp.2;refine⟨v::vs,?_,by simp only[Ke,VRs];exact⟨v,vs,rfl,e2,e4⟩⟩;rw[List.mapM_cons,Sem.run_bind,e1,Result.andThen_ok,Sem.run_bind,e3];rfl
 obtain⟨vs,e1,e2⟩:=all _ hp;have hrun:(results fn a.tmps).run P w= .ok (if h:vs.toArray.size=1 then vs.toArray[0]else .tuple vs.toArray) w:=by
  have key:∀F:ResultVar->Sem Value,(∀r,F r=qlA a.tmps r)->(List.mapM F fn.results.toList).run P w= .ok vs w:=fun F hF=>by
   rw[funext hF];exact e1
  unfold results;rw[Array.mapM_eq_mapM_toList];simp only[bind_map_left,Sem.run_bind];rw[key _ (fun r=>by cases r<;>rfl)];rfl
 refine⟨_,hrun,?_⟩;have hl:=XF e2;simp only[Jo]at hl;match hrs:fn.results.toList,e2,hl with
 |[],e2,hl=>
  obtain rfl:vs=[]:=Kg (by simpa using hl);simp only[qaR,VR];exact⟨[],by simp,by simp[VRs]⟩
 |[r],e2,hl=>
  simp only[Ke,List.map_nil,VRs]at e2;obtain⟨v,_,rfl,h1,rfl⟩:=e2;simpa[qaR]using h1
 |r::r'::rs,e2,hl=>
  have h2:¬vs.toArray.size=1:=by simp at hl|-;omega
  rw[dif_neg h2];simp only[qaR,VR];exact⟨vs,rfl,e2⟩
theorem Ql{P:Program}{wz:World}{f:FuncId}{args:List AVal}{h:AHeap}{R:AVal->AHeap->Prop}{fn:Func}{c:Code}{rs:List ResultVar}{n:FrameK}(hf:P.funcs[f]?=some fn)
 (hname:(fn.name== "runtime.NumGoroutine")=false) (hb:fn.body=some c) (hn:fn.ntmps=n.sz) (hrs:fn.results=rs.toArray) (hargs:args.length<=n.sz)
 (hc:Awp P wz n c (qcf P wz rs R) (Qm 0 args) h) (hdf:n.dfr=[]/\n.G=(fun _ _ _ _=>False):=by exact⟨rfl,rfl⟩):ACall P wz f args h R:=by
 intro fi vals w hr hv;refine .inl ⟨fn,hf,hname,by rw[hb];rfl,?_⟩;have hl:=XF hv;refine calls_of_wp hf hb (wp_mono (hc fi _ w hr ⟨?_,hdf.1.symm,fun i=>?_⟩) fun e a' w' q=>?_)
 ·simp[hn]
  omega
 ·have:=(qav fi args vals 0 i hv).2 undef (Jr i)
  by_cases hi:i<vals.length
  ·have e:(vals.toArray++Jv (fn.ntmps-vals.toArray.size) undef).getD i undef=vals.getD i undef:=by
    simp[Ku,Jw,hi,Ko]
   rw[e];simpa using this
  ·have e:(vals.toArray++Jv (fn.ntmps-vals.toArray.size) undef).getD i undef=undef:=by
    simp[Ku,Jw,hi,Array.getElem?_replicate];split<;>simp
   rw[e];have e2:vals.getD (i-0) undef=undef:=by simp[Ko,Kr (Kt hi)]
   rw[e2]at this;exact this
 ·have q':∃Ps s' h',fi.le Ps/\HRel wz Ps h' w'/\SRel Ps n s' a'/\qcf P wz rs R e s' h':=by
   rcases q with q|⟨_,Ps,_,q⟩
   ·exact q
   ·rw[hdf.2]at q
    exact q.elim
  obtain⟨Ps,s',h',e1,e2,e3,e4⟩:=q';cases e<;>simp only[qcf]at e4<;>first
   |exact e4.elim
   |skip
  all_goals
   obtain⟨hp,h'',hsub,hR⟩:=e4;have hrs':rs=fn.results.toList:=by rw[hrs]
   rw[hrs']at hp hR;obtain⟨v,f1,f2⟩:=qcK e2 e3 fn hp;exact⟨e3.defers.trans hdf.1,v,f1,v,rfl,Ps,_,h'',e1,e2.forget hsub,f2,hR⟩
theorem law_of_acall{P:Program}{f:FuncId}{args:List AVal}{vals:List Value}{w:World}(hv:VRs (fun _=>none) args vals)
 (hc:ACall P w f args (fun _=>none) (fun x _=>x= .bool true)) (hcalls:∃fn,P.funcs[f]?=some fn/\fn.body.isSome=true):
 Calls P f vals.toArray w fun e w'=>e= .returned (.bool true)/\Below w.heap.size w w':=by
 rcases hc _ vals w (HRel.start w) hv with⟨fn,_,_,_,h4⟩|⟨v,w',h1,⟨Ps,x,h',e1,e2,e3,e4⟩⟩
 ·refine h4.mono fun e w' ⟨v,he,Ps,x,h',e1,e2,e3,e4⟩=>?_
  subst he e4;simp only[VR]at e3;subst e3;exact⟨rfl,e2.below⟩
 ·exfalso
  obtain⟨fn,g1,g2⟩:=hcalls;have hb:¬fn.body=none:=fun e=>by rw[e]at g2;cases g2
  simp only[callFunc,Sem.run_bind,run_program,Result.andThen_ok,g1]at h1;split at h1
  ·simp at h1
  ·simp[hb]at h1
end Go.AM
namespace Go.AM
section
variable {P:Program} {wz:World} {ops rest:List Oper} {s:Slots} {h:AHeap} {K:Slots->AHeap->Prop}
theorem qa:QA P wz ops [] s h K=K s h:=rfl
theorem qpI{dst:Option Tmp}{op:Op}{ty:TypeId}{pos:String}{af:Array Edge}{j d:Nat}{want:Bool}(hj:qW ops j=some d)(hp:XU P op=true):
 QA P wz ops (⟨dst,op,ty,pos,af,some (j,want)⟩::rest) s h K=
  (Yw (s.get d)=true/\(QY (s.get d) want=true->(pop P wz h s op).pre)/\QA P wz ops rest (putD s dst (Qt (QY (s.get d) want) (pop P wz h s op).val)) h K):=by
 simp only[QA,hj,hp,if_true]
theorem qbz{dst:Option Tmp}{op:Op}{ty:TypeId}{pos:String}{af:Array Edge}:
 QA P wz ops (⟨dst,op,ty,pos,af,none⟩::rest) s h K=eop P wz h s op fun x h'=>QA P wz ops rest (putD s dst x) h' K:=rfl
theorem Wd{dst:Option Tmp}{op:Op}{ty:TypeId}{pos:String}{af:Array Edge}(hp:XU P op=true):
 QA P wz ops (⟨dst,op,ty,pos,af,none⟩::rest) s h K=((pop P wz h s op).pre/\QA P wz ops rest (putD s dst (pop P wz h s op).val) h K):=by
 rw[qbz];exact propext (Uc hp)
theorem qil{dst:Option Tmp}{op:Op}{ty:TypeId}{pos:String}{af:Array Edge}{j d:Nat}{want:Bool}(hj:qW ops j=some d)(hp:XU P op=false)(hk:Yw (s.get d)=true)
 (h1:QY (s.get d) want=true->QA P wz ops (⟨dst,op,ty,pos,af,none⟩::rest) s h K) (h2:QY (s.get d) want=false->QA P wz ops rest (putD s dst (.tuple [])) h K):
 QA P wz ops (⟨dst,op,ty,pos,af,some (j,want)⟩::rest) s h K:=by
 simp only[QA,hj,hp];exact⟨hk,h1,h2⟩
theorem qY{dst:Option Tmp}{fo:Operand}{args:Array Operand}{ts:Array TypeId}{ty:TypeId}{pos:String}{af:Array Edge}{f:FuncId}{cap xs:List AVal}{R:AVal->AHeap->Prop}
 (hf:ev s fo= .func f cap) (hx:evs s args.toList++cap=xs) (hc:ACall P wz f xs h R) (hk:∀x h',R x h'->QA P wz ops rest (putD s dst x) h' K):
 QA P wz ops (⟨dst, .call ⟨.value fo,args,ts⟩,ty,pos,af,none⟩::rest) s h K:=by
 rw[qbz];simp only[eop,hf,hx];exact hc.mono hk
end
theorem QT(c:Bool)(v w:AVal):YN c (Qt c v) w=YN c v w:=by cases c<;>cases v<;>cases w<;>simp[YN,Qt]
theorem XZ(c:Bool)(v w:AVal):YN c v (Qt (!c) w)=YN c v w:=by cases c<;>cases v<;>cases w<;>simp[YN,Qt]
theorem Zv(c x y:Bool):YN c (.bool x) (.bool y)= .bool (bif c then x else y):=rfl
theorem qH(b:Bool):QY (.bool b) true=b:=by cases b<;>rfl
theorem qU(b:Bool):QY (.bool b) false= !b:=by cases b<;>rfl
theorem Ze(g b:Bool)(want:Bool):QY (Qt g (.bool b)) want=(g && QY (.bool b) want):=by cases g<;>cases b<;>cases want<;>rfl
theorem qP(b:Bool):Yw (.bool b)=true:=rfl
theorem Xm(g b:Bool):Yw (Qt g (.bool b))=true:=by cases g<;>rfl
theorem Qf(v:AVal):Qt true v=v:=rfl
theorem QO(v:AVal):Qt false v= .tuple []:=rfl
theorem wrap_i64{n:Int}(h0: -9223372036854775808<=n)(h1:n<=9223372036854775807):IntKind.i64.wrap n=n:=by
 rw[IntKind.wrap_i64];omega
theorem wrap_u8{n:Int}(h0:0<=n)(h1:n<=255):IntKind.u8.wrap n=n:=by
 unfold IntKind.wrap;simp[IntKind.bits,IntKind.signed];omega
section
variable {P:Program}
theorem qre(x:Operand):XU P (.move x)=true:=rfl
theorem qrZ(x:Operand):XU P (.assign x)=true:=rfl
theorem qrd(c a b:Operand):XU P (.pick c a b)=true:=rfl
theorem qnc(o:BinOp)(t:TypeId)(x y:Operand)(u:TypeId):XU P (.binOp o t x y u)=true:=rfl
theorem qrc(o:UnOp)(t:TypeId)(x:Operand):XU P (.unOp o t x)=true:=rfl
theorem qrf(t:TypeId)(x:Operand):XU P (.load t x)=true:=rfl
theorem qfJ(t:TypeId)(x:Operand)(f:Nat):XU P (.fieldAddr t x f)=true:=rfl
theorem qnb(t:TypeId)(x i:Operand):XU P (.index t x i)=true:=rfl
theorem qfI(t:TypeId)(x i:Operand):XU P (.indexAddr t x i)=true:=rfl
theorem pu_slice(t:TypeId)(x:Operand)(a b c:Option Operand):XU P (.slice t x a b c)=true:=rfl
theorem qoD(x:Operand)(i:Nat):XU P (.extract x i)=true:=rfl
theorem qhy(x:Operand):XU P (.nilCheck x)=true:=rfl
theorem pu_build(t:TypeId)(p:Array (Nat×Operand)):XU P (.build t p)=true:=rfl
theorem qna(f:Fn)(a b:Array Operand):XU P (.makeFunc f a b)=true:=rfl
theorem qgH(t:TypeId)(x:Operand):XU P (.makeInterface t x)=true:=rfl
theorem pu_len(a:Array Operand)(t:Array TypeId):XU P (.call ⟨.builtin .len,a,t⟩)=true:=rfl
theorem pu_cap(a:Array Operand)(t:Array TypeId):XU P (.call ⟨.builtin .cap,a,t⟩)=true:=rfl
theorem pu_min(a:Array Operand)(t:Array TypeId):XU P (.call ⟨.builtin .min,a,t⟩)=true:=rfl
theorem qoE(s d:TypeId)(x:Operand)(h:(!Zy P s d && !qbO P s d)=true):XU P (.convert s d x)=true:=h
end
section
variable {P:Program} {wz:World} {ops rest:List Oper} {s:Slots} {h:AHeap} {K:Slots->AHeap->Prop} {dst:Option Tmp} {ty:TypeId} {pos:String} {af:Array Edge}
theorem qg(x:Operand):
 QA P wz ops (⟨dst, .move x,ty,pos,af,none⟩::rest) s h K=((pop P wz h s (.move x)).pre/\QA P wz ops rest (putD s dst (pop P wz h s (.move x)).val) h K):=Wd (qre x)
theorem qf(x:Operand):
 QA P wz ops (⟨dst, .assign x,ty,pos,af,none⟩::rest) s h K=((pop P wz h s (.assign x)).pre/\QA P wz ops rest (putD s dst (pop P wz h s (.assign x)).val) h K):=Wd (qrZ x)
theorem QC(c a b:Operand):
 QA P wz ops (⟨dst, .pick c a b,ty,pos,af,none⟩::rest) s h K=((pop P wz h s (.pick c a b)).pre/\QA P wz ops rest (putD s dst (pop P wz h s (.pick c a b)).val) h K):=Wd (qrd c a b)
theorem qo(o:BinOp)(t:TypeId)(x y:Operand)(u:TypeId):
 QA P wz ops (⟨dst, .binOp o t x y u,ty,pos,af,none⟩::rest) s h K=((pop P wz h s (.binOp o t x y u)).pre/\QA P wz ops rest (putD s dst (pop P wz h s (.binOp o t x y u)).val) h K):=Wd (qnc o t x y u)
theorem qeB(o:UnOp)(t:TypeId)(x:Operand):
 QA P wz ops (⟨dst, .unOp o t x,ty,pos,af,none⟩::rest) s h K=((pop P wz h s (.unOp o t x)).pre/\QA P wz ops rest (putD s dst (pop P wz h s (.unOp o t x)).val) h K):=Wd (qrc o t x)
theorem ap_load(t:TypeId)(x:Operand):
 QA P wz ops (⟨dst, .load t x,ty,pos,af,none⟩::rest) s h K=((pop P wz h s (.load t x)).pre/\QA P wz ops rest (putD s dst (pop P wz h s (.load t x)).val) h K):=Wd (qrf t x)
theorem qC(t:TypeId)(x:Operand)(f:Nat):
 QA P wz ops (⟨dst, .fieldAddr t x f,ty,pos,af,none⟩::rest) s h K=((pop P wz h s (.fieldAddr t x f)).pre/\QA P wz ops rest (putD s dst (pop P wz h s (.fieldAddr t x f)).val) h K):=Wd (qfJ t x f)
theorem qjF(t:TypeId)(x i:Operand):
 QA P wz ops (⟨dst, .index t x i,ty,pos,af,none⟩::rest) s h K=((pop P wz h s (.index t x i)).pre/\QA P wz ops rest (putD s dst (pop P wz h s (.index t x i)).val) h K):=Wd (qnb t x i)
theorem qmv(t:TypeId)(x i:Operand):
 QA P wz ops (⟨dst, .indexAddr t x i,ty,pos,af,none⟩::rest) s h K=((pop P wz h s (.indexAddr t x i)).pre/\QA P wz ops rest (putD s dst (pop P wz h s (.indexAddr t x i)).val) h K):=Wd (qfI t x i)
theorem qcy(t:TypeId)(x:Operand)(a b c:Option Operand):
 QA P wz ops (⟨dst, .slice t x a b c,ty,pos,af,none⟩::rest) s h K=((pop P wz h s (.slice t x a b c)).pre/\QA P wz ops rest (putD s dst (pop P wz h s (.slice t x a b c)).val) h K):=Wd (pu_slice t x a b c)
theorem Xu(x:Operand)(i:Nat):
 QA P wz ops (⟨dst, .extract x i,ty,pos,af,none⟩::rest) s h K=((pop P wz h s (.extract x i)).pre/\QA P wz ops rest (putD s dst (pop P wz h s (.extract x i)).val) h K):=Wd (qoD x i)
theorem Qv(x:Operand):
 QA P wz ops (⟨dst, .nilCheck x,ty,pos,af,none⟩::rest) s h K=((pop P wz h s (.nilCheck x)).pre/\QA P wz ops rest (putD s dst (pop P wz h s (.nilCheck x)).val) h K):=Wd (qhy x)
theorem Zo(t:TypeId)(p:Array (Nat×Operand)):
 QA P wz ops (⟨dst, .build t p,ty,pos,af,none⟩::rest) s h K=((pop P wz h s (.build t p)).pre/\QA P wz ops rest (putD s dst (pop P wz h s (.build t p)).val) h K):=Wd (pu_build t p)
theorem qob(f:Fn)(a b:Array Operand):
 QA P wz ops (⟨dst, .makeFunc f a b,ty,pos,af,none⟩::rest) s h K=((pop P wz h s (.makeFunc f a b)).pre/\QA P wz ops rest (putD s dst (pop P wz h s (.makeFunc f a b)).val) h K):=Wd (qna f a b)
theorem qcz(t:TypeId)(x:Operand):
 QA P wz ops (⟨dst, .makeInterface t x,ty,pos,af,none⟩::rest) s h K=((pop P wz h s (.makeInterface t x)).pre/\QA P wz ops rest (putD s dst (pop P wz h s (.makeInterface t x)).val) h K):=Wd (qgH t x)
theorem QB(a:Array Operand)(t:Array TypeId):
 QA P wz ops (⟨dst, .call ⟨.builtin .len,a,t⟩,ty,pos,af,none⟩::rest) s h K=((pop P wz h s (.call ⟨.builtin .len,a,t⟩)).pre/\QA P wz ops rest (putD s dst (pop P wz h s (.call ⟨.builtin .len,a,t⟩)).val) h K):=Wd (pu_len a t)
theorem ap_min(a:Array Operand)(t:Array TypeId):
 QA P wz ops (⟨dst, .call ⟨.builtin .min,a,t⟩,ty,pos,af,none⟩::rest) s h K=((pop P wz h s (.call ⟨.builtin .min,a,t⟩)).pre/\QA P wz ops rest (putD s dst (pop P wz h s (.call ⟨.builtin .min,a,t⟩)).val) h K):=Wd (pu_min a t)
end
def qkF(c a b:AVal):PR:=
 match c with
 | .bool c=>⟨True,YN c a b⟩
 |_=> .no
def Uu(P:Program)(op:BinOp)(t:TypeId)(x y:AVal):PR:=
 match x,y with
 | .agg xs, .agg ys=>qdE P op t (.agg xs) (.agg ys)
 |a,b=>qni P op t a b
def pExt(x:AVal)(i:Nat):PR:=
 match x with
 | .tuple vs=>⟨i<vs.length,vs.getD i .dead⟩
 |_=> .no
def qsg(x:AVal):PR:=
 match x with
 | .ptr l o=>⟨True, .ptr l o⟩
 | .func f c=>⟨True, .func f c⟩
 |_=> .no
def YV(P:Program)(t:TypeId)(ps:List (Nat×AVal)):PR:=
 match qmr P t ps with
 |some cs=>⟨True, .agg cs⟩
 |none=> .no
section
variable {P:Program} {wz:World} {h:AHeap} {s:Slots}
theorem qd(x:Operand):pop P wz h s (.move x)=⟨True,ev s x⟩:=rfl
theorem qc(x:Operand):pop P wz h s (.assign x)=⟨True,ev s x⟩:=rfl
theorem Qr(c a b:Operand):pop P wz h s (.pick c a b)=qkF (ev s c) (ev s a) (ev s b):=rfl
theorem qh(o:BinOp)(t:TypeId)(x y:Operand)(u:TypeId):pop P wz h s (.binOp o t x y u)=bif qcR y then qfg P o t (ev s x)else Uu P o t (ev s x) (ev s y):=rfl
theorem qN(j:Nat):qcR (.tmp j)=false:=rfl
theorem qE(k:IntKind)(n:Int):qcR (.const (.int k n))=false:=rfl
theorem Qy(b:ByteArray):qcR (.const (.string b))=false:=rfl
theorem qcP(a:Option Addr)(n c:Nat):qcR (.const (.slice a n c))=false:=rfl
theorem qpa:qcR (.const .nilIface)=true:=rfl
theorem qoJ{t:TypeId}{m:Array (String×TypeId)}(ht:P.underlying t=some (.interface m))(te:TypeId)(x:AVal):qfg P .neq t (.iface te x)=⟨True, .bool true⟩:=by simp[qfg,ht]
theorem Zn(o:UnOp)(t:TypeId)(x:Operand):pop P wz h s (.unOp o t x)=pUn o (ev s x):=rfl
theorem qaC(a b:TypeId)(x:Operand):pop P wz h s (.convert a b x)=qch P wz h a b (ev s x):=rfl
theorem ZF(t:TypeId)(x:Operand):pop P wz h s (.load t x)=ZV P wz h t (ev s x):=rfl
theorem qi(t:TypeId)(x:Operand)(f:Nat):pop P wz h s (.fieldAddr t x f)=QR P t (ev s x) f:=rfl
theorem qgL(t:TypeId)(x i:Operand):pop P wz h s (.index t x i)=qbr P t (ev s x) (ev s i):=rfl
theorem Zf(t:TypeId)(x i:Operand):pop P wz h s (.indexAddr t x i)=Xh P t (ev s x) (ev s i):=rfl
theorem qbe(t:TypeId)(x:Operand)(a b c:Option Operand):pop P wz h s (.slice t x a b c)=WI P t (ev s x) (evO s a) (evO s b) (evO s c):=rfl
theorem Xk(x:Operand)(i:Nat):pop P wz h s (.extract x i)=pExt (ev s x) i:=rfl
theorem Qk(x:Operand):pop P wz h s (.nilCheck x)=qsg (ev s x):=rfl
theorem qlD(f:FuncId)(a c:List Operand):pop P wz h s (.makeFunc (.func f) a.toArray c.toArray)=⟨a=[], .func f (evs s c)⟩:=rfl
theorem qbG(t:TypeId)(x:Operand):pop P wz h s (.makeInterface t x)=⟨P.concrete t=true, .iface t (ev s x)⟩:=rfl
theorem Qo(x:Operand)(t:TypeId)(ts:List TypeId):pop P wz h s (.call ⟨.builtin .len,[x].toArray,(t::ts).toArray⟩)=Zh P h t (ev s x):=rfl
theorem qoG(t:TypeId)(x i:Operand)(ok:Bool):pop P wz h s (.lookup t x i ok)=UL P h t (ev s x) (ev s i) ok:=rfl
theorem pop_cap(x:Operand)(t:TypeId)(ts:List TypeId):pop P wz h s (.call ⟨.builtin .cap,[x].toArray,(t::ts).toArray⟩)=qlK P t (ev s x):=rfl
theorem pop_min(a:List Operand)(t:Array TypeId):pop P wz h s (.call ⟨.builtin .min,a.toArray,t⟩)=qsh (evs s a):=rfl
end
section
variable {P:Program}
theorem Qe(c:Bool)(a b:AVal):qkF (.bool c) a b=⟨True,YN c a b⟩:=rfl
def qdi(op:BinOp)(k:IntKind)(a b:Int):PR:=
 match op with
 | .shl=>⟨0<=b, .int k (k.wrap (a*2^(min b.toNat k.bits)))⟩
 | .shr=>⟨0<=b, .int k (a.fdiv (2^(min b.toNat k.bits)))⟩
 |op=>pInt op k a b
theorem qz(op:BinOp)(t:TypeId)(k:IntKind)(a b:Int):Uu P op t (.int k a) (.int k b)=qdi op k a b:=by
 cases op<;>simp[Uu,qni,qdi]
theorem qsl(t:TypeId)(k k':IntKind)(a b:Int):Uu P .shr t (.int k a) (.int k' b)=⟨0<=b, .int k (a.fdiv (2^(min b.toNat k.bits)))⟩:=rfl
theorem Qp(op:BinOp)(t:TypeId)(a b:List UInt8):Uu P op t (.str a) (.str b)=qsc op a b:=rfl
theorem qsn(op:BinOp)(t:TypeId)(a b:List AVal):Uu P op t (.agg a) (.agg b)=qdE P op t (.agg a) (.agg b):=rfl
theorem qsm(t:TypeId)(a b:Bool):Uu P .eql t (.bool a) (.bool b)=match P.underlying t with|some .bool=>⟨True, .bool (a==b)⟩|_=> .no:=rfl
theorem qkH(t:TypeId)(a b:Bool):Uu P .neq t (.bool a) (.bool b)=match P.underlying t with|some .bool=>⟨True, .bool (!(a==b))⟩|_=> .no:=rfl
theorem QW(k:IntKind)(a b:Int):qdi .add k a b=⟨True, .int k (k.wrap (a+b))⟩:=rfl
theorem Wl(k:IntKind)(a b:Int):qdi .sub k a b=⟨True, .int k (k.wrap (a-b))⟩:=rfl
theorem pI_quo(k:IntKind)(a b:Int):qdi .quo k a b=⟨b≠0, .int k (k.wrap (a.tdiv b))⟩:=rfl
theorem qgN(k:IntKind)(a b:Int):qdi .rem k a b=⟨b≠0, .int k (a.tmod b)⟩:=rfl
theorem XV(k:IntKind)(a b:Int):qdi .eql k a b=⟨True, .bool (decide (a=b))⟩:=rfl
theorem WW(k:IntKind)(a b:Int):qdi .neq k a b=⟨True, .bool (!decide (a=b))⟩:=rfl
theorem Xt(k:IntKind)(a b:Int):qdi .lss k a b=⟨True, .bool (decide (a<b))⟩:=rfl
theorem qoK(k:IntKind)(a b:Int):qdi .leq k a b=⟨True, .bool (decide (a<=b))⟩:=rfl
theorem Yk(k:IntKind)(a b:Int):qdi .gtr k a b=⟨True, .bool (decide (b<a))⟩:=rfl
theorem qiV(k:IntKind)(a b:Int):qdi .geq k a b=⟨True, .bool (decide (b<=a))⟩:=rfl
theorem YK(a b:List UInt8):qsc .add a b=⟨a.length+b.length<9223372036854775808, .str (a++b)⟩:=rfl
theorem XP(a b:List UInt8):qsc .eql a b=⟨True, .bool (decide (a=b))⟩:=rfl
theorem Um(a b:List UInt8):qsc .neq a b=⟨True, .bool (!decide (a=b))⟩:=rfl
theorem YJ(b:Bool):pUn .not (.bool b)=⟨True, .bool (!b)⟩:=rfl
theorem XA(vs:List AVal)(i:Nat):pExt (.tuple vs) i=⟨i<vs.length,vs.getD i .dead⟩:=rfl
theorem QE(l:Loc)(o:Nat):qsg (.ptr l o)=⟨True, .ptr l o⟩:=rfl
variable {wz:World} {h:AHeap}
theorem qej{t u:TypeId}{d:TypeDesc}{k:IntKind}(ht:P.underlying t=some d)(hu:P.underlying u=some (.int k))(k':IntKind)(n:Int):qch P wz h t u (.int k' n)=⟨True, .int k (k.wrap n)⟩:=by
 simp only[qch,ht,hu]
theorem qnh{t u e:TypeId}(ht:P.underlying t=some (.slice e))(hu:P.underlying u=some .string)(he:P.underlying e=some (.int .u8))(l:Loc)(o len:Nat)(c:Cap):
 qch P wz h t u (.slice l o len c)=⟨(Qd wz h l o len).all AVal.isU8=true, .str ((Qd wz h l o len).map AVal.byte)⟩:=by
 simp only[qch,ht,hu,he]
theorem qff{t:TypeId}(ht:P.underlying t=some .string)(s:List UInt8)(k:IntKind)(n:Int):qbr P t (.str s) (.int k n)=⟨0<=n/\n<s.length, .int .u8 (s.getD n.toNat 0).toNat⟩:=by
 simp only[qbr,ht]
theorem qA{t e:TypeId}{es:Nat}(ht:P.underlying t=some (.slice e))(hs:ZH P e=some es)(l:Loc)(o len:Nat)(c:Cap)(k:IntKind)(n:Int):
 Xh P t (.slice l o len c) (.int k n)=⟨0<=n/\n<len, .ptr l (o+n.toNat*es)⟩:=by
 simp only[Xh,ht,hs]
theorem qj{t:TypeId}(ha:Yt P t=some false)(l:Loc)(o:Nat):ZV P wz h t (.ptr l o)=⟨(rd wz h l o).live=true,rd wz h l o⟩:=by
 simp only[ZV,ha]
theorem Qz{t:TypeId}{n:Nat}(ha:Yt P t=some true)(hn:ZH P t=some n)(l:Loc)(o:Nat):ZV P wz h t (.ptr l o)=⟨allLive (Qd wz h l o n)=true, .agg (Qd wz h l o n)⟩:=by
 simp only[ZV,ha,hn]
theorem pLen_str{h:AHeap}{t:TypeId}(ht:P.underlying t=some .string)(s:List UInt8):Zh P h t (.str s)=⟨True, .int .i64 s.length⟩:=by
 simp only[Zh,qbJ,qng,ht,cond_false]
theorem Xr{t e:TypeId}(ht:P.underlying t=some (.slice e)){h:AHeap}(l:Loc)(o n:Nat)(c:Cap):Zh P h t (.slice l o n c)=⟨True, .int .i64 n⟩:=by
 simp only[Zh,qbJ,qng,ht,cond_false]
theorem pMin_int(k k':IntKind)(a b:Int):qsh [.int k a, .int k' b]=⟨True, .int k (min a b)⟩:=rfl
end
section
variable {P:Program} {wz:World} {h:AHeap}
theorem qeS(g:Bool)(v:AVal):Qt g (Qt g v)=Qt g v:=by cases g<;>rfl
theorem qaz(g:Bool)(c a b:AVal):Qt g (qkF (Qt g c) a b).val=Qt g (qkF c a b).val:=by cases g<;>rfl
theorem qaA(g:Bool)(c a b:AVal):(g=true->(qkF (Qt g c) a b).pre)=(g=true->(qkF c a b).pre):=by cases g<;>simp[Qt]
theorem XL(o:BinOp)(t:TypeId)(g:Bool)(x y:AVal):Qt g (Uu P o t (Qt g x) y).val=Qt g (Uu P o t x y).val:=by cases g<;>rfl
theorem UV(o:BinOp)(t:TypeId)(g:Bool)(x y:AVal):Qt g (Uu P o t x (Qt g y)).val=Qt g (Uu P o t x y).val:=by cases g<;>rfl
theorem XM(o:BinOp)(t:TypeId)(g:Bool)(x y:AVal):(g=true->(Uu P o t (Qt g x) y).pre)=(g=true->(Uu P o t x y).pre):=by cases g<;>simp[Qt]
theorem UW(o:BinOp)(t:TypeId)(g:Bool)(x y:AVal):(g=true->(Uu P o t x (Qt g y)).pre)=(g=true->(Uu P o t x y).pre):=by cases g<;>simp[Qt]
theorem qhN(o:UnOp)(g:Bool)(x:AVal):Qt g (pUn o (Qt g x)).val=Qt g (pUn o x).val:=by cases g<;>rfl
theorem qhO(o:UnOp)(g:Bool)(x:AVal):(g=true->(pUn o (Qt g x)).pre)=(g=true->(pUn o x).pre):=by cases g<;>simp[Qt]
theorem cv_load(t:TypeId)(g:Bool)(x:AVal):Qt g (ZV P wz h t (Qt g x)).val=Qt g (ZV P wz h t x).val:=by cases g<;>rfl
theorem cp_load(t:TypeId)(g:Bool)(x:AVal):(g=true->(ZV P wz h t (Qt g x)).pre)=(g=true->(ZV P wz h t x).pre):=by cases g<;>simp[Qt]
theorem Wo(t:TypeId)(f:Nat)(g:Bool)(x:AVal):Qt g (QR P t (Qt g x) f).val=Qt g (QR P t x f).val:=by cases g<;>rfl
theorem Wp(t:TypeId)(f:Nat)(g:Bool)(x:AVal):(g=true->(QR P t (Qt g x) f).pre)=(g=true->(QR P t x f).pre):=by cases g<;>simp[Qt]
theorem qsG(t:TypeId)(g:Bool)(x y:AVal):Qt g (qbr P t (Qt g x) y).val=Qt g (qbr P t x y).val:=by cases g<;>rfl
theorem qsJ(t:TypeId)(g:Bool)(x y:AVal):(g=true->(qbr P t (Qt g x) y).pre)=(g=true->(qbr P t x y).pre):=by cases g<;>simp[Qt]
theorem qsI(t:TypeId)(g:Bool)(x y:AVal):Qt g (Xh P t (Qt g x) y).val=Qt g (Xh P t x y).val:=by cases g<;>rfl
theorem qsH(t:TypeId)(g:Bool)(x y:AVal):Qt g (Xh P t x (Qt g y)).val=Qt g (Xh P t x y).val:=by cases g<;>rfl
theorem qsL(t:TypeId)(g:Bool)(x y:AVal):(g=true->(Xh P t (Qt g x) y).pre)=(g=true->(Xh P t x y).pre):=by cases g<;>simp[Qt]
theorem qsK(t:TypeId)(g:Bool)(x y:AVal):(g=true->(Xh P t x (Qt g y)).pre)=(g=true->(Xh P t x y).pre):=by cases g<;>simp[Qt]
theorem cv_nil(g:Bool)(x:AVal):Qt g (qsg (Qt g x)).val=Qt g (qsg x).val:=by cases g<;>rfl
theorem cp_nil(g:Bool)(x:AVal):(g=true->(qsg (Qt g x)).pre)=(g=true->(qsg x).pre):=by cases g<;>simp[Qt]
theorem qcW{h:AHeap}(t:TypeId)(g:Bool)(x:AVal):Qt g (Zh P h t (Qt g x)).val=Qt g (Zh P h t x).val:=by cases g<;>rfl
theorem qcY{h:AHeap}(t:TypeId)(g:Bool)(x:AVal):(g=true->(Zh P h t (Qt g x)).pre)=(g=true->(Zh P h t x).pre):=by cases g<;>simp[Qt]
theorem QH(c x:Bool):YN c (.bool x) (.bool false)= .bool (c && x):=by cases c<;>rfl
theorem XO(c x:Bool):YN c (.bool true) (.bool x)= .bool (c||x):=by cases c<;>rfl
end
section
variable {P:Program} {wz:World} {ops rest:List Oper} {s:Slots} {h:AHeap} {K:Slots->AHeap->Prop} {dst:Option Tmp} {ty:TypeId} {pos:String} {af:Array Edge}
def gv(s:Slots)(ops:List Oper)(j:Nat):AVal:=match qW ops j with|some d=>s.get d|none=> .dead
def agP(P:Program)(wz:World)(ops rest:List Oper)(s:Slots)(h:AHeap)(K:Slots->AHeap->Prop)(dst:Option Tmp)(g:AVal)(want:Bool)(r:PR):Prop:=
 Yw g=true/\(QY g want=true->r.pre)/\QA P wz ops rest (putD s dst (Qt (QY g want) r.val)) h K
def agQ(P:Program)(wz:World)(ops rest:List Oper)(s:Slots)(h:AHeap)(K:Slots->AHeap->Prop)(dst:Option Tmp)(want:Bool)(r:PR):Option Tmp->Prop
 |none=>QA P wz ops rest (putD s dst (.tuple [])) h K
 |some d=>agP P wz ops rest s h K dst (s.get d) want r
theorem Qs{want:Bool}{r:PR}{d:Tmp}:agQ P wz ops rest s h K dst want r (some d)=agP P wz ops rest s h K dst (s.get d) want r:=rfl
theorem agE{op:Op}{j:Nat}{want:Bool}(hp:XU P op=true):
 QA P wz ops (⟨dst,op,ty,pos,af,some (j,want)⟩::rest) s h K=agQ P wz ops rest s h K dst want (pop P wz h s op) (qW ops j):=by
 cases hd:qW ops j with
 |none=>simp only[QA,hd,agQ]
 |some d=>rw[qpI hd hp];rfl
theorem Xc(x:Operand){j:Nat}{want:Bool}:
 QA P wz ops (⟨dst, .move x,ty,pos,af,some (j,want)⟩::rest) s h K=agQ P wz ops rest s h K dst want (pop P wz h s (.move x)) (qW ops j):=agE (qre x)
theorem WS(c a b:Operand){j:Nat}{want:Bool}:
 QA P wz ops (⟨dst, .pick c a b,ty,pos,af,some (j,want)⟩::rest) s h K=agQ P wz ops rest s h K dst want (pop P wz h s (.pick c a b)) (qW ops j):=agE (qrd c a b)
theorem QJ(o:BinOp)(t:TypeId)(x y:Operand)(u:TypeId){j:Nat}{want:Bool}:
 QA P wz ops (⟨dst, .binOp o t x y u,ty,pos,af,some (j,want)⟩::rest) s h K=agQ P wz ops rest s h K dst want (pop P wz h s (.binOp o t x y u)) (qW ops j):=agE (qnc o t x y u)
theorem WR(o:UnOp)(t:TypeId)(x:Operand){j:Nat}{want:Bool}:
 QA P wz ops (⟨dst, .unOp o t x,ty,pos,af,some (j,want)⟩::rest) s h K=agQ P wz ops rest s h K dst want (pop P wz h s (.unOp o t x)) (qW ops j):=agE (qrc o t x)
theorem ag_load(t:TypeId)(x:Operand){j:Nat}{want:Bool}:
 QA P wz ops (⟨dst, .load t x,ty,pos,af,some (j,want)⟩::rest) s h K=agQ P wz ops rest s h K dst want (pop P wz h s (.load t x)) (qW ops j):=agE (qrf t x)
theorem Xe(t:TypeId)(x:Operand)(f:Nat){j:Nat}{want:Bool}:
 QA P wz ops (⟨dst, .fieldAddr t x f,ty,pos,af,some (j,want)⟩::rest) s h K=agQ P wz ops rest s h K dst want (pop P wz h s (.fieldAddr t x f)) (qW ops j):=agE (qfJ t x f)
theorem ag_index(t:TypeId)(x i:Operand){j:Nat}{want:Bool}:
 QA P wz ops (⟨dst, .index t x i,ty,pos,af,some (j,want)⟩::rest) s h K=agQ P wz ops rest s h K dst want (pop P wz h s (.index t x i)) (qW ops j):=agE (qnb t x i)
theorem qmw(t:TypeId)(x i:Operand){j:Nat}{want:Bool}:
 QA P wz ops (⟨dst, .indexAddr t x i,ty,pos,af,some (j,want)⟩::rest) s h K=agQ P wz ops rest s h K dst want (pop P wz h s (.indexAddr t x i)) (qW ops j):=agE (qfI t x i)
theorem qbS(x:Operand){j:Nat}{want:Bool}:
 QA P wz ops (⟨dst, .nilCheck x,ty,pos,af,some (j,want)⟩::rest) s h K=agQ P wz ops rest s h K dst want (pop P wz h s (.nilCheck x)) (qW ops j):=agE (qhy x)
theorem qal(a:Array Operand)(t:Array TypeId){j:Nat}{want:Bool}:
 QA P wz ops (⟨dst, .call ⟨.builtin .len,a,t⟩,ty,pos,af,some (j,want)⟩::rest) s h K=agQ P wz ops rest s h K dst want (pop P wz h s (.call ⟨.builtin .len,a,t⟩)) (qW ops j):=agE (pu_len a t)
theorem ag_cap(a:Array Operand)(t:Array TypeId){j:Nat}{want:Bool}:
 QA P wz ops (⟨dst, .call ⟨.builtin .cap,a,t⟩,ty,pos,af,some (j,want)⟩::rest) s h K=agQ P wz ops rest s h K dst want (pop P wz h s (.call ⟨.builtin .cap,a,t⟩)) (qW ops j):=agE (pu_cap a t)
theorem Yh{fo:Operand}{args:Array Operand}{ts:Array TypeId}{j:Nat}{want:Bool}{f:FuncId}{cap xs:List AVal}{V:AVal}(hk:Yw (gv s ops j)=true)
 (hf:QY (gv s ops j) want=true->ev s fo= .func f cap/\evs s args.toList++cap=xs) (hc:QY (gv s ops j) want=true->ACall P wz f xs h (fun x h'=>x=V/\h'=h))
 (hr:QA P wz ops rest (putD s dst (Qt (QY (gv s ops j) want) V)) h K):
 QA P wz ops (⟨dst, .call ⟨.value fo,args,ts⟩,ty,pos,af,some (j,want)⟩::rest) s h K:=by
 unfold gv at hk hf hc hr;cases hj:qW ops j with
 |none=>rw[hj]at hk;cases hk
 |some d=>
  simp only[hj]at hk hf hc hr;refine qil hj rfl hk (fun hb=>?_) (fun hb=>?_)
  ·refine qY (hf hb).1 (hf hb).2 (hc hb) fun x h' ⟨e1,e2⟩=>?_
   subst e1 e2;simpa[hb,Qt]using hr
  ·simpa[hb,Qt]using hr
end
section
variable {P:Program} {wz:World} {n:FrameK} {s:Slots} {h:AHeap} {Q:Exit->Slots->AHeap->Prop}
theorem keep_get(s:Slots)(L:List Nat)(i:Nat):(s.keep L).get i=s.get i\/(s.keep L).get i= .dead:=by
 rw[Slots.get_keep];split
 ·exact .inl rfl
 ·exact .inr rfl
def Sub(h' h:AHeap):Prop:=∀k b,h' k=some b->h k=some b
theorem Sub.refl(h:AHeap):Sub h h:=fun _ _ e=>e
theorem Sub.trans{a b c:AHeap}(x:Sub a b)(y:Sub b c):Sub a c:=fun k v e=>y k v (x k v e)
theorem Sub.set{h:AHeap}{k:Nat}{b:Blk}(hk:h k=none):Sub h (h.set k b):=fun j c e=>by
 by_cases ej:j=k
 ·subst ej;rw[hk]at e;cases e
 ·rw[AHeap.set_ne _ _ ej];exact e
theorem Sub.trans_set{h' h:AHeap}{k:Nat}{b:Blk}(hs:Sub h' h)(hk:h' k=none):Sub h' (h.set k b):=fun j c e=>by
 by_cases ej:j=k
 ·subst ej;rw[hk]at e;cases e
 ·rw[AHeap.set_ne _ _ ej];exact hs j c e
theorem Sub.none{h' h:AHeap}(hs:Sub h' h){k:Nat}(hk:h k=none):h' k=none:=by
 cases e:h' k with
 |none=>rfl
 |some b=>rw[hs k b e]at hk;cases hk
theorem QN{γ:Type}{c:Code}(L:List Nat)(S:γ->Slots)(H:γ->AHeap)(I:γ->Prop)(m:γ->Nat)(g₀:γ)(hs:s.keep L=S g₀)(hh:Sub (H g₀) h)(hi:I g₀)
 (round:∀g,I g->Awp P wz n c (qdh (fun s' h'=>∃g',s'.keep L=S g'/\Sub (H g') h'/\I g'/\m g'<m g) Q) (S g) (H g)):Awp P wz n (.loop c) Q s h:=by
 refine Awp.keep L ?_;rw[hs];refine Awp.forget hh ?_;refine awp_loop (fun s h=>∃g,s=S g/\(∃h',h=h'/\Sub (H g) h')/\I g) (fun s h=>leastOf fun k=>∃g,s=S g/\Sub (H g) h/\I g/\m g=k) ⟨g₀,rfl,⟨_,rfl,Sub.refl _⟩,hi⟩ fun s1 h1 hI=>?_;obtain⟨g1,e1,⟨_,e2,e2'⟩,e3⟩:=hI;subst e2;obtain⟨⟨g,f1,f2,f3,f4⟩,_⟩:=leastOf_spec (p:=fun k=>∃g,s1=S g/\Sub (H g) h1/\I g/\m g=k) ⟨_,g1,e1,e2',e3,rfl⟩;subst f1;refine Awp.forget f2 ((round g f3).mono fun e s' h' hq=>?_);cases e<;>simp only[qdh]at hq|- <;>first
  |exact hq
  |skip
 obtain⟨g',q1,q2,q3,q4⟩:=hq;refine⟨s'.keep L,fun i=>keep_get s' L i,⟨g',q1,⟨_,rfl,q2⟩,q3⟩,?_⟩;have:=(leastOf_spec (p:=fun k=>∃g,s'.keep L=S g/\Sub (H g) h'/\I g/\m g=k) ⟨_,g',q1,q2,q3,rfl⟩).2 _ ⟨g',q1,q2,q3,rfl⟩;omega
theorem Xf{rs:List ResultVar}{R:AVal->AHeap->Prop}(h':AHeap)(hs:Sub h' h)(hp:Wz P wz s h rs)(hr:R (qaR P wz s h rs) h'):qcf P wz rs R .ret s h:=⟨hp,h',hs,hr⟩
theorem qJ{t:Nat}{rs:List ResultVar}(hp:Wz P wz s h rs):Wz P wz s h (.tmp t::rs):=⟨trivial,hp⟩
theorem qO:Wz P wz s h []:=trivial
theorem Qg(t:Nat):qaR P wz s h [.tmp t]=s.get t:=rfl
theorem Zm(t u:Nat):qaR P wz s h [.tmp t, .tmp u]= .tuple [s.get t,s.get u]:=rfl
theorem qeg:qaR P wz s h []= .tuple []:=rfl
theorem QS{ops rest:List Oper}{K:Slots->AHeap->Prop}{dst:Option Tmp}{fo:Operand}{args:Array Operand}{ts:Array TypeId}{ty:TypeId}{pos:String}{af:Array Edge}{f:FuncId}{cap xs:List AVal}{V:AVal}
 (hf:ev s fo= .func f cap) (hx:evs s args.toList++cap=xs) (hc:ACall P wz f xs h (fun x h'=>x=V/\h'=h)) (hk:QA P wz ops rest (putD s dst V) h K):
 QA P wz ops (⟨dst, .call ⟨.value fo,args,ts⟩,ty,pos,af,none⟩::rest) s h K:=
 qY hf hx hc fun x h' ⟨e1,e2⟩=>by subst e1 e2;exact hk
end
theorem es_to{P:Program}{t u:TypeId}{d:TypeDesc}(hu:P.underlying u=some d)(hd:∀e,d≠ .slice e):(!Zy P t u && !qbO P t u)=true:=by
 have e1:Zy P t u=false:=by
  unfold Zy;split
  ·rename_i e _ h;rw[hu]at h;exact absurd (Option.some.inj h) (hd e)
  ·rfl
 have e2:qbO P t u=false:=by
  unfold qbO;by_cases htu:t=u
  ·subst htu
   split
   ·rename_i e h;rw[hu]at h;exact absurd (Option.some.inj h) (hd e)
   ·simp
  ·simp[htu]
 rw[e1,e2];rfl
theorem qmb{P:Program}{t u:TypeId}{d:TypeDesc}{k:IntKind}(_:P.underlying t=some d)(hu:P.underlying u=some (.int k)):(!Zy P t u && !qbO P t u)=true:=es_to hu (fun _=>by simp)
theorem es_str{P:Program}{t u:TypeId}{d:TypeDesc}(_:P.underlying t=some d)(hu:P.underlying u=some .string):(!Zy P t u && !qbO P t u)=true:=es_to hu (fun _=>by simp)
section
variable {P:Program} {wz:World} {ops rest:List Oper} {s:Slots} {h:AHeap} {K:Slots->AHeap->Prop} {dst:Option Tmp} {ty:TypeId} {pos:String} {af:Array Edge}
theorem qdd(t u:TypeId)(x:Operand)(hs:(!Zy P t u && !qbO P t u)=true):
 QA P wz ops (⟨dst, .convert t u x,ty,pos,af,none⟩::rest) s h K=((pop P wz h s (.convert t u x)).pre/\QA P wz ops rest (putD s dst (pop P wz h s (.convert t u x)).val) h K):=Wd (qoE t u x hs)
end
section
variable {K:Slots->AHeap->Prop} {Q:Exit->Slots->AHeap->Prop} {s:Slots} {h:AHeap}
theorem QM:qdh K Q .ret s h=Q .ret s h:=rfl
theorem qR:qdh K Q .normal s h=K s h:=rfl
theorem Zg(i:Nat):qcn i Q .normal s h=Q .normal s h:=rfl
theorem Xl(i:Nat):qcn i Q .ret s h=Q .ret s h:=rfl
end
inductive IsB(wz:World)(h:AHeap):AVal->List UInt8->Prop
 |nil:IsB wz h .nilSlice []
 |mk (l:Loc) (o n:Nat) (c:Cap) (bs:List UInt8) (hn:n=bs.length) (hc:Qd wz h l o n=byteCells bs) (hcap:match c with| .exact c=>n<=c| .grow g=>g=1):IsB wz h (.slice l o n c) bs
theorem UA(wz:World)(h:AHeap)(l:Loc):∀(n o i:Nat),i<n->(Qd wz h l o n)[i]?=some (rd wz h l (o+i))
 |n+1,o,0,_=>by simp[Qd]
 |n+1,o,i+1,hi=>by
  simp only[Qd,KN];rw[UA wz h l n (o+1) i (by omega)];congr 2;omega
theorem qhR{wz:World}{h:AHeap}{k:Nat}{b:Blk}(hk:h k=some b)(o n:Nat)(hn:o+n<=b.cells.length):Qd wz h (.own k) o n=(b.cells.drop o).take n:=by
 apply KZ;intro i;by_cases hi:i<n
 ·rw[UA wz h (.own k) n o i hi]
  have:o+i<b.cells.length:=by omega
  simp[rd,hk,hi,Ko,Kq,this]
 ·rw[Kr (by rw[WL];omega),Kr (by simp;omega)]
section
variable {P:Program} {wz:World} {h:AHeap} {v:AVal} {bs:List UInt8}
theorem qmj(wz:World)(h:AHeap)(l:Loc)(o n i j:Nat)(hij:i<=j)(hj:j<=n):Qd wz h l (o+i) (j-i)=((Qd wz h l o n).drop i).take (j-i):=by
 apply KZ;intro q;by_cases hq:q<j-i
 ·rw[UA _ _ _ _ _ _ hq,K3,if_pos hq,Kq,UA _ _ _ _ _ _ (by omega)]
  congr 2;omega
 ·rw[Kr (by rw[WL];omega),Kr (by simp;omega)]
end
theorem qfd(wz:World)(h:AHeap)(k o:Nat)(b:Blk):rd wz (h.set k b) (.own k) o=b.cells.getD o .dead:=by simp[rd,AHeap.set_same]
section
variable {P:Program} {wz:World} {ops rest:List Oper} {s:Slots} {h:AHeap} {K:Slots->AHeap->Prop} {dst:Option Tmp} {ty:TypeId} {pos:String} {af:Array Edge}
theorem Zb{op:Op}{j:Nat}{want:Bool}(hg:gv s ops j= .bool want)(hk:QA P wz ops (⟨dst,op,ty,pos,af,none⟩::rest) s h K):
 QA P wz ops (⟨dst,op,ty,pos,af,some (j,want)⟩::rest) s h K:=by
 unfold gv at hg;cases hj:qW ops j with
 |none=>rw[hj]at hg;cases hg
 |some d=>
  rw[hj]at hg;simp only at hg;by_cases hp:XU P op=true
  ·rw[qpI hj hp,hg]
   rw[Wd hp]at hk;have e:QY (.bool want) want=true:=by simp[QY]
   rw[e];exact⟨rfl,fun _=>hk.1,hk.2⟩
  ·refine qil hj (by simpa using hp) (by rw[hg];rfl) (fun _=>hk) (fun e=>?_)
   rw[hg]at e;simp[QY]at e
theorem qbb{op:Op}{j:Nat}{want b:Bool}(hg:gv s ops j= .bool b)(hb:b= !want)(hk:QA P wz ops rest (putD s dst (.tuple [])) h K):
 QA P wz ops (⟨dst,op,ty,pos,af,some (j,want)⟩::rest) s h K:=by
 unfold gv at hg;subst hb;cases hj:qW ops j with
 |none=>rw[hj]at hg;cases hg
 |some d=>
  rw[hj]at hg;simp only at hg;have e:QY (.bool (!want)) want=false:=by cases want<;>rfl
  by_cases hp:XU P op=true
  ·rw[qpI hj hp,hg,e]
   exact⟨rfl,fun e'=>(by cases e'),hk⟩
  ·refine qil hj (by simpa using hp) (by rw[hg];rfl) (fun e'=>?_) (fun _=>hk)
   rw[hg,e]at e';cases e'
theorem Qi{t:TypeId}{x y:Operand}{k o n:Nat}{b:Blk}{v:AVal}(hx:ev s x= .ptr (.own k) o)(hv:ev s y=v)(hb:h k=some b)(hn:ZH P t=some n)(hl:v.live=true)(hc:v.cells.length=n)
 (ho:o+n<=b.cells.length) (hf:b.frz<=o) (hs:QU v.cells=true) (hk:QA P wz ops rest (putD s dst (.tuple [])) (h.set k ⟨setAt b.cells o v.cells,b.frz⟩) K):
 QA P wz ops (⟨dst, .store t x y,ty,pos,af,none⟩::rest) s h K:=by
 rw[qbz];simp only[eop,qme,hx,hv,hb,hn];exact⟨⟨hl,hc,by omega,hf,hs⟩,hk⟩
end
theorem UZ{P:Program}{wz:World}{f:FuncId}{fn:Func}{h:AHeap}{args:List AVal}{V:AVal}{vals:List Value}{val:Value}(hf:P.funcs[f]?=some fn)(hname:(fn.name== "runtime.NumGoroutine")=false)(hb:fn.body.isSome=true)
 (hv:∀fi vs,VRs fi args vs->vs=vals) (hV:∀fi,VR fi V val) (hc:∀w,Calls P f vals.toArray w fun e w'=>e= .returned val/\Go.RowKit.Below w.heap.size w w'):
 ACall P wz f args h (fun v h'=>v=V/\h'=h):=by
 intro fi vs w hr hvs;obtain rfl:=hv fi vs hvs;refine .inl ⟨fn,hf,hname,hb,(hc w).mono fun e w' ⟨e1,e2⟩=>⟨val,e1,fi,V,h,fi.le_refl,hr.later e2,hV fi,rfl,rfl⟩⟩
section
variable {P:Program} {wz:World} {ops rest:List Oper} {s:Slots} {h:AHeap} {K:Slots->AHeap->Prop} {dst:Option Tmp} {ty:TypeId} {pos:String} {af:Array Edge}
end
def pSliceS(s:List UInt8):Option Int->Option Int->PR
 |some l,some h=>⟨0<=l/\l<=h/\h<=s.length, .str ((s.drop l.toNat).take (h.toNat-l.toNat))⟩
 |_,_=> .no
def qlI(lc:Loc)(o len es:Nat):Option Int->Option Int->PR
 |some l,some h=>⟨0<=l/\l<=h/\h<=len, .slice lc (o+l.toNat*es) (h-l).toNat (.grow es)⟩
 |_,_=> .no
theorem qsU(d:Nat):qcw none d=some (d:Int):=rfl
theorem qdR(k:IntKind)(n:Int)(d:Nat):qcw (some (.int k n)) d=some n:=rfl
section
variable {P:Program}
theorem qse{t e:TypeId}{es:Nat}(ht:P.underlying t=some (.slice e))(hs:ZH P e=some es)(l:Loc)(o len:Nat)(lo hi:Option AVal):
 WI P t (.slice l o len (.grow es)) lo hi none=qlI l o len es (qcw lo 0) (qcw hi len):=by
 simp only[WI,ht,hs];cases qcw lo 0<;>cases qcw hi len<;>simp[qlI]
end
theorem Xd{α:Type}(s:List α):(s=[])=(s.length=0):=by simp
def Sc:AVal->Prop
 | .agg _=>False
 | .dead=>False
 | .mapO _=>False
 | .mapE _ _ _=>False
 | .iterO _ _ _ _=>False
 |_=>True
theorem qgu(l:Loc)(o n:Nat)(c:Cap):Sc (.slice l o n c)=True:=eq_true trivial
theorem Ue{P:Program}{wz:World}{ops rest:List Oper}{s:Slots}{h:AHeap}{K:Slots->AHeap->Prop}{dst:Option Tmp}{ty:TypeId}{pos:String}{af:Array Edge}{e:TypeId}{x:Operand}{v:AVal}{cs:List AVal}
 (hx:ev s x=v) (hl:v.live=true) (hc:v.cells=cs) (hk:∀k,h k=none->QA P wz ops rest (putD s dst (.ptr (.own k) 0)) (h.set k ⟨cs,0⟩) K):
 QA P wz ops (⟨dst, .box e x,ty,pos,af,none⟩::rest) s h K:=by
 rw[qbz];simp only[eop,hx,hc];exact⟨hl,hk⟩
theorem Xb{P:Program}{wz:World}{ops rest:List Oper}{s:Slots}{h:AHeap}{K:Slots->AHeap->Prop}{dst:Option Tmp}{ty:TypeId}{pos:String}{af:Array Edge}{e:TypeId}{z:Value}{cs:List AVal}
 (hz:Ua P e=some z) (hc:z.cells.toList.map qG=cs) (hk:∀k,h k=none->QA P wz ops rest (putD s dst (.ptr (.own k) 0)) (h.set k ⟨cs,0⟩) K):
 QA P wz ops (⟨dst, .alloc e,ty,pos,af,none⟩::rest) s h K:=by
 rw[qbz];simp only[eop,hz,hc];exact hk
theorem Qu{P:Program}{wz:World}{s:Slots}{h:AHeap}{rs:List ResultVar}{R:AVal->AHeap->Prop}(hp:Wz P wz s h rs)(hr:∃h',Sub h' h/\R (qaR P wz s h rs) h'):qcf P wz rs R .ret s h:=⟨hp,hr⟩
theorem Us{P:Program}{wz:World}{s:Slots}{h:AHeap}{rs:List ResultVar}{R:AVal->AHeap->Prop}(hp:Wz P wz s h rs)(hr:∃h',Sub h' h/\R (qaR P wz s h rs) h'):qcf P wz rs R .normal s h:=⟨hp,hr⟩
section
variable {P:Program} {wz:World} {s:Slots} {h:AHeap}
theorem YU(a:Nat)(t:TypeId):qiN P wz s h (.cell a t)=ZV P wz h t (s.get a):=rfl
theorem qiP(r:ResultVar):qaR P wz s h [r]=(qiN P wz s h r).val:=rfl
theorem qiO(r u:ResultVar):qaR P wz s h [r,u]= .tuple [(qiN P wz s h r).val,(qiN P wz s h u).val]:=rfl
theorem Xz(t:TypeId)(ps:List (Nat×Operand)):pop P wz h s (.build t ps.toArray)=YV P t (evP s ps):=rfl
end
theorem Qj(wz:World){h:AHeap}{k:Nat}{b:Blk}(hk:h k=some b)(o:Nat):rd wz h (.own k) o=b.cells.getD o .dead:=by simp[rd,hk]
theorem rd_ne(wz:World)(h:AHeap){j k:Nat}(b:Blk)(hj:j≠k)(o:Nat):rd wz (h.set k b) (.own j) o=rd wz h (.own j) o:=by simp only[rd,AHeap.set_ne h b hj]
theorem XN(wz:World)(h:AHeap)(k o:Nat)(cs:List AVal)(f:Nat):rd wz (h.set k ⟨cs,f⟩) (.own k) o=cs.getD o .dead:=qfd wz h k o ⟨cs,f⟩
section
variable {P:Program} {wz:World} {ops rest:List Oper} {s:Slots} {h:AHeap} {K:Slots->AHeap->Prop} {dst:Option Tmp} {ty:TypeId} {pos:String} {af:Array Edge}
theorem Qh{t:TypeId}{n:Nat}{ps:List (Nat×Operand)}{cs:List AVal}(hb:qaI P t n (evP s ps)=some cs)
 (hk:∀k,h k=none->QA P wz ops rest (putD s dst (.slice (.own k) 0 n (.exact n))) (h.set k ⟨cs,0⟩) K):
 QA P wz ops (⟨dst, .buildSlice t n ps.toArray,ty,pos,af,none⟩::rest) s h K:=by
 rw[qbz];simp only[eop,hb];exact hk
end
theorem qau(c:Bool)(v w:AVal):YN (!c) v (Qt c w)=YN (!c) v w:=by cases c<;>cases v<;>cases w<;>simp[YN,Qt]
theorem qbo(a b:AVal):YN true a b=a:=by cases a<;>cases b<;>rfl
theorem Zl(a b:AVal):YN false a b=b:=by cases a<;>cases b<;>rfl
theorem qaH(g c:Bool)(x y:AVal):Qt g (YN c (Qt (g && c) x) y)=Qt g (YN c x y):=by cases g<;>cases c<;>cases x<;>cases y<;>simp[YN,Qt]
theorem qcs(g c:Bool)(x y:AVal):Qt g (YN c x (Qt (g && !c) y))=Qt g (YN c x y):=by cases g<;>cases c<;>cases x<;>cases y<;>simp[YN,Qt]
theorem qnD(g c:Bool)(x y:AVal):Qt g (YN (!c) x (Qt (g && c) y))=Qt g (YN (!c) x y):=by cases g<;>cases c<;>cases x<;>cases y<;>simp[YN,Qt]
theorem Yy{P:Program}{wz:World}{n:FrameK}{s:Slots}{h:AHeap}{Q Q':Exit->Slots->AHeap->Prop}{γ:Type}{x y:Code}(L:List Nat)(S:γ->Slots)(H:γ->AHeap)(I:γ->Prop)
 (hx:Awp P wz n x (qdh (fun s' h'=>∃g,s'.keep L=S g/\Sub (H g) h'/\I g) Q') s h) (hy:∀g,I g->Awp P wz n y Q (S g) (H g)):Awp P wz n x (qdh (Awp P wz n y Q) Q') s h:=
 hx.mono fun e s' h' hq=>by
  cases e<;>simp only[qdh]at hq|- <;>first
   |exact hq
   |skip
  obtain⟨g,q1,q2,q3⟩:=hq;refine Awp.keep L ?_;rw[q1];exact Awp.forget q2 (hy g q3)
theorem qdm{P:Program}{wz:World}{f:FuncId}{fn:Func}{h:AHeap}{args:List AVal}{V:AVal}{vals:List Value}{val:Value}(hf:P.funcs[f]?=some fn)(hname:(fn.name== "runtime.NumGoroutine")=false)(hb:fn.body.isSome=true)
 (hv:∀fi vs,VRs fi args vs->vs=vals) (hV:∀fi,VR fi V val) (hc:∀w,Go.RowKit.Below wz.heap.size wz w->Calls P f vals.toArray w fun e w'=>e= .returned val/\Go.RowKit.Below w.heap.size w w'):
 ACall P wz f args h (fun v h'=>v=V/\h'=h):=by
 intro fi vs w hr hvs;obtain rfl:=hv fi vs hvs;refine .inl ⟨fn,hf,hname,hb,(hc w hr.below).mono fun e w' ⟨e1,e2⟩=>⟨val,e1,fi,V,h,fi.le_refl,hr.later e2,hV fi,rfl,rfl⟩⟩
theorem qjN{fi:PMap}{s t:List UInt8}{vs:List Value}(h:VRs fi [.str s, .str t] vs):vs=[.string ⟨⟨s⟩⟩, .string ⟨⟨t⟩⟩]:=by
 simp only[VRs,VR]at h;obtain⟨v,vs',rfl,rfl,v2,vs2,rfl,rfl,rfl⟩:=h;rfl
section
variable {P:Program} {wz:World} {ops rest:List Oper} {s:Slots} {h:AHeap} {K:Slots->AHeap->Prop} {dst:Option Tmp} {ty:TypeId} {pos:String} {af:Array Edge}
def apL(P:Program)(wz:World)(ops rest:List Oper)(s:Slots)(h:AHeap)(K:Slots->AHeap->Prop)(dst:Option Tmp)(r:PR):Prop:=r.pre/\QA P wz ops rest (putD s dst r.val) h K
def agL(P:Program)(wz:World)(ops rest:List Oper)(s:Slots)(h:AHeap)(K:Slots->AHeap->Prop)(dst:Option Tmp)(g:AVal)(want:Bool)(r:PR):Prop:=agP P wz ops rest s h K dst g want r
def agQL(P:Program)(wz:World)(ops rest:List Oper)(s:Slots)(h:AHeap)(K:Slots->AHeap->Prop)(dst:Option Tmp)(want:Bool)(r:PR):Option Tmp->Prop
 |none=>QA P wz ops rest (putD s dst (.tuple [])) h K
 |some d=>agL P wz ops rest s h K dst (s.get d) want r
theorem Xp{want:Bool}{r:PR}{d:Tmp}:agQL P wz ops rest s h K dst want r (some d)=agL P wz ops rest s h K dst (s.get d) want r:=rfl
theorem qI(t:TypeId)(x:Operand):QA P wz ops (⟨dst, .load t x,ty,pos,af,none⟩::rest) s h K=apL P wz ops rest s h K dst (ZV P wz h t (ev s x)):=by rw[ap_load];rfl
theorem XJ(t:TypeId)(x:Operand){j:Nat}{want:Bool}:QA P wz ops (⟨dst, .load t x,ty,pos,af,some (j,want)⟩::rest) s h K=agQL P wz ops rest s h K dst want (ZV P wz h t (ev s x)) (qW ops j):=by
 rw[ag_load];cases qW ops j<;>rfl
theorem Qc(p:Prop)(v:AVal):apL P wz ops rest s h K dst ⟨p,v⟩=(p/\QA P wz ops rest (putD s dst v) h K):=rfl
theorem ZL(g:AVal)(want:Bool)(p:Prop)(v:AVal):agL P wz ops rest s h K dst g want ⟨p,v⟩=agP P wz ops rest s h K dst g want ⟨p,v⟩:=rfl
theorem qmy(b:Bool)(t:TypeId)(x:AVal):agL P wz ops rest s h K dst (.bool (!b)) false (ZV P wz h t (Qt b x))=agL P wz ops rest s h K dst (.bool (!b)) false (ZV P wz h t x):=by
 cases b<;>first|rfl|simp[agL,agP,QY,Qt]
theorem agL_ld6(c b:Bool)(t:TypeId)(x:AVal):agL P wz ops rest s h K dst (Qt c (.bool (!b))) false (ZV P wz h t (Qt (c && b) x))=agL P wz ops rest s h K dst (Qt c (.bool (!b))) false (ZV P wz h t x):=by
 cases c<;>cases b<;>first|rfl|simp[agL,agP,QY,Qt]
theorem agL_il5(b:Bool)(t:TypeId)(x y:AVal):agL P wz ops rest s h K dst (.bool (!b)) false (Xh P t (Qt b x) y)=agL P wz ops rest s h K dst (.bool (!b)) false (Xh P t x y):=by
 cases b<;>first|rfl|simp[agL,agP,QY,Qt]
theorem agL_ir5(b:Bool)(t:TypeId)(x y:AVal):agL P wz ops rest s h K dst (.bool (!b)) false (Xh P t x (Qt b y))=agL P wz ops rest s h K dst (.bool (!b)) false (Xh P t x y):=by
 cases b<;>first|rfl|simp[agL,agP,QY,Qt]
theorem qbT(b:Bool)(t:TypeId)(x:AVal):agL P wz ops rest s h K dst (.bool b) true (ZV P wz h t (Qt b x))=agL P wz ops rest s h K dst (.bool b) true (ZV P wz h t x):=by
 cases b<;>first|rfl|simp[agL,agP,QY,Qt]
theorem qik(b:Bool)(t:TypeId)(x:AVal):agL P wz ops rest s h K dst (.bool b) false (ZV P wz h t (Qt (!b) x))=agL P wz ops rest s h K dst (.bool b) false (ZV P wz h t x):=by
 cases b<;>first|rfl|simp[agL,agP,QY,Qt]
theorem agL_ld3(c b:Bool)(t:TypeId)(x:AVal):agL P wz ops rest s h K dst (Qt c (.bool b)) true (ZV P wz h t (Qt (c && b) x))=agL P wz ops rest s h K dst (Qt c (.bool b)) true (ZV P wz h t x):=by
 cases c<;>cases b<;>first|rfl|simp[agL,agP,QY,Qt]
theorem qmz(c b:Bool)(t:TypeId)(x:AVal):agL P wz ops rest s h K dst (Qt c (.bool b)) false (ZV P wz h t (Qt (c && !b) x))=agL P wz ops rest s h K dst (Qt c (.bool b)) false (ZV P wz h t x):=by
 cases c<;>cases b<;>first|rfl|simp[agL,agP,QY,Qt]
theorem qmB(b:Bool)(t:TypeId)(x y:AVal):agL P wz ops rest s h K dst (.bool b) true (Xh P t (Qt b x) y)=agL P wz ops rest s h K dst (.bool b) true (Xh P t x y):=by
 cases b<;>first|rfl|simp[agL,agP,QY,Qt]
theorem agL_il3(c b:Bool)(t:TypeId)(x y:AVal):agL P wz ops rest s h K dst (Qt c (.bool b)) true (Xh P t (Qt (c && b) x) y)=agL P wz ops rest s h K dst (Qt c (.bool b)) true (Xh P t x y):=by
 cases c<;>cases b<;>first|rfl|simp[agL,agP,QY,Qt]
theorem qmA(b:Bool)(t:TypeId)(x y:AVal):agL P wz ops rest s h K dst (.bool b) true (Xh P t x (Qt b y))=agL P wz ops rest s h K dst (.bool b) true (Xh P t x y):=by
 cases b<;>first|rfl|simp[agL,agP,QY,Qt]
theorem agL_ir3(c b:Bool)(t:TypeId)(x y:AVal):agL P wz ops rest s h K dst (Qt c (.bool b)) true (Xh P t x (Qt (c && b) y))=agL P wz ops rest s h K dst (Qt c (.bool b)) true (Xh P t x y):=by
 cases c<;>cases b<;>first|rfl|simp[agL,agP,QY,Qt]
theorem qZ(t:TypeId)(x i:Operand):QA P wz ops (⟨dst, .indexAddr t x i,ty,pos,af,none⟩::rest) s h K=apL P wz ops rest s h K dst (Xh P t (ev s x) (ev s i)):=by rw[qmv];rfl
theorem Zp(t:TypeId)(x i:Operand){j:Nat}{want:Bool}:QA P wz ops (⟨dst, .indexAddr t x i,ty,pos,af,some (j,want)⟩::rest) s h K=agQL P wz ops rest s h K dst want (Xh P t (ev s x) (ev s i)) (qW ops j):=by
 rw[qmw];cases qW ops j<;>rfl
section
variable {v:AVal} {bs:List UInt8} (hb:IsB wz h v bs)
include hb
end
end
section
variable {P:Program} {wz:World} {ops rest:List Oper} {s:Slots} {h:AHeap} {K:Slots->AHeap->Prop} {dst:Option Tmp} {ty:TypeId} {pos:String} {af:Array Edge}
end
end Go.AM
namespace Go.AM
open Go.RowKit (Below)
theorem wf_u8{n:Int}(h:(Lit.int .u8 n).wf=true):0<=n/\n<=255:=by
 have e1:IntKind.u8.min=0:=by decide
 have e2:IntKind.u8.max=255:=by decide
 simpa[Lit.wf,e1,e2]using h
theorem str_le{s:ByteArray}(h:s.size<=maxLen):s.data.toList.length<=9223372036854775807:=by
 have:s.data.toList.length=s.size:=rfl;rw[this];exact h
theorem qtd(fi:PMap)(s:ByteArray):VR fi (.str s.data.toList) (.string s):=by simp[VR]
theorem qey{w:World}{b o:Nat}{v:Value}(h:w.cell? ⟨b,o,none⟩=some v):b<w.heap.size:=by
 simp only[World.cell?]at h;cases hb:w.heap[b]? with
 |none=>simp[hb]at h
 |some x=>exact(Array.getElem?_eq_some_iff.1 hb).1
def qoL(op:Op):List Nat:=op.operands.toList.filterMap fun| .tmp t=>some t|_=>none
def QF(ops:List Oper)(o:Oper):List Nat:=
 qoL o.op++match o.guard with
  |some (j,_)=>(qW ops j).toList
  |none=>[]
def ZO(P:Program)(wz:World)(ops:List Oper):List Oper->Slots->AHeap->(Slots->AHeap->Prop)->Prop
 |[],s,h,K=>K s h
 |o::rest,s,h,K=>
  match o.guard with
  |none=>∃V,eop P wz h (s.keep (QF ops o)) o.op (fun x h'=>x=V/\h'=h)/\ZO P wz ops rest (putD s o.dst V) h K
  |some (j,want)=>match qW ops j with
   |none=>ZO P wz ops rest (putD s o.dst (.tuple [])) h K
   |some d=>Yw (s.get d)=true/\∃V,(QY (s.get d) want=true->eop P wz h (s.keep (QF ops o)) o.op (fun x h'=>x=V/\h'=h))/\ZO P wz ops rest (putD s o.dst (Qt (QY (s.get d) want) V)) h K
theorem qcc{P:Program}{wz:World}{ops:List Oper}{h:AHeap}{K K':Slots->AHeap->Prop}:∀{l:List Oper} {s:Slots},ZO P wz ops l s h K->(∀s h,K s h->K' s h)->ZO P wz ops l s h K'
 |[],s,hv,hk=>hk _ _ hv
 |o::rest,s,hv,hk=>by
  simp only[ZO]at hv|-
  split
  ·rename_i hg
   rw[hg]at hv;obtain⟨V,h1,h2⟩:=hv;exact⟨V,h1,qcc h2 hk⟩
  ·rename_i j want hg
   rw[hg]at hv;simp only at hv;split
   ·rename_i hj
    rw[hj]at hv;exact qcc hv hk
   ·rename_i d hj
    rw[hj]at hv;obtain⟨h1,V,h2,h3⟩:=hv;exact⟨h1,V,h2,qcc h3 hk⟩
section
variable {P:Program} {wz:World} {n:FrameK} {h:AHeap}
def StepOk(P:Program)(wz:World)(n:FrameK)(h:AHeap)(ops:List Oper)(o:Oper)(S:Slots)(V:AVal):Prop:=
 ∀(Ps:PMap) (w:World) (a:Act) (next:Act->World->Prop) (Q:Exit->Act->World->Prop),HRel wz Ps h w->SRel Ps n (S.keep (QF ops o)) a->
  (∀ψ' v w',Ps.le ψ'->HRel wz ψ' h w'->VR ψ' V v->next (a.put o.dst v) w')->
  if Region.wanted o (yielded ops.toArray a.tmps)=true then o.wp P a w next Q else next (a.put o.dst undef) w
theorem qbW{n:Nat}:∀(l:List Oper) (j d:Nat),QD n l=true->qW l j=some d->d<n:=by
 intro l;induction l with
 |nil=>intro j d _ h;simp[qW]at h
 |cons o r ih=>
  intro j d h1 h2;simp only[QD,Ky]at h1;cases j with
  |zero=>simp only[qW]at h2;rw[h2]at h1;simpa using h1.1
  |succ j=>exact ih j d h1.2 h2
theorem StepOk.plain{ops:List Oper}{o:Oper}{S:Slots}{V:AVal}(hg:o.guard=none)(he:eop P wz h (S.keep (QF ops o)) o.op (fun x h'=>x=V/\h'=h)):StepOk P wz n h ops o S V:=by
 intro Ps w a next Q hr hs hn;have hw:Region.wanted o (yielded ops.toArray a.tmps)=true:=by simp[Region.wanted,hg]
 rw[if_pos hw];exact qfm o he hr hs fun ψ' x h' v w' h1 h2 h3 ⟨e1,e2⟩=>by subst e1 e2;exact hn ψ' v w' h1 h2 h3
theorem StepOk.guarded{ops:List Oper}(hall:QD n ops=true){o:Oper}{S:Slots}{V:AVal}{j d:Nat}{want:Bool}(hg:o.guard=some (j,want))(hj:qW ops j=some d)(hk:Yw (S.get d)=true)
 (he:QY (S.get d) want=true->eop P wz h (S.keep (QF ops o)) o.op (fun x h'=>x=V/\h'=h)):StepOk P wz n h ops o S (Qt (QY (S.get d) want) V):=by
 intro Ps w a next Q hr hs hn;have hd:(S.keep (QF ops o)).get d=S.get d:=by
  rw[Slots.get_keep,if_pos];simp[QF,hg,hj]
 have hw:Region.wanted o (yielded ops.toArray a.tmps)=QY (S.get d) want:=by
  have:=qco hs ops j d hj (qbW ops j d hall hj) (by rw[hd];exact hk) want;rw[hd]at this;simp only[Region.wanted,hg];exact this
 cases hb:QY (S.get d) want with
 |true=>
  rw[hw,hb,if_pos rfl];rw[hb]at hn;exact qfm o (he hb) hr hs fun ψ' x h' v w' h1 h2 h3 ⟨e1,e2⟩=>by subst e1 e2;exact hn ψ' v w' h1 h2 h3
 |false=>
  rw[hw,hb,if_neg (by decide)];rw[hb]at hn;exact hn Ps undef w Ps.le_refl hr (Yu Ps)
theorem StepOk.never{ops:List Oper}{o:Oper}{S:Slots}{j:Nat}{want:Bool}(hg:o.guard=some (j,want))(hj:qW ops j=none):StepOk P wz n h ops o S (.tuple []):=by
 intro Ps w a next Q hr hs hn;have hd:(ops.toArray[j]?).bind (·.dst)=none:=by rw[<-hj,ZJ];simp
 have hw:Region.wanted o (yielded ops.toArray a.tmps)=false:=by
  simp only[Region.wanted,hg,yielded,hd];rfl
 rw[if_neg (by rw[hw];decide)];exact hn Ps undef w Ps.le_refl hr (Yu Ps)
def QK(s:Slots)(l:List Oper)(Vs:List AVal):Nat->Slots
 |0=>s
 |i+1=>match l[i]? with
  |some o=>putD (QK s l Vs i) o.dst (Vs.getD i .dead)
  |none=>QK s l Vs i
theorem Wi(s:Slots)(l:List Oper)(A B:List AVal):∀i,i<=A.length->QK s l (A++B) i=QK s l A i
 |0,_=>rfl
 |i+1,hi=>by
  simp only[QK,Wi s l A B i (by omega)];have:(A++B).getD i .dead=A.getD i .dead:=by simp[Ko,Jb,show i<A.length by omega]
  rw[this]
theorem qiu{l:List Oper}(hall:QD n l=true){s:Slots}{K:Slots->AHeap->Prop}:∀(rest pre:List Oper) (A:List AVal),l=pre++rest->A.length=pre.length->ZO P wz l rest (QK s l A pre.length) h K->
 ∃B:List AVal,B.length=rest.length/\(∀i o,pre.length<=i->l[i]?=some o->StepOk P wz n h l o (QK s l (A++B) i) ((A++B).getD i .dead))/\K (QK s l (A++B) l.length) h
 |[],pre,A,hl,hA,hv=>⟨[],rfl,fun i o hi ho=>by
   rw[hl]at ho;simp at ho;have:=(Jy.1 ho).1;omega,by
   have e:l.length=pre.length:=by rw[hl];simp
   rw[Jz,e];exact hv⟩
 |o::rest,pre,A,hl,hA,hv=>by
  have hat:l[pre.length]?=some o:=by rw[hl];simp
  have go:∀V,StepOk P wz n h l o (QK s l A pre.length) V->ZO P wz l rest (putD (QK s l A pre.length) o.dst V) h K->
   ∃B:List AVal,B.length=(o::rest).length/\(∀i o,pre.length<=i->l[i]?=some o->StepOk P wz n h l o (QK s l (A++B) i) ((A++B).getD i .dead))/\K (QK s l (A++B) l.length) h:=by
   intro V hst hv';have e:QK s l (A++[V]) (pre++[o]).length=putD (QK s l A pre.length) o.dst V:=by
    rw[Jc,JA,QK,hat];simp only;rw[Wi s l A [V] _ (by omega)];congr 1;simp[Ko,<-hA]
   obtain⟨B,h1,h2,h3⟩:=qiu hall rest (pre++[o]) (A++[V]) (by simp[hl]) (by simp[hA]) (by rw[e];exact hv');refine⟨V::B,by simp[h1],fun i o' hi ho'=>?_,by simpa using h3⟩;rcases JB hi with e'|e'
   ·subst e'
    rw[hat]at ho';obtain rfl:=Option.some.inj ho';rw[Wi s l A (V::B) _ (by omega)];have:(A++V::B).getD pre.length .dead=V:=by simp[Ko,<-hA]
    rw[this];exact hst
   ·have:=h2 i o' (by simp;omega) ho'
    simpa using this
  simp only[ZO]at hv;cases hg:o.guard with
  |none=>
   simp only[hg]at hv;obtain⟨V,h1,h2⟩:=hv;exact go V (.plain hg h1) h2
  |some gw=>
   obtain⟨j,want⟩:=gw;simp only[hg]at hv;cases hj:qW l j with
   |none=>
    simp only[hj]at hv;exact go _ (.never hg hj) hv
   |some d=>
    simp only[hj]at hv;obtain⟨hk,V,h1,h2⟩:=hv;exact go _ (.guarded hall hg hj hk h1) h2
def Un(l:List Oper):Bool:=
 (KQ l.length).all fun i=>match l[i]? with
  |none=>true
  |some oi=>(oi.after.all fun e=> !Region.binds .any e||decide (e.on<i)) &&
   (KQ l.length).all fun j=>match l[j]? with
    |none=>true
    |some oj=>(match oj.dst with
      |none=>true
      |some t=>(decide (i=j)||decide (oi.dst≠some t)) &&
        (!(QF l oi).contains t||(decide (j<i) && Region.waitsFor .any l.toArray i j)||(decide (i<j) && Region.waitsFor .any l.toArray j i)))
theorem XR{l:List Oper}(hB:Un l=true){i:Nat}{oi:Oper}(hi:l[i]?=some oi):
 (∀e∈oi.after,Region.binds .any e=true->e.on<i)/\∀j oj t,l[j]?=some oj->oj.dst=some t->(oi.dst=some t->i=j)/\
  (t∈QF l oi->(j<i/\Region.waitsFor .any l.toArray i j=true)\/(i<j/\Region.waitsFor .any l.toArray j i=true)):=by
 unfold Un at hB;rw[JC]at hB;have h1:=hB i (by rw[JD];exact(Jy.1 hi).1);simp only[hi,Ky]at h1;obtain⟨ha,hb⟩:=h1;refine⟨fun e he hbd=>?_,fun j oj t hj hd=>?_⟩
 ·rw[JE]at ha
  have:=ha e he;simpa[hbd]using this
 ·rw[JC]at hb
  have h2:=hb j (by rw[JD];exact(Jy.1 hj).1);simp only[hj,hd,Ky,JF,decide_eq_true_eq,Ji,JG]at h2;refine⟨fun he=>?_,fun ht=>?_⟩
  ·rcases h2.1 with e|e
   ·exact e
   ·exact absurd he e
  ·rcases h2.2 with(e|e)|e
   ·exact absurd ht (by simpa using e)
   ·exact .inl e
   ·exact .inr e
theorem Yb(s:Slots)(d:Option Tmp)(x:AVal)(t:Nat):(putD s d x).get t=if d=some t then x else s.get t:=by
 cases d with
 |none=>simp[putD]
 |some d=>
  simp only[putD,Slots.get_put,Option.some.injEq];by_cases e:t=d
  ·subst e;simp
  ·rw[if_neg e,if_neg (fun e'=>e e'.symm)]
theorem WF{l:List Oper}(hB:Un l=true)(s:Slots)(Vs:List AVal){j:Nat}{oj:Oper}{t:Nat}(hj:l[j]?=some oj)(hd:oj.dst=some t):∀i,j<i->i<=l.length->(QK s l Vs i).get t=Vs.getD j .dead
 |0,h,_=>by omega
 |i+1,h,hi=>by
  obtain⟨o,ho⟩:∃o,l[i]?=some o:=⟨_,JH (show i<l.length by omega)⟩
  simp only[QK,ho,Yb];by_cases e:o.dst=some t
  ·have:i=j:=(((XR hB ho).2 j oj t hj hd).1 e)
   subst this;rw[if_pos e]
  ·rw[if_neg e]
   refine WF hB s Vs hj hd i ?_ (by omega);rcases JB (JI h)with e'|e'
   ·subst e'
    rw[hj]at ho;obtain rfl:=Option.some.inj ho;exact absurd hd e
   ·exact e'
theorem ZP{l:List Oper}(s:Slots)(Vs:List AVal){t:Nat}:∀i,(∀j oj,j<i->l[j]?=some oj->oj.dst≠some t)->(QK s l Vs i).get t=s.get t
 |0,_=>rfl
 |i+1,h=>by
  have ih:=ZP s Vs (t:=t) i fun j oj hj=>h j oj (by omega);simp only[QK];split
  ·rename_i o ho
   rw[Yb,if_neg (h i o (by omega) ho),ih]
  ·exact ih
structure AnyInv(l:List Oper)(Vs:List AVal)(s:Slots)(Ps:PMap)(n:FrameK)(listed:Array Bool)(a:Act):Prop where
 size:listed.size=l.length
 closed:∀j oj,l[j]?=some oj->listed.getD j false=true->∀e∈oj.after,Region.binds .any e=true->listed.getD e.on false=true
 tsize:a.tmps.size=n
 defers:a.defers=n.dfr
 done:∀t j oj,l[j]?=some oj->oj.dst=some t->listed.getD j false=true->VR Ps (Vs.getD j .dead) (a.tmps.getD t undef)
 still:∀t,(∀j oj,l[j]?=some oj->oj.dst=some t->listed.getD j false=false)->VR Ps (s.get t) (a.tmps.getD t undef)
theorem set_self{listed:Array Bool}{i:Nat}(hi:i<listed.size):(listed.setIfInBounds i true).getD i false=true:=by
 simp[JJ,hi]
theorem XB{listed:Array Bool}{i j:Nat}(h:j≠i):(listed.setIfInBounds i true).getD j false=listed.getD j false:=by
 rw[Ku,Ku,Kv (Ne.symm h)]
theorem qde{l:List Oper}(hB:Un l=true){listed:Array Bool}(hs:listed.size=l.length)(hr:Region.ready .any l.toArray listed=[]):∀i,i<l.length->listed.getD i false=true:=by
 intro i;induction i using Ju with
 |ind i ih=>
  intro hi;cases hl:listed.getD i false with
  |true=>rfl
  |false=>
   exfalso;obtain⟨o,ho⟩:∃o,l[i]?=some o:=⟨_,JH hi⟩
   have:i∈Region.ready .any l.toArray listed:=by
    rw[mem_ready];refine⟨?_,o,by simpa using ho,fun e he hb=>?_⟩
    ·have hi':i<listed.size:=by omega
     simp[JJ,hi']at hl|-;exact hl
    ·have hlt:=(XR hB ho).1 e he hb
     exact ih e.on hlt (by omega)
   rw[hr]at this;cases this
theorem qbg:∀(l:List Bool) (i:Nat),l[i]?=some false->((l.set i true).filter (!·)).length+1=(l.filter (!·)).length
 |[],_,h=>by simp at h
 |b::l,0,h=>by
  simp only[Kz,Option.some.injEq]at h;subst h;simp
 |b::l,i+1,h=>by
  simp only[KN]at h;have:=qbg l i h;cases b<;>simp[Kj]<;>omega
theorem any_ok{l:List Oper}(hall:QD n l=true)(hB:Un l=true){s:Slots}{Vs:List AVal}(hst:∀i o,l[i]?=some o->StepOk P wz n h l o (QK s l Vs i) (Vs.getD i .dead)){fi:PMap}{Q:Exit->Act->World->Prop}
 (hq:∀Ps a w,fi.le Ps->HRel wz Ps h w->SRel Ps n (QK s l Vs l.length) a->Q .normal a w):∀(fuel:Nat) (listed:Array Bool) (a:Act) (w:World) (Ps:PMap),fi.le Ps->HRel wz Ps h w->AnyInv l Vs s Ps n listed a->
 (listed.toList.filter (!·)).length<=fuel->wpAny P .any l.toArray Q fuel listed a w:=by
 have fin:∀(listed:Array Bool) (a:Act) (w:World) (Ps:PMap),fi.le Ps->HRel wz Ps h w->AnyInv l Vs s Ps n listed a->Region.ready .any l.toArray listed=[]->Q .normal a w:=by
  intro listed a w Ps hle hr inv hrd;refine hq Ps a w hle hr ⟨inv.tsize,inv.defers,fun t=>?_⟩;by_cases hw:∃(j:Nat) (oj:Oper),l[j]?=some oj/\oj.dst=some t
  ·obtain⟨j,oj,hj,hd⟩:=hw
   have hlt:=(Jy.1 hj).1;rw[WF hB s Vs hj hd l.length hlt (KM _)];exact inv.done t j oj hj hd (qde hB inv.size hrd j hlt)
  ·rw[ZP s Vs l.length fun j oj _ hj hd=>hw ⟨j,oj,hj,hd⟩]
   exact inv.still t fun j oj hj hd=>absurd ⟨j,oj,hj,hd⟩ hw
 intro fuel;induction fuel with
 |zero=>
  intro listed a w Ps hle hr inv hc;have hrd:Region.ready .any l.toArray listed=[]:=by
   cases hrd:Region.ready .any l.toArray listed with
   |nil=>rfl
   |cons i r=>
    exfalso;have hm:i∈Region.ready .any l.toArray listed:=by rw[hrd];exact Jf
    obtain⟨h1,o,ho,_⟩:=mem_ready.1 hm;have hi:i<listed.size:=by
     have:l[i]?=some o:=by simpa using ho
     rw[inv.size];exact(Jy.1 this).1
    have h2:listed.toList[i]?=some false:=by
     simp[JJ,hi]at h1;simp[hi,h1]
    have:=JK h2;have hmem:false∈listed.toList.filter (!·):=by simp[JL,this]
    have:=JM hmem;omega
  exact⟨hrd,fin listed a w Ps hle hr inv hrd⟩
 |succ fuel ih=>
  intro listed a w Ps hle hr inv hc;refine⟨fun hrd=>fin listed a w Ps hle hr inv hrd,fun i hi=>?_⟩;obtain⟨h1,o,ho,hedges⟩:=mem_ready.1 hi;have hol:l[i]?=some o:=by simpa using ho
  have hilt:i<l.length:=(Jy.1 hol).1;have hisz:i<listed.size:=by rw[inv.size];exact hilt
  have hif:listed.getD i false=false:=by simp[JJ,hisz]at h1|-;exact h1
  have spec:=XR hB hol;have hs:SRel Ps n ((QK s l Vs i).keep (QF l o)) a:=by
   refine⟨inv.tsize,inv.defers,fun t=>?_⟩;rw[Slots.get_keep];by_cases ht:(QF l o).contains t=true
   ·rw[if_pos ht]
    have ht':t∈QF l o:=by simpa using ht
    by_cases hw:∃(j:Nat) (oj:Oper),l[j]?=some oj/\oj.dst=some t
    ·obtain⟨j,oj,hj,hd⟩:=hw
     rcases(spec.2 j oj t hj hd).2 ht' with⟨c1,c2⟩|⟨c1,c2⟩
     ·rw[WF hB s Vs hj hd i c1 (by omega)]
      refine inv.done t j oj hj hd ?_;obtain⟨oi,g1,e,g2,g3,g4⟩:=Region.waitsFor_spec c2;rw[ho]at g1;obtain rfl:=Option.some.inj g1;rw[<-g4];exact hedges e g2 g3
     ·rw[ZP s Vs i fun j' oj' hj'' hj' hd'=>by
       have:=((XR hB hj').2 j oj t hj hd).1 hd';omega]
      refine inv.still t fun j' oj' hj' hd'=>?_;have e:=((XR hB hj').2 j oj t hj hd).1 hd';subst e;cases hl:listed.getD j' false with
      |false=>rfl
      |true=>
       exfalso;obtain⟨oi,g1,e,g2,g3,g4⟩:=Region.waitsFor_spec c2;have g1':l[j']?=some oi:=by simpa using g1
       have:=inv.closed j' oi g1' hl e g2 g3;rw[g4,hif]at this;cases this
    ·rw[ZP s Vs i fun j oj _ hj hd=>hw ⟨j,oj,hj,hd⟩]
     exact inv.still t fun j oj hj hd=>absurd ⟨j,oj,hj,hd⟩ hw
   ·rw[if_neg ht]
    trivial
  have step:=hst i o hol Ps w a (wpAny P .any l.toArray Q fuel (listed.setIfInBounds i true)) Q hr hs fun ψ' v w' hle' hr' hv=>by
   have hdn:∀d,o.dst=some d->d<n:=fun d hd=>qbW l i d hall (by rw[ZJ,hol];exact hd);refine ih _ _ _ ψ' (PMap.le_trans hle hle') hr' ?_ ?_
   ·refine⟨by simp[inv.size],fun j oj hj hl e he hb=>?_,?_,?_,fun t j oj hj hd hl=>?_,fun t hun=>?_⟩
    ·by_cases e1:e.on=i
     ·rw[e1];exact set_self hisz
     ·rw[XB e1]
      by_cases e2:j=i
      ·subst e2
       rw[hol]at hj;obtain rfl:=Option.some.inj hj;exact hedges e he hb
      ·rw[XB e2]at hl
       exact inv.closed j oj hj hl e he hb
    ·cases hod:o.dst with
     |none=>simpa[Act.put]using inv.tsize
     |some d=>simpa[Act.put]using inv.tsize
    ·cases hod:o.dst with
     |none=>simpa[Act.put]using inv.defers
     |some d=>simpa[Act.put]using inv.defers
    ·by_cases e:j=i
     ·subst e
      rw[hol]at hj;obtain rfl:=Option.some.inj hj;have hlt:t<a.tmps.size:=by rw[inv.tsize];exact hdn t hd
      have:(a.put o.dst v).tmps.getD t undef=v:=by rw[hd];simp[Act.put,hlt]
      rw[this];exact hv
     ·rw[XB e]at hl
      have hne:o.dst≠some t:=fun hod=>e (((spec.2 j oj t hj hd).1 hod).symm);have:(a.put o.dst v).tmps.getD t undef=a.tmps.getD t undef:=by
       cases hod:o.dst with
       |none=>rfl
       |some d=>
        have hdt:d≠t:=fun e=>hne (by rw[hod,e]);simp[Act.put,Ku,Kv hdt]
      rw[this];exact YG hle' _ _ (inv.done t j oj hj hd hl)
    ·have hne:o.dst≠some t:=fun hod=>by
      have:=hun i o hol hod;rw[set_self hisz]at this;cases this
     have:(a.put o.dst v).tmps.getD t undef=a.tmps.getD t undef:=by
      cases hod:o.dst with
      |none=>rfl
      |some d=>
       have hdt:d≠t:=fun e=>hne (by rw[hod,e]);simp[Act.put,Ku,Kv hdt]
     rw[this];refine YG hle' _ _ (inv.still t fun j oj hj hd=>?_);have e:j≠i:=fun e=>by subst e;rw[hol]at hj;obtain rfl:=Option.some.inj hj;exact hne hd
     have:=hun j oj hj hd
     rwa [XB e]at this
   ·have h2:listed.toList[i]?=some false:=by
     simp[JJ,hisz]at h1;simp[hisz,h1]
    have:=qbg listed.toList i h2;have e:(listed.setIfInBounds i true).toList=listed.toList.set i true:=by simp
    rw[e];omega
  simp only[wpOp,ho];split
  ·rename_i hw
   rw[if_pos hw]at step;exact .inl step
  ·rename_i hw
   rw[if_neg hw]at step;exact step
theorem qmt{Q:Exit->Slots->AHeap->Prop}{s:Slots}{id:Nat}{l:List Oper}(hm:P.follows .mixedOrders=true)(hB:Un l=true)(hd:QD n l=true)(hc:ZO P wz l l s h (fun s' h'=>Q .normal s' h')):
 Awp P wz n (.region id l.toArray true) Q s h:=by
 refine Awp.of0 ?_;intro fi a w hr hs;obtain⟨Vs,h1,h2,h3⟩:=qiu (P:=P) (wz:=wz) (n:=n) (h:=h) hd (s:=s) l [] [] rfl rfl hc;simp only[Je,JN,Jr,true_implies]at h1 h2 h3;refine wp_region_any hm ?_;refine any_ok (fi:=fi) hd hB (s:=s) (Vs:=Vs) (fun i o ho=>h2 i o ho) (fun Ps a' w' hle hr' hs'=>⟨Ps,_,h,hle,hr',hs',h3⟩) _ _ _ _ fi fi.le_refl hr.drew ?_ ?_
 ·have hf:∀j,(Jv l.toArray.size false).getD j false=false:=fun j=>by
   simp[JJ]
  refine⟨by simp,fun j oj _ hl=>(by rw[hf]at hl;cases hl),hs.size,hs.defers,fun t j oj _ _ hl=>(by rw[hf]at hl;cases hl),fun t _=>hs.val t⟩
 ·have:=List.length_filter_le (!·) (Jv l.toArray.size false).toList
  simpa using this
theorem qgn{Q:Exit->Slots->AHeap->Prop}{s:Slots}{id:Nat}{l:List Oper}{y:Code}(L:List Nat)(hm:P.follows .mixedOrders=true)(hB:Un l=true)(hd:QD n l=true)
 (hc:∀K:Slots->AHeap->Prop,(∀s h,Awp P wz n y Q s h->K s h)->ZO P wz l l s h (fun s' h'=>K (s'.keep L) h')):Awp P wz n (.seq (.region id l.toArray true) y) Q s h:=
 qF (qmt hm hB hd (hc (fun s h=>Awp P wz n y Q (s) h) (fun _ _ hk=>hk) |> fun hv=>qcc hv fun _ _ hk=>Awp.keep L hk))
end
end Go.AM
namespace Go.AM
theorem Zw{s:Slots}{L:List Nat}{x:Operand}(h:∀t,x= .tmp t->t∈L):ev (s.keep L) x=ev s x:=by
 cases x with
 |tmp t=>
  simp only[ev,Slots.get_keep];rw[if_pos (by simpa using h t rfl)]
 |_=>rfl
theorem XW{ops:List Oper}{o:Oper}{x:Operand}(h:x∈o.op.operands.toList):∀t,x= .tmp t->t∈QF ops o:=by
 rintro t rfl;unfold QF qoL;rw[List.mem_append];exact .inl (List.mem_filterMap.2 ⟨_,h,rfl⟩)
theorem qgd{s:Slots}{L:List Nat}:∀{xs:List Operand},(∀x∈xs,∀t,x= .tmp t->t∈L)->evs (s.keep L) xs=evs s xs
 |[],_=>rfl
 |x::xs,h=>by
  have:=qgd (s:=s) (L:=L) (xs:=xs) fun y hy=>h y (Jg _ hy);simp only[evs,Ke]at this|-
  rw[Zw (h x Jf),this]
section
variable {P:Program} {wz:World} {ops rest:List Oper} {s:Slots} {h:AHeap} {K:Slots->AHeap->Prop} {dst:Option Tmp} {ty:TypeId} {pos:String} {af:Array Edge}
theorem qdt:ZO P wz ops [] s h K=K s h:=rfl
theorem qhp{op:Op}(hp:XU P op=true)(hk:pop P wz h (s.keep (QF ops ⟨dst,op,ty,pos,af,none⟩)) op=pop P wz h s op):
 ZO P wz ops (⟨dst,op,ty,pos,af,none⟩::rest) s h K=((pop P wz h s op).pre/\ZO P wz ops rest (putD s dst (pop P wz h s op).val) h K):=by
 simp only[ZO];refine propext ⟨fun⟨V,h1,h2⟩=>?_,fun⟨h1,h2⟩=>⟨_,(Uc hp).2 ⟨by rw[hk];exact h1,by rw[hk],rfl⟩,h2⟩⟩;obtain⟨g1,g2,_⟩:=(Uc hp).1 h1;rw[hk]at g1 g2;subst g2;exact⟨g1,h2⟩
def vgP(P:Program)(wz:World)(ops rest:List Oper)(s:Slots)(h:AHeap)(K:Slots->AHeap->Prop)(dst:Option Tmp)(g:AVal)(want:Bool)(r:PR):Prop:=
 Yw g=true/\(QY g want=true->r.pre)/\ZO P wz ops rest (putD s dst (Qt (QY g want) r.val)) h K
def vgQ(P:Program)(wz:World)(ops rest:List Oper)(s:Slots)(h:AHeap)(K:Slots->AHeap->Prop)(dst:Option Tmp)(want:Bool)(r:PR):Option Tmp->Prop
 |none=>ZO P wz ops rest (putD s dst (.tuple [])) h K
 |some d=>vgP P wz ops rest s h K dst (s.get d) want r
theorem qis{want:Bool}{r:PR}{d:Tmp}:vgQ P wz ops rest s h K dst want r (some d)=vgP P wz ops rest s h K dst (s.get d) want r:=rfl
theorem qks{op:Op}{j:Nat}{want:Bool}(hp:XU P op=true)(hk:pop P wz h (s.keep (QF ops ⟨dst,op,ty,pos,af,some (j,want)⟩)) op=pop P wz h s op):
 ZO P wz ops (⟨dst,op,ty,pos,af,some (j,want)⟩::rest) s h K=vgQ P wz ops rest s h K dst want (pop P wz h s op) (qW ops j):=by
 simp only[ZO];cases qW ops j with
 |none=>rfl
 |some d=>
  simp only[vgQ,vgP];refine propext ⟨fun⟨h0,V,h1,h2⟩=>?_,fun⟨h0,h1,h2⟩=>⟨h0,_,fun hg=>(Uc hp).2 ⟨by rw[hk];exact h1 hg,by rw[hk],rfl⟩,h2⟩⟩;cases hg:QY (s.get d) want with
  |false=>
   rw[hg]at h2;exact⟨h0,fun e=>(by cases e),h2⟩
  |true=>
   obtain⟨g1,g2,_⟩:=(Uc hp).1 (h1 hg);rw[hk]at g1 g2;subst g2;rw[hg]at h2;exact⟨h0,fun _=>g1,h2⟩
theorem qlm(x:Operand):ZO P wz ops (⟨dst, .move x,ty,pos,af,none⟩::rest) s h K=((pop P wz h s (.move x)).pre/\ZO P wz ops rest (putD s dst (pop P wz h s (.move x)).val) h K):=
 qhp rfl (by
  simp only[pop,Zw (XW (o:=⟨dst, .move x,ty,pos,af,none⟩) (x:=x) (by simp[Op.operands]))])
theorem qpR(x:Operand){j:Nat}{want:Bool}:ZO P wz ops (⟨dst, .move x,ty,pos,af,some (j,want)⟩::rest) s h K=vgQ P wz ops rest s h K dst want (pop P wz h s (.move x)) (qW ops j):=
 qks rfl (by
  simp only[pop,Zw (XW (o:=⟨dst, .move x,ty,pos,af,some (j,want)⟩) (x:=x) (by simp[Op.operands]))])
theorem qpP(c a b:Operand):ZO P wz ops (⟨dst, .pick c a b,ty,pos,af,none⟩::rest) s h K=((pop P wz h s (.pick c a b)).pre/\ZO P wz ops rest (putD s dst (pop P wz h s (.pick c a b)).val) h K):=
 qhp rfl (by
  simp only[pop,Zw (XW (o:=⟨dst, .pick c a b,ty,pos,af,none⟩) (x:=c) (by simp[Op.operands])),Zw (XW (o:=⟨dst, .pick c a b,ty,pos,af,none⟩) (x:=a) (by simp[Op.operands])),Zw (XW (o:=⟨dst, .pick c a b,ty,pos,af,none⟩) (x:=b) (by simp[Op.operands]))])
theorem qmJ(o:BinOp)(t:TypeId)(x y:Operand)(u:TypeId):ZO P wz ops (⟨dst, .binOp o t x y u,ty,pos,af,none⟩::rest) s h K=((pop P wz h s (.binOp o t x y u)).pre/\ZO P wz ops rest (putD s dst (pop P wz h s (.binOp o t x y u)).val) h K):=
 qhp rfl (by
  simp only[pop,Zw (XW (o:=⟨dst, .binOp o t x y u,ty,pos,af,none⟩) (x:=x) (by simp[Op.operands])),Zw (XW (o:=⟨dst, .binOp o t x y u,ty,pos,af,none⟩) (x:=y) (by simp[Op.operands]))])
theorem vg_unOp(o:UnOp)(t:TypeId)(x:Operand){j:Nat}{want:Bool}:ZO P wz ops (⟨dst, .unOp o t x,ty,pos,af,some (j,want)⟩::rest) s h K=vgQ P wz ops rest s h K dst want (pop P wz h s (.unOp o t x)) (qW ops j):=
 qks rfl (by
  simp only[pop,Zw (XW (o:=⟨dst, .unOp o t x,ty,pos,af,some (j,want)⟩) (x:=x) (by simp[Op.operands]))])
theorem qcG(t:TypeId)(x:Operand):ZO P wz ops (⟨dst, .load t x,ty,pos,af,none⟩::rest) s h K=((pop P wz h s (.load t x)).pre/\ZO P wz ops rest (putD s dst (pop P wz h s (.load t x)).val) h K):=
 qhp rfl (by
  simp only[pop,Zw (XW (o:=⟨dst, .load t x,ty,pos,af,none⟩) (x:=x) (by simp[Op.operands]))])
theorem qpS(t:TypeId)(x:Operand){j:Nat}{want:Bool}:ZO P wz ops (⟨dst, .load t x,ty,pos,af,some (j,want)⟩::rest) s h K=vgQ P wz ops rest s h K dst want (pop P wz h s (.load t x)) (qW ops j):=
 qks rfl (by
  simp only[pop,Zw (XW (o:=⟨dst, .load t x,ty,pos,af,some (j,want)⟩) (x:=x) (by simp[Op.operands]))])
theorem ZN(t:TypeId)(x:Operand)(f:Nat):ZO P wz ops (⟨dst, .fieldAddr t x f,ty,pos,af,none⟩::rest) s h K=((pop P wz h s (.fieldAddr t x f)).pre/\ZO P wz ops rest (putD s dst (pop P wz h s (.fieldAddr t x f)).val) h K):=
 qhp rfl (by
  simp only[pop,Zw (XW (o:=⟨dst, .fieldAddr t x f,ty,pos,af,none⟩) (x:=x) (by simp[Op.operands]))])
theorem qfz(t:TypeId)(x:Operand)(f:Nat){j:Nat}{want:Bool}:ZO P wz ops (⟨dst, .fieldAddr t x f,ty,pos,af,some (j,want)⟩::rest) s h K=vgQ P wz ops rest s h K dst want (pop P wz h s (.fieldAddr t x f)) (qW ops j):=
 qks rfl (by
  simp only[pop,Zw (XW (o:=⟨dst, .fieldAddr t x f,ty,pos,af,some (j,want)⟩) (x:=x) (by simp[Op.operands]))])
theorem qfw(t:TypeId)(x i:Operand):ZO P wz ops (⟨dst, .indexAddr t x i,ty,pos,af,none⟩::rest) s h K=((pop P wz h s (.indexAddr t x i)).pre/\ZO P wz ops rest (putD s dst (pop P wz h s (.indexAddr t x i)).val) h K):=
 qhp rfl (by
  simp only[pop,Zw (XW (o:=⟨dst, .indexAddr t x i,ty,pos,af,none⟩) (x:=x) (by simp[Op.operands])),Zw (XW (o:=⟨dst, .indexAddr t x i,ty,pos,af,none⟩) (x:=i) (by simp[Op.operands]))])
theorem qfy(t:TypeId)(x i:Operand){j:Nat}{want:Bool}:ZO P wz ops (⟨dst, .indexAddr t x i,ty,pos,af,some (j,want)⟩::rest) s h K=vgQ P wz ops rest s h K dst want (pop P wz h s (.indexAddr t x i)) (qW ops j):=
 qks rfl (by
  simp only[pop,Zw (XW (o:=⟨dst, .indexAddr t x i,ty,pos,af,some (j,want)⟩) (x:=x) (by simp[Op.operands])),Zw (XW (o:=⟨dst, .indexAddr t x i,ty,pos,af,some (j,want)⟩) (x:=i) (by simp[Op.operands]))])
theorem qmI(x:Operand):ZO P wz ops (⟨dst, .nilCheck x,ty,pos,af,none⟩::rest) s h K=((pop P wz h s (.nilCheck x)).pre/\ZO P wz ops rest (putD s dst (pop P wz h s (.nilCheck x)).val) h K):=
 qhp rfl (by
  simp only[pop,Zw (XW (o:=⟨dst, .nilCheck x,ty,pos,af,none⟩) (x:=x) (by simp[Op.operands]))])
theorem qmK(x:Operand){j:Nat}{want:Bool}:ZO P wz ops (⟨dst, .nilCheck x,ty,pos,af,some (j,want)⟩::rest) s h K=vgQ P wz ops rest s h K dst want (pop P wz h s (.nilCheck x)) (qW ops j):=
 qks rfl (by
  simp only[pop,Zw (XW (o:=⟨dst, .nilCheck x,ty,pos,af,some (j,want)⟩) (x:=x) (by simp[Op.operands]))])
theorem vp_len(a:List Operand)(t:Array TypeId):ZO P wz ops (⟨dst, .call ⟨.builtin .len,a.toArray,t⟩,ty,pos,af,none⟩::rest) s h K=((pop P wz h s (.call ⟨.builtin .len,a.toArray,t⟩)).pre/\ZO P wz ops rest (putD s dst (pop P wz h s (.call ⟨.builtin .len,a.toArray,t⟩)).val) h K):=
 qhp rfl (by
  simp only[pop];rw[qgd fun x hx=>XW (o:=⟨dst, .call ⟨.builtin .len,a.toArray,t⟩,ty,pos,af,none⟩) (by simp[Op.operands,Call.operands,hx])])
theorem qbi{fo:Operand}{args:List Operand}{ts:Array TypeId}{f:FuncId}{cap xs:List AVal}{V:AVal}(hf:ev s fo= .func f cap)(hx:evs s args++cap=xs)(hc:ACall P wz f xs h (fun x h'=>x=V/\h'=h))
 (hk:ZO P wz ops rest (putD s dst V) h K):ZO P wz ops (⟨dst, .call ⟨.value fo,args.toArray,ts⟩,ty,pos,af,none⟩::rest) s h K:=by
 simp only[ZO];refine⟨V,?_,hk⟩;have e1:ev (s.keep (QF ops ⟨dst, .call ⟨.value fo,args.toArray,ts⟩,ty,pos,af,none⟩)) fo= .func f cap:=by
  rw[Zw (XW (by simp[Op.operands,Call.operands]))];exact hf
 have e2:evs (s.keep (QF ops ⟨dst, .call ⟨.value fo,args.toArray,ts⟩,ty,pos,af,none⟩)) args=evs s args:=
  qgd fun x hx=>XW (by simp[Op.operands,Call.operands,hx])
 simp only[eop,e1,e2,hx];exact hc
theorem qeY{fo:Operand}{args:List Operand}{ts:Array TypeId}{j:Nat}{want:Bool}{f:FuncId}{cap xs:List AVal}{V:AVal}(hk:Yw (gv s ops j)=true)
 (hf:QY (gv s ops j) want=true->ev s fo= .func f cap/\evs s args++cap=xs) (hc:QY (gv s ops j) want=true->ACall P wz f xs h (fun x h'=>x=V/\h'=h))
 (hr:ZO P wz ops rest (putD s dst (Qt (QY (gv s ops j) want) V)) h K):
 ZO P wz ops (⟨dst, .call ⟨.value fo,args.toArray,ts⟩,ty,pos,af,some (j,want)⟩::rest) s h K:=by
 unfold gv at hk hf hc hr;simp only[ZO];cases hj:qW ops j with
 |none=>rw[hj]at hk;cases hk
 |some d=>
  simp only[hj]at hk hf hc hr|-
  refine⟨hk,V,fun hg=>?_,hr⟩;have e1:ev (s.keep (QF ops ⟨dst, .call ⟨.value fo,args.toArray,ts⟩,ty,pos,af,some (j,want)⟩)) fo= .func f cap:=by
   rw[Zw (XW (by simp[Op.operands,Call.operands]))];exact(hf hg).1
  have e2:evs (s.keep (QF ops ⟨dst, .call ⟨.value fo,args.toArray,ts⟩,ty,pos,af,some (j,want)⟩)) args=evs s args:=
   qgd fun x hx=>XW (by simp[Op.operands,Call.operands,hx])
  simp only[eop,e1,e2,(hf hg).2];exact hc hg
end
end Go.AM
namespace Go.AM
open Go.RowKit (Below)
section
variable {P:Program} {wz:World} {n:FrameK} {h:AHeap}
theorem qhr{l:List Oper}(tl:List Oper)(hall:QD n l=true){s:Slots}{K:Slots->AHeap->Prop}:∀(rest pre:List Oper) (A:List AVal),l=pre++rest++tl->A.length=pre.length->ZO P wz l rest (QK s l A pre.length) h K->
 ∃B:List AVal,B.length=rest.length/\(∀i o,pre.length<=i->i<pre.length+rest.length->l[i]?=some o->StepOk P wz n h l o (QK s l (A++B) i) ((A++B).getD i .dead))/\K (QK s l (A++B) (pre.length+rest.length)) h
 |[],pre,A,hl,hA,hv=>⟨[],rfl,fun i o hi hi' ho=>by
   simp only[JN]at hi';omega,by
   rw[Jz];exact hv⟩
 |o::rest,pre,A,hl,hA,hv=>by
  have hat:l[pre.length]?=some o:=by rw[hl];simp
  have go:∀V,StepOk P wz n h l o (QK s l A pre.length) V->ZO P wz l rest (putD (QK s l A pre.length) o.dst V) h K->
   ∃B:List AVal,B.length=(o::rest).length/\(∀i o,pre.length<=i->i<pre.length+(rest.length+1)->l[i]?=some o->StepOk P wz n h l o (QK s l (A++B) i) ((A++B).getD i .dead))/\K (QK s l (A++B) (pre.length+(rest.length+1))) h:=by
   intro V hst hv';have e:QK s l (A++[V]) (pre++[o]).length=putD (QK s l A pre.length) o.dst V:=by
    rw[Jc,JA,QK,hat];simp only;rw[Wi s l A [V] _ (by omega)];congr 1;simp[Ko,<-hA]
   obtain⟨B,h1,h2,h3⟩:=qhr tl hall rest (pre++[o]) (A++[V]) (by simp[hl]) (by simp[hA]) (by rw[e];exact hv');refine⟨V::B,by simp[h1],fun i o' hi hi' ho'=>?_,by simpa[Kw,KA 1]using h3⟩;rcases JB hi with e'|e'
   ·subst e'
    rw[hat]at ho';obtain rfl:=Option.some.inj ho';rw[Wi s l A (V::B) _ (by omega)];have:(A++V::B).getD pre.length .dead=V:=by simp[Ko,<-hA]
    rw[this];exact hst
   ·have:=h2 i o' (by simp;omega) (by simp at hi'|-;omega) ho'
    simpa using this
  simp only[ZO]at hv;cases hg:o.guard with
  |none=>
   simp only[hg]at hv;obtain⟨V,h1,h2⟩:=hv;exact go V (.plain hg h1) h2
  |some gw=>
   obtain⟨j,want⟩:=gw;simp only[hg]at hv;cases hj:qW l j with
   |none=>
    simp only[hj]at hv;exact go _ (.never hg hj) hv
   |some d=>
    simp only[hj]at hv;obtain⟨hk,V,h1,h2⟩:=hv;exact go _ (.guarded hall hg hj hk h1) h2
def qfN(l:List Oper)(k:Nat):Bool:=
 (KQ k).all fun i=>match l[i]? with
  |none=>true
  |some oi=>(oi.after.all fun e=> !Region.binds .any e||decide (e.on<i)) &&
   (KQ k).all fun j=>match l[j]? with
    |none=>true
    |some oj=>(match oj.dst with
      |none=>true
      |some t=>(decide (i=j)||decide (oi.dst≠some t)) &&
        (!(QF l oi).contains t||(decide (j<i) && Region.waitsFor .any l.toArray i j)||(decide (i<j) && Region.waitsFor .any l.toArray j i)))
theorem UM{l:List Oper}{k:Nat}(hB:qfN l k=true){i:Nat}{oi:Oper}(hik:i<k)(hi:l[i]?=some oi):
 (∀e∈oi.after,Region.binds .any e=true->e.on<i)/\∀j oj t,j<k->l[j]?=some oj->oj.dst=some t->(oi.dst=some t->i=j)/\
  (t∈QF l oi->(j<i/\Region.waitsFor .any l.toArray i j=true)\/(i<j/\Region.waitsFor .any l.toArray j i=true)):=by
 unfold qfN at hB;rw[JC]at hB;have h1:=hB i (by rw[JD];exact hik);simp only[hi,Ky]at h1;obtain⟨ha,hb⟩:=h1;refine⟨fun e he hbd=>?_,fun j oj t hjk hj hd=>?_⟩
 ·rw[JE]at ha
  have:=ha e he;simpa[hbd]using this
 ·rw[JC]at hb
  have h2:=hb j (by rw[JD];exact hjk);simp only[hj,hd,Ky,JF,decide_eq_true_eq,Ji,JG]at h2;refine⟨fun he=>?_,fun ht=>?_⟩
  ·rcases h2.1 with e|e
   ·exact e
   ·exact absurd he e
  ·rcases h2.2 with(e|e)|e
   ·exact absurd ht (by simpa using e)
   ·exact .inl e
   ·exact .inr e
theorem qaL{l:List Oper}{k:Nat}(hB:qfN l k=true)(hk:k<=l.length)(s:Slots)(Vs:List AVal){j:Nat}{oj:Oper}{t:Nat}(hjk:j<k)(hj:l[j]?=some oj)(hd:oj.dst=some t):∀i,j<i->i<=k->(QK s l Vs i).get t=Vs.getD j .dead
 |0,h,_=>by omega
 |i+1,h,hi=>by
  obtain⟨o,ho⟩:∃o,l[i]?=some o:=⟨_,JH (show i<l.length by omega)⟩
  simp only[QK,ho,Yb];by_cases e:o.dst=some t
  ·have:i=j:=(((UM hB (by omega) ho).2 j oj t hjk hj hd).1 e)
   subst this;rw[if_pos e]
  ·rw[if_neg e]
   refine qaL hB hk s Vs hjk hj hd i ?_ (by omega);rcases JB (JI h)with e'|e'
   ·subst e'
    rw[hj]at ho;obtain rfl:=Option.some.inj ho;exact absurd hd e
   ·exact e'
def qfh(m k:Nat):Array Bool:=((KQ m).map fun j=>decide (j<k)).toArray
structure AnyInvK(l:List Oper)(k:Nat)(Vs:List AVal)(s:Slots)(Ps:PMap)(n:FrameK)(listed:Array Bool)(a:Act):Prop where
 head:HeadInv .any l.toArray k listed
 tsize:a.tmps.size=n
 defers:a.defers=n.dfr
 done:∀t j oj,j<k->l[j]?=some oj->oj.dst=some t->listed.getD j false=true->VR Ps (Vs.getD j .dead) (a.tmps.getD t undef)
 still:∀t,(∀j oj,j<k->l[j]?=some oj->oj.dst=some t->listed.getD j false=false)->VR Ps (s.get t) (a.tmps.getD t undef)
theorem any_okK{l:List Oper}{k:Nat}(hk:k<l.length)(hall:QD n l=true)(hB:qfN l k=true)(hsink:Region.sinkB .any l.toArray k=true)(hchain:Region.chainB .any l.toArray k=true)
 (hseq:Region.seqB .any l.toArray (l.length-k) k (qfh l.length k)=true) {s:Slots} {Vs:List AVal} (hst:∀i o,i<k->l[i]?=some o->StepOk P wz n h l o (QK s l Vs i) (Vs.getD i .dead)) {fi:PMap} {Q:Exit->Act->World->Prop}
 (hq:∀Ps a w,fi.le Ps->HRel wz Ps h w->SRel Ps n (QK s l Vs k) a->wpList P l.toArray Q (l.drop k) a w):∀(fuel:Nat) (listed:Array Bool) (a:Act) (w:World) (Ps:PMap),fi.le Ps->HRel wz Ps h w->AnyInvK l k Vs s Ps n listed a->
 (listed.toList.filter (!·)).length=fuel->wpAny P .any l.toArray Q fuel listed a w:=by
 have hsize:k<l.toArray.size:=by simpa using hk
 have fin:∀(fuel:Nat) (listed:Array Bool) (a:Act) (w:World) (Ps:PMap),fi.le Ps->HRel wz Ps h w->AnyInvK l k Vs s Ps n listed a->(∀j,j<k->listed.getD j false=true)->(listed.toList.filter (!·)).length=fuel->wpAny P .any l.toArray Q fuel listed a w:=by
  intro fuel listed a w Ps hle hr inv hdone hc;have hls:listed.size=l.length:=by have:=inv.head.size;simpa using this
  have hl:listed=qfh l.length k:=by
   apply Array.ext
   ·rw[hls];simp[qfh]
   ·intro i h1 h2
    have hi:i<l.length:=by omega
    have e2:(qfh l.length k)[i]=decide (i<k):=by simp[qfh]
    rw[e2];by_cases hik:i<k
    ·have:=hdone i hik
     simp[JJ,h1]at this;simp[this,hik]
    ·have:=inv.head.tail i (by omega) (by simpa using hi)
     simp[JJ,h1]at this;simp[this,hik]
  have hfuel:fuel=(l.drop k).length:=by
   rw[<-hc,hl];have:∀m k,k<=m->(((KQ m).map fun j=>decide (j<k)).filter (!·)).length=m-k:=by
    intro m k;induction m with
    |zero=>intro _;simp
    |succ m ih=>
     intro hkm;rw[List.range_succ,List.map_append,List.filter_append,Jc];rcases KU m k with c|c
     ·have e1:m+1=k:=by omega
      have e2:((KQ m).map fun j=>decide (j<k)).filter (!·)=[]:=by
       rw[List.filter_eq_nil_iff];intro b hb;simp only[List.mem_map,JD]at hb;obtain⟨j,hj,rfl⟩:=hb;have:j<k:=by omega
       simp[this]
      rw[e2];simp[c];omega
     ·rw[ih c]
      have:¬m<k:=by omega
      simp[this];omega
   simp only[qfh,K6];exact this l.length k (by omega)
  rw[hfuel,hl];refine wpAny_of_seq (l.drop k) k _ a w (fun j=>by simp[Kq]) (by rw[K6];exact hseq) ?_;refine hq Ps a w hle hr ⟨inv.tsize,inv.defers,fun t=>?_⟩;by_cases hw:∃(j:Nat) (oj:Oper),j<k/\l[j]?=some oj/\oj.dst=some t
  ·obtain⟨j,oj,hjk,hj,hd⟩:=hw
   rw[qaL hB (by omega) s Vs hjk hj hd k hjk (KM _)];exact inv.done t j oj hjk hj hd (hdone j hjk)
  ·rw[ZP s Vs k fun j oj hjk hj hd=>hw ⟨j,oj,hjk,hj,hd⟩]
   exact inv.still t fun j oj hjk hj hd=>absurd ⟨j,oj,hjk,hj,hd⟩ hw
 intro fuel;induction fuel with
 |zero=>
  intro listed a w Ps hle hr inv hc;exfalso;have hls:listed.size=l.length:=by have:=inv.head.size;simpa using this
  have h1:=inv.head.tail k (KM _) hsize;have hkz:k<listed.size:=by omega
  have h2:listed.toList[k]?=some false:=by
   simp[JJ,hkz]at h1;simp[hkz,h1]
  have hmem:false∈listed.toList.filter (!·):=by simp[JL,JK h2]
  have:=JM hmem;omega
 |succ fuel ih=>
  intro listed a w Ps hle hr inv hc;have hls:listed.size=l.length:=by have:=inv.head.size;simpa using this
  by_cases hdone:∀j,j<k->listed.getD j false=true
  ·exact fin _ listed a w Ps hle hr inv hdone hc
  ·obtain⟨u,hu,hul⟩:∃u,u<k/\listed.getD u true=false:=by
    refine Classical.byContradiction fun hne=>hdone fun j hj=>?_;have hjs:j<listed.size:=by omega
    cases e:listed.getD j false with
    |true=>rfl
    |false=>
     exfalso;refine hne ⟨j,hj,?_⟩;simp[JJ,hjs]at e|-;exact e
   refine⟨fun hrd=>?_,fun i hi=>?_⟩
   ·exfalso
    have:∀i,i<k->listed.getD i false=true:=by
     intro i;induction i using Ju with
     |ind i ihh=>
      intro hik;cases hl:listed.getD i false with
      |true=>rfl
      |false=>
       exfalso;obtain⟨o,ho⟩:∃o,l[i]?=some o:=⟨_,JH (by omega)⟩
       have:i∈Region.ready .any l.toArray listed:=by
        rw[mem_ready];refine⟨?_,o,by simpa using ho,fun e he hb=>?_⟩
        ·have hi':i<listed.size:=by omega
         simp[JJ,hi']at hl|-;exact hl
        ·have hlt:=(UM hB hik ho).1 e he hb
         exact ihh e.on hlt (by omega)
       rw[hrd]at this;cases this
    exact hdone this
   ·have hik:i<k:=by
     rcases KU i k with c|c
     ·exact c
     ·exact absurd hi (tail_waits hsink hchain hsize inv.head _ u rfl hu hul i c)
    obtain⟨h1,o,ho,hedges⟩:=mem_ready.1 hi;have hol:l[i]?=some o:=by simpa using ho
    have hisz:i<listed.size:=by omega
    have hif:listed.getD i false=false:=by simp[JJ,hisz]at h1|-;exact h1
    have spec:=UM hB hik hol;have hs:SRel Ps n ((QK s l Vs i).keep (QF l o)) a:=by
     refine⟨inv.tsize,inv.defers,fun t=>?_⟩;rw[Slots.get_keep];by_cases ht:(QF l o).contains t=true
     ·rw[if_pos ht]
      have ht':t∈QF l o:=by simpa using ht
      by_cases hw:∃(j:Nat) (oj:Oper),j<k/\l[j]?=some oj/\oj.dst=some t
      ·obtain⟨j,oj,hjk,hj,hd⟩:=hw
       rcases(spec.2 j oj t hjk hj hd).2 ht' with⟨c1,c2⟩|⟨c1,c2⟩
       ·rw[qaL hB (by omega) s Vs hjk hj hd i c1 (by omega)]
        refine inv.done t j oj hjk hj hd ?_;obtain⟨oi,g1,e,g2,g3,g4⟩:=Region.waitsFor_spec c2;rw[ho]at g1;obtain rfl:=Option.some.inj g1;rw[<-g4];exact hedges e g2 g3
       ·rw[ZP s Vs i fun j' oj' hj'' hj' hd'=>by
         have:=((UM hB (by omega) hj').2 j oj t hjk hj hd).1 hd';omega]
        refine inv.still t fun j' oj' hjk' hj' hd'=>?_;have e:=((UM hB hjk' hj').2 j oj t hjk hj hd).1 hd';subst e;cases hl:listed.getD j' false with
        |false=>rfl
        |true=>
         exfalso;obtain⟨oi,g1,e,g2,g3,g4⟩:=Region.waitsFor_spec c2;have:=inv.head.closed j' oi g1 hl e g2 g3;rw[g4,hif]at this;cases this
      ·rw[ZP s Vs i fun j oj hji hj hd=>hw ⟨j,oj,by omega,hj,hd⟩]
       exact inv.still t fun j oj hjk hj hd=>absurd ⟨j,oj,hjk,hj,hd⟩ hw
     ·rw[if_neg ht]
      trivial
    have step:=hst i o hik hol Ps w a (wpAny P .any l.toArray Q fuel (listed.setIfInBounds i true)) Q hr hs fun ψ' v w' hle' hr' hv=>by
     have hdn:∀d,o.dst=some d->d<n:=fun d hd=>qbW l i d hall (by rw[ZJ,hol];exact hd);refine ih _ _ _ ψ' (PMap.le_trans hle hle') hr' ⟨inv.head.set hi hik,?_,?_,fun t j oj hjk hj hd hl=>?_,fun t hun=>?_⟩ ?_
     ·cases hod:o.dst with
      |none=>simpa[Act.put]using inv.tsize
      |some d=>simpa[Act.put]using inv.tsize
     ·cases hod:o.dst with
      |none=>simpa[Act.put]using inv.defers
      |some d=>simpa[Act.put]using inv.defers
     ·by_cases e:j=i
      ·subst e
       rw[hol]at hj;obtain rfl:=Option.some.inj hj;have hlt:t<a.tmps.size:=by rw[inv.tsize];exact hdn t hd
       have:(a.put o.dst v).tmps.getD t undef=v:=by rw[hd];simp[Act.put,hlt]
       rw[this];exact hv
      ·rw[XB e]at hl
       have hne:o.dst≠some t:=fun hod=>e (((spec.2 j oj t hjk hj hd).1 hod).symm);have:(a.put o.dst v).tmps.getD t undef=a.tmps.getD t undef:=by
        cases hod:o.dst with
        |none=>rfl
        |some d=>
         have hdt:d≠t:=fun e=>hne (by rw[hod,e]);simp[Act.put,Ku,Kv hdt]
       rw[this];exact YG hle' _ _ (inv.done t j oj hjk hj hd hl)
     ·have hne:o.dst≠some t:=fun hod=>by
       have:=hun i o hik hol hod;rw[set_self hisz]at this;cases this
      have:(a.put o.dst v).tmps.getD t undef=a.tmps.getD t undef:=by
       cases hod:o.dst with
       |none=>rfl
       |some d=>
        have hdt:d≠t:=fun e=>hne (by rw[hod,e]);simp[Act.put,Ku,Kv hdt]
      rw[this];refine YG hle' _ _ (inv.still t fun j oj hjk hj hd=>?_);have e:j≠i:=fun e=>by subst e;rw[hol]at hj;obtain rfl:=Option.some.inj hj;exact hne hd
      have:=hun j oj hjk hj hd
      rwa [XB e]at this
     ·have h2:listed.toList[i]?=some false:=by
       simp[JJ,hisz]at h1;simp[hisz,h1]
      have:=qbg listed.toList i h2;have e:(listed.setIfInBounds i true).toList=listed.toList.set i true:=by simp
      rw[e];omega
    simp only[wpOp,ho];split
    ·rename_i hw
     rw[if_pos hw]at step;exact .inl step
    ·rename_i hw
     rw[if_neg hw]at step;exact step
def qts(l:List Oper)(k:Nat):Bool:=
 decide (k<l.length) && qfN l k && Region.sinkB .any l.toArray k && Region.chainB .any l.toArray k && Region.seqB .any l.toArray (l.length-k) k (qfh l.length k)
theorem qeW{Q:Exit->Slots->AHeap->Prop}{s:Slots}{id:Nat}{l:List Oper}(k:Nat)(hm:P.follows .mixedOrders=true)(hB:qts l k=true)(hd:QD n l=true)
 (hc:ZO P wz l (l.take k) s h (fun s' h'=>QA P wz l (l.drop k) s' h' (fun s'' h''=>Q .normal s'' h''))):Awp P wz n (.region id l.toArray true) Q s h:=by
 refine Awp.of0 ?_;intro fi a w hr hs;simp only[qts,Ky,decide_eq_true_eq]at hB;obtain⟨⟨⟨⟨hk,h1⟩,h2⟩,h3⟩,h4⟩:=hB;obtain⟨Vs,g1,g2,g3⟩:=qhr (P:=P) (wz:=wz) (n:=n) (h:=h) (l.drop k) hd (s:=s) (l.take k) [] [] (by simp) rfl hc;have htl:(l.take k).length=k:=by simp;omega
 simp only[Je,JN,Jr,true_implies,Jq,htl]at g1 g2 g3;refine wp_region_any hm ?_;have dtake:∀(l:List Oper) (m:Nat),QD n l=true->QD n (l.drop m)=true:=by
  intro l;induction l with
  |nil=>intro m _;simp[QD]
  |cons o r ih=>
   intro m h;cases m with
   |zero=>simpa using h
   |succ m=>
    simp only[QD,Ky]at h;simpa using ih m h.2
 refine any_okK (fi:=fi) hk hd h1 h2 h3 h4 (s:=s) (Vs:=Vs) (fun i o hi ho=>g2 i o hi ho) (fun Ps a' w' hle hr' hs'=>?_) _ _ _ _ fi fi.le_refl hr.drew ?_ ?_
 ·have:=qgr (P:=P) (wz:=wz) l n hd (l.drop k) k Ps _ h a' w' _ (fun e a' w'=>∃χ s' h',fi.le χ/\HRel wz χ h' w'/\SRel χ n s' a'/\Q e s' h') (fun j=>by simp[Kq]) (dtake l k hd) g3 hr' hs'
   (fun χ s' h' a' w' e1 e2 e3 e4=>⟨χ,s',h',PMap.le_trans hle e1,e2,e3,e4⟩)
  rw[wpOps_eq_wpList (l.drop k) k (fun j=>by simp[Kq])]at this;exact this
 ·have hf:∀j,(Jv l.toArray.size false).getD j false=false:=fun j=>by
   simp[JJ]
  exact⟨⟨by simp,fun j oj _ hl=>(by rw[getD_replicate_false]at hl;cases hl),fun t _ ht=>getD_in (by simpa using ht) (getD_replicate_false _ _)⟩,hs.size,hs.defers,fun t j oj _ _ _ hl=>(by rw[hf]at hl;cases hl),fun t _=>hs.val t⟩
 ·simp
theorem qeU{Q:Exit->Slots->AHeap->Prop}{s:Slots}{id:Nat}{l:List Oper}{y:Code}(k:Nat)(L:List Nat)(hm:P.follows .mixedOrders=true)(hB:qts l k=true)(hd:QD n l=true)
 (hc:∀K:Slots->AHeap->Prop,(∀s h,Awp P wz n y Q s h->K s h)->ZO P wz l (l.take k) s h (fun s' h'=>QA P wz l (l.drop k) s' h' (fun s'' h''=>K (s''.keep L) h''))):Awp P wz n (.seq (.region id l.toArray true) y) Q s h:=
 qF (qeW k hm hB hd (qcc (hc (fun s h=>Awp P wz n y Q s h) (fun _ _ hk=>hk)) fun _ _ ha=>awp_rseq.aOps_mono (fun _ _ hk=>Awp.keep L hk) ha))
end
section
variable {P:Program} {wz:World} {n:FrameK} {h:AHeap}
theorem qmZ(a:Act)(d:Option Tmp)(v:Value){t:Nat}(hne:d≠some t):(a.put d v).tmps.getD t undef=a.tmps.getD t undef:=by
 cases d with
 |none=>rfl
 |some d=>
  have hdt:d≠t:=fun e=>hne (by rw[e]);simp[Act.put,Ku,Kv hdt]
variable {ops rest:List Oper} {dst:Option Tmp} {ty:TypeId} {pos:String} {af:Array Edge}
end
end Go.AM
