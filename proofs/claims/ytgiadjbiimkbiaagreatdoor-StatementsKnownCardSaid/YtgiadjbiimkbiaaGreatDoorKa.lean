/-
  Texts of this proof, joined: AmA, AmB, AmC, AmD, AmE, AmF, AmG, AmH, AmI, AmJ, AmK, AmL, AmM, AmN, AmO, AmP, AmQ.
  Conditions: none.
-/
import Derived.WalkKit
import Derived.Lib.Strings
import Derived.Laws.BytesArg
import Derived.Laws.StructEq
import Derived.ChangeKeysEq
import Derived.Laws.Tables
import Derived.Laws.MakeOwn
import Derived.Laws.IdiomStrings
import Derived.Still
import Derived.StillTail
import Derived.ProofKit
import Derived.OpenShut
import Derived.ShutString
import Derived.ChangeOld
import Derived.Below
set_option linter.unusedSimpArgs false
set_option linter.unnecessarySimpa false
set_option linter.unusedVariables false
theorem zqP {p q : Prop} (k : q) (h : p := by first | exact True.intro | trivial | omega | (intro hg; simp only [Bool.and_eq_true, Bool.or_eq_true, Bool.not_eq_true', Bool.and_eq_false_iff, Bool.or_eq_false_iff, Bool.not_eq_false', decide_eq_true_eq, decide_eq_false_iff_not, eqNil] at hg; omega)) : p ∧ q := ⟨h, k⟩
theorem zqA {p : Prop} (h : p := by repeat (first | exact AHeap.set_same _ _ _ | assumption | refine (AHeap.set_ne _ _ (by first | assumption | exact Ne.symm (by assumption))).trans ?_)) : p := h
theorem zqB {p : Prop} (h : p := by repeat (first | exact Sub.refl _ | assumption | refine Sub.set_both ?_ _ _ | refine Sub.trans_set ?_ (by repeat (first | assumption | refine (AHeap.set_ne _ _ (by first | assumption | exact Ne.symm (by assumption))).trans ?_)))) : p := h
theorem zqC {p : Prop} (h : p := by repeat (first | exact Sub.refl _ | assumption | refine Sub.trans_set ?_ (by assumption))) : p := h
theorem zqD {p : Prop} (h : p := by first | exact Nat.le_refl _ | decide | (simp; done) | (simp; omega)) : p := h
theorem Ka.{u}{α:Sort u}{a b:α}:(∀{_:Decidable True},(if True then a else b)=a)∧∀{_:Decidable False},(if False then a else b)=b:=⟨if_true _ _,if_false _ _⟩
open Option renaming map_eq_some_iff->Kc,map_some->KI,bind_some->KO
open List renaming map_cons->Ke,eq_nil_of_length_eq_zero->Kg,cons_append->Kh,take_succ_cons->Ki,set_cons_succ->Kj,getD_cons_succ->Kn,getD->Ko,getElem?_drop->Kq,getElem?_eq_none->Kr,getElem?_cons_zero->Kz,size_toArray->KC,all_cons->KE,getElem?_cons_succ->KM,range->KP,mem_cons->KW,length_cons->KX,ext_getElem?->KY,getElem?_take->KZ,getElem?_set->K3,length_take->K4,length_drop->K5,append_assoc->K9,getElem?_append->Ja,length_append->Jb,nil_append->Jd,mem_cons_self->Je,mem_cons_of_mem->Jf,length_map->Jn,take_length->Jo,range'->Js,getElem?_eq_some_iff->Jw,all_eq_true->Jz,mem_range->JA,getElem?_eq_getElem->JB
open Nat renaming lt_two_pow_self->Kk,lt_of_lt_of_le->Kl,mod_lt->Km,le_of_not_lt->Kt,add_assoc->Kw,add_mul->KJ,le_refl->KL,lt_or_ge->KT,add_zero->K6,zero_mul->K7,mul_le_mul_right->K8,zero_add->Jp,zero_le->Jq,strongRecOn->Jt,eq_or_lt_of_le->Jy
open Array renaming getD_eq_getD_getElem?->Ku,getElem?_setIfInBounds_ne->Kv,ext'->KF,length_toList->KN,ext_getElem?->KQ,getElem?_modify->KR,getElem?_setIfInBounds->KS,getElem?_eq_none->KU,range->Jc,toList_push->Jg,size_pos_iff->Ji,mem_filter->Jj,size_append->Jk,empty_append->Jl,size_map->Jm,replicate->Ju,getElem?_append->Jv,getD->JC
open Bool renaming and_eq_true->Ky,eq_iff_iff->KA,false_eq_true->KV,not_eq_true'->Jh
open UInt8 renaming ofNat->KD
open Int renaming eq_ofNat_of_zero_le->KG,le_trans->KH
open Iff renaming rfl->Jr
namespace Go.AM
open Go.RowKit (Below)
inductive Loc where
 |base (b:Nat)
 |own (k:Nat)
 deriving DecidableEq
inductive Cap where
 |exact(c:Nat)
 |grow (es:Nat)
 deriving DecidableEq
inductive AVal where
 |dead
 |bool (b:Bool)
 |int (k:IntKind) (n:Int)
 |str (s:List UInt8)
 |nilPtr
 |ptr (l:Loc) (o:Nat)
 |nilSlice
 |slice (l:Loc) (o len:Nat) (c:Cap)
 |nilFunc
 |func (f:FuncId) (cap:List AVal)
 |nilIface
 |iface (t:TypeId) (v:AVal)
 |nilMap
 |agg (cs:List AVal)
 |tuple (vs:List AVal)
 |map (k:Nat)
 |mapO (clock:Nat)
 |mapE (born:Nat) (key val:AVal)
 |iterO (m:Nat) (since:Nat) (seen:List Nat) (last:Nat)
instance:Inhabited AVal:=⟨.dead⟩
structure Place where
 blk:Nat
 off:Nat
 room:Nat
abbrev PMap:=Nat->Option Place
def Xb(fi:PMap):Loc->Nat->Option Addr
 | .base b,o=>some ⟨b,o,none⟩
 | .own k,o=>(fi k).map fun p=>⟨p.blk,p.off+o,none⟩
mutual
def VR(fi:PMap):AVal->Value->Prop
 | .dead,_=>True
 | .bool b,v=>v= .bool b
 | .int k n,v=>v= .int k n
 | .str s,v=>v= .string ⟨⟨s⟩⟩
 | .nilPtr,v=>v= .pointer none
 | .ptr l o,v=>∃a,Xb fi l o=some a/\v= .pointer (some a)
 | .nilSlice,v=>v= .slice none 0 0
 | .slice l o len c,v=>match c with
   | .exact c=>∃a,v= .slice (some a) len c/\(c≠0\/len≠0->Xb fi l o=some a)
   | .grow es=>∃k p c a,l= .own k/\fi k=some p/\v= .slice (some a) len c/\len<=c/\(c≠0->a=⟨p.blk,p.off+o,none⟩/\o+c*es=p.room)
 | .nilFunc,v=>v= .nilFunc
 | .func f cs,v=>∃vs:List Value,v= .func (.func f) #[] vs.toArray/\VRs fi cs vs
 | .nilIface,v=>v= .nilIface
 | .iface t x,v=>∃y,v= .iface t y/\VR fi x y
 | .nilMap,v=>v= .map none
 | .agg cs,v=>∃vs:List Value,v= .agg vs.toArray/\VRs fi cs vs
 | .tuple cs,v=>∃vs:List Value,v= .tuple vs.toArray/\VRs fi cs vs
 | .map k,v=>∃p,fi k=some p/\v= .map (some p.blk)
 | .mapO _,_=>False
 | .mapE _ _ _,_=>False
 | .iterO _ _ _ _,_=>False
def VRs(fi:PMap):List AVal->List Value->Prop
 |[],vs=>vs=[]
 |c::cs,vs=>∃v vs',vs=v::vs'/\VR fi c v/\VRs fi cs vs'
end
def PMap.le(fi Ps:PMap):Prop:=∀k p,fi k=some p->Ps k=some p
theorem PMap.le_refl(fi:PMap):fi.le fi:=fun _ _ h=>h
theorem PMap.le_trans{fi Ps χ:PMap}(h:fi.le Ps)(h':Ps.le χ):fi.le χ:=fun k p hk=>h' k p (h k p hk)
theorem qhf{fi Ps:PMap}(h:fi.le Ps){l:Loc}{o:Nat}{a:Addr}(ha:Xb fi l o=some a):Xb Ps l o=some a:=by
 cases l with
 |base b=>exact ha
 |own k=>
  simp only[Xb,Kc]at ha|-
  obtain⟨p,hp,rfl⟩:=ha;exact⟨p,h k p hp,rfl⟩
mutual
theorem Ww{fi Ps:PMap}(h:fi.le Ps):∀(x:AVal) (v:Value),VR fi x v->VR Ps x v
 | .dead,_,hv=>hv
 | .bool _,_,hv=>hv
 | .int _ _,_,hv=>hv
 | .str _,_,hv=>hv
 | .nilPtr,_,hv=>hv
 | .ptr _ _,_,hv=>by
   simp only[VR]at hv|-
   obtain⟨a,ha,rfl⟩:=hv;exact⟨a,qhf h ha,rfl⟩
 | .nilSlice,_,hv=>hv
 | .slice _ _ _ c,_,hv=>by
   cases c with
   |exact c=>
    simp only[VR]at hv|-
    obtain⟨a,rfl,ha⟩:=hv;exact⟨a,rfl,fun hc=>qhf h (ha hc)⟩
   |grow es=>
    simp only[VR]at hv|-
    obtain⟨k,p,c,a,hl,hp,rest⟩:=hv;exact⟨k,p,c,a,hl,h k p hp,rest⟩
 | .nilFunc,_,hv=>hv
 | .func _ cs,_,hv=>by
   simp only[VR]at hv|-
   obtain⟨vs,rfl,hs⟩:=hv;exact⟨vs,rfl,qaV h cs vs hs⟩
 | .nilIface,_,hv=>hv
 | .iface _ x,_,hv=>by
   simp only[VR]at hv|-
   obtain⟨y,rfl,hy⟩:=hv;exact⟨y,rfl,Ww h x y hy⟩
 | .nilMap,_,hv=>hv
 | .agg cs,_,hv=>by
   simp only[VR]at hv|-
   obtain⟨vs,rfl,hs⟩:=hv;exact⟨vs,rfl,qaV h cs vs hs⟩
 | .tuple cs,_,hv=>by
   simp only[VR]at hv|-
   obtain⟨vs,rfl,hs⟩:=hv;exact⟨vs,rfl,qaV h cs vs hs⟩
 | .map k,_,hv=>by
   simp only[VR]at hv|-
   obtain⟨p,hp,rfl⟩:=hv;exact⟨p,h k p hp,rfl⟩
 | .mapO _,_,hv=>by simp only[VR]at hv
 | .mapE _ _ _,_,hv=>by simp only[VR]at hv
 | .iterO _ _ _ _,_,hv=>by simp only[VR]at hv
theorem qaV{fi Ps:PMap}(h:fi.le Ps):∀(xs:List AVal) (vs:List Value),VRs fi xs vs->VRs Ps xs vs
 |[],_,hv=>hv
 |x::xs,vs,hv=>by
  simp only[VRs]at hv|-
  obtain⟨v,vs',rfl,h1,h2⟩:=hv;exact⟨v,vs',rfl,Ww h x v h1,qaV h xs vs' h2⟩
end
def absS:Value->AVal
 | .bool b=> .bool b
 | .int k n=> .int k n
 | .string s=> .str s.data.toList
 | .pointer none=> .nilPtr
 | .pointer (some ⟨b,o,none⟩)=> .ptr (.base b) o
 | .slice none 0 0=> .nilSlice
 | .slice (some ⟨b,o,none⟩) len cap=> .slice (.base b) o len (.exact cap)
 | .slice (some ⟨b,o,some _⟩) 0 0=> .slice (.base b) o 0 (.exact 0)
 | .nilFunc=> .nilFunc
 | .nilIface=> .nilIface
 | .map none=> .nilMap
 |_=> .dead
def absV:Value->AVal
 | .agg cs=> .agg (cs.toList.map absS)
 | .tuple cs=> .tuple (cs.toList.map absS)
 |v=>absS v
theorem qoo(fi:PMap)(v:Value):VR fi (absS v) v:=by
 unfold absS;split<;>simp[VR,Xb]
theorem Uu(fi:PMap):∀l:List Value,VRs fi (l.map absS) l
 |[]=>by simp[VRs]
 |v::l=>by
  simp only[Ke,VRs];exact⟨v,l,rfl,qoo fi v,Uu fi l⟩
theorem qon(fi:PMap)(v:Value):VR fi (absV v) v:=by
 unfold absV;split
 ·rename_i cs
  simp only[VR];exact⟨cs.toList,by simp,Uu fi _⟩
 ·rename_i cs
  simp only[VR];exact⟨cs.toList,by simp,Uu fi _⟩
 ·exact qoo fi v
theorem Xw{fi:PMap}:∀{xs:List AVal} {vs:List Value},VRs fi xs vs->vs.length=xs.length
 |[],_,h=>by simp only[VRs]at h;simp[h]
 |x::xs,vs,h=>by
  simp only[VRs]at h;obtain⟨v,vs',rfl,_,h2⟩:=h;simp[Xw h2]
theorem qeF{fi:PMap}:∀{xs:List AVal} {vs:List Value},VRs fi xs vs->∀(j:Nat) (d:Value),j<xs.length->VR fi (xs.getD j .dead) (vs.getD j d)
 |[],_,_,j,_,hj=>by simp at hj
 |x::xs,vs,h,j,d,hj=>by
  simp only[VRs]at h;obtain⟨v,vs',rfl,h1,h2⟩:=h;cases j with
  |zero=>simpa using h1
  |succ j=>simpa using qeF h2 j d (by simpa using hj)
theorem qly{fi:PMap}:∀{xs:List AVal} {vs:List Value},vs.length=xs.length->(∀j,j<xs.length->VR fi (xs.getD j .dead) (vs.getD j default))->VRs fi xs vs
 |[],vs,hl,_=>by simp only[VRs];exact Kg (by simpa using hl)
 |x::xs,vs,hl,h=>by
  cases vs with
  |nil=>simp at hl
  |cons v vs'=>
   simp only[VRs];exact⟨v,vs',rfl,by simpa using h 0 (by simp),qly (by simpa using hl) fun j hj=>by simpa using h (j+1) (by simpa using hj)⟩
theorem qah{fi:PMap}{xs ys:List AVal}{vs us:List Value}(h:VRs fi xs vs)(h':VRs fi ys us):VRs fi (xs++ys) (vs++us):=by
 induction xs generalizing vs with
 |nil=>simp only[VRs]at h;subst h;simpa using h'
 |cons x xs ih=>
  simp only[VRs]at h;obtain⟨v,vs',rfl,h1,h2⟩:=h;simp only[Kh,VRs];exact⟨v,vs'++us,rfl,h1,ih h2⟩
theorem qhL{fi:PMap}:∀(n:Nat) {xs:List AVal} {vs:List Value},VRs fi xs vs->VRs fi (xs.drop n) (vs.drop n)
 |0,_,_,h=>by simpa using h
 |n+1,[],vs,h=>by simp only[VRs]at h;subst h;simp[VRs]
 |n+1,x::xs,vs,h=>by
  simp only[VRs]at h;obtain⟨v,vs',rfl,_,h2⟩:=h;simpa using qhL n h2
theorem qlw{fi:PMap}:∀(n:Nat) {xs:List AVal} {vs:List Value},VRs fi xs vs->VRs fi (xs.take n) (vs.take n)
 |0,_,_,_=>by simp[VRs]
 |n+1,[],vs,h=>by simp only[VRs]at h;subst h;simp[VRs]
 |n+1,x::xs,vs,h=>by
  simp only[VRs]at h;obtain⟨v,vs',rfl,h1,h2⟩:=h;simp only[Ki,VRs];exact⟨v,vs'.take n,rfl,h1,qlw n h2⟩
theorem qom{fi:PMap}:∀{xs:List AVal} {vs:List Value},VRs fi xs vs->∀(j:Nat) {x:AVal} {v:Value},VR fi x v->VRs fi (xs.set j x) (vs.set j v)
 |[],vs,h,j,_,_,_=>by simp only[VRs]at h;subst h;simp[VRs]
 |y::xs,vs,h,j,x,v,hv=>by
  simp only[VRs]at h;obtain⟨u,vs',rfl,h1,h2⟩:=h;cases j with
  |zero=>simp only[List.set_cons_zero,VRs];exact⟨v,vs',rfl,hv,h2⟩
  |succ j=>simp only[Kj,VRs];exact⟨u,vs'.set j v,rfl,h1,qom h2 j hv⟩
structure Blk where
 cells:List AVal
 frz:Nat:=0
abbrev AHeap:=Nat->Option Blk
def AHeap.set(h:AHeap)(k:Nat)(b:Blk):AHeap:=fun j=>if j=k then some b else h j
def AHeap.del(h:AHeap)(k:Nat):AHeap:=fun j=>if j=k then none else h j
theorem AHeap.set_same(h:AHeap)(k:Nat)(b:Blk):h.set k b k=some b:=by simp[AHeap.set]
theorem AHeap.set_ne(h:AHeap){k j:Nat}(b:Blk)(hj:j≠k):h.set k b j=h j:=by simp[AHeap.set,hj]
theorem AHeap.set_set(h:AHeap)(k:Nat)(b c:Blk):(h.set k b).set k c=h.set k c:=by
 funext j;by_cases e:j=k<;>simp[AHeap.set,e]
structure RowOk(fi:PMap)(b:Blk)(p:Place)(w:World):Prop where
 row:∃cs e lo hi,w.heap[p.blk]?=some (.cells cs e (lo,hi))/\p.off+p.room=cs.size/\b.cells.length<=p.room/\b.frz<=b.cells.length/\
  VRs fi b.cells ((cs.toList.drop p.off).take b.cells.length)/\(lo<=hi/\∀i,lo<=i->i<hi->(0<b.frz/\i<p.off+b.frz)\/cs.size<=i)
def ERel(fi:PMap):List AVal->List MapEntry->Prop
 |[],l=>l=[]
 |c::cs,l=>∃e l',l=e::l'/\(match c with
  | .mapE b k v=>e.born=b/\VR fi k e.key/\VR fi v e.val
  |_=>False)/\ERel fi cs l'
def ORel(fi:PMap):List AVal->Obj->Prop
 | .mapO c::es, .map entries clock=>clock=c/\ERel fi es entries.toList
 |[.iterO m since seen last], .mapIter (some r) since' seen' last'=>(∃p,fi m=some p/\r=p.blk)/\since'=since/\seen'.toList=seen/\last'=last
 |_,_=>False
structure ObjOk(fi:PMap)(b:Blk)(p:Place)(w:World):Prop where
 frz:b.frz=b.cells.length+1
 at_:p.off=0/\p.room=0
 obj:∃o,w.heap[p.blk]?=some o/\ORel fi b.cells o
def BlkOk(fi:PMap)(b:Blk)(p:Place)(w:World):Prop:=RowOk fi b p w\/ObjOk fi b p w
theorem BlkOk.row{fi:PMap}{b:Blk}{p:Place}{w:World}(h:BlkOk fi b p w)(hf:b.frz<=b.cells.length):∃cs e lo hi,w.heap[p.blk]?=some (.cells cs e (lo,hi))/\p.off+p.room=cs.size/\b.cells.length<=p.room/\b.frz<=b.cells.length/\
 VRs fi b.cells ((cs.toList.drop p.off).take b.cells.length)/\(lo<=hi/\∀i,lo<=i->i<hi->(0<b.frz/\i<p.off+b.frz)\/cs.size<=i):=by
 rcases h with h|h
 ·exact h.row
 ·have:=h.frz
  omega
theorem BlkOk.obj{fi:PMap}{b:Blk}{p:Place}{w:World}(h:BlkOk fi b p w)(hf:b.frz=b.cells.length+1):ObjOk fi b p w:=by
 rcases h with h|h
 ·obtain⟨cs,e,lo,hi,h1,h2,h3,h4,h5,h6⟩:=h.row
  omega
 ·exact h
theorem ERel.mono{fi Ps:PMap}(hl:fi.le Ps):∀{cs:List AVal} {l:List MapEntry},ERel fi cs l->ERel Ps cs l
 |[],_,h=>h
 |c::cs,l,h=>by
  obtain⟨e,l',h1,h2,h3⟩:=h;refine⟨e,l',h1,?_,h3.mono hl⟩;cases c<;>first|exact h2.elim|exact⟨h2.1,Ww hl _ _ h2.2.1,Ww hl _ _ h2.2.2⟩
theorem ORel.mono{fi Ps:PMap}(hl:fi.le Ps){cs:List AVal}{o:Obj}(h:ORel fi cs o):ORel Ps cs o:=by
 unfold ORel at h|-
 split at h
 ·exact⟨h.1,h.2.mono hl⟩
 ·obtain⟨⟨p,h1,h2⟩,h3⟩:=h
  exact⟨⟨p,hl _ _ h1,h2⟩,h3⟩
 ·exact h.elim
def qas(k:Nat):Option TypeId:=if k=2^k.log2 then some (k.log2%4096)else none
def TyOk(k:Nat)(p:Place)(w:World):Prop:=∀t,qas k=some t->p.off=0/\∃cs fr,w.heap[p.blk]?=some (.cells cs t fr)
theorem TyOk.world{k:Nat}{p:Place}{w w':World}(h:TyOk k p w)(hw:w'.heap[p.blk]?=w.heap[p.blk]?):TyOk k p w':=fun t ht=>by rw[hw];exact h t ht
theorem TyOk.none{k:Nat}{p:Place}{w:World}(h:qas k=Option.none):TyOk k p w:=fun t ht=>by rw[h]at ht;cases ht
theorem tyOf_pow(e:TypeId)(he:e<4096)(N:Nat):∃k,N<=k/\qas k=some e:=by
 refine⟨2^(4096*N+e),?_,?_⟩
 ·have:=@Kk (4096*N+e)
  omega
 ·unfold qas
  rw[Nat.log2_two_pow,if_pos rfl,Nat.mul_add_mod,Nat.mod_eq_of_lt he]
theorem qoy(N L:Nat):∃M,N<=M/\∀i,i<L->qas (M+i)=none:=by
 refine⟨2^(N+L+1)+1,?_,fun i hi=>?_⟩
 ·have:=@Kk (N+L+1)
  omega
 ·have h1:=@Kk (N+L+1)
  have h2:(2^(N+L+1)+1+i).log2=N+L+1:=by
   rw[Nat.log2_eq_iff (by omega)];rw[Nat.pow_succ 2 (N+L+1)];omega
  unfold qas;rw[h2,if_neg (by omega)]
structure HRel(w0:World)(fi:PMap)(h:AHeap)(w:World):Prop where
 below:Below w0.heap.size w0 w
 own:∀k b,h k=some b->∃p,fi k=some p/\w0.heap.size<=p.blk/\BlkOk fi b p w
 inj:∀k k' b b' p p',h k=some b->h k'=some b'->fi k=some p->fi k'=some p'->p.blk=p'.blk->k=k'
 lt:∀k p,fi k=some p->p.blk<w.heap.size
 fin:∃N,∀k,N<=k->fi k=none
 typ:∀k p,fi k=some p->TyOk k p w
theorem HRel.start(w:World):HRel w (fun _=>none) (fun _=>none) w:=
 ⟨Below.refl _ _,by simp,by simp,by simp,⟨0,by simp⟩,by simp⟩
theorem HRel.forget{w0 w:World}{fi:PMap}{h h':AHeap}(hr:HRel w0 fi h w)(hs:∀k b,h' k=some b->h k=some b):HRel w0 fi h' w:=
 ⟨hr.below,fun k b hb=>hr.own k b (hs k b hb),fun k k' b b' p p' hb hb'=>hr.inj k k' b b' p p' (hs k b hb) (hs k' b' hb'),hr.lt,hr.fin,hr.typ⟩
theorem BlkOk.mono{fi Ps:PMap}{b:Blk}{p:Place}{w:World}(h:BlkOk fi b p w)(hl:fi.le Ps):BlkOk Ps b p w:=by
 rcases h with h|h
 ·obtain⟨cs,e,lo,hi,h1,h2,h3,h4,h5,h6⟩:=h.row
  exact .inl ⟨cs,e,lo,hi,h1,h2,h3,h4,qaV hl _ _ h5,h6⟩
 ·obtain⟨o,h1,h2⟩:=h.obj
  exact .inr ⟨h.frz,h.at_,o,h1,h2.mono hl⟩
theorem BlkOk.world{fi:PMap}{b:Blk}{p:Place}{w w':World}(h:BlkOk fi b p w)(hw:w'.heap[p.blk]?=w.heap[p.blk]?):BlkOk fi b p w':=by
 rcases h with h|h
 ·obtain⟨cs,e,lo,hi,h1,rest⟩:=h.row
  exact .inl ⟨cs,e,lo,hi,by rw[hw];exact h1,rest⟩
 ·obtain⟨o,h1,h2⟩:=h.obj
  exact .inr ⟨h.frz,h.at_,o,by rw[hw];exact h1,h2⟩
theorem HRel.later{w0 w w':World}{fi:PMap}{h:AHeap}(hr:HRel w0 fi h w)(hb:Below w.heap.size w w'):HRel w0 fi h w':=by
 refine⟨hr.below.trans (hb.mono hr.below.size),fun k b hk=>?_,hr.inj,fun k p hk=>Kl (hr.lt k p hk) hb.size,hr.fin,fun k p hk=>(hr.typ k p hk).world (hb.block _ (hr.lt k p hk))⟩;obtain⟨p,hp,h1,h2⟩:=hr.own k b hk;exact⟨p,hp,h1,h2.world (hb.block _ (hr.lt k p hp))⟩
theorem HRel.push{w0 w w':World}{fi:PMap}{h:AHeap}(hr:HRel w0 fi h w)(k:Nat)(hk:h k=none)(hφ:fi k=none)(b:Blk)(p:Place)
 (hb:Below w.heap.size w w') (hp:w.heap.size<=p.blk) (hp':p.blk<w'.heap.size) (ok:BlkOk (fun j=>if j=k then some p else fi j) b p w') (ht:TyOk k p w'):
 fi.le (fun j=>if j=k then some p else fi j)/\HRel w0 (fun j=>if j=k then some p else fi j) (h.set k b) w':=by
 have hle:fi.le (fun j=>if j=k then some p else fi j):=fun j q hj=>by
  by_cases e:j=k
  ·subst e;rw[hφ]at hj;cases hj
  ·simp[e,hj]
 have old:∀j b',h j=some b'->j≠k:=fun j b' hj e=>by subst e;rw[hk]at hj;cases hj
 refine⟨hle,hr.below.trans (hb.mono hr.below.size),fun j b' hj=>?_,fun j j' b1 b2 p1 p2 h1 h2 f1 f2 e=>?_,fun j q hj=>?_,?_,fun j q hj=>?_⟩
 ·by_cases e:j=k
  ·subst e
   simp only[AHeap.set_same,Option.some.injEq]at hj;subst hj;exact⟨p,by simp,Nat.le_trans hr.below.size hp,ok⟩
  ·rw[AHeap.set_ne _ _ e]at hj
   obtain⟨q,hq,h1,h2⟩:=hr.own j b' hj;exact⟨q,by simp[e,hq],h1,(h2.world (hb.block _ (hr.lt j q hq))).mono hle⟩
 ·by_cases e1:j=k<;>by_cases e2:j'=k
  ·rw[e1,e2]
  ·exfalso
   simp only[e1,if_true,Option.some.injEq]at f1;simp only[e2,if_false]at f2;have:=hr.lt j' p2 f2;subst f1;omega
  ·exfalso
   simp only[e2,if_true,Option.some.injEq]at f2;simp only[e1,if_false]at f1;have:=hr.lt j p1 f1;subst f2;omega
  ·rw[AHeap.set_ne _ _ e1]at h1
   rw[AHeap.set_ne _ _ e2]at h2;simp only[e1,e2,if_false]at f1 f2;exact hr.inj j j' b1 b2 p1 p2 h1 h2 f1 f2 e
 ·by_cases e:j=k
  ·simp only[e,if_true,Option.some.injEq]at hj
   subst hj;exact hp'
  ·simp only[e,if_false]at hj
   exact Kl (hr.lt j q hj) hb.size
 ·obtain⟨N,hN⟩:=hr.fin
  exact⟨max N (k+1),fun j hj=>by
   have h1:j≠k:=by omega
   simp only[h1,if_false];exact hN j (by omega)⟩
 ·by_cases e:j=k
  ·subst e
   simp only[if_true,Option.some.injEq]at hj;subst hj;exact ht
  ·simp only[e,if_false]at hj
   exact(hr.typ j q hj).world (hb.block _ (hr.lt j q hj))
theorem HRel.free{w0 w:World}{fi:PMap}{h:AHeap}(hr:HRel w0 fi h w){k:Nat}(hφ:fi k=none):h k=none:=by
 cases e:h k with
 |none=>rfl
 |some b=>
  obtain⟨p,hp,_⟩:=hr.own _ b e;rw[hφ]at hp;cases hp
theorem HRel.freshN{w0 w:World}{fi:PMap}{h:AHeap}(hr:HRel w0 fi h w):∃k,h k=none/\fi k=none/\qas k=none:=by
 obtain⟨N,hN⟩:=hr.fin;obtain⟨M,h1,h2⟩:=qoy N 1;exact⟨M,hr.free (hN M h1),hN M h1,h2 0 (by omega)⟩
theorem HRel.freshE{w0 w:World}{fi:PMap}{h:AHeap}(hr:HRel w0 fi h w)(e:TypeId):∃k,h k=none/\fi k=none/\(e<4096->qas k=some e)/\∀t,qas k=some t->t=e:=by
 by_cases he:e<4096
 ·obtain⟨N,hN⟩:=hr.fin
  obtain⟨k,h1,h2⟩:=tyOf_pow e he N;exact⟨k,hr.free (hN k h1),hN k h1,fun _=>h2,fun t ht=>by rw[h2]at ht;exact(Option.some.inj ht).symm⟩
 ·obtain⟨k,h1,h2,h3⟩:=hr.freshN
  exact⟨k,h1,h2,fun h=>absurd h he,fun t ht=>by rw[h3]at ht;cases ht⟩
theorem tyOf_lt{k:Nat}{t:TypeId}(h:qas k=some t):t<4096:=by
 unfold qas at h;split at h
 ·rw[<-Option.some.inj h];exact Km _ (by omega)
 ·cases h
theorem HRel.freshT{w0 w:World}{fi:PMap}{h:AHeap}(hr:HRel w0 fi h w)(k₀:Nat):∃k,h k=none/\fi k=none/\qas k=qas k₀:=by
 cases e:qas k₀ with
 |none=>exact hr.freshN
 |some t=>
  obtain⟨k,h1,h2,h3,_⟩:=hr.freshE t;exact⟨k,h1,h2,h3 (tyOf_lt e)⟩
theorem HRel.write{w0 w w':World}{fi:PMap}{h:AHeap}(hr:HRel w0 fi h w)(k:Nat)(b b':Blk)(p:Place)(hk:h k=some b)(hp:fi k=some p)
 (hsize:w'.heap.size=w.heap.size) (hos:w'.os=w.os) (htape:w'.tape=w.tape) (hout:w'.output=w.output)
 (hother:∀i,i≠p.blk->w'.heap[i]?=w.heap[i]?) (hty:∀cs e fr,w.heap[p.blk]?=some (.cells cs e fr)->∃cs' fr',w'.heap[p.blk]?=some (.cells cs' e fr')) (ok:BlkOk fi b' p w'):HRel w0 fi (h.set k b') w':=by
 obtain⟨q,hq,hq1,hq2⟩:=hr.own k b hk;have hpq:q=p:=by rw[hp]at hq;exact(Option.some.inj hq).symm
 subst hpq;refine⟨⟨hos.trans hr.below.os,htape.trans hr.below.tape,hout.trans hr.below.output,by rw[hsize];exact hr.below.size,fun i hi=>?_⟩,fun j b1 hj=>?_,fun j j' b1 b2 p1 p2 h1 h2 f1 f2 e=>?_,fun j r hj=>by rw[hsize];exact hr.lt j r hj,hr.fin,fun j r hj t ht=>?_⟩
 ·rw[hother i (by omega)]
  exact hr.below.block i hi
 ·by_cases e:j=k
  ·subst e
   simp only[AHeap.set_same,Option.some.injEq]at hj;subst hj;exact⟨q,hp,hq1,ok⟩
  ·rw[AHeap.set_ne _ _ e]at hj
   obtain⟨r,hr0,hr1,hr2⟩:=hr.own j b1 hj;refine⟨r,hr0,hr1,hr2.world (hother _ fun e'=>e ?_)⟩;exact hr.inj j k b1 b r q hj hk hr0 hp e'
 ·have g:∀i c,h.set k b' i=some c->∃c',h i=some c':=fun i c hi=>by
   by_cases e:i=k
   ·subst e;exact⟨b,hk⟩
   ·rw[AHeap.set_ne _ _ e]at hi;exact⟨c,hi⟩
  obtain⟨c1,g1⟩:=g j b1 h1;obtain⟨c2,g2⟩:=g j' b2 h2;exact hr.inj j j' c1 c2 p1 p2 g1 g2 f1 f2 e
 ·obtain⟨h0,cs,fr,hcs⟩:=hr.typ j r hj t ht
  refine⟨h0,?_⟩;by_cases e:r.blk=q.blk
  ·rw[e]at hcs|-
   exact hty cs t fr hcs
  ·exact⟨cs,fr,by rw[hother _ e];exact hcs⟩
def AVal.live:AVal->Bool
 | .dead=>false
 | .mapO _=>false
 | .mapE _ _ _=>false
 | .iterO _ _ _ _=>false
 |_=>true
theorem ERel.dead{fi:PMap}:∀{cs:List AVal} {l:List MapEntry},ERel fi cs l->∀o,(cs.getD o .dead).live=false
 |[],_,_,o=>by simp[AVal.live]
 |c::cs,l,h,o=>by
  obtain⟨e,l',h1,h2,h3⟩:=h;cases o with
  |zero=>cases c<;>first|rfl|exact h2.elim
  |succ o=>rw[Kn];exact h3.dead o
theorem ORel.dead{fi:PMap}{cs:List AVal}{ob:Obj}(h:ORel fi cs ob)(o:Nat):(cs.getD o .dead).live=false:=by
 unfold ORel at h;split at h
 ·cases o with
  |zero=>rfl
  |succ o=>rw[Kn];exact h.2.dead o
 ·cases o with
  |zero=>rfl
  |succ o=>simp[AVal.live]
 ·exact h.elim
theorem BlkOk.cell{fi:PMap}{b:Blk}{p:Place}{w:World}(h0:BlkOk fi b p w)(o:Nat)(ho:o<b.cells.length)(hl:(b.cells.getD o .dead).live=true):
 ∃v,w.cell? ⟨p.blk,p.off+o,none⟩=some v/\VR fi (b.cells.getD o .dead) v:=by
 rcases h0 with h|h
 rotate_left
 ·exfalso
  obtain⟨ob,_,h2⟩:=h.obj;rw[h2.dead]at hl;cases hl
 obtain⟨cs,e,lo,hi,h1,h2,h3,h4,h5,h6⟩:=h.row;have hlt:p.off+o<cs.size:=by omega
 refine⟨cs[p.off+o],?_,?_⟩
 ·simp[World.cell?,h1,hlt]
 ·have:=qeF h5 o default ho
  have e2:((cs.toList.drop p.off).take b.cells.length).getD o default=cs[p.off+o]:=by
   simp[Ko,Kq,ho,hlt]
  rw[e2]at this;exact this
def rd(w0:World)(h:AHeap):Loc->Nat->AVal
 | .base b,o=>if b<w0.heap.size then(match w0.cell? ⟨b,o,none⟩with|some v=>absS v|none=> .dead)else .dead
 | .own k,o=>match h k with|some b=>b.cells.getD o .dead|none=> .dead
theorem HRel.rd{w0 w:World}{fi:PMap}{h:AHeap}(hr:HRel w0 fi h w)(l:Loc)(o:Nat)(hl:(rd w0 h l o).live=true):
 ∃a v,Xb fi l o=some a/\w.cell? a=some v/\VR fi (AM.rd w0 h l o) v/\a.spot=none:=by
 cases l with
 |base b=>
  simp only[AM.rd]at hl|-
  by_cases hb:b<w0.heap.size
  ·simp only[hb,if_true]at hl|-
   cases hc:w0.cell? ⟨b,o,none⟩with
   |none=>simp[hc,AVal.live]at hl
   |some v=>
    simp only[Xb,Option.some.injEq];exact⟨_,v,rfl,by rw[hr.below.cell (p:=⟨b,o,none⟩) hb];exact hc,qoo fi v,rfl⟩
  ·simp[hb,AVal.live]at hl
 |own k=>
  simp only[AM.rd]at hl|-
  cases hk:h k with
  |none=>simp[hk,AVal.live]at hl
  |some b=>
   simp only[hk]at hl|-
   obtain⟨p,hp,_,ok⟩:=hr.own k b hk;have ho:o<b.cells.length:=by
    by_cases hlt:o<b.cells.length
    ·exact hlt
    ·simp[Ko,Kr (Kt hlt),AVal.live]at hl
   obtain⟨v,h1,h2⟩:=ok.cell o ho hl;exact⟨_,v,by simp[Xb,hp],h1,h2,rfl⟩
abbrev Slots:=List (Nat×AVal)
def Slots.get:Slots->Nat->AVal
 |[],_=> .dead
 |(j,v)::r,i=>if i=j then v else Slots.get r i
def Slots.put:Slots->Nat->AVal->Slots
 |[],i,v=>[(i,v)]
 |(j,u)::r,i,v=>if i<j then(i,v)::(j,u)::r else if i=j then(i,v)::r else(j,u)::Slots.put r i v
def Slots.keep:Slots->List Nat->Slots
 |[],_=>[]
 |(j,v)::r,l=>if l.contains j then(j,v)::Slots.keep r l else Slots.keep r l
theorem Slots.get_put:∀(s:Slots) (i:Nat) (v:AVal) (j:Nat),(s.put i v).get j=if j=i then v else s.get j
 |[],i,v,j=>by simp[Slots.put,Slots.get]
 |(k,u)::r,i,v,j=>by
  simp only[Slots.put];split
  ·simp[Slots.get]
  ·split
   ·rename_i h1 h2
    subst h2;by_cases e:j=i<;>simp[Slots.get,e]
   ·rename_i h1 h2
    simp only[Slots.get];rw[Slots.get_put r i v j];by_cases e:j=k
    ·subst e
     simp[Ne.symm h2]
    ·simp[e]
theorem Slots.get_keep:∀(s:Slots) (l:List Nat) (j:Nat),(s.keep l).get j=if l.contains j then s.get j else .dead
 |[],l,j=>by simp[Slots.keep,Slots.get]
 |(k,u)::r,l,j=>by
  simp only[Slots.keep];by_cases hk:l.contains k=true
  ·simp only[hk,if_true,Slots.get]
   rw[Slots.get_keep r l j];by_cases e:j=k
   ·subst e;rw[if_pos rfl,if_pos hk,if_pos rfl]
   ·rw[if_neg e,if_neg e]
  ·simp only[hk,Slots.get]
   rw[if_neg (by simp),Slots.get_keep r l j];by_cases e:j=k
   ·subst e;rw[if_neg hk,if_neg hk]
   ·rw[if_neg e]
structure FrameK where
 sz:Nat
 dfr:List Deferred
 G:Exit->PMap->Act->World->Prop
instance:Coe FrameK Nat:=⟨FrameK.sz⟩
instance (k:Nat):OfNat FrameK k:=⟨⟨k,[],fun _ _ _ _=>False⟩⟩
structure SRel(fi:PMap)(n:FrameK)(s:Slots)(a:Act):Prop where
 size:a.tmps.size=n.sz
 defers:a.defers=n.dfr
 val:∀i,VR fi (s.get i) (a.tmps.getD i undef)
theorem SRel.mono{fi Ps:PMap}{n:FrameK}{s:Slots}{a:Act}(h:SRel fi n s a)(hl:fi.le Ps):SRel Ps n s a:=
 ⟨h.size,h.defers,fun i=>Ww hl _ _ (h.val i)⟩
theorem SRel.put{fi:PMap}{n:FrameK}{s:Slots}{a:Act}(h:SRel fi n s a)(d:Nat)(hd:d<n.sz){x:AVal}{v:Value}(hv:VR fi x v):
 SRel fi n (s.put d x) (a.put (some d) v):=by
 refine⟨by simp[Act.put,h.size],h.defers,fun i=>?_⟩;rw[Slots.get_put];by_cases e:i=d
 ·subst e
  have hs:i<a.tmps.size:=by rw[h.size];exact hd
  simp[Act.put,hs];exact hv
 ·rw[if_neg e]
  have:(a.put (some d) v).tmps.getD i undef=a.tmps.getD i undef:=by
   simp[Act.put,Ku,Kv (Ne.symm e)]
  rw[this];exact h.val i
theorem SRel.keep{fi:PMap}{n:FrameK}{s:Slots}{a:Act}(h:SRel fi n s a)(l:List Nat):SRel fi n (s.keep l) a:=
 ⟨h.size,h.defers,fun i=>by
  rw[Slots.get_keep];split
  ·exact h.val i
  ·simp[VR]⟩
def ev(s:Slots):Operand->AVal
 | .tmp t=>s.get t
 | .const v=>absV v
 | .global g=> .ptr (.base g) 0
 | .func f=> .func f []
theorem SRel.ev{fi:PMap}{n:FrameK}{s:Slots}{a:Act}(h:SRel fi n s a)(x:Operand):VR fi (ev s x) (a.eval x):=by
 cases x with
 |tmp t=>exact h.val t
 |const v=>exact qon fi v
 |global g=>simp[AM.ev,VR,Xb,Act.eval]
 |func f=>simp only[AM.ev,VR,Act.eval];exact⟨[],rfl,by simp[VRs]⟩
structure PR where
 pre:Prop
 val:AVal
def PR.no:PR:=⟨False, .dead⟩
def ZI(P:Program)(t:TypeId):Option Nat:=(P.info? t).map (·.size)
def qcV(P:Program)(t:TypeId):Option Nat:=(P.info? t).map (·.bytes)
def Ud(P:Program)(t:TypeId):Option Value:=(P.info? t).bind (·.zero)
def YV(P:Program)(t:TypeId):Option Bool:=
 match P.underlying t with
 |some (.struct _)|some (.array _ _)=>some true
 |some _=>some false
 |none=>none
theorem qM{P:Program}{t:TypeId}{d:TypeDesc}(h:P.underlying t=some d)(w:World):(underlying t).run P w= .ok d w:=by
 simp[underlying,h]
theorem Zv{P:Program}{t:TypeId}{n:Nat}(h:ZI P t=some n)(w:World):(sizeOf t).run P w= .ok n w:=by
 simp only[ZI,Kc]at h;obtain⟨i,hi,rfl⟩:=h;simp[sizeOf,typeInfo,hi]
theorem qeb{P:Program}{t:TypeId}{b:Bool}(h:YV P t=some b)(w:World):(isAgg t).run P w= .ok b w:=by
 unfold YV at h;unfold isAgg;cases hu:P.underlying t with
 |none=>simp[hu]at h
 |some d=>
  simp only[hu]at h;simp only[Sem.run_bind,qM hu,Result.andThen_ok];cases d<;>simp_all
theorem qdz{P:Program}{t:TypeId}{v:Value}(h:Ud P t=some v)(w:World):(zeroValue t).run P w= .ok v w:=by
 simp only[Ud,Option.bind_eq_some_iff]at h;obtain⟨i,hi,hz⟩:=h;simp[zeroValue,typeInfo,hi,hz]
def cellsAt(w0:World)(h:AHeap)(l:Loc):Nat->Nat->List AVal
 |_,0=>[]
 |o,n+1=>rd w0 h l o::cellsAt w0 h l (o+1) n
def allLive:List AVal->Bool
 |[]=>true
 |c::cs=>c.live && allLive cs
theorem Yu{fi:PMap}{l:Loc}{o j:Nat}{a:Addr}(h:Xb fi l o=some a):Xb fi l (o+j)=some (a.add j):=by
 unfold Addr.add;cases l with
 |base b=>
  simp only[Xb,Option.some.injEq]at h|-
  subst h;by_cases e:j=0<;>simp[e]
 |own k=>
  simp only[Xb,Kc]at h|-
  obtain⟨p,hp,rfl⟩:=h;refine⟨p,hp,?_⟩;by_cases e:j=0
  ·simp[e]
  ·simp[e,Kw]
theorem qeu{w0 w:World}{fi:PMap}{h:AHeap}(hr:HRel w0 fi h w)(l:Loc):∀(n o:Nat) (a:Addr),Xb fi l o=some a->allLive (cellsAt w0 h l o n)=true->
 ∃vs:List Value,vs.length=n/\VRs fi (cellsAt w0 h l o n) vs/\∀j v,vs[j]?=some v->w.cell? (a.add j)=some v
 |0,o,a,_,_=>⟨[],rfl,by simp[cellsAt,VRs],by simp⟩
 |n+1,o,a,ha,hl=>by
  simp only[cellsAt,allLive,Ky]at hl;obtain⟨a',v,h1,h2,h3,h4⟩:=hr.rd l o hl.1;have:a'=a:=by rw[ha]at h1;exact(Option.some.inj h1).symm
  subst this;obtain⟨vs,e1,e2,e3⟩:=qeu hr l n (o+1) (a'.add 1) (Yu ha) hl.2;refine⟨v::vs,by simp[e1],by simp only[cellsAt,VRs];exact⟨v,vs,rfl,h3,e2⟩,fun j u hj=>?_⟩;cases j with
  |zero=>simp only[Kz,Option.some.injEq]at hj;subst hj;simpa[Addr.add]using h2
  |succ j=>
   have:=e3 j u (by simpa using hj);have e5:(a'.add 1).add j=a'.add (j+1):=by
    unfold Addr.add;by_cases e:j=0<;>simp[e,Kw,Nat.add_comm 1]
   rwa [e5]at this
def YY(c:Bool)(a b:AVal):AVal:=
 match a,b with
 | .bool x, .bool y=> .bool (bif c then x else y)
 |_,_=>bif c then a else b
theorem VR_pickV{fi:PMap}{c:Bool}{a b:AVal}{u v:Value}(hu:VR fi a u)(hv:VR fi b v):VR fi (YY c a b) (if c then u else v):=by
 unfold YY;split
 ·simp only[VR]at hu hv|-
  subst hu hv;cases c<;>rfl
 ·cases c<;>simpa
def pInt(op:BinOp)(k:IntKind)(a b:Int):PR:=
 match op with
 | .add=>⟨True, .int k (k.wrap (a+b))⟩
 | .sub=>⟨True, .int k (k.wrap (a-b))⟩
 | .mul=>⟨True, .int k (k.wrap (a*b))⟩
 | .quo=>⟨b≠0, .int k (k.wrap (a.tdiv b))⟩
 | .rem=>⟨b≠0, .int k (a.tmod b)⟩
 | .and=>⟨True, .int k (k.wrap (BitVec.ofInt k.bits a &&& BitVec.ofInt k.bits b).toNat)⟩
 | .or=>⟨True, .int k (k.wrap (BitVec.ofInt k.bits a|||BitVec.ofInt k.bits b).toNat)⟩
 | .xor=>⟨True, .int k (k.wrap (BitVec.ofInt k.bits a^^^BitVec.ofInt k.bits b).toNat)⟩
 | .eql=>⟨True, .bool (decide (a=b))⟩
 | .neq=>⟨True, .bool (!decide (a=b))⟩
 | .lss=>⟨True, .bool (decide (a<b))⟩
 | .leq=>⟨True, .bool (decide (a<=b))⟩
 | .gtr=>⟨True, .bool (decide (b<a))⟩
 | .geq=>⟨True, .bool (decide (b<=a))⟩
 |_=> .no
def qrR(op:BinOp)(a b:List UInt8):PR:=
 match op with
 | .add=>⟨a.length+b.length<9223372036854775808, .str (a++b)⟩
 | .eql=>⟨True, .bool (decide (a=b))⟩
 | .neq=>⟨True, .bool (!decide (a=b))⟩
 | .lss=>⟨True, .bool (Op.bytesLess a b)⟩
 | .leq=>⟨True, .bool (Op.bytesLess a b||decide (a=b))⟩
 | .gtr=>⟨True, .bool (!(Op.bytesLess a b||decide (a=b)))⟩
 | .geq=>⟨True, .bool (!Op.bytesLess a b)⟩
 |_=> .no
def nilK:AVal->Option (Nat×Bool)
 | .nilSlice=>some (0,true)
 | .slice _ _ _ _=>some (0,false)
 | .nilPtr=>some (1,true)
 | .ptr _ _=>some (1,false)
 | .nilFunc=>some (2,true)
 | .func _ _=>some (2,false)
 | .nilMap=>some (3,true)
 | .map _=>some (3,false)
 |_=>none
def tyK(P:Program)(t:TypeId):Option Nat:=
 match P.underlying t with
 |some (.slice _)=>some 0
 |some (.pointer _)=>some 1
 |some (.func _ _ _)=>some 2
 |some (.map _ _)=>some 3
 |_=>none
def qif(P:Program)(op:BinOp)(t:TypeId)(x y:AVal):PR:=
 match nilK x,nilK y,tyK P t with
 |some (c,a),some (c',b),some c''=>match op with
  | .eql=>⟨(c=c'/\c'=c'')/\(a=true\/b=true), .bool (a && b)⟩
  | .neq=>⟨(c=c'/\c'=c'')/\(a=true\/b=true), .bool (!(a && b))⟩
  |_=> .no
 |_,_,_=> .no
def qlE(c:Nat)(a:Bool)(u:Value):Prop:=
 match c with
 |0=>∃o l k,u= .slice o l k/\o.isNone=a
 |1=>∃o,u= .pointer o/\o.isNone=a
 |2=>(a=true/\u= .nilFunc)\/(a=false/\∃f x y,u= .func f x y)
 |3=>∃o,u= .map o/\o.isNone=a
 |_=>False
theorem qkB{fi:PMap}{x:AVal}{u:Value}{c:Nat}{a:Bool}(h:nilK x=some (c,a))(hx:VR fi x u):qlE c a u:=by
 cases x with
 |slice l o len cp=>
  cases h;cases cp with
  |exact cp=>
   simp only[VR]at hx;obtain⟨ad,rfl,_⟩:=hx;exact⟨_,_,_,rfl,rfl⟩
  |grow g=>
   simp only[VR]at hx;obtain⟨k,p,cp,ad,_,_,rfl,_⟩:=hx;exact⟨_,_,_,rfl,rfl⟩
 |nilSlice=>cases h;simp only[VR]at hx;subst hx;exact⟨_,_,_,rfl,rfl⟩
 |nilPtr=>cases h;simp only[VR]at hx;subst hx;exact⟨_,rfl,rfl⟩
 |ptr l o=>cases h;simp only[VR]at hx;obtain⟨ad,_,rfl⟩:=hx;exact⟨_,rfl,rfl⟩
 |nilFunc=>cases h;simp only[VR]at hx;subst hx;exact .inl ⟨rfl,rfl⟩
 |func f cs=>cases h;simp only[VR]at hx;obtain⟨vs,rfl,_⟩:=hx;exact .inr ⟨rfl,_,_,_,rfl⟩
 |nilMap=>cases h;simp only[VR]at hx;subst hx;exact⟨_,rfl,rfl⟩
 |map k=>cases h;simp only[VR]at hx;obtain⟨p,_,rfl⟩:=hx;exact⟨_,rfl,rfl⟩
 |_=>cases h
theorem nil_equal{P:Program}{t:TypeId}{c:Nat}{a b:Bool}{u v:Value}(ht:tyK P t=some c)(hu:qlE c a u)(hv:qlE c b v)(hab:a=true\/b=true)(w:World):
 (Op.equal t u v).run P w= .ok (a && b) w:=by
 unfold tyK at ht;obtain⟨d,hdep⟩:∃d,Op.maxDepth=d+1:=⟨Op.maxDepth-1,by decide+kernel⟩
 unfold Op.equal;rw[hdep];split at ht
 ·rename_i e hd
  cases ht;obtain⟨o,l,k,rfl,rfl⟩:=hu;obtain⟨o',l',k',rfl,rfl⟩:=hv;simp only[Op.equalIn,Sem.run_bind,qM hd,Result.andThen_ok];cases o<;>cases o'<;>simp_all
 ·rename_i e hd
  cases ht;obtain⟨o,rfl,rfl⟩:=hu;obtain⟨o',rfl,rfl⟩:=hv;simp only[Op.equalIn,Sem.run_bind,qM hd,Result.andThen_ok];cases o<;>cases o'<;>simp_all
 ·rename_i x y z hd
  cases ht;rcases hu with⟨rfl,rfl⟩|⟨rfl,f,x,y,rfl⟩<;>rcases hv with⟨rfl,rfl⟩|⟨rfl,f',x',y',rfl⟩<;>simp only[Op.equalIn,Sem.run_bind,qM hd,Result.andThen_ok]<;>simp at hab|-
 ·rename_i e f hd
  cases ht;obtain⟨o,rfl,rfl⟩:=hu;obtain⟨o',rfl,rfl⟩:=hv;simp only[Op.equalIn,Sem.run_bind,qM hd,Result.andThen_ok];cases o<;>cases o'<;>simp_all
 ·cases ht
theorem pNilEq_ok{P:Program}{fi:PMap}{op:BinOp}{t:TypeId}{x y:AVal}{u v:Value}(hp:(qif P op t x y).pre)(hx:VR fi x u)(hy:VR fi y v)(X Y:Operand):
 ∃r,(∀w,(do eqGuard op t X Y u v;binOp op t u v:Sem Value).run P w= .ok r w)/\VR fi (qif P op t x y).val r:=by
 unfold qif at hp|-
 split at hp
 ·rename_i c a c' b c'' h1 h2 h3
  have key:∀(hc:c=c'/\c'=c'') (hab:a=true\/b=true),(∀w,(eqGuard op t X Y u v).run P w= .ok () w)/\(∀w,(Op.equal t u v).run P w= .ok (a && b) w)/\
   (binOp .eql t u v=(do pure (.bool (<-Op.equal t u v))))/\(binOp .neq t u v=(do pure (.bool (!(<-Op.equal t u v))))):=by
   intro⟨e1,e2⟩ hab;subst e1 e2;have s1:=qkB h1 hx;have s2:=qkB h2 hy;refine⟨fun w=>?_,nil_equal h3 s1 s2 hab,?_,?_⟩
   ·unfold eqGuard
    match c,s1,s2 with
    |0,⟨_,_,_,e,_⟩,_=>subst e;cases op<;>simp
    |1,⟨_,e,_⟩,_=>subst e;cases op<;>simp
    |2, .inl ⟨_,e⟩,_=>subst e;cases op<;>simp
    |2, .inr ⟨_,_,_,_,e⟩,_=>subst e;cases op<;>simp
    |3,⟨_,e,_⟩,_=>subst e;cases op<;>simp
   ·match c,s1,s2 with
    |0,⟨_,_,_,e,_⟩,_=>subst e;simp[binOp]
    |1,⟨_,e,_⟩,⟨_,e',_⟩=>subst e e';simp[binOp]
    |2, .inl ⟨_,e⟩,_=>subst e;simp[binOp]
    |2, .inr ⟨_,_,_,_,e⟩,_=>subst e;simp[binOp]
    |3,⟨_,e,_⟩,_=>subst e;simp[binOp]
   ·match c,s1,s2 with
    |0,⟨_,_,_,e,_⟩,_=>subst e;simp[binOp]
    |1,⟨_,e,_⟩,⟨_,e',_⟩=>subst e e';simp[binOp]
    |2, .inl ⟨_,e⟩,_=>subst e;simp[binOp]
    |2, .inr ⟨_,_,_,_,e⟩,_=>subst e;simp[binOp]
    |3,⟨_,e,_⟩,_=>subst e;simp[binOp]
  split at hp
  ·obtain⟨hc,hab⟩:=hp
   obtain⟨k1,k2,k3,_⟩:=key hc hab;refine⟨.bool (a && b),fun w=>?_,by simp only[VR]⟩;rw[k3];simp[Sem.run_bind,k1,k2]
  ·obtain⟨hc,hab⟩:=hp
   obtain⟨k1,k2,_,k4⟩:=key hc hab;refine⟨.bool (!(a && b)),fun w=>?_,by simp only[VR]⟩;rw[k4];simp[Sem.run_bind,k1,k2]
  ·exact hp.elim
 ·exact hp.elim
def qoY(P:Program)(op:BinOp)(t:TypeId)(x y:AVal):PR:=
 match x,y with
 | .int k a, .int k' b=>match op with
   | .shl=>⟨0<=b, .int k (k.wrap (a*2^(min b.toNat k.bits)))⟩
   | .shr=>⟨0<=b, .int k (a.fdiv (2^(min b.toNat k.bits)))⟩
   |op=>if k=k' then pInt op k a b else .no
 | .str a, .str b=>qrR op a b
 | .bool a, .bool b=>match P.underlying t with
   |some .bool=>match op with
    | .eql=>⟨True, .bool (a==b)⟩
    | .neq=>⟨True, .bool (!(a==b))⟩
    |_=> .no
   |_=> .no
 |x,y=>qif P op t x y
theorem qhG{α:Type}[BEq α][LawfulBEq α][DecidableEq α](a b:α):(a==b)=decide (a=b):=by
 rw[KA];simp
theorem pBin_ok{P:Program}{fi:PMap}{op:BinOp}{t:TypeId}{x y:AVal}{u v:Value}(hp:(qoY P op t x y).pre)(hx:VR fi x u)(hy:VR fi y v)(X Y:Operand):
 ∃r,(∀w,(do eqGuard op t X Y u v;binOp op t u v:Sem Value).run P w= .ok r w)/\VR fi (qoY P op t x y).val r:=by
 unfold qoY at hp|-
 split at hp
 ·rename_i k a k' b
  simp only[VR]at hx hy;subst hx hy;have hg:∀w,(eqGuard op t X Y (.int k a) (.int k' b)).run P w= .ok () w:=by
   intro w;unfold eqGuard;cases op<;>simp
  simp only[Sem.run_bind,hg,Result.andThen_ok];cases op<;>simp only[]at hp|-
  case shl=>
   have:¬b<0:=by omega
   simp[binOp,Op.shift,VR,this]
  case shr=>
   have:¬b<0:=by omega
   simp[binOp,Op.shift,VR,this]
  all_goals
   by_cases hk:k=k'
   ·subst hk
    simp only[if_true,pInt]at hp|-
    first
     |exact hp.elim
     |(simp[binOp,Op.intArith,Op.intDiv,Op.intBits,Op.intCmp,VR,hp];done)
     |(simp[binOp,Op.intCmp,VR];simp[qhG,bne])
   ·simp only[hk,if_false]at hp
    exact hp.elim
 ·rename_i a b
  simp only[VR]at hx hy;subst hx hy;have hg:∀w,(eqGuard op t X Y (.string ⟨⟨a⟩⟩) (.string ⟨⟨b⟩⟩)).run P w= .ok () w:=by
   intro w;unfold eqGuard;cases op<;>simp
  simp only[Sem.run_bind,hg,Result.andThen_ok];have e1:ByteArray.toList ⟨⟨a⟩⟩=a:=by rw[ByteArray.toList_eq]
  have e2:ByteArray.toList ⟨⟨b⟩⟩=b:=by rw[ByteArray.toList_eq]
  have hbin:binOp op t (.string ⟨⟨a⟩⟩) (.string ⟨⟨b⟩⟩)=Op.stringOp op ⟨⟨a⟩⟩ ⟨⟨b⟩⟩:=by
   cases op<;>simp[binOp]
  rw[hbin];unfold qrR at hp|-
  unfold Op.stringOp;rw[e1,e2];cases op<;>simp only[]at hp|- <;>first
   |exact hp.elim
   |(simp[VR];done)
   |(rw[qhG];simp[VR];done)
   |skip
  have h2:¬((((⟨⟨a⟩⟩:ByteArray).size+(⟨⟨b⟩⟩:ByteArray).size:Nat):Int)>IntKind.i64.max):=by
   have:IntKind.i64.max=9223372036854775807:=by decide
   rw[this];simp only[ByteArray.size,KC]at*
   omega
  refine⟨.string (⟨⟨a⟩⟩++⟨⟨b⟩⟩),fun w=>by simp only[h2,if_false,Sem.run_pure],?_⟩;simp only[VR];congr 1
 ·rename_i a b
  simp only[VR]at hx hy;subst hx hy;have hg:∀w,(eqGuard op t X Y (.bool a) (.bool b)).run P w= .ok () w:=by
   intro w;unfold eqGuard;cases op<;>simp
  simp only[Sem.run_bind,hg,Result.andThen_ok];split at hp
  ·rename_i ht
   cases op<;>simp only[]at hp|- <;>first
    |exact hp.elim
    |(simp[run_eql_bool,run_neq_bool,ht,VR];done)
  ·exact hp.elim
 ·exact pNilEq_ok hp hx hy X Y
theorem VR_cellsV{fi:PMap}{x:AVal}{v:Value}(h:VR fi x v)(hx:∀cs,x≠ .agg cs)(hl:x.live=true):v.cells= #[v]:=by
 cases x<;>simp only[VR]at h<;>first
  |(simp[AVal.live]at hl;done)
  |(subst h;rfl)
  |exact absurd rfl (hx _)
  |(obtain⟨_,_,rfl⟩:=h;rfl)
  |(obtain⟨_,rfl,_⟩:=h;rfl)
  |skip
 rename_i l o len c
 cases c<;>simp only[]at h
 ·obtain⟨_,rfl,_⟩:=h;rfl
 ·obtain⟨_,_,_,_,_,_,rfl,_⟩:=h;rfl
structure Same(w w':World):Prop where
 cell:∀(a:Addr) (u:Value),w.cell? a=some u->w'.cell? a=some u
 obj:∀(r:Nat) (es:Array MapEntry) (c:Nat),w.heap[r]?=some (.map es c)->w'.heap[r]?=some (.map es c)
theorem Same.refl(w:World):Same w w:=⟨fun _ _ h=>h,fun _ _ _ h=>h⟩
def pUn(op:UnOp)(x:AVal):PR:=
 match op,x with
 | .neg, .int k n=>⟨True, .int k (k.wrap (0-n))⟩
 | .not, .bool b=>⟨True, .bool (!b)⟩
 |_,_=> .no
theorem pUn_ok{P:Program}{fi:PMap}{op:UnOp}{x:AVal}{v:Value}(hp:(pUn op x).pre)(hx:VR fi x v):
 ∃r,(∀w,(Op.unary op v).run P w= .ok r w)/\VR fi (pUn op x).val r:=by
 unfold pUn at hp|-
 split at hp
 ·simp only[VR]at hx;subst hx;simp[Op.unary,Op.intArith,VR]
 ·simp only[VR]at hx;subst hx;simp[Op.unary,VR]
 ·exact hp.elim
def AVal.isU8:AVal->Bool
 | .int .u8 _=>true
 |_=>false
def AVal.byte:AVal->UInt8
 | .int _ n=>KD n.toNat
 |_=>0
def byteCells(s:List UInt8):List AVal:=s.map fun b=> .int .u8 b.toNat
theorem byteCells_length(s:List UInt8):(byteCells s).length=s.length:=by simp[byteCells]
theorem qld(s:List UInt8):(byteCells s).all AVal.isU8=true:=by simp[byteCells,AVal.isU8]
theorem qle(s:List UInt8):(byteCells s).map AVal.byte=s:=by
 induction s with
 |nil=>rfl
 |cons b s ih=>
  simp only[byteCells,Ke,List.map_map,AVal.byte]at ih|-
  rw[ih];congr 1;simp
theorem VRs_u8{fi:PMap}:∀{cs:List AVal} {vs:List Value},VRs fi cs vs->cs.all AVal.isU8=true->∃ns:List Int,vs=ns.map (Value.int .u8)/\cs.map AVal.byte=ns.map fun n=>KD n.toNat
 |[],vs,h,_=>by simp only[VRs]at h;subst h;exact⟨[],rfl,rfl⟩
 |c::cs,vs,h,hu=>by
  simp only[VRs]at h;obtain⟨v,vs',rfl,h1,h2⟩:=h;simp only[KE,Ky]at hu;obtain⟨ns,e1,e2⟩:=VRs_u8 h2 hu.2;match c,hu.1,h1 with
  | .int .u8 n,_,h1=>
    simp only[VR]at h1;exact⟨n::ns,by simp[h1,e1],by simp[AVal.byte,e2]⟩
theorem qdo:∀{cs:List AVal},cs.all AVal.isU8=true->allLive cs=true
 |[],_=>rfl
 |c::cs,h=>by
  simp only[KE,Ky]at h;simp only[allLive,qdo h.2,Bool.and_true];match c,h.1 with
  | .int .u8 n,_=>rfl
def qdC(P:Program)(w0:World)(h:AHeap)(src dst:TypeId)(x:AVal):PR:=
 match x with
 | .int _ n=>match P.underlying src,P.underlying dst with
   |some _,some (.int k)=>⟨True, .int k (k.wrap n)⟩
   |_,_=> .no
 | .str s=>match P.underlying src,P.underlying dst with
   |some .string,some .string=>⟨True, .str s⟩
   |_,_=> .no
 | .nilSlice=>match P.underlying src,P.underlying dst with
   |some (.slice e),some .string=>match P.underlying e with
    |some (.int .u8)=>⟨True, .str []⟩
    |_=> .no
   |_,_=> .no
 | .slice l o len _=>match P.underlying src,P.underlying dst with
   |some (.slice e),some .string=>match P.underlying e with
    |some (.int .u8)=>⟨(cellsAt w0 h l o len).all AVal.isU8=true, .str ((cellsAt w0 h l o len).map AVal.byte)⟩
    |_=> .no
   |_,_=> .no
 |_=> .no
theorem Yr{fi:PMap}{l:Loc}{o len:Nat}{c:Cap}{v:Value}(h:VR fi (.slice l o len c) v):
 ∃a cap,v= .slice (some a) len cap/\(len≠0->Xb fi l o=some a):=by
 cases c with
 |exact c=>
  simp only[VR]at h;obtain⟨a,rfl,ha⟩:=h;exact⟨a,c,rfl,fun hne=>ha (.inr hne)⟩
 |grow es=>
  simp only[VR]at h;obtain⟨k,p,c,a,rfl,hp,rfl,hl,hc⟩:=h;exact⟨a,c,rfl,fun hne=>by
   have:=(hc (by omega)).1;subst this;simp[Xb,hp]⟩
theorem qce{P:Program}{w0 w:World}{fi:PMap}{h:AHeap}(hr:HRel w0 fi h w){l:Loc}{o n:Nat}{a:Addr}(ha:n≠0->Xb fi l o=some a)(hl:allLive (cellsAt w0 h l o n)=true):
 ∃vs:List Value,vs.length=n/\VRs fi (cellsAt w0 h l o n) vs/\(∀w',Same w w'->(loadCells a n).run P w'= .ok vs.toArray w')/\∀j v,vs[j]?=some v->w.cell? (a.add j)=some v:=by
 by_cases hn:n=0
 ·subst hn
  exact⟨[],rfl,by simp[cellsAt,VRs],by simp[loadCells,loadCellsFrom],by simp⟩
 ·obtain⟨vs,e1,e2,e3⟩:=qeu hr l n o a (ha hn) hl
  exact⟨vs,e1,e2,fun w' hw=>by rw[<-e1];exact run_loadCells_list w' a vs fun j v hj=>hw.cell _ _ (e3 j v hj),e3⟩
theorem pConv_ok{P:Program}{w0 w:World}{fi:PMap}{h:AHeap}{src dst:TypeId}{x:AVal}{v:Value}(hp:(qdC P w0 h src dst x).pre)(hr:HRel w0 fi h w)(hx:VR fi x v):
 ∃r,(∀w',Same w w'->(convert src dst v).run P w'= .ok r w')/\VR fi (qdC P w0 h src dst x).val r:=by
 unfold qdC at hp|-
 split at hp
 ·rename_i k n
  simp only[VR]at hx;subst hx;split at hp
  ·rename_i d k' h1 h2
   exact⟨.int k' (k'.wrap n),fun w' _=>by simp[convert,qM h1,qM h2,Conv.intToInt],by simp only[VR]⟩
  ·exact hp.elim
 ·simp only[VR]at hx;subst hx
  split at hp
  ·rename_i h1 h2
   exact⟨_,fun w' _=>by simp[convert,qM h1,qM h2];rfl,by simp only[VR]⟩
  ·exact hp.elim
 ·simp only[VR]at hx;subst hx
  split at hp
  ·rename_i e h1 h2
   split at hp
   ·rename_i h3
    refine⟨.string .empty,fun w' _=>?_,by simp only[VR];rfl⟩;rw[run_convert_bytes_string w' src dst e none 0 0 h1 h3 h2];simp[Conv.bytesToString]
   ·exact hp.elim
  ·exact hp.elim
 ·rename_i l o len c
  split at hp
  ·rename_i e h1 h2
   split at hp
   ·rename_i h3
    simp only at hp|-
    obtain⟨a,cap,rfl,ha⟩:=Yr hx;obtain⟨vs,e1,e2,e3,_⟩:=qce (P:=P) hr ha (qdo hp);obtain⟨ns,f1,f2⟩:=VRs_u8 e2 hp;subst f1;refine⟨.string ⟨ByteArray.empty.data++(ns.map fun n=>KD n.toNat).toArray⟩,fun w' hw=>?_,?_⟩
    ·rw[run_convert_bytes_string w' src dst e (some a) len cap h1 h3 h2,run_bytesToString w' a len cap ns (e3 w' hw),foldl_push_bytes]
    ·simp only[VR]
     rw[f2];simp[ByteArray.empty,ByteArray.emptyWithCapacity];rfl
   ·exact hp.elim
  ·exact hp.elim
 ·exact hp.elim
def qbb(P:Program)(t:TypeId)(cs:List AVal)(off:Nat):PR:=
 match YV P t,ZI P t with
 |some true,some n=>⟨off+n<=cs.length, .agg ((cs.drop off).take n)⟩
 |some false,some _=>⟨off<cs.length,cs.getD off .dead⟩
 |_,_=> .no
theorem qdA{P:Program}{fi:PMap}{t:TypeId}{cs:List AVal}{off:Nat}{vs:List Value}(hp:(qbb P t cs off).pre)(hs:VRs fi cs vs):
 ∃r,(∀w,(part t vs.toArray off).run P w= .ok r w)/\VR fi (qbb P t cs off).val r:=by
 unfold qbb at hp|-
 split at hp
 ·rename_i n h1 h2
  simp only at hp|-
  refine⟨.agg (vs.toArray.extract off (off+n)),fun w=>by simp[part,qeb h1,Zv h2],?_⟩;simp only[VR];refine⟨(vs.drop off).take n,?_,qlw n (qhL off hs)⟩;congr 1;apply KF;simp[List.extract]
 ·rename_i h1 h2
  simp only at hp|-
  have hl:=Xw hs;have:=qeF hs off undef (by omega);refine⟨vs.getD off undef,fun w=>?_,this⟩;have hlt:off<vs.length:=by omega
  simp[part,qeb h1,hlt]
 ·exact hp.elim
def qnz(P:Program)(t:TypeId)(x:AVal)(f:Nat):PR:=
 match x,P.underlying t with
 | .agg cs,some (.struct fs)=>match fs[f]? with
   |some fd=>qbb P fd.type cs fd.offset
   |none=> .no
 |_,_=> .no
theorem pField_ok{P:Program}{fi:PMap}{t:TypeId}{x:AVal}{f:Nat}{v:Value}(hp:(qnz P t x f).pre)(hx:VR fi x v):
 ∃r,(∀w,(Instr.field t v f).run P w= .ok r w)/\VR fi (qnz P t x f).val r:=by
 unfold qnz at hp|-
 split at hp
 ·rename_i cs fs h1
  split at hp
  ·rename_i fd h2
   simp only[VR]at hx;obtain⟨vs,rfl,hs⟩:=hx;obtain⟨r,e1,e2⟩:=qdA hp hs;exact⟨r,fun w=>by simp[Instr.field,qM h1,h2,asAgg,e1],e2⟩
  ·exact hp.elim
 ·exact hp.elim
def qcG(P:Program)(t:TypeId)(x i:AVal):PR:=
 match x,i with
 | .str s, .int _ n=>match P.underlying t with
   |some .string=>⟨0<=n/\n<s.length, .int .u8 (s.getD n.toNat 0).toNat⟩
   |_=> .no
 | .agg cs, .int _ n=>match P.underlying t with
   |some (.array len e)=>match ZI P e with
    |some es=>⟨(0<=n/\n<len)/\(qbb P e cs (n.toNat*es)).pre,(qbb P e cs (n.toNat*es)).val⟩
    |none=> .no
   |_=> .no
 |_,_=> .no
theorem pIndex_ok{P:Program}{fi:PMap}{t:TypeId}{x i:AVal}{v u:Value}(hp:(qcG P t x i).pre)(hx:VR fi x v)(hi:VR fi i u):
 ∃r,(∀w,(Instr.index t v u).run P w= .ok r w)/\VR fi (qcG P t x i).val r:=by
 unfold qcG at hp|-
 split at hp
 ·rename_i s k n
  split at hp
  ·rename_i h1
   simp only[VR]at hx hi;subst hx hi;simp only at hp|-
   obtain⟨h0,h2⟩:=hp;refine⟨.int .u8 (s.getD n.toNat 0).toNat,fun w=>?_,by simp only[VR]⟩;have hlt:n.toNat<s.length:=by omega
   have hg:(⟨⟨s⟩⟩:ByteArray)[n.toNat]?=some (s.getD n.toNat 0):=by
    rw[getElem?_pos _ _ (by simpa[ByteArray.size]using hlt)];simp[ByteArray.getElem_eq_getElem_data,Ko,hlt]
   simp[Instr.index,asIntOf,qM h1,h0,hg]
  ·exact hp.elim
 ·rename_i cs k n
  split at hp
  ·rename_i len e h1
   split at hp
   ·rename_i es h2
    simp only[VR]at hx hi;subst hi;obtain⟨vs,rfl,hs⟩:=hx;simp only at hp|-
    obtain⟨⟨h3,h4⟩,h5⟩:=hp;obtain⟨r,e1,e2⟩:=qdA h5 hs;exact⟨r,fun w=>by simp[Instr.index,asIntOf,qM h1,h3,h4,Zv h2,e1],e2⟩
   ·exact hp.elim
  ·exact hp.elim
 ·exact hp.elim
def Xd(P:Program)(t:TypeId)(x i:AVal):PR:=
 match x,i with
 | .slice l o len _, .int _ n=>match P.underlying t with
   |some (.slice e)=>match ZI P e with
    |some es=>⟨0<=n/\n<len, .ptr l (o+n.toNat*es)⟩
    |none=> .no
   |_=> .no
 | .ptr l o, .int _ n=>match P.underlying t with
   |some (.array len e)=>match ZI P e with
    |some es=>⟨0<=n/\n<len, .ptr l (o+n.toNat*es)⟩
    |none=> .no
   |_=> .no
 |_,_=> .no
theorem qlJ{P:Program}{fi:PMap}{t:TypeId}{x i:AVal}{v u:Value}(hp:(Xd P t x i).pre)(hx:VR fi x v)(hi:VR fi i u):
 ∃r,(∀w,(Instr.indexAt t v u).run P w= .ok r w)/\VR fi (Xd P t x i).val r:=by
 unfold Xd at hp|-
 split at hp
 ·rename_i l o len c k n
  split at hp
  ·rename_i e h1
   split at hp
   ·rename_i es h2
    simp only at hp|-
    obtain⟨h3,h4⟩:=hp;obtain⟨a,cap,rfl,ha⟩:=Yr hx;simp only[VR]at hi;subst hi;have ha':=ha (by omega);refine⟨.pointer (some (a.add (n.toNat*es))),fun w=>?_,by simp only[VR];exact⟨_,Yu ha',rfl⟩⟩;simp[Instr.indexAt,asIntOf,qM h1,h3,h4,Zv h2]
   ·exact hp.elim
  ·exact hp.elim
 ·rename_i l o k n
  split at hp
  ·rename_i len e h1
   split at hp
   ·rename_i es h2
    simp only at hp|-
    obtain⟨h3,h4⟩:=hp;simp only[VR]at hi hx;subst hi;obtain⟨a,ha,rfl⟩:=hx;refine⟨.pointer (some (a.add (n.toNat*es))),fun w=>?_,by simp only[VR];exact⟨_,Yu ha,rfl⟩⟩;simp[Instr.indexAt,Instr.sureAddr,asIntOf,qM h1,h3,h4,Zv h2]
   ·exact hp.elim
  ·exact hp.elim
 ·exact hp.elim
def QA(P:Program)(t:TypeId)(x:AVal)(f:Nat):PR:=
 match x,P.underlying t with
 | .ptr l o,some (.struct fs)=>match fs[f]? with
   |some fd=>match ZI P fd.type with
    |some n=>⟨n≠0, .ptr l (o+fd.offset)⟩
    |none=> .no
   |none=> .no
 |_,_=> .no
theorem qlK{P:Program}{fi:PMap}{t:TypeId}{x:AVal}{f:Nat}{v:Value}(hp:(QA P t x f).pre)(hx:VR fi x v):
 ∃r,(∀w,(Instr.fieldAt t v f).run P w= .ok r w)/\VR fi (QA P t x f).val r:=by
 unfold QA at hp|-
 split at hp
 ·rename_i l o fs h1
  split at hp
  ·rename_i fd h2
   split at hp
   ·rename_i n h3
    simp only[VR]at hx;obtain⟨a,ha,rfl⟩:=hx;simp only at hp|-
    refine⟨.pointer (some (a.add fd.offset)),fun w=>?_,by simp only[VR];exact⟨_,Yu ha,rfl⟩⟩;simp[Instr.fieldAt,qM h1,h2,Instr.sureAddr,fieldPlace,Zv h3,hp]
   ·exact hp.elim
  ·exact hp.elim
 ·exact hp.elim
def Yt(P:Program)(w0:World)(h:AHeap)(t:TypeId)(x:AVal):PR:=
 match x with
 | .ptr l o=>match YV P t,ZI P t with
   |some true,some n=>⟨allLive (cellsAt w0 h l o n)=true, .agg (cellsAt w0 h l o n)⟩
   |some false,_=>⟨(rd w0 h l o).live=true,rd w0 h l o⟩
   |_,_=> .no
 |_=> .no
theorem qoU{P:Program}{w0 w:World}{fi:PMap}{h:AHeap}{t:TypeId}{x:AVal}{v:Value}(hp:(Yt P w0 h t x).pre)(hr:HRel w0 fi h w)(hx:VR fi x v):
 ∃r,(∀w',Same w w'->(Instr.loadAt t v).run P w'= .ok r w')/\VR fi (Yt P w0 h t x).val r:=by
 unfold Yt at hp|-
 split at hp
 ·rename_i l o
  simp only[VR]at hx;obtain⟨a,ha,rfl⟩:=hx;split at hp
  ·rename_i n h1 h2
   simp only at hp|-
   obtain⟨vs,e1,e2,e3,_⟩:=qce (P:=P) hr (fun _=>ha) hp;refine⟨.agg vs.toArray,fun w' hw=>?_,by simp only[VR];exact⟨vs,rfl,e2⟩⟩;simp[Instr.loadAt,Instr.sureAddr,loadVar,qeb h1,Zv h2,e3 w' hw]
  ·rename_i _ _ h1
   simp only at hp|-
   obtain⟨a',u,g1,g2,g3,_⟩:=hr.rd l o hp;have:a'=a:=by rw[ha]at g1;exact(Option.some.inj g1).symm
   subst this;exact⟨u,fun w' hw=>by simp[Instr.loadAt,Instr.sureAddr,loadVar,qeb h1,hw.cell _ _ g2],g3⟩
  ·exact hp.elim
 ·exact hp.elim
def qcj(x:Option AVal)(d:Nat):Option Int:=
 match x with
 |none=>some d
 |some (.int _ n)=>some n
 |_=>none
def Wm(P:Program)(t:TypeId)(x:AVal)(lo hi mx:Option AVal):PR:=
 match x,P.underlying t with
 | .str s,some .string=>match mx,qcj lo 0,qcj hi s.length with
   |none,some l,some h=>⟨0<=l/\l<=h/\h<=s.length, .str ((s.drop l.toNat).take (h.toNat-l.toNat))⟩
   |_,_,_=> .no
 | .nilSlice,some (.slice e)=>match ZI P e,mx,qcj lo 0,qcj hi 0 with
   |some _,none,some l,some h=>⟨l=0/\h=0, .nilSlice⟩
   |some _,some (.int _ m),some l,some h=>⟨(l=0/\h=0/\m=0)/\hi.isSome=true, .nilSlice⟩
   |_,_,_,_=> .no
 | .slice lc o len c,some (.slice e)=>match ZI P e,qcj lo 0,qcj hi len,mx,c with
   |some es,some l,some h,none, .exact c=>⟨0<=l/\l<=h/\h<=c, .slice lc (o+l.toNat*es) (h-l).toNat (.exact (c-l).toNat)⟩
   |some es,some l,some h,none, .grow g=>⟨0<=l/\l<=h/\h<=len/\g=es, .slice lc (o+l.toNat*es) (h-l).toNat (.grow g)⟩
   |some es,some l,some h,some (.int _ m), .exact c=>⟨(0<=l/\l<=h/\h<=m/\m<=c)/\hi.isSome=true, .slice lc (o+l.toNat*es) (h-l).toNat (.exact (m-l).toNat)⟩
   |some es,some l,some h,some (.int _ m), .grow _=>⟨(0<=l/\l<=h/\h<=m/\m<=len)/\hi.isSome=true, .slice lc (o+l.toNat*es) (h-l).toNat (.exact (m-l).toNat)⟩
   |_,_,_,_,_=> .no
 |_,_=> .no
theorem qay{P:Program}(b:Bool)(len cap:Nat)(lo hi:Option Value)(l h:Int)
 (hlo:(lo=none/\l=0)\/∃k,lo=some (.int k l)) (hhi:(hi=none/\h=len)\/∃k,hi=some (.int k h)) (h0:0<=l) (h1:l<=h) (h2:h<=cap):
 ∀w:World,(Instr.sliceBounds b len cap lo hi none).run P w= .ok (l.toNat,h.toNat,cap) w:=by
 intro w;obtain⟨l,rfl⟩:=KG h0;obtain⟨h,rfl⟩:=KG (KH h0 h1);have b1:l<=h:=by omega
 have b2:h<=cap:=by omega
 rcases hlo with⟨rfl,e⟩|⟨k,rfl⟩<;>rcases hhi with⟨rfl,e'⟩|⟨k',rfl⟩
 ·obtain rfl:l=0:=by omega
  obtain rfl:h=len:=by omega
  simp[Instr.sliceBounds]
 ·obtain rfl:l=0:=by omega
  simp[Instr.sliceBounds,Instr.sliceBound,asIntOf,b2]
 ·obtain rfl:h=len:=by omega
  simp[Instr.sliceBounds,Instr.sliceBound,asIntOf,b1]
 ·simp[Instr.sliceBounds,Instr.sliceBound,asIntOf,b1,b2]
theorem qbP{P:Program}(len cap:Nat)(lo:Option Value)(l h m:Int)(k' k'':IntKind)
 (hlo:(lo=none/\l=0)\/∃k,lo=some (.int k l)) (h0:0<=l) (h1:l<=h) (h2:h<=m) (h3:m<=cap):
 ∀w:World,(Instr.sliceBounds true len cap lo (some (.int k' h)) (some (.int k'' m))).run P w= .ok (l.toNat,h.toNat,m.toNat) w:=by
 intro w;obtain⟨l,rfl⟩:=KG h0;obtain⟨h,rfl⟩:=KG (KH h0 h1);obtain⟨m,rfl⟩:=KG (KH h0 (KH h1 h2));have b1:l<=h:=by omega
 have b2:h<=m:=by omega
 have b3:m<=cap:=by omega
 rcases hlo with⟨rfl,e⟩|⟨k,rfl⟩
 ·obtain rfl:l=0:=by omega
  simp[Instr.sliceBounds,Instr.sliceBound,asIntOf,b2,b3]
 ·simp[Instr.sliceBounds,Instr.sliceBound,asIntOf,b1,b2,b3]
def OVR(fi:PMap):Option AVal->Option Value->Prop
 |none,v=>v=none
 |some x,v=>∃u,v=some u/\VR fi x u
theorem qci{fi:PMap}{x:Option AVal}{v:Option Value}{d:Nat}{n:Int}(h:qcj x d=some n)(hx:OVR fi x v):
 (v=none/\n=d/\x=none)\/∃k,v=some (.int k n):=by
 unfold qcj at h;split at h
 ·simp only[OVR]at hx
  exact .inl ⟨hx,(Option.some.inj h).symm,rfl⟩
 ·rename_i k n'
  simp only[OVR,VR]at hx;obtain⟨u,rfl,rfl⟩:=hx;cases h;exact .inr ⟨k,rfl⟩
 ·cases h
theorem qju{P:Program}(t:TypeId)(ht:P.underlying t=some .string)(s:List UInt8)(lo hi:Option Value)(l h:Int)
 (hlo:(lo=none/\l=0)\/∃k,lo=some (.int k l)) (hhi:(hi=none/\h=s.length)\/∃k,hi=some (.int k h)) (h0:0<=l) (h1:l<=h) (h2:h<=s.length):
 ∀w:World,(Instr.sliceAt t (.string ⟨⟨s⟩⟩) lo hi none).run P w= .ok (.string ⟨⟨(s.drop l.toNat).take (h.toNat-l.toNat)⟩⟩) w:=by
 intro w;have hb:=qay (P:=P) false s.length s.length lo hi l h hlo hhi h0 h1 h2 w;have hx:(⟨⟨s⟩⟩:ByteArray).extract l.toNat h.toNat=⟨⟨(s.drop l.toNat).take (h.toNat-l.toNat)⟩⟩:=by
  apply ByteArray.ext;apply KF;rw[Lib.extract_data]
 have hsz:(⟨⟨s⟩⟩:ByteArray).size=s.length:=by simp[ByteArray.size]
 simp[Instr.sliceAt,Instr.slice,qM ht,hsz,hb,hx]
theorem WG{P:Program}(t e:TypeId)(ht:P.underlying t=some (.slice e))(es:Nat)(he:ZI P e=some es)(a:Option Addr)(len cap:Nat)(lo hi mx:Option Value)(l h m:Nat)
 (hb:∀w:World,(Instr.sliceBounds true len cap lo hi mx).run P w= .ok (l,h,m) w):
 ∀w:World,(Instr.sliceAt t (.slice a len cap) lo hi mx).run P w= .ok (.slice (if m=l then a else a.map (·.add (l*es))) (h-l) (m-l)) w:=by
 intro w;simp[Instr.sliceAt,Instr.slice,qM ht,hb w,Zv he]
theorem pSlice_ok{P:Program}{fi:PMap}{t:TypeId}{x:AVal}{lo hi mx:Option AVal}{v:Value}{vl vh vm:Option Value}(hp:(Wm P t x lo hi mx).pre)(hx:VR fi x v)
 (hl:OVR fi lo vl) (hh:OVR fi hi vh) (hm:OVR fi mx vm):
 ∃r,(∀w,(Instr.sliceAt t v vl vh vm).run P w= .ok r w)/\VR fi (Wm P t x lo hi mx).val r:=by
 unfold Wm at hp|-
 split at hp
 ·rename_i s h1
  split at hp
  ·rename_i l h h2 h3
   simp only[VR]at hx;subst hx;simp only[OVR]at hm;subst hm;simp only at hp|-
   obtain⟨p1,p2,p3⟩:=hp;refine⟨_,qju t h1 s vl vh l h ?_ ?_ p1 p2 p3,by simp only[VR]⟩
   ·rcases qci h2 hl with⟨e1,e2,_⟩|e
    ·exact .inl ⟨e1,by simpa using e2⟩
    ·exact .inr e
   ·rcases qci h3 hh with⟨e1,e2,_⟩|e
    ·exact .inl ⟨e1,by simpa using e2⟩
    ·exact .inr e
  ·exact hp.elim
 ·rename_i e h1
  split at hp
  ·rename_i n l h h2 h3 h4
   simp only[VR]at hx;subst hx;simp only[OVR]at hm;subst hm;simp only at hp|-
   obtain⟨rfl,rfl⟩:=hp;have hb:=qay (P:=P) true 0 0 vl vh 0 0 (by
    rcases qci h3 hl with⟨e1,_,_⟩|e
    ·exact .inl ⟨e1,rfl⟩
    ·exact .inr e) (by
    rcases qci h4 hh with⟨e1,_,_⟩|e
    ·exact .inl ⟨e1,rfl⟩
    ·exact .inr e) (by omega) (by omega) (by omega)
   exact⟨_,WG t e h1 n h2 none 0 0 vl vh none _ _ _ hb,by simp[VR]⟩
  ·rename_i n k m l h h2 h3 h4
   simp only[VR]at hx;subst hx;simp only[OVR,VR]at hm;obtain⟨u,rfl,rfl⟩:=hm;simp only at hp|-
   obtain⟨⟨rfl,rfl,rfl⟩,p5⟩:=hp;obtain⟨kh,rfl⟩:∃k,vh=some (.int k 0):=by
    rcases qci h4 hh with⟨_,_,e3⟩|e
    ·subst e3;cases p5
    ·exact e
   have hb:=qbP (P:=P) 0 0 vl 0 0 0 kh k (by
    rcases qci h3 hl with⟨e1,_,_⟩|e
    ·exact .inl ⟨e1,rfl⟩
    ·exact .inr e) (by omega) (by omega) (by omega) (by omega)
   exact⟨_,WG t e h1 n h2 none 0 0 vl _ _ _ _ _ hb,by simp[VR]⟩
  ·exact hp.elim
 ·rename_i lc o len c e h1
  have low:∀l,qcj lo 0=some l->(vl=none/\l=0)\/∃k,vl=some (.int k l):=fun l hb=>by
   rcases qci hb hl with⟨e1,e2,_⟩|e
   ·exact .inl ⟨e1,by simpa using e2⟩
   ·exact .inr e
  have high:∀h,qcj hi len=some h->(vh=none/\h=len)\/∃k,vh=some (.int k h):=fun h hb=>by
   rcases qci hb hh with⟨e1,e2,_⟩|e
   ·exact .inl ⟨e1,e2⟩
   ·exact .inr e
  have high':∀h,qcj hi len=some h->hi.isSome=true->∃k,vh=some (.int k h):=fun h hb hs=>by
   rcases qci hb hh with⟨_,_,e3⟩|e
   ·subst e3;cases hs
   ·exact e
  split at hp
  ·rename_i es l h c h2 h3 h4
   simp only[OVR]at hm;subst hm;simp only at hp|-
   obtain⟨p1,p2,p3⟩:=hp;simp only[VR]at hx;obtain⟨a,rfl,ha⟩:=hx;have hb:=qay (P:=P) true len c vl vh l h (low l h3) (high h h4) p1 p2 p3;refine⟨_,WG t e h1 es h2 (some a) len c vl vh none _ _ _ hb,?_⟩;simp only[VR];refine⟨if c=l.toNat then a else a.add (l.toNat*es),?_,fun hne=>?_⟩
   ·congr 1
    ·split<;>simp
    ·omega
    ·omega
   ·have hcl:c≠l.toNat:=by omega
    rw[if_neg hcl];exact Yu (ha (by omega))
  ·rename_i es l h g h2 h3 h4
   simp only[OVR]at hm;subst hm;simp only at hp|-
   obtain⟨p1,p2,p3,rfl⟩:=hp;simp only[VR]at hx;obtain⟨k,p,c,a,rfl,hp,rfl,hlc,hc⟩:=hx;have hb:=qay (P:=P) true len c vl vh l h (low l h3) (high h h4) p1 p2 (by omega);refine⟨_,WG t e h1 g h2 (some a) len c vl vh none _ _ _ hb,?_⟩;simp only[VR];refine⟨k,p,c-l.toNat,if c=l.toNat then a else a.add (l.toNat*g),rfl,hp,?_,by omega,fun hne=>?_⟩
   ·congr 1
    ·split<;>simp
    ·omega
   ·have hcl:c≠l.toNat:=by omega
    rw[if_neg hcl];obtain⟨e1,e2⟩:=hc (by omega);constructor
    ·have:Xb fi (.own k) o=some a:=by simp[Xb,hp,e1]
     have:=Yu (j:=l.toNat*g) this;simp only[Xb,hp,KI,Option.some.injEq]at this;exact this.symm
    ·rw[Kw,<-KJ]
     rw[show l.toNat+(c-l.toNat)=c by omega];exact e2
  ·rename_i es l h k m c h2 h3 h4
   simp only[OVR,VR]at hm;obtain⟨u,rfl,rfl⟩:=hm;simp only at hp|-
   obtain⟨⟨p1,p2,p3,p4⟩,p5⟩:=hp;obtain⟨kh,rfl⟩:=high' h h4 p5;simp only[VR]at hx;obtain⟨a,rfl,ha⟩:=hx;have hb:=qbP (P:=P) len c vl l h m kh k (low l h3) p1 p2 p3 p4;refine⟨_,WG t e h1 es h2 (some a) len c vl _ _ _ _ _ hb,?_⟩;simp only[VR];refine⟨if m.toNat=l.toNat then a else a.add (l.toNat*es),?_,fun hne=>?_⟩
   ·congr 1
    ·split<;>simp
    ·omega
    ·omega
   ·have hcl:m.toNat≠l.toNat:=by omega
    rw[if_neg hcl];exact Yu (ha (by omega))
  ·rename_i es l h k m g h2 h3 h4
   simp only[OVR,VR]at hm;obtain⟨u,rfl,rfl⟩:=hm;simp only at hp|-
   obtain⟨⟨p1,p2,p3,p4⟩,p5⟩:=hp;obtain⟨kh,rfl⟩:=high' h h4 p5;simp only[VR]at hx;obtain⟨k',p,c,a,rfl,hp,rfl,hlc,hc⟩:=hx;have hb:=qbP (P:=P) len c vl l h m kh k (low l h3) p1 p2 p3 (by omega);refine⟨_,WG t e h1 es h2 (some a) len c vl _ _ _ _ _ hb,?_⟩;simp only[VR];refine⟨if m.toNat=l.toNat then a else a.add (l.toNat*es),?_,fun hne=>?_⟩
   ·congr 1
    ·split<;>simp
    ·omega
    ·omega
   ·have hcl:m.toNat≠l.toNat:=by omega
    rw[if_neg hcl];obtain⟨e1,e2⟩:=hc (by omega);exact Yu (by simp[Xb,hp,e1])
  ·exact hp.elim
 ·exact hp.elim
def kEq:AVal->AVal->Option Bool
 | .str a, .str b=>some (decide (a=b))
 | .int k a, .int k' b=>if k=k' then some (decide (a=b))else none
 |_,_=>none
def qbE(P:Program)(kt:TypeId)(x:AVal):Bool:=
 match P.underlying kt,x with
 |some .string, .str _=>true
 |some (.int _), .int _ _=>true
 |_,_=>false
def qdb(key:AVal):List AVal->Nat->Option (Option (Nat×AVal))
 |[],_=>some none
 | .mapE _ k v::es,i=>match kEq key k with
   |some true=>some (some (i,v))
   |some false=>qdb key es (i+1)
   |none=>none
 |_::_,_=>none
def WR(h:AHeap)(k:Nat):Option (Nat×List AVal):=
 match h k with
 |some ⟨.mapO c::es,f⟩=>if f=es.length+2 then some (c,es)else none
 |_=>none
def Yj(c:Nat)(es:List AVal):Blk:=⟨.mapO c::es,es.length+2⟩
theorem Wz{h:AHeap}{k c:Nat}{es:List AVal}(hm:WR h k=some (c,es)):h k=some (Yj c es):=by
 unfold WR at hm;split at hm
 ·rename_i c' es' f hk
  split at hm
  ·rename_i hf
   cases hm;rw[hk,hf];rfl
  ·cases hm
 ·cases hm
theorem qbD{h:AHeap}{k c:Nat}{es:List AVal}(hm:h k=some (Yj c es)):WR h k=some (c,es):=by
 unfold WR;rw[hm];simp[Yj]
theorem HRel.mapAt{w0 w:World}{fi:PMap}{h:AHeap}(hr:HRel w0 fi h w){k c:Nat}{es:List AVal}(hm:WR h k=some (c,es)):
 ∃p entries,fi k=some p/\w.heap[p.blk]?=some (.map entries c)/\ERel fi es entries.toList:=by
 have hk:=Wz hm;obtain⟨p,hp,_,ok⟩:=hr.own k _ hk;obtain⟨o,h1,h2⟩:=(ok.obj rfl).obj;refine⟨p,?_⟩;cases o with
 |map entries clock=>
  obtain⟨e1,e2⟩:=(show clock=c/\ERel fi es entries.toList from h2)
  subst e1;exact⟨entries,hp,h1,e2⟩
 |_=>exact(show False from h2).elim
theorem qnA:∀a b:ByteArray,(a==b)=true->a=b
 |⟨a⟩,⟨b⟩,h=>by
  have h1:(a==b)=true:=h;rw[beq_iff_eq]at h1;rw[h1]
theorem qfo(a:ByteArray):(a==a)=true:=by
 show(a.data==a.data)=true
 exact beq_self_eq_true _
theorem kEq_ok{fi:PMap}{P:Program}{kt:TypeId}{d:TypeDesc}{x y:AVal}{u v:Value}{b:Bool}(hd:P.underlying kt=some d)(hk:qbE P kt x=true)(he:kEq x y=some b)(hx:VR fi x u)(hy:VR fi y v):
 Instr.sameNow d u v=some b/\(b=true->y=x):=by
 unfold qbE at hk;rw[hd]at hk;cases d with
 |string=>
  cases x with
  |str a=>
   cases y<;>simp only[kEq]at he<;>first|(cases he;done)|skip
   rename_i c
   simp only[VR]at hx hy;subst hx hy;cases he;refine⟨?_,fun h=>?_⟩
   ·have e:((⟨⟨a⟩⟩:ByteArray)==⟨⟨c⟩⟩)=decide (a=c):=by
     rw[KA,decide_eq_true_eq];constructor
     ·intro h
      have h2:=qnA _ _ h;cases h2;rfl
     ·rintro rfl
      exact qfo _
    simp only[Instr.sameNow];rw[e]
   ·rw[of_decide_eq_true h]
  |_=>cases hk
 |int k=>
  cases x with
  |int n m=>
   cases y<;>simp only[kEq]at he<;>first|(cases he;done)|skip
   rename_i k' n'
   split at he
   ·rename_i hkk
    subst hkk;simp only[VR]at hx hy;subst hx hy;cases he;refine⟨by simp[Instr.sameNow,qhG],fun h=>by rw[of_decide_eq_true h]⟩
   ·cases he
  |_=>cases hk
 |_=>cases x<;>cases hk
theorem find_ok{fi:PMap}{P:Program}{kt:TypeId}{d:TypeDesc}{x:AVal}{u:Value}(hd:P.underlying kt=some d)(hk:qbE P kt x=true)(hx:VR fi x u):∀{es:List AVal} {l:List MapEntry} {i:Nat} {r:Option (Nat×AVal)},
 ERel fi es l->qdb x es i=some r->∃r',Instr.findNow d u l i=some r'/\match r,r' with
  |none,none=>True
  |some (j,y),some (j',v)=>j=j'/\VR fi y v/\i<=j/\∃e,l[j-i]?=some e/\e.val=v/\VR fi x e.key
  |_,_=>False
 |[],l,i,r,he,hf=>by
  simp only[ERel]at he;subst he;simp only[qdb,Option.some.injEq]at hf;subst hf;exact⟨none,rfl,trivial⟩
 |c::es,l,i,r,he,hf=>by
  simp only[ERel]at he;obtain⟨e,l',rfl,hc,he⟩:=he;cases c<;>first|(exact hc.elim;done)|skip
  rename_i b k v
  simp only at hc;obtain⟨c1,c2,c3⟩:=hc;simp only[qdb]at hf;split at hf
  ·rename_i hq
   obtain⟨q1,q2⟩:=kEq_ok hd hk hq hx c2;cases hf;refine⟨some (i,e.val),by simp only[Instr.findNow,q1],rfl,c3,KL _,e,by simp,rfl,?_⟩;rw[<-q2 rfl];exact c2
  ·rename_i hq
   obtain⟨q1,_⟩:=kEq_ok hd hk hq hx c2;obtain⟨r',g1,g2⟩:=find_ok hd hk hx he hf;refine⟨r',by simp only[Instr.findNow,q1];exact g1,?_⟩;match r,r',g2 with
   |none,none,_=>trivial
   |some (j,y),some (j',v'),⟨f1,f2,f3,e',f4,f5⟩=>exact⟨f1,f2,by omega,e',by rw[show j-i=(j-(i+1))+1 by omega,KM];exact f4,f5⟩
  ·cases hf
theorem run_findKey{P:Program}{kt:TypeId}{d:TypeDesc}{u:Value}{l:List MapEntry}{r:Option (Nat×Value)}(hd:P.underlying kt=some d)(h:Instr.findNow d u l 0=some r)(w:World):(Instr.findKey kt u l).run P w= .ok r w:=by
 simp[Instr.findKey,qM hd,h]
theorem run_checkKey{P:Program}{kt:TypeId}{x:AVal}(hk:qbE P kt x=true)(b:Bool)(u:Value)(w:World):(Instr.checkKey b 10000 kt u).run P w= .ok () w:=by
 unfold qbE at hk;cases hd:P.underlying kt with
 |none=>simp[hd]at hk
 |some d=>
  have key:∀n,(Instr.checkKey b (n+1) kt u).run P w= .ok () w:=fun n=>by
   simp only[Instr.checkKey,Sem.run_bind,qM hd,Result.andThen_ok];rw[hd]at hk;cases d<;>first|(cases x<;>cases hk;done)|rfl
  exact key 9999
theorem qdF{P:Program}{kt:TypeId}{x:AVal}(hk:qbE P kt x=true):∃d,P.underlying kt=some d:=by
 unfold qbE at hk;cases hd:P.underlying kt with
 |none=>simp[hd]at hk
 |some d=>exact⟨d,rfl⟩
def qiV(ok:Bool)(v:AVal)(b:Bool):AVal:=if ok then .tuple [v, .bool b]else v
def qaF(P:Program)(h:AHeap)(t:TypeId)(x i:AVal)(ok:Bool):PR:=
 match P.underlying t with
 |some (.map kt et)=>match Ud P et with
  |some z=>match x with
   | .nilMap=>⟨qbE P kt i=true,qiV ok (absV z) false⟩
   | .map k=>match WR h k with
     |some (_,es)=>match qdb i es 0 with
      |some (some (_,v))=>⟨qbE P kt i=true,qiV ok v true⟩
      |some none=>⟨qbE P kt i=true,qiV ok (absV z) false⟩
      |none=> .no
     |none=> .no
   |_=> .no
  |none=> .no
 |_=> .no
theorem qkE{fi:PMap}{ok:Bool}{y:AVal}{v:Value}{b:Bool}(h:VR fi y v):VR fi (qiV ok y b) (if ok then .tuple #[v, .bool b]else v):=by
 unfold qiV;cases ok
 ·exact h
 ·simp only[if_true,VR]
  exact⟨[v, .bool b],rfl,by simp only[VRs,VR];exact⟨_,_,rfl,h,_,_,rfl,rfl,rfl⟩⟩
theorem qrT{P:Program}{w0 w:World}{fi:PMap}{h:AHeap}{t:TypeId}{x i:AVal}{ok:Bool}{v u:Value}(hp:(qaF P h t x i ok).pre)(hr:HRel w0 fi h w)(hx:VR fi x v)(hi:VR fi i u):
 ∃r,(∀w',Same w w'->(Instr.lookup t v u ok).run P w'= .ok r w')/\VR fi (qaF P h t x i ok).val r:=by
 unfold qaF at hp|-
 split at hp<;>first|exact hp.elim|skip
 rename_i kt et ht
 split at hp<;>first|exact hp.elim|skip
 rename_i z hz
 have hz':=fun w=>qdz hz w;split at hp<;>first|exact hp.elim|skip
 ·simp only[VR]at hx
  subst hx;simp only at hp|-
  obtain⟨d,hd⟩:=qdF hp;refine⟨_,fun w' _=>?_,qkE (qon fi z)⟩;simp[Instr.lookup,qM ht,run_checkKey hp,run_findKey hd (show Instr.findNow d u [] 0=some none from rfl),hz']
 ·rename_i k
  simp only[VR]at hx;obtain⟨p,hpk,rfl⟩:=hx;split at hp<;>first|exact hp.elim|skip
  rename_i c es hm
  obtain⟨q,entries,hq,g1,g2⟩:=hr.mapAt hm;have hpq:q=p:=by rw[hpk]at hq;exact(Option.some.inj hq).symm
  subst hpq;have go:∀w',Same w w'->(getObj q.blk).run P w'= .ok (.map entries c) w':=fun w' hw=>by
   simp[getObj,Sem.run,hw.obj _ _ _ g1]
  split at hp<;>first|exact hp.elim|skip
  ·rename_i j y hf
   simp only at hp|-
   obtain⟨d,hd⟩:=qdF hp;obtain⟨r',f1,f2⟩:=find_ok hd hp hi g2 hf;cases r' with
   |none=>exact f2.elim
   |some r'=>
    obtain⟨j',v'⟩:=r';obtain⟨_,f3,_⟩:=f2;refine⟨_,fun w' hw=>?_,qkE f3⟩;simp[Instr.lookup,qM ht,go w' hw,run_checkKey hp,run_findKey hd f1]
  ·rename_i hf
   simp only at hp|-
   obtain⟨d,hd⟩:=qdF hp;obtain⟨r',f1,f2⟩:=find_ok hd hp hi g2 hf;cases r' with
   |some r'=>exact f2.elim
   |none=>
    refine⟨_,fun w' hw=>?_,qkE (qon fi z)⟩;simp[Instr.lookup,qM ht,go w' hw,run_checkKey hp,run_findKey hd f1,hz']
def qmt(P:Program)(h:AHeap)(t:TypeId)(x:AVal):PR:=
 match P.underlying t,x with
 |some (.map _ _), .nilMap=>⟨True, .int .i64 0⟩
 |some (.map _ _), .map k=>match WR h k with
  |some (_,es)=>⟨True, .int .i64 es.length⟩
  |none=> .no
 |_,_=> .no
theorem ERel.len{fi:PMap}:∀{cs:List AVal} {l:List MapEntry},ERel fi cs l->l.length=cs.length
 |[],_,h=>by simp only[ERel]at h;simp[h]
 |c::cs,l,h=>by
  simp only[ERel]at h;obtain⟨e,l',rfl,_,h3⟩:=h;simp[h3.len]
theorem pLenM_ok{P:Program}{w0 w:World}{fi:PMap}{h:AHeap}{t ty:TypeId}{ts:Array TypeId}{x:AVal}{v:Value}(ht:ts[0]?=some t)(hp:(qmt P h t x).pre)(hr:HRel w0 fi h w)(hx:VR fi x v):
 ∃r,(∀w',Same w w'->(Builtin.len_ ts ty #[v]).run P w'= .ok r w')/\VR fi (qmt P h t x).val r:=by
 unfold qmt at hp|-
 split at hp<;>first|exact hp.elim|skip
 ·rename_i h1
  simp only[VR]at hx;subst hx;exact⟨.int .i64 0,fun w' _=>by simp[Builtin.len_,ht,qM h1,goInt],rfl⟩
 ·rename_i k h1
  simp only[VR]at hx;obtain⟨p,hpk,rfl⟩:=hx;split at hp<;>first|exact hp.elim|skip
  rename_i c es hm
  obtain⟨q,entries,hq,g1,g2⟩:=hr.mapAt hm;have hpq:q=p:=by rw[hpk]at hq;exact(Option.some.inj hq).symm
  subst hpq;have hl:=g2.len;simp only[KN]at hl;refine⟨.int .i64 es.length,fun w' hw=>?_,rfl⟩;have go:(getObj q.blk).run P w'= .ok (.map entries c) w':=by simp[getObj,Sem.run,hw.obj _ _ _ g1]
  simp[Builtin.len_,ht,qM h1,goInt,go,hl]
def AVal.cells:AVal->List AVal
 | .agg cs=>cs
 |x=>[x]
theorem qfT{fi:PMap}{x:AVal}{v:Value}(h:VR fi x v)(hl:x.live=true):VRs fi x.cells v.cells.toList:=by
 by_cases hx:∃cs,x= .agg cs
 ·obtain⟨cs,rfl⟩:=hx
  simp only[VR]at h;obtain⟨vs,rfl,hs⟩:=h;simpa[AVal.cells,Value.cells]using hs
 ·have e:x.cells=[x]:=by
   unfold AVal.cells;split
   ·exact absurd ⟨_,rfl⟩ hx
   ·rfl
  rw[e,VR_cellsV h (fun cs hcs=>hx ⟨cs,hcs⟩) hl];simp only[VRs];exact⟨v,[],rfl,h,rfl⟩
def setAt{α:Type}(cells:List α)(off:Nat):List α->List α
 |[]=>cells
 |c::cs=>setAt (cells.set off c) (off+1) cs
theorem YN{α:Type}:∀(vs cells:List α) (off:Nat),(setAt cells off vs).length=cells.length
 |[],_,_=>rfl
 |c::cs,cells,off=>by simp[setAt,YN cs]
theorem qiJ{fi:PMap}:∀{cs:List AVal} {us:List Value} {cells:List AVal} {vs:List Value} (off:Nat),VRs fi cs us->VRs fi cells vs->VRs fi (setAt cells off cs) (setAt vs off us)
 |[],us,_,_,_,h,h'=>by simp only[VRs]at h;subst h;exact h'
 |c::cs,us,cells,vs,off,h,h'=>by
  simp only[VRs]at h;obtain⟨u,us',rfl,h1,h2⟩:=h;simp only[setAt];exact qiJ (off+1) h2 (qom h' off h1)
def qgh(place:Nat->Option (Nat×Nat))(cells:List AVal):List (Nat×AVal)->Option (List AVal)
 |[]=>some cells
 |(i,v)::rest=>
  match place i with
  |none=>none
  |some (off,size)=>if v.live=true/\v.cells.length=size/\off+size<=cells.length then qgh place (setAt cells off v.cells) rest else none
theorem qjd(off:Nat):∀(us:List Value) (k:Nat) (cells:Array Value),
 ((us.zipIdx k).foldl (fun cs (x:Value×Nat)=>cs.setIfInBounds (off+x.2) x.1) cells).toList=setAt cells.toList (off+k) us
 |[],_,_=>by simp[setAt]
 |u::us,k,cells=>by
  simp only[List.zipIdx_cons,List.foldl_cons,setAt];rw[qjd off us (k+1)];simp[Kw]
inductive VParts(fi:PMap):List (Nat×AVal)->List (Nat×Value)->Prop
 |nil:VParts fi [] []
 |cons {i:Nat} {x:AVal} {v:Value} {xs:List (Nat×AVal)} {vs:List (Nat×Value)}:VR fi x v->VParts fi xs vs->VParts fi ((i,x)::xs) ((i,v)::vs)
theorem qho{fi:PMap}(place:Nat->Option (Nat×Nat)):∀{xs:List (Nat×AVal)} {vs:List (Nat×Value)} {cells:List AVal} {us:Array Value} {r:List AVal},VParts fi xs vs->
 VRs fi cells us.toList->qgh place cells xs=some r->∃r',Instr.fill place us vs=some r'/\VRs fi r r'.toList
 |[],vs,cells,us,r,h,hc,hf=>by
  cases h;simp only[qgh,Option.some.injEq]at hf;subst hf;exact⟨us,by simp[Instr.fill],hc⟩
 |(i,x)::xs,vs,cells,us,r,h,hc,hf=>by
  cases h with
  |cons hv hs=>
   rename_i v vs
   simp only[qgh]at hf;cases hp:place i with
   |none=>simp[hp]at hf
   |some q=>
    obtain⟨off,size⟩:=q;simp only[hp]at hf;split at hf
    ·rename_i hcond
     obtain⟨g1,g2,g3⟩:=hcond;have hvc:=qfT hv g1;have e1:=Xw hvc;have e2:=Xw hc;simp only[KN]at e1 e2;have step:VRs fi (setAt cells off x.cells) (v.cells.zipIdx.foldl (fun cs (c,j)=>cs.setIfInBounds (off+j) c) us).toList:=by
      have e3:(v.cells.zipIdx.foldl (fun cs (c,j)=>cs.setIfInBounds (off+j) c) us).toList=setAt us.toList off v.cells.toList:=by
       rw[<-Array.foldl_toList,Array.toList_zipIdx];exact qjd off v.cells.toList 0 us
      rw[e3];exact qiJ off hvc hc
     obtain⟨r',f1,f2⟩:=qho place hs step hf;refine⟨r',?_,f2⟩;simp only[Instr.fill,hp];have c1:¬(v.cells.size≠size\/off+v.cells.size>us.size):=by
      rintro(h1|h1)
      ·exact h1 (by omega)
      ·omega
     have c2:(decide (v.cells.size≠size)||decide (off+v.cells.size>us.size))=false:=by
      simp only[Bool.or_eq_false_iff,decide_eq_false_iff_not];exact⟨fun h1=>c1 (.inl h1),fun h1=>c1 (.inr h1)⟩
     (simp only[c2];exact f1)
    ·cases hf
def placesOf(P:Program)(fs:List Field):Option (List (Nat×Nat)):=fs.mapM fun f=>(ZI P f.type).map fun n=>(f.offset,n)
def qoc(P:Program)(t:TypeId)(parts:List (Nat×AVal)):Option (List AVal):=
 match Ud P t,P.underlying t with
 |some z,some (.array _ e)=>match ZI P e with
  |some es=>qgh (fun i=>some (i*es,es)) (z.cells.toList.map absS) parts
  |none=>none
 |some z,some (.struct fs)=>match placesOf P fs.toList with
  |some pl=>qgh (fun i=>pl[i]?) (z.cells.toList.map absS) parts
  |none=>none
 |_,_=>none
theorem build_ok{P:Program}{fi:PMap}{t:TypeId}{xs:List (Nat×AVal)}{vs:Array (Nat×Value)}{r:List AVal}(hp:qoc P t xs=some r)(h:VParts fi xs vs.toList):
 ∃r',(∀w,(Instr.build t vs).run P w= .ok (.agg r') w)/\VRs fi r r'.toList:=by
 unfold qoc at hp;have key:∀r',P.built t vs.toList=some r'->VRs fi r r'.toList->∃r',(∀w,(Instr.build t vs).run P w= .ok (.agg r') w)/\VRs fi r r'.toList:=
  fun r' h1 h2=>⟨r',fun w=>run_build w t vs r' h1,h2⟩
 simp only[Ud]at hp;cases hi:P.info? t with
 |none=>simp[hi]at hp
 |some it=>
  simp only[hi,KO]at hp;split at hp
  ·rename_i z len e hz hu
   split at hp
   ·rename_i es he
    obtain⟨r',f1,f2⟩:=qho _ h (Uu fi _) hp;refine key r' ?_ f2;simp only[ZI,Kc]at he;obtain⟨ie,hie,rfl⟩:=he;simp only[Program.built,hi,hu,hz,hie];exact f1
   ·cases hp
  ·rename_i z fs hz hu
   split at hp
   ·rename_i pl hpl
    obtain⟨r',f1,f2⟩:=qho _ h (Uu fi _) hp;refine key r' ?_ f2;have e:fs.toList.mapM (fun f=>(P.info? f.type).map fun i=>(f.offset,i.size))=some pl:=by
     rw[<-hpl];unfold placesOf;congr 1;funext f;simp only[ZI];cases P.info? f.type<;>rfl
    simp only[Program.built,hi,hu,hz,e];simpa using f1
   ·cases hp
  ·cases hp
mutual
def eqA(P:Program):Nat->TypeId->AVal->AVal->PR
 |0,_,_,_=> .no
 |d+1,t,x,y=>
  match x,y,P.underlying t with
  | .bool a, .bool b,some .bool=>⟨True, .bool (a==b)⟩
  | .int k a, .int k' b,some (.int _)=>if k=k' then⟨True, .bool (decide (a=b))⟩else .no
  | .str a, .str b,some .string=>⟨True, .bool (decide (a=b))⟩
  | .agg xs, .agg ys,some (.struct fs)=>if P.stoodInHeld t=false then qlP P d xs ys fs.toList else .no
  | .agg xs, .agg ys,some (.array n e)=>if (P.info? e).isSome then qnN P d e (P.cellsOf e) xs ys (KP n)else .no
  |_,_,_=> .no
def qnN(P:Program):Nat->TypeId->Nat->List AVal->List AVal->List Nat->PR
 |0,_,_,_,_,[]=>⟨True, .bool true⟩
 |0,_,_,_,_,_::_=> .no
 |_+1,_,_,_,_,[]=>⟨True, .bool true⟩
 |d+1,t,n,xs,ys,i::is=>
  match (eqA P d t (qbb P t xs (i*n)).val (qbb P t ys (i*n)).val).val,(qnN P d t n xs ys is).val with
  | .bool a, .bool b=>⟨(qbb P t xs (i*n)).pre/\(qbb P t ys (i*n)).pre/\(eqA P d t (qbb P t xs (i*n)).val (qbb P t ys (i*n)).val).pre/\(qnN P d t n xs ys is).pre, .bool (a && b)⟩
  |_,_=> .no
def qlP(P:Program):Nat->List AVal->List AVal->List Field->PR
 |0,_,_,[]=>⟨True, .bool true⟩
 |0,_,_,_::_=> .no
 |_+1,_,_,[]=>⟨True, .bool true⟩
 |d+1,xs,ys,f::fs=>
  if f.name= "_" then qlP P d xs ys fs else
  match (eqA P d f.type (qbb P f.type xs f.offset).val (qbb P f.type ys f.offset).val).val,(qlP P d xs ys fs).val with
  | .bool a, .bool b=>⟨(qbb P f.type xs f.offset).pre/\(qbb P f.type ys f.offset).pre/\(eqA P d f.type (qbb P f.type xs f.offset).val (qbb P f.type ys f.offset).val).pre/\(qlP P d xs ys fs).pre, .bool (a && b)⟩
  |_,_=> .no
end
mutual
theorem qsJ{P:Program}{fi:PMap}:∀(d e:Nat) (t:TypeId) (x y:AVal) (u v:Value),d<=e->(eqA P d t x y).pre->VR fi x u->VR fi y v->
 ∃b,(eqA P d t x y).val= .bool b/\∀w,(Op.equalIn e t u v).run P w= .ok b w
 |0,_,_,_,_,_,_,_,hp,_,_=>by simp only[eqA]at hp;exact hp.elim
 |d+1,0,_,_,_,_,_,hde,_,_,_=>by omega
 |d+1,e+1,t,x,y,u,v,hde,hp,hx,hy=>by
  simp only[eqA]at hp|-
  split at hp
  ·rename_i a b ht
   simp only[VR]at hx hy;subst hx hy;exact⟨_,rfl,fun w=>run_equalIn_bool' w e t a b ht⟩
  ·rename_i k a k' b kk ht
   simp only[VR]at hx hy;subst hx hy;split at hp
   ·rename_i hk
    subst hk;rw[if_pos rfl];refine⟨_,rfl,fun w=>?_⟩;rw[run_equalIn_int w e t k kk a b ht,qhG]
   ·exact hp.elim
  ·rename_i a b ht
   simp only[VR]at hx hy;subst hx hy;refine⟨_,rfl,fun w=>?_⟩;rw[run_equalIn_string w e t _ _ ht,qhG,ByteArray.toList_eq,ByteArray.toList_eq]
  ·rename_i xs ys fs ht
   split at hp
   ·rename_i hh
    simp only[VR]at hx hy;obtain⟨us,rfl,hus⟩:=hx;obtain⟨vs,rfl,hvs⟩:=hy;have hf:P.fieldsOf t=fs:=by simp[Program.fieldsOf,ht]
    obtain⟨b,e1,e2⟩:=qnO d e xs ys fs.toList us vs (by omega) hp hus hvs;rw[if_pos hh];refine⟨b,e1,fun w=>?_⟩;rw[run_equalIn_struct w e t us.toArray vs.toArray (by rw[hf];exact ht) hh,hf];exact e2 w
   ·exact hp.elim
  ·rename_i xs ys n el ht
   split at hp
   ·rename_i hh
    simp only[VR]at hx hy;obtain⟨us,rfl,hus⟩:=hx;obtain⟨vs,rfl,hvs⟩:=hy;obtain⟨inf,hinf⟩:=Option.isSome_iff_exists.1 hh;obtain⟨b,e1,e2⟩:=eqIA_ok d e el (P.cellsOf el) xs ys (KP n) us vs (by omega) hp hus hvs;rw[if_pos hh];refine⟨b,e1,fun w=>?_⟩;rw[run_equalIn_array w e us.toArray vs.toArray ht hinf];exact e2 w
   ·exact hp.elim
  ·exact hp.elim
theorem eqIA_ok{P:Program}{fi:PMap}:∀(d e:Nat) (t:TypeId) (n:Nat) (xs ys:List AVal) (is:List Nat) (us vs:List Value),d<=e->(qnN P d t n xs ys is).pre->VRs fi xs us->VRs fi ys vs->
 ∃b,(qnN P d t n xs ys is).val= .bool b/\∀w,(Op.eqItems e t n us.toArray vs.toArray is).run P w= .ok b w
 |0,_,_,_,_,_,[],_,_,_,_,_,_=>⟨true,by simp[qnN],fun w=>by simp[Op.eqItems]⟩
 |0,_,_,_,_,_,_::_,_,_,_,hp,_,_=>by simp only[qnN]at hp;exact hp.elim
 |_+1,_,_,_,_,_,[],_,_,_,_,_,_=>⟨true,by simp[qnN],fun w=>by simp[Op.eqItems]⟩
 |d+1,e,t,n,xs,ys,i::is,us,vs,hde,hp,hx,hy=>by
  simp only[qnN]at hp|-
  split at hp
  ·rename_i a b ha hb
   obtain⟨p1,p2,p3,p4⟩:=hp;obtain⟨u,q1,q2⟩:=qdA p1 hx;obtain⟨v,q3,q4⟩:=qdA p2 hy;obtain⟨b1,q5,q6⟩:=qsJ d e t _ _ u v (by omega) p3 q2 q4;obtain⟨b2,q7,q8⟩:=eqIA_ok d e t n xs ys is us vs (by omega) p4 hx hy;rw[ha]at q5;rw[hb]at q7;cases q5;cases q7;refine⟨a && b,rfl,fun w=>?_⟩;simp only[Op.eqItems,Sem.run_bind,q1,Result.andThen_ok,q3,q6];cases a
   ·simp
   ·simpa using q8 w
  ·exact hp.elim
theorem qnO{P:Program}{fi:PMap}:∀(d e:Nat) (xs ys:List AVal) (fs:List Field) (us vs:List Value),d<=e->(qlP P d xs ys fs).pre->VRs fi xs us->VRs fi ys vs->
 ∃b,(qlP P d xs ys fs).val= .bool b/\∀w,(Op.eqFields e us.toArray vs.toArray fs).run P w= .ok b w
 |0,_,_,_,[],_,_,_,_,_,_=>⟨true,by simp[qlP],fun w=>by simp[Op.eqFields]⟩
 |0,_,_,_,_::_,_,_,_,hp,_,_=>by simp only[qlP]at hp;exact hp.elim
 |_+1,_,_,_,[],_,_,_,_,_,_=>⟨true,by simp[qlP],fun w=>by simp[Op.eqFields]⟩
 |d+1,e,xs,ys,f::fs,us,vs,hde,hp,hx,hy=>by
  simp only[qlP]at hp|-
  by_cases hn:f.name= "_"
  ·simp only[hn,if_true]at hp|-
   obtain⟨b,e1,e2⟩:=qnO d e xs ys fs us vs (by omega) hp hx hy;exact⟨b,e1,fun w=>by simpa[Op.eqFields,hn]using e2 w⟩
  ·simp only[hn,if_false]at hp|-
   split at hp
   ·rename_i a b ha hb
    obtain⟨p1,p2,p3,p4⟩:=hp;obtain⟨u,q1,q2⟩:=qdA p1 hx;obtain⟨v,q3,q4⟩:=qdA p2 hy;obtain⟨b1,q5,q6⟩:=qsJ d e f.type _ _ u v (by omega) p3 q2 q4;obtain⟨b2,q7,q8⟩:=qnO d e xs ys fs us vs (by omega) p4 hx hy;rw[ha]at q5;rw[hb]at q7;cases q5;cases q7;refine⟨a && b,rfl,fun w=>?_⟩;simp only[Op.eqFields,ne_eq,hn,not_false_eq_true,if_true,Sem.run_bind,q1,Result.andThen_ok,q3,q6];cases a
    ·simp
    ·simpa using q8 w
   ·exact hp.elim
end
def qbS(P:Program)(op:BinOp)(t:TypeId)(x y:AVal):PR:=
 match (eqA P 40 t x y).val with
 | .bool b=>match op with
   | .eql=>⟨(eqA P 40 t x y).pre/\P.eqGuardType P.depth t=false, .bool b⟩
   | .neq=>⟨(eqA P 40 t x y).pre/\P.eqGuardType P.depth t=false, .bool (!b)⟩
   |_=> .no
 |_=> .no
theorem pAggEq_ok{P:Program}{fi:PMap}{op:BinOp}{t:TypeId}{xs ys:List AVal}{u v:Value}(hp:(qbS P op t (.agg xs) (.agg ys)).pre)(hx:VR fi (.agg xs) u)(hy:VR fi (.agg ys) v)(X Y:Operand):
 ∃r,(∀w,(do eqGuard op t X Y u v;binOp op t u v:Sem Value).run P w= .ok r w)/\VR fi (qbS P op t (.agg xs) (.agg ys)).val r:=by
 unfold qbS at hp|-
 split at hp
 ·rename_i b hb
  have go:(eqA P 40 t (.agg xs) (.agg ys)).pre->P.eqGuardType P.depth t=false->(∀w,(eqGuard op t X Y u v).run P w= .ok () w)/\∀w,(Op.equalIn 10000 t u v).run P w= .ok b w:=fun h1 h2=>by
   obtain⟨b',e1,e2⟩:=qsJ 40 10000 t _ _ u v (by omega) h1 hx hy;rw[hb]at e1;cases e1;simp only[VR]at hx hy;obtain⟨us,rfl,_⟩:=hx;obtain⟨vs,rfl,_⟩:=hy;exact⟨fun w=>run_eqGuard_agg w op t X Y _ _ h2,e2⟩
  cases op<;>simp only[]at hp|- <;>first
   |exact hp.elim
   |skip
  all_goals
   obtain⟨g1,g2⟩:=go hp.1 hp.2;simp only[VR]at hx hy;obtain⟨us,rfl,_⟩:=hx;obtain⟨vs,rfl,_⟩:=hy;refine⟨_,fun w=>?_,rfl⟩;simp only[Sem.run_bind,g1,Result.andThen_ok,run_eql_struct,run_neq_struct,g2]
 ·exact hp.elim
theorem qmR(s:List UInt8):(⟨⟨s⟩⟩:ByteArray).size=s.length:=rfl
theorem map_toArray{α β:Type}(f:α->β)(xs:Array α):xs.map f=(xs.toList.map f).toArray:=by
 apply KF;simp
def qny(P:Program)(t:TypeId)(x:AVal):PR:=
 match x,P.underlying t with
 | .str s,some .string=>⟨True, .int .i64 s.length⟩
 | .slice _ _ n _,some (.slice _)=>⟨True, .int .i64 n⟩
 | .nilSlice,some (.slice _)=>⟨True, .int .i64 0⟩
 |_,some (.array n _)=>⟨True, .int .i64 n⟩
 |_,_=> .no
theorem pLen_ok{P:Program}{fi:PMap}{t ty:TypeId}{ts:Array TypeId}{x:AVal}{v:Value}(ht:ts[0]?=some t)(hp:(qny P t x).pre)(hx:VR fi x v):
 ∃r,(∀w,(Builtin.len_ ts ty #[v]).run P w= .ok r w)/\VR fi (qny P t x).val r:=by
 unfold qny at hp|-
 split at hp
 ·rename_i s h1
  simp only[VR]at hx;subst hx;exact⟨.int .i64 s.length,fun w=>by simp[Builtin.len_,ht,qM h1,goInt,qmR],rfl⟩
 ·rename_i l o n c e h1
  obtain⟨a,cap,rfl,_⟩:=Yr hx;exact⟨.int .i64 n,fun w=>by simp[Builtin.len_,ht,qM h1,goInt],rfl⟩
 ·rename_i e h1
  simp only[VR]at hx;subst hx;exact⟨.int .i64 0,fun w=>by simp[Builtin.len_,ht,qM h1,goInt],rfl⟩
 ·rename_i _ _ _ n e h1
  exact⟨.int .i64 n,fun w=>by simp[Builtin.len_,ht,qM h1,goInt],rfl⟩
 ·exact hp.elim
def pCap(P:Program)(t:TypeId)(x:AVal):PR:=
 match x,P.underlying t with
 | .slice _ _ _ (.exact c),some (.slice _)=>⟨True, .int .i64 c⟩
 | .nilSlice,some (.slice _)=>⟨True, .int .i64 0⟩
 |_,_=> .no
theorem pCap_ok{P:Program}{fi:PMap}{t ty:TypeId}{ts:Array TypeId}{x:AVal}{v:Value}(ht:ts[0]?=some t)(hp:(pCap P t x).pre)(hx:VR fi x v):
 ∃r,(∀w,(Builtin.cap_ ts ty #[v]).run P w= .ok r w)/\VR fi (pCap P t x).val r:=by
 unfold pCap at hp|-
 split at hp
 ·rename_i l o n c e h1
  simp only[VR]at hx;obtain⟨a,rfl,_⟩:=hx;exact⟨.int .i64 c,fun w=>by simp[Builtin.cap_,ht,qM h1,goInt],rfl⟩
 ·rename_i e h1
  simp only[VR]at hx;subst hx;exact⟨.int .i64 0,fun w=>by simp[Builtin.cap_,ht,qM h1,goInt],rfl⟩
 ·exact hp.elim
def pMax:List AVal->PR
 |[.int k a, .int _ b]=>⟨True, .int k (max a b)⟩
 |_=> .no
def pMin:List AVal->PR
 |[.int k a, .int _ b]=>⟨True, .int k (min a b)⟩
 |_=> .no
theorem pMax_ok{P:Program}{fi:PMap}{ty:TypeId}{ts:Array TypeId}{xs:List AVal}{vs:List Value}(hp:(pMax xs).pre)(hx:VRs fi xs vs):
 ∃r,(∀w,(Builtin.max_ ts ty vs.toArray).run P w= .ok r w)/\VR fi (pMax xs).val r:=by
 unfold pMax at hp|-
 split at hp
 ·rename_i k a k' b
  simp only[VRs,VR]at hx;obtain⟨_,_,rfl,rfl,_,_,rfl,rfl,rfl⟩:=hx;refine⟨_,fun w=>run_max_int2 w ts ty k k' a b,?_⟩;simp only[VR];congr 1;split<;>omega
 ·exact hp.elim
theorem pMin_ok{P:Program}{fi:PMap}{ty:TypeId}{ts:Array TypeId}{xs:List AVal}{vs:List Value}(hp:(pMin xs).pre)(hx:VRs fi xs vs):
 ∃r,(∀w,(Builtin.min_ ts ty vs.toArray).run P w= .ok r w)/\VR fi (pMin xs).val r:=by
 unfold pMin at hp|-
 split at hp
 ·rename_i k a k' b
  simp only[VRs,VR]at hx;obtain⟨_,_,rfl,rfl,_,_,rfl,rfl,rfl⟩:=hx;refine⟨_,fun w=>run_min_int2 w ts ty k k' a b,?_⟩;simp only[VR];congr 1;split<;>omega
 ·exact hp.elim
def evs(s:Slots)(xs:List Operand):List AVal:=xs.map (ev s)
def evO(s:Slots):Option Operand->Option AVal
 |none=>none
 |some x=>some (ev s x)
def evP(s:Slots)(xs:List (Nat×Operand)):List (Nat×AVal):=xs.map fun p=>(p.1,ev s p.2)
def qcf(P:Program)(t:TypeId):Bool:=match P.underlying t with|some (.map _ _)=>true|_=>false
def Zl(P:Program)(h:AHeap)(t:TypeId)(x:AVal):PR:=bif qcf P t then qmt P h t x else qny P t x
def Ws(P:Program)(h:AHeap)(b:Builtin)(ts:Array TypeId)(xs:List AVal):PR:=
 match b,xs,ts[0]? with
 | .len,[x],some t=>Zl P h t x
 | .cap,[x],some t=>pCap P t x
 | .max,xs,_=>pMax xs
 | .min,xs,_=>pMin xs
 |_,_,_=> .no
def qeo:Operand->Bool
 | .const .nilIface=>true
 |_=>false
def qgt(P:Program)(op:BinOp)(t:TypeId)(x:AVal):PR:=
 match P.underlying t,x,op with
 |some (.interface _), .nilIface, .eql=>⟨True, .bool true⟩
 |some (.interface _), .nilIface, .neq=>⟨True, .bool false⟩
 |some (.interface _), .iface _ _, .eql=>⟨True, .bool false⟩
 |some (.interface _), .iface _ _, .neq=>⟨True, .bool true⟩
 |_,_,_=> .no
theorem pIfNil_ok{P:Program}{fi:PMap}{op:BinOp}{t:TypeId}{x:AVal}{u:Value}(hp:(qgt P op t x).pre)(hx:VR fi x u)(X:Operand):
 ∃r,(∀w,(do eqGuard op t X (.const .nilIface) u .nilIface;binOp op t u .nilIface:Sem Value).run P w= .ok r w)/\VR fi (qgt P op t x).val r:=by
 obtain⟨d,hdep⟩:∃d,Op.maxDepth=d+1:=⟨Op.maxDepth-1,by decide+kernel⟩
 unfold qgt at hp|-
 split at hp<;>first|exact hp.elim|skip
 ·rename_i m ht
  simp only[VR]at hx;subst hx;exact⟨.bool true,fun w=>by simp[eqGuard,binOp,Op.equal,hdep,Op.equalIn,qM ht],by simp[VR]⟩
 ·rename_i m ht
  simp only[VR]at hx;subst hx;exact⟨.bool false,fun w=>by simp[eqGuard,binOp,Op.equal,hdep,Op.equalIn,qM ht],by simp[VR]⟩
 ·rename_i m te y ht
  simp only[VR]at hx;obtain⟨y',rfl,_⟩:=hx;exact⟨.bool false,fun w=>by simp[eqGuard,binOp,Op.equal,hdep,Op.equalIn,qM ht],by simp[VR]⟩
 ·rename_i m te y ht
  simp only[VR]at hx;obtain⟨y',rfl,_⟩:=hx;exact⟨.bool true,fun w=>by simp[eqGuard,binOp,Op.equal,hdep,Op.equalIn,qM ht],by simp[VR]⟩
def pop(P:Program)(w0:World)(h:AHeap)(s:Slots):Op->PR
 | .move x=>⟨True,ev s x⟩
 | .assign x=>⟨True,ev s x⟩
 | .pick c a b=>match ev s c with
   | .bool c=>⟨True,YY c (ev s a) (ev s b)⟩
   |_=> .no
 | .binOp op t x y _=>bif qeo y then qgt P op t (ev s x)else match ev s x,ev s y with
   | .agg xs, .agg ys=>qbS P op t (.agg xs) (.agg ys)
   |a,b=>qoY P op t a b
 | .unOp op _ x=>pUn op (ev s x)
 | .convert src dst x=>qdC P w0 h src dst (ev s x)
 | .load t x=>Yt P w0 h t (ev s x)
 | .field t x f=>qnz P t (ev s x) f
 | .fieldAddr t x f=>QA P t (ev s x) f
 | .index t x i=>qcG P t (ev s x) (ev s i)
 | .indexAddr t x i=>Xd P t (ev s x) (ev s i)
 | .slice t x lo hi mx=>Wm P t (ev s x) (evO s lo) (evO s hi) (evO s mx)
 | .extract x i=>match ev s x with
   | .tuple vs=>⟨i<vs.length,vs.getD i .dead⟩
   |_=> .no
 | .nilCheck x=>match ev s x with
   | .ptr l o=>⟨True, .ptr l o⟩
   | .func f c=>⟨True, .func f c⟩
   |_=> .no
 | .build t parts=>match qoc P t (evP s parts.toList)with
   |some cs=>⟨True, .agg cs⟩
   |none=> .no
 | .makeFunc fn first cap=>match fn with
   | .func f=>⟨first.toList=[], .func f (evs s cap.toList)⟩
   |_=> .no
 | .makeInterface t x=>⟨P.concrete t=true, .iface t (ev s x)⟩
 | .call c=>match c.callee with
   | .builtin b=>Ws P h b c.argTypes (evs s c.args.toList)
   |_=> .no
 | .lookup t x i ok=>qaF P h t (ev s x) (ev s i) ok
 |_=> .no
theorem SRel.evs{fi:PMap}{n:FrameK}{s:Slots}{a:Act}(h:SRel fi n s a):∀xs:List Operand,VRs fi (evs s xs) (xs.map a.eval)
 |[]=>by simp[AM.evs,VRs]
 |x::xs=>by
  simp only[AM.evs,Ke,VRs];exact⟨_,_,rfl,h.ev x,h.evs xs⟩
theorem SRel.evO{fi:PMap}{n:FrameK}{s:Slots}{a:Act}(h:SRel fi n s a)(x:Option Operand):OVR fi (evO s x) (x.map a.eval):=by
 cases x with
 |none=>simp[AM.evO,OVR]
 |some x=>simp only[AM.evO,OVR,KI];exact⟨_,rfl,h.ev x⟩
theorem SRel.evP{fi:PMap}{n:FrameK}{s:Slots}{a:Act}(h:SRel fi n s a):∀xs:List (Nat×Operand),VParts fi (evP s xs) (xs.map fun p=>(p.1,a.eval p.2))
 |[]=> .nil
 |x::xs=> .cons (h.ev x.2) (h.evP xs)
theorem Zk{P:Program}{w w':World}{s:Sem Value}{r:Value}(h:s.run P w= .ok r w'):(do pure (Next.value (<-s)):Sem Next).run P w= .ok (.value r) w':=by
 simp[h]
theorem Wy{P:Program}{s:Sem Value}{r:Value}{p:World->Prop}(h:∀w,s.run P w= .ok r w):∀w,p w->(do pure (Next.value (<-s)):Sem Next).run P w= .ok (.value r) w:=
 fun w _=>Zk (h w)
theorem qid{P:Program}{w0 w:World}{fi:PMap}{h:AHeap}{n:FrameK}{s:Slots}{a:Act}(o:Oper)(hp:(pop P w0 h s o.op).pre)(hr:HRel w0 fi h w)(hs:SRel fi n s a):
 ∃r,(∀w',Same w w'->(execOp a.eval o).run P w'= .ok (.value r) w')/\VR fi (pop P w0 h s o.op).val r:=by
 obtain⟨dst,op,type,pos,after,guard⟩:=o;cases op<;>simp only[pop]at hp|- <;>first
  |exact hp.elim
  |skip
 case move x=>exact⟨_,fun _ _=>rfl,hs.ev x⟩
 case assign x=>exact⟨_,fun _ _=>rfl,hs.ev x⟩
 case pick c x y=>
  split at hp
  ·rename_i b hb
   have hc:=hs.ev c;rw[hb]at hc;simp only[VR]at hc;refine⟨if b then a.eval x else a.eval y,fun w' _=>?_,VR_pickV (hs.ev x) (hs.ev y)⟩;simp[execOp,hc,asBool]
  ·exact hp.elim
 case binOp op t x y yt=>
  have hx:=hs.ev x;have hy:=hs.ev y;cases hn:qeo y with
  |true=>
   have e:y= .const .nilIface:=by
    unfold qeo at hn;split at hn
    ·rfl
    ·cases hn
   subst e;rw[hn,cond_true]at hp;obtain⟨r,h1,h2⟩:=pIfNil_ok hp hx x;exact⟨r,Wy h1,h2⟩
  |false=>
  rw[hn,cond_false]at hp;simp only[cond_false];split at hp
  ·rename_i xs ys e1 e2
   rw[e1]at hx;rw[e2]at hy;obtain⟨r,h1,h2⟩:=pAggEq_ok hp hx hy x y;exact⟨r,Wy h1,h2⟩
  ·obtain⟨r,h1,h2⟩:=pBin_ok hp hx hy x y
   exact⟨r,Wy h1,h2⟩
 case unOp op t x=>
  obtain⟨r,h1,h2⟩:=pUn_ok (P:=P) hp (hs.ev x);exact⟨r,Wy h1,h2⟩
 case convert src dst x=>
  obtain⟨r,h1,h2⟩:=pConv_ok hp hr (hs.ev x);exact⟨r,fun w' hw=>Zk (h1 w' hw),h2⟩
 case load t x=>
  obtain⟨r,h1,h2⟩:=qoU hp hr (hs.ev x);exact⟨r,fun w' hw=>Zk (h1 w' hw),h2⟩
 case field t x f=>
  obtain⟨r,h1,h2⟩:=pField_ok hp (hs.ev x);exact⟨r,Wy h1,h2⟩
 case fieldAddr t x f=>
  obtain⟨r,h1,h2⟩:=qlK hp (hs.ev x);exact⟨r,Wy h1,h2⟩
 case index t x i=>
  obtain⟨r,h1,h2⟩:=pIndex_ok hp (hs.ev x) (hs.ev i);exact⟨r,Wy h1,h2⟩
 case indexAddr t x i=>
  obtain⟨r,h1,h2⟩:=qlJ hp (hs.ev x) (hs.ev i);exact⟨r,Wy h1,h2⟩
 case slice t x lo hi mx=>
  obtain⟨r,h1,h2⟩:=pSlice_ok hp (hs.ev x) (hs.evO lo) (hs.evO hi) (hs.evO mx);exact⟨r,Wy h1,h2⟩
 case extract x i=>
  have hx:=hs.ev x;split at hp
  ·rename_i vs e
   rw[e]at hx;simp only[VR]at hx;obtain⟨us,e2,hus⟩:=hx;simp only at hp|-
   have hl:=Xw hus;have hlt:i<us.length:=by omega
   refine⟨us.getD i default,fun w' _=>?_,qeF hus i default hp⟩;simp[execOp,e2,Instr.extract,hlt]
  ·exact hp.elim
 case nilCheck x=>
  have hx:=hs.ev x;split at hp
  ·rename_i l o e
   rw[e]at hx;refine⟨a.eval x,fun w' _=>?_,hx⟩;simp only[VR]at hx;obtain⟨ad,_,e2⟩:=hx;simp[execOp,e2]
  ·rename_i f c e
   rw[e]at hx;refine⟨a.eval x,fun w' _=>?_,hx⟩;simp only[VR]at hx;obtain⟨vs,e2,_⟩:=hx;simp[execOp,e2]
  ·exact hp.elim
 case build t parts=>
  split at hp
  ·rename_i cs e
   obtain⟨r,h1,h2⟩:=build_ok (vs:=parts.map fun(i,x)=>(i,a.eval x)) e (by simpa using hs.evP parts.toList);refine⟨.agg r,Wy h1,?_⟩;simp only[VR];exact⟨r.toList,by simp,h2⟩
  ·exact hp.elim
 case makeFunc fn first cap=>
  split at hp
  ·rename_i f
   simp only at hp|-
   have e:first= #[]:=by simpa using hp
   subst e;refine⟨.func (.func f) #[] (cap.map a.eval),fun w' _=>by simp[execOp,Instr.makeFunc],?_⟩;simp only[VR];exact⟨cap.toList.map a.eval,by rw[map_toArray],hs.evs _⟩
  ·exact hp.elim
 case makeInterface t x=>
  refine⟨.iface t (a.eval x),fun w' _=>Zk (run_makeInterface w' t _ hp),?_⟩;simp only[VR];exact⟨_,rfl,hs.ev x⟩
 case lookup t x i ok=>
  obtain⟨r,h1,h2⟩:=qrT hp hr (hs.ev x) (hs.ev i);exact⟨r,fun w' hw=>Zk (h1 w' hw),h2⟩
 case call c=>
  obtain⟨callee,args,ats⟩:=c;split at hp
  ·rename_i b hb
   subst hb;simp only at hp|-
   have hv:=hs.evs args.toList;have run:∀r w,(builtin b ats type (args.map fun| .const _=>true|_=>false) (args.map a.eval)).run P w= .ok (.value r) w->(execOp a.eval ⟨dst, .call ⟨.builtin b,args,ats⟩,type,pos,after,guard⟩).run P w= .ok (.value r) w:=by
    intro r w hr;simp only[execOp,resolve,Sem.run_bind,Sem.run_pure,Result.andThen_ok,invoke];exact hr
   have ea:args.map a.eval=(args.toList.map a.eval).toArray:=map_toArray _ _;unfold Ws at hp|-
   split at hp
   ·rename_i x t e1 e2
    rw[e1]at hv;simp only[VRs]at hv;obtain⟨v,_,e3,hx,rfl⟩:=hv;unfold Zl at hp|-
    cases hmt:qcf P t with
    |true=>
     rw[hmt,cond_true]at hp;obtain⟨r,h1,h2⟩:=pLenM_ok (P:=P) (ty:=type) e2 hp hr hx;refine⟨r,fun w' hw=>run r w' ?_,h2⟩;rw[ea,e3];exact Zk (h1 w' hw)
    |false=>
     rw[hmt,cond_false]at hp;obtain⟨r,h1,h2⟩:=pLen_ok (P:=P) (ty:=type) e2 hp hx;refine⟨r,fun w' _=>run r w' ?_,h2⟩;rw[ea,e3];exact Zk (h1 w')
   ·rename_i x t e1 e2
    rw[e1]at hv;simp only[VRs]at hv;obtain⟨v,_,e3,hx,rfl⟩:=hv;obtain⟨r,h1,h2⟩:=pCap_ok (P:=P) (ty:=type) e2 hp hx;refine⟨r,fun w' _=>run r w' ?_,h2⟩;rw[ea,e3];exact Zk (h1 w')
   ·obtain⟨r,h1,h2⟩:=pMax_ok (P:=P) (ty:=type) (ts:=ats) hp hv
    refine⟨r,fun w' _=>run r w' ?_,h2⟩;rw[ea];exact Zk (h1 w')
   ·obtain⟨r,h1,h2⟩:=pMin_ok (P:=P) (ty:=type) (ts:=ats) hp hv
    refine⟨r,fun w' _=>run r w' ?_,h2⟩;rw[ea];exact Zk (h1 w')
   ·exact hp.elim
  ·exact hp.elim
def PMap.upd(fi:PMap)(k:Nat)(p:Place):PMap:=fun j=>if j=k then some p else fi j
theorem PMap.upd_same(fi:PMap)(k:Nat)(p:Place):fi.upd k p k=some p:=by simp[PMap.upd]
theorem PMap.le_upd{fi:PMap}{k:Nat}(hφ:fi k=none)(p:Place):fi.le (fi.upd k p):=fun j q hj=>by
 by_cases e:j=k
 ·subst e;rw[hφ]at hj;cases hj
 ·simp[PMap.upd,e,hj]
theorem HRel.drew{w0 w:World}{fi:PMap}{h:AHeap}(hr:HRel w0 fi h w):HRel w0 fi h w.drew:=
 hr.later ⟨rfl,rfl,rfl,KL _,fun _ _=>rfl⟩
theorem Below.allocd(w:World)(o:Obj):Below w.heap.size w (w.alloc o):=(Below.refl _ w).alloc (KL _) o
theorem HRel.alloc{w0 w:World}{fi:PMap}{h:AHeap}(hr:HRel w0 fi h w)(k:Nat)(hk:h k=none)(hφ:fi k=none)(xs:List AVal)(cs:Array Value)(e:TypeId)(lo hi:Nat)
 (hx:VRs fi xs (cs.toList.take xs.length)) (hfr:∀i,lo<=i->i<hi->cs.size<=i) (ht:∀t,qas k=some t->t=e) (hlh:lo<=hi:=by omega):
 fi.le (fi.upd k ⟨w.heap.size,0,cs.size⟩)/\HRel w0 (fi.upd k ⟨w.heap.size,0,cs.size⟩) (h.set k ⟨xs,0⟩) (w.alloc (.cells cs e (lo,hi))):=by
 have hl:xs.length<=cs.size:=by
  have:=Xw hx;simp at this;omega
 have hsz:w.heap.size<(w.alloc (.cells cs e (lo,hi))).heap.size:=by show _<(w.heap.push _).size;simp
 have hget:(w.alloc (.cells cs e (lo,hi))).heap[w.heap.size]?=some (.cells cs e (lo,hi)):=by show(w.heap.push _)[w.heap.size]?=_;simp
 refine hr.push k hk hφ ⟨xs,0⟩ ⟨w.heap.size,0,cs.size⟩ (Below.allocd w _) (KL _) hsz ?_ (fun t h1=>⟨rfl,cs,(lo,hi),by rw[ht t h1];exact hget⟩);exact .inl ⟨cs,e,lo,hi,hget,by simp,hl,by simp,by simp only[List.drop_zero];exact qaV (PMap.le_upd hφ _) _ _ hx,hlh,fun i h1 h2=> .inr (hfr i h1 h2)⟩
theorem HRel.allocO{w0 w:World}{fi:PMap}{h:AHeap}(hr:HRel w0 fi h w)(k:Nat)(hk:h k=none)(hφ:fi k=none)(hkt:qas k=none)(b:Blk)(o:Obj)(hf:b.frz=b.cells.length+1)(ho:ORel fi b.cells o):
 fi.le (fi.upd k ⟨w.heap.size,0,0⟩)/\HRel w0 (fi.upd k ⟨w.heap.size,0,0⟩) (h.set k b) (w.alloc o):=by
 have hsz:w.heap.size<(w.alloc o).heap.size:=by show _<(w.heap.push _).size;simp
 have hget:(w.alloc o).heap[w.heap.size]?=some o:=by show(w.heap.push _)[w.heap.size]?=_;simp
 exact hr.push k hk hφ b ⟨w.heap.size,0,0⟩ (Below.allocd w _) (KL _) hsz (.inr ⟨hf,⟨rfl,rfl⟩,o,hget,ho.mono (PMap.le_upd hφ _)⟩) (TyOk.none hkt)
theorem HRel.putO{w0 w:World}{fi:PMap}{h:AHeap}(hr:HRel w0 fi h w){k:Nat}{b b':Blk}{p:Place}{o o':Obj}(hk:h k=some b)(hp:fi k=some p)(hf:b.frz=b.cells.length+1)(hf':b'.frz=b'.cells.length+1)(ho:w.heap[p.blk]?=some o)(hno:∀c e f,o≠ .cells c e f)(ho':ORel fi b'.cells o'):
 HRel w0 fi (h.set k b') {w with heap:=w.heap.setIfInBounds p.blk o'}:=by
 have hgl:p.blk<w.heap.size:=hr.lt k p hp;obtain⟨q,hq,hq1,ok⟩:=hr.own k b hk;have hpq:q=p:=by rw[hp]at hq;exact(Option.some.inj hq).symm
 subst hpq;have hob:=ok.obj hf;refine hr.write k b b' q hk hp (by simp) rfl rfl rfl (fun i hi=>by simp[Kv (Ne.symm hi)]) (fun cs e fr hc=>?_) (.inr ⟨hf',hob.at_,o',by simp[hgl],ho'⟩);rw[ho]at hc;exact absurd (Option.some.inj hc) (hno _ _ _)
theorem qcH{n:Nat}:∀i:Nat,0<=i->i<0->n<=i:=by omega
def World.putRow(w:World)(g:Nat)(cs:Array Value)(e:TypeId)(fr:Nat×Nat):World:={w with heap:=w.heap.setIfInBounds g (.cells cs e fr)}
theorem qkk(w:World)(g o:Nat)(cs:Array Value)(e:TypeId)(fr:Nat×Nat)(hg:w.heap[g]?=some (.cells cs e fr))(v:Value):
 w.setCell ⟨g,o,none⟩ v=AM.World.putRow w g (cs.setIfInBounds o v) e fr:=by
 unfold World.setCell AM.World.putRow;congr 1;apply KQ;intro i;rw[KR,KS];by_cases hi:g=i
 ·subst hi
  have hlt:g<w.heap.size:=by
   rcases KT g w.heap.size with h|h
   ·exact h
   ·rw[KU h]at hg;cases hg
  rw[hg];simp[hlt]
 ·simp[hi]
theorem Uj(w:World)(g:Nat)(cs:Array Value)(e:TypeId)(fr:Nat×Nat)(hg:g<w.heap.size):(AM.World.putRow w g cs e fr).heap[g]?=some (.cells cs e fr):=by
 simp[AM.World.putRow,hg]
theorem qaC(w:World)(g:Nat)(cs:Array Value)(e:TypeId)(fr:Nat×Nat)(i:Nat)(hi:i≠g):(AM.World.putRow w g cs e fr).heap[i]?=w.heap[i]?:=by
 simp only[AM.World.putRow];rw[Kv (Ne.symm hi)]
theorem putRow_putRow(w:World)(g:Nat)(cs cs':Array Value)(e:TypeId)(fr:Nat×Nat):AM.World.putRow (AM.World.putRow w g cs e fr) g cs' e fr=AM.World.putRow w g cs' e fr:=by
 simp[AM.World.putRow]
theorem putRow_self(w:World)(g:Nat)(cs:Array Value)(e:TypeId)(fr:Nat×Nat)(hg:w.heap[g]?=some (.cells cs e fr)):AM.World.putRow w g cs e fr=w:=by
 unfold AM.World.putRow;have:w.heap.setIfInBounds g (.cells cs e fr)=w.heap:=by
  apply KQ;intro i;rw[KS];by_cases hi:g=i
  ·subst hi
   have hlt:g<w.heap.size:=by
    rcases KT g w.heap.size with h|h
    ·exact h
    ·rw[KU h]at hg;cases hg
   simp[hlt,<-hg]
  ·simp[hi]
 rw[this]
theorem qbR{P:Program}(g o:Nat)(e:TypeId)(lo hi:Nat):∀(vs:List Value) (i:Nat) (cs:Array Value) (w:World),w.heap[g]?=some (.cells cs e (lo,hi))->
 o+i+vs.length<=cs.size->(∀v∈vs,v.oneCell'=true)->(∀j,o+i<=j->j<o+i+vs.length->¬(lo<=j/\j<hi))->
 (storeCells ⟨g,o,none⟩ vs i).run P w= .ok () (AM.World.putRow w g (setAt cs.toList (o+i) vs).toArray e (lo,hi))
 |[],i,cs,w,hg,_,_,_=>by
  simp only[storeCells,setAt,Sem.run_pure];rw[putRow_self];simpa using hg
 |v::vs,i,cs,w,hg,hfit,h1,hfr=>by
  have hlt:o+i<cs.size:=by simp at hfit;omega
  have hadd:(⟨g,o,none⟩:Addr).add i=⟨g,o+i,none⟩:=by
   unfold Addr.add;by_cases hi:i=0<;>simp[hi]
  have hc:w.cell? ⟨g,o+i,none⟩=some cs[o+i]:=by simp[World.cell?,hg,hlt]
  have hz:w.frozen? ⟨g,o+i,none⟩=false:=by
   have:=hfr (o+i) (by omega) (by simp);simp only[World.frozen?,hg];simp only[Bool.and_eq_false_iff,decide_eq_false_iff_not];omega
  have hgl:g<w.heap.size:=by
   rcases KT g w.heap.size with h|h
   ·exact h
   ·rw[KU h]at hg;cases hg
  simp only[storeCells,Sem.run_bind,hadd,run_store P w ⟨g,o+i,none⟩ v .plain (h1 v (by simp)),hc,hz,KV,if_false,Result.andThen_ok];rw[qkk w g (o+i) cs e (lo,hi) hg v];rw[qbR g o e lo hi vs (i+1) (cs.setIfInBounds (o+i) v) _ (Uj w g _ e _ hgl) (by simp at hfit|-;omega) (fun u hu=>h1 u (by simp[hu])) (fun j hj hj'=>hfr j (by omega) (by simp;omega))];rw[putRow_putRow];simp[setAt,Kw]
def AVal.scal:AVal->Bool
 | .dead=>false
 | .mapO _=>false
 | .mapE _ _ _=>false
 | .iterO _ _ _ _=>false
 | .agg _=>false
 | .tuple _=>false
 |_=>true
theorem qto{fi:PMap}{x:AVal}{v:Value}(h:VR fi x v)(hs:x.scal=true):v.oneCell'=true:=by
 cases x<;>simp only[VR]at h<;>first
  |(simp[AVal.scal]at hs;done)
  |(subst h;rfl)
  |(obtain⟨_,_,rfl⟩:=h;rfl)
  |(obtain⟨_,rfl,_⟩:=h;rfl)
  |exact h.elim
  |skip
 rename_i l o len c
 cases c<;>simp only[]at h
 ·obtain⟨_,rfl,_⟩:=h;rfl
 ·obtain⟨_,_,_,_,_,_,rfl,_⟩:=h;rfl
def Qt:List AVal->Bool
 |[]=>true
 |x::xs=>x.scal && Qt xs
theorem qfr{fi:PMap}:∀{xs:List AVal} {vs:List Value},VRs fi xs vs->Qt xs=true->∀v∈vs,v.oneCell'=true
 |[],vs,h,_,v,hv=>by simp only[VRs]at h;subst h;cases hv
 |x::xs,vs,h,hs,v,hv=>by
  simp only[VRs]at h;obtain⟨u,vs',rfl,h1,h2⟩:=h;simp only[Qt,Ky]at hs;rcases KW.1 hv with e|e
  ·subst e;exact qto h1 hs.1
  ·exact qfr h2 hs.2 v e
theorem qjt(cs:List Value)(po n o:Nat)(us:List Value)(h:o+us.length<=n):((setAt cs (po+o) us).drop po).take n=setAt ((cs.drop po).take n) o us:=by
 induction us generalizing cs o with
 |nil=>rfl
 |cons u us ih=>
  simp only[setAt];simp only[KX]at h;rw[show po+o+1=po+(o+1) by omega,ih _ (o+1) (by omega)];congr 1;apply KY;intro i;simp only[KZ,Kq,K3];by_cases h1:i<n
  ·simp only[h1,if_true]
   by_cases h2:o=i
   ·subst h2
    simp only[if_true,K4,K5];by_cases h3:po+o<cs.length
    ·rw[if_pos h3,if_pos (by omega)]
    ·rw[if_neg h3,if_neg (by omega)]
   ·rw[if_neg (by omega),if_neg h2]
  ·simp only[h1,if_false]
   by_cases h2:o=i
   ·omega
   ·rw[if_neg h2]
theorem qih{P:Program}{w0 w:World}{fi:PMap}{h:AHeap}(hr:HRel w0 fi h w){k:Nat}{b:Blk}{p:Place}(hk:h k=some b)(hp:fi k=some p){o:Nat}{xs:List AVal}{vs:List Value}
 (hx:VRs fi xs vs) (hs:Qt xs=true) (hfit:o+xs.length<=b.cells.length) (hfrz:b.frz<=o):
 ∃w',(storeCells ⟨p.blk,p.off+o,none⟩ vs).run P w= .ok () w'/\HRel w0 fi (h.set k ⟨setAt b.cells o xs,b.frz⟩) w':=by
 obtain⟨q,hq,hq1,ok⟩:=hr.own k b hk;have hpq:q=p:=by rw[hp]at hq;exact(Option.some.inj hq).symm
 subst hpq;have hl:=Xw hx;have hbz:b.frz<=b.cells.length:=by omega
 obtain⟨cs,e,lo,hi,h1,h2,h3,h4,h5,h6⟩:=ok.row hbz;have hgl:q.blk<w.heap.size:=hr.lt k q hp;refine⟨_,qbR q.blk (q.off+o) e lo hi vs 0 cs w h1 (by omega) (qfr hx hs) (fun j hj hj' hc=>?_),?_⟩
 ·have:=h6.2 j hc.1 hc.2
  omega
 ·refine hr.write k b _ q hk hp (by simp[AM.World.putRow]) rfl rfl rfl (fun i hi=>qaC w _ _ _ _ i hi) (fun cs' e' fr' h'=>by rw[h1]at h';cases h';exact⟨_,_,Uj w _ _ _ _ hgl⟩) ?_
  refine .inl ⟨(setAt cs.toList (q.off+o+0) vs).toArray,e,lo,hi,Uj w _ _ _ _ hgl,?_,?_,?_,?_,?_⟩
  ·simp[YN,h2]
  ·simp[YN,h3]
  ·simp[YN,h4]
  ·simp only[YN,K6]
   rw[qjt _ _ _ _ _ (by omega)];exact qiJ o hx h5
  ·refine⟨h6.1,fun i hi1 hi2=>?_⟩
   have:=h6.2 i hi1 hi2;simpa[YN]using this
def qeT:AVal->Option Nat
 | .nilSlice=>some 0
 | .slice _ _ n _=>some n
 | .str s=>some s.length
 |_=>none
def qgo(w0:World)(h:AHeap)(es n:Nat):AVal->Prop
 | .nilSlice=>True
 | .slice l o _ _=>allLive (cellsAt w0 h l o (n*es))=true
 | .str _=>es=1
 |_=>False
def ZV(w0:World)(h:AHeap)(es n:Nat):AVal->List AVal
 | .slice l o _ _=>cellsAt w0 h l o (n*es)
 | .str s=>byteCells (s.take n)
 |_=>[]
theorem src_len{P:Program}{fi:PMap}{x:AVal}{v:Value}{n:Nat}(hn:qeT x=some n)(hx:VR fi x v)(w:World):(Builtin.lenOf v).run P w= .ok n w:=by
 unfold qeT at hn;split at hn
 ·cases hn;simp only[VR]at hx;subst hx;simp[Builtin.lenOf]
 ·cases hn
  obtain⟨a,cap,rfl,_⟩:=Yr hx;simp[Builtin.lenOf]
 ·cases hn;simp only[VR]at hx;subst hx;simp[Builtin.lenOf,qmR]
 ·cases hn
theorem qaP(w0:World)(h:AHeap)(l:Loc):∀(n o:Nat),(cellsAt w0 h l o n).length=n
 |0,_=>rfl
 |n+1,o=>by simp[cellsAt,qaP w0 h l n]
theorem qfU(fi:PMap):∀s:List UInt8,VRs fi (byteCells s) (s.map fun b=>Value.int .u8 b.toNat)
 |[]=>by simp[byteCells,VRs]
 |b::s=>by
  have:=qfU fi s;simp only[byteCells,Ke,VRs]at this|-
  exact⟨_,_,rfl,by simp[VR],this⟩
theorem qhT{P:Program}{w0 w:World}{fi:PMap}{h:AHeap}{es n m:Nat}{x:AVal}{v:Value}(hn:qeT x=some m)(hm:n<=m)(hp:qgo w0 h es n x)(hr:HRel w0 fi h w)(hx:VR fi x v)(hes:es≠0):
 ∃vs:List Value,(∀w':World,(∀a u,w.cell? a=some u->w'.cell? a=some u)->(Builtin.firstCells es n v).run P w'= .ok vs.toArray w')/\VRs fi (ZV w0 h es n x) vs/\vs.length=n*es/\(ZV w0 h es n x).length=n*es:=by
 unfold qgo at hp;unfold qeT at hn;unfold ZV;split at hp
 ·cases hn
  simp only[VR]at hx;subst hx;obtain rfl:n=0:=by omega
  exact⟨[],fun w' _=>by simp[Builtin.firstCells],by simp[VRs],by simp,by simp⟩
 ·rename_i l o k c
  cases hn;obtain⟨a,cap,rfl,ha⟩:=Yr hx;have ha':n*es≠0->Xb fi l o=some a:=fun hne=>ha (by
   intro e;apply hne;have:n=0:=by omega
   rw[this,K7])
  obtain⟨vs,e1,e2,_,e4⟩:=qce (P:=P) hr ha' hp;refine⟨vs,fun w' hw=>?_,e2,e1,qaP _ _ _ _ _⟩;simp only[Builtin.firstCells];rw[<-e1];exact run_loadCells_list w' a vs fun j u hj=>hw _ _ (e4 j u hj)
 ·rename_i s
  cases hn;simp only[VR]at hx;subst hx;subst hp;refine⟨(s.take n).map fun b=>Value.int .u8 b.toNat,fun w' _=>?_,qfU fi _,by simp;omega,by simp[byteCells];omega⟩;have hx:(⟨⟨s⟩⟩:ByteArray).extract 0 n=⟨⟨s.take n⟩⟩:=by
   apply ByteArray.ext;apply KF;rw[Lib.extract_data];simp
  simp[Builtin.firstCells,hx]
 ·exact hp.elim
section
variable {P:Program}
theorem qbv(w w':World)(ts:Array TypeId)(t u ty e:TypeId)(h0:ts[0]?=some t)(h1:ts[1]?=some u)(i:TypeInfo)(d:TypeDesc)(ht:P.underlying t=some (.slice e))(hu:P.underlying u=some d)(hd:∀k,d≠ .int k)(hi:P.info? e=some i)
 (a:Addr) (len c n:Nat) (v:Value) (news:List Value) (hlen:(Builtin.lenOf v).run P w= .ok n w) (hf:(Builtin.firstCells i.size n v).run P w= .ok news.toArray w)
 (hroom:len+n<=c) (hst:(storeCells (a.add (len*i.size)) news).run P w= .ok () w'):
 (Builtin.append_ ts ty #[.slice (some a) len c,v]).run P w= .ok (.slice (some a) (len+n) c) w':=by
 have hd':(∀k:IntKind,¬d= .int k):=hd;simp only[Builtin.append_];simp[h0,h1,qM ht,qM hu,sizeOf,typeInfo,hi,hlen,hf,hst,hroom]
theorem qcD(w:World)(ts:Array TypeId)(t u ty e:TypeId)(h0:ts[0]?=some t)(h1:ts[1]?=some u)(i:TypeInfo)(z:Value)(d:TypeDesc)(ht:P.underlying t=some (.slice e))(hu:P.underlying u=some d)(hd:∀k,d≠ .int k)(hi:P.info? e=some i)
 (hz:i.zero=some z) (s v:Value) (a:Option Addr) (len c n:Nat) (olds news:List Value) (hs:s= .slice a len c) (hlen:(Builtin.lenOf v).run P w= .ok n w)
 (ho:(Builtin.firstCells i.size len s).run P w.drew= .ok olds.toArray w.drew) (hf:(Builtin.firstCells i.size n v).run P w.drew= .ok news.toArray w.drew)
 (hg:c<len+n) (hb:(len+n)*i.bytes<=140737488355328) (h62:len+n<4611686018427387904):
 (Builtin.append_ ts ty #[s,v]).run P w= .ok (.slice (some ⟨w.heap.size,0,none⟩) (len+n) (grownCap w (len+n) c e))
  (w.drew.alloc (.cells ((olds++news).toArray++Builtin.zeroCells z.cells (grownCap w (len+n) c e-(len+n))) e)):=by
 subst hs;have hn:¬(len+n<=c):=by omega
 have h48':¬(Builtin.nextslicecap (len+n) c*i.bytes>2^48):=by
  have h1:=nextslicecap_le hg;have h2:=K8 i.bytes h1;have h3:2*(len+n)*i.bytes=2*((len+n)*i.bytes):=by rw[Nat.mul_assoc]
  omega
 have h63a:¬(9223372036854775807<((len:Int)+(n:Int))):=by omega
 have h48a:¬(281474976710656<Builtin.nextslicecap (len+n) c*i.bytes):=by omega
 have hd':(∀k:IntKind,¬d= .int k):=hd;simp only[Builtin.append_];simp[h0,h1,qM ht,qM hu,sizeOf,typeInfo,zeroValue,hi,hz,hlen,hn,h63a,h48a,Question.forced,ho,hf,newRow,grownCap];congr 2;apply KF;simp[K9]
end
def Lands(P:Program)(f:FuncId)(vals:Array Value)(w:World)(R:Value->World->Prop):Prop:=
 (∃fn,P.funcs[f]?=some fn/\(fn.name== "runtime.NumGoroutine")=false/\fn.body.isSome=true/\Calls P f vals w (fun e w'=>∃v,e= .returned v/\R v w'))\/
 (∃v w',(callFunc f vals).run P w= .ok (.value v) w'/\R v w')
theorem Lands.mono{P:Program}{f:FuncId}{vals:Array Value}{w:World}{R R':Value->World->Prop}(h:Lands P f vals w R)(hr:∀v w',R v w'->R' v w'):Lands P f vals w R':=by
 rcases h with⟨fn,h1,h2,h3,h4⟩|⟨v,w',h1,h2⟩
 ·exact .inl ⟨fn,h1,h2,h3,h4.mono fun e w' ⟨v,hv,hR⟩=>⟨v,hv,hr v w' hR⟩⟩
 ·exact .inr ⟨v,w',h1,hr _ _ h2⟩
def ACall(P:Program)(w0:World)(f:FuncId)(args:List AVal)(h:AHeap)(R:AVal->AHeap->Prop):Prop:=
 ∀(fi:PMap) (vals:List Value) (w:World),HRel w0 fi h w->VRs fi args vals->
  Lands P f vals.toArray w fun v w'=>∃Ps x h',fi.le Ps/\HRel w0 Ps h' w'/\VR Ps x v/\R x h'
theorem ACall.mono{P:Program}{w0:World}{f:FuncId}{args:List AVal}{h:AHeap}{R R':AVal->AHeap->Prop}(hc:ACall P w0 f args h R)(hr:∀x h',R x h'->R' x h'):ACall P w0 f args h R':=
 fun fi vals w h1 h2=>(hc fi vals w h1 h2).mono fun _ _ ⟨Ps,x,h',e1,e2,e3,e4⟩=>⟨Ps,x,h',e1,e2,e3,hr _ _ e4⟩
def Yf(z:List AVal)(m:Nat):List AVal:=(KP m).map fun i=>z.getD (i%z.length) .dead
def qsw:AVal->Option Int
 | .int _ n=>some n
 |_=>none
def qpA(P:Program)(h:AHeap)(t:TypeId)(len cap:AVal)(K:AVal->AHeap->Prop):Prop:=
 match P.underlying t,qsw len,qsw cap with
 |some (.slice e),some n,some c=>match ZI P e,qcV P e,Ud P e with
  |some es,some by',some z=>(0<=n/\n<=c/\(by':Int)*c<=281474976710656/\c<=9223372036854775807/\z.cells.size=es/\es≠0)/\
    ∀k,h k=none->K (.slice (.own k) 0 n.toNat (.exact c.toNat)) (h.set k ⟨Yf (z.cells.toList.map absS) (c.toNat*es),0⟩)
  |_,_,_=>False
 |_,_,_=>False
def qet(P:Program)(w0:World)(h:AHeap)(ts:Array TypeId)(s x:AVal)(K:AVal->AHeap->Prop):Prop:=
 match ts[0]?,ts[1]? with
 |some t,some u=>match P.underlying t,P.underlying u with
  |some (.slice e),some d=>(∀k,d≠ .int k)/\match ZI P e,qcV P e,Ud P e,qeT x with
   |some es,some by',some z,some n=>(es≠0/\z.cells.size=es)/\qgo w0 h es n x/\match s with
    | .nilSlice=>(n=0->K .nilSlice h)/\(n≠0->(n*by'<=140737488355328/\n<4611686018427387904)/\∀k,h k=none->(e<4096->qas k=some e)->K (.slice (.own k) 0 n (.grow es)) (h.set k ⟨ZV w0 h es n x,0⟩))
    | .slice l o len (.grow g)=>g=es/\match l with
      | .own k=>match h k with
        |some b=>(o+len*es=b.cells.length/\(len+n)*by'<=140737488355328/\len+n<4611686018427387904/\Qt (ZV w0 h es n x)=true/\allLive (b.cells.drop o)=true/\(b.frz=0\/(o<b.frz/\b.frz<=b.cells.length)))/\
          ∀k',h k'=none->(o=0->qas k=some e->qas k'=some e)->K (.slice (.own k') 0 (len+n) (.grow es)) ((h.del k).set k' ⟨b.cells.drop o++ZV w0 h es n x,b.frz-o⟩)
        |none=>False
      |_=>False
    | .slice l o len (.exact c)=>(len+n<=c->(n=0/\K (.slice l o len (.exact c)) h)\/(n≠0/\match l with
       | .own k=>match h k with
         |some b=>(o+len*es+n*es<=b.cells.length/\b.frz<=o+len*es/\Qt (ZV w0 h es n x)=true)/\
           K (.slice (.own k) o (len+n) (.exact c)) (h.set k ⟨setAt b.cells (o+len*es) (ZV w0 h es n x),b.frz⟩)
         |none=>False
       |_=>False))/\
      (c<len+n->(allLive (cellsAt w0 h l o (len*es))=true/\(len+n)*by'<=140737488355328/\len+n<4611686018427387904)/\
        ∀k,h k=none->(e<4096->qas k=some e)->K (.slice (.own k) 0 (len+n) (.grow es)) (h.set k ⟨cellsAt w0 h l o (len*es)++ZV w0 h es n x,0⟩))
    |_=>False
   |_,_,_,_=>False
  |_,_=>False
 |_,_=>False
def eCopy(P:Program)(w0:World)(h:AHeap)(ts:Array TypeId)(dst x:AVal)(K:AVal->AHeap->Prop):Prop:=
 match ts[0]? with
 |some t=>match P.underlying t with
  |some (.slice e)=>match ZI P e,qeT x with
   |some es,some m=>es≠0/\match dst with
    | .nilSlice=>qgo w0 h es 0 x/\K (.int .i64 0) h
    | .slice l o len _=>qgo w0 h es (min m len) x/\((min m len=0->K (.int .i64 0) h)/\(min m len≠0->match l with
      | .own k=>match h k with
        |some b=>(o+min m len*es<=b.cells.length/\b.frz<=o/\Qt (ZV w0 h es (min m len) x)=true)/\
          K (.int .i64 (min m len:Nat)) (h.set k ⟨setAt b.cells o (ZV w0 h es (min m len) x),b.frz⟩)
        |none=>False
      |_=>False))
    |_=>False
   |_,_=>False
  |_=>False
 |none=>False
def qnP(P:Program)(h:AHeap)(t:TypeId)(x v:AVal)(K:AVal->AHeap->Prop):Prop:=
 match x with
 | .ptr (.own k) o=>match h k,ZI P t with
   |some b,some n=>(v.live=true/\v.cells.length=n/\o+v.cells.length<=b.cells.length/\b.frz<=o/\Qt v.cells=true)/\K (.tuple []) (h.set k ⟨setAt b.cells o v.cells,b.frz⟩)
   |_,_=>False
 |_=>False
def qbH(P:Program)(t:TypeId)(n:Nat)(parts:List (Nat×AVal)):Option (List AVal):=
 match P.underlying t with
 |some (.slice e)=>match ZI P e,Ud P e with
  |some es,some z=>if n*es<=16777216/\es≠0/\z.cells.size=es then qgh (fun i=>some (i*es,es)) (Yf (z.cells.toList.map absS) (n*es)) parts else none
  |_,_=>none
 |_=>none
def ZL(P:Program)(src dst:TypeId):Bool:=
 match P.underlying src,P.underlying dst with
 |some .string,some (.slice e)=>match P.underlying e with
  |some (.int .u8)=>true
  |_=>false
 |_,_=>false
def qcP(P:Program)(src dst:TypeId):Bool:=
 src==dst && match P.underlying src with
 |some (.slice e)=>match P.underlying e with
  |some (.int .u8)=>true
  |_=>false
 |_=>false
def eMakeMap(h:AHeap)(K:AVal->AHeap->Prop):Prop:=∀k,h k=none->K (.map k) (h.set k (Yj 0 []))
def mSet(i v:AVal):AVal->AVal
 | .mapE b _ _=> .mapE b i v
 |x=>x
def qdd(P:Program)(h:AHeap)(t:TypeId)(m i v:AVal)(K:AVal->AHeap->Prop):Prop:=
 match P.underlying t,m with
 |some (.map kt _), .map k=>match WR h k with
  |some (c,es)=>qbE P kt i=true/\match qdb i es 0 with
   |some (some (j,_))=>K (.tuple []) (h.set k (Yj c (es.modify j (mSet i v))))
   |some none=>K (.tuple []) (h.set k (Yj (c+1) (es++[.mapE c i v])))
   |none=>False
  |none=>False
 |_,_=>False
def qfP(P:Program)(h:AHeap)(ts:Array TypeId)(m i:AVal)(K:AVal->AHeap->Prop):Prop:=
 match ts[0]? with
 |some t=>match P.underlying t,m with
  |some (.map kt _), .map k=>match WR h k with
   |some (c,es)=>qbE P kt i=true/\match qdb i es 0 with
    |some (some (j,_))=>K (.tuple []) (h.set k (Yj c (es.eraseIdx j)))
    |some none=>K (.tuple []) (h.set k (Yj c es))
    |none=>False
   |none=>False
  |_,_=>False
 |none=>False
def qkV(P:Program)(h:AHeap)(t:TypeId)(x:AVal)(K:AVal->AHeap->Prop):Prop:=
 match P.underlying t,x with
 |some (.map _ _), .map k=>match WR h k with
  |some (c,_)=>∀k',h k'=none->K (.ptr (.own k') 0) (h.set k' ⟨[.iterO k c [] c],2⟩)
  |none=>False
 |_,_=>False
def qlf:AVal->Nat
 | .mapE b _ _=>b
 |_=>0
def qmM(h:AHeap)(it:AVal)(K:AVal->AHeap->Prop):Prop:=
 match it with
 | .ptr (.own k') 0=>match h k' with
   |some ⟨[.iterO m since seen last],2⟩=>match WR h m with
    |some (c,es)=>(∀e∈es,qlf e<since/\qlf e<last)/\(∀b k v, .mapE b k v∈es->b∉seen->K (.tuple [.bool true,k,v]) (h.set k' ⟨[.iterO m since (seen++[b]) c],2⟩))/\
      ((∀e∈es,qlf e∈seen)->K (.tuple [.bool false]) h)
    |none=>False
   |_=>False
 |_=>False
def qiz(h:AHeap)(it:AVal)(K:AVal->AHeap->Prop):Prop:=
 match it with
 | .ptr (.own k') 0=>match h k' with
   |some ⟨[.iterO m _ seen last],2⟩=>match seen.getLast?,WR h m with
    |some b,some (c,es)=>c=last/\match es.find? (fun e=>qlf e==b)with
     |some (.mapE _ y v)=>K (.tuple [y,v]) h
     |_=>False
    |_,_=>False
   |_=>False
 |_=>False
def eop(P:Program)(w0:World)(h:AHeap)(s:Slots)(op:Op)(K:AVal->AHeap->Prop):Prop:=
 match op with
 | .alloc e=>match Ud P e with
   |some z=>∀k,h k=none->K (.ptr (.own k) 0) (h.set k ⟨z.cells.toList.map absS,0⟩)
   |none=>False
 | .box _ x=>(ev s x).live=true/\∀k,h k=none->K (.ptr (.own k) 0) (h.set k ⟨(ev s x).cells,0⟩)
 | .buildSlice t n parts=>match qbH P t n (evP s parts.toList)with
   |some cs=>∀k,h k=none->K (.slice (.own k) 0 n (.exact n)) (h.set k ⟨cs,0⟩)
   |none=>False
 | .store t x v=>qnP P h t (ev s x) (ev s v) K
 | .makeSlice t n c=>qpA P h t (ev s n) (ev s c) K
 | .convert src dst x=>match ev s x with
   | .str b=>if ZL P src dst=true then(b.length<9223372036854775808/\∀k,h k=none->K (.slice (.own k) 0 b.length (.grow 1)) (h.set k ⟨byteCells b,0⟩))
      else(pop P w0 h s op).pre/\K (pop P w0 h s op).val h
   | .slice (.own k) o n c=>if qcP P src dst=true then((n≠0/\match h k with|some b=>b.frz=0|none=>False)/\K (.slice (.own k) o n c) h)
      else(pop P w0 h s op).pre/\K (pop P w0 h s op).val h
   |_=>(pop P w0 h s op).pre/\K (pop P w0 h s op).val h
 | .call c=>match c.callee with
   | .builtin .append=>match evs s c.args.toList with
     |[a,x]=>qet P w0 h c.argTypes a x K
     |_=>False
   | .builtin .copy=>match evs s c.args.toList with
     |[a,x]=>eCopy P w0 h c.argTypes a x K
     |_=>False
   | .builtin .delete=>match evs s c.args.toList with
     |[a,x]=>qfP P h c.argTypes a x K
     |_=>False
   | .value f=>match ev s f with
     | .func f cap=>ACall P w0 f (evs s c.args.toList++cap) h K
     |_=>False
   |_=>(pop P w0 h s op).pre/\K (pop P w0 h s op).val h
 | .makeMap _ r=>match r with
   |none=>eMakeMap h K
   |some _=>False
 | .mapUpdate t m i v=>qdd P h t (ev s m) (ev s i) (ev s v) K
 | .insert t m i v=>qdd P h t (ev s m) (ev s i) (ev s v) K
 | .range t x=>qkV P h t (ev s x) K
 | .next it str=>str=false/\qmM h (ev s it) K
 | .entry it=>qiz h (ev s it) K
 |_=>(pop P w0 h s op).pre/\K (pop P w0 h s op).val h
theorem qht{P:Program}{h:AHeap}{t:TypeId}{m i v:AVal}{K K':AVal->AHeap->Prop}(he:qdd P h t m i v K)(hk:∀x h',K x h'->K' x h'):qdd P h t m i v K':=by
 unfold qdd at he|-
 split at he<;>first|exact he.elim|skip
 split at he<;>first|exact he.elim|skip
 refine⟨he.1,?_⟩;have h2:=he.2;split at h2<;>first|exact h2.elim|exact hk _ _ h2
theorem qnR{P:Program}{h:AHeap}{ts:Array TypeId}{m i:AVal}{K K':AVal->AHeap->Prop}(he:qfP P h ts m i K)(hk:∀x h',K x h'->K' x h'):qfP P h ts m i K':=by
 unfold qfP at he|-
 split at he<;>first|exact he.elim|skip
 split at he<;>first|exact he.elim|skip
 split at he<;>first|exact he.elim|skip
 refine⟨he.1,?_⟩;have h2:=he.2;split at h2<;>first|exact h2.elim|exact hk _ _ h2
theorem qpz{P:Program}{h:AHeap}{t:TypeId}{x:AVal}{K K':AVal->AHeap->Prop}(he:qkV P h t x K)(hk:∀x h',K x h'->K' x h'):qkV P h t x K':=by
 unfold qkV at he|-
 split at he<;>first|exact he.elim|skip
 split at he<;>first|exact he.elim|skip
 exact fun k' hk'=>hk _ _ (he k' hk')
theorem qsK{h:AHeap}{x:AVal}{K K':AVal->AHeap->Prop}(he:qmM h x K)(hk:∀x h',K x h'->K' x h'):qmM h x K':=by
 unfold qmM at he|-
 split at he<;>first|exact he.elim|skip
 split at he<;>first|exact he.elim|skip
 split at he<;>first|exact he.elim|skip
 exact⟨he.1,fun b k v h1 h2=>hk _ _ (he.2.1 b k v h1 h2),fun h1=>hk _ _ (he.2.2 h1)⟩
theorem qpB{h:AHeap}{x:AVal}{K K':AVal->AHeap->Prop}(he:qiz h x K)(hk:∀x h',K x h'->K' x h'):qiz h x K':=by
 unfold qiz at he|-
 split at he<;>first|exact he.elim|skip
 split at he<;>first|exact he.elim|skip
 split at he<;>first|exact he.elim|skip
 refine⟨he.1,?_⟩;have h2:=he.2;split at h2<;>first|exact h2.elim|exact hk _ _ h2
theorem qdJ{P:Program}{w0:World}{h:AHeap}{s:Slots}{op:Op}{K K':AVal->AHeap->Prop}(he:eop P w0 h s op K)(hk:∀x h',K x h'->K' x h'):eop P w0 h s op K':=by
 cases op<;>simp only[eop]at he|- <;>first
  |exact⟨he.1,hk _ _ he.2⟩
  |skip
 case alloc e=>split at he<;>first|exact fun k hk'=>hk _ _ (he k hk')|exact he.elim
 case box e x=>exact⟨he.1,fun k hk'=>hk _ _ (he.2 k hk')⟩
 case buildSlice t n parts=>split at he<;>first|exact fun k hk'=>hk _ _ (he k hk')|exact he.elim
 case store t x v=>
  unfold qnP at he|-
  split at he
  ·split at he
   ·exact⟨he.1,hk _ _ he.2⟩
   ·exact he.elim
  ·exact he.elim
 case makeSlice t n c=>
  unfold qpA at he|-
  split at he
  ·split at he
   ·exact⟨he.1,fun k hk'=>hk _ _ (he.2 k hk')⟩
   ·exact he.elim
  ·exact he.elim
 case convert src dst x=>
  split at he
  ·split at he
   ·rename_i hc
    simp only[hc,if_true];exact⟨he.1,fun k hk'=>hk _ _ (he.2 k hk')⟩
   ·rename_i hc
    rw[if_neg hc];exact⟨he.1,hk _ _ he.2⟩
  ·split at he
   ·rename_i hc
    simp only[hc,if_true];exact⟨he.1,hk _ _ he.2⟩
   ·rename_i hc
    rw[if_neg hc];exact⟨he.1,hk _ _ he.2⟩
  ·exact⟨he.1,hk _ _ he.2⟩
 case call c=>
  split at he
  ·split at he
   ·unfold qet at he|-
    split at he<;>first|exact he.elim|skip
    split at he<;>first|exact he.elim|skip
    refine⟨he.1,?_⟩;obtain⟨_,he⟩:=he;split at he<;>first|exact he.elim|skip
    obtain⟨e1,e2,he⟩:=he;refine⟨e1,e2,?_⟩;split at he<;>first|exact he.elim|skip
    ·exact⟨fun hn=>hk _ _ (he.1 hn),fun hn=>⟨(he.2 hn).1,fun k hk' ht=>hk _ _ ((he.2 hn).2 k hk' ht)⟩⟩
    ·obtain⟨e3,he⟩:=he
     refine⟨e3,?_⟩;split at he<;>first|exact he.elim|skip
     split at he<;>first|exact he.elim|skip
     exact⟨he.1,fun k hk' ht=>hk _ _ (he.2 k hk' ht)⟩
    ·refine⟨fun hle=>?_,fun hlt=>⟨(he.2 hlt).1,fun k hk' ht=>hk _ _ ((he.2 hlt).2 k hk' ht)⟩⟩
     rcases he.1 hle with⟨a1,a2⟩|⟨a1,a2⟩
     ·exact .inl ⟨a1,hk _ _ a2⟩
     ·refine .inr ⟨a1,?_⟩
      split at a2<;>first|exact a2.elim|skip
      split at a2<;>first|exact a2.elim|skip
      exact⟨a2.1,hk _ _ a2.2⟩
   ·exact he.elim
  ·split at he
   ·unfold eCopy at he|-
    split at he<;>first|exact he.elim|skip
    split at he<;>first|exact he.elim|skip
    split at he<;>first|exact he.elim|skip
    refine⟨he.1,?_⟩;obtain⟨_,he⟩:=he;split at he<;>first|exact he.elim|skip
    ·exact⟨he.1,hk _ _ he.2⟩
    ·refine⟨he.1,fun h0=>hk _ _ (he.2.1 h0),fun h0=>?_⟩
     have h3:=he.2.2 h0;split at h3<;>first|exact h3.elim|skip
     split at h3<;>first|exact h3.elim|skip
     exact⟨h3.1,hk _ _ h3.2⟩
   ·exact he.elim
  ·split at he
   ·exact qnR he hk
   ·exact he.elim
  ·split at he
   ·exact he.mono hk
   ·exact he.elim
  ·exact⟨he.1,hk _ _ he.2⟩
 case makeMap t r=>
  split at he<;>first|exact he.elim|exact fun k hk'=>hk _ _ (he k hk')
 case mapUpdate t m i v=>exact qht he hk
 case insert t m i v=>exact qht he hk
 case range t x=>exact qpz he hk
 case next it str=>exact⟨he.1,qsK he.2 hk⟩
 case entry it=>exact qpB he hk
theorem qoE{α:Type}:∀(vs cs:List α) (m:Nat),m+vs.length<=cs.length->setAt cs m vs=cs.take m++vs++cs.drop (m+vs.length)
 |[],cs,m,_=>by simp[setAt]
 |v::vs,cs,m,h=>by
  simp only[KX]at h;simp only[setAt];rw[qoE vs _ (m+1) (by simp;omega)];have e1:(cs.set m v).drop (m+1+vs.length)=cs.drop (m+(v::vs).length):=by
   rw[List.drop_set_of_lt (by omega)];congr 1;simp only[KX];omega
  have e2:(cs.set m v).take (m+1)=cs.take m++[v]:=by
   apply KY;intro i;simp only[KZ,K3,Ja,K4];have c0:min m cs.length=m:=by omega
   rw[c0];rcases Nat.lt_trichotomy i m with c|c|c
   ·have c1:i<m+1:=by omega
    have c2:¬m=i:=by omega
    simp[c,c1,c2]
   ·subst c
    have c1:i<cs.length:=by omega
    simp[c1]
   ·have c1:¬i<m+1:=by omega
    have c2:¬i<m:=by omega
    have c3:i-m≠0:=by omega
    simp[c1,c2,c3]
  rw[e1,e2,K9 (cs.take m)];rfl
theorem qlO(w:World)(g n:Nat)(cs:Array Value)(e:TypeId)(lo hi:Nat)(hg:w.heap[g]?=some (.cells cs e (lo,hi))):
 w.freeze ⟨g,n,none⟩ 1=AM.World.putRow w g cs e (if lo==hi then(n,n+1)else(min lo n,max hi (n+1))):=by
 unfold World.freeze AM.World.putRow;rw[if_neg (by decide)];congr 1;apply KQ;intro i;rw[KR,KS];by_cases hi:g=i
 ·subst hi
  have hlt:g<w.heap.size:=by
   rcases KT g w.heap.size with h|h
   ·exact h
   ·rw[KU h]at hg;cases hg
  rw[hg];simp[hlt]
 ·simp[hi]
theorem HRel.mark{P:Program}{w0 w:World}{fi:PMap}{h:AHeap}(hr:HRel w0 fi h w){k:Nat}{b:Blk}{p:Place}(hk:h k=some b)(hp:fi k=some p)(hf:b.frz=0)(ad:Addr)(had:ad.block=p.blk):
 ∃w',(markStringish ad).run P w= .ok () w'/\HRel w0 fi h w':=by
 obtain⟨q,hq,hq1,ok⟩:=hr.own k b hk;have hpq:q=p:=by rw[hp]at hq;exact(Option.some.inj hq).symm
 subst hpq;obtain⟨cs,e,lo,hi,h1,h2,h3,h4,h5,h6⟩:=ok.row (by omega);have hgl:q.blk<w.heap.size:=hr.lt k q hp;have hsh:w.shape? q.blk=some (e,cs.size):=by simp[World.shape?,h1]
 refine⟨w.freeze ⟨q.blk,cs.size,none⟩ 1,by simp[markStringish,had,hsh],?_⟩;rw[qlO w q.blk cs.size cs e lo hi h1];refine HRel.forget (h:=h.set k b) (hr.write k b b q hk hp (by simp[AM.World.putRow]) rfl rfl rfl (fun i hi=>qaC w _ _ _ _ i hi) (fun cs' e' fr' h'=>by rw[h1]at h';cases h';exact⟨_,_,Uj w _ _ _ _ hgl⟩) ?_) fun j c hj=>?_
 ·have hle:(if lo==hi then(cs.size,cs.size+1)else(min lo cs.size,max hi (cs.size+1))).1<=(if lo==hi then(cs.size,cs.size+1)else(min lo cs.size,max hi (cs.size+1))).2:=by
   have:=h6.1;split
   ·exact Nat.le_succ _
   ·simp only
    omega
  have hfr:∀i,(if lo==hi then(cs.size,cs.size+1)else(min lo cs.size,max hi (cs.size+1))).1<=i->i<(if lo==hi then(cs.size,cs.size+1)else(min lo cs.size,max hi (cs.size+1))).2->cs.size<=i:=by
   intro i i1 i2;split at i1
   ·exact i1
   ·rename_i hne
    have hne':lo≠hi:=by simpa using hne
    simp only at i1;by_cases hlh:lo<hi
    ·have:=h6.2 lo (KL _) hlh
     omega
    ·have:=h6.1
     omega
  exact .inl ⟨cs,e,_,_,Uj w _ _ _ _ hgl,h2,h3,h4,h5,hle,fun i i1 i2=> .inr (hfr i i1 i2)⟩
 ·by_cases ej:j=k
  ·subst ej;rw[AHeap.set_same];rw[hk]at hj;exact hj
  ·rw[AHeap.set_ne _ _ ej];exact hj
theorem qtn{fi:PMap}{k o m:Nat}{c:Cap}{v:Value}{ad:Addr}{cap:Nat}{q:Place}(h:VR fi (.slice (.own k) o m c) v)(hv:v= .slice (some ad) m cap)(hq:fi k=some q)(hm:m≠0):ad.block=q.blk:=by
 subst hv;cases c with
 |exact c=>
  simp only[VR]at h;obtain⟨a,e,ha⟩:=h;simp only[Value.slice.injEq,Option.some.injEq]at e;have:=ha (.inr hm);simp only[Xb,hq,KI,Option.some.injEq]at this;rw[e.1,<-this]
 |grow es=>
  simp only[VR]at h;obtain⟨k',p,c',a,e0,e1,e,e2,e3⟩:=h;cases e0;rw[hq]at e1;cases e1;simp only[Value.slice.injEq,Option.some.injEq]at e;have:=(e3 (by omega)).1;rw[e.1,this]
theorem qkz{P:Program}{w0 w:World}{fi:PMap}{h:AHeap}(hr:HRel w0 fi h w){k:Nat}{b:Blk}{p:Place}(hk:h k=some b)(hp:fi k=some p){o:Nat}{xs:List AVal}{vs:List Value}
 (hx:VRs fi xs vs) (hs:Qt xs=true) (ho:o<=b.cells.length) (hfit:b.cells.length+xs.length<=p.room) (hz:b.frz=0\/(o<b.frz/\b.frz<=b.cells.length)) (k':Nat) (hk':h k'=none) (hφ:fi k'=none) (hty:qas k'=if o=0 then qas k else none):
 ∃w',(storeCells ⟨p.blk,p.off+b.cells.length,none⟩ vs).run P w= .ok () w'/\fi.le (fi.upd k' ⟨p.blk,p.off+o,p.room-o⟩)/\
  HRel w0 (fi.upd k' ⟨p.blk,p.off+o,p.room-o⟩) ((h.del k).set k' ⟨b.cells.drop o++xs,b.frz-o⟩) w':=by
 obtain⟨q,hq,hq1,ok⟩:=hr.own k b hk;have hpq:q=p:=by rw[hp]at hq;exact(Option.some.inj hq).symm
 subst hpq;obtain⟨cs,e,lo,hi,h1,h2,h3,h4,h5,h6⟩:=ok.row (by omega);have hl:=Xw hx;have hgl:q.blk<w.heap.size:=hr.lt k q hp;have hle:=PMap.le_upd hφ (⟨q.blk,q.off+o,q.room-o⟩:Place);have hkk:k'≠k:=fun e=>by subst e;rw[hk]at hk';cases hk'
 refine⟨_,qbR q.blk (q.off+b.cells.length) e lo hi vs 0 cs w h1 (by omega) (qfr hx hs) (fun j hj hj' hc=>?_),hle,?_⟩
 ·have:=h6.2 j hc.1 hc.2
  omega
 ·have hset:=qoE vs cs.toList (q.off+b.cells.length+0) (by simp;omega)
  have other:∀j b',((h.del k).set k' ⟨b.cells.drop o++xs,b.frz-o⟩:AHeap) j=some b'->j=k'\/(j≠k'/\j≠k/\h j=some b'):=fun j b' hj=>by
   by_cases e1:j=k'
   ·exact .inl e1
   ·rw[AHeap.set_ne _ _ e1]at hj
    by_cases e2:j=k
    ·subst e2;simp[AHeap.del]at hj
    ·simp only[AHeap.del,e2,if_false]at hj
     exact .inr ⟨e1,e2,hj⟩
  refine⟨⟨hr.below.os,hr.below.tape,hr.below.output,by simpa[AM.World.putRow]using hr.below.size,fun i hi=>?_⟩,fun j b' hj=>?_,fun j j' b1 b2 p1 p2 g1 g2 f1 f2 ee=>?_,fun j r hj=>?_,?_,fun j r hj t ht=>?_⟩
  ·rw[qaC _ _ _ _ _ i (by omega)]
   exact hr.below.block i hi
  ·rcases other j b' hj with rfl|⟨n1,n2,hj'⟩
   ·rw[AHeap.set_same]at hj
    simp only[Option.some.injEq]at hj;subst hj;refine⟨_,PMap.upd_same _ _ _,hq1, .inl ⟨(setAt cs.toList (q.off+b.cells.length+0) vs).toArray,e,lo,hi,Uj w _ _ _ _ hgl,?_,?_,?_,?_,?_⟩⟩
    ·simp only[KC,YN,KN]
     omega
    ·simp only[Jb,K5]
     omega
    ·simp only[Jb,K5]
     omega
    ·have h5':=qaV hle _ _ (qah (qhL o h5) hx)
     have e5:((setAt cs.toList (q.off+b.cells.length+0) vs).drop (q.off+o)).take (b.cells.drop o++xs).length=((cs.toList.drop q.off).take b.cells.length).drop o++vs:=by
      rw[hset];simp only[K6,Jb,K5];rw[K9,List.drop_append_of_le_length (by simp;omega)];apply KY;intro i;simp only[KZ,Ja,Kq,K5,K4,KN];by_cases c1:i<b.cells.length-o
      ·have:i<min (q.off+b.cells.length) cs.size-(q.off+o):=by omega
       have c2:i<min b.cells.length (cs.size-q.off)-o:=by omega
       have c3:i<b.cells.length-o+xs.length:=by omega
       have c4:q.off+o+i<q.off+b.cells.length:=by omega
       have c5:o+i<b.cells.length:=by omega
       simp only[c3,this,c2,c4,c5,if_true];congr 1;omega
      ·have c2:¬i<min (q.off+b.cells.length) cs.size-(q.off+o):=by omega
       have c3:¬i<min b.cells.length (cs.size-q.off)-o:=by omega
       simp only[c2,c3,if_false];have c6:i-(min (q.off+b.cells.length) cs.size-(q.off+o))=i-(min b.cells.length (cs.size-q.off)-o):=by omega
       rw[c6];by_cases c4:i<b.cells.length-o+xs.length
       ·have c5:i-(min b.cells.length (cs.size-q.off)-o)<vs.length:=by omega
        simp only[c4,c5,if_true]
       ·have c5:¬i-(min b.cells.length (cs.size-q.off)-o)<vs.length:=by omega
        simp only[c4,if_false];rw[Kr (by omega)]
     simp only;rw[e5];exact h5'
    ·refine⟨h6.1,fun i hi1 hi2=>?_⟩
     have:=h6.2 i hi1 hi2;simp only[KC,YN,KN];omega
   ·obtain⟨r,hr0,hr1,hr2⟩:=hr.own j b' hj'
    have hne:r.blk≠q.blk:=fun e'=>n2 (hr.inj j k b' b r q hj' hk hr0 hp e');exact⟨r,hle j r hr0,hr1,(hr2.world (qaC _ _ _ _ _ _ hne)).mono hle⟩
  ·rcases other j b1 g1 with rfl|⟨n1,n2,g1'⟩<;>rcases other j' b2 g2 with rfl|⟨m1,m2,g2'⟩
   ·rfl
   ·exfalso
    rw[PMap.upd_same]at f1;simp only[Option.some.injEq]at f1;subst f1;obtain⟨r,hr0,_,_⟩:=hr.own j' b2 g2';have:r=p2:=by
     have:=hle j' r hr0;rw[f2]at this;exact(Option.some.inj this).symm
    subst this;exact m2 (hr.inj j' k b2 b r q g2' hk hr0 hp ee.symm)
   ·exfalso
    rw[PMap.upd_same]at f2;simp only[Option.some.injEq]at f2;subst f2;obtain⟨r,hr0,_,_⟩:=hr.own j b1 g1';have:r=p1:=by
     have:=hle j r hr0;rw[f1]at this;exact(Option.some.inj this).symm
    subst this;exact n2 (hr.inj j k b1 b r q g1' hk hr0 hp ee)
   ·simp only[PMap.upd,n1,m1,if_false]at f1 f2
    exact hr.inj j j' b1 b2 p1 p2 g1' g2' f1 f2 ee
  ·simp only[AM.World.putRow,Array.size_setIfInBounds]
   by_cases e1:j=k'
   ·subst e1
    rw[PMap.upd_same]at hj;simp only[Option.some.injEq]at hj;subst hj;exact hgl
   ·simp only[PMap.upd,e1,if_false]at hj
    exact hr.lt j r hj
  ·obtain⟨N,hN⟩:=hr.fin
   exact⟨max N (k'+1),fun j hj=>by
    have h1:j≠k':=by omega
    simp only[PMap.upd,h1,if_false];exact hN j (by omega)⟩
  ·by_cases e1:j=k'
   ·subst e1
    rw[PMap.upd_same]at hj;simp only[Option.some.injEq]at hj;subst hj;rw[hty]at ht;by_cases e0:o=0
    ·rw[if_pos e0]at ht
     obtain⟨t0,cs',fr',t1⟩:=hr.typ k q hp t ht;rw[h1]at t1;cases t1;exact⟨by simp only;omega,_,_,Uj w _ _ _ _ hgl⟩
    ·rw[if_neg e0]at ht;cases ht
   ·simp only[PMap.upd,e1,if_false]at hj
    obtain⟨t0,cs',fr',t1⟩:=hr.typ j r hj t ht;refine⟨t0,?_⟩;by_cases e2:r.blk=q.blk
    ·rw[e2]at t1|-
     rw[h1]at t1;cases t1;exact⟨_,_,Uj w _ _ _ _ hgl⟩
    ·exact⟨cs',fr',by rw[qaC _ _ _ _ _ _ e2];exact t1⟩
theorem XG{P:Program}{o:Oper}{a:Act}{w w':World}{v:Value}{next:Act->World->Prop}{Q:Exit->Act->World->Prop}(h:(execOp a.eval o).run P w= .ok (.value v) w')(hn:next (a.put o.dst v) w'):o.wp P a w next Q:=by
 unfold Oper.wp;rw[h];exact hn
theorem qjR{P:Program}{o:Oper}{a:Act}{w w':World}{next:Act->World->Prop}{Q:Exit->Act->World->Prop}(h:(execOp a.eval o).run P w= .ok .skip w')(hn:next (a.put o.dst undef) w'):o.wp P a w next Q:=by
 unfold Oper.wp;rw[h];exact hn
theorem Wh(fi:PMap):VR fi (.tuple []) undef:=by
 simp only[VR];exact⟨[],rfl,by simp[VRs]⟩
theorem qlz(fi:PMap)(k:Nat)(p:Place):VR (fi.upd k p) (.ptr (.own k) 0) (.pointer (some ⟨p.blk,p.off,none⟩)):=by
 simp only[VR];exact⟨_,by simp[Xb,PMap.upd],rfl⟩
theorem wp_lands{P:Program}{o:Oper}{a:Act}{w:World}{f:FuncId}{vals:Array Value}{R:Value->World->Prop}{next:Act->World->Prop}{Q:Exit->Act->World->Prop}
 (hx:(execOp a.eval o).run P w=(callFunc f vals).run P w) (h:Lands P f vals w R) (hn:∀v w',R v w'->next (a.put o.dst v) w'):o.wp P a w next Q:=by
 unfold Oper.wp;rw[hx];rcases h with⟨fn,h1,h2,h3,h4⟩|⟨v,w',h1,h2⟩
 ·have:(callFunc f vals).run P w= .ok (.enter f vals) w:=by
   have hb:¬fn.body=none:=fun e=>by rw[e]at h3;cases h3
   have hn':¬fn.name= "runtime.NumGoroutine":=by simpa using h2
   simp[callFunc,h1,hn',hb]
  rw[this,Oper.upon_enter];refine h4.mono fun e w' he=>?_;obtain⟨v,rfl,hR⟩:=he;exact hn v w' hR
 ·rw[h1]
  exact hn v w' h2
theorem qfj(place:Nat->Option (Nat×Nat)):∀{xs:List (Nat×AVal)} {cells r:List AVal},qgh place cells xs=some r->r.length=cells.length
 |[],cells,r,h=>by simp only[qgh,Option.some.injEq]at h;subst h;rfl
 |(i,x)::xs,cells,r,h=>by
  simp only[qgh]at h;split at h
  ·cases h
  ·split at h
   ·rw[qfj place h,YN]
   ·cases h
theorem qjN{fi:PMap}{z:List AVal}{u:Array Value}(hz:VRs fi z u.toList)(hne:u.size≠0)(m:Nat):VRs fi (Yf z m) ((Jc m).map (u[· %u.size]!)).toList:=by
 have hl:=Xw hz;simp only[KN]at hl;refine qly (by simp[Yf]) fun j hj=>?_;have hj':j<m:=by simpa[Yf]using hj
 have hlt:j%u.size<u.size:=Km _ (by omega);have h1:=qeF hz (j%z.length) default (by rw[<-hl];exact hlt);have e1:(Yf z m).getD j .dead=z.getD (j%z.length) .dead:=by simp[Yf,hj']
 have e2:(((Jc m).map (u[· %u.size]!)).toList).getD j default=u.toList.getD (j%z.length) default:=by
  rw[<-hl];simp[hj',hlt]
 rw[e1,e2];exact h1
theorem qtp{fi:PMap}{k:Nat}{p:Place}{v:Value}(hp:fi k=some p)(h:VR fi (.map k) v):v= .map (some p.blk):=by
 simp only[VR]at h;obtain⟨q,hq,rfl⟩:=h;rw[hp]at hq;cases hq;rfl
theorem ERel.app{fi:PMap}:∀{cs:List AVal} {l:List MapEntry} {b:Nat} {k v:AVal} {e:MapEntry},ERel fi cs l->e.born=b->VR fi k e.key->VR fi v e.val->ERel fi (cs++[.mapE b k v]) (l++[e])
 |[],l,b,k,v,e,h,h1,h2,h3=>by
  simp only[ERel]at h;subst h;simp only[Jd,ERel];exact⟨e,[],rfl,⟨h1,h2,h3⟩,rfl⟩
 |c::cs,l,b,k,v,e,h,h1,h2,h3=>by
  simp only[ERel]at h;obtain⟨e',l',rfl,g1,g2⟩:=h;simp only[Kh,ERel];exact⟨e',l'++[e],rfl,g1,g2.app h1 h2 h3⟩
theorem ERel.put{fi:PMap}{i v:AVal}{u x:Value}(hi:VR fi i u)(hv:VR fi v x):∀{cs:List AVal} {l:List MapEntry} {j:Nat},ERel fi cs l->ERel fi (cs.modify j (mSet i v)) (l.modify j fun e=>{e with key:=u,val:=x})
 |[],l,j,h=>by
  simp only[ERel]at h;subst h;simp[ERel]
 |c::cs,l,j,h=>by
  simp only[ERel]at h;obtain⟨e',l',rfl,g1,g2⟩:=h;cases j with
  |zero=>
   simp only[List.modify_zero_cons,ERel];refine⟨_,l',rfl,?_,g2⟩;cases c<;>first|exact g1.elim|exact⟨g1.1,hi,hv⟩
  |succ j=>
   simp only[List.modify_succ_cons,ERel];exact⟨e',_,rfl,g1,g2.put hi hv⟩
theorem ERel.erase{fi:PMap}:∀{cs:List AVal} {l:List MapEntry} {j:Nat},ERel fi cs l->ERel fi (cs.eraseIdx j) (l.eraseIdx j)
 |[],l,j,h=>by
  simp only[ERel]at h;subst h;simp[ERel]
 |c::cs,l,j,h=>by
  simp only[ERel]at h;obtain⟨e',l',rfl,g1,g2⟩:=h;cases j with
  |zero=>exact g2
  |succ j=>
   simp only[List.eraseIdx_cons_succ,ERel];exact⟨e',_,rfl,g1,g2.erase⟩
theorem ERel.mem{fi:PMap}:∀{cs:List AVal} {l:List MapEntry},ERel fi cs l->(∀e∈l,∃k v, .mapE e.born k v∈cs/\VR fi k e.key/\VR fi v e.val)/\∀c∈cs,∃e∈l,e.born=qlf c
 |[],l,h=>by
  simp only[ERel]at h;subst h;simp
 |c::cs,l,h=>by
  simp only[ERel]at h;obtain⟨e',l',rfl,g1,g2⟩:=h;obtain⟨h1,h2⟩:=g2.mem;refine⟨fun e he=>?_,fun d hd=>?_⟩
  ·rcases KW.1 he with rfl|he
   ·cases c<;>first|exact g1.elim|exact⟨_,_,by rw[g1.1];exact Je,g1.2.1,g1.2.2⟩
   ·obtain⟨k,v,a1,a2⟩:=h1 e he
    exact⟨k,v,Jf _ a1,a2⟩
  ·rcases KW.1 hd with rfl|hd
   ·cases d<;>first|exact g1.elim|exact⟨e',Je,g1.1⟩
   ·obtain⟨e,a1,a2⟩:=h2 d hd
    exact⟨e,Jf _ a1,a2⟩
theorem qni{P:Program}{fi:PMap}{kt:TypeId}{x:AVal}{u v:Value}(hk:qbE P kt x=true)(hu:VR fi x u)(hv:VR fi x v)(n:Nat):v=u/\Instr.sameBits n u u=true:=by
 unfold qbE at hk;cases x with
 |str s=>
  simp only[VR]at hu hv;subst hu hv;exact⟨rfl,by cases n<;>simp only[Instr.sameBits]<;>exact qfo _⟩
 |int k m=>
  simp only[VR]at hu hv;subst hu hv;exact⟨rfl,by cases n<;>simp[Instr.sameBits]⟩
 |_=>split at hk<;>first|(cases hk;done)|(rename_i e;cases e)
theorem choose_lt{P:Program}(w:World){n:Nat}(hn:0<n):∃k w1,(choose (.mapNext n)).run P w= .ok k w1/\k<n/\(w1=w\/w1=w.drew):=by
 unfold choose;simp only[Sem.run];split
 ·exact⟨0,w,rfl,hn, .inl rfl⟩
 ·refine⟨_,_,rfl,?_, .inr rfl⟩
  simp only[Question.cut];exact Km _ hn
theorem qmc{P:Program}{w0 w:World}{fi:PMap}{h:AHeap}{t:TypeId}{m i v:AVal}{um ui uv:Value}{K:AVal->AHeap->Prop}(he:qdd P h t m i v K)(hr:HRel w0 fi h w)(hm:VR fi m um)(hi:VR fi i ui)(hv:VR fi v uv):
 ∃w' h',(Instr.mapUpdate t um ui uv).run P w= .ok () w'/\HRel w0 fi h' w'/\K (.tuple []) h':=by
 unfold qdd at he;split at he<;>first|exact he.elim|skip
 rename_i kt et k ht
 split at he<;>first|exact he.elim|skip
 rename_i c es hc
 obtain⟨hk,he⟩:=he;obtain⟨d,hd⟩:=qdF hk;obtain⟨p,entries,hp,g1,g2⟩:=hr.mapAt hc;have hum:=qtp hp hm;subst hum;have hget:(getObj p.blk).run P w= .ok (.map entries c) w:=by simp[getObj,Sem.run,g1]
 have hset:∀o,(setObj p.blk o).run P w= .ok () {w with heap:=w.heap.setIfInBounds p.blk o}:=fun o=>by simp[setObj,Sem.run,g1]
 have hnc:∀cc e f,(Obj.map entries c)≠ .cells cc e f:=fun _ _ _ h=>by cases h
 split at he<;>first|exact he.elim|skip
 ·rename_i j y hf
  obtain⟨r',f1,f2⟩:=find_ok hd hk hi g2 hf;cases r' with
  |none=>exact f2.elim
  |some r'=>
   obtain⟨j',v'⟩:=r';obtain⟨rfl,_,_,e,f4,f5,f6⟩:=f2;rw[Nat.sub_zero,Array.getElem?_toList]at f4;obtain⟨hkey,hsb⟩:=qni hk hi f6 10000;refine⟨_,_,?_,hr.putO (Wz hc) hp rfl (b':=Yj c (es.modify j (mSet i v))) (by simp[Yj]) g1 hnc (o':= .map (entries.modify j fun e=>{e with key:=ui,val:=uv}) c) ⟨rfl,?_⟩,he⟩
   ·simp only[Instr.mapUpdate,Sem.run_bind,qM ht,Result.andThen_ok,hget,run_checkKey hk,run_findKey hd f1,f4,KI,Option.getD_some,hkey,Instr.keyThatStays,hsb,if_true,Sem.run_pure,hset]
   ·rw[Array.toList_modify]
    exact g2.put hi hv
 ·rename_i hf
  obtain⟨r',f1,f2⟩:=find_ok hd hk hi g2 hf;cases r' with
  |some r'=>exact f2.elim
  |none=>
   refine⟨_,_,?_,hr.putO (Wz hc) hp rfl (b':=Yj (c+1) (es++[.mapE c i v])) (by simp[Yj]) g1 hnc (o':= .map (entries.push {key:=ui,val:=uv,born:=c}) (c+1)) ⟨rfl,?_⟩,he⟩
   ·simp only[Instr.mapUpdate,Sem.run_bind,qM ht,Result.andThen_ok,hget,run_checkKey hk,run_findKey hd f1,hset]
   ·rw[Jg]
    exact g2.app rfl hi hv
theorem delete_ok{P:Program}{w0 w:World}{fi:PMap}{h:AHeap}{ts:Array TypeId}{ty:TypeId}{m i:AVal}{um ui:Value}{K:AVal->AHeap->Prop}(he:qfP P h ts m i K)(hr:HRel w0 fi h w)(hm:VR fi m um)(hi:VR fi i ui):
 ∃w' h',(Builtin.delete_ ts ty #[um,ui]).run P w= .ok undef w'/\HRel w0 fi h' w'/\K (.tuple []) h':=by
 unfold qfP at he;split at he<;>first|exact he.elim|skip
 rename_i t ht0
 split at he<;>first|exact he.elim|skip
 rename_i kt et k ht
 split at he<;>first|exact he.elim|skip
 rename_i c es hc
 obtain⟨hk,he⟩:=he;obtain⟨d,hd⟩:=qdF hk;obtain⟨p,entries,hp,g1,g2⟩:=hr.mapAt hc;have hum:=qtp hp hm;subst hum;have hget:(getObj p.blk).run P w= .ok (.map entries c) w:=by simp[getObj,Sem.run,g1]
 have hset:∀o,(setObj p.blk o).run P w= .ok () {w with heap:=w.heap.setIfInBounds p.blk o}:=fun o=>by simp[setObj,Sem.run,g1]
 have hnc:∀cc e f,(Obj.map entries c)≠ .cells cc e f:=fun _ _ _ h=>by cases h
 split at he<;>first|exact he.elim|skip
 ·rename_i j y hf
  obtain⟨r',f1,f2⟩:=find_ok hd hk hi g2 hf;cases r' with
  |none=>exact f2.elim
  |some r'=>
   obtain⟨j',v'⟩:=r';obtain⟨rfl,_,_,e,f4,f5,f6⟩:=f2;refine⟨_,_,?_,hr.putO (Wz hc) hp rfl (b':=Yj c (es.eraseIdx j)) (by simp[Yj]) g1 hnc (o':= .map (entries.eraseIdxIfInBounds j) c) ⟨rfl,?_⟩,he⟩
   ·simp[Builtin.delete_,ht0,qM ht,hget,run_checkKey hk,run_findKey hd f1,hset]
    rfl
   ·rw[Array.toList_eraseIdxIfInBounds]
    exact g2.erase
 ·rename_i hf
  obtain⟨r',f1,f2⟩:=find_ok hd hk hi g2 hf;cases r' with
  |some r'=>exact f2.elim
  |none=>
   refine⟨_,_,?_,hr.putO (Wz hc) hp rfl (b':=Yj c es) (by simp[Yj]) g1 hnc (o':= .map entries c) ⟨rfl,g2⟩,he⟩;simp[Builtin.delete_,ht0,qM ht,hget,run_checkKey hk,run_findKey hd f1,hset];rfl
theorem ERel.find{fi:PMap}{b:Nat}:∀{es:List AVal} {l:List MapEntry},ERel fi es l->∀{b':Nat} {y v:AVal},es.find? (fun e=>qlf e==b)=some (.mapE b' y v)->∃e,l.find? (fun e=>e.born==b)=some e/\VR fi y e.key/\VR fi v e.val
 |[],_,_,b',y,v,hf=>by cases hf
 |c::cs,l,h,b',y,v,hf=>by
  simp only[ERel]at h;obtain⟨e,l',rfl,h2,h3⟩:=h;cases c<;>first|exact h2.elim|skip
  rename_i b1 y1 v1
  obtain⟨e1,e2,e3⟩:=(show e.born=b1/\VR fi y1 e.key/\VR fi v1 e.val from h2)
  rw[List.find?_cons]at hf|-
  simp only[qlf]at hf;rw[e1];by_cases hb:(b1==b)=true
  ·rw[hb]at hf|-
   simp only[Option.some.injEq,AVal.mapE.injEq]at hf;obtain⟨_,rfl,rfl⟩:=hf;exact⟨e,rfl,e2,e3⟩
  ·rw[Bool.not_eq_true]at hb
   rw[hb]at hf|-
   exact ERel.find h3 hf
theorem entry_ok{P:Program}{w0 w:World}{fi:PMap}{h:AHeap}{it:AVal}{ui:Value}{K:AVal->AHeap->Prop}(he:qiz h it K)(hr:HRel w0 fi h w)(hi:VR fi it ui):
 ∃v x,(Instr.entry ui).run P w= .ok v w/\VR fi x v/\K x h:=by
 unfold qiz at he;split at he<;>first|exact he.elim|skip
 rename_i k'
 split at he<;>first|exact he.elim|skip
 rename_i m since seen last hk'
 split at he<;>first|exact he.elim|skip
 rename_i b c es hb hc
 obtain⟨rfl,he⟩:=he;split at he<;>first|exact he.elim|skip
 rename_i b' y v hf
 obtain⟨p,entries,hp,g1,g2⟩:=hr.mapAt hc;obtain⟨q,hq,_,ok⟩:=hr.own k' _ hk';have hob:=ok.obj rfl;obtain⟨o,o1,o2⟩:=hob.obj;simp only[VR]at hi;obtain⟨ad,ha,rfl⟩:=hi;simp only[Xb,hq,KI,Option.some.injEq,hob.at_.1,K6]at ha;subst ha;cases o with
 |mapIter mm since' seen' last'=>
  cases mm with
  |none=>exact(show False from o2).elim
  |some mm=>
   obtain⟨⟨pm,hpm,rfl⟩,rfl,hseen,rfl⟩:=(show(∃p,fi m=some p/\mm=p.blk)/\since'=since/\seen'.toList=seen/\last'=c from o2)
   rw[hp]at hpm;cases hpm;obtain⟨e,f1,f2,f3⟩:=ERel.find g2 hf;have hget1:(getObj q.blk).run P w= .ok (.mapIter (some p.blk) since' seen' last') w:=by simp[getObj,Sem.run,o1]
   have hget2:(getObj p.blk).run P w= .ok (.map entries last') w:=by simp[getObj,Sem.run,g1]
   have hback:seen'.back?=some b:=by rw[<-Array.getLast?_toList,hseen];exact hb
   have hfind:entries.find? (fun e=>e.born==b)=some e:=by rw[<-Array.find?_toList];exact f1
   refine⟨.tuple #[e.key,e.val], .tuple [y,v],?_,?_,he⟩
   ·simp[Instr.entry,hget1,hget2,hback,hfind]
   ·simp only[VR]
    exact⟨[e.key,e.val],rfl,by simp only[VRs];exact⟨_,_,rfl,f2,_,_,rfl,f3,rfl⟩⟩
 |_=>exact(show False from o2).elim
theorem next_ok{P:Program}{w0 w:World}{fi:PMap}{h:AHeap}{ty:TypeId}{it:AVal}{ui:Value}{K:AVal->AHeap->Prop}(he:qmM h it K)(hr:HRel w0 fi h w)(hi:VR fi it ui):
 ∃v w' x h',(Instr.next ui false ty).run P w= .ok v w'/\HRel w0 fi h' w'/\VR fi x v/\K x h':=by
 unfold qmM at he;split at he<;>first|exact he.elim|skip
 rename_i k'
 split at he<;>first|exact he.elim|skip
 rename_i m since seen last hk'
 split at he<;>first|exact he.elim|skip
 rename_i c es hc
 obtain⟨h1,h2,h3⟩:=he;obtain⟨p,entries,hp,g1,g2⟩:=hr.mapAt hc;obtain⟨q,hq,_,ok⟩:=hr.own k' _ hk';have hob:=ok.obj rfl;obtain⟨o,o1,o2⟩:=hob.obj;simp only[VR]at hi;obtain⟨ad,ha,rfl⟩:=hi;simp only[Xb,hq,KI,Option.some.injEq,hob.at_.1,K6]at ha;subst ha;cases o with
 |mapIter mm since' seen' last'=>
  cases mm with
  |none=>exact(show False from o2).elim
  |some mm=>
   obtain⟨⟨pm,hpm,rfl⟩,rfl,hseen,rfl⟩:=(show(∃p,fi m=some p/\mm=p.blk)/\since'=since/\seen'.toList=seen/\last'=last from o2)
   rw[hp]at hpm;cases hpm;obtain⟨m1,m2⟩:=g2.mem;have old:∀e∈entries.toList,e.born<since'/\e.born<last':=fun e he=>by
    obtain⟨k,v,a1,_⟩:=m1 e he;exact h1 _ a1
   have hget1:∀w',w'.heap=w.heap->(getObj q.blk).run P w'= .ok (.mapIter (some p.blk) since' seen' last') w':=fun w' hw=>by simp[getObj,Sem.run,hw,o1]
   have hget2:(getObj p.blk).run P w= .ok (.map entries c) w:=by simp[getObj,Sem.run,g1]
   have hnone:¬(!seen'.isEmpty && !entries.isEmpty && entries.all (fun e=>decide (e.born >= last')))=true:=by
    intro hq;simp only[Ky,Jh,Array.isEmpty_eq_false_iff]at hq;obtain⟨⟨_,hne⟩,hall⟩:=hq;rw[Array.all_eq_true]at hall;have hpos:0<entries.size:=Ji.2 hne;have:=hall 0 hpos;simp only[decide_eq_true_eq]at this;have h9:=(old entries[0] (by simp)).2;omega
   obtain⟨left,hleft⟩:∃left,left=entries.filter fun e=> !seen'.contains e.born:=⟨_,rfl⟩
   have hnew:left.filter (fun e=>decide (e.born >= since'))= #[]:=by
    rw[Array.filter_eq_empty_iff];intro e he;rw[hleft,Jj]at he;have:=(old e (by simpa using he.1)).1;simp;omega
   have hold:left.filter (fun e=>decide (e.born<since'))=left:=by
    rw[Array.filter_eq_self];intro e he;rw[hleft,Jj]at he;have:=(old e (by simpa using he.1)).1;simpa using this
   obtain⟨cand,hcand⟩:∃cand,cand=(if left.isEmpty then #[none]else #[])++left.map some:=⟨_,rfl⟩
   have hsz:0<cand.size:=by
    rw[hcand];by_cases e:left.isEmpty=true
    ·rw[if_pos e,Jk]
     show 0<1+_
     omega
    ·rw[if_neg e]
     simp only[Jl,Jm];exact Ji.2 (by simpa using e)
   obtain⟨n,w1,hch,hn,hw1⟩:∃n w1,(choose (.mapNext cand.size)).run P w= .ok n w1/\n<cand.size/\(w1=w\/w1=w.drew):=choose_lt w hsz;have hr1:HRel w0 fi h w1:=by
    rcases hw1 with rfl|rfl
    ·exact hr
    ·exact hr.drew
   have hh1:w1.heap=w.heap:=by rcases hw1 with rfl|rfl<;>rfl
   have hrun:∀x,cand[n]?=some x->(Instr.next (.pointer (some ⟨q.blk,0,none⟩)) false ty).run P w=(match x with
    |some e=>(do setObj q.blk (.mapIter (some p.blk) since' (seen'.push e.born) c);pure (.tuple #[.bool true,e.key,e.val]):Sem Value)
    |none=>pure (.tuple #[.bool false])).run P w1:=fun x hx=>by
    simp only[Instr.next,Sem.run_bind,hget1 w rfl,Result.andThen_ok,hget2,if_neg hnone,<-hleft,hnew,hold,Array.append_empty,<-hcand,hch,hx];cases x<;>rfl
   have hnq:=hn;rw[hcand]at hn;by_cases e:left.isEmpty=true
   ·rw[if_pos e]at hn hcand
    have hl0:left= #[]:=by simpa using e
    rw[hl0]at hn hcand;simp at hn;subst hn;refine⟨_,w1, .tuple [.bool false],h,by rw[hrun none (by rw[hcand];simp)];rfl,hr1,by simp only[VR];exact⟨[.bool false],rfl,by simp[VRs,VR]⟩,h3 fun x hx=>?_⟩;obtain⟨en,he1,he2⟩:=m2 x hx;rw[<-he2,<-hseen];have:en∉left:=by rw[hl0];simp
    rw[hleft,Jj]at this;have h4:en∈entries:=by simpa using he1
    simpa[h4]using this
   ·rw[if_neg e]at hn hcand
    simp only[Jl,Jm]at hn hcand;have hx:cand[n]?=some (some left[n]):=by rw[hcand];simp[hn]
    have hmem:left[n]∈left:=Array.getElem_mem hn;obtain⟨en,hen⟩:∃en,en=left[n]:=⟨_,rfl⟩
    rw[<-hen]at hmem hx;rw[hleft,Jj]at hmem;obtain⟨k,v,a1,a2,a3⟩:=m1 en (by simpa using hmem.1);have hns:en.born∉seen:=by rw[<-hseen];simpa using hmem.2
    refine⟨_,_, .tuple [.bool true,k,v],_,by rw[hrun (some en) hx];simp only[Sem.run_bind,setObj,Sem.run,hh1,o1];rfl,?_,?_,h2 _ k v a1 hns⟩
    ·have:=hr1.putO hk' hq rfl (b':=⟨[.iterO m since' (seen++[en.born]) c],2⟩) rfl (o:= .mapIter (some p.blk) since' seen' last') (by rw[hh1];exact o1) (fun _ _ _ h=>by cases h) (o':= .mapIter (some p.blk) since' (seen'.push en.born) c) ⟨⟨p,hp,rfl⟩,rfl,by rw[Jg,hseen],rfl⟩
     rw[hh1]at this;exact this
    ·simp only[VR]
     exact⟨[.bool true,en.key,en.val],rfl,by simp only[VRs,VR];exact⟨_,_,rfl,rfl,_,_,rfl,a2,_,_,rfl,a3,rfl⟩⟩
 |_=>exact(show False from o2).elim
theorem qgE{P:Program}{w0 w:World}{fi:PMap}{h:AHeap}{n:FrameK}{s:Slots}{a:Act}(o:Oper){K:AVal->AHeap->Prop}(he:eop P w0 h s o.op K)(hr:HRel w0 fi h w)(hs:SRel fi n s a)
 {next:Act->World->Prop} {Q:Exit->Act->World->Prop} (hn:∀Ps x h' v w',fi.le Ps->HRel w0 Ps h' w'->VR Ps x v->K x h'->next (a.put o.dst v) w'):o.wp P a w next Q:=by
 have plain:(pop P w0 h s o.op).pre/\K (pop P w0 h s o.op).val h->o.wp P a w next Q:=fun⟨h1,h2⟩=>by
  obtain⟨r,e1,e2⟩:=qid o h1 hr hs;exact XG (e1 w (Same.refl w)) (hn fi _ h r w fi.le_refl hr e2 h2)
 obtain⟨dst,op,type,pos,after,guard⟩:=o;cases op<;>simp only[eop]at he<;>first
  |exact plain he
  |skip
 case alloc e=>
  split at he<;>first|exact he.elim|skip
  rename_i z hz
  obtain⟨k,hk,hφ,hkt⟩:=hr.freshN;obtain⟨e1,e2⟩:=hr.alloc k hk hφ (z.cells.toList.map absS) z.cells e 0 0 (by rw[Jn,Jo];exact Uu fi z.cells.toList) qcH (fun t ht=>by rw[hkt]at ht;cases ht);refine XG (v:= .pointer (some ⟨w.heap.size,0,none⟩)) (w':=w.alloc (.cells z.cells e)) ?_ (hn _ _ _ _ _ e1 e2 (qlz _ _ _) (he k hk));simp[execOp,Instr.alloc,qdz hz,newVar,newRow]
 case box e x=>
  obtain⟨hl,he⟩:=he;obtain⟨k,hk,hφ,hkt⟩:=hr.freshN;have hx:=qfT (hs.ev x) hl;have hlen:=Xw hx;obtain⟨e1,e2⟩:=hr.alloc k hk hφ (ev s x).cells (a.eval x).cells e 0 0 (by rw[<-hlen,Jo];exact hx) qcH (fun t ht=>by rw[hkt]at ht;cases ht);refine XG (v:= .pointer (some ⟨w.heap.size,0,none⟩)) (w':=w.alloc (.cells (a.eval x).cells e)) ?_ (hn _ _ _ _ _ e1 e2 (qlz _ _ _) (he k hk));simp[execOp,Instr.box,newVar,newRow]
 case buildSlice t m parts=>
  split at he<;>first|exact he.elim|skip
  rename_i cs hb
  unfold qbH at hb;split at hb<;>first|(cases hb;done)|skip
  rename_i e ht
  split at hb<;>first|(cases hb;done)|skip
  rename_i es z hes hz
  split at hb<;>first|(cases hb;done)|skip
  rename_i hc
  obtain⟨c1,c2,c3⟩:=hc;have hzs:VRs fi (z.cells.toList.map absS) z.cells.toList:=Uu fi _;obtain⟨r,f1,f2⟩:=qho (fi:=fi) (fun i=>some (i*es,es)) (vs:=(parts.map fun(i,x)=>(i,a.eval x)).toList) (us:=(Jc (m*es)).map (z.cells[· %z.cells.size]!)) (by simpa using hs.evP parts.toList) (qjN hzs (by omega) (m*es)) hb;have hlen:=Xw f2;simp only[KN]at hlen;have hcl:cs.length=m*es:=by rw[qfj _ hb];simp[Yf]
  obtain⟨k,hk,hφ,hkt⟩:=hr.freshN;obtain⟨e1,e2⟩:=hr.alloc k hk hφ cs r e 0 0 (by rw[<-hlen,<-KN,Jo];exact f2) qcH (fun t ht=>by rw[hkt]at ht;cases ht);refine XG (v:= .slice (some ⟨w.heap.size,0,none⟩) m m) (w':=w.alloc (.cells r e)) ?_ (hn _ _ _ _ _ e1 e2 ?_ (he k hk))
  ·have hbig:¬(m*es>2^24):=by omega
   have hb':¬(16777216<m*es):=by omega
   by_cases hz0:m*es=0
   ·have hr0:r= #[]:=Array.eq_empty_of_size_eq_zero (by omega)
    have harr:((Jc (m*es)).map (z.cells[· %z.cells.size]!))= #[]:=by rw[hz0];simp
    rw[harr]at f1;simp at f1;simp[execOp,Instr.buildSlice,qM ht,Zv hes,hz0,Array.range_zero',f1,newRow]
   ·simp[execOp,Instr.buildSlice,qM ht,Zv hes,hz0,hb',qdz hz]
    simp at f1;simp[f1,newRow]
  ·simp only[VR]
   exact⟨_,rfl,fun _=>by simp[Xb,PMap.upd]⟩
 case store t x v=>
  unfold qnP at he;split at he<;>first|exact he.elim|skip
  rename_i k o' hx
  split at he<;>first|exact he.elim|skip
  rename_i b m hb hm
  obtain⟨⟨g1,g2,g3,g4,g5⟩,hK⟩:=he;have hx':=hs.ev x;rw[hx]at hx';simp only[VR]at hx';obtain⟨ad,ha,hx'⟩:=hx';obtain⟨p,hp,_,_⟩:=hr.own k b hb;simp only[Xb,hp,KI,Option.some.injEq]at ha;subst ha;have hv:=qfT (hs.ev v) g1;have hlen:=Xw hv;simp only[KN]at hlen;obtain⟨w',f1,f2⟩:=qih (P:=P) hr hb hp hv g5 g3 g4;refine qjR (w':=w') ?_ (hn fi _ _ _ _ fi.le_refl f2 (Wh fi) hK);have hsz:¬(a.eval v).cells.size≠m:=by omega
  simp[execOp,hx',Instr.storeAt,Instr.sureAddr,storeVar,Zv hm,f1];omega
 case makeSlice t m c=>
  unfold qpA at he;split at he<;>first|exact he.elim|skip
  rename_i e len cap ht hlen hcap
  split at he<;>first|exact he.elim|skip
  rename_i es by' z hes hby hz
  obtain⟨⟨g1,g2,g3,g4,g5,g6⟩,he⟩:=he;have i1:∃k,a.eval m= .int k len:=by
   have:=hs.ev m;revert hlen this;cases ev s m<;>simp[qsw,VR];intro e1 e2;subst e1;exact⟨_,e2⟩
  have i2:∃k,a.eval c= .int k cap:=by
   have:=hs.ev c;revert hcap this;cases ev s c<;>simp[qsw,VR];intro e1 e2;subst e1;exact⟨_,e2⟩
  obtain⟨k1,i1⟩:=i1;obtain⟨k2,i2⟩:=i2;simp only[ZI,Kc]at hes;obtain⟨ii,hi,hes⟩:=hes;simp only[qcV,hi,KI,Option.some.injEq]at hby;simp only[Ud,hi,KO]at hz;subst hby;have hmake:=run_make (P:=P) w t e ii z ht hi hz k1 k2 len cap g1 g2 g3 g4;rw[hes]at hmake;have hzs:VRs fi (z.cells.toList.map absS) z.cells.toList:=Uu fi _;have hrep:=qjN hzs (by omega) (cap.toNat*es);obtain⟨k,hk,hφ,hkt⟩:=hr.freshN;obtain⟨e1,e2⟩:=hr.alloc k hk hφ (Yf (z.cells.toList.map absS) (cap.toNat*es)) (madeCells z.cells (cap.toNat*es)) e 0 0 (by
   have hl:=Xw hrep;rw[<-hl];unfold madeCells;rw[Jo];exact hrep) qcH (fun t ht=>by rw[hkt]at ht;cases ht)
  refine XG (v:= .slice (some ⟨w.heap.size,0,none⟩) len.toNat cap.toNat) (w':=w.alloc (.cells (madeCells z.cells (cap.toNat*es)) e)) ?_ (hn _ _ _ _ _ e1 e2 ?_ (he k hk))
  ·simp only[execOp,i1,i2]
   exact Zk hmake
  ·simp only[VR]
   exact⟨_,rfl,fun _=>by simp[Xb,PMap.upd]⟩
 case convert src dst' x=>
  split at he
  ·rename_i b hb
   split at he
   ·rename_i hc
    obtain⟨g1,he⟩:=he;unfold ZL at hc;split at hc<;>first|(cases hc;done)|skip
    rename_i e h1 h2
    split at hc<;>first|(cases hc;done)|skip
    rename_i h3
    have hx:=hs.ev x;rw[hb]at hx;simp only[VR]at hx;obtain⟨k,hk,hφ,hkt⟩:=hr.freshN;have hcap:b.length<=grownCap w b.length 0 e:=by
     simp only[grownCap,Question.cut];omega
    have hrun:=run_bytes_of_string (P:=P) w src dst' e ⟨⟨b⟩⟩ h1 h2 h3;rw[qmR]at hrun;generalize hG:grownCap w b.length 0 e=G at*
    have hrow:(bytesRow ⟨⟨b⟩⟩ G).toList=(b.map fun c=>Value.int .u8 c.toNat)++List.replicate (G-b.length) (.int .u8 0):=by
     simp[bytesRow,qmR]
    have hsize:(bytesRow ⟨⟨b⟩⟩ G).size=G:=by
     rw[<-KN,hrow];simp;omega
    rw[hsize]at hrun;have hcells:(byteCells b).length=b.length:=byteCells_length b;obtain⟨e1,e2⟩:=hr.drew.alloc k hk hφ (byteCells b) (bytesRow ⟨⟨b⟩⟩ G) e G (G+1) (by
     rw[hcells,hrow,List.take_append_of_le_length (by simp)];rw[List.take_of_length_le (by simp)];exact qfU fi b) (fun i h1 h2=>by rw[hsize];exact h1) (fun t ht=>by rw[hkt]at ht;cases ht)
    refine XG (v:= .slice (some ⟨w.heap.size,0,none⟩) b.length G) (w':=w.drew.alloc (.cells (bytesRow ⟨⟨b⟩⟩ G) e (G,G+1))) ?_ (hn _ _ _ _ _ e1 e2 ?_ (he k hk))
    ·simp only[execOp,hx]
     exact Zk hrun
    ·simp only[VR]
     exact⟨k,_,G,⟨w.heap.size,0,none⟩,rfl,PMap.upd_same _ _ _,rfl,hcap,fun _=>⟨rfl,by simp[hsize]⟩⟩
   ·exact plain he
  ·rename_i k o m c hx
   split at he
   ·rename_i hc
    obtain⟨g1,he⟩:=he;obtain⟨g0,g1⟩:=g1;split at g1<;>first|exact g1.elim|skip
    rename_i b hb
    simp only[qcP,Ky,beq_iff_eq]at hc;obtain⟨rfl,hc⟩:=hc;split at hc<;>first|(cases hc;done)|skip
    rename_i e h1
    split at hc<;>first|(cases hc;done)|skip
    rename_i h2
    have hv:=hs.ev x;rw[hx]at hv;obtain⟨ad,cap,hval,_⟩:=Yr hv;obtain⟨q,hq,_,_⟩:=hr.own k b hb;obtain⟨w',f1,f2⟩:=hr.mark (P:=P) hb hq g1 ad (qtn hv hval hq g0);refine XG (v:=a.eval x) (w':=w') ?_ (hn fi _ _ _ _ fi.le_refl f2 hv he);have hcv:(convert src src (.slice (some ad) m cap)).run P w= .ok (.slice (some ad) m cap) w':=by
     simp[convert,qM h1,qM h2,f1]
    simp only[execOp];rw[hval];exact Zk hcv
   ·exact plain he
  ·exact plain he
 case call c=>
  obtain⟨callee,args,ats⟩:=c;have hv:=hs.evs args.toList;have ea:args.map a.eval=(args.toList.map a.eval).toArray:=map_toArray _ _;have run:∀(b:Builtin) (r:Value) (w':World),callee= .builtin b->(builtin b ats type (args.map fun| .const _=>true|_=>false) (args.map a.eval)).run P w= .ok (.value r) w'->
   (execOp a.eval ⟨dst, .call ⟨callee,args,ats⟩,type,pos,after,guard⟩).run P w= .ok (.value r) w':=by
   intro b r w' hb hr';subst hb;simp only[execOp,resolve,Sem.run_bind,Sem.run_pure,Result.andThen_ok,invoke];exact hr'
  split at he
  ·rename_i hb
   simp only at hb he;split at he<;>first|exact he.elim|skip
   rename_i sa xa hsx
   rw[hsx]at hv;simp only[VRs]at hv;obtain⟨sv,_,hargs,hsv,xv,_,rfl,hxv,rfl⟩:=hv;have app:∀(r:Value) (w':World),(Builtin.append_ ats type #[sv,xv]).run P w= .ok r w'->(execOp a.eval ⟨dst, .call ⟨callee,args,ats⟩,type,pos,after,guard⟩).run P w= .ok (.value r) w':=fun r w' hr'=>
    run .append r w' hb (by rw[ea,hargs];exact Zk hr')
   unfold qet at he;split at he<;>first|exact he.elim|skip
   rename_i t u ht0 hu0
   split at he<;>first|exact he.elim|skip
   rename_i e d ht hu
   obtain⟨hd,he⟩:=he;split at he<;>first|exact he.elim|skip
   rename_i es by' z m hes hby hz hm
   obtain⟨⟨c1,c2⟩,c3,he⟩:=he;simp only[ZI,Kc]at hes;obtain⟨ii,hi,hes⟩:=hes;simp only[qcV,hi,KI,Option.some.injEq]at hby;simp only[Ud,hi,KO]at hz;obtain⟨news,n1,n2,n3,n4⟩:=qhT (P:=P) hm (KL _) c3 hr hxv c1;have hlen:=src_len (P:=P) hm hxv w;have hsame:∀(ad:Addr) (u:Value),w.cell? ad=some u->w.drew.cell? ad=some u:=fun _ _ h=>h;have hgc:∀need old,need<4611686018427387904->need<=grownCap w need old e:=fun need old _=>by
    simp only[grownCap,Question.cut];omega
   have newgood:∀(need old:Nat) (xs:List AVal) (vs:List Value),VRs fi xs vs->need<4611686018427387904->vs.length=need*es->(∀k,h k=none->(e<4096->qas k=some e)->K (.slice (.own k) 0 need (.grow es)) (h.set k ⟨xs,0⟩))->
    (Builtin.append_ ats type #[sv,xv]).run P w= .ok (.slice (some ⟨w.heap.size,0,none⟩) need (grownCap w need old e)) (w.drew.alloc (.cells (vs.toArray++Builtin.zeroCells z.cells (grownCap w need old e-need)) e))->
    Oper.wp P ⟨dst, .call ⟨callee,args,ats⟩,type,pos,after,guard⟩ a w next Q:=by
    intro need old xs vs hxs hlt hvl hK happ;obtain⟨k,hk,hφ,hke,hkt⟩:=hr.freshE e;have hxl:=Xw hxs;have hG:=hgc need old hlt;generalize grownCap w need old e=G at*
    obtain⟨e1,e2⟩:=hr.drew.alloc k hk hφ xs (vs.toArray++Builtin.zeroCells z.cells (G-need)) e 0 0 (by
     rw[<-hxl];simpa[List.take_append]using hxs) qcH hkt
    refine XG (app _ _ happ) (hn _ _ _ _ _ e1 e2 ?_ (hK k hk hke));simp only[VR];refine⟨k,_,G,⟨w.heap.size,0,none⟩,rfl,PMap.upd_same _ _ _,rfl,hG,fun _=>⟨rfl,?_⟩⟩;simp only[Jk,KC,size_zeroCells,c2,hvl];rw[Jp,<-KJ];congr 1;omega
   split at he
   ·simp only[VR]at hsv
    subst hsv;by_cases hm0:m=0
    ·subst hm0
     have hK:=he.1 rfl;refine XG (app (.slice none 0 0) w ?_) (hn fi _ _ _ _ fi.le_refl hr (by simp only[VR]) hK);have hd':(∀k:IntKind,¬d= .int k):=hd;have hf0:news=[]:=Kg (by omega);have hnw:=n1 w (fun _ _ h=>h);rw[<-hes,hf0]at hnw;simp only[Builtin.append_];simp[ht0,hu0,qM ht,qM hu,sizeOf,typeInfo,hi,hlen,hnw]
    ·obtain⟨⟨b1,b2⟩,hK⟩:=he.2 hm0
     refine newgood m 0 _ news n2 b2 n3 hK ?_;have:=qcD (P:=P) w ats t u type e ht0 hu0 ii z d ht hu hd hi hz (.slice none 0 0) xv none 0 0 m [] news rfl hlen (by simp[Builtin.firstCells]) (by rw[hes];exact n1 _ hsame) (by omega) (by rw[hby];simpa using b1) (by omega);simpa using this
   ·rename_i l o len g
    obtain⟨rfl,he⟩:=he;split at he<;>first|exact he.elim|skip
    rename_i k
    split at he<;>first|exact he.elim|skip
    rename_i b hb
    obtain⟨⟨b1,b2,b3,b4,b5,b6⟩,hK⟩:=he;simp only[VR]at hsv;obtain⟨k0,p,c,ad,hk0,hp,rfl,hle,hc⟩:=hsv;cases hk0;obtain⟨k',hk',hφ',hty'⟩:∃k',h k'=none/\fi k'=none/\qas k'=if o=0 then qas k else none:=by
     split
     ·exact hr.freshT k
     ·exact hr.freshN
    have hkt':o=0->qas k=some e->qas k'=some e:=fun h0 h1=>by rw[hty',if_pos h0,h1]
    by_cases hroom:len+m<=c
    ·obtain⟨q,hq,_,ok⟩:=hr.own k b hb
     have hqp:q=p:=by rw[hp]at hq;exact(Option.some.inj hq).symm
     subst hqp;obtain⟨cs,_,_,_,_,hrow2,hrow3,_⟩:=ok.row (by omega);by_cases hc0:c=0
     ·subst hc0
      obtain rfl:len=0:=by omega
      obtain rfl:m=0:=by omega
      have hnews:news=[]:=Kg (by omega);obtain⟨w',f1,f2,f3⟩:=qkz (P:=P) hr hb hp (o:=o) (xs:=ZV w0 h g 0 xa) (vs:=[]) (by rw[hnews]at n2;exact n2) b4 (by omega) (by rw[n4];omega) b6 k' hk' hφ' hty';have hw:w'=w:=by
       simp only[storeCells,Sem.run_pure,Result.ok.injEq,true_and]at f1;exact f1.symm
      subst hw;refine XG (app (.slice (some ad) 0 0) w' ?_) (hn _ _ _ _ _ f2 f3 ?_ (hK k' hk' hkt'))
      ·have:=qbv (P:=P) w' w' ats t u type e ht0 hu0 ii d ht hu hd hi ad 0 0 0 xv [] hlen (by rw[hes,<-hnews];exact n1 _ (fun _ _ h=>h)) (by omega) (by simp[storeCells])
       simpa using this
      ·simp only[VR]
       exact⟨k',_,0,ad,rfl,PMap.upd_same _ _ _,rfl,by omega,fun hne=>absurd rfl hne⟩
     ·obtain⟨g1,g2⟩:=hc hc0
      have hfit:b.cells.length+(ZV w0 h g m xa).length<=q.room:=by
       rw[n4,<-b1,<-g2,Kw,<-KJ];exact Nat.add_le_add_left (K8 _ hroom) _
      obtain⟨w',f1,f2,f3⟩:=qkz (P:=P) hr hb hp (o:=o) n2 b4 (by omega) hfit b6 k' hk' hφ' hty';refine XG (app (.slice (some ad) (len+m) c) w' ?_) (hn _ _ _ _ _ f2 f3 ?_ (hK k' hk' hkt'))
      ·refine qbv (P:=P) w w' ats t u type e ht0 hu0 ii d ht hu hd hi ad len c m xv news hlen (by rw[hes];exact n1 _ (fun _ _ h=>h)) hroom ?_
       rw[hes];have:ad.add (len*g)=⟨q.blk,q.off+b.cells.length,none⟩:=by
        have e0:Xb fi (.own k) o=some ad:=by simp[Xb,hp,g1]
        have e9:=Yu (j:=len*g) e0;rw[b1]at e9;simp only[Xb,hp,KI,Option.some.injEq]at e9;exact e9.symm
       rw[this];exact f1
      ·simp only[VR]
       refine⟨k',_,c,ad,rfl,PMap.upd_same _ _ _,rfl,hroom,fun _=>⟨by simpa using g1,?_⟩⟩;simp only;omega
    ·obtain⟨q,hq,_,ok⟩:=hr.own k b hb
     have hqp:q=p:=by rw[hp]at hq;exact(Option.some.inj hq).symm
     subst hqp;obtain⟨cs,_,_,_,hrow1,hrow2,hrow3,hrow4,hrow5,_⟩:=ok.row (by omega);have holds:∃olds:List Value,olds.length=len*g/\VRs fi (b.cells.drop o) olds/\(Builtin.firstCells g len (.slice (some ad) len c)).run P w.drew= .ok olds.toArray w.drew:=by
      refine⟨((cs.toList.drop q.off).take b.cells.length).drop o,by simp;omega,qhL o hrow5,?_⟩;by_cases hl0:len=0
      ·subst hl0
       have e9:((cs.toList.drop q.off).take b.cells.length).drop o=[]:=Kg (by simp;omega);rw[e9];simp[Builtin.firstCells,loadCells,loadCellsFrom]
      ·obtain⟨g1,g2⟩:=hc (by omega)
       subst g1;refine run_firstCells_some (P:=P) w.drew g len _ len c _ (by simp;omega) ?_;intro j v hj;have hj1:j<b.cells.length-o:=by
        rcases KT j (b.cells.length-o)with hx|hx
        ·exact hx
        ·rw[Kr (by simp;omega)]at hj;cases hj
       rw[Kq,KZ,if_pos (by omega),Kq]at hj;have e8:(⟨q.blk,q.off+o,none⟩:Addr).add j=⟨q.blk,q.off+o+j,none⟩:=by
        unfold Addr.add;by_cases hi:j=0<;>simp[hi]
       rw[e8];show w.cell? _=_
       simp only[World.cell?,hrow1];simp only[Option.isSome_none,KV,if_false];rw[<-hj];simp[Kw]
     obtain⟨olds,ho1,ho2,ho3⟩:=holds;obtain⟨k2,hk2,hφ2,hke2,hkt2⟩:=hr.freshE e;have hxs:=qah ho2 n2;have hG:=hgc (len+m) c b3;have happ:=qcD (P:=P) w ats t u type e ht0 hu0 ii z d ht hu hd hi hz (.slice (some ad) len c) xv (some ad) len c m olds news rfl hlen (by rw[hes];exact ho3) (by rw[hes];exact n1 _ hsame) (by omega) (by rw[hby];exact b2) b3;generalize grownCap w (len+m) c e=G at*
     have hkk:k2≠k:=fun e=>by subst e;rw[hb]at hk2;cases hk2
     have hrd:HRel w0 fi (h.del k) w.drew:=hr.drew.forget fun j b' hj=>by
      by_cases e9:j=k
      ·subst e9;simp[AHeap.del]at hj
      ·simpa[AHeap.del,e9]using hj
     have hxl:=Xw hxs;obtain⟨e1,e2⟩:=hrd.alloc k2 (by simp[AHeap.del,hk2]) hφ2 (b.cells.drop o++ZV w0 h g m xa) ((olds++news).toArray++Builtin.zeroCells z.cells (G-(len+m))) e 0 0 (by
      rw[<-hxl,Array.toList_append];simp only[List.take_left];exact hxs) qcH hkt2
     have e3:HRel w0 (fi.upd k2 ⟨w.drew.heap.size,0,((olds++news).toArray++Builtin.zeroCells z.cells (G-(len+m))).size⟩) ((h.del k).set k2 ⟨b.cells.drop o++ZV w0 h g m xa,b.frz-o⟩) (w.drew.alloc (.cells ((olds++news).toArray++Builtin.zeroCells z.cells (G-(len+m))) e)):=by
      refine⟨e2.below,fun j b' hj=>?_,?_,e2.lt,e2.fin,e2.typ⟩
      ·by_cases e9:j=k2
       ·subst e9
        rw[AHeap.set_same]at hj;simp only[Option.some.injEq]at hj;subst hj;obtain⟨p9,hp9,hp8,ok9⟩:=e2.own j _ (AHeap.set_same _ _ _);refine⟨p9,hp9,hp8,?_⟩;obtain⟨cs9,x1,x2,x3,y1,y2,y3,y4,y5,y6⟩:=ok9.row (Jq _);refine .inl ⟨cs9,x1,x2,x3,y1,y2,y3,?_,y5,y6.1,fun i i1 i2=>?_⟩
        ·simp only[Jb,K5]
         omega
        ·have:=y6.2 i i1 i2
         simp only at this|-
         omega
       ·rw[AHeap.set_ne _ _ e9]at hj
        exact e2.own j b' (by rw[AHeap.set_ne _ _ e9];exact hj)
      ·intro j j' b1 b2 p1 p2 g1 g2
       have conv:∀i bb,((h.del k).set k2 ⟨b.cells.drop o++ZV w0 h g m xa,b.frz-o⟩:AHeap) i=some bb->∃bb',((h.del k).set k2 ⟨b.cells.drop o++ZV w0 h g m xa,0⟩:AHeap) i=some bb':=fun i bb hi=>by
        by_cases e9:i=k2
        ·subst e9;exact⟨_,AHeap.set_same _ _ _⟩
        ·rw[AHeap.set_ne _ _ e9]at hi|-;exact⟨bb,hi⟩
       obtain⟨b1',g1'⟩:=conv j b1 g1
       obtain⟨b2',g2'⟩:=conv j' b2 g2
       exact e2.inj j j' b1' b2' p1 p2 g1' g2'
     refine XG (app _ _ happ) (hn _ _ _ _ _ e1 e3 ?_ (hK k2 hk2 fun _ h1=>hke2 (tyOf_lt h1)));simp only[VR];refine⟨k2,_,G,⟨w.heap.size,0,none⟩,rfl,PMap.upd_same _ _ _,rfl,hG,fun _=>⟨rfl,?_⟩⟩;simp only[Jk,KC,size_zeroCells,c2,Jb,ho1,n3];rw[Jp,<-KJ,<-KJ];congr 1;omega
   ·rename_i l o len c
    simp only[VR]at hsv;obtain⟨ad,rfl,hadd⟩:=hsv;by_cases hroom:len+m<=c
    ·rcases he.1 hroom with⟨rfl,hK⟩|⟨hm0,hK⟩
     ·refine XG (app (.slice (some ad) len c) w ?_) (hn fi _ _ _ _ fi.le_refl hr (by simp only[VR];exact⟨ad,rfl,hadd⟩) hK)
      have hnews:news=[]:=Kg (by omega);have:=qbv (P:=P) w w ats t u type e ht0 hu0 ii d ht hu hd hi ad len c 0 xv [] hlen (by rw[hes,<-hnews];exact n1 _ (fun _ _ h=>h)) hroom (by simp[storeCells]);simpa using this
     ·split at hK<;>first|exact hK.elim|skip
      rename_i k
      split at hK<;>first|exact hK.elim|skip
      rename_i b hb
      obtain⟨⟨b1,b2,b3⟩,hK⟩:=hK;obtain⟨q,hq,_,ok⟩:=hr.own k b hb;have hloc:=hadd (.inl (by omega));have hoa:=Yu (j:=len*es) hloc;simp only[Xb,hq,KI,Option.some.injEq]at hoa hloc;obtain⟨w',f1,f2⟩:=qih (P:=P) hr hb hq (o:=o+len*es) n2 b3 (by rw[n4];omega) b2;refine XG (app (.slice (some ad) (len+m) c) w' ?_) (hn fi _ _ _ _ fi.le_refl f2 ?_ hK)
      ·refine qbv (P:=P) w w' ats t u type e ht0 hu0 ii d ht hu hd hi ad len c m xv news hlen (by rw[hes];exact n1 _ (fun _ _ h=>h)) hroom ?_
       rw[hes,<-hoa];exact f1
      ·simp only[VR]
       exact⟨ad,rfl,fun _=>by simp[Xb,hq,<-hloc]⟩
    ·obtain⟨⟨b1,b2,b3⟩,hK⟩:=he.2 (by omega)
     obtain⟨olds,ho1,ho2,_,ho4⟩:=qce (P:=P) (l:=l) (o:=o) (n:=len*es) (a:=ad) hr (fun hne=>hadd (.inr (by intro e9;apply hne;rw[e9,K7]))) b1;have hxs:=qah ho2 n2;have happ:=qcD (P:=P) w ats t u type e ht0 hu0 ii z d ht hu hd hi hz (.slice (some ad) len c) xv (some ad) len c m olds news rfl hlen
      (by rw[hes];exact run_firstCells_some (P:=P) w.drew es len ad len c olds ho1 (fun j v hj=>ho4 j v hj)) (by rw[hes];exact n1 _ hsame) (by omega) (by rw[hby];exact b2) b3
     exact newgood (len+m) c _ (olds++news) hxs b3 (by rw[Jb,ho1,n3,<-KJ]) hK happ
   ·exact he.elim
  ·rename_i hb
   simp only at hb he;split at he<;>first|exact he.elim|skip
   rename_i da xa hsx
   rw[hsx]at hv;simp only[VRs]at hv;obtain⟨dv,_,hargs,hdv,xv,_,rfl,hxv,rfl⟩:=hv;have app:∀(r:Value) (w':World),(Builtin.copy_ ats type #[dv,xv]).run P w= .ok r w'->(execOp a.eval ⟨dst, .call ⟨callee,args,ats⟩,type,pos,after,guard⟩).run P w= .ok (.value r) w':=fun r w' hr'=>
    run .copy r w' hb (by rw[ea,hargs];exact Zk hr')
   unfold eCopy at he;split at he<;>first|exact he.elim|skip
   rename_i t ht0
   split at he<;>first|exact he.elim|skip
   rename_i e ht
   split at he<;>first|exact he.elim|skip
   rename_i es m hes hm
   obtain⟨c1,he⟩:=he;have hlen:=src_len (P:=P) hm hxv w;have copied:∀(base:Option Addr) (dLen dCap k:Nat) (news:List Value) (w':World),dv= .slice base dLen dCap->Nat.min m dLen=k->(Builtin.firstCells es k xv).run P w= .ok news.toArray w->
    (base=none/\w'=w\/∃ad,base=some ad/\(storeCells ad news).run P w= .ok () w')->(Builtin.copy_ ats type #[dv,xv]).run P w= .ok (.int .i64 (k:Nat)) w':=by
    intro base dLen dCap k news w' hd hk hf hst;subst hd;rcases hst with⟨rfl,rfl⟩|⟨ad,rfl,hst⟩
    ·simp[Builtin.copy_,ht0,qM ht,hlen,Zv hes,hk,hf,goInt]
    ·simp[Builtin.copy_,ht0,qM ht,hlen,Zv hes,hk,hf,hst,goInt]
   split at he<;>first|exact he.elim|skip
   ·obtain⟨c3,hK⟩:=he
    simp only[VR]at hdv;subst hdv;obtain⟨news,n1,n2,n3,n4⟩:=qhT (P:=P) hm (Jq m) c3 hr hxv c1;refine XG (app _ w (copied none 0 0 0 news w rfl (by simp[Nat.min]) (n1 w (fun _ _ h=>h)) (.inl ⟨rfl,rfl⟩))) (hn fi _ _ _ _ fi.le_refl hr (by simp[VR]) hK)
   ·rename_i l o len c
    obtain⟨c3,he0,he1⟩:=he;obtain⟨ad,cap,rfl,ha⟩:=Yr hdv;obtain⟨news,n1,n2,n3,n4⟩:=qhT (P:=P) hm (Nat.min_le_left m len) c3 hr hxv c1;by_cases hz:min m len=0
    ·have hnews:news=[]:=Kg (by rw[n3,hz,K7])
     refine XG (app _ w (copied (some ad) len cap 0 [] w rfl hz (by rw[<-hnews];have:=n1 w (fun _ _ h=>h);rw[hz]at this;exact this) (.inr ⟨ad,rfl,by simp[storeCells]⟩))) (hn fi _ _ _ _ fi.le_refl hr (by simp[VR]) (he0 hz))
    ·have hK:=he1 hz
     split at hK<;>first|exact hK.elim|skip
     rename_i k
     split at hK<;>first|exact hK.elim|skip
     rename_i b hb
     obtain⟨⟨b1,b2,b3⟩,hK⟩:=hK;obtain⟨q,hq,_,ok⟩:=hr.own k b hb;have hloc:=ha (by omega);simp only[Xb,hq,KI,Option.some.injEq]at hloc;obtain⟨w',f1,f2⟩:=qih (P:=P) hr hb hq (o:=o) n2 b3 (by rw[n4];omega) b2;rw[hloc]at f1;exact XG (app _ w' (copied (some ad) len cap (min m len) news w' rfl rfl (n1 w (fun _ _ h=>h)) (.inr ⟨ad,rfl,f1⟩))) (hn fi _ _ _ _ fi.le_refl f2 (by simp[VR]) hK)
  ·rename_i hb
   simp only at hb he;split at he<;>first|exact he.elim|skip
   rename_i da xa hsx
   rw[hsx]at hv;simp only[VRs]at hv;obtain⟨dv,_,hargs,hdv,xv,_,rfl,hxv,rfl⟩:=hv;obtain⟨w',h',f1,f2,f3⟩:=delete_ok (ty:=type) he hr hdv hxv;exact XG (run .delete undef w' hb (by rw[ea,hargs];exact Zk f1)) (hn fi _ _ _ _ fi.le_refl f2 (Wh fi) f3)
  ·rename_i f hb
   simp only at hb he;subst hb;split at he<;>first|exact he.elim|skip
   rename_i fid cap hf
   have hfv:=hs.ev f;rw[hf]at hfv;simp only[VR]at hfv;obtain⟨vs,hfe,hcap⟩:=hfv;have hland:=he fi (args.toList.map a.eval++vs) w hr (qah hv hcap);refine wp_lands (f:=fid) (vals:=(args.toList.map a.eval++vs).toArray) ?_ hland fun v w' ⟨Ps,x,h',e1,e2,e3,e4⟩=>hn Ps x h' v w' e1 e2 e3 e4;simp only[execOp,resolve,hfe,Deferred.ofValue,Sem.run_bind,Sem.run_pure,Result.andThen_ok,invoke];rw[ea];simp
  ·exact plain he
 case makeMap t r=>
  split at he<;>first|exact he.elim|skip
  obtain⟨k,hk,hφ,hkt⟩:=hr.freshN;obtain⟨e1,e2⟩:=hr.allocO k hk hφ hkt (Yj 0 []) (.map #[] 0) rfl ⟨rfl,rfl⟩;refine XG (v:= .map (some w.heap.size)) (w':=w.alloc (.map #[] 0)) ?_ (hn _ _ _ _ _ e1 e2 (by simp only[VR];exact⟨_,PMap.upd_same _ _ _,rfl⟩) (he k hk));simp[execOp,Instr.makeMap,newObj,Sem.run]
 case mapUpdate t m i v=>
  obtain⟨w',h',f1,f2,f3⟩:=qmc he hr (hs.ev m) (hs.ev i) (hs.ev v);exact qjR (w':=w') (by simp[execOp,f1]) (hn fi _ _ _ _ fi.le_refl f2 (Wh fi) f3)
 case insert t m i v=>
  obtain⟨w',h',f1,f2,f3⟩:=qmc he hr (hs.ev m) (hs.ev i) (hs.ev v);exact qjR (w':=w') (by simp[execOp,f1]) (hn fi _ _ _ _ fi.le_refl f2 (Wh fi) f3)
 case range t x=>
  unfold qkV at he;split at he<;>first|exact he.elim|skip
  rename_i kt et k ht hx
  split at he<;>first|exact he.elim|skip
  rename_i c es hc
  obtain⟨p,entries,hp,g1,g2⟩:=hr.mapAt hc;have hxv:=hs.ev x;rw[hx]at hxv;have hum:=qtp hp hxv;obtain⟨k',hk',hφ',hkt'⟩:=hr.freshN;obtain⟨e1,e2⟩:=hr.allocO k' hk' hφ' hkt' ⟨[.iterO k c [] c],2⟩ (.mapIter (some p.blk) c #[] c) rfl ⟨⟨p,hp,rfl⟩,rfl,rfl,rfl⟩;refine XG (v:= .pointer (some ⟨w.heap.size,0,none⟩)) (w':=w.alloc (.mapIter (some p.blk) c #[] c)) ?_ (hn _ _ _ _ _ e1 e2 (qlz _ _ _) (he k' hk'));have hget:(getObj p.blk).run P w= .ok (.map entries c) w:=by simp[getObj,Sem.run,g1]
  simp[execOp,Instr.range,hum,qM ht,hget,newObj,Sem.run]
 case entry it=>
  obtain⟨v,x,f1,f2,f3⟩:=entry_ok (P:=P) he hr (hs.ev it);exact XG (by simp only[execOp];exact Zk f1) (hn fi _ _ _ _ fi.le_refl hr f2 f3)
 case next it str=>
  obtain⟨rfl,he⟩:=he;obtain⟨v,w',x,h',f1,f2,f3,f4⟩:=next_ok (ty:=type) he hr (hs.ev it);exact XG (by simp only[execOp];exact Zk f1) (hn fi _ _ _ _ fi.le_refl f2 f3 f4)
def nthDst:List Oper->Nat->Option Tmp
 |[],_=>none
 |o::_,0=>o.dst
 |_::r,j+1=>nthDst r j
theorem Yi:∀(l:List Oper) (j:Nat),nthDst l j=(l[j]?).bind (·.dst)
 |[],j=>by simp[nthDst]
 |o::r,0=>by simp[nthDst]
 |o::r,j+1=>by simp[nthDst,Yi r j]
def putD(s:Slots):Option Tmp->AVal->Slots
 |none,_=>s
 |some d,x=>s.put d x
def QD:AVal->Bool->Bool
 | .bool b,want=>b==want
 |_,_=>false
def Wn:AVal->Bool
 | .bool _=>true
 | .tuple []=>true
 |_=>false
def Qc(g:Bool)(v:AVal):AVal:=bif g then v else .tuple []
def Zc(P:Program):Op->Bool
 | .alloc _=>false
 | .box _ _=>false
 | .buildSlice _ _ _=>false
 | .store _ _ _=>false
 | .makeSlice _ _ _=>false
 | .makeMap _ _=>false
 | .mapUpdate _ _ _ _=>false
 | .insert _ _ _ _=>false
 | .range _ _=>false
 | .next _ _=>false
 | .entry _=>false
 | .convert src dst _=> !ZL P src dst && !qcP P src dst
 | .call c=>match c.callee with
   | .builtin .append=>false
   | .builtin .copy=>false
   | .builtin .delete=>false
   | .builtin _=>true
   |_=>false
 |_=>true
theorem UR{P:Program}{w0:World}{h:AHeap}{s:Slots}{op:Op}{K:AVal->AHeap->Prop}(hp:Zc P op=true):eop P w0 h s op K↔(pop P w0 h s op).pre/\K (pop P w0 h s op).val h:=by
 cases op<;>simp only[Zc]at hp<;>first
  |(cases hp;done)
  |exact Jr
  |skip
 case convert src dst x=>
  simp only[Ky,Jh]at hp;simp only[eop,hp.1,hp.2,KV,if_false];split<;>exact Jr
 case call c=>
  obtain⟨callee,args,ts⟩:=c;cases callee with
  |value f=>simp at hp
  |invoke r m=>simp[eop]
  |builtin b=>cases b<;>first|(simp at hp;done)|exact Jr
def Ql(P:Program)(w0:World)(ops:List Oper):List Oper->Slots->AHeap->(Slots->AHeap->Prop)->Prop
 |[],s,h,K=>K s h
 |o::rest,s,h,K=>
  match o.guard with
  |none=>eop P w0 h s o.op fun x h'=>Ql P w0 ops rest (putD s o.dst x) h' K
  |some (j,want)=>match nthDst ops j with
   |none=>Ql P w0 ops rest (putD s o.dst (.tuple [])) h K
   |some d=>Wn (s.get d)=true/\
    if Zc P o.op=true then
     (QD (s.get d) want=true->(pop P w0 h s o.op).pre)/\Ql P w0 ops rest (putD s o.dst (Qc (QD (s.get d) want) (pop P w0 h s o.op).val)) h K
    else
     (QD (s.get d) want=true->eop P w0 h s o.op fun x h'=>Ql P w0 ops rest (putD s o.dst x) h' K)/\
     (QD (s.get d) want=false->Ql P w0 ops rest (putD s o.dst (.tuple [])) h K)
def Qo(n:Nat):List Oper->Bool
 |[]=>true
 |o::r=>(match o.dst with|some d=>decide (d<n)|none=>true) && Qo n r
theorem SRel.putD{fi:PMap}{n:FrameK}{s:Slots}{a:Act}(h:SRel fi n s a){d:Option Tmp}(hd:(match d with|some d=>decide (d<n.sz)|none=>true)=true){x:AVal}{v:Value}(hv:VR fi x v):
 SRel fi n (putD s d x) (a.put d v):=by
 cases d with
 |none=>exact h
 |some d=>exact h.put d (by simpa using hd) hv
theorem qdH{fi:PMap}{n:FrameK}{s:Slots}{a:Act}(hs:SRel fi n s a)(ops:List Oper)(j d:Nat)(hd:nthDst ops j=some d)(hn:d<n.sz)(hk:Wn (s.get d)=true)(want:Bool):
 (yielded ops.toArray a.tmps j==some want)=QD (s.get d) want:=by
 have hv:=hs.val d;have hdst:((ops.toArray[j]?).bind (·.dst))=some d:=by
  rw[<-hd,Yi];simp
 have hget:a.tmps[d]?=some (a.tmps.getD d undef):=by
  have:d<a.tmps.size:=by rw[hs.size];exact hn
  simp[this]
 unfold yielded;rw[hdst];simp only[KO,hget];generalize a.tmps.getD d undef=v at hv;unfold Wn at hk;split at hk
 ·rename_i b hb
  rw[hb]at hv|-
  simp only[VR]at hv;subst hv;simp only[QD];cases b<;>cases want<;>rfl
 ·rename_i hb
  rw[hb]at hv|-
  simp only[VR,VRs]at hv;obtain⟨vs,rfl,rfl⟩:=hv;simp[QD]
 ·cases hk
theorem qhK{P:Program}{w0:World}(ops:List Oper)(n:FrameK)(hall:Qo n ops=true):∀(l:List Oper) (i:Nat) (fi:PMap) (s:Slots) (h:AHeap) (a:Act) (w:World) (K:Slots->AHeap->Prop) (Q:Exit->Act->World->Prop),
 (∀j,l[j]?=ops[i+j]?)->Qo n l=true->Ql P w0 ops l s h K->HRel w0 fi h w->SRel fi n s a->
 (∀Ps s' h' a' w',fi.le Ps->HRel w0 Ps h' w'->SRel Ps n s' a'->K s' h'->Q .normal a' w')->wpOps P ops.toArray Q (Js i l.length) a w
 |[],i,fi,s,h,a,w,K,Q,_,_,ha,hr,hs,hq=>hq fi s h a w fi.le_refl hr hs ha
 |o::l,i,fi,s,h,a,w,K,Q,hl,hd,ha,hr,hs,hq=>by
  have ho:ops.toArray[i]?=some o:=by
   have:=hl 0;simp only[Kz,K6]at this;simp[<-this]
  simp only[Qo,Ky]at hd;have hrest:∀j,l[j]?=ops[i+1+j]?:=fun j=>by
   have:=hl (j+1);simp only[KM]at this;rw[this];congr 1;omega
  have ih:=fun fi s h a w Q=>qhK (P:=P) (w0:=w0) ops n hall l (i+1) fi s h a w K Q hrest hd.2;have run:∀(K':AVal->AHeap->Prop),eop P w0 h s o.op K'->(∀x h',K' x h'->Ql P w0 ops l (putD s o.dst x) h' K)->o.wp P a w (wpOps P ops.toArray Q (Js (i+1) l.length)) Q:=fun K' he hk=>
   qgE o he hr hs fun Ps x h' v w' e1 e2 e3 e4=>ih Ps _ h' _ w' Q (hk x h' e4) e2 ((hs.mono e1).putD hd.1 e3) fun χ s' h'' a' w'' f1 f2 f3 f4=>hq χ s' h'' a' w'' (PMap.le_trans e1 f1) f2 f3 f4
  have skip:Ql P w0 ops l (putD s o.dst (.tuple [])) h K->wpOps P ops.toArray Q (Js (i+1) l.length) (a.put o.dst undef) w:=fun hk=>
   ih fi _ h _ w Q hk hr (hs.putD hd.1 (Wh fi)) hq
  simp only[KX,List.range'_succ,wpOps,ho];simp only[Ql]at ha;cases hg:o.guard with
  |none=>
   simp only[hg]at ha;have hw:Region.wanted o (yielded ops.toArray a.tmps)=true:=by simp[Region.wanted,hg]
   rw[if_pos hw];exact .inl (run _ ha fun _ _ hk=>hk)
  |some gw=>
   obtain⟨j,want⟩:=gw;simp only[hg]at ha;have hwanted:Region.wanted o (yielded ops.toArray a.tmps)=(yielded ops.toArray a.tmps j==some want):=by simp[Region.wanted,hg]
   cases hj:nthDst ops j with
   |none=>
    simp only[hj]at ha;have hn:(ops.toArray[j]?).bind (·.dst)=none:=by
     rw[<-hj,Yi];simp
    have hw:Region.wanted o (yielded ops.toArray a.tmps)=false:=by
     rw[hwanted];simp only[yielded,hn];rfl
    rw[if_neg (by simp[hw])];exact skip ha
   |some d=>
    simp only[hj]at ha;obtain⟨hk,ha⟩:=ha;have hdn:d<n:=by
     have:∀(l:List Oper) (j d:Nat),Qo n l=true->nthDst l j=some d->d<n:=by
      intro l;induction l with
      |nil=>intro j d _ h;simp[nthDst]at h
      |cons o r ih=>
       intro j d h1 h2;simp only[Qo,Ky]at h1;cases j with
       |zero=>simp only[nthDst]at h2;rw[h2]at h1;simpa using h1.1
       |succ j=>exact ih j d h1.2 h2
     exact this ops j d hall hj
    have hgd:=qdH hs ops j d hj hdn hk want;rw[hwanted,hgd];split at ha
    ·rename_i hp
     obtain⟨h1,h2⟩:=ha;cases hb:QD (s.get d) want with
     |true=>
      simp only[hb,Qc,cond_true]at h2;simp only[if_true];exact .inl (run (fun x h'=>x=(pop P w0 h s o.op).val/\h'=h) ((UR hp).2 ⟨h1 hb,rfl,rfl⟩) fun x h' ⟨e1,e2⟩=>by subst e1 e2;exact h2)
     |false=>
      simp only[hb,Qc,cond_false]at h2;simp only[KV,if_false];exact skip h2
    ·obtain⟨h1,h2⟩:=ha
     cases hb:QD (s.get d) want with
     |true=>
      simp only[if_true];exact .inl (run _ (h1 hb) fun _ _ hk=>hk)
     |false=>
      simp only[KV,if_false];exact skip (h2 hb)
def abrupt:Exit->Prop
 | .ret=>True
 | .panic _=>True
 |_=>False
def AQ(w0:World)(n:FrameK)(fi:PMap)(Q:Exit->Slots->AHeap->Prop)(e:Exit)(a':Act)(w':World):Prop:=
 (∃Ps s' h',fi.le Ps/\HRel w0 Ps h' w'/\SRel Ps n s' a'/\Q e s' h')\/(abrupt e/\∃Ps,fi.le Ps/\n.G e Ps a' w')
theorem AQ.up{w0:World}{n:FrameK}{fi Ps:PMap}{Q:Exit->Slots->AHeap->Prop}{e:Exit}{a:Act}{w:World}(hl:fi.le Ps)(h:AQ w0 n Ps Q e a w):AQ w0 n fi Q e a w:=by
 rcases h with⟨χ,s,h,e1,rest⟩|⟨ha,χ,e1,hg⟩
 ·exact .inl ⟨χ,s,h,PMap.le_trans hl e1,rest⟩
 ·exact .inr ⟨ha,χ,PMap.le_trans hl e1,hg⟩
def Awp(P:Program)(w0:World)(n:FrameK)(c:Code)(Q:Exit->Slots->AHeap->Prop)(s:Slots)(h:AHeap):Prop:=
 ∀(fi:PMap) (a:Act) (w:World),HRel w0 fi h w->SRel fi n s a->c.wp P (AQ w0 n fi Q) a w
section
variable {P:Program} {w0:World} {n:FrameK} {s:Slots} {h:AHeap} {Q:Exit->Slots->AHeap->Prop}
theorem Awp.of0{c:Code}(h0:∀(fi:PMap) (a:Act) (w:World),HRel w0 fi h w->SRel fi n s a->c.wp P (fun e a' w'=>∃Ps s' h',fi.le Ps/\HRel w0 Ps h' w'/\SRel Ps n s' a'/\Q e s' h') a w):Awp P w0 n c Q s h:=
 fun fi a w hr hs=>wp_mono (h0 fi a w hr hs) fun _ _ _ hq=> .inl hq
theorem Awp.mono{c:Code}{Q':Exit->Slots->AHeap->Prop}(hc:Awp P w0 n c Q s h)(hq:∀e s h,Q e s h->Q' e s h):Awp P w0 n c Q' s h:=
 fun fi a w hr hs=>wp_mono (hc fi a w hr hs) fun _ _ _ q=>q.imp (fun⟨Ps,s',h',e1,e2,e3,e4⟩=>⟨Ps,s',h',e1,e2,e3,hq _ _ _ e4⟩) id
theorem Awp.weaken{c:Code}{s':Slots}(hs':∀i,s'.get i=s.get i\/s'.get i= .dead)(hc:Awp P w0 n c Q s' h):Awp P w0 n c Q s h:=
 fun fi a w hr hs=>hc fi a w hr ⟨hs.size,hs.defers,fun i=>by
  rcases hs' i with e|e
  ·rw[e];exact hs.val i
  ·rw[e];simp[VR]⟩
theorem Awp.keep{c:Code}(L:List Nat)(hc:Awp P w0 n c Q (s.keep L) h):Awp P w0 n c Q s h:=
 hc.weaken fun i=>by
  rw[Slots.get_keep];split
  ·exact .inl rfl
  ·exact .inr rfl
theorem Awp.forget{c:Code}{h':AHeap}(hh:∀k b,h' k=some b->h k=some b)(hc:Awp P w0 n c Q s h'):Awp P w0 n c Q s h:=
 fun fi a w hr hs=>hc fi a w (hr.forget hh) hs
theorem qF(hq:Q .normal s h):Awp P w0 n .skip Q s h:=fun fi _ _ hr hs=>wp_skip (.inl ⟨fi,s,h,fi.le_refl,hr,hs,hq⟩)
theorem awp_label{l:Nat}(hq:Q .normal s h):Awp P w0 n (.label l) Q s h:=fun fi _ _ hr hs=>wp_label (.inl ⟨fi,s,h,fi.le_refl,hr,hs,hq⟩)
theorem Qk{id:Nat}(hq:Q (.exit id) s h):Awp P w0 n (.exit id) Q s h:=fun fi _ _ hr hs=>wp_exit (.inl ⟨fi,s,h,fi.le_refl,hr,hs,hq⟩)
theorem qW(hq:Q .ret s h):Awp P w0 n .ret Q s h:=fun fi _ _ hr hs=>wp_ret (.inl ⟨fi,s,h,fi.le_refl,hr,hs,hq⟩)
def qeH(K:Slots->AHeap->Prop)(Q:Exit->Slots->AHeap->Prop):Exit->Slots->AHeap->Prop
 | .normal,s,h=>K s h
 |e,s,h=>Q e s h
theorem qi{x y:Code}(hx:Awp P w0 n x (qeH (Awp P w0 n y Q) Q) s h):Awp P w0 n (.seq x y) Q s h:=
 fun fi a w hr hs=>wp_seq (wp_mono (hx fi a w hr hs) fun e a' w' q=>by
  rcases q with⟨Ps,s',h',e1,e2,e3,e4⟩|q
  ·cases e<;>simp only[qeH]at e4<;>simp only[Exit.then]<;>first
    |exact .inl ⟨Ps,s',h',e1,e2,e3,e4⟩
    |exact wp_mono (e4 Ps a' w' e2 e3) fun _ _ _ q=>q.up e1
  ·cases e<;>simp only[Exit.then]<;>first
    |exact .inr q
    |exact q.1.elim)
theorem qz{c:Operand}{x y:Code}{b:Bool}(hc:ev s c= .bool b)(ht:b=true->Awp P w0 n x Q s h)(hf:b=false->Awp P w0 n y Q s h):Awp P w0 n (.cond c x y) Q s h:=
 fun fi a w hr hs=>by
  have hv:=hs.ev c;rw[hc]at hv;simp only[VR]at hv;exact wp_cond_split hv (fun e=>ht e fi a w hr hs) (fun e=>hf e fi a w hr hs)
def qdG(id:Nat)(Q:Exit->Slots->AHeap->Prop):Exit->Slots->AHeap->Prop
 | .exit id',s,h=>if id'=id then Q .normal s h else Q (.exit id') s h
 |e,s,h=>Q e s h
theorem qI{id:Nat}{c:Code}(hc:Awp P w0 n c (qdG id Q) s h):Awp P w0 n (.block id c) Q s h:=
 fun fi a w hr hs=>wp_block (wp_mono (hc fi a w hr hs) fun e a' w' q=>by
  rcases q with⟨Ps,s',h',e1,e2,e3,e4⟩|q
  ·cases e<;>simp only[qdG]at e4<;>simp only[Exit.inBlock]<;>first
    |exact .inl ⟨Ps,s',h',e1,e2,e3,e4⟩
    |(split at e4
      ·rename_i hid;rw[if_pos hid];exact .inl ⟨Ps,s',h',e1,e2,e3,e4⟩
      ·rename_i hid;rw[if_neg hid];exact .inl ⟨Ps,s',h',e1,e2,e3,e4⟩)
  ·cases e<;>simp only[Exit.inBlock]<;>first
    |exact .inr q
    |exact q.1.elim)
theorem qgF{id:Nat}{l:List Oper}(hd:Qo n l=true)(hc:Ql P w0 l l s h (fun s' h'=>Q .normal s' h')):Awp P w0 n (.region id l.toArray false) Q s h:=
 Awp.of0 fun fi a w hr hs=>wp_region (by
  have:=qhK (P:=P) (w0:=w0) l n hd l 0 fi s h a w _ (fun e a' w'=>∃Ps s' h',fi.le Ps/\HRel w0 Ps h' w'/\SRel Ps n s' a'/\Q e s' h') (fun j=>by simp) hd hc hr hs
   (fun Ps s' h' a' w' e1 e2 e3 e4=>⟨Ps,s',h',e1,e2,e3,e4⟩)
  rw[KC,List.range_eq_range'];exact this)
theorem awp_rseq{id:Nat}{l:List Oper}{y:Code}(L:List Nat)(hd:Qo n l=true)
 (hc:∀K:Slots->AHeap->Prop,(∀s h,Awp P w0 n y Q s h->K s h)->Ql P w0 l l s h (fun s' h'=>K (s'.keep L) h')):Awp P w0 n (.seq (.region id l.toArray false) y) Q s h:=
 qi (qgF hd (hc (fun s h=>Awp P w0 n y Q s h) (fun _ _ hk=>hk) |> aOps_mono fun s' h' hk=>Awp.keep L hk))
where
 aOps_mono {l ops:List Oper} {s:Slots} {h:AHeap} {K K':Slots->AHeap->Prop} (hk:∀s h,K s h->K' s h) (ha:Ql P w0 ops l s h K):Ql P w0 ops l s h K':=by
  induction l generalizing s h with
  |nil=>exact hk _ _ ha
  |cons o l ih=>
   simp only[Ql]at ha|-
   split
   ·rename_i hg
    simp only[hg]at ha;exact qdJ ha fun x h'=>ih
   ·rename_i j want hg
    simp only[hg]at ha;split
    ·rename_i hj
     simp only[hj]at ha;exact ih ha
    ·rename_i d hj
     simp only[hj]at ha;refine⟨ha.1,?_⟩;obtain⟨_,ha⟩:=ha;split
     ·rename_i hp
      rw[if_pos hp]at ha;exact⟨ha.1,ih ha.2⟩
     ·rename_i hp
      rw[if_neg hp]at ha;exact⟨fun hb=>qdJ (ha.1 hb) fun x h'=>ih,fun hb=>ih (ha.2 hb)⟩
theorem qnC{p:Nat->Prop}:∀k,p k->∃j,p j/\∀i,p i->j<=i:=by
 intro k;induction k using Jt with
 |_ k ih=>
  intro hk;by_cases hs:∃i,i<k/\p i
  ·obtain⟨i,h1,h2⟩:=hs
   exact ih i h1 h2
  ·exact⟨k,hk,fun i hi=>Kt fun hlt=>hs ⟨i,hlt,hi⟩⟩
noncomputable def leastOf (p:Nat->Prop):Nat:=open Classical in if h:∃j,p j/\∀i,p i->j<=i then Classical.choose h else 0
theorem leastOf_spec{p:Nat->Prop}(h:∃k,p k):p (leastOf p)/\∀i,p i->leastOf p<=i:=by
 obtain⟨k,hk⟩:=h;have h':=qnC k hk;unfold leastOf;rw[dif_pos h'];exact Classical.choose_spec h'
theorem awp_loop{c:Code}(I:Slots->AHeap->Prop)(m:Slots->AHeap->Nat)(h0:I s h)
 (round:∀s h,I s h->Awp P w0 n c (qeH (fun s' h'=>∃s'',(∀i,s''.get i=s'.get i\/s''.get i= .dead)/\I s'' h'/\m s'' h'<m s h) Q) s h):Awp P w0 n (.loop c) Q s h:=by
 intro fi a w hr hs;let S:Act->World->Nat->Prop:=fun a' w' k=>∃φ' s' h',fi.le φ'/\HRel w0 φ' h' w'/\SRel φ' n s' a'/\I s' h'/\m s' h'=k
 refine wp_loop (fun a' w'=>∃k,S a' w' k) (fun a' w'=>leastOf (S a' w')) ⟨_,fi,s,h,fi.le_refl,hr,hs,h0,rfl⟩ fun a' w' hI=>?_;obtain⟨⟨φ',s',h',e1,e2,e3,e4,e5⟩,hmin⟩:=leastOf_spec hI;refine wp_mono (round s' h' e4 φ' a' w' e2 e3) fun e a1 w1 q=>?_;rcases q with⟨Ps,s1,h1,f1,f2,f3,f4⟩|⟨q1,q2⟩
 rotate_left
 ·cases e<;>simp only[Exit.then]<;>first
   |(exact(show AQ w0 n φ' Q _ a1 w1 from .inr ⟨q1,q2⟩).up e1)
   |exact q1.elim
 cases e<;>simp only[qeH]at f4<;>simp only[Exit.then]<;>first
  |exact .inl ⟨Ps,s1,h1,PMap.le_trans e1 f1,f2,f3,f4⟩
  |skip
 obtain⟨s2,hs2,hI2,hlt⟩:=f4;have hs3:SRel Ps n s2 a1:=⟨f3.size,f3.defers,fun i=>by
  rcases hs2 i with e|e
  ·rw[e];exact f3.val i
  ·rw[e];simp[VR]⟩
 have hS:S a1 w1 (m s2 h1):=⟨Ps,s2,h1,PMap.le_trans e1 f1,f2,hs3,hI2,rfl⟩
 refine⟨⟨_,hS⟩,?_⟩;have:=(leastOf_spec ⟨_,hS⟩).2 _ hS;omega
end
section
variable {P:Program} {w0:World} {n:FrameK} {s:Slots} {h:AHeap} {Q:Exit->Slots->AHeap->Prop}
theorem qkg{fi:PMap}{w:World}(ops:List Oper)(hall:Qo n ops=true)(hr:HRel w0 fi h w)(K:Slots->AHeap->Prop)(Q':Act->Prop):∀(hd tl:List Oper) (s:Slots) (a:Act),
 (hd.all fun o=>Zc P o.op)=true->Qo n hd=true->Ql P w0 ops (hd++tl) s h K->SRel fi n s a->(∀s' a',SRel fi n s' a'->Ql P w0 ops tl s' h K->Q' a')->wpStill P ops.toArray w Q' hd a
 |[],tl,s,a,_,_,ha,hs,hq=>hq s a hs ha
 |o::hd,tl,s,a,hp,hd',ha,hs,hq=>by
  simp only[KE,Ky]at hp;simp only[Qo,Ky]at hd';have ih:=fun s a=>qkg ops hall hr K Q' hd tl s a hp.2 hd'.2;have run:(pop P w0 h s o.op).pre->(∀v,VR fi (pop P w0 h s o.op).val v->wpStill P ops.toArray w Q' hd (a.put o.dst v))->o.still P a w (wpStill P ops.toArray w Q' hd):=fun h1 h2=>by
   obtain⟨r,e1,e2⟩:=qid o h1 hr hs;unfold Oper.still;rw[e1 w (Same.refl w),Oper.stillUpon_value]
   ·simpa[Oper.stillUpon]using h2 r e2
  simp only[Kh,Ql]at ha;simp only[wpStill];cases hg:o.guard with
  |none=>
   simp only[hg]at ha;have hw:Region.wanted o (yielded ops.toArray a.tmps)=true:=by simp[Region.wanted,hg]
   rw[if_pos hw];obtain⟨h1,h2⟩:=(UR hp.1).1 ha;exact run h1 fun v hv=>ih _ _ h2 (hs.putD hd'.1 hv) hq
  |some gw=>
   obtain⟨j,want⟩:=gw;simp only[hg]at ha;have hwanted:Region.wanted o (yielded ops.toArray a.tmps)=(yielded ops.toArray a.tmps j==some want):=by simp[Region.wanted,hg]
   cases hj:nthDst ops j with
   |none=>
    simp only[hj]at ha;have hn:(ops.toArray[j]?).bind (·.dst)=none:=by
     rw[<-hj,Yi];simp
    have hw:Region.wanted o (yielded ops.toArray a.tmps)=false:=by
     rw[hwanted];simp only[yielded,hn];rfl
    rw[if_neg (by simp[hw])];exact ih _ _ ha (hs.putD hd'.1 (Wh fi)) hq
   |some d=>
    simp only[hj]at ha;obtain⟨hk,ha⟩:=ha;have hdn:d<n:=by
     have:∀(l:List Oper) (j d:Nat),Qo n l=true->nthDst l j=some d->d<n:=by
      intro l;induction l with
      |nil=>intro j d _ h;simp[nthDst]at h
      |cons o r ih=>
       intro j d h1 h2;simp only[Qo,Ky]at h1;cases j with
       |zero=>simp only[nthDst]at h2;rw[h2]at h1;simpa using h1.1
       |succ j=>exact ih j d h1.2 h2
     exact this ops j d hall hj
    have hgd:=qdH hs ops j d hj hdn hk want;rw[hwanted,hgd];rw[if_pos hp.1]at ha;obtain⟨h1,h2⟩:=ha;cases hb:QD (s.get d) want with
    |true=>
     simp only[hb,Qc,cond_true]at h2;simp only[if_true];exact run (h1 hb) fun v hv=>ih _ _ h2 (hs.putD hd'.1 hv) hq
    |false=>
     simp only[hb,Qc,cond_false]at h2;simp only[KV,if_false];exact ih _ _ h2 (hs.putD hd'.1 (Wh fi)) hq
theorem qoh{id:Nat}{l:List Oper}(hm:P.follows .mixedOrders=true)(hB:Region.lexB .any l.toArray=true)(hp:(l.all fun o=>Zc P o.op)=true)(hd:Qo n l=true)
 (hc:Ql P w0 l l s h (fun s' h'=>Q .normal s' h')):Awp P w0 n (.region id l.toArray true) Q s h:=
 Awp.of0 fun fi a w hr hs=>wp_region_still (w:=w) hm hB (by
  refine qkg (w:=w.drew) l hd hr.drew (fun s' h'=>Q .normal s' h') _ l [] s a hp hd (by simpa using hc) hs fun s' _ hs' hk=>?_;exact⟨fi,s',h,fi.le_refl,hr.drew,hs',hk⟩)
theorem qgj{id:Nat}{l:List Oper}(m:Nat)(hm:P.follows .mixedOrders=true)(hB:Region.lexTailB .any l.toArray m=true)(hp:((l.take m).all fun o=>Zc P o.op)=true)(hd:Qo n l=true)
 (hc:Ql P w0 l l s h (fun s' h'=>Q .normal s' h')):Awp P w0 n (.region id l.toArray true) Q s h:=
 Awp.of0 fun fi a w hr hs=>wp_region_still_tail (w:=w) m hm hB (by
  have dtake:∀(l:List Oper) (m:Nat),Qo n l=true->Qo n (l.take m)=true/\Qo n (l.drop m)=true:=by
   intro l;induction l with
   |nil=>intro m _;simp[Qo]
   |cons o r ih=>
    intro m h;cases m with
    |zero=>exact⟨by simp[Qo],by simpa using h⟩
    |succ m=>
     simp only[Qo,Ky]at h;obtain⟨h1,h2⟩:=ih m h.2;exact⟨by simp only[Ki,Qo,Ky];exact⟨h.1,h1⟩,by simpa using h2⟩
  refine qkg (w:=w.drew) l hd hr.drew (fun s' h'=>Q .normal s' h') _ (l.take m) (l.drop m) s a hp (dtake l m hd).1 (by simpa using hc) hs fun s' a' hs' hk=>?_;have:=qhK (P:=P) (w0:=w0) l n hd (l.drop m) m fi s' h a' w.drew _ (fun e a' w'=>∃Ps s' h',fi.le Ps/\HRel w0 Ps h' w'/\SRel Ps n s' a'/\Q e s' h') (fun j=>by simp[Kq]) (dtake l m hd).2 hk hr.drew hs'
   (fun Ps s' h' a' w' e1 e2 e3 e4=>⟨Ps,s',h',e1,e2,e3,e4⟩)
  rw[wpOps_eq_wpList (l.drop m) m (fun j=>by simp[Kq])]at this;exact this)
theorem UD{id:Nat}{l:List Oper}{y:Code}(L:List Nat)(hm:P.follows .mixedOrders=true)(hB:Region.lexB .any l.toArray=true)(hp:(l.all fun o=>Zc P o.op)=true)(hd:Qo n l=true)
 (hc:∀K:Slots->AHeap->Prop,(∀s h,Awp P w0 n y Q s h->K s h)->Ql P w0 l l s h (fun s' h'=>K (s'.keep L) h')):Awp P w0 n (.seq (.region id l.toArray true) y) Q s h:=
 qi (qoh hm hB hp hd (hc (fun s h=>Awp P w0 n y Q s h) (fun _ _ hk=>hk) |> awp_rseq.aOps_mono fun _ _ hk=>Awp.keep L hk))
theorem qlS{id:Nat}{l:List Oper}{y:Code}(m:Nat)(L:List Nat)(hm:P.follows .mixedOrders=true)(hB:Region.lexTailB .any l.toArray m=true)(hp:((l.take m).all fun o=>Zc P o.op)=true)(hd:Qo n l=true)
 (hc:∀K:Slots->AHeap->Prop,(∀s h,Awp P w0 n y Q s h->K s h)->Ql P w0 l l s h (fun s' h'=>K (s'.keep L) h')):Awp P w0 n (.seq (.region id l.toArray true) y) Q s h:=
 qi (qgj m hm hB hp hd (hc (fun s h=>Awp P w0 n y Q s h) (fun _ _ hk=>hk) |> awp_rseq.aOps_mono fun _ _ hk=>Awp.keep L hk))
theorem Qv{id:Nat}{l:List Oper}(L:List Nat)(hd:Qo n l=true)(hc:Ql P w0 l l s h (fun s' h'=>Q .normal (s'.keep L) h')):Awp P w0 n (.region id l.toArray false) Q s h:=
 fun fi a w hr hs=>wp_mono (qgF (Q:=fun e s' h'=>Q e (if e matches .normal then s'.keep L else s') h') hd hc fi a w hr hs) fun e a' w' q=>by
  rcases q with⟨Ps,s',h',e1,e2,e3,e4⟩|q
  ·cases e<;>first
    |exact .inl ⟨Ps,s',h',e1,e2,e3,e4⟩
    |exact .inl ⟨Ps,s'.keep L,h',e1,e2,e3.keep L,e4⟩
  ·exact .inr q
end
def qko(P:Program)(w0:World)(s:Slots)(h:AHeap):ResultVar->PR
 | .tmp t=>⟨True,s.get t⟩
 | .cell a t=>Yt P w0 h t (s.get a)
def WV(P:Program)(w0:World)(s:Slots)(h:AHeap):List ResultVar->Prop
 |[]=>True
 |r::rs=>(qko P w0 s h r).pre/\WV P w0 s h rs
def qbY(P:Program)(w0:World)(s:Slots)(h:AHeap):List ResultVar->AVal
 |[r]=>(qko P w0 s h r).val
 |rs=> .tuple (rs.map fun r=>(qko P w0 s h r).val)
def qcU(P:Program)(w0:World)(rs:List ResultVar)(R:AVal->AHeap->Prop):Exit->Slots->AHeap->Prop
 | .normal,s,h=>WV P w0 s h rs/\∃h',(∀k b,h' k=some b->h k=some b)/\R (qbY P w0 s h rs) h'
 | .ret,s,h=>WV P w0 s h rs/\∃h',(∀k b,h' k=some b->h k=some b)/\R (qbY P w0 s h rs) h'
 |_,_,_=>False
def qU:Nat->List AVal->Slots
 |_,[]=>[]
 |k,x::xs=>(k,x)::qU (k+1) xs
theorem qbw(fi:PMap):∀(xs:List AVal) (vs:List Value) (k i:Nat),VRs fi xs vs->(i<k->(qU k xs).get i= .dead)/\∀d,k<=i->VR fi ((qU k xs).get i) (vs.getD (i-k) d)
 |[],vs,k,i,_=>⟨fun _=>rfl,fun _ _=>by simp[qU,Slots.get,VR]⟩
 |x::xs,vs,k,i,h=>by
  simp only[VRs]at h;obtain⟨v,vs',rfl,h1,h2⟩:=h;obtain⟨i1,i2⟩:=qbw fi xs vs' (k+1) i h2;refine⟨fun hlt=>?_,fun d hle=>?_⟩
  ·simp only[qU,Slots.get]
   rw[if_neg (by omega)];exact i1 (by omega)
  ·simp only[qU,Slots.get]
   by_cases e:i=k
   ·subst e
    simpa using h1
   ·rw[if_neg e]
    have:=i2 d (by omega);rw[show i-k=(i-(k+1))+1 by omega];simpa using this
def qnl(tmps:Array Value):ResultVar->Sem Value
 | .tmp t=>pure (tmps.getD t undef)
 | .cell a t=>do loadVar t (<-asAddr (tmps.getD a undef))
theorem qec{P:Program}{w0 w:World}{fi:PMap}{n:FrameK}{s:Slots}{h:AHeap}{a:Act}(hr:HRel w0 fi h w)(hs:SRel fi n s a)(fn:Func)(hp:WV P w0 s h fn.results.toList):
 ∃v,(results fn a.tmps).run P w= .ok v w/\VR fi (qbY P w0 s h fn.results.toList) v:=by
 have one:∀r,(qko P w0 s h r).pre->∃v,(qnl a.tmps r).run P w= .ok v w/\VR fi (qko P w0 s h r).val v:=by
  intro r hr';cases r with
  |tmp t=>exact⟨_,rfl,hs.val t⟩
  |cell b t=>
   simp only[qko]at hr'|-
   obtain⟨r,h1,h2⟩:=qoU hr' hr (hs.val b);refine⟨r,?_,h2⟩;have:=h1 w (Same.refl w);have hv:=hs.val b;unfold Yt at hr';split at hr'
   ·rename_i l o hl
    rw[hl]at hv;simp only[VR]at hv;obtain⟨ad,_,e2⟩:=hv;rw[e2]at this;simp only[qnl];rw[e2];simpa[Instr.loadAt,Instr.sureAddr,asAddr]using this
   ·exact hr'.elim
 have all:∀rs:List ResultVar,WV P w0 s h rs->∃vs,(rs.mapM (qnl a.tmps)).run P w= .ok vs w/\VRs fi (rs.map fun r=>(qko P w0 s h r).val) vs:=by
  intro rs;induction rs with
  |nil=>intro _;exact⟨[],by simp,by simp[VRs]⟩
  |cons r rs ih=>
   intro hp;simp only[WV]at hp;obtain⟨v,e1,e2⟩:=one r hp.1;obtain⟨vs,e3,e4⟩:=ih hp.2;refine⟨v::vs,?_,by simp only[Ke,VRs];exact⟨v,vs,rfl,e2,e4⟩⟩;rw[List.mapM_cons,Sem.run_bind,e1,Result.andThen_ok,Sem.run_bind,e3];rfl
 obtain⟨vs,e1,e2⟩:=all _ hp;have hrun:(results fn a.tmps).run P w= .ok (if h:vs.toArray.size=1 then vs.toArray[0]else .tuple vs.toArray) w:=by
  have key:∀F:ResultVar->Sem Value,(∀r,F r=qnl a.tmps r)->(List.mapM F fn.results.toList).run P w= .ok vs w:=fun F hF=>by
   rw[funext hF];exact e1
  unfold results;rw[Array.mapM_eq_mapM_toList];simp only[bind_map_left,Sem.run_bind];rw[key _ (fun r=>by cases r<;>rfl)];rfl
 refine⟨_,hrun,?_⟩;have hl:=Xw e2;simp only[Jn]at hl;match hrs:fn.results.toList,e2,hl with
 |[],e2,hl=>
  obtain rfl:vs=[]:=Kg (by simpa using hl);simp only[qbY,VR];exact⟨[],by simp,by simp[VRs]⟩
 |[r],e2,hl=>
  simp only[Ke,List.map_nil,VRs]at e2;obtain⟨v,_,rfl,h1,rfl⟩:=e2;simpa[qbY]using h1
 |r::r'::rs,e2,hl=>
  have h2:¬vs.toArray.size=1:=by simp at hl|-;omega
  rw[dif_neg h2];simp only[qbY,VR];exact⟨vs,rfl,e2⟩
theorem qR{P:Program}{w0:World}{f:FuncId}{args:List AVal}{h:AHeap}{R:AVal->AHeap->Prop}{fn:Func}{c:Code}{rs:List ResultVar}{n:FrameK}(hf:P.funcs[f]?=some fn)
 (hname:(fn.name== "runtime.NumGoroutine")=false) (hb:fn.body=some c) (hn:fn.ntmps=n.sz) (hrs:fn.results=rs.toArray) (hargs:args.length<=n.sz)
 (hc:Awp P w0 n c (qcU P w0 rs R) (qU 0 args) h) (hdf:n.dfr=[]/\n.G=(fun _ _ _ _=>False):=by exact⟨rfl,rfl⟩):ACall P w0 f args h R:=by
 intro fi vals w hr hv;refine .inl ⟨fn,hf,hname,by rw[hb];rfl,?_⟩;have hl:=Xw hv;refine calls_of_wp hf hb (wp_mono (hc fi _ w hr ⟨?_,hdf.1.symm,fun i=>?_⟩) fun e a' w' q=>?_)
 ·simp[hn]
  omega
 ·have:=(qbw fi args vals 0 i hv).2 undef (Jq i)
  by_cases hi:i<vals.length
  ·have e:(vals.toArray++Ju (fn.ntmps-vals.toArray.size) undef).getD i undef=vals.getD i undef:=by
    simp[Ku,Jv,hi,Ko]
   rw[e];simpa using this
  ·have e:(vals.toArray++Ju (fn.ntmps-vals.toArray.size) undef).getD i undef=undef:=by
    simp[Ku,Jv,hi,Array.getElem?_replicate];split<;>simp
   rw[e];have e2:vals.getD (i-0) undef=undef:=by simp[Ko,Kr (Kt hi)]
   rw[e2]at this;exact this
 ·have q':∃Ps s' h',fi.le Ps/\HRel w0 Ps h' w'/\SRel Ps n s' a'/\qcU P w0 rs R e s' h':=by
   rcases q with q|⟨_,Ps,_,q⟩
   ·exact q
   ·rw[hdf.2]at q
    exact q.elim
  obtain⟨Ps,s',h',e1,e2,e3,e4⟩:=q';cases e<;>simp only[qcU]at e4<;>first
   |exact e4.elim
   |skip
  all_goals
   obtain⟨hp,h'',hsub,hR⟩:=e4;have hrs':rs=fn.results.toList:=by rw[hrs]
   rw[hrs']at hp hR;obtain⟨v,f1,f2⟩:=qec e2 e3 fn hp;exact⟨e3.defers.trans hdf.1,v,f1,v,rfl,Ps,_,h'',e1,e2.forget hsub,f2,hR⟩
theorem law_of_acall{P:Program}{f:FuncId}{args:List AVal}{vals:List Value}{w:World}(hv:VRs (fun _=>none) args vals)
 (hc:ACall P w f args (fun _=>none) (fun x _=>x= .bool true)) (hcalls:∃fn,P.funcs[f]?=some fn/\fn.body.isSome=true):
 Calls P f vals.toArray w fun e w'=>e= .returned (.bool true)/\Below w.heap.size w w':=by
 rcases hc _ vals w (HRel.start w) hv with⟨fn,_,_,_,h4⟩|⟨v,w',h1,⟨Ps,x,h',e1,e2,e3,e4⟩⟩
 ·refine h4.mono fun e w' ⟨v,he,Ps,x,h',e1,e2,e3,e4⟩=>?_
  subst he e4;simp only[VR]at e3;subst e3;exact⟨rfl,e2.below⟩
 ·exfalso
  obtain⟨fn,g1,g2⟩:=hcalls;have hb:¬fn.body=none:=fun e=>by rw[e]at g2;cases g2
  simp only[callFunc,Sem.run_bind,run_program,Result.andThen_ok,g1]at h1;split at h1
  ·simp at h1
  ·simp[hb]at h1
end Go.AM
namespace Go.AM
section
variable {P:Program} {w0:World} {ops rest:List Oper} {s:Slots} {h:AHeap} {K:Slots->AHeap->Prop}
theorem QB:Ql P w0 ops [] s h K=K s h:=rfl
theorem qtm{dst:Option Tmp}{op:Op}{ty:TypeId}{pos:String}{af:Array Edge}{j d:Nat}{want:Bool}(hj:nthDst ops j=some d)(hp:Zc P op=true):
 Ql P w0 ops (⟨dst,op,ty,pos,af,some (j,want)⟩::rest) s h K=
  (Wn (s.get d)=true/\(QD (s.get d) want=true->(pop P w0 h s op).pre)/\Ql P w0 ops rest (putD s dst (Qc (QD (s.get d) want) (pop P w0 h s op).val)) h K):=by
 simp only[Ql,hj,hp,if_true]
theorem qbp{dst:Option Tmp}{op:Op}{ty:TypeId}{pos:String}{af:Array Edge}:
 Ql P w0 ops (⟨dst,op,ty,pos,af,none⟩::rest) s h K=eop P w0 h s op fun x h'=>Ql P w0 ops rest (putD s dst x) h' K:=rfl
theorem WK{dst:Option Tmp}{op:Op}{ty:TypeId}{pos:String}{af:Array Edge}(hp:Zc P op=true):
 Ql P w0 ops (⟨dst,op,ty,pos,af,none⟩::rest) s h K=((pop P w0 h s op).pre/\Ql P w0 ops rest (putD s dst (pop P w0 h s op).val) h K):=by
 rw[qbp];exact propext (UR hp)
theorem qjM{dst:Option Tmp}{op:Op}{ty:TypeId}{pos:String}{af:Array Edge}{j d:Nat}{want:Bool}(hj:nthDst ops j=some d)(hp:Zc P op=false)(hk:Wn (s.get d)=true)
 (h1:QD (s.get d) want=true->Ql P w0 ops (⟨dst,op,ty,pos,af,none⟩::rest) s h K) (h2:QD (s.get d) want=false->Ql P w0 ops rest (putD s dst (.tuple [])) h K):
 Ql P w0 ops (⟨dst,op,ty,pos,af,some (j,want)⟩::rest) s h K:=by
 simp only[Ql,hj,hp];exact⟨hk,h1,h2⟩
theorem qE{dst:Option Tmp}{fo:Operand}{args:Array Operand}{ts:Array TypeId}{ty:TypeId}{pos:String}{af:Array Edge}{f:FuncId}{cap xs:List AVal}{R:AVal->AHeap->Prop}
 (hf:ev s fo= .func f cap) (hx:evs s args.toList++cap=xs) (hc:ACall P w0 f xs h R) (hk:∀x h',R x h'->Ql P w0 ops rest (putD s dst x) h' K):
 Ql P w0 ops (⟨dst, .call ⟨.value fo,args,ts⟩,ty,pos,af,none⟩::rest) s h K:=by
 rw[qbp];simp only[eop,hf,hx];exact hc.mono hk
end
theorem qgV(c:Bool)(v w:AVal):YY c (Qc c v) w=YY c v w:=by cases c<;>cases v<;>cases w<;>simp[YY,Qc]
theorem qgU(c:Bool)(v w:AVal):YY c v (Qc (!c) w)=YY c v w:=by cases c<;>cases v<;>cases w<;>simp[YY,Qc]
theorem qkv(c x y:Bool):YY c (.bool x) (.bool y)= .bool (bif c then x else y):=rfl
theorem WH(b:Bool):QD (.bool b) true=b:=by cases b<;>rfl
theorem qdc(b:Bool):QD (.bool b) false= !b:=by cases b<;>rfl
theorem qiZ(g b:Bool)(want:Bool):QD (Qc g (.bool b)) want=(g && QD (.bool b) want):=by cases g<;>cases b<;>cases want<;>rfl
theorem Zy(b:Bool):Wn (.bool b)=true:=rfl
theorem Zw(g b:Bool):Wn (Qc g (.bool b))=true:=by cases g<;>rfl
theorem XH(v:AVal):Qc true v=v:=rfl
theorem Ur(v:AVal):Qc false v= .tuple []:=rfl
theorem wrap_i64{n:Int}(h0: -9223372036854775808<=n)(h1:n<=9223372036854775807):IntKind.i64.wrap n=n:=by
 rw[IntKind.wrap_i64];omega
theorem wrap_u8{n:Int}(h0:0<=n)(h1:n<=255):IntKind.u8.wrap n=n:=by
 unfold IntKind.wrap;simp[IntKind.bits,IntKind.signed];omega
section
variable {P:Program}
theorem pu_move(x:Operand):Zc P (.move x)=true:=rfl
theorem pu_assign(x:Operand):Zc P (.assign x)=true:=rfl
theorem pu_pick(c a b:Operand):Zc P (.pick c a b)=true:=rfl
theorem qoM(o:BinOp)(t:TypeId)(x y:Operand)(u:TypeId):Zc P (.binOp o t x y u)=true:=rfl
theorem pu_unOp(o:UnOp)(t:TypeId)(x:Operand):Zc P (.unOp o t x)=true:=rfl
theorem pu_load(t:TypeId)(x:Operand):Zc P (.load t x)=true:=rfl
theorem qgS(t:TypeId)(x:Operand)(f:Nat):Zc P (.fieldAddr t x f)=true:=rfl
theorem qoK(t:TypeId)(x i:Operand):Zc P (.index t x i)=true:=rfl
theorem qgR(t:TypeId)(x i:Operand):Zc P (.indexAddr t x i)=true:=rfl
theorem pu_slice(t:TypeId)(x:Operand)(a b c:Option Operand):Zc P (.slice t x a b c)=true:=rfl
theorem qrM(x:Operand)(i:Nat):Zc P (.extract x i)=true:=rfl
theorem qiR(x:Operand):Zc P (.nilCheck x)=true:=rfl
theorem qoL(t:TypeId)(p:Array (Nat×Operand)):Zc P (.build t p)=true:=rfl
theorem qoJ(f:Fn)(a b:Array Operand):Zc P (.makeFunc f a b)=true:=rfl
theorem qia(t:TypeId)(x:Operand):Zc P (.makeInterface t x)=true:=rfl
theorem pu_len(a:Array Operand)(t:Array TypeId):Zc P (.call ⟨.builtin .len,a,t⟩)=true:=rfl
theorem pu_min(a:Array Operand)(t:Array TypeId):Zc P (.call ⟨.builtin .min,a,t⟩)=true:=rfl
theorem qkt(s d:TypeId)(x:Operand)(h:(!ZL P s d && !qcP P s d)=true):Zc P (.convert s d x)=true:=h
end
section
variable {P:Program} {w0:World} {ops rest:List Oper} {s:Slots} {h:AHeap} {K:Slots->AHeap->Prop} {dst:Option Tmp} {ty:TypeId} {pos:String} {af:Array Edge}
theorem qc(x:Operand):
 Ql P w0 ops (⟨dst, .move x,ty,pos,af,none⟩::rest) s h K=((pop P w0 h s (.move x)).pre/\Ql P w0 ops rest (putD s dst (pop P w0 h s (.move x)).val) h K):=WK (pu_move x)
theorem qa(x:Operand):
 Ql P w0 ops (⟨dst, .assign x,ty,pos,af,none⟩::rest) s h K=((pop P w0 h s (.assign x)).pre/\Ql P w0 ops rest (putD s dst (pop P w0 h s (.assign x)).val) h K):=WK (pu_assign x)
theorem Qd(c a b:Operand):
 Ql P w0 ops (⟨dst, .pick c a b,ty,pos,af,none⟩::rest) s h K=((pop P w0 h s (.pick c a b)).pre/\Ql P w0 ops rest (putD s dst (pop P w0 h s (.pick c a b)).val) h K):=WK (pu_pick c a b)
theorem qd(o:BinOp)(t:TypeId)(x y:Operand)(u:TypeId):
 Ql P w0 ops (⟨dst, .binOp o t x y u,ty,pos,af,none⟩::rest) s h K=((pop P w0 h s (.binOp o t x y u)).pre/\Ql P w0 ops rest (putD s dst (pop P w0 h s (.binOp o t x y u)).val) h K):=WK (qoM o t x y u)
theorem qdf(o:UnOp)(t:TypeId)(x:Operand):
 Ql P w0 ops (⟨dst, .unOp o t x,ty,pos,af,none⟩::rest) s h K=((pop P w0 h s (.unOp o t x)).pre/\Ql P w0 ops rest (putD s dst (pop P w0 h s (.unOp o t x)).val) h K):=WK (pu_unOp o t x)
theorem ap_load(t:TypeId)(x:Operand):
 Ql P w0 ops (⟨dst, .load t x,ty,pos,af,none⟩::rest) s h K=((pop P w0 h s (.load t x)).pre/\Ql P w0 ops rest (putD s dst (pop P w0 h s (.load t x)).val) h K):=WK (pu_load t x)
theorem qh(t:TypeId)(x:Operand)(f:Nat):
 Ql P w0 ops (⟨dst, .fieldAddr t x f,ty,pos,af,none⟩::rest) s h K=((pop P w0 h s (.fieldAddr t x f)).pre/\Ql P w0 ops rest (putD s dst (pop P w0 h s (.fieldAddr t x f)).val) h K):=WK (qgS t x f)
theorem qhI(t:TypeId)(x i:Operand):
 Ql P w0 ops (⟨dst, .index t x i,ty,pos,af,none⟩::rest) s h K=((pop P w0 h s (.index t x i)).pre/\Ql P w0 ops rest (putD s dst (pop P w0 h s (.index t x i)).val) h K):=WK (qoK t x i)
theorem qoi(t:TypeId)(x i:Operand):
 Ql P w0 ops (⟨dst, .indexAddr t x i,ty,pos,af,none⟩::rest) s h K=((pop P w0 h s (.indexAddr t x i)).pre/\Ql P w0 ops rest (putD s dst (pop P w0 h s (.indexAddr t x i)).val) h K):=WK (qgR t x i)
theorem qbJ(t:TypeId)(x:Operand)(a b c:Option Operand):
 Ql P w0 ops (⟨dst, .slice t x a b c,ty,pos,af,none⟩::rest) s h K=((pop P w0 h s (.slice t x a b c)).pre/\Ql P w0 ops rest (putD s dst (pop P w0 h s (.slice t x a b c)).val) h K):=WK (pu_slice t x a b c)
theorem Xa(x:Operand)(i:Nat):
 Ql P w0 ops (⟨dst, .extract x i,ty,pos,af,none⟩::rest) s h K=((pop P w0 h s (.extract x i)).pre/\Ql P w0 ops rest (putD s dst (pop P w0 h s (.extract x i)).val) h K):=WK (qrM x i)
theorem Qf(x:Operand):
 Ql P w0 ops (⟨dst, .nilCheck x,ty,pos,af,none⟩::rest) s h K=((pop P w0 h s (.nilCheck x)).pre/\Ql P w0 ops rest (putD s dst (pop P w0 h s (.nilCheck x)).val) h K):=WK (qiR x)
theorem XO(t:TypeId)(p:Array (Nat×Operand)):
 Ql P w0 ops (⟨dst, .build t p,ty,pos,af,none⟩::rest) s h K=((pop P w0 h s (.build t p)).pre/\Ql P w0 ops rest (putD s dst (pop P w0 h s (.build t p)).val) h K):=WK (qoL t p)
theorem qrd(f:Fn)(a b:Array Operand):
 Ql P w0 ops (⟨dst, .makeFunc f a b,ty,pos,af,none⟩::rest) s h K=((pop P w0 h s (.makeFunc f a b)).pre/\Ql P w0 ops rest (putD s dst (pop P w0 h s (.makeFunc f a b)).val) h K):=WK (qoJ f a b)
theorem qdR(t:TypeId)(x:Operand):
 Ql P w0 ops (⟨dst, .makeInterface t x,ty,pos,af,none⟩::rest) s h K=((pop P w0 h s (.makeInterface t x)).pre/\Ql P w0 ops rest (putD s dst (pop P w0 h s (.makeInterface t x)).val) h K):=WK (qia t x)
theorem Qi(a:Array Operand)(t:Array TypeId):
 Ql P w0 ops (⟨dst, .call ⟨.builtin .len,a,t⟩,ty,pos,af,none⟩::rest) s h K=((pop P w0 h s (.call ⟨.builtin .len,a,t⟩)).pre/\Ql P w0 ops rest (putD s dst (pop P w0 h s (.call ⟨.builtin .len,a,t⟩)).val) h K):=WK (pu_len a t)
theorem ap_min(a:Array Operand)(t:Array TypeId):
 Ql P w0 ops (⟨dst, .call ⟨.builtin .min,a,t⟩,ty,pos,af,none⟩::rest) s h K=((pop P w0 h s (.call ⟨.builtin .min,a,t⟩)).pre/\Ql P w0 ops rest (putD s dst (pop P w0 h s (.call ⟨.builtin .min,a,t⟩)).val) h K):=WK (pu_min a t)
end
def qmr(c a b:AVal):PR:=
 match c with
 | .bool c=>⟨True,YY c a b⟩
 |_=> .no
def qaG(P:Program)(op:BinOp)(t:TypeId)(x y:AVal):PR:=
 match x,y with
 | .agg xs, .agg ys=>qbS P op t (.agg xs) (.agg ys)
 |a,b=>qoY P op t a b
def pExt(x:AVal)(i:Nat):PR:=
 match x with
 | .tuple vs=>⟨i<vs.length,vs.getD i .dead⟩
 |_=> .no
def qrS(x:AVal):PR:=
 match x with
 | .ptr l o=>⟨True, .ptr l o⟩
 | .func f c=>⟨True, .func f c⟩
 |_=> .no
def YH(P:Program)(t:TypeId)(ps:List (Nat×AVal)):PR:=
 match qoc P t ps with
 |some cs=>⟨True, .agg cs⟩
 |none=> .no
section
variable {P:Program} {w0:World} {h:AHeap} {s:Slots}
theorem qcE(x:Operand):pop P w0 h s (.move x)=⟨True,ev s x⟩:=rfl
theorem QO(x:Operand):pop P w0 h s (.assign x)=⟨True,ev s x⟩:=rfl
theorem qoN(c a b:Operand):pop P w0 h s (.pick c a b)=qmr (ev s c) (ev s a) (ev s b):=rfl
theorem Za(o:BinOp)(t:TypeId)(x y:Operand)(u:TypeId):pop P w0 h s (.binOp o t x y u)=bif qeo y then qgt P o t (ev s x)else qaG P o t (ev s x) (ev s y):=rfl
theorem qj(j:Nat):qeo (.tmp j)=false:=rfl
theorem qK(k:IntKind)(n:Int):qeo (.const (.int k n))=false:=rfl
theorem Xn(b:ByteArray):qeo (.const (.string b))=false:=rfl
theorem qen(a:Option Addr)(n c:Nat):qeo (.const (.slice a n c))=false:=rfl
theorem qsu:qeo (.const .nilIface)=true:=rfl
theorem qrV{t:TypeId}{m:Array (String×TypeId)}(ht:P.underlying t=some (.interface m))(te:TypeId)(x:AVal):qgt P .neq t (.iface te x)=⟨True, .bool true⟩:=by simp[qgt,ht]
theorem Zf(o:UnOp)(t:TypeId)(x:Operand):pop P w0 h s (.unOp o t x)=pUn o (ev s x):=rfl
theorem XM(a b:TypeId)(x:Operand):pop P w0 h s (.convert a b x)=qdC P w0 h a b (ev s x):=rfl
theorem ZJ(t:TypeId)(x:Operand):pop P w0 h s (.load t x)=Yt P w0 h t (ev s x):=rfl
theorem qY(t:TypeId)(x:Operand)(f:Nat):pop P w0 h s (.fieldAddr t x f)=QA P t (ev s x) f:=rfl
theorem qfE(t:TypeId)(x i:Operand):pop P w0 h s (.index t x i)=qcG P t (ev s x) (ev s i):=rfl
theorem XZ(t:TypeId)(x i:Operand):pop P w0 h s (.indexAddr t x i)=Xd P t (ev s x) (ev s i):=rfl
theorem qal(t:TypeId)(x:Operand)(a b c:Option Operand):pop P w0 h s (.slice t x a b c)=Wm P t (ev s x) (evO s a) (evO s b) (evO s c):=rfl
theorem QR(x:Operand)(i:Nat):pop P w0 h s (.extract x i)=pExt (ev s x) i:=rfl
theorem qgT(x:Operand):pop P w0 h s (.nilCheck x)=qrS (ev s x):=rfl
theorem qnp(f:FuncId)(a c:List Operand):pop P w0 h s (.makeFunc (.func f) a.toArray c.toArray)=⟨a=[], .func f (evs s c)⟩:=rfl
theorem qcZ(t:TypeId)(x:Operand):pop P w0 h s (.makeInterface t x)=⟨P.concrete t=true, .iface t (ev s x)⟩:=rfl
theorem Qh(x:Operand)(t:TypeId)(ts:List TypeId):pop P w0 h s (.call ⟨.builtin .len,[x].toArray,(t::ts).toArray⟩)=Zl P h t (ev s x):=rfl
theorem qrP(t:TypeId)(x i:Operand)(ok:Bool):pop P w0 h s (.lookup t x i ok)=qaF P h t (ev s x) (ev s i) ok:=rfl
theorem pop_min(a:List Operand)(t:Array TypeId):pop P w0 h s (.call ⟨.builtin .min,a.toArray,t⟩)=pMin (evs s a):=rfl
end
section
variable {P:Program}
theorem qky(c:Bool)(a b:AVal):qmr (.bool c) a b=⟨True,YY c a b⟩:=rfl
def qdB(op:BinOp)(k:IntKind)(a b:Int):PR:=
 match op with
 | .shl=>⟨0<=b, .int k (k.wrap (a*2^(min b.toNat k.bits)))⟩
 | .shr=>⟨0<=b, .int k (a.fdiv (2^(min b.toNat k.bits)))⟩
 |op=>pInt op k a b
theorem QH(op:BinOp)(t:TypeId)(k:IntKind)(a b:Int):qaG P op t (.int k a) (.int k b)=qdB op k a b:=by
 cases op<;>simp[qaG,qoY,qdB]
theorem qmu(t:TypeId)(k k':IntKind)(a b:Int):qaG P .shr t (.int k a) (.int k' b)=⟨0<=b, .int k (a.fdiv (2^(min b.toNat k.bits)))⟩:=rfl
theorem Qs(op:BinOp)(t:TypeId)(a b:List UInt8):qaG P op t (.str a) (.str b)=qrR op a b:=rfl
theorem qbi(op:BinOp)(t:TypeId)(a b:List AVal):qaG P op t (.agg a) (.agg b)=qbS P op t (.agg a) (.agg b):=rfl
theorem pBinX_beq(t:TypeId)(a b:Bool):qaG P .eql t (.bool a) (.bool b)=match P.underlying t with|some .bool=>⟨True, .bool (a==b)⟩|_=> .no:=rfl
theorem XJ(k:IntKind)(a b:Int):qdB .add k a b=⟨True, .int k (k.wrap (a+b))⟩:=rfl
theorem WW(k:IntKind)(a b:Int):qdB .sub k a b=⟨True, .int k (k.wrap (a-b))⟩:=rfl
theorem qgu(k:IntKind)(a b:Int):qdB .mul k a b=⟨True, .int k (k.wrap (a*b))⟩:=rfl
theorem qig(k:IntKind)(a b:Int):qdB .quo k a b=⟨b≠0, .int k (k.wrap (a.tdiv b))⟩:=rfl
theorem qad(k:IntKind)(a b:Int):qdB .rem k a b=⟨b≠0, .int k (a.tmod b)⟩:=rfl
theorem XA(k:IntKind)(a b:Int):qdB .eql k a b=⟨True, .bool (decide (a=b))⟩:=rfl
theorem WY(k:IntKind)(a b:Int):qdB .neq k a b=⟨True, .bool (!decide (a=b))⟩:=rfl
theorem QY(k:IntKind)(a b:Int):qdB .lss k a b=⟨True, .bool (decide (a<b))⟩:=rfl
theorem qrW(k:IntKind)(a b:Int):qdB .leq k a b=⟨True, .bool (decide (a<=b))⟩:=rfl
theorem YG(k:IntKind)(a b:Int):qdB .gtr k a b=⟨True, .bool (decide (b<a))⟩:=rfl
theorem qrY(k:IntKind)(a b:Int):qdB .geq k a b=⟨True, .bool (decide (b<=a))⟩:=rfl
theorem ZO(a b:List UInt8):qrR .add a b=⟨a.length+b.length<9223372036854775808, .str (a++b)⟩:=rfl
theorem Zd(a b:List UInt8):qrR .eql a b=⟨True, .bool (decide (a=b))⟩:=rfl
theorem qac(a b:List UInt8):qrR .neq a b=⟨True, .bool (!decide (a=b))⟩:=rfl
theorem pS_leq(a b:List UInt8):qrR .leq a b=⟨True, .bool (Op.bytesLess a b||decide (a=b))⟩:=rfl
theorem YF(b:Bool):pUn .not (.bool b)=⟨True, .bool (!b)⟩:=rfl
theorem Xe(vs:List AVal)(i:Nat):pExt (.tuple vs) i=⟨i<vs.length,vs.getD i .dead⟩:=rfl
theorem qoS(l:Loc)(o:Nat):qrS (.ptr l o)=⟨True, .ptr l o⟩:=rfl
theorem qms(f:FuncId)(c:List AVal):qrS (.func f c)=⟨True, .func f c⟩:=rfl
variable {w0:World} {h:AHeap}
theorem ZA{t u:TypeId}{d:TypeDesc}{k:IntKind}(ht:P.underlying t=some d)(hu:P.underlying u=some (.int k))(k':IntKind)(n:Int):qdC P w0 h t u (.int k' n)=⟨True, .int k (k.wrap n)⟩:=by
 simp only[qdC,ht,hu]
theorem qoW{t u e:TypeId}(ht:P.underlying t=some (.slice e))(hu:P.underlying u=some .string)(he:P.underlying e=some (.int .u8))(l:Loc)(o len:Nat)(c:Cap):
 qdC P w0 h t u (.slice l o len c)=⟨(cellsAt w0 h l o len).all AVal.isU8=true, .str ((cellsAt w0 h l o len).map AVal.byte)⟩:=by
 simp only[qdC,ht,hu,he]
theorem qeh{t:TypeId}(ht:P.underlying t=some .string)(s:List UInt8)(k:IntKind)(n:Int):qcG P t (.str s) (.int k n)=⟨0<=n/\n<s.length, .int .u8 (s.getD n.toNat 0).toNat⟩:=by
 simp only[qcG,ht]
theorem qg{t e:TypeId}{es:Nat}(ht:P.underlying t=some (.slice e))(hs:ZI P e=some es)(l:Loc)(o len:Nat)(c:Cap)(k:IntKind)(n:Int):
 Xd P t (.slice l o len c) (.int k n)=⟨0<=n/\n<len, .ptr l (o+n.toNat*es)⟩:=by
 simp only[Xd,ht,hs]
theorem qf{t:TypeId}(ha:YV P t=some false)(l:Loc)(o:Nat):Yt P w0 h t (.ptr l o)=⟨(rd w0 h l o).live=true,rd w0 h l o⟩:=by
 simp only[Yt,ha]
theorem Qa{t:TypeId}{n:Nat}(ha:YV P t=some true)(hn:ZI P t=some n)(l:Loc)(o:Nat):Yt P w0 h t (.ptr l o)=⟨allLive (cellsAt w0 h l o n)=true, .agg (cellsAt w0 h l o n)⟩:=by
 simp only[Yt,ha,hn]
theorem pLen_str{h:AHeap}{t:TypeId}(ht:P.underlying t=some .string)(s:List UInt8):Zl P h t (.str s)=⟨True, .int .i64 s.length⟩:=by
 simp only[Zl,qcf,qny,ht,cond_false]
theorem QV{t e:TypeId}(ht:P.underlying t=some (.slice e)){h:AHeap}(l:Loc)(o n:Nat)(c:Cap):Zl P h t (.slice l o n c)=⟨True, .int .i64 n⟩:=by
 simp only[Zl,qcf,qny,ht,cond_false]
theorem qoV{t e:TypeId}(ht:P.underlying t=some (.slice e)){h:AHeap}:Zl P h t .nilSlice=⟨True, .int .i64 0⟩:=by
 simp only[Zl,qcf,qny,ht,cond_false]
theorem pMin_int(k k':IntKind)(a b:Int):pMin [.int k a, .int k' b]=⟨True, .int k (min a b)⟩:=rfl
end
section
variable {P:Program} {w0:World} {h:AHeap}
theorem cv_cv(g:Bool)(v:AVal):Qc g (Qc g v)=Qc g v:=by cases g<;>rfl
theorem qby(g:Bool)(c a b:AVal):Qc g (qmr (Qc g c) a b).val=Qc g (qmr c a b).val:=by cases g<;>rfl
theorem qbz(g:Bool)(c a b:AVal):(g=true->(qmr (Qc g c) a b).pre)=(g=true->(qmr c a b).pre):=by cases g<;>simp[Qc]
theorem cv_binl(o:BinOp)(t:TypeId)(g:Bool)(x y:AVal):Qc g (qaG P o t (Qc g x) y).val=Qc g (qaG P o t x y).val:=by cases g<;>rfl
theorem cv_binr(o:BinOp)(t:TypeId)(g:Bool)(x y:AVal):Qc g (qaG P o t x (Qc g y)).val=Qc g (qaG P o t x y).val:=by cases g<;>rfl
theorem cp_binl(o:BinOp)(t:TypeId)(g:Bool)(x y:AVal):(g=true->(qaG P o t (Qc g x) y).pre)=(g=true->(qaG P o t x y).pre):=by cases g<;>simp[Qc]
theorem cp_binr(o:BinOp)(t:TypeId)(g:Bool)(x y:AVal):(g=true->(qaG P o t x (Qc g y)).pre)=(g=true->(qaG P o t x y).pre):=by cases g<;>simp[Qc]
theorem qjj(o:UnOp)(g:Bool)(x:AVal):Qc g (pUn o (Qc g x)).val=Qc g (pUn o x).val:=by cases g<;>rfl
theorem qjk(o:UnOp)(g:Bool)(x:AVal):(g=true->(pUn o (Qc g x)).pre)=(g=true->(pUn o x).pre):=by cases g<;>simp[Qc]
theorem cv_load(t:TypeId)(g:Bool)(x:AVal):Qc g (Yt P w0 h t (Qc g x)).val=Qc g (Yt P w0 h t x).val:=by cases g<;>rfl
theorem cp_load(t:TypeId)(g:Bool)(x:AVal):(g=true->(Yt P w0 h t (Qc g x)).pre)=(g=true->(Yt P w0 h t x).pre):=by cases g<;>simp[Qc]
theorem qhu(t:TypeId)(f:Nat)(g:Bool)(x:AVal):Qc g (QA P t (Qc g x) f).val=Qc g (QA P t x f).val:=by cases g<;>rfl
theorem qhv(t:TypeId)(f:Nat)(g:Bool)(x:AVal):(g=true->(QA P t (Qc g x) f).pre)=(g=true->(QA P t x f).pre):=by cases g<;>simp[Qc]
theorem cv_indexl(t:TypeId)(g:Bool)(x y:AVal):Qc g (qcG P t (Qc g x) y).val=Qc g (qcG P t x y).val:=by cases g<;>rfl
theorem cp_indexl(t:TypeId)(g:Bool)(x y:AVal):(g=true->(qcG P t (Qc g x) y).pre)=(g=true->(qcG P t x y).pre):=by cases g<;>simp[Qc]
theorem cv_iaddrl(t:TypeId)(g:Bool)(x y:AVal):Qc g (Xd P t (Qc g x) y).val=Qc g (Xd P t x y).val:=by cases g<;>rfl
theorem cv_iaddrr(t:TypeId)(g:Bool)(x y:AVal):Qc g (Xd P t x (Qc g y)).val=Qc g (Xd P t x y).val:=by cases g<;>rfl
theorem cp_iaddrl(t:TypeId)(g:Bool)(x y:AVal):(g=true->(Xd P t (Qc g x) y).pre)=(g=true->(Xd P t x y).pre):=by cases g<;>simp[Qc]
theorem cp_iaddrr(t:TypeId)(g:Bool)(x y:AVal):(g=true->(Xd P t x (Qc g y)).pre)=(g=true->(Xd P t x y).pre):=by cases g<;>simp[Qc]
theorem cv_nil(g:Bool)(x:AVal):Qc g (qrS (Qc g x)).val=Qc g (qrS x).val:=by cases g<;>rfl
theorem cp_nil(g:Bool)(x:AVal):(g=true->(qrS (Qc g x)).pre)=(g=true->(qrS x).pre):=by cases g<;>simp[Qc]
theorem qfl{h:AHeap}(t:TypeId)(g:Bool)(x:AVal):Qc g (Zl P h t (Qc g x)).val=Qc g (Zl P h t x).val:=by cases g<;>rfl
theorem qfm{h:AHeap}(t:TypeId)(g:Bool)(x:AVal):(g=true->(Zl P h t (Qc g x)).pre)=(g=true->(Zl P h t x).pre):=by cases g<;>simp[Qc]
theorem qmm(c x:Bool):YY c (.bool x) (.bool false)= .bool (c && x):=by cases c<;>rfl
theorem qoO(c x:Bool):YY c (.bool true) (.bool x)= .bool (c||x):=by cases c<;>rfl
end
section
variable {P:Program} {w0:World} {ops rest:List Oper} {s:Slots} {h:AHeap} {K:Slots->AHeap->Prop} {dst:Option Tmp} {ty:TypeId} {pos:String} {af:Array Edge}
def gv(s:Slots)(ops:List Oper)(j:Nat):AVal:=match nthDst ops j with|some d=>s.get d|none=> .dead
def agP(P:Program)(w0:World)(ops rest:List Oper)(s:Slots)(h:AHeap)(K:Slots->AHeap->Prop)(dst:Option Tmp)(g:AVal)(want:Bool)(r:PR):Prop:=
 Wn g=true/\(QD g want=true->r.pre)/\Ql P w0 ops rest (putD s dst (Qc (QD g want) r.val)) h K
def agQ(P:Program)(w0:World)(ops rest:List Oper)(s:Slots)(h:AHeap)(K:Slots->AHeap->Prop)(dst:Option Tmp)(want:Bool)(r:PR):Option Tmp->Prop
 |none=>Ql P w0 ops rest (putD s dst (.tuple [])) h K
 |some d=>agP P w0 ops rest s h K dst (s.get d) want r
theorem qre{want:Bool}{r:PR}{d:Tmp}:agQ P w0 ops rest s h K dst want r (some d)=agP P w0 ops rest s h K dst (s.get d) want r:=rfl
theorem agE{op:Op}{j:Nat}{want:Bool}(hp:Zc P op=true):
 Ql P w0 ops (⟨dst,op,ty,pos,af,some (j,want)⟩::rest) s h K=agQ P w0 ops rest s h K dst want (pop P w0 h s op) (nthDst ops j):=by
 cases hd:nthDst ops j with
 |none=>simp only[Ql,hd,agQ]
 |some d=>rw[qtm hd hp];rfl
theorem Qy(x:Operand){j:Nat}{want:Bool}:
 Ql P w0 ops (⟨dst, .move x,ty,pos,af,some (j,want)⟩::rest) s h K=agQ P w0 ops rest s h K dst want (pop P w0 h s (.move x)) (nthDst ops j):=agE (pu_move x)
theorem UE(c a b:Operand){j:Nat}{want:Bool}:
 Ql P w0 ops (⟨dst, .pick c a b,ty,pos,af,some (j,want)⟩::rest) s h K=agQ P w0 ops rest s h K dst want (pop P w0 h s (.pick c a b)) (nthDst ops j):=agE (pu_pick c a b)
theorem Qn(o:BinOp)(t:TypeId)(x y:Operand)(u:TypeId){j:Nat}{want:Bool}:
 Ql P w0 ops (⟨dst, .binOp o t x y u,ty,pos,af,some (j,want)⟩::rest) s h K=agQ P w0 ops rest s h K dst want (pop P w0 h s (.binOp o t x y u)) (nthDst ops j):=agE (qoM o t x y u)
theorem Uc(o:UnOp)(t:TypeId)(x:Operand){j:Nat}{want:Bool}:
 Ql P w0 ops (⟨dst, .unOp o t x,ty,pos,af,some (j,want)⟩::rest) s h K=agQ P w0 ops rest s h K dst want (pop P w0 h s (.unOp o t x)) (nthDst ops j):=agE (pu_unOp o t x)
theorem ag_load(t:TypeId)(x:Operand){j:Nat}{want:Bool}:
 Ql P w0 ops (⟨dst, .load t x,ty,pos,af,some (j,want)⟩::rest) s h K=agQ P w0 ops rest s h K dst want (pop P w0 h s (.load t x)) (nthDst ops j):=agE (pu_load t x)
theorem QM(t:TypeId)(x:Operand)(f:Nat){j:Nat}{want:Bool}:
 Ql P w0 ops (⟨dst, .fieldAddr t x f,ty,pos,af,some (j,want)⟩::rest) s h K=agQ P w0 ops rest s h K dst want (pop P w0 h s (.fieldAddr t x f)) (nthDst ops j):=agE (qgS t x f)
theorem ag_index(t:TypeId)(x i:Operand){j:Nat}{want:Bool}:
 Ql P w0 ops (⟨dst, .index t x i,ty,pos,af,some (j,want)⟩::rest) s h K=agQ P w0 ops rest s h K dst want (pop P w0 h s (.index t x i)) (nthDst ops j):=agE (qoK t x i)
theorem qoj(t:TypeId)(x i:Operand){j:Nat}{want:Bool}:
 Ql P w0 ops (⟨dst, .indexAddr t x i,ty,pos,af,some (j,want)⟩::rest) s h K=agQ P w0 ops rest s h K dst want (pop P w0 h s (.indexAddr t x i)) (nthDst ops j):=agE (qgR t x i)
theorem qdg(x:Operand){j:Nat}{want:Bool}:
 Ql P w0 ops (⟨dst, .nilCheck x,ty,pos,af,some (j,want)⟩::rest) s h K=agQ P w0 ops rest s h K dst want (pop P w0 h s (.nilCheck x)) (nthDst ops j):=agE (qiR x)
theorem qlp(t:TypeId)(p:Array (Nat×Operand)){j:Nat}{want:Bool}:
 Ql P w0 ops (⟨dst, .build t p,ty,pos,af,some (j,want)⟩::rest) s h K=agQ P w0 ops rest s h K dst want (pop P w0 h s (.build t p)) (nthDst ops j):=agE (qoL t p)
theorem qbW(a:Array Operand)(t:Array TypeId){j:Nat}{want:Bool}:
 Ql P w0 ops (⟨dst, .call ⟨.builtin .len,a,t⟩,ty,pos,af,some (j,want)⟩::rest) s h K=agQ P w0 ops rest s h K dst want (pop P w0 h s (.call ⟨.builtin .len,a,t⟩)) (nthDst ops j):=agE (pu_len a t)
theorem We{fo:Operand}{args:Array Operand}{ts:Array TypeId}{j:Nat}{want:Bool}{f:FuncId}{cap xs:List AVal}{V:AVal}(hk:Wn (gv s ops j)=true)
 (hf:QD (gv s ops j) want=true->ev s fo= .func f cap/\evs s args.toList++cap=xs) (hc:QD (gv s ops j) want=true->ACall P w0 f xs h (fun x h'=>x=V/\h'=h))
 (hr:Ql P w0 ops rest (putD s dst (Qc (QD (gv s ops j) want) V)) h K):
 Ql P w0 ops (⟨dst, .call ⟨.value fo,args,ts⟩,ty,pos,af,some (j,want)⟩::rest) s h K:=by
 unfold gv at hk hf hc hr;cases hj:nthDst ops j with
 |none=>rw[hj]at hk;cases hk
 |some d=>
  simp only[hj]at hk hf hc hr;refine qjM hj rfl hk (fun hb=>?_) (fun hb=>?_)
  ·refine qE (hf hb).1 (hf hb).2 (hc hb) fun x h' ⟨e1,e2⟩=>?_
   subst e1 e2;simpa[hb,Qc]using hr
  ·simpa[hb,Qc]using hr
end
section
variable {P:Program} {w0:World} {n:FrameK} {s:Slots} {h:AHeap} {Q:Exit->Slots->AHeap->Prop}
theorem keep_get(s:Slots)(L:List Nat)(i:Nat):(s.keep L).get i=s.get i\/(s.keep L).get i= .dead:=by
 rw[Slots.get_keep];split
 ·exact .inl rfl
 ·exact .inr rfl
def Sub(h' h:AHeap):Prop:=∀k b,h' k=some b->h k=some b
theorem Sub.refl(h:AHeap):Sub h h:=fun _ _ e=>e
theorem Sub.trans{a b c:AHeap}(x:Sub a b)(y:Sub b c):Sub a c:=fun k v e=>y k v (x k v e)
theorem Sub.set{h:AHeap}{k:Nat}{b:Blk}(hk:h k=none):Sub h (h.set k b):=fun j c e=>by
 by_cases ej:j=k
 ·subst ej;rw[hk]at e;cases e
 ·rw[AHeap.set_ne _ _ ej];exact e
theorem Sub.trans_set{h' h:AHeap}{k:Nat}{b:Blk}(hs:Sub h' h)(hk:h' k=none):Sub h' (h.set k b):=fun j c e=>by
 by_cases ej:j=k
 ·subst ej;rw[hk]at e;cases e
 ·rw[AHeap.set_ne _ _ ej];exact hs j c e
theorem Sub.none{h' h:AHeap}(hs:Sub h' h){k:Nat}(hk:h k=none):h' k=none:=by
 cases e:h' k with
 |none=>rfl
 |some b=>rw[hs k b e]at hk;cases hk
theorem Qj{γ:Type}{c:Code}(L:List Nat)(S:γ->Slots)(H:γ->AHeap)(I:γ->Prop)(m:γ->Nat)(g₀:γ)(hs:s.keep L=S g₀)(hh:Sub (H g₀) h)(hi:I g₀)
 (round:∀g,I g->Awp P w0 n c (qeH (fun s' h'=>∃g',s'.keep L=S g'/\Sub (H g') h'/\I g'/\m g'<m g) Q) (S g) (H g)):Awp P w0 n (.loop c) Q s h:=by
 refine Awp.keep L ?_;rw[hs];refine Awp.forget hh ?_;refine awp_loop (fun s h=>∃g,s=S g/\(∃h',h=h'/\Sub (H g) h')/\I g) (fun s h=>leastOf fun k=>∃g,s=S g/\Sub (H g) h/\I g/\m g=k) ⟨g₀,rfl,⟨_,rfl,Sub.refl _⟩,hi⟩ fun s1 h1 hI=>?_;obtain⟨g1,e1,⟨_,e2,e2'⟩,e3⟩:=hI;subst e2;obtain⟨⟨g,f1,f2,f3,f4⟩,_⟩:=leastOf_spec (p:=fun k=>∃g,s1=S g/\Sub (H g) h1/\I g/\m g=k) ⟨_,g1,e1,e2',e3,rfl⟩;subst f1;refine Awp.forget f2 ((round g f3).mono fun e s' h' hq=>?_);cases e<;>simp only[qeH]at hq|- <;>first
  |exact hq
  |skip
 obtain⟨g',q1,q2,q3,q4⟩:=hq;refine⟨s'.keep L,fun i=>keep_get s' L i,⟨g',q1,⟨_,rfl,q2⟩,q3⟩,?_⟩;have:=(leastOf_spec (p:=fun k=>∃g,s'.keep L=S g/\Sub (H g) h'/\I g/\m g=k) ⟨_,g',q1,q2,q3,rfl⟩).2 _ ⟨g',q1,q2,q3,rfl⟩;omega
theorem QG{rs:List ResultVar}{R:AVal->AHeap->Prop}(h':AHeap)(hs:Sub h' h)(hp:WV P w0 s h rs)(hr:R (qbY P w0 s h rs) h'):qcU P w0 rs R .ret s h:=⟨hp,h',hs,hr⟩
theorem qA{t:Nat}{rs:List ResultVar}(hp:WV P w0 s h rs):WV P w0 s h (.tmp t::rs):=⟨trivial,hp⟩
theorem qC:WV P w0 s h []:=trivial
theorem Yz(t:Nat):qbY P w0 s h [.tmp t]=s.get t:=rfl
theorem Zz(t u:Nat):qbY P w0 s h [.tmp t, .tmp u]= .tuple [s.get t,s.get u]:=rfl
theorem qfD:qbY P w0 s h []= .tuple []:=rfl
theorem QC{ops rest:List Oper}{K:Slots->AHeap->Prop}{dst:Option Tmp}{fo:Operand}{args:Array Operand}{ts:Array TypeId}{ty:TypeId}{pos:String}{af:Array Edge}{f:FuncId}{cap xs:List AVal}{V:AVal}
 (hf:ev s fo= .func f cap) (hx:evs s args.toList++cap=xs) (hc:ACall P w0 f xs h (fun x h'=>x=V/\h'=h)) (hk:Ql P w0 ops rest (putD s dst V) h K):
 Ql P w0 ops (⟨dst, .call ⟨.value fo,args,ts⟩,ty,pos,af,none⟩::rest) s h K:=
 qE hf hx hc fun x h' ⟨e1,e2⟩=>by subst e1 e2;exact hk
end
theorem es_to{P:Program}{t u:TypeId}{d:TypeDesc}(hu:P.underlying u=some d)(hd:∀e,d≠ .slice e):(!ZL P t u && !qcP P t u)=true:=by
 have e1:ZL P t u=false:=by
  unfold ZL;split
  ·rename_i e _ h;rw[hu]at h;exact absurd (Option.some.inj h) (hd e)
  ·rfl
 have e2:qcP P t u=false:=by
  unfold qcP;by_cases htu:t=u
  ·subst htu
   split
   ·rename_i e h;rw[hu]at h;exact absurd (Option.some.inj h) (hd e)
   ·simp
  ·simp[htu]
 rw[e1,e2];rfl
theorem Uo{P:Program}{t u:TypeId}{d:TypeDesc}{k:IntKind}(_:P.underlying t=some d)(hu:P.underlying u=some (.int k)):(!ZL P t u && !qcP P t u)=true:=es_to hu (fun _=>by simp)
theorem es_str{P:Program}{t u:TypeId}{d:TypeDesc}(_:P.underlying t=some d)(hu:P.underlying u=some .string):(!ZL P t u && !qcP P t u)=true:=es_to hu (fun _=>by simp)
section
variable {P:Program} {w0:World} {ops rest:List Oper} {s:Slots} {h:AHeap} {K:Slots->AHeap->Prop} {dst:Option Tmp} {ty:TypeId} {pos:String} {af:Array Edge}
theorem ZZ(t u:TypeId)(x:Operand)(hs:(!ZL P t u && !qcP P t u)=true):
 Ql P w0 ops (⟨dst, .convert t u x,ty,pos,af,none⟩::rest) s h K=((pop P w0 h s (.convert t u x)).pre/\Ql P w0 ops rest (putD s dst (pop P w0 h s (.convert t u x)).val) h K):=WK (qkt t u x hs)
theorem qlo(t u:TypeId)(x:Operand)(hs:(!ZL P t u && !qcP P t u)=true){j:Nat}{want:Bool}:
 Ql P w0 ops (⟨dst, .convert t u x,ty,pos,af,some (j,want)⟩::rest) s h K=agQ P w0 ops rest s h K dst want (pop P w0 h s (.convert t u x)) (nthDst ops j):=agE (qkt t u x hs)
end
section
variable {K:Slots->AHeap->Prop} {Q:Exit->Slots->AHeap->Prop} {s:Slots} {h:AHeap}
theorem qme:qeH K Q .ret s h=Q .ret s h:=rfl
theorem qcb:qeH K Q .normal s h=K s h:=rfl
theorem qeL(i:Nat):qdG i Q .normal s h=Q .normal s h:=rfl
theorem qhj(i:Nat):qdG i Q .ret s h=Q .ret s h:=rfl
end
inductive IsB(w0:World)(h:AHeap):AVal->List UInt8->Prop
 |nil:IsB w0 h .nilSlice []
 |mk (l:Loc) (o n:Nat) (c:Cap) (bs:List UInt8) (hn:n=bs.length) (hc:cellsAt w0 h l o n=byteCells bs) (hcap:match c with| .exact c=>n<=c| .grow g=>g=1):IsB w0 h (.slice l o n c) bs
theorem qbF(w0:World)(h:AHeap)(l:Loc):∀(n o i:Nat),i<n->(cellsAt w0 h l o n)[i]?=some (rd w0 h l (o+i))
 |n+1,o,0,_=>by simp[cellsAt]
 |n+1,o,i+1,hi=>by
  simp only[cellsAt,KM];rw[qbF w0 h l n (o+1) i (by omega)];congr 2;omega
theorem qjm{w0:World}{h:AHeap}{k:Nat}{b:Blk}(hk:h k=some b)(o n:Nat)(hn:o+n<=b.cells.length):cellsAt w0 h (.own k) o n=(b.cells.drop o).take n:=by
 apply KY;intro i;by_cases hi:i<n
 ·rw[qbF w0 h (.own k) n o i hi]
  have:o+i<b.cells.length:=by omega
  simp[rd,hk,hi,Ko,Kq,this]
 ·rw[Kr (by rw[qaP];omega),Kr (by simp;omega)]
section
variable {P:Program} {w0:World} {h:AHeap} {v:AVal} {bs:List UInt8}
theorem qnV(w0:World)(h:AHeap)(l:Loc)(o n i j:Nat)(hij:i<=j)(hj:j<=n):cellsAt w0 h l (o+i) (j-i)=((cellsAt w0 h l o n).drop i).take (j-i):=by
 apply KY;intro q;by_cases hq:q<j-i
 ·rw[qbF _ _ _ _ _ _ hq,KZ,if_pos hq,Kq,qbF _ _ _ _ _ _ (by omega)]
  congr 2;omega
 ·rw[Kr (by rw[qaP];omega),Kr (by simp;omega)]
end
theorem qgp(w0:World)(h:AHeap)(k o:Nat)(b:Blk):rd w0 (h.set k b) (.own k) o=b.cells.getD o .dead:=by simp[rd,AHeap.set_same]
section
variable {P:Program} {w0:World} {ops rest:List Oper} {s:Slots} {h:AHeap} {K:Slots->AHeap->Prop} {dst:Option Tmp} {ty:TypeId} {pos:String} {af:Array Edge}
theorem Xl{op:Op}{j:Nat}{want:Bool}(hg:gv s ops j= .bool want)(hk:Ql P w0 ops (⟨dst,op,ty,pos,af,none⟩::rest) s h K):
 Ql P w0 ops (⟨dst,op,ty,pos,af,some (j,want)⟩::rest) s h K:=by
 unfold gv at hg;cases hj:nthDst ops j with
 |none=>rw[hj]at hg;cases hg
 |some d=>
  rw[hj]at hg;simp only at hg;by_cases hp:Zc P op=true
  ·rw[qtm hj hp,hg]
   rw[WK hp]at hk;have e:QD (.bool want) want=true:=by simp[QD]
   rw[e];exact⟨rfl,fun _=>hk.1,hk.2⟩
  ·refine qjM hj (by simpa using hp) (by rw[hg];rfl) (fun _=>hk) (fun e=>?_)
   rw[hg]at e;simp[QD]at e
theorem qcm{op:Op}{j:Nat}{want b:Bool}(hg:gv s ops j= .bool b)(hb:b= !want)(hk:Ql P w0 ops rest (putD s dst (.tuple [])) h K):
 Ql P w0 ops (⟨dst,op,ty,pos,af,some (j,want)⟩::rest) s h K:=by
 unfold gv at hg;subst hb;cases hj:nthDst ops j with
 |none=>rw[hj]at hg;cases hg
 |some d=>
  rw[hj]at hg;simp only at hg;have e:QD (.bool (!want)) want=false:=by cases want<;>rfl
  by_cases hp:Zc P op=true
  ·rw[qtm hj hp,hg,e]
   exact⟨rfl,fun e'=>(by cases e'),hk⟩
  ·refine qjM hj (by simpa using hp) (by rw[hg];rfl) (fun e'=>?_) (fun _=>hk)
   rw[hg,e]at e';cases e'
theorem qN{t:TypeId}{x y:Operand}{k o n:Nat}{b:Blk}{v:AVal}(hx:ev s x= .ptr (.own k) o)(hv:ev s y=v)(hb:h k=some b)(hn:ZI P t=some n)(hl:v.live=true)(hc:v.cells.length=n)
 (ho:o+n<=b.cells.length) (hf:b.frz<=o) (hs:Qt v.cells=true) (hk:Ql P w0 ops rest (putD s dst (.tuple [])) (h.set k ⟨setAt b.cells o v.cells,b.frz⟩) K):
 Ql P w0 ops (⟨dst, .store t x y,ty,pos,af,none⟩::rest) s h K:=by
 rw[qbp];simp only[eop,qnP,hx,hv,hb,hn];exact⟨⟨hl,hc,by omega,hf,hs⟩,hk⟩
end
theorem Ut{P:Program}{w0:World}{f:FuncId}{fn:Func}{h:AHeap}{args:List AVal}{V:AVal}{vals:List Value}{val:Value}(hf:P.funcs[f]?=some fn)(hname:(fn.name== "runtime.NumGoroutine")=false)(hb:fn.body.isSome=true)
 (hv:∀fi vs,VRs fi args vs->vs=vals) (hV:∀fi,VR fi V val) (hc:∀w,Calls P f vals.toArray w fun e w'=>e= .returned val/\Go.RowKit.Below w.heap.size w w'):
 ACall P w0 f args h (fun v h'=>v=V/\h'=h):=by
 intro fi vs w hr hvs;obtain rfl:=hv fi vs hvs;refine .inl ⟨fn,hf,hname,hb,(hc w).mono fun e w' ⟨e1,e2⟩=>⟨val,e1,fi,V,h,fi.le_refl,hr.later e2,hV fi,rfl,rfl⟩⟩
section
variable {P:Program} {w0:World} {ops rest:List Oper} {s:Slots} {h:AHeap} {K:Slots->AHeap->Prop} {dst:Option Tmp} {ty:TypeId} {pos:String} {af:Array Edge}
end
def pSliceS(s:List UInt8):Option Int->Option Int->PR
 |some l,some h=>⟨0<=l/\l<=h/\h<=s.length, .str ((s.drop l.toNat).take (h.toNat-l.toNat))⟩
 |_,_=> .no
def pSliceE(lc:Loc)(o c es:Nat):Option Int->Option Int->PR
 |some l,some h=>⟨0<=l/\l<=h/\h<=c, .slice lc (o+l.toNat*es) (h-l).toNat (.exact (c-l).toNat)⟩
 |_,_=> .no
def qnw(lc:Loc)(o len es:Nat):Option Int->Option Int->PR
 |some l,some h=>⟨0<=l/\l<=h/\h<=len, .slice lc (o+l.toNat*es) (h-l).toNat (.grow es)⟩
 |_,_=> .no
theorem qmS(d:Nat):qcj none d=some (d:Int):=rfl
theorem qbI(k:IntKind)(n:Int)(d:Nat):qcj (some (.int k n)) d=some n:=rfl
section
variable {P:Program}
theorem pSlice_ex{t e:TypeId}{es:Nat}(ht:P.underlying t=some (.slice e))(hs:ZI P e=some es)(l:Loc)(o len c:Nat)(lo hi:Option AVal):
 Wm P t (.slice l o len (.exact c)) lo hi none=pSliceE l o c es (qcj lo 0) (qcj hi len):=by
 simp only[Wm,ht,hs];cases qcj lo 0<;>cases qcj hi len<;>rfl
theorem pSlice_gr{t e:TypeId}{es:Nat}(ht:P.underlying t=some (.slice e))(hs:ZI P e=some es)(l:Loc)(o len:Nat)(lo hi:Option AVal):
 Wm P t (.slice l o len (.grow es)) lo hi none=qnw l o len es (qcj lo 0) (qcj hi len):=by
 simp only[Wm,ht,hs];cases qcj lo 0<;>cases qcj hi len<;>simp[qnw]
end
theorem eqNil{α:Type}(s:List α):(s=[])=(s.length=0):=by simp
def Sc:AVal->Prop
 | .agg _=>False
 | .dead=>False
 | .mapO _=>False
 | .mapE _ _ _=>False
 | .iterO _ _ _ _=>False
 |_=>True
theorem qrm(l:Loc)(o n:Nat)(c:Cap):Sc (.slice l o n c)=True:=eq_true trivial
theorem qjr:Sc .nilSlice=True:=eq_true trivial
theorem qnb:Sc .nilPtr=True:=eq_true trivial
theorem Sc_ptr(l:Loc)(o:Nat):Sc (.ptr l o)=True:=eq_true trivial
theorem qlB:Sc .nilFunc=True:=eq_true trivial
theorem Sc_func(f:FuncId)(c:List AVal):Sc (.func f c)=True:=eq_true trivial
theorem qnc:Sc .nilMap=True:=eq_true trivial
theorem UU{P:Program}{w0:World}{ops rest:List Oper}{s:Slots}{h:AHeap}{K:Slots->AHeap->Prop}{dst:Option Tmp}{ty:TypeId}{pos:String}{af:Array Edge}{e:TypeId}{x:Operand}{v:AVal}{cs:List AVal}
 (hx:ev s x=v) (hl:v.live=true) (hc:v.cells=cs) (hk:∀k,h k=none->Ql P w0 ops rest (putD s dst (.ptr (.own k) 0)) (h.set k ⟨cs,0⟩) K):
 Ql P w0 ops (⟨dst, .box e x,ty,pos,af,none⟩::rest) s h K:=by
 rw[qbp];simp only[eop,hx,hc];exact⟨hl,hk⟩
theorem Qp{P:Program}{w0:World}{ops rest:List Oper}{s:Slots}{h:AHeap}{K:Slots->AHeap->Prop}{dst:Option Tmp}{ty:TypeId}{pos:String}{af:Array Edge}{e:TypeId}{z:Value}{cs:List AVal}
 (hz:Ud P e=some z) (hc:z.cells.toList.map absS=cs) (hk:∀k,h k=none->Ql P w0 ops rest (putD s dst (.ptr (.own k) 0)) (h.set k ⟨cs,0⟩) K):
 Ql P w0 ops (⟨dst, .alloc e,ty,pos,af,none⟩::rest) s h K:=by
 rw[qbp];simp only[eop,hz,hc];exact hk
theorem Qb{P:Program}{w0:World}{s:Slots}{h:AHeap}{rs:List ResultVar}{R:AVal->AHeap->Prop}(hp:WV P w0 s h rs)(hr:∃h',Sub h' h/\R (qbY P w0 s h rs) h'):qcU P w0 rs R .ret s h:=⟨hp,hr⟩
theorem qai{P:Program}{w0:World}{s:Slots}{h:AHeap}{rs:List ResultVar}{R:AVal->AHeap->Prop}(hp:WV P w0 s h rs)(hr:∃h',Sub h' h/\R (qbY P w0 s h rs) h'):qcU P w0 rs R .normal s h:=⟨hp,hr⟩
section
variable {P:Program} {w0:World} {s:Slots} {h:AHeap}
theorem qaj(a:Nat)(t:TypeId):qko P w0 s h (.cell a t)=Yt P w0 h t (s.get a):=rfl
theorem qkr(r:ResultVar):qbY P w0 s h [r]=(qko P w0 s h r).val:=rfl
theorem qkp(r u:ResultVar):qbY P w0 s h [r,u]= .tuple [(qko P w0 s h r).val,(qko P w0 s h u).val]:=rfl
theorem QN(t:TypeId)(ps:List (Nat×Operand)):pop P w0 h s (.build t ps.toArray)=YH P t (evP s ps):=rfl
end
theorem Yc(w0:World){h:AHeap}{k:Nat}{b:Blk}(hk:h k=some b)(o:Nat):rd w0 h (.own k) o=b.cells.getD o .dead:=by simp[rd,hk]
theorem rd_ne(w0:World)(h:AHeap){j k:Nat}(b:Blk)(hj:j≠k)(o:Nat):rd w0 (h.set k b) (.own j) o=rd w0 h (.own j) o:=by simp only[rd,AHeap.set_ne h b hj]
theorem qgs(w0:World)(h:AHeap)(k o:Nat)(cs:List AVal)(f:Nat):rd w0 (h.set k ⟨cs,f⟩) (.own k) o=cs.getD o .dead:=qgp w0 h k o ⟨cs,f⟩
section
variable {P:Program} {w0:World} {ops rest:List Oper} {s:Slots} {h:AHeap} {K:Slots->AHeap->Prop} {dst:Option Tmp} {ty:TypeId} {pos:String} {af:Array Edge}
theorem qO{t:TypeId}{n:Nat}{ps:List (Nat×Operand)}{cs:List AVal}(hb:qbH P t n (evP s ps)=some cs)
 (hk:∀k,h k=none->Ql P w0 ops rest (putD s dst (.slice (.own k) 0 n (.exact n))) (h.set k ⟨cs,0⟩) K):
 Ql P w0 ops (⟨dst, .buildSlice t n ps.toArray,ty,pos,af,none⟩::rest) s h K:=by
 rw[qbp];simp only[eop,hb];exact hk
end
theorem qge(c:Bool)(v w:AVal):YY (!c) v (Qc c w)=YY (!c) v w:=by cases c<;>cases v<;>cases w<;>simp[YY,Qc]
theorem qed(a b:AVal):YY true a b=a:=by cases a<;>cases b<;>rfl
theorem qda(a b:AVal):YY false a b=b:=by cases a<;>cases b<;>rfl
theorem qpG(g c:Bool)(x y:AVal):Qc g (YY c (Qc (g && c) x) y)=Qc g (YY c x y):=by cases g<;>cases c<;>cases x<;>cases y<;>simp[YY,Qc]
theorem qpF(g c:Bool)(x y:AVal):Qc g (YY c x (Qc (g && !c) y))=Qc g (YY c x y):=by cases g<;>cases c<;>cases x<;>cases y<;>simp[YY,Qc]
theorem qpE(g c:Bool)(x y:AVal):Qc g (YY (!c) x (Qc (g && c) y))=Qc g (YY (!c) x y):=by cases g<;>cases c<;>cases x<;>cases y<;>simp[YY,Qc]
theorem qpD(g c:Bool)(x y:AVal):Qc g (YY (!c) (Qc (g && !c) x) y)=Qc g (YY (!c) x y):=by cases g<;>cases c<;>cases x<;>cases y<;>simp[YY,Qc]
theorem Wo{P:Program}{w0:World}{n:FrameK}{s:Slots}{h:AHeap}{Q Q':Exit->Slots->AHeap->Prop}{γ:Type}{x y:Code}(L:List Nat)(S:γ->Slots)(H:γ->AHeap)(I:γ->Prop)
 (hx:Awp P w0 n x (qeH (fun s' h'=>∃g,s'.keep L=S g/\Sub (H g) h'/\I g) Q') s h) (hy:∀g,I g->Awp P w0 n y Q (S g) (H g)):Awp P w0 n x (qeH (Awp P w0 n y Q) Q') s h:=
 hx.mono fun e s' h' hq=>by
  cases e<;>simp only[qeH]at hq|- <;>first
   |exact hq
   |skip
  obtain⟨g,q1,q2,q3⟩:=hq;refine Awp.keep L ?_;rw[q1];exact Awp.forget q2 (hy g q3)
theorem qeO{P:Program}{w0:World}{f:FuncId}{fn:Func}{h:AHeap}{args:List AVal}{V:AVal}{vals:List Value}{val:Value}(hf:P.funcs[f]?=some fn)(hname:(fn.name== "runtime.NumGoroutine")=false)(hb:fn.body.isSome=true)
 (hv:∀fi vs,VRs fi args vs->vs=vals) (hV:∀fi,VR fi V val) (hc:∀w,Go.RowKit.Below w0.heap.size w0 w->Calls P f vals.toArray w fun e w'=>e= .returned val/\Go.RowKit.Below w.heap.size w w'):
 ACall P w0 f args h (fun v h'=>v=V/\h'=h):=by
 intro fi vs w hr hvs;obtain rfl:=hv fi vs hvs;refine .inl ⟨fn,hf,hname,hb,(hc w hr.below).mono fun e w' ⟨e1,e2⟩=>⟨val,e1,fi,V,h,fi.le_refl,hr.later e2,hV fi,rfl,rfl⟩⟩
theorem qiI{fi:PMap}{s t:List UInt8}{vs:List Value}(h:VRs fi [.str s, .str t] vs):vs=[.string ⟨⟨s⟩⟩, .string ⟨⟨t⟩⟩]:=by
 simp only[VRs,VR]at h;obtain⟨v,vs',rfl,rfl,v2,vs2,rfl,rfl,rfl⟩:=h;rfl
section
variable {P:Program} {w0:World} {ops rest:List Oper} {s:Slots} {h:AHeap} {K:Slots->AHeap->Prop} {dst:Option Tmp} {ty:TypeId} {pos:String} {af:Array Edge}
def apL(P:Program)(w0:World)(ops rest:List Oper)(s:Slots)(h:AHeap)(K:Slots->AHeap->Prop)(dst:Option Tmp)(r:PR):Prop:=r.pre/\Ql P w0 ops rest (putD s dst r.val) h K
def agL(P:Program)(w0:World)(ops rest:List Oper)(s:Slots)(h:AHeap)(K:Slots->AHeap->Prop)(dst:Option Tmp)(g:AVal)(want:Bool)(r:PR):Prop:=agP P w0 ops rest s h K dst g want r
def agQL(P:Program)(w0:World)(ops rest:List Oper)(s:Slots)(h:AHeap)(K:Slots->AHeap->Prop)(dst:Option Tmp)(want:Bool)(r:PR):Option Tmp->Prop
 |none=>Ql P w0 ops rest (putD s dst (.tuple [])) h K
 |some d=>agL P w0 ops rest s h K dst (s.get d) want r
theorem qmW{want:Bool}{r:PR}{d:Tmp}:agQL P w0 ops rest s h K dst want r (some d)=agL P w0 ops rest s h K dst (s.get d) want r:=rfl
theorem qo(t:TypeId)(x:Operand):Ql P w0 ops (⟨dst, .load t x,ty,pos,af,none⟩::rest) s h K=apL P w0 ops rest s h K dst (Yt P w0 h t (ev s x)):=by rw[ap_load];rfl
theorem Xv(t:TypeId)(x:Operand){j:Nat}{want:Bool}:Ql P w0 ops (⟨dst, .load t x,ty,pos,af,some (j,want)⟩::rest) s h K=agQL P w0 ops rest s h K dst want (Yt P w0 h t (ev s x)) (nthDst ops j):=by
 rw[ag_load];cases nthDst ops j<;>rfl
theorem QJ(p:Prop)(v:AVal):apL P w0 ops rest s h K dst ⟨p,v⟩=(p/\Ql P w0 ops rest (putD s dst v) h K):=rfl
theorem agL_mk(g:AVal)(want:Bool)(p:Prop)(v:AVal):agL P w0 ops rest s h K dst g want ⟨p,v⟩=agP P w0 ops rest s h K dst g want ⟨p,v⟩:=rfl
theorem agL_ld5(b:Bool)(t:TypeId)(x:AVal):agL P w0 ops rest s h K dst (.bool (!b)) false (Yt P w0 h t (Qc b x))=agL P w0 ops rest s h K dst (.bool (!b)) false (Yt P w0 h t x):=by
 cases b<;>first|rfl|simp[agL,agP,QD,Qc]
theorem agL_ld6(c b:Bool)(t:TypeId)(x:AVal):agL P w0 ops rest s h K dst (Qc c (.bool (!b))) false (Yt P w0 h t (Qc (c && b) x))=agL P w0 ops rest s h K dst (Qc c (.bool (!b))) false (Yt P w0 h t x):=by
 cases c<;>cases b<;>first|rfl|simp[agL,agP,QD,Qc]
theorem agL_il5(b:Bool)(t:TypeId)(x y:AVal):agL P w0 ops rest s h K dst (.bool (!b)) false (Xd P t (Qc b x) y)=agL P w0 ops rest s h K dst (.bool (!b)) false (Xd P t x y):=by
 cases b<;>first|rfl|simp[agL,agP,QD,Qc]
theorem agL_ir5(b:Bool)(t:TypeId)(x y:AVal):agL P w0 ops rest s h K dst (.bool (!b)) false (Xd P t x (Qc b y))=agL P w0 ops rest s h K dst (.bool (!b)) false (Xd P t x y):=by
 cases b<;>first|rfl|simp[agL,agP,QD,Qc]
theorem agL_ld1(b:Bool)(t:TypeId)(x:AVal):agL P w0 ops rest s h K dst (.bool b) true (Yt P w0 h t (Qc b x))=agL P w0 ops rest s h K dst (.bool b) true (Yt P w0 h t x):=by
 cases b<;>first|rfl|simp[agL,agP,QD,Qc]
theorem agL_ld2(b:Bool)(t:TypeId)(x:AVal):agL P w0 ops rest s h K dst (.bool b) false (Yt P w0 h t (Qc (!b) x))=agL P w0 ops rest s h K dst (.bool b) false (Yt P w0 h t x):=by
 cases b<;>first|rfl|simp[agL,agP,QD,Qc]
theorem agL_ld3(c b:Bool)(t:TypeId)(x:AVal):agL P w0 ops rest s h K dst (Qc c (.bool b)) true (Yt P w0 h t (Qc (c && b) x))=agL P w0 ops rest s h K dst (Qc c (.bool b)) true (Yt P w0 h t x):=by
 cases c<;>cases b<;>first|rfl|simp[agL,agP,QD,Qc]
theorem agL_ld4(c b:Bool)(t:TypeId)(x:AVal):agL P w0 ops rest s h K dst (Qc c (.bool b)) false (Yt P w0 h t (Qc (c && !b) x))=agL P w0 ops rest s h K dst (Qc c (.bool b)) false (Yt P w0 h t x):=by
 cases c<;>cases b<;>first|rfl|simp[agL,agP,QD,Qc]
theorem qjL(b:Bool)(t:TypeId)(x y:AVal):agL P w0 ops rest s h K dst (.bool b) true (Xd P t (Qc b x) y)=agL P w0 ops rest s h K dst (.bool b) true (Xd P t x y):=by
 cases b<;>first|rfl|simp[agL,agP,QD,Qc]
theorem agL_il3(c b:Bool)(t:TypeId)(x y:AVal):agL P w0 ops rest s h K dst (Qc c (.bool b)) true (Xd P t (Qc (c && b) x) y)=agL P w0 ops rest s h K dst (Qc c (.bool b)) true (Xd P t x y):=by
 cases c<;>cases b<;>first|rfl|simp[agL,agP,QD,Qc]
theorem qjK(b:Bool)(t:TypeId)(x y:AVal):agL P w0 ops rest s h K dst (.bool b) true (Xd P t x (Qc b y))=agL P w0 ops rest s h K dst (.bool b) true (Xd P t x y):=by
 cases b<;>first|rfl|simp[agL,agP,QD,Qc]
theorem agL_ir3(c b:Bool)(t:TypeId)(x y:AVal):agL P w0 ops rest s h K dst (Qc c (.bool b)) true (Xd P t x (Qc (c && b) y))=agL P w0 ops rest s h K dst (Qc c (.bool b)) true (Xd P t x y):=by
 cases c<;>cases b<;>first|rfl|simp[agL,agP,QD,Qc]
theorem qJ(t:TypeId)(x i:Operand):Ql P w0 ops (⟨dst, .indexAddr t x i,ty,pos,af,none⟩::rest) s h K=apL P w0 ops rest s h K dst (Xd P t (ev s x) (ev s i)):=by rw[qoi];rfl
theorem Zb(t:TypeId)(x i:Operand){j:Nat}{want:Bool}:Ql P w0 ops (⟨dst, .indexAddr t x i,ty,pos,af,some (j,want)⟩::rest) s h K=agQL P w0 ops rest s h K dst want (Xd P t (ev s x) (ev s i)) (nthDst ops j):=by
 rw[qoj];cases nthDst ops j<;>rfl
section
variable {v:AVal} {bs:List UInt8} (hb:IsB w0 h v bs)
include hb
end
end
section
variable {P:Program} {w0:World} {ops rest:List Oper} {s:Slots} {h:AHeap} {K:Slots->AHeap->Prop} {dst:Option Tmp} {ty:TypeId} {pos:String} {af:Array Edge}
end
end Go.AM
namespace Go.AM
open Go.RowKit (Below)
theorem qhy{w:World}{b o:Nat}{v:Value}(h:w.cell? ⟨b,o,none⟩=some v):b<w.heap.size:=by
 simp only[World.cell?]at h;cases hb:w.heap[b]? with
 |none=>simp[hb]at h
 |some x=>exact(Array.getElem?_eq_some_iff.1 hb).1
def qsb(op:Op):List Nat:=op.operands.toList.filterMap fun| .tmp t=>some t|_=>none
def Qu(ops:List Oper)(o:Oper):List Nat:=
 qsb o.op++match o.guard with
  |some (j,_)=>(nthDst ops j).toList
  |none=>[]
def Yn(P:Program)(w0:World)(ops:List Oper):List Oper->Slots->AHeap->(Slots->AHeap->Prop)->Prop
 |[],s,h,K=>K s h
 |o::rest,s,h,K=>
  match o.guard with
  |none=>∃V,eop P w0 h (s.keep (Qu ops o)) o.op (fun x h'=>x=V/\h'=h)/\Yn P w0 ops rest (putD s o.dst V) h K
  |some (j,want)=>match nthDst ops j with
   |none=>Yn P w0 ops rest (putD s o.dst (.tuple [])) h K
   |some d=>Wn (s.get d)=true/\∃V,(QD (s.get d) want=true->eop P w0 h (s.keep (Qu ops o)) o.op (fun x h'=>x=V/\h'=h))/\Yn P w0 ops rest (putD s o.dst (Qc (QD (s.get d) want) V)) h K
theorem qdv{P:Program}{w0:World}{ops:List Oper}{h:AHeap}{K K':Slots->AHeap->Prop}:∀{l:List Oper} {s:Slots},Yn P w0 ops l s h K->(∀s h,K s h->K' s h)->Yn P w0 ops l s h K'
 |[],s,hv,hk=>hk _ _ hv
 |o::rest,s,hv,hk=>by
  simp only[Yn]at hv|-
  split
  ·rename_i hg
   rw[hg]at hv;obtain⟨V,h1,h2⟩:=hv;exact⟨V,h1,qdv h2 hk⟩
  ·rename_i j want hg
   rw[hg]at hv;simp only at hv;split
   ·rename_i hj
    rw[hj]at hv;exact qdv hv hk
   ·rename_i d hj
    rw[hj]at hv;obtain⟨h1,V,h2,h3⟩:=hv;exact⟨h1,V,h2,qdv h3 hk⟩
section
variable {P:Program} {w0:World} {n:FrameK} {h:AHeap}
def StepOk(P:Program)(w0:World)(n:FrameK)(h:AHeap)(ops:List Oper)(o:Oper)(S:Slots)(V:AVal):Prop:=
 ∀(Ps:PMap) (w:World) (a:Act) (next:Act->World->Prop) (Q:Exit->Act->World->Prop),HRel w0 Ps h w->SRel Ps n (S.keep (Qu ops o)) a->
  (∀ψ' v w',Ps.le ψ'->HRel w0 ψ' h w'->VR ψ' V v->next (a.put o.dst v) w')->
  if Region.wanted o (yielded ops.toArray a.tmps)=true then o.wp P a w next Q else next (a.put o.dst undef) w
theorem qdj{n:Nat}:∀(l:List Oper) (j d:Nat),Qo n l=true->nthDst l j=some d->d<n:=by
 intro l;induction l with
 |nil=>intro j d _ h;simp[nthDst]at h
 |cons o r ih=>
  intro j d h1 h2;simp only[Qo,Ky]at h1;cases j with
  |zero=>simp only[nthDst]at h2;rw[h2]at h1;simpa using h1.1
  |succ j=>exact ih j d h1.2 h2
theorem StepOk.plain{ops:List Oper}{o:Oper}{S:Slots}{V:AVal}(hg:o.guard=none)(he:eop P w0 h (S.keep (Qu ops o)) o.op (fun x h'=>x=V/\h'=h)):StepOk P w0 n h ops o S V:=by
 intro Ps w a next Q hr hs hn;have hw:Region.wanted o (yielded ops.toArray a.tmps)=true:=by simp[Region.wanted,hg]
 rw[if_pos hw];exact qgE o he hr hs fun ψ' x h' v w' h1 h2 h3 ⟨e1,e2⟩=>by subst e1 e2;exact hn ψ' v w' h1 h2 h3
theorem StepOk.guarded{ops:List Oper}(hall:Qo n ops=true){o:Oper}{S:Slots}{V:AVal}{j d:Nat}{want:Bool}(hg:o.guard=some (j,want))(hj:nthDst ops j=some d)(hk:Wn (S.get d)=true)
 (he:QD (S.get d) want=true->eop P w0 h (S.keep (Qu ops o)) o.op (fun x h'=>x=V/\h'=h)):StepOk P w0 n h ops o S (Qc (QD (S.get d) want) V):=by
 intro Ps w a next Q hr hs hn;have hd:(S.keep (Qu ops o)).get d=S.get d:=by
  rw[Slots.get_keep,if_pos];simp[Qu,hg,hj]
 have hw:Region.wanted o (yielded ops.toArray a.tmps)=QD (S.get d) want:=by
  have:=qdH hs ops j d hj (qdj ops j d hall hj) (by rw[hd];exact hk) want;rw[hd]at this;simp only[Region.wanted,hg];exact this
 cases hb:QD (S.get d) want with
 |true=>
  rw[hw,hb,if_pos rfl];rw[hb]at hn;exact qgE o (he hb) hr hs fun ψ' x h' v w' h1 h2 h3 ⟨e1,e2⟩=>by subst e1 e2;exact hn ψ' v w' h1 h2 h3
 |false=>
  rw[hw,hb,if_neg (by decide)];rw[hb]at hn;exact hn Ps undef w Ps.le_refl hr (Wh Ps)
theorem StepOk.never{ops:List Oper}{o:Oper}{S:Slots}{j:Nat}{want:Bool}(hg:o.guard=some (j,want))(hj:nthDst ops j=none):StepOk P w0 n h ops o S (.tuple []):=by
 intro Ps w a next Q hr hs hn;have hd:(ops.toArray[j]?).bind (·.dst)=none:=by rw[<-hj,Yi];simp
 have hw:Region.wanted o (yielded ops.toArray a.tmps)=false:=by
  simp only[Region.wanted,hg,yielded,hd];rfl
 rw[if_neg (by rw[hw];decide)];exact hn Ps undef w Ps.le_refl hr (Wh Ps)
def Qw(s:Slots)(l:List Oper)(Vs:List AVal):Nat->Slots
 |0=>s
 |i+1=>match l[i]? with
  |some o=>putD (Qw s l Vs i) o.dst (Vs.getD i .dead)
  |none=>Qw s l Vs i
theorem WM(s:Slots)(l:List Oper)(A B:List AVal):∀i,i<=A.length->Qw s l (A++B) i=Qw s l A i
 |0,_=>rfl
 |i+1,hi=>by
  simp only[Qw,WM s l A B i (by omega)];have:(A++B).getD i .dead=A.getD i .dead:=by simp[Ko,Ja,show i<A.length by omega]
  rw[this]
theorem qjW{l:List Oper}(hall:Qo n l=true){s:Slots}{K:Slots->AHeap->Prop}:∀(rest pre:List Oper) (A:List AVal),l=pre++rest->A.length=pre.length->Yn P w0 l rest (Qw s l A pre.length) h K->
 ∃B:List AVal,B.length=rest.length/\(∀i o,pre.length<=i->l[i]?=some o->StepOk P w0 n h l o (Qw s l (A++B) i) ((A++B).getD i .dead))/\K (Qw s l (A++B) l.length) h
 |[],pre,A,hl,hA,hv=>⟨[],rfl,fun i o hi ho=>by
   rw[hl]at ho;simp at ho;have:=(Jw.1 ho).1;omega,by
   have e:l.length=pre.length:=by rw[hl];simp
   rw[List.append_nil,e];exact hv⟩
 |o::rest,pre,A,hl,hA,hv=>by
  have hat:l[pre.length]?=some o:=by rw[hl];simp
  have go:∀V,StepOk P w0 n h l o (Qw s l A pre.length) V->Yn P w0 l rest (putD (Qw s l A pre.length) o.dst V) h K->
   ∃B:List AVal,B.length=(o::rest).length/\(∀i o,pre.length<=i->l[i]?=some o->StepOk P w0 n h l o (Qw s l (A++B) i) ((A++B).getD i .dead))/\K (Qw s l (A++B) l.length) h:=by
   intro V hst hv';have e:Qw s l (A++[V]) (pre++[o]).length=putD (Qw s l A pre.length) o.dst V:=by
    rw[Jb,List.length_singleton,Qw,hat];simp only;rw[WM s l A [V] _ (by omega)];congr 1;simp[Ko,<-hA]
   obtain⟨B,h1,h2,h3⟩:=qjW hall rest (pre++[o]) (A++[V]) (by simp[hl]) (by simp[hA]) (by rw[e];exact hv');refine⟨V::B,by simp[h1],fun i o' hi ho'=>?_,by simpa using h3⟩;rcases Jy hi with e'|e'
   ·subst e'
    rw[hat]at ho';obtain rfl:=Option.some.inj ho';rw[WM s l A (V::B) _ (by omega)];have:(A++V::B).getD pre.length .dead=V:=by simp[Ko,<-hA]
    rw[this];exact hst
   ·have:=h2 i o' (by simp;omega) ho'
    simpa using this
  simp only[Yn]at hv;cases hg:o.guard with
  |none=>
   simp only[hg]at hv;obtain⟨V,h1,h2⟩:=hv;exact go V (.plain hg h1) h2
  |some gw=>
   obtain⟨j,want⟩:=gw;simp only[hg]at hv;cases hj:nthDst l j with
   |none=>
    simp only[hj]at hv;exact go _ (.never hg hj) hv
   |some d=>
    simp only[hj]at hv;obtain⟨hk,V,h1,h2⟩:=hv;exact go _ (.guarded hall hg hj hk h1) h2
def qae(l:List Oper):Bool:=
 (KP l.length).all fun i=>match l[i]? with
  |none=>true
  |some oi=>(oi.after.all fun e=> !Region.binds .any e||decide (e.on<i)) &&
   (KP l.length).all fun j=>match l[j]? with
    |none=>true
    |some oj=>(match oj.dst with
      |none=>true
      |some t=>(decide (i=j)||decide (oi.dst≠some t)) &&
        (!(Qu l oi).contains t||(decide (j<i) && Region.waitsFor .any l.toArray i j)||(decide (i<j) && Region.waitsFor .any l.toArray j i)))
theorem XR{l:List Oper}(hB:qae l=true){i:Nat}{oi:Oper}(hi:l[i]?=some oi):
 (∀e∈oi.after,Region.binds .any e=true->e.on<i)/\∀j oj t,l[j]?=some oj->oj.dst=some t->(oi.dst=some t->i=j)/\
  (t∈Qu l oi->(j<i/\Region.waitsFor .any l.toArray i j=true)\/(i<j/\Region.waitsFor .any l.toArray j i=true)):=by
 unfold qae at hB;rw[Jz]at hB;have h1:=hB i (by rw[JA];exact(Jw.1 hi).1);simp only[hi,Ky]at h1;obtain⟨ha,hb⟩:=h1;refine⟨fun e he hbd=>?_,fun j oj t hj hd=>?_⟩
 ·rw[Array.all_eq_true']at ha
  have:=ha e he;simpa[hbd]using this
 ·rw[Jz]at hb
  have h2:=hb j (by rw[JA];exact(Jw.1 hj).1);simp only[hj,hd,Ky,Bool.or_eq_true,decide_eq_true_eq,Jh,List.contains_eq_mem]at h2;refine⟨fun he=>?_,fun ht=>?_⟩
  ·rcases h2.1 with e|e
   ·exact e
   ·exact absurd he e
  ·rcases h2.2 with(e|e)|e
   ·exact absurd ht (by simpa using e)
   ·exact .inl e
   ·exact .inr e
theorem YA(s:Slots)(d:Option Tmp)(x:AVal)(t:Nat):(putD s d x).get t=if d=some t then x else s.get t:=by
 cases d with
 |none=>simp[putD]
 |some d=>
  simp only[putD,Slots.get_put,Option.some.injEq];by_cases e:t=d
  ·subst e;simp
  ·rw[if_neg e,if_neg (fun e'=>e e'.symm)]
theorem Uh{l:List Oper}(hB:qae l=true)(s:Slots)(Vs:List AVal){j:Nat}{oj:Oper}{t:Nat}(hj:l[j]?=some oj)(hd:oj.dst=some t):∀i,j<i->i<=l.length->(Qw s l Vs i).get t=Vs.getD j .dead
 |0,h,_=>by omega
 |i+1,h,hi=>by
  obtain⟨o,ho⟩:∃o,l[i]?=some o:=⟨_,JB (show i<l.length by omega)⟩
  simp only[Qw,ho,YA];by_cases e:o.dst=some t
  ·have:i=j:=(((XR hB ho).2 j oj t hj hd).1 e)
   subst this;rw[if_pos e]
  ·rw[if_neg e]
   refine Uh hB s Vs hj hd i ?_ (by omega);rcases Jy (Nat.le_of_lt_succ h)with e'|e'
   ·subst e'
    rw[hj]at ho;obtain rfl:=Option.some.inj ho;exact absurd hd e
   ·exact e'
theorem Yp{l:List Oper}(s:Slots)(Vs:List AVal){t:Nat}:∀i,(∀j oj,j<i->l[j]?=some oj->oj.dst≠some t)->(Qw s l Vs i).get t=s.get t
 |0,_=>rfl
 |i+1,h=>by
  have ih:=Yp s Vs (t:=t) i fun j oj hj=>h j oj (by omega);simp only[Qw];split
  ·rename_i o ho
   rw[YA,if_neg (h i o (by omega) ho),ih]
  ·exact ih
structure AnyInv(l:List Oper)(Vs:List AVal)(s:Slots)(Ps:PMap)(n:FrameK)(listed:Array Bool)(a:Act):Prop where
 size:listed.size=l.length
 closed:∀j oj,l[j]?=some oj->listed.getD j false=true->∀e∈oj.after,Region.binds .any e=true->listed.getD e.on false=true
 tsize:a.tmps.size=n
 defers:a.defers=n.dfr
 done:∀t j oj,l[j]?=some oj->oj.dst=some t->listed.getD j false=true->VR Ps (Vs.getD j .dead) (a.tmps.getD t undef)
 still:∀t,(∀j oj,l[j]?=some oj->oj.dst=some t->listed.getD j false=false)->VR Ps (s.get t) (a.tmps.getD t undef)
theorem set_self{listed:Array Bool}{i:Nat}(hi:i<listed.size):(listed.setIfInBounds i true).getD i false=true:=by
 simp[JC,hi]
theorem Xz{listed:Array Bool}{i j:Nat}(h:j≠i):(listed.setIfInBounds i true).getD j false=listed.getD j false:=by
 rw[Ku,Ku,Kv (Ne.symm h)]
theorem qeC{l:List Oper}(hB:qae l=true){listed:Array Bool}(hs:listed.size=l.length)(hr:Region.ready .any l.toArray listed=[]):∀i,i<l.length->listed.getD i false=true:=by
 intro i;induction i using Jt with
 |ind i ih=>
  intro hi;cases hl:listed.getD i false with
  |true=>rfl
  |false=>
   exfalso;obtain⟨o,ho⟩:∃o,l[i]?=some o:=⟨_,JB hi⟩
   have:i∈Region.ready .any l.toArray listed:=by
    rw[mem_ready];refine⟨?_,o,by simpa using ho,fun e he hb=>?_⟩
    ·have hi':i<listed.size:=by omega
     simp[JC,hi']at hl|-;exact hl
    ·have hlt:=(XR hB ho).1 e he hb
     exact ih e.on hlt (by omega)
   rw[hr]at this;cases this
theorem qcr:∀(l:List Bool) (i:Nat),l[i]?=some false->((l.set i true).filter (!·)).length+1=(l.filter (!·)).length
 |[],_,h=>by simp at h
 |b::l,0,h=>by
  simp only[Kz,Option.some.injEq]at h;subst h;simp
 |b::l,i+1,h=>by
  simp only[KM]at h;have:=qcr l i h;cases b<;>simp[Kj]<;>omega
theorem any_ok{l:List Oper}(hall:Qo n l=true)(hB:qae l=true){s:Slots}{Vs:List AVal}(hst:∀i o,l[i]?=some o->StepOk P w0 n h l o (Qw s l Vs i) (Vs.getD i .dead)){fi:PMap}{Q:Exit->Act->World->Prop}
 (hq:∀Ps a w,fi.le Ps->HRel w0 Ps h w->SRel Ps n (Qw s l Vs l.length) a->Q .normal a w):∀(fuel:Nat) (listed:Array Bool) (a:Act) (w:World) (Ps:PMap),fi.le Ps->HRel w0 Ps h w->AnyInv l Vs s Ps n listed a->
 (listed.toList.filter (!·)).length<=fuel->wpAny P .any l.toArray Q fuel listed a w:=by
 have fin:∀(listed:Array Bool) (a:Act) (w:World) (Ps:PMap),fi.le Ps->HRel w0 Ps h w->AnyInv l Vs s Ps n listed a->Region.ready .any l.toArray listed=[]->Q .normal a w:=by
  intro listed a w Ps hle hr inv hrd;refine hq Ps a w hle hr ⟨inv.tsize,inv.defers,fun t=>?_⟩;by_cases hw:∃(j:Nat) (oj:Oper),l[j]?=some oj/\oj.dst=some t
  ·obtain⟨j,oj,hj,hd⟩:=hw
   have hlt:=(Jw.1 hj).1;rw[Uh hB s Vs hj hd l.length hlt (KL _)];exact inv.done t j oj hj hd (qeC hB inv.size hrd j hlt)
  ·rw[Yp s Vs l.length fun j oj _ hj hd=>hw ⟨j,oj,hj,hd⟩]
   exact inv.still t fun j oj hj hd=>absurd ⟨j,oj,hj,hd⟩ hw
 intro fuel;induction fuel with
 |zero=>
  intro listed a w Ps hle hr inv hc;have hrd:Region.ready .any l.toArray listed=[]:=by
   cases hrd:Region.ready .any l.toArray listed with
   |nil=>rfl
   |cons i r=>
    exfalso;have hm:i∈Region.ready .any l.toArray listed:=by rw[hrd];exact Je
    obtain⟨h1,o,ho,_⟩:=mem_ready.1 hm;have hi:i<listed.size:=by
     have:l[i]?=some o:=by simpa using ho
     rw[inv.size];exact(Jw.1 this).1
    have h2:listed.toList[i]?=some false:=by
     simp[JC,hi]at h1;simp[hi,h1]
    have:=List.mem_of_getElem? h2;have hmem:false∈listed.toList.filter (!·):=by simp[List.mem_filter,this]
    have:=List.length_pos_of_mem hmem;omega
  exact⟨hrd,fin listed a w Ps hle hr inv hrd⟩
 |succ fuel ih=>
  intro listed a w Ps hle hr inv hc;refine⟨fun hrd=>fin listed a w Ps hle hr inv hrd,fun i hi=>?_⟩;obtain⟨h1,o,ho,hedges⟩:=mem_ready.1 hi;have hol:l[i]?=some o:=by simpa using ho
  have hilt:i<l.length:=(Jw.1 hol).1;have hisz:i<listed.size:=by rw[inv.size];exact hilt
  have hif:listed.getD i false=false:=by simp[JC,hisz]at h1|-;exact h1
  have spec:=XR hB hol;have hs:SRel Ps n ((Qw s l Vs i).keep (Qu l o)) a:=by
   refine⟨inv.tsize,inv.defers,fun t=>?_⟩;rw[Slots.get_keep];by_cases ht:(Qu l o).contains t=true
   ·rw[if_pos ht]
    have ht':t∈Qu l o:=by simpa using ht
    by_cases hw:∃(j:Nat) (oj:Oper),l[j]?=some oj/\oj.dst=some t
    ·obtain⟨j,oj,hj,hd⟩:=hw
     rcases(spec.2 j oj t hj hd).2 ht' with⟨c1,c2⟩|⟨c1,c2⟩
     ·rw[Uh hB s Vs hj hd i c1 (by omega)]
      refine inv.done t j oj hj hd ?_;obtain⟨oi,g1,e,g2,g3,g4⟩:=Region.waitsFor_spec c2;rw[ho]at g1;obtain rfl:=Option.some.inj g1;rw[<-g4];exact hedges e g2 g3
     ·rw[Yp s Vs i fun j' oj' hj'' hj' hd'=>by
       have:=((XR hB hj').2 j oj t hj hd).1 hd';omega]
      refine inv.still t fun j' oj' hj' hd'=>?_;have e:=((XR hB hj').2 j oj t hj hd).1 hd';subst e;cases hl:listed.getD j' false with
      |false=>rfl
      |true=>
       exfalso;obtain⟨oi,g1,e,g2,g3,g4⟩:=Region.waitsFor_spec c2;have g1':l[j']?=some oi:=by simpa using g1
       have:=inv.closed j' oi g1' hl e g2 g3;rw[g4,hif]at this;cases this
    ·rw[Yp s Vs i fun j oj _ hj hd=>hw ⟨j,oj,hj,hd⟩]
     exact inv.still t fun j oj hj hd=>absurd ⟨j,oj,hj,hd⟩ hw
   ·rw[if_neg ht]
    trivial
  have step:=hst i o hol Ps w a (wpAny P .any l.toArray Q fuel (listed.setIfInBounds i true)) Q hr hs fun ψ' v w' hle' hr' hv=>by
   have hdn:∀d,o.dst=some d->d<n:=fun d hd=>qdj l i d hall (by rw[Yi,hol];exact hd);refine ih _ _ _ ψ' (PMap.le_trans hle hle') hr' ?_ ?_
   ·refine⟨by simp[inv.size],fun j oj hj hl e he hb=>?_,?_,?_,fun t j oj hj hd hl=>?_,fun t hun=>?_⟩
    ·by_cases e1:e.on=i
     ·rw[e1];exact set_self hisz
     ·rw[Xz e1]
      by_cases e2:j=i
      ·subst e2
       rw[hol]at hj;obtain rfl:=Option.some.inj hj;exact hedges e he hb
      ·rw[Xz e2]at hl
       exact inv.closed j oj hj hl e he hb
    ·cases hod:o.dst with
     |none=>simpa[Act.put]using inv.tsize
     |some d=>simpa[Act.put]using inv.tsize
    ·cases hod:o.dst with
     |none=>simpa[Act.put]using inv.defers
     |some d=>simpa[Act.put]using inv.defers
    ·by_cases e:j=i
     ·subst e
      rw[hol]at hj;obtain rfl:=Option.some.inj hj;have hlt:t<a.tmps.size:=by rw[inv.tsize];exact hdn t hd
      have:(a.put o.dst v).tmps.getD t undef=v:=by rw[hd];simp[Act.put,hlt]
      rw[this];exact hv
     ·rw[Xz e]at hl
      have hne:o.dst≠some t:=fun hod=>e (((spec.2 j oj t hj hd).1 hod).symm);have:(a.put o.dst v).tmps.getD t undef=a.tmps.getD t undef:=by
       cases hod:o.dst with
       |none=>rfl
       |some d=>
        have hdt:d≠t:=fun e=>hne (by rw[hod,e]);simp[Act.put,Ku,Kv hdt]
      rw[this];exact Ww hle' _ _ (inv.done t j oj hj hd hl)
    ·have hne:o.dst≠some t:=fun hod=>by
      have:=hun i o hol hod;rw[set_self hisz]at this;cases this
     have:(a.put o.dst v).tmps.getD t undef=a.tmps.getD t undef:=by
      cases hod:o.dst with
      |none=>rfl
      |some d=>
       have hdt:d≠t:=fun e=>hne (by rw[hod,e]);simp[Act.put,Ku,Kv hdt]
     rw[this];refine Ww hle' _ _ (inv.still t fun j oj hj hd=>?_);have e:j≠i:=fun e=>by subst e;rw[hol]at hj;obtain rfl:=Option.some.inj hj;exact hne hd
     have:=hun j oj hj hd
     rwa [Xz e]at this
   ·have h2:listed.toList[i]?=some false:=by
     simp[JC,hisz]at h1;simp[hisz,h1]
    have:=qcr listed.toList i h2;have e:(listed.setIfInBounds i true).toList=listed.toList.set i true:=by simp
    rw[e];omega
  simp only[wpOp,ho];split
  ·rename_i hw
   rw[if_pos hw]at step;exact .inl step
  ·rename_i hw
   rw[if_neg hw]at step;exact step
theorem qog{Q:Exit->Slots->AHeap->Prop}{s:Slots}{id:Nat}{l:List Oper}(hm:P.follows .mixedOrders=true)(hB:qae l=true)(hd:Qo n l=true)(hc:Yn P w0 l l s h (fun s' h'=>Q .normal s' h')):
 Awp P w0 n (.region id l.toArray true) Q s h:=by
 refine Awp.of0 ?_;intro fi a w hr hs;obtain⟨Vs,h1,h2,h3⟩:=qjW (P:=P) (w0:=w0) (n:=n) (h:=h) hd (s:=s) l [] [] rfl rfl hc;simp only[Jd,List.length_nil,Jq,true_implies]at h1 h2 h3;refine wp_region_any hm ?_;refine any_ok (fi:=fi) hd hB (s:=s) (Vs:=Vs) (fun i o ho=>h2 i o ho) (fun Ps a' w' hle hr' hs'=>⟨Ps,_,h,hle,hr',hs',h3⟩) _ _ _ _ fi fi.le_refl hr.drew ?_ ?_
 ·have hf:∀j,(Ju l.toArray.size false).getD j false=false:=fun j=>by
   simp[JC]
  refine⟨by simp,fun j oj _ hl=>(by rw[hf]at hl;cases hl),hs.size,hs.defers,fun t j oj _ _ hl=>(by rw[hf]at hl;cases hl),fun t _=>hs.val t⟩
 ·have:=List.length_filter_le (!·) (Ju l.toArray.size false).toList
  simpa using this
theorem qez{Q:Exit->Slots->AHeap->Prop}{s:Slots}{id:Nat}{l:List Oper}{y:Code}(L:List Nat)(hm:P.follows .mixedOrders=true)(hB:qae l=true)(hd:Qo n l=true)
 (hc:∀K:Slots->AHeap->Prop,(∀s h,Awp P w0 n y Q s h->K s h)->Yn P w0 l l s h (fun s' h'=>K (s'.keep L) h')):Awp P w0 n (.seq (.region id l.toArray true) y) Q s h:=
 qi (qog hm hB hd (hc (fun s h=>Awp P w0 n y Q (s) h) (fun _ _ hk=>hk) |> fun hv=>qdv hv fun _ _ hk=>Awp.keep L hk))
end
end Go.AM
namespace Go.AM
theorem ZW{s:Slots}{L:List Nat}{x:Operand}(h:∀t,x= .tmp t->t∈L):ev (s.keep L) x=ev s x:=by
 cases x with
 |tmp t=>
  simp only[ev,Slots.get_keep];rw[if_pos (by simpa using h t rfl)]
 |_=>rfl
theorem XV{ops:List Oper}{o:Oper}{x:Operand}(h:x∈o.op.operands.toList):∀t,x= .tmp t->t∈Qu ops o:=by
 rintro t rfl;unfold Qu qsb;rw[List.mem_append];exact .inl (List.mem_filterMap.2 ⟨_,h,rfl⟩)
theorem qhs{s:Slots}{L:List Nat}:∀{xs:List Operand},(∀x∈xs,∀t,x= .tmp t->t∈L)->evs (s.keep L) xs=evs s xs
 |[],_=>rfl
 |x::xs,h=>by
  have:=qhs (s:=s) (L:=L) (xs:=xs) fun y hy=>h y (Jf _ hy);simp only[evs,Ke]at this|-
  rw[ZW (h x Je),this]
section
variable {P:Program} {w0:World} {ops rest:List Oper} {s:Slots} {h:AHeap} {K:Slots->AHeap->Prop} {dst:Option Tmp} {ty:TypeId} {pos:String} {af:Array Edge}
theorem Uf:Yn P w0 ops [] s h K=K s h:=rfl
theorem qiL{op:Op}(hp:Zc P op=true)(hk:pop P w0 h (s.keep (Qu ops ⟨dst,op,ty,pos,af,none⟩)) op=pop P w0 h s op):
 Yn P w0 ops (⟨dst,op,ty,pos,af,none⟩::rest) s h K=((pop P w0 h s op).pre/\Yn P w0 ops rest (putD s dst (pop P w0 h s op).val) h K):=by
 simp only[Yn];refine propext ⟨fun⟨V,h1,h2⟩=>?_,fun⟨h1,h2⟩=>⟨_,(UR hp).2 ⟨by rw[hk];exact h1,by rw[hk],rfl⟩,h2⟩⟩;obtain⟨g1,g2,_⟩:=(UR hp).1 h1;rw[hk]at g1 g2;subst g2;exact⟨g1,h2⟩
def vgP(P:Program)(w0:World)(ops rest:List Oper)(s:Slots)(h:AHeap)(K:Slots->AHeap->Prop)(dst:Option Tmp)(g:AVal)(want:Bool)(r:PR):Prop:=
 Wn g=true/\(QD g want=true->r.pre)/\Yn P w0 ops rest (putD s dst (Qc (QD g want) r.val)) h K
def vgQ(P:Program)(w0:World)(ops rest:List Oper)(s:Slots)(h:AHeap)(K:Slots->AHeap->Prop)(dst:Option Tmp)(want:Bool)(r:PR):Option Tmp->Prop
 |none=>Yn P w0 ops rest (putD s dst (.tuple [])) h K
 |some d=>vgP P w0 ops rest s h K dst (s.get d) want r
theorem qjU{want:Bool}{r:PR}{d:Tmp}:vgQ P w0 ops rest s h K dst want r (some d)=vgP P w0 ops rest s h K dst (s.get d) want r:=rfl
theorem qma{op:Op}{j:Nat}{want:Bool}(hp:Zc P op=true)(hk:pop P w0 h (s.keep (Qu ops ⟨dst,op,ty,pos,af,some (j,want)⟩)) op=pop P w0 h s op):
 Yn P w0 ops (⟨dst,op,ty,pos,af,some (j,want)⟩::rest) s h K=vgQ P w0 ops rest s h K dst want (pop P w0 h s op) (nthDst ops j):=by
 simp only[Yn];cases nthDst ops j with
 |none=>rfl
 |some d=>
  simp only[vgQ,vgP];refine propext ⟨fun⟨h0,V,h1,h2⟩=>?_,fun⟨h0,h1,h2⟩=>⟨h0,_,fun hg=>(UR hp).2 ⟨by rw[hk];exact h1 hg,by rw[hk],rfl⟩,h2⟩⟩;cases hg:QD (s.get d) want with
  |false=>
   rw[hg]at h2;exact⟨h0,fun e=>(by cases e),h2⟩
  |true=>
   obtain⟨g1,g2,_⟩:=(UR hp).1 (h1 hg);rw[hk]at g1 g2;subst g2;rw[hg]at h2;exact⟨h0,fun _=>g1,h2⟩
theorem qjC(x:Operand):Yn P w0 ops (⟨dst, .move x,ty,pos,af,none⟩::rest) s h K=((pop P w0 h s (.move x)).pre/\Yn P w0 ops rest (putD s dst (pop P w0 h s (.move x)).val) h K):=
 qiL rfl (by
  simp only[pop,ZW (XV (o:=⟨dst, .move x,ty,pos,af,none⟩) (x:=x) (by simp[Op.operands]))])
theorem qtA(x:Operand){j:Nat}{want:Bool}:Yn P w0 ops (⟨dst, .move x,ty,pos,af,some (j,want)⟩::rest) s h K=vgQ P w0 ops rest s h K dst want (pop P w0 h s (.move x)) (nthDst ops j):=
 qma rfl (by
  simp only[pop,ZW (XV (o:=⟨dst, .move x,ty,pos,af,some (j,want)⟩) (x:=x) (by simp[Op.operands]))])
theorem qtz(c a b:Operand):Yn P w0 ops (⟨dst, .pick c a b,ty,pos,af,none⟩::rest) s h K=((pop P w0 h s (.pick c a b)).pre/\Yn P w0 ops rest (putD s dst (pop P w0 h s (.pick c a b)).val) h K):=
 qiL rfl (by
  simp only[pop,ZW (XV (o:=⟨dst, .pick c a b,ty,pos,af,none⟩) (x:=c) (by simp[Op.operands])),ZW (XV (o:=⟨dst, .pick c a b,ty,pos,af,none⟩) (x:=a) (by simp[Op.operands])),ZW (XV (o:=⟨dst, .pick c a b,ty,pos,af,none⟩) (x:=b) (by simp[Op.operands]))])
theorem qjT(o:BinOp)(t:TypeId)(x y:Operand)(u:TypeId):Yn P w0 ops (⟨dst, .binOp o t x y u,ty,pos,af,none⟩::rest) s h K=((pop P w0 h s (.binOp o t x y u)).pre/\Yn P w0 ops rest (putD s dst (pop P w0 h s (.binOp o t x y u)).val) h K):=
 qiL rfl (by
  simp only[pop,ZW (XV (o:=⟨dst, .binOp o t x y u,ty,pos,af,none⟩) (x:=x) (by simp[Op.operands])),ZW (XV (o:=⟨dst, .binOp o t x y u,ty,pos,af,none⟩) (x:=y) (by simp[Op.operands]))])
theorem vg_unOp(o:UnOp)(t:TypeId)(x:Operand){j:Nat}{want:Bool}:Yn P w0 ops (⟨dst, .unOp o t x,ty,pos,af,some (j,want)⟩::rest) s h K=vgQ P w0 ops rest s h K dst want (pop P w0 h s (.unOp o t x)) (nthDst ops j):=
 qma rfl (by
  simp only[pop,ZW (XV (o:=⟨dst, .unOp o t x,ty,pos,af,some (j,want)⟩) (x:=x) (by simp[Op.operands]))])
theorem qcW(t:TypeId)(x:Operand):Yn P w0 ops (⟨dst, .load t x,ty,pos,af,none⟩::rest) s h K=((pop P w0 h s (.load t x)).pre/\Yn P w0 ops rest (putD s dst (pop P w0 h s (.load t x)).val) h K):=
 qiL rfl (by
  simp only[pop,ZW (XV (o:=⟨dst, .load t x,ty,pos,af,none⟩) (x:=x) (by simp[Op.operands]))])
theorem qtB(t:TypeId)(x:Operand){j:Nat}{want:Bool}:Yn P w0 ops (⟨dst, .load t x,ty,pos,af,some (j,want)⟩::rest) s h K=vgQ P w0 ops rest s h K dst want (pop P w0 h s (.load t x)) (nthDst ops j):=
 qma rfl (by
  simp only[pop,ZW (XV (o:=⟨dst, .load t x,ty,pos,af,some (j,want)⟩) (x:=x) (by simp[Op.operands]))])
theorem ZU(t:TypeId)(x:Operand)(f:Nat):Yn P w0 ops (⟨dst, .fieldAddr t x f,ty,pos,af,none⟩::rest) s h K=((pop P w0 h s (.fieldAddr t x f)).pre/\Yn P w0 ops rest (putD s dst (pop P w0 h s (.fieldAddr t x f)).val) h K):=
 qiL rfl (by
  simp only[pop,ZW (XV (o:=⟨dst, .fieldAddr t x f,ty,pos,af,none⟩) (x:=x) (by simp[Op.operands]))])
theorem qgK(t:TypeId)(x:Operand)(f:Nat){j:Nat}{want:Bool}:Yn P w0 ops (⟨dst, .fieldAddr t x f,ty,pos,af,some (j,want)⟩::rest) s h K=vgQ P w0 ops rest s h K dst want (pop P w0 h s (.fieldAddr t x f)) (nthDst ops j):=
 qma rfl (by
  simp only[pop,ZW (XV (o:=⟨dst, .fieldAddr t x f,ty,pos,af,some (j,want)⟩) (x:=x) (by simp[Op.operands]))])
theorem qdZ(t:TypeId)(x i:Operand):Yn P w0 ops (⟨dst, .indexAddr t x i,ty,pos,af,none⟩::rest) s h K=((pop P w0 h s (.indexAddr t x i)).pre/\Yn P w0 ops rest (putD s dst (pop P w0 h s (.indexAddr t x i)).val) h K):=
 qiL rfl (by
  simp only[pop,ZW (XV (o:=⟨dst, .indexAddr t x i,ty,pos,af,none⟩) (x:=x) (by simp[Op.operands])),ZW (XV (o:=⟨dst, .indexAddr t x i,ty,pos,af,none⟩) (x:=i) (by simp[Op.operands]))])
theorem qgJ(t:TypeId)(x i:Operand){j:Nat}{want:Bool}:Yn P w0 ops (⟨dst, .indexAddr t x i,ty,pos,af,some (j,want)⟩::rest) s h K=vgQ P w0 ops rest s h K dst want (pop P w0 h s (.indexAddr t x i)) (nthDst ops j):=
 qma rfl (by
  simp only[pop,ZW (XV (o:=⟨dst, .indexAddr t x i,ty,pos,af,some (j,want)⟩) (x:=x) (by simp[Op.operands])),ZW (XV (o:=⟨dst, .indexAddr t x i,ty,pos,af,some (j,want)⟩) (x:=i) (by simp[Op.operands]))])
theorem qot(x:Operand):Yn P w0 ops (⟨dst, .nilCheck x,ty,pos,af,none⟩::rest) s h K=((pop P w0 h s (.nilCheck x)).pre/\Yn P w0 ops rest (putD s dst (pop P w0 h s (.nilCheck x)).val) h K):=
 qiL rfl (by
  simp only[pop,ZW (XV (o:=⟨dst, .nilCheck x,ty,pos,af,none⟩) (x:=x) (by simp[Op.operands]))])
theorem qou(x:Operand){j:Nat}{want:Bool}:Yn P w0 ops (⟨dst, .nilCheck x,ty,pos,af,some (j,want)⟩::rest) s h K=vgQ P w0 ops rest s h K dst want (pop P w0 h s (.nilCheck x)) (nthDst ops j):=
 qma rfl (by
  simp only[pop,ZW (XV (o:=⟨dst, .nilCheck x,ty,pos,af,some (j,want)⟩) (x:=x) (by simp[Op.operands]))])
theorem vp_len(a:List Operand)(t:Array TypeId):Yn P w0 ops (⟨dst, .call ⟨.builtin .len,a.toArray,t⟩,ty,pos,af,none⟩::rest) s h K=((pop P w0 h s (.call ⟨.builtin .len,a.toArray,t⟩)).pre/\Yn P w0 ops rest (putD s dst (pop P w0 h s (.call ⟨.builtin .len,a.toArray,t⟩)).val) h K):=
 qiL rfl (by
  simp only[pop];rw[qhs fun x hx=>XV (o:=⟨dst, .call ⟨.builtin .len,a.toArray,t⟩,ty,pos,af,none⟩) (by simp[Op.operands,Call.operands,hx])])
theorem qbg{fo:Operand}{args:List Operand}{ts:Array TypeId}{f:FuncId}{cap xs:List AVal}{V:AVal}(hf:ev s fo= .func f cap)(hx:evs s args++cap=xs)(hc:ACall P w0 f xs h (fun x h'=>x=V/\h'=h))
 (hk:Yn P w0 ops rest (putD s dst V) h K):Yn P w0 ops (⟨dst, .call ⟨.value fo,args.toArray,ts⟩,ty,pos,af,none⟩::rest) s h K:=by
 simp only[Yn];refine⟨V,?_,hk⟩;have e1:ev (s.keep (Qu ops ⟨dst, .call ⟨.value fo,args.toArray,ts⟩,ty,pos,af,none⟩)) fo= .func f cap:=by
  rw[ZW (XV (by simp[Op.operands,Call.operands]))];exact hf
 have e2:evs (s.keep (Qu ops ⟨dst, .call ⟨.value fo,args.toArray,ts⟩,ty,pos,af,none⟩)) args=evs s args:=
  qhs fun x hx=>XV (by simp[Op.operands,Call.operands,hx])
 simp only[eop,e1,e2,hx];exact hc
theorem qgm{fo:Operand}{args:List Operand}{ts:Array TypeId}{j:Nat}{want:Bool}{f:FuncId}{cap xs:List AVal}{V:AVal}(hk:Wn (gv s ops j)=true)
 (hf:QD (gv s ops j) want=true->ev s fo= .func f cap/\evs s args++cap=xs) (hc:QD (gv s ops j) want=true->ACall P w0 f xs h (fun x h'=>x=V/\h'=h))
 (hr:Yn P w0 ops rest (putD s dst (Qc (QD (gv s ops j) want) V)) h K):
 Yn P w0 ops (⟨dst, .call ⟨.value fo,args.toArray,ts⟩,ty,pos,af,some (j,want)⟩::rest) s h K:=by
 unfold gv at hk hf hc hr;simp only[Yn];cases hj:nthDst ops j with
 |none=>rw[hj]at hk;cases hk
 |some d=>
  simp only[hj]at hk hf hc hr|-
  refine⟨hk,V,fun hg=>?_,hr⟩;have e1:ev (s.keep (Qu ops ⟨dst, .call ⟨.value fo,args.toArray,ts⟩,ty,pos,af,some (j,want)⟩)) fo= .func f cap:=by
   rw[ZW (XV (by simp[Op.operands,Call.operands]))];exact(hf hg).1
  have e2:evs (s.keep (Qu ops ⟨dst, .call ⟨.value fo,args.toArray,ts⟩,ty,pos,af,some (j,want)⟩)) args=evs s args:=
   qhs fun x hx=>XV (by simp[Op.operands,Call.operands,hx])
  simp only[eop,e1,e2,(hf hg).2];exact hc hg
end
end Go.AM
