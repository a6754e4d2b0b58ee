/-
  Texts of this proof, joined: AmA, AmB, AmC, AmD, AmE, AmF, AmG, AmH, AmI, AmJ, AmK, AmL, AmM, AmN, AmO, AmP, AmQ.
  Conditions: none.
-/
import Derived.WalkKit
import Derived.Lib.Strings
import Derived.Laws.BytesArg
import Derived.Laws.StructEq
import Derived.ChangeKeysEq
import Derived.Laws.Tables
import Derived.Laws.MakeOwn
import Derived.Laws.IdiomStrings
import Derived.Still
import Derived.StillTail
import Derived.ProofKit
import Derived.OpenShut
import Derived.ShutString
import Derived.ChangeOld
import Derived.Below
set_option linter.unusedSimpArgs false
set_option linter.unnecessarySimpa false
set_option linter.unusedVariables false
theorem zqP {p q : Prop} (k : q) (h : p := by first | exact True.intro | trivial | omega | (intro hg; simp only [Bool.and_eq_true, Bool.or_eq_true, Bool.not_eq_true', Bool.and_eq_false_iff, Bool.or_eq_false_iff, Bool.not_eq_false', decide_eq_true_eq, decide_eq_false_iff_not, eqNil] at hg; omega)) : p ∧ q := ⟨h, k⟩
theorem zqA {p : Prop} (h : p := by repeat (first | exact AHeap.set_same _ _ _ | assumption | refine (AHeap.set_ne _ _ (by first | assumption | exact Ne.symm (by assumption))).trans ?_)) : p := h
theorem zqB {p : Prop} (h : p := by repeat (first | exact Sub.refl _ | assumption | refine Sub.set_both ?_ _ _ | refine Sub.trans_set ?_ (by repeat (first | assumption | refine (AHeap.set_ne _ _ (by first | assumption | exact Ne.symm (by assumption))).trans ?_)))) : p := h
theorem zqC {p : Prop} (h : p := by repeat (first | exact Sub.refl _ | assumption | refine Sub.trans_set ?_ (by assumption))) : p := h
theorem zqD {p : Prop} (h : p := by first | exact Nat.le_refl _ | decide | (simp; done) | (simp; omega)) : p := h
theorem Ka.{u}{α:Sort u}{a b:α}:(∀{_:Decidable True},(if True then a else b)=a)∧∀{_:Decidable False},(if False then a else b)=b:=⟨if_true _ _,if_false _ _⟩
open Option renaming map_eq_some_iff->Kc,map_some->KI,bind_some->KO
open List renaming map_cons->Ke,eq_nil_of_length_eq_zero->Kg,cons_append->Kh,take_succ_cons->Ki,set_cons_succ->Kj,getD_cons_succ->Kn,getD->Ko,getElem?_drop->Kq,getElem?_eq_none->Kr,getElem?_cons_zero->Kz,size_toArray->KC,all_cons->KE,getElem?_cons_succ->KM,range->KP,mem_cons->KY,length_cons->KZ,ext_getElem?->K3,getElem?_take->K4,getElem?_set->K5,length_take->K6,length_drop->K7,append_assoc->Jb,getElem?_append->Jc,length_append->Jd,nil_append->Jf,mem_cons_self->Jg,mem_cons_of_mem->Jh,length_map->Jp,take_length->Jq,range'->Ju,getElem?_eq_some_iff->Jz,all_eq_true->JB,mem_range->JC,getElem?_eq_getElem->JD
open Nat renaming lt_two_pow_self->Kk,lt_of_lt_of_le->Kl,mod_lt->Km,le_of_not_lt->Kt,add_assoc->Kw,add_mul->KJ,le_refl->KL,lt_or_ge->KU,add_zero->K8,zero_mul->K9,mul_le_mul_right->Ja,zero_add->Jr,zero_le->Js,strongRecOn->Jv,eq_or_lt_of_le->JA
open Array renaming getD_eq_getD_getElem?->Ku,getElem?_setIfInBounds_ne->Kv,ext'->KF,length_toList->KN,ext_getElem?->KQ,getElem?_modify->KR,getElem?_setIfInBounds->KS,getElem?_eq_none->KV,range->Je,toList_push->Ji,size_pos_iff->Jk,mem_filter->Jl,size_append->Jm,empty_append->Jn,size_map->Jo,replicate->Jw,getElem?_append->Jy,getD->JE
open Bool renaming and_eq_true->Ky,eq_iff_iff->KA,false_eq_true->KX,not_eq_true'->Jj
open UInt8 renaming ofNat->KD
open Int renaming eq_ofNat_of_zero_le->KG,le_trans->KH
open Iff renaming rfl->Jt
namespace Go.AM
open Go.RowKit (Below)
inductive Loc where
 |base (b:Nat)
 |own (k:Nat)
 deriving DecidableEq
inductive Cap where
 |exact(c:Nat)
 |grow (es:Nat)
 deriving DecidableEq
inductive AVal where
 |dead
 |bool (b:Bool)
 |int (k:IntKind) (n:Int)
 |str (s:List UInt8)
 |nilPtr
 |ptr (l:Loc) (o:Nat)
 |nilSlice
 |slice (l:Loc) (o len:Nat) (c:Cap)
 |nilFunc
 |func (f:FuncId) (cap:List AVal)
 |nilIface
 |iface (t:TypeId) (v:AVal)
 |nilMap
 |agg (cs:List AVal)
 |tuple (vs:List AVal)
 |map (k:Nat)
 |mapO (clock:Nat)
 |mapE (born:Nat) (key val:AVal)
 |iterO (m:Nat) (since:Nat) (seen:List Nat) (last:Nat)
instance:Inhabited AVal:=⟨.dead⟩
structure Place where
 blk:Nat
 off:Nat
 room:Nat
abbrev PMap:=Nat->Option Place
def Xf(fi:PMap):Loc->Nat->Option Addr
 | .base b,o=>some ⟨b,o,none⟩
 | .own k,o=>(fi k).map fun p=>⟨p.blk,p.off+o,none⟩
mutual
def VR(fi:PMap):AVal->Value->Prop
 | .dead,_=>True
 | .bool b,v=>v= .bool b
 | .int k n,v=>v= .int k n
 | .str s,v=>v= .string ⟨⟨s⟩⟩
 | .nilPtr,v=>v= .pointer none
 | .ptr l o,v=>∃a,Xf fi l o=some a/\v= .pointer (some a)
 | .nilSlice,v=>v= .slice none 0 0
 | .slice l o len c,v=>match c with
   | .exact c=>∃a,v= .slice (some a) len c/\(c≠0\/len≠0->Xf fi l o=some a)
   | .grow es=>∃k p c a,l= .own k/\fi k=some p/\v= .slice (some a) len c/\len<=c/\(c≠0->a=⟨p.blk,p.off+o,none⟩/\o+c*es=p.room)
 | .nilFunc,v=>v= .nilFunc
 | .func f cs,v=>∃vs:List Value,v= .func (.func f) #[] vs.toArray/\VRs fi cs vs
 | .nilIface,v=>v= .nilIface
 | .iface t x,v=>∃y,v= .iface t y/\VR fi x y
 | .nilMap,v=>v= .map none
 | .agg cs,v=>∃vs:List Value,v= .agg vs.toArray/\VRs fi cs vs
 | .tuple cs,v=>∃vs:List Value,v= .tuple vs.toArray/\VRs fi cs vs
 | .map k,v=>∃p,fi k=some p/\v= .map (some p.blk)
 | .mapO _,_=>False
 | .mapE _ _ _,_=>False
 | .iterO _ _ _ _,_=>False
def VRs(fi:PMap):List AVal->List Value->Prop
 |[],vs=>vs=[]
 |c::cs,vs=>∃v vs',vs=v::vs'/\VR fi c v/\VRs fi cs vs'
end
def PMap.le(fi Ps:PMap):Prop:=∀k p,fi k=some p->Ps k=some p
theorem PMap.le_refl(fi:PMap):fi.le fi:=fun _ _ h=>h
theorem PMap.le_trans{fi Ps χ:PMap}(h:fi.le Ps)(h':Ps.le χ):fi.le χ:=fun k p hk=>h' k p (h k p hk)
theorem qif{fi Ps:PMap}(h:fi.le Ps){l:Loc}{o:Nat}{a:Addr}(ha:Xf fi l o=some a):Xf Ps l o=some a:=by
 cases l with
 |base b=>exact ha
 |own k=>
  simp only[Xf,Kc]at ha|-
  obtain⟨p,hp,rfl⟩:=ha;exact⟨p,h k p hp,rfl⟩
mutual
theorem WG{fi Ps:PMap}(h:fi.le Ps):∀(x:AVal) (v:Value),VR fi x v->VR Ps x v
 | .dead,_,hv=>hv
 | .bool _,_,hv=>hv
 | .int _ _,_,hv=>hv
 | .str _,_,hv=>hv
 | .nilPtr,_,hv=>hv
 | .ptr _ _,_,hv=>by
   simp only[VR]at hv|-
   obtain⟨a,ha,rfl⟩:=hv;exact⟨a,qif h ha,rfl⟩
 | .nilSlice,_,hv=>hv
 | .slice _ _ _ c,_,hv=>by
   cases c with
   |exact c=>
    simp only[VR]at hv|-
    obtain⟨a,rfl,ha⟩:=hv;exact⟨a,rfl,fun hc=>qif h (ha hc)⟩
   |grow es=>
    simp only[VR]at hv|-
    obtain⟨k,p,c,a,hl,hp,rest⟩:=hv;exact⟨k,p,c,a,hl,h k p hp,rest⟩
 | .nilFunc,_,hv=>hv
 | .func _ cs,_,hv=>by
   simp only[VR]at hv|-
   obtain⟨vs,rfl,hs⟩:=hv;exact⟨vs,rfl,qbo h cs vs hs⟩
 | .nilIface,_,hv=>hv
 | .iface _ x,_,hv=>by
   simp only[VR]at hv|-
   obtain⟨y,rfl,hy⟩:=hv;exact⟨y,rfl,WG h x y hy⟩
 | .nilMap,_,hv=>hv
 | .agg cs,_,hv=>by
   simp only[VR]at hv|-
   obtain⟨vs,rfl,hs⟩:=hv;exact⟨vs,rfl,qbo h cs vs hs⟩
 | .tuple cs,_,hv=>by
   simp only[VR]at hv|-
   obtain⟨vs,rfl,hs⟩:=hv;exact⟨vs,rfl,qbo h cs vs hs⟩
 | .map k,_,hv=>by
   simp only[VR]at hv|-
   obtain⟨p,hp,rfl⟩:=hv;exact⟨p,h k p hp,rfl⟩
 | .mapO _,_,hv=>by simp only[VR]at hv
 | .mapE _ _ _,_,hv=>by simp only[VR]at hv
 | .iterO _ _ _ _,_,hv=>by simp only[VR]at hv
theorem qbo{fi Ps:PMap}(h:fi.le Ps):∀(xs:List AVal) (vs:List Value),VRs fi xs vs->VRs Ps xs vs
 |[],_,hv=>hv
 |x::xs,vs,hv=>by
  simp only[VRs]at hv|-
  obtain⟨v,vs',rfl,h1,h2⟩:=hv;exact⟨v,vs',rfl,WG h x v h1,qbo h xs vs' h2⟩
end
def absS:Value->AVal
 | .bool b=> .bool b
 | .int k n=> .int k n
 | .string s=> .str s.data.toList
 | .pointer none=> .nilPtr
 | .pointer (some ⟨b,o,none⟩)=> .ptr (.base b) o
 | .slice none 0 0=> .nilSlice
 | .slice (some ⟨b,o,none⟩) len cap=> .slice (.base b) o len (.exact cap)
 | .slice (some ⟨b,o,some _⟩) 0 0=> .slice (.base b) o 0 (.exact 0)
 | .nilFunc=> .nilFunc
 | .nilIface=> .nilIface
 | .map none=> .nilMap
 |_=> .dead
def absV:Value->AVal
 | .agg cs=> .agg (cs.toList.map absS)
 | .tuple cs=> .tuple (cs.toList.map absS)
 |v=>absS v
theorem qkL(fi:PMap)(v:Value):VR fi (absS v) v:=by
 unfold absS;split<;>simp[VR,Xf]
theorem qae(fi:PMap):∀l:List Value,VRs fi (l.map absS) l
 |[]=>by simp[VRs]
 |v::l=>by
  simp only[Ke,VRs];exact⟨v,l,rfl,qkL fi v,qae fi l⟩
theorem qpy(fi:PMap)(v:Value):VR fi (absV v) v:=by
 unfold absV;split
 ·rename_i cs
  simp only[VR];exact⟨cs.toList,by simp,qae fi _⟩
 ·rename_i cs
  simp only[VR];exact⟨cs.toList,by simp,qae fi _⟩
 ·exact qkL fi v
theorem XA{fi:PMap}:∀{xs:List AVal} {vs:List Value},VRs fi xs vs->vs.length=xs.length
 |[],_,h=>by simp only[VRs]at h;simp[h]
 |x::xs,vs,h=>by
  simp only[VRs]at h;obtain⟨v,vs',rfl,_,h2⟩:=h;simp[XA h2]
theorem qiK{fi:PMap}:∀{xs:List AVal} {vs:List Value},VRs fi xs vs->∀(j:Nat) (d:Value),j<xs.length->VR fi (xs.getD j .dead) (vs.getD j d)
 |[],_,_,j,_,hj=>by simp at hj
 |x::xs,vs,h,j,d,hj=>by
  simp only[VRs]at h;obtain⟨v,vs',rfl,h1,h2⟩:=h;cases j with
  |zero=>simpa using h1
  |succ j=>simpa using qiK h2 j d (by simpa using hj)
theorem qmy{fi:PMap}:∀{xs:List AVal} {vs:List Value},vs.length=xs.length->(∀j,j<xs.length->VR fi (xs.getD j .dead) (vs.getD j default))->VRs fi xs vs
 |[],vs,hl,_=>by simp only[VRs];exact Kg (by simpa using hl)
 |x::xs,vs,hl,h=>by
  cases vs with
  |nil=>simp at hl
  |cons v vs'=>
   simp only[VRs];exact⟨v,vs',rfl,by simpa using h 0 (by simp),qmy (by simpa using hl) fun j hj=>by simpa using h (j+1) (by simpa using hj)⟩
theorem qbJ{fi:PMap}{xs ys:List AVal}{vs us:List Value}(h:VRs fi xs vs)(h':VRs fi ys us):VRs fi (xs++ys) (vs++us):=by
 induction xs generalizing vs with
 |nil=>simp only[VRs]at h;subst h;simpa using h'
 |cons x xs ih=>
  simp only[VRs]at h;obtain⟨v,vs',rfl,h1,h2⟩:=h;simp only[Kh,VRs];exact⟨v,vs'++us,rfl,h1,ih h2⟩
theorem qiL{fi:PMap}:∀(n:Nat) {xs:List AVal} {vs:List Value},VRs fi xs vs->VRs fi (xs.drop n) (vs.drop n)
 |0,_,_,h=>by simpa using h
 |n+1,[],vs,h=>by simp only[VRs]at h;subst h;simp[VRs]
 |n+1,x::xs,vs,h=>by
  simp only[VRs]at h;obtain⟨v,vs',rfl,_,h2⟩:=h;simpa using qiL n h2
theorem qmv{fi:PMap}:∀(n:Nat) {xs:List AVal} {vs:List Value},VRs fi xs vs->VRs fi (xs.take n) (vs.take n)
 |0,_,_,_=>by simp[VRs]
 |n+1,[],vs,h=>by simp only[VRs]at h;subst h;simp[VRs]
 |n+1,x::xs,vs,h=>by
  simp only[VRs]at h;obtain⟨v,vs',rfl,h1,h2⟩:=h;simp only[Ki,VRs];exact⟨v,vs'.take n,rfl,h1,qmv n h2⟩
theorem VRs_set{fi:PMap}:∀{xs:List AVal} {vs:List Value},VRs fi xs vs->∀(j:Nat) {x:AVal} {v:Value},VR fi x v->VRs fi (xs.set j x) (vs.set j v)
 |[],vs,h,j,_,_,_=>by simp only[VRs]at h;subst h;simp[VRs]
 |y::xs,vs,h,j,x,v,hv=>by
  simp only[VRs]at h;obtain⟨u,vs',rfl,h1,h2⟩:=h;cases j with
  |zero=>simp only[List.set_cons_zero,VRs];exact⟨v,vs',rfl,hv,h2⟩
  |succ j=>simp only[Kj,VRs];exact⟨u,vs'.set j v,rfl,h1,VRs_set h2 j hv⟩
structure Blk where
 cells:List AVal
 frz:Nat:=0
abbrev AHeap:=Nat->Option Blk
def AHeap.set(h:AHeap)(k:Nat)(b:Blk):AHeap:=fun j=>if j=k then some b else h j
def AHeap.del(h:AHeap)(k:Nat):AHeap:=fun j=>if j=k then none else h j
theorem AHeap.set_same(h:AHeap)(k:Nat)(b:Blk):h.set k b k=some b:=by simp[AHeap.set]
theorem AHeap.set_ne(h:AHeap){k j:Nat}(b:Blk)(hj:j≠k):h.set k b j=h j:=by simp[AHeap.set,hj]
theorem AHeap.set_set(h:AHeap)(k:Nat)(b c:Blk):(h.set k b).set k c=h.set k c:=by
 funext j;by_cases e:j=k<;>simp[AHeap.set,e]
structure RowOk(fi:PMap)(b:Blk)(p:Place)(w:World):Prop where
 row:∃cs e lo hi,w.heap[p.blk]?=some (.cells cs e (lo,hi))/\p.off+p.room=cs.size/\b.cells.length<=p.room/\b.frz<=b.cells.length/\
  VRs fi b.cells ((cs.toList.drop p.off).take b.cells.length)/\(lo<=hi/\∀i,lo<=i->i<hi->(0<b.frz/\i<p.off+b.frz)\/cs.size<=i)
def ERel(fi:PMap):List AVal->List MapEntry->Prop
 |[],l=>l=[]
 |c::cs,l=>∃e l',l=e::l'/\(match c with
  | .mapE b k v=>e.born=b/\VR fi k e.key/\VR fi v e.val
  |_=>False)/\ERel fi cs l'
def ORel(fi:PMap):List AVal->Obj->Prop
 | .mapO c::es, .map entries clock=>clock=c/\ERel fi es entries.toList
 |[.iterO m since seen last], .mapIter (some r) since' seen' last'=>(∃p,fi m=some p/\r=p.blk)/\since'=since/\seen'.toList=seen/\last'=last
 |_,_=>False
structure ObjOk(fi:PMap)(b:Blk)(p:Place)(w:World):Prop where
 frz:b.frz=b.cells.length+1
 at_:p.off=0/\p.room=0
 obj:∃o,w.heap[p.blk]?=some o/\ORel fi b.cells o
def BlkOk(fi:PMap)(b:Blk)(p:Place)(w:World):Prop:=RowOk fi b p w\/ObjOk fi b p w
theorem BlkOk.row{fi:PMap}{b:Blk}{p:Place}{w:World}(h:BlkOk fi b p w)(hf:b.frz<=b.cells.length):∃cs e lo hi,w.heap[p.blk]?=some (.cells cs e (lo,hi))/\p.off+p.room=cs.size/\b.cells.length<=p.room/\b.frz<=b.cells.length/\
 VRs fi b.cells ((cs.toList.drop p.off).take b.cells.length)/\(lo<=hi/\∀i,lo<=i->i<hi->(0<b.frz/\i<p.off+b.frz)\/cs.size<=i):=by
 rcases h with h|h
 ·exact h.row
 ·have:=h.frz
  omega
theorem BlkOk.obj{fi:PMap}{b:Blk}{p:Place}{w:World}(h:BlkOk fi b p w)(hf:b.frz=b.cells.length+1):ObjOk fi b p w:=by
 rcases h with h|h
 ·obtain⟨cs,e,lo,hi,h1,h2,h3,h4,h5,h6⟩:=h.row
  omega
 ·exact h
theorem ERel.mono{fi Ps:PMap}(hl:fi.le Ps):∀{cs:List AVal} {l:List MapEntry},ERel fi cs l->ERel Ps cs l
 |[],_,h=>h
 |c::cs,l,h=>by
  obtain⟨e,l',h1,h2,h3⟩:=h;refine⟨e,l',h1,?_,h3.mono hl⟩;cases c<;>first|exact h2.elim|exact⟨h2.1,WG hl _ _ h2.2.1,WG hl _ _ h2.2.2⟩
theorem ORel.mono{fi Ps:PMap}(hl:fi.le Ps){cs:List AVal}{o:Obj}(h:ORel fi cs o):ORel Ps cs o:=by
 unfold ORel at h|-
 split at h
 ·exact⟨h.1,h.2.mono hl⟩
 ·obtain⟨⟨p,h1,h2⟩,h3⟩:=h
  exact⟨⟨p,hl _ _ h1,h2⟩,h3⟩
 ·exact h.elim
def qaT(k:Nat):Option TypeId:=if k=2^k.log2 then some (k.log2%4096)else none
def TyOk(k:Nat)(p:Place)(w:World):Prop:=∀t,qaT k=some t->p.off=0/\∃cs fr,w.heap[p.blk]?=some (.cells cs t fr)
theorem TyOk.world{k:Nat}{p:Place}{w w':World}(h:TyOk k p w)(hw:w'.heap[p.blk]?=w.heap[p.blk]?):TyOk k p w':=fun t ht=>by rw[hw];exact h t ht
theorem TyOk.none{k:Nat}{p:Place}{w:World}(h:qaT k=Option.none):TyOk k p w:=fun t ht=>by rw[h]at ht;cases ht
theorem tyOf_pow(e:TypeId)(he:e<4096)(N:Nat):∃k,N<=k/\qaT k=some e:=by
 refine⟨2^(4096*N+e),?_,?_⟩
 ·have:=@Kk (4096*N+e)
  omega
 ·unfold qaT
  rw[Nat.log2_two_pow,if_pos rfl,Nat.mul_add_mod,Nat.mod_eq_of_lt he]
theorem qpL(N L:Nat):∃M,N<=M/\∀i,i<L->qaT (M+i)=none:=by
 refine⟨2^(N+L+1)+1,?_,fun i hi=>?_⟩
 ·have:=@Kk (N+L+1)
  omega
 ·have h1:=@Kk (N+L+1)
  have h2:(2^(N+L+1)+1+i).log2=N+L+1:=by
   rw[Nat.log2_eq_iff (by omega)];rw[Nat.pow_succ 2 (N+L+1)];omega
  unfold qaT;rw[h2,if_neg (by omega)]
structure HRel(wz:World)(fi:PMap)(h:AHeap)(w:World):Prop where
 below:Below wz.heap.size wz w
 own:∀k b,h k=some b->∃p,fi k=some p/\wz.heap.size<=p.blk/\BlkOk fi b p w
 inj:∀k k' b b' p p',h k=some b->h k'=some b'->fi k=some p->fi k'=some p'->p.blk=p'.blk->k=k'
 lt:∀k p,fi k=some p->p.blk<w.heap.size
 fin:∃N,∀k,N<=k->fi k=none
 typ:∀k p,fi k=some p->TyOk k p w
theorem HRel.start(w:World):HRel w (fun _=>none) (fun _=>none) w:=
 ⟨Below.refl _ _,by simp,by simp,by simp,⟨0,by simp⟩,by simp⟩
theorem HRel.forget{wz w:World}{fi:PMap}{h h':AHeap}(hr:HRel wz fi h w)(hs:∀k b,h' k=some b->h k=some b):HRel wz fi h' w:=
 ⟨hr.below,fun k b hb=>hr.own k b (hs k b hb),fun k k' b b' p p' hb hb'=>hr.inj k k' b b' p p' (hs k b hb) (hs k' b' hb'),hr.lt,hr.fin,hr.typ⟩
theorem BlkOk.mono{fi Ps:PMap}{b:Blk}{p:Place}{w:World}(h:BlkOk fi b p w)(hl:fi.le Ps):BlkOk Ps b p w:=by
 rcases h with h|h
 ·obtain⟨cs,e,lo,hi,h1,h2,h3,h4,h5,h6⟩:=h.row
  exact .inl ⟨cs,e,lo,hi,h1,h2,h3,h4,qbo hl _ _ h5,h6⟩
 ·obtain⟨o,h1,h2⟩:=h.obj
  exact .inr ⟨h.frz,h.at_,o,h1,h2.mono hl⟩
theorem BlkOk.world{fi:PMap}{b:Blk}{p:Place}{w w':World}(h:BlkOk fi b p w)(hw:w'.heap[p.blk]?=w.heap[p.blk]?):BlkOk fi b p w':=by
 rcases h with h|h
 ·obtain⟨cs,e,lo,hi,h1,rest⟩:=h.row
  exact .inl ⟨cs,e,lo,hi,by rw[hw];exact h1,rest⟩
 ·obtain⟨o,h1,h2⟩:=h.obj
  exact .inr ⟨h.frz,h.at_,o,by rw[hw];exact h1,h2⟩
theorem HRel.later{wz w w':World}{fi:PMap}{h:AHeap}(hr:HRel wz fi h w)(hb:Below w.heap.size w w'):HRel wz fi h w':=by
 refine⟨hr.below.trans (hb.mono hr.below.size),fun k b hk=>?_,hr.inj,fun k p hk=>Kl (hr.lt k p hk) hb.size,hr.fin,fun k p hk=>(hr.typ k p hk).world (hb.block _ (hr.lt k p hk))⟩;obtain⟨p,hp,h1,h2⟩:=hr.own k b hk;exact⟨p,hp,h1,h2.world (hb.block _ (hr.lt k p hp))⟩
theorem HRel.push{wz w w':World}{fi:PMap}{h:AHeap}(hr:HRel wz fi h w)(k:Nat)(hk:h k=none)(hφ:fi k=none)(b:Blk)(p:Place)
 (hb:Below w.heap.size w w') (hp:w.heap.size<=p.blk) (hp':p.blk<w'.heap.size) (ok:BlkOk (fun j=>if j=k then some p else fi j) b p w') (ht:TyOk k p w'):
 fi.le (fun j=>if j=k then some p else fi j)/\HRel wz (fun j=>if j=k then some p else fi j) (h.set k b) w':=by
 have hle:fi.le (fun j=>if j=k then some p else fi j):=fun j q hj=>by
  by_cases e:j=k
  ·subst e;rw[hφ]at hj;cases hj
  ·simp[e,hj]
 have old:∀j b',h j=some b'->j≠k:=fun j b' hj e=>by subst e;rw[hk]at hj;cases hj
 refine⟨hle,hr.below.trans (hb.mono hr.below.size),fun j b' hj=>?_,fun j j' b1 b2 p1 p2 h1 h2 f1 f2 e=>?_,fun j q hj=>?_,?_,fun j q hj=>?_⟩
 ·by_cases e:j=k
  ·subst e
   simp only[AHeap.set_same,Option.some.injEq]at hj;subst hj;exact⟨p,by simp,Nat.le_trans hr.below.size hp,ok⟩
  ·rw[AHeap.set_ne _ _ e]at hj
   obtain⟨q,hq,h1,h2⟩:=hr.own j b' hj;exact⟨q,by simp[e,hq],h1,(h2.world (hb.block _ (hr.lt j q hq))).mono hle⟩
 ·by_cases e1:j=k<;>by_cases e2:j'=k
  ·rw[e1,e2]
  ·exfalso
   simp only[e1,if_true,Option.some.injEq]at f1;simp only[e2,if_false]at f2;have:=hr.lt j' p2 f2;subst f1;omega
  ·exfalso
   simp only[e2,if_true,Option.some.injEq]at f2;simp only[e1,if_false]at f1;have:=hr.lt j p1 f1;subst f2;omega
  ·rw[AHeap.set_ne _ _ e1]at h1
   rw[AHeap.set_ne _ _ e2]at h2;simp only[e1,e2,if_false]at f1 f2;exact hr.inj j j' b1 b2 p1 p2 h1 h2 f1 f2 e
 ·by_cases e:j=k
  ·simp only[e,if_true,Option.some.injEq]at hj
   subst hj;exact hp'
  ·simp only[e,if_false]at hj
   exact Kl (hr.lt j q hj) hb.size
 ·obtain⟨N,hN⟩:=hr.fin
  exact⟨max N (k+1),fun j hj=>by
   have h1:j≠k:=by omega
   simp only[h1,if_false];exact hN j (by omega)⟩
 ·by_cases e:j=k
  ·subst e
   simp only[if_true,Option.some.injEq]at hj;subst hj;exact ht
  ·simp only[e,if_false]at hj
   exact(hr.typ j q hj).world (hb.block _ (hr.lt j q hj))
theorem HRel.free{wz w:World}{fi:PMap}{h:AHeap}(hr:HRel wz fi h w){k:Nat}(hφ:fi k=none):h k=none:=by
 cases e:h k with
 |none=>rfl
 |some b=>
  obtain⟨p,hp,_⟩:=hr.own _ b e;rw[hφ]at hp;cases hp
theorem HRel.freshN{wz w:World}{fi:PMap}{h:AHeap}(hr:HRel wz fi h w):∃k,h k=none/\fi k=none/\qaT k=none:=by
 obtain⟨N,hN⟩:=hr.fin;obtain⟨M,h1,h2⟩:=qpL N 1;exact⟨M,hr.free (hN M h1),hN M h1,h2 0 (by omega)⟩
theorem HRel.freshE{wz w:World}{fi:PMap}{h:AHeap}(hr:HRel wz fi h w)(e:TypeId):∃k,h k=none/\fi k=none/\(e<4096->qaT k=some e)/\∀t,qaT k=some t->t=e:=by
 by_cases he:e<4096
 ·obtain⟨N,hN⟩:=hr.fin
  obtain⟨k,h1,h2⟩:=tyOf_pow e he N;exact⟨k,hr.free (hN k h1),hN k h1,fun _=>h2,fun t ht=>by rw[h2]at ht;exact(Option.some.inj ht).symm⟩
 ·obtain⟨k,h1,h2,h3⟩:=hr.freshN
  exact⟨k,h1,h2,fun h=>absurd h he,fun t ht=>by rw[h3]at ht;cases ht⟩
theorem tyOf_lt{k:Nat}{t:TypeId}(h:qaT k=some t):t<4096:=by
 unfold qaT at h;split at h
 ·rw[<-Option.some.inj h];exact Km _ (by omega)
 ·cases h
theorem HRel.freshT{wz w:World}{fi:PMap}{h:AHeap}(hr:HRel wz fi h w)(k₀:Nat):∃k,h k=none/\fi k=none/\qaT k=qaT k₀:=by
 cases e:qaT k₀ with
 |none=>exact hr.freshN
 |some t=>
  obtain⟨k,h1,h2,h3,_⟩:=hr.freshE t;exact⟨k,h1,h2,h3 (tyOf_lt e)⟩
theorem HRel.write{wz w w':World}{fi:PMap}{h:AHeap}(hr:HRel wz fi h w)(k:Nat)(b b':Blk)(p:Place)(hk:h k=some b)(hp:fi k=some p)
 (hsize:w'.heap.size=w.heap.size) (hos:w'.os=w.os) (htape:w'.tape=w.tape) (hout:w'.output=w.output)
 (hother:∀i,i≠p.blk->w'.heap[i]?=w.heap[i]?) (hty:∀cs e fr,w.heap[p.blk]?=some (.cells cs e fr)->∃cs' fr',w'.heap[p.blk]?=some (.cells cs' e fr')) (ok:BlkOk fi b' p w'):HRel wz fi (h.set k b') w':=by
 obtain⟨q,hq,hq1,hq2⟩:=hr.own k b hk;have hpq:q=p:=by rw[hp]at hq;exact(Option.some.inj hq).symm
 subst hpq;refine⟨⟨hos.trans hr.below.os,htape.trans hr.below.tape,hout.trans hr.below.output,by rw[hsize];exact hr.below.size,fun i hi=>?_⟩,fun j b1 hj=>?_,fun j j' b1 b2 p1 p2 h1 h2 f1 f2 e=>?_,fun j r hj=>by rw[hsize];exact hr.lt j r hj,hr.fin,fun j r hj t ht=>?_⟩
 ·rw[hother i (by omega)]
  exact hr.below.block i hi
 ·by_cases e:j=k
  ·subst e
   simp only[AHeap.set_same,Option.some.injEq]at hj;subst hj;exact⟨q,hp,hq1,ok⟩
  ·rw[AHeap.set_ne _ _ e]at hj
   obtain⟨r,hr0,hr1,hr2⟩:=hr.own j b1 hj;refine⟨r,hr0,hr1,hr2.world (hother _ fun e'=>e ?_)⟩;exact hr.inj j k b1 b r q hj hk hr0 hp e'
 ·have g:∀i c,h.set k b' i=some c->∃c',h i=some c':=fun i c hi=>by
   by_cases e:i=k
   ·subst e;exact⟨b,hk⟩
   ·rw[AHeap.set_ne _ _ e]at hi;exact⟨c,hi⟩
  obtain⟨c1,g1⟩:=g j b1 h1;obtain⟨c2,g2⟩:=g j' b2 h2;exact hr.inj j j' c1 c2 p1 p2 g1 g2 f1 f2 e
 ·obtain⟨h0,cs,fr,hcs⟩:=hr.typ j r hj t ht
  refine⟨h0,?_⟩;by_cases e:r.blk=q.blk
  ·rw[e]at hcs|-
   exact hty cs t fr hcs
  ·exact⟨cs,fr,by rw[hother _ e];exact hcs⟩
def AVal.live:AVal->Bool
 | .dead=>false
 | .mapO _=>false
 | .mapE _ _ _=>false
 | .iterO _ _ _ _=>false
 |_=>true
theorem ERel.dead{fi:PMap}:∀{cs:List AVal} {l:List MapEntry},ERel fi cs l->∀o,(cs.getD o .dead).live=false
 |[],_,_,o=>by simp[AVal.live]
 |c::cs,l,h,o=>by
  obtain⟨e,l',h1,h2,h3⟩:=h;cases o with
  |zero=>cases c<;>first|rfl|exact h2.elim
  |succ o=>rw[Kn];exact h3.dead o
theorem ORel.dead{fi:PMap}{cs:List AVal}{ob:Obj}(h:ORel fi cs ob)(o:Nat):(cs.getD o .dead).live=false:=by
 unfold ORel at h;split at h
 ·cases o with
  |zero=>rfl
  |succ o=>rw[Kn];exact h.2.dead o
 ·cases o with
  |zero=>rfl
  |succ o=>simp[AVal.live]
 ·exact h.elim
theorem BlkOk.cell{fi:PMap}{b:Blk}{p:Place}{w:World}(h0:BlkOk fi b p w)(o:Nat)(ho:o<b.cells.length)(hl:(b.cells.getD o .dead).live=true):
 ∃v,w.cell? ⟨p.blk,p.off+o,none⟩=some v/\VR fi (b.cells.getD o .dead) v:=by
 rcases h0 with h|h
 rotate_left
 ·exfalso
  obtain⟨ob,_,h2⟩:=h.obj;rw[h2.dead]at hl;cases hl
 obtain⟨cs,e,lo,hi,h1,h2,h3,h4,h5,h6⟩:=h.row;have hlt:p.off+o<cs.size:=by omega
 refine⟨cs[p.off+o],?_,?_⟩
 ·simp[World.cell?,h1,hlt]
 ·have:=qiK h5 o default ho
  have e2:((cs.toList.drop p.off).take b.cells.length).getD o default=cs[p.off+o]:=by
   simp[Ko,Kq,ho,hlt]
  rw[e2]at this;exact this
def rd(wz:World)(h:AHeap):Loc->Nat->AVal
 | .base b,o=>if b<wz.heap.size then(match wz.cell? ⟨b,o,none⟩with|some v=>absS v|none=> .dead)else .dead
 | .own k,o=>match h k with|some b=>b.cells.getD o .dead|none=> .dead
theorem HRel.rd{wz w:World}{fi:PMap}{h:AHeap}(hr:HRel wz fi h w)(l:Loc)(o:Nat)(hl:(rd wz h l o).live=true):
 ∃a v,Xf fi l o=some a/\w.cell? a=some v/\VR fi (AM.rd wz h l o) v/\a.spot=none:=by
 cases l with
 |base b=>
  simp only[AM.rd]at hl|-
  by_cases hb:b<wz.heap.size
  ·simp only[hb,if_true]at hl|-
   cases hc:wz.cell? ⟨b,o,none⟩with
   |none=>simp[hc,AVal.live]at hl
   |some v=>
    simp only[Xf,Option.some.injEq];exact⟨_,v,rfl,by rw[hr.below.cell (p:=⟨b,o,none⟩) hb];exact hc,qkL fi v,rfl⟩
  ·simp[hb,AVal.live]at hl
 |own k=>
  simp only[AM.rd]at hl|-
  cases hk:h k with
  |none=>simp[hk,AVal.live]at hl
  |some b=>
   simp only[hk]at hl|-
   obtain⟨p,hp,_,ok⟩:=hr.own k b hk;have ho:o<b.cells.length:=by
    by_cases hlt:o<b.cells.length
    ·exact hlt
    ·simp[Ko,Kr (Kt hlt),AVal.live]at hl
   obtain⟨v,h1,h2⟩:=ok.cell o ho hl;exact⟨_,v,by simp[Xf,hp],h1,h2,rfl⟩
abbrev Slots:=List (Nat×AVal)
def Slots.get:Slots->Nat->AVal
 |[],_=> .dead
 |(j,v)::r,i=>if i=j then v else Slots.get r i
def Slots.put:Slots->Nat->AVal->Slots
 |[],i,v=>[(i,v)]
 |(j,u)::r,i,v=>if i<j then(i,v)::(j,u)::r else if i=j then(i,v)::r else(j,u)::Slots.put r i v
def Slots.keep:Slots->List Nat->Slots
 |[],_=>[]
 |(j,v)::r,l=>if l.contains j then(j,v)::Slots.keep r l else Slots.keep r l
theorem Slots.get_put:∀(s:Slots) (i:Nat) (v:AVal) (j:Nat),(s.put i v).get j=if j=i then v else s.get j
 |[],i,v,j=>by simp[Slots.put,Slots.get]
 |(k,u)::r,i,v,j=>by
  simp only[Slots.put];split
  ·simp[Slots.get]
  ·split
   ·rename_i h1 h2
    subst h2;by_cases e:j=i<;>simp[Slots.get,e]
   ·rename_i h1 h2
    simp only[Slots.get];rw[Slots.get_put r i v j];by_cases e:j=k
    ·subst e
     simp[Ne.symm h2]
    ·simp[e]
theorem Slots.get_keep:∀(s:Slots) (l:List Nat) (j:Nat),(s.keep l).get j=if l.contains j then s.get j else .dead
 |[],l,j=>by simp[Slots.keep,Slots.get]
 |(k,u)::r,l,j=>by
  simp only[Slots.keep];by_cases hk:l.contains k=true
  ·simp only[hk,if_true,Slots.get]
   rw[Slots.get_keep r l j];by_cases e:j=k
   ·subst e;rw[if_pos rfl,if_pos hk,if_pos rfl]
   ·rw[if_neg e,if_neg e]
  ·simp only[hk,Slots.get]
   rw[if_neg (by simp),Slots.get_keep r l j];by_cases e:j=k
   ·subst e;rw[if_neg hk,if_neg hk]
   ·rw[if_neg e]
structure FrameK where
 sz:Nat
 dfr:List Deferred
 G:Exit->PMap->Act->World->Prop
instance:Coe FrameK Nat:=⟨FrameK.sz⟩
instance (k:Nat):OfNat FrameK k:=⟨⟨k,[],fun _ _ _ _=>False⟩⟩
structure SRel(fi:PMap)(n:FrameK)(s:Slots)(a:Act):Prop where
 size:a.tmps.size=n.sz
 defers:a.defers=n.dfr
 val:∀i,VR fi (s.get i) (a.tmps.getD i undef)
theorem SRel.mono{fi Ps:PMap}{n:FrameK}{s:Slots}{a:Act}(h:SRel fi n s a)(hl:fi.le Ps):SRel Ps n s a:=
 ⟨h.size,h.defers,fun i=>WG hl _ _ (h.val i)⟩
theorem SRel.put{fi:PMap}{n:FrameK}{s:Slots}{a:Act}(h:SRel fi n s a)(d:Nat)(hd:d<n.sz){x:AVal}{v:Value}(hv:VR fi x v):
 SRel fi n (s.put d x) (a.put (some d) v):=by
 refine⟨by simp[Act.put,h.size],h.defers,fun i=>?_⟩;rw[Slots.get_put];by_cases e:i=d
 ·subst e
  have hs:i<a.tmps.size:=by rw[h.size];exact hd
  simp[Act.put,hs];exact hv
 ·rw[if_neg e]
  have:(a.put (some d) v).tmps.getD i undef=a.tmps.getD i undef:=by
   simp[Act.put,Ku,Kv (Ne.symm e)]
  rw[this];exact h.val i
theorem SRel.keep{fi:PMap}{n:FrameK}{s:Slots}{a:Act}(h:SRel fi n s a)(l:List Nat):SRel fi n (s.keep l) a:=
 ⟨h.size,h.defers,fun i=>by
  rw[Slots.get_keep];split
  ·exact h.val i
  ·simp[VR]⟩
def ev(s:Slots):Operand->AVal
 | .tmp t=>s.get t
 | .const v=>absV v
 | .global g=> .ptr (.base g) 0
 | .func f=> .func f []
theorem SRel.ev{fi:PMap}{n:FrameK}{s:Slots}{a:Act}(h:SRel fi n s a)(x:Operand):VR fi (ev s x) (a.eval x):=by
 cases x with
 |tmp t=>exact h.val t
 |const v=>exact qpy fi v
 |global g=>simp[AM.ev,VR,Xf,Act.eval]
 |func f=>simp only[AM.ev,VR,Act.eval];exact⟨[],rfl,by simp[VRs]⟩
structure PR where
 pre:Prop
 val:AVal
def PR.no:PR:=⟨False, .dead⟩
def Zy(P:Program)(t:TypeId):Option Nat:=(P.info? t).map (·.size)
def qdF(P:Program)(t:TypeId):Option Nat:=(P.info? t).map (·.bytes)
def Uy(P:Program)(t:TypeId):Option Value:=(P.info? t).bind (·.zero)
def Yd(P:Program)(t:TypeId):Option Bool:=
 match P.underlying t with
 |some (.struct _)|some (.array _ _)=>some true
 |some _=>some false
 |none=>none
theorem qH{P:Program}{t:TypeId}{d:TypeDesc}(h:P.underlying t=some d)(w:World):(underlying t).run P w= .ok d w:=by
 simp[underlying,h]
theorem Zr{P:Program}{t:TypeId}{n:Nat}(h:Zy P t=some n)(w:World):(sizeOf t).run P w= .ok n w:=by
 simp only[Zy,Kc]at h;obtain⟨i,hi,rfl⟩:=h;simp[sizeOf,typeInfo,hi]
theorem qes{P:Program}{t:TypeId}{b:Bool}(h:Yd P t=some b)(w:World):(isAgg t).run P w= .ok b w:=by
 unfold Yd at h;unfold isAgg;cases hu:P.underlying t with
 |none=>simp[hu]at h
 |some d=>
  simp only[hu]at h;simp only[Sem.run_bind,qH hu,Result.andThen_ok];cases d<;>simp_all
theorem qdM{P:Program}{t:TypeId}{v:Value}(h:Uy P t=some v)(w:World):(zeroValue t).run P w= .ok v w:=by
 simp only[Uy,Option.bind_eq_some_iff]at h;obtain⟨i,hi,hz⟩:=h;simp[zeroValue,typeInfo,hi,hz]
def cellsAt(wz:World)(h:AHeap)(l:Loc):Nat->Nat->List AVal
 |_,0=>[]
 |o,n+1=>rd wz h l o::cellsAt wz h l (o+1) n
def allLive:List AVal->Bool
 |[]=>true
 |c::cs=>c.live && allLive cs
theorem Yt{fi:PMap}{l:Loc}{o j:Nat}{a:Addr}(h:Xf fi l o=some a):Xf fi l (o+j)=some (a.add j):=by
 unfold Addr.add;cases l with
 |base b=>
  simp only[Xf,Option.some.injEq]at h|-
  subst h;by_cases e:j=0<;>simp[e]
 |own k=>
  simp only[Xf,Kc]at h|-
  obtain⟨p,hp,rfl⟩:=h;refine⟨p,hp,?_⟩;by_cases e:j=0
  ·simp[e]
  ·simp[e,Kw]
theorem qeH{wz w:World}{fi:PMap}{h:AHeap}(hr:HRel wz fi h w)(l:Loc):∀(n o:Nat) (a:Addr),Xf fi l o=some a->allLive (cellsAt wz h l o n)=true->
 ∃vs:List Value,vs.length=n/\VRs fi (cellsAt wz h l o n) vs/\∀j v,vs[j]?=some v->w.cell? (a.add j)=some v
 |0,o,a,_,_=>⟨[],rfl,by simp[cellsAt,VRs],by simp⟩
 |n+1,o,a,ha,hl=>by
  simp only[cellsAt,allLive,Ky]at hl;obtain⟨a',v,h1,h2,h3,h4⟩:=hr.rd l o hl.1;have:a'=a:=by rw[ha]at h1;exact(Option.some.inj h1).symm
  subst this;obtain⟨vs,e1,e2,e3⟩:=qeH hr l n (o+1) (a'.add 1) (Yt ha) hl.2;refine⟨v::vs,by simp[e1],by simp only[cellsAt,VRs];exact⟨v,vs,rfl,h3,e2⟩,fun j u hj=>?_⟩;cases j with
  |zero=>simp only[Kz,Option.some.injEq]at hj;subst hj;simpa[Addr.add]using h2
  |succ j=>
   have:=e3 j u (by simpa using hj);have e5:(a'.add 1).add j=a'.add (j+1):=by
    unfold Addr.add;by_cases e:j=0<;>simp[e,Kw,Nat.add_comm 1]
   rwa [e5]at this
def Wd(c:Bool)(a b:AVal):AVal:=
 match a,b with
 | .bool x, .bool y=> .bool (bif c then x else y)
 |_,_=>bif c then a else b
theorem VR_pickV{fi:PMap}{c:Bool}{a b:AVal}{u v:Value}(hu:VR fi a u)(hv:VR fi b v):VR fi (Wd c a b) (if c then u else v):=by
 unfold Wd;split
 ·simp only[VR]at hu hv|-
  subst hu hv;cases c<;>rfl
 ·cases c<;>simpa
def pInt(op:BinOp)(k:IntKind)(a b:Int):PR:=
 match op with
 | .add=>⟨True, .int k (k.wrap (a+b))⟩
 | .sub=>⟨True, .int k (k.wrap (a-b))⟩
 | .mul=>⟨True, .int k (k.wrap (a*b))⟩
 | .quo=>⟨b≠0, .int k (k.wrap (a.tdiv b))⟩
 | .rem=>⟨b≠0, .int k (a.tmod b)⟩
 | .and=>⟨True, .int k (k.wrap (BitVec.ofInt k.bits a &&& BitVec.ofInt k.bits b).toNat)⟩
 | .or=>⟨True, .int k (k.wrap (BitVec.ofInt k.bits a|||BitVec.ofInt k.bits b).toNat)⟩
 | .xor=>⟨True, .int k (k.wrap (BitVec.ofInt k.bits a^^^BitVec.ofInt k.bits b).toNat)⟩
 | .eql=>⟨True, .bool (decide (a=b))⟩
 | .neq=>⟨True, .bool (!decide (a=b))⟩
 | .lss=>⟨True, .bool (decide (a<b))⟩
 | .leq=>⟨True, .bool (decide (a<=b))⟩
 | .gtr=>⟨True, .bool (decide (b<a))⟩
 | .geq=>⟨True, .bool (decide (b<=a))⟩
 |_=> .no
def pStr(op:BinOp)(a b:List UInt8):PR:=
 match op with
 | .add=>⟨a.length+b.length<9223372036854775808, .str (a++b)⟩
 | .eql=>⟨True, .bool (decide (a=b))⟩
 | .neq=>⟨True, .bool (!decide (a=b))⟩
 | .lss=>⟨True, .bool (Op.bytesLess a b)⟩
 | .leq=>⟨True, .bool (Op.bytesLess a b||decide (a=b))⟩
 | .gtr=>⟨True, .bool (!(Op.bytesLess a b||decide (a=b)))⟩
 | .geq=>⟨True, .bool (!Op.bytesLess a b)⟩
 |_=> .no
def nilK:AVal->Option (Nat×Bool)
 | .nilSlice=>some (0,true)
 | .slice _ _ _ _=>some (0,false)
 | .nilPtr=>some (1,true)
 | .ptr _ _=>some (1,false)
 | .nilFunc=>some (2,true)
 | .func _ _=>some (2,false)
 | .nilMap=>some (3,true)
 | .map _=>some (3,false)
 |_=>none
def tyK(P:Program)(t:TypeId):Option Nat:=
 match P.underlying t with
 |some (.slice _)=>some 0
 |some (.pointer _)=>some 1
 |some (.func _ _ _)=>some 2
 |some (.map _ _)=>some 3
 |_=>none
def qjh(P:Program)(op:BinOp)(t:TypeId)(x y:AVal):PR:=
 match nilK x,nilK y,tyK P t with
 |some (c,a),some (c',b),some c''=>match op with
  | .eql=>⟨(c=c'/\c'=c'')/\(a=true\/b=true), .bool (a && b)⟩
  | .neq=>⟨(c=c'/\c'=c'')/\(a=true\/b=true), .bool (!(a && b))⟩
  |_=> .no
 |_,_,_=> .no
def qmE(c:Nat)(a:Bool)(u:Value):Prop:=
 match c with
 |0=>∃o l k,u= .slice o l k/\o.isNone=a
 |1=>∃o,u= .pointer o/\o.isNone=a
 |2=>(a=true/\u= .nilFunc)\/(a=false/\∃f x y,u= .func f x y)
 |3=>∃o,u= .map o/\o.isNone=a
 |_=>False
theorem qlF{fi:PMap}{x:AVal}{u:Value}{c:Nat}{a:Bool}(h:nilK x=some (c,a))(hx:VR fi x u):qmE c a u:=by
 cases x with
 |slice l o len cp=>
  cases h;cases cp with
  |exact cp=>
   simp only[VR]at hx;obtain⟨ad,rfl,_⟩:=hx;exact⟨_,_,_,rfl,rfl⟩
  |grow g=>
   simp only[VR]at hx;obtain⟨k,p,cp,ad,_,_,rfl,_⟩:=hx;exact⟨_,_,_,rfl,rfl⟩
 |nilSlice=>cases h;simp only[VR]at hx;subst hx;exact⟨_,_,_,rfl,rfl⟩
 |nilPtr=>cases h;simp only[VR]at hx;subst hx;exact⟨_,rfl,rfl⟩
 |ptr l o=>cases h;simp only[VR]at hx;obtain⟨ad,_,rfl⟩:=hx;exact⟨_,rfl,rfl⟩
 |nilFunc=>cases h;simp only[VR]at hx;subst hx;exact .inl ⟨rfl,rfl⟩
 |func f cs=>cases h;simp only[VR]at hx;obtain⟨vs,rfl,_⟩:=hx;exact .inr ⟨rfl,_,_,_,rfl⟩
 |nilMap=>cases h;simp only[VR]at hx;subst hx;exact⟨_,rfl,rfl⟩
 |map k=>cases h;simp only[VR]at hx;obtain⟨p,_,rfl⟩:=hx;exact⟨_,rfl,rfl⟩
 |_=>cases h
theorem nil_equal{P:Program}{t:TypeId}{c:Nat}{a b:Bool}{u v:Value}(ht:tyK P t=some c)(hu:qmE c a u)(hv:qmE c b v)(hab:a=true\/b=true)(w:World):
 (Op.equal t u v).run P w= .ok (a && b) w:=by
 unfold tyK at ht;obtain⟨d,hdep⟩:∃d,Op.maxDepth=d+1:=⟨Op.maxDepth-1,by decide+kernel⟩
 unfold Op.equal;rw[hdep];split at ht
 ·rename_i e hd
  cases ht;obtain⟨o,l,k,rfl,rfl⟩:=hu;obtain⟨o',l',k',rfl,rfl⟩:=hv;simp only[Op.equalIn,Sem.run_bind,qH hd,Result.andThen_ok];cases o<;>cases o'<;>simp_all
 ·rename_i e hd
  cases ht;obtain⟨o,rfl,rfl⟩:=hu;obtain⟨o',rfl,rfl⟩:=hv;simp only[Op.equalIn,Sem.run_bind,qH hd,Result.andThen_ok];cases o<;>cases o'<;>simp_all
 ·rename_i x y z hd
  cases ht;rcases hu with⟨rfl,rfl⟩|⟨rfl,f,x,y,rfl⟩<;>rcases hv with⟨rfl,rfl⟩|⟨rfl,f',x',y',rfl⟩<;>simp only[Op.equalIn,Sem.run_bind,qH hd,Result.andThen_ok]<;>simp at hab|-
 ·rename_i e f hd
  cases ht;obtain⟨o,rfl,rfl⟩:=hu;obtain⟨o',rfl,rfl⟩:=hv;simp only[Op.equalIn,Sem.run_bind,qH hd,Result.andThen_ok];cases o<;>cases o'<;>simp_all
 ·cases ht
theorem pNilEq_ok{P:Program}{fi:PMap}{op:BinOp}{t:TypeId}{x y:AVal}{u v:Value}(hp:(qjh P op t x y).pre)(hx:VR fi x u)(hy:VR fi y v)(X Y:Operand):
 ∃r,(∀w,(do eqGuard op t X Y u v;binOp op t u v:Sem Value).run P w= .ok r w)/\VR fi (qjh P op t x y).val r:=by
 unfold qjh at hp|-
 split at hp
 ·rename_i c a c' b c'' h1 h2 h3
  have key:∀(hc:c=c'/\c'=c'') (hab:a=true\/b=true),(∀w,(eqGuard op t X Y u v).run P w= .ok () w)/\(∀w,(Op.equal t u v).run P w= .ok (a && b) w)/\
   (binOp .eql t u v=(do pure (.bool (<-Op.equal t u v))))/\(binOp .neq t u v=(do pure (.bool (!(<-Op.equal t u v))))):=by
   intro⟨e1,e2⟩ hab;subst e1 e2;have s1:=qlF h1 hx;have s2:=qlF h2 hy;refine⟨fun w=>?_,nil_equal h3 s1 s2 hab,?_,?_⟩
   ·unfold eqGuard
    match c,s1,s2 with
    |0,⟨_,_,_,e,_⟩,_=>subst e;cases op<;>simp
    |1,⟨_,e,_⟩,_=>subst e;cases op<;>simp
    |2, .inl ⟨_,e⟩,_=>subst e;cases op<;>simp
    |2, .inr ⟨_,_,_,_,e⟩,_=>subst e;cases op<;>simp
    |3,⟨_,e,_⟩,_=>subst e;cases op<;>simp
   ·match c,s1,s2 with
    |0,⟨_,_,_,e,_⟩,_=>subst e;simp[binOp]
    |1,⟨_,e,_⟩,⟨_,e',_⟩=>subst e e';simp[binOp]
    |2, .inl ⟨_,e⟩,_=>subst e;simp[binOp]
    |2, .inr ⟨_,_,_,_,e⟩,_=>subst e;simp[binOp]
    |3,⟨_,e,_⟩,_=>subst e;simp[binOp]
   ·match c,s1,s2 with
    |0,⟨_,_,_,e,_⟩,_=>subst e;simp[binOp]
    |1,⟨_,e,_⟩,⟨_,e',_⟩=>subst e e';simp[binOp]
    |2, .inl ⟨_,e⟩,_=>subst e;simp[binOp]
    |2, .inr ⟨_,_,_,_,e⟩,_=>subst e;simp[binOp]
    |3,⟨_,e,_⟩,_=>subst e;simp[binOp]
  split at hp
  ·obtain⟨hc,hab⟩:=hp
   obtain⟨k1,k2,k3,_⟩:=key hc hab;refine⟨.bool (a && b),fun w=>?_,by simp only[VR]⟩;rw[k3];simp[Sem.run_bind,k1,k2]
  ·obtain⟨hc,hab⟩:=hp
   obtain⟨k1,k2,_,k4⟩:=key hc hab;refine⟨.bool (!(a && b)),fun w=>?_,by simp only[VR]⟩;rw[k4];simp[Sem.run_bind,k1,k2]
  ·exact hp.elim
 ·exact hp.elim
def qru(P:Program)(op:BinOp)(t:TypeId)(x y:AVal):PR:=
 match x,y with
 | .int k a, .int k' b=>match op with
   | .shl=>⟨0<=b, .int k (k.wrap (a*2^(min b.toNat k.bits)))⟩
   | .shr=>⟨0<=b, .int k (a.fdiv (2^(min b.toNat k.bits)))⟩
   |op=>if k=k' then pInt op k a b else .no
 | .str a, .str b=>pStr op a b
 | .bool a, .bool b=>match P.underlying t with
   |some .bool=>match op with
    | .eql=>⟨True, .bool (a==b)⟩
    | .neq=>⟨True, .bool (!(a==b))⟩
    |_=> .no
   |_=> .no
 |x,y=>qjh P op t x y
theorem qiD{α:Type}[BEq α][LawfulBEq α][DecidableEq α](a b:α):(a==b)=decide (a=b):=by
 rw[KA];simp
theorem pBin_ok{P:Program}{fi:PMap}{op:BinOp}{t:TypeId}{x y:AVal}{u v:Value}(hp:(qru P op t x y).pre)(hx:VR fi x u)(hy:VR fi y v)(X Y:Operand):
 ∃r,(∀w,(do eqGuard op t X Y u v;binOp op t u v:Sem Value).run P w= .ok r w)/\VR fi (qru P op t x y).val r:=by
 unfold qru at hp|-
 split at hp
 ·rename_i k a k' b
  simp only[VR]at hx hy;subst hx hy;have hg:∀w,(eqGuard op t X Y (.int k a) (.int k' b)).run P w= .ok () w:=by
   intro w;unfold eqGuard;cases op<;>simp
  simp only[Sem.run_bind,hg,Result.andThen_ok];cases op<;>simp only[]at hp|-
  case shl=>
   have:¬b<0:=by omega
   simp[binOp,Op.shift,VR,this]
  case shr=>
   have:¬b<0:=by omega
   simp[binOp,Op.shift,VR,this]
  all_goals
   by_cases hk:k=k'
   ·subst hk
    simp only[if_true,pInt]at hp|-
    first
     |exact hp.elim
     |(simp[binOp,Op.intArith,Op.intDiv,Op.intBits,Op.intCmp,VR,hp];done)
     |(simp[binOp,Op.intCmp,VR];simp[qiD,bne])
   ·simp only[hk,if_false]at hp
    exact hp.elim
 ·rename_i a b
  simp only[VR]at hx hy;subst hx hy;have hg:∀w,(eqGuard op t X Y (.string ⟨⟨a⟩⟩) (.string ⟨⟨b⟩⟩)).run P w= .ok () w:=by
   intro w;unfold eqGuard;cases op<;>simp
  simp only[Sem.run_bind,hg,Result.andThen_ok];have e1:ByteArray.toList ⟨⟨a⟩⟩=a:=by rw[ByteArray.toList_eq]
  have e2:ByteArray.toList ⟨⟨b⟩⟩=b:=by rw[ByteArray.toList_eq]
  have hbin:binOp op t (.string ⟨⟨a⟩⟩) (.string ⟨⟨b⟩⟩)=Op.stringOp op ⟨⟨a⟩⟩ ⟨⟨b⟩⟩:=by
   cases op<;>simp[binOp]
  rw[hbin];unfold pStr at hp|-
  unfold Op.stringOp;rw[e1,e2];cases op<;>simp only[]at hp|- <;>first
   |exact hp.elim
   |(simp[VR];done)
   |(rw[qiD];simp[VR];done)
   |skip
  have h2:¬((((⟨⟨a⟩⟩:ByteArray).size+(⟨⟨b⟩⟩:ByteArray).size:Nat):Int)>IntKind.i64.max):=by
   have:IntKind.i64.max=9223372036854775807:=by decide
   rw[this];simp only[ByteArray.size,KC]at*
   omega
  refine⟨.string (⟨⟨a⟩⟩++⟨⟨b⟩⟩),fun w=>by simp only[h2,if_false,Sem.run_pure],?_⟩;simp only[VR];congr 1
 ·rename_i a b
  simp only[VR]at hx hy;subst hx hy;have hg:∀w,(eqGuard op t X Y (.bool a) (.bool b)).run P w= .ok () w:=by
   intro w;unfold eqGuard;cases op<;>simp
  simp only[Sem.run_bind,hg,Result.andThen_ok];split at hp
  ·rename_i ht
   cases op<;>simp only[]at hp|- <;>first
    |exact hp.elim
    |(simp[run_eql_bool,run_neq_bool,ht,VR];done)
  ·exact hp.elim
 ·exact pNilEq_ok hp hx hy X Y
theorem VR_cellsV{fi:PMap}{x:AVal}{v:Value}(h:VR fi x v)(hx:∀cs,x≠ .agg cs)(hl:x.live=true):v.cells= #[v]:=by
 cases x<;>simp only[VR]at h<;>first
  |(simp[AVal.live]at hl;done)
  |(subst h;rfl)
  |exact absurd rfl (hx _)
  |(obtain⟨_,_,rfl⟩:=h;rfl)
  |(obtain⟨_,rfl,_⟩:=h;rfl)
  |skip
 rename_i l o len c
 cases c<;>simp only[]at h
 ·obtain⟨_,rfl,_⟩:=h;rfl
 ·obtain⟨_,_,_,_,_,_,rfl,_⟩:=h;rfl
structure Same(w w':World):Prop where
 cell:∀(a:Addr) (u:Value),w.cell? a=some u->w'.cell? a=some u
 obj:∀(r:Nat) (es:Array MapEntry) (c:Nat),w.heap[r]?=some (.map es c)->w'.heap[r]?=some (.map es c)
theorem Same.refl(w:World):Same w w:=⟨fun _ _ h=>h,fun _ _ _ h=>h⟩
def pUn(op:UnOp)(x:AVal):PR:=
 match op,x with
 | .neg, .int k n=>⟨True, .int k (k.wrap (0-n))⟩
 | .not, .bool b=>⟨True, .bool (!b)⟩
 |_,_=> .no
theorem pUn_ok{P:Program}{fi:PMap}{op:UnOp}{x:AVal}{v:Value}(hp:(pUn op x).pre)(hx:VR fi x v):
 ∃r,(∀w,(Op.unary op v).run P w= .ok r w)/\VR fi (pUn op x).val r:=by
 unfold pUn at hp|-
 split at hp
 ·simp only[VR]at hx;subst hx;simp[Op.unary,Op.intArith,VR]
 ·simp only[VR]at hx;subst hx;simp[Op.unary,VR]
 ·exact hp.elim
def AVal.isU8:AVal->Bool
 | .int .u8 _=>true
 |_=>false
def AVal.byte:AVal->UInt8
 | .int _ n=>KD n.toNat
 |_=>0
def byteCells(s:List UInt8):List AVal:=s.map fun b=> .int .u8 b.toNat
theorem byteCells_length(s:List UInt8):(byteCells s).length=s.length:=by simp[byteCells]
theorem qmg(s:List UInt8):(byteCells s).all AVal.isU8=true:=by simp[byteCells,AVal.isU8]
theorem qmh(s:List UInt8):(byteCells s).map AVal.byte=s:=by
 induction s with
 |nil=>rfl
 |cons b s ih=>
  simp only[byteCells,Ke,List.map_map,AVal.byte]at ih|-
  rw[ih];congr 1;simp
theorem VRs_u8{fi:PMap}:∀{cs:List AVal} {vs:List Value},VRs fi cs vs->cs.all AVal.isU8=true->∃ns:List Int,vs=ns.map (Value.int .u8)/\cs.map AVal.byte=ns.map fun n=>KD n.toNat
 |[],vs,h,_=>by simp only[VRs]at h;subst h;exact⟨[],rfl,rfl⟩
 |c::cs,vs,h,hu=>by
  simp only[VRs]at h;obtain⟨v,vs',rfl,h1,h2⟩:=h;simp only[KE,Ky]at hu;obtain⟨ns,e1,e2⟩:=VRs_u8 h2 hu.2;match c,hu.1,h1 with
  | .int .u8 n,_,h1=>
    simp only[VR]at h1;exact⟨n::ns,by simp[h1,e1],by simp[AVal.byte,e2]⟩
theorem qdI:∀{cs:List AVal},cs.all AVal.isU8=true->allLive cs=true
 |[],_=>rfl
 |c::cs,h=>by
  simp only[KE,Ky]at h;simp only[allLive,qdI h.2,Bool.and_true];match c,h.1 with
  | .int .u8 n,_=>rfl
def qdP(P:Program)(wz:World)(h:AHeap)(src dst:TypeId)(x:AVal):PR:=
 match x with
 | .int _ n=>match P.underlying src,P.underlying dst with
   |some _,some (.int k)=>⟨True, .int k (k.wrap n)⟩
   |_,_=> .no
 | .str s=>match P.underlying src,P.underlying dst with
   |some .string,some .string=>⟨True, .str s⟩
   |_,_=> .no
 | .nilSlice=>match P.underlying src,P.underlying dst with
   |some (.slice e),some .string=>match P.underlying e with
    |some (.int .u8)=>⟨True, .str []⟩
    |_=> .no
   |_,_=> .no
 | .slice l o len _=>match P.underlying src,P.underlying dst with
   |some (.slice e),some .string=>match P.underlying e with
    |some (.int .u8)=>⟨(cellsAt wz h l o len).all AVal.isU8=true, .str ((cellsAt wz h l o len).map AVal.byte)⟩
    |_=> .no
   |_,_=> .no
 |_=> .no
theorem Yn{fi:PMap}{l:Loc}{o len:Nat}{c:Cap}{v:Value}(h:VR fi (.slice l o len c) v):
 ∃a cap,v= .slice (some a) len cap/\(len≠0->Xf fi l o=some a):=by
 cases c with
 |exact c=>
  simp only[VR]at h;obtain⟨a,rfl,ha⟩:=h;exact⟨a,c,rfl,fun hne=>ha (.inr hne)⟩
 |grow es=>
  simp only[VR]at h;obtain⟨k,p,c,a,rfl,hp,rfl,hl,hc⟩:=h;exact⟨a,c,rfl,fun hne=>by
   have:=(hc (by omega)).1;subst this;simp[Xf,hp]⟩
theorem qcv{P:Program}{wz w:World}{fi:PMap}{h:AHeap}(hr:HRel wz fi h w){l:Loc}{o n:Nat}{a:Addr}(ha:n≠0->Xf fi l o=some a)(hl:allLive (cellsAt wz h l o n)=true):
 ∃vs:List Value,vs.length=n/\VRs fi (cellsAt wz h l o n) vs/\(∀w',Same w w'->(loadCells a n).run P w'= .ok vs.toArray w')/\∀j v,vs[j]?=some v->w.cell? (a.add j)=some v:=by
 by_cases hn:n=0
 ·subst hn
  exact⟨[],rfl,by simp[cellsAt,VRs],by simp[loadCells,loadCellsFrom],by simp⟩
 ·obtain⟨vs,e1,e2,e3⟩:=qeH hr l n o a (ha hn) hl
  exact⟨vs,e1,e2,fun w' hw=>by rw[<-e1];exact run_loadCells_list w' a vs fun j v hj=>hw.cell _ _ (e3 j v hj),e3⟩
theorem pConv_ok{P:Program}{wz w:World}{fi:PMap}{h:AHeap}{src dst:TypeId}{x:AVal}{v:Value}(hp:(qdP P wz h src dst x).pre)(hr:HRel wz fi h w)(hx:VR fi x v):
 ∃r,(∀w',Same w w'->(convert src dst v).run P w'= .ok r w')/\VR fi (qdP P wz h src dst x).val r:=by
 unfold qdP at hp|-
 split at hp
 ·rename_i k n
  simp only[VR]at hx;subst hx;split at hp
  ·rename_i d k' h1 h2
   exact⟨.int k' (k'.wrap n),fun w' _=>by simp[convert,qH h1,qH h2,Conv.intToInt],by simp only[VR]⟩
  ·exact hp.elim
 ·simp only[VR]at hx;subst hx
  split at hp
  ·rename_i h1 h2
   exact⟨_,fun w' _=>by simp[convert,qH h1,qH h2];rfl,by simp only[VR]⟩
  ·exact hp.elim
 ·simp only[VR]at hx;subst hx
  split at hp
  ·rename_i e h1 h2
   split at hp
   ·rename_i h3
    refine⟨.string .empty,fun w' _=>?_,by simp only[VR];rfl⟩;rw[run_convert_bytes_string w' src dst e none 0 0 h1 h3 h2];simp[Conv.bytesToString]
   ·exact hp.elim
  ·exact hp.elim
 ·rename_i l o len c
  split at hp
  ·rename_i e h1 h2
   split at hp
   ·rename_i h3
    simp only at hp|-
    obtain⟨a,cap,rfl,ha⟩:=Yn hx;obtain⟨vs,e1,e2,e3,_⟩:=qcv (P:=P) hr ha (qdI hp);obtain⟨ns,f1,f2⟩:=VRs_u8 e2 hp;subst f1;refine⟨.string ⟨ByteArray.empty.data++(ns.map fun n=>KD n.toNat).toArray⟩,fun w' hw=>?_,?_⟩
    ·rw[run_convert_bytes_string w' src dst e (some a) len cap h1 h3 h2,run_bytesToString w' a len cap ns (e3 w' hw),foldl_push_bytes]
    ·simp only[VR]
     rw[f2];simp[ByteArray.empty,ByteArray.emptyWithCapacity];rfl
   ·exact hp.elim
  ·exact hp.elim
 ·exact hp.elim
def qbu(P:Program)(t:TypeId)(cs:List AVal)(off:Nat):PR:=
 match Yd P t,Zy P t with
 |some true,some n=>⟨off+n<=cs.length, .agg ((cs.drop off).take n)⟩
 |some false,some _=>⟨off<cs.length,cs.getD off .dead⟩
 |_,_=> .no
theorem qdO{P:Program}{fi:PMap}{t:TypeId}{cs:List AVal}{off:Nat}{vs:List Value}(hp:(qbu P t cs off).pre)(hs:VRs fi cs vs):
 ∃r,(∀w,(part t vs.toArray off).run P w= .ok r w)/\VR fi (qbu P t cs off).val r:=by
 unfold qbu at hp|-
 split at hp
 ·rename_i n h1 h2
  simp only at hp|-
  refine⟨.agg (vs.toArray.extract off (off+n)),fun w=>by simp[part,qes h1,Zr h2],?_⟩;simp only[VR];refine⟨(vs.drop off).take n,?_,qmv n (qiL off hs)⟩;congr 1;apply KF;simp[List.extract]
 ·rename_i h1 h2
  simp only at hp|-
  have hl:=XA hs;have:=qiK hs off undef (by omega);refine⟨vs.getD off undef,fun w=>?_,this⟩;have hlt:off<vs.length:=by omega
  simp[part,qes h1,hlt]
 ·exact hp.elim
def qoy(P:Program)(t:TypeId)(x:AVal)(f:Nat):PR:=
 match x,P.underlying t with
 | .agg cs,some (.struct fs)=>match fs[f]? with
   |some fd=>qbu P fd.type cs fd.offset
   |none=> .no
 |_,_=> .no
theorem pField_ok{P:Program}{fi:PMap}{t:TypeId}{x:AVal}{f:Nat}{v:Value}(hp:(qoy P t x f).pre)(hx:VR fi x v):
 ∃r,(∀w,(Instr.field t v f).run P w= .ok r w)/\VR fi (qoy P t x f).val r:=by
 unfold qoy at hp|-
 split at hp
 ·rename_i cs fs h1
  split at hp
  ·rename_i fd h2
   simp only[VR]at hx;obtain⟨vs,rfl,hs⟩:=hx;obtain⟨r,e1,e2⟩:=qdO hp hs;exact⟨r,fun w=>by simp[Instr.field,qH h1,h2,asAgg,e1],e2⟩
  ·exact hp.elim
 ·exact hp.elim
def qcN(P:Program)(t:TypeId)(x i:AVal):PR:=
 match x,i with
 | .str s, .int _ n=>match P.underlying t with
   |some .string=>⟨0<=n/\n<s.length, .int .u8 (s.getD n.toNat 0).toNat⟩
   |_=> .no
 | .agg cs, .int _ n=>match P.underlying t with
   |some (.array len e)=>match Zy P e with
    |some es=>⟨(0<=n/\n<len)/\(qbu P e cs (n.toNat*es)).pre,(qbu P e cs (n.toNat*es)).val⟩
    |none=> .no
   |_=> .no
 |_,_=> .no
theorem pIndex_ok{P:Program}{fi:PMap}{t:TypeId}{x i:AVal}{v u:Value}(hp:(qcN P t x i).pre)(hx:VR fi x v)(hi:VR fi i u):
 ∃r,(∀w,(Instr.index t v u).run P w= .ok r w)/\VR fi (qcN P t x i).val r:=by
 unfold qcN at hp|-
 split at hp
 ·rename_i s k n
  split at hp
  ·rename_i h1
   simp only[VR]at hx hi;subst hx hi;simp only at hp|-
   obtain⟨h0,h2⟩:=hp;refine⟨.int .u8 (s.getD n.toNat 0).toNat,fun w=>?_,by simp only[VR]⟩;have hlt:n.toNat<s.length:=by omega
   have hg:(⟨⟨s⟩⟩:ByteArray)[n.toNat]?=some (s.getD n.toNat 0):=by
    rw[getElem?_pos _ _ (by simpa[ByteArray.size]using hlt)];simp[ByteArray.getElem_eq_getElem_data,Ko,hlt]
   simp[Instr.index,asIntOf,qH h1,h0,hg]
  ·exact hp.elim
 ·rename_i cs k n
  split at hp
  ·rename_i len e h1
   split at hp
   ·rename_i es h2
    simp only[VR]at hx hi;subst hi;obtain⟨vs,rfl,hs⟩:=hx;simp only at hp|-
    obtain⟨⟨h3,h4⟩,h5⟩:=hp;obtain⟨r,e1,e2⟩:=qdO h5 hs;exact⟨r,fun w=>by simp[Instr.index,asIntOf,qH h1,h3,h4,Zr h2,e1],e2⟩
   ·exact hp.elim
  ·exact hp.elim
 ·exact hp.elim
def Xe(P:Program)(t:TypeId)(x i:AVal):PR:=
 match x,i with
 | .slice l o len _, .int _ n=>match P.underlying t with
   |some (.slice e)=>match Zy P e with
    |some es=>⟨0<=n/\n<len, .ptr l (o+n.toNat*es)⟩
    |none=> .no
   |_=> .no
 | .ptr l o, .int _ n=>match P.underlying t with
   |some (.array len e)=>match Zy P e with
    |some es=>⟨0<=n/\n<len, .ptr l (o+n.toNat*es)⟩
    |none=> .no
   |_=> .no
 |_,_=> .no
theorem qmH{P:Program}{fi:PMap}{t:TypeId}{x i:AVal}{v u:Value}(hp:(Xe P t x i).pre)(hx:VR fi x v)(hi:VR fi i u):
 ∃r,(∀w,(Instr.indexAt t v u).run P w= .ok r w)/\VR fi (Xe P t x i).val r:=by
 unfold Xe at hp|-
 split at hp
 ·rename_i l o len c k n
  split at hp
  ·rename_i e h1
   split at hp
   ·rename_i es h2
    simp only at hp|-
    obtain⟨h3,h4⟩:=hp;obtain⟨a,cap,rfl,ha⟩:=Yn hx;simp only[VR]at hi;subst hi;have ha':=ha (by omega);refine⟨.pointer (some (a.add (n.toNat*es))),fun w=>?_,by simp only[VR];exact⟨_,Yt ha',rfl⟩⟩;simp[Instr.indexAt,asIntOf,qH h1,h3,h4,Zr h2]
   ·exact hp.elim
  ·exact hp.elim
 ·rename_i l o k n
  split at hp
  ·rename_i len e h1
   split at hp
   ·rename_i es h2
    simp only at hp|-
    obtain⟨h3,h4⟩:=hp;simp only[VR]at hi hx;subst hi;obtain⟨a,ha,rfl⟩:=hx;refine⟨.pointer (some (a.add (n.toNat*es))),fun w=>?_,by simp only[VR];exact⟨_,Yt ha,rfl⟩⟩;simp[Instr.indexAt,Instr.sureAddr,asIntOf,qH h1,h3,h4,Zr h2]
   ·exact hp.elim
  ·exact hp.elim
 ·exact hp.elim
def Qj(P:Program)(t:TypeId)(x:AVal)(f:Nat):PR:=
 match x,P.underlying t with
 | .ptr l o,some (.struct fs)=>match fs[f]? with
   |some fd=>match Zy P fd.type with
    |some n=>⟨n≠0, .ptr l (o+fd.offset)⟩
    |none=> .no
   |none=> .no
 |_,_=> .no
theorem qmI{P:Program}{fi:PMap}{t:TypeId}{x:AVal}{f:Nat}{v:Value}(hp:(Qj P t x f).pre)(hx:VR fi x v):
 ∃r,(∀w,(Instr.fieldAt t v f).run P w= .ok r w)/\VR fi (Qj P t x f).val r:=by
 unfold Qj at hp|-
 split at hp
 ·rename_i l o fs h1
  split at hp
  ·rename_i fd h2
   split at hp
   ·rename_i n h3
    simp only[VR]at hx;obtain⟨a,ha,rfl⟩:=hx;simp only at hp|-
    refine⟨.pointer (some (a.add fd.offset)),fun w=>?_,by simp only[VR];exact⟨_,Yt ha,rfl⟩⟩;simp[Instr.fieldAt,qH h1,h2,Instr.sureAddr,fieldPlace,Zr h3,hp]
   ·exact hp.elim
  ·exact hp.elim
 ·exact hp.elim
def Yr(P:Program)(wz:World)(h:AHeap)(t:TypeId)(x:AVal):PR:=
 match x with
 | .ptr l o=>match Yd P t,Zy P t with
   |some true,some n=>⟨allLive (cellsAt wz h l o n)=true, .agg (cellsAt wz h l o n)⟩
   |some false,_=>⟨(rd wz h l o).live=true,rd wz h l o⟩
   |_,_=> .no
 |_=> .no
theorem qrr{P:Program}{wz w:World}{fi:PMap}{h:AHeap}{t:TypeId}{x:AVal}{v:Value}(hp:(Yr P wz h t x).pre)(hr:HRel wz fi h w)(hx:VR fi x v):
 ∃r,(∀w',Same w w'->(Instr.loadAt t v).run P w'= .ok r w')/\VR fi (Yr P wz h t x).val r:=by
 unfold Yr at hp|-
 split at hp
 ·rename_i l o
  simp only[VR]at hx;obtain⟨a,ha,rfl⟩:=hx;split at hp
  ·rename_i n h1 h2
   simp only at hp|-
   obtain⟨vs,e1,e2,e3,_⟩:=qcv (P:=P) hr (fun _=>ha) hp;refine⟨.agg vs.toArray,fun w' hw=>?_,by simp only[VR];exact⟨vs,rfl,e2⟩⟩;simp[Instr.loadAt,Instr.sureAddr,loadVar,qes h1,Zr h2,e3 w' hw]
  ·rename_i _ _ h1
   simp only at hp|-
   obtain⟨a',u,g1,g2,g3,_⟩:=hr.rd l o hp;have:a'=a:=by rw[ha]at g1;exact(Option.some.inj g1).symm
   subst this;exact⟨u,fun w' hw=>by simp[Instr.loadAt,Instr.sureAddr,loadVar,qes h1,hw.cell _ _ g2],g3⟩
  ·exact hp.elim
 ·exact hp.elim
def qcd(x:Option AVal)(d:Nat):Option Int:=
 match x with
 |none=>some d
 |some (.int _ n)=>some n
 |_=>none
def Ws(P:Program)(t:TypeId)(x:AVal)(lo hi mx:Option AVal):PR:=
 match x,P.underlying t with
 | .str s,some .string=>match mx,qcd lo 0,qcd hi s.length with
   |none,some l,some h=>⟨0<=l/\l<=h/\h<=s.length, .str ((s.drop l.toNat).take (h.toNat-l.toNat))⟩
   |_,_,_=> .no
 | .nilSlice,some (.slice e)=>match Zy P e,mx,qcd lo 0,qcd hi 0 with
   |some _,none,some l,some h=>⟨l=0/\h=0, .nilSlice⟩
   |some _,some (.int _ m),some l,some h=>⟨(l=0/\h=0/\m=0)/\hi.isSome=true, .nilSlice⟩
   |_,_,_,_=> .no
 | .slice lc o len c,some (.slice e)=>match Zy P e,qcd lo 0,qcd hi len,mx,c with
   |some es,some l,some h,none, .exact c=>⟨0<=l/\l<=h/\h<=c, .slice lc (o+l.toNat*es) (h-l).toNat (.exact (c-l).toNat)⟩
   |some es,some l,some h,none, .grow g=>⟨0<=l/\l<=h/\h<=len/\g=es, .slice lc (o+l.toNat*es) (h-l).toNat (.grow g)⟩
   |some es,some l,some h,some (.int _ m), .exact c=>⟨(0<=l/\l<=h/\h<=m/\m<=c)/\hi.isSome=true, .slice lc (o+l.toNat*es) (h-l).toNat (.exact (m-l).toNat)⟩
   |some es,some l,some h,some (.int _ m), .grow _=>⟨(0<=l/\l<=h/\h<=m/\m<=len)/\hi.isSome=true, .slice lc (o+l.toNat*es) (h-l).toNat (.exact (m-l).toNat)⟩
   |_,_,_,_,_=> .no
 |_,_=> .no
theorem qaV{P:Program}(b:Bool)(len cap:Nat)(lo hi:Option Value)(l h:Int)
 (hlo:(lo=none/\l=0)\/∃k,lo=some (.int k l)) (hhi:(hi=none/\h=len)\/∃k,hi=some (.int k h)) (h0:0<=l) (h1:l<=h) (h2:h<=cap):
 ∀w:World,(Instr.sliceBounds b len cap lo hi none).run P w= .ok (l.toNat,h.toNat,cap) w:=by
 intro w;obtain⟨l,rfl⟩:=KG h0;obtain⟨h,rfl⟩:=KG (KH h0 h1);have b1:l<=h:=by omega
 have b2:h<=cap:=by omega
 rcases hlo with⟨rfl,e⟩|⟨k,rfl⟩<;>rcases hhi with⟨rfl,e'⟩|⟨k',rfl⟩
 ·obtain rfl:l=0:=by omega
  obtain rfl:h=len:=by omega
  simp[Instr.sliceBounds]
 ·obtain rfl:l=0:=by omega
  simp[Instr.sliceBounds,Instr.sliceBound,asIntOf,b2]
 ·obtain rfl:h=len:=by omega
  simp[Instr.sliceBounds,Instr.sliceBound,asIntOf,b1]
 ·simp[Instr.sliceBounds,Instr.sliceBound,asIntOf,b1,b2]
theorem qcg{P:Program}(len cap:Nat)(lo:Option Value)(l h m:Int)(k' k'':IntKind)
 (hlo:(lo=none/\l=0)\/∃k,lo=some (.int k l)) (h0:0<=l) (h1:l<=h) (h2:h<=m) (h3:m<=cap):
 ∀w:World,(Instr.sliceBounds true len cap lo (some (.int k' h)) (some (.int k'' m))).run P w= .ok (l.toNat,h.toNat,m.toNat) w:=by
 intro w;obtain⟨l,rfl⟩:=KG h0;obtain⟨h,rfl⟩:=KG (KH h0 h1);obtain⟨m,rfl⟩:=KG (KH h0 (KH h1 h2));have b1:l<=h:=by omega
 have b2:h<=m:=by omega
 have b3:m<=cap:=by omega
 rcases hlo with⟨rfl,e⟩|⟨k,rfl⟩
 ·obtain rfl:l=0:=by omega
  simp[Instr.sliceBounds,Instr.sliceBound,asIntOf,b2,b3]
 ·simp[Instr.sliceBounds,Instr.sliceBound,asIntOf,b1,b2,b3]
def OVR(fi:PMap):Option AVal->Option Value->Prop
 |none,v=>v=none
 |some x,v=>∃u,v=some u/\VR fi x u
theorem qcw{fi:PMap}{x:Option AVal}{v:Option Value}{d:Nat}{n:Int}(h:qcd x d=some n)(hx:OVR fi x v):
 (v=none/\n=d/\x=none)\/∃k,v=some (.int k n):=by
 unfold qcd at h;split at h
 ·simp only[OVR]at hx
  exact .inl ⟨hx,(Option.some.inj h).symm,rfl⟩
 ·rename_i k n'
  simp only[OVR,VR]at hx;obtain⟨u,rfl,rfl⟩:=hx;cases h;exact .inr ⟨k,rfl⟩
 ·cases h
theorem qkv{P:Program}(t:TypeId)(ht:P.underlying t=some .string)(s:List UInt8)(lo hi:Option Value)(l h:Int)
 (hlo:(lo=none/\l=0)\/∃k,lo=some (.int k l)) (hhi:(hi=none/\h=s.length)\/∃k,hi=some (.int k h)) (h0:0<=l) (h1:l<=h) (h2:h<=s.length):
 ∀w:World,(Instr.sliceAt t (.string ⟨⟨s⟩⟩) lo hi none).run P w= .ok (.string ⟨⟨(s.drop l.toNat).take (h.toNat-l.toNat)⟩⟩) w:=by
 intro w;have hb:=qaV (P:=P) false s.length s.length lo hi l h hlo hhi h0 h1 h2 w;have hx:(⟨⟨s⟩⟩:ByteArray).extract l.toNat h.toNat=⟨⟨(s.drop l.toNat).take (h.toNat-l.toNat)⟩⟩:=by
  apply ByteArray.ext;apply KF;rw[Lib.extract_data]
 have hsz:(⟨⟨s⟩⟩:ByteArray).size=s.length:=by simp[ByteArray.size]
 simp[Instr.sliceAt,Instr.slice,qH ht,hsz,hb,hx]
theorem WT{P:Program}(t e:TypeId)(ht:P.underlying t=some (.slice e))(es:Nat)(he:Zy P e=some es)(a:Option Addr)(len cap:Nat)(lo hi mx:Option Value)(l h m:Nat)
 (hb:∀w:World,(Instr.sliceBounds true len cap lo hi mx).run P w= .ok (l,h,m) w):
 ∀w:World,(Instr.sliceAt t (.slice a len cap) lo hi mx).run P w= .ok (.slice (if m=l then a else a.map (·.add (l*es))) (h-l) (m-l)) w:=by
 intro w;simp[Instr.sliceAt,Instr.slice,qH ht,hb w,Zr he]
theorem pSlice_ok{P:Program}{fi:PMap}{t:TypeId}{x:AVal}{lo hi mx:Option AVal}{v:Value}{vl vh vm:Option Value}(hp:(Ws P t x lo hi mx).pre)(hx:VR fi x v)
 (hl:OVR fi lo vl) (hh:OVR fi hi vh) (hm:OVR fi mx vm):
 ∃r,(∀w,(Instr.sliceAt t v vl vh vm).run P w= .ok r w)/\VR fi (Ws P t x lo hi mx).val r:=by
 unfold Ws at hp|-
 split at hp
 ·rename_i s h1
  split at hp
  ·rename_i l h h2 h3
   simp only[VR]at hx;subst hx;simp only[OVR]at hm;subst hm;simp only at hp|-
   obtain⟨p1,p2,p3⟩:=hp;refine⟨_,qkv t h1 s vl vh l h ?_ ?_ p1 p2 p3,by simp only[VR]⟩
   ·rcases qcw h2 hl with⟨e1,e2,_⟩|e
    ·exact .inl ⟨e1,by simpa using e2⟩
    ·exact .inr e
   ·rcases qcw h3 hh with⟨e1,e2,_⟩|e
    ·exact .inl ⟨e1,by simpa using e2⟩
    ·exact .inr e
  ·exact hp.elim
 ·rename_i e h1
  split at hp
  ·rename_i n l h h2 h3 h4
   simp only[VR]at hx;subst hx;simp only[OVR]at hm;subst hm;simp only at hp|-
   obtain⟨rfl,rfl⟩:=hp;have hb:=qaV (P:=P) true 0 0 vl vh 0 0 (by
    rcases qcw h3 hl with⟨e1,_,_⟩|e
    ·exact .inl ⟨e1,rfl⟩
    ·exact .inr e) (by
    rcases qcw h4 hh with⟨e1,_,_⟩|e
    ·exact .inl ⟨e1,rfl⟩
    ·exact .inr e) (by omega) (by omega) (by omega)
   exact⟨_,WT t e h1 n h2 none 0 0 vl vh none _ _ _ hb,by simp[VR]⟩
  ·rename_i n k m l h h2 h3 h4
   simp only[VR]at hx;subst hx;simp only[OVR,VR]at hm;obtain⟨u,rfl,rfl⟩:=hm;simp only at hp|-
   obtain⟨⟨rfl,rfl,rfl⟩,p5⟩:=hp;obtain⟨kh,rfl⟩:∃k,vh=some (.int k 0):=by
    rcases qcw h4 hh with⟨_,_,e3⟩|e
    ·subst e3;cases p5
    ·exact e
   have hb:=qcg (P:=P) 0 0 vl 0 0 0 kh k (by
    rcases qcw h3 hl with⟨e1,_,_⟩|e
    ·exact .inl ⟨e1,rfl⟩
    ·exact .inr e) (by omega) (by omega) (by omega) (by omega)
   exact⟨_,WT t e h1 n h2 none 0 0 vl _ _ _ _ _ hb,by simp[VR]⟩
  ·exact hp.elim
 ·rename_i lc o len c e h1
  have low:∀l,qcd lo 0=some l->(vl=none/\l=0)\/∃k,vl=some (.int k l):=fun l hb=>by
   rcases qcw hb hl with⟨e1,e2,_⟩|e
   ·exact .inl ⟨e1,by simpa using e2⟩
   ·exact .inr e
  have high:∀h,qcd hi len=some h->(vh=none/\h=len)\/∃k,vh=some (.int k h):=fun h hb=>by
   rcases qcw hb hh with⟨e1,e2,_⟩|e
   ·exact .inl ⟨e1,e2⟩
   ·exact .inr e
  have high':∀h,qcd hi len=some h->hi.isSome=true->∃k,vh=some (.int k h):=fun h hb hs=>by
   rcases qcw hb hh with⟨_,_,e3⟩|e
   ·subst e3;cases hs
   ·exact e
  split at hp
  ·rename_i es l h c h2 h3 h4
   simp only[OVR]at hm;subst hm;simp only at hp|-
   obtain⟨p1,p2,p3⟩:=hp;simp only[VR]at hx;obtain⟨a,rfl,ha⟩:=hx;have hb:=qaV (P:=P) true len c vl vh l h (low l h3) (high h h4) p1 p2 p3;refine⟨_,WT t e h1 es h2 (some a) len c vl vh none _ _ _ hb,?_⟩;simp only[VR];refine⟨if c=l.toNat then a else a.add (l.toNat*es),?_,fun hne=>?_⟩
   ·congr 1
    ·split<;>simp
    ·omega
    ·omega
   ·have hcl:c≠l.toNat:=by omega
    rw[if_neg hcl];exact Yt (ha (by omega))
  ·rename_i es l h g h2 h3 h4
   simp only[OVR]at hm;subst hm;simp only at hp|-
   obtain⟨p1,p2,p3,rfl⟩:=hp;simp only[VR]at hx;obtain⟨k,p,c,a,rfl,hp,rfl,hlc,hc⟩:=hx;have hb:=qaV (P:=P) true len c vl vh l h (low l h3) (high h h4) p1 p2 (by omega);refine⟨_,WT t e h1 g h2 (some a) len c vl vh none _ _ _ hb,?_⟩;simp only[VR];refine⟨k,p,c-l.toNat,if c=l.toNat then a else a.add (l.toNat*g),rfl,hp,?_,by omega,fun hne=>?_⟩
   ·congr 1
    ·split<;>simp
    ·omega
   ·have hcl:c≠l.toNat:=by omega
    rw[if_neg hcl];obtain⟨e1,e2⟩:=hc (by omega);constructor
    ·have:Xf fi (.own k) o=some a:=by simp[Xf,hp,e1]
     have:=Yt (j:=l.toNat*g) this;simp only[Xf,hp,KI,Option.some.injEq]at this;exact this.symm
    ·rw[Kw,<-KJ]
     rw[show l.toNat+(c-l.toNat)=c by omega];exact e2
  ·rename_i es l h k m c h2 h3 h4
   simp only[OVR,VR]at hm;obtain⟨u,rfl,rfl⟩:=hm;simp only at hp|-
   obtain⟨⟨p1,p2,p3,p4⟩,p5⟩:=hp;obtain⟨kh,rfl⟩:=high' h h4 p5;simp only[VR]at hx;obtain⟨a,rfl,ha⟩:=hx;have hb:=qcg (P:=P) len c vl l h m kh k (low l h3) p1 p2 p3 p4;refine⟨_,WT t e h1 es h2 (some a) len c vl _ _ _ _ _ hb,?_⟩;simp only[VR];refine⟨if m.toNat=l.toNat then a else a.add (l.toNat*es),?_,fun hne=>?_⟩
   ·congr 1
    ·split<;>simp
    ·omega
    ·omega
   ·have hcl:m.toNat≠l.toNat:=by omega
    rw[if_neg hcl];exact Yt (ha (by omega))
  ·rename_i es l h k m g h2 h3 h4
   simp only[OVR,VR]at hm;obtain⟨u,rfl,rfl⟩:=hm;simp only at hp|-
   obtain⟨⟨p1,p2,p3,p4⟩,p5⟩:=hp;obtain⟨kh,rfl⟩:=high' h h4 p5;simp only[VR]at hx;obtain⟨k',p,c,a,rfl,hp,rfl,hlc,hc⟩:=hx;have hb:=qcg (P:=P) len c vl l h m kh k (low l h3) p1 p2 p3 (by omega);refine⟨_,WT t e h1 es h2 (some a) len c vl _ _ _ _ _ hb,?_⟩;simp only[VR];refine⟨if m.toNat=l.toNat then a else a.add (l.toNat*es),?_,fun hne=>?_⟩
   ·congr 1
    ·split<;>simp
    ·omega
    ·omega
   ·have hcl:m.toNat≠l.toNat:=by omega
    rw[if_neg hcl];obtain⟨e1,e2⟩:=hc (by omega);exact Yt (by simp[Xf,hp,e1])
  ·exact hp.elim
 ·exact hp.elim
def kEq:AVal->AVal->Option Bool
 | .str a, .str b=>some (decide (a=b))
 | .int k a, .int k' b=>if k=k' then some (decide (a=b))else none
 |_,_=>none
def qcb(P:Program)(kt:TypeId)(x:AVal):Bool:=
 match P.underlying kt,x with
 |some .string, .str _=>true
 |some (.int _), .int _ _=>true
 |_,_=>false
def qdh(key:AVal):List AVal->Nat->Option (Option (Nat×AVal))
 |[],_=>some none
 | .mapE _ k v::es,i=>match kEq key k with
   |some true=>some (some (i,v))
   |some false=>qdh key es (i+1)
   |none=>none
 |_::_,_=>none
def Ur(h:AHeap)(k:Nat):Option (Nat×List AVal):=
 match h k with
 |some ⟨.mapO c::es,f⟩=>if f=es.length+2 then some (c,es)else none
 |_=>none
def Yg(c:Nat)(es:List AVal):Blk:=⟨.mapO c::es,es.length+2⟩
theorem WM{h:AHeap}{k c:Nat}{es:List AVal}(hm:Ur h k=some (c,es)):h k=some (Yg c es):=by
 unfold Ur at hm;split at hm
 ·rename_i c' es' f hk
  split at hm
  ·rename_i hf
   cases hm;rw[hk,hf];rfl
  ·cases hm
 ·cases hm
theorem qbY{h:AHeap}{k c:Nat}{es:List AVal}(hm:h k=some (Yg c es)):Ur h k=some (c,es):=by
 unfold Ur;rw[hm];simp[Yg]
theorem HRel.mapAt{wz w:World}{fi:PMap}{h:AHeap}(hr:HRel wz fi h w){k c:Nat}{es:List AVal}(hm:Ur h k=some (c,es)):
 ∃p entries,fi k=some p/\w.heap[p.blk]?=some (.map entries c)/\ERel fi es entries.toList:=by
 have hk:=WM hm;obtain⟨p,hp,_,ok⟩:=hr.own k _ hk;obtain⟨o,h1,h2⟩:=(ok.obj rfl).obj;refine⟨p,?_⟩;cases o with
 |map entries clock=>
  obtain⟨e1,e2⟩:=(show clock=c/\ERel fi es entries.toList from h2)
  subst e1;exact⟨entries,hp,h1,e2⟩
 |_=>exact(show False from h2).elim
theorem qoB:∀a b:ByteArray,(a==b)=true->a=b
 |⟨a⟩,⟨b⟩,h=>by
  have h1:(a==b)=true:=h;rw[beq_iff_eq]at h1;rw[h1]
theorem qfG(a:ByteArray):(a==a)=true:=by
 show(a.data==a.data)=true
 exact beq_self_eq_true _
theorem kEq_ok{fi:PMap}{P:Program}{kt:TypeId}{d:TypeDesc}{x y:AVal}{u v:Value}{b:Bool}(hd:P.underlying kt=some d)(hk:qcb P kt x=true)(he:kEq x y=some b)(hx:VR fi x u)(hy:VR fi y v):
 Instr.sameNow d u v=some b/\(b=true->y=x):=by
 unfold qcb at hk;rw[hd]at hk;cases d with
 |string=>
  cases x with
  |str a=>
   cases y<;>simp only[kEq]at he<;>first|(cases he;done)|skip
   rename_i c
   simp only[VR]at hx hy;subst hx hy;cases he;refine⟨?_,fun h=>?_⟩
   ·have e:((⟨⟨a⟩⟩:ByteArray)==⟨⟨c⟩⟩)=decide (a=c):=by
     rw[KA,decide_eq_true_eq];constructor
     ·intro h
      have h2:=qoB _ _ h;cases h2;rfl
     ·rintro rfl
      exact qfG _
    simp only[Instr.sameNow];rw[e]
   ·rw[of_decide_eq_true h]
  |_=>cases hk
 |int k=>
  cases x with
  |int n m=>
   cases y<;>simp only[kEq]at he<;>first|(cases he;done)|skip
   rename_i k' n'
   split at he
   ·rename_i hkk
    subst hkk;simp only[VR]at hx hy;subst hx hy;cases he;refine⟨by simp[Instr.sameNow,qiD],fun h=>by rw[of_decide_eq_true h]⟩
   ·cases he
  |_=>cases hk
 |_=>cases x<;>cases hk
theorem find_ok{fi:PMap}{P:Program}{kt:TypeId}{d:TypeDesc}{x:AVal}{u:Value}(hd:P.underlying kt=some d)(hk:qcb P kt x=true)(hx:VR fi x u):∀{es:List AVal} {l:List MapEntry} {i:Nat} {r:Option (Nat×AVal)},
 ERel fi es l->qdh x es i=some r->∃r',Instr.findNow d u l i=some r'/\match r,r' with
  |none,none=>True
  |some (j,y),some (j',v)=>j=j'/\VR fi y v/\i<=j/\∃e,l[j-i]?=some e/\e.val=v/\VR fi x e.key
  |_,_=>False
 |[],l,i,r,he,hf=>by
  simp only[ERel]at he;subst he;simp only[qdh,Option.some.injEq]at hf;subst hf;exact⟨none,rfl,trivial⟩
 |c::es,l,i,r,he,hf=>by
  simp only[ERel]at he;obtain⟨e,l',rfl,hc,he⟩:=he;cases c<;>first|(exact hc.elim;done)|skip
  rename_i b k v
  simp only at hc;obtain⟨c1,c2,c3⟩:=hc;simp only[qdh]at hf;split at hf
  ·rename_i hq
   obtain⟨q1,q2⟩:=kEq_ok hd hk hq hx c2;cases hf;refine⟨some (i,e.val),by simp only[Instr.findNow,q1],rfl,c3,KL _,e,by simp,rfl,?_⟩;rw[<-q2 rfl];exact c2
  ·rename_i hq
   obtain⟨q1,_⟩:=kEq_ok hd hk hq hx c2;obtain⟨r',g1,g2⟩:=find_ok hd hk hx he hf;refine⟨r',by simp only[Instr.findNow,q1];exact g1,?_⟩;match r,r',g2 with
   |none,none,_=>trivial
   |some (j,y),some (j',v'),⟨f1,f2,f3,e',f4,f5⟩=>exact⟨f1,f2,by omega,e',by rw[show j-i=(j-(i+1))+1 by omega,KM];exact f4,f5⟩
  ·cases hf
theorem run_findKey{P:Program}{kt:TypeId}{d:TypeDesc}{u:Value}{l:List MapEntry}{r:Option (Nat×Value)}(hd:P.underlying kt=some d)(h:Instr.findNow d u l 0=some r)(w:World):(Instr.findKey kt u l).run P w= .ok r w:=by
 simp[Instr.findKey,qH hd,h]
theorem run_checkKey{P:Program}{kt:TypeId}{x:AVal}(hk:qcb P kt x=true)(b:Bool)(u:Value)(w:World):(Instr.checkKey b 10000 kt u).run P w= .ok () w:=by
 unfold qcb at hk;cases hd:P.underlying kt with
 |none=>simp[hd]at hk
 |some d=>
  have key:∀n,(Instr.checkKey b (n+1) kt u).run P w= .ok () w:=fun n=>by
   simp only[Instr.checkKey,Sem.run_bind,qH hd,Result.andThen_ok];rw[hd]at hk;cases d<;>first|(cases x<;>cases hk;done)|rfl
  exact key 9999
theorem qdR{P:Program}{kt:TypeId}{x:AVal}(hk:qcb P kt x=true):∃d,P.underlying kt=some d:=by
 unfold qcb at hk;cases hd:P.underlying kt with
 |none=>simp[hd]at hk
 |some d=>exact⟨d,rfl⟩
def qjW(ok:Bool)(v:AVal)(b:Bool):AVal:=if ok then .tuple [v, .bool b]else v
def qba(P:Program)(h:AHeap)(t:TypeId)(x i:AVal)(ok:Bool):PR:=
 match P.underlying t with
 |some (.map kt et)=>match Uy P et with
  |some z=>match x with
   | .nilMap=>⟨qcb P kt i=true,qjW ok (absV z) false⟩
   | .map k=>match Ur h k with
     |some (_,es)=>match qdh i es 0 with
      |some (some (_,v))=>⟨qcb P kt i=true,qjW ok v true⟩
      |some none=>⟨qcb P kt i=true,qjW ok (absV z) false⟩
      |none=> .no
     |none=> .no
   |_=> .no
  |none=> .no
 |_=> .no
theorem qlI{fi:PMap}{ok:Bool}{y:AVal}{v:Value}{b:Bool}(h:VR fi y v):VR fi (qjW ok y b) (if ok then .tuple #[v, .bool b]else v):=by
 unfold qjW;cases ok
 ·exact h
 ·simp only[if_true,VR]
  exact⟨[v, .bool b],rfl,by simp only[VRs,VR];exact⟨_,_,rfl,h,_,_,rfl,rfl,rfl⟩⟩
theorem qtm{P:Program}{wz w:World}{fi:PMap}{h:AHeap}{t:TypeId}{x i:AVal}{ok:Bool}{v u:Value}(hp:(qba P h t x i ok).pre)(hr:HRel wz fi h w)(hx:VR fi x v)(hi:VR fi i u):
 ∃r,(∀w',Same w w'->(Instr.lookup t v u ok).run P w'= .ok r w')/\VR fi (qba P h t x i ok).val r:=by
 unfold qba at hp|-
 split at hp<;>first|exact hp.elim|skip
 rename_i kt et ht
 split at hp<;>first|exact hp.elim|skip
 rename_i z hz
 have hz':=fun w=>qdM hz w;split at hp<;>first|exact hp.elim|skip
 ·simp only[VR]at hx
  subst hx;simp only at hp|-
  obtain⟨d,hd⟩:=qdR hp;refine⟨_,fun w' _=>?_,qlI (qpy fi z)⟩;simp[Instr.lookup,qH ht,run_checkKey hp,run_findKey hd (show Instr.findNow d u [] 0=some none from rfl),hz']
 ·rename_i k
  simp only[VR]at hx;obtain⟨p,hpk,rfl⟩:=hx;split at hp<;>first|exact hp.elim|skip
  rename_i c es hm
  obtain⟨q,entries,hq,g1,g2⟩:=hr.mapAt hm;have hpq:q=p:=by rw[hpk]at hq;exact(Option.some.inj hq).symm
  subst hpq;have go:∀w',Same w w'->(getObj q.blk).run P w'= .ok (.map entries c) w':=fun w' hw=>by
   simp[getObj,Sem.run,hw.obj _ _ _ g1]
  split at hp<;>first|exact hp.elim|skip
  ·rename_i j y hf
   simp only at hp|-
   obtain⟨d,hd⟩:=qdR hp;obtain⟨r',f1,f2⟩:=find_ok hd hp hi g2 hf;cases r' with
   |none=>exact f2.elim
   |some r'=>
    obtain⟨j',v'⟩:=r';obtain⟨_,f3,_⟩:=f2;refine⟨_,fun w' hw=>?_,qlI f3⟩;simp[Instr.lookup,qH ht,go w' hw,run_checkKey hp,run_findKey hd f1]
  ·rename_i hf
   simp only at hp|-
   obtain⟨d,hd⟩:=qdR hp;obtain⟨r',f1,f2⟩:=find_ok hd hp hi g2 hf;cases r' with
   |some r'=>exact f2.elim
   |none=>
    refine⟨_,fun w' hw=>?_,qlI (qpy fi z)⟩;simp[Instr.lookup,qH ht,go w' hw,run_checkKey hp,run_findKey hd f1,hz']
def qnw(P:Program)(h:AHeap)(t:TypeId)(x:AVal):PR:=
 match P.underlying t,x with
 |some (.map _ _), .nilMap=>⟨True, .int .i64 0⟩
 |some (.map _ _), .map k=>match Ur h k with
  |some (_,es)=>⟨True, .int .i64 es.length⟩
  |none=> .no
 |_,_=> .no
theorem ERel.len{fi:PMap}:∀{cs:List AVal} {l:List MapEntry},ERel fi cs l->l.length=cs.length
 |[],_,h=>by simp only[ERel]at h;simp[h]
 |c::cs,l,h=>by
  simp only[ERel]at h;obtain⟨e,l',rfl,_,h3⟩:=h;simp[h3.len]
theorem pLenM_ok{P:Program}{wz w:World}{fi:PMap}{h:AHeap}{t ty:TypeId}{ts:Array TypeId}{x:AVal}{v:Value}(ht:ts[0]?=some t)(hp:(qnw P h t x).pre)(hr:HRel wz fi h w)(hx:VR fi x v):
 ∃r,(∀w',Same w w'->(Builtin.len_ ts ty #[v]).run P w'= .ok r w')/\VR fi (qnw P h t x).val r:=by
 unfold qnw at hp|-
 split at hp<;>first|exact hp.elim|skip
 ·rename_i h1
  simp only[VR]at hx;subst hx;exact⟨.int .i64 0,fun w' _=>by simp[Builtin.len_,ht,qH h1,goInt],rfl⟩
 ·rename_i k h1
  simp only[VR]at hx;obtain⟨p,hpk,rfl⟩:=hx;split at hp<;>first|exact hp.elim|skip
  rename_i c es hm
  obtain⟨q,entries,hq,g1,g2⟩:=hr.mapAt hm;have hpq:q=p:=by rw[hpk]at hq;exact(Option.some.inj hq).symm
  subst hpq;have hl:=g2.len;simp only[KN]at hl;refine⟨.int .i64 es.length,fun w' hw=>?_,rfl⟩;have go:(getObj q.blk).run P w'= .ok (.map entries c) w':=by simp[getObj,Sem.run,hw.obj _ _ _ g1]
  simp[Builtin.len_,ht,qH h1,goInt,go,hl]
def AVal.cells:AVal->List AVal
 | .agg cs=>cs
 |x=>[x]
theorem qgv{fi:PMap}{x:AVal}{v:Value}(h:VR fi x v)(hl:x.live=true):VRs fi x.cells v.cells.toList:=by
 by_cases hx:∃cs,x= .agg cs
 ·obtain⟨cs,rfl⟩:=hx
  simp only[VR]at h;obtain⟨vs,rfl,hs⟩:=h;simpa[AVal.cells,Value.cells]using hs
 ·have e:x.cells=[x]:=by
   unfold AVal.cells;split
   ·exact absurd ⟨_,rfl⟩ hx
   ·rfl
  rw[e,VR_cellsV h (fun cs hcs=>hx ⟨cs,hcs⟩) hl];simp only[VRs];exact⟨v,[],rfl,h,rfl⟩
def setAt{α:Type}(cells:List α)(off:Nat):List α->List α
 |[]=>cells
 |c::cs=>setAt (cells.set off c) (off+1) cs
theorem YK{α:Type}:∀(vs cells:List α) (off:Nat),(setAt cells off vs).length=cells.length
 |[],_,_=>rfl
 |c::cs,cells,off=>by simp[setAt,YK cs]
theorem qjI{fi:PMap}:∀{cs:List AVal} {us:List Value} {cells:List AVal} {vs:List Value} (off:Nat),VRs fi cs us->VRs fi cells vs->VRs fi (setAt cells off cs) (setAt vs off us)
 |[],us,_,_,_,h,h'=>by simp only[VRs]at h;subst h;exact h'
 |c::cs,us,cells,vs,off,h,h'=>by
  simp only[VRs]at h;obtain⟨u,us',rfl,h1,h2⟩:=h;simp only[setAt];exact qjI (off+1) h2 (VRs_set h' off h1)
def qgN(place:Nat->Option (Nat×Nat))(cells:List AVal):List (Nat×AVal)->Option (List AVal)
 |[]=>some cells
 |(i,v)::rest=>
  match place i with
  |none=>none
  |some (off,size)=>if v.live=true/\v.cells.length=size/\off+size<=cells.length then qgN place (setAt cells off v.cells) rest else none
theorem qkc(off:Nat):∀(us:List Value) (k:Nat) (cells:Array Value),
 ((us.zipIdx k).foldl (fun cs (x:Value×Nat)=>cs.setIfInBounds (off+x.2) x.1) cells).toList=setAt cells.toList (off+k) us
 |[],_,_=>by simp[setAt]
 |u::us,k,cells=>by
  simp only[List.zipIdx_cons,List.foldl_cons,setAt];rw[qkc off us (k+1)];simp[Kw]
inductive VParts(fi:PMap):List (Nat×AVal)->List (Nat×Value)->Prop
 |nil:VParts fi [] []
 |cons {i:Nat} {x:AVal} {v:Value} {xs:List (Nat×AVal)} {vs:List (Nat×Value)}:VR fi x v->VParts fi xs vs->VParts fi ((i,x)::xs) ((i,v)::vs)
theorem qip{fi:PMap}(place:Nat->Option (Nat×Nat)):∀{xs:List (Nat×AVal)} {vs:List (Nat×Value)} {cells:List AVal} {us:Array Value} {r:List AVal},VParts fi xs vs->
 VRs fi cells us.toList->qgN place cells xs=some r->∃r',Instr.fill place us vs=some r'/\VRs fi r r'.toList
 |[],vs,cells,us,r,h,hc,hf=>by
  cases h;simp only[qgN,Option.some.injEq]at hf;subst hf;exact⟨us,by simp[Instr.fill],hc⟩
 |(i,x)::xs,vs,cells,us,r,h,hc,hf=>by
  cases h with
  |cons hv hs=>
   rename_i v vs
   simp only[qgN]at hf;cases hp:place i with
   |none=>simp[hp]at hf
   |some q=>
    obtain⟨off,size⟩:=q;simp only[hp]at hf;split at hf
    ·rename_i hcond
     obtain⟨g1,g2,g3⟩:=hcond;have hvc:=qgv hv g1;have e1:=XA hvc;have e2:=XA hc;simp only[KN]at e1 e2;have step:VRs fi (setAt cells off x.cells) (v.cells.zipIdx.foldl (fun cs (c,j)=>cs.setIfInBounds (off+j) c) us).toList:=by
      have e3:(v.cells.zipIdx.foldl (fun cs (c,j)=>cs.setIfInBounds (off+j) c) us).toList=setAt us.toList off v.cells.toList:=by
       rw[<-Array.foldl_toList,Array.toList_zipIdx];exact qkc off v.cells.toList 0 us
      rw[e3];exact qjI off hvc hc
     obtain⟨r',f1,f2⟩:=qip place hs step hf;refine⟨r',?_,f2⟩;simp only[Instr.fill,hp];have c1:¬(v.cells.size≠size\/off+v.cells.size>us.size):=by
      rintro(h1|h1)
      ·exact h1 (by omega)
      ·omega
     have c2:(decide (v.cells.size≠size)||decide (off+v.cells.size>us.size))=false:=by
      simp only[Bool.or_eq_false_iff,decide_eq_false_iff_not];exact⟨fun h1=>c1 (.inl h1),fun h1=>c1 (.inr h1)⟩
     (simp only[c2];exact f1)
    ·cases hf
def placesOf(P:Program)(fs:List Field):Option (List (Nat×Nat)):=fs.mapM fun f=>(Zy P f.type).map fun n=>(f.offset,n)
def qpk(P:Program)(t:TypeId)(parts:List (Nat×AVal)):Option (List AVal):=
 match Uy P t,P.underlying t with
 |some z,some (.array _ e)=>match Zy P e with
  |some es=>qgN (fun i=>some (i*es,es)) (z.cells.toList.map absS) parts
  |none=>none
 |some z,some (.struct fs)=>match placesOf P fs.toList with
  |some pl=>qgN (fun i=>pl[i]?) (z.cells.toList.map absS) parts
  |none=>none
 |_,_=>none
theorem build_ok{P:Program}{fi:PMap}{t:TypeId}{xs:List (Nat×AVal)}{vs:Array (Nat×Value)}{r:List AVal}(hp:qpk P t xs=some r)(h:VParts fi xs vs.toList):
 ∃r',(∀w,(Instr.build t vs).run P w= .ok (.agg r') w)/\VRs fi r r'.toList:=by
 unfold qpk at hp;have key:∀r',P.built t vs.toList=some r'->VRs fi r r'.toList->∃r',(∀w,(Instr.build t vs).run P w= .ok (.agg r') w)/\VRs fi r r'.toList:=
  fun r' h1 h2=>⟨r',fun w=>run_build w t vs r' h1,h2⟩
 simp only[Uy]at hp;cases hi:P.info? t with
 |none=>simp[hi]at hp
 |some it=>
  simp only[hi,KO]at hp;split at hp
  ·rename_i z len e hz hu
   split at hp
   ·rename_i es he
    obtain⟨r',f1,f2⟩:=qip _ h (qae fi _) hp;refine key r' ?_ f2;simp only[Zy,Kc]at he;obtain⟨ie,hie,rfl⟩:=he;simp only[Program.built,hi,hu,hz,hie];exact f1
   ·cases hp
  ·rename_i z fs hz hu
   split at hp
   ·rename_i pl hpl
    obtain⟨r',f1,f2⟩:=qip _ h (qae fi _) hp;refine key r' ?_ f2;have e:fs.toList.mapM (fun f=>(P.info? f.type).map fun i=>(f.offset,i.size))=some pl:=by
     rw[<-hpl];unfold placesOf;congr 1;funext f;simp only[Zy];cases P.info? f.type<;>rfl
    simp only[Program.built,hi,hu,hz,e];simpa using f1
   ·cases hp
  ·cases hp
mutual
def eqA(P:Program):Nat->TypeId->AVal->AVal->PR
 |0,_,_,_=> .no
 |d+1,t,x,y=>
  match x,y,P.underlying t with
  | .bool a, .bool b,some .bool=>⟨True, .bool (a==b)⟩
  | .int k a, .int k' b,some (.int _)=>if k=k' then⟨True, .bool (decide (a=b))⟩else .no
  | .str a, .str b,some .string=>⟨True, .bool (decide (a=b))⟩
  | .agg xs, .agg ys,some (.struct fs)=>if P.stoodInHeld t=false then qmL P d xs ys fs.toList else .no
  | .agg xs, .agg ys,some (.array n e)=>if (P.info? e).isSome then qoY P d e (P.cellsOf e) xs ys (KP n)else .no
  |_,_,_=> .no
def qoY(P:Program):Nat->TypeId->Nat->List AVal->List AVal->List Nat->PR
 |0,_,_,_,_,[]=>⟨True, .bool true⟩
 |0,_,_,_,_,_::_=> .no
 |_+1,_,_,_,_,[]=>⟨True, .bool true⟩
 |d+1,t,n,xs,ys,i::is=>
  match (eqA P d t (qbu P t xs (i*n)).val (qbu P t ys (i*n)).val).val,(qoY P d t n xs ys is).val with
  | .bool a, .bool b=>⟨(qbu P t xs (i*n)).pre/\(qbu P t ys (i*n)).pre/\(eqA P d t (qbu P t xs (i*n)).val (qbu P t ys (i*n)).val).pre/\(qoY P d t n xs ys is).pre, .bool (a && b)⟩
  |_,_=> .no
def qmL(P:Program):Nat->List AVal->List AVal->List Field->PR
 |0,_,_,[]=>⟨True, .bool true⟩
 |0,_,_,_::_=> .no
 |_+1,_,_,[]=>⟨True, .bool true⟩
 |d+1,xs,ys,f::fs=>
  if f.name= "_" then qmL P d xs ys fs else
  match (eqA P d f.type (qbu P f.type xs f.offset).val (qbu P f.type ys f.offset).val).val,(qmL P d xs ys fs).val with
  | .bool a, .bool b=>⟨(qbu P f.type xs f.offset).pre/\(qbu P f.type ys f.offset).pre/\(eqA P d f.type (qbu P f.type xs f.offset).val (qbu P f.type ys f.offset).val).pre/\(qmL P d xs ys fs).pre, .bool (a && b)⟩
  |_,_=> .no
end
mutual
theorem eqA_ok{P:Program}{fi:PMap}:∀(d e:Nat) (t:TypeId) (x y:AVal) (u v:Value),d<=e->(eqA P d t x y).pre->VR fi x u->VR fi y v->
 ∃b,(eqA P d t x y).val= .bool b/\∀w,(Op.equalIn e t u v).run P w= .ok b w
 |0,_,_,_,_,_,_,_,hp,_,_=>by simp only[eqA]at hp;exact hp.elim
 |d+1,0,_,_,_,_,_,hde,_,_,_=>by omega
 |d+1,e+1,t,x,y,u,v,hde,hp,hx,hy=>by
  simp only[eqA]at hp|-
  split at hp
  ·rename_i a b ht
   simp only[VR]at hx hy;subst hx hy;exact⟨_,rfl,fun w=>run_equalIn_bool' w e t a b ht⟩
  ·rename_i k a k' b kk ht
   simp only[VR]at hx hy;subst hx hy;split at hp
   ·rename_i hk
    subst hk;rw[if_pos rfl];refine⟨_,rfl,fun w=>?_⟩;rw[run_equalIn_int w e t k kk a b ht,qiD]
   ·exact hp.elim
  ·rename_i a b ht
   simp only[VR]at hx hy;subst hx hy;refine⟨_,rfl,fun w=>?_⟩;rw[run_equalIn_string w e t _ _ ht,qiD,ByteArray.toList_eq,ByteArray.toList_eq]
  ·rename_i xs ys fs ht
   split at hp
   ·rename_i hh
    simp only[VR]at hx hy;obtain⟨us,rfl,hus⟩:=hx;obtain⟨vs,rfl,hvs⟩:=hy;have hf:P.fieldsOf t=fs:=by simp[Program.fieldsOf,ht]
    obtain⟨b,e1,e2⟩:=qoZ d e xs ys fs.toList us vs (by omega) hp hus hvs;rw[if_pos hh];refine⟨b,e1,fun w=>?_⟩;rw[run_equalIn_struct w e t us.toArray vs.toArray (by rw[hf];exact ht) hh,hf];exact e2 w
   ·exact hp.elim
  ·rename_i xs ys n el ht
   split at hp
   ·rename_i hh
    simp only[VR]at hx hy;obtain⟨us,rfl,hus⟩:=hx;obtain⟨vs,rfl,hvs⟩:=hy;obtain⟨inf,hinf⟩:=Option.isSome_iff_exists.1 hh;obtain⟨b,e1,e2⟩:=eqIA_ok d e el (P.cellsOf el) xs ys (KP n) us vs (by omega) hp hus hvs;rw[if_pos hh];refine⟨b,e1,fun w=>?_⟩;rw[run_equalIn_array w e us.toArray vs.toArray ht hinf];exact e2 w
   ·exact hp.elim
  ·exact hp.elim
theorem eqIA_ok{P:Program}{fi:PMap}:∀(d e:Nat) (t:TypeId) (n:Nat) (xs ys:List AVal) (is:List Nat) (us vs:List Value),d<=e->(qoY P d t n xs ys is).pre->VRs fi xs us->VRs fi ys vs->
 ∃b,(qoY P d t n xs ys is).val= .bool b/\∀w,(Op.eqItems e t n us.toArray vs.toArray is).run P w= .ok b w
 |0,_,_,_,_,_,[],_,_,_,_,_,_=>⟨true,by simp[qoY],fun w=>by simp[Op.eqItems]⟩
 |0,_,_,_,_,_,_::_,_,_,_,hp,_,_=>by simp only[qoY]at hp;exact hp.elim
 |_+1,_,_,_,_,_,[],_,_,_,_,_,_=>⟨true,by simp[qoY],fun w=>by simp[Op.eqItems]⟩
 |d+1,e,t,n,xs,ys,i::is,us,vs,hde,hp,hx,hy=>by
  simp only[qoY]at hp|-
  split at hp
  ·rename_i a b ha hb
   obtain⟨p1,p2,p3,p4⟩:=hp;obtain⟨u,q1,q2⟩:=qdO p1 hx;obtain⟨v,q3,q4⟩:=qdO p2 hy;obtain⟨b1,q5,q6⟩:=eqA_ok d e t _ _ u v (by omega) p3 q2 q4;obtain⟨b2,q7,q8⟩:=eqIA_ok d e t n xs ys is us vs (by omega) p4 hx hy;rw[ha]at q5;rw[hb]at q7;cases q5;cases q7;refine⟨a && b,rfl,fun w=>?_⟩;simp only[Op.eqItems,Sem.run_bind,q1,Result.andThen_ok,q3,q6];cases a
   ·simp
   ·simpa using q8 w
  ·exact hp.elim
theorem qoZ{P:Program}{fi:PMap}:∀(d e:Nat) (xs ys:List AVal) (fs:List Field) (us vs:List Value),d<=e->(qmL P d xs ys fs).pre->VRs fi xs us->VRs fi ys vs->
 ∃b,(qmL P d xs ys fs).val= .bool b/\∀w,(Op.eqFields e us.toArray vs.toArray fs).run P w= .ok b w
 |0,_,_,_,[],_,_,_,_,_,_=>⟨true,by simp[qmL],fun w=>by simp[Op.eqFields]⟩
 |0,_,_,_,_::_,_,_,_,hp,_,_=>by simp only[qmL]at hp;exact hp.elim
 |_+1,_,_,_,[],_,_,_,_,_,_=>⟨true,by simp[qmL],fun w=>by simp[Op.eqFields]⟩
 |d+1,e,xs,ys,f::fs,us,vs,hde,hp,hx,hy=>by
  simp only[qmL]at hp|-
  by_cases hn:f.name= "_"
  ·simp only[hn,if_true]at hp|-
   obtain⟨b,e1,e2⟩:=qoZ d e xs ys fs us vs (by omega) hp hx hy;exact⟨b,e1,fun w=>by simpa[Op.eqFields,hn]using e2 w⟩
  ·simp only[hn,if_false]at hp|-
   split at hp
   ·rename_i a b ha hb
    obtain⟨p1,p2,p3,p4⟩:=hp;obtain⟨u,q1,q2⟩:=qdO p1 hx;obtain⟨v,q3,q4⟩:=qdO p2 hy;obtain⟨b1,q5,q6⟩:=eqA_ok d e f.type _ _ u v (by omega) p3 q2 q4;obtain⟨b2,q7,q8⟩:=qoZ d e xs ys fs us vs (by omega) p4 hx hy;rw[ha]at q5;rw[hb]at q7;cases q5;cases q7;refine⟨a && b,rfl,fun w=>?_⟩;simp only[Op.eqFields,ne_eq,hn,not_false_eq_true,if_true,Sem.run_bind,q1,Result.andThen_ok,q3,q6];cases a
    ·simp
    ·simpa using q8 w
   ·exact hp.elim
end
def qdD(P:Program)(op:BinOp)(t:TypeId)(x y:AVal):PR:=
 match (eqA P 40 t x y).val with
 | .bool b=>match op with
   | .eql=>⟨(eqA P 40 t x y).pre/\P.eqGuardType P.depth t=false, .bool b⟩
   | .neq=>⟨(eqA P 40 t x y).pre/\P.eqGuardType P.depth t=false, .bool (!b)⟩
   |_=> .no
 |_=> .no
theorem pAggEq_ok{P:Program}{fi:PMap}{op:BinOp}{t:TypeId}{xs ys:List AVal}{u v:Value}(hp:(qdD P op t (.agg xs) (.agg ys)).pre)(hx:VR fi (.agg xs) u)(hy:VR fi (.agg ys) v)(X Y:Operand):
 ∃r,(∀w,(do eqGuard op t X Y u v;binOp op t u v:Sem Value).run P w= .ok r w)/\VR fi (qdD P op t (.agg xs) (.agg ys)).val r:=by
 unfold qdD at hp|-
 split at hp
 ·rename_i b hb
  have go:(eqA P 40 t (.agg xs) (.agg ys)).pre->P.eqGuardType P.depth t=false->(∀w,(eqGuard op t X Y u v).run P w= .ok () w)/\∀w,(Op.equalIn 10000 t u v).run P w= .ok b w:=fun h1 h2=>by
   obtain⟨b',e1,e2⟩:=eqA_ok 40 10000 t _ _ u v (by omega) h1 hx hy;rw[hb]at e1;cases e1;simp only[VR]at hx hy;obtain⟨us,rfl,_⟩:=hx;obtain⟨vs,rfl,_⟩:=hy;exact⟨fun w=>run_eqGuard_agg w op t X Y _ _ h2,e2⟩
  cases op<;>simp only[]at hp|- <;>first
   |exact hp.elim
   |skip
  all_goals
   obtain⟨g1,g2⟩:=go hp.1 hp.2;simp only[VR]at hx hy;obtain⟨us,rfl,_⟩:=hx;obtain⟨vs,rfl,_⟩:=hy;refine⟨_,fun w=>?_,rfl⟩;simp only[Sem.run_bind,g1,Result.andThen_ok,run_eql_struct,run_neq_struct,g2]
 ·exact hp.elim
theorem qnV(s:List UInt8):(⟨⟨s⟩⟩:ByteArray).size=s.length:=rfl
theorem map_toArray{α β:Type}(f:α->β)(xs:Array α):xs.map f=(xs.toList.map f).toArray:=by
 apply KF;simp
def qrs(P:Program)(t:TypeId)(x:AVal):PR:=
 match x,P.underlying t with
 | .str s,some .string=>⟨True, .int .i64 s.length⟩
 | .slice _ _ n _,some (.slice _)=>⟨True, .int .i64 n⟩
 | .nilSlice,some (.slice _)=>⟨True, .int .i64 0⟩
 |_,some (.array n _)=>⟨True, .int .i64 n⟩
 |_,_=> .no
theorem pLen_ok{P:Program}{fi:PMap}{t ty:TypeId}{ts:Array TypeId}{x:AVal}{v:Value}(ht:ts[0]?=some t)(hp:(qrs P t x).pre)(hx:VR fi x v):
 ∃r,(∀w,(Builtin.len_ ts ty #[v]).run P w= .ok r w)/\VR fi (qrs P t x).val r:=by
 unfold qrs at hp|-
 split at hp
 ·rename_i s h1
  simp only[VR]at hx;subst hx;exact⟨.int .i64 s.length,fun w=>by simp[Builtin.len_,ht,qH h1,goInt,qnV],rfl⟩
 ·rename_i l o n c e h1
  obtain⟨a,cap,rfl,_⟩:=Yn hx;exact⟨.int .i64 n,fun w=>by simp[Builtin.len_,ht,qH h1,goInt],rfl⟩
 ·rename_i e h1
  simp only[VR]at hx;subst hx;exact⟨.int .i64 0,fun w=>by simp[Builtin.len_,ht,qH h1,goInt],rfl⟩
 ·rename_i _ _ _ n e h1
  exact⟨.int .i64 n,fun w=>by simp[Builtin.len_,ht,qH h1,goInt],rfl⟩
 ·exact hp.elim
def pCap(P:Program)(t:TypeId)(x:AVal):PR:=
 match x,P.underlying t with
 | .slice _ _ _ (.exact c),some (.slice _)=>⟨True, .int .i64 c⟩
 | .nilSlice,some (.slice _)=>⟨True, .int .i64 0⟩
 |_,_=> .no
theorem pCap_ok{P:Program}{fi:PMap}{t ty:TypeId}{ts:Array TypeId}{x:AVal}{v:Value}(ht:ts[0]?=some t)(hp:(pCap P t x).pre)(hx:VR fi x v):
 ∃r,(∀w,(Builtin.cap_ ts ty #[v]).run P w= .ok r w)/\VR fi (pCap P t x).val r:=by
 unfold pCap at hp|-
 split at hp
 ·rename_i l o n c e h1
  simp only[VR]at hx;obtain⟨a,rfl,_⟩:=hx;exact⟨.int .i64 c,fun w=>by simp[Builtin.cap_,ht,qH h1,goInt],rfl⟩
 ·rename_i e h1
  simp only[VR]at hx;subst hx;exact⟨.int .i64 0,fun w=>by simp[Builtin.cap_,ht,qH h1,goInt],rfl⟩
 ·exact hp.elim
def pMax:List AVal->PR
 |[.int k a, .int _ b]=>⟨True, .int k (max a b)⟩
 |_=> .no
def pMin:List AVal->PR
 |[.int k a, .int _ b]=>⟨True, .int k (min a b)⟩
 |_=> .no
theorem pMax_ok{P:Program}{fi:PMap}{ty:TypeId}{ts:Array TypeId}{xs:List AVal}{vs:List Value}(hp:(pMax xs).pre)(hx:VRs fi xs vs):
 ∃r,(∀w,(Builtin.max_ ts ty vs.toArray).run P w= .ok r w)/\VR fi (pMax xs).val r:=by
 unfold pMax at hp|-
 split at hp
 ·rename_i k a k' b
  simp only[VRs,VR]at hx;obtain⟨_,_,rfl,rfl,_,_,rfl,rfl,rfl⟩:=hx;refine⟨_,fun w=>run_max_int2 w ts ty k k' a b,?_⟩;simp only[VR];congr 1;split<;>omega
 ·exact hp.elim
theorem pMin_ok{P:Program}{fi:PMap}{ty:TypeId}{ts:Array TypeId}{xs:List AVal}{vs:List Value}(hp:(pMin xs).pre)(hx:VRs fi xs vs):
 ∃r,(∀w,(Builtin.min_ ts ty vs.toArray).run P w= .ok r w)/\VR fi (pMin xs).val r:=by
 unfold pMin at hp|-
 split at hp
 ·rename_i k a k' b
  simp only[VRs,VR]at hx;obtain⟨_,_,rfl,rfl,_,_,rfl,rfl,rfl⟩:=hx;refine⟨_,fun w=>run_min_int2 w ts ty k k' a b,?_⟩;simp only[VR];congr 1;split<;>omega
 ·exact hp.elim
def evs(s:Slots)(xs:List Operand):List AVal:=xs.map (ev s)
def evO(s:Slots):Option Operand->Option AVal
 |none=>none
 |some x=>some (ev s x)
def evP(s:Slots)(xs:List (Nat×Operand)):List (Nat×AVal):=xs.map fun p=>(p.1,ev s p.2)
def qdi(P:Program)(t:TypeId):Bool:=match P.underlying t with|some (.map _ _)=>true|_=>false
def Ze(P:Program)(h:AHeap)(t:TypeId)(x:AVal):PR:=bif qdi P t then qnw P h t x else qrs P t x
def WC(P:Program)(h:AHeap)(b:Builtin)(ts:Array TypeId)(xs:List AVal):PR:=
 match b,xs,ts[0]? with
 | .len,[x],some t=>Ze P h t x
 | .cap,[x],some t=>pCap P t x
 | .max,xs,_=>pMax xs
 | .min,xs,_=>pMin xs
 |_,_,_=> .no
def qeD:Operand->Bool
 | .const .nilIface=>true
 |_=>false
def qhf(P:Program)(op:BinOp)(t:TypeId)(x:AVal):PR:=
 match P.underlying t,x,op with
 |some (.interface _), .nilIface, .eql=>⟨True, .bool true⟩
 |some (.interface _), .nilIface, .neq=>⟨True, .bool false⟩
 |some (.interface _), .iface _ _, .eql=>⟨True, .bool false⟩
 |some (.interface _), .iface _ _, .neq=>⟨True, .bool true⟩
 |_,_,_=> .no
theorem pIfNil_ok{P:Program}{fi:PMap}{op:BinOp}{t:TypeId}{x:AVal}{u:Value}(hp:(qhf P op t x).pre)(hx:VR fi x u)(X:Operand):
 ∃r,(∀w,(do eqGuard op t X (.const .nilIface) u .nilIface;binOp op t u .nilIface:Sem Value).run P w= .ok r w)/\VR fi (qhf P op t x).val r:=by
 obtain⟨d,hdep⟩:∃d,Op.maxDepth=d+1:=⟨Op.maxDepth-1,by decide+kernel⟩
 unfold qhf at hp|-
 split at hp<;>first|exact hp.elim|skip
 ·rename_i m ht
  simp only[VR]at hx;subst hx;exact⟨.bool true,fun w=>by simp[eqGuard,binOp,Op.equal,hdep,Op.equalIn,qH ht],by simp[VR]⟩
 ·rename_i m ht
  simp only[VR]at hx;subst hx;exact⟨.bool false,fun w=>by simp[eqGuard,binOp,Op.equal,hdep,Op.equalIn,qH ht],by simp[VR]⟩
 ·rename_i m te y ht
  simp only[VR]at hx;obtain⟨y',rfl,_⟩:=hx;exact⟨.bool false,fun w=>by simp[eqGuard,binOp,Op.equal,hdep,Op.equalIn,qH ht],by simp[VR]⟩
 ·rename_i m te y ht
  simp only[VR]at hx;obtain⟨y',rfl,_⟩:=hx;exact⟨.bool true,fun w=>by simp[eqGuard,binOp,Op.equal,hdep,Op.equalIn,qH ht],by simp[VR]⟩
def pop(P:Program)(wz:World)(h:AHeap)(s:Slots):Op->PR
 | .move x=>⟨True,ev s x⟩
 | .assign x=>⟨True,ev s x⟩
 | .pick c a b=>match ev s c with
   | .bool c=>⟨True,Wd c (ev s a) (ev s b)⟩
   |_=> .no
 | .binOp op t x y _=>bif qeD y then qhf P op t (ev s x)else match ev s x,ev s y with
   | .agg xs, .agg ys=>qdD P op t (.agg xs) (.agg ys)
   |a,b=>qru P op t a b
 | .unOp op _ x=>pUn op (ev s x)
 | .convert src dst x=>qdP P wz h src dst (ev s x)
 | .load t x=>Yr P wz h t (ev s x)
 | .field t x f=>qoy P t (ev s x) f
 | .fieldAddr t x f=>Qj P t (ev s x) f
 | .index t x i=>qcN P t (ev s x) (ev s i)
 | .indexAddr t x i=>Xe P t (ev s x) (ev s i)
 | .slice t x lo hi mx=>Ws P t (ev s x) (evO s lo) (evO s hi) (evO s mx)
 | .extract x i=>match ev s x with
   | .tuple vs=>⟨i<vs.length,vs.getD i .dead⟩
   |_=> .no
 | .nilCheck x=>match ev s x with
   | .ptr l o=>⟨True, .ptr l o⟩
   | .func f c=>⟨True, .func f c⟩
   |_=> .no
 | .build t parts=>match qpk P t (evP s parts.toList)with
   |some cs=>⟨True, .agg cs⟩
   |none=> .no
 | .makeFunc fn first cap=>match fn with
   | .func f=>⟨first.toList=[], .func f (evs s cap.toList)⟩
   |_=> .no
 | .makeInterface t x=>⟨P.concrete t=true, .iface t (ev s x)⟩
 | .call c=>match c.callee with
   | .builtin b=>WC P h b c.argTypes (evs s c.args.toList)
   |_=> .no
 | .lookup t x i ok=>qba P h t (ev s x) (ev s i) ok
 |_=> .no
theorem SRel.evs{fi:PMap}{n:FrameK}{s:Slots}{a:Act}(h:SRel fi n s a):∀xs:List Operand,VRs fi (evs s xs) (xs.map a.eval)
 |[]=>by simp[AM.evs,VRs]
 |x::xs=>by
  simp only[AM.evs,Ke,VRs];exact⟨_,_,rfl,h.ev x,h.evs xs⟩
theorem SRel.evO{fi:PMap}{n:FrameK}{s:Slots}{a:Act}(h:SRel fi n s a)(x:Option Operand):OVR fi (evO s x) (x.map a.eval):=by
 cases x with
 |none=>simp[AM.evO,OVR]
 |some x=>simp only[AM.evO,OVR,KI];exact⟨_,rfl,h.ev x⟩
theorem SRel.evP{fi:PMap}{n:FrameK}{s:Slots}{a:Act}(h:SRel fi n s a):∀xs:List (Nat×Operand),VParts fi (evP s xs) (xs.map fun p=>(p.1,a.eval p.2))
 |[]=> .nil
 |x::xs=> .cons (h.ev x.2) (h.evP xs)
theorem Zh{P:Program}{w w':World}{s:Sem Value}{r:Value}(h:s.run P w= .ok r w'):(do pure (Next.value (<-s)):Sem Next).run P w= .ok (.value r) w':=by
 simp[h]
theorem WH{P:Program}{s:Sem Value}{r:Value}{p:World->Prop}(h:∀w,s.run P w= .ok r w):∀w,p w->(do pure (Next.value (<-s)):Sem Next).run P w= .ok (.value r) w:=
 fun w _=>Zh (h w)
theorem qjf{P:Program}{wz w:World}{fi:PMap}{h:AHeap}{n:FrameK}{s:Slots}{a:Act}(o:Oper)(hp:(pop P wz h s o.op).pre)(hr:HRel wz fi h w)(hs:SRel fi n s a):
 ∃r,(∀w',Same w w'->(execOp a.eval o).run P w'= .ok (.value r) w')/\VR fi (pop P wz h s o.op).val r:=by
 obtain⟨dst,op,type,pos,after,guard⟩:=o;cases op<;>simp only[pop]at hp|- <;>first
  |exact hp.elim
  |skip
 case move x=>exact⟨_,fun _ _=>rfl,hs.ev x⟩
 case assign x=>exact⟨_,fun _ _=>rfl,hs.ev x⟩
 case pick c x y=>
  split at hp
  ·rename_i b hb
   have hc:=hs.ev c;rw[hb]at hc;simp only[VR]at hc;refine⟨if b then a.eval x else a.eval y,fun w' _=>?_,VR_pickV (hs.ev x) (hs.ev y)⟩;simp[execOp,hc,asBool]
  ·exact hp.elim
 case binOp op t x y yt=>
  have hx:=hs.ev x;have hy:=hs.ev y;cases hn:qeD y with
  |true=>
   have e:y= .const .nilIface:=by
    unfold qeD at hn;split at hn
    ·rfl
    ·cases hn
   subst e;rw[hn,cond_true]at hp;obtain⟨r,h1,h2⟩:=pIfNil_ok hp hx x;exact⟨r,WH h1,h2⟩
  |false=>
  rw[hn,cond_false]at hp;simp only[cond_false];split at hp
  ·rename_i xs ys e1 e2
   rw[e1]at hx;rw[e2]at hy;obtain⟨r,h1,h2⟩:=pAggEq_ok hp hx hy x y;exact⟨r,WH h1,h2⟩
  ·obtain⟨r,h1,h2⟩:=pBin_ok hp hx hy x y
   exact⟨r,WH h1,h2⟩
 case unOp op t x=>
  obtain⟨r,h1,h2⟩:=pUn_ok (P:=P) hp (hs.ev x);exact⟨r,WH h1,h2⟩
 case convert src dst x=>
  obtain⟨r,h1,h2⟩:=pConv_ok hp hr (hs.ev x);exact⟨r,fun w' hw=>Zh (h1 w' hw),h2⟩
 case load t x=>
  obtain⟨r,h1,h2⟩:=qrr hp hr (hs.ev x);exact⟨r,fun w' hw=>Zh (h1 w' hw),h2⟩
 case field t x f=>
  obtain⟨r,h1,h2⟩:=pField_ok hp (hs.ev x);exact⟨r,WH h1,h2⟩
 case fieldAddr t x f=>
  obtain⟨r,h1,h2⟩:=qmI hp (hs.ev x);exact⟨r,WH h1,h2⟩
 case index t x i=>
  obtain⟨r,h1,h2⟩:=pIndex_ok hp (hs.ev x) (hs.ev i);exact⟨r,WH h1,h2⟩
 case indexAddr t x i=>
  obtain⟨r,h1,h2⟩:=qmH hp (hs.ev x) (hs.ev i);exact⟨r,WH h1,h2⟩
 case slice t x lo hi mx=>
  obtain⟨r,h1,h2⟩:=pSlice_ok hp (hs.ev x) (hs.evO lo) (hs.evO hi) (hs.evO mx);exact⟨r,WH h1,h2⟩
 case extract x i=>
  have hx:=hs.ev x;split at hp
  ·rename_i vs e
   rw[e]at hx;simp only[VR]at hx;obtain⟨us,e2,hus⟩:=hx;simp only at hp|-
   have hl:=XA hus;have hlt:i<us.length:=by omega
   refine⟨us.getD i default,fun w' _=>?_,qiK hus i default hp⟩;simp[execOp,e2,Instr.extract,hlt]
  ·exact hp.elim
 case nilCheck x=>
  have hx:=hs.ev x;split at hp
  ·rename_i l o e
   rw[e]at hx;refine⟨a.eval x,fun w' _=>?_,hx⟩;simp only[VR]at hx;obtain⟨ad,_,e2⟩:=hx;simp[execOp,e2]
  ·rename_i f c e
   rw[e]at hx;refine⟨a.eval x,fun w' _=>?_,hx⟩;simp only[VR]at hx;obtain⟨vs,e2,_⟩:=hx;simp[execOp,e2]
  ·exact hp.elim
 case build t parts=>
  split at hp
  ·rename_i cs e
   obtain⟨r,h1,h2⟩:=build_ok (vs:=parts.map fun(i,x)=>(i,a.eval x)) e (by simpa using hs.evP parts.toList);refine⟨.agg r,WH h1,?_⟩;simp only[VR];exact⟨r.toList,by simp,h2⟩
  ·exact hp.elim
 case makeFunc fn first cap=>
  split at hp
  ·rename_i f
   simp only at hp|-
   have e:first= #[]:=by simpa using hp
   subst e;refine⟨.func (.func f) #[] (cap.map a.eval),fun w' _=>by simp[execOp,Instr.makeFunc],?_⟩;simp only[VR];exact⟨cap.toList.map a.eval,by rw[map_toArray],hs.evs _⟩
  ·exact hp.elim
 case makeInterface t x=>
  refine⟨.iface t (a.eval x),fun w' _=>Zh (run_makeInterface w' t _ hp),?_⟩;simp only[VR];exact⟨_,rfl,hs.ev x⟩
 case lookup t x i ok=>
  obtain⟨r,h1,h2⟩:=qtm hp hr (hs.ev x) (hs.ev i);exact⟨r,fun w' hw=>Zh (h1 w' hw),h2⟩
 case call c=>
  obtain⟨callee,args,ats⟩:=c;split at hp
  ·rename_i b hb
   subst hb;simp only at hp|-
   have hv:=hs.evs args.toList;have run:∀r w,(builtin b ats type (args.map fun| .const _=>true|_=>false) (args.map a.eval)).run P w= .ok (.value r) w->(execOp a.eval ⟨dst, .call ⟨.builtin b,args,ats⟩,type,pos,after,guard⟩).run P w= .ok (.value r) w:=by
    intro r w hr;simp only[execOp,resolve,Sem.run_bind,Sem.run_pure,Result.andThen_ok,invoke];exact hr
   have ea:args.map a.eval=(args.toList.map a.eval).toArray:=map_toArray _ _;unfold WC at hp|-
   split at hp
   ·rename_i x t e1 e2
    rw[e1]at hv;simp only[VRs]at hv;obtain⟨v,_,e3,hx,rfl⟩:=hv;unfold Ze at hp|-
    cases hmt:qdi P t with
    |true=>
     rw[hmt,cond_true]at hp;obtain⟨r,h1,h2⟩:=pLenM_ok (P:=P) (ty:=type) e2 hp hr hx;refine⟨r,fun w' hw=>run r w' ?_,h2⟩;rw[ea,e3];exact Zh (h1 w' hw)
    |false=>
     rw[hmt,cond_false]at hp;obtain⟨r,h1,h2⟩:=pLen_ok (P:=P) (ty:=type) e2 hp hx;refine⟨r,fun w' _=>run r w' ?_,h2⟩;rw[ea,e3];exact Zh (h1 w')
   ·rename_i x t e1 e2
    rw[e1]at hv;simp only[VRs]at hv;obtain⟨v,_,e3,hx,rfl⟩:=hv;obtain⟨r,h1,h2⟩:=pCap_ok (P:=P) (ty:=type) e2 hp hx;refine⟨r,fun w' _=>run r w' ?_,h2⟩;rw[ea,e3];exact Zh (h1 w')
   ·obtain⟨r,h1,h2⟩:=pMax_ok (P:=P) (ty:=type) (ts:=ats) hp hv
    refine⟨r,fun w' _=>run r w' ?_,h2⟩;rw[ea];exact Zh (h1 w')
   ·obtain⟨r,h1,h2⟩:=pMin_ok (P:=P) (ty:=type) (ts:=ats) hp hv
    refine⟨r,fun w' _=>run r w' ?_,h2⟩;rw[ea];exact Zh (h1 w')
   ·exact hp.elim
  ·exact hp.elim
def PMap.upd(fi:PMap)(k:Nat)(p:Place):PMap:=fun j=>if j=k then some p else fi j
theorem PMap.upd_same(fi:PMap)(k:Nat)(p:Place):fi.upd k p k=some p:=by simp[PMap.upd]
theorem PMap.le_upd{fi:PMap}{k:Nat}(hφ:fi k=none)(p:Place):fi.le (fi.upd k p):=fun j q hj=>by
 by_cases e:j=k
 ·subst e;rw[hφ]at hj;cases hj
 ·simp[PMap.upd,e,hj]
theorem HRel.drew{wz w:World}{fi:PMap}{h:AHeap}(hr:HRel wz fi h w):HRel wz fi h w.drew:=
 hr.later ⟨rfl,rfl,rfl,KL _,fun _ _=>rfl⟩
theorem Below.allocd(w:World)(o:Obj):Below w.heap.size w (w.alloc o):=(Below.refl _ w).alloc (KL _) o
theorem HRel.alloc{wz w:World}{fi:PMap}{h:AHeap}(hr:HRel wz fi h w)(k:Nat)(hk:h k=none)(hφ:fi k=none)(xs:List AVal)(cs:Array Value)(e:TypeId)(lo hi:Nat)
 (hx:VRs fi xs (cs.toList.take xs.length)) (hfr:∀i,lo<=i->i<hi->cs.size<=i) (ht:∀t,qaT k=some t->t=e) (hlh:lo<=hi:=by omega):
 fi.le (fi.upd k ⟨w.heap.size,0,cs.size⟩)/\HRel wz (fi.upd k ⟨w.heap.size,0,cs.size⟩) (h.set k ⟨xs,0⟩) (w.alloc (.cells cs e (lo,hi))):=by
 have hl:xs.length<=cs.size:=by
  have:=XA hx;simp at this;omega
 have hsz:w.heap.size<(w.alloc (.cells cs e (lo,hi))).heap.size:=by show _<(w.heap.push _).size;simp
 have hget:(w.alloc (.cells cs e (lo,hi))).heap[w.heap.size]?=some (.cells cs e (lo,hi)):=by show(w.heap.push _)[w.heap.size]?=_;simp
 refine hr.push k hk hφ ⟨xs,0⟩ ⟨w.heap.size,0,cs.size⟩ (Below.allocd w _) (KL _) hsz ?_ (fun t h1=>⟨rfl,cs,(lo,hi),by rw[ht t h1];exact hget⟩);exact .inl ⟨cs,e,lo,hi,hget,by simp,hl,by simp,by simp only[List.drop_zero];exact qbo (PMap.le_upd hφ _) _ _ hx,hlh,fun i h1 h2=> .inr (hfr i h1 h2)⟩
theorem HRel.allocO{wz w:World}{fi:PMap}{h:AHeap}(hr:HRel wz fi h w)(k:Nat)(hk:h k=none)(hφ:fi k=none)(hkt:qaT k=none)(b:Blk)(o:Obj)(hf:b.frz=b.cells.length+1)(ho:ORel fi b.cells o):
 fi.le (fi.upd k ⟨w.heap.size,0,0⟩)/\HRel wz (fi.upd k ⟨w.heap.size,0,0⟩) (h.set k b) (w.alloc o):=by
 have hsz:w.heap.size<(w.alloc o).heap.size:=by show _<(w.heap.push _).size;simp
 have hget:(w.alloc o).heap[w.heap.size]?=some o:=by show(w.heap.push _)[w.heap.size]?=_;simp
 exact hr.push k hk hφ b ⟨w.heap.size,0,0⟩ (Below.allocd w _) (KL _) hsz (.inr ⟨hf,⟨rfl,rfl⟩,o,hget,ho.mono (PMap.le_upd hφ _)⟩) (TyOk.none hkt)
theorem HRel.putO{wz w:World}{fi:PMap}{h:AHeap}(hr:HRel wz fi h w){k:Nat}{b b':Blk}{p:Place}{o o':Obj}(hk:h k=some b)(hp:fi k=some p)(hf:b.frz=b.cells.length+1)(hf':b'.frz=b'.cells.length+1)(ho:w.heap[p.blk]?=some o)(hno:∀c e f,o≠ .cells c e f)(ho':ORel fi b'.cells o'):
 HRel wz fi (h.set k b') {w with heap:=w.heap.setIfInBounds p.blk o'}:=by
 have hgl:p.blk<w.heap.size:=hr.lt k p hp;obtain⟨q,hq,hq1,ok⟩:=hr.own k b hk;have hpq:q=p:=by rw[hp]at hq;exact(Option.some.inj hq).symm
 subst hpq;have hob:=ok.obj hf;refine hr.write k b b' q hk hp (by simp) rfl rfl rfl (fun i hi=>by simp[Kv (Ne.symm hi)]) (fun cs e fr hc=>?_) (.inr ⟨hf',hob.at_,o',by simp[hgl],ho'⟩);rw[ho]at hc;exact absurd (Option.some.inj hc) (hno _ _ _)
theorem qcO{n:Nat}:∀i:Nat,0<=i->i<0->n<=i:=by omega
def World.putRow(w:World)(g:Nat)(cs:Array Value)(e:TypeId)(fr:Nat×Nat):World:={w with heap:=w.heap.setIfInBounds g (.cells cs e fr)}
theorem qll(w:World)(g o:Nat)(cs:Array Value)(e:TypeId)(fr:Nat×Nat)(hg:w.heap[g]?=some (.cells cs e fr))(v:Value):
 w.setCell ⟨g,o,none⟩ v=AM.World.putRow w g (cs.setIfInBounds o v) e fr:=by
 unfold World.setCell AM.World.putRow;congr 1;apply KQ;intro i;rw[KR,KS];by_cases hi:g=i
 ·subst hi
  have hlt:g<w.heap.size:=by
   rcases KU g w.heap.size with h|h
   ·exact h
   ·rw[KV h]at hg;cases hg
  rw[hg];simp[hlt]
 ·simp[hi]
theorem UN(w:World)(g:Nat)(cs:Array Value)(e:TypeId)(fr:Nat×Nat)(hg:g<w.heap.size):(AM.World.putRow w g cs e fr).heap[g]?=some (.cells cs e fr):=by
 simp[AM.World.putRow,hg]
theorem qaZ(w:World)(g:Nat)(cs:Array Value)(e:TypeId)(fr:Nat×Nat)(i:Nat)(hi:i≠g):(AM.World.putRow w g cs e fr).heap[i]?=w.heap[i]?:=by
 simp only[AM.World.putRow];rw[Kv (Ne.symm hi)]
theorem putRow_putRow(w:World)(g:Nat)(cs cs':Array Value)(e:TypeId)(fr:Nat×Nat):AM.World.putRow (AM.World.putRow w g cs e fr) g cs' e fr=AM.World.putRow w g cs' e fr:=by
 simp[AM.World.putRow]
theorem putRow_self(w:World)(g:Nat)(cs:Array Value)(e:TypeId)(fr:Nat×Nat)(hg:w.heap[g]?=some (.cells cs e fr)):AM.World.putRow w g cs e fr=w:=by
 unfold AM.World.putRow;have:w.heap.setIfInBounds g (.cells cs e fr)=w.heap:=by
  apply KQ;intro i;rw[KS];by_cases hi:g=i
  ·subst hi
   have hlt:g<w.heap.size:=by
    rcases KU g w.heap.size with h|h
    ·exact h
    ·rw[KV h]at hg;cases hg
   simp[hlt,<-hg]
  ·simp[hi]
 rw[this]
theorem qch{P:Program}(g o:Nat)(e:TypeId)(lo hi:Nat):∀(vs:List Value) (i:Nat) (cs:Array Value) (w:World),w.heap[g]?=some (.cells cs e (lo,hi))->
 o+i+vs.length<=cs.size->(∀v∈vs,v.oneCell'=true)->(∀j,o+i<=j->j<o+i+vs.length->¬(lo<=j/\j<hi))->
 (storeCells ⟨g,o,none⟩ vs i).run P w= .ok () (AM.World.putRow w g (setAt cs.toList (o+i) vs).toArray e (lo,hi))
 |[],i,cs,w,hg,_,_,_=>by
  simp only[storeCells,setAt,Sem.run_pure];rw[putRow_self];simpa using hg
 |v::vs,i,cs,w,hg,hfit,h1,hfr=>by
  have hlt:o+i<cs.size:=by simp at hfit;omega
  have hadd:(⟨g,o,none⟩:Addr).add i=⟨g,o+i,none⟩:=by
   unfold Addr.add;by_cases hi:i=0<;>simp[hi]
  have hc:w.cell? ⟨g,o+i,none⟩=some cs[o+i]:=by simp[World.cell?,hg,hlt]
  have hz:w.frozen? ⟨g,o+i,none⟩=false:=by
   have:=hfr (o+i) (by omega) (by simp);simp only[World.frozen?,hg];simp only[Bool.and_eq_false_iff,decide_eq_false_iff_not];omega
  have hgl:g<w.heap.size:=by
   rcases KU g w.heap.size with h|h
   ·exact h
   ·rw[KV h]at hg;cases hg
  simp only[storeCells,Sem.run_bind,hadd,run_store P w ⟨g,o+i,none⟩ v .plain (h1 v (by simp)),hc,hz,KX,if_false,Result.andThen_ok];rw[qll w g (o+i) cs e (lo,hi) hg v];rw[qch g o e lo hi vs (i+1) (cs.setIfInBounds (o+i) v) _ (UN w g _ e _ hgl) (by simp at hfit|-;omega) (fun u hu=>h1 u (by simp[hu])) (fun j hj hj'=>hfr j (by omega) (by simp;omega))];rw[putRow_putRow];simp[setAt,Kw]
def AVal.scal:AVal->Bool
 | .dead=>false
 | .mapO _=>false
 | .mapE _ _ _=>false
 | .iterO _ _ _ _=>false
 | .agg _=>false
 | .tuple _=>false
 |_=>true
theorem VR_oneCell{fi:PMap}{x:AVal}{v:Value}(h:VR fi x v)(hs:x.scal=true):v.oneCell'=true:=by
 cases x<;>simp only[VR]at h<;>first
  |(simp[AVal.scal]at hs;done)
  |(subst h;rfl)
  |(obtain⟨_,_,rfl⟩:=h;rfl)
  |(obtain⟨_,rfl,_⟩:=h;rfl)
  |exact h.elim
  |skip
 rename_i l o len c
 cases c<;>simp only[]at h
 ·obtain⟨_,rfl,_⟩:=h;rfl
 ·obtain⟨_,_,_,_,_,_,rfl,_⟩:=h;rfl
def Qu:List AVal->Bool
 |[]=>true
 |x::xs=>x.scal && Qu xs
theorem qfI{fi:PMap}:∀{xs:List AVal} {vs:List Value},VRs fi xs vs->Qu xs=true->∀v∈vs,v.oneCell'=true
 |[],vs,h,_,v,hv=>by simp only[VRs]at h;subst h;cases hv
 |x::xs,vs,h,hs,v,hv=>by
  simp only[VRs]at h;obtain⟨u,vs',rfl,h1,h2⟩:=h;simp only[Qu,Ky]at hs;rcases KY.1 hv with e|e
  ·subst e;exact VR_oneCell h1 hs.1
  ·exact qfI h2 hs.2 v e
theorem qkt(cs:List Value)(po n o:Nat)(us:List Value)(h:o+us.length<=n):((setAt cs (po+o) us).drop po).take n=setAt ((cs.drop po).take n) o us:=by
 induction us generalizing cs o with
 |nil=>rfl
 |cons u us ih=>
  simp only[setAt];simp only[KZ]at h;rw[show po+o+1=po+(o+1) by omega,ih _ (o+1) (by omega)];congr 1;apply K3;intro i;simp only[K4,Kq,K5];by_cases h1:i<n
  ·simp only[h1,if_true]
   by_cases h2:o=i
   ·subst h2
    simp only[if_true,K6,K7];by_cases h3:po+o<cs.length
    ·rw[if_pos h3,if_pos (by omega)]
    ·rw[if_neg h3,if_neg (by omega)]
   ·rw[if_neg (by omega),if_neg h2]
  ·simp only[h1,if_false]
   by_cases h2:o=i
   ·omega
   ·rw[if_neg h2]
theorem qjj{P:Program}{wz w:World}{fi:PMap}{h:AHeap}(hr:HRel wz fi h w){k:Nat}{b:Blk}{p:Place}(hk:h k=some b)(hp:fi k=some p){o:Nat}{xs:List AVal}{vs:List Value}
 (hx:VRs fi xs vs) (hs:Qu xs=true) (hfit:o+xs.length<=b.cells.length) (hfrz:b.frz<=o):
 ∃w',(storeCells ⟨p.blk,p.off+o,none⟩ vs).run P w= .ok () w'/\HRel wz fi (h.set k ⟨setAt b.cells o xs,b.frz⟩) w':=by
 obtain⟨q,hq,hq1,ok⟩:=hr.own k b hk;have hpq:q=p:=by rw[hp]at hq;exact(Option.some.inj hq).symm
 subst hpq;have hl:=XA hx;have hbz:b.frz<=b.cells.length:=by omega
 obtain⟨cs,e,lo,hi,h1,h2,h3,h4,h5,h6⟩:=ok.row hbz;have hgl:q.blk<w.heap.size:=hr.lt k q hp;refine⟨_,qch q.blk (q.off+o) e lo hi vs 0 cs w h1 (by omega) (qfI hx hs) (fun j hj hj' hc=>?_),?_⟩
 ·have:=h6.2 j hc.1 hc.2
  omega
 ·refine hr.write k b _ q hk hp (by simp[AM.World.putRow]) rfl rfl rfl (fun i hi=>qaZ w _ _ _ _ i hi) (fun cs' e' fr' h'=>by rw[h1]at h';cases h';exact⟨_,_,UN w _ _ _ _ hgl⟩) ?_
  refine .inl ⟨(setAt cs.toList (q.off+o+0) vs).toArray,e,lo,hi,UN w _ _ _ _ hgl,?_,?_,?_,?_,?_⟩
  ·simp[YK,h2]
  ·simp[YK,h3]
  ·simp[YK,h4]
  ·simp only[YK,K8]
   rw[qkt _ _ _ _ _ (by omega)];exact qjI o hx h5
  ·refine⟨h6.1,fun i hi1 hi2=>?_⟩
   have:=h6.2 i hi1 hi2;simpa[YK]using this
def qfj:AVal->Option Nat
 | .nilSlice=>some 0
 | .slice _ _ n _=>some n
 | .str s=>some s.length
 |_=>none
def qha(wz:World)(h:AHeap)(es n:Nat):AVal->Prop
 | .nilSlice=>True
 | .slice l o _ _=>allLive (cellsAt wz h l o (n*es))=true
 | .str _=>es=1
 |_=>False
def ZL(wz:World)(h:AHeap)(es n:Nat):AVal->List AVal
 | .slice l o _ _=>cellsAt wz h l o (n*es)
 | .str s=>byteCells (s.take n)
 |_=>[]
theorem src_len{P:Program}{fi:PMap}{x:AVal}{v:Value}{n:Nat}(hn:qfj x=some n)(hx:VR fi x v)(w:World):(Builtin.lenOf v).run P w= .ok n w:=by
 unfold qfj at hn;split at hn
 ·cases hn;simp only[VR]at hx;subst hx;simp[Builtin.lenOf]
 ·cases hn
  obtain⟨a,cap,rfl,_⟩:=Yn hx;simp[Builtin.lenOf]
 ·cases hn;simp only[VR]at hx;subst hx;simp[Builtin.lenOf,qnV]
 ·cases hn
theorem UZ(wz:World)(h:AHeap)(l:Loc):∀(n o:Nat),(cellsAt wz h l o n).length=n
 |0,_=>rfl
 |n+1,o=>by simp[cellsAt,UZ wz h l n]
theorem qgw(fi:PMap):∀s:List UInt8,VRs fi (byteCells s) (s.map fun b=>Value.int .u8 b.toNat)
 |[]=>by simp[byteCells,VRs]
 |b::s=>by
  have:=qgw fi s;simp only[byteCells,Ke,VRs]at this|-
  exact⟨_,_,rfl,by simp[VR],this⟩
theorem qiV{P:Program}{wz w:World}{fi:PMap}{h:AHeap}{es n m:Nat}{x:AVal}{v:Value}(hn:qfj x=some m)(hm:n<=m)(hp:qha wz h es n x)(hr:HRel wz fi h w)(hx:VR fi x v)(hes:es≠0):
 ∃vs:List Value,(∀w':World,(∀a u,w.cell? a=some u->w'.cell? a=some u)->(Builtin.firstCells es n v).run P w'= .ok vs.toArray w')/\VRs fi (ZL wz h es n x) vs/\vs.length=n*es/\(ZL wz h es n x).length=n*es:=by
 unfold qha at hp;unfold qfj at hn;unfold ZL;split at hp
 ·cases hn
  simp only[VR]at hx;subst hx;obtain rfl:n=0:=by omega
  exact⟨[],fun w' _=>by simp[Builtin.firstCells],by simp[VRs],by simp,by simp⟩
 ·rename_i l o k c
  cases hn;obtain⟨a,cap,rfl,ha⟩:=Yn hx;have ha':n*es≠0->Xf fi l o=some a:=fun hne=>ha (by
   intro e;apply hne;have:n=0:=by omega
   rw[this,K9])
  obtain⟨vs,e1,e2,_,e4⟩:=qcv (P:=P) hr ha' hp;refine⟨vs,fun w' hw=>?_,e2,e1,UZ _ _ _ _ _⟩;simp only[Builtin.firstCells];rw[<-e1];exact run_loadCells_list w' a vs fun j u hj=>hw _ _ (e4 j u hj)
 ·rename_i s
  cases hn;simp only[VR]at hx;subst hx;subst hp;refine⟨(s.take n).map fun b=>Value.int .u8 b.toNat,fun w' _=>?_,qgw fi _,by simp;omega,by simp[byteCells];omega⟩;have hx:(⟨⟨s⟩⟩:ByteArray).extract 0 n=⟨⟨s.take n⟩⟩:=by
   apply ByteArray.ext;apply KF;rw[Lib.extract_data];simp
  simp[Builtin.firstCells,hx]
 ·exact hp.elim
section
variable {P:Program}
theorem qbN(w w':World)(ts:Array TypeId)(t u ty e:TypeId)(h0:ts[0]?=some t)(h1:ts[1]?=some u)(i:TypeInfo)(d:TypeDesc)(ht:P.underlying t=some (.slice e))(hu:P.underlying u=some d)(hd:∀k,d≠ .int k)(hi:P.info? e=some i)
 (a:Addr) (len c n:Nat) (v:Value) (news:List Value) (hlen:(Builtin.lenOf v).run P w= .ok n w) (hf:(Builtin.firstCells i.size n v).run P w= .ok news.toArray w)
 (hroom:len+n<=c) (hst:(storeCells (a.add (len*i.size)) news).run P w= .ok () w'):
 (Builtin.append_ ts ty #[.slice (some a) len c,v]).run P w= .ok (.slice (some a) (len+n) c) w':=by
 have hd':(∀k:IntKind,¬d= .int k):=hd;simp only[Builtin.append_];simp[h0,h1,qH ht,qH hu,sizeOf,typeInfo,hi,hlen,hf,hst,hroom]
theorem qcK(w:World)(ts:Array TypeId)(t u ty e:TypeId)(h0:ts[0]?=some t)(h1:ts[1]?=some u)(i:TypeInfo)(z:Value)(d:TypeDesc)(ht:P.underlying t=some (.slice e))(hu:P.underlying u=some d)(hd:∀k,d≠ .int k)(hi:P.info? e=some i)
 (hz:i.zero=some z) (s v:Value) (a:Option Addr) (len c n:Nat) (olds news:List Value) (hs:s= .slice a len c) (hlen:(Builtin.lenOf v).run P w= .ok n w)
 (ho:(Builtin.firstCells i.size len s).run P w.drew= .ok olds.toArray w.drew) (hf:(Builtin.firstCells i.size n v).run P w.drew= .ok news.toArray w.drew)
 (hg:c<len+n) (hb:(len+n)*i.bytes<=140737488355328) (h62:len+n<4611686018427387904):
 (Builtin.append_ ts ty #[s,v]).run P w= .ok (.slice (some ⟨w.heap.size,0,none⟩) (len+n) (grownCap w (len+n) c e))
  (w.drew.alloc (.cells ((olds++news).toArray++Builtin.zeroCells z.cells (grownCap w (len+n) c e-(len+n))) e)):=by
 subst hs;have hn:¬(len+n<=c):=by omega
 have h48':¬(Builtin.nextslicecap (len+n) c*i.bytes>2^48):=by
  have h1:=nextslicecap_le hg;have h2:=Ja i.bytes h1;have h3:2*(len+n)*i.bytes=2*((len+n)*i.bytes):=by rw[Nat.mul_assoc]
  omega
 have h63a:¬(9223372036854775807<((len:Int)+(n:Int))):=by omega
 have h48a:¬(281474976710656<Builtin.nextslicecap (len+n) c*i.bytes):=by omega
 have hd':(∀k:IntKind,¬d= .int k):=hd;simp only[Builtin.append_];simp[h0,h1,qH ht,qH hu,sizeOf,typeInfo,zeroValue,hi,hz,hlen,hn,h63a,h48a,Question.forced,ho,hf,newRow,grownCap];congr 2;apply KF;simp[Jb]
end
def Lands(P:Program)(f:FuncId)(vals:Array Value)(w:World)(R:Value->World->Prop):Prop:=
 (∃fn,P.funcs[f]?=some fn/\(fn.name== "runtime.NumGoroutine")=false/\fn.body.isSome=true/\Calls P f vals w (fun e w'=>∃v,e= .returned v/\R v w'))\/
 (∃v w',(callFunc f vals).run P w= .ok (.value v) w'/\R v w')
theorem Lands.mono{P:Program}{f:FuncId}{vals:Array Value}{w:World}{R R':Value->World->Prop}(h:Lands P f vals w R)(hr:∀v w',R v w'->R' v w'):Lands P f vals w R':=by
 rcases h with⟨fn,h1,h2,h3,h4⟩|⟨v,w',h1,h2⟩
 ·exact .inl ⟨fn,h1,h2,h3,h4.mono fun e w' ⟨v,hv,hR⟩=>⟨v,hv,hr v w' hR⟩⟩
 ·exact .inr ⟨v,w',h1,hr _ _ h2⟩
def ACall(P:Program)(wz:World)(f:FuncId)(args:List AVal)(h:AHeap)(R:AVal->AHeap->Prop):Prop:=
 ∀(fi:PMap) (vals:List Value) (w:World),HRel wz fi h w->VRs fi args vals->
  Lands P f vals.toArray w fun v w'=>∃Ps x h',fi.le Ps/\HRel wz Ps h' w'/\VR Ps x v/\R x h'
theorem ACall.mono{P:Program}{wz:World}{f:FuncId}{args:List AVal}{h:AHeap}{R R':AVal->AHeap->Prop}(hc:ACall P wz f args h R)(hr:∀x h',R x h'->R' x h'):ACall P wz f args h R':=
 fun fi vals w h1 h2=>(hc fi vals w h1 h2).mono fun _ _ ⟨Ps,x,h',e1,e2,e3,e4⟩=>⟨Ps,x,h',e1,e2,e3,hr _ _ e4⟩
def Uo(z:List AVal)(m:Nat):List AVal:=(KP m).map fun i=>z.getD (i%z.length) .dead
def intA:AVal->Option Int
 | .int _ n=>some n
 |_=>none
def eMake(P:Program)(h:AHeap)(t:TypeId)(len cap:AVal)(K:AVal->AHeap->Prop):Prop:=
 match P.underlying t,intA len,intA cap with
 |some (.slice e),some n,some c=>match Zy P e,qdF P e,Uy P e with
  |some es,some by',some z=>(0<=n/\n<=c/\(by':Int)*c<=281474976710656/\c<=9223372036854775807/\z.cells.size=es/\es≠0)/\
    ∀k,h k=none->K (.slice (.own k) 0 n.toNat (.exact c.toNat)) (h.set k ⟨Uo (z.cells.toList.map absS) (c.toNat*es),0⟩)
  |_,_,_=>False
 |_,_,_=>False
def qgl(P:Program)(wz:World)(h:AHeap)(ts:Array TypeId)(s x:AVal)(K:AVal->AHeap->Prop):Prop:=
 match ts[0]?,ts[1]? with
 |some t,some u=>match P.underlying t,P.underlying u with
  |some (.slice e),some d=>(∀k,d≠ .int k)/\match Zy P e,qdF P e,Uy P e,qfj x with
   |some es,some by',some z,some n=>(es≠0/\z.cells.size=es)/\qha wz h es n x/\match s with
    | .nilSlice=>(n=0->K .nilSlice h)/\(n≠0->(n*by'<=140737488355328/\n<4611686018427387904)/\∀k,h k=none->(e<4096->qaT k=some e)->K (.slice (.own k) 0 n (.grow es)) (h.set k ⟨ZL wz h es n x,0⟩))
    | .slice l o len (.grow g)=>g=es/\match l with
      | .own k=>match h k with
        |some b=>(o+len*es=b.cells.length/\(len+n)*by'<=140737488355328/\len+n<4611686018427387904/\Qu (ZL wz h es n x)=true/\allLive (b.cells.drop o)=true/\(b.frz=0\/(o<b.frz/\b.frz<=b.cells.length)))/\
          ∀k',h k'=none->(o=0->qaT k=some e->qaT k'=some e)->K (.slice (.own k') 0 (len+n) (.grow es)) ((h.del k).set k' ⟨b.cells.drop o++ZL wz h es n x,b.frz-o⟩)
        |none=>False
      |_=>False
    | .slice l o len (.exact c)=>(len+n<=c->(n=0/\K (.slice l o len (.exact c)) h)\/(n≠0/\match l with
       | .own k=>match h k with
         |some b=>(o+len*es+n*es<=b.cells.length/\b.frz<=o+len*es/\Qu (ZL wz h es n x)=true)/\
           K (.slice (.own k) o (len+n) (.exact c)) (h.set k ⟨setAt b.cells (o+len*es) (ZL wz h es n x),b.frz⟩)
         |none=>False
       |_=>False))/\
      (c<len+n->(allLive (cellsAt wz h l o (len*es))=true/\(len+n)*by'<=140737488355328/\len+n<4611686018427387904)/\
        ∀k,h k=none->(e<4096->qaT k=some e)->K (.slice (.own k) 0 (len+n) (.grow es)) (h.set k ⟨cellsAt wz h l o (len*es)++ZL wz h es n x,0⟩))
    |_=>False
   |_,_,_,_=>False
  |_,_=>False
 |_,_=>False
def eCopy(P:Program)(wz:World)(h:AHeap)(ts:Array TypeId)(dst x:AVal)(K:AVal->AHeap->Prop):Prop:=
 match ts[0]? with
 |some t=>match P.underlying t with
  |some (.slice e)=>match Zy P e,qfj x with
   |some es,some m=>es≠0/\match dst with
    | .nilSlice=>qha wz h es 0 x/\K (.int .i64 0) h
    | .slice l o len _=>qha wz h es (min m len) x/\((min m len=0->K (.int .i64 0) h)/\(min m len≠0->match l with
      | .own k=>match h k with
        |some b=>(o+min m len*es<=b.cells.length/\b.frz<=o/\Qu (ZL wz h es (min m len) x)=true)/\
          K (.int .i64 (min m len:Nat)) (h.set k ⟨setAt b.cells o (ZL wz h es (min m len) x),b.frz⟩)
        |none=>False
      |_=>False))
    |_=>False
   |_,_=>False
  |_=>False
 |none=>False
def qpb(P:Program)(h:AHeap)(t:TypeId)(x v:AVal)(K:AVal->AHeap->Prop):Prop:=
 match x with
 | .ptr (.own k) o=>match h k,Zy P t with
   |some b,some n=>(v.live=true/\v.cells.length=n/\o+v.cells.length<=b.cells.length/\b.frz<=o/\Qu v.cells=true)/\K (.tuple []) (h.set k ⟨setAt b.cells o v.cells,b.frz⟩)
   |_,_=>False
 |_=>False
def qcc(P:Program)(t:TypeId)(n:Nat)(parts:List (Nat×AVal)):Option (List AVal):=
 match P.underlying t with
 |some (.slice e)=>match Zy P e,Uy P e with
  |some es,some z=>if n*es<=16777216/\es≠0/\z.cells.size=es then qgN (fun i=>some (i*es,es)) (Uo (z.cells.toList.map absS) (n*es)) parts else none
  |_,_=>none
 |_=>none
def ZW(P:Program)(src dst:TypeId):Bool:=
 match P.underlying src,P.underlying dst with
 |some .string,some (.slice e)=>match P.underlying e with
  |some (.int .u8)=>true
  |_=>false
 |_,_=>false
def qdm(P:Program)(src dst:TypeId):Bool:=
 src==dst && match P.underlying src with
 |some (.slice e)=>match P.underlying e with
  |some (.int .u8)=>true
  |_=>false
 |_=>false
def eMakeMap(h:AHeap)(K:AVal->AHeap->Prop):Prop:=∀k,h k=none->K (.map k) (h.set k (Yg 0 []))
def mSet(i v:AVal):AVal->AVal
 | .mapE b _ _=> .mapE b i v
 |x=>x
def qdl(P:Program)(h:AHeap)(t:TypeId)(m i v:AVal)(K:AVal->AHeap->Prop):Prop:=
 match P.underlying t,m with
 |some (.map kt _), .map k=>match Ur h k with
  |some (c,es)=>qcb P kt i=true/\match qdh i es 0 with
   |some (some (j,_))=>K (.tuple []) (h.set k (Yg c (es.modify j (mSet i v))))
   |some none=>K (.tuple []) (h.set k (Yg (c+1) (es++[.mapE c i v])))
   |none=>False
  |none=>False
 |_,_=>False
def qgk(P:Program)(h:AHeap)(ts:Array TypeId)(m i:AVal)(K:AVal->AHeap->Prop):Prop:=
 match ts[0]? with
 |some t=>match P.underlying t,m with
  |some (.map kt _), .map k=>match Ur h k with
   |some (c,es)=>qcb P kt i=true/\match qdh i es 0 with
    |some (some (j,_))=>K (.tuple []) (h.set k (Yg c (es.eraseIdx j)))
    |some none=>K (.tuple []) (h.set k (Yg c es))
    |none=>False
   |none=>False
  |_,_=>False
 |none=>False
def qmb(P:Program)(h:AHeap)(t:TypeId)(x:AVal)(K:AVal->AHeap->Prop):Prop:=
 match P.underlying t,x with
 |some (.map _ _), .map k=>match Ur h k with
  |some (c,_)=>∀k',h k'=none->K (.ptr (.own k') 0) (h.set k' ⟨[.iterO k c [] c],2⟩)
  |none=>False
 |_,_=>False
def qmj:AVal->Nat
 | .mapE b _ _=>b
 |_=>0
def qnP(h:AHeap)(it:AVal)(K:AVal->AHeap->Prop):Prop:=
 match it with
 | .ptr (.own k') 0=>match h k' with
   |some ⟨[.iterO m since seen last],2⟩=>match Ur h m with
    |some (c,es)=>(∀e∈es,qmj e<since/\qmj e<last)/\(∀b k v, .mapE b k v∈es->b∉seen->K (.tuple [.bool true,k,v]) (h.set k' ⟨[.iterO m since (seen++[b]) c],2⟩))/\
      ((∀e∈es,qmj e∈seen)->K (.tuple [.bool false]) h)
    |none=>False
   |_=>False
 |_=>False
def qjz(h:AHeap)(it:AVal)(K:AVal->AHeap->Prop):Prop:=
 match it with
 | .ptr (.own k') 0=>match h k' with
   |some ⟨[.iterO m _ seen last],2⟩=>match seen.getLast?,Ur h m with
    |some b,some (c,es)=>c=last/\match es.find? (fun e=>qmj e==b)with
     |some (.mapE _ y v)=>K (.tuple [y,v]) h
     |_=>False
    |_,_=>False
   |_=>False
 |_=>False
def eop(P:Program)(wz:World)(h:AHeap)(s:Slots)(op:Op)(K:AVal->AHeap->Prop):Prop:=
 match op with
 | .alloc e=>match Uy P e with
   |some z=>∀k,h k=none->K (.ptr (.own k) 0) (h.set k ⟨z.cells.toList.map absS,0⟩)
   |none=>False
 | .box _ x=>(ev s x).live=true/\∀k,h k=none->K (.ptr (.own k) 0) (h.set k ⟨(ev s x).cells,0⟩)
 | .buildSlice t n parts=>match qcc P t n (evP s parts.toList)with
   |some cs=>∀k,h k=none->K (.slice (.own k) 0 n (.exact n)) (h.set k ⟨cs,0⟩)
   |none=>False
 | .store t x v=>qpb P h t (ev s x) (ev s v) K
 | .makeSlice t n c=>eMake P h t (ev s n) (ev s c) K
 | .convert src dst x=>match ev s x with
   | .str b=>if ZW P src dst=true then(b.length<9223372036854775808/\∀k,h k=none->K (.slice (.own k) 0 b.length (.grow 1)) (h.set k ⟨byteCells b,0⟩))
      else(pop P wz h s op).pre/\K (pop P wz h s op).val h
   | .slice (.own k) o n c=>if qdm P src dst=true then((n≠0/\match h k with|some b=>b.frz=0|none=>False)/\K (.slice (.own k) o n c) h)
      else(pop P wz h s op).pre/\K (pop P wz h s op).val h
   |_=>(pop P wz h s op).pre/\K (pop P wz h s op).val h
 | .call c=>match c.callee with
   | .builtin .append=>match evs s c.args.toList with
     |[a,x]=>qgl P wz h c.argTypes a x K
     |_=>False
   | .builtin .copy=>match evs s c.args.toList with
     |[a,x]=>eCopy P wz h c.argTypes a x K
     |_=>False
   | .builtin .delete=>match evs s c.args.toList with
     |[a,x]=>qgk P h c.argTypes a x K
     |_=>False
   | .value f=>match ev s f with
     | .func f cap=>ACall P wz f (evs s c.args.toList++cap) h K
     |_=>False
   |_=>(pop P wz h s op).pre/\K (pop P wz h s op).val h
 | .makeMap _ r=>match r with
   |none=>eMakeMap h K
   |some _=>False
 | .mapUpdate t m i v=>qdl P h t (ev s m) (ev s i) (ev s v) K
 | .insert t m i v=>qdl P h t (ev s m) (ev s i) (ev s v) K
 | .range t x=>qmb P h t (ev s x) K
 | .next it str=>str=false/\qnP h (ev s it) K
 | .entry it=>qjz h (ev s it) K
 |_=>(pop P wz h s op).pre/\K (pop P wz h s op).val h
theorem qiw{P:Program}{h:AHeap}{t:TypeId}{m i v:AVal}{K K':AVal->AHeap->Prop}(he:qdl P h t m i v K)(hk:∀x h',K x h'->K' x h'):qdl P h t m i v K':=by
 unfold qdl at he|-
 split at he<;>first|exact he.elim|skip
 split at he<;>first|exact he.elim|skip
 refine⟨he.1,?_⟩;have h2:=he.2;split at h2<;>first|exact h2.elim|exact hk _ _ h2
theorem qpc{P:Program}{h:AHeap}{ts:Array TypeId}{m i:AVal}{K K':AVal->AHeap->Prop}(he:qgk P h ts m i K)(hk:∀x h',K x h'->K' x h'):qgk P h ts m i K':=by
 unfold qgk at he|-
 split at he<;>first|exact he.elim|skip
 split at he<;>first|exact he.elim|skip
 split at he<;>first|exact he.elim|skip
 refine⟨he.1,?_⟩;have h2:=he.2;split at h2<;>first|exact h2.elim|exact hk _ _ h2
theorem qrY{P:Program}{h:AHeap}{t:TypeId}{x:AVal}{K K':AVal->AHeap->Prop}(he:qmb P h t x K)(hk:∀x h',K x h'->K' x h'):qmb P h t x K':=by
 unfold qmb at he|-
 split at he<;>first|exact he.elim|skip
 split at he<;>first|exact he.elim|skip
 exact fun k' hk'=>hk _ _ (he k' hk')
theorem eNext_mono{h:AHeap}{x:AVal}{K K':AVal->AHeap->Prop}(he:qnP h x K)(hk:∀x h',K x h'->K' x h'):qnP h x K':=by
 unfold qnP at he|-
 split at he<;>first|exact he.elim|skip
 split at he<;>first|exact he.elim|skip
 split at he<;>first|exact he.elim|skip
 exact⟨he.1,fun b k v h1 h2=>hk _ _ (he.2.1 b k v h1 h2),fun h1=>hk _ _ (he.2.2 h1)⟩
theorem qrZ{h:AHeap}{x:AVal}{K K':AVal->AHeap->Prop}(he:qjz h x K)(hk:∀x h',K x h'->K' x h'):qjz h x K':=by
 unfold qjz at he|-
 split at he<;>first|exact he.elim|skip
 split at he<;>first|exact he.elim|skip
 split at he<;>first|exact he.elim|skip
 refine⟨he.1,?_⟩;have h2:=he.2;split at h2<;>first|exact h2.elim|exact hk _ _ h2
theorem qdV{P:Program}{wz:World}{h:AHeap}{s:Slots}{op:Op}{K K':AVal->AHeap->Prop}(he:eop P wz h s op K)(hk:∀x h',K x h'->K' x h'):eop P wz h s op K':=by
 cases op<;>simp only[eop]at he|- <;>first
  |exact⟨he.1,hk _ _ he.2⟩
  |skip
 case alloc e=>split at he<;>first|exact fun k hk'=>hk _ _ (he k hk')|exact he.elim
 case box e x=>exact⟨he.1,fun k hk'=>hk _ _ (he.2 k hk')⟩
 case buildSlice t n parts=>split at he<;>first|exact fun k hk'=>hk _ _ (he k hk')|exact he.elim
 case store t x v=>
  unfold qpb at he|-
  split at he
  ·split at he
   ·exact⟨he.1,hk _ _ he.2⟩
   ·exact he.elim
  ·exact he.elim
 case makeSlice t n c=>
  unfold eMake at he|-
  split at he
  ·split at he
   ·exact⟨he.1,fun k hk'=>hk _ _ (he.2 k hk')⟩
   ·exact he.elim
  ·exact he.elim
 case convert src dst x=>
  split at he
  ·split at he
   ·rename_i hc
    simp only[hc,if_true];exact⟨he.1,fun k hk'=>hk _ _ (he.2 k hk')⟩
   ·rename_i hc
    rw[if_neg hc];exact⟨he.1,hk _ _ he.2⟩
  ·split at he
   ·rename_i hc
    simp only[hc,if_true];exact⟨he.1,hk _ _ he.2⟩
   ·rename_i hc
    rw[if_neg hc];exact⟨he.1,hk _ _ he.2⟩
  ·exact⟨he.1,hk _ _ he.2⟩
 case call c=>
  split at he
  ·split at he
   ·unfold qgl at he|-
    split at he<;>first|exact he.elim|skip
    split at he<;>first|exact he.elim|skip
    refine⟨he.1,?_⟩;obtain⟨_,he⟩:=he;split at he<;>first|exact he.elim|skip
    obtain⟨e1,e2,he⟩:=he;refine⟨e1,e2,?_⟩;split at he<;>first|exact he.elim|skip
    ·exact⟨fun hn=>hk _ _ (he.1 hn),fun hn=>⟨(he.2 hn).1,fun k hk' ht=>hk _ _ ((he.2 hn).2 k hk' ht)⟩⟩
    ·obtain⟨e3,he⟩:=he
     refine⟨e3,?_⟩;split at he<;>first|exact he.elim|skip
     split at he<;>first|exact he.elim|skip
     exact⟨he.1,fun k hk' ht=>hk _ _ (he.2 k hk' ht)⟩
    ·refine⟨fun hle=>?_,fun hlt=>⟨(he.2 hlt).1,fun k hk' ht=>hk _ _ ((he.2 hlt).2 k hk' ht)⟩⟩
     rcases he.1 hle with⟨a1,a2⟩|⟨a1,a2⟩
     ·exact .inl ⟨a1,hk _ _ a2⟩
     ·refine .inr ⟨a1,?_⟩
      split at a2<;>first|exact a2.elim|skip
      split at a2<;>first|exact a2.elim|skip
      exact⟨a2.1,hk _ _ a2.2⟩
   ·exact he.elim
  ·split at he
   ·unfold eCopy at he|-
    split at he<;>first|exact he.elim|skip
    split at he<;>first|exact he.elim|skip
    split at he<;>first|exact he.elim|skip
    refine⟨he.1,?_⟩;obtain⟨_,he⟩:=he;split at he<;>first|exact he.elim|skip
    ·exact⟨he.1,hk _ _ he.2⟩
    ·refine⟨he.1,fun h0=>hk _ _ (he.2.1 h0),fun h0=>?_⟩
     have h3:=he.2.2 h0;split at h3<;>first|exact h3.elim|skip
     split at h3<;>first|exact h3.elim|skip
     exact⟨h3.1,hk _ _ h3.2⟩
   ·exact he.elim
  ·split at he
   ·exact qpc he hk
   ·exact he.elim
  ·split at he
   ·exact he.mono hk
   ·exact he.elim
  ·exact⟨he.1,hk _ _ he.2⟩
 case makeMap t r=>
  split at he<;>first|exact he.elim|exact fun k hk'=>hk _ _ (he k hk')
 case mapUpdate t m i v=>exact qiw he hk
 case insert t m i v=>exact qiw he hk
 case range t x=>exact qrY he hk
 case next it str=>exact⟨he.1,eNext_mono he.2 hk⟩
 case entry it=>exact qrZ he hk
theorem qpP{α:Type}:∀(vs cs:List α) (m:Nat),m+vs.length<=cs.length->setAt cs m vs=cs.take m++vs++cs.drop (m+vs.length)
 |[],cs,m,_=>by simp[setAt]
 |v::vs,cs,m,h=>by
  simp only[KZ]at h;simp only[setAt];rw[qpP vs _ (m+1) (by simp;omega)];have e1:(cs.set m v).drop (m+1+vs.length)=cs.drop (m+(v::vs).length):=by
   rw[List.drop_set_of_lt (by omega)];congr 1;simp only[KZ];omega
  have e2:(cs.set m v).take (m+1)=cs.take m++[v]:=by
   apply K3;intro i;simp only[K4,K5,Jc,K6];have c0:min m cs.length=m:=by omega
   rw[c0];rcases Nat.lt_trichotomy i m with c|c|c
   ·have c1:i<m+1:=by omega
    have c2:¬m=i:=by omega
    simp[c,c1,c2]
   ·subst c
    have c1:i<cs.length:=by omega
    simp[c1]
   ·have c1:¬i<m+1:=by omega
    have c2:¬i<m:=by omega
    have c3:i-m≠0:=by omega
    simp[c1,c2,c3]
  rw[e1,e2,Jb (cs.take m)];rfl
theorem qmK(w:World)(g n:Nat)(cs:Array Value)(e:TypeId)(lo hi:Nat)(hg:w.heap[g]?=some (.cells cs e (lo,hi))):
 w.freeze ⟨g,n,none⟩ 1=AM.World.putRow w g cs e (if lo==hi then(n,n+1)else(min lo n,max hi (n+1))):=by
 unfold World.freeze AM.World.putRow;rw[if_neg (by decide)];congr 1;apply KQ;intro i;rw[KR,KS];by_cases hi:g=i
 ·subst hi
  have hlt:g<w.heap.size:=by
   rcases KU g w.heap.size with h|h
   ·exact h
   ·rw[KV h]at hg;cases hg
  rw[hg];simp[hlt]
 ·simp[hi]
theorem HRel.mark{P:Program}{wz w:World}{fi:PMap}{h:AHeap}(hr:HRel wz fi h w){k:Nat}{b:Blk}{p:Place}(hk:h k=some b)(hp:fi k=some p)(hf:b.frz=0)(ad:Addr)(had:ad.block=p.blk):
 ∃w',(markStringish ad).run P w= .ok () w'/\HRel wz fi h w':=by
 obtain⟨q,hq,hq1,ok⟩:=hr.own k b hk;have hpq:q=p:=by rw[hp]at hq;exact(Option.some.inj hq).symm
 subst hpq;obtain⟨cs,e,lo,hi,h1,h2,h3,h4,h5,h6⟩:=ok.row (by omega);have hgl:q.blk<w.heap.size:=hr.lt k q hp;have hsh:w.shape? q.blk=some (e,cs.size):=by simp[World.shape?,h1]
 refine⟨w.freeze ⟨q.blk,cs.size,none⟩ 1,by simp[markStringish,had,hsh],?_⟩;rw[qmK w q.blk cs.size cs e lo hi h1];refine HRel.forget (h:=h.set k b) (hr.write k b b q hk hp (by simp[AM.World.putRow]) rfl rfl rfl (fun i hi=>qaZ w _ _ _ _ i hi) (fun cs' e' fr' h'=>by rw[h1]at h';cases h';exact⟨_,_,UN w _ _ _ _ hgl⟩) ?_) fun j c hj=>?_
 ·have hle:(if lo==hi then(cs.size,cs.size+1)else(min lo cs.size,max hi (cs.size+1))).1<=(if lo==hi then(cs.size,cs.size+1)else(min lo cs.size,max hi (cs.size+1))).2:=by
   have:=h6.1;split
   ·exact Nat.le_succ _
   ·simp only
    omega
  have hfr:∀i,(if lo==hi then(cs.size,cs.size+1)else(min lo cs.size,max hi (cs.size+1))).1<=i->i<(if lo==hi then(cs.size,cs.size+1)else(min lo cs.size,max hi (cs.size+1))).2->cs.size<=i:=by
   intro i i1 i2;split at i1
   ·exact i1
   ·rename_i hne
    have hne':lo≠hi:=by simpa using hne
    simp only at i1;by_cases hlh:lo<hi
    ·have:=h6.2 lo (KL _) hlh
     omega
    ·have:=h6.1
     omega
  exact .inl ⟨cs,e,_,_,UN w _ _ _ _ hgl,h2,h3,h4,h5,hle,fun i i1 i2=> .inr (hfr i i1 i2)⟩
 ·by_cases ej:j=k
  ·subst ej;rw[AHeap.set_same];rw[hk]at hj;exact hj
  ·rw[AHeap.set_ne _ _ ej];exact hj
theorem VR_own_blk{fi:PMap}{k o m:Nat}{c:Cap}{v:Value}{ad:Addr}{cap:Nat}{q:Place}(h:VR fi (.slice (.own k) o m c) v)(hv:v= .slice (some ad) m cap)(hq:fi k=some q)(hm:m≠0):ad.block=q.blk:=by
 subst hv;cases c with
 |exact c=>
  simp only[VR]at h;obtain⟨a,e,ha⟩:=h;simp only[Value.slice.injEq,Option.some.injEq]at e;have:=ha (.inr hm);simp only[Xf,hq,KI,Option.some.injEq]at this;rw[e.1,<-this]
 |grow es=>
  simp only[VR]at h;obtain⟨k',p,c',a,e0,e1,e,e2,e3⟩:=h;cases e0;rw[hq]at e1;cases e1;simp only[Value.slice.injEq,Option.some.injEq]at e;have:=(e3 (by omega)).1;rw[e.1,this]
theorem qlC{P:Program}{wz w:World}{fi:PMap}{h:AHeap}(hr:HRel wz fi h w){k:Nat}{b:Blk}{p:Place}(hk:h k=some b)(hp:fi k=some p){o:Nat}{xs:List AVal}{vs:List Value}
 (hx:VRs fi xs vs) (hs:Qu xs=true) (ho:o<=b.cells.length) (hfit:b.cells.length+xs.length<=p.room) (hz:b.frz=0\/(o<b.frz/\b.frz<=b.cells.length)) (k':Nat) (hk':h k'=none) (hφ:fi k'=none) (hty:qaT k'=if o=0 then qaT k else none):
 ∃w',(storeCells ⟨p.blk,p.off+b.cells.length,none⟩ vs).run P w= .ok () w'/\fi.le (fi.upd k' ⟨p.blk,p.off+o,p.room-o⟩)/\
  HRel wz (fi.upd k' ⟨p.blk,p.off+o,p.room-o⟩) ((h.del k).set k' ⟨b.cells.drop o++xs,b.frz-o⟩) w':=by
 obtain⟨q,hq,hq1,ok⟩:=hr.own k b hk;have hpq:q=p:=by rw[hp]at hq;exact(Option.some.inj hq).symm
 subst hpq;obtain⟨cs,e,lo,hi,h1,h2,h3,h4,h5,h6⟩:=ok.row (by omega);have hl:=XA hx;have hgl:q.blk<w.heap.size:=hr.lt k q hp;have hle:=PMap.le_upd hφ (⟨q.blk,q.off+o,q.room-o⟩:Place);have hkk:k'≠k:=fun e=>by subst e;rw[hk]at hk';cases hk'
 refine⟨_,qch q.blk (q.off+b.cells.length) e lo hi vs 0 cs w h1 (by omega) (qfI hx hs) (fun j hj hj' hc=>?_),hle,?_⟩
 ·have:=h6.2 j hc.1 hc.2
  omega
 ·have hset:=qpP vs cs.toList (q.off+b.cells.length+0) (by simp;omega)
  have other:∀j b',((h.del k).set k' ⟨b.cells.drop o++xs,b.frz-o⟩:AHeap) j=some b'->j=k'\/(j≠k'/\j≠k/\h j=some b'):=fun j b' hj=>by
   by_cases e1:j=k'
   ·exact .inl e1
   ·rw[AHeap.set_ne _ _ e1]at hj
    by_cases e2:j=k
    ·subst e2;simp[AHeap.del]at hj
    ·simp only[AHeap.del,e2,if_false]at hj
     exact .inr ⟨e1,e2,hj⟩
  refine⟨⟨hr.below.os,hr.below.tape,hr.below.output,by simpa[AM.World.putRow]using hr.below.size,fun i hi=>?_⟩,fun j b' hj=>?_,fun j j' b1 b2 p1 p2 g1 g2 f1 f2 ee=>?_,fun j r hj=>?_,?_,fun j r hj t ht=>?_⟩
  ·rw[qaZ _ _ _ _ _ i (by omega)]
   exact hr.below.block i hi
  ·rcases other j b' hj with rfl|⟨n1,n2,hj'⟩
   ·rw[AHeap.set_same]at hj
    simp only[Option.some.injEq]at hj;subst hj;refine⟨_,PMap.upd_same _ _ _,hq1, .inl ⟨(setAt cs.toList (q.off+b.cells.length+0) vs).toArray,e,lo,hi,UN w _ _ _ _ hgl,?_,?_,?_,?_,?_⟩⟩
    ·simp only[KC,YK,KN]
     omega
    ·simp only[Jd,K7]
     omega
    ·simp only[Jd,K7]
     omega
    ·have h5':=qbo hle _ _ (qbJ (qiL o h5) hx)
     have e5:((setAt cs.toList (q.off+b.cells.length+0) vs).drop (q.off+o)).take (b.cells.drop o++xs).length=((cs.toList.drop q.off).take b.cells.length).drop o++vs:=by
      rw[hset];simp only[K8,Jd,K7];rw[Jb,List.drop_append_of_le_length (by simp;omega)];apply K3;intro i;simp only[K4,Jc,Kq,K7,K6,KN];by_cases c1:i<b.cells.length-o
      ·have:i<min (q.off+b.cells.length) cs.size-(q.off+o):=by omega
       have c2:i<min b.cells.length (cs.size-q.off)-o:=by omega
       have c3:i<b.cells.length-o+xs.length:=by omega
       have c4:q.off+o+i<q.off+b.cells.length:=by omega
       have c5:o+i<b.cells.length:=by omega
       simp only[c3,this,c2,c4,c5,if_true];congr 1;omega
      ·have c2:¬i<min (q.off+b.cells.length) cs.size-(q.off+o):=by omega
       have c3:¬i<min b.cells.length (cs.size-q.off)-o:=by omega
       simp only[c2,c3,if_false];have c6:i-(min (q.off+b.cells.length) cs.size-(q.off+o))=i-(min b.cells.length (cs.size-q.off)-o):=by omega
       rw[c6];by_cases c4:i<b.cells.length-o+xs.length
       ·have c5:i-(min b.cells.length (cs.size-q.off)-o)<vs.length:=by omega
        simp only[c4,c5,if_true]
       ·have c5:¬i-(min b.cells.length (cs.size-q.off)-o)<vs.length:=by omega
        simp only[c4,if_false];rw[Kr (by omega)]
     simp only;rw[e5];exact h5'
    ·refine⟨h6.1,fun i hi1 hi2=>?_⟩
     have:=h6.2 i hi1 hi2;simp only[KC,YK,KN];omega
   ·obtain⟨r,hr0,hr1,hr2⟩:=hr.own j b' hj'
    have hne:r.blk≠q.blk:=fun e'=>n2 (hr.inj j k b' b r q hj' hk hr0 hp e');exact⟨r,hle j r hr0,hr1,(hr2.world (qaZ _ _ _ _ _ _ hne)).mono hle⟩
  ·rcases other j b1 g1 with rfl|⟨n1,n2,g1'⟩<;>rcases other j' b2 g2 with rfl|⟨m1,m2,g2'⟩
   ·rfl
   ·exfalso
    rw[PMap.upd_same]at f1;simp only[Option.some.injEq]at f1;subst f1;obtain⟨r,hr0,_,_⟩:=hr.own j' b2 g2';have:r=p2:=by
     have:=hle j' r hr0;rw[f2]at this;exact(Option.some.inj this).symm
    subst this;exact m2 (hr.inj j' k b2 b r q g2' hk hr0 hp ee.symm)
   ·exfalso
    rw[PMap.upd_same]at f2;simp only[Option.some.injEq]at f2;subst f2;obtain⟨r,hr0,_,_⟩:=hr.own j b1 g1';have:r=p1:=by
     have:=hle j r hr0;rw[f1]at this;exact(Option.some.inj this).symm
    subst this;exact n2 (hr.inj j k b1 b r q g1' hk hr0 hp ee)
   ·simp only[PMap.upd,n1,m1,if_false]at f1 f2
    exact hr.inj j j' b1 b2 p1 p2 g1' g2' f1 f2 ee
  ·simp only[AM.World.putRow,Array.size_setIfInBounds]
   by_cases e1:j=k'
   ·subst e1
    rw[PMap.upd_same]at hj;simp only[Option.some.injEq]at hj;subst hj;exact hgl
   ·simp only[PMap.upd,e1,if_false]at hj
    exact hr.lt j r hj
  ·obtain⟨N,hN⟩:=hr.fin
   exact⟨max N (k'+1),fun j hj=>by
    have h1:j≠k':=by omega
    simp only[PMap.upd,h1,if_false];exact hN j (by omega)⟩
  ·by_cases e1:j=k'
   ·subst e1
    rw[PMap.upd_same]at hj;simp only[Option.some.injEq]at hj;subst hj;rw[hty]at ht;by_cases e0:o=0
    ·rw[if_pos e0]at ht
     obtain⟨t0,cs',fr',t1⟩:=hr.typ k q hp t ht;rw[h1]at t1;cases t1;exact⟨by simp only;omega,_,_,UN w _ _ _ _ hgl⟩
    ·rw[if_neg e0]at ht;cases ht
   ·simp only[PMap.upd,e1,if_false]at hj
    obtain⟨t0,cs',fr',t1⟩:=hr.typ j r hj t ht;refine⟨t0,?_⟩;by_cases e2:r.blk=q.blk
    ·rw[e2]at t1|-
     rw[h1]at t1;cases t1;exact⟨_,_,UN w _ _ _ _ hgl⟩
    ·exact⟨cs',fr',by rw[qaZ _ _ _ _ _ _ e2];exact t1⟩
theorem XG{P:Program}{o:Oper}{a:Act}{w w':World}{v:Value}{next:Act->World->Prop}{Q:Exit->Act->World->Prop}(h:(execOp a.eval o).run P w= .ok (.value v) w')(hn:next (a.put o.dst v) w'):o.wp P a w next Q:=by
 unfold Oper.wp;rw[h];exact hn
theorem qkR{P:Program}{o:Oper}{a:Act}{w w':World}{next:Act->World->Prop}{Q:Exit->Act->World->Prop}(h:(execOp a.eval o).run P w= .ok .skip w')(hn:next (a.put o.dst undef) w'):o.wp P a w next Q:=by
 unfold Oper.wp;rw[h];exact hn
theorem Wl(fi:PMap):VR fi (.tuple []) undef:=by
 simp only[VR];exact⟨[],rfl,by simp[VRs]⟩
theorem qmz(fi:PMap)(k:Nat)(p:Place):VR (fi.upd k p) (.ptr (.own k) 0) (.pointer (some ⟨p.blk,p.off,none⟩)):=by
 simp only[VR];exact⟨_,by simp[Xf,PMap.upd],rfl⟩
theorem wp_lands{P:Program}{o:Oper}{a:Act}{w:World}{f:FuncId}{vals:Array Value}{R:Value->World->Prop}{next:Act->World->Prop}{Q:Exit->Act->World->Prop}
 (hx:(execOp a.eval o).run P w=(callFunc f vals).run P w) (h:Lands P f vals w R) (hn:∀v w',R v w'->next (a.put o.dst v) w'):o.wp P a w next Q:=by
 unfold Oper.wp;rw[hx];rcases h with⟨fn,h1,h2,h3,h4⟩|⟨v,w',h1,h2⟩
 ·have:(callFunc f vals).run P w= .ok (.enter f vals) w:=by
   have hb:¬fn.body=none:=fun e=>by rw[e]at h3;cases h3
   have hn':¬fn.name= "runtime.NumGoroutine":=by simpa using h2
   simp[callFunc,h1,hn',hb]
  rw[this,Oper.upon_enter];refine h4.mono fun e w' he=>?_;obtain⟨v,rfl,hR⟩:=he;exact hn v w' hR
 ·rw[h1]
  exact hn v w' h2
theorem qfz(place:Nat->Option (Nat×Nat)):∀{xs:List (Nat×AVal)} {cells r:List AVal},qgN place cells xs=some r->r.length=cells.length
 |[],cells,r,h=>by simp only[qgN,Option.some.injEq]at h;subst h;rfl
 |(i,x)::xs,cells,r,h=>by
  simp only[qgN]at h;split at h
  ·cases h
  ·split at h
   ·rw[qfz place h,YK]
   ·cases h
theorem qkK{fi:PMap}{z:List AVal}{u:Array Value}(hz:VRs fi z u.toList)(hne:u.size≠0)(m:Nat):VRs fi (Uo z m) ((Je m).map (u[· %u.size]!)).toList:=by
 have hl:=XA hz;simp only[KN]at hl;refine qmy (by simp[Uo]) fun j hj=>?_;have hj':j<m:=by simpa[Uo]using hj
 have hlt:j%u.size<u.size:=Km _ (by omega);have h1:=qiK hz (j%z.length) default (by rw[<-hl];exact hlt);have e1:(Uo z m).getD j .dead=z.getD (j%z.length) .dead:=by simp[Uo,hj']
 have e2:(((Je m).map (u[· %u.size]!)).toList).getD j default=u.toList.getD (j%z.length) default:=by
  rw[<-hl];simp[hj',hlt]
 rw[e1,e2];exact h1
theorem VR_map{fi:PMap}{k:Nat}{p:Place}{v:Value}(hp:fi k=some p)(h:VR fi (.map k) v):v= .map (some p.blk):=by
 simp only[VR]at h;obtain⟨q,hq,rfl⟩:=h;rw[hp]at hq;cases hq;rfl
theorem ERel.app{fi:PMap}:∀{cs:List AVal} {l:List MapEntry} {b:Nat} {k v:AVal} {e:MapEntry},ERel fi cs l->e.born=b->VR fi k e.key->VR fi v e.val->ERel fi (cs++[.mapE b k v]) (l++[e])
 |[],l,b,k,v,e,h,h1,h2,h3=>by
  simp only[ERel]at h;subst h;simp only[Jf,ERel];exact⟨e,[],rfl,⟨h1,h2,h3⟩,rfl⟩
 |c::cs,l,b,k,v,e,h,h1,h2,h3=>by
  simp only[ERel]at h;obtain⟨e',l',rfl,g1,g2⟩:=h;simp only[Kh,ERel];exact⟨e',l'++[e],rfl,g1,g2.app h1 h2 h3⟩
theorem ERel.put{fi:PMap}{i v:AVal}{u x:Value}(hi:VR fi i u)(hv:VR fi v x):∀{cs:List AVal} {l:List MapEntry} {j:Nat},ERel fi cs l->ERel fi (cs.modify j (mSet i v)) (l.modify j fun e=>{e with key:=u,val:=x})
 |[],l,j,h=>by
  simp only[ERel]at h;subst h;simp[ERel]
 |c::cs,l,j,h=>by
  simp only[ERel]at h;obtain⟨e',l',rfl,g1,g2⟩:=h;cases j with
  |zero=>
   simp only[List.modify_zero_cons,ERel];refine⟨_,l',rfl,?_,g2⟩;cases c<;>first|exact g1.elim|exact⟨g1.1,hi,hv⟩
  |succ j=>
   simp only[List.modify_succ_cons,ERel];exact⟨e',_,rfl,g1,g2.put hi hv⟩
theorem ERel.erase{fi:PMap}:∀{cs:List AVal} {l:List MapEntry} {j:Nat},ERel fi cs l->ERel fi (cs.eraseIdx j) (l.eraseIdx j)
 |[],l,j,h=>by
  simp only[ERel]at h;subst h;simp[ERel]
 |c::cs,l,j,h=>by
  simp only[ERel]at h;obtain⟨e',l',rfl,g1,g2⟩:=h;cases j with
  |zero=>exact g2
  |succ j=>
   simp only[List.eraseIdx_cons_succ,ERel];exact⟨e',_,rfl,g1,g2.erase⟩
theorem ERel.mem{fi:PMap}:∀{cs:List AVal} {l:List MapEntry},ERel fi cs l->(∀e∈l,∃k v, .mapE e.born k v∈cs/\VR fi k e.key/\VR fi v e.val)/\∀c∈cs,∃e∈l,e.born=qmj c
 |[],l,h=>by
  simp only[ERel]at h;subst h;simp
 |c::cs,l,h=>by
  simp only[ERel]at h;obtain⟨e',l',rfl,g1,g2⟩:=h;obtain⟨h1,h2⟩:=g2.mem;refine⟨fun e he=>?_,fun d hd=>?_⟩
  ·rcases KY.1 he with rfl|he
   ·cases c<;>first|exact g1.elim|exact⟨_,_,by rw[g1.1];exact Jg,g1.2.1,g1.2.2⟩
   ·obtain⟨k,v,a1,a2⟩:=h1 e he
    exact⟨k,v,Jh _ a1,a2⟩
  ·rcases KY.1 hd with rfl|hd
   ·cases d<;>first|exact g1.elim|exact⟨e',Jg,g1.1⟩
   ·obtain⟨e,a1,a2⟩:=h2 d hd
    exact⟨e,Jh _ a1,a2⟩
theorem qok{P:Program}{fi:PMap}{kt:TypeId}{x:AVal}{u v:Value}(hk:qcb P kt x=true)(hu:VR fi x u)(hv:VR fi x v)(n:Nat):v=u/\Instr.sameBits n u u=true:=by
 unfold qcb at hk;cases x with
 |str s=>
  simp only[VR]at hu hv;subst hu hv;exact⟨rfl,by cases n<;>simp only[Instr.sameBits]<;>exact qfG _⟩
 |int k m=>
  simp only[VR]at hu hv;subst hu hv;exact⟨rfl,by cases n<;>simp[Instr.sameBits]⟩
 |_=>split at hk<;>first|(cases hk;done)|(rename_i e;cases e)
theorem choose_lt{P:Program}(w:World){n:Nat}(hn:0<n):∃k w1,(choose (.mapNext n)).run P w= .ok k w1/\k<n/\(w1=w\/w1=w.drew):=by
 unfold choose;simp only[Sem.run];split
 ·exact⟨0,w,rfl,hn, .inl rfl⟩
 ·refine⟨_,_,rfl,?_, .inr rfl⟩
  simp only[Question.cut];exact Km _ hn
theorem qnb{P:Program}{wz w:World}{fi:PMap}{h:AHeap}{t:TypeId}{m i v:AVal}{um ui uv:Value}{K:AVal->AHeap->Prop}(he:qdl P h t m i v K)(hr:HRel wz fi h w)(hm:VR fi m um)(hi:VR fi i ui)(hv:VR fi v uv):
 ∃w' h',(Instr.mapUpdate t um ui uv).run P w= .ok () w'/\HRel wz fi h' w'/\K (.tuple []) h':=by
 unfold qdl at he;split at he<;>first|exact he.elim|skip
 rename_i kt et k ht
 split at he<;>first|exact he.elim|skip
 rename_i c es hc
 obtain⟨hk,he⟩:=he;obtain⟨d,hd⟩:=qdR hk;obtain⟨p,entries,hp,g1,g2⟩:=hr.mapAt hc;have hum:=VR_map hp hm;subst hum;have hget:(getObj p.blk).run P w= .ok (.map entries c) w:=by simp[getObj,Sem.run,g1]
 have hset:∀o,(setObj p.blk o).run P w= .ok () {w with heap:=w.heap.setIfInBounds p.blk o}:=fun o=>by simp[setObj,Sem.run,g1]
 have hnc:∀cc e f,(Obj.map entries c)≠ .cells cc e f:=fun _ _ _ h=>by cases h
 split at he<;>first|exact he.elim|skip
 ·rename_i j y hf
  obtain⟨r',f1,f2⟩:=find_ok hd hk hi g2 hf;cases r' with
  |none=>exact f2.elim
  |some r'=>
   obtain⟨j',v'⟩:=r';obtain⟨rfl,_,_,e,f4,f5,f6⟩:=f2;rw[Nat.sub_zero,Array.getElem?_toList]at f4;obtain⟨hkey,hsb⟩:=qok hk hi f6 10000;refine⟨_,_,?_,hr.putO (WM hc) hp rfl (b':=Yg c (es.modify j (mSet i v))) (by simp[Yg]) g1 hnc (o':= .map (entries.modify j fun e=>{e with key:=ui,val:=uv}) c) ⟨rfl,?_⟩,he⟩
   ·simp only[Instr.mapUpdate,Sem.run_bind,qH ht,Result.andThen_ok,hget,run_checkKey hk,run_findKey hd f1,f4,KI,Option.getD_some,hkey,Instr.keyThatStays,hsb,if_true,Sem.run_pure,hset]
   ·rw[Array.toList_modify]
    exact g2.put hi hv
 ·rename_i hf
  obtain⟨r',f1,f2⟩:=find_ok hd hk hi g2 hf;cases r' with
  |some r'=>exact f2.elim
  |none=>
   refine⟨_,_,?_,hr.putO (WM hc) hp rfl (b':=Yg (c+1) (es++[.mapE c i v])) (by simp[Yg]) g1 hnc (o':= .map (entries.push {key:=ui,val:=uv,born:=c}) (c+1)) ⟨rfl,?_⟩,he⟩
   ·simp only[Instr.mapUpdate,Sem.run_bind,qH ht,Result.andThen_ok,hget,run_checkKey hk,run_findKey hd f1,hset]
   ·rw[Ji]
    exact g2.app rfl hi hv
theorem delete_ok{P:Program}{wz w:World}{fi:PMap}{h:AHeap}{ts:Array TypeId}{ty:TypeId}{m i:AVal}{um ui:Value}{K:AVal->AHeap->Prop}(he:qgk P h ts m i K)(hr:HRel wz fi h w)(hm:VR fi m um)(hi:VR fi i ui):
 ∃w' h',(Builtin.delete_ ts ty #[um,ui]).run P w= .ok undef w'/\HRel wz fi h' w'/\K (.tuple []) h':=by
 unfold qgk at he;split at he<;>first|exact he.elim|skip
 rename_i t ht0
 split at he<;>first|exact he.elim|skip
 rename_i kt et k ht
 split at he<;>first|exact he.elim|skip
 rename_i c es hc
 obtain⟨hk,he⟩:=he;obtain⟨d,hd⟩:=qdR hk;obtain⟨p,entries,hp,g1,g2⟩:=hr.mapAt hc;have hum:=VR_map hp hm;subst hum;have hget:(getObj p.blk).run P w= .ok (.map entries c) w:=by simp[getObj,Sem.run,g1]
 have hset:∀o,(setObj p.blk o).run P w= .ok () {w with heap:=w.heap.setIfInBounds p.blk o}:=fun o=>by simp[setObj,Sem.run,g1]
 have hnc:∀cc e f,(Obj.map entries c)≠ .cells cc e f:=fun _ _ _ h=>by cases h
 split at he<;>first|exact he.elim|skip
 ·rename_i j y hf
  obtain⟨r',f1,f2⟩:=find_ok hd hk hi g2 hf;cases r' with
  |none=>exact f2.elim
  |some r'=>
   obtain⟨j',v'⟩:=r';obtain⟨rfl,_,_,e,f4,f5,f6⟩:=f2;refine⟨_,_,?_,hr.putO (WM hc) hp rfl (b':=Yg c (es.eraseIdx j)) (by simp[Yg]) g1 hnc (o':= .map (entries.eraseIdxIfInBounds j) c) ⟨rfl,?_⟩,he⟩
   ·simp[Builtin.delete_,ht0,qH ht,hget,run_checkKey hk,run_findKey hd f1,hset]
    rfl
   ·rw[Array.toList_eraseIdxIfInBounds]
    exact g2.erase
 ·rename_i hf
  obtain⟨r',f1,f2⟩:=find_ok hd hk hi g2 hf;cases r' with
  |some r'=>exact f2.elim
  |none=>
   refine⟨_,_,?_,hr.putO (WM hc) hp rfl (b':=Yg c es) (by simp[Yg]) g1 hnc (o':= .map entries c) ⟨rfl,g2⟩,he⟩;simp[Builtin.delete_,ht0,qH ht,hget,run_checkKey hk,run_findKey hd f1,hset];rfl
theorem ERel.find{fi:PMap}{b:Nat}:∀{es:List AVal} {l:List MapEntry},ERel fi es l->∀{b':Nat} {y v:AVal},es.find? (fun e=>qmj e==b)=some (.mapE b' y v)->∃e,l.find? (fun e=>e.born==b)=some e/\VR fi y e.key/\VR fi v e.val
 |[],_,_,b',y,v,hf=>by cases hf
 |c::cs,l,h,b',y,v,hf=>by
  simp only[ERel]at h;obtain⟨e,l',rfl,h2,h3⟩:=h;cases c<;>first|exact h2.elim|skip
  rename_i b1 y1 v1
  obtain⟨e1,e2,e3⟩:=(show e.born=b1/\VR fi y1 e.key/\VR fi v1 e.val from h2)
  rw[List.find?_cons]at hf|-
  simp only[qmj]at hf;rw[e1];by_cases hb:(b1==b)=true
  ·rw[hb]at hf|-
   simp only[Option.some.injEq,AVal.mapE.injEq]at hf;obtain⟨_,rfl,rfl⟩:=hf;exact⟨e,rfl,e2,e3⟩
  ·rw[Bool.not_eq_true]at hb
   rw[hb]at hf|-
   exact ERel.find h3 hf
theorem entry_ok{P:Program}{wz w:World}{fi:PMap}{h:AHeap}{it:AVal}{ui:Value}{K:AVal->AHeap->Prop}(he:qjz h it K)(hr:HRel wz fi h w)(hi:VR fi it ui):
 ∃v x,(Instr.entry ui).run P w= .ok v w/\VR fi x v/\K x h:=by
 unfold qjz at he;split at he<;>first|exact he.elim|skip
 rename_i k'
 split at he<;>first|exact he.elim|skip
 rename_i m since seen last hk'
 split at he<;>first|exact he.elim|skip
 rename_i b c es hb hc
 obtain⟨rfl,he⟩:=he;split at he<;>first|exact he.elim|skip
 rename_i b' y v hf
 obtain⟨p,entries,hp,g1,g2⟩:=hr.mapAt hc;obtain⟨q,hq,_,ok⟩:=hr.own k' _ hk';have hob:=ok.obj rfl;obtain⟨o,o1,o2⟩:=hob.obj;simp only[VR]at hi;obtain⟨ad,ha,rfl⟩:=hi;simp only[Xf,hq,KI,Option.some.injEq,hob.at_.1,K8]at ha;subst ha;cases o with
 |mapIter mm since' seen' last'=>
  cases mm with
  |none=>exact(show False from o2).elim
  |some mm=>
   obtain⟨⟨pm,hpm,rfl⟩,rfl,hseen,rfl⟩:=(show(∃p,fi m=some p/\mm=p.blk)/\since'=since/\seen'.toList=seen/\last'=c from o2)
   rw[hp]at hpm;cases hpm;obtain⟨e,f1,f2,f3⟩:=ERel.find g2 hf;have hget1:(getObj q.blk).run P w= .ok (.mapIter (some p.blk) since' seen' last') w:=by simp[getObj,Sem.run,o1]
   have hget2:(getObj p.blk).run P w= .ok (.map entries last') w:=by simp[getObj,Sem.run,g1]
   have hback:seen'.back?=some b:=by rw[<-Array.getLast?_toList,hseen];exact hb
   have hfind:entries.find? (fun e=>e.born==b)=some e:=by rw[<-Array.find?_toList];exact f1
   refine⟨.tuple #[e.key,e.val], .tuple [y,v],?_,?_,he⟩
   ·simp[Instr.entry,hget1,hget2,hback,hfind]
   ·simp only[VR]
    exact⟨[e.key,e.val],rfl,by simp only[VRs];exact⟨_,_,rfl,f2,_,_,rfl,f3,rfl⟩⟩
 |_=>exact(show False from o2).elim
theorem next_ok{P:Program}{wz w:World}{fi:PMap}{h:AHeap}{ty:TypeId}{it:AVal}{ui:Value}{K:AVal->AHeap->Prop}(he:qnP h it K)(hr:HRel wz fi h w)(hi:VR fi it ui):
 ∃v w' x h',(Instr.next ui false ty).run P w= .ok v w'/\HRel wz fi h' w'/\VR fi x v/\K x h':=by
 unfold qnP at he;split at he<;>first|exact he.elim|skip
 rename_i k'
 split at he<;>first|exact he.elim|skip
 rename_i m since seen last hk'
 split at he<;>first|exact he.elim|skip
 rename_i c es hc
 obtain⟨h1,h2,h3⟩:=he;obtain⟨p,entries,hp,g1,g2⟩:=hr.mapAt hc;obtain⟨q,hq,_,ok⟩:=hr.own k' _ hk';have hob:=ok.obj rfl;obtain⟨o,o1,o2⟩:=hob.obj;simp only[VR]at hi;obtain⟨ad,ha,rfl⟩:=hi;simp only[Xf,hq,KI,Option.some.injEq,hob.at_.1,K8]at ha;subst ha;cases o with
 |mapIter mm since' seen' last'=>
  cases mm with
  |none=>exact(show False from o2).elim
  |some mm=>
   obtain⟨⟨pm,hpm,rfl⟩,rfl,hseen,rfl⟩:=(show(∃p,fi m=some p/\mm=p.blk)/\since'=since/\seen'.toList=seen/\last'=last from o2)
   rw[hp]at hpm;cases hpm;obtain⟨m1,m2⟩:=g2.mem;have old:∀e∈entries.toList,e.born<since'/\e.born<last':=fun e he=>by
    obtain⟨k,v,a1,_⟩:=m1 e he;exact h1 _ a1
   have hget1:∀w',w'.heap=w.heap->(getObj q.blk).run P w'= .ok (.mapIter (some p.blk) since' seen' last') w':=fun w' hw=>by simp[getObj,Sem.run,hw,o1]
   have hget2:(getObj p.blk).run P w= .ok (.map entries c) w:=by simp[getObj,Sem.run,g1]
   have hnone:¬(!seen'.isEmpty && !entries.isEmpty && entries.all (fun e=>decide (e.born >= last')))=true:=by
    intro hq;simp only[Ky,Jj,Array.isEmpty_eq_false_iff]at hq;obtain⟨⟨_,hne⟩,hall⟩:=hq;rw[Array.all_eq_true]at hall;have hpos:0<entries.size:=Jk.2 hne;have:=hall 0 hpos;simp only[decide_eq_true_eq]at this;have h9:=(old entries[0] (by simp)).2;omega
   obtain⟨left,hleft⟩:∃left,left=entries.filter fun e=> !seen'.contains e.born:=⟨_,rfl⟩
   have hnew:left.filter (fun e=>decide (e.born >= since'))= #[]:=by
    rw[Array.filter_eq_empty_iff];intro e he;rw[hleft,Jl]at he;have:=(old e (by simpa using he.1)).1;simp;omega
   have hold:left.filter (fun e=>decide (e.born<since'))=left:=by
    rw[Array.filter_eq_self];intro e he;rw[hleft,Jl]at he;have:=(old e (by simpa using he.1)).1;simpa using this
   obtain⟨cand,hcand⟩:∃cand,cand=(if left.isEmpty then #[none]else #[])++left.map some:=⟨_,rfl⟩
   have hsz:0<cand.size:=by
    rw[hcand];by_cases e:left.isEmpty=true
    ·rw[if_pos e,Jm]
     show 0<1+_
     omega
    ·rw[if_neg e]
     simp only[Jn,Jo];exact Jk.2 (by simpa using e)
   obtain⟨n,w1,hch,hn,hw1⟩:∃n w1,(choose (.mapNext cand.size)).run P w= .ok n w1/\n<cand.size/\(w1=w\/w1=w.drew):=choose_lt w hsz;have hr1:HRel wz fi h w1:=by
    rcases hw1 with rfl|rfl
    ·exact hr
    ·exact hr.drew
   have hh1:w1.heap=w.heap:=by rcases hw1 with rfl|rfl<;>rfl
   have hrun:∀x,cand[n]?=some x->(Instr.next (.pointer (some ⟨q.blk,0,none⟩)) false ty).run P w=(match x with
    |some e=>(do setObj q.blk (.mapIter (some p.blk) since' (seen'.push e.born) c);pure (.tuple #[.bool true,e.key,e.val]):Sem Value)
    |none=>pure (.tuple #[.bool false])).run P w1:=fun x hx=>by
    simp only[Instr.next,Sem.run_bind,hget1 w rfl,Result.andThen_ok,hget2,if_neg hnone,<-hleft,hnew,hold,Array.append_empty,<-hcand,hch,hx];cases x<;>rfl
   have hnq:=hn;rw[hcand]at hn;by_cases e:left.isEmpty=true
   ·rw[if_pos e]at hn hcand
    have hl0:left= #[]:=by simpa using e
    rw[hl0]at hn hcand;simp at hn;subst hn;refine⟨_,w1, .tuple [.bool false],h,by rw[hrun none (by rw[hcand];simp)];rfl,hr1,by simp only[VR];exact⟨[.bool false],rfl,by simp[VRs,VR]⟩,h3 fun x hx=>?_⟩;obtain⟨en,he1,he2⟩:=m2 x hx;rw[<-he2,<-hseen];have:en∉left:=by rw[hl0];simp
    rw[hleft,Jl]at this;have h4:en∈entries:=by simpa using he1
    simpa[h4]using this
   ·rw[if_neg e]at hn hcand
    simp only[Jn,Jo]at hn hcand;have hx:cand[n]?=some (some left[n]):=by rw[hcand];simp[hn]
    have hmem:left[n]∈left:=Array.getElem_mem hn;obtain⟨en,hen⟩:∃en,en=left[n]:=⟨_,rfl⟩
    rw[<-hen]at hmem hx;rw[hleft,Jl]at hmem;obtain⟨k,v,a1,a2,a3⟩:=m1 en (by simpa using hmem.1);have hns:en.born∉seen:=by rw[<-hseen];simpa using hmem.2
    refine⟨_,_, .tuple [.bool true,k,v],_,by rw[hrun (some en) hx];simp only[Sem.run_bind,setObj,Sem.run,hh1,o1];rfl,?_,?_,h2 _ k v a1 hns⟩
    ·have:=hr1.putO hk' hq rfl (b':=⟨[.iterO m since' (seen++[en.born]) c],2⟩) rfl (o:= .mapIter (some p.blk) since' seen' last') (by rw[hh1];exact o1) (fun _ _ _ h=>by cases h) (o':= .mapIter (some p.blk) since' (seen'.push en.born) c) ⟨⟨p,hp,rfl⟩,rfl,by rw[Ji,hseen],rfl⟩
     rw[hh1]at this;exact this
    ·simp only[VR]
     exact⟨[.bool true,en.key,en.val],rfl,by simp only[VRs,VR];exact⟨_,_,rfl,rfl,_,_,rfl,a2,_,_,rfl,a3,rfl⟩⟩
 |_=>exact(show False from o2).elim
theorem qhm{P:Program}{wz w:World}{fi:PMap}{h:AHeap}{n:FrameK}{s:Slots}{a:Act}(o:Oper){K:AVal->AHeap->Prop}(he:eop P wz h s o.op K)(hr:HRel wz fi h w)(hs:SRel fi n s a)
 {next:Act->World->Prop} {Q:Exit->Act->World->Prop} (hn:∀Ps x h' v w',fi.le Ps->HRel wz Ps h' w'->VR Ps x v->K x h'->next (a.put o.dst v) w'):o.wp P a w next Q:=by
 have plain:(pop P wz h s o.op).pre/\K (pop P wz h s o.op).val h->o.wp P a w next Q:=fun⟨h1,h2⟩=>by
  obtain⟨r,e1,e2⟩:=qjf o h1 hr hs;exact XG (e1 w (Same.refl w)) (hn fi _ h r w fi.le_refl hr e2 h2)
 obtain⟨dst,op,type,pos,after,guard⟩:=o;cases op<;>simp only[eop]at he<;>first
  |exact plain he
  |skip
 case alloc e=>
  split at he<;>first|exact he.elim|skip
  rename_i z hz
  obtain⟨k,hk,hφ,hkt⟩:=hr.freshN;obtain⟨e1,e2⟩:=hr.alloc k hk hφ (z.cells.toList.map absS) z.cells e 0 0 (by rw[Jp,Jq];exact qae fi z.cells.toList) qcO (fun t ht=>by rw[hkt]at ht;cases ht);refine XG (v:= .pointer (some ⟨w.heap.size,0,none⟩)) (w':=w.alloc (.cells z.cells e)) ?_ (hn _ _ _ _ _ e1 e2 (qmz _ _ _) (he k hk));simp[execOp,Instr.alloc,qdM hz,newVar,newRow]
 case box e x=>
  obtain⟨hl,he⟩:=he;obtain⟨k,hk,hφ,hkt⟩:=hr.freshN;have hx:=qgv (hs.ev x) hl;have hlen:=XA hx;obtain⟨e1,e2⟩:=hr.alloc k hk hφ (ev s x).cells (a.eval x).cells e 0 0 (by rw[<-hlen,Jq];exact hx) qcO (fun t ht=>by rw[hkt]at ht;cases ht);refine XG (v:= .pointer (some ⟨w.heap.size,0,none⟩)) (w':=w.alloc (.cells (a.eval x).cells e)) ?_ (hn _ _ _ _ _ e1 e2 (qmz _ _ _) (he k hk));simp[execOp,Instr.box,newVar,newRow]
 case buildSlice t m parts=>
  split at he<;>first|exact he.elim|skip
  rename_i cs hb
  unfold qcc at hb;split at hb<;>first|(cases hb;done)|skip
  rename_i e ht
  split at hb<;>first|(cases hb;done)|skip
  rename_i es z hes hz
  split at hb<;>first|(cases hb;done)|skip
  rename_i hc
  obtain⟨c1,c2,c3⟩:=hc;have hzs:VRs fi (z.cells.toList.map absS) z.cells.toList:=qae fi _;obtain⟨r,f1,f2⟩:=qip (fi:=fi) (fun i=>some (i*es,es)) (vs:=(parts.map fun(i,x)=>(i,a.eval x)).toList) (us:=(Je (m*es)).map (z.cells[· %z.cells.size]!)) (by simpa using hs.evP parts.toList) (qkK hzs (by omega) (m*es)) hb;have hlen:=XA f2;simp only[KN]at hlen;have hcl:cs.length=m*es:=by rw[qfz _ hb];simp[Uo]
  obtain⟨k,hk,hφ,hkt⟩:=hr.freshN;obtain⟨e1,e2⟩:=hr.alloc k hk hφ cs r e 0 0 (by rw[<-hlen,<-KN,Jq];exact f2) qcO (fun t ht=>by rw[hkt]at ht;cases ht);refine XG (v:= .slice (some ⟨w.heap.size,0,none⟩) m m) (w':=w.alloc (.cells r e)) ?_ (hn _ _ _ _ _ e1 e2 ?_ (he k hk))
  ·have hbig:¬(m*es>2^24):=by omega
   have hb':¬(16777216<m*es):=by omega
   by_cases hz0:m*es=0
   ·have hr0:r= #[]:=Array.eq_empty_of_size_eq_zero (by omega)
    have harr:((Je (m*es)).map (z.cells[· %z.cells.size]!))= #[]:=by rw[hz0];simp
    rw[harr]at f1;simp at f1;simp[execOp,Instr.buildSlice,qH ht,Zr hes,hz0,Array.range_zero',f1,newRow]
   ·simp[execOp,Instr.buildSlice,qH ht,Zr hes,hz0,hb',qdM hz]
    simp at f1;simp[f1,newRow]
  ·simp only[VR]
   exact⟨_,rfl,fun _=>by simp[Xf,PMap.upd]⟩
 case store t x v=>
  unfold qpb at he;split at he<;>first|exact he.elim|skip
  rename_i k o' hx
  split at he<;>first|exact he.elim|skip
  rename_i b m hb hm
  obtain⟨⟨g1,g2,g3,g4,g5⟩,hK⟩:=he;have hx':=hs.ev x;rw[hx]at hx';simp only[VR]at hx';obtain⟨ad,ha,hx'⟩:=hx';obtain⟨p,hp,_,_⟩:=hr.own k b hb;simp only[Xf,hp,KI,Option.some.injEq]at ha;subst ha;have hv:=qgv (hs.ev v) g1;have hlen:=XA hv;simp only[KN]at hlen;obtain⟨w',f1,f2⟩:=qjj (P:=P) hr hb hp hv g5 g3 g4;refine qkR (w':=w') ?_ (hn fi _ _ _ _ fi.le_refl f2 (Wl fi) hK);have hsz:¬(a.eval v).cells.size≠m:=by omega
  simp[execOp,hx',Instr.storeAt,Instr.sureAddr,storeVar,Zr hm,f1];omega
 case makeSlice t m c=>
  unfold eMake at he;split at he<;>first|exact he.elim|skip
  rename_i e len cap ht hlen hcap
  split at he<;>first|exact he.elim|skip
  rename_i es by' z hes hby hz
  obtain⟨⟨g1,g2,g3,g4,g5,g6⟩,he⟩:=he;have i1:∃k,a.eval m= .int k len:=by
   have:=hs.ev m;revert hlen this;cases ev s m<;>simp[intA,VR];intro e1 e2;subst e1;exact⟨_,e2⟩
  have i2:∃k,a.eval c= .int k cap:=by
   have:=hs.ev c;revert hcap this;cases ev s c<;>simp[intA,VR];intro e1 e2;subst e1;exact⟨_,e2⟩
  obtain⟨k1,i1⟩:=i1;obtain⟨k2,i2⟩:=i2;simp only[Zy,Kc]at hes;obtain⟨ii,hi,hes⟩:=hes;simp only[qdF,hi,KI,Option.some.injEq]at hby;simp only[Uy,hi,KO]at hz;subst hby;have hmake:=run_make (P:=P) w t e ii z ht hi hz k1 k2 len cap g1 g2 g3 g4;rw[hes]at hmake;have hzs:VRs fi (z.cells.toList.map absS) z.cells.toList:=qae fi _;have hrep:=qkK hzs (by omega) (cap.toNat*es);obtain⟨k,hk,hφ,hkt⟩:=hr.freshN;obtain⟨e1,e2⟩:=hr.alloc k hk hφ (Uo (z.cells.toList.map absS) (cap.toNat*es)) (madeCells z.cells (cap.toNat*es)) e 0 0 (by
   have hl:=XA hrep;rw[<-hl];unfold madeCells;rw[Jq];exact hrep) qcO (fun t ht=>by rw[hkt]at ht;cases ht)
  refine XG (v:= .slice (some ⟨w.heap.size,0,none⟩) len.toNat cap.toNat) (w':=w.alloc (.cells (madeCells z.cells (cap.toNat*es)) e)) ?_ (hn _ _ _ _ _ e1 e2 ?_ (he k hk))
  ·simp only[execOp,i1,i2]
   exact Zh hmake
  ·simp only[VR]
   exact⟨_,rfl,fun _=>by simp[Xf,PMap.upd]⟩
 case convert src dst' x=>
  split at he
  ·rename_i b hb
   split at he
   ·rename_i hc
    obtain⟨g1,he⟩:=he;unfold ZW at hc;split at hc<;>first|(cases hc;done)|skip
    rename_i e h1 h2
    split at hc<;>first|(cases hc;done)|skip
    rename_i h3
    have hx:=hs.ev x;rw[hb]at hx;simp only[VR]at hx;obtain⟨k,hk,hφ,hkt⟩:=hr.freshN;have hcap:b.length<=grownCap w b.length 0 e:=by
     simp only[grownCap,Question.cut];omega
    have hrun:=run_bytes_of_string (P:=P) w src dst' e ⟨⟨b⟩⟩ h1 h2 h3;rw[qnV]at hrun;generalize hG:grownCap w b.length 0 e=G at*
    have hrow:(bytesRow ⟨⟨b⟩⟩ G).toList=(b.map fun c=>Value.int .u8 c.toNat)++List.replicate (G-b.length) (.int .u8 0):=by
     simp[bytesRow,qnV]
    have hsize:(bytesRow ⟨⟨b⟩⟩ G).size=G:=by
     rw[<-KN,hrow];simp;omega
    rw[hsize]at hrun;have hcells:(byteCells b).length=b.length:=byteCells_length b;obtain⟨e1,e2⟩:=hr.drew.alloc k hk hφ (byteCells b) (bytesRow ⟨⟨b⟩⟩ G) e G (G+1) (by
     rw[hcells,hrow,List.take_append_of_le_length (by simp)];rw[List.take_of_length_le (by simp)];exact qgw fi b) (fun i h1 h2=>by rw[hsize];exact h1) (fun t ht=>by rw[hkt]at ht;cases ht)
    refine XG (v:= .slice (some ⟨w.heap.size,0,none⟩) b.length G) (w':=w.drew.alloc (.cells (bytesRow ⟨⟨b⟩⟩ G) e (G,G+1))) ?_ (hn _ _ _ _ _ e1 e2 ?_ (he k hk))
    ·simp only[execOp,hx]
     exact Zh hrun
    ·simp only[VR]
     exact⟨k,_,G,⟨w.heap.size,0,none⟩,rfl,PMap.upd_same _ _ _,rfl,hcap,fun _=>⟨rfl,by simp[hsize]⟩⟩
   ·exact plain he
  ·rename_i k o m c hx
   split at he
   ·rename_i hc
    obtain⟨g1,he⟩:=he;obtain⟨g0,g1⟩:=g1;split at g1<;>first|exact g1.elim|skip
    rename_i b hb
    simp only[qdm,Ky,beq_iff_eq]at hc;obtain⟨rfl,hc⟩:=hc;split at hc<;>first|(cases hc;done)|skip
    rename_i e h1
    split at hc<;>first|(cases hc;done)|skip
    rename_i h2
    have hv:=hs.ev x;rw[hx]at hv;obtain⟨ad,cap,hval,_⟩:=Yn hv;obtain⟨q,hq,_,_⟩:=hr.own k b hb;obtain⟨w',f1,f2⟩:=hr.mark (P:=P) hb hq g1 ad (VR_own_blk hv hval hq g0);refine XG (v:=a.eval x) (w':=w') ?_ (hn fi _ _ _ _ fi.le_refl f2 hv he);have hcv:(convert src src (.slice (some ad) m cap)).run P w= .ok (.slice (some ad) m cap) w':=by
     simp[convert,qH h1,qH h2,f1]
    simp only[execOp];rw[hval];exact Zh hcv
   ·exact plain he
  ·exact plain he
 case call c=>
  obtain⟨callee,args,ats⟩:=c;have hv:=hs.evs args.toList;have ea:args.map a.eval=(args.toList.map a.eval).toArray:=map_toArray _ _;have run:∀(b:Builtin) (r:Value) (w':World),callee= .builtin b->(builtin b ats type (args.map fun| .const _=>true|_=>false) (args.map a.eval)).run P w= .ok (.value r) w'->
   (execOp a.eval ⟨dst, .call ⟨callee,args,ats⟩,type,pos,after,guard⟩).run P w= .ok (.value r) w':=by
   intro b r w' hb hr';subst hb;simp only[execOp,resolve,Sem.run_bind,Sem.run_pure,Result.andThen_ok,invoke];exact hr'
  split at he
  ·rename_i hb
   simp only at hb he;split at he<;>first|exact he.elim|skip
   rename_i sa xa hsx
   rw[hsx]at hv;simp only[VRs]at hv;obtain⟨sv,_,hargs,hsv,xv,_,rfl,hxv,rfl⟩:=hv;have app:∀(r:Value) (w':World),(Builtin.append_ ats type #[sv,xv]).run P w= .ok r w'->(execOp a.eval ⟨dst, .call ⟨callee,args,ats⟩,type,pos,after,guard⟩).run P w= .ok (.value r) w':=fun r w' hr'=>
    run .append r w' hb (by rw[ea,hargs];exact Zh hr')
   unfold qgl at he;split at he<;>first|exact he.elim|skip
   rename_i t u ht0 hu0
   split at he<;>first|exact he.elim|skip
   rename_i e d ht hu
   obtain⟨hd,he⟩:=he;split at he<;>first|exact he.elim|skip
   rename_i es by' z m hes hby hz hm
   obtain⟨⟨c1,c2⟩,c3,he⟩:=he;simp only[Zy,Kc]at hes;obtain⟨ii,hi,hes⟩:=hes;simp only[qdF,hi,KI,Option.some.injEq]at hby;simp only[Uy,hi,KO]at hz;obtain⟨news,n1,n2,n3,n4⟩:=qiV (P:=P) hm (KL _) c3 hr hxv c1;have hlen:=src_len (P:=P) hm hxv w;have hsame:∀(ad:Addr) (u:Value),w.cell? ad=some u->w.drew.cell? ad=some u:=fun _ _ h=>h;have hgc:∀need old,need<4611686018427387904->need<=grownCap w need old e:=fun need old _=>by
    simp only[grownCap,Question.cut];omega
   have newgood:∀(need old:Nat) (xs:List AVal) (vs:List Value),VRs fi xs vs->need<4611686018427387904->vs.length=need*es->(∀k,h k=none->(e<4096->qaT k=some e)->K (.slice (.own k) 0 need (.grow es)) (h.set k ⟨xs,0⟩))->
    (Builtin.append_ ats type #[sv,xv]).run P w= .ok (.slice (some ⟨w.heap.size,0,none⟩) need (grownCap w need old e)) (w.drew.alloc (.cells (vs.toArray++Builtin.zeroCells z.cells (grownCap w need old e-need)) e))->
    Oper.wp P ⟨dst, .call ⟨callee,args,ats⟩,type,pos,after,guard⟩ a w next Q:=by
    intro need old xs vs hxs hlt hvl hK happ;obtain⟨k,hk,hφ,hke,hkt⟩:=hr.freshE e;have hxl:=XA hxs;have hG:=hgc need old hlt;generalize grownCap w need old e=G at*
    obtain⟨e1,e2⟩:=hr.drew.alloc k hk hφ xs (vs.toArray++Builtin.zeroCells z.cells (G-need)) e 0 0 (by
     rw[<-hxl];simpa[List.take_append]using hxs) qcO hkt
    refine XG (app _ _ happ) (hn _ _ _ _ _ e1 e2 ?_ (hK k hk hke));simp only[VR];refine⟨k,_,G,⟨w.heap.size,0,none⟩,rfl,PMap.upd_same _ _ _,rfl,hG,fun _=>⟨rfl,?_⟩⟩;simp only[Jm,KC,size_zeroCells,c2,hvl];rw[Jr,<-KJ];congr 1;omega
   split at he
   ·simp only[VR]at hsv
    subst hsv;by_cases hm0:m=0
    ·subst hm0
     have hK:=he.1 rfl;refine XG (app (.slice none 0 0) w ?_) (hn fi _ _ _ _ fi.le_refl hr (by simp only[VR]) hK);have hd':(∀k:IntKind,¬d= .int k):=hd;have hf0:news=[]:=Kg (by omega);have hnw:=n1 w (fun _ _ h=>h);rw[<-hes,hf0]at hnw;simp only[Builtin.append_];simp[ht0,hu0,qH ht,qH hu,sizeOf,typeInfo,hi,hlen,hnw]
    ·obtain⟨⟨b1,b2⟩,hK⟩:=he.2 hm0
     refine newgood m 0 _ news n2 b2 n3 hK ?_;have:=qcK (P:=P) w ats t u type e ht0 hu0 ii z d ht hu hd hi hz (.slice none 0 0) xv none 0 0 m [] news rfl hlen (by simp[Builtin.firstCells]) (by rw[hes];exact n1 _ hsame) (by omega) (by rw[hby];simpa using b1) (by omega);simpa using this
   ·rename_i l o len g
    obtain⟨rfl,he⟩:=he;split at he<;>first|exact he.elim|skip
    rename_i k
    split at he<;>first|exact he.elim|skip
    rename_i b hb
    obtain⟨⟨b1,b2,b3,b4,b5,b6⟩,hK⟩:=he;simp only[VR]at hsv;obtain⟨k0,p,c,ad,hk0,hp,rfl,hle,hc⟩:=hsv;cases hk0;obtain⟨k',hk',hφ',hty'⟩:∃k',h k'=none/\fi k'=none/\qaT k'=if o=0 then qaT k else none:=by
     split
     ·exact hr.freshT k
     ·exact hr.freshN
    have hkt':o=0->qaT k=some e->qaT k'=some e:=fun h0 h1=>by rw[hty',if_pos h0,h1]
    by_cases hroom:len+m<=c
    ·obtain⟨q,hq,_,ok⟩:=hr.own k b hb
     have hqp:q=p:=by rw[hp]at hq;exact(Option.some.inj hq).symm
     subst hqp;obtain⟨cs,_,_,_,_,hrow2,hrow3,_⟩:=ok.row (by omega);by_cases hc0:c=0
     ·subst hc0
      obtain rfl:len=0:=by omega
      obtain rfl:m=0:=by omega
      have hnews:news=[]:=Kg (by omega);obtain⟨w',f1,f2,f3⟩:=qlC (P:=P) hr hb hp (o:=o) (xs:=ZL wz h g 0 xa) (vs:=[]) (by rw[hnews]at n2;exact n2) b4 (by omega) (by rw[n4];omega) b6 k' hk' hφ' hty';have hw:w'=w:=by
       simp only[storeCells,Sem.run_pure,Result.ok.injEq,true_and]at f1;exact f1.symm
      subst hw;refine XG (app (.slice (some ad) 0 0) w' ?_) (hn _ _ _ _ _ f2 f3 ?_ (hK k' hk' hkt'))
      ·have:=qbN (P:=P) w' w' ats t u type e ht0 hu0 ii d ht hu hd hi ad 0 0 0 xv [] hlen (by rw[hes,<-hnews];exact n1 _ (fun _ _ h=>h)) (by omega) (by simp[storeCells])
       simpa using this
      ·simp only[VR]
       exact⟨k',_,0,ad,rfl,PMap.upd_same _ _ _,rfl,by omega,fun hne=>absurd rfl hne⟩
     ·obtain⟨g1,g2⟩:=hc hc0
      have hfit:b.cells.length+(ZL wz h g m xa).length<=q.room:=by
       rw[n4,<-b1,<-g2,Kw,<-KJ];exact Nat.add_le_add_left (Ja _ hroom) _
      obtain⟨w',f1,f2,f3⟩:=qlC (P:=P) hr hb hp (o:=o) n2 b4 (by omega) hfit b6 k' hk' hφ' hty';refine XG (app (.slice (some ad) (len+m) c) w' ?_) (hn _ _ _ _ _ f2 f3 ?_ (hK k' hk' hkt'))
      ·refine qbN (P:=P) w w' ats t u type e ht0 hu0 ii d ht hu hd hi ad len c m xv news hlen (by rw[hes];exact n1 _ (fun _ _ h=>h)) hroom ?_
       rw[hes];have:ad.add (len*g)=⟨q.blk,q.off+b.cells.length,none⟩:=by
        have e0:Xf fi (.own k) o=some ad:=by simp[Xf,hp,g1]
        have e9:=Yt (j:=len*g) e0;rw[b1]at e9;simp only[Xf,hp,KI,Option.some.injEq]at e9;exact e9.symm
       rw[this];exact f1
      ·simp only[VR]
       refine⟨k',_,c,ad,rfl,PMap.upd_same _ _ _,rfl,hroom,fun _=>⟨by simpa using g1,?_⟩⟩;simp only;omega
    ·obtain⟨q,hq,_,ok⟩:=hr.own k b hb
     have hqp:q=p:=by rw[hp]at hq;exact(Option.some.inj hq).symm
     subst hqp;obtain⟨cs,_,_,_,hrow1,hrow2,hrow3,hrow4,hrow5,_⟩:=ok.row (by omega);have holds:∃olds:List Value,olds.length=len*g/\VRs fi (b.cells.drop o) olds/\(Builtin.firstCells g len (.slice (some ad) len c)).run P w.drew= .ok olds.toArray w.drew:=by
      refine⟨((cs.toList.drop q.off).take b.cells.length).drop o,by simp;omega,qiL o hrow5,?_⟩;by_cases hl0:len=0
      ·subst hl0
       have e9:((cs.toList.drop q.off).take b.cells.length).drop o=[]:=Kg (by simp;omega);rw[e9];simp[Builtin.firstCells,loadCells,loadCellsFrom]
      ·obtain⟨g1,g2⟩:=hc (by omega)
       subst g1;refine run_firstCells_some (P:=P) w.drew g len _ len c _ (by simp;omega) ?_;intro j v hj;have hj1:j<b.cells.length-o:=by
        rcases KU j (b.cells.length-o)with hx|hx
        ·exact hx
        ·rw[Kr (by simp;omega)]at hj;cases hj
       rw[Kq,K4,if_pos (by omega),Kq]at hj;have e8:(⟨q.blk,q.off+o,none⟩:Addr).add j=⟨q.blk,q.off+o+j,none⟩:=by
        unfold Addr.add;by_cases hi:j=0<;>simp[hi]
       rw[e8];show w.cell? _=_
       simp only[World.cell?,hrow1];simp only[Option.isSome_none,KX,if_false];rw[<-hj];simp[Kw]
     obtain⟨olds,ho1,ho2,ho3⟩:=holds;obtain⟨k2,hk2,hφ2,hke2,hkt2⟩:=hr.freshE e;have hxs:=qbJ ho2 n2;have hG:=hgc (len+m) c b3;have happ:=qcK (P:=P) w ats t u type e ht0 hu0 ii z d ht hu hd hi hz (.slice (some ad) len c) xv (some ad) len c m olds news rfl hlen (by rw[hes];exact ho3) (by rw[hes];exact n1 _ hsame) (by omega) (by rw[hby];exact b2) b3;generalize grownCap w (len+m) c e=G at*
     have hkk:k2≠k:=fun e=>by subst e;rw[hb]at hk2;cases hk2
     have hrd:HRel wz fi (h.del k) w.drew:=hr.drew.forget fun j b' hj=>by
      by_cases e9:j=k
      ·subst e9;simp[AHeap.del]at hj
      ·simpa[AHeap.del,e9]using hj
     have hxl:=XA hxs;obtain⟨e1,e2⟩:=hrd.alloc k2 (by simp[AHeap.del,hk2]) hφ2 (b.cells.drop o++ZL wz h g m xa) ((olds++news).toArray++Builtin.zeroCells z.cells (G-(len+m))) e 0 0 (by
      rw[<-hxl,Array.toList_append];simp only[List.take_left];exact hxs) qcO hkt2
     have e3:HRel wz (fi.upd k2 ⟨w.drew.heap.size,0,((olds++news).toArray++Builtin.zeroCells z.cells (G-(len+m))).size⟩) ((h.del k).set k2 ⟨b.cells.drop o++ZL wz h g m xa,b.frz-o⟩) (w.drew.alloc (.cells ((olds++news).toArray++Builtin.zeroCells z.cells (G-(len+m))) e)):=by
      refine⟨e2.below,fun j b' hj=>?_,?_,e2.lt,e2.fin,e2.typ⟩
      ·by_cases e9:j=k2
       ·subst e9
        rw[AHeap.set_same]at hj;simp only[Option.some.injEq]at hj;subst hj;obtain⟨p9,hp9,hp8,ok9⟩:=e2.own j _ (AHeap.set_same _ _ _);refine⟨p9,hp9,hp8,?_⟩;obtain⟨cs9,x1,x2,x3,y1,y2,y3,y4,y5,y6⟩:=ok9.row (Js _);refine .inl ⟨cs9,x1,x2,x3,y1,y2,y3,?_,y5,y6.1,fun i i1 i2=>?_⟩
        ·simp only[Jd,K7]
         omega
        ·have:=y6.2 i i1 i2
         simp only at this|-
         omega
       ·rw[AHeap.set_ne _ _ e9]at hj
        exact e2.own j b' (by rw[AHeap.set_ne _ _ e9];exact hj)
      ·intro j j' b1 b2 p1 p2 g1 g2
       have conv:∀i bb,((h.del k).set k2 ⟨b.cells.drop o++ZL wz h g m xa,b.frz-o⟩:AHeap) i=some bb->∃bb',((h.del k).set k2 ⟨b.cells.drop o++ZL wz h g m xa,0⟩:AHeap) i=some bb':=fun i bb hi=>by
        by_cases e9:i=k2
        ·subst e9;exact⟨_,AHeap.set_same _ _ _⟩
        ·rw[AHeap.set_ne _ _ e9]at hi|-;exact⟨bb,hi⟩
       obtain⟨b1',g1'⟩:=conv j b1 g1
       obtain⟨b2',g2'⟩:=conv j' b2 g2
       exact e2.inj j j' b1' b2' p1 p2 g1' g2'
     refine XG (app _ _ happ) (hn _ _ _ _ _ e1 e3 ?_ (hK k2 hk2 fun _ h1=>hke2 (tyOf_lt h1)));simp only[VR];refine⟨k2,_,G,⟨w.heap.size,0,none⟩,rfl,PMap.upd_same _ _ _,rfl,hG,fun _=>⟨rfl,?_⟩⟩;simp only[Jm,KC,size_zeroCells,c2,Jd,ho1,n3];rw[Jr,<-KJ,<-KJ];congr 1;omega
   ·rename_i l o len c
    simp only[VR]at hsv;obtain⟨ad,rfl,hadd⟩:=hsv;by_cases hroom:len+m<=c
    ·rcases he.1 hroom with⟨rfl,hK⟩|⟨hm0,hK⟩
     ·refine XG (app (.slice (some ad) len c) w ?_) (hn fi _ _ _ _ fi.le_refl hr (by simp only[VR];exact⟨ad,rfl,hadd⟩) hK)
      have hnews:news=[]:=Kg (by omega);have:=qbN (P:=P) w w ats t u type e ht0 hu0 ii d ht hu hd hi ad len c 0 xv [] hlen (by rw[hes,<-hnews];exact n1 _ (fun _ _ h=>h)) hroom (by simp[storeCells]);simpa using this
     ·split at hK<;>first|exact hK.elim|skip
      rename_i k
      split at hK<;>first|exact hK.elim|skip
      rename_i b hb
      obtain⟨⟨b1,b2,b3⟩,hK⟩:=hK;obtain⟨q,hq,_,ok⟩:=hr.own k b hb;have hloc:=hadd (.inl (by omega));have hoa:=Yt (j:=len*es) hloc;simp only[Xf,hq,KI,Option.some.injEq]at hoa hloc;obtain⟨w',f1,f2⟩:=qjj (P:=P) hr hb hq (o:=o+len*es) n2 b3 (by rw[n4];omega) b2;refine XG (app (.slice (some ad) (len+m) c) w' ?_) (hn fi _ _ _ _ fi.le_refl f2 ?_ hK)
      ·refine qbN (P:=P) w w' ats t u type e ht0 hu0 ii d ht hu hd hi ad len c m xv news hlen (by rw[hes];exact n1 _ (fun _ _ h=>h)) hroom ?_
       rw[hes,<-hoa];exact f1
      ·simp only[VR]
       exact⟨ad,rfl,fun _=>by simp[Xf,hq,<-hloc]⟩
    ·obtain⟨⟨b1,b2,b3⟩,hK⟩:=he.2 (by omega)
     obtain⟨olds,ho1,ho2,_,ho4⟩:=qcv (P:=P) (l:=l) (o:=o) (n:=len*es) (a:=ad) hr (fun hne=>hadd (.inr (by intro e9;apply hne;rw[e9,K9]))) b1;have hxs:=qbJ ho2 n2;have happ:=qcK (P:=P) w ats t u type e ht0 hu0 ii z d ht hu hd hi hz (.slice (some ad) len c) xv (some ad) len c m olds news rfl hlen
      (by rw[hes];exact run_firstCells_some (P:=P) w.drew es len ad len c olds ho1 (fun j v hj=>ho4 j v hj)) (by rw[hes];exact n1 _ hsame) (by omega) (by rw[hby];exact b2) b3
     exact newgood (len+m) c _ (olds++news) hxs b3 (by rw[Jd,ho1,n3,<-KJ]) hK happ
   ·exact he.elim
  ·rename_i hb
   simp only at hb he;split at he<;>first|exact he.elim|skip
   rename_i da xa hsx
   rw[hsx]at hv;simp only[VRs]at hv;obtain⟨dv,_,hargs,hdv,xv,_,rfl,hxv,rfl⟩:=hv;have app:∀(r:Value) (w':World),(Builtin.copy_ ats type #[dv,xv]).run P w= .ok r w'->(execOp a.eval ⟨dst, .call ⟨callee,args,ats⟩,type,pos,after,guard⟩).run P w= .ok (.value r) w':=fun r w' hr'=>
    run .copy r w' hb (by rw[ea,hargs];exact Zh hr')
   unfold eCopy at he;split at he<;>first|exact he.elim|skip
   rename_i t ht0
   split at he<;>first|exact he.elim|skip
   rename_i e ht
   split at he<;>first|exact he.elim|skip
   rename_i es m hes hm
   obtain⟨c1,he⟩:=he;have hlen:=src_len (P:=P) hm hxv w;have copied:∀(base:Option Addr) (dLen dCap k:Nat) (news:List Value) (w':World),dv= .slice base dLen dCap->Nat.min m dLen=k->(Builtin.firstCells es k xv).run P w= .ok news.toArray w->
    (base=none/\w'=w\/∃ad,base=some ad/\(storeCells ad news).run P w= .ok () w')->(Builtin.copy_ ats type #[dv,xv]).run P w= .ok (.int .i64 (k:Nat)) w':=by
    intro base dLen dCap k news w' hd hk hf hst;subst hd;rcases hst with⟨rfl,rfl⟩|⟨ad,rfl,hst⟩
    ·simp[Builtin.copy_,ht0,qH ht,hlen,Zr hes,hk,hf,goInt]
    ·simp[Builtin.copy_,ht0,qH ht,hlen,Zr hes,hk,hf,hst,goInt]
   split at he<;>first|exact he.elim|skip
   ·obtain⟨c3,hK⟩:=he
    simp only[VR]at hdv;subst hdv;obtain⟨news,n1,n2,n3,n4⟩:=qiV (P:=P) hm (Js m) c3 hr hxv c1;refine XG (app _ w (copied none 0 0 0 news w rfl (by simp[Nat.min]) (n1 w (fun _ _ h=>h)) (.inl ⟨rfl,rfl⟩))) (hn fi _ _ _ _ fi.le_refl hr (by simp[VR]) hK)
   ·rename_i l o len c
    obtain⟨c3,he0,he1⟩:=he;obtain⟨ad,cap,rfl,ha⟩:=Yn hdv;obtain⟨news,n1,n2,n3,n4⟩:=qiV (P:=P) hm (Nat.min_le_left m len) c3 hr hxv c1;by_cases hz:min m len=0
    ·have hnews:news=[]:=Kg (by rw[n3,hz,K9])
     refine XG (app _ w (copied (some ad) len cap 0 [] w rfl hz (by rw[<-hnews];have:=n1 w (fun _ _ h=>h);rw[hz]at this;exact this) (.inr ⟨ad,rfl,by simp[storeCells]⟩))) (hn fi _ _ _ _ fi.le_refl hr (by simp[VR]) (he0 hz))
    ·have hK:=he1 hz
     split at hK<;>first|exact hK.elim|skip
     rename_i k
     split at hK<;>first|exact hK.elim|skip
     rename_i b hb
     obtain⟨⟨b1,b2,b3⟩,hK⟩:=hK;obtain⟨q,hq,_,ok⟩:=hr.own k b hb;have hloc:=ha (by omega);simp only[Xf,hq,KI,Option.some.injEq]at hloc;obtain⟨w',f1,f2⟩:=qjj (P:=P) hr hb hq (o:=o) n2 b3 (by rw[n4];omega) b2;rw[hloc]at f1;exact XG (app _ w' (copied (some ad) len cap (min m len) news w' rfl rfl (n1 w (fun _ _ h=>h)) (.inr ⟨ad,rfl,f1⟩))) (hn fi _ _ _ _ fi.le_refl f2 (by simp[VR]) hK)
  ·rename_i hb
   simp only at hb he;split at he<;>first|exact he.elim|skip
   rename_i da xa hsx
   rw[hsx]at hv;simp only[VRs]at hv;obtain⟨dv,_,hargs,hdv,xv,_,rfl,hxv,rfl⟩:=hv;obtain⟨w',h',f1,f2,f3⟩:=delete_ok (ty:=type) he hr hdv hxv;exact XG (run .delete undef w' hb (by rw[ea,hargs];exact Zh f1)) (hn fi _ _ _ _ fi.le_refl f2 (Wl fi) f3)
  ·rename_i f hb
   simp only at hb he;subst hb;split at he<;>first|exact he.elim|skip
   rename_i fid cap hf
   have hfv:=hs.ev f;rw[hf]at hfv;simp only[VR]at hfv;obtain⟨vs,hfe,hcap⟩:=hfv;have hland:=he fi (args.toList.map a.eval++vs) w hr (qbJ hv hcap);refine wp_lands (f:=fid) (vals:=(args.toList.map a.eval++vs).toArray) ?_ hland fun v w' ⟨Ps,x,h',e1,e2,e3,e4⟩=>hn Ps x h' v w' e1 e2 e3 e4;simp only[execOp,resolve,hfe,Deferred.ofValue,Sem.run_bind,Sem.run_pure,Result.andThen_ok,invoke];rw[ea];simp
  ·exact plain he
 case makeMap t r=>
  split at he<;>first|exact he.elim|skip
  obtain⟨k,hk,hφ,hkt⟩:=hr.freshN;obtain⟨e1,e2⟩:=hr.allocO k hk hφ hkt (Yg 0 []) (.map #[] 0) rfl ⟨rfl,rfl⟩;refine XG (v:= .map (some w.heap.size)) (w':=w.alloc (.map #[] 0)) ?_ (hn _ _ _ _ _ e1 e2 (by simp only[VR];exact⟨_,PMap.upd_same _ _ _,rfl⟩) (he k hk));simp[execOp,Instr.makeMap,newObj,Sem.run]
 case mapUpdate t m i v=>
  obtain⟨w',h',f1,f2,f3⟩:=qnb he hr (hs.ev m) (hs.ev i) (hs.ev v);exact qkR (w':=w') (by simp[execOp,f1]) (hn fi _ _ _ _ fi.le_refl f2 (Wl fi) f3)
 case insert t m i v=>
  obtain⟨w',h',f1,f2,f3⟩:=qnb he hr (hs.ev m) (hs.ev i) (hs.ev v);exact qkR (w':=w') (by simp[execOp,f1]) (hn fi _ _ _ _ fi.le_refl f2 (Wl fi) f3)
 case range t x=>
  unfold qmb at he;split at he<;>first|exact he.elim|skip
  rename_i kt et k ht hx
  split at he<;>first|exact he.elim|skip
  rename_i c es hc
  obtain⟨p,entries,hp,g1,g2⟩:=hr.mapAt hc;have hxv:=hs.ev x;rw[hx]at hxv;have hum:=VR_map hp hxv;obtain⟨k',hk',hφ',hkt'⟩:=hr.freshN;obtain⟨e1,e2⟩:=hr.allocO k' hk' hφ' hkt' ⟨[.iterO k c [] c],2⟩ (.mapIter (some p.blk) c #[] c) rfl ⟨⟨p,hp,rfl⟩,rfl,rfl,rfl⟩;refine XG (v:= .pointer (some ⟨w.heap.size,0,none⟩)) (w':=w.alloc (.mapIter (some p.blk) c #[] c)) ?_ (hn _ _ _ _ _ e1 e2 (qmz _ _ _) (he k' hk'));have hget:(getObj p.blk).run P w= .ok (.map entries c) w:=by simp[getObj,Sem.run,g1]
  simp[execOp,Instr.range,hum,qH ht,hget,newObj,Sem.run]
 case entry it=>
  obtain⟨v,x,f1,f2,f3⟩:=entry_ok (P:=P) he hr (hs.ev it);exact XG (by simp only[execOp];exact Zh f1) (hn fi _ _ _ _ fi.le_refl hr f2 f3)
 case next it str=>
  obtain⟨rfl,he⟩:=he;obtain⟨v,w',x,h',f1,f2,f3,f4⟩:=next_ok (ty:=type) he hr (hs.ev it);exact XG (by simp only[execOp];exact Zh f1) (hn fi _ _ _ _ fi.le_refl f2 f3 f4)
def nthDst:List Oper->Nat->Option Tmp
 |[],_=>none
 |o::_,0=>o.dst
 |_::r,j+1=>nthDst r j
theorem Yf:∀(l:List Oper) (j:Nat),nthDst l j=(l[j]?).bind (·.dst)
 |[],j=>by simp[nthDst]
 |o::r,0=>by simp[nthDst]
 |o::r,j+1=>by simp[nthDst,Yf r j]
def putD(s:Slots):Option Tmp->AVal->Slots
 |none,_=>s
 |some d,x=>s.put d x
def QG:AVal->Bool->Bool
 | .bool b,want=>b==want
 |_,_=>false
def Wv:AVal->Bool
 | .bool _=>true
 | .tuple []=>true
 |_=>false
def Qf(g:Bool)(v:AVal):AVal:=bif g then v else .tuple []
def Zc(P:Program):Op->Bool
 | .alloc _=>false
 | .box _ _=>false
 | .buildSlice _ _ _=>false
 | .store _ _ _=>false
 | .makeSlice _ _ _=>false
 | .makeMap _ _=>false
 | .mapUpdate _ _ _ _=>false
 | .insert _ _ _ _=>false
 | .range _ _=>false
 | .next _ _=>false
 | .entry _=>false
 | .convert src dst _=> !ZW P src dst && !qdm P src dst
 | .call c=>match c.callee with
   | .builtin .append=>false
   | .builtin .copy=>false
   | .builtin .delete=>false
   | .builtin _=>true
   |_=>false
 |_=>true
theorem qau{P:Program}{wz:World}{h:AHeap}{s:Slots}{op:Op}{K:AVal->AHeap->Prop}(hp:Zc P op=true):eop P wz h s op K↔(pop P wz h s op).pre/\K (pop P wz h s op).val h:=by
 cases op<;>simp only[Zc]at hp<;>first
  |(cases hp;done)
  |exact Jt
  |skip
 case convert src dst x=>
  simp only[Ky,Jj]at hp;simp only[eop,hp.1,hp.2,KX,if_false];split<;>exact Jt
 case call c=>
  obtain⟨callee,args,ts⟩:=c;cases callee with
  |value f=>simp at hp
  |invoke r m=>simp[eop]
  |builtin b=>cases b<;>first|(simp at hp;done)|exact Jt
def Qp(P:Program)(wz:World)(ops:List Oper):List Oper->Slots->AHeap->(Slots->AHeap->Prop)->Prop
 |[],s,h,K=>K s h
 |o::rest,s,h,K=>
  match o.guard with
  |none=>eop P wz h s o.op fun x h'=>Qp P wz ops rest (putD s o.dst x) h' K
  |some (j,want)=>match nthDst ops j with
   |none=>Qp P wz ops rest (putD s o.dst (.tuple [])) h K
   |some d=>Wv (s.get d)=true/\
    if Zc P o.op=true then
     (QG (s.get d) want=true->(pop P wz h s o.op).pre)/\Qp P wz ops rest (putD s o.dst (Qf (QG (s.get d) want) (pop P wz h s o.op).val)) h K
    else
     (QG (s.get d) want=true->eop P wz h s o.op fun x h'=>Qp P wz ops rest (putD s o.dst x) h' K)/\
     (QG (s.get d) want=false->Qp P wz ops rest (putD s o.dst (.tuple [])) h K)
def Qv(n:Nat):List Oper->Bool
 |[]=>true
 |o::r=>(match o.dst with|some d=>decide (d<n)|none=>true) && Qv n r
theorem SRel.putD{fi:PMap}{n:FrameK}{s:Slots}{a:Act}(h:SRel fi n s a){d:Option Tmp}(hd:(match d with|some d=>decide (d<n.sz)|none=>true)=true){x:AVal}{v:Value}(hv:VR fi x v):
 SRel fi n (putD s d x) (a.put d v):=by
 cases d with
 |none=>exact h
 |some d=>exact h.put d (by simpa using hd) hv
theorem qdU{fi:PMap}{n:FrameK}{s:Slots}{a:Act}(hs:SRel fi n s a)(ops:List Oper)(j d:Nat)(hd:nthDst ops j=some d)(hn:d<n.sz)(hk:Wv (s.get d)=true)(want:Bool):
 (yielded ops.toArray a.tmps j==some want)=QG (s.get d) want:=by
 have hv:=hs.val d;have hdst:((ops.toArray[j]?).bind (·.dst))=some d:=by
  rw[<-hd,Yf];simp
 have hget:a.tmps[d]?=some (a.tmps.getD d undef):=by
  have:d<a.tmps.size:=by rw[hs.size];exact hn
  simp[this]
 unfold yielded;rw[hdst];simp only[KO,hget];generalize a.tmps.getD d undef=v at hv;unfold Wv at hk;split at hk
 ·rename_i b hb
  rw[hb]at hv|-
  simp only[VR]at hv;subst hv;simp only[QG];cases b<;>cases want<;>rfl
 ·rename_i hb
  rw[hb]at hv|-
  simp only[VR,VRs]at hv;obtain⟨vs,rfl,rfl⟩:=hv;simp[QG]
 ·cases hk
theorem qiJ{P:Program}{wz:World}(ops:List Oper)(n:FrameK)(hall:Qv n ops=true):∀(l:List Oper) (i:Nat) (fi:PMap) (s:Slots) (h:AHeap) (a:Act) (w:World) (K:Slots->AHeap->Prop) (Q:Exit->Act->World->Prop),
 (∀j,l[j]?=ops[i+j]?)->Qv n l=true->Qp P wz ops l s h K->HRel wz fi h w->SRel fi n s a->
 (∀Ps s' h' a' w',fi.le Ps->HRel wz Ps h' w'->SRel Ps n s' a'->K s' h'->Q .normal a' w')->wpOps P ops.toArray Q (Ju i l.length) a w
 |[],i,fi,s,h,a,w,K,Q,_,_,ha,hr,hs,hq=>hq fi s h a w fi.le_refl hr hs ha
 |o::l,i,fi,s,h,a,w,K,Q,hl,hd,ha,hr,hs,hq=>by
  have ho:ops.toArray[i]?=some o:=by
   have:=hl 0;simp only[Kz,K8]at this;simp[<-this]
  simp only[Qv,Ky]at hd;have hrest:∀j,l[j]?=ops[i+1+j]?:=fun j=>by
   have:=hl (j+1);simp only[KM]at this;rw[this];congr 1;omega
  have ih:=fun fi s h a w Q=>qiJ (P:=P) (wz:=wz) ops n hall l (i+1) fi s h a w K Q hrest hd.2;have run:∀(K':AVal->AHeap->Prop),eop P wz h s o.op K'->(∀x h',K' x h'->Qp P wz ops l (putD s o.dst x) h' K)->o.wp P a w (wpOps P ops.toArray Q (Ju (i+1) l.length)) Q:=fun K' he hk=>
   qhm o he hr hs fun Ps x h' v w' e1 e2 e3 e4=>ih Ps _ h' _ w' Q (hk x h' e4) e2 ((hs.mono e1).putD hd.1 e3) fun χ s' h'' a' w'' f1 f2 f3 f4=>hq χ s' h'' a' w'' (PMap.le_trans e1 f1) f2 f3 f4
  have skip:Qp P wz ops l (putD s o.dst (.tuple [])) h K->wpOps P ops.toArray Q (Ju (i+1) l.length) (a.put o.dst undef) w:=fun hk=>
   ih fi _ h _ w Q hk hr (hs.putD hd.1 (Wl fi)) hq
  simp only[KZ,List.range'_succ,wpOps,ho];simp only[Qp]at ha;cases hg:o.guard with
  |none=>
   simp only[hg]at ha;have hw:Region.wanted o (yielded ops.toArray a.tmps)=true:=by simp[Region.wanted,hg]
   rw[if_pos hw];exact .inl (run _ ha fun _ _ hk=>hk)
  |some gw=>
   obtain⟨j,want⟩:=gw;simp only[hg]at ha;have hwanted:Region.wanted o (yielded ops.toArray a.tmps)=(yielded ops.toArray a.tmps j==some want):=by simp[Region.wanted,hg]
   cases hj:nthDst ops j with
   |none=>
    simp only[hj]at ha;have hn:(ops.toArray[j]?).bind (·.dst)=none:=by
     rw[<-hj,Yf];simp
    have hw:Region.wanted o (yielded ops.toArray a.tmps)=false:=by
     rw[hwanted];simp only[yielded,hn];rfl
    rw[if_neg (by simp[hw])];exact skip ha
   |some d=>
    simp only[hj]at ha;obtain⟨hk,ha⟩:=ha;have hdn:d<n:=by
     have:∀(l:List Oper) (j d:Nat),Qv n l=true->nthDst l j=some d->d<n:=by
      intro l;induction l with
      |nil=>intro j d _ h;simp[nthDst]at h
      |cons o r ih=>
       intro j d h1 h2;simp only[Qv,Ky]at h1;cases j with
       |zero=>simp only[nthDst]at h2;rw[h2]at h1;simpa using h1.1
       |succ j=>exact ih j d h1.2 h2
     exact this ops j d hall hj
    have hgd:=qdU hs ops j d hj hdn hk want;rw[hwanted,hgd];split at ha
    ·rename_i hp
     obtain⟨h1,h2⟩:=ha;cases hb:QG (s.get d) want with
     |true=>
      simp only[hb,Qf,cond_true]at h2;simp only[if_true];exact .inl (run (fun x h'=>x=(pop P wz h s o.op).val/\h'=h) ((qau hp).2 ⟨h1 hb,rfl,rfl⟩) fun x h' ⟨e1,e2⟩=>by subst e1 e2;exact h2)
     |false=>
      simp only[hb,Qf,cond_false]at h2;simp only[KX,if_false];exact skip h2
    ·obtain⟨h1,h2⟩:=ha
     cases hb:QG (s.get d) want with
     |true=>
      simp only[if_true];exact .inl (run _ (h1 hb) fun _ _ hk=>hk)
     |false=>
      simp only[KX,if_false];exact skip (h2 hb)
def abrupt:Exit->Prop
 | .ret=>True
 | .panic _=>True
 |_=>False
def AQ(wz:World)(n:FrameK)(fi:PMap)(Q:Exit->Slots->AHeap->Prop)(e:Exit)(a':Act)(w':World):Prop:=
 (∃Ps s' h',fi.le Ps/\HRel wz Ps h' w'/\SRel Ps n s' a'/\Q e s' h')\/(abrupt e/\∃Ps,fi.le Ps/\n.G e Ps a' w')
theorem AQ.up{wz:World}{n:FrameK}{fi Ps:PMap}{Q:Exit->Slots->AHeap->Prop}{e:Exit}{a:Act}{w:World}(hl:fi.le Ps)(h:AQ wz n Ps Q e a w):AQ wz n fi Q e a w:=by
 rcases h with⟨χ,s,h,e1,rest⟩|⟨ha,χ,e1,hg⟩
 ·exact .inl ⟨χ,s,h,PMap.le_trans hl e1,rest⟩
 ·exact .inr ⟨ha,χ,PMap.le_trans hl e1,hg⟩
def Awp(P:Program)(wz:World)(n:FrameK)(c:Code)(Q:Exit->Slots->AHeap->Prop)(s:Slots)(h:AHeap):Prop:=
 ∀(fi:PMap) (a:Act) (w:World),HRel wz fi h w->SRel fi n s a->c.wp P (AQ wz n fi Q) a w
section
variable {P:Program} {wz:World} {n:FrameK} {s:Slots} {h:AHeap} {Q:Exit->Slots->AHeap->Prop}
theorem Awp.of0{c:Code}(h0:∀(fi:PMap) (a:Act) (w:World),HRel wz fi h w->SRel fi n s a->c.wp P (fun e a' w'=>∃Ps s' h',fi.le Ps/\HRel wz Ps h' w'/\SRel Ps n s' a'/\Q e s' h') a w):Awp P wz n c Q s h:=
 fun fi a w hr hs=>wp_mono (h0 fi a w hr hs) fun _ _ _ hq=> .inl hq
theorem Awp.mono{c:Code}{Q':Exit->Slots->AHeap->Prop}(hc:Awp P wz n c Q s h)(hq:∀e s h,Q e s h->Q' e s h):Awp P wz n c Q' s h:=
 fun fi a w hr hs=>wp_mono (hc fi a w hr hs) fun _ _ _ q=>q.imp (fun⟨Ps,s',h',e1,e2,e3,e4⟩=>⟨Ps,s',h',e1,e2,e3,hq _ _ _ e4⟩) id
theorem Awp.weaken{c:Code}{s':Slots}(hs':∀i,s'.get i=s.get i\/s'.get i= .dead)(hc:Awp P wz n c Q s' h):Awp P wz n c Q s h:=
 fun fi a w hr hs=>hc fi a w hr ⟨hs.size,hs.defers,fun i=>by
  rcases hs' i with e|e
  ·rw[e];exact hs.val i
  ·rw[e];simp[VR]⟩
theorem Awp.keep{c:Code}(L:List Nat)(hc:Awp P wz n c Q (s.keep L) h):Awp P wz n c Q s h:=
 hc.weaken fun i=>by
  rw[Slots.get_keep];split
  ·exact .inl rfl
  ·exact .inr rfl
theorem Awp.forget{c:Code}{h':AHeap}(hh:∀k b,h' k=some b->h k=some b)(hc:Awp P wz n c Q s h'):Awp P wz n c Q s h:=
 fun fi a w hr hs=>hc fi a w (hr.forget hh) hs
theorem qE(hq:Q .normal s h):Awp P wz n .skip Q s h:=fun fi _ _ hr hs=>wp_skip (.inl ⟨fi,s,h,fi.le_refl,hr,hs,hq⟩)
theorem awp_label{l:Nat}(hq:Q .normal s h):Awp P wz n (.label l) Q s h:=fun fi _ _ hr hs=>wp_label (.inl ⟨fi,s,h,fi.le_refl,hr,hs,hq⟩)
theorem QC{id:Nat}(hq:Q (.exit id) s h):Awp P wz n (.exit id) Q s h:=fun fi _ _ hr hs=>wp_exit (.inl ⟨fi,s,h,fi.le_refl,hr,hs,hq⟩)
theorem qV(hq:Q .ret s h):Awp P wz n .ret Q s h:=fun fi _ _ hr hs=>wp_ret (.inl ⟨fi,s,h,fi.le_refl,hr,hs,hq⟩)
def qeW(K:Slots->AHeap->Prop)(Q:Exit->Slots->AHeap->Prop):Exit->Slots->AHeap->Prop
 | .normal,s,h=>K s h
 |e,s,h=>Q e s h
theorem qo{x y:Code}(hx:Awp P wz n x (qeW (Awp P wz n y Q) Q) s h):Awp P wz n (.seq x y) Q s h:=
 fun fi a w hr hs=>wp_seq (wp_mono (hx fi a w hr hs) fun e a' w' q=>by
  rcases q with⟨Ps,s',h',e1,e2,e3,e4⟩|q
  ·cases e<;>simp only[qeW]at e4<;>simp only[Exit.then]<;>first
    |exact .inl ⟨Ps,s',h',e1,e2,e3,e4⟩
    |exact wp_mono (e4 Ps a' w' e2 e3) fun _ _ _ q=>q.up e1
  ·cases e<;>simp only[Exit.then]<;>first
    |exact .inr q
    |exact q.1.elim)
theorem qz{c:Operand}{x y:Code}{b:Bool}(hc:ev s c= .bool b)(ht:b=true->Awp P wz n x Q s h)(hf:b=false->Awp P wz n y Q s h):Awp P wz n (.cond c x y) Q s h:=
 fun fi a w hr hs=>by
  have hv:=hs.ev c;rw[hc]at hv;simp only[VR]at hv;exact wp_cond_split hv (fun e=>ht e fi a w hr hs) (fun e=>hf e fi a w hr hs)
def qdT(id:Nat)(Q:Exit->Slots->AHeap->Prop):Exit->Slots->AHeap->Prop
 | .exit id',s,h=>if id'=id then Q .normal s h else Q (.exit id') s h
 |e,s,h=>Q e s h
theorem qK{id:Nat}{c:Code}(hc:Awp P wz n c (qdT id Q) s h):Awp P wz n (.block id c) Q s h:=
 fun fi a w hr hs=>wp_block (wp_mono (hc fi a w hr hs) fun e a' w' q=>by
  rcases q with⟨Ps,s',h',e1,e2,e3,e4⟩|q
  ·cases e<;>simp only[qdT]at e4<;>simp only[Exit.inBlock]<;>first
    |exact .inl ⟨Ps,s',h',e1,e2,e3,e4⟩
    |(split at e4
      ·rename_i hid;rw[if_pos hid];exact .inl ⟨Ps,s',h',e1,e2,e3,e4⟩
      ·rename_i hid;rw[if_neg hid];exact .inl ⟨Ps,s',h',e1,e2,e3,e4⟩)
  ·cases e<;>simp only[Exit.inBlock]<;>first
    |exact .inr q
    |exact q.1.elim)
theorem qhs{id:Nat}{l:List Oper}(hd:Qv n l=true)(hc:Qp P wz l l s h (fun s' h'=>Q .normal s' h')):Awp P wz n (.region id l.toArray false) Q s h:=
 Awp.of0 fun fi a w hr hs=>wp_region (by
  have:=qiJ (P:=P) (wz:=wz) l n hd l 0 fi s h a w _ (fun e a' w'=>∃Ps s' h',fi.le Ps/\HRel wz Ps h' w'/\SRel Ps n s' a'/\Q e s' h') (fun j=>by simp) hd hc hr hs
   (fun Ps s' h' a' w' e1 e2 e3 e4=>⟨Ps,s',h',e1,e2,e3,e4⟩)
  rw[KC,List.range_eq_range'];exact this)
theorem awp_rseq{id:Nat}{l:List Oper}{y:Code}(L:List Nat)(hd:Qv n l=true)
 (hc:∀K:Slots->AHeap->Prop,(∀s h,Awp P wz n y Q s h->K s h)->Qp P wz l l s h (fun s' h'=>K (s'.keep L) h')):Awp P wz n (.seq (.region id l.toArray false) y) Q s h:=
 qo (qhs hd (hc (fun s h=>Awp P wz n y Q s h) (fun _ _ hk=>hk) |> aOps_mono fun s' h' hk=>Awp.keep L hk))
where
 aOps_mono {l ops:List Oper} {s:Slots} {h:AHeap} {K K':Slots->AHeap->Prop} (hk:∀s h,K s h->K' s h) (ha:Qp P wz ops l s h K):Qp P wz ops l s h K':=by
  induction l generalizing s h with
  |nil=>exact hk _ _ ha
  |cons o l ih=>
   simp only[Qp]at ha|-
   split
   ·rename_i hg
    simp only[hg]at ha;exact qdV ha fun x h'=>ih
   ·rename_i j want hg
    simp only[hg]at ha;split
    ·rename_i hj
     simp only[hj]at ha;exact ih ha
    ·rename_i d hj
     simp only[hj]at ha;refine⟨ha.1,?_⟩;obtain⟨_,ha⟩:=ha;split
     ·rename_i hp
      rw[if_pos hp]at ha;exact⟨ha.1,ih ha.2⟩
     ·rename_i hp
      rw[if_neg hp]at ha;exact⟨fun hb=>qdV (ha.1 hb) fun x h'=>ih,fun hb=>ih (ha.2 hb)⟩
theorem qoF{p:Nat->Prop}:∀k,p k->∃j,p j/\∀i,p i->j<=i:=by
 intro k;induction k using Jv with
 |_ k ih=>
  intro hk;by_cases hs:∃i,i<k/\p i
  ·obtain⟨i,h1,h2⟩:=hs
   exact ih i h1 h2
  ·exact⟨k,hk,fun i hi=>Kt fun hlt=>hs ⟨i,hlt,hi⟩⟩
noncomputable def leastOf (p:Nat->Prop):Nat:=open Classical in if h:∃j,p j/\∀i,p i->j<=i then Classical.choose h else 0
theorem leastOf_spec{p:Nat->Prop}(h:∃k,p k):p (leastOf p)/\∀i,p i->leastOf p<=i:=by
 obtain⟨k,hk⟩:=h;have h':=qoF k hk;unfold leastOf;rw[dif_pos h'];exact Classical.choose_spec h'
theorem awp_loop{c:Code}(I:Slots->AHeap->Prop)(m:Slots->AHeap->Nat)(h0:I s h)
 (round:∀s h,I s h->Awp P wz n c (qeW (fun s' h'=>∃s'',(∀i,s''.get i=s'.get i\/s''.get i= .dead)/\I s'' h'/\m s'' h'<m s h) Q) s h):Awp P wz n (.loop c) Q s h:=by
 intro fi a w hr hs;let S:Act->World->Nat->Prop:=fun a' w' k=>∃φ' s' h',fi.le φ'/\HRel wz φ' h' w'/\SRel φ' n s' a'/\I s' h'/\m s' h'=k
 refine wp_loop (fun a' w'=>∃k,S a' w' k) (fun a' w'=>leastOf (S a' w')) ⟨_,fi,s,h,fi.le_refl,hr,hs,h0,rfl⟩ fun a' w' hI=>?_;obtain⟨⟨φ',s',h',e1,e2,e3,e4,e5⟩,hmin⟩:=leastOf_spec hI;refine wp_mono (round s' h' e4 φ' a' w' e2 e3) fun e a1 w1 q=>?_;rcases q with⟨Ps,s1,h1,f1,f2,f3,f4⟩|⟨q1,q2⟩
 rotate_left
 ·cases e<;>simp only[Exit.then]<;>first
   |(exact(show AQ wz n φ' Q _ a1 w1 from .inr ⟨q1,q2⟩).up e1)
   |exact q1.elim
 cases e<;>simp only[qeW]at f4<;>simp only[Exit.then]<;>first
  |exact .inl ⟨Ps,s1,h1,PMap.le_trans e1 f1,f2,f3,f4⟩
  |skip
 obtain⟨s2,hs2,hI2,hlt⟩:=f4;have hs3:SRel Ps n s2 a1:=⟨f3.size,f3.defers,fun i=>by
  rcases hs2 i with e|e
  ·rw[e];exact f3.val i
  ·rw[e];simp[VR]⟩
 have hS:S a1 w1 (m s2 h1):=⟨Ps,s2,h1,PMap.le_trans e1 f1,f2,hs3,hI2,rfl⟩
 refine⟨⟨_,hS⟩,?_⟩;have:=(leastOf_spec ⟨_,hS⟩).2 _ hS;omega
end
section
variable {P:Program} {wz:World} {n:FrameK} {s:Slots} {h:AHeap} {Q:Exit->Slots->AHeap->Prop}
theorem qlg{fi:PMap}{w:World}(ops:List Oper)(hall:Qv n ops=true)(hr:HRel wz fi h w)(K:Slots->AHeap->Prop)(Q':Act->Prop):∀(hd tl:List Oper) (s:Slots) (a:Act),
 (hd.all fun o=>Zc P o.op)=true->Qv n hd=true->Qp P wz ops (hd++tl) s h K->SRel fi n s a->(∀s' a',SRel fi n s' a'->Qp P wz ops tl s' h K->Q' a')->wpStill P ops.toArray w Q' hd a
 |[],tl,s,a,_,_,ha,hs,hq=>hq s a hs ha
 |o::hd,tl,s,a,hp,hd',ha,hs,hq=>by
  simp only[KE,Ky]at hp;simp only[Qv,Ky]at hd';have ih:=fun s a=>qlg ops hall hr K Q' hd tl s a hp.2 hd'.2;have run:(pop P wz h s o.op).pre->(∀v,VR fi (pop P wz h s o.op).val v->wpStill P ops.toArray w Q' hd (a.put o.dst v))->o.still P a w (wpStill P ops.toArray w Q' hd):=fun h1 h2=>by
   obtain⟨r,e1,e2⟩:=qjf o h1 hr hs;unfold Oper.still;rw[e1 w (Same.refl w),Oper.stillUpon_value]
   ·simpa[Oper.stillUpon]using h2 r e2
  simp only[Kh,Qp]at ha;simp only[wpStill];cases hg:o.guard with
  |none=>
   simp only[hg]at ha;have hw:Region.wanted o (yielded ops.toArray a.tmps)=true:=by simp[Region.wanted,hg]
   rw[if_pos hw];obtain⟨h1,h2⟩:=(qau hp.1).1 ha;exact run h1 fun v hv=>ih _ _ h2 (hs.putD hd'.1 hv) hq
  |some gw=>
   obtain⟨j,want⟩:=gw;simp only[hg]at ha;have hwanted:Region.wanted o (yielded ops.toArray a.tmps)=(yielded ops.toArray a.tmps j==some want):=by simp[Region.wanted,hg]
   cases hj:nthDst ops j with
   |none=>
    simp only[hj]at ha;have hn:(ops.toArray[j]?).bind (·.dst)=none:=by
     rw[<-hj,Yf];simp
    have hw:Region.wanted o (yielded ops.toArray a.tmps)=false:=by
     rw[hwanted];simp only[yielded,hn];rfl
    rw[if_neg (by simp[hw])];exact ih _ _ ha (hs.putD hd'.1 (Wl fi)) hq
   |some d=>
    simp only[hj]at ha;obtain⟨hk,ha⟩:=ha;have hdn:d<n:=by
     have:∀(l:List Oper) (j d:Nat),Qv n l=true->nthDst l j=some d->d<n:=by
      intro l;induction l with
      |nil=>intro j d _ h;simp[nthDst]at h
      |cons o r ih=>
       intro j d h1 h2;simp only[Qv,Ky]at h1;cases j with
       |zero=>simp only[nthDst]at h2;rw[h2]at h1;simpa using h1.1
       |succ j=>exact ih j d h1.2 h2
     exact this ops j d hall hj
    have hgd:=qdU hs ops j d hj hdn hk want;rw[hwanted,hgd];rw[if_pos hp.1]at ha;obtain⟨h1,h2⟩:=ha;cases hb:QG (s.get d) want with
    |true=>
     simp only[hb,Qf,cond_true]at h2;simp only[if_true];exact run (h1 hb) fun v hv=>ih _ _ h2 (hs.putD hd'.1 hv) hq
    |false=>
     simp only[hb,Qf,cond_false]at h2;simp only[KX,if_false];exact ih _ _ h2 (hs.putD hd'.1 (Wl fi)) hq
theorem qpm{id:Nat}{l:List Oper}(hm:P.follows .mixedOrders=true)(hB:Region.lexB .any l.toArray=true)(hp:(l.all fun o=>Zc P o.op)=true)(hd:Qv n l=true)
 (hc:Qp P wz l l s h (fun s' h'=>Q .normal s' h')):Awp P wz n (.region id l.toArray true) Q s h:=
 Awp.of0 fun fi a w hr hs=>wp_region_still (w:=w) hm hB (by
  refine qlg (w:=w.drew) l hd hr.drew (fun s' h'=>Q .normal s' h') _ l [] s a hp hd (by simpa using hc) hs fun s' _ hs' hk=>?_;exact⟨fi,s',h,fi.le_refl,hr.drew,hs',hk⟩)
theorem qgT{id:Nat}{l:List Oper}(m:Nat)(hm:P.follows .mixedOrders=true)(hB:Region.lexTailB .any l.toArray m=true)(hp:((l.take m).all fun o=>Zc P o.op)=true)(hd:Qv n l=true)
 (hc:Qp P wz l l s h (fun s' h'=>Q .normal s' h')):Awp P wz n (.region id l.toArray true) Q s h:=
 Awp.of0 fun fi a w hr hs=>wp_region_still_tail (w:=w) m hm hB (by
  have dtake:∀(l:List Oper) (m:Nat),Qv n l=true->Qv n (l.take m)=true/\Qv n (l.drop m)=true:=by
   intro l;induction l with
   |nil=>intro m _;simp[Qv]
   |cons o r ih=>
    intro m h;cases m with
    |zero=>exact⟨by simp[Qv],by simpa using h⟩
    |succ m=>
     simp only[Qv,Ky]at h;obtain⟨h1,h2⟩:=ih m h.2;exact⟨by simp only[Ki,Qv,Ky];exact⟨h.1,h1⟩,by simpa using h2⟩
  refine qlg (w:=w.drew) l hd hr.drew (fun s' h'=>Q .normal s' h') _ (l.take m) (l.drop m) s a hp (dtake l m hd).1 (by simpa using hc) hs fun s' a' hs' hk=>?_;have:=qiJ (P:=P) (wz:=wz) l n hd (l.drop m) m fi s' h a' w.drew _ (fun e a' w'=>∃Ps s' h',fi.le Ps/\HRel wz Ps h' w'/\SRel Ps n s' a'/\Q e s' h') (fun j=>by simp[Kq]) (dtake l m hd).2 hk hr.drew hs'
   (fun Ps s' h' a' w' e1 e2 e3 e4=>⟨Ps,s',h',e1,e2,e3,e4⟩)
  rw[wpOps_eq_wpList (l.drop m) m (fun j=>by simp[Kq])]at this;exact this)
theorem qai{id:Nat}{l:List Oper}{y:Code}(L:List Nat)(hm:P.follows .mixedOrders=true)(hB:Region.lexB .any l.toArray=true)(hp:(l.all fun o=>Zc P o.op)=true)(hd:Qv n l=true)
 (hc:∀K:Slots->AHeap->Prop,(∀s h,Awp P wz n y Q s h->K s h)->Qp P wz l l s h (fun s' h'=>K (s'.keep L) h')):Awp P wz n (.seq (.region id l.toArray true) y) Q s h:=
 qo (qpm hm hB hp hd (hc (fun s h=>Awp P wz n y Q s h) (fun _ _ hk=>hk) |> awp_rseq.aOps_mono fun _ _ hk=>Awp.keep L hk))
theorem qdH{id:Nat}{l:List Oper}{y:Code}(m:Nat)(L:List Nat)(hm:P.follows .mixedOrders=true)(hB:Region.lexTailB .any l.toArray m=true)(hp:((l.take m).all fun o=>Zc P o.op)=true)(hd:Qv n l=true)
 (hc:∀K:Slots->AHeap->Prop,(∀s h,Awp P wz n y Q s h->K s h)->Qp P wz l l s h (fun s' h'=>K (s'.keep L) h')):Awp P wz n (.seq (.region id l.toArray true) y) Q s h:=
 qo (qgT m hm hB hp hd (hc (fun s h=>Awp P wz n y Q s h) (fun _ _ hk=>hk) |> awp_rseq.aOps_mono fun _ _ hk=>Awp.keep L hk))
theorem QK{id:Nat}{l:List Oper}(L:List Nat)(hd:Qv n l=true)(hc:Qp P wz l l s h (fun s' h'=>Q .normal (s'.keep L) h')):Awp P wz n (.region id l.toArray false) Q s h:=
 fun fi a w hr hs=>wp_mono (qhs (Q:=fun e s' h'=>Q e (if e matches .normal then s'.keep L else s') h') hd hc fi a w hr hs) fun e a' w' q=>by
  rcases q with⟨Ps,s',h',e1,e2,e3,e4⟩|q
  ·cases e<;>first
    |exact .inl ⟨Ps,s',h',e1,e2,e3,e4⟩
    |exact .inl ⟨Ps,s'.keep L,h',e1,e2,e3.keep L,e4⟩
  ·exact .inr q
end
def qkw(P:Program)(wz:World)(s:Slots)(h:AHeap):ResultVar->PR
 | .tmp t=>⟨True,s.get t⟩
 | .cell a t=>Yr P wz h t (s.get a)
def Wp(P:Program)(wz:World)(s:Slots)(h:AHeap):List ResultVar->Prop
 |[]=>True
 |r::rs=>(qkw P wz s h r).pre/\Wp P wz s h rs
def qcr(P:Program)(wz:World)(s:Slots)(h:AHeap):List ResultVar->AVal
 |[r]=>(qkw P wz s h r).val
 |rs=> .tuple (rs.map fun r=>(qkw P wz s h r).val)
def qdN(P:Program)(wz:World)(rs:List ResultVar)(R:AVal->AHeap->Prop):Exit->Slots->AHeap->Prop
 | .normal,s,h=>Wp P wz s h rs/\∃h',(∀k b,h' k=some b->h k=some b)/\R (qcr P wz s h rs) h'
 | .ret,s,h=>Wp P wz s h rs/\∃h',(∀k b,h' k=some b->h k=some b)/\R (qcr P wz s h rs) h'
 |_,_,_=>False
def qU:Nat->List AVal->Slots
 |_,[]=>[]
 |k,x::xs=>(k,x)::qU (k+1) xs
theorem qbO(fi:PMap):∀(xs:List AVal) (vs:List Value) (k i:Nat),VRs fi xs vs->(i<k->(qU k xs).get i= .dead)/\∀d,k<=i->VR fi ((qU k xs).get i) (vs.getD (i-k) d)
 |[],vs,k,i,_=>⟨fun _=>rfl,fun _ _=>by simp[qU,Slots.get,VR]⟩
 |x::xs,vs,k,i,h=>by
  simp only[VRs]at h;obtain⟨v,vs',rfl,h1,h2⟩:=h;obtain⟨i1,i2⟩:=qbO fi xs vs' (k+1) i h2;refine⟨fun hlt=>?_,fun d hle=>?_⟩
  ·simp only[qU,Slots.get]
   rw[if_neg (by omega)];exact i1 (by omega)
  ·simp only[qU,Slots.get]
   by_cases e:i=k
   ·subst e
    simpa using h1
   ·rw[if_neg e]
    have:=i2 d (by omega);rw[show i-k=(i-(k+1))+1 by omega];simpa using this
def qom(tmps:Array Value):ResultVar->Sem Value
 | .tmp t=>pure (tmps.getD t undef)
 | .cell a t=>do loadVar t (<-asAddr (tmps.getD a undef))
theorem qeu{P:Program}{wz w:World}{fi:PMap}{n:FrameK}{s:Slots}{h:AHeap}{a:Act}(hr:HRel wz fi h w)(hs:SRel fi n s a)(fn:Func)(hp:Wp P wz s h fn.results.toList):
 ∃v,(results fn a.tmps).run P w= .ok v w/\VR fi (qcr P wz s h fn.results.toList) v:=by
 have one:∀r,(qkw P wz s h r).pre->∃v,(qom a.tmps r).run P w= .ok v w/\VR fi (qkw P wz s h r).val v:=by
  intro r hr';cases r with
  |tmp t=>exact⟨_,rfl,hs.val t⟩
  |cell b t=>
   simp only[qkw]at hr'|-
   obtain⟨r,h1,h2⟩:=qrr hr' hr (hs.val b);refine⟨r,?_,h2⟩;have:=h1 w (Same.refl w);have hv:=hs.val b;unfold Yr at hr';split at hr'
   ·rename_i l o hl
    rw[hl]at hv;simp only[VR]at hv;obtain⟨ad,_,e2⟩:=hv;rw[e2]at this;simp only[qom];rw[e2];simpa[Instr.loadAt,Instr.sureAddr,asAddr]using this
   ·exact hr'.elim
 have all:∀rs:List ResultVar,Wp P wz s h rs->∃vs,(rs.mapM (qom a.tmps)).run P w= .ok vs w/\VRs fi (rs.map fun r=>(qkw P wz s h r).val) vs:=by
  intro rs;induction rs with
  |nil=>intro _;exact⟨[],by simp,by simp[VRs]⟩
  |cons r rs ih=>
   intro hp;simp only[Wp]at hp;obtain⟨v,e1,e2⟩:=one r hp.1;obtain⟨vs,e3,e4⟩:=ih hp.2;refine⟨v::vs,?_,by simp only[Ke,VRs];exact⟨v,vs,rfl,e2,e4⟩⟩;rw[List.mapM_cons,Sem.run_bind,e1,Result.andThen_ok,Sem.run_bind,e3];rfl
 obtain⟨vs,e1,e2⟩:=all _ hp;have hrun:(results fn a.tmps).run P w= .ok (if h:vs.toArray.size=1 then vs.toArray[0]else .tuple vs.toArray) w:=by
  have key:∀F:ResultVar->Sem Value,(∀r,F r=qom a.tmps r)->(List.mapM F fn.results.toList).run P w= .ok vs w:=fun F hF=>by
   rw[funext hF];exact e1
  unfold results;rw[Array.mapM_eq_mapM_toList];simp only[bind_map_left,Sem.run_bind];rw[key _ (fun r=>by cases r<;>rfl)];rfl
 refine⟨_,hrun,?_⟩;have hl:=XA e2;simp only[Jp]at hl;match hrs:fn.results.toList,e2,hl with
 |[],e2,hl=>
  obtain rfl:vs=[]:=Kg (by simpa using hl);simp only[qcr,VR];exact⟨[],by simp,by simp[VRs]⟩
 |[r],e2,hl=>
  simp only[Ke,List.map_nil,VRs]at e2;obtain⟨v,_,rfl,h1,rfl⟩:=e2;simpa[qcr]using h1
 |r::r'::rs,e2,hl=>
  have h2:¬vs.toArray.size=1:=by simp at hl|-;omega
  rw[dif_neg h2];simp only[qcr,VR];exact⟨vs,rfl,e2⟩
theorem qP{P:Program}{wz:World}{f:FuncId}{args:List AVal}{h:AHeap}{R:AVal->AHeap->Prop}{fn:Func}{c:Code}{rs:List ResultVar}{n:FrameK}(hf:P.funcs[f]?=some fn)
 (hname:(fn.name== "runtime.NumGoroutine")=false) (hb:fn.body=some c) (hn:fn.ntmps=n.sz) (hrs:fn.results=rs.toArray) (hargs:args.length<=n.sz)
 (hc:Awp P wz n c (qdN P wz rs R) (qU 0 args) h) (hdf:n.dfr=[]/\n.G=(fun _ _ _ _=>False):=by exact⟨rfl,rfl⟩):ACall P wz f args h R:=by
 intro fi vals w hr hv;refine .inl ⟨fn,hf,hname,by rw[hb];rfl,?_⟩;have hl:=XA hv;refine calls_of_wp hf hb (wp_mono (hc fi _ w hr ⟨?_,hdf.1.symm,fun i=>?_⟩) fun e a' w' q=>?_)
 ·simp[hn]
  omega
 ·have:=(qbO fi args vals 0 i hv).2 undef (Js i)
  by_cases hi:i<vals.length
  ·have e:(vals.toArray++Jw (fn.ntmps-vals.toArray.size) undef).getD i undef=vals.getD i undef:=by
    simp[Ku,Jy,hi,Ko]
   rw[e];simpa using this
  ·have e:(vals.toArray++Jw (fn.ntmps-vals.toArray.size) undef).getD i undef=undef:=by
    simp[Ku,Jy,hi,Array.getElem?_replicate];split<;>simp
   rw[e];have e2:vals.getD (i-0) undef=undef:=by simp[Ko,Kr (Kt hi)]
   rw[e2]at this;exact this
 ·have q':∃Ps s' h',fi.le Ps/\HRel wz Ps h' w'/\SRel Ps n s' a'/\qdN P wz rs R e s' h':=by
   rcases q with q|⟨_,Ps,_,q⟩
   ·exact q
   ·rw[hdf.2]at q
    exact q.elim
  obtain⟨Ps,s',h',e1,e2,e3,e4⟩:=q';cases e<;>simp only[qdN]at e4<;>first
   |exact e4.elim
   |skip
  all_goals
   obtain⟨hp,h'',hsub,hR⟩:=e4;have hrs':rs=fn.results.toList:=by rw[hrs]
   rw[hrs']at hp hR;obtain⟨v,f1,f2⟩:=qeu e2 e3 fn hp;exact⟨e3.defers.trans hdf.1,v,f1,v,rfl,Ps,_,h'',e1,e2.forget hsub,f2,hR⟩
theorem law_of_acall{P:Program}{f:FuncId}{args:List AVal}{vals:List Value}{w:World}(hv:VRs (fun _=>none) args vals)
 (hc:ACall P w f args (fun _=>none) (fun x _=>x= .bool true)) (hcalls:∃fn,P.funcs[f]?=some fn/\fn.body.isSome=true):
 Calls P f vals.toArray w fun e w'=>e= .returned (.bool true)/\Below w.heap.size w w':=by
 rcases hc _ vals w (HRel.start w) hv with⟨fn,_,_,_,h4⟩|⟨v,w',h1,⟨Ps,x,h',e1,e2,e3,e4⟩⟩
 ·refine h4.mono fun e w' ⟨v,he,Ps,x,h',e1,e2,e3,e4⟩=>?_
  subst he e4;simp only[VR]at e3;subst e3;exact⟨rfl,e2.below⟩
 ·exfalso
  obtain⟨fn,g1,g2⟩:=hcalls;have hb:¬fn.body=none:=fun e=>by rw[e]at g2;cases g2
  simp only[callFunc,Sem.run_bind,run_program,Result.andThen_ok,g1]at h1;split at h1
  ·simp at h1
  ·simp[hb]at h1
end Go.AM
namespace Go.AM
section
variable {P:Program} {wz:World} {ops rest:List Oper} {s:Slots} {h:AHeap} {K:Slots->AHeap->Prop}
theorem Qt:Qp P wz ops [] s h K=K s h:=rfl
theorem aOps_g{dst:Option Tmp}{op:Op}{ty:TypeId}{pos:String}{af:Array Edge}{j d:Nat}{want:Bool}(hj:nthDst ops j=some d)(hp:Zc P op=true):
 Qp P wz ops (⟨dst,op,ty,pos,af,some (j,want)⟩::rest) s h K=
  (Wv (s.get d)=true/\(QG (s.get d) want=true->(pop P wz h s op).pre)/\Qp P wz ops rest (putD s dst (Qf (QG (s.get d) want) (pop P wz h s op).val)) h K):=by
 simp only[Qp,hj,hp,if_true]
theorem qcY{dst:Option Tmp}{op:Op}{ty:TypeId}{pos:String}{af:Array Edge}:
 Qp P wz ops (⟨dst,op,ty,pos,af,none⟩::rest) s h K=eop P wz h s op fun x h'=>Qp P wz ops rest (putD s dst x) h' K:=rfl
theorem Uc{dst:Option Tmp}{op:Op}{ty:TypeId}{pos:String}{af:Array Edge}(hp:Zc P op=true):
 Qp P wz ops (⟨dst,op,ty,pos,af,none⟩::rest) s h K=((pop P wz h s op).pre/\Qp P wz ops rest (putD s dst (pop P wz h s op).val) h K):=by
 rw[qcY];exact propext (qau hp)
theorem qkJ{dst:Option Tmp}{op:Op}{ty:TypeId}{pos:String}{af:Array Edge}{j d:Nat}{want:Bool}(hj:nthDst ops j=some d)(hp:Zc P op=false)(hk:Wv (s.get d)=true)
 (h1:QG (s.get d) want=true->Qp P wz ops (⟨dst,op,ty,pos,af,none⟩::rest) s h K) (h2:QG (s.get d) want=false->Qp P wz ops rest (putD s dst (.tuple [])) h K):
 Qp P wz ops (⟨dst,op,ty,pos,af,some (j,want)⟩::rest) s h K:=by
 simp only[Qp,hj,hp];exact⟨hk,h1,h2⟩
theorem qM{dst:Option Tmp}{fo:Operand}{args:Array Operand}{ts:Array TypeId}{ty:TypeId}{pos:String}{af:Array Edge}{f:FuncId}{cap xs:List AVal}{R:AVal->AHeap->Prop}
 (hf:ev s fo= .func f cap) (hx:evs s args.toList++cap=xs) (hc:ACall P wz f xs h R) (hk:∀x h',R x h'->Qp P wz ops rest (putD s dst x) h' K):
 Qp P wz ops (⟨dst, .call ⟨.value fo,args,ts⟩,ty,pos,af,none⟩::rest) s h K:=by
 rw[qcY];simp only[eop,hf,hx];exact hc.mono hk
end
theorem qhV(c:Bool)(v w:AVal):Wd c (Qf c v) w=Wd c v w:=by cases c<;>cases v<;>cases w<;>simp[Wd,Qf]
theorem qhU(c:Bool)(v w:AVal):Wd c v (Qf (!c) w)=Wd c v w:=by cases c<;>cases v<;>cases w<;>simp[Wd,Qf]
theorem Ye(c x y:Bool):Wd c (.bool x) (.bool y)= .bool (bif c then x else y):=rfl
theorem WY(b:Bool):QG (.bool b) true=b:=by cases b<;>rfl
theorem qdj(b:Bool):QG (.bool b) false= !b:=by cases b<;>rfl
theorem qka(g b:Bool)(want:Bool):QG (Qf g (.bool b)) want=(g && QG (.bool b) want):=by cases g<;>cases b<;>cases want<;>rfl
theorem XK(b:Bool):Wv (.bool b)=true:=rfl
theorem XJ(g b:Bool):Wv (Qf g (.bool b))=true:=by cases g<;>rfl
theorem Qe(v:AVal):Qf true v=v:=rfl
theorem ZH(v:AVal):Qf false v= .tuple []:=rfl
theorem wrap_i64{n:Int}(h0: -9223372036854775808<=n)(h1:n<=9223372036854775807):IntKind.i64.wrap n=n:=by
 rw[IntKind.wrap_i64];omega
theorem wrap_u8{n:Int}(h0:0<=n)(h1:n<=255):IntKind.u8.wrap n=n:=by
 unfold IntKind.wrap;simp[IntKind.bits,IntKind.signed];omega
section
variable {P:Program}
theorem pu_move(x:Operand):Zc P (.move x)=true:=rfl
theorem pu_assign(x:Operand):Zc P (.assign x)=true:=rfl
theorem pu_pick(c a b:Operand):Zc P (.pick c a b)=true:=rfl
theorem qre(o:BinOp)(t:TypeId)(x y:Operand)(u:TypeId):Zc P (.binOp o t x y u)=true:=rfl
theorem pu_unOp(o:UnOp)(t:TypeId)(x:Operand):Zc P (.unOp o t x)=true:=rfl
theorem pu_load(t:TypeId)(x:Operand):Zc P (.load t x)=true:=rfl
theorem qhR(t:TypeId)(x:Operand)(f:Nat):Zc P (.fieldAddr t x f)=true:=rfl
theorem qrc(t:TypeId)(x i:Operand):Zc P (.index t x i)=true:=rfl
theorem qhP(t:TypeId)(x i:Operand):Zc P (.indexAddr t x i)=true:=rfl
theorem qra(t:TypeId)(x:Operand)(a b c:Option Operand):Zc P (.slice t x a b c)=true:=rfl
theorem qtg(x:Operand)(i:Nat):Zc P (.extract x i)=true:=rfl
theorem qjS(x:Operand):Zc P (.nilCheck x)=true:=rfl
theorem qrd(t:TypeId)(p:Array (Nat×Operand)):Zc P (.build t p)=true:=rfl
theorem qrb(f:Fn)(a b:Array Operand):Zc P (.makeFunc f a b)=true:=rfl
theorem qjd(t:TypeId)(x:Operand):Zc P (.makeInterface t x)=true:=rfl
theorem pu_len(a:Array Operand)(t:Array TypeId):Zc P (.call ⟨.builtin .len,a,t⟩)=true:=rfl
theorem pu_min(a:Array Operand)(t:Array TypeId):Zc P (.call ⟨.builtin .min,a,t⟩)=true:=rfl
theorem qth(s d:TypeId)(x:Operand)(h:(!ZW P s d && !qdm P s d)=true):Zc P (.convert s d x)=true:=h
end
section
variable {P:Program} {wz:World} {ops rest:List Oper} {s:Slots} {h:AHeap} {K:Slots->AHeap->Prop} {dst:Option Tmp} {ty:TypeId} {pos:String} {af:Array Edge}
theorem qc(x:Operand):
 Qp P wz ops (⟨dst, .move x,ty,pos,af,none⟩::rest) s h K=((pop P wz h s (.move x)).pre/\Qp P wz ops rest (putD s dst (pop P wz h s (.move x)).val) h K):=Uc (pu_move x)
theorem qa(x:Operand):
 Qp P wz ops (⟨dst, .assign x,ty,pos,af,none⟩::rest) s h K=((pop P wz h s (.assign x)).pre/\Qp P wz ops rest (putD s dst (pop P wz h s (.assign x)).val) h K):=Uc (pu_assign x)
theorem QE(c a b:Operand):
 Qp P wz ops (⟨dst, .pick c a b,ty,pos,af,none⟩::rest) s h K=((pop P wz h s (.pick c a b)).pre/\Qp P wz ops rest (putD s dst (pop P wz h s (.pick c a b)).val) h K):=Uc (pu_pick c a b)
theorem qf(o:BinOp)(t:TypeId)(x y:Operand)(u:TypeId):
 Qp P wz ops (⟨dst, .binOp o t x y u,ty,pos,af,none⟩::rest) s h K=((pop P wz h s (.binOp o t x y u)).pre/\Qp P wz ops rest (putD s dst (pop P wz h s (.binOp o t x y u)).val) h K):=Uc (qre o t x y u)
theorem qiG(o:UnOp)(t:TypeId)(x:Operand):
 Qp P wz ops (⟨dst, .unOp o t x,ty,pos,af,none⟩::rest) s h K=((pop P wz h s (.unOp o t x)).pre/\Qp P wz ops rest (putD s dst (pop P wz h s (.unOp o t x)).val) h K):=Uc (pu_unOp o t x)
theorem ap_load(t:TypeId)(x:Operand):
 Qp P wz ops (⟨dst, .load t x,ty,pos,af,none⟩::rest) s h K=((pop P wz h s (.load t x)).pre/\Qp P wz ops rest (putD s dst (pop P wz h s (.load t x)).val) h K):=Uc (pu_load t x)
theorem qg(t:TypeId)(x:Operand)(f:Nat):
 Qp P wz ops (⟨dst, .fieldAddr t x f,ty,pos,af,none⟩::rest) s h K=((pop P wz h s (.fieldAddr t x f)).pre/\Qp P wz ops rest (putD s dst (pop P wz h s (.fieldAddr t x f)).val) h K):=Uc (qhR t x f)
theorem qmo(t:TypeId)(x i:Operand):
 Qp P wz ops (⟨dst, .index t x i,ty,pos,af,none⟩::rest) s h K=((pop P wz h s (.index t x i)).pre/\Qp P wz ops rest (putD s dst (pop P wz h s (.index t x i)).val) h K):=Uc (qrc t x i)
theorem qpo(t:TypeId)(x i:Operand):
 Qp P wz ops (⟨dst, .indexAddr t x i,ty,pos,af,none⟩::rest) s h K=((pop P wz h s (.indexAddr t x i)).pre/\Qp P wz ops rest (putD s dst (pop P wz h s (.indexAddr t x i)).val) h K):=Uc (qhP t x i)
theorem qaz(t:TypeId)(x:Operand)(a b c:Option Operand):
 Qp P wz ops (⟨dst, .slice t x a b c,ty,pos,af,none⟩::rest) s h K=((pop P wz h s (.slice t x a b c)).pre/\Qp P wz ops rest (putD s dst (pop P wz h s (.slice t x a b c)).val) h K):=Uc (qra t x a b c)
theorem Xr(x:Operand)(i:Nat):
 Qp P wz ops (⟨dst, .extract x i,ty,pos,af,none⟩::rest) s h K=((pop P wz h s (.extract x i)).pre/\Qp P wz ops rest (putD s dst (pop P wz h s (.extract x i)).val) h K):=Uc (qtg x i)
theorem Qg(x:Operand):
 Qp P wz ops (⟨dst, .nilCheck x,ty,pos,af,none⟩::rest) s h K=((pop P wz h s (.nilCheck x)).pre/\Qp P wz ops rest (putD s dst (pop P wz h s (.nilCheck x)).val) h K):=Uc (qjS x)
theorem YJ(t:TypeId)(p:Array (Nat×Operand)):
 Qp P wz ops (⟨dst, .build t p,ty,pos,af,none⟩::rest) s h K=((pop P wz h s (.build t p)).pre/\Qp P wz ops rest (putD s dst (pop P wz h s (.build t p)).val) h K):=Uc (qrd t p)
theorem qkp(f:Fn)(a b:Array Operand):
 Qp P wz ops (⟨dst, .makeFunc f a b,ty,pos,af,none⟩::rest) s h K=((pop P wz h s (.makeFunc f a b)).pre/\Qp P wz ops rest (putD s dst (pop P wz h s (.makeFunc f a b)).val) h K):=Uc (qrb f a b)
theorem qea(t:TypeId)(x:Operand):
 Qp P wz ops (⟨dst, .makeInterface t x,ty,pos,af,none⟩::rest) s h K=((pop P wz h s (.makeInterface t x)).pre/\Qp P wz ops rest (putD s dst (pop P wz h s (.makeInterface t x)).val) h K):=Uc (qjd t x)
theorem Qr(a:Array Operand)(t:Array TypeId):
 Qp P wz ops (⟨dst, .call ⟨.builtin .len,a,t⟩,ty,pos,af,none⟩::rest) s h K=((pop P wz h s (.call ⟨.builtin .len,a,t⟩)).pre/\Qp P wz ops rest (putD s dst (pop P wz h s (.call ⟨.builtin .len,a,t⟩)).val) h K):=Uc (pu_len a t)
theorem ap_min(a:Array Operand)(t:Array TypeId):
 Qp P wz ops (⟨dst, .call ⟨.builtin .min,a,t⟩,ty,pos,af,none⟩::rest) s h K=((pop P wz h s (.call ⟨.builtin .min,a,t⟩)).pre/\Qp P wz ops rest (putD s dst (pop P wz h s (.call ⟨.builtin .min,a,t⟩)).val) h K):=Uc (pu_min a t)
end
def qnu(c a b:AVal):PR:=
 match c with
 | .bool c=>⟨True,Wd c a b⟩
 |_=> .no
def qbb(P:Program)(op:BinOp)(t:TypeId)(x y:AVal):PR:=
 match x,y with
 | .agg xs, .agg ys=>qdD P op t (.agg xs) (.agg ys)
 |a,b=>qru P op t a b
def pExt(x:AVal)(i:Nat):PR:=
 match x with
 | .tuple vs=>⟨i<vs.length,vs.getD i .dead⟩
 |_=> .no
def qtl(x:AVal):PR:=
 match x with
 | .ptr l o=>⟨True, .ptr l o⟩
 | .func f c=>⟨True, .func f c⟩
 |_=> .no
def WV(P:Program)(t:TypeId)(ps:List (Nat×AVal)):PR:=
 match qpk P t ps with
 |some cs=>⟨True, .agg cs⟩
 |none=> .no
section
variable {P:Program} {wz:World} {h:AHeap} {s:Slots}
theorem qbV(x:Operand):pop P wz h s (.move x)=⟨True,ev s x⟩:=rfl
theorem ZO(x:Operand):pop P wz h s (.assign x)=⟨True,ev s x⟩:=rfl
theorem qrf(c a b:Operand):pop P wz h s (.pick c a b)=qnu (ev s c) (ev s a) (ev s b):=rfl
theorem qaf(o:BinOp)(t:TypeId)(x y:Operand)(u:TypeId):pop P wz h s (.binOp o t x y u)=bif qeD y then qhf P o t (ev s x)else qbb P o t (ev s x) (ev s y):=rfl
theorem qF(j:Nat):qeD (.tmp j)=false:=rfl
theorem qO(k:IntKind)(n:Int):qeD (.const (.int k n))=false:=rfl
theorem XM(b:ByteArray):qeD (.const (.string b))=false:=rfl
theorem qeC(a:Option Addr)(n c:Nat):qeD (.const (.slice a n c))=false:=rfl
theorem isNilC_nil:qeD (.const .nilIface)=true:=rfl
theorem qto{t:TypeId}{m:Array (String×TypeId)}(ht:P.underlying t=some (.interface m))(te:TypeId)(x:AVal):qhf P .neq t (.iface te x)=⟨True, .bool true⟩:=by simp[qhf,ht]
theorem Yc(o:UnOp)(t:TypeId)(x:Operand):pop P wz h s (.unOp o t x)=pUn o (ev s x):=rfl
theorem UO(a b:TypeId)(x:Operand):pop P wz h s (.convert a b x)=qdP P wz h a b (ev s x):=rfl
theorem ZN(t:TypeId)(x:Operand):pop P wz h s (.load t x)=Yr P wz h t (ev s x):=rfl
theorem Xm(t:TypeId)(x:Operand)(f:Nat):pop P wz h s (.fieldAddr t x f)=Qj P t (ev s x) f:=rfl
theorem qjg(t:TypeId)(x i:Operand):pop P wz h s (.index t x i)=qcN P t (ev s x) (ev s i):=rfl
theorem Zj(t:TypeId)(x i:Operand):pop P wz h s (.indexAddr t x i)=Xe P t (ev s x) (ev s i):=rfl
theorem Wz(t:TypeId)(x:Operand)(a b c:Option Operand):pop P wz h s (.slice t x a b c)=Ws P t (ev s x) (evO s a) (evO s b) (evO s c):=rfl
theorem Xi(x:Operand)(i:Nat):pop P wz h s (.extract x i)=pExt (ev s x) i:=rfl
theorem qhS(x:Operand):pop P wz h s (.nilCheck x)=qtl (ev s x):=rfl
theorem qhT(f:FuncId)(a c:List Operand):pop P wz h s (.makeFunc (.func f) a.toArray c.toArray)=⟨a=[], .func f (evs s c)⟩:=rfl
theorem qdf(t:TypeId)(x:Operand):pop P wz h s (.makeInterface t x)=⟨P.concrete t=true, .iface t (ev s x)⟩:=rfl
theorem Qm(x:Operand)(t:TypeId)(ts:List TypeId):pop P wz h s (.call ⟨.builtin .len,[x].toArray,(t::ts).toArray⟩)=Ze P h t (ev s x):=rfl
theorem qtj(t:TypeId)(x i:Operand)(ok:Bool):pop P wz h s (.lookup t x i ok)=qba P h t (ev s x) (ev s i) ok:=rfl
theorem pop_min(a:List Operand)(t:Array TypeId):pop P wz h s (.call ⟨.builtin .min,a.toArray,t⟩)=pMin (evs s a):=rfl
end
section
variable {P:Program}
theorem qlB(c:Bool)(a b:AVal):qnu (.bool c) a b=⟨True,Wd c a b⟩:=rfl
def qfa(op:BinOp)(k:IntKind)(a b:Int):PR:=
 match op with
 | .shl=>⟨0<=b, .int k (k.wrap (a*2^(min b.toNat k.bits)))⟩
 | .shr=>⟨0<=b, .int k (a.fdiv (2^(min b.toNat k.bits)))⟩
 |op=>pInt op k a b
theorem WA(op:BinOp)(t:TypeId)(k:IntKind)(a b:Int):qbb P op t (.int k a) (.int k b)=qfa op k a b:=by
 cases op<;>simp[qbb,qru,qfa]
theorem pBinX_shr(t:TypeId)(k k':IntKind)(a b:Int):qbb P .shr t (.int k a) (.int k' b)=⟨0<=b, .int k (a.fdiv (2^(min b.toNat k.bits)))⟩:=rfl
theorem Qb(op:BinOp)(t:TypeId)(a b:List UInt8):qbb P op t (.str a) (.str b)=pStr op a b:=rfl
theorem qji(op:BinOp)(t:TypeId)(a b:List AVal):qbb P op t (.agg a) (.agg b)=qdD P op t (.agg a) (.agg b):=rfl
theorem pBinX_beq(t:TypeId)(a b:Bool):qbb P .eql t (.bool a) (.bool b)=match P.underlying t with|some .bool=>⟨True, .bool (a==b)⟩|_=> .no:=rfl
theorem ZI(k:IntKind)(a b:Int):qfa .add k a b=⟨True, .int k (k.wrap (a+b))⟩:=rfl
theorem UC(k:IntKind)(a b:Int):qfa .sub k a b=⟨True, .int k (k.wrap (a-b))⟩:=rfl
theorem pI_quo(k:IntKind)(a b:Int):qfa .quo k a b=⟨b≠0, .int k (k.wrap (a.tdiv b))⟩:=rfl
theorem qfn(k:IntKind)(a b:Int):qfa .rem k a b=⟨b≠0, .int k (a.tmod b)⟩:=rfl
theorem Zm(k:IntKind)(a b:Int):qfa .eql k a b=⟨True, .bool (decide (a=b))⟩:=rfl
theorem UR(k:IntKind)(a b:Int):qfa .neq k a b=⟨True, .bool (!decide (a=b))⟩:=rfl
theorem Zz(k:IntKind)(a b:Int):qfa .lss k a b=⟨True, .bool (decide (a<b))⟩:=rfl
theorem qtp(k:IntKind)(a b:Int):qfa .leq k a b=⟨True, .bool (decide (a<=b))⟩:=rfl
theorem WL(k:IntKind)(a b:Int):qfa .gtr k a b=⟨True, .bool (decide (b<a))⟩:=rfl
theorem qow(k:IntKind)(a b:Int):qfa .geq k a b=⟨True, .bool (decide (b<=a))⟩:=rfl
theorem YL(a b:List UInt8):pStr .add a b=⟨a.length+b.length<9223372036854775808, .str (a++b)⟩:=rfl
theorem qhd(a b:List UInt8):pStr .eql a b=⟨True, .bool (decide (a=b))⟩:=rfl
theorem qan(a b:List UInt8):pStr .neq a b=⟨True, .bool (!decide (a=b))⟩:=rfl
theorem UB(b:Bool):pUn .not (.bool b)=⟨True, .bool (!b)⟩:=rfl
theorem Xy(vs:List AVal)(i:Nat):pExt (.tuple vs) i=⟨i<vs.length,vs.getD i .dead⟩:=rfl
theorem qro(l:Loc)(o:Nat):qtl (.ptr l o)=⟨True, .ptr l o⟩:=rfl
theorem qnv(f:FuncId)(c:List AVal):qtl (.func f c)=⟨True, .func f c⟩:=rfl
variable {wz:World} {h:AHeap}
theorem qcz{t u:TypeId}{d:TypeDesc}{k:IntKind}(ht:P.underlying t=some d)(hu:P.underlying u=some (.int k))(k':IntKind)(n:Int):qdP P wz h t u (.int k' n)=⟨True, .int k (k.wrap n)⟩:=by
 simp only[qdP,ht,hu]
theorem qrt{t u e:TypeId}(ht:P.underlying t=some (.slice e))(hu:P.underlying u=some .string)(he:P.underlying e=some (.int .u8))(l:Loc)(o len:Nat)(c:Cap):
 qdP P wz h t u (.slice l o len c)=⟨(cellsAt wz h l o len).all AVal.isU8=true, .str ((cellsAt wz h l o len).map AVal.byte)⟩:=by
 simp only[qdP,ht,hu,he]
theorem qhe{t:TypeId}(ht:P.underlying t=some .string)(s:List UInt8)(k:IntKind)(n:Int):qcN P t (.str s) (.int k n)=⟨0<=n/\n<s.length, .int .u8 (s.getD n.toNat 0).toNat⟩:=by
 simp only[qcN,ht]
theorem qh{t e:TypeId}{es:Nat}(ht:P.underlying t=some (.slice e))(hs:Zy P e=some es)(l:Loc)(o len:Nat)(c:Cap)(k:IntKind)(n:Int):
 Xe P t (.slice l o len c) (.int k n)=⟨0<=n/\n<len, .ptr l (o+n.toNat*es)⟩:=by
 simp only[Xe,ht,hs]
theorem qd{t:TypeId}(ha:Yd P t=some false)(l:Loc)(o:Nat):Yr P wz h t (.ptr l o)=⟨(rd wz h l o).live=true,rd wz h l o⟩:=by
 simp only[Yr,ha]
theorem Qa{t:TypeId}{n:Nat}(ha:Yd P t=some true)(hn:Zy P t=some n)(l:Loc)(o:Nat):Yr P wz h t (.ptr l o)=⟨allLive (cellsAt wz h l o n)=true, .agg (cellsAt wz h l o n)⟩:=by
 simp only[Yr,ha,hn]
theorem Xp{t e:TypeId}(ht:P.underlying t=some (.slice e)){h:AHeap}(l:Loc)(o n:Nat)(c:Cap):Ze P h t (.slice l o n c)=⟨True, .int .i64 n⟩:=by
 simp only[Ze,qdi,qrs,ht,cond_false]
theorem pLen_nil{t e:TypeId}(ht:P.underlying t=some (.slice e)){h:AHeap}:Ze P h t .nilSlice=⟨True, .int .i64 0⟩:=by
 simp only[Ze,qdi,qrs,ht,cond_false]
theorem pMin_int(k k':IntKind)(a b:Int):pMin [.int k a, .int k' b]=⟨True, .int k (min a b)⟩:=rfl
end
section
variable {P:Program} {wz:World} {h:AHeap}
theorem qmc(g:Bool)(v:AVal):Qf g (Qf g v)=Qf g v:=by cases g<;>rfl
theorem qbR(g:Bool)(c a b:AVal):Qf g (qnu (Qf g c) a b).val=Qf g (qnu c a b).val:=by cases g<;>rfl
theorem qbS(g:Bool)(c a b:AVal):(g=true->(qnu (Qf g c) a b).pre)=(g=true->(qnu c a b).pre):=by cases g<;>simp[Qf]
theorem cv_binl(o:BinOp)(t:TypeId)(g:Bool)(x y:AVal):Qf g (qbb P o t (Qf g x) y).val=Qf g (qbb P o t x y).val:=by cases g<;>rfl
theorem cv_binr(o:BinOp)(t:TypeId)(g:Bool)(x y:AVal):Qf g (qbb P o t x (Qf g y)).val=Qf g (qbb P o t x y).val:=by cases g<;>rfl
theorem cp_binl(o:BinOp)(t:TypeId)(g:Bool)(x y:AVal):(g=true->(qbb P o t (Qf g x) y).pre)=(g=true->(qbb P o t x y).pre):=by cases g<;>simp[Qf]
theorem cp_binr(o:BinOp)(t:TypeId)(g:Bool)(x y:AVal):(g=true->(qbb P o t x (Qf g y)).pre)=(g=true->(qbb P o t x y).pre):=by cases g<;>simp[Qf]
theorem qkj(o:UnOp)(g:Bool)(x:AVal):Qf g (pUn o (Qf g x)).val=Qf g (pUn o x).val:=by cases g<;>rfl
theorem qkk(o:UnOp)(g:Bool)(x:AVal):(g=true->(pUn o (Qf g x)).pre)=(g=true->(pUn o x).pre):=by cases g<;>simp[Qf]
theorem qdo(t:TypeId)(g:Bool)(x:AVal):Qf g (Yr P wz h t (Qf g x)).val=Qf g (Yr P wz h t x).val:=by cases g<;>rfl
theorem qdp(t:TypeId)(g:Bool)(x:AVal):(g=true->(Yr P wz h t (Qf g x)).pre)=(g=true->(Yr P wz h t x).pre):=by cases g<;>simp[Qf]
theorem qag(t:TypeId)(f:Nat)(g:Bool)(x:AVal):Qf g (Qj P t (Qf g x) f).val=Qf g (Qj P t x f).val:=by cases g<;>rfl
theorem qah(t:TypeId)(f:Nat)(g:Bool)(x:AVal):(g=true->(Qj P t (Qf g x) f).pre)=(g=true->(Qj P t x f).pre):=by cases g<;>simp[Qf]
theorem cv_indexl(t:TypeId)(g:Bool)(x y:AVal):Qf g (qcN P t (Qf g x) y).val=Qf g (qcN P t x y).val:=by cases g<;>rfl
theorem cp_indexl(t:TypeId)(g:Bool)(x y:AVal):(g=true->(qcN P t (Qf g x) y).pre)=(g=true->(qcN P t x y).pre):=by cases g<;>simp[Qf]
theorem cv_iaddrl(t:TypeId)(g:Bool)(x y:AVal):Qf g (Xe P t (Qf g x) y).val=Qf g (Xe P t x y).val:=by cases g<;>rfl
theorem cv_iaddrr(t:TypeId)(g:Bool)(x y:AVal):Qf g (Xe P t x (Qf g y)).val=Qf g (Xe P t x y).val:=by cases g<;>rfl
theorem cp_iaddrl(t:TypeId)(g:Bool)(x y:AVal):(g=true->(Xe P t (Qf g x) y).pre)=(g=true->(Xe P t x y).pre):=by cases g<;>simp[Qf]
theorem cp_iaddrr(t:TypeId)(g:Bool)(x y:AVal):(g=true->(Xe P t x (Qf g y)).pre)=(g=true->(Xe P t x y).pre):=by cases g<;>simp[Qf]
theorem cv_nil(g:Bool)(x:AVal):Qf g (qtl (Qf g x)).val=Qf g (qtl x).val:=by cases g<;>rfl
theorem cp_nil(g:Bool)(x:AVal):(g=true->(qtl (Qf g x)).pre)=(g=true->(qtl x).pre):=by cases g<;>simp[Qf]
theorem qho{h:AHeap}(t:TypeId)(g:Bool)(x:AVal):Qf g (Ze P h t (Qf g x)).val=Qf g (Ze P h t x).val:=by cases g<;>rfl
theorem qhp{h:AHeap}(t:TypeId)(g:Bool)(x:AVal):(g=true->(Ze P h t (Qf g x)).pre)=(g=true->(Ze P h t x).pre):=by cases g<;>simp[Qf]
theorem qnt(c x:Bool):Wd c (.bool x) (.bool false)= .bool (c && x):=by cases c<;>rfl
theorem qrg(c x:Bool):Wd c (.bool true) (.bool x)= .bool (c||x):=by cases c<;>rfl
end
section
variable {P:Program} {wz:World} {ops rest:List Oper} {s:Slots} {h:AHeap} {K:Slots->AHeap->Prop} {dst:Option Tmp} {ty:TypeId} {pos:String} {af:Array Edge}
def gv(s:Slots)(ops:List Oper)(j:Nat):AVal:=match nthDst ops j with|some d=>s.get d|none=> .dead
def agP(P:Program)(wz:World)(ops rest:List Oper)(s:Slots)(h:AHeap)(K:Slots->AHeap->Prop)(dst:Option Tmp)(g:AVal)(want:Bool)(r:PR):Prop:=
 Wv g=true/\(QG g want=true->r.pre)/\Qp P wz ops rest (putD s dst (Qf (QG g want) r.val)) h K
def agQ(P:Program)(wz:World)(ops rest:List Oper)(s:Slots)(h:AHeap)(K:Slots->AHeap->Prop)(dst:Option Tmp)(want:Bool)(r:PR):Option Tmp->Prop
 |none=>Qp P wz ops rest (putD s dst (.tuple [])) h K
 |some d=>agP P wz ops rest s h K dst (s.get d) want r
theorem Us{want:Bool}{r:PR}{d:Tmp}:agQ P wz ops rest s h K dst want r (some d)=agP P wz ops rest s h K dst (s.get d) want r:=rfl
theorem agE{op:Op}{j:Nat}{want:Bool}(hp:Zc P op=true):
 Qp P wz ops (⟨dst,op,ty,pos,af,some (j,want)⟩::rest) s h K=agQ P wz ops rest s h K dst want (pop P wz h s op) (nthDst ops j):=by
 cases hd:nthDst ops j with
 |none=>simp only[Qp,hd,agQ]
 |some d=>rw[aOps_g hd hp];rfl
theorem Xc(x:Operand){j:Nat}{want:Bool}:
 Qp P wz ops (⟨dst, .move x,ty,pos,af,some (j,want)⟩::rest) s h K=agQ P wz ops rest s h K dst want (pop P wz h s (.move x)) (nthDst ops j):=agE (pu_move x)
theorem qaA(c a b:Operand){j:Nat}{want:Bool}:
 Qp P wz ops (⟨dst, .pick c a b,ty,pos,af,some (j,want)⟩::rest) s h K=agQ P wz ops rest s h K dst want (pop P wz h s (.pick c a b)) (nthDst ops j):=agE (pu_pick c a b)
theorem QI(o:BinOp)(t:TypeId)(x y:Operand)(u:TypeId){j:Nat}{want:Bool}:
 Qp P wz ops (⟨dst, .binOp o t x y u,ty,pos,af,some (j,want)⟩::rest) s h K=agQ P wz ops rest s h K dst want (pop P wz h s (.binOp o t x y u)) (nthDst ops j):=agE (qre o t x y u)
theorem qbl(o:UnOp)(t:TypeId)(x:Operand){j:Nat}{want:Bool}:
 Qp P wz ops (⟨dst, .unOp o t x,ty,pos,af,some (j,want)⟩::rest) s h K=agQ P wz ops rest s h K dst want (pop P wz h s (.unOp o t x)) (nthDst ops j):=agE (pu_unOp o t x)
theorem ag_load(t:TypeId)(x:Operand){j:Nat}{want:Bool}:
 Qp P wz ops (⟨dst, .load t x,ty,pos,af,some (j,want)⟩::rest) s h K=agQ P wz ops rest s h K dst want (pop P wz h s (.load t x)) (nthDst ops j):=agE (pu_load t x)
theorem QR(t:TypeId)(x:Operand)(f:Nat){j:Nat}{want:Bool}:
 Qp P wz ops (⟨dst, .fieldAddr t x f,ty,pos,af,some (j,want)⟩::rest) s h K=agQ P wz ops rest s h K dst want (pop P wz h s (.fieldAddr t x f)) (nthDst ops j):=agE (qhR t x f)
theorem ag_index(t:TypeId)(x i:Operand){j:Nat}{want:Bool}:
 Qp P wz ops (⟨dst, .index t x i,ty,pos,af,some (j,want)⟩::rest) s h K=agQ P wz ops rest s h K dst want (pop P wz h s (.index t x i)) (nthDst ops j):=agE (qrc t x i)
theorem qpp(t:TypeId)(x i:Operand){j:Nat}{want:Bool}:
 Qp P wz ops (⟨dst, .indexAddr t x i,ty,pos,af,some (j,want)⟩::rest) s h K=agQ P wz ops rest s h K dst want (pop P wz h s (.indexAddr t x i)) (nthDst ops j):=agE (qhP t x i)
theorem ag_slice(t:TypeId)(x:Operand)(a b c:Option Operand){j:Nat}{want:Bool}:
 Qp P wz ops (⟨dst, .slice t x a b c,ty,pos,af,some (j,want)⟩::rest) s h K=agQ P wz ops rest s h K dst want (pop P wz h s (.slice t x a b c)) (nthDst ops j):=agE (qra t x a b c)
theorem qdt(x:Operand){j:Nat}{want:Bool}:
 Qp P wz ops (⟨dst, .nilCheck x,ty,pos,af,some (j,want)⟩::rest) s h K=agQ P wz ops rest s h K dst want (pop P wz h s (.nilCheck x)) (nthDst ops j):=agE (qjS x)
theorem ag_build(t:TypeId)(p:Array (Nat×Operand)){j:Nat}{want:Bool}:
 Qp P wz ops (⟨dst, .build t p,ty,pos,af,some (j,want)⟩::rest) s h K=agQ P wz ops rest s h K dst want (pop P wz h s (.build t p)) (nthDst ops j):=agE (qrd t p)
theorem qcW(a:Array Operand)(t:Array TypeId){j:Nat}{want:Bool}:
 Qp P wz ops (⟨dst, .call ⟨.builtin .len,a,t⟩,ty,pos,af,some (j,want)⟩::rest) s h K=agQ P wz ops rest s h K dst want (pop P wz h s (.call ⟨.builtin .len,a,t⟩)) (nthDst ops j):=agE (pu_len a t)
theorem Wj{fo:Operand}{args:Array Operand}{ts:Array TypeId}{j:Nat}{want:Bool}{f:FuncId}{cap xs:List AVal}{V:AVal}(hk:Wv (gv s ops j)=true)
 (hf:QG (gv s ops j) want=true->ev s fo= .func f cap/\evs s args.toList++cap=xs) (hc:QG (gv s ops j) want=true->ACall P wz f xs h (fun x h'=>x=V/\h'=h))
 (hr:Qp P wz ops rest (putD s dst (Qf (QG (gv s ops j) want) V)) h K):
 Qp P wz ops (⟨dst, .call ⟨.value fo,args,ts⟩,ty,pos,af,some (j,want)⟩::rest) s h K:=by
 unfold gv at hk hf hc hr;cases hj:nthDst ops j with
 |none=>rw[hj]at hk;cases hk
 |some d=>
  simp only[hj]at hk hf hc hr;refine qkJ hj rfl hk (fun hb=>?_) (fun hb=>?_)
  ·refine qM (hf hb).1 (hf hb).2 (hc hb) fun x h' ⟨e1,e2⟩=>?_
   subst e1 e2;simpa[hb,Qf]using hr
  ·simpa[hb,Qf]using hr
end
section
variable {P:Program} {wz:World} {n:FrameK} {s:Slots} {h:AHeap} {Q:Exit->Slots->AHeap->Prop}
theorem keep_get(s:Slots)(L:List Nat)(i:Nat):(s.keep L).get i=s.get i\/(s.keep L).get i= .dead:=by
 rw[Slots.get_keep];split
 ·exact .inl rfl
 ·exact .inr rfl
def Sub(h' h:AHeap):Prop:=∀k b,h' k=some b->h k=some b
theorem Sub.refl(h:AHeap):Sub h h:=fun _ _ e=>e
theorem Sub.trans{a b c:AHeap}(x:Sub a b)(y:Sub b c):Sub a c:=fun k v e=>y k v (x k v e)
theorem Sub.set{h:AHeap}{k:Nat}{b:Blk}(hk:h k=none):Sub h (h.set k b):=fun j c e=>by
 by_cases ej:j=k
 ·subst ej;rw[hk]at e;cases e
 ·rw[AHeap.set_ne _ _ ej];exact e
theorem Sub.trans_set{h' h:AHeap}{k:Nat}{b:Blk}(hs:Sub h' h)(hk:h' k=none):Sub h' (h.set k b):=fun j c e=>by
 by_cases ej:j=k
 ·subst ej;rw[hk]at e;cases e
 ·rw[AHeap.set_ne _ _ ej];exact hs j c e
theorem Sub.none{h' h:AHeap}(hs:Sub h' h){k:Nat}(hk:h k=none):h' k=none:=by
 cases e:h' k with
 |none=>rfl
 |some b=>rw[hs k b e]at hk;cases hk
theorem QD{γ:Type}{c:Code}(L:List Nat)(S:γ->Slots)(H:γ->AHeap)(I:γ->Prop)(m:γ->Nat)(g₀:γ)(hs:s.keep L=S g₀)(hh:Sub (H g₀) h)(hi:I g₀)
 (round:∀g,I g->Awp P wz n c (qeW (fun s' h'=>∃g',s'.keep L=S g'/\Sub (H g') h'/\I g'/\m g'<m g) Q) (S g) (H g)):Awp P wz n (.loop c) Q s h:=by
 refine Awp.keep L ?_;rw[hs];refine Awp.forget hh ?_;refine awp_loop (fun s h=>∃g,s=S g/\(∃h',h=h'/\Sub (H g) h')/\I g) (fun s h=>leastOf fun k=>∃g,s=S g/\Sub (H g) h/\I g/\m g=k) ⟨g₀,rfl,⟨_,rfl,Sub.refl _⟩,hi⟩ fun s1 h1 hI=>?_;obtain⟨g1,e1,⟨_,e2,e2'⟩,e3⟩:=hI;subst e2;obtain⟨⟨g,f1,f2,f3,f4⟩,_⟩:=leastOf_spec (p:=fun k=>∃g,s1=S g/\Sub (H g) h1/\I g/\m g=k) ⟨_,g1,e1,e2',e3,rfl⟩;subst f1;refine Awp.forget f2 ((round g f3).mono fun e s' h' hq=>?_);cases e<;>simp only[qeW]at hq|- <;>first
  |exact hq
  |skip
 obtain⟨g',q1,q2,q3,q4⟩:=hq;refine⟨s'.keep L,fun i=>keep_get s' L i,⟨g',q1,⟨_,rfl,q2⟩,q3⟩,?_⟩;have:=(leastOf_spec (p:=fun k=>∃g,s'.keep L=S g/\Sub (H g) h'/\I g/\m g=k) ⟨_,g',q1,q2,q3,rfl⟩).2 _ ⟨g',q1,q2,q3,rfl⟩;omega
theorem QL{rs:List ResultVar}{R:AVal->AHeap->Prop}(h':AHeap)(hs:Sub h' h)(hp:Wp P wz s h rs)(hr:R (qcr P wz s h rs) h'):qdN P wz rs R .ret s h:=⟨hp,h',hs,hr⟩
theorem qA{t:Nat}{rs:List ResultVar}(hp:Wp P wz s h rs):Wp P wz s h (.tmp t::rs):=⟨trivial,hp⟩
theorem qC:Wp P wz s h []:=trivial
theorem Uv(t:Nat):qcr P wz s h [.tmp t]=s.get t:=rfl
theorem Zt(t u:Nat):qcr P wz s h [.tmp t, .tmp u]= .tuple [s.get t,s.get u]:=rfl
theorem qfZ:qcr P wz s h []= .tuple []:=rfl
theorem QM{ops rest:List Oper}{K:Slots->AHeap->Prop}{dst:Option Tmp}{fo:Operand}{args:Array Operand}{ts:Array TypeId}{ty:TypeId}{pos:String}{af:Array Edge}{f:FuncId}{cap xs:List AVal}{V:AVal}
 (hf:ev s fo= .func f cap) (hx:evs s args.toList++cap=xs) (hc:ACall P wz f xs h (fun x h'=>x=V/\h'=h)) (hk:Qp P wz ops rest (putD s dst V) h K):
 Qp P wz ops (⟨dst, .call ⟨.value fo,args,ts⟩,ty,pos,af,none⟩::rest) s h K:=
 qM hf hx hc fun x h' ⟨e1,e2⟩=>by subst e1 e2;exact hk
end
theorem es_to{P:Program}{t u:TypeId}{d:TypeDesc}(hu:P.underlying u=some d)(hd:∀e,d≠ .slice e):(!ZW P t u && !qdm P t u)=true:=by
 have e1:ZW P t u=false:=by
  unfold ZW;split
  ·rename_i e _ h;rw[hu]at h;exact absurd (Option.some.inj h) (hd e)
  ·rfl
 have e2:qdm P t u=false:=by
  unfold qdm;by_cases htu:t=u
  ·subst htu
   split
   ·rename_i e h;rw[hu]at h;exact absurd (Option.some.inj h) (hd e)
   ·simp
  ·simp[htu]
 rw[e1,e2];rfl
theorem qjy{P:Program}{t u:TypeId}{d:TypeDesc}{k:IntKind}(_:P.underlying t=some d)(hu:P.underlying u=some (.int k)):(!ZW P t u && !qdm P t u)=true:=es_to hu (fun _=>by simp)
theorem es_str{P:Program}{t u:TypeId}{d:TypeDesc}(_:P.underlying t=some d)(hu:P.underlying u=some .string):(!ZW P t u && !qdm P t u)=true:=es_to hu (fun _=>by simp)
section
variable {P:Program} {wz:World} {ops rest:List Oper} {s:Slots} {h:AHeap} {K:Slots->AHeap->Prop} {dst:Option Tmp} {ty:TypeId} {pos:String} {af:Array Edge}
theorem qbG(t u:TypeId)(x:Operand)(hs:(!ZW P t u && !qdm P t u)=true):
 Qp P wz ops (⟨dst, .convert t u x,ty,pos,af,none⟩::rest) s h K=((pop P wz h s (.convert t u x)).pre/\Qp P wz ops rest (putD s dst (pop P wz h s (.convert t u x)).val) h K):=Uc (qth t u x hs)
end
section
variable {K:Slots->AHeap->Prop} {Q:Exit->Slots->AHeap->Prop} {s:Slots} {h:AHeap}
theorem qne:qeW K Q .ret s h=Q .ret s h:=rfl
theorem qem:qeW K Q .normal s h=K s h:=rfl
theorem qfc(i:Nat):qdT i Q .normal s h=Q .normal s h:=rfl
theorem qih(i:Nat):qdT i Q .ret s h=Q .ret s h:=rfl
end
inductive IsB(wz:World)(h:AHeap):AVal->List UInt8->Prop
 |nil:IsB wz h .nilSlice []
 |mk (l:Loc) (o n:Nat) (c:Cap) (bs:List UInt8) (hn:n=bs.length) (hc:cellsAt wz h l o n=byteCells bs) (hcap:match c with| .exact c=>n<=c| .grow g=>g=1):IsB wz h (.slice l o n c) bs
theorem qaN(wz:World)(h:AHeap)(l:Loc):∀(n o i:Nat),i<n->(cellsAt wz h l o n)[i]?=some (rd wz h l (o+i))
 |n+1,o,0,_=>by simp[cellsAt]
 |n+1,o,i+1,hi=>by
  simp only[cellsAt,KM];rw[qaN wz h l n (o+1) i (by omega)];congr 2;omega
theorem qkm{wz:World}{h:AHeap}{k:Nat}{b:Blk}(hk:h k=some b)(o n:Nat)(hn:o+n<=b.cells.length):cellsAt wz h (.own k) o n=(b.cells.drop o).take n:=by
 apply K3;intro i;by_cases hi:i<n
 ·rw[qaN wz h (.own k) n o i hi]
  have:o+i<b.cells.length:=by omega
  simp[rd,hk,hi,Ko,Kq,this]
 ·rw[Kr (by rw[UZ];omega),Kr (by simp;omega)]
section
variable {P:Program} {wz:World} {h:AHeap} {v:AVal} {bs:List UInt8}
theorem qpf(wz:World)(h:AHeap)(l:Loc)(o n i j:Nat)(hij:i<=j)(hj:j<=n):cellsAt wz h l (o+i) (j-i)=((cellsAt wz h l o n).drop i).take (j-i):=by
 apply K3;intro q;by_cases hq:q<j-i
 ·rw[qaN _ _ _ _ _ _ hq,K4,if_pos hq,Kq,qaN _ _ _ _ _ _ (by omega)]
  congr 2;omega
 ·rw[Kr (by rw[UZ];omega),Kr (by simp;omega)]
end
theorem qaC(wz:World)(h:AHeap)(k o:Nat)(b:Blk):rd wz (h.set k b) (.own k) o=b.cells.getD o .dead:=by simp[rd,AHeap.set_same]
section
variable {P:Program} {wz:World} {ops rest:List Oper} {s:Slots} {h:AHeap} {K:Slots->AHeap->Prop} {dst:Option Tmp} {ty:TypeId} {pos:String} {af:Array Edge}
theorem Ub{op:Op}{j:Nat}{want:Bool}(hg:gv s ops j= .bool want)(hk:Qp P wz ops (⟨dst,op,ty,pos,af,none⟩::rest) s h K):
 Qp P wz ops (⟨dst,op,ty,pos,af,some (j,want)⟩::rest) s h K:=by
 unfold gv at hg;cases hj:nthDst ops j with
 |none=>rw[hj]at hg;cases hg
 |some d=>
  rw[hj]at hg;simp only at hg;by_cases hp:Zc P op=true
  ·rw[aOps_g hj hp,hg]
   rw[Uc hp]at hk;have e:QG (.bool want) want=true:=by simp[QG]
   rw[e];exact⟨rfl,fun _=>hk.1,hk.2⟩
  ·refine qkJ hj (by simpa using hp) (by rw[hg];rfl) (fun _=>hk) (fun e=>?_)
   rw[hg]at e;simp[QG]at e
theorem qgu{op:Op}{j:Nat}{want b:Bool}(hg:gv s ops j= .bool b)(hb:b= !want)(hk:Qp P wz ops rest (putD s dst (.tuple [])) h K):
 Qp P wz ops (⟨dst,op,ty,pos,af,some (j,want)⟩::rest) s h K:=by
 unfold gv at hg;subst hb;cases hj:nthDst ops j with
 |none=>rw[hj]at hg;cases hg
 |some d=>
  rw[hj]at hg;simp only at hg;have e:QG (.bool (!want)) want=false:=by cases want<;>rfl
  by_cases hp:Zc P op=true
  ·rw[aOps_g hj hp,hg,e]
   exact⟨rfl,fun e'=>(by cases e'),hk⟩
  ·refine qkJ hj (by simpa using hp) (by rw[hg];rfl) (fun e'=>?_) (fun _=>hk)
   rw[hg,e]at e';cases e'
theorem qN{t:TypeId}{x y:Operand}{k o n:Nat}{b:Blk}{v:AVal}(hx:ev s x= .ptr (.own k) o)(hv:ev s y=v)(hb:h k=some b)(hn:Zy P t=some n)(hl:v.live=true)(hc:v.cells.length=n)
 (ho:o+n<=b.cells.length) (hf:b.frz<=o) (hs:Qu v.cells=true) (hk:Qp P wz ops rest (putD s dst (.tuple [])) (h.set k ⟨setAt b.cells o v.cells,b.frz⟩) K):
 Qp P wz ops (⟨dst, .store t x y,ty,pos,af,none⟩::rest) s h K:=by
 rw[qcY];simp only[eop,qpb,hx,hv,hb,hn];exact⟨⟨hl,hc,by omega,hf,hs⟩,hk⟩
end
theorem qbn{P:Program}{wz:World}{f:FuncId}{fn:Func}{h:AHeap}{args:List AVal}{V:AVal}{vals:List Value}{val:Value}(hf:P.funcs[f]?=some fn)(hname:(fn.name== "runtime.NumGoroutine")=false)(hb:fn.body.isSome=true)
 (hv:∀fi vs,VRs fi args vs->vs=vals) (hV:∀fi,VR fi V val) (hc:∀w,Calls P f vals.toArray w fun e w'=>e= .returned val/\Go.RowKit.Below w.heap.size w w'):
 ACall P wz f args h (fun v h'=>v=V/\h'=h):=by
 intro fi vs w hr hvs;obtain rfl:=hv fi vs hvs;refine .inl ⟨fn,hf,hname,hb,(hc w).mono fun e w' ⟨e1,e2⟩=>⟨val,e1,fi,V,h,fi.le_refl,hr.later e2,hV fi,rfl,rfl⟩⟩
section
variable {P:Program} {wz:World} {ops rest:List Oper} {s:Slots} {h:AHeap} {K:Slots->AHeap->Prop} {dst:Option Tmp} {ty:TypeId} {pos:String} {af:Array Edge}
end
def qgc(s:List UInt8):Option Int->Option Int->PR
 |some l,some h=>⟨0<=l/\l<=h/\h<=s.length, .str ((s.drop l.toNat).take (h.toNat-l.toNat))⟩
 |_,_=> .no
def qov(lc:Loc)(o len es:Nat):Option Int->Option Int->PR
 |some l,some h=>⟨0<=l/\l<=h/\h<=len, .slice lc (o+l.toNat*es) (h-l).toNat (.grow es)⟩
 |_,_=> .no
theorem bndA_none(d:Nat):qcd none d=some (d:Int):=rfl
theorem qay(k:IntKind)(n:Int)(d:Nat):qcd (some (.int k n)) d=some n:=rfl
section
variable {P:Program}
theorem qrn{t:TypeId}(ht:P.underlying t=some .string)(s:List UInt8)(lo hi:Option AVal):Ws P t (.str s) lo hi none=qgc s (qcd lo 0) (qcd hi s.length):=by
 simp only[Ws,ht];cases qcd lo 0<;>cases qcd hi s.length<;>rfl
theorem pSlice_gr{t e:TypeId}{es:Nat}(ht:P.underlying t=some (.slice e))(hs:Zy P e=some es)(l:Loc)(o len:Nat)(lo hi:Option AVal):
 Ws P t (.slice l o len (.grow es)) lo hi none=qov l o len es (qcd lo 0) (qcd hi len):=by
 simp only[Ws,ht,hs];cases qcd lo 0<;>cases qcd hi len<;>simp[qov]
end
theorem eqNil{α:Type}(s:List α):(s=[])=(s.length=0):=by simp
def Sc:AVal->Prop
 | .agg _=>False
 | .dead=>False
 | .mapO _=>False
 | .mapE _ _ _=>False
 | .iterO _ _ _ _=>False
 |_=>True
theorem Zw(l:Loc)(o n:Nat)(c:Cap):Sc (.slice l o n c)=True:=eq_true trivial
theorem Xt:Sc .nilSlice=True:=eq_true trivial
theorem XZ:Sc .nilPtr=True:=eq_true trivial
theorem WO(l:Loc)(o:Nat):Sc (.ptr l o)=True:=eq_true trivial
theorem XO:Sc .nilFunc=True:=eq_true trivial
theorem Yo(f:FuncId)(c:List AVal):Sc (.func f c)=True:=eq_true trivial
theorem Za:Sc .nilMap=True:=eq_true trivial
theorem Ut{P:Program}{wz:World}{ops rest:List Oper}{s:Slots}{h:AHeap}{K:Slots->AHeap->Prop}{dst:Option Tmp}{ty:TypeId}{pos:String}{af:Array Edge}{e:TypeId}{x:Operand}{v:AVal}{cs:List AVal}
 (hx:ev s x=v) (hl:v.live=true) (hc:v.cells=cs) (hk:∀k,h k=none->Qp P wz ops rest (putD s dst (.ptr (.own k) 0)) (h.set k ⟨cs,0⟩) K):
 Qp P wz ops (⟨dst, .box e x,ty,pos,af,none⟩::rest) s h K:=by
 rw[qcY];simp only[eop,hx,hc];exact⟨hl,hk⟩
theorem Qz{P:Program}{wz:World}{ops rest:List Oper}{s:Slots}{h:AHeap}{K:Slots->AHeap->Prop}{dst:Option Tmp}{ty:TypeId}{pos:String}{af:Array Edge}{e:TypeId}{z:Value}{cs:List AVal}
 (hz:Uy P e=some z) (hc:z.cells.toList.map absS=cs) (hk:∀k,h k=none->Qp P wz ops rest (putD s dst (.ptr (.own k) 0)) (h.set k ⟨cs,0⟩) K):
 Qp P wz ops (⟨dst, .alloc e,ty,pos,af,none⟩::rest) s h K:=by
 rw[qcY];simp only[eop,hz,hc];exact hk
theorem Qk{P:Program}{wz:World}{s:Slots}{h:AHeap}{rs:List ResultVar}{R:AVal->AHeap->Prop}(hp:Wp P wz s h rs)(hr:∃h',Sub h' h/\R (qcr P wz s h rs) h'):qdN P wz rs R .ret s h:=⟨hp,hr⟩
theorem qaK{P:Program}{wz:World}{s:Slots}{h:AHeap}{rs:List ResultVar}{R:AVal->AHeap->Prop}(hp:Wp P wz s h rs)(hr:∃h',Sub h' h/\R (qcr P wz s h rs) h'):qdN P wz rs R .normal s h:=⟨hp,hr⟩
section
variable {P:Program} {wz:World} {s:Slots} {h:AHeap}
theorem qaY(t:Nat):qkw P wz s h (.tmp t)=⟨True,s.get t⟩:=rfl
theorem ZV(a:Nat)(t:TypeId):qkw P wz s h (.cell a t)=Yr P wz h t (s.get a):=rfl
theorem qhc(r:ResultVar):qcr P wz s h [r]=(qkw P wz s h r).val:=rfl
theorem qcL(r u:ResultVar):qcr P wz s h [r,u]= .tuple [(qkw P wz s h r).val,(qkw P wz s h u).val]:=rfl
theorem XL(t:TypeId)(ps:List (Nat×Operand)):pop P wz h s (.build t ps.toArray)=WV P t (evP s ps):=rfl
end
theorem YG(wz:World){h:AHeap}{k:Nat}{b:Blk}(hk:h k=some b)(o:Nat):rd wz h (.own k) o=b.cells.getD o .dead:=by simp[rd,hk]
theorem rd_ne(wz:World)(h:AHeap){j k:Nat}(b:Blk)(hj:j≠k)(o:Nat):rd wz (h.set k b) (.own j) o=rd wz h (.own j) o:=by simp only[rd,AHeap.set_ne h b hj]
theorem rd_any(wz:World)(h:AHeap)(k o:Nat)(cs:List AVal)(f:Nat):rd wz (h.set k ⟨cs,f⟩) (.own k) o=cs.getD o .dead:=qaC wz h k o ⟨cs,f⟩
section
variable {P:Program} {wz:World} {ops rest:List Oper} {s:Slots} {h:AHeap} {K:Slots->AHeap->Prop} {dst:Option Tmp} {ty:TypeId} {pos:String} {af:Array Edge}
theorem Qd{t:TypeId}{n:Nat}{ps:List (Nat×Operand)}{cs:List AVal}(hb:qcc P t n (evP s ps)=some cs)
 (hk:∀k,h k=none->Qp P wz ops rest (putD s dst (.slice (.own k) 0 n (.exact n))) (h.set k ⟨cs,0⟩) K):
 Qp P wz ops (⟨dst, .buildSlice t n ps.toArray,ty,pos,af,none⟩::rest) s h K:=by
 rw[qcY];simp only[eop,hb];exact hk
end
theorem qgK(c:Bool)(v w:AVal):Wd (!c) v (Qf c w)=Wd (!c) v w:=by cases c<;>cases v<;>cases w<;>simp[Wd,Qf]
theorem WJ(a b:AVal):Wd true a b=a:=by cases a<;>cases b<;>rfl
theorem YU(a b:AVal):Wd false a b=b:=by cases a<;>cases b<;>rfl
theorem qsf(g c:Bool)(x y:AVal):Qf g (Wd c (Qf (g && c) x) y)=Qf g (Wd c x y):=by cases g<;>cases c<;>cases x<;>cases y<;>simp[Wd,Qf]
theorem qse(g c:Bool)(x y:AVal):Qf g (Wd c x (Qf (g && !c) y))=Qf g (Wd c x y):=by cases g<;>cases c<;>cases x<;>cases y<;>simp[Wd,Qf]
theorem qsd(g c:Bool)(x y:AVal):Qf g (Wd (!c) x (Qf (g && c) y))=Qf g (Wd (!c) x y):=by cases g<;>cases c<;>cases x<;>cases y<;>simp[Wd,Qf]
theorem qsc(g c:Bool)(x y:AVal):Qf g (Wd (!c) (Qf (g && !c) x) y)=Qf g (Wd (!c) x y):=by cases g<;>cases c<;>cases x<;>cases y<;>simp[Wd,Qf]
theorem YE{P:Program}{wz:World}{n:FrameK}{s:Slots}{h:AHeap}{Q Q':Exit->Slots->AHeap->Prop}{γ:Type}{x y:Code}(L:List Nat)(S:γ->Slots)(H:γ->AHeap)(I:γ->Prop)
 (hx:Awp P wz n x (qeW (fun s' h'=>∃g,s'.keep L=S g/\Sub (H g) h'/\I g) Q') s h) (hy:∀g,I g->Awp P wz n y Q (S g) (H g)):Awp P wz n x (qeW (Awp P wz n y Q) Q') s h:=
 hx.mono fun e s' h' hq=>by
  cases e<;>simp only[qeW]at hq|- <;>first
   |exact hq
   |skip
  obtain⟨g,q1,q2,q3⟩:=hq;refine Awp.keep L ?_;rw[q1];exact Awp.forget q2 (hy g q3)
theorem qfe{P:Program}{wz:World}{f:FuncId}{fn:Func}{h:AHeap}{args:List AVal}{V:AVal}{vals:List Value}{val:Value}(hf:P.funcs[f]?=some fn)(hname:(fn.name== "runtime.NumGoroutine")=false)(hb:fn.body.isSome=true)
 (hv:∀fi vs,VRs fi args vs->vs=vals) (hV:∀fi,VR fi V val) (hc:∀w,Go.RowKit.Below wz.heap.size wz w->Calls P f vals.toArray w fun e w'=>e= .returned val/\Go.RowKit.Below w.heap.size w w'):
 ACall P wz f args h (fun v h'=>v=V/\h'=h):=by
 intro fi vs w hr hvs;obtain rfl:=hv fi vs hvs;refine .inl ⟨fn,hf,hname,hb,(hc w hr.below).mono fun e w' ⟨e1,e2⟩=>⟨val,e1,fi,V,h,fi.le_refl,hr.later e2,hV fi,rfl,rfl⟩⟩
theorem qmw{fi:PMap}{s t:List UInt8}{vs:List Value}(h:VRs fi [.str s, .str t] vs):vs=[.string ⟨⟨s⟩⟩, .string ⟨⟨t⟩⟩]:=by
 simp only[VRs,VR]at h;obtain⟨v,vs',rfl,rfl,v2,vs2,rfl,rfl,rfl⟩:=h;rfl
section
variable {P:Program} {wz:World} {ops rest:List Oper} {s:Slots} {h:AHeap} {K:Slots->AHeap->Prop} {dst:Option Tmp} {ty:TypeId} {pos:String} {af:Array Edge}
def apL(P:Program)(wz:World)(ops rest:List Oper)(s:Slots)(h:AHeap)(K:Slots->AHeap->Prop)(dst:Option Tmp)(r:PR):Prop:=r.pre/\Qp P wz ops rest (putD s dst r.val) h K
def agL(P:Program)(wz:World)(ops rest:List Oper)(s:Slots)(h:AHeap)(K:Slots->AHeap->Prop)(dst:Option Tmp)(g:AVal)(want:Bool)(r:PR):Prop:=agP P wz ops rest s h K dst g want r
def agQL(P:Program)(wz:World)(ops rest:List Oper)(s:Slots)(h:AHeap)(K:Slots->AHeap->Prop)(dst:Option Tmp)(want:Bool)(r:PR):Option Tmp->Prop
 |none=>Qp P wz ops rest (putD s dst (.tuple [])) h K
 |some d=>agL P wz ops rest s h K dst (s.get d) want r
theorem qgt{want:Bool}{r:PR}{d:Tmp}:agQL P wz ops rest s h K dst want r (some d)=agL P wz ops rest s h K dst (s.get d) want r:=rfl
theorem qj(t:TypeId)(x:Operand):Qp P wz ops (⟨dst, .load t x,ty,pos,af,none⟩::rest) s h K=apL P wz ops rest s h K dst (Yr P wz h t (ev s x)):=by rw[ap_load];rfl
theorem XP(t:TypeId)(x:Operand){j:Nat}{want:Bool}:Qp P wz ops (⟨dst, .load t x,ty,pos,af,some (j,want)⟩::rest) s h K=agQL P wz ops rest s h K dst want (Yr P wz h t (ev s x)) (nthDst ops j):=by
 rw[ag_load];cases nthDst ops j<;>rfl
theorem Xa(p:Prop)(v:AVal):apL P wz ops rest s h K dst ⟨p,v⟩=(p/\Qp P wz ops rest (putD s dst v) h K):=rfl
theorem qpr(g:AVal)(want:Bool)(p:Prop)(v:AVal):agL P wz ops rest s h K dst g want ⟨p,v⟩=agP P wz ops rest s h K dst g want ⟨p,v⟩:=rfl
theorem qdv(b:Bool)(t:TypeId)(x:AVal):agL P wz ops rest s h K dst (.bool (!b)) false (Yr P wz h t (Qf b x))=agL P wz ops rest s h K dst (.bool (!b)) false (Yr P wz h t x):=by
 cases b<;>first|rfl|simp[agL,agP,QG,Qf]
theorem qdu(c b:Bool)(t:TypeId)(x:AVal):agL P wz ops rest s h K dst (Qf c (.bool (!b))) false (Yr P wz h t (Qf (c && b) x))=agL P wz ops rest s h K dst (Qf c (.bool (!b))) false (Yr P wz h t x):=by
 cases c<;>cases b<;>first|rfl|simp[agL,agP,QG,Qf]
theorem agL_il5(b:Bool)(t:TypeId)(x y:AVal):agL P wz ops rest s h K dst (.bool (!b)) false (Xe P t (Qf b x) y)=agL P wz ops rest s h K dst (.bool (!b)) false (Xe P t x y):=by
 cases b<;>first|rfl|simp[agL,agP,QG,Qf]
theorem agL_ir5(b:Bool)(t:TypeId)(x y:AVal):agL P wz ops rest s h K dst (.bool (!b)) false (Xe P t x (Qf b y))=agL P wz ops rest s h K dst (.bool (!b)) false (Xe P t x y):=by
 cases b<;>first|rfl|simp[agL,agP,QG,Qf]
theorem qdA(b:Bool)(t:TypeId)(x:AVal):agL P wz ops rest s h K dst (.bool b) true (Yr P wz h t (Qf b x))=agL P wz ops rest s h K dst (.bool b) true (Yr P wz h t x):=by
 cases b<;>first|rfl|simp[agL,agP,QG,Qf]
theorem qdz(b:Bool)(t:TypeId)(x:AVal):agL P wz ops rest s h K dst (.bool b) false (Yr P wz h t (Qf (!b) x))=agL P wz ops rest s h K dst (.bool b) false (Yr P wz h t x):=by
 cases b<;>first|rfl|simp[agL,agP,QG,Qf]
theorem qdy(c b:Bool)(t:TypeId)(x:AVal):agL P wz ops rest s h K dst (Qf c (.bool b)) true (Yr P wz h t (Qf (c && b) x))=agL P wz ops rest s h K dst (Qf c (.bool b)) true (Yr P wz h t x):=by
 cases c<;>cases b<;>first|rfl|simp[agL,agP,QG,Qf]
theorem qdw(c b:Bool)(t:TypeId)(x:AVal):agL P wz ops rest s h K dst (Qf c (.bool b)) false (Yr P wz h t (Qf (c && !b) x))=agL P wz ops rest s h K dst (Qf c (.bool b)) false (Yr P wz h t x):=by
 cases c<;>cases b<;>first|rfl|simp[agL,agP,QG,Qf]
theorem qpu(b:Bool)(t:TypeId)(x y:AVal):agL P wz ops rest s h K dst (.bool b) true (Xe P t (Qf b x) y)=agL P wz ops rest s h K dst (.bool b) true (Xe P t x y):=by
 cases b<;>first|rfl|simp[agL,agP,QG,Qf]
theorem agL_il3(c b:Bool)(t:TypeId)(x y:AVal):agL P wz ops rest s h K dst (Qf c (.bool b)) true (Xe P t (Qf (c && b) x) y)=agL P wz ops rest s h K dst (Qf c (.bool b)) true (Xe P t x y):=by
 cases c<;>cases b<;>first|rfl|simp[agL,agP,QG,Qf]
theorem qpt(b:Bool)(t:TypeId)(x y:AVal):agL P wz ops rest s h K dst (.bool b) true (Xe P t x (Qf b y))=agL P wz ops rest s h K dst (.bool b) true (Xe P t x y):=by
 cases b<;>first|rfl|simp[agL,agP,QG,Qf]
theorem agL_ir3(c b:Bool)(t:TypeId)(x y:AVal):agL P wz ops rest s h K dst (Qf c (.bool b)) true (Xe P t x (Qf (c && b) y))=agL P wz ops rest s h K dst (Qf c (.bool b)) true (Xe P t x y):=by
 cases c<;>cases b<;>first|rfl|simp[agL,agP,QG,Qf]
theorem qI(t:TypeId)(x i:Operand):Qp P wz ops (⟨dst, .indexAddr t x i,ty,pos,af,none⟩::rest) s h K=apL P wz ops rest s h K dst (Xe P t (ev s x) (ev s i)):=by rw[qpo];rfl
theorem Zv(t:TypeId)(x i:Operand){j:Nat}{want:Bool}:Qp P wz ops (⟨dst, .indexAddr t x i,ty,pos,af,some (j,want)⟩::rest) s h K=agQL P wz ops rest s h K dst want (Xe P t (ev s x) (ev s i)) (nthDst ops j):=by
 rw[qpp];cases nthDst ops j<;>rfl
section
variable {v:AVal} {bs:List UInt8} (hb:IsB wz h v bs)
include hb
end
end
section
variable {P:Program} {wz:World} {ops rest:List Oper} {s:Slots} {h:AHeap} {K:Slots->AHeap->Prop} {dst:Option Tmp} {ty:TypeId} {pos:String} {af:Array Edge}
end
end Go.AM
namespace Go.AM
open Go.RowKit (Below)
theorem wf_u8{n:Int}(h:(Lit.int .u8 n).wf=true):0<=n/\n<=255:=by
 have e1:IntKind.u8.min=0:=by decide
 have e2:IntKind.u8.max=255:=by decide
 simpa[Lit.wf,e1,e2]using h
theorem qgn{w:World}{b o:Nat}{v:Value}(h:w.cell? ⟨b,o,none⟩=some v):b<w.heap.size:=by
 simp only[World.cell?]at h;cases hb:w.heap[b]? with
 |none=>simp[hb]at h
 |some x=>exact(Array.getElem?_eq_some_iff.1 hb).1
def qtr(op:Op):List Nat:=op.operands.toList.filterMap fun| .tmp t=>some t|_=>none
def Qy(ops:List Oper)(o:Oper):List Nat:=
 qtr o.op++match o.guard with
  |some (j,_)=>(nthDst ops j).toList
  |none=>[]
def Yl(P:Program)(wz:World)(ops:List Oper):List Oper->Slots->AHeap->(Slots->AHeap->Prop)->Prop
 |[],s,h,K=>K s h
 |o::rest,s,h,K=>
  match o.guard with
  |none=>∃V,eop P wz h (s.keep (Qy ops o)) o.op (fun x h'=>x=V/\h'=h)/\Yl P wz ops rest (putD s o.dst V) h K
  |some (j,want)=>match nthDst ops j with
   |none=>Yl P wz ops rest (putD s o.dst (.tuple [])) h K
   |some d=>Wv (s.get d)=true/\∃V,(QG (s.get d) want=true->eop P wz h (s.keep (Qy ops o)) o.op (fun x h'=>x=V/\h'=h))/\Yl P wz ops rest (putD s o.dst (Qf (QG (s.get d) want) V)) h K
theorem qdK{P:Program}{wz:World}{ops:List Oper}{h:AHeap}{K K':Slots->AHeap->Prop}:∀{l:List Oper} {s:Slots},Yl P wz ops l s h K->(∀s h,K s h->K' s h)->Yl P wz ops l s h K'
 |[],s,hv,hk=>hk _ _ hv
 |o::rest,s,hv,hk=>by
  simp only[Yl]at hv|-
  split
  ·rename_i hg
   rw[hg]at hv;obtain⟨V,h1,h2⟩:=hv;exact⟨V,h1,qdK h2 hk⟩
  ·rename_i j want hg
   rw[hg]at hv;simp only at hv;split
   ·rename_i hj
    rw[hj]at hv;exact qdK hv hk
   ·rename_i d hj
    rw[hj]at hv;obtain⟨h1,V,h2,h3⟩:=hv;exact⟨h1,V,h2,qdK h3 hk⟩
section
variable {P:Program} {wz:World} {n:FrameK} {h:AHeap}
def StepOk(P:Program)(wz:World)(n:FrameK)(h:AHeap)(ops:List Oper)(o:Oper)(S:Slots)(V:AVal):Prop:=
 ∀(Ps:PMap) (w:World) (a:Act) (next:Act->World->Prop) (Q:Exit->Act->World->Prop),HRel wz Ps h w->SRel Ps n (S.keep (Qy ops o)) a->
  (∀ψ' v w',Ps.le ψ'->HRel wz ψ' h w'->VR ψ' V v->next (a.put o.dst v) w')->
  if Region.wanted o (yielded ops.toArray a.tmps)=true then o.wp P a w next Q else next (a.put o.dst undef) w
theorem qdE{n:Nat}:∀(l:List Oper) (j d:Nat),Qv n l=true->nthDst l j=some d->d<n:=by
 intro l;induction l with
 |nil=>intro j d _ h;simp[nthDst]at h
 |cons o r ih=>
  intro j d h1 h2;simp only[Qv,Ky]at h1;cases j with
  |zero=>simp only[nthDst]at h2;rw[h2]at h1;simpa using h1.1
  |succ j=>exact ih j d h1.2 h2
theorem StepOk.plain{ops:List Oper}{o:Oper}{S:Slots}{V:AVal}(hg:o.guard=none)(he:eop P wz h (S.keep (Qy ops o)) o.op (fun x h'=>x=V/\h'=h)):StepOk P wz n h ops o S V:=by
 intro Ps w a next Q hr hs hn;have hw:Region.wanted o (yielded ops.toArray a.tmps)=true:=by simp[Region.wanted,hg]
 rw[if_pos hw];exact qhm o he hr hs fun ψ' x h' v w' h1 h2 h3 ⟨e1,e2⟩=>by subst e1 e2;exact hn ψ' v w' h1 h2 h3
theorem StepOk.guarded{ops:List Oper}(hall:Qv n ops=true){o:Oper}{S:Slots}{V:AVal}{j d:Nat}{want:Bool}(hg:o.guard=some (j,want))(hj:nthDst ops j=some d)(hk:Wv (S.get d)=true)
 (he:QG (S.get d) want=true->eop P wz h (S.keep (Qy ops o)) o.op (fun x h'=>x=V/\h'=h)):StepOk P wz n h ops o S (Qf (QG (S.get d) want) V):=by
 intro Ps w a next Q hr hs hn;have hd:(S.keep (Qy ops o)).get d=S.get d:=by
  rw[Slots.get_keep,if_pos];simp[Qy,hg,hj]
 have hw:Region.wanted o (yielded ops.toArray a.tmps)=QG (S.get d) want:=by
  have:=qdU hs ops j d hj (qdE ops j d hall hj) (by rw[hd];exact hk) want;rw[hd]at this;simp only[Region.wanted,hg];exact this
 cases hb:QG (S.get d) want with
 |true=>
  rw[hw,hb,if_pos rfl];rw[hb]at hn;exact qhm o (he hb) hr hs fun ψ' x h' v w' h1 h2 h3 ⟨e1,e2⟩=>by subst e1 e2;exact hn ψ' v w' h1 h2 h3
 |false=>
  rw[hw,hb,if_neg (by decide)];rw[hb]at hn;exact hn Ps undef w Ps.le_refl hr (Wl Ps)
theorem StepOk.never{ops:List Oper}{o:Oper}{S:Slots}{j:Nat}{want:Bool}(hg:o.guard=some (j,want))(hj:nthDst ops j=none):StepOk P wz n h ops o S (.tuple []):=by
 intro Ps w a next Q hr hs hn;have hd:(ops.toArray[j]?).bind (·.dst)=none:=by rw[<-hj,Yf];simp
 have hw:Region.wanted o (yielded ops.toArray a.tmps)=false:=by
  simp only[Region.wanted,hg,yielded,hd];rfl
 rw[if_neg (by rw[hw];decide)];exact hn Ps undef w Ps.le_refl hr (Wl Ps)
def QA(s:Slots)(l:List Oper)(Vs:List AVal):Nat->Slots
 |0=>s
 |i+1=>match l[i]? with
  |some o=>putD (QA s l Vs i) o.dst (Vs.getD i .dead)
  |none=>QA s l Vs i
theorem Uh(s:Slots)(l:List Oper)(A B:List AVal):∀i,i<=A.length->QA s l (A++B) i=QA s l A i
 |0,_=>rfl
 |i+1,hi=>by
  simp only[QA,Uh s l A B i (by omega)];have:(A++B).getD i .dead=A.getD i .dead:=by simp[Ko,Jc,show i<A.length by omega]
  rw[this]
theorem qkW{l:List Oper}(hall:Qv n l=true){s:Slots}{K:Slots->AHeap->Prop}:∀(rest pre:List Oper) (A:List AVal),l=pre++rest->A.length=pre.length->Yl P wz l rest (QA s l A pre.length) h K->
 ∃B:List AVal,B.length=rest.length/\(∀i o,pre.length<=i->l[i]?=some o->StepOk P wz n h l o (QA s l (A++B) i) ((A++B).getD i .dead))/\K (QA s l (A++B) l.length) h
 |[],pre,A,hl,hA,hv=>⟨[],rfl,fun i o hi ho=>by
   rw[hl]at ho;simp at ho;have:=(Jz.1 ho).1;omega,by
   have e:l.length=pre.length:=by rw[hl];simp
   rw[List.append_nil,e];exact hv⟩
 |o::rest,pre,A,hl,hA,hv=>by
  have hat:l[pre.length]?=some o:=by rw[hl];simp
  have go:∀V,StepOk P wz n h l o (QA s l A pre.length) V->Yl P wz l rest (putD (QA s l A pre.length) o.dst V) h K->
   ∃B:List AVal,B.length=(o::rest).length/\(∀i o,pre.length<=i->l[i]?=some o->StepOk P wz n h l o (QA s l (A++B) i) ((A++B).getD i .dead))/\K (QA s l (A++B) l.length) h:=by
   intro V hst hv';have e:QA s l (A++[V]) (pre++[o]).length=putD (QA s l A pre.length) o.dst V:=by
    rw[Jd,List.length_singleton,QA,hat];simp only;rw[Uh s l A [V] _ (by omega)];congr 1;simp[Ko,<-hA]
   obtain⟨B,h1,h2,h3⟩:=qkW hall rest (pre++[o]) (A++[V]) (by simp[hl]) (by simp[hA]) (by rw[e];exact hv');refine⟨V::B,by simp[h1],fun i o' hi ho'=>?_,by simpa using h3⟩;rcases JA hi with e'|e'
   ·subst e'
    rw[hat]at ho';obtain rfl:=Option.some.inj ho';rw[Uh s l A (V::B) _ (by omega)];have:(A++V::B).getD pre.length .dead=V:=by simp[Ko,<-hA]
    rw[this];exact hst
   ·have:=h2 i o' (by simp;omega) ho'
    simpa using this
  simp only[Yl]at hv;cases hg:o.guard with
  |none=>
   simp only[hg]at hv;obtain⟨V,h1,h2⟩:=hv;exact go V (.plain hg h1) h2
  |some gw=>
   obtain⟨j,want⟩:=gw;simp only[hg]at hv;cases hj:nthDst l j with
   |none=>
    simp only[hj]at hv;exact go _ (.never hg hj) hv
   |some d=>
    simp only[hj]at hv;obtain⟨hk,V,h1,h2⟩:=hv;exact go _ (.guarded hall hg hj hk h1) h2
def qaE(l:List Oper):Bool:=
 (KP l.length).all fun i=>match l[i]? with
  |none=>true
  |some oi=>(oi.after.all fun e=> !Region.binds .any e||decide (e.on<i)) &&
   (KP l.length).all fun j=>match l[j]? with
    |none=>true
    |some oj=>(match oj.dst with
      |none=>true
      |some t=>(decide (i=j)||decide (oi.dst≠some t)) &&
        (!(Qy l oi).contains t||(decide (j<i) && Region.waitsFor .any l.toArray i j)||(decide (i<j) && Region.waitsFor .any l.toArray j i)))
theorem XR{l:List Oper}(hB:qaE l=true){i:Nat}{oi:Oper}(hi:l[i]?=some oi):
 (∀e∈oi.after,Region.binds .any e=true->e.on<i)/\∀j oj t,l[j]?=some oj->oj.dst=some t->(oi.dst=some t->i=j)/\
  (t∈Qy l oi->(j<i/\Region.waitsFor .any l.toArray i j=true)\/(i<j/\Region.waitsFor .any l.toArray j i=true)):=by
 unfold qaE at hB;rw[JB]at hB;have h1:=hB i (by rw[JC];exact(Jz.1 hi).1);simp only[hi,Ky]at h1;obtain⟨ha,hb⟩:=h1;refine⟨fun e he hbd=>?_,fun j oj t hj hd=>?_⟩
 ·rw[Array.all_eq_true']at ha
  have:=ha e he;simpa[hbd]using this
 ·rw[JB]at hb
  have h2:=hb j (by rw[JC];exact(Jz.1 hj).1);simp only[hj,hd,Ky,Bool.or_eq_true,decide_eq_true_eq,Jj,List.contains_eq_mem]at h2;refine⟨fun he=>?_,fun ht=>?_⟩
  ·rcases h2.1 with e|e
   ·exact e
   ·exact absurd he e
  ·rcases h2.2 with(e|e)|e
   ·exact absurd ht (by simpa using e)
   ·exact .inl e
   ·exact .inr e
theorem YD(s:Slots)(d:Option Tmp)(x:AVal)(t:Nat):(putD s d x).get t=if d=some t then x else s.get t:=by
 cases d with
 |none=>simp[putD]
 |some d=>
  simp only[putD,Slots.get_put,Option.some.injEq];by_cases e:t=d
  ·subst e;simp
  ·rw[if_neg e,if_neg (fun e'=>e e'.symm)]
theorem UK{l:List Oper}(hB:qaE l=true)(s:Slots)(Vs:List AVal){j:Nat}{oj:Oper}{t:Nat}(hj:l[j]?=some oj)(hd:oj.dst=some t):∀i,j<i->i<=l.length->(QA s l Vs i).get t=Vs.getD j .dead
 |0,h,_=>by omega
 |i+1,h,hi=>by
  obtain⟨o,ho⟩:∃o,l[i]?=some o:=⟨_,JD (show i<l.length by omega)⟩
  simp only[QA,ho,YD];by_cases e:o.dst=some t
  ·have:i=j:=(((XR hB ho).2 j oj t hj hd).1 e)
   subst this;rw[if_pos e]
  ·rw[if_neg e]
   refine UK hB s Vs hj hd i ?_ (by omega);rcases JA (Nat.le_of_lt_succ h)with e'|e'
   ·subst e'
    rw[hj]at ho;obtain rfl:=Option.some.inj ho;exact absurd hd e
   ·exact e'
theorem Ym{l:List Oper}(s:Slots)(Vs:List AVal){t:Nat}:∀i,(∀j oj,j<i->l[j]?=some oj->oj.dst≠some t)->(QA s l Vs i).get t=s.get t
 |0,_=>rfl
 |i+1,h=>by
  have ih:=Ym s Vs (t:=t) i fun j oj hj=>h j oj (by omega);simp only[QA];split
  ·rename_i o ho
   rw[YD,if_neg (h i o (by omega) ho),ih]
  ·exact ih
structure AnyInv(l:List Oper)(Vs:List AVal)(s:Slots)(Ps:PMap)(n:FrameK)(listed:Array Bool)(a:Act):Prop where
 size:listed.size=l.length
 closed:∀j oj,l[j]?=some oj->listed.getD j false=true->∀e∈oj.after,Region.binds .any e=true->listed.getD e.on false=true
 tsize:a.tmps.size=n
 defers:a.defers=n.dfr
 done:∀t j oj,l[j]?=some oj->oj.dst=some t->listed.getD j false=true->VR Ps (Vs.getD j .dead) (a.tmps.getD t undef)
 still:∀t,(∀j oj,l[j]?=some oj->oj.dst=some t->listed.getD j false=false)->VR Ps (s.get t) (a.tmps.getD t undef)
theorem set_self{listed:Array Bool}{i:Nat}(hi:i<listed.size):(listed.setIfInBounds i true).getD i false=true:=by
 simp[JE,hi]
theorem Xu{listed:Array Bool}{i j:Nat}(h:j≠i):(listed.setIfInBounds i true).getD j false=listed.getD j false:=by
 rw[Ku,Ku,Kv (Ne.symm h)]
theorem qeP{l:List Oper}(hB:qaE l=true){listed:Array Bool}(hs:listed.size=l.length)(hr:Region.ready .any l.toArray listed=[]):∀i,i<l.length->listed.getD i false=true:=by
 intro i;induction i using Jv with
 |ind i ih=>
  intro hi;cases hl:listed.getD i false with
  |true=>rfl
  |false=>
   exfalso;obtain⟨o,ho⟩:∃o,l[i]?=some o:=⟨_,JD hi⟩
   have:i∈Region.ready .any l.toArray listed:=by
    rw[mem_ready];refine⟨?_,o,by simpa using ho,fun e he hb=>?_⟩
    ·have hi':i<listed.size:=by omega
     simp[JE,hi']at hl|-;exact hl
    ·have hlt:=(XR hB ho).1 e he hb
     exact ih e.on hlt (by omega)
   rw[hr]at this;cases this
theorem qcE:∀(l:List Bool) (i:Nat),l[i]?=some false->((l.set i true).filter (!·)).length+1=(l.filter (!·)).length
 |[],_,h=>by simp at h
 |b::l,0,h=>by
  simp only[Kz,Option.some.injEq]at h;subst h;simp
 |b::l,i+1,h=>by
  simp only[KM]at h;have:=qcE l i h;cases b<;>simp[Kj]<;>omega
theorem any_ok{l:List Oper}(hall:Qv n l=true)(hB:qaE l=true){s:Slots}{Vs:List AVal}(hst:∀i o,l[i]?=some o->StepOk P wz n h l o (QA s l Vs i) (Vs.getD i .dead)){fi:PMap}{Q:Exit->Act->World->Prop}
 (hq:∀Ps a w,fi.le Ps->HRel wz Ps h w->SRel Ps n (QA s l Vs l.length) a->Q .normal a w):∀(fuel:Nat) (listed:Array Bool) (a:Act) (w:World) (Ps:PMap),fi.le Ps->HRel wz Ps h w->AnyInv l Vs s Ps n listed a->
 (listed.toList.filter (!·)).length<=fuel->wpAny P .any l.toArray Q fuel listed a w:=by
 have fin:∀(listed:Array Bool) (a:Act) (w:World) (Ps:PMap),fi.le Ps->HRel wz Ps h w->AnyInv l Vs s Ps n listed a->Region.ready .any l.toArray listed=[]->Q .normal a w:=by
  intro listed a w Ps hle hr inv hrd;refine hq Ps a w hle hr ⟨inv.tsize,inv.defers,fun t=>?_⟩;by_cases hw:∃(j:Nat) (oj:Oper),l[j]?=some oj/\oj.dst=some t
  ·obtain⟨j,oj,hj,hd⟩:=hw
   have hlt:=(Jz.1 hj).1;rw[UK hB s Vs hj hd l.length hlt (KL _)];exact inv.done t j oj hj hd (qeP hB inv.size hrd j hlt)
  ·rw[Ym s Vs l.length fun j oj _ hj hd=>hw ⟨j,oj,hj,hd⟩]
   exact inv.still t fun j oj hj hd=>absurd ⟨j,oj,hj,hd⟩ hw
 intro fuel;induction fuel with
 |zero=>
  intro listed a w Ps hle hr inv hc;have hrd:Region.ready .any l.toArray listed=[]:=by
   cases hrd:Region.ready .any l.toArray listed with
   |nil=>rfl
   |cons i r=>
    exfalso;have hm:i∈Region.ready .any l.toArray listed:=by rw[hrd];exact Jg
    obtain⟨h1,o,ho,_⟩:=mem_ready.1 hm;have hi:i<listed.size:=by
     have:l[i]?=some o:=by simpa using ho
     rw[inv.size];exact(Jz.1 this).1
    have h2:listed.toList[i]?=some false:=by
     simp[JE,hi]at h1;simp[hi,h1]
    have:=List.mem_of_getElem? h2;have hmem:false∈listed.toList.filter (!·):=by simp[List.mem_filter,this]
    have:=List.length_pos_of_mem hmem;omega
  exact⟨hrd,fin listed a w Ps hle hr inv hrd⟩
 |succ fuel ih=>
  intro listed a w Ps hle hr inv hc;refine⟨fun hrd=>fin listed a w Ps hle hr inv hrd,fun i hi=>?_⟩;obtain⟨h1,o,ho,hedges⟩:=mem_ready.1 hi;have hol:l[i]?=some o:=by simpa using ho
  have hilt:i<l.length:=(Jz.1 hol).1;have hisz:i<listed.size:=by rw[inv.size];exact hilt
  have hif:listed.getD i false=false:=by simp[JE,hisz]at h1|-;exact h1
  have spec:=XR hB hol;have hs:SRel Ps n ((QA s l Vs i).keep (Qy l o)) a:=by
   refine⟨inv.tsize,inv.defers,fun t=>?_⟩;rw[Slots.get_keep];by_cases ht:(Qy l o).contains t=true
   ·rw[if_pos ht]
    have ht':t∈Qy l o:=by simpa using ht
    by_cases hw:∃(j:Nat) (oj:Oper),l[j]?=some oj/\oj.dst=some t
    ·obtain⟨j,oj,hj,hd⟩:=hw
     rcases(spec.2 j oj t hj hd).2 ht' with⟨c1,c2⟩|⟨c1,c2⟩
     ·rw[UK hB s Vs hj hd i c1 (by omega)]
      refine inv.done t j oj hj hd ?_;obtain⟨oi,g1,e,g2,g3,g4⟩:=Region.waitsFor_spec c2;rw[ho]at g1;obtain rfl:=Option.some.inj g1;rw[<-g4];exact hedges e g2 g3
     ·rw[Ym s Vs i fun j' oj' hj'' hj' hd'=>by
       have:=((XR hB hj').2 j oj t hj hd).1 hd';omega]
      refine inv.still t fun j' oj' hj' hd'=>?_;have e:=((XR hB hj').2 j oj t hj hd).1 hd';subst e;cases hl:listed.getD j' false with
      |false=>rfl
      |true=>
       exfalso;obtain⟨oi,g1,e,g2,g3,g4⟩:=Region.waitsFor_spec c2;have g1':l[j']?=some oi:=by simpa using g1
       have:=inv.closed j' oi g1' hl e g2 g3;rw[g4,hif]at this;cases this
    ·rw[Ym s Vs i fun j oj _ hj hd=>hw ⟨j,oj,hj,hd⟩]
     exact inv.still t fun j oj hj hd=>absurd ⟨j,oj,hj,hd⟩ hw
   ·rw[if_neg ht]
    trivial
  have step:=hst i o hol Ps w a (wpAny P .any l.toArray Q fuel (listed.setIfInBounds i true)) Q hr hs fun ψ' v w' hle' hr' hv=>by
   have hdn:∀d,o.dst=some d->d<n:=fun d hd=>qdE l i d hall (by rw[Yf,hol];exact hd);refine ih _ _ _ ψ' (PMap.le_trans hle hle') hr' ?_ ?_
   ·refine⟨by simp[inv.size],fun j oj hj hl e he hb=>?_,?_,?_,fun t j oj hj hd hl=>?_,fun t hun=>?_⟩
    ·by_cases e1:e.on=i
     ·rw[e1];exact set_self hisz
     ·rw[Xu e1]
      by_cases e2:j=i
      ·subst e2
       rw[hol]at hj;obtain rfl:=Option.some.inj hj;exact hedges e he hb
      ·rw[Xu e2]at hl
       exact inv.closed j oj hj hl e he hb
    ·cases hod:o.dst with
     |none=>simpa[Act.put]using inv.tsize
     |some d=>simpa[Act.put]using inv.tsize
    ·cases hod:o.dst with
     |none=>simpa[Act.put]using inv.defers
     |some d=>simpa[Act.put]using inv.defers
    ·by_cases e:j=i
     ·subst e
      rw[hol]at hj;obtain rfl:=Option.some.inj hj;have hlt:t<a.tmps.size:=by rw[inv.tsize];exact hdn t hd
      have:(a.put o.dst v).tmps.getD t undef=v:=by rw[hd];simp[Act.put,hlt]
      rw[this];exact hv
     ·rw[Xu e]at hl
      have hne:o.dst≠some t:=fun hod=>e (((spec.2 j oj t hj hd).1 hod).symm);have:(a.put o.dst v).tmps.getD t undef=a.tmps.getD t undef:=by
       cases hod:o.dst with
       |none=>rfl
       |some d=>
        have hdt:d≠t:=fun e=>hne (by rw[hod,e]);simp[Act.put,Ku,Kv hdt]
      rw[this];exact WG hle' _ _ (inv.done t j oj hj hd hl)
    ·have hne:o.dst≠some t:=fun hod=>by
      have:=hun i o hol hod;rw[set_self hisz]at this;cases this
     have:(a.put o.dst v).tmps.getD t undef=a.tmps.getD t undef:=by
      cases hod:o.dst with
      |none=>rfl
      |some d=>
       have hdt:d≠t:=fun e=>hne (by rw[hod,e]);simp[Act.put,Ku,Kv hdt]
     rw[this];refine WG hle' _ _ (inv.still t fun j oj hj hd=>?_);have e:j≠i:=fun e=>by subst e;rw[hol]at hj;obtain rfl:=Option.some.inj hj;exact hne hd
     have:=hun j oj hj hd
     rwa [Xu e]at this
   ·have h2:listed.toList[i]?=some false:=by
     simp[JE,hisz]at h1;simp[hisz,h1]
    have:=qcE listed.toList i h2;have e:(listed.setIfInBounds i true).toList=listed.toList.set i true:=by simp
    rw[e];omega
  simp only[wpOp,ho];split
  ·rename_i hw
   rw[if_pos hw]at step;exact .inl step
  ·rename_i hw
   rw[if_neg hw]at step;exact step
theorem qpl{Q:Exit->Slots->AHeap->Prop}{s:Slots}{id:Nat}{l:List Oper}(hm:P.follows .mixedOrders=true)(hB:qaE l=true)(hd:Qv n l=true)(hc:Yl P wz l l s h (fun s' h'=>Q .normal s' h')):
 Awp P wz n (.region id l.toArray true) Q s h:=by
 refine Awp.of0 ?_;intro fi a w hr hs;obtain⟨Vs,h1,h2,h3⟩:=qkW (P:=P) (wz:=wz) (n:=n) (h:=h) hd (s:=s) l [] [] rfl rfl hc;simp only[Jf,List.length_nil,Js,true_implies]at h1 h2 h3;refine wp_region_any hm ?_;refine any_ok (fi:=fi) hd hB (s:=s) (Vs:=Vs) (fun i o ho=>h2 i o ho) (fun Ps a' w' hle hr' hs'=>⟨Ps,_,h,hle,hr',hs',h3⟩) _ _ _ _ fi fi.le_refl hr.drew ?_ ?_
 ·have hf:∀j,(Jw l.toArray.size false).getD j false=false:=fun j=>by
   simp[JE]
  refine⟨by simp,fun j oj _ hl=>(by rw[hf]at hl;cases hl),hs.size,hs.defers,fun t j oj _ _ hl=>(by rw[hf]at hl;cases hl),fun t _=>hs.val t⟩
 ·have:=List.length_filter_le (!·) (Jw l.toArray.size false).toList
  simpa using this
theorem qiE{Q:Exit->Slots->AHeap->Prop}{s:Slots}{id:Nat}{l:List Oper}{y:Code}(L:List Nat)(hm:P.follows .mixedOrders=true)(hB:qaE l=true)(hd:Qv n l=true)
 (hc:∀K:Slots->AHeap->Prop,(∀s h,Awp P wz n y Q s h->K s h)->Yl P wz l l s h (fun s' h'=>K (s'.keep L) h')):Awp P wz n (.seq (.region id l.toArray true) y) Q s h:=
 qo (qpl hm hB hd (hc (fun s h=>Awp P wz n y Q (s) h) (fun _ _ hk=>hk) |> fun hv=>qdK hv fun _ _ hk=>Awp.keep L hk))
end
end Go.AM
namespace Go.AM
theorem ZR{s:Slots}{L:List Nat}{x:Operand}(h:∀t,x= .tmp t->t∈L):ev (s.keep L) x=ev s x:=by
 cases x with
 |tmp t=>
  simp only[ev,Slots.get_keep];rw[if_pos (by simpa using h t rfl)]
 |_=>rfl
theorem XV{ops:List Oper}{o:Oper}{x:Operand}(h:x∈o.op.operands.toList):∀t,x= .tmp t->t∈Qy ops o:=by
 rintro t rfl;unfold Qy qtr;rw[List.mem_append];exact .inl (List.mem_filterMap.2 ⟨_,h,rfl⟩)
theorem qiu{s:Slots}{L:List Nat}:∀{xs:List Operand},(∀x∈xs,∀t,x= .tmp t->t∈L)->evs (s.keep L) xs=evs s xs
 |[],_=>rfl
 |x::xs,h=>by
  have:=qiu (s:=s) (L:=L) (xs:=xs) fun y hy=>h y (Jh _ hy);simp only[evs,Ke]at this|-
  rw[ZR (h x Jg),this]
section
variable {P:Program} {wz:World} {ops rest:List Oper} {s:Slots} {h:AHeap} {K:Slots->AHeap->Prop} {dst:Option Tmp} {ty:TypeId} {pos:String} {af:Array Edge}
theorem qaS:Yl P wz ops [] s h K=K s h:=rfl
theorem qjL{op:Op}(hp:Zc P op=true)(hk:pop P wz h (s.keep (Qy ops ⟨dst,op,ty,pos,af,none⟩)) op=pop P wz h s op):
 Yl P wz ops (⟨dst,op,ty,pos,af,none⟩::rest) s h K=((pop P wz h s op).pre/\Yl P wz ops rest (putD s dst (pop P wz h s op).val) h K):=by
 simp only[Yl];refine propext ⟨fun⟨V,h1,h2⟩=>?_,fun⟨h1,h2⟩=>⟨_,(qau hp).2 ⟨by rw[hk];exact h1,by rw[hk],rfl⟩,h2⟩⟩;obtain⟨g1,g2,_⟩:=(qau hp).1 h1;rw[hk]at g1 g2;subst g2;exact⟨g1,h2⟩
def vgP(P:Program)(wz:World)(ops rest:List Oper)(s:Slots)(h:AHeap)(K:Slots->AHeap->Prop)(dst:Option Tmp)(g:AVal)(want:Bool)(r:PR):Prop:=
 Wv g=true/\(QG g want=true->r.pre)/\Yl P wz ops rest (putD s dst (Qf (QG g want) r.val)) h K
def vgQ(P:Program)(wz:World)(ops rest:List Oper)(s:Slots)(h:AHeap)(K:Slots->AHeap->Prop)(dst:Option Tmp)(want:Bool)(r:PR):Option Tmp->Prop
 |none=>Yl P wz ops rest (putD s dst (.tuple [])) h K
 |some d=>vgP P wz ops rest s h K dst (s.get d) want r
theorem qkU{want:Bool}{r:PR}{d:Tmp}:vgQ P wz ops rest s h K dst want r (some d)=vgP P wz ops rest s h K dst (s.get d) want r:=rfl
theorem qmZ{op:Op}{j:Nat}{want:Bool}(hp:Zc P op=true)(hk:pop P wz h (s.keep (Qy ops ⟨dst,op,ty,pos,af,some (j,want)⟩)) op=pop P wz h s op):
 Yl P wz ops (⟨dst,op,ty,pos,af,some (j,want)⟩::rest) s h K=vgQ P wz ops rest s h K dst want (pop P wz h s op) (nthDst ops j):=by
 simp only[Yl];cases nthDst ops j with
 |none=>rfl
 |some d=>
  simp only[vgQ,vgP];refine propext ⟨fun⟨h0,V,h1,h2⟩=>?_,fun⟨h0,h1,h2⟩=>⟨h0,_,fun hg=>(qau hp).2 ⟨by rw[hk];exact h1 hg,by rw[hk],rfl⟩,h2⟩⟩;cases hg:QG (s.get d) want with
  |false=>
   rw[hg]at h2;exact⟨h0,fun e=>(by cases e),h2⟩
  |true=>
   obtain⟨g1,g2,_⟩:=(qau hp).1 (h1 hg);rw[hk]at g1 g2;subst g2;rw[hg]at h2;exact⟨h0,fun _=>g1,h2⟩
theorem qof(x:Operand):Yl P wz ops (⟨dst, .move x,ty,pos,af,none⟩::rest) s h K=((pop P wz h s (.move x)).pre/\Yl P wz ops rest (putD s dst (pop P wz h s (.move x)).val) h K):=
 qjL rfl (by
  simp only[pop,ZR (XV (o:=⟨dst, .move x,ty,pos,af,none⟩) (x:=x) (by simp[Op.operands]))])
theorem vg_move(x:Operand){j:Nat}{want:Bool}:Yl P wz ops (⟨dst, .move x,ty,pos,af,some (j,want)⟩::rest) s h K=vgQ P wz ops rest s h K dst want (pop P wz h s (.move x)) (nthDst ops j):=
 qmZ rfl (by
  simp only[pop,ZR (XV (o:=⟨dst, .move x,ty,pos,af,some (j,want)⟩) (x:=x) (by simp[Op.operands]))])
theorem vp_pick(c a b:Operand):Yl P wz ops (⟨dst, .pick c a b,ty,pos,af,none⟩::rest) s h K=((pop P wz h s (.pick c a b)).pre/\Yl P wz ops rest (putD s dst (pop P wz h s (.pick c a b)).val) h K):=
 qjL rfl (by
  simp only[pop,ZR (XV (o:=⟨dst, .pick c a b,ty,pos,af,none⟩) (x:=c) (by simp[Op.operands])),ZR (XV (o:=⟨dst, .pick c a b,ty,pos,af,none⟩) (x:=a) (by simp[Op.operands])),ZR (XV (o:=⟨dst, .pick c a b,ty,pos,af,none⟩) (x:=b) (by simp[Op.operands]))])
theorem qpI(o:BinOp)(t:TypeId)(x y:Operand)(u:TypeId):Yl P wz ops (⟨dst, .binOp o t x y u,ty,pos,af,none⟩::rest) s h K=((pop P wz h s (.binOp o t x y u)).pre/\Yl P wz ops rest (putD s dst (pop P wz h s (.binOp o t x y u)).val) h K):=
 qjL rfl (by
  simp only[pop,ZR (XV (o:=⟨dst, .binOp o t x y u,ty,pos,af,none⟩) (x:=x) (by simp[Op.operands])),ZR (XV (o:=⟨dst, .binOp o t x y u,ty,pos,af,none⟩) (x:=y) (by simp[Op.operands]))])
theorem vg_unOp(o:UnOp)(t:TypeId)(x:Operand){j:Nat}{want:Bool}:Yl P wz ops (⟨dst, .unOp o t x,ty,pos,af,some (j,want)⟩::rest) s h K=vgQ P wz ops rest s h K dst want (pop P wz h s (.unOp o t x)) (nthDst ops j):=
 qmZ rfl (by
  simp only[pop,ZR (XV (o:=⟨dst, .unOp o t x,ty,pos,af,some (j,want)⟩) (x:=x) (by simp[Op.operands]))])
theorem qek(t:TypeId)(x:Operand):Yl P wz ops (⟨dst, .load t x,ty,pos,af,none⟩::rest) s h K=((pop P wz h s (.load t x)).pre/\Yl P wz ops rest (putD s dst (pop P wz h s (.load t x)).val) h K):=
 qjL rfl (by
  simp only[pop,ZR (XV (o:=⟨dst, .load t x,ty,pos,af,none⟩) (x:=x) (by simp[Op.operands]))])
theorem vg_load(t:TypeId)(x:Operand){j:Nat}{want:Bool}:Yl P wz ops (⟨dst, .load t x,ty,pos,af,some (j,want)⟩::rest) s h K=vgQ P wz ops rest s h K dst want (pop P wz h s (.load t x)) (nthDst ops j):=
 qmZ rfl (by
  simp only[pop,ZR (XV (o:=⟨dst, .load t x,ty,pos,af,some (j,want)⟩) (x:=x) (by simp[Op.operands]))])
theorem Yk(t:TypeId)(x:Operand)(f:Nat):Yl P wz ops (⟨dst, .fieldAddr t x f,ty,pos,af,none⟩::rest) s h K=((pop P wz h s (.fieldAddr t x f)).pre/\Yl P wz ops rest (putD s dst (pop P wz h s (.fieldAddr t x f)).val) h K):=
 qjL rfl (by
  simp only[pop,ZR (XV (o:=⟨dst, .fieldAddr t x f,ty,pos,af,none⟩) (x:=x) (by simp[Op.operands]))])
theorem qhB(t:TypeId)(x:Operand)(f:Nat){j:Nat}{want:Bool}:Yl P wz ops (⟨dst, .fieldAddr t x f,ty,pos,af,some (j,want)⟩::rest) s h K=vgQ P wz ops rest s h K dst want (pop P wz h s (.fieldAddr t x f)) (nthDst ops j):=
 qmZ rfl (by
  simp only[pop,ZR (XV (o:=⟨dst, .fieldAddr t x f,ty,pos,af,some (j,want)⟩) (x:=x) (by simp[Op.operands]))])
theorem qhz(t:TypeId)(x i:Operand):Yl P wz ops (⟨dst, .indexAddr t x i,ty,pos,af,none⟩::rest) s h K=((pop P wz h s (.indexAddr t x i)).pre/\Yl P wz ops rest (putD s dst (pop P wz h s (.indexAddr t x i)).val) h K):=
 qjL rfl (by
  simp only[pop,ZR (XV (o:=⟨dst, .indexAddr t x i,ty,pos,af,none⟩) (x:=x) (by simp[Op.operands])),ZR (XV (o:=⟨dst, .indexAddr t x i,ty,pos,af,none⟩) (x:=i) (by simp[Op.operands]))])
theorem qhA(t:TypeId)(x i:Operand){j:Nat}{want:Bool}:Yl P wz ops (⟨dst, .indexAddr t x i,ty,pos,af,some (j,want)⟩::rest) s h K=vgQ P wz ops rest s h K dst want (pop P wz h s (.indexAddr t x i)) (nthDst ops j):=
 qmZ rfl (by
  simp only[pop,ZR (XV (o:=⟨dst, .indexAddr t x i,ty,pos,af,some (j,want)⟩) (x:=x) (by simp[Op.operands])),ZR (XV (o:=⟨dst, .indexAddr t x i,ty,pos,af,some (j,want)⟩) (x:=i) (by simp[Op.operands]))])
theorem qpH(x:Operand):Yl P wz ops (⟨dst, .nilCheck x,ty,pos,af,none⟩::rest) s h K=((pop P wz h s (.nilCheck x)).pre/\Yl P wz ops rest (putD s dst (pop P wz h s (.nilCheck x)).val) h K):=
 qjL rfl (by
  simp only[pop,ZR (XV (o:=⟨dst, .nilCheck x,ty,pos,af,none⟩) (x:=x) (by simp[Op.operands]))])
theorem qpJ(x:Operand){j:Nat}{want:Bool}:Yl P wz ops (⟨dst, .nilCheck x,ty,pos,af,some (j,want)⟩::rest) s h K=vgQ P wz ops rest s h K dst want (pop P wz h s (.nilCheck x)) (nthDst ops j):=
 qmZ rfl (by
  simp only[pop,ZR (XV (o:=⟨dst, .nilCheck x,ty,pos,af,some (j,want)⟩) (x:=x) (by simp[Op.operands]))])
theorem vp_len(a:List Operand)(t:Array TypeId):Yl P wz ops (⟨dst, .call ⟨.builtin .len,a.toArray,t⟩,ty,pos,af,none⟩::rest) s h K=((pop P wz h s (.call ⟨.builtin .len,a.toArray,t⟩)).pre/\Yl P wz ops rest (putD s dst (pop P wz h s (.call ⟨.builtin .len,a.toArray,t⟩)).val) h K):=
 qjL rfl (by
  simp only[pop];rw[qiu fun x hx=>XV (o:=⟨dst, .call ⟨.builtin .len,a.toArray,t⟩,ty,pos,af,none⟩) (by simp[Op.operands,Call.operands,hx])])
theorem qcG{fo:Operand}{args:List Operand}{ts:Array TypeId}{f:FuncId}{cap xs:List AVal}{V:AVal}(hf:ev s fo= .func f cap)(hx:evs s args++cap=xs)(hc:ACall P wz f xs h (fun x h'=>x=V/\h'=h))
 (hk:Yl P wz ops rest (putD s dst V) h K):Yl P wz ops (⟨dst, .call ⟨.value fo,args.toArray,ts⟩,ty,pos,af,none⟩::rest) s h K:=by
 simp only[Yl];refine⟨V,?_,hk⟩;have e1:ev (s.keep (Qy ops ⟨dst, .call ⟨.value fo,args.toArray,ts⟩,ty,pos,af,none⟩)) fo= .func f cap:=by
  rw[ZR (XV (by simp[Op.operands,Call.operands]))];exact hf
 have e2:evs (s.keep (Qy ops ⟨dst, .call ⟨.value fo,args.toArray,ts⟩,ty,pos,af,none⟩)) args=evs s args:=
  qiu fun x hx=>XV (by simp[Op.operands,Call.operands,hx])
 simp only[eop,e1,e2,hx];exact hc
theorem qgW{fo:Operand}{args:List Operand}{ts:Array TypeId}{j:Nat}{want:Bool}{f:FuncId}{cap xs:List AVal}{V:AVal}(hk:Wv (gv s ops j)=true)
 (hf:QG (gv s ops j) want=true->ev s fo= .func f cap/\evs s args++cap=xs) (hc:QG (gv s ops j) want=true->ACall P wz f xs h (fun x h'=>x=V/\h'=h))
 (hr:Yl P wz ops rest (putD s dst (Qf (QG (gv s ops j) want) V)) h K):
 Yl P wz ops (⟨dst, .call ⟨.value fo,args.toArray,ts⟩,ty,pos,af,some (j,want)⟩::rest) s h K:=by
 unfold gv at hk hf hc hr;simp only[Yl];cases hj:nthDst ops j with
 |none=>rw[hj]at hk;cases hk
 |some d=>
  simp only[hj]at hk hf hc hr|-
  refine⟨hk,V,fun hg=>?_,hr⟩;have e1:ev (s.keep (Qy ops ⟨dst, .call ⟨.value fo,args.toArray,ts⟩,ty,pos,af,some (j,want)⟩)) fo= .func f cap:=by
   rw[ZR (XV (by simp[Op.operands,Call.operands]))];exact(hf hg).1
  have e2:evs (s.keep (Qy ops ⟨dst, .call ⟨.value fo,args.toArray,ts⟩,ty,pos,af,some (j,want)⟩)) args=evs s args:=
   qiu fun x hx=>XV (by simp[Op.operands,Call.operands,hx])
  simp only[eop,e1,e2,(hf hg).2];exact hc hg
end
end Go.AM
