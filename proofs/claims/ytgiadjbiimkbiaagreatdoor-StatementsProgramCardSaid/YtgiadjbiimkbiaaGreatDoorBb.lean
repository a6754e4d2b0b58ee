/-
  Texts of this proof, joined: AmR, AmS, AmT, AmU, AmV, AmW, AmX, CoA, TkA, SmA, SmB, SmC, SmD, SmE, SqA, BmA, AmY, AmZ, Ty, Shelf, CoB, BmC, BmD, BmE, BmF, BmH, BmI, SnA, SnB, SnC, SnD, SnE, SnF.
  Conditions: none.
-/
import Derived.Test.YtgiadjbiimkbiaaGreatDoorBa
import Derived.StillTail
import Derived.Lib.UnsafeStr
import Derived.Lib.Builder
import Derived.Laws.Externs
import Derived.Lib.ItoaNum
import Derived.Lib.Fields
import Derived.Lib.SlTrimSet
import Derived.Lib.Join
import Derived.Lib.IndexMore
import Derived.Lib.Strings
import Derived.Scope
import Derived.Test.YtgiadjbiimkbiaaGreatDoorRows
import Derived.KernelRfl
import Derived.Shelf.Strings.Builder1
import Derived.Shelf.Strings.Builder2
import Derived.Shelf.Strings.OnBuilder
import Derived.Shelf.Strings.Trim
import Derived.Shelf.Strings.TrimSpace
import Derived.Shelf.Small.Utf8
import Derived.Shelf.Small.Strs
import Derived.Shelf.Small.Wraps
import Derived.Shelf.Strings.BuilderF
import Derived.Shelf.Strings.BuilderK
import Derived.Shelf.Utf8.RuneCount
import Derived.Shelf.Strings.Builder2Cap
import Derived.Shelf.Strings.Search1
import Derived.Shelf.Strings.Search2
import Derived.Shelf.Strings.Search3
import Derived.Shelf.Strings.Count
import Derived.Shelf.LaysM
import Derived.Shelf.Strings.Shaped
import Derived.Shelf.GgClosure.StringsIndexFunc
import Derived.Shelf.GgClosure.StringsTrimFunc
import Derived.Shelf.GgClosure.StringsRunes
import Derived.Shelf.Strings.Prefix
import Derived.Shelf.Strings.Split
import Derived.Shelf.Strings.Fields
import Derived.Shelf.Strings.SplitShaped
import Derived.Shelf.Unicode.Latin
import Derived.Shelf.Unicode.Decode
import Derived.Shelf.Strings.Runes
import Derived.Shelf.Strings.RuneCount
import Derived.Shelf.Strings.AsciiSet
import Derived.Shelf.Strings.Explode
import Derived.Shelf.Unicode.DecodeSlow
import Derived.Shelf.Unicode.DecodeAny
import Derived.Shelf.Unicode.Is16White
import Derived.Shelf.Unicode.IsSpaceAny
import Derived.Shelf.Unicode.DecodeLast
import Derived.Shelf.Strings.TrimSpaceAny
import Derived.Shelf.Unicode.Is16WhiteD
import Derived.Shelf.Unicode.IsSpaceAnyD
import Derived.Shelf.Strings.FieldsAny
import Derived.Shelf.Strings.FieldsFuncAny
import Derived.Shelf.Unicode.Is16Any
import Derived.Shelf.Unicode.Is32Any
import Derived.Shelf.Unicode.ExclAny
import Derived.Shelf.Strings.FuncGrows
import Derived.Shelf.Strings.FieldsFuncGrows
import Derived.Shelf.Strings.BuilderCap
import Derived.Shelf.Slices.Turned
import Derived.Test.YtgiadjbiimkbiaaGreatDoorProg
import Derived.Lib.SmallJoins
import Derived.Lib.AppendIntMem
import Derived.Lib.SpaceUEq
import Derived.Lib.SplitLaws
import Derived.Defers
import Derived.Shelf.Strings.SlTrimAscii
import Derived.WalkKit
import Derived.ProofKit
import Derived.RangeFuncIn
import Derived.RangeFuncSeq
import Derived.RangeFuncLeaves
import Derived.RangeFuncCalls
import Derived.Shelf.Abstract
import Derived.OwnWalkIn
import Derived.TacticsInMore
import Derived.LoopNIn
import Derived.LoopIn
set_option linter.unusedSimpArgs false
set_option linter.unnecessarySimpa false
set_option linter.unusedVariables false
open List renaming length_nil->JF,append_nil->JG,length_append->Jd,length_singleton->JH,getD->Ko,range->KP,all_eq_true->JB,mem_range->JC,getElem?_eq_getElem->JD,map_append->JK,filter_append->JL,mem_map->JM,length_drop->K7,getElem?_drop->Kq,mem_filter->JN,mem_of_getElem?->JO,length_pos_of_mem->JP,nil_append->Jf,mem_cons_of_mem->Jh,map_cons->Ke,mem_cons_self->Jg,toList_toArray->JV,mem_append->JX,length_map->Jp,take_length->Jq,replicate->J2,take_of_length_le->J3,getElem?_eq_none->Kr,getElem?_append->Jc,mem_cons->KY,contains_iff_mem->Va,any_eq_true->Vb,getElem?_eq_some_iff->Jz,drop_length->Vd,drop_eq_getElem_cons->Ve,mem_append_left->Vf,length_filter_le->Vh,map_nil->Vm,eq_nil_of_length_eq_zero->Kg,drop_zero->Vp,take_add_one->Vu,flatten_append->Vv,length_take->K6,length_cons->KZ,set_cons_succ->Kj,set_cons_zero->Vx,take_succ_cons->Ki,take_zero->Vy,cons_append->Kh,contains_cons->VB,contains_nil->VC,getD_cons_zero->VQ,getD_cons_succ->Kn,flatten_cons->VS,drop_succ_cons->VU,mem_of_mem_drop->VV,mem_of_mem_take->VW,getElem_mem->VY,filterMap_cons->VZ,getElem?_cons_succ->KM,isPrefixOf->V4,map_eq_nil_iff->V5,getElem?_map->V6,range'->Ju,mem_singleton->V9
open Nat renaming add_comm->JI,eq_or_lt_of_le->JA,lt_or_ge->KU,le_refl->KL,strongRecOn->Jv,zero_le->Js,zero_add->Jr,lt_of_not_le->J6,le_of_not_lt->Kt,le_trans->Vg,pos_of_ne_zero->Vn,zero_mul->K9,mul_div_cancel->Vo,le_max_left->Vr,le_max_right->Vt,add_zero->K8,succ_mul->VT,mul_le_mul_right->Ja,le_of_ble_eq_true->V7
open Bool renaming and_eq_true->Ky,or_eq_true->JJ,not_eq_true'->Jj,and_true->J8,and_assoc->Vq,false_eq_true->KX,true_and->Vz,not_not->VA,or_eq_false_iff->VD,not_eq_false'->VE,and_eq_false_iff->VF,false_eq->VG,true_eq->VH,false_and->VI,false_or->VJ,not_true->VK,not_false->VL,and_false->VM,or_false->VN,or_true->VO,true_or->VP
open Array renaming getD->JE,getD_eq_getD_getElem?->Ku,getElem?_setIfInBounds_ne->Kv,replicate->Jw,toList_append->JW,range->Je,length_toList->KN
open Go.AM.Slots renaming get_keep->JQ,put->V8
open Go.AM.PMap renaming le_trans->JR,upd->JZ,upd_same->J4
open Go.AM.Awp renaming of0->JS,keep->JU
open Option renaming isSome_some->JY,map_eq_some_iff->Kc,isNone_iff_eq_none->J9
open Go.AM.AVal renaming live->J5
open Go.AM.Same renaming refl->J7
open Go.AM.AHeap renaming set_ne->Vi,set_same->Vj
open Go.AM.Sub renaming refl->Vk,set->Vl
open Int renaming toNat_natCast->Vw,natCast_nonneg->VX
namespace Go.AM
open Go.RowKit (Below)
section
variable {P:Program} {wz:World} {n:FrameK} {h:AHeap}
theorem qjM{l:List Oper}(tl:List Oper)(hall:Qv n l=true){s:Slots}{K:Slots->AHeap->Prop}:∀(rest pre:List Oper) (A:List AVal),l=pre++rest++tl->A.length=pre.length->Yl P wz l rest (QA s l A pre.length) h K->
 ∃B:List AVal,B.length=rest.length/\(∀i o,pre.length<=i->i<pre.length+rest.length->l[i]?=some o->StepOk P wz n h l o (QA s l (A++B) i) ((A++B).getD i .dead))/\K (QA s l (A++B) (pre.length+rest.length)) h
 |[],pre,A,hl,hA,hv=>⟨[],rfl,fun i o hi hi' ho=>by
   simp only[JF]at hi';omega,by
   rw[JG];exact hv⟩
 |o::rest,pre,A,hl,hA,hv=>by
  have hat:l[pre.length]?=some o:=by rw[hl];simp
  have go:∀V,StepOk P wz n h l o (QA s l A pre.length) V->Yl P wz l rest (putD (QA s l A pre.length) o.dst V) h K->
   ∃B:List AVal,B.length=(o::rest).length/\(∀i o,pre.length<=i->i<pre.length+(rest.length+1)->l[i]?=some o->StepOk P wz n h l o (QA s l (A++B) i) ((A++B).getD i .dead))/\K (QA s l (A++B) (pre.length+(rest.length+1))) h:=by
   intro V hst hv';have e:QA s l (A++[V]) (pre++[o]).length=putD (QA s l A pre.length) o.dst V:=by
    rw[Jd,JH,QA,hat];simp only;rw[Uh s l A [V] _ (by omega)];congr 1;simp[Ko,<-hA]
   obtain⟨B,h1,h2,h3⟩:=qjM tl hall rest (pre++[o]) (A++[V]) (by simp[hl]) (by simp[hA]) (by rw[e];exact hv');refine⟨V::B,by simp[h1],fun i o' hi hi' ho'=>?_,by simpa[Nat.add_assoc,JI 1]using h3⟩;rcases JA hi with e'|e'
   ·subst e'
    rw[hat]at ho';obtain rfl:=Option.some.inj ho';rw[Uh s l A (V::B) _ (by omega)];have:(A++V::B).getD pre.length .dead=V:=by simp[Ko,<-hA]
    rw[this];exact hst
   ·have:=h2 i o' (by simp;omega) (by simp at hi'|-;omega) ho'
    simpa using this
  simp only[Yl]at hv;cases hg:o.guard with
  |none=>
   simp only[hg]at hv;obtain⟨V,h1,h2⟩:=hv;exact go V (.plain hg h1) h2
  |some gw=>
   obtain⟨j,want⟩:=gw;simp only[hg]at hv;cases hj:nthDst l j with
   |none=>
    simp only[hj]at hv;exact go _ (.never hg hj) hv
   |some d=>
    simp only[hj]at hv;obtain⟨hk,V,h1,h2⟩:=hv;exact go _ (.guarded hall hg hj hk h1) h2
def qia(l:List Oper)(k:Nat):Bool:=
 (KP k).all fun i=>match l[i]? with
  |none=>true
  |some oi=>(oi.after.all fun e=> !Region.binds .any e||decide (e.on<i)) &&
   (KP k).all fun j=>match l[j]? with
    |none=>true
    |some oj=>(match oj.dst with
      |none=>true
      |some t=>(decide (i=j)||decide (oi.dst≠some t)) &&
        (!(Qy l oi).contains t||(decide (j<i) && Region.waitsFor .any l.toArray i j)||(decide (i<j) && Region.waitsFor .any l.toArray j i)))
theorem qbc{l:List Oper}{k:Nat}(hB:qia l k=true){i:Nat}{oi:Oper}(hik:i<k)(hi:l[i]?=some oi):
 (∀e∈oi.after,Region.binds .any e=true->e.on<i)/\∀j oj t,j<k->l[j]?=some oj->oj.dst=some t->(oi.dst=some t->i=j)/\
  (t∈Qy l oi->(j<i/\Region.waitsFor .any l.toArray i j=true)\/(i<j/\Region.waitsFor .any l.toArray j i=true)):=by
 unfold qia at hB;rw[JB]at hB;have h1:=hB i (by rw[JC];exact hik);simp only[hi,Ky]at h1;obtain⟨ha,hb⟩:=h1;refine⟨fun e he hbd=>?_,fun j oj t hjk hj hd=>?_⟩
 ·rw[Array.all_eq_true']at ha
  have:=ha e he;simpa[hbd]using this
 ·rw[JB]at hb
  have h2:=hb j (by rw[JC];exact hjk);simp only[hj,hd,Ky,JJ,decide_eq_true_eq,Jj,List.contains_eq_mem]at h2;refine⟨fun he=>?_,fun ht=>?_⟩
  ·rcases h2.1 with e|e
   ·exact e
   ·exact absurd he e
  ·rcases h2.2 with(e|e)|e
   ·exact absurd ht (by simpa using e)
   ·exact .inl e
   ·exact .inr e
theorem qcf{l:List Oper}{k:Nat}(hB:qia l k=true)(hk:k<=l.length)(s:Slots)(Vs:List AVal){j:Nat}{oj:Oper}{t:Nat}(hjk:j<k)(hj:l[j]?=some oj)(hd:oj.dst=some t):∀i,j<i->i<=k->(QA s l Vs i).get t=Vs.getD j .dead
 |0,h,_=>by omega
 |i+1,h,hi=>by
  obtain⟨o,ho⟩:∃o,l[i]?=some o:=⟨_,JD (show i<l.length by omega)⟩
  simp only[QA,ho,YD];by_cases e:o.dst=some t
  ·have:i=j:=(((qbc hB (by omega) ho).2 j oj t hjk hj hd).1 e)
   subst this;rw[if_pos e]
  ·rw[if_neg e]
   refine qcf hB hk s Vs hjk hj hd i ?_ (by omega);rcases JA (Nat.le_of_lt_succ h)with e'|e'
   ·subst e'
    rw[hj]at ho;obtain rfl:=Option.some.inj ho;exact absurd hd e
   ·exact e'
def qhh(m k:Nat):Array Bool:=((KP m).map fun j=>decide (j<k)).toArray
structure AnyInvK(l:List Oper)(k:Nat)(Vs:List AVal)(s:Slots)(Ps:PMap)(n:FrameK)(listed:Array Bool)(a:Act):Prop where
 head:HeadInv .any l.toArray k listed
 tsize:a.tmps.size=n
 defers:a.defers=n.dfr
 done:∀t j oj,j<k->l[j]?=some oj->oj.dst=some t->listed.getD j false=true->VR Ps (Vs.getD j .dead) (a.tmps.getD t undef)
 still:∀t,(∀j oj,j<k->l[j]?=some oj->oj.dst=some t->listed.getD j false=false)->VR Ps (s.get t) (a.tmps.getD t undef)
theorem any_okK{l:List Oper}{k:Nat}(hk:k<l.length)(hall:Qv n l=true)(hB:qia l k=true)(hsink:Region.sinkB .any l.toArray k=true)(hchain:Region.chainB .any l.toArray k=true)
 (hseq:Region.seqB .any l.toArray (l.length-k) k (qhh l.length k)=true) {s:Slots} {Vs:List AVal} (hst:∀i o,i<k->l[i]?=some o->StepOk P wz n h l o (QA s l Vs i) (Vs.getD i .dead)) {fi:PMap} {Q:Exit->Act->World->Prop}
 (hq:∀Ps a w,fi.le Ps->HRel wz Ps h w->SRel Ps n (QA s l Vs k) a->wpList P l.toArray Q (l.drop k) a w):∀(fuel:Nat) (listed:Array Bool) (a:Act) (w:World) (Ps:PMap),fi.le Ps->HRel wz Ps h w->AnyInvK l k Vs s Ps n listed a->
 (listed.toList.filter (!·)).length=fuel->wpAny P .any l.toArray Q fuel listed a w:=by
 have hsize:k<l.toArray.size:=by simpa using hk
 have fin:∀(fuel:Nat) (listed:Array Bool) (a:Act) (w:World) (Ps:PMap),fi.le Ps->HRel wz Ps h w->AnyInvK l k Vs s Ps n listed a->(∀j,j<k->listed.getD j false=true)->(listed.toList.filter (!·)).length=fuel->wpAny P .any l.toArray Q fuel listed a w:=by
  intro fuel listed a w Ps hle hr inv hdone hc;have hls:listed.size=l.length:=by have:=inv.head.size;simpa using this
  have hl:listed=qhh l.length k:=by
   apply Array.ext
   ·rw[hls];simp[qhh]
   ·intro i h1 h2
    have hi:i<l.length:=by omega
    have e2:(qhh l.length k)[i]=decide (i<k):=by simp[qhh]
    rw[e2];by_cases hik:i<k
    ·have:=hdone i hik
     simp[JE,h1]at this;simp[this,hik]
    ·have:=inv.head.tail i (by omega) (by simpa using hi)
     simp[JE,h1]at this;simp[this,hik]
  have hfuel:fuel=(l.drop k).length:=by
   rw[<-hc,hl];have:∀m k,k<=m->(((KP m).map fun j=>decide (j<k)).filter (!·)).length=m-k:=by
    intro m k;induction m with
    |zero=>intro _;simp
    |succ m ih=>
     intro hkm;rw[List.range_succ,JK,JL,Jd];rcases KU m k with c|c
     ·have e1:m+1=k:=by omega
      have e2:((KP m).map fun j=>decide (j<k)).filter (!·)=[]:=by
       rw[List.filter_eq_nil_iff];intro b hb;simp only[JM,JC]at hb;obtain⟨j,hj,rfl⟩:=hb;have:j<k:=by omega
       simp[this]
      rw[e2];simp[c];omega
     ·rw[ih c]
      have:¬m<k:=by omega
      simp[this];omega
   simp only[qhh,K7];exact this l.length k (by omega)
  rw[hfuel,hl];refine wpAny_of_seq (l.drop k) k _ a w (fun j=>by simp[Kq]) (by rw[K7];exact hseq) ?_;refine hq Ps a w hle hr ⟨inv.tsize,inv.defers,fun t=>?_⟩;by_cases hw:∃(j:Nat) (oj:Oper),j<k/\l[j]?=some oj/\oj.dst=some t
  ·obtain⟨j,oj,hjk,hj,hd⟩:=hw
   rw[qcf hB (by omega) s Vs hjk hj hd k hjk (KL _)];exact inv.done t j oj hjk hj hd (hdone j hjk)
  ·rw[Ym s Vs k fun j oj hjk hj hd=>hw ⟨j,oj,hjk,hj,hd⟩]
   exact inv.still t fun j oj hjk hj hd=>absurd ⟨j,oj,hjk,hj,hd⟩ hw
 intro fuel;induction fuel with
 |zero=>
  intro listed a w Ps hle hr inv hc;exfalso;have hls:listed.size=l.length:=by have:=inv.head.size;simpa using this
  have h1:=inv.head.tail k (KL _) hsize;have hkz:k<listed.size:=by omega
  have h2:listed.toList[k]?=some false:=by
   simp[JE,hkz]at h1;simp[hkz,h1]
  have hmem:false∈listed.toList.filter (!·):=by simp[JN,JO h2]
  have:=JP hmem;omega
 |succ fuel ih=>
  intro listed a w Ps hle hr inv hc;have hls:listed.size=l.length:=by have:=inv.head.size;simpa using this
  by_cases hdone:∀j,j<k->listed.getD j false=true
  ·exact fin _ listed a w Ps hle hr inv hdone hc
  ·obtain⟨u,hu,hul⟩:∃u,u<k/\listed.getD u true=false:=by
    refine Classical.byContradiction fun hne=>hdone fun j hj=>?_;have hjs:j<listed.size:=by omega
    cases e:listed.getD j false with
    |true=>rfl
    |false=>
     exfalso;refine hne ⟨j,hj,?_⟩;simp[JE,hjs]at e|-;exact e
   refine⟨fun hrd=>?_,fun i hi=>?_⟩
   ·exfalso
    have:∀i,i<k->listed.getD i false=true:=by
     intro i;induction i using Jv with
     |ind i ihh=>
      intro hik;cases hl:listed.getD i false with
      |true=>rfl
      |false=>
       exfalso;obtain⟨o,ho⟩:∃o,l[i]?=some o:=⟨_,JD (by omega)⟩
       have:i∈Region.ready .any l.toArray listed:=by
        rw[mem_ready];refine⟨?_,o,by simpa using ho,fun e he hb=>?_⟩
        ·have hi':i<listed.size:=by omega
         simp[JE,hi']at hl|-;exact hl
        ·have hlt:=(qbc hB hik ho).1 e he hb
         exact ihh e.on hlt (by omega)
       rw[hrd]at this;cases this
    exact hdone this
   ·have hik:i<k:=by
     rcases KU i k with c|c
     ·exact c
     ·exact absurd hi (tail_waits hsink hchain hsize inv.head _ u rfl hu hul i c)
    obtain⟨h1,o,ho,hedges⟩:=mem_ready.1 hi;have hol:l[i]?=some o:=by simpa using ho
    have hisz:i<listed.size:=by omega
    have hif:listed.getD i false=false:=by simp[JE,hisz]at h1|-;exact h1
    have spec:=qbc hB hik hol;have hs:SRel Ps n ((QA s l Vs i).keep (Qy l o)) a:=by
     refine⟨inv.tsize,inv.defers,fun t=>?_⟩;rw[JQ];by_cases ht:(Qy l o).contains t=true
     ·rw[if_pos ht]
      have ht':t∈Qy l o:=by simpa using ht
      by_cases hw:∃(j:Nat) (oj:Oper),j<k/\l[j]?=some oj/\oj.dst=some t
      ·obtain⟨j,oj,hjk,hj,hd⟩:=hw
       rcases(spec.2 j oj t hjk hj hd).2 ht' with⟨c1,c2⟩|⟨c1,c2⟩
       ·rw[qcf hB (by omega) s Vs hjk hj hd i c1 (by omega)]
        refine inv.done t j oj hjk hj hd ?_;obtain⟨oi,g1,e,g2,g3,g4⟩:=Region.waitsFor_spec c2;rw[ho]at g1;obtain rfl:=Option.some.inj g1;rw[<-g4];exact hedges e g2 g3
       ·rw[Ym s Vs i fun j' oj' hj'' hj' hd'=>by
         have:=((qbc hB (by omega) hj').2 j oj t hjk hj hd).1 hd';omega]
        refine inv.still t fun j' oj' hjk' hj' hd'=>?_;have e:=((qbc hB hjk' hj').2 j oj t hjk hj hd).1 hd';subst e;cases hl:listed.getD j' false with
        |false=>rfl
        |true=>
         exfalso;obtain⟨oi,g1,e,g2,g3,g4⟩:=Region.waitsFor_spec c2;have:=inv.head.closed j' oi g1 hl e g2 g3;rw[g4,hif]at this;cases this
      ·rw[Ym s Vs i fun j oj hji hj hd=>hw ⟨j,oj,by omega,hj,hd⟩]
       exact inv.still t fun j oj hjk hj hd=>absurd ⟨j,oj,hjk,hj,hd⟩ hw
     ·rw[if_neg ht]
      trivial
    have step:=hst i o hik hol Ps w a (wpAny P .any l.toArray Q fuel (listed.setIfInBounds i true)) Q hr hs fun ψ' v w' hle' hr' hv=>by
     have hdn:∀d,o.dst=some d->d<n:=fun d hd=>qdE l i d hall (by rw[Yf,hol];exact hd);refine ih _ _ _ ψ' (JR hle hle') hr' ⟨inv.head.set hi hik,?_,?_,fun t j oj hjk hj hd hl=>?_,fun t hun=>?_⟩ ?_
     ·cases hod:o.dst with
      |none=>simpa[Act.put]using inv.tsize
      |some d=>simpa[Act.put]using inv.tsize
     ·cases hod:o.dst with
      |none=>simpa[Act.put]using inv.defers
      |some d=>simpa[Act.put]using inv.defers
     ·by_cases e:j=i
      ·subst e
       rw[hol]at hj;obtain rfl:=Option.some.inj hj;have hlt:t<a.tmps.size:=by rw[inv.tsize];exact hdn t hd
       have:(a.put o.dst v).tmps.getD t undef=v:=by rw[hd];simp[Act.put,hlt]
       rw[this];exact hv
      ·rw[Xu e]at hl
       have hne:o.dst≠some t:=fun hod=>e (((spec.2 j oj t hjk hj hd).1 hod).symm);have:(a.put o.dst v).tmps.getD t undef=a.tmps.getD t undef:=by
        cases hod:o.dst with
        |none=>rfl
        |some d=>
         have hdt:d≠t:=fun e=>hne (by rw[hod,e]);simp[Act.put,Ku,Kv hdt]
       rw[this];exact WG hle' _ _ (inv.done t j oj hjk hj hd hl)
     ·have hne:o.dst≠some t:=fun hod=>by
       have:=hun i o hik hol hod;rw[set_self hisz]at this;cases this
      have:(a.put o.dst v).tmps.getD t undef=a.tmps.getD t undef:=by
       cases hod:o.dst with
       |none=>rfl
       |some d=>
        have hdt:d≠t:=fun e=>hne (by rw[hod,e]);simp[Act.put,Ku,Kv hdt]
      rw[this];refine WG hle' _ _ (inv.still t fun j oj hjk hj hd=>?_);have e:j≠i:=fun e=>by subst e;rw[hol]at hj;obtain rfl:=Option.some.inj hj;exact hne hd
      have:=hun j oj hjk hj hd
      rwa [Xu e]at this
     ·have h2:listed.toList[i]?=some false:=by
       simp[JE,hisz]at h1;simp[hisz,h1]
      have:=qcE listed.toList i h2;have e:(listed.setIfInBounds i true).toList=listed.toList.set i true:=by simp
      rw[e];omega
    simp only[wpOp,ho];split
    ·rename_i hw
     rw[if_pos hw]at step;exact .inl step
    ·rename_i hw
     rw[if_neg hw]at step;exact step
def tailB(l:List Oper)(k:Nat):Bool:=
 decide (k<l.length) && qia l k && Region.sinkB .any l.toArray k && Region.chainB .any l.toArray k && Region.seqB .any l.toArray (l.length-k) k (qhh l.length k)
theorem qgU{Q:Exit->Slots->AHeap->Prop}{s:Slots}{id:Nat}{l:List Oper}(k:Nat)(hm:P.follows .mixedOrders=true)(hB:tailB l k=true)(hd:Qv n l=true)
 (hc:Yl P wz l (l.take k) s h (fun s' h'=>Qp P wz l (l.drop k) s' h' (fun s'' h''=>Q .normal s'' h''))):Awp P wz n (.region id l.toArray true) Q s h:=by
 refine JS ?_;intro fi a w hr hs;simp only[tailB,Ky,decide_eq_true_eq]at hB;obtain⟨⟨⟨⟨hk,h1⟩,h2⟩,h3⟩,h4⟩:=hB;obtain⟨Vs,g1,g2,g3⟩:=qjM (P:=P) (wz:=wz) (n:=n) (h:=h) (l.drop k) hd (s:=s) (l.take k) [] [] (by simp) rfl hc;have htl:(l.take k).length=k:=by simp;omega
 simp only[Jf,JF,Js,true_implies,Jr,htl]at g1 g2 g3;refine wp_region_any hm ?_;have dtake:∀(l:List Oper) (m:Nat),Qv n l=true->Qv n (l.drop m)=true:=by
  intro l;induction l with
  |nil=>intro m _;simp[Qv]
  |cons o r ih=>
   intro m h;cases m with
   |zero=>simpa using h
   |succ m=>
    simp only[Qv,Ky]at h;simpa using ih m h.2
 refine any_okK (fi:=fi) hk hd h1 h2 h3 h4 (s:=s) (Vs:=Vs) (fun i o hi ho=>g2 i o hi ho) (fun Ps a' w' hle hr' hs'=>?_) _ _ _ _ fi fi.le_refl hr.drew ?_ ?_
 ·have:=qiJ (P:=P) (wz:=wz) l n hd (l.drop k) k Ps _ h a' w' _ (fun e a' w'=>∃χ s' h',fi.le χ/\HRel wz χ h' w'/\SRel χ n s' a'/\Q e s' h') (fun j=>by simp[Kq]) (dtake l k hd) g3 hr' hs'
   (fun χ s' h' a' w' e1 e2 e3 e4=>⟨χ,s',h',JR hle e1,e2,e3,e4⟩)
  rw[wpOps_eq_wpList (l.drop k) k (fun j=>by simp[Kq])]at this;exact this
 ·have hf:∀j,(Jw l.toArray.size false).getD j false=false:=fun j=>by
   simp[JE]
  exact⟨⟨by simp,fun j oj _ hl=>(by rw[getD_replicate_false]at hl;cases hl),fun t _ ht=>getD_in (by simpa using ht) (getD_replicate_false _ _)⟩,hs.size,hs.defers,fun t j oj _ _ _ hl=>(by rw[hf]at hl;cases hl),fun t _=>hs.val t⟩
 ·simp
theorem qgS{Q:Exit->Slots->AHeap->Prop}{s:Slots}{id:Nat}{l:List Oper}{y:Code}(k:Nat)(L:List Nat)(hm:P.follows .mixedOrders=true)(hB:tailB l k=true)(hd:Qv n l=true)
 (hc:∀K:Slots->AHeap->Prop,(∀s h,Awp P wz n y Q s h->K s h)->Yl P wz l (l.take k) s h (fun s' h'=>Qp P wz l (l.drop k) s' h' (fun s'' h''=>K (s''.keep L) h''))):Awp P wz n (.seq (.region id l.toArray true) y) Q s h:=
 qo (qgU k hm hB hd (qdK (hc (fun s h=>Awp P wz n y Q s h) (fun _ _ hk=>hk)) fun _ _ ha=>awp_rseq.aOps_mono (fun _ _ hk=>JU L hk) ha))
end
section
variable {P:Program} {wz:World} {n:FrameK} {h:AHeap}
theorem qpZ(a:Act)(d:Option Tmp)(v:Value){t:Nat}(hne:d≠some t):(a.put d v).tmps.getD t undef=a.tmps.getD t undef:=by
 cases d with
 |none=>rfl
 |some d=>
  have hdt:d≠t:=fun e=>hne (by rw[e]);simp[Act.put,Ku,Kv hdt]
variable {ops rest:List Oper} {dst:Option Tmp} {ty:TypeId} {pos:String} {af:Array Edge}
end
theorem qhl{s:Slots}{L:List Nat}{op:Op}(hL:∀t∈qtr op,t∈L):∀x∈op.operands.toList,ev (s.keep L) x=ev s x:=by
 intro x hx;refine ZR fun t ht=>hL t ?_;subst ht;exact List.mem_filterMap.2 ⟨_,hx,rfl⟩
theorem qkI{s s':Slots}:∀{xs:List Operand},(∀x∈xs,ev s' x=ev s x)->evs s' xs=evs s xs
 |[],_=>rfl
 |x::xs,h=>by
  have:=qkI (s:=s) (s':=s') (xs:=xs) fun y hy=>h y (Jh _ hy);simp only[evs,Ke]at this|-
  rw[h x Jg,this]
theorem qoV{s s':Slots}:∀{xs:List (Nat×Operand)},(∀p∈xs,ev s' p.2=ev s p.2)->evP s' xs=evP s xs
 |[],_=>rfl
 |x::xs,h=>by
  have:=qoV (s:=s) (s':=s') (xs:=xs) fun y hy=>h y (Jh _ hy);simp only[evP,Ke]at this|-
  rw[h x Jg,this]
theorem qoW{s s':Slots}{x:Option Operand}(h:∀y,x=some y->ev s' y=ev s y):evO s' x=evO s x:=by
 cases x with
 |none=>rfl
 |some y=>simp only[evO,h y rfl]
theorem qgb{P:Program}{wz:World}{h:AHeap}{s s':Slots}(op:Op)(E:∀x∈op.operands.toList,ev s' x=ev s x):pop P wz h s' op=pop P wz h s op:=by
 cases op with
 |move x=>simp only[pop,E x (by simp[Op.operands])]
 |assign x=>simp only[pop,E x (by simp[Op.operands])]
 |pick c a b=>simp only[pop,E c (by simp[Op.operands]),E a (by simp[Op.operands]),E b (by simp[Op.operands])]
 |binOp o t x y u=>simp only[pop,E x (by simp[Op.operands]),E y (by simp[Op.operands])]
 |unOp o t x=>simp only[pop,E x (by simp[Op.operands])]
 |convert a b x=>simp only[pop,E x (by simp[Op.operands])]
 |load t x=>simp only[pop,E x (by simp[Op.operands])]
 |field t x f=>simp only[pop,E x (by simp[Op.operands])]
 |fieldAddr t x f=>simp only[pop,E x (by simp[Op.operands])]
 |index t x i=>simp only[pop,E x (by simp[Op.operands]),E i (by simp[Op.operands])]
 |indexAddr t x i=>simp only[pop,E x (by simp[Op.operands]),E i (by simp[Op.operands])]
 |slice t x lo hi mx=>
  simp only[pop,E x (by simp[Op.operands])];rw[qoW (s:=s) (s':=s') (x:=lo) fun y hy=>E y (by subst hy;simp[Op.operands]),qoW (s:=s) (s':=s') (x:=hi) fun y hy=>E y (by subst hy;simp[Op.operands]),qoW (s:=s) (s':=s') (x:=mx) fun y hy=>E y (by subst hy;simp[Op.operands])]
 |extract x i=>simp only[pop,E x (by simp[Op.operands])]
 |nilCheck x=>simp only[pop,E x (by simp[Op.operands])]
 |build t ps=>
  simp only[pop];rw[qoV (s:=s) (s':=s') fun p hp=>E p.2 (by simp only[Op.operands,JV,JM];exact⟨p,hp,rfl⟩)]
 |makeFunc fn first cap=>
  simp only[pop];rw[qkI (s:=s) (s':=s') (xs:=cap.toList) fun x hx=>E x (by simp only[Op.operands,JW,JX];exact .inr hx)]
 |makeInterface t x=>simp only[pop,E x (by simp[Op.operands])]
 |lookup t x i ok=>simp only[pop,E x (by simp[Op.operands]),E i (by simp[Op.operands])]
 |call c=>
  obtain⟨callee,args,ts⟩:=c;simp only[pop];cases callee with
  |builtin b=>
   simp only;rw[qkI (s:=s) (s':=s') (xs:=args.toList) fun x hx=>E x (by simp only[Op.operands,Call.operands,JW,JX];exact .inr hx)]
  |_=>rfl
 |_=>rfl
theorem qgj{P:Program}{wz:World}{h:AHeap}{s s':Slots}(op:Op){K:AVal->AHeap->Prop}(E:∀x∈op.operands.toList,ev s' x=ev s x):eop P wz h s' op K=eop P wz h s op K:=by
 have hp:=qgb (P:=P) (wz:=wz) (h:=h) (s:=s) (s':=s') op E;cases op with
 |box e x=>simp only[eop,E x (by simp[Op.operands])]
 |buildSlice t n ps=>
  simp only[eop];rw[qoV (s:=s) (s':=s') fun p hp=>E p.2 (by simp only[Op.operands,JV,JM];exact⟨p,hp,rfl⟩)]
 |store t x v=>simp only[eop,E x (by simp[Op.operands]),E v (by simp[Op.operands])]
 |makeSlice t n c=>simp only[eop,E n (by simp[Op.operands]),E c (by simp[Op.operands])]
 |mapUpdate t m i v=>simp only[eop,E m (by simp[Op.operands]),E i (by simp[Op.operands]),E v (by simp[Op.operands])]
 |insert t m i v=>simp only[eop,E m (by simp[Op.operands]),E i (by simp[Op.operands]),E v (by simp[Op.operands])]
 |range t x=>simp only[eop,E x (by simp[Op.operands])]
 |next it b=>simp only[eop,E it (by simp[Op.operands])]
 |entry it=>simp only[eop,E it (by simp[Op.operands])]
 |convert a b x=>simp only[eop,E x (by simp[Op.operands]),hp]
 |call c=>
  obtain⟨callee,args,ts⟩:=c;have hx:evs s' args.toList=evs s args.toList:=qkI fun x hx=>E x (by simp only[Op.operands,Call.operands,JW,JX];exact .inr hx);cases callee with
  |value f=>
   simp only[eop,hx];rw[E f (by simp[Op.operands,Call.operands])]
  |builtin b=>cases b<;>simp only[eop,hx]<;>rw[hp]
  |invoke r m=>simp only[eop,hp]
 |alloc e=>rfl
 |_=>simp only[eop,hp]
mutual
def AVal.okIn(f:Nat->Bool):AVal->Prop
 | .ptr (.own k) _=>f k=true
 | .slice (.own k) _ len c=>match c with
   | .exact c=>(c≠0\/len≠0->f k=true)
   | .grow _=>f k=true
 | .func _ cs=>qic f cs
 | .map k=>f k=true
 | .iface _ x=>x.okIn f
 | .agg cs=>qic f cs
 | .tuple cs=>qic f cs
 |_=>True
def qic(f:Nat->Bool):List AVal->Prop
 |[]=>True
 |x::xs=>x.okIn f/\qic f xs
end
mutual
theorem UT{fi:PMap}:∀(x:AVal) (v:Value),VR fi x v->x.okIn (fun k=>(fi k).isSome)
 | .dead,_,_=>by simp only[AVal.okIn]
 | .bool _,_,_=>by simp only[AVal.okIn]
 | .int _ _,_,_=>by simp only[AVal.okIn]
 | .str _,_,_=>by simp only[AVal.okIn]
 | .nilPtr,_,_=>by simp only[AVal.okIn]
 | .nilSlice,_,_=>by simp only[AVal.okIn]
 | .nilFunc,_,_=>by simp only[AVal.okIn]
 | .nilIface,_,_=>by simp only[AVal.okIn]
 | .nilMap,_,_=>by simp only[AVal.okIn]
 | .mapO _,_,_=>by simp only[AVal.okIn]
 | .mapE _ _ _,_,_=>by simp only[AVal.okIn]
 | .iterO _ _ _ _,_,_=>by simp only[AVal.okIn]
 | .map k,v,h=>by
   simp only[VR]at h;obtain⟨p,hp,_⟩:=h;simp only[AVal.okIn,hp,JY]
 | .ptr (.base b) _,_,_=>by simp only[AVal.okIn]
 | .ptr (.own k) o,v,h=>by
   simp only[VR,Xf,Kc]at h;obtain⟨a,⟨p,hp,_⟩,_⟩:=h;simp only[AVal.okIn,hp,JY]
 | .slice (.base b) _ _ _,_,_=>by simp only[AVal.okIn]
 | .slice (.own k) o len (.exact c),v,h=>by
   simp only[VR,Xf,Kc]at h;obtain⟨a,_,h2⟩:=h;simp only[AVal.okIn];intro hc;obtain⟨p,hp,_⟩:=h2 hc;simp only[hp,JY]
 | .slice (.own k) o len (.grow es),v,h=>by
   simp only[VR]at h;obtain⟨k',p,c,a,e,hp,_⟩:=h;cases e;simp only[AVal.okIn,hp,JY]
 | .func f cs,v,h=>by
   simp only[VR]at h;obtain⟨vs,_,h2⟩:=h;simp only[AVal.okIn];exact qbd cs vs h2
 | .iface t x,v,h=>by
   simp only[VR]at h;obtain⟨y,_,h2⟩:=h;simp only[AVal.okIn];exact UT x y h2
 | .agg cs,v,h=>by
   simp only[VR]at h;obtain⟨vs,_,h2⟩:=h;simp only[AVal.okIn];exact qbd cs vs h2
 | .tuple cs,v,h=>by
   simp only[VR]at h;obtain⟨vs,_,h2⟩:=h;simp only[AVal.okIn];exact qbd cs vs h2
theorem qbd{fi:PMap}:∀(xs:List AVal) (vs:List Value),VRs fi xs vs->qic (fun k=>(fi k).isSome) xs
 |[],_,_=>by simp only[qic]
 |x::xs,vs,h=>by
  simp only[VRs]at h;obtain⟨v,vs',_,h1,h2⟩:=h;simp only[qic];exact⟨UT x v h1,qbd xs vs' h2⟩
end
mutual
theorem qfJ{fi Ps:PMap}{f:Nat->Bool}(hf:∀k,f k=true->fi k=Ps k):∀(x:AVal) (v:Value),x.okIn f->VR fi x v->VR Ps x v
 | .dead,_,_,h=>h
 | .bool _,_,_,h=>h
 | .int _ _,_,_,h=>h
 | .str _,_,_,h=>h
 | .nilPtr,_,_,h=>h
 | .nilSlice,_,_,h=>h
 | .nilFunc,_,_,h=>h
 | .nilIface,_,_,h=>h
 | .nilMap,_,_,h=>h
 | .mapO _,_,_,h=>h
 | .mapE _ _ _,_,_,h=>h
 | .iterO _ _ _ _,_,_,h=>h
 | .map k,v,ok,h=>by
   simp only[AVal.okIn]at ok;simp only[VR,<-hf k ok]at h|-
   exact h
 | .ptr (.base b) _,_,_,h=>h
 | .ptr (.own k) o,v,ok,h=>by
   simp only[AVal.okIn]at ok;simp only[VR,Xf,<-hf k ok]at h|-
   exact h
 | .slice (.base b) _ _ (.exact c),_,_,h=>h
 | .slice (.base b) _ _ (.grow c),v,_,h=>by
   simp only[VR]at h;obtain⟨k,p,c,a,e,_⟩:=h;cases e
 | .slice (.own k) o len (.exact c),v,ok,h=>by
   simp only[AVal.okIn]at ok;simp only[VR,Xf]at h|-
   obtain⟨a,h1,h2⟩:=h;exact⟨a,h1,fun hc=>by rw[<-hf k (ok hc)];exact h2 hc⟩
 | .slice (.own k) o len (.grow es),v,ok,h=>by
   simp only[AVal.okIn]at ok;simp only[VR]at h|-
   obtain⟨k',p,c,a,e,hp,rest⟩:=h;cases e;exact⟨k,p,c,a,rfl,by rw[<-hf k ok];exact hp,rest⟩
 | .func f cs,v,ok,h=>by
   simp only[AVal.okIn]at ok;simp only[VR]at h|-
   obtain⟨vs,h1,h2⟩:=h;exact⟨vs,h1,qee hf cs vs ok h2⟩
 | .iface t x,v,ok,h=>by
   simp only[AVal.okIn]at ok;simp only[VR]at h|-
   obtain⟨y,h1,h2⟩:=h;exact⟨y,h1,qfJ hf x y ok h2⟩
 | .agg cs,v,ok,h=>by
   simp only[AVal.okIn]at ok;simp only[VR]at h|-
   obtain⟨vs,h1,h2⟩:=h;exact⟨vs,h1,qee hf cs vs ok h2⟩
 | .tuple cs,v,ok,h=>by
   simp only[AVal.okIn]at ok;simp only[VR]at h|-
   obtain⟨vs,h1,h2⟩:=h;exact⟨vs,h1,qee hf cs vs ok h2⟩
theorem qee{fi Ps:PMap}{f:Nat->Bool}(hf:∀k,f k=true->fi k=Ps k):∀(xs:List AVal) (vs:List Value),qic f xs->VRs fi xs vs->VRs Ps xs vs
 |[],_,_,h=>h
 |x::xs,vs,ok,h=>by
  simp only[qic]at ok;simp only[VRs]at h|-
  obtain⟨v,vs',h0,h1,h2⟩:=h;exact⟨v,vs',h0,qfJ hf x v ok.1 h1,qee hf xs vs' ok.2 h2⟩
end
theorem ERel.limit{fi Ps ψ':PMap}(hk:∀k,(fi k).isSome=true->Ps k=ψ' k):∀{cs:List AVal} {l l':List MapEntry},ERel fi cs l->ERel Ps cs l'->ERel ψ' cs l'
 |[],_,_,_,h=>h
 |c::cs,l,l',h,h'=>by
  simp only[ERel]at h h'|-
  obtain⟨e,r,rfl,h1,h2⟩:=h;obtain⟨e',r',rfl,h1',h2'⟩:=h';refine⟨e',r',rfl,?_,ERel.limit hk h2 h2'⟩;cases c<;>first|exact h1.elim|exact⟨h1'.1,qfJ (f:=fun k=>(fi k).isSome) hk _ _ (UT _ _ h1.2.1) h1'.2.1,qfJ (f:=fun k=>(fi k).isSome) hk _ _ (UT _ _ h1.2.2) h1'.2.2⟩
theorem ORel.limit{fi Ps ψ':PMap}(hk:∀k,(fi k).isSome=true->Ps k=ψ' k){cs:List AVal}{o o':Obj}(h:ORel fi cs o)(h':ORel Ps cs o'):ORel ψ' cs o':=by
 unfold ORel at h'|-
 split at h'
 ·rename_i c es entries clock
  refine⟨h'.1,?_⟩;cases o with
  |map en cl=>exact ERel.limit hk (show cl=c/\ERel fi es en.toList from h).2 h'.2
  |_=>exact(show False from h).elim
 ·rename_i m since seen last r s1 s2 s3
  obtain⟨⟨p,g1,g2⟩,g3⟩:=h';refine⟨⟨p,?_,g2⟩,g3⟩;cases o with
  |mapIter mm b1 b2 b3=>
   cases mm with
   |none=>exact(show False from h).elim
   |some mm=>
    obtain⟨⟨q,q1,_⟩,_⟩:=(show(∃p,fi m=some p/\mm=p.blk)/\b1=since/\b2.toList=seen/\b3=last from h)
    rw[<-hk m (by rw[q1];rfl)];exact g1
  |_=>exact(show False from h).elim
 ·exact h'.elim
theorem HRel.limit{wz w w':World}{fi Ps ψ':PMap}{g:AHeap}(hr:HRel wz fi g w)(hr':HRel wz Ps g w')(hl:ψ'.le Ps)(hk:∀k,(fi k).isSome=true->Ps k=ψ' k):HRel wz ψ' g w':=by
 refine⟨hr'.below,fun k b hb=>?_,fun k k' b b' p p' hb hb' hp hp'=>hr'.inj k k' b b' p p' hb hb' (hl _ _ hp) (hl _ _ hp'),fun k p hp=>hr'.lt k p (hl _ _ hp),?_,fun k p hp=>hr'.typ k p (hl _ _ hp)⟩
 ·obtain⟨p,hp,h1,h2⟩:=hr'.own k b hb
  obtain⟨q,hq,_,c2⟩:=hr.own k b hb;refine⟨p,by rw[<-hk k (by simp[hq])];exact hp,h1,?_⟩;rcases h2 with h2|h2
  ·obtain⟨cs,e,lo,hi,r1,r2,r3,r4,r5,r6⟩:=h2.row
   obtain⟨cs',e',lo',hi',s1,s2,s3,s4,s5,s6⟩:=c2.row r4;exact .inl ⟨cs,e,lo,hi,r1,r2,r3,r4,qee (f:=fun k=>(fi k).isSome) (fun k hf=>hk k hf) _ _ (qbd _ _ s5) r5,r6⟩
  ·obtain⟨o,r1,r2⟩:=h2.obj
   obtain⟨o',s1,s2⟩:=(c2.obj h2.frz).obj;exact .inr ⟨h2.frz,h2.at_,o,r1,ORel.limit hk s2 r2⟩
 ·obtain⟨N,hN⟩:=hr'.fin
  refine⟨N,fun k hk'=>?_⟩;cases e:ψ' k with
  |none=>rfl
  |some p=>have:=hl k p e;rw[hN k hk']at this;cases this
def WE(P:Program):Op->Nat
 | .alloc _=>0
 | .box _ _=>0
 | .buildSlice _ _ _=>0
 | .makeSlice _ _ _=>0
 | .store _ _ _=>3
 | .makeMap _ _=>3
 | .mapUpdate _ _ _ _=>3
 | .insert _ _ _ _=>3
 | .range _ _=>3
 | .next _ _=>3
 | .entry _=>3
 | .convert src dst _=>if ZW P src dst=true then 0 else if qdm P src dst=true then 3 else 2
 | .call c=>match c.callee with
   | .value _=>1
   | .builtin .append=>3
   | .builtin .copy=>3
   | .builtin .delete=>3
   | .builtin _=>2
   | .invoke _ _=>3
 |_=>2
theorem kindF_pure{P:Program}{op:Op}(h:WE P op=2):Zc P op=true:=by
 cases op<;>simp only[WE,Zc]at h|- <;>first|rfl|(cases h;done)|skip
 case convert a b x=>
  split at h
  ·cases h
  ·split at h
   ·cases h
   ·rename_i h1 h2
    simp[h1,h2]
 case call c=>
  obtain⟨callee,args,ts⟩:=c;cases callee with
  |value f=>simp at h
  |invoke r m=>simp at h
  |builtin b=>cases b<;>simp at h|-
theorem lay_ok{P:Program}{wz:World}{h:AHeap}{s:Slots}{op:Op}{K:AVal->AHeap->Prop}(hk0:WE P op=0)(he:eop P wz h s op K):
 ∃(val:Nat->AVal) (b:Blk),(∀k,h k=none->K (val k) (h.set k b))/\
  ∀(k:Nat) (o:Oper),o.op=op->∀{w:World} {fi:PMap} {g:AHeap} {n:FrameK} {a:Act} {next:Act->World->Prop} {Q:Exit->Act->World->Prop},HRel wz fi g w->SRel fi n s a->g k=none->fi k=none->qaT k=none->
   (∀p v w',HRel wz (fi.upd k p) (g.set k b) w'->VR (fi.upd k p) (val k) v->next (a.put o.dst v) w')->o.wp P a w next Q:=by
 cases op<;>simp only[WE]at hk0<;>first
  |(cases hk0;done)
  |skip
 case alloc e=>
  simp only[eop]at he;split at he<;>first|exact he.elim|skip
  rename_i z hz
  refine⟨fun k=> .ptr (.own k) 0,⟨z.cells.toList.map absS,0⟩,he,?_⟩;rintro k ⟨dst,op,type,pos,after,guard⟩ rfl w fi g n a next Q hr hs hk hφ hkt hn;obtain⟨e1,e2⟩:=hr.alloc k hk hφ (z.cells.toList.map absS) z.cells e 0 0 (by rw[Jp,Jq];exact qae fi z.cells.toList) qcO (fun t ht=>by rw[hkt]at ht;cases ht);refine XG (v:= .pointer (some ⟨w.heap.size,0,none⟩)) (w':=w.alloc (.cells z.cells e)) ?_ (hn _ _ _ e2 (qmz _ _ _));simp[execOp,Instr.alloc,qdM hz,newVar,newRow]
 case box e x=>
  simp only[eop]at he;obtain⟨hl,he⟩:=he;refine⟨fun k=> .ptr (.own k) 0,⟨(ev s x).cells,0⟩,he,?_⟩;rintro k ⟨dst,op,type,pos,after,guard⟩ rfl w fi g n a next Q hr hs hk hφ hkt hn;have hx:=qgv (hs.ev x) hl;have hlen:=XA hx;obtain⟨e1,e2⟩:=hr.alloc k hk hφ (ev s x).cells (a.eval x).cells e 0 0 (by rw[<-hlen,Jq];exact hx) qcO (fun t ht=>by rw[hkt]at ht;cases ht);refine XG (v:= .pointer (some ⟨w.heap.size,0,none⟩)) (w':=w.alloc (.cells (a.eval x).cells e)) ?_ (hn _ _ _ e2 (qmz _ _ _));simp[execOp,Instr.box,newVar,newRow]
 case buildSlice t m parts=>
  simp only[eop]at he;split at he<;>first|exact he.elim|skip
  rename_i cs hb
  refine⟨fun k=> .slice (.own k) 0 m (.exact m),⟨cs,0⟩,he,?_⟩;rintro k ⟨dst,op,type,pos,after,guard⟩ rfl w fi g n a next Q hr hs hk hφ hkt hn;unfold qcc at hb;split at hb<;>first|(cases hb;done)|skip
  rename_i e ht
  split at hb<;>first|(cases hb;done)|skip
  rename_i es z hes hz
  split at hb<;>first|(cases hb;done)|skip
  rename_i hc
  obtain⟨c1,c2,c3⟩:=hc;have hzs:VRs fi (z.cells.toList.map absS) z.cells.toList:=qae fi _;obtain⟨r,f1,f2⟩:=qip (fi:=fi) (fun i=>some (i*es,es)) (vs:=(parts.map fun(i,x)=>(i,a.eval x)).toList) (us:=(Je (m*es)).map (z.cells[· %z.cells.size]!)) (by simpa using hs.evP parts.toList) (qkK hzs (by omega) (m*es)) hb;have hlen:=XA f2;simp only[KN]at hlen;have hcl:cs.length=m*es:=by rw[qfz _ hb];simp[Uo]
  obtain⟨e1,e2⟩:=hr.alloc k hk hφ cs r e 0 0 (by rw[<-hlen,<-KN,Jq];exact f2) qcO (fun t ht=>by rw[hkt]at ht;cases ht);refine XG (v:= .slice (some ⟨w.heap.size,0,none⟩) m m) (w':=w.alloc (.cells r e)) ?_ (hn _ _ _ e2 ?_)
  ·have hbig:¬(m*es>2^24):=by omega
   have hb':¬(16777216<m*es):=by omega
   by_cases hz0:m*es=0
   ·have hr0:r= #[]:=Array.eq_empty_of_size_eq_zero (by omega)
    have harr:((Je (m*es)).map (z.cells[· %z.cells.size]!))= #[]:=by rw[hz0];simp
    rw[harr]at f1;simp at f1;simp[execOp,Instr.buildSlice,qH ht,Zr hes,hz0,Array.range_zero',f1,newRow]
   ·simp[execOp,Instr.buildSlice,qH ht,Zr hes,hz0,hb',qdM hz]
    simp at f1;simp[f1,newRow]
  ·simp only[VR]
   exact⟨_,rfl,fun _=>by simp[Xf,JZ]⟩
 case makeSlice t m c=>
  simp only[eop]at he;unfold eMake at he;split at he<;>first|exact he.elim|skip
  rename_i e len cap ht hlen hcap
  split at he<;>first|exact he.elim|skip
  rename_i es by' z hes hby hz
  obtain⟨⟨g1,g2,g3,g4,g5,g6⟩,he⟩:=he;refine⟨fun k=> .slice (.own k) 0 len.toNat (.exact cap.toNat),⟨Uo (z.cells.toList.map absS) (cap.toNat*es),0⟩,he,?_⟩;rintro k ⟨dst,op,type,pos,after,guard⟩ rfl w fi g n a next Q hr hs hk hφ hkt hn;have i1:∃k,a.eval m= .int k len:=by
   have:=hs.ev m;revert hlen this;cases ev s m<;>simp[intA,VR];intro e1 e2;subst e1;exact⟨_,e2⟩
  have i2:∃k,a.eval c= .int k cap:=by
   have:=hs.ev c;revert hcap this;cases ev s c<;>simp[intA,VR];intro e1 e2;subst e1;exact⟨_,e2⟩
  obtain⟨k1,i1⟩:=i1;obtain⟨k2,i2⟩:=i2;simp only[Zy,Kc]at hes;obtain⟨ii,hi,hes⟩:=hes;simp only[qdF,hi,Option.map_some,Option.some.injEq]at hby;simp only[Uy,hi,Option.bind_some]at hz;subst hby;have hmake:=run_make (P:=P) w t e ii z ht hi hz k1 k2 len cap g1 g2 g3 g4;rw[hes]at hmake;have hzs:VRs fi (z.cells.toList.map absS) z.cells.toList:=qae fi _;have hrep:=qkK hzs (by omega) (cap.toNat*es);obtain⟨e1,e2⟩:=hr.alloc k hk hφ (Uo (z.cells.toList.map absS) (cap.toNat*es)) (madeCells z.cells (cap.toNat*es)) e 0 0 (by
   have hl:=XA hrep;rw[<-hl];unfold madeCells;rw[Jq];exact hrep) qcO (fun t ht=>by rw[hkt]at ht;cases ht)
  refine XG (v:= .slice (some ⟨w.heap.size,0,none⟩) len.toNat cap.toNat) (w':=w.alloc (.cells (madeCells z.cells (cap.toNat*es)) e)) ?_ (hn _ _ _ e2 ?_)
  ·simp only[execOp,i1,i2]
   exact Zh hmake
  ·simp only[VR]
   exact⟨_,rfl,fun _=>by simp[Xf,JZ]⟩
 case convert src dst' x=>
  split at hk0
  ·rename_i hc
   simp only[eop]at he;split at he
   ·rename_i b hb
    rw[if_pos hc]at he;obtain⟨g1,he⟩:=he;refine⟨fun k=> .slice (.own k) 0 b.length (.grow 1),⟨byteCells b,0⟩,he,?_⟩;rintro k ⟨dst,op,type,pos,after,guard⟩ rfl w fi g n a next Q hr hs hk hφ hkt hn;unfold ZW at hc;split at hc<;>first|(cases hc;done)|skip
    rename_i e h1 h2
    split at hc<;>first|(cases hc;done)|skip
    rename_i h3
    have hx:=hs.ev x;rw[hb]at hx;simp only[VR]at hx;have hcap:b.length<=grownCap w b.length 0 e:=by
     simp only[grownCap,Question.cut];omega
    have hrun:=run_bytes_of_string (P:=P) w src dst' e ⟨⟨b⟩⟩ h1 h2 h3;rw[qnV]at hrun;generalize hG:grownCap w b.length 0 e=G at*
    have hrow:(bytesRow ⟨⟨b⟩⟩ G).toList=(b.map fun c=>Value.int .u8 c.toNat)++J2 (G-b.length) (.int .u8 0):=by
     simp[bytesRow,qnV]
    have hsize:(bytesRow ⟨⟨b⟩⟩ G).size=G:=by
     rw[<-KN,hrow];simp;omega
    rw[hsize]at hrun;have hcells:(byteCells b).length=b.length:=byteCells_length b;obtain⟨e1,e2⟩:=hr.drew.alloc k hk hφ (byteCells b) (bytesRow ⟨⟨b⟩⟩ G) e G (G+1) (by
     rw[hcells,hrow,List.take_append_of_le_length (by simp)];rw[J3 (by simp)];exact qgw fi b) (fun i h1 h2=>by rw[hsize];exact h1) (fun t ht=>by rw[hkt]at ht;cases ht)
    refine XG (v:= .slice (some ⟨w.heap.size,0,none⟩) b.length G) (w':=w.drew.alloc (.cells (bytesRow ⟨⟨b⟩⟩ G) e (G,G+1))) ?_ (hn _ _ _ e2 ?_)
    ·simp only[execOp,hx]
     exact Zh hrun
    ·simp only[VR]
     exact⟨k,_,G,⟨w.heap.size,0,none⟩,rfl,J4 _ _ _,rfl,hcap,fun _=>⟨rfl,by simp[hsize]⟩⟩
   ·rename_i k o m c hx
    simp only[ZW]at hc;split at he
    ·rename_i hc'
     simp only[qdm,Ky,beq_iff_eq]at hc';obtain⟨rfl,hc'⟩:=hc';split at hc<;>first|(cases hc;done)|skip
     rename_i e h1 h2
     rw[h1]at h2;cases h2
    ·exfalso
     simp only[pop,hx,qdP]at he;split at hc<;>first|(cases hc;done)|skip
     rename_i e h1 h2
     simp[h1,h2]at he;exact he.1
   ·rename_i hn1 hn2
    exfalso;unfold ZW at hc;split at hc<;>first|(cases hc;done)|skip
    rename_i e h1 h2
    have he1:=he.1;simp only[pop]at he1;cases hx:ev s x with
    |str b=>exact hn1 b hx
    |_=>simp[hx,qdP,h1,h2,PR.no]at he1
  ·split at hk0<;>cases hk0
 case call c=>
  obtain⟨callee,args,ts⟩:=c;cases callee with
  |value f=>cases hk0
  |invoke r m=>cases hk0
  |builtin b=>cases b<;>cases hk0
section
variable {P:Program} {wz:World} {n:FrameK} {H0:AHeap}
def qgH(P:Program)(wz:World)(H0 h:AHeap)(S:Slots)(op:Op)(V:AVal):Prop:=
 if WE P op=2 then(pop P wz h S op).pre/\V=(pop P wz h S op).val
 else WE P op=1/\V.okIn (fun k=>(H0 k).isSome)/\∀g,(∀k b,H0 k=some b->g k=some b)->eop P wz g S op (fun x h'=>x=V/\h'=g)
def ZP(P:Program)(wz:World)(ops:List Oper)(H0:AHeap):List Oper->Slots->AHeap->(Slots->AHeap->Prop)->Prop
 |[],s,h,K=>K s h
 |o::rest,s,h,K=>
  if WE P o.op=0 then o.guard=none/\eop P wz h (s.keep (Qy ops o)) o.op (fun x h'=>ZP P wz ops H0 rest (putD s o.dst x) h' K)
  else match o.guard with
   |none=>∃V,qgH P wz H0 h (s.keep (Qy ops o)) o.op V/\ZP P wz ops H0 rest (putD s o.dst V) h K
   |some (j,want)=>match nthDst ops j with
    |none=>ZP P wz ops H0 rest (putD s o.dst (.tuple [])) h K
    |some d=>Wv (s.get d)=true/\∃V,(QG (s.get d) want=true->qgH P wz H0 h (s.keep (Qy ops o)) o.op V)/\ZP P wz ops H0 rest (putD s o.dst (Qf (QG (s.get d) want) V)) h K
theorem qcC{ops:List Oper}{K K':Slots->AHeap->Prop}(hk:∀s h,K s h->K' s h):∀{l:List Oper} {s:Slots} {h:AHeap},ZP P wz ops H0 l s h K->ZP P wz ops H0 l s h K'
 |[],s,h,hv=>hk _ _ hv
 |o::rest,s,h,hv=>by
  simp only[ZP]at hv|-
  split
  ·rename_i h0
   rw[if_pos h0]at hv;exact⟨hv.1,qdV hv.2 fun x h' hx=>qcC hk hx⟩
  ·rename_i h0
   rw[if_neg h0]at hv;split
   ·rename_i hg
    rw[hg]at hv;obtain⟨V,h1,h2⟩:=hv;exact⟨V,h1,qcC hk h2⟩
   ·rename_i j want hg
    rw[hg]at hv;simp only at hv;split
    ·rename_i hj
     rw[hj]at hv;exact qcC hk hv
    ·rename_i d hj
     rw[hj]at hv;obtain⟨h1,V,h2,h3⟩:=hv;exact⟨h1,V,h2,qcC hk h3⟩
def gOf(H0:AHeap)(N:Nat)(bl:List (Option Blk))(listed:Nat->Bool):AHeap:=fun k=>if N<=k then(bif listed (k-N)then bl.getD (k-N) none else none)else H0 k
def HH(wz:World)(H0:AHeap)(N:Nat)(bl:List (Option Blk))(listed:Array Bool)(Ps:PMap)(w:World):Prop:=
 HRel wz Ps (gOf H0 N bl fun i=>listed.getD i false) w/\∀i,i<bl.length->listed.getD i false=false->Ps (N+i)=none
def HeadStep(P:Program)(wz:World)(n:FrameK)(H0:AHeap)(l:List Oper)(N:Nat)(bl:List (Option Blk))(S:Slots)(i:Nat)(o:Oper)(V:AVal):Prop:=
 ∀(listed:Array Bool) (Ps:PMap) (w:World) (a:Act) (next:Act->World->Prop) (Q:Exit->Act->World->Prop),listed.getD i false=false->i<listed.size->HH wz H0 N bl listed Ps w->SRel Ps n (S.keep (Qy l o)) a->
  (∀ψ' v w',Ps.le ψ'->HH wz H0 N bl (listed.setIfInBounds i true) ψ' w'->VR ψ' V v->next (a.put o.dst v) w')->
  if Region.wanted o (yielded l.toArray a.tmps)=true then o.wp P a w next Q else next (a.put o.dst undef) w
theorem qiA{Ps:PMap}{H g:AHeap}(hg:∀k b,H k=some b->(Ps k).isSome=true->g k=some b){l:Loc}(hl:∀k,l= .own k->(Ps k).isSome=true\/False):∀(n o:Nat),allLive (cellsAt wz H l o n)=true->cellsAt wz g l o n=cellsAt wz H l o n
 |0,_,_=>rfl
 |n+1,o,ha=>by
  simp only[cellsAt,allLive,Ky]at ha|-
  rw[qiA hg hl n (o+1) ha.2];congr 1;cases l with
  |base b=>rfl
  |own k=>
   have hs:=(hl k rfl).resolve_right id;have h1:=ha.1;simp only[rd]at h1|-
   cases hH:H k with
   |none=>simp[hH,J5]at h1
   |some b=>simp[hg k b hH hs]
theorem rd_up{Ps:PMap}{H g:AHeap}(hg:∀k b,H k=some b->(Ps k).isSome=true->g k=some b){l:Loc}(hl:∀k,l= .own k->(Ps k).isSome=true)(o:Nat)(ha:(rd wz H l o).live=true):rd wz g l o=rd wz H l o:=by
 have:=qiA (wz:=wz) hg (l:=l) (fun k e=> .inl (hl k e)) 1 o (by simp[cellsAt,allLive,ha]);simpa[cellsAt]using this
theorem ptr_some{Ps:PMap}{l:Loc}{o:Nat}{v:Value}(h:VR Ps (.ptr l o) v):∀k,l= .own k->(Ps k).isSome=true:=by
 rintro k rfl;have:=UT _ _ h;simpa only[AVal.okIn]using this
theorem qfo{P:Program}{g H:AHeap}{b:Builtin}(hb:b≠ .len)(ts:Array TypeId)(xs:List AVal):WC P g b ts xs=WC P H b ts xs:=by
 unfold WC;generalize ts[0]?=q;cases b<;>first|exact absurd rfl hb|(rcases xs with _|⟨x,_|⟨y,xs⟩⟩<;>cases q<;>rfl)
theorem qhZ{P:Program}{g H:AHeap}(ts:Array TypeId)(xs:List AVal)(h:∀t x,ts[0]?=some t->xs=[x]->Ze P g t x=Ze P H t x):WC P g .len ts xs=WC P H .len ts xs:=by
 unfold WC;generalize hq:ts[0]?=q at h;rcases xs with _|⟨x,_|⟨y,xs⟩⟩<;>cases q<;>first|rfl|exact h _ _ rfl rfl
theorem pop_up{Ps:PMap}{H g:AHeap}{S:Slots}{a:Act}{op:Op}(hk:WE P op=2)(hg:∀k b,H k=some b->(Ps k).isSome=true->g k=some b)(hs:SRel Ps n S a)(hp:(pop P wz H S op).pre):pop P wz g S op=pop P wz H S op:=by
 cases op<;>first
  |rfl
  |skip
 case load t x=>
  simp only[pop]at hp|-
  have hx:=hs.ev x;cases hv:ev S x with
  |ptr l o=>
   rw[hv]at hx hp;have hl:=ptr_some hx;simp only[Yr]at hp|-
   split at hp
   ·rename_i h1 h2
    rw[qiA hg (fun k e=> .inl (hl k e)) _ _ hp]
   ·rename_i h1
    rw[rd_up hg hl _ hp]
   ·exact hp.elim
  |_=>rfl
 case convert src dst x=>
  simp only[pop]at hp|-
  have hx:=hs.ev x;cases hv:ev S x with
  |slice l o len c=>
   rw[hv]at hx hp;simp only[qdP]at hp|-
   split at hp<;>first|exact hp.elim|skip
   rename_i e h1 h2
   split at hp<;>first|exact hp.elim|skip
   rename_i h3
   by_cases hz:len=0
   ·subst hz;rfl
   ·have hl:∀k,l= .own k->(Ps k).isSome=true\/False:=by
     rintro k rfl;have:=UT _ _ hx;simp only[AVal.okIn]at this;cases c with
     |exact c=>exact .inl (this (.inr hz))
     |grow es=>exact .inl this
    rw[qiA hg hl _ _ (qdI hp)]
  |_=>rfl
 case lookup t x i ok=>
  simp only[pop]at hp|-
  have hx:=hs.ev x;cases hv:ev S x with
  |map k=>
   rw[hv]at hx hp;have hk2:(Ps k).isSome=true:=UT _ _ hx;simp only[qba]at hp|-
   split at hp<;>first|exact hp.elim|skip
   split at hp<;>first|exact hp.elim|skip
   split at hp<;>first|exact hp.elim|skip
   rename_i c es hm
   rw[qbY (hg k _ (WM hm) hk2)]
  |_=>rfl
 case call c=>
  obtain⟨callee,args,ts⟩:=c;cases callee with
  |builtin b=>
   have hvs:=hs.evs args.toList;have hp':(WC P H b ts (evs S args.toList)).pre:=hp;show WC P g b ts (evs S args.toList)=WC P H b ts (evs S args.toList)
   by_cases hb:b= .len
   ·subst hb
    refine qhZ _ _ fun t x hq hxs=>?_;rw[hxs]at hvs hp';simp only[WC,hq]at hp';simp only[Ze]at hp'|-
    cases hmt:qdi P t with
    |false=>rfl
    |true=>
     rw[hmt,cond_true]at hp';simp only[cond_true];simp only[VRs]at hvs;obtain⟨u,_,_,hx,_⟩:=hvs;cases x with
     |map k=>
      have hk2:(Ps k).isSome=true:=UT _ _ hx;unfold qnw at hp'|-
      split at hp'<;>first|exact hp'.elim|rfl|skip
      rename_i k' _ e
      cases e;split at hp'<;>first|exact hp'.elim|skip
      rename_i c es hm
      rw[qbY (hg k _ (WM hm) hk2)]
     |_=>
      unfold qnw;cases P.underlying t with
      |none=>rfl
      |some d=>cases d<;>rfl
   ·exact qfo hb _ _
  |_=>rfl
theorem gOf_set{H0:AHeap}{N:Nat}{bl:List (Option Blk)}{i:Nat}{b:Blk}(hb:bl.getD i none=some b){listed:Array Bool}(hsz:i<listed.size):
 (gOf H0 N bl fun j=>listed.getD j false).set (N+i) b=gOf H0 N bl fun j=>(listed.setIfInBounds i true).getD j false:=by
 funext k;simp only[gOf,AHeap.set];by_cases e:k=N+i
 ·subst e
  rw[if_pos rfl,if_pos (by omega),show N+i-N=i by omega,set_self hsz,hb];rfl
 ·rw[if_neg e]
  by_cases hN:N<=k
  ·rw[if_pos hN,if_pos hN,Xu (by omega)]
  ·rw[if_neg hN,if_neg hN]
theorem gOf_none{H0:AHeap}{N:Nat}{bl:List (Option Blk)}{i:Nat}(hb:bl.getD i none=none){listed:Array Bool}:
 (gOf H0 N bl fun j=>(listed.setIfInBounds i true).getD j false)=gOf H0 N bl fun j=>listed.getD j false:=by
 funext k;simp only[gOf];by_cases hN:N<=k
 ·rw[if_pos hN,if_pos hN]
  by_cases e:k-N=i
  ·rw[e,hb];simp
  ·rw[Xu e]
 ·rw[if_neg hN,if_neg hN]
theorem HH.quiet{N:Nat}{bl:List (Option Blk)}{i:Nat}(hb:bl.getD i none=none){listed:Array Bool}{Ps:PMap}{w:World}(h:HH wz H0 N bl listed Ps w):HH wz H0 N bl (listed.setIfInBounds i true) Ps w:=by
 refine⟨by rw[gOf_none hb];exact h.1,fun j hj hl=>h.2 j hj ?_⟩;by_cases e:j=i
 ·subst e
  cases hc:listed.getD j false with
  |false=>rfl
  |true=>
   have hsz:j<listed.size:=by
    refine J6 fun hge=>?_;simp[JE,Nat.not_lt.2 hge]at hc
   rw[set_self hsz]at hl;cases hl
 ·rwa [Xu e]at hl
theorem HeadStep.of_step{l:List Oper}(hall:Qv n l=true){N:Nat}(hN:∀j,N<=j->H0 j=none){bl:List (Option Blk)}{H:AHeap}{i:Nat}(hH:∀k b,H k=some b->k<N/\H0 k=some b\/N<=k/\k-N<bl.length/\bl.getD (k-N) none=some b)(hb:bl.getD i none=none){S:Slots}{o:Oper}{V:AVal}
 (hstep:qgH P wz H0 H (S.keep (Qy l o)) o.op V) {Ps:PMap} {w:World} {a:Act} {listed:Array Bool} {next:Act->World->Prop} {Q:Exit->Act->World->Prop} (hh:HH wz H0 N bl listed Ps w) (hs:SRel Ps n (S.keep (Qy l o)) a)
 (hn:∀ψ' v w',Ps.le ψ'->HH wz H0 N bl (listed.setIfInBounds i true) ψ' w'->VR ψ' V v->next (a.put o.dst v) w'):o.wp P a w next Q:=by
 unfold qgH at hstep;split at hstep
 ·rename_i hk
  obtain⟨h1,h2⟩:=hstep;have hup:∀k b,H k=some b->(Ps k).isSome=true->(gOf H0 N bl fun j=>listed.getD j false) k=some b:=by
   intro k b hb' hs';simp only[gOf];rcases hH k b hb' with⟨c1,c2⟩|⟨c1,c2,c3⟩
   ·rw[if_neg (by omega)];exact c2
   ·rw[if_pos c1]
    cases hl:listed.getD (k-N) false with
    |true=>simpa using c3
    |false=>
     have:=hh.2 (k-N) c2 hl;rw[show N+(k-N)=k by omega]at this;rw[this]at hs';cases hs'
  have e:=pop_up (P:=P) (wz:=wz) (n:=n) hk hup hs h1;obtain⟨r,e1,e2⟩:=qjf o (by rw[e];exact h1) hh.1 hs;rw[e,<-h2]at e2;exact XG (e1 w (J7 w)) (hn Ps r w Ps.le_refl (hh.quiet hb) e2)
 ·obtain⟨_,hok,he⟩:=hstep
  have hsub:∀k b,H0 k=some b->(gOf H0 N bl fun j=>listed.getD j false) k=some b:=by
   intro k b hb';have hlt:k<N:=by
    refine J6 fun hge=>?_;rw[hN k hge]at hb';cases hb'
   simp only[gOf];rw[if_neg (by omega)];exact hb'
  refine qhm o (he _ hsub) hh.1 hs fun ψ' x h' v w' h1 h2 h3 ⟨e1,e2⟩=>?_;subst e1 e2;have hle:Ps.le fun k=>if N<=k/\k-N<bl.length/\listed.getD (k-N) false=false then none else ψ' k:=by
   intro k p hp;simp only;rw[if_neg]
   ·exact h1 k p hp
   ·rintro⟨c1,c2,c3⟩
    have:=hh.2 (k-N) c2 c3;rw[show N+(k-N)=k by omega,hp]at this;cases this
  have hlt:(PMap.le (fun k=>if N<=k/\k-N<bl.length/\listed.getD (k-N) false=false then none else ψ' k) ψ'):=by
   intro k p hp;simp only at hp;split at hp
   ·cases hp
   ·exact hp
  have hsame:∀k,(Ps k).isSome=true->ψ' k=(fun k=>if N<=k/\k-N<bl.length/\listed.getD (k-N) false=false then none else ψ' k) k:=by
   intro k hk;obtain⟨p,hp⟩:=Option.isSome_iff_exists.1 hk;rw[hle k p hp,h1 k p hp]
  refine hn _ v w' hle (HH.quiet hb ⟨hh.1.limit h2 hlt hsame,fun j hj hl=>?_⟩) (qfJ (f:=fun k=>(H0 k).isSome) (fun k hk=>?_) _ _ hok h3)
  ·simp only
   rw[if_pos ⟨by omega,by rw[show N+j-N=j by omega];exact hj,by rw[show N+j-N=j by omega];exact hl⟩]
  ·have hlt:k<N:=by
    refine J6 fun hge=>?_;simp[hN k hge]at hk
   rw[if_neg (by omega)]
theorem HeadStep.lay{l:List Oper}{N:Nat}{bl:List (Option Blk)}{i:Nat}(hil:i<bl.length){S:Slots}{o:Oper}{val:Nat->AVal}{b:Blk}(hb:bl.getD i none=some b)(hg:o.guard=none)
 (hlay:∀{w:World} {fi:PMap} {g:AHeap} {a:Act} {next:Act->World->Prop} {Q:Exit->Act->World->Prop},HRel wz fi g w->SRel fi n (S.keep (Qy l o)) a->g (N+i)=none->fi (N+i)=none->
   (∀p v w',HRel wz (fi.upd (N+i) p) (g.set (N+i) b) w'->VR (fi.upd (N+i) p) (val (N+i)) v->next (a.put o.dst v) w')->o.wp P a w next Q):HeadStep P wz n H0 l N bl S i o (val (N+i)):=by
 intro listed Ps w a next Q hl hsz hh hs hn;have hw:Region.wanted o (yielded l.toArray a.tmps)=true:=by simp[Region.wanted,hg]
 rw[if_pos hw];have hφ:=hh.2 i hil hl;refine hlay hh.1 hs (by simp only[gOf];rw[if_pos (by omega),show N+i-N=i by omega,hl];rfl) hφ fun p v w' h1 h2=>?_;refine hn _ v w' (PMap.le_upd hφ p) ⟨by rw[<-gOf_set hb hsz];exact h1,fun j hj hl'=>?_⟩ h2;have e:j≠i:=fun e=>by subst e;rw[set_self hsz]at hl';cases hl'
 rw[Xu e]at hl';have:=hh.2 j hj hl';simp only[JZ];rw[if_neg (by omega)];exact this
theorem HeadStep.one{l:List Oper}(hall:Qv n l=true){N:Nat}(hN:∀j,N<=j->H0 j=none){bl:List (Option Blk)}{H:AHeap}{i:Nat}(hH:∀k b,H k=some b->k<N/\H0 k=some b\/N<=k/\k-N<bl.length/\bl.getD (k-N) none=some b)(hb:bl.getD i none=none){S:Slots}{o:Oper}{V:AVal}(hg:o.guard=none)
 (hstep:qgH P wz H0 H (S.keep (Qy l o)) o.op V):HeadStep P wz n H0 l N bl S i o V:=by
 intro listed Ps w a next Q _ _ hh hs hn;have hw:Region.wanted o (yielded l.toArray a.tmps)=true:=by simp[Region.wanted,hg]
 rw[if_pos hw];exact HeadStep.of_step hall hN hH hb hstep hh hs hn
theorem HeadStep.guarded{l:List Oper}(hall:Qv n l=true){N:Nat}(hN:∀j,N<=j->H0 j=none){bl:List (Option Blk)}{H:AHeap}{i:Nat}(hH:∀k b,H k=some b->k<N/\H0 k=some b\/N<=k/\k-N<bl.length/\bl.getD (k-N) none=some b)(hb:bl.getD i none=none){S:Slots}{o:Oper}{V:AVal}{j d:Nat}{want:Bool}(hg:o.guard=some (j,want))(hj:nthDst l j=some d)(hk:Wv (S.get d)=true)
 (hstep:QG (S.get d) want=true->qgH P wz H0 H (S.keep (Qy l o)) o.op V):HeadStep P wz n H0 l N bl S i o (Qf (QG (S.get d) want) V):=by
 intro listed Ps w a next Q _ _ hh hs hn;have hd:(S.keep (Qy l o)).get d=S.get d:=by
  rw[JQ,if_pos];simp[Qy,hg,hj]
 have hw:Region.wanted o (yielded l.toArray a.tmps)=QG (S.get d) want:=by
  have:=qdU hs l j d hj (qdE l j d hall hj) (by rw[hd];exact hk) want;rw[hd]at this;simp only[Region.wanted,hg];exact this
 cases hb':QG (S.get d) want with
 |true=>
  rw[hw,hb',if_pos rfl];rw[hb']at hn;exact HeadStep.of_step hall hN hH hb (hstep hb') hh hs hn
 |false=>
  rw[hw,hb',if_neg (by decide)];rw[hb']at hn;exact hn Ps undef w Ps.le_refl (hh.quiet hb) (Wl Ps)
theorem HeadStep.never{l:List Oper}{N:Nat}{bl:List (Option Blk)}{i:Nat}(hb:bl.getD i none=none){S:Slots}{o:Oper}{j:Nat}{want:Bool}(hg:o.guard=some (j,want))(hj:nthDst l j=none):HeadStep P wz n H0 l N bl S i o (.tuple []):=by
 intro listed Ps w a next Q _ _ hh hs hn;have hd:(l.toArray[j]?).bind (·.dst)=none:=by rw[<-hj,Yf];simp
 have hw:Region.wanted o (yielded l.toArray a.tmps)=false:=by
  simp only[Region.wanted,hg,yielded,hd];rfl
 rw[if_neg (by rw[hw];decide)];exact hn Ps undef w Ps.le_refl (hh.quiet hb) (Wl Ps)
theorem gOf_at{N:Nat}(hN:∀j,N<=j->H0 j=none)(A B:List (Option Blk)):∀k b,(gOf H0 N A fun _=>true) k=some b->k<N/\H0 k=some b\/N<=k/\k-N<(A++B).length/\(A++B).getD (k-N) none=some b:=by
 intro k b h;simp only[gOf]at h;by_cases c:N<=k
 ·rw[if_pos c]at h
  simp only[cond_true]at h;right;have hlt:k-N<A.length:=by
   refine J6 fun hge=>?_;simp[Ko,Kr hge]at h
  refine⟨c,by simp;omega,?_⟩;simpa[Ko,Jc,hlt]using h
 ·rw[if_neg c]at h
  exact .inl ⟨by omega,h⟩
theorem gOf_of{N:Nat}(hN:∀j,N<=j->H0 j=none){C:List (Option Blk)}{k:Nat}{b:Blk}(h:k<N/\H0 k=some b\/N<=k/\k-N<C.length/\C.getD (k-N) none=some b):(gOf H0 N C fun _=>true) k=some b:=by
 simp only[gOf,cond_true];rcases h with⟨c,e⟩|⟨c,_,e⟩
 ·rw[if_neg (by omega)];exact e
 ·rw[if_pos c];exact e
theorem gOf_push{N:Nat}(A:List (Option Blk))(b:Blk):(gOf H0 N A fun _=>true).set (N+A.length) b=gOf H0 N (A++[some b]) fun _=>true:=by
 funext k;simp only[gOf,AHeap.set,cond_true];by_cases e:k=N+A.length
 ·subst e
  rw[if_pos rfl,if_pos (by omega),show N+A.length-N=A.length by omega];simp[Ko]
 ·rw[if_neg e]
  by_cases c:N<=k
  ·rw[if_pos c,if_pos c]
   rcases KU (k-N) A.length with c2|c2
   ·simp[Ko,Jc,c2]
   ·have h1:A[k-N]?=none:=Kr c2
    have h2:(A++[some b])[k-N]?=none:=Kr (by simp;omega);simp[Ko,h1,h2]
  ·rw[if_neg c,if_neg c]
theorem qlO{N:Nat}(A:List (Option Blk)):(gOf H0 N A fun _=>true)=gOf H0 N (A++[none]) fun _=>true:=by
 funext k;simp only[gOf,cond_true];by_cases c:N<=k
 ·rw[if_pos c,if_pos c]
  rcases Nat.lt_trichotomy (k-N) A.length with c2|c2|c2
  ·simp[Ko,Jc,c2]
  ·have h1:A[k-N]?=none:=Kr (by omega)
   simp[Ko,c2]
  ·have h1:A[k-N]?=none:=Kr (by omega)
   have h2:(A++[none])[k-N]?=none:=Kr (by simp;omega);simp[Ko,h1,h2]
 ·rw[if_neg c,if_neg c]
theorem qma{l:List Oper}(hall:Qv n l=true){N:Nat}(hN:∀j,N<=j->H0 j=none)(hNt:∀i,i<l.length->qaT (N+i)=none)(tl:List Oper){s:Slots}{K:Slots->AHeap->Prop}:∀(rest pre:List Oper) (A:List AVal) (B:List (Option Blk)),l=pre++rest++tl->A.length=pre.length->B.length=pre.length->
 ZP P wz l H0 rest (QA s l A pre.length) (gOf H0 N B fun _=>true) K->
 ∃A' B',A'.length=rest.length/\B'.length=rest.length/\
  (∀i o,pre.length<=i->i<pre.length+rest.length->l[i]?=some o->
    (B++B').length=pre.length+rest.length/\HeadStep P wz n H0 l N (B++B') (QA s l (A++A') i) i o ((A++A').getD i .dead)/\(WE P o.op=2->(B++B').getD i none=none/\(o.guard=none->∃H,(∀j b,H j=some b->(gOf H0 N (B++B') fun _=>true) j=some b)/\(pop P wz H ((QA s l (A++A') i).keep (Qy l o)) o.op).pre/\(A++A').getD i .dead=(pop P wz H ((QA s l (A++A') i).keep (Qy l o)) o.op).val)))/\
  K (QA s l (A++A') (pre.length+rest.length)) (gOf H0 N (B++B') fun _=>true)
 |[],pre,A,B,hl,hA,hB,hv=>⟨[],[],rfl,rfl,fun i o h1 h2 _=>by simp at h2;omega,by simpa[ZP]using hv⟩
 |o::rest,pre,A,B,hl,hA,hB,hv=>by
  have hat:l[pre.length]?=some o:=by rw[hl];simp
  have hAt:∀V A',(A++V::A').getD pre.length .dead=V:=fun V A'=>by simp[Ko,<-hA]
  have hBt:∀b B',(B++b::B').getD pre.length none=b:=fun b B'=>by simp[Ko,<-hB]
  have hS:∀V,QA s l (A++[V]) (pre++[o]).length=putD (QA s l A pre.length) o.dst V:=fun V=>by
   rw[Jd,JH,QA,hat];simp only;rw[Uh s l A [V] _ (by omega)];congr 1;simp[Ko,<-hA]
  have go:∀(V:AVal) (b:Option Blk),(∀(A':List AVal) (B':List (Option Blk)),(B++b::B').length=pre.length+(o::rest).length->HeadStep P wz n H0 l N (B++b::B') (QA s l A pre.length) pre.length o V)->
   (WE P o.op=2->b=none/\(o.guard=none->∃H,(∀B' j b',H j=some b'->(gOf H0 N (B++b::B') fun _=>true) j=some b')/\(pop P wz H ((QA s l A pre.length).keep (Qy l o)) o.op).pre/\V=(pop P wz H ((QA s l A pre.length).keep (Qy l o)) o.op).val))->
   ZP P wz l H0 rest (putD (QA s l A pre.length) o.dst V) (gOf H0 N (B++[b]) fun _=>true) K->
   ∃A' B',A'.length=(o::rest).length/\B'.length=(o::rest).length/\
    (∀i o',pre.length<=i->i<pre.length+(o::rest).length->l[i]?=some o'->
      (B++B').length=pre.length+(o::rest).length/\HeadStep P wz n H0 l N (B++B') (QA s l (A++A') i) i o' ((A++A').getD i .dead)/\(WE P o'.op=2->(B++B').getD i none=none/\(o'.guard=none->∃H,(∀j b,H j=some b->(gOf H0 N (B++B') fun _=>true) j=some b)/\(pop P wz H ((QA s l (A++A') i).keep (Qy l o')) o'.op).pre/\(A++A').getD i .dead=(pop P wz H ((QA s l (A++A') i).keep (Qy l o')) o'.op).val)))/\
    K (QA s l (A++A') (pre.length+(o::rest).length)) (gOf H0 N (B++B') fun _=>true):=by
   intro V b hst hpo hv';obtain⟨A',B',h1,h2,h3,h4⟩:=qma hall hN hNt tl rest (pre++[o]) (A++[V]) (B++[b]) (by simp[hl]) (by simp[hA]) (by simp[hB]) (by rw[hS];exact hv');have hlen:(B++b::B').length=pre.length+(o::rest).length:=by simp[hB,h2]
   refine⟨V::A',b::B',by simp[h1],by simp[h2],fun i o' hi hi' ho'=>?_,?_⟩
   ·rcases JA hi with e'|e'
    ·subst e'
     rw[hat]at ho';obtain rfl:=Option.some.inj ho';rw[Uh s l A (V::A') _ (by omega),hAt];rw[hBt];exact⟨hlen,hst A' B' hlen,fun e=>⟨(hpo e).1,fun e'=>(hpo e).2 e' |>.elim fun H ⟨q0,q1⟩=>⟨H,q0 B',q1⟩⟩⟩
    ·have:=h3 i o' (by simp;omega) (by simp at hi'|-;omega) ho'
     refine⟨hlen,?_⟩;simpa using this.2
   ·have e:pre.length+(o::rest).length=(pre++[o]).length+rest.length:=by simp;omega
    rw[e];simpa using h4
  simp only[ZP]at hv;split at hv
  ·rename_i hk
   obtain⟨hg,he⟩:=hv;obtain⟨val,b,hc,hlay⟩:=lay_ok hk he;have hfree:(gOf H0 N B fun _=>true) (N+B.length)=none:=by
    simp only[gOf];rw[if_pos (by omega),show N+B.length-N=B.length by omega];simp[Ko]
   have hc':=hc (N+B.length) hfree;rw[gOf_push]at hc';refine go (val (N+B.length)) (some b) (fun A' B' hlen=>?_) (fun e=>by rw[hk]at e;cases e) hc';rw[hB];exact HeadStep.lay (by rw[hlen];simp) (hBt _ _) hg fun h1 h2 h3 h4 h5=>hlay (N+pre.length) o rfl h1 h2 h3 h4 (hNt _ (by rw[hl];simp)) h5
  ·rename_i hk
   have hH:=fun b B'=>gOf_at (H0:=H0) hN B (b::B');split at hv
   ·rename_i hg
    obtain⟨V,h1,h2⟩:=hv;rw[qlO]at h2;refine go V none (fun A' B' _=>HeadStep.one hall hN (hH none B') (hBt _ _) hg h1) (fun e=>⟨rfl,fun _=>?_⟩) h2;unfold qgH at h1;rw[if_pos e]at h1;exact⟨_,fun B' j b' hb'=>gOf_of hN (hH none B' j b' hb'),h1⟩
   ·rename_i j want hg
    split at hv
    ·rename_i hj
     rw[qlO]at hv;exact go _ none (fun A' B' _=>HeadStep.never (hBt _ _) hg hj) (fun _=>⟨rfl,fun e=>by rw[hg]at e;cases e⟩) hv
    ·rename_i d hj
     obtain⟨hk',V,h1,h2⟩:=hv;rw[qlO]at h2;exact go _ none (fun A' B' _=>HeadStep.guarded hall hN (hH none B') (hBt _ _) hg hj hk' h1) (fun _=>⟨rfl,fun e=>by rw[hg]at e;cases e⟩) h2
def qii(P:Program):Op->Bool
 | .load _ _=>false
 | .convert _ _ _=>false
 | .lookup _ _ _ _=>false
 | .call c=>match c.callee,c.argTypes[0]? with
   | .builtin .len,some t=> !qdi P t
   |_,_=>true
 |_=>true
def isLoad:Op->Bool
 | .load _ _=>true
 |_=>false
def qjn(l:List Oper)(ks:List Nat)(s:Slots):List Nat->Prop
 |[]=>True
 |i::r=>(match l[i]? with
   |some o=>(match o.op with
    | .load _ x=>(match ev s x with
      | .ptr (.own k) _=>k∈ks
      | .ptr (.base _) _=>True
      |_=>False)
    |_=>True)
   |none=>True)/\qjn l ks s r
theorem qlJ{l:List Oper}{ks:List Nat}{s:Slots}:∀{late:List Nat},qjn l ks s late->∀i∈late,∀o t x,l[i]?=some o->o.op= .load t x->(∃k p,ev s x= .ptr (.own k) p/\k∈ks)\/∃b p,ev s x= .ptr (.base b) p
 |j::r,h,i,hi,o,t,x,ho,hop=>by
  simp only[qjn]at h;rcases KY.1 hi with e|e
  ·subst e
   have h1:=h.1;simp only[ho,hop]at h1;split at h1
   ·rename_i k p hv;exact .inl ⟨k,p,hv,h1⟩
   ·rename_i b p hv;exact .inr ⟨b,p,hv⟩
   ·exact h1.elim
  ·exact qlJ h.2 i e o t x ho hop
def kOps(P:Program)(wz:World)(ks:List Nat):List Oper->Slots->AHeap->(Slots->AHeap->Prop)->Prop
 |[],s,h,K=>K s h
 |o::rest,s,h,K=>o.guard=none/\eop P wz h s o.op fun x h'=>(∀k∈ks,h' k=h k)/\kOps P wz ks rest (putD s o.dst x) h' K
theorem qig{ops:List Oper}{K:Slots->AHeap->Prop}:∀{l:List Oper} {s:Slots} {h:AHeap},(∀o∈l,o.guard=none)->Qp P wz ops l s h K->kOps P wz [] l s h K
 |[],_,_,_,ha=>ha
 |o::r,s,h,hg,ha=>by
  have h0:=hg o Jg;simp only[Qp,h0]at ha;exact⟨h0,qdV ha fun x h' hx=>⟨fun k hk=>(by cases hk),qig (fun o ho=>hg o (Jh _ ho)) hx⟩⟩
theorem load_same{H g:AHeap}{S:Slots}{t:TypeId}{x:Operand}(hx:(∃k p,ev S x= .ptr (.own k) p/\∀b,H k=some b->g k=some b)\/∃b p,ev S x= .ptr (.base b) p)(hp:(pop P wz H S (.load t x)).pre):pop P wz g S (.load t x)=pop P wz H S (.load t x):=by
 simp only[pop]at hp|-
 rcases hx with⟨k,p,hv,hg⟩|⟨b,p,hv⟩
 ·rw[hv]at hp|-
  have up:∀(n o:Nat),allLive (cellsAt wz H (.own k) o n)=true->cellsAt wz g (.own k) o n=cellsAt wz H (.own k) o n:=by
   intro n;induction n with
   |zero=>intro o _;rfl
   |succ n ih=>
    intro o ha;simp only[cellsAt,allLive,Ky]at ha|-
    rw[ih (o+1) ha.2];congr 1;have h1:=ha.1;simp only[rd]at h1|-
    cases hH:H k with
    |none=>simp[hH,J5]at h1
    |some b=>simp[hg b hH]
  simp only[Yr]at hp|-
  split at hp
  ·rw[up _ _ hp]
  ·have:=up 1 p (by simp only[cellsAt,allLive,J8];exact hp)
   simp only[cellsAt,List.cons.injEq,and_true]at this;rw[this]
  ·exact hp.elim
 ·rw[hv]at hp|-
  have same:∀(n o:Nat),cellsAt wz g (.base b) o n=cellsAt wz H (.base b) o n:=by
   intro n;induction n with
   |zero=>intro o;rfl
   |succ n ih=>intro o;simp only[cellsAt];rw[ih];rfl
  simp only[Yr,same];rfl
theorem qoo{g H:AHeap}{S:Slots}{op:Op}(h:qii P op=true):pop P wz g S op=pop P wz H S op:=by
 cases op<;>first
  |rfl
  |(cases h;done)
  |skip
 case call c=>
  obtain⟨callee,args,ts⟩:=c;cases callee with
  |builtin b=>
   show WC P g b ts (evs S args.toList)=WC P H b ts (evs S args.toList)
   by_cases hb:b= .len
   ·subst hb
    refine qhZ _ _ fun t x hq hxs=>?_;simp only[qii,hq,Jj]at h;simp only[Ze,h,cond_false]
   ·exact qfo hb _ _
  |_=>rfl
def qlR(P:Program)(l:List Oper)(k:Nat)(late:List Nat):Bool:=
 qaE l && decide (k<=l.length) && (late.all fun i=>decide (i<k)) &&
 ((KP k).all fun i=>if late.contains i then(match l[i]? with|some o=>o.guard.isNone && (qii P o.op||isLoad o.op) && (WE P o.op==2) && (KP k).all (fun j=>decide (j<=i)||match l[j]? with|some oj=>(match oj.dst with|some t=> !(Qy l o).contains t|none=>true)|none=>true)|none=>true)
   else decide (k=l.length)||(KP (k+1)).any fun j=>decide (i<j) && !late.contains j && Region.waitsFor .any l.toArray j i) &&
 ((KP l.length).all fun t=>decide (t<k)||((match l[t]? with|some o=>o.guard.isNone|none=>true) && (decide (t=k)||Region.waitsFor .any l.toArray t (t-1))))
structure FloatS(P:Program)(l:List Oper)(k:Nat)(late:List Nat):Prop where
 order:qaE l=true
 kle:k<=l.length
 latek:∀i,late.contains i=true->i<k
 lateo:∀i o,late.contains i=true->l[i]?=some o->o.guard=none/\(qii P o.op=true\/isLoad o.op=true)/\WE P o.op=2
 latew:∀i o,late.contains i=true->l[i]?=some o->∀j oj t,i<j->j<k->l[j]?=some oj->oj.dst=some t->t∉Qy l o
 sink:∀i,i<k->late.contains i=false->k<l.length->∃j,i<j/\j<=k/\late.contains j=false/\Region.waitsFor .any l.toArray j i=true
 tailg:∀t o,k<=t->l[t]?=some o->o.guard=none
 chain:∀t,k<t->t<l.length->Region.waitsFor .any l.toArray t (t-1)=true
theorem qke{l:List Oper}{k:Nat}{late:List Nat}(h:qlR P l k late=true):FloatS P l k late:=by
 unfold qlR at h;simp only[Ky,decide_eq_true_eq,JB,JC]at h;obtain⟨⟨⟨⟨h1,h2⟩,h3⟩,h4⟩,h5⟩:=h;have hlk:∀i,late.contains i=true->i<k:=fun i hi=>by
  have:=h3 i (by simpa using hi);simpa using this
 refine⟨h1,h2,hlk,fun i o hi ho=>?_,fun i o hi ho j oj t hij hjk hj hd=>?_,fun i hi hl hk=>?_,fun t o ht ho=>?_,fun t ht htl=>?_⟩
 ·have:=h4 i (hlk i hi)
  rw[if_pos hi,ho]at this;simp only[Ky,beq_iff_eq,J9,JJ]at this;exact⟨this.1.1.1,this.1.1.2,this.1.2⟩
 ·have:=h4 i (hlk i hi)
  rw[if_pos hi,ho]at this;simp only[Ky,JB,JC]at this;have h6:=this.2 j hjk;rw[hj]at h6;simp only[hd,JJ,decide_eq_true_eq,Jj]at h6;rcases h6 with e|e
  ·omega
  ·intro hm
   rw[<-Va]at hm;rw[hm]at e;cases e
 ·have:=h4 i hi
  rw[if_neg (by rw[hl];decide)]at this;simp only[JJ,decide_eq_true_eq]at this;rcases this with e|e
  ·omega
  ·rw[Vb]at e
   obtain⟨j,hj,e⟩:=e;simp only[Ky,decide_eq_true_eq,Jj]at e;rw[JC]at hj;exact⟨j,e.1.1,by omega,e.1.2,e.2⟩
 ·have hlt:=(Jz.1 ho).1
  have:=h5 t hlt;rw[ho]at this;simp only[JJ,decide_eq_true_eq,Ky,J9]at this;rcases this with e|e
  ·omega
  ·exact e.1
 ·have:=h5 t htl
  simp only[JJ,decide_eq_true_eq,Ky]at this;rcases this with e|⟨_,e|e⟩
  ·omega
  ·omega
  ·exact e
structure InvF(l:List Oper)(k:Nat)(Vs:List AVal)(s:Slots)(Ps:PMap)(n:FrameK)(listed:Array Bool)(a:Act):Prop where
 size:listed.size=l.length
 closed:∀j oj,l[j]?=some oj->listed.getD j false=true->∀e∈oj.after,Region.binds .any e=true->listed.getD e.on false=true
 tsize:a.tmps.size=n
 defers:a.defers=n.dfr
 done:∀t j oj,j<k->l[j]?=some oj->oj.dst=some t->listed.getD j false=true->VR Ps (Vs.getD j .dead) (a.tmps.getD t undef)
 still:∀t,(∀j oj,l[j]?=some oj->oj.dst=some t->listed.getD j false=false)->VR Ps (s.get t) (a.tmps.getD t undef)
theorem UM(a:Act){d:Option Tmp}{v:Value}{t:Nat}(hne:d≠some t):(a.put d v).tmps.getD t undef=a.tmps.getD t undef:=qpZ a d v hne
theorem qaD(a:Act){d:Option Tmp}{v:Value}{t:Nat}(hd:d=some t)(ht:t<a.tmps.size):(a.put d v).tmps.getD t undef=v:=by rw[hd];simp[Act.put,ht]
theorem qfk(a:Act)(d:Option Tmp)(v:Value):(a.put d v).tmps.size=a.tmps.size:=by cases d<;>simp[Act.put]
theorem put_defers(a:Act)(d:Option Tmp)(v:Value):(a.put d v).defers=a.defers:=by cases d<;>simp[Act.put]
theorem InvF.looks{l:List Oper}{k:Nat}(hB:qaE l=true){Vs:List AVal}{s:Slots}{Ps:PMap}{listed:Array Bool}{a:Act}(inv:InvF l k Vs s Ps n listed a){i:Nat}(hik:i<k){o:Oper}(hol:l[i]?=some o)(hif:listed.getD i false=false)
 (hedges:∀e∈o.after,Region.binds .any e=true->listed.getD e.on false=true):SRel Ps n ((QA s l Vs i).keep (Qy l o)) a:=by
 have hilt:i<l.length:=(Jz.1 hol).1;have spec:=XR hB hol;refine⟨inv.tsize,inv.defers,fun t=>?_⟩;rw[JQ];by_cases ht:(Qy l o).contains t=true
 ·rw[if_pos ht]
  have ht':t∈Qy l o:=by simpa using ht
  by_cases hw:∃(j:Nat) (oj:Oper),l[j]?=some oj/\oj.dst=some t
  ·obtain⟨j,oj,hj,hd⟩:=hw
   rcases(spec.2 j oj t hj hd).2 ht' with⟨c1,c2⟩|⟨c1,c2⟩
   ·rw[UK hB s Vs hj hd i c1 (by omega)]
    refine inv.done t j oj (by omega) hj hd ?_;obtain⟨oi,g1,e,g2,g3,g4⟩:=Region.waitsFor_spec c2;have g1':l[i]?=some oi:=by simpa using g1
    rw[hol]at g1';obtain rfl:=Option.some.inj g1';rw[<-g4];exact hedges e g2 g3
   ·rw[Ym s Vs i fun j' oj' hj'' hj' hd'=>by
     have:=((XR hB hj').2 j oj t hj hd).1 hd';omega]
    refine inv.still t fun j' oj' hj' hd'=>?_;have e:=((XR hB hj').2 j oj t hj hd).1 hd';subst e;cases hl:listed.getD j' false with
    |false=>rfl
    |true=>
     exfalso;obtain⟨oi,g1,e,g2,g3,g4⟩:=Region.waitsFor_spec c2;have g1':l[j']?=some oi:=by simpa using g1
     have:=inv.closed j' oi g1' hl e g2 g3;rw[g4,hif]at this;cases this
  ·rw[Ym s Vs i fun j oj _ hj hd=>hw ⟨j,oj,hj,hd⟩]
   exact inv.still t fun j oj hj hd=>absurd ⟨j,oj,hj,hd⟩ hw
 ·rw[if_neg ht]
  trivial
theorem InvF.next{l:List Oper}{k:Nat}(hall:Qv n l=true)(hB:qaE l=true){Vs:List AVal}{s:Slots}{Ps ψ':PMap}(hle:Ps.le ψ'){listed:Array Bool}{a:Act}(inv:InvF l k Vs s Ps n listed a){i:Nat}{o:Oper}(hol:l[i]?=some o)
 (hedges:∀e∈o.after,Region.binds .any e=true->listed.getD e.on false=true) {v:Value} (hv:i<k->VR ψ' (Vs.getD i .dead) v):InvF l k Vs s ψ' n (listed.setIfInBounds i true) (a.put o.dst v):=by
 have hilt:i<l.length:=(Jz.1 hol).1;have hisz:i<listed.size:=by rw[inv.size];exact hilt
 have spec:=XR hB hol;have hdn:∀d,o.dst=some d->d<n:=fun d hd=>qdE l i d hall (by rw[Yf,hol];exact hd);refine⟨by simp[inv.size],fun j oj hj hl e he hb=>?_,by rw[qfk];exact inv.tsize,by rw[put_defers];exact inv.defers,fun t j oj hjk hj hd hl=>?_,fun t hun=>?_⟩
 ·by_cases e1:e.on=i
  ·rw[e1];exact set_self hisz
  ·rw[Xu e1]
   by_cases e2:j=i
   ·subst e2
    rw[hol]at hj;obtain rfl:=Option.some.inj hj;exact hedges e he hb
   ·rw[Xu e2]at hl
    exact inv.closed j oj hj hl e he hb
 ·by_cases e:j=i
  ·subst e
   rw[hol]at hj;obtain rfl:=Option.some.inj hj;rw[qaD a hd (by rw[inv.tsize];exact hdn t hd)];exact hv hjk
  ·rw[Xu e]at hl
   rw[UM a fun hod=>e (((spec.2 j oj t hj hd).1 hod).symm)];exact WG hle _ _ (inv.done t j oj hjk hj hd hl)
 ·have hne:o.dst≠some t:=fun hod=>by
   have:=hun i o hol hod;rw[set_self hisz]at this;cases this
  rw[UM a hne];refine WG hle _ _ (inv.still t fun j oj hj hd=>?_);have e:j≠i:=fun e=>by subst e;rw[hol]at hj;obtain rfl:=Option.some.inj hj;exact hne hd
  have:=hun j oj hj hd
  rwa [Xu e]at this
def qmB(P:Program)(wz:World)(l:List Oper)(k:Nat)(late ks:List Nat)(hf:AHeap)(Vs:List AVal)(K:Slots->AHeap->Prop)(listed:Array Bool)(Ps:PMap)(a:Act)(w:World):Prop:=
 ∃p S g,k<=p/\p<=l.length/\(∀t,k<=t->t<l.length->(listed.getD t false=true↔t<p))/\(∀i,i<k->late.contains i=false->listed.getD i false=true)/\HRel wz Ps g w/\kOps P wz ks (l.drop p) S g K/\(∀j∈ks,g j=hf j)/\
  (∀i oi t,i<k->l[i]?=some oi->oi.dst=some t->S.get t=Vs.getD i .dead)/\
  ∀t,(∃i oi,i<k/\l[i]?=some oi/\oi.dst=some t/\listed.getD i false=false)\/VR Ps (S.get t) (a.tmps.getD t undef)
def PhaseH(wz:World)(H0:AHeap)(l:List Oper)(k N:Nat)(bl:List (Option Blk))(listed:Array Bool)(Ps:PMap)(w:World):Prop:=
 (∀t,k<=t->t<l.length->listed.getD t false=false)/\HH wz H0 N bl listed Ps w
theorem head_done{l:List Oper}{k:Nat}{late:List Nat}(F:FloatS P l k late){Vs:List AVal}{s:Slots}{Ps:PMap}{listed:Array Bool}{a:Act}(inv:InvF l k Vs s Ps n listed a)(hkl:k<l.length)
 (hedges:∀o,l[k]?=some o->∀e∈o.after,Region.binds .any e=true->listed.getD e.on false=true):∀d i,i+d=k->i<k->late.contains i=false->listed.getD i false=true:=by
 intro d;induction d using Jv with
 |ind d ih=>
  intro i hd hik hl;obtain⟨j,h1,h2,h3,h4⟩:=F.sink i hik hl hkl;obtain⟨oj,g1,e,g2,g3,g4⟩:=Region.waitsFor_spec h4;have g1':l[j]?=some oj:=by simpa using g1
  rw[<-g4];rcases JA h2 with e'|e'
  ·subst e'
   exact hedges oj g1' e g2 g3
  ·exact inv.closed j oj g1' (ih (k-j) (by omega) j (by omega) e' h3) e g2 g3
theorem any_okF{l:List Oper}{k:Nat}{late ks:List Nat}(hall:Qv n l=true)(F:FloatS P l k late){s:Slots}{Vs:List AVal}{N:Nat}{bl:List (Option Blk)}(hbl:bl.length=k)
 (hst:∀i o,i<k->l[i]?=some o->HeadStep P wz n H0 l N bl (QA s l Vs i) i o (Vs.getD i .dead))
 (hlb:∀i,late.contains i=true->bl.getD i none=none)
 (hlo:qjn l ks (QA s l Vs k) late)
 (hlate:∀i o,late.contains i=true->l[i]?=some o->∃H,(∀j b,H j=some b->(gOf H0 N bl fun _=>true) j=some b)/\(pop P wz H ((QA s l Vs i).keep (Qy l o)) o.op).pre/\Vs.getD i .dead=(pop P wz H ((QA s l Vs i).keep (Qy l o)) o.op).val)
 {K:Slots->AHeap->Prop} (hK:kOps P wz ks (l.drop k) (QA s l Vs k) (gOf H0 N bl fun _=>true) K) {fi:PMap} {Q:Exit->Act->World->Prop}
 (hq:∀Ps S g a w,fi.le Ps->HRel wz Ps g w->SRel Ps n S a->K S g->Q .normal a w):∀(fuel:Nat) (listed:Array Bool) (a:Act) (w:World) (Ps:PMap),fi.le Ps->InvF l k Vs s Ps n listed a->
 (PhaseH wz H0 l k N bl listed Ps w\/qmB P wz l k late ks (gOf H0 N bl fun _=>true) Vs K listed Ps a w)->(listed.toList.filter (!·)).length<=fuel->wpAny P .any l.toArray Q fuel listed a w:=by
 have hB:=F.order;have turn:∀(listed:Array Bool) (a:Act) (w:World) (Ps:PMap),InvF l k Vs s Ps n listed a->PhaseH wz H0 l k N bl listed Ps w->(∀i,i<k->late.contains i=false->listed.getD i false=true)->qmB P wz l k late ks (gOf H0 N bl fun _=>true) Vs K listed Ps a w:=by
  intro listed a w Ps inv ⟨h1,h2,h3⟩ hd;have hS:∀i oi t,i<k->l[i]?=some oi->oi.dst=some t->(QA s l Vs k).get t=Vs.getD i .dead:=fun i oi t hi ho hdt=>UK hB s Vs ho hdt k hi F.kle;refine⟨k,_,_,KL _,F.kle,fun t ht htl=>?_,hd,?_,hK,fun _ _=>rfl,hS,fun t=>?_⟩
  ·rw[h1 t ht htl]
   simp;omega
  ·have e:(gOf H0 N bl fun i=>listed.getD i false)=gOf H0 N bl fun _=>true:=by
    funext j;simp only[gOf,cond_true];by_cases c:N<=j
    ·rw[if_pos c,if_pos c]
     cases hl:listed.getD (j-N) false with
     |true=>rfl
     |false=>
      simp only[cond_false];cases hc:late.contains (j-N)with
      |true=>exact(hlb _ hc).symm
      |false=>
       by_cases c2:j-N<k
       ·rw[hd _ c2 hc]at hl;cases hl
       ·have:bl[j-N]?=none:=Kr (by omega)
        simp[Ko,this]
    ·rw[if_neg c,if_neg c]
   rw[<-e];exact h2
  ·by_cases hw:∃i oi,i<k/\l[i]?=some oi/\oi.dst=some t
   ·obtain⟨i,oi,c1,c2,c3⟩:=hw
    cases hl:listed.getD i false with
    |false=>exact .inl ⟨i,oi,c1,c2,c3,hl⟩
    |true=>
     right;rw[hS i oi t c1 c2 c3];exact inv.done t i oi c1 c2 c3 hl
   ·right
    rw[Ym s Vs k fun j oj hj ho hd'=>hw ⟨j,oj,hj,ho,hd'⟩];refine inv.still t fun j oj ho hd'=>?_;rcases KU j k with c|c
    ·exact absurd ⟨j,oj,c,ho,hd'⟩ hw
    ·exact h1 j c (Jz.1 ho).1
 have fin:∀(listed:Array Bool) (a:Act) (w:World) (Ps:PMap),fi.le Ps->InvF l k Vs s Ps n listed a->(PhaseH wz H0 l k N bl listed Ps w\/qmB P wz l k late ks (gOf H0 N bl fun _=>true) Vs K listed Ps a w)->Region.ready .any l.toArray listed=[]->Q .normal a w:=by
  intro listed a w Ps hle inv hph hrd;have hal:=qeP hB inv.size hrd;have hT:qmB P wz l k late ks (gOf H0 N bl fun _=>true) Vs K listed Ps a w:=by
   rcases hph with hph|hph
   ·exact turn listed a w Ps inv hph fun i hi _=>hal i (by have:=F.kle;omega)
   ·exact hph
  obtain⟨p,S,g,h1,h2,h3,h4,h5,h6,_,h7,h8⟩:=hT;have hp:p=l.length:=by
   rcases JA h2 with e|e
   ·exact e
   ·have:=(h3 p h1 e).1 (hal p e)
    omega
  subst hp;rw[Vd]at h6;refine hq Ps S g a w hle h5 ⟨inv.tsize,inv.defers,fun t=>?_⟩ h6;rcases h8 t with⟨i,oi,c1,c2,_,c4⟩|c
  ·rw[hal i (Jz.1 c2).1]at c4;cases c4
  ·exact c
 intro fuel;induction fuel with
 |zero=>
  intro listed a w Ps hle inv hph hc;have hrd:Region.ready .any l.toArray listed=[]:=by
   cases hrd:Region.ready .any l.toArray listed with
   |nil=>rfl
   |cons i r=>
    exfalso;have hm:i∈Region.ready .any l.toArray listed:=by rw[hrd];exact Jg
    obtain⟨h1,o,ho,_⟩:=mem_ready.1 hm;have hi:i<listed.size:=by
     have:l[i]?=some o:=by simpa using ho
     rw[inv.size];exact(Jz.1 this).1
    have h2:listed.toList[i]?=some false:=by
     simp[JE,hi]at h1;simp[hi,h1]
    have:=JO h2;have hmem:false∈listed.toList.filter (!·):=by simp[JN,this]
    have:=JP hmem;omega
  exact⟨hrd,fin listed a w Ps hle inv hph hrd⟩
 |succ fuel ih=>
  intro listed a w Ps hle inv hph hc;refine⟨fun hrd=>fin listed a w Ps hle inv hph hrd,fun i hi=>?_⟩;obtain⟨h1,o,ho,hedges⟩:=mem_ready.1 hi;have hol:l[i]?=some o:=by simpa using ho
  have hilt:i<l.length:=(Jz.1 hol).1;have hisz:i<listed.size:=by rw[inv.size];exact hilt
  have hif:listed.getD i false=false:=by simp[JE,hisz]at h1|-;exact h1
  have hcount:((listed.setIfInBounds i true).toList.filter (!·)).length<=fuel:=by
   have h2:listed.toList[i]?=some false:=by
    simp[JE,hisz]at h1;simp[hisz,h1]
   have:=qcE listed.toList i h2;have e:(listed.setIfInBounds i true).toList=listed.toList.set i true:=by simp
   rw[e];omega
  have goal:(if Region.wanted o (yielded l.toArray a.tmps)=true then o.wp P a w (wpAny P .any l.toArray Q fuel (listed.setIfInBounds i true)) Q else wpAny P .any l.toArray Q fuel (listed.setIfInBounds i true) (a.put o.dst undef) w):=by
   have tailstep:∀(hT:qmB P wz l k late ks (gOf H0 N bl fun _=>true) Vs K listed Ps a w),k<=i->(if Region.wanted o (yielded l.toArray a.tmps)=true then o.wp P a w (wpAny P .any l.toArray Q fuel (listed.setIfInBounds i true)) Q else wpAny P .any l.toArray Q fuel (listed.setIfInBounds i true) (a.put o.dst undef) w):=by
    rintro⟨p,S,g,t1,t2,t3,t4,t5,t6,tk,t7,t8⟩ hki;have hg:=F.tailg i o hki hol;have hw:Region.wanted o (yielded l.toArray a.tmps)=true:=by simp[Region.wanted,hg]
    rw[if_pos hw];have hpi:p<=i:=by
     refine Kt fun hlt=>?_;rw[(t3 i hki hilt).2 hlt]at hif;cases hif
    have hip:i=p:=by
     rcases JA hpi with e|e
     ·exact e.symm
     ·exfalso
      have hch:=F.chain i (by omega) hilt;obtain⟨oi,g1,e',g2,g3,g4⟩:=Region.waitsFor_spec hch;have g1':l[i]?=some oi:=by simpa using g1
      rw[hol]at g1';obtain rfl:=Option.some.inj g1';have h5:=hedges e' g2 g3;rw[g4]at h5;have:=(t3 (i-1) (by omega) (by omega)).1 h5;omega
    subst hip;have hdrop:l.drop i=o::l.drop (i+1):=by
     rw[Ve hilt];congr 1;exact(Jz.1 hol).2
    rw[hdrop]at t6;have t6:=t6.2;have spec:=XR hB hol;have hlook:∀t,t∈Qy l o->VR Ps (S.get t) (a.tmps.getD t undef):=by
     intro t ht;rcases t8 t with⟨j,oj,c1,c2,c3,c4⟩|c
     ·exfalso
      rcases(spec.2 j oj t c2 c3).2 ht with⟨d1,d2⟩|⟨d1,d2⟩
      ·obtain⟨oi,g1,e',g2,g3,g4⟩:=Region.waitsFor_spec d2
       have g1':l[i]?=some oi:=by simpa using g1
       rw[hol]at g1';obtain rfl:=Option.some.inj g1';have:=hedges e' g2 g3;rw[g4,c4]at this;cases this
      ·omega
     ·exact c
    have hs:SRel Ps n (S.keep (Qy l o)) a:=by
     refine⟨inv.tsize,inv.defers,fun t=>?_⟩;rw[JQ];by_cases ht:(Qy l o).contains t=true
     ·rw[if_pos ht];exact hlook t (by simpa using ht)
     ·rw[if_neg ht];trivial
    have t6':=t6;rw[<-qgj (s':=S.keep (Qy l o)) o.op (qhl fun t ht=>by unfold Qy;exact Vf _ ht)]at t6';refine qhm o t6' t5 hs fun ψ' x h' v w' e1 e2 e3 ⟨ek,e4⟩=>?_;refine ih _ _ _ ψ' (JR hle e1) (inv.next hall hB e1 hol hedges fun hik=>absurd hik (by omega)) (.inr ⟨i+1,_,h',by omega,by omega,fun t ht htl=>?_,fun j hj hl=>?_,e2,e4,fun j hj=>(ek j hj).trans (tk j hj),fun j oj t hj hoj hd=>?_,fun t=>?_⟩) hcount
    ·by_cases e:t=i
     ·subst e
      rw[set_self hisz];simp
     ·rw[Xu e,t3 t ht htl]
      omega
    ·rw[Xu (by omega)]
     exact t4 j hj hl
    ·rw[YD,if_neg fun hod=>by have:=(spec.2 j oj t hoj hd).1 hod;omega]
     exact t7 j oj t hj hoj hd
    ·by_cases hod:o.dst=some t
     ·right
      rw[YD,if_pos hod,qaD a hod (by rw[inv.tsize];exact qdE l i t hall (by rw[Yf,hol];exact hod))];exact e3
     ·rcases t8 t with⟨j,oj,c1,c2,c3,c4⟩|c
      ·exact .inl ⟨j,oj,c1,c2,c3,by rw[Xu (by omega)];exact c4⟩
      ·right
       rw[YD,if_neg hod,UM a hod];exact WG e1 _ _ c
   rcases hph with hH|hT
   ·rcases KU i k with hik|hki
    ·
     refine hst i o hik hol listed Ps w a _ Q hif hisz hH.2 (inv.looks hB hik hol hif hedges) fun ψ' v w' hle' hh' hv=>?_;exact ih _ _ _ ψ' (JR hle hle') (inv.next hall hB hle' hol hedges fun _=>hv) (.inl ⟨fun t ht htl=>by rw[Xu (by omega)];exact hH.1 t ht htl,hh'⟩) hcount
    ·have hik:i=k:=by
      rcases JA hki with e|e
      ·exact e.symm
      ·exfalso
       have hch:=F.chain i e hilt;obtain⟨oi,g1,e',g2,g3,g4⟩:=Region.waitsFor_spec hch;have g1':l[i]?=some oi:=by simpa using g1
       rw[hol]at g1';obtain rfl:=Option.some.inj g1';have h5:=hedges e' g2 g3;rw[g4,hH.1 (i-1) (by omega) (by omega)]at h5;cases h5
     refine tailstep (turn listed a w Ps inv hH fun j hj hl=>?_) hki;exact head_done F inv (by omega) (fun o' ho'=>by
      subst hik;rw[hol]at ho';obtain rfl:=Option.some.inj ho';exact hedges) (k-j) j (by omega) hj hl
   ·rcases KU i k with hik|hki
    ·
     obtain⟨p,S,g,t1,t2,t3,t4,t5,t6,tk,t7,t8⟩:=hT;have hlt:late.contains i=true:=by
      cases hc:late.contains i with
      |true=>rfl
      |false=>rw[t4 i hik hc]at hif;cases hif
     obtain⟨hg,hhl,hkf⟩:=F.lateo i o hlt hol;have hw:Region.wanted o (yielded l.toArray a.tmps)=true:=by simp[Region.wanted,hg]
     rw[if_pos hw];obtain⟨H,q0,q1,q2⟩:=hlate i o hlt hol;have hs:=inv.looks hB hik hol hif hedges;have same:pop P wz g ((QA s l Vs i).keep (Qy l o)) o.op=pop P wz H ((QA s l Vs i).keep (Qy l o)) o.op:=by
      rcases hhl with hhl|hhl
      ·exact qoo hhl
      ·cases hop:o.op with
       |load ty x=>
        rw[hop]at q1;refine load_same ?_ q1;have hev:ev ((QA s l Vs i).keep (Qy l o)) x=ev (QA s l Vs k) x:=by
         rw[ZR (XV (by rw[hop];simp[Op.operands]))];cases x with
         |tmp t=>
          have htl:t∈Qy l o:=XV (x:= .tmp t) (by rw[hop];simp[Op.operands]) t rfl;simp only[ev];have noW:∀m,i<=m->m<=k->(QA s l Vs m).get t=(QA s l Vs i).get t:=by
           intro m;induction m with
           |zero=>intro h1 _;rw[Nat.le_zero.1 h1]
           |succ m ihm=>
            intro h1 h2;rcases JA h1 with e|e
            ·rw[e]
            ·rw[QA]
             cases hm:l[m]? with
             |none=>exact ihm (by omega) (by omega)
             |some om=>
              simp only;rw[YD,if_neg fun hd=>?_]
              ·exact ihm (by omega) (by omega)
              ·rcases JA (show i<=m by omega)with e'|e'
               ·subst e'
                rw[hol]at hm;obtain rfl:=Option.some.inj hm;rcases((XR hB hol).2 i o t hol hd).2 htl with⟨c,_⟩|⟨c,_⟩<;>omega
               ·exact F.latew i o hlt hol m om t e' (by omega) hm hd htl
          exact(noW k (by omega) (KL _)).symm
         |_=>rfl
        rcases qlJ hlo i (by simpa using hlt) o ty x hol hop with⟨j,pp,c1,c2⟩|⟨b,pp,c1⟩
        ·exact .inl ⟨j,pp,by rw[hev];exact c1,fun b hb=>by rw[tk j c2];exact q0 j b hb⟩
        ·exact .inr ⟨b,pp,by rw[hev];exact c1⟩
       |_=>rw[hop]at hhl;cases hhl
     rw[<-same]at q1 q2;obtain⟨r,e1,e2⟩:=qjf o q1 t5 hs;rw[<-q2]at e2;refine XG (e1 w (J7 w)) ?_;refine ih _ _ _ Ps hle (inv.next hall hB Ps.le_refl hol hedges fun _=>e2) (.inr ⟨p,S,g,t1,t2,fun t ht htl=>?_,fun j hj hl=>?_,t5,t6,tk,t7,fun t=>?_⟩) hcount
     ·rw[Xu (by omega)];exact t3 t ht htl
     ·by_cases e:j=i
      ·subst e;exact set_self hisz
      ·rw[Xu e];exact t4 j hj hl
     ·by_cases hod:o.dst=some t
      ·right
       rw[t7 i o t hik hol hod,qaD a hod (by rw[inv.tsize];exact qdE l i t hall (by rw[Yf,hol];exact hod))];exact e2
      ·rcases t8 t with⟨j,oj,c1,c2,c3,c4⟩|c
       ·refine .inl ⟨j,oj,c1,c2,c3,?_⟩
        have e:j≠i:=fun e=>by subst e;rw[hol]at c2;obtain rfl:=Option.some.inj c2;exact hod c3
        rw[Xu e];exact c4
       ·right
        rw[UM a hod];exact c
    ·exact tailstep hT hki
  simp only[wpOp,ho];split
  ·rename_i hw
   rw[if_pos hw]at goal;exact .inl goal
  ·rename_i hw
   rw[if_neg hw]at goal;exact goal
theorem awp_draw_G{Q:Exit->Slots->AHeap->Prop}{s:Slots}{h:AHeap}{id:Nat}{l:List Oper}(k:Nat)(late ks:List Nat)(hm:P.follows .mixedOrders=true)(hB:qlR P l k late=true)(hd:Qv n l=true)
 (hc:ZP P wz l h (l.take k) s h (fun s' h'=>qjn l ks s' late/\kOps P wz ks (l.drop k) s' h' fun s'' h''=>Q .normal s'' h'')):Awp P wz n (.region id l.toArray true) Q s h:=by
 refine JS ?_;intro fi a w hr hs;have F:=qke hB;obtain⟨N₀,hN₀⟩:=hr.fin;obtain⟨N,hN1,hNt⟩:=qpL N₀ l.length;have hNφ:∀j,N<=j->fi j=none:=fun j hj=>hN₀ j (Vg hN1 hj);have hN:∀j,N<=j->h j=none:=fun j hj=>hr.free (hNφ j hj);have hg0:gOf h N [] (fun _=>true)=h:=by
  funext j;simp only[gOf,cond_true];by_cases c:N<=j
  ·rw[if_pos c,hN j c];rfl
  ·rw[if_neg c]
 have htl:(l.take k).length=k:=by have:=F.kle;simp;omega
 obtain⟨Vs,bl,g1,g2,g3,g4⟩:=qma (P:=P) (wz:=wz) (n:=n) (H0:=h) hd hN hNt (l.drop k) (s:=s) (l.take k) [] [] [] (by simp) rfl rfl (by rw[hg0];exact hc);simp only[Jf,JF,Js,true_implies,Jr,htl]at g1 g2 g3 g4;refine wp_region_any hm ?_;have hf:∀j,(Jw l.toArray.size false).getD j false=false:=fun j=>by simp[JE]
 refine any_okF (fi:=fi) hd F (s:=s) (Vs:=Vs) (N:=N) (bl:=bl) g2 (fun i o hi ho=>(g3 i o hi ho).2.1) (fun i hl=>?_) g4.1 (fun i o hl ho=>?_) g4.2 (fun Ps S g a' w' hle h1 h2 h3=>⟨Ps,S,g,hle,h1,h2,h3⟩) _ _ _ _ fi fi.le_refl
  ⟨by simp,fun j oj _ hl=>(by rw[hf]at hl;cases hl),hs.size,hs.defers,fun t j oj _ _ _ hl=>(by rw[hf]at hl;cases hl),fun t _=>hs.val t⟩ (.inl ⟨fun t _ _=>hf t,?_,fun i hi _=>hNφ _ (by omega)⟩) ?_
 ·obtain⟨o,ho⟩:∃o,l[i]?=some o:=⟨_,JD (by have:=F.latek i hl;have:=F.kle;omega)⟩
  obtain⟨_,_,q3⟩:=F.lateo i o hl ho;exact((g3 i o (F.latek i hl) ho).2.2 q3).1
 ·obtain⟨q1,q2,q3⟩:=F.lateo i o hl ho
  exact((g3 i o (F.latek i hl) ho).2.2 q3).2 q1
 ·have e:(gOf h N bl fun i=>(Jw l.toArray.size false).getD i false)=h:=by
   funext j;simp only[gOf,hf,cond_false];by_cases c:N<=j
   ·rw[if_pos c,hN j c]
   ·rw[if_neg c]
  rw[e];exact hr.drew
 ·have:=Vh (!·) (Jw l.toArray.size false).toList
  simpa using this
def qgf(l:List Oper)(late:List Nat):Bool:=late.all fun i=>match l[i]? with|some o=> !isLoad o.op|none=>true
theorem qfb{l:List Oper}{s:Slots}:∀{late:List Nat},qgf l late=true->qjn l [] s late
 |[],_=>trivial
 |i::r,h=>by
  unfold qgf at h;simp only[List.all_cons,Ky]at h;refine⟨?_,qfb h.2⟩;cases hi:l[i]? with
  |none=>trivial
  |some o=>
   simp only;have h1:=h.1;rw[hi]at h1;simp only[Jj]at h1;cases hop:o.op<;>first|trivial|(rw[hop]at h1;cases h1)
theorem qeO{Q:Exit->Slots->AHeap->Prop}{s:Slots}{h:AHeap}{id:Nat}{l:List Oper}(k:Nat)(late:List Nat)(hm:P.follows .mixedOrders=true)(hB:(qlR P l k late && qgf l late)=true)(hd:Qv n l=true)
 (hc:ZP P wz l h (l.take k) s h (fun s' h'=>Qp P wz l (l.drop k) s' h' fun s'' h''=>Q .normal s'' h'')):Awp P wz n (.region id l.toArray true) Q s h:=by
 rw[Ky]at hB;have F:=qke hB.1;refine awp_draw_G k late [] hm hB.1 hd (qcC (fun s' h' ha=>⟨qfb hB.2,qig (fun o ho=>?_) ha⟩) hc);obtain⟨j,hj⟩:=List.getElem?_of_mem ho;rw[Kq]at hj;exact F.tailg (k+j) o (by omega) hj
theorem qbF{Q:Exit->Slots->AHeap->Prop}{s:Slots}{h:AHeap}{id:Nat}{l:List Oper}{y:Code}(k:Nat)(late L:List Nat)(hm:P.follows .mixedOrders=true)(hB:(qlR P l k late && qgf l late)=true)(hd:Qv n l=true)
 (hc:∀K:Slots->AHeap->Prop,(∀s h,Awp P wz n y Q s h->K s h)->ZP P wz l h (l.take k) s h (fun s' h'=>Qp P wz l (l.drop k) s' h' fun s'' h''=>K (s''.keep L) h'')):Awp P wz n (.seq (.region id l.toArray true) y) Q s h:=
 qo (qeO k late hm hB hd (qcC (fun _ _ ha=>awp_rseq.aOps_mono (fun _ _ hk=>JU L hk) ha) (hc (fun s h=>Awp P wz n y Q s h) (fun _ _ hk=>hk))))
end
section
variable {P:Program} {wz:World} {ops rest:List Oper} {s:Slots} {h H0:AHeap} {K:Slots->AHeap->Prop} {dst:Option Tmp} {ty:TypeId} {pos:String} {af:Array Edge}
theorem qbi:ZP P wz ops H0 [] s h K=K s h:=rfl
theorem qfv{op:Op}(hk:WE P op=2):ZP P wz ops H0 (⟨dst,op,ty,pos,af,none⟩::rest) s h K=((pop P wz h s op).pre/\ZP P wz ops H0 rest (putD s dst (pop P wz h s op).val) h K):=by
 have e:pop P wz h (s.keep (Qy ops ⟨dst,op,ty,pos,af,none⟩)) op=pop P wz h s op:=qgb op (qhl fun t ht=>by unfold Qy;exact Vf _ ht);have h0:¬WE P op=0:=by omega
 simp only[ZP,if_neg h0,qgH,if_pos hk,e];exact propext ⟨fun⟨V,⟨h1,h2⟩,h3⟩=>⟨h1,h2 ▸ h3⟩,fun⟨h1,h2⟩=>⟨_,⟨h1,rfl⟩,h2⟩⟩
def fgP(P:Program)(wz:World)(ops rest:List Oper)(H0:AHeap)(s:Slots)(h:AHeap)(K:Slots->AHeap->Prop)(dst:Option Tmp)(g:AVal)(want:Bool)(r:PR):Prop:=
 Wv g=true/\(QG g want=true->r.pre)/\ZP P wz ops H0 rest (putD s dst (Qf (QG g want) r.val)) h K
def fgQ(P:Program)(wz:World)(ops rest:List Oper)(H0:AHeap)(s:Slots)(h:AHeap)(K:Slots->AHeap->Prop)(dst:Option Tmp)(want:Bool)(r:PR):Option Tmp->Prop
 |none=>ZP P wz ops H0 rest (putD s dst (.tuple [])) h K
 |some d=>fgP P wz ops rest H0 s h K dst (s.get d) want r
theorem qlY{want:Bool}{r:PR}{d:Tmp}:fgQ P wz ops rest H0 s h K dst want r (some d)=fgP P wz ops rest H0 s h K dst (s.get d) want r:=rfl
theorem qlW{op:Op}{j:Nat}{want:Bool}(hk:WE P op=2):ZP P wz ops H0 (⟨dst,op,ty,pos,af,some (j,want)⟩::rest) s h K=fgQ P wz ops rest H0 s h K dst want (pop P wz h s op) (nthDst ops j):=by
 have e:pop P wz h (s.keep (Qy ops ⟨dst,op,ty,pos,af,some (j,want)⟩)) op=pop P wz h s op:=qgb op (qhl fun t ht=>by unfold Qy;exact Vf _ ht);have h0:¬WE P op=0:=by omega
 simp only[ZP,if_neg h0];cases nthDst ops j with
 |none=>rfl
 |some d=>
  simp only[fgQ,fgP,qgH,if_pos hk,e];refine propext ⟨fun⟨g0,V,g1,g2⟩=>?_,fun⟨g0,g1,g2⟩=>⟨g0,_,fun hg=>⟨g1 hg,rfl⟩,g2⟩⟩;cases hg:QG (s.get d) want with
  |false=>
   rw[hg]at g2;exact⟨g0,fun e=>(by cases e),g2⟩
  |true=>
   obtain⟨c1,c2⟩:=g1 hg;subst c2;rw[hg]at g2;exact⟨g0,fun _=>c1,g2⟩
theorem kindF_conv{t u:TypeId}{x:Operand}(hs:(!ZW P t u && !qdm P t u)=true):WE P (.convert t u x)=2:=by
 simp only[Ky,Jj]at hs;simp[WE,hs.1,hs.2]
theorem qbg(x:Operand):ZP P wz ops H0 (⟨dst, .move x,ty,pos,af,none⟩::rest) s h K=((pop P wz h s (.move x)).pre/\ZP P wz ops H0 rest (putD s dst (pop P wz h s (.move x)).val) h K):=qfv (by rfl)
theorem fg_move(x:Operand){j:Nat}{want:Bool}:ZP P wz ops H0 (⟨dst, .move x,ty,pos,af,some (j,want)⟩::rest) s h K=fgQ P wz ops rest H0 s h K dst want (pop P wz h s (.move x)) (nthDst ops j):=qlW (by rfl)
theorem qoJ(c a b:Operand):ZP P wz ops H0 (⟨dst, .pick c a b,ty,pos,af,none⟩::rest) s h K=((pop P wz h s (.pick c a b)).pre/\ZP P wz ops H0 rest (putD s dst (pop P wz h s (.pick c a b)).val) h K):=qfv (by rfl)
theorem qfw(o:BinOp)(t:TypeId)(x y:Operand)(u:TypeId):ZP P wz ops H0 (⟨dst, .binOp o t x y u,ty,pos,af,none⟩::rest) s h K=((pop P wz h s (.binOp o t x y u)).pre/\ZP P wz ops H0 rest (putD s dst (pop P wz h s (.binOp o t x y u)).val) h K):=qfv (by rfl)
theorem qrU(o:BinOp)(t:TypeId)(x y:Operand)(u:TypeId){j:Nat}{want:Bool}:ZP P wz ops H0 (⟨dst, .binOp o t x y u,ty,pos,af,some (j,want)⟩::rest) s h K=fgQ P wz ops rest H0 s h K dst want (pop P wz h s (.binOp o t x y u)) (nthDst ops j):=qlW (by rfl)
theorem fg_unOp(o:UnOp)(t:TypeId)(x:Operand){j:Nat}{want:Bool}:ZP P wz ops H0 (⟨dst, .unOp o t x,ty,pos,af,some (j,want)⟩::rest) s h K=fgQ P wz ops rest H0 s h K dst want (pop P wz h s (.unOp o t x)) (nthDst ops j):=qlW (by rfl)
theorem qbh(t:TypeId)(x:Operand):ZP P wz ops H0 (⟨dst, .load t x,ty,pos,af,none⟩::rest) s h K=((pop P wz h s (.load t x)).pre/\ZP P wz ops H0 rest (putD s dst (pop P wz h s (.load t x)).val) h K):=qfv (by rfl)
theorem fg_load(t:TypeId)(x:Operand){j:Nat}{want:Bool}:ZP P wz ops H0 (⟨dst, .load t x,ty,pos,af,some (j,want)⟩::rest) s h K=fgQ P wz ops rest H0 s h K dst want (pop P wz h s (.load t x)) (nthDst ops j):=qlW (by rfl)
theorem YP(t:TypeId)(x:Operand)(f:Nat):ZP P wz ops H0 (⟨dst, .fieldAddr t x f,ty,pos,af,none⟩::rest) s h K=((pop P wz h s (.fieldAddr t x f)).pre/\ZP P wz ops H0 rest (putD s dst (pop P wz h s (.fieldAddr t x f)).val) h K):=qfv (by rfl)
theorem qit(t:TypeId)(x:Operand)(f:Nat){j:Nat}{want:Bool}:ZP P wz ops H0 (⟨dst, .fieldAddr t x f,ty,pos,af,some (j,want)⟩::rest) s h K=fgQ P wz ops rest H0 s h K dst want (pop P wz h s (.fieldAddr t x f)) (nthDst ops j):=qlW (by rfl)
theorem Uj(t:TypeId)(x i:Operand):ZP P wz ops H0 (⟨dst, .indexAddr t x i,ty,pos,af,none⟩::rest) s h K=((pop P wz h s (.indexAddr t x i)).pre/\ZP P wz ops H0 rest (putD s dst (pop P wz h s (.indexAddr t x i)).val) h K):=qfv (by rfl)
theorem qis(t:TypeId)(x i:Operand){j:Nat}{want:Bool}:ZP P wz ops H0 (⟨dst, .indexAddr t x i,ty,pos,af,some (j,want)⟩::rest) s h K=fgQ P wz ops rest H0 s h K dst want (pop P wz h s (.indexAddr t x i)) (nthDst ops j):=qlW (by rfl)
theorem qaM(x:Operand):ZP P wz ops H0 (⟨dst, .nilCheck x,ty,pos,af,none⟩::rest) s h K=((pop P wz h s (.nilCheck x)).pre/\ZP P wz ops H0 rest (putD s dst (pop P wz h s (.nilCheck x)).val) h K):=qfv (by rfl)
theorem qkh(x:Operand){j:Nat}{want:Bool}:ZP P wz ops H0 (⟨dst, .nilCheck x,ty,pos,af,some (j,want)⟩::rest) s h K=fgQ P wz ops rest H0 s h K dst want (pop P wz h s (.nilCheck x)) (nthDst ops j):=qlW (by rfl)
theorem fp_len(a:List Operand)(t:Array TypeId):ZP P wz ops H0 (⟨dst, .call ⟨.builtin .len,a.toArray,t⟩,ty,pos,af,none⟩::rest) s h K=((pop P wz h s (.call ⟨.builtin .len,a.toArray,t⟩)).pre/\ZP P wz ops H0 rest (putD s dst (pop P wz h s (.call ⟨.builtin .len,a.toArray,t⟩)).val) h K):=qfv (by rfl)
theorem fp_convert(t u:TypeId)(x:Operand)(hs:(!ZW P t u && !qdm P t u)=true):ZP P wz ops H0 (⟨dst, .convert t u x,ty,pos,af,none⟩::rest) s h K=((pop P wz h s (.convert t u x)).pre/\ZP P wz ops H0 rest (putD s dst (pop P wz h s (.convert t u x)).val) h K):=qfv (kindF_conv hs)
theorem fp_slice(t:TypeId)(x:Operand)(a b c:Option Operand):ZP P wz ops H0 (⟨dst, .slice t x a b c,ty,pos,af,none⟩::rest) s h K=((pop P wz h s (.slice t x a b c)).pre/\ZP P wz ops H0 rest (putD s dst (pop P wz h s (.slice t x a b c)).val) h K):=qfv (by rfl)
theorem qij(t:TypeId)(ps:List (Nat×Operand)):ZP P wz ops H0 (⟨dst, .build t ps.toArray,ty,pos,af,none⟩::rest) s h K=((pop P wz h s (.build t ps.toArray)).pre/\ZP P wz ops H0 rest (putD s dst (pop P wz h s (.build t ps.toArray)).val) h K):=qfv (by rfl)
theorem UY{op:Op}(hk:WE P op=0)(he:Qp P wz ops [⟨dst,op,ty,pos,af,none⟩] s h (fun s' h'=>ZP P wz ops H0 rest s' h' K)):ZP P wz ops H0 (⟨dst,op,ty,pos,af,none⟩::rest) s h K:=by
 simp only[Qp]at he;simp only[ZP,if_pos hk];refine⟨trivial,?_⟩;rw[qgj op (qhl fun t ht=>by unfold Qy;exact Vf _ ht)];exact he
theorem qhk{fo:Operand}{args:List Operand}{ts:Array TypeId}{j:Nat}{want:Bool}{f:FuncId}{cap xs:List AVal}{V:AVal}(hk:Wv (gv s ops j)=true)
 (hf:QG (gv s ops j) want=true->ev s fo= .func f cap/\evs s args++cap=xs) (hV:V.okIn (fun k=>(H0 k).isSome)) (hc:QG (gv s ops j) want=true->∀g,Sub H0 g->ACall P wz f xs g (fun x h'=>x=V/\h'=g))
 (hr:ZP P wz ops H0 rest (putD s dst (Qf (QG (gv s ops j) want) V)) h K):
 ZP P wz ops H0 (⟨dst, .call ⟨.value fo,args.toArray,ts⟩,ty,pos,af,some (j,want)⟩::rest) s h K:=by
 unfold gv at hk hf hc hr;have h0:¬WE P (.call ⟨.value fo,args.toArray,ts⟩)=0:=by simp[WE]
 have h2:¬WE P (.call ⟨.value fo,args.toArray,ts⟩)=2:=by simp[WE]
 simp only[ZP,if_neg h0];cases hj:nthDst ops j with
 |none=>rw[hj]at hk;cases hk
 |some d=>
  simp only[hj]at hk hf hc hr|-
  refine⟨hk,V,fun hg=>?_,hr⟩;rw[qgH,if_neg h2];refine⟨rfl,hV,fun g hsub=>?_⟩;rw[qgj _ (qhl fun t ht=>by unfold Qy;exact Vf _ ht)];simp only[eop,(hf hg).1,(hf hg).2];exact hc hg g hsub
theorem qrI{ks:List Nat}:kOps P wz ks [] s h K=K s h:=rfl
end
theorem AHeap.set_none(h:AHeap)(k j:Nat)(b:Blk):((h.set k b) j=none)=(j≠k/\k≠j/\h j=none):=by
 refine propext ⟨fun e=>?_,fun⟨e1,_,e2⟩=>by rw[Vi _ _ e1];exact e2⟩;have hne:j≠k:=fun e'=>by subst e';rw[Vj]at e;cases e
 exact⟨hne,Ne.symm hne,by rwa [Vi _ _ hne]at e⟩
theorem rd_ne'(wz:World)(h:AHeap){j k:Nat}(hj:j≠k)(b:Blk)(o:Nat):rd wz (h.set k b) (.own j) o=rd wz h (.own j) o:=rd_ne wz h b hj o
theorem Sub.set_both{h h':AHeap}(hs:Sub h h')(k:Nat)(b:Blk):Sub (h.set k b) (h'.set k b):=fun j c e=>by
 by_cases ej:j=k
 ·subst ej;rw[Vj]at e|-;exact e
 ·rw[Vi _ _ ej]at e|-;exact hs j c e
theorem lv_bool(b:Bool):(AVal.bool b).live=true:=rfl
theorem qjl(k:IntKind)(n:Int):(AVal.int k n).live=true:=rfl
theorem qoD(s:List UInt8):(AVal.str s).live=true:=rfl
theorem qnA:AVal.nilPtr.live=true:=rfl
theorem lv_ptr(l:Loc)(o:Nat):(AVal.ptr l o).live=true:=rfl
theorem qbZ:AVal.nilSlice.live=true:=rfl
theorem qrC(l:Loc)(o n:Nat)(c:Cap):(AVal.slice l o n c).live=true:=rfl
theorem qlG:AVal.nilFunc.live=true:=rfl
theorem lv_func(f:FuncId)(c:List AVal):(AVal.func f c).live=true:=rfl
theorem qjU:AVal.nilIface.live=true:=rfl
theorem qrD(t:TypeId)(v:AVal):(AVal.iface t v).live=true:=rfl
theorem qnB:AVal.nilMap.live=true:=rfl
theorem lv_map(k:Nat):(AVal.map k).live=true:=rfl
theorem qlH(cs:List AVal):(AVal.agg cs).live=true:=rfl
theorem qrB(cs:List AVal):(AVal.tuple cs).live=true:=rfl
section
variable {P:Program} {wz:World} {s:Slots} {h:AHeap}
end
section
variable {P:Program}
theorem qeA{t:TypeId}(ht:P.underlying t=some .string)(s:List UInt8)(k k':IntKind)(a b:Int):Ws P t (.str s) (some (.int k a)) (some (.int k' b)) none=qgc s (qcd (some (.int k a)) 0) (qcd (some (.int k' b)) s.length):=qrn ht s _ _
end
section
variable {P:Program} {wz:World} {ops rest:List Oper} {s:Slots} {h:AHeap} {K:Slots->AHeap->Prop} {dst:Option Tmp} {ty:TypeId} {pos:String} {af:Array Edge}
end
end Go.AM
namespace Go.AM
section
variable {P:Program} {wz:World} {ops rest:List Oper} {s:Slots} {h:AHeap} {K:Slots->AHeap->Prop} {dst:Option Tmp} {ty:TypeId} {pos:String} {af:Array Edge}
end
structure Buf where
 blk:Nat
 cells:List AVal
def qgF(es:Nat):Option Buf->AVal
 |none=> .nilSlice
 |some b=> .slice (.own b.blk) 0 (b.cells.length / es) (.grow es)
def qkz:Option Buf->List AVal
 |none=>[]
 |some b=>b.cells
def qgG(h:AHeap):Option Buf->AHeap
 |none=>h
 |some b=>h.set b.blk ⟨b.cells,0⟩
def qko(h:AHeap)(es:Nat):Option Buf->Prop
 |none=>True
 |some b=>h b.blk=none/\b.cells.length%es=0/\allLive b.cells=true
theorem Sub.buf{h:AHeap}{es:Nat}{b:Option Buf}(hb:qko h es b):Sub h (qgG h b):=by
 cases b with
 |none=>exact Vk _
 |some b=>exact Vl hb.1
theorem qnU(es:Nat)(b:Option Buf):(qgF es b).live=true:=by cases b<;>rfl
theorem sub_app{H0 h:AHeap}{kb k':Nat}{B C:Blk}(h0:H0 kb=none)(hs:Sub (H0.set kb B) h)(hk':h k'=none):Sub (H0.set k' C) ((h.del kb).set k' C):=fun j c hj=>by
 by_cases e:j=k'
 ·subst e;rw[Vj]at hj|-;exact hj
 ·rw[Vi _ _ e]at hj|-
  have e2:j≠kb:=fun e2=>by subst e2;rw[h0]at hj;cases hj
  simp only[AHeap.del,e2,if_false];exact hs j c (by rw[Vi _ _ e2];exact hj)
section
variable {P:Program} {wz:World} {ops rest:List Oper} {s:Slots} {h:AHeap} {K:Slots->AHeap->Prop} {dst:Option Tmp} {ty:TypeId} {pos:String} {af:Array Edge}
theorem qmu{ts:Array TypeId}{t u e:TypeId}{d:TypeDesc}{x y:Operand}{v:AVal}{es by' m:Nat}{z:Value}{src:List AVal}{H0:AHeap}{b:Option Buf}
 (h0:ts[0]?=some t) (h1:ts[1]?=some u) (ht:P.underlying t=some (.slice e)) (hu:P.underlying u=some d) (hd:∀k,d≠ .int k)
 (hs:Zy P e=some es) (hb:qdF P e=some by') (hz:Uy P e=some z) (hzs:z.cells.size=es) (hes:es≠0)
 (hx:ev s x=qgF es b) (hok:qko H0 es b) (hh:Sub (qgG H0 b) h) (hy:ev s y=v) (hm:qfj v=some m) (hp:qha wz h es m v) (hc:ZL wz h es m v=src) (hsl:src.length=m*es) (hsc:Qu src=true) (hlv:allLive src=true)
 (hl:((qkz b).length / es+m)*by'<=140737488355328) (hl':(qkz b).length / es+m<4611686018427387904)
 (hk:∀b' h',qko H0 es b'->qkz b'=qkz b++src->Sub (qgG H0 b') h'->Qp P wz ops rest (putD s dst (qgF es b')) h' K):
 Qp P wz ops (⟨dst, .call ⟨.builtin .append,[x,y].toArray,ts⟩,ty,pos,af,none⟩::rest) s h K:=by
 rw[qcY];simp only[eop,evs,Ke,Vm,hx,hy,qgl,h0,h1,ht,hu,hs,hb,hz,hm];have hev:0<es:=Vn hes;cases b with
 |none=>
  refine⟨hd,⟨hes,hzs⟩,hp,?_⟩;simp only[qgF];simp only[qkz,JF,Nat.zero_div,Jr]at hl hl';refine⟨fun e0=>?_,fun e0=>⟨⟨hl,hl'⟩,fun k hk0 _=>?_⟩⟩
  ·have:src=[]:=Kg (by rw[hsl,e0,K9])
   exact hk none h trivial (by rw[this];rfl) hh
  ·have hsub:Sub (qgG H0 (some ⟨k,src⟩)) (h.set k ⟨src,0⟩):=Sub.set_both hh k _
   have hk0':H0 k=none:=hh.none hk0;have e1:src.length / es=m:=by rw[hsl];exact Vo _ hev
   have:=hk (some ⟨k,src⟩) (h.set k ⟨src,0⟩) ⟨hk0',by simp only;rw[hsl];exact Nat.mul_mod_left _ _,hlv⟩ rfl hsub;simp only[qgF,e1]at this;rw[hc];exact this
 |some b=>
  obtain⟨o1,o2,o3⟩:=hok;simp only[qkz]at hl hl';have hkb:h b.blk=some ⟨b.cells,0⟩:=hh _ _ (Vj _ _ _);refine⟨hd,⟨hes,hzs⟩,hp,?_⟩;simp only[qgF,hkb];have hdiv:b.cells.length / es*es=b.cells.length:=Nat.div_mul_cancel (Nat.dvd_of_mod_eq_zero o2);refine⟨trivial,⟨by rw[Jr,hdiv],hl,hl',by rw[hc];exact hsc,by rw[Vp];exact o3, .inl trivial⟩,fun k hk0 _=>?_⟩;rw[hc,Vp];have hsub:Sub (qgG H0 (some ⟨k,b.cells++src⟩)) ((h.del b.blk).set k ⟨b.cells++src,0⟩):=sub_app o1 hh hk0;have hne:k≠b.blk:=fun e'=>by subst e';rw[hkb]at hk0;cases hk0
  have hk0':H0 k=none:=by
   have:=hh.none hk0
   rwa [show(qgG H0 (some b))=H0.set b.blk ⟨b.cells,0⟩from rfl,Vi _ _ hne]at this
  have e1:(b.cells++src).length / es=b.cells.length / es+m:=by
   rw[Jd,hsl,Nat.add_mul_div_right _ _ hev]
  have e2:(b.cells++src).length%es=0:=by
   rw[Jd,hsl,Nat.add_mul_mod_self_right];exact o2
  have hlive:allLive (b.cells++src)=true:=by
   have:∀(a c:List AVal),allLive (a++c)=(allLive a && allLive c):=fun a c=>by
    induction a with
    |nil=>rfl
    |cons x a ih=>simp[allLive,ih,Vq]
   rw[this,o3,hlv];rfl
  have:=hk (some ⟨k,b.cells++src⟩) _ ⟨hk0',e2,hlive⟩ rfl hsub;simp only[qgF,e1]at this;exact this
end
end Go.AM
namespace Go.Col
set_option maxRecDepth 100000
abbrev Str:=List UInt8
structure FaultC where
 e:Int
 line:Int
 col:Int
 deriving DecidableEq
def okF:FaultC:=⟨0,0,0⟩
def okB(b:UInt8):Bool:=decide (32<=b.toNat) && decide (b.toNat<=126)
def badAt(s:Str):Option Nat:=s.findIdx? (fun b=> !okB b)
def trimL(s:Str):Str:=s.dropWhile (· ==32)
def sp(n:Nat):Str:=J2 n 32
structure RowC where
 line:Int
 more:Bool
 text:Str
 col:Int
 deriving DecidableEq
def padE(s:Str):Str:=s++sp (72-s.length)
def rowE(s:Str)(line:Int):RowC:=⟨line,(padE s).getD 6 0==45,trimL (((padE s).drop 7).take 65),73-(trimL (((padE s).drop 7).take 65)).length⟩
end Go.Col
namespace Go.Tok
open Go.Col (Str FaultC okF)
set_option maxRecDepth 100000
structure TokC where
 kind:UInt8
 text:Str
 line:Int
 col:Int
 left:Bool
 deriving DecidableEq
def digitB(b:UInt8):Bool:=decide (48<=b.toNat) && decide (b.toNat<=57)
def peekE(s:Str)(i:Int):UInt8:=if i<0\/(s.length:Int)<=i then 32 else s.getD i.toNat 0
def runE(s:Str)(i:Nat)(p:UInt8->Bool):Nat:=((s.drop i).takeWhile p).length
def signedE(s:Str)(i:Nat):Bool:=(decide (peekE s i=43)||decide (peekE s i=45)) && (decide (peekE s ((i:Int)-1)=32)||decide (peekE s ((i:Int)-1)=40))
def d0E(s:Str)(i:Nat):Nat:=runE s (i+(signedE s i).toNat) digitB
def n1E(s:Str)(i:Nat):Nat:=(signedE s i).toNat+d0E s i
def moreE(s:Str)(i:Nat):Nat:=runE s (i+n1E s i+1) digitB
end Go.Tok
namespace Go.Stm
open Go.Col (Str FaultC okF)
open Go.Tok
set_option maxRecDepth 100000
structure PhrC where
 words:Str
 toks:List TokC
 deriving DecidableEq
inductive StC where
 |mk (verb:Str) (line col:Int) (phrases:List PhrC) (bodies:List (Str×List TokC×List StC))
def StC.verb:StC->Str| .mk v _ _ _ _=>v
def StC.line:StC->Int| .mk _ l _ _ _=>l
def StC.col:StC->Int| .mk _ _ c _ _=>c
def StC.phrases:StC->List PhrC| .mk _ _ _ p _=>p
def StC.bodies:StC->List (Str×List TokC×List StC)| .mk _ _ _ _ b=>b
abbrev BodC:=Str×List TokC×List StC
def noT:TokC:=⟨0,[],0,0,false⟩
def Xd(sep:UInt8):Str->Str->List Str
 |acc,[]=>[acc]
 |acc,c::s=>if c=sep then acc::Xd sep [] s else Xd sep (acc++[c]) s
def qaW(s:Str):List Str:=Xd 59 [] s
def parB:Str:=[40,41]
def qct:Str:=[40,41,91,93]
def qsE:Str:=[84,72,82,79,85,71,72]
def qaP:Str:=[84,72,82,85]
def TOPTOw:Str:=[84,79,32,80,82,79,67,69,69,68,32,84,79]
def TOw:Str:=[84,79]
def RECORDw:Str:=[82,69,67,79,82,68]
def qbj(form:Str):Str:=
 if form=qsE then qaP
 else if form=TOPTOw then TOw
 else if form=RECORDw then[]
 else Lib.join (((Lib.fields form).filter fun w=> !decide (w.getD 0 0=91)).map fun w=>Lib.trimS w parB) [32]
def qgD(l:List TokC)(at_:Nat)(word:Str):Bool:=
 if at_<l.length then decide ((l.getD at_ noT).text=word) && (decide ((l.getD at_ noT).kind=1)||(decide (word=[61]) && decide ((l.getD at_ noT).kind=5)))else false
def Ww(l:List TokC):List Str->Nat->Option Nat
 |[],at_=>some at_
 |w::ws,at_=>
  if qgD l at_ (Lib.trimS w qct)=true then Ww l ws (at_+1)else if Lib.trimS w qct=w then none else Ww l ws at_
def UE(l:List TokC)(at_:Nat)(form:Str):Nat:=match Ww l (Lib.fields form) at_ with
 |some j=>j-at_
 |none=>0
def Qs(l:List TokC)(at_:Nat)(forms:Str):Str×Nat:=
 match (qaW forms).find? fun f=>decide (0<UE l at_ f)with
 |some f=>(qbj f,UE l at_ f)
 |none=>([],0)
theorem qjt(l:List TokC):∀(ws:List Str) (i j:Nat),Ww l ws i=some j->i<=j/\(i<=l.length->j<=l.length)
 |[],i,j,h=>by simp only[Ww,Option.some.injEq]at h;subst h;exact⟨KL _,id⟩
 |w::ws,i,j,h=>by
  rw[Ww]at h;by_cases h1:qgD l i (Lib.trimS w qct)=true
  ·rw[if_pos h1]at h
   obtain⟨a,b⟩:=qjt l ws _ j h;have:i<l.length:=by
    unfold qgD at h1;by_cases hlt:i<l.length
    ·exact hlt
    ·rw[if_neg hlt]at h1;cases h1
   exact⟨by omega,fun _=>b (by omega)⟩
  ·rw[if_neg h1]at h
   by_cases h2:Lib.trimS w qct=w
   ·rw[if_pos h2]at h;cases h
   ·rw[if_neg h2]at h
    exact qjt l ws i j h
theorem fitsE_le(l:List TokC)(i:Nat)(form:Str)(hi:i<=l.length):i+UE l i form<=l.length:=by
 unfold UE;cases h:Ww l (Lib.fields form) i with
 |none=>simpa using hi
 |some j=>
  obtain⟨a,b⟩:=qjt l _ i j h;have:=b hi;simp only;omega
theorem qcJ(l:List TokC)(i:Nat)(forms:Str)(hi:i<=l.length):i+(Qs l i forms).2<=l.length:=by
 unfold Qs;split
 ·exact fitsE_le l i _ hi
 ·simpa using hi
def verbsT:Str:=[65,67,67,69,80,84,32,65,68,68,32,65,76,84,69,82,32,67,65,76,76,32,67,65,78,67,69,76,32,67,76,79,83,69,32,67,79,77,80,85,84,69,32,67,79,78,84,73,78,85,69,32,68,69,76,69,84,69,32,68,73,83,80,76,65,89,32,68,73,86,73,68,69,32,69,86,65,76,85,65,84,69,32,69,88,73,84,32,71,69,78,69,82,65,84,69,32,71,79,32,71,79,66,65,67,75,32,73,70,32,73,78,73,84,73,65,76,73,90,69,32,73,78,73,84,73,65,84,69,32,73,78,83,80,69,67,84,32,77,69,82,71,69,32,77,79,86,69,32,77,85,76,84,73,80,76,89,32,79,80,69,78,32,80,69,82,70,79,82,77,32,82,69,65,68,32,82,69,76,69,65,83,69,32,82,69,84,85,82,78,32,82,69,87,82,73,84,69,32,83,69,65,82,67,72,32,83,69,84,32,83,79,82,84,32,83,84,65,82,84,32,83,84,79,80,32,83,84,82,73,78,71,32,83,85,66,84,82,65,67,84,32,84,69,82,77,73,78,65,84,69,32,85,78,83,84,82,73,78,71,32,87,82,73,84,69]
def qsT:Str:=32::(verbsT++[32])
def qgO:Str:=[32,65,68,68,32,67,65,76,76,32,67,79,77,80,85,84,69,32,68,69,76,69,84,69,32,68,73,86,73,68,69,32,69,86,65,76,85,65,84,69,32,73,70,32,77,85,76,84,73,80,76,89,32,80,69,82,70,79,82,77,32,82,69,65,68,32,82,69,84,85,82,78,32,82,69,87,82,73,84,69,32,83,69,65,82,67,72,32,83,84,65,82,84,32,83,84,82,73,78,71,32,83,85,66,84,82,65,67,84,32,85,78,83,84,82,73,78,71,32,87,82,73,84,69,32]
def ENDw:Str:=[69,78,68,45]
def YN(t:TokC):Bool:=decide (t.kind=1) && !decide (t.text=[]) && !Lib.contains t.text [32] && Lib.contains qsT ([32]++t.text++[32])
def noEndB(t:TokC):Bool:= !Lib.hasPrefix t.text ENDw|| !decide (t.kind=1)||decide (Lib.trimPrefix t.text ENDw=[])||Lib.contains (Lib.trimPrefix t.text ENDw) [32]|| !Lib.contains qgO ([32]++Lib.trimPrefix t.text ENDw++[32])
def qbE(t:TokC):Str:=if noEndB t=true then[]else Lib.trimPrefix t.text ENDw
inductive Rs(α:Type) where
 |bad (f:FaultC)
 |ok (a:α) (at_:Nat)
def qam(l:List TokC)(e:Int)(at_:Nat):FaultC:=
 if l=[]then⟨e,0,0⟩else⟨e,(l.getD (min at_ (l.length-1)) noT).line,(l.getD (min at_ (l.length-1)) noT).col⟩
def isV(l:List TokC)(i:Nat):Bool:=if i<l.length then YN (l.getD i noT)else false
def qav(l:List TokC)(i:Nat):Str:=qbE (l.getD i noT)
def isE(l:List TokC)(i:Nat):Bool:=if i<l.length then decide ((l.getD i noT).kind=6)else true
def XW:Str:=[87,72,69,78]
def qfK:Str:=[87,72,69,78,32,79,84,72,69,82]
def IFv:Str:=[73,70]
def XY:Str:=[80,69,82,70,79,82,77]
def Wm:Str:=[84,72,69,78]
def qas:Str:=[84,73,77,69,83]
def qjK:Str:=[69,86,65,76,85,65,84,69]
def qpz:Str:=[83,69,65,82,67,72]
def Uz(l:List TokC)(forms:Str):Nat->Nat->List TokC->List TokC×Nat
 |0,i,acc=>(acc,i)
 |f+1,i,acc=>if isE l i=true\/isV l i=true\/qav l i≠[]\/0<(Qs l i forms).2 then(acc,i)else Uz l forms f (i+1) (acc++[l.getD i noT])
def whenE(l:List TokC)(forms:Str)(i:Nat):List TokC×Nat:=Uz l forms (l.length-i) i []
structure Cur where
 verb:Str
 line:Int
 col:Int
 phrases:List PhrC
 bodies:List BodC
def Cur.done(c:Cur):StC:= .mk c.verb c.line c.col c.phrases c.bodies
def qgM(l:List PhrC)(w:Str):Option (List TokC):=(l.find? fun p=>decide (p.words=w)).map (·.toks)
def firstT(l:List PhrC):List TokC:=(l.getD 0 ⟨[],[]⟩).toks
structure Words where
 name:Str->Bool
 fig:Str->Bool
def qgC(W:Words)(l:List TokC)(i:Nat):Bool:=if i<l.length then decide ((l.getD i noT).kind=1) && W.name (l.getD i noT).text else false
def isK(l:List TokC)(i:Nat)(k:UInt8)(ts:List Str):Bool:=if i<l.length then decide ((l.getD i noT).kind=k) && ts.contains (l.getD i noT).text else false
def qbf(l:List TokC)(i:Nat):Nat->Nat->Int->Bool->Nat×Bool
 |0,_,_,_=>(0,false)
 |f+1,k,d,p=>
  if k<l.length then
   let d':=if isK l k 5 [[40]]=true then d+1 else if isK l k 5 [[41]]=true then d-1 else d
   let p':=if isK l k 5 [[40]]=true then p else if isK l k 5 [[41]]=true then p else if isK l k 5 [[58]]=true/\d=1 then true else p
   if d'=0 then(k+1-i,p')else qbf l i f (k+1) d' p'
  else(0,false)
def Wu(l:List TokC)(i:Nat):Nat×Bool:=if isK l i 5 [[40]]=true then qbf l i (l.length+1-i) i 0 false else(0,false)
def WI(W:Words)(l:List TokC):Nat->Nat->Nat
 |0,n=>n
 |f+1,n=>if isK l n 1 [[79,70],[73,78]]=true/\qgC W l (n+1)=true then WI W l f (n+2)else n
def qbW(W:Words)(l:List TokC):Option Nat:=
 if qgC W l 0=true then
  let n:=WI W l l.length 1
  let g:=Wu l n
  let n1:=n+g.1
  some (if 0<g.1/\g.2=false then(if (Wu l n1).2=true then n1+(Wu l n1).1 else n1)else n1)
 else if l=[]then none
 else if (l.getD 0 noT).kind=2\/(l.getD 0 noT).kind=3\/((l.getD 0 noT).kind=1/\W.fig (l.getD 0 noT).text=true)then some 1 else none
section
variable (W:Words) (l:List TokC)
def YO(ps:List PhrC):Bool:=
 if firstT ps=[]then true else(qgM ps qas).isSome && (!(qgM ps qaP).isSome && decide (qbW W (firstT ps)=some (firstT ps).length))
def Zi(c:Cur):Option Str:=
 if c.bodies≠[]then none
 else if c.verb=IFv then some Wm
 else if c.verb=XY/\YO W c.phrases=true then some []else none
def qbw(c:Cur)(closed:Bool):Bool:=
 if c.verb=IFv then !decide (firstT c.phrases=[]) && (match c.bodies with|b::_=>decide (b.1=Wm)|[]=>false)
 else if c.verb=qjK\/c.verb=qpz then c.bodies.any fun b=>decide (b.1=XW)
 else if c.verb=XY then decide (YO W c.phrases= !decide (c.bodies=[])) && (closed||decide (c.bodies=[]))
 else true
def qhu(ps:List PhrC)(t:TokC):List PhrC:=ps.dropLast++[⟨(ps.getLastD ⟨[],[]⟩).words,(ps.getLastD ⟨[],[]⟩).toks++[t]⟩]
def WS(c:Cur)(forms:Str)(i:Nat):Rs Cur:=
 if c.bodies≠[]then .bad (qam l 4 i)
 else if (Qs l i forms).2=0 then .ok {c with phrases:=qhu c.phrases (l.getD i noT)} (i+1)
 else if (Qs l i forms).1≠[]then .ok {c with phrases:=c.phrases++[⟨(Qs l i forms).1,[]⟩]} (i+(Qs l i forms).2)
 else .ok c (i+(Qs l i forms).2)
def qci(O:List Str)(i:Nat):Bool:=O.dropLast.any fun f=>decide (0<(Qs l i f).2)
end
def twice(c:Cur)(w:Str):Bool:=c.bodies.any fun b=>(decide (b.1=w) && !decide (w=XW))||decide (b.1=qfK)
def headW(l:List TokC)(O:List Str)(w:Str)(n i:Nat):List TokC×Nat:=if w=XW then whenE l (O.getLastD []) (i+n)else([],i+n)
def qhn(l:List TokC)(O:List Str)(w:Str)(L:List StC)(k:Nat):Bool:=decide (L.length=0) && (!decide (w=XW)||(!decide ((Qs l k (O.getLastD [])).1=XW) && !decide ((Qs l k (O.getLastD [])).1=qfK)))
section
variable (W:Words) (l:List TokC) (forms:Str->Str×Str)
mutual
def UU:Nat->Nat->List Str->Nat->List StC->Option (Rs (List StC))
 |0,_,_,_,_=>none
 |f+1,d,O,i,acc=>
  if isV l i=true then
   match stF f d O i with
   |none=>none
   |some (.bad e)=>some (.bad e)
   |some (.ok s j)=>UU f d O j (acc++[s])
  else some (.ok acc i)
def stF:Nat->Nat->List Str->Nat->Option (Rs StC)
 |0,_,_,_=>none
 |f+1,d,O,i=>
  if 32<d then some (.bad (qam l 3 i))
  else
   let t:=l.getD i noT
   match Uf f d (O++[(forms t.text).2]) (forms t.text).1 ⟨t.text,t.line,t.col,[⟨[],[]⟩],[]⟩ (i+1)with
   |none=>none
   |some (.bad e)=>some (.bad e)
   |some (.ok c j)=>if qbw W c.1 c.2=true then some (.ok c.1.done j)else some (.bad (qam l 4 i))
def Uf:Nat->Nat->List Str->Str->Cur->Nat->Option (Rs (Cur×Bool))
 |0,_,_,_,_,_=>none
 |f+1,d,O,ph,c,i=>
  if isE l i=true then some (.ok (c,false) i)
  else if qav l i≠[]then some (if qav l i=c.verb then .ok (c,true) (i+1)else .ok (c,false) i)
  else if 0<(Qs l i (O.getLastD [])).2 then
   match qaw f d O c (Qs l i (O.getLastD [])).1 (Qs l i (O.getLastD [])).2 i with
   |none=>none
   |some (.bad e)=>some (.bad e)
   |some (.ok c' j)=>Uf f d O ph c' j
  else
   match (if isV l i=true then Zi W c else none)with
   |some w=>
    match qaw f d O c w 0 i with
    |none=>none
    |some (.bad e)=>some (.bad e)
    |some (.ok c' j)=>Uf f d O ph c' j
   |none=>
    if isV l i=true\/qci l O i=true then some (.ok (c,false) i)
    else
     match WS l c ph i with
     | .bad e=>some (.bad e)
     | .ok c' j=>Uf f d O ph c' j
def qaw:Nat->Nat->List Str->Cur->Str->Nat->Nat->Option (Rs Cur)
 |0,_,_,_,_,_,_=>none
 |f+1,d,O,c,w,n,i=>
  if twice c w=true then some (.bad (qam l 4 i))
  else if w=XW/\(headW l O w n i).1=[]then some (.bad (qam l 4 i))
  else
   match UU f (d+1) O (headW l O w n i).2 []with
   |none=>none
   |some (.bad e)=>some (.bad e)
   |some (.ok L k)=>if qhn l O w L k=true then some (.bad (qam l 4 i))else some (.ok {c with bodies:=c.bodies++[(w,(headW l O w n i).1,L)]} k)
end
def qcp:Nat->Nat->List StC->Option (Rs (List StC))
 |0,_,_=>none
 |f+1,i,acc=>
  if i<l.length then
   match UU W l forms f 1 [] i []with
   |none=>none
   |some (.bad e)=>some (.bad e)
   |some (.ok L j)=>if j=l.length\/(l.getD j noT).kind≠6 then some (.bad (qam l 4 j))else qcp f (j+1) (acc++L)
  else some (.ok acc i)
def qbB(f:Nat):Option (Rs (List StC)):=if 65536<l.length then some (.bad (qam l 3 65536))else qcp W l forms f 0 []
end
section
variable {W:Words} {l:List TokC} {forms:Str->Str×Str}
theorem qmF:∀f:Nat,(∀d O i acc r,UU W l forms f d O i acc=some r->UU W l forms (f+1) d O i acc=some r)/\
 (∀d O i r,stF W l forms f d O i=some r->stF W l forms (f+1) d O i=some r)/\
 (∀d O ph c i r,Uf W l forms f d O ph c i=some r->Uf W l forms (f+1) d O ph c i=some r)/\
 (∀d O c w n i r,qaw W l forms f d O c w n i=some r->qaw W l forms (f+1) d O c w n i=some r)
 |0=>by
  refine⟨fun d O i acc r h=>?_,fun d O i r h=>?_,fun d O ph c i r h=>?_,fun d O c w n i r h=>?_⟩
  ·simp only[UU]at h;cases h
  ·simp only[stF]at h;cases h
  ·simp only[Uf]at h;cases h
  ·simp only[qaw]at h;cases h
 |f+1=>by
  obtain⟨i1,i2,i3,i4⟩:=qmF f;refine⟨fun d O i acc r h=>?_,fun d O i r h=>?_,fun d O ph c i r h=>?_,fun d O c w n i r h=>?_⟩
  ·rw[UU]at h|-
   split at h
   ·rename_i hv
    rw[if_pos hv];cases hs:stF W l forms f d O i with
    |none=>rw[hs]at h;cases h
    |some x=>
     rw[hs]at h;rw[i2 _ _ _ _ hs];cases x with
     |bad e=>exact h
     |ok s j=>exact i1 _ _ _ _ _ h
   ·rename_i hv
    rw[if_neg hv];exact h
  ·rw[stF]at h|-
   split at h
   ·rename_i hd
    rw[if_pos hd];exact h
   ·rename_i hd
    rw[if_neg hd];simp only at h|-
    generalize hx:Uf W l forms f d _ _ _ _=x at h;cases x with
    |none=>cases h
    |some x=>rw[i3 _ _ _ _ _ _ hx];exact h
  ·rw[Uf]at h|-
   split at h
   ·rename_i h1
    rw[if_pos h1];exact h
   ·rename_i h1
    rw[if_neg h1];split at h
    ·rename_i h2
     rw[if_pos h2];exact h
    ·rename_i h2
     rw[if_neg h2];split at h
     ·rename_i h3
      rw[if_pos h3];generalize hx:qaw W l forms f d O c _ _ i=x at h;cases x with
      |none=>cases h
      |some x=>
       rw[i4 _ _ _ _ _ _ _ hx];cases x with
       |bad e=>exact h
       |ok c' j=>exact i3 _ _ _ _ _ _ h
     ·rename_i h3
      rw[if_neg h3];generalize (if isV l i=true then Zi W c else none)=m at h|-
      cases m with
      |some w=>
       simp only at h|-
       generalize hx:qaw W l forms f d O c w 0 i=x at h;cases x with
       |none=>cases h
       |some x=>
        rw[i4 _ _ _ _ _ _ _ hx];cases x with
        |bad e=>exact h
        |ok c' j=>exact i3 _ _ _ _ _ _ h
      |none=>
       simp only at h|-
       split at h
       ·rename_i h4
        rw[if_pos h4];exact h
       ·rename_i h4
        rw[if_neg h4];generalize WS l c ph i=x at h|-
        cases x with
        |bad e=>exact h
        |ok c' j=>exact i3 _ _ _ _ _ _ h
  ·rw[qaw]at h|-
   split at h
   ·rename_i h1
    rw[if_pos h1];exact h
   ·rename_i h1
    rw[if_neg h1];split at h
    ·rename_i h2
     rw[if_pos h2];exact h
    ·rename_i h2
     rw[if_neg h2];generalize hx:UU W l forms f (d+1) O _ []=x at h;cases x with
     |none=>cases h
     |some x=>rw[i1 _ _ _ _ _ hx];exact h
theorem qfr{f g:Nat}(hfg:f<=g){d:Nat}{O:List Str}{i:Nat}{acc:List StC}{r:Rs (List StC)}(h:UU W l forms f d O i acc=some r):UU W l forms g d O i acc=some r:=by
 induction hfg with
 |refl=>exact h
 |step _ ih=>exact(qmF _).1 _ _ _ _ _ ih
theorem qsZ{f g:Nat}(hfg:f<=g){d:Nat}{O:List Str}{i:Nat}{r:Rs StC}(h:stF W l forms f d O i=some r):stF W l forms g d O i=some r:=by
 induction hfg with
 |refl=>exact h
 |step _ ih=>exact(qmF _).2.1 _ _ _ _ ih
theorem qrF{f g:Nat}(hfg:f<=g){d:Nat}{O:List Str}{ph:Str}{c:Cur}{i:Nat}{r:Rs (Cur×Bool)}(h:Uf W l forms f d O ph c i=some r):Uf W l forms g d O ph c i=some r:=by
 induction hfg with
 |refl=>exact h
 |step _ ih=>exact(qmF _).2.2.1 _ _ _ _ _ _ ih
theorem qiC{f g:Nat}(hfg:f<=g){d:Nat}{O:List Str}{c:Cur}{w:Str}{n i:Nat}{r:Rs Cur}(h:qaw W l forms f d O c w n i=some r):qaw W l forms g d O c w n i=some r:=by
 induction hfg with
 |refl=>exact h
 |step _ ih=>exact(qmF _).2.2.2 _ _ _ _ _ _ _ ih
theorem qlo{f g:Nat}(hfg:f<=g):∀{i:Nat} {acc:List StC} {r:Rs (List StC)},qcp W l forms f i acc=some r->qcp W l forms g i acc=some r:=by
 have step:∀(f i:Nat) (acc:List StC) (r:Rs (List StC)),qcp W l forms f i acc=some r->qcp W l forms (f+1) i acc=some r:=by
  intro f;induction f with
  |zero=>intro i acc r h;simp only[qcp]at h;cases h
  |succ f ih=>
   intro i acc r h;rw[qcp]at h|-
   split at h
   ·rename_i h1
    rw[if_pos h1];generalize hx:UU W l forms f 1 [] i []=x at h;cases x with
    |none=>cases h
    |some x=>
     rw[qfr (Nat.le_succ f) hx];cases x with
     |bad e=>exact h
     |ok L j=>
      simp only at h|-
      split at h
      ·rename_i h2
       rw[if_pos h2];exact h
      ·rename_i h2
       rw[if_neg h2];exact ih _ _ _ h
   ·rename_i h1
    rw[if_neg h1];exact h
 intro i acc r h;induction hfg with
 |refl=>exact h
 |step _ ih=>exact step _ _ _ _ ih
end
section
variable (W:Words) (l:List TokC) (forms:Str->Str×Str)
def ListR(d:Nat)(O:List Str)(i:Nat)(acc:List StC)(r:Rs (List StC)):Prop:=∃f,UU W l forms f d O i acc=some r
def StR(d:Nat)(O:List Str)(i:Nat)(r:Rs StC):Prop:=∃f,stF W l forms f d O i=some r
def LoopR(d:Nat)(O:List Str)(ph:Str)(c:Cur)(i:Nat)(r:Rs (Cur×Bool)):Prop:=∃f,Uf W l forms f d O ph c i=some r
def BodyR(d:Nat)(O:List Str)(c:Cur)(w:Str)(n i:Nat)(r:Rs Cur):Prop:=∃f,qaw W l forms f d O c w n i=some r
def SentR(i:Nat)(acc:List StC)(r:Rs (List StC)):Prop:=∃f,qcp W l forms f i acc=some r
def ParseR(r:Rs (List StC)):Prop:=∃f,qbB W l forms f=some r
end
section
variable {W:Words} {l:List TokC} {forms:Str->Str×Str}
theorem ListR.one{d:Nat}{O:List Str}{i:Nat}{acc:List StC}{r r':Rs (List StC)}(h:ListR W l forms d O i acc r)(h':ListR W l forms d O i acc r'):r=r':=by
 obtain⟨f,h⟩:=h;obtain⟨g,h'⟩:=h';have a:=qfr (Vr f g) h;rw[qfr (Vt f g) h']at a;exact(Option.some.inj a).symm
theorem StR.one{d:Nat}{O:List Str}{i:Nat}{r r':Rs StC}(h:StR W l forms d O i r)(h':StR W l forms d O i r'):r=r':=by
 obtain⟨f,h⟩:=h;obtain⟨g,h'⟩:=h';have a:=qsZ (Vr f g) h;rw[qsZ (Vt f g) h']at a;exact(Option.some.inj a).symm
theorem BodyR.one{d:Nat}{O:List Str}{c:Cur}{w:Str}{n i:Nat}{r r':Rs Cur}(h:BodyR W l forms d O c w n i r)(h':BodyR W l forms d O c w n i r'):r=r':=by
 obtain⟨f,h⟩:=h;obtain⟨g,h'⟩:=h';have a:=qiC (Vr f g) h;rw[qiC (Vt f g) h']at a;exact(Option.some.inj a).symm
theorem ParseR.one{r r':Rs (List StC)}(h:ParseR W l forms r)(h':ParseR W l forms r'):r=r':=by
 obtain⟨f,h⟩:=h;obtain⟨g,h'⟩:=h';unfold qbB at h h';split at h
 ·rename_i h1
  rw[if_pos h1]at h';exact Option.some.inj (h.symm.trans h')
 ·rename_i h1
  rw[if_neg h1]at h';have a:=qlo (Vr f g) h;rw[qlo (Vt f g) h']at a;exact(Option.some.inj a).symm
theorem ListR.stop{d:Nat}{O:List Str}{i:Nat}{acc:List StC}(hv:isV l i=false):ListR W l forms d O i acc (.ok acc i):=⟨1,by rw[UU,if_neg (by rw[hv];decide)]⟩
theorem ListR.bad{d:Nat}{O:List Str}{i:Nat}{acc:List StC}{e:FaultC}(hv:isV l i=true)(h:StR W l forms d O i (.bad e)):ListR W l forms d O i acc (.bad e):=by
 obtain⟨f,h⟩:=h;exact⟨f+1,by rw[UU,if_pos hv,h]⟩
theorem ListR.next{d:Nat}{O:List Str}{i j:Nat}{acc:List StC}{s:StC}{r:Rs (List StC)}(hv:isV l i=true)(h:StR W l forms d O i (.ok s j))(h':ListR W l forms d O j (acc++[s]) r):ListR W l forms d O i acc r:=by
 obtain⟨f,h⟩:=h;obtain⟨g,h'⟩:=h';exact⟨max f g+1,by rw[UU,if_pos hv,qsZ (Vr f g) h];exact qfr (Vt f g) h'⟩
def qck(l:List TokC)(i:Nat):Cur:=⟨(l.getD i noT).text,(l.getD i noT).line,(l.getD i noT).col,[⟨[],[]⟩],[]⟩
theorem StR.deep{d:Nat}{O:List Str}{i:Nat}(hd:32<d):StR W l forms d O i (.bad (qam l 3 i)):=⟨1,by rw[stF,if_pos hd]⟩
theorem StR.bad{d:Nat}{O:List Str}{i:Nat}{e:FaultC}(hd:¬32<d)(h:LoopR W l forms d (O++[(forms (l.getD i noT).text).2]) (forms (l.getD i noT).text).1 (qck l i) (i+1) (.bad e)):StR W l forms d O i (.bad e):=by
 obtain⟨f,h⟩:=h;unfold qck at h;exact⟨f+1,by rw[stF,if_neg hd];simp only[h]⟩
theorem StR.part{d:Nat}{O:List Str}{i j:Nat}{c:Cur}{b:Bool}(hd:¬32<d)(h:LoopR W l forms d (O++[(forms (l.getD i noT).text).2]) (forms (l.getD i noT).text).1 (qck l i) (i+1) (.ok (c,b) j))(hw:qbw W c b=false):StR W l forms d O i (.bad (qam l 4 i)):=by
 obtain⟨f,h⟩:=h;unfold qck at h;exact⟨f+1,by rw[stF,if_neg hd];simp only[h,hw,KX,if_false]⟩
theorem StR.ok{d:Nat}{O:List Str}{i j:Nat}{c:Cur}{b:Bool}(hd:¬32<d)(h:LoopR W l forms d (O++[(forms (l.getD i noT).text).2]) (forms (l.getD i noT).text).1 (qck l i) (i+1) (.ok (c,b) j))(hw:qbw W c b=true):StR W l forms d O i (.ok c.done j):=by
 obtain⟨f,h⟩:=h;unfold qck at h;exact⟨f+1,by rw[stF,if_neg hd];simp only[h,hw,if_true]⟩
section
variable {d:Nat} {O:List Str} {ph:Str} {c c':Cur} {i j:Nat} {r:Rs (Cur×Bool)} {e:FaultC} {w:Str}
theorem LoopR.stop(h:isE l i=true):LoopR W l forms d O ph c i (.ok (c,false) i):=⟨1,by rw[Uf,if_pos h]⟩
theorem LoopR.endS(h1:isE l i=false)(h2:qav l i=c.verb)(h3:qav l i≠[]):LoopR W l forms d O ph c i (.ok (c,true) (i+1)):=⟨1,by rw[Uf,if_neg (by rw[h1];decide),if_pos h3,if_pos h2]⟩
theorem LoopR.endO(h1:isE l i=false)(h2:qav l i≠c.verb)(h3:qav l i≠[]):LoopR W l forms d O ph c i (.ok (c,false) i):=⟨1,by rw[Uf,if_neg (by rw[h1];decide),if_pos h3,if_neg h2]⟩
theorem LoopR.bodyBad(h1:isE l i=false)(h2:qav l i=[])(h3:0<(Qs l i (O.getLastD [])).2)(h4:BodyR W l forms d O c (Qs l i (O.getLastD [])).1 (Qs l i (O.getLastD [])).2 i (.bad e)):LoopR W l forms d O ph c i (.bad e):=by
 obtain⟨f,h⟩:=h4;exact⟨f+1,by rw[Uf,if_neg (by rw[h1];decide),if_neg (by rw[h2];simp),if_pos h3,h]⟩
theorem LoopR.body(h1:isE l i=false)(h2:qav l i=[])(h3:0<(Qs l i (O.getLastD [])).2)(h4:BodyR W l forms d O c (Qs l i (O.getLastD [])).1 (Qs l i (O.getLastD [])).2 i (.ok c' j))(h5:LoopR W l forms d O ph c' j r):LoopR W l forms d O ph c i r:=by
 obtain⟨f,h⟩:=h4;obtain⟨g,h'⟩:=h5;exact⟨max f g+1,by rw[Uf,if_neg (by rw[h1];decide),if_neg (by rw[h2];simp),if_pos h3,qiC (Vr f g) h];exact qrF (Vt f g) h'⟩
theorem LoopR.implBad(h1:isE l i=false)(h2:qav l i=[])(h3:(Qs l i (O.getLastD [])).2=0)(hv:isV l i=true)(hw:Zi W c=some w)(h4:BodyR W l forms d O c w 0 i (.bad e)):LoopR W l forms d O ph c i (.bad e):=by
 obtain⟨f,h⟩:=h4;exact⟨f+1,by rw[Uf,if_neg (by rw[h1];decide),if_neg (by rw[h2];simp),if_neg (by omega),if_pos hv,hw];simp only[h]⟩
theorem LoopR.impl(h1:isE l i=false)(h2:qav l i=[])(h3:(Qs l i (O.getLastD [])).2=0)(hv:isV l i=true)(hw:Zi W c=some w)(h4:BodyR W l forms d O c w 0 i (.ok c' j))(h5:LoopR W l forms d O ph c' j r):LoopR W l forms d O ph c i r:=by
 obtain⟨f,h⟩:=h4;obtain⟨g,h'⟩:=h5;exact⟨max f g+1,by rw[Uf,if_neg (by rw[h1];decide),if_neg (by rw[h2];simp),if_neg (by omega),if_pos hv,hw];simp only[qiC (Vr f g) h];exact qrF (Vt f g) h'⟩
theorem qtu(hn:isV l i=true->Zi W c=none):(if isV l i=true then Zi W c else none)=none:=by
 split
 ·rename_i h;exact hn h
 ·rfl
theorem LoopR.leave(h1:isE l i=false)(h2:qav l i=[])(h3:(Qs l i (O.getLastD [])).2=0)(hn:isV l i=true->Zi W c=none)(h4:isV l i=true\/qci l O i=true):LoopR W l forms d O ph c i (.ok (c,false) i):=
 ⟨1,by rw[Uf,if_neg (by rw[h1];decide),if_neg (by rw[h2];simp),if_neg (by omega),qtu hn];simp only;rw[if_pos h4]⟩
theorem LoopR.tokBad(h1:isE l i=false)(h2:qav l i=[])(h3:(Qs l i (O.getLastD [])).2=0)(h4:isV l i=false)(h5:qci l O i=false)(h6:WS l c ph i= .bad e):LoopR W l forms d O ph c i (.bad e):=
 ⟨1,by rw[Uf,if_neg (by rw[h1];decide),if_neg (by rw[h2];simp),if_neg (by omega),qtu (fun h=>by rw[h4]at h;cases h)];simp only;rw[if_neg (by rw[h4,h5];decide),h6]⟩
theorem LoopR.tok(h1:isE l i=false)(h2:qav l i=[])(h3:(Qs l i (O.getLastD [])).2=0)(h4:isV l i=false)(h5:qci l O i=false)(h6:WS l c ph i= .ok c' j)(h7:LoopR W l forms d O ph c' j r):LoopR W l forms d O ph c i r:=by
 obtain⟨f,h⟩:=h7;exact⟨f+1,by rw[Uf,if_neg (by rw[h1];decide),if_neg (by rw[h2];simp),if_neg (by omega),qtu (fun h=>by rw[h4]at h;cases h)];simp only;rw[if_neg (by rw[h4,h5];decide),h6];exact h⟩
end
section
variable {d:Nat} {O:List Str} {c:Cur} {w:Str} {n i k:Nat} {e:FaultC} {L:List StC}
theorem BodyR.twice(h1:Stm.twice c w=true):BodyR W l forms d O c w n i (.bad (qam l 4 i)):=⟨1,by rw[qaw,if_pos h1]⟩
theorem BodyR.bare(h1:Stm.twice c w=false)(h2:w=XW/\(headW l O w n i).1=[]):BodyR W l forms d O c w n i (.bad (qam l 4 i)):=⟨1,by rw[qaw,if_neg (by rw[h1];decide),if_pos h2]⟩
theorem BodyR.bad(h1:Stm.twice c w=false)(h2:¬(w=XW/\(headW l O w n i).1=[]))(h3:ListR W l forms (d+1) O (headW l O w n i).2 [] (.bad e)):BodyR W l forms d O c w n i (.bad e):=by
 obtain⟨f,h⟩:=h3;exact⟨f+1,by rw[qaw,if_neg (by rw[h1];decide),if_neg h2,h]⟩
theorem BodyR.empty(h1:Stm.twice c w=false)(h2:¬(w=XW/\(headW l O w n i).1=[]))(h3:ListR W l forms (d+1) O (headW l O w n i).2 [] (.ok L k))(h4:qhn l O w L k=true):BodyR W l forms d O c w n i (.bad (qam l 4 i)):=by
 obtain⟨f,h⟩:=h3;exact⟨f+1,by rw[qaw,if_neg (by rw[h1];decide),if_neg h2,h];simp only;rw[if_pos h4]⟩
theorem BodyR.ok(h1:Stm.twice c w=false)(h2:¬(w=XW/\(headW l O w n i).1=[]))(h3:ListR W l forms (d+1) O (headW l O w n i).2 [] (.ok L k))(h4:qhn l O w L k=false):
 BodyR W l forms d O c w n i (.ok {c with bodies:=c.bodies++[(w,(headW l O w n i).1,L)]} k):=by
 obtain⟨f,h⟩:=h3;exact⟨f+1,by rw[qaw,if_neg (by rw[h1];decide),if_neg h2,h];simp only;rw[if_neg (by rw[h4];decide)]⟩
end
section
variable {i j:Nat} {acc L:List StC} {e:FaultC} {r:Rs (List StC)}
theorem SentR.stop(h:¬i<l.length):SentR W l forms i acc (.ok acc i):=⟨1,by rw[qcp,if_neg h]⟩
theorem SentR.bad(h:i<l.length)(h1:ListR W l forms 1 [] i [] (.bad e)):SentR W l forms i acc (.bad e):=by
 obtain⟨f,h1⟩:=h1;exact⟨f+1,by rw[qcp,if_pos h,h1]⟩
theorem SentR.open(h:i<l.length)(h1:ListR W l forms 1 [] i [] (.ok L j))(h2:j=l.length\/(l.getD j noT).kind≠6):SentR W l forms i acc (.bad (qam l 4 j)):=by
 obtain⟨f,h1⟩:=h1;exact⟨f+1,by rw[qcp,if_pos h,h1];simp only;rw[if_pos h2]⟩
theorem SentR.next(h:i<l.length)(h1:ListR W l forms 1 [] i [] (.ok L j))(h2:¬(j=l.length\/(l.getD j noT).kind≠6))(h3:SentR W l forms (j+1) (acc++L) r):SentR W l forms i acc r:=by
 obtain⟨f,h1⟩:=h1;obtain⟨g,h3⟩:=h3;exact⟨max f g+1,by rw[qcp,if_pos h,qfr (Vr f g) h1];simp only;rw[if_neg h2];exact qlo (Vt f g) h3⟩
theorem ParseR.long(h:65536<l.length):ParseR W l forms (.bad (qam l 3 65536)):=⟨0,by unfold qbB;rw[if_pos h]⟩
theorem ParseR.sent(h:¬65536<l.length)(h1:SentR W l forms 0 [] r):ParseR W l forms r:=by
 obtain⟨f,h1⟩:=h1;exact⟨f,by unfold qbB;rw[if_neg h];exact h1⟩
end
end
end Go.Stm
namespace Go.Stm
open Go.Col (Str)
def frm0:Str:=[84,72,82,85,59,84,72,82,79,85,71,72,59,84,73,77,69,83,59,91,87,73,84,72,93,32,84,69,83,84,32,66,69,70,79,82,69,59,91,87,73,84,72,93,32,84,69,83,84,32,65,70,84,69,82,59,85,78,84,73,76,59,86,65,82,89,73,78,71,59,65,70,84,69,82]
def frm1:Str:=[78,69,88,84,32,91,82,69,67,79,82,68,93,59,82,69,67,79,82,68,59,73,78,84,79,59,75,69,89,32,91,73,83,93]
def frm2:Str:=[40,65,84,41,32,69,78,68,59,78,79,84,32,40,65,84,41,32,69,78,68,59,73,78,86,65,76,73,68,32,40,75,69,89,41,59,78,79,84,32,73,78,86,65,76,73,68,32,40,75,69,89,41]
def frm3:Str:=[40,65,84,41,32,69,78,68,59,78,79,84,32,40,65,84,41,32,69,78,68]
def frm4:Str:=[73,78,86,65,76,73,68,32,40,75,69,89,41,59,78,79,84,32,73,78,86,65,76,73,68,32,40,75,69,89,41]
def frm5:Str:=[40,65,84,41,32,69,78,68,59,78,79,84,32,40,65,84,41,32,69,78,68,59,87,72,69,78]
def frm6:Str:=[40,79,78,41,32,65,83,67,69,78,68,73,78,71,32,40,75,69,89,41,59,40,79,78,41,32,68,69,83,67,69,78,68,73,78,71,32,40,75,69,89,41,59,85,83,73,78,71,59,71,73,86,73,78,71,59,79,85,84,80,85,84,32,80,82,79,67,69,68,85,82,69,32,91,73,83,93,59,73,78,80,85,84,32,80,82,79,67,69,68,85,82,69,32,91,73,83,93]
def frm7:Str:=[40,79,78,41,32,79,86,69,82,70,76,79,87,59,78,79,84,32,40,79,78,41,32,79,86,69,82,70,76,79,87]
def frm8:Str:=[40,79,78,41,32,83,73,90,69,32,69,82,82,79,82,59,78,79,84,32,40,79,78,41,32,83,73,90,69,32,69,82,82,79,82]
def frm9:Str:=[70,82,79,77,59,65,70,84,69,82,32,40,65,68,86,65,78,67,73,78,71,41,59,66,69,70,79,82,69,32,40,65,68,86,65,78,67,73,78,71,41]
def frm10:Str:=[84,79,32,80,82,79,67,69,69,68,32,84,79,59,84,79]
def frm11:Str:=[40,79,78,41,32,69,88,67,69,80,84,73,79,78,59,78,79,84,32,40,79,78,41,32,69,88,67,69,80,84,73,79,78]
def frm12:Str:=[85,80,79,78,59,91,87,73,84,72,93,32,78,79,32,65,68,86,65,78,67,73,78,71]
def frm13:Str:=[73,78,84,79,59,66,89,59,71,73,86,73,78,71,59,82,69,77,65,73,78,68,69,82]
def frm14:Str:=[87,72,69,78,32,79,84,72,69,82,59,87,72,69,78]
def frm15:Str:=[84,79,59,68,69,80,69,78,68,73,78,71,32,40,79,78,41]
def frm16:Str:=[40,79,78,41,32,65,83,67,69,78,68,73,78,71,32,40,75,69,89,41,59,40,79,78,41,32,68,69,83,67,69,78,68,73,78,71,32,40,75,69,89,41,59,85,83,73,78,71,59,71,73,86,73,78,71,59,79,85,84,80,85,84,32,80,82,79,67,69,68,85,82,69,32,91,73,83,93]
def frm17:Str:=[73,78,80,85,84,59,79,85,84,80,85,84,59,73,45,79,59,69,88,84,69,78,68]
def moreE(v:Str):Str×Str:=
 bif v==[80,69,82,70,79,82,77]then(frm0,[])else
 bif v==[82,69,65,68]then(frm1,frm2)else
 bif v==[82,69,84,85,82,78]then([82,69,67,79,82,68,59,73,78,84,79],frm3)else
 bif v==[82,69,87,82,73,84,69]then([70,82,79,77],frm4)else
 bif v==[83,69,65,82,67,72]then([86,65,82,89,73,78,71],frm5)else
 bif v==[83,79,82,84]then(frm6,[])else
 bif v==[83,84,65,82,84]then([75,69,89,32,91,73,83,93],frm4)else
 bif v==[83,84,79,80]then([82,85,78],[])else
 bif v==[83,84,82,73,78,71]then([],frm7)else
 bif v==[85,78,83,84,82,73,78,71]then([],frm7)else
 bif v==[83,85,66,84,82,65,67,84]then([70,82,79,77,59,71,73,86,73,78,71],frm8)else
 bif v==[87,82,73,84,69]then(frm9,frm4)else
 ([],[])
def Qo(v:Str):Str×Str:=
 bif v==[65,67,67,69,80,84]then([70,82,79,77],[])else
 bif v==[82,69,76,69,65,83,69]then([70,82,79,77],[])else
 bif v==[65,68,68]then([84,79,59,71,73,86,73,78,71],frm8)else
 bif v==[65,76,84,69,82]then(frm10,[])else
 bif v==[67,65,76,76]then([85,83,73,78,71],frm11)else
 bif v==[67,79,77,80,85,84,69]then([61],frm8)else
 bif v==[68,69,76,69,84,69]then([82,69,67,79,82,68],frm4)else
 bif v==[68,73,83,80,76,65,89]then(frm12,[])else
 bif v==[68,73,86,73,68,69]then(frm13,frm8)else
 bif v==[69,86,65,76,85,65,84,69]then([],frm14)else
 bif v==[69,88,73,84]then([80,82,79,71,82,65,77],[])else
 bif v==[71,79]then(frm15,[])else
 bif v==[73,70]then([],[84,72,69,78,59,69,76,83,69])else
 bif v==[77,69,82,71,69]then(frm16,[])else
 bif v==[77,79,86,69]then([84,79],[])else
 bif v==[83,69,84]then([84,79],[])else
 bif v==[77,85,76,84,73,80,76,89]then([66,89,59,71,73,86,73,78,71],frm8)else
 bif v==[79,80,69,78]then(frm17,[])else
 moreE v
end Go.Stm
namespace Go.Stm
open Go.Col (Str)
set_option maxRecDepth 100000
def keysW:Str:=[65,67,67,69,83,83,32,65,68,86,65,78,67,73,78,71,32,65,70,84,69,82,32,65,76,76,32,65,76,80,72,65,66,69,84,73,67,32,65,76,83,79,32,65,76,84,69,82,78,65,84,69,32,65,78,68,32,65,78,89,32,65,82,69,32,65,82,69,65,32,65,82,69,65,83,32,65,83,67,69,78,68,73,78,71,32,65,83,83,73,71,78,32,65,84,32,65,87,65,89,45,70,82,79,77,45,90,69,82,79,32,66,69,70,79,82,69,32,66,73,78,65,82,89,32,66,76,65,78,75,32,66,76,79,67,75,32,66,89,32,67,70,32,67,72,32,67,72,65,82,65,67,84,69,82,32,67,72,65,82,65,67,84,69,82,83,32,67,76,65,83,83,32,67,79,76,85,77,78,32,67,79,77,80,32,67,79,77,80,45,51,32,67,79,77,80,85,84,65,84,73,79,78,65,76,32,67,79,77,80,85,84,65,84,73,79,78,65,76,45,51,32,67,79,78,70,73,71,85,82,65,84,73,79,78,32,67,79,78,84,65,73,78,83,32,67,79,78,84,69,78,84,32,67,79,78,84,82,79,76,32,67,79,78,84,82,79,76,83,32,67,79,78,86,69,82,84,73,78,71,32,67,79,80,89,32,67,79,82,82,32,67,79,82,82,69,83,80,79,78,68,73,78,71,32,67,79,85,78,84,32,68,65,84,65,32,68,69,32,68,69,67,76,65,82,65,84,73,86,69,83,32,68,69,76,73,77,73,84,69,68,32,68,69,76,73,77,73,84,69,82,32,68,69,80,69,78,68,73,78,71,32,68,69,83,67,69,78,68,73,78,71,32,68,69,84,65,73,76,32,68,73,86,73,83,73,79,78,32,68,79,87,78,32,68,85,80,76,73,67,65,84,69,83,32,68,89,78,65,77,73,67,32,69,76,83,69,32,69,78,68,32,69,78,68,45,65,68,68,32,69,78,68,45,67,65,76,76,32,69,78,68,45,67,79,77,80,85,84,69,32,69,78,68,45,68,69,76,69,84,69,32,69,78,68,45,68,73,86,73,68,69,32,69,78,68,45,69,86,65,76,85,65,84,69,32,69,78,68,45,73,70,32,69,78,68,45,77,85,76,84,73,80,76,89,32,69,78,68,45,80,69,82,70,79,82,77,32,69,78,68,45,82,69,65,68,32,69,78,68,45,82,69,84,85,82,78,32,69,78,68,45,82,69,87,82,73,84,69,32,69,78,68,45,83,69,65,82,67,72,32,69,78,68,45,83,84,65,82,84,32,69,78,68,45,83,84,82,73,78,71,32,69,78,68,45,83,85,66,84,82,65,67,84,32,69,78,68,45,85,78,83,84,82,73,78,71,32,69,78,68,45,87,82,73,84,69,32,69,78,86,73,82,79,78,77,69,78,84,32,69,81,85,65,76,32,69,82,82,79,82,32,69,88,67,69,80,84,73,79,78,32,69,88,84,69,78,68,32,70,65,76,83,69,32,70,68,32,70,73,76,69,32,70,73,76,69,45,67,79,78,84,82,79,76,32,70,73,76,76,69,82,32,70,73,78,65,76,32,70,73,82,83,84,32,70,79,79,84,73,78,71,32,70,79,82,32,70,82,79,77,32,71,73,86,73,78,71,32,71,82,69,65,84,69,82,32,71,82,79,85,80,32,72,69,65,68,73,78,71,32,73,45,79,32,73,45,79,45,67,79,78,84,82,79,76,32,73,68,69,78,84,73,70,73,67,65,84,73,79,78,32,73,78,32,73,78,68,69,88,69,68,32,73,78,68,73,67,65,84,69,32,73,78,73,84,73,65,76,32,73,78,80,85,84,32,73,78,80,85,84,45,79,85,84,80,85,84,32,73,78,84,79,32,73,78,86,65,76,73,68,32,73,83,32,74,85,83,84,32,74,85,83,84,73,70,73,69,68,32,75,69,89,32,76,65,66,69,76,32,76,65,83,84,32,76,69,65,68,73,78,71,32,76,69,70,84,32,76,69,83,83,32,76,73,77,73,84,32,76,73,77,73,84,83,32,76,73,78,69,32,76,73,78,69,83,32,76,73,78,75,65,71,69,32,77,79,68,69,32,78,69,65,82,69,83,84,45,65,87,65,89,45,70,82,79,77,45,90,69,82,79,32,78,69,65,82,69,83,84,45,69,86,69,78,32,78,69,65,82,69,83,84,45,84,79,87,65,82,68,45,90,69,82,79,32,78,69,71,65,84,73,86,69,32,78,69,88,84,32,78,79,32,78,79,84,32,78,85,77,66,69,82,32,78,85,77,69,82,73,67,32,79,67,67,85,82,83,32,79,70,32,79,70,70,32,79,77,73,84,84,69,68,32,79,78,32,79,80,84,73,79,78,65,76,32,79,82,32,79,82,68,69,82,32,79,82,71,65,78,73,90,65,84,73,79,78,32,79,84,72,69,82,32,79,85,84,80,85,84,32,79,86,69,82,70,76,79,87,32,80,65,67,75,69,68,45,68,69,67,73,77,65,76,32,80,65,71,69,32,80,70,32,80,72,32,80,73,67,32,80,73,67,84,85,82,69,32,80,76,85,83,32,80,79,73,78,84,69,82,32,80,79,83,73,84,73,86,69,32,80,82,79,67,69,68,85,82,69,32,80,82,79,67,69,69,68,32,80,82,79,71,82,65,77,32,80,82,79,71,82,65,77,45,73,68,32,80,82,79,72,73,66,73,84,69,68,32,82,65,78,68,79,77,32,82,68,32,82,69,67,79,82,68,32,82,69,67,79,82,68,83,32,82,69,68,69,70,73,78,69,83,32,82,69,70,69,82,69,78,67,69,32,82,69,76,65,84,73,86,69,32,82,69,77,65,73,78,68,69,82,32,82,69,78,65,77,69,83,32,82,69,80,76,65,67,73,78,71,32,82,69,80,79,82,84,32,82,69,80,79,82,84,73,78,71,32,82,69,80,79,82,84,83,32,82,69,83,69,84,32,82,70,32,82,72,32,82,73,71,72,84,32,82,79,85,78,68,69,68,32,82,85,78,32,83,67,82,69,69,78,32,83,68,32,83,69,67,84,73,79,78,32,83,69,76,69,67,84,32,83,69,78,84,69,78,67,69,32,83,69,80,65,82,65,84,69,32,83,69,81,85,69,78,67,69,32,83,69,81,85,69,78,84,73,65,76,32,83,73,71,78,32,83,73,90,69,32,83,79,85,82,67,69,32,83,84,65,78,68,65,82,68,32,83,84,65,84,85,83,32,83,85,77,32,84,65,76,76,89,73,78,71,32,84,69,83,84,32,84,72,65,78,32,84,72,69,78,32,84,72,82,79,85,71,72,32,84,72,82,85,32,84,73,77,69,83,32,84,79,32,84,79,87,65,82,68,45,71,82,69,65,84,69,82,32,84,79,87,65,82,68,45,76,69,83,83,69,82,32,84,82,65,73,76,73,78,71,32,84,82,85,69,32,84,82,85,78,67,65,84,73,79,78,32,84,89,80,69,32,85,78,84,73,76,32,85,80,32,85,80,79,78,32,85,83,65,71,69,32,85,83,73,78,71,32,86,65,76,85,69,32,86,65,76,85,69,83,32,86,65,82,89,73,78,71,32,87,72,69,78,32,87,73,84,72,32,87,79,82,75,73,78,71,45,83,84,79,82,65,71,69]
def verbsW:Str:=[65,67,67,69,80,84,32,65,68,68,32,65,76,84,69,82,32,67,65,76,76,32,67,65,78,67,69,76,32,67,76,79,83,69,32,67,79,77,80,85,84,69,32,67,79,78,84,73,78,85,69,32,68,69,76,69,84,69,32,68,73,83,80,76,65,89,32,68,73,86,73,68,69,32,69,86,65,76,85,65,84,69,32,69,88,73,84,32,71,69,78,69,82,65,84,69,32,71,79,32,73,70,32,73,78,73,84,73,65,76,73,90,69,32,73,78,73,84,73,65,84,69,32,73,78,83,80,69,67,84,32,77,69,82,71,69,32,77,79,86,69,32,77,85,76,84,73,80,76,89,32,79,80,69,78,32,80,69,82,70,79,82,77,32,82,69,65,68,32,82,69,76,69,65,83,69,32,82,69,84,85,82,78,32,82,69,87,82,73,84,69,32,83,69,65,82,67,72,32,83,69,84,32,83,79,82,84,32,83,84,65,82,84,32,83,84,79,80,32,83,84,82,73,78,71,32,83,85,66,84,82,65,67,84,32,83,85,80,80,82,69,83,83,32,84,69,82,77,73,78,65,84,69,32,85,78,83,84,82,73,78,71,32,85,83,69,32,87,82,73,84,69]
def constantsW:Str:=[90,69,82,79,32,90,69,82,79,83,32,90,69,82,79,69,83,32,83,80,65,67,69,32,83,80,65,67,69,83,32,72,73,71,72,45,86,65,76,85,69,32,72,73,71,72,45,86,65,76,85,69,83,32,76,79,87,45,86,65,76,85,69,32,76,79,87,45,86,65,76,85,69,83,32,81,85,79,84,69,32,81,85,79,84,69,83]
def wordTs:List Str:=[keysW,verbsW,constantsW]
def UD(i:Nat):List (Str×Nat):=((wordTs.take i).zipIdx.map fun p=>(Lib.fields p.1).map fun w=>(w,p.2+1)).flatten
def qce(s:Str):Nat:=((UD 3).find? fun p=>decide (p.1=s)).elim 0 (·.2)
theorem qef{i:Nat}(hi:i<3):UD (i+1)=UD i++(Lib.fields (wordTs.getD i [])).map fun w=>(w,i+1):=by
 unfold UD;rw[Vu,JD (l:=wordTs) (i:=i) (by simpa[wordTs]using hi),List.zipIdx_append,JK,Vv];have e:(wordTs.take i).length=i:=by rw[K6];simp only[wordTs,KZ,JF];omega
 rw[e];simp[Ko,JD (l:=wordTs) (i:=i) (by simpa[wordTs]using hi)]
theorem qsO:((UD 3).map (·.1)).Nodup:=by decide+kernel
def wordsO:Words:=⟨fun s=>decide (qce s=0),fun s=>decide (qce s=3)⟩
end Go.Stm
namespace Go
open Go.AM
open Go.Proofs
open Go.Proofs.YtgiadjbiimkbiaaGreatDoor
theorem qy{p q:Prop}(a:p)(b:q):p/\q:=⟨a,b⟩
theorem bunNe{a b:Nat}(h:a≠b):a≠b/\b≠a:=⟨h,h.symm⟩
theorem Ql{wz:World}{h:AHeap}{k:Nat}{b:Blk}(hk:h k=some b)(o:Nat):rd wz h (.own k) o=b.cells.getD o .dead:=YG wz hk o
theorem Yb:type_of%(qy @Jp.{0,0} @JH.{0}):=qy @Jp.{0,0} @JH.{0}
theorem Ua:type_of%(qy @ne_eq.{1} (qy @ne_eq.{0} @not_false_eq_true)):=qy @ne_eq.{1} (qy @ne_eq.{0} @not_false_eq_true)
theorem Xo:type_of%(qy @JF.{0} @KZ.{0}):=qy @JF.{0} @KZ.{0}
theorem ZE:type_of%(qy @qO @ZI):=qy @qO @ZI
theorem XD:type_of%(qy @Xa @Xm):=qy @Xa @Xm
theorem XN:type_of%(qy @Ke.{0,0} @Vm.{0,0}):=qy @Ke.{0,0} @Vm.{0,0}
theorem QN:type_of%(qy @Vw @K8):=qy @Vw @K8
theorem XE:type_of%(qy @Kj.{0} @Vx.{0}):=qy @Kj.{0} @Vx.{0}
theorem XT:type_of%(qy @nthDst.eq_1 (qy @nthDst.eq_2 (qy @nthDst.eq_3 @gv.eq_1))):=qy @nthDst.eq_1 (qy @nthDst.eq_2 (qy @nthDst.eq_3 @gv.eq_1))
theorem Zu:type_of%(qy @Ki.{0} @Vy.{0}):=qy @Ki.{0} @Vy.{0}
theorem WN:type_of%(qy @Jr (qy @setAt.eq_1 @setAt.eq_2)):=qy @Jr (qy @setAt.eq_1 @setAt.eq_2)
theorem Yv:type_of%(qy @cond_false.{1} (qy @cond_false.{0} @qaf)):=qy @cond_false.{1} (qy @cond_false.{0} @qaf)
theorem Xz:type_of%(qy @qih @qne):=qy @qih @qne
theorem ZF:type_of%(qy @XM @qhd):=qy @XM @qhd
theorem Ya:type_of%(qy @qO @Qe):=qy @qO @Qe
theorem YT:type_of%(qy @qF @Zz):=qy @qF @Zz
theorem Xv:type_of%(qy @Kh.{0} @Jf.{0}):=qy @Kh.{0} @Jf.{0}
theorem ZT:type_of%(qy @Jd.{0} @JH.{0}):=qy @Jd.{0} @JH.{0}
theorem QT:type_of%(qy @qem @qfc):=qy @qem @qfc
theorem XU:type_of%(qy @Vz @Qe):=qy @Vz @Qe
theorem Wy:type_of%(qy @Ky @decide_eq_true_eq):=qy @Ky @decide_eq_true_eq
theorem ZZ:type_of%(qy @if_true.{1} (qy @if_true.{0} (qy @if_false.{1} (qy @if_false.{0} (qy @Slots.get.eq_1 @Slots.get.eq_2))))):=qy @if_true.{1} (qy @if_true.{0} (qy @if_false.{1} (qy @if_false.{0} (qy @Slots.get.eq_1 @Slots.get.eq_2))))
theorem Xg:type_of%(qy @qnv (qy @qro @qhS)):=qy @qnv (qy @qro @qhS)
theorem Zd:type_of%(qy Xo @Jd.{0}):=qy Xo @Jd.{0}
theorem qab:type_of%(qy @qdj (qy @WY @qka)):=qy @qdj (qy @WY @qka)
theorem Zn:type_of%(qy @Vz XD):=qy @Vz XD
theorem qaH:type_of%(qy qab @VA):=qy qab @VA
theorem Ul:type_of%(qy @and_true (qy @absS.eq_1 (qy @absS.eq_2 (qy @absS.eq_3 (qy @absS.eq_4 (qy @absS.eq_5 (qy @absS.eq_6 (qy @absS.eq_7 (qy @absS.eq_8 (qy @absS.eq_9 (qy @absS.eq_10 (qy @absS.eq_11 (qy @absS.eq_12 (qy @absV.eq_1 (qy @absV.eq_2 (qy @absV.eq_3 @true_and)))))))))))))))):=qy @and_true (qy @absS.eq_1 (qy @absS.eq_2 (qy @absS.eq_3 (qy @absS.eq_4 (qy @absS.eq_5 (qy @absS.eq_6 (qy @absS.eq_7 (qy @absS.eq_8 (qy @absS.eq_9 (qy @absS.eq_10 (qy @absS.eq_11 (qy @absS.eq_12 (qy @absV.eq_1 (qy @absV.eq_2 (qy @absV.eq_3 @true_and)))))))))))))))
theorem qar:type_of%(qy @qsf (qy @qse (qy @qsd @qsc))):=qy @qsf (qy @qse (qy @qsd @qsc))
theorem Xk:type_of%(qy @cp_binl (qy @cp_binr (qy @cv_binl @cv_binr))):=qy @cp_binl (qy @cp_binr (qy @cv_binl @cv_binr))
theorem QZ:type_of%(qy XE (qy @AVal.cells.eq_1 (qy @AVal.cells.eq_2 WN))):=qy XE (qy @AVal.cells.eq_1 (qy @AVal.cells.eq_2 WN))
theorem qac:type_of%(qy @qbi (qy @qaS (qy @Slots.keep.eq_1 (qy @Slots.keep.eq_2 (qy @VB.{0} (qy @VC.{0} @qrI)))))):=qy @qbi (qy @qaS (qy @Slots.keep.eq_1 (qy @Slots.keep.eq_2 (qy @VB.{0} (qy @VC.{0} @qrI)))))
theorem Zo:type_of%(qy ZZ (qy @Slots.put.eq_1 (qy @Slots.put.eq_2 (qy @putD.eq_1 (qy @putD.eq_2 (qy @ev.eq_1 (qy @ev.eq_2 (qy @ev.eq_3 @ev.eq_4)))))))):=qy ZZ (qy @Slots.put.eq_1 (qy @Slots.put.eq_2 (qy @putD.eq_1 (qy @putD.eq_2 (qy @ev.eq_1 (qy @ev.eq_2 (qy @ev.eq_3 @ev.eq_4)))))))
theorem qad:type_of%(qy @qlB (qy @qnt (qy @qhV (qy @qhU (qy @qgK (qy @qrg @qrf)))))):=qy @qlB (qy @qnt (qy @qhV (qy @qhU (qy @qgK (qy @qrg @qrf)))))
theorem qcm:type_of%(qy qaH (qy @XK (qy @XJ (qy @qmc (qy @implies_true.{1} @implies_true.{0}))))):=qy qaH (qy @XK (qy @XJ (qy @qmc (qy @implies_true.{1} @implies_true.{0}))))
theorem qeJ:type_of%(qy @if_true.{1} (qy @if_true.{0} (qy @if_false.{1} (qy @if_false.{0} (qy XE (qy @AVal.cells.eq_1 (qy @AVal.cells.eq_2 (qy @Slots.get.eq_1 (qy @Slots.get.eq_2 WN))))))))):=qy @if_true.{1} (qy @if_true.{0} (qy @if_false.{1} (qy @if_false.{0} (qy XE (qy @AVal.cells.eq_1 (qy @AVal.cells.eq_2 (qy @Slots.get.eq_1 (qy @Slots.get.eq_2 WN))))))))
theorem Wi:type_of%(qy qad (qy @agP.eq_1 @Us)):=qy qad (qy @agP.eq_1 @Us)
theorem ZJ:type_of%(qy @if_true.{1} (qy @if_true.{0} (qy @if_false.{1} (qy @if_false.{0} (qy @AVal.cells.eq_1 (qy @AVal.cells.eq_2 (qy @Slots.get.eq_1 (qy @Slots.get.eq_2 (qy @Slots.put.eq_1 (qy @Slots.put.eq_2 (qy @putD.eq_1 (qy @putD.eq_2 (qy @ev.eq_1 (qy @ev.eq_2 (qy @ev.eq_3 (qy @ev.eq_4 (qy @J8 @Vz))))))))))))))))):=qy @if_true.{1} (qy @if_true.{0} (qy @if_false.{1} (qy @if_false.{0} (qy @AVal.cells.eq_1 (qy @AVal.cells.eq_2 (qy @Slots.get.eq_1 (qy @Slots.get.eq_2 (qy @Slots.put.eq_1 (qy @Slots.put.eq_2 (qy @putD.eq_1 (qy @putD.eq_2 (qy @ev.eq_1 (qy @ev.eq_2 (qy @ev.eq_3 (qy @ev.eq_4 (qy @J8 @Vz))))))))))))))))
theorem qG:type_of%(qy Wy (qy @Jj (qy @JJ (qy @decide_eq_false_iff_not (qy @VD (qy @VE (qy @VF (qy @VG @VH)))))))):=qy Wy (qy @Jj (qy @JJ (qy @decide_eq_false_iff_not (qy @VD (qy @VE (qy @VF (qy @VG @VH)))))))
theorem YS:type_of%(qy qcm qar):=qy qcm qar
theorem Yw:type_of%(qy @qdA (qy @qdz (qy @qdy (qy @qdw (qy @qdv (qy @qdu (qy @qdp (qy @qdo (qy @qah (qy @qag (qy @qpr @qgt))))))))))):=qy @qdA (qy @qdz (qy @qdy (qy @qdw (qy @qdv (qy @qdu (qy @qdp (qy @qdo (qy @qah (qy @qag (qy @qpr @qgt))))))))))
theorem XF:type_of%(qy XT (qy @VI (qy @VJ (qy @ZH (qy @decide_true (qy @VK (qy @decide_false (qy @VL (qy @VM (qy @VN (qy @VO (qy @VP (qy @false_implies (qy @forall_const.{1} (qy @forall_const.{0} (qy @YU @WJ)))))))))))))))):=qy XT (qy @VI (qy @VJ (qy @ZH (qy @decide_true (qy @VK (qy @decide_false (qy @VL (qy @VM (qy @VN (qy @VO (qy @VP (qy @false_implies (qy @forall_const.{1} (qy @forall_const.{0} (qy @YU @WJ)))))))))))))))
theorem Yy:type_of%(qy @VI (qy @VJ (qy @ZH (qy @decide_true (qy @VK (qy @decide_false (qy @VL (qy @VM (qy @VN (qy @VO (qy @VP (qy @false_implies (qy @forall_const.{1} (qy @forall_const.{0} (qy @YU (qy @WJ (qy @cond_true.{1} (qy @cond_true.{0} @Ye)))))))))))))))))):=qy @VI (qy @VJ (qy @ZH (qy @decide_true (qy @VK (qy @decide_false (qy @VL (qy @VM (qy @VN (qy @VO (qy @VP (qy @false_implies (qy @forall_const.{1} (qy @forall_const.{0} (qy @YU (qy @WJ (qy @cond_true.{1} (qy @cond_true.{0} @Ye)))))))))))))))))
theorem Yh:type_of%(qy XT (qy @VI (qy @VJ (qy @ZH (qy @decide_true (qy @VK (qy @decide_false (qy @VL (qy @Qm (qy @VM (qy @VN (qy @VO (qy @VP (qy @false_implies (qy @forall_const.{1} (qy @forall_const.{0} (qy @YU @WJ))))))))))))))))):=qy XT (qy @VI (qy @VJ (qy @ZH (qy @decide_true (qy @VK (qy @decide_false (qy @VL (qy @Qm (qy @VM (qy @VN (qy @VO (qy @VP (qy @false_implies (qy @forall_const.{1} (qy @forall_const.{0} (qy @YU @WJ))))))))))))))))
theorem qeK:type_of%(qy @VQ.{0} (qy @allLive.eq_1 (qy @allLive.eq_2 (qy @Kn.{0} (qy @qjl (qy @qlH (qy @qbZ (qy @qoD (qy @lv_bool (qy @lv_func (qy @qrD (qy @lv_map (qy @qlG (qy @qjU (qy @qnB (qy @qnA (qy @lv_ptr (qy @qrC (qy @qrB (qy @rd_any @rd_ne')))))))))))))))))))):=qy @VQ.{0} (qy @allLive.eq_1 (qy @allLive.eq_2 (qy @Kn.{0} (qy @qjl (qy @qlH (qy @qbZ (qy @qoD (qy @lv_bool (qy @lv_func (qy @qrD (qy @lv_map (qy @qlG (qy @qjU (qy @qnB (qy @qnA (qy @lv_ptr (qy @qrC (qy @qrB (qy @rd_any @rd_ne')))))))))))))))))))
theorem Zf:type_of%(qy YS Wi):=qy YS Wi
theorem qR:type_of%(qy qeJ (qy @Slots.put.eq_1 (qy @Slots.put.eq_2 (qy @putD.eq_1 (qy @putD.eq_2 (qy @ev.eq_1 (qy @ev.eq_2 (qy @ev.eq_3 (qy @ev.eq_4 (qy @J8 (qy Ul (qy Ua (qy @Qt (qy @cellsAt.eq_1 (qy @cellsAt.eq_2 (qy qac qeK)))))))))))))))):=qy qeJ (qy @Slots.put.eq_1 (qy @Slots.put.eq_2 (qy @putD.eq_1 (qy @putD.eq_2 (qy @ev.eq_1 (qy @ev.eq_2 (qy @ev.eq_3 (qy @ev.eq_4 (qy @J8 (qy Ul (qy Ua (qy @Qt (qy @cellsAt.eq_1 (qy @cellsAt.eq_2 (qy qac qeK)))))))))))))))
theorem YI:type_of%(qy qR @Xm):=qy qR @Xm
theorem Qw:type_of%(qy qR @qbV):=qy qR @qbV
theorem Xn:type_of%(qy qR @Uv):=qy qR @Uv
theorem qJ:type_of%(qy qR @ZO):=qy qR @ZO
theorem Zg:type_of%(qy qR @Vz):=qy qR @Vz
theorem Xh:type_of%(qy Qw @ZO):=qy Qw @ZO
theorem ZU:type_of%(qy Qw XD):=qy Qw XD
theorem Zp:type_of%(qy qR (qy Yv @WA)):=qy qR (qy Yv @WA)
theorem XI:type_of%(qy Qw Yv):=qy Qw Yv
theorem QH:type_of%(qy XI @WA):=qy XI @WA
theorem ZY:type_of%(qy Xh (qy Yv @WA)):=qy Xh (qy Yv @WA)
theorem Yz:type_of%(qy QH XD):=qy QH XD
theorem YH:type_of%(qy ZY ZE):=qy ZY ZE
end Go
namespace Go.Stm
open Go.Col (Str FaultC okF)
open Go.Tok
set_option maxRecDepth 100000
def qtc:Str:=[40,32,41,32,58,32,61,32,60,32,62,32,43,32,45,32,42,32,47,32,42,42,32,60,61,32,62,61,32,60,62]
def qao(i:Nat)(w:Str):TokC:=
 if w.getD 0 0=34 then⟨3,Lib.trimB w 34,(i+1:Nat),8,false⟩
 else if 48<=w.getD 0 0/\w.getD 0 0<=57 then⟨2,w,(i+1:Nat),8,false⟩
 else if w=[46]then⟨6,w,(i+1:Nat),8,false⟩
 else if Lib.contains qtc w=true then⟨5,w,(i+1:Nat),8,false⟩
 else⟨1,w,(i+1:Nat),8,false⟩
def qbe:Nat->List Str->List TokC
 |_,[]=>[]
 |i,w::ws=>qao i w::qbe (i+1) ws
def Qh(s:Str):List TokC:=qbe 0 (Lib.fields s)
def qaU(t:TokC):Str:=(48+t.kind)::t.text
def Zk:Nat->List StC->List Str
 |0,_=>[]
 |m+1,l=>(l.map fun s=>(123::s.verb)::((s.phrases.map fun p=>(60::(p.words++[62]))::p.toks.map qaU).flatten++(s.bodies.map fun b=>(91::(b.1++[93]))::(b.2.1.map qaU++Zk m b.2.2)).flatten)++[[125]]).flatten
end Go.Stm
namespace Go.AM
def qdG(fn:Func):Code:=match fn.body with
 |some c=>c
 |none=> .skip
def Uk:Nat->Code->Code
 |0,c=>c
 |k+1, .seq _ c=>Uk k c
 |_+1,c=>c
def qkC:Code->Code
 | .scope c=>c
 |c=>c
def qgd(Q:Exit->Slots->AHeap->Prop):Exit->Slots->AHeap->Prop
 | .goto _,_,_=>False
 |e,s,h=>Q e s h
theorem qrz{Q:Exit->Slots->AHeap->Prop}{s:Slots}{h:AHeap}:qgd Q .ret s h=Q .ret s h:=rfl
theorem awp_scope{P:Program}{wz:World}{n:FrameK}{s:Slots}{h:AHeap}{Q:Exit->Slots->AHeap->Prop}{c:Code}(hc:Awp P wz n c (qgd Q) s h):Awp P wz n (.scope c) Q s h:=
 fun fi a w hr hs=>wp_scope_straight (wp_mono (hc fi a w hr hs) fun e a' w' hq=>by
  rcases hq with⟨Ps,s',h',h1,h2,h3,h4⟩|hq
  ·cases e with
   |goto l=>exact h4.elim
   |normal=>exact .inl ⟨Ps,s',h',h1,h2,h3,h4⟩
   |exit i=>exact .inl ⟨Ps,s',h',h1,h2,h3,h4⟩
   |ret=>exact .inl ⟨Ps,s',h',h1,h2,h3,h4⟩
   |panic c=>exact .inl ⟨Ps,s',h',h1,h2,h3,h4⟩
   |outgrown=>exact .inl ⟨Ps,s',h',h1,h2,h3,h4⟩
  ·cases e with
   |goto l=>exact hq.1.elim
   |normal=>exact hq.1.elim
   |exit i=>exact hq.1.elim
   |ret=>exact .inr hq
   |panic c=>exact .inr hq
   |outgrown=>exact hq.1.elim)
inductive IsL(wz:World)(h:AHeap)(es:Nat):AVal->List (List AVal)->Prop
 |nil:IsL wz h es .nilSlice []
 |mk (l:Loc) (o n:Nat) (c:Cap) (xs:List (List AVal)) (hn:n=xs.length) (hw:∀x∈xs,x.length=es) (hc:cellsAt wz h l o (n*es)=xs.flatten) (hl:allLive xs.flatten=true) (hcap:match c with| .exact c=>n<=c| .grow g=>g=es):IsL wz h es (.slice l o n c) xs
theorem flatten_len{α:Type}{es:Nat}:∀{xs:List (List α)},(∀x∈xs,x.length=es)->xs.flatten.length=xs.length*es
 |[],_=>by simp
 |x::xs,h=>by
  rw[VS,Jd,flatten_len (fun y hy=>h y (Jh _ hy)),h x (Jg),KZ,VT,JI]
theorem qkf{α:Type}{es:Nat}:∀{xs:List (List α)},(∀x∈xs,x.length=es)->∀{i j:Nat},i<xs.length->j<es->xs.flatten[i*es+j]?=(xs.getD i [])[j]?
 |[],_,_,_,hi,_=>by simp at hi
 |x::xs,h,0,j,_,hj=>by
  rw[VS,K9,Jr,List.getElem?_append_left (by rw[h x Jg];exact hj)];rfl
 |x::xs,h,i+1,j,hi,hj=>by
  have hx:=h x Jg;rw[VS,List.getElem?_append_right (by rw[hx,VT];omega),hx,show(i+1)*es+j-es=i*es+j by rw[VT];omega,qkf (fun y hy=>h y (Jh _ hy)) (by simpa using hi) hj];rfl
theorem qim{α:Type}{es:Nat}:∀{xs:List (List α)},(∀x∈xs,x.length=es)->∀i,xs.flatten.drop (i*es)=(xs.drop i).flatten
 |xs,_,0=>by simp
 |[],_,i+1=>by simp
 |x::xs,h,i+1=>by
  have hx:=h x Jg;rw[VS,VU,<-qim (fun y hy=>h y (Jh _ hy)) i,VT,List.drop_append,List.drop_of_length_le (by omega),Jf,show i*es+es-x.length=i*es by omega]
theorem qil{α:Type}{es:Nat}:∀{xs:List (List α)},(∀x∈xs,x.length=es)->∀i,xs.flatten.take (i*es)=(xs.take i).flatten
 |xs,_,0=>by simp
 |[],_,i+1=>by simp
 |x::xs,h,i+1=>by
  have hx:=h x Jg;rw[VS,Ki,VS,<-qil (fun y hy=>h y (Jh _ hy)) i,VT,JI,List.take_append,J3 (by omega),show es+i*es-x.length=i*es by omega]
theorem YA:∀(a c:List AVal),allLive (a++c)=(allLive a && allLive c)
 |[],_=>rfl
 |x::a,c=>by simp[allLive,YA a c,Vq]
theorem WB:∀{xs:List (List AVal)},allLive xs.flatten=true↔∀x∈xs,allLive x=true
 |[]=>by simp[allLive]
 |x::xs=>by
  rw[VS,YA,Ky,WB];simp
def qhD(es:Nat):AVal->Nat->Nat->AVal
 | .slice l o _ (.exact c),i,j=> .slice l (o+i*es) (j-i) (.exact (c-i))
 | .slice l o _ (.grow g),i,j=> .slice l (o+i*es) (j-i) (.grow g)
 |v,_,_=>v
section
variable {P:Program} {wz:World} {h:AHeap} {es:Nat} {v:AVal} {xs:List (List AVal)}
theorem IsL.live(hb:IsL wz h es v xs):v.live=true:=by cases hb<;>rfl
theorem IsL.scal(hb:IsL wz h es v xs):v.scal=true:=by cases hb<;>rfl
theorem IsL.cells(hb:IsL wz h es v xs):v.cells=[v]:=by cases hb<;>rfl
theorem IsL.wide(hb:IsL wz h es v xs):∀x∈xs,x.length=es:=by
 cases hb with
 |nil=>simp
 |mk l o n c xs hn hw hc hl hcap=>exact hw
theorem IsL.allLive(hb:IsL wz h es v xs):allLive xs.flatten=true:=by
 cases hb with
 |nil=>rfl
 |mk l o n c xs hn hw hc hl hcap=>exact hl
theorem IsL.len(hb:IsL wz h es v xs){t e:TypeId}(ht:P.underlying t=some (.slice e)):∀H:AHeap,Ze P H t v=⟨True, .int .i64 xs.length⟩:=by
 intro H;cases hb with
 |nil=>simp[Ze,qdi,qrs,ht]
 |mk l o n c xs hn hw hc hl hcap=>simp[Ze,qdi,qrs,ht,hn]
theorem IsL.open(hb:IsL wz h es v xs)(hx:xs≠[]):∃l o c,v= .slice l o xs.length c:=by
 cases hb with
 |nil=>exact absurd rfl hx
 |mk l o n c xs hn hw hc hl hcap=>subst hn;exact⟨l,o,c,rfl⟩
theorem IsL.open'(hb:IsL wz h es v xs):(v= .nilSlice/\xs=[])\/∃l o c,v= .slice l o xs.length c:=by
 cases hb with
 |nil=>exact .inl ⟨rfl,rfl⟩
 |mk l o n c xs hn hw hc hl hcap=>subst hn;exact .inr ⟨l,o,c,rfl⟩
theorem IsL.part{l:Loc}{o n:Nat}{c:Cap}(hb:IsL wz h es (.slice l o n c) xs){i j:Nat}(hij:i<=j)(hj:j<=xs.length):cellsAt wz h l (o+i*es) ((j-i)*es)=((xs.drop i).take (j-i)).flatten:=by
 cases hb with
 |mk l o n c xs hn hw hc hl hcap=>
  subst hn;have h1:i*es<=j*es:=Ja _ hij;have h2:j*es<=xs.length*es:=Ja _ hj;rw[Nat.sub_mul,qpf wz h l o (xs.length*es) (i*es) (j*es) h1 h2,hc,qim hw,<-Nat.sub_mul,qil (fun y hy=>hw y (VV hy))]
theorem IsL.elem{l:Loc}{o n:Nat}{c:Cap}(hb:IsL wz h es (.slice l o n c) xs){i:Nat}(hi:i<xs.length):cellsAt wz h l (o+i*es) es=xs.getD i []:=by
 have:=hb.part (i:=i) (j:=i+1) (by omega) hi;rw[show i+1-i=1 by omega,Nat.one_mul]at this;rw[this,List.take_one,List.head?_drop,JD hi];simp[Ko,hi]
theorem IsL.at{l:Loc}{o n:Nat}{c:Cap}(hb:IsL wz h es (.slice l o n c) xs){i j:Nat}(hi:i<xs.length)(hj:j<es):rd wz h l (o+i*es+j)=(xs.getD i []).getD j .dead:=by
 have:=qaN wz h l es (o+i*es) j hj;rw[hb.elem hi]at this;rw[Ko,this];rfl
theorem IsL.at0{l:Loc}{o n:Nat}{c:Cap}(hb:IsL wz h es (.slice l o n c) xs){i:Nat}(hi:i<xs.length)(hj:0<es):rd wz h l (o+i*es)=(xs.getD i []).getD 0 .dead:=hb.at (j:=0) hi hj
theorem IsL.sub(hb:IsL wz h es v xs){i j:Nat}(hij:i<=j)(hj:j<=xs.length):IsL wz h es (qhD es v i j) ((xs.drop i).take (j-i)):=by
 have hb':=hb;cases hb with
 |nil=>
  simp only[qhD,List.drop_nil,List.take_nil];exact .nil
 |mk l o n c xs hn hw hc hl hcap=>
  subst hn;have e1:=hb'.part hij hj;have e2:AM.allLive ((xs.drop i).take (j-i)).flatten=true:=WB.2 fun x hx=>WB.1 hl x (VV (VW hx));cases c with
  |exact c=>exact .mk l _ _ _ _ (by simp;omega) (fun x hx=>hw x (VV (VW hx))) e1 e2 (by simp only at hcap|-;omega)
  |grow g=>exact .mk l _ _ _ _ (by simp;omega) (fun x hx=>hw x (VV (VW hx))) e1 e2 hcap
theorem IsL.slice(hb:IsL wz h es v xs){t e:TypeId}(ht:P.underlying t=some (.slice e))(hs:Zy P e=some es)(lo hi:Option AVal){l r:Int}(hl:qcd lo 0=some l)(hr:qcd hi xs.length=some r)
 (h0:0<=l) (h1:l<=r) (h2:r<=xs.length):Ws P t v lo hi none=⟨True,qhD es v l.toNat r.toNat⟩:=by
 cases hb with
 |nil=>
  simp only[JF]at h2 hr;have e1:l=0:=by omega
  have e2:r=0:=by omega
  subst e1 e2;simp only[Ws,ht,hs,hl,hr,qhD,and_self]
 |mk lc o n c xs hn hw hc hl' hcap=>
  subst hn;have e:(r-l).toNat=r.toNat-l.toNat:=by omega
  cases c with
  |exact c=>
   simp only at hcap;have e3:((c:Int)-l).toNat=c-l.toNat:=by omega
   have e4:r<=c:=by omega
   simp only[Ws,ht,hs,hl,hr,qhD,e,e3,h0,h1,e4,and_self]
  |grow g=>
   simp only at hcap;subst hcap;simp only[Ws,ht,hs,hl,hr,qhD,e,h0,h1,h2,and_self]
def ZA:AVal->AVal
 | .slice l o n _=> .slice l o n (.exact n)
 |v=>v
theorem IsL.clip(hb:IsL wz h es v xs):IsL wz h es (ZA v) xs:=by
 cases hb with
 |nil=>exact .nil
 |mk l o n c xs hn hw hc hl hcap=>exact .mk l o n _ xs hn hw hc hl (KL _)
theorem IsL.slice3(hb:IsL wz h es v xs){t e:TypeId}(ht:P.underlying t=some (.slice e))(hs:Zy P e=some es)(k k':IntKind)(lo:Option AVal)(hl:qcd lo 0=some 0):Ws P t v lo (some (.int k xs.length)) (some (.int k' xs.length))=⟨True,ZA v⟩:=by
 cases hb with
 |nil=>simp only[JF,qay,Ws,ht,hs,hl,ZA,JY,Int.natCast_zero,and_self]
 |mk lc o n c xs hn hw hc hl' hcap=>
  subst hn;have z0:(0:Int).toNat=0:=rfl;have e1:((xs.length:Int)-0).toNat=xs.length:=by omega
  cases c with
  |exact c=>
   simp only at hcap;have e4:(xs.length:Int)<=c:=by omega
   simp only[K8,K9,qay,Ws,ht,hs,hl,ZA,z0,e1,JY,e4,VX,Int.le_refl,and_self]
  |grow g=>simp only[K8,K9,qay,Ws,ht,hs,hl,ZA,z0,e1,JY,VX,Int.le_refl,and_self]
theorem qpg{l:Loc}{h h':AHeap}(hs:Sub h h'):∀(m o:Nat),allLive (cellsAt wz h l o m)=true->cellsAt wz h' l o m=cellsAt wz h l o m:=by
 intro m;induction m with
 |zero=>intro o _;rfl
 |succ m ih=>
  intro o hl;simp only[cellsAt,Ky,AM.allLive]at hl|-
  rw[ih _ hl.2];congr 1;cases l with
  |base b=>rfl
  |own k=>
   have hl1:=hl.1;unfold AM.rd at hl1|-
   cases hk:h k with
   |none=>simp[hk,J5]at hl1
   |some b=>simp only[hk,hs k b hk]
theorem IsL.mono(hb:IsL wz h es v xs){h':AHeap}(hs:Sub h h'):IsL wz h' es v xs:=by
 cases hb with
 |nil=>exact .nil
 |mk l o n c xs hn hw hc hl hcap=>exact .mk l o n c xs hn hw ((qpg hs _ _ (by rw[hc];exact hl)).trans hc) hl hcap
theorem IsL.own{k:Nat}{b:Blk}(hk:h k=some b)(hw:∀x∈xs,x.length=es)(hc:b.cells=xs.flatten)(hl:AM.allLive xs.flatten=true)(c:Cap)(hcap:match c with| .exact c=>xs.length<=c| .grow g=>g=es):IsL wz h es (.slice (.own k) 0 xs.length c) xs:=by
 refine .mk _ _ _ _ _ rfl hw ?_ hl hcap;have e:=flatten_len hw;rw[qkm hk 0 _ (by rw[hc,e];omega),Vp,hc,J3 (by omega)]
theorem IsL.src(hb:IsL wz h es v xs):qfj v=some xs.length/\qha wz h es xs.length v/\ZL wz h es xs.length v=xs.flatten:=by
 cases hb with
 |nil=>exact⟨rfl,trivial,rfl⟩
 |mk l o n c xs hn hw hc hl hcap=>
  subst hn;refine⟨rfl,?_,hc⟩;show AM.allLive (cellsAt wz h l o (xs.length*es))=true
  rw[hc];exact hl
theorem IsL.buf{H0:AHeap}{b:Option Buf}(hb:qko H0 es b)(hes:0<es)(hc:qkz b=xs.flatten)(hw:∀x∈xs,x.length=es)(hs:Sub (qgG H0 b) h):IsL wz h es (qgF es b) xs:=by
 cases b with
 |none=>
  have e:=flatten_len hw;rw[<-hc]at e;have e0:xs.length*es=0:=by rw[<-e];rfl
  have:xs=[]:=by
   rcases Nat.mul_eq_zero.1 e0 with e1|e1
   ·exact Kg e1
   ·omega
  subst this;exact .nil
 |some b=>
  have hc':b.cells=xs.flatten:=hc;have e:b.cells.length / es=xs.length:=by rw[hc',flatten_len hw,Vo _ hes]
  show IsL wz h es (.slice (.own b.blk) 0 (b.cells.length / es) (.grow es)) xs
  rw[e];exact IsL.own (hs _ _ (Vj _ _ _)) hw hc' (by rw[<-hc'];exact hb.2.2) (.grow es) rfl
end
section
variable {α:Type} {wz:World} {h:AHeap} {es:Nat} {v:AVal} {enc:α->List AVal} {ys:List α}
theorem getD_map(d:α){i:Nat}(hi:i<ys.length):(ys.map enc).getD i []=enc (ys.getD i d):=by
 simp[Ko,hi]
end
section
variable {P:Program} {wz:World} {ops rest:List Oper} {s:Slots} {h:AHeap} {K:Slots->AHeap->Prop} {dst:Option Tmp} {ty:TypeId} {pos:String} {af:Array Edge}
theorem qY{r:PR}:agL P wz ops rest s h K dst (.bool true) false r=Qp P wz ops rest (putD s dst (.tuple [])) h K:=by
 unfold agL agP;simp[Wv,QG,Qf]
theorem qZ{r:PR}:agL P wz ops rest s h K dst (.bool false) true r=Qp P wz ops rest (putD s dst (.tuple [])) h K:=by
 unfold agL agP;simp[Wv,QG,Qf]
theorem qW{r:PR}(want:Bool):agL P wz ops rest s h K dst (.tuple []) want r=Qp P wz ops rest (putD s dst (.tuple [])) h K:=by
 unfold agL agP;simp[Wv,QG,Qf]
theorem qcy{ts:Array TypeId}{t u e:TypeId}{d:TypeDesc}{x y:Operand}{v:AVal}{es by':Nat}{z:Value}{zs xs:List (List AVal)}{H0:AHeap}{b:Option Buf}
 (h0:ts[0]?=some t) (h1:ts[1]?=some u) (ht:P.underlying t=some (.slice e)) (hu:P.underlying u=some d) (hd:∀k,d≠ .int k)
 (hs:Zy P e=some es) (hb:qdF P e=some by') (hz:Uy P e=some z) (hzs:z.cells.size=es) (hes:es≠0)
 (hx:ev s x=qgF es b) (hok:qko H0 es b) (hbz:qkz b=zs.flatten) (hzw:∀x∈zs,x.length=es) (hh:Sub (qgG H0 b) h) (hy:ev s y=v) (hv:IsL wz h es v xs) (hsc:Qu xs.flatten=true)
 (hl:(zs.length+xs.length)*by'<=140737488355328) (hl':zs.length+xs.length<4611686018427387904)
 (hk:∀b' h',qko H0 es b'->qkz b'=(zs++xs).flatten->Sub (qgG H0 b') h'->Qp P wz ops rest (putD s dst (qgF es b')) h' K):
 Qp P wz ops (⟨dst, .call ⟨.builtin .append,[x,y].toArray,ts⟩,ty,pos,af,none⟩::rest) s h K:=by
 obtain⟨s1,s2,s3⟩:=hv.src;have e:(qkz b).length / es=zs.length:=by rw[hbz,flatten_len hzw,Vo _ (Vn hes)]
 refine qmu (es:=es) (src:=xs.flatten) (m:=xs.length) h0 h1 ht hu hd hs hb hz hzs hes hx hok hh hy s1 s2 s3 (flatten_len hv.wide) hsc hv.allLive (by rw[e];exact hl) (by rw[e];exact hl') fun b' h' o1 o2 o3=>?_;exact hk b' h' o1 (by rw[o2,hbz,Vv]) o3
end
end Go.AM
namespace Go.AM
open Go.RowKit (Below)
section
variable {P:Program} {wz:World} {n:FrameK}
def qjp(P:Program)(wz:World)(l:List Oper):Nat->List Oper->Slots->AHeap->(Slots->AHeap->Prop)->Prop
 |_,[],s,h,K=>K s h
 |0,o::r,s,h,K=>Qp P wz l (o::r) s h K
 |m+1,o::r,s,h,K=>Qp P wz l [o] s h fun s' h'=>Sub h h'/\qjp P wz l m r s' h' K
theorem qfu{l:List Oper}{m:Nat}{s:Slots}{h:AHeap}{K:Slots->AHeap->Prop}:qjp P wz l m [] s h K=K s h:=by cases m<;>rfl
theorem qgg{l:List Oper}{m:Nat}{o:Oper}{r:List Oper}{s:Slots}{h:AHeap}{K:Slots->AHeap->Prop}:qjp P wz l (m+1) (o::r) s h K=Qp P wz l [o] s h fun s' h'=>Sub h h'/\qjp P wz l m r s' h' K:=rfl
theorem hOps_zero{l:List Oper}{o:Oper}{r:List Oper}{s:Slots}{h:AHeap}{K:Slots->AHeap->Prop}:qjp P wz l 0 (o::r) s h K=Qp P wz l (o::r) s h K:=rfl
theorem AHeap.ne_some{h:AHeap}{k j:Nat}{b:Blk}(hk:h k=none)(hj:h j=some b):k≠j:=fun e=>by subst e;rw[hk]at hj;cases hj
theorem Uu(h:AHeap):Sub h h=True:=eq_true (Vk h)
theorem aOps_one{l:List Oper}{o:Oper}{r:List Oper}{s:Slots}{h:AHeap}{K:Slots->AHeap->Prop}(ha:Qp P wz l (o::r) s h K):Qp P wz l [o] s h fun s' h'=>Qp P wz l r s' h' K:=by
 simp only[Qp]at ha|-
 exact ha
theorem qbI{l:List Oper}{o:Oper}{s:Slots}{h:AHeap}{K K':Slots->AHeap->Prop}(hk:∀s h,K s h->K' s h)(ha:Qp P wz l [o] s h K):Qp P wz l [o] s h K':=by
 simp only[Qp]at ha|-
 split
 ·rename_i hg
  rw[hg]at ha;exact qdV ha fun x h' hx=>hk _ _ hx
 ·rename_i j want hg
  rw[hg]at ha;simp only at ha;split
  ·rename_i hj
   rw[hj]at ha;exact hk _ _ ha
  ·rename_i d hj
   rw[hj]at ha;refine⟨ha.1,?_⟩;have h2:=ha.2;split
   ·rename_i hp
    rw[if_pos hp]at h2;exact⟨h2.1,hk _ _ h2.2⟩
   ·rename_i hp
    rw[if_neg hp]at h2;exact⟨fun e=>qdV (h2.1 e) fun x h' hx=>hk _ _ hx,fun e=>hk _ _ (h2.2 e)⟩
theorem qnH{l:List Oper}{K K':Slots->AHeap->Prop}(hk:∀s h,K s h->K' s h):∀{r:List Oper} {m:Nat} {s:Slots} {h:AHeap},qjp P wz l m r s h K->qjp P wz l m r s h K'
 |[],m,s,h,ha=>by rw[qfu]at ha|-;exact hk _ _ ha
 |o::r,0,s,h,ha=>awp_rseq.aOps_mono hk ha
 |o::r,m+1,s,h,ha=>qbI (fun s' h' hx=>⟨hx.1,qnH hk hx.2⟩) ha
def LookOk(Ps:PMap)(n:FrameK)(l:List Oper)(o:Oper)(S:Slots)(a:Act):Prop:=a.tmps.size=n/\a.defers=n.dfr/\∀t∈Qy l o,VR Ps (S.get t) (a.tmps.getD t undef)
theorem LookOk.rel{Ps:PMap}{l:List Oper}{o:Oper}{S:Slots}{a:Act}(h:LookOk Ps n l o S a):SRel Ps n (S.keep (Qy l o)) a:=by
 refine⟨h.1,h.2.1,fun t=>?_⟩;rw[JQ];by_cases ht:(Qy l o).contains t=true
 ·rw[if_pos ht];exact h.2.2 t (by simpa using ht)
 ·rw[if_neg ht];trivial
theorem qlL{Ps:PMap}{l:List Oper}(hall:Qv n l=true){o:Oper}{S:Slots}{a:Act}(h:LookOk Ps n l o S a){j d:Nat}{want:Bool}(hg:o.guard=some (j,want))(hj:nthDst l j=some d)(hk:Wv (S.get d)=true):
 Region.wanted o (yielded l.toArray a.tmps)=QG (S.get d) want:=by
 have hd:(S.keep (Qy l o)).get d=S.get d:=by
  rw[JQ,if_pos];simp[Qy,hg,hj]
 have:=qdU h.rel l j d hj (qdE l j d hall hj) (by rw[hd];exact hk) want;rw[hd]at this;simp only[Region.wanted,hg];exact this
theorem qjZ{l:List Oper}{o:Oper}{j:Nat}{want:Bool}{a:Act}(hg:o.guard=some (j,want))(hj:nthDst l j=none):Region.wanted o (yielded l.toArray a.tmps)=false:=by
 have hd:(l.toArray[j]?).bind (·.dst)=none:=by rw[<-hj,Yf];simp
 simp only[Region.wanted,hg,yielded,hd];rfl
theorem qts{l:List Oper}(hall:Qv n l=true){o:Oper}{S:Slots}{g:AHeap}{K:Slots->AHeap->Prop}(ha:Qp P wz l [o] S g K){Ps:PMap}{w:World}{a:Act}(hr:HRel wz Ps g w)(hl:LookOk Ps n l o S a)
 {next:Act->World->Prop} {Q:Exit->Act->World->Prop} (hn:∀ψ' x h' v w',Ps.le ψ'->HRel wz ψ' h' w'->VR ψ' x v->K (putD S o.dst x) h'->next (a.put o.dst v) w'):
 if Region.wanted o (yielded l.toArray a.tmps)=true then o.wp P a w next Q else next (a.put o.dst undef) w:=by
 have hs:=hl.rel;have run:∀(K':AVal->AHeap->Prop),eop P wz g S o.op K'->(∀x h',K' x h'->K (putD S o.dst x) h')->o.wp P a w next Q:=fun K' he hk=>by
  rw[<-qgj (s':=S.keep (Qy l o)) o.op (qhl fun t ht=>by unfold Qy;exact Vf _ ht)]at he;exact qhm o he hr hs fun ψ' x h' v w' e1 e2 e3 e4=>hn ψ' x h' v w' e1 e2 e3 (hk x h' e4)
 have skip:K (putD S o.dst (.tuple [])) g->next (a.put o.dst undef) w:=fun hk=>hn Ps _ g undef w Ps.le_refl hr (Wl Ps) hk;simp only[Qp]at ha;cases hg:o.guard with
 |none=>
  simp only[hg]at ha;have hw:Region.wanted o (yielded l.toArray a.tmps)=true:=by simp[Region.wanted,hg]
  rw[if_pos hw];exact run _ ha fun _ _ hk=>hk
 |some gw=>
  obtain⟨j,want⟩:=gw;simp only[hg]at ha;cases hj:nthDst l j with
  |none=>
   simp only[hj]at ha;rw[if_neg (by rw[qjZ hg hj];decide)];exact skip ha
  |some d=>
   simp only[hj]at ha;obtain⟨hk,ha⟩:=ha;rw[qlL hall hl hg hj hk];split at ha
   ·rename_i hp
    obtain⟨h1,h2⟩:=ha;cases hb:QG (S.get d) want with
    |true=>
     simp only[cond_true,hb,Qf]at h2;simp only[if_true];exact run (fun x h'=>x=(pop P wz g S o.op).val/\h'=g) ((qau hp).2 ⟨h1 hb,rfl,rfl⟩) fun x h' ⟨e1,e2⟩=>by subst e1 e2;exact h2
    |false=>
     simp only[cond_false,hb,Qf]at h2;simp only[if_false,KX];exact skip h2
   ·obtain⟨h1,h2⟩:=ha
    cases hb:QG (S.get d) want with
    |true=>
     simp only[if_true];exact run _ (h1 hb) fun _ _ hk=>hk
    |false=>
     simp only[if_false,KX];exact skip (h2 hb)
def FactR(P:Program)(wz:World)(n:FrameK)(l:List Oper)(g:AHeap)(S:Slots)(o:Oper)(V:AVal):Prop:=
 ∀(Ps:PMap) (w:World) (a:Act) (g':AHeap) (next:Act->World->Prop) (Q:Exit->Act->World->Prop),Sub g g'->HRel wz Ps g' w->LookOk Ps n l o S a->(∀v,VR Ps V v->next (a.put o.dst v) w)->
  if Region.wanted o (yielded l.toArray a.tmps)=true then o.wp P a w next Q else next (a.put o.dst undef) w
theorem FactR.sub{l:List Oper}{g g':AHeap}{S:Slots}{o:Oper}{V:AVal}(h:FactR P wz n l g S o V)(hs:Sub g g'):FactR P wz n l g' S o V:=
 fun Ps w a g₂ next Q h1 h2 h3 h4=>h Ps w a g₂ next Q (Sub.trans hs h1) h2 h3 h4
theorem FactR.slots{l:List Oper}{g:AHeap}{S S':Slots}{o:Oper}{V:AVal}(h:FactR P wz n l g S o V)(hs:∀t∈Qy l o,S'.get t=S.get t):FactR P wz n l g S' o V:=
 fun Ps w a g₂ next Q h1 h2 h3 h4=>h Ps w a g₂ next Q h1 h2 ⟨h3.1,h3.2.1,fun t ht=>by rw[<-hs t ht];exact h3.2.2 t ht⟩ h4
theorem qoR{l:List Oper}(hall:Qv n l=true){o:Oper}(hk2:WE P o.op=2){S:Slots}{g:AHeap}{K:Slots->AHeap->Prop}(ha:Qp P wz l [o] S g K):∃V,K (putD S o.dst V) g/\FactR P wz n l g S o V:=by
 have hp:=kindF_pure hk2;have same:pop P wz g (S.keep (Qy l o)) o.op=pop P wz g S o.op:=qgb o.op (qhl fun t ht=>by unfold Qy;exact Vf _ ht);have run:(pop P wz g S o.op).pre->∀(Ps:PMap) (w:World) (a:Act) (g':AHeap) (next:Act->World->Prop) (Q:Exit->Act->World->Prop),Sub g g'->HRel wz Ps g' w->LookOk Ps n l o S a->(∀v,VR Ps (pop P wz g S o.op).val v->next (a.put o.dst v) w)->o.wp P a w next Q:=by
  intro hpre Ps w a g' next Q h1 h2 h3 h4;rw[<-same]at hpre h4;have up:=pop_up (g:=g') hk2 (fun k b hb _=>h1 k b hb) h3.rel hpre;rw[<-up]at hpre h4;obtain⟨r,e1,e2⟩:=qjf o hpre h2 h3.rel;exact XG (e1 w (J7 w)) (h4 r e2)
 simp only[Qp]at ha;cases hg:o.guard with
 |none=>
  simp only[hg]at ha;rw[qau hp]at ha;refine⟨_,ha.2,fun Ps w a g' next Q h1 h2 h3 h4=>?_⟩;have hw:Region.wanted o (yielded l.toArray a.tmps)=true:=by simp[Region.wanted,hg]
  rw[if_pos hw];exact run ha.1 Ps w a g' next Q h1 h2 h3 h4
 |some gw=>
  obtain⟨j,want⟩:=gw;simp only[hg]at ha;cases hj:nthDst l j with
  |none=>
   simp only[hj]at ha;refine⟨_,ha,fun Ps w a g' next Q h1 h2 h3 h4=>?_⟩;rw[if_neg (by rw[qjZ hg hj];decide)];exact h4 _ (Wl Ps)
  |some d=>
   simp only[hj]at ha;obtain⟨hk,ha⟩:=ha;rw[if_pos hp]at ha;obtain⟨h1,h2⟩:=ha;refine⟨_,h2,fun Ps w a g' next Q q1 q2 q3 q4=>?_⟩;rw[qlL hall q3 hg hj hk];cases hb:QG (S.get d) want with
   |true=>
    simp only[cond_true,hb,Qf]at q4;simp only[if_true];exact run (h1 hb) Ps w a g' next Q q1 q2 q3 q4
   |false=>
    simp only[cond_false,hb,Qf]at q4;simp only[if_false,KX];exact q4 _ (Wl Ps)
def YV(l:List Oper)(π:List Nat):List Oper:=π.filterMap fun i=>l[i]?
def isF(P:Program)(l:List Oper)(i:Nat):Bool:=match l[i]? with
 |some o=>WE P o.op==2
 |none=>true
def qoN(P:Program)(l:List Oper)(π:List Nat)(ws:List (Option Nat))(m:Nat):Bool:=
 qaE l && (π.all fun i=>decide (i<l.length)) && ((KP l.length).all fun i=>π.contains i) &&
 ((KP π.length).all fun q=>(KP π.length).all fun r=>decide (q=r)|| !(π.getD q 0==π.getD r 0)) &&
 ((KP π.length).all fun q=>match ws.getD q none with
   |none=>(KP q).all fun c=>isF P l (π.getD c 0)
   |some r=>decide (r<q) && Region.waitsFor .any l.toArray (π.getD q 0) (π.getD r 0) && (KP q).all fun c=>decide (c<=r)||isF P l (π.getD c 0)) &&
 ((KP π.length).all fun q=>match l[π.getD q 0]? with
   |none=>true
   |some o=>(KP π.length).all fun r=>match l[π.getD r 0]? with
    |none=>true
    |some oj=>(match oj.dst with
     |none=>true
     |some t=> !(Qy l o).contains t||(decide (r<q) && Region.waitsFor .any l.toArray (π.getD q 0) (π.getD r 0)))) &&
 decide (m<=π.length) && ((KP π.length).all fun q=>decide (q<m)|| !isF P l (π.getD q 0)) &&
 (decide (m=π.length)||(KP m).all fun q=>(KP (m+1)).any fun r=>decide (q<r) && Region.waitsFor .any l.toArray (π.getD r 0) (π.getD q 0))
structure FloatP(P:Program)(l:List Oper)(π:List Nat)(m:Nat):Prop where
 order:qaE l=true
 inr:∀q,q<π.length->π.getD q 0<l.length
 onto:∀i,i<l.length->∃q,q<π.length/\π.getD q 0=i
 inj:∀q r,q<π.length->r<π.length->π.getD q 0=π.getD r 0->q=r
 wait:∀q c,q<π.length->c<q->isF P l (π.getD c 0)=false->∃r,c<=r/\r<q/\Region.waitsFor .any l.toArray (π.getD q 0) (π.getD r 0)=true
 data:∀q r o oj t,q<π.length->r<π.length->l[π.getD q 0]?=some o->l[π.getD r 0]?=some oj->oj.dst=some t->t∈Qy l o->r<q/\Region.waitsFor .any l.toArray (π.getD q 0) (π.getD r 0)=true
 mle:m<=π.length
 tail:∀q,m<=q->q<π.length->isF P l (π.getD q 0)=false
 sink:m<π.length->∀q,q<m->∃r,q<r/\r<=m/\Region.waitsFor .any l.toArray (π.getD r 0) (π.getD q 0)=true
theorem qrR{l:List Oper}{π:List Nat}{ws:List (Option Nat)}{m:Nat}(h:qoN P l π ws m=true):FloatP P l π m:=by
 unfold qoN at h;simp only[Ky]at h;obtain⟨⟨⟨⟨⟨⟨⟨⟨h1,h2⟩,h3⟩,h4⟩,h5⟩,h6⟩,h7⟩,h8⟩,h9⟩:=h;simp only[JB,JC]at h2 h3 h4 h5 h6 h8;refine⟨h1,fun q hq=>?_,fun i hi=>?_,fun q r hq hr e=>?_,fun q c hq hc hf=>?_,fun q r o oj t hq hr ho hoj hd ht=>?_,by simpa using h7,fun q hm hq=>?_,fun hm q hq=>?_⟩
 ·have:=h2 (π.getD q 0) (by rw[Ko,JD hq];exact VY hq)
  simpa using this
 ·have:=h3 i hi
  rw[Va]at this;obtain⟨q,hq,e⟩:=List.getElem_of_mem this;exact⟨q,hq,by rw[Ko,JD hq];exact e⟩
 ·have:=h4 q hq r hr
  rw[JJ,decide_eq_true_eq]at this;rcases this with e'|e'
  ·exact e'
  ·rw[e]at e';simp at e'
 ·have:=h5 q hq
  split at this
  ·rw[JB]at this
   rw[this c (JC.2 hc)]at hf;cases hf
  ·rename_i r _
   simp only[Wy,JJ,JB,JC]at this;obtain⟨⟨t1,t2⟩,t3⟩:=this;rcases t3 c hc with e|e
   ·exact⟨r,e,t1,t2⟩
   ·rw[e]at hf;cases hf
 ·have:=h6 q hq
  rw[ho]at this;simp only[JB,JC]at this;have:=this r hr;rw[hoj]at this;simp only[Ky,decide_eq_true_eq,Jj,JJ,hd]at this;rcases this with e|e
  ·have hm:(Qy l o).contains t=true:=by simpa using ht
   rw[hm]at e;cases e
  ·exact e
 ·have:=h8 q hq
  simp only[decide_eq_true_eq,Jj,JJ]at this;rcases this with e|e
  ·omega
  ·exact e
 ·rw[JJ,decide_eq_true_eq]at h9
  rcases h9 with e|e
  ·omega
  ·rw[JB]at e
   have:=e q (JC.2 hq);rw[Vb]at this;obtain⟨r,hr,hw⟩:=this;rw[JC]at hr;simp only[Wy]at hw;exact⟨r,hw.1,by omega,hw.2⟩
theorem qrk{l:List Oper}:∀{π:List Nat},(∀q,q<π.length->π.getD q 0<l.length)->∀q,q<π.length->(YV l π)[q]?=l[π.getD q 0]?
 |i::π,h,q,hq=>by
  have h0:i<l.length:=h 0 (by simp);have e:YV l (i::π)=l[i]::YV l π:=by
   unfold YV;rw[VZ,JD h0]
  rw[e];cases q with
  |zero=>simp[JD h0]
  |succ q=>
   rw[KM,qrk (π:=π) (fun q hq=>h (q+1) (by simpa using hq)) q (by simpa using hq)];rfl
theorem qey{l:List Oper}:∀{π:List Nat},(∀q,q<π.length->π.getD q 0<l.length)->(YV l π).length=π.length
 |[],_=>rfl
 |i::π,h=>by
  have h0:i<l.length:=h 0 (by simp);unfold YV;rw[VZ,JD h0];simp only[KZ];exact congrArg (· +1) (qey (π:=π) fun q hq=>h (q+1) (by simpa using hq))
theorem qez{l:List Oper}{π:List Nat}(h:∀q,q<π.length->π.getD q 0<l.length){p:Nat}(hp:p<π.length){o:Oper}(ho:l[π.getD p 0]?=some o):(YV l π).drop p=o::(YV l π).drop (p+1):=by
 have e:=qrk h p hp;rw[ho]at e;have hl:=(Jz.1 e).1;rw[Ve hl];congr 1;exact(Jz.1 e).2
theorem advance{l:List Oper}(hall:Qv n l=true){π:List Nat}{m:Nat}(F:FloatP P l π m){K:Slots->AHeap->Prop}{g:AHeap}:∀(d p:Nat) (S:Slots),π.length-p=d->p<=π.length->qjp P wz l (m-p) ((YV l π).drop p) S g K->
 ∃p' S',p<=p'/\p'<=π.length/\(p'<π.length->isF P l (π.getD p' 0)=false)/\(∀q,p<=q->q<p'->isF P l (π.getD q 0)=true)/\qjp P wz l (m-p') ((YV l π).drop p') S' g K/\
  (∀q o,p<=q->q<p'->l[π.getD q 0]?=some o->∃V,(∀t,o.dst=some t->S'.get t=V)/\FactR P wz n l g S' o V)/\
  (∀t,(∀q o,p<=q->q<p'->l[π.getD q 0]?=some o->o.dst≠some t)->S'.get t=S.get t):=by
 intro d;induction d with
 |zero=>
  intro p S hd hp ha;exact⟨p,S,KL _,hp,fun h=>by omega,fun q h1 h2=>by omega,ha,fun q o h1 h2=>by omega,fun t _=>rfl⟩
 |succ d ih=>
  intro p S hd hp ha;have hpl:p<π.length:=by omega
  cases hf:isF P l (π.getD p 0)with
  |false=>exact⟨p,S,KL _,hp,fun _=>hf,fun q h1 h2=>by omega,ha,fun q o h1 h2=>by omega,fun t _=>rfl⟩
  |true=>
   have hpm:p<m:=by
    refine J6 fun h=>?_;rw[F.tail p h hpl]at hf;cases hf
   obtain⟨o,ho⟩:∃o,l[π.getD p 0]?=some o:=⟨_,JD (F.inr p hpl)⟩
   have hk2:WE P o.op=2:=by
    unfold isF at hf;rw[ho]at hf;simpa using hf
   rw[qez F.inr hpl ho,show m-p=(m-(p+1))+1 by omega,qgg]at ha;obtain⟨V,⟨_,hv⟩,hfact⟩:=qoR hall hk2 ha;obtain⟨p',S',a1,a2,a3,a4,a5,a6,a7⟩:=ih (p+1) (putD S o.dst V) (by omega) (by omega) hv;have notlook:∀q oq t,p<=q->q<π.length->l[π.getD q 0]?=some oq->oq.dst=some t->t∉Qy l o:=fun q oq t h1 h2 h3 h4 ht=>by
    have:=(F.data p q o oq t hpl h2 ho h3 h4 ht).1;omega
   have uniq:∀q oq t,p<q->q<π.length->l[π.getD q 0]?=some oq->oq.dst=some t->o.dst≠some t:=fun q oq t h1 h2 h3 h4 e=>by
    have:=((XR F.order ho).2 _ oq t h3 h4).1 e;have:=F.inj p q hpl h2 this;omega
   refine⟨p',S',by omega,a2,a3,fun q h1 h2=>?_,a5,fun q oq h1 h2 hq=>?_,fun t ht=>?_⟩
   ·rcases JA h1 with e|e
    ·rw[<-e];exact hf
    ·exact a4 q e h2
   ·rcases JA h1 with e|e
    ·subst e
     rw[ho]at hq;obtain rfl:=Option.some.inj hq;refine⟨V,fun t ht=>?_,hfact.slots fun t ht=>?_⟩
     ·rw[a7 t fun q oq h3 h4 h5 h6=>uniq q oq t h3 (by omega) h5 h6 ht,YD,if_pos ht]
     ·rw[a7 t fun q oq h3 h4 h5 h6=>notlook q oq t (by omega) (by omega) h5 h6 ht,YD,if_neg fun e=>notlook p o t (KL _) hpl ho e ht]
    ·exact a6 q oq e h2 hq
   ·rw[a7 t fun q oq h3 h4 h5=>ht q oq (by omega) h4 h5,YD,if_neg (ht p o (KL _) (by omega) ho)]
def PhaseP(P:Program)(wz:World)(n:FrameK)(l:List Oper)(π:List Nat)(m:Nat)(K:Slots->AHeap->Prop)(listed:Array Bool)(Ps:PMap)(a:Act)(w:World):Prop:=
 listed.size=l.length/\(∀j oj,l[j]?=some oj->listed.getD j false=true->∀e∈oj.after,Region.binds .any e=true->listed.getD e.on false=true)/\a.tmps.size=n/\a.defers=n.dfr/\
 ∃p S g,p<=π.length/\(p<π.length->isF P l (π.getD p 0)=false)/\(∀q,p<=q->q<π.length->listed.getD (π.getD q 0) false=false)/\(∀q,q<p->isF P l (π.getD q 0)=false->listed.getD (π.getD q 0) false=true)/\
  (m<p->∀q,q<p->listed.getD (π.getD q 0) false=true)/\HRel wz Ps g w/\qjp P wz l (m-p) ((YV l π).drop p) S g K/\
  (∀q o,q<p->l[π.getD q 0]?=some o->listed.getD (π.getD q 0) false=false->∃V,(∀t,o.dst=some t->S.get t=V)/\FactR P wz n l g S o V)/\
  ∀t,(∃q o,q<p/\l[π.getD q 0]?=some o/\o.dst=some t/\listed.getD (π.getD q 0) false=false)\/VR Ps (S.get t) (a.tmps.getD t undef)
theorem qcs{l:List Oper}{listed:Array Bool}{i j:Nat}{o:Oper}(ho:l[i]?=some o)(hedges:∀e∈o.after,Region.binds .any e=true->listed.getD e.on false=true)(hw:Region.waitsFor .any l.toArray i j=true):listed.getD j false=true:=by
 obtain⟨oi,g1,e,g2,g3,g4⟩:=Region.waitsFor_spec hw;have g1':l[i]?=some oi:=by simpa using g1
 rw[ho]at g1';obtain rfl:=Option.some.inj g1';rw[<-g4];exact hedges e g2 g3
theorem any_okP{l:List Oper}(hall:Qv n l=true){π:List Nat}{m:Nat}(F:FloatP P l π m){K:Slots->AHeap->Prop}{fi:PMap}{Q:Exit->Act->World->Prop}
 (hq:∀Ps S g a w,fi.le Ps->HRel wz Ps g w->SRel Ps n S a->K S g->Q .normal a w):∀(fuel:Nat) (listed:Array Bool) (a:Act) (w:World) (Ps:PMap),fi.le Ps->PhaseP P wz n l π m K listed Ps a w->
 (listed.toList.filter (!·)).length<=fuel->wpAny P .any l.toArray Q fuel listed a w:=by
 have hB:=F.order;have fin:∀(listed:Array Bool) (a:Act) (w:World) (Ps:PMap),fi.le Ps->PhaseP P wz n l π m K listed Ps a w->Region.ready .any l.toArray listed=[]->Q .normal a w:=by
  rintro listed a w Ps hle ⟨i1,i2,i3,i4,p,S,g,p1,p2,p3,p4,p5,p6,p7,p8,p9⟩ hrd;have hal:=qeP hB i1 hrd;have hp:p=π.length:=by
   rcases JA p1 with e|e
   ·exact e
   ·have:=p3 p (KL _) e
    rw[hal _ (F.inr p e)]at this;cases this
  subst hp;rw[show(YV l π).drop π.length=[] by rw[<-qey F.inr];simp,qfu]at p7;refine hq Ps S g a w hle p6 ⟨i3,i4,fun t=>?_⟩ p7;rcases p9 t with⟨q,o,c1,c2,c3,c4⟩|c
  ·rw[hal _ (F.inr q c1)]at c4;cases c4
  ·exact c
 intro fuel;induction fuel with
 |zero=>
  intro listed a w Ps hle inv hc;have hrd:Region.ready .any l.toArray listed=[]:=by
   cases hrd:Region.ready .any l.toArray listed with
   |nil=>rfl
   |cons i r=>
    exfalso;have hm:i∈Region.ready .any l.toArray listed:=by rw[hrd];exact Jg
    obtain⟨h1,o,ho,_⟩:=mem_ready.1 hm;have hi:i<listed.size:=by
     have:l[i]?=some o:=by simpa using ho
     rw[inv.1];exact(Jz.1 this).1
    have h2:listed.toList[i]?=some false:=by
     simp[JE,hi]at h1;simp[hi,h1]
    have:=JO h2;have hmem:false∈listed.toList.filter (!·):=by simp[JN,this]
    have:=JP hmem;omega
  exact⟨hrd,fin listed a w Ps hle inv hrd⟩
 |succ fuel ih=>
  intro listed a w Ps hle inv hc;refine⟨fun hrd=>fin listed a w Ps hle inv hrd,fun i hi=>?_⟩;obtain⟨i1,i2,i3,i4,p,S,g,p1,p2,p3,p4,p5,p6,p7,p8,p9⟩:=inv;obtain⟨h1,o,ho,hedges⟩:=mem_ready.1 hi;have hol:l[i]?=some o:=by simpa using ho
  have hilt:i<l.length:=(Jz.1 hol).1;have hisz:i<listed.size:=by rw[i1];exact hilt
  have hif:listed.getD i false=false:=by simp[JE,hisz]at h1|-;exact h1
  have hcount:((listed.setIfInBounds i true).toList.filter (!·)).length<=fuel:=by
   have h2:listed.toList[i]?=some false:=by
    simp[JE,hisz]at h1;simp[hisz,h1]
   have:=qcE listed.toList i h2;have e:(listed.setIfInBounds i true).toList=listed.toList.set i true:=by simp
   rw[e];omega
  have hdn:∀d,o.dst=some d->d<n:=fun d hd=>qdE l i d hall (by rw[Yf,hol];exact hd);obtain⟨q,hql,hqi⟩:=F.onto i hilt;have hoq:l[π.getD q 0]?=some o:=by rw[hqi];exact hol
  have looks:LookOk Ps n l o S a:=⟨i3,i4,fun t ht=>by
   rcases p9 t with⟨r,oj,c1,c2,c3,c4⟩|c
   ·exfalso
    have:=(F.data q r o oj t hql (by omega) hoq c2 c3 ht).2;rw[hqi]at this;rw[qcs hol hedges this]at c4;cases c4
   ·exact c⟩
  have closed':∀j oj,l[j]?=some oj->(listed.setIfInBounds i true).getD j false=true->∀e∈oj.after,Region.binds .any e=true->(listed.setIfInBounds i true).getD e.on false=true:=fun j oj hj hl e he hb=>by
   by_cases e1:e.on=i
   ·rw[e1];exact set_self hisz
   ·rw[Xu e1]
    by_cases e2:j=i
    ·subst e2
     rw[hol]at hj;obtain rfl:=Option.some.inj hj;exact hedges e he hb
    ·rw[Xu e2]at hl
     exact i2 j oj hj hl e he hb
  have other:∀r,r<π.length->r≠q->(listed.setIfInBounds i true).getD (π.getD r 0) false=listed.getD (π.getD r 0) false:=fun r hr hne=>Xu fun e=>hne (F.inj r q hr hql (by rw[e,hqi]));have nobehind:p<q->False:=fun hpq=>by
   obtain⟨r,r1,r2,r3⟩:=F.wait q p hql hpq (p2 (by omega));rw[hqi]at r3;have:=qcs hol hedges r3;rw[p3 r r1 (by omega)]at this;cases this
  have goal:(if Region.wanted o (yielded l.toArray a.tmps)=true then o.wp P a w (wpAny P .any l.toArray Q fuel (listed.setIfInBounds i true)) Q else wpAny P .any l.toArray Q fuel (listed.setIfInBounds i true) (a.put o.dst undef) w):=by
   rcases KU q p with hqp|hqp
   ·
    obtain⟨V,v1,v2⟩:=p8 q o hqp hoq (by rw[hqi];exact hif);refine v2 Ps w a g _ Q (Vk g) p6 looks fun v hv=>?_;refine ih _ _ _ Ps hle ⟨by simp[i1],closed',by rw[qfk];exact i3,by rw[put_defers];exact i4,p,S,g,p1,p2,fun r r1 r2=>?_,fun r r1 r2=>?_,fun hm r r1=>?_,p6,p7,fun r oj r1 r2 r3=>?_,fun t=>?_⟩ hcount
    ·rw[other r r2 (by omega)];exact p3 r r1 r2
    ·by_cases e:r=q
     ·rw[e,hqi];exact set_self hisz
     ·rw[other r (by omega) e];exact p4 r r1 r2
    ·by_cases e:r=q
     ·rw[e,hqi];exact set_self hisz
     ·rw[other r (by omega) e];exact p5 hm r r1
    ·by_cases e:r=q
     ·rw[e,hqi,set_self hisz]at r3;cases r3
     ·rw[other r (by omega) e]at r3
      exact p8 r oj r1 r2 r3
    ·by_cases hod:o.dst=some t
     ·right
      rw[v1 t hod,qaD a hod (by rw[i3];exact hdn t hod)];exact hv
     ·rcases p9 t with⟨r,oj,c1,c2,c3,c4⟩|c
      ·refine .inl ⟨r,oj,c1,c2,c3,?_⟩
       rw[other r (by omega) fun e=>by subst e;rw[hoq]at c2;obtain rfl:=Option.some.inj c2;exact hod c3];exact c4
      ·right
       rw[UM a hod];exact c
   ·have hqe:q=p:=by
     rcases JA hqp with e|e
     ·exact e.symm
     ·exact(nobehind e).elim
    subst hqe;have all_m:m<=q->∀r,r<q->listed.getD (π.getD r 0) false=true:=fun hm r hr=>by
     rcases JA hm with e|e
     ·subst e
      have key:∀d r,r+d=m->r<m->listed.getD (π.getD r 0) false=true:=by
       intro d;induction d using Jv with
       |ind d ihd=>
        intro r hd hr;obtain⟨r',s1,s2,s3⟩:=F.sink hql r hr;rcases JA s2 with e|e
        ·subst e
         rw[hqi]at s3;exact qcs hol hedges s3
        ·have hl:=ihd (m-r') (by omega) r' (by omega) e
         obtain⟨oj,hoj⟩:∃oj,l[π.getD r' 0]?=some oj:=⟨_,JD (F.inr r' (by omega))⟩
         exact qcs hoj (i2 _ oj hoj hl) s3
      exact key (m-r) r (by omega) hr
     ·exact p5 e r hr
    obtain⟨K',ha,hnext⟩:∃K':Slots->AHeap->Prop,Qp P wz l [o] S g K'/\∀s' h',K' s' h'->(q<m->Sub g h')/\qjp P wz l (m-(q+1)) ((YV l π).drop (q+1)) s' h' K:=by
     rw[qez F.inr hql hoq]at p7;by_cases c:q<m
     ·rw[show m-q=(m-(q+1))+1 by omega,qgg]at p7
      exact⟨_,p7,fun s' h' hx=>⟨fun _=>hx.1,hx.2⟩⟩
     ·rw[show m-q=0 by omega,hOps_zero]at p7
      refine⟨_,aOps_one p7,fun s' h' hx=>⟨fun hc=>absurd hc c,?_⟩⟩;rw[show m-(q+1)=0 by omega];cases hdr:(YV l π).drop (q+1)with
      |nil=>rw[hdr]at hx;rw[qfu];exact hx
      |cons o' r'=>rw[hdr]at hx;exact hx
    refine qts hall ha p6 looks fun ψ' x h' v w' e1 e2 e3 hk=>?_;obtain⟨k1,k2⟩:=hnext _ _ hk;obtain⟨p',S',a1,a2,a3,a4,a5,a6,a7⟩:=advance hall F (π.length-(q+1)) (q+1) (putD S o.dst x) rfl (by omega) k2;have keep:∀r or t,r<q->l[π.getD r 0]?=some or->(or.dst=some t\/t∈Qy l or)->S'.get t=S.get t:=fun r or t hr hor ht=>by
     have nd:∀u ou,q<=u->u<π.length->l[π.getD u 0]?=some ou->ou.dst≠some t:=fun u ou h1 h2 h3 h4=>by
      rcases ht with ht|ht
      ·have:=((XR hB hor).2 _ ou t h3 h4).1 ht
       have:=F.inj r u (by omega) h2 this;omega
      ·have:=(F.data r u or ou t (by omega) h2 hor h3 h4 ht).1
       omega
     rw[a7 t fun u ou h1 h2 h3=>nd u ou (by omega) (by omega) h3,YD,if_neg (nd q o (KL _) hql hoq)]
    refine ih _ _ _ ψ' (JR hle e1) ⟨by simp[i1],closed',by rw[qfk];exact i3,by rw[put_defers];exact i4,p',S',h',a2,a3,fun r r1 r2=>?_,fun r r1 r2=>?_,fun hm r r1=>?_,e2,a5,fun r oj r1 r2 r3=>?_,fun t=>?_⟩ hcount
    ·rw[other r r2 (by omega)];exact p3 r (by omega) r2
    ·by_cases e:r=q
     ·rw[e,hqi];exact set_self hisz
     ·rw[other r (by omega) e]
      rcases KU r q with c|c
      ·exact p4 r c r2
      ·rw[a4 r (by omega) r1]at r2;cases r2
    ·have hmq:m<=q:=by
      refine Kt fun hc=>?_;have hmp:m<π.length:=by omega
      have:=a4 m (by omega) hm;rw[F.tail m (KL _) hmp]at this;cases this
     by_cases e:r=q
     ·rw[e,hqi];exact set_self hisz
     ·rw[other r (by omega) e]
      rcases KU r q with c|c
      ·exact all_m hmq r c
      ·have:=a4 r (by omega) r1
       rw[F.tail r (by omega) (by omega)]at this;cases this
    ·by_cases e:r=q
     ·rw[e,hqi,set_self hisz]at r3;cases r3
     ·rw[other r (by omega) e]at r3
      rcases KU r q with c|c
      ·obtain⟨V,v1,v2⟩:=p8 r oj c r2 r3
       have hqm:q<m:=by
        refine J6 fun hm=>?_;rw[all_m hm r c]at r3;cases r3
       exact⟨V,fun t ht=>(keep r oj t c r2 (.inl ht)).trans (v1 t ht),(v2.sub (k1 hqm)).slots fun t ht=>keep r oj t c r2 (.inr ht)⟩
      ·exact a6 r oj (by omega) r1 r2
    ·by_cases hod:o.dst=some t
     ·right
      rw[a7 t fun u ou h1 h2 h3 h4=>by
       have:=((XR hB hoq).2 _ ou t h3 h4).1 hod;have:=F.inj q u hql (by omega) this;omega,YD,if_pos hod,qaD a hod (by rw[i3];exact hdn t hod)]
      exact e3
     ·by_cases hw:∃r or,q+1<=r/\r<p'/\l[π.getD r 0]?=some or/\or.dst=some t
      ·obtain⟨r,or,w1,w2,w3,w4⟩:=hw
       exact .inl ⟨r,or,w2,w3,w4,by rw[other r (by omega) (by omega)];exact p3 r (by omega) (by omega)⟩
      ·have hS:S'.get t=S.get t:=by
        rw[a7 t fun u ou h1 h2 h3 h4=>hw ⟨u,ou,h1,h2,h3,h4⟩,YD,if_neg hod]
       rcases p9 t with⟨r,oj,c1,c2,c3,c4⟩|c
       ·exact .inl ⟨r,oj,by omega,c2,c3,by rw[other r (by omega) (by omega)];exact c4⟩
       ·right
        rw[hS,UM a hod];exact WG e1 _ _ c
  simp only[wpOp,ho];split
  ·rename_i hw
   rw[if_pos hw]at goal;exact .inl goal
  ·rename_i hw
   rw[if_neg hw]at goal;exact goal
theorem awp_draw_H{Q:Exit->Slots->AHeap->Prop}{s:Slots}{h:AHeap}{id:Nat}{l:List Oper}(π:List Nat)(ws:List (Option Nat))(m:Nat)(hm:P.follows .mixedOrders=true)(hB:qoN P l π ws m=true)(hd:Qv n l=true)
 (hc:qjp P wz l m (YV l π) s h fun s' h'=>Q .normal s' h'):Awp P wz n (.region id l.toArray true) Q s h:=by
 refine JS ?_;intro fi a w hr hs;have F:=qrR hB;refine wp_region_any hm ?_;have hf:∀j,(Jw l.toArray.size false).getD j false=false:=fun j=>by simp[JE]
 obtain⟨p',S',a1,a2,a3,a4,a5,a6,a7⟩:=advance hd F π.length 0 s rfl (Js _) (by rw[Nat.sub_zero,Vp];exact hc);refine any_okP (fi:=fi) hd F (K:=fun s' h'=>Q .normal s' h') (fun Ps S g a' w' hle h1 h2 h3=>⟨Ps,S,g,hle,h1,h2,h3⟩) _ _ _ _ fi fi.le_refl
  ⟨by simp,fun j oj _ hl=>(by rw[hf]at hl;cases hl),hs.size,hs.defers,p',S',h,a2,a3,fun r _ _=>hf _,fun r r1 r2=>?_,fun hm' r r1=>?_,hr.drew,a5,fun r oj r1 r2 _=>a6 r oj (Js _) r1 r2,fun t=>?_⟩ ?_
 ·rw[a4 r (Js _) r1]at r2;cases r2
 ·have:=a4 m (Js _) hm'
  rw[F.tail m (KL _) (by omega)]at this;cases this
 ·by_cases hw:∃r or,r<p'/\l[π.getD r 0]?=some or/\or.dst=some t
  ·obtain⟨r,or,w2,w3,w4⟩:=hw
   exact .inl ⟨r,or,w2,w3,w4,hf _⟩
  ·right
   rw[a7 t fun u ou _ h2 h3 h4=>hw ⟨u,ou,h2,h3,h4⟩];exact hs.val t
 ·have:=Vh (!·) (Jw l.toArray.size false).toList
  simpa using this
theorem qmm{Q:Exit->Slots->AHeap->Prop}{s:Slots}{h:AHeap}{id:Nat}{l:List Oper}{y:Code}(π:List Nat)(ws:List (Option Nat))(m:Nat)(L:List Nat)(hm:P.follows .mixedOrders=true)(hB:qoN P l π ws m=true)(hd:Qv n l=true)
 (hc:∀K:Slots->AHeap->Prop,(∀s h,Awp P wz n y Q s h->K s h)->qjp P wz l m (YV l π) s h fun s' h'=>K (s'.keep L) h'):Awp P wz n (.seq (.region id l.toArray true) y) Q s h:=
 qo (awp_draw_H π ws m hm hB hd (qnH (fun _ _ hk=>JU L hk) (hc (fun s h=>Awp P wz n y Q s h) (fun _ _ hk=>hk))))
end
section
variable {P:Program} {wz:World} {n:FrameK}
end
end Go.AM
namespace Go.Proofs.YtgiadjbiimkbiaaGreatDoor
open Go.AM
theorem sz3:Zy Tryz.prog 3=some 1:=by kernel_rfl
theorem ag3:Yd Tryz.prog 3=some false:=by kernel_rfl
theorem ag4:Yd Tryz.prog 4=some false:=by kernel_rfl
theorem sz5:Zy Tryz.prog 5=some 1:=by kernel_rfl
theorem ag5:Yd Tryz.prog 5=some false:=by kernel_rfl
theorem sz9:Zy Tryz.prog 9=some 1:=by kernel_rfl
theorem by9:qdF Tryz.prog 9=some 16:=by kernel_rfl
theorem ze9:Uy Tryz.prog 9=some (.string .empty):=by kernel_rfl
theorem ag9:Yd Tryz.prog 9=some false:=by kernel_rfl
theorem sz22:Zy Tryz.prog 22=some 1:=by kernel_rfl
theorem ag22:Yd Tryz.prog 22=some false:=by kernel_rfl
theorem ag28:Yd Tryz.prog 28=some false:=by kernel_rfl
theorem qpv:Yd Tryz.prog 29=some false:=by kernel_rfl
theorem qsW:Zy Tryz.prog 31=some 4:=by kernel_rfl
theorem ag31:Yd Tryz.prog 31=some true:=by kernel_rfl
theorem ag32:Yd Tryz.prog 32=some false:=by kernel_rfl
theorem sz34:Zy Tryz.prog 34=some 3:=by kernel_rfl
theorem sz35:Zy Tryz.prog 35=some 1:=by kernel_rfl
theorem ag35:Yd Tryz.prog 35=some false:=by kernel_rfl
theorem sz37:Zy Tryz.prog 37=some 4:=by kernel_rfl
theorem ze37:Uy Tryz.prog 37=some (.agg #[.int .u8 0, .slice none 0 0, .slice none 0 0, .int .u8 0]):=by kernel_rfl
theorem ag37:Yd Tryz.prog 37=some true:=by kernel_rfl
theorem sz39:Zy Tryz.prog 39=some 1:=by kernel_rfl
theorem qcn:Yd Tryz.prog 39=some false:=by kernel_rfl
theorem sz40:Zy Tryz.prog 40=some 1:=by kernel_rfl
theorem qmr:Yd Tryz.prog 40=some false:=by kernel_rfl
theorem sz42:Zy Tryz.prog 42=some 2:=by kernel_rfl
theorem ag42:Yd Tryz.prog 42=some true:=by kernel_rfl
theorem egt42:Tryz.prog.eqGuardType Tryz.prog.depth 42=false:=by kernel_rfl
theorem UA:Zy Tryz.prog 44=some 5:=by kernel_rfl
theorem by44:qdF Tryz.prog 44=some 48:=by kernel_rfl
theorem qpB:Uy Tryz.prog 44=some (.agg #[.int .u8 0, .string .empty, .int .i64 0, .int .i64 0, .bool false]):=by kernel_rfl
theorem qmP:Yd Tryz.prog 44=some true:=by kernel_rfl
theorem qsV:Zy Tryz.prog 45=some 1:=by kernel_rfl
theorem by45:qdF Tryz.prog 45=some 24:=by kernel_rfl
theorem ze45:Uy Tryz.prog 45=some (.slice none 0 0):=by kernel_rfl
theorem qjH:Yd Tryz.prog 45=some false:=by kernel_rfl
theorem ag46:Yd Tryz.prog 46=some false:=by kernel_rfl
theorem UF:Zy Tryz.prog 48=some 3:=by kernel_rfl
theorem qhv:Uy Tryz.prog 48=some (.agg #[.int .i64 0, .int .i64 0, .int .i64 0]):=by kernel_rfl
theorem qeR:Yd Tryz.prog 48=some true:=by kernel_rfl
theorem egt48:Tryz.prog.eqGuardType Tryz.prog.depth 48=false:=by kernel_rfl
theorem sz55:Zy Tryz.prog 55=some 1:=by kernel_rfl
theorem ag55:Yd Tryz.prog 55=some false:=by kernel_rfl
theorem sz56:Zy Tryz.prog 56=some 1:=by kernel_rfl
theorem ag56:Yd Tryz.prog 56=some false:=by kernel_rfl
theorem sz58:Zy Tryz.prog 58=some 9:=by kernel_rfl
theorem ze58:Uy Tryz.prog 58=some (.agg #[.string .empty, .slice none 0 0, .slice none 0 0, .slice none 0 0, .slice none 0 0, .slice none 0 0, .slice none 0 0, .slice none 0 0, .slice none 0 0]):=by kernel_rfl
theorem ag58:Yd Tryz.prog 58=some true:=by kernel_rfl
theorem qku:Zy Tryz.prog 65=some 5:=by kernel_rfl
theorem by65:qdF Tryz.prog 65=some 72:=by kernel_rfl
theorem ze65:Uy Tryz.prog 65=some (.agg #[.string .empty, .string .empty, .slice none 0 0, .int .i64 0, .int .i64 0]):=by kernel_rfl
theorem ag65:Yd Tryz.prog 65=some true:=by kernel_rfl
theorem sz67:Zy Tryz.prog 67=some 3:=by kernel_rfl
theorem by67:qdF Tryz.prog 67=some 64:=by kernel_rfl
theorem ze67:Uy Tryz.prog 67=some (.agg #[.string .empty, .slice none 0 0, .slice none 0 0]):=by kernel_rfl
theorem ag67:Yd Tryz.prog 67=some true:=by kernel_rfl
theorem sz68:Zy Tryz.prog 68=some 1:=by kernel_rfl
theorem ze68:Uy Tryz.prog 68=some (.slice none 0 0):=by kernel_rfl
theorem ag68:Yd Tryz.prog 68=some false:=by kernel_rfl
theorem sz72:Zy Tryz.prog 72=some 5:=by kernel_rfl
theorem by72:qdF Tryz.prog 72=some 72:=by kernel_rfl
theorem ze72:Uy Tryz.prog 72=some (.agg #[.string .empty, .string .empty, .int .i64 0, .int .i64 0, .slice none 0 0]):=by kernel_rfl
theorem sz79:Zy Tryz.prog 79=some 1:=by kernel_rfl
theorem qec:Yd Tryz.prog 79=some false:=by kernel_rfl
theorem sz80:Zy Tryz.prog 80=some 1:=by kernel_rfl
theorem qeb:Yd Tryz.prog 80=some false:=by kernel_rfl
theorem UJ:Zy Tryz.prog 82=some 5:=by kernel_rfl
theorem by82:qdF Tryz.prog 82=some 80:=by kernel_rfl
theorem qoc:Uy Tryz.prog 82=some (.agg #[.string .empty, .int .i64 0, .int .i64 0, .slice none 0 0, .slice none 0 0]):=by kernel_rfl
theorem qiH:Yd Tryz.prog 82=some true:=by kernel_rfl
theorem qcH:Zy Tryz.prog 84=some 2:=by kernel_rfl
theorem by84:qdF Tryz.prog 84=some 40:=by kernel_rfl
theorem ze84:Uy Tryz.prog 84=some (.agg #[.string .empty, .slice none 0 0]):=by kernel_rfl
theorem ag84:Yd Tryz.prog 84=some true:=by kernel_rfl
theorem qbU:Zy Tryz.prog 86=some 3:=by kernel_rfl
theorem by86:qdF Tryz.prog 86=some 64:=by kernel_rfl
theorem qob:Uy Tryz.prog 86=some (.agg #[.string .empty, .slice none 0 0, .slice none 0 0]):=by kernel_rfl
theorem ag86:Yd Tryz.prog 86=some true:=by kernel_rfl
theorem ag94:Yd Tryz.prog 94=some false:=by kernel_rfl
theorem qng:Zy Tryz.prog 103=some 6:=by kernel_rfl
theorem ze103:Uy Tryz.prog 103=some (.agg #[.string .empty, .string .empty, .int .i64 0, .int .i64 0, .slice none 0 0, .slice none 0 0]):=by kernel_rfl
theorem ag103:Yd Tryz.prog 103=some true:=by kernel_rfl
theorem ze208:Uy Tryz.prog 208=some (.int .u8 0):=by kernel_rfl
theorem fa31_0(l:AM.Loc)(o:Nat):Qj Tryz.prog 31 (.ptr l o) 0=⟨1≠0, .ptr l (o+0)⟩:=by kernel_rfl
theorem qhj(l:AM.Loc)(o:Nat):Qj Tryz.prog 31 (.ptr l o) 1=⟨1≠0, .ptr l (o+1)⟩:=by kernel_rfl
theorem qeF(l:AM.Loc)(o:Nat):Qj Tryz.prog 31 (.ptr l o) 2=⟨1≠0, .ptr l (o+2)⟩:=by kernel_rfl
theorem fa31_3(l:AM.Loc)(o:Nat):Qj Tryz.prog 31 (.ptr l o) 3=⟨1≠0, .ptr l (o+3)⟩:=by kernel_rfl
theorem fa34_0(l:AM.Loc)(o:Nat):Qj Tryz.prog 34 (.ptr l o) 0=⟨1≠0, .ptr l (o+0)⟩:=by kernel_rfl
theorem fa34_1(l:AM.Loc)(o:Nat):Qj Tryz.prog 34 (.ptr l o) 1=⟨1≠0, .ptr l (o+1)⟩:=by kernel_rfl
theorem fa34_2(l:AM.Loc)(o:Nat):Qj Tryz.prog 34 (.ptr l o) 2=⟨1≠0, .ptr l (o+2)⟩:=by kernel_rfl
theorem fa37_0(l:AM.Loc)(o:Nat):Qj Tryz.prog 37 (.ptr l o) 0=⟨1≠0, .ptr l (o+0)⟩:=by kernel_rfl
theorem fa37_1(l:AM.Loc)(o:Nat):Qj Tryz.prog 37 (.ptr l o) 1=⟨1≠0, .ptr l (o+1)⟩:=by kernel_rfl
theorem fa37_2(l:AM.Loc)(o:Nat):Qj Tryz.prog 37 (.ptr l o) 2=⟨1≠0, .ptr l (o+2)⟩:=by kernel_rfl
theorem fa37_3(l:AM.Loc)(o:Nat):Qj Tryz.prog 37 (.ptr l o) 3=⟨1≠0, .ptr l (o+3)⟩:=by kernel_rfl
theorem eqv42(a0 b0:Int)(a1 b1:Int):(eqA Tryz.prog 40 42 (.agg [.int .i64 a0, .int .i64 a1]) (.agg [.int .i64 b0, .int .i64 b1])).val= .bool (decide (a0=b0) && (decide (a1=b1) && true)):=by kernel_rfl
theorem eqp42(a0 b0:Int)(a1 b1:Int):(eqA Tryz.prog 40 42 (.agg [.int .i64 a0, .int .i64 a1]) (.agg [.int .i64 b0, .int .i64 b1])).pre=((0<2)/\(0<2)/\True/\((1<2)/\(1<2)/\True/\True)):=by kernel_rfl
theorem ne42(a0 b0:Int)(a1 b1:Int):qdD Tryz.prog .neq 42 (.agg [.int .i64 a0, .int .i64 a1]) (.agg [.int .i64 b0, .int .i64 b1])=⟨True, .bool (!(decide (a0=b0) && (decide (a1=b1) && true)))⟩:=by
 simp only[and_true,qdD,eqv42,eqp42,egt42,PR.mk.injEq];decide
theorem qaG(l:AM.Loc)(o:Nat):Qj Tryz.prog 44 (.ptr l o) 0=⟨1≠0, .ptr l (o+0)⟩:=by kernel_rfl
theorem qcT(l:AM.Loc)(o:Nat):Qj Tryz.prog 44 (.ptr l o) 1=⟨1≠0, .ptr l (o+1)⟩:=by kernel_rfl
theorem fa44_2(l:AM.Loc)(o:Nat):Qj Tryz.prog 44 (.ptr l o) 2=⟨2≠0, .ptr l (o+2)⟩:=by kernel_rfl
theorem qoT(l:AM.Loc)(o:Nat):Qj Tryz.prog 48 (.ptr l o) 0=⟨1≠0, .ptr l (o+0)⟩:=by kernel_rfl
theorem fa48_1(l:AM.Loc)(o:Nat):Qj Tryz.prog 48 (.ptr l o) 1=⟨2≠0, .ptr l (o+1)⟩:=by kernel_rfl
theorem eqv48(a0 b0:Int)(a1 b1:Int)(a2 b2:Int):(eqA Tryz.prog 40 48 (.agg [.int .i64 a0, .int .i64 a1, .int .i64 a2]) (.agg [.int .i64 b0, .int .i64 b1, .int .i64 b2])).val= .bool (decide (a0=b0) && ((decide (a1=b1) && (decide (a2=b2) && true)) && true)):=by kernel_rfl
theorem eqp48(a0 b0:Int)(a1 b1:Int)(a2 b2:Int):(eqA Tryz.prog 40 48 (.agg [.int .i64 a0, .int .i64 a1, .int .i64 a2]) (.agg [.int .i64 b0, .int .i64 b1, .int .i64 b2])).pre=((0<3)/\(0<3)/\True/\((1+2<=3)/\(1+2<=3)/\((0<2)/\(0<2)/\True/\((1<2)/\(1<2)/\True/\True))/\True)):=by kernel_rfl
theorem ne48(a0 b0:Int)(a1 b1:Int)(a2 b2:Int):qdD Tryz.prog .neq 48 (.agg [.int .i64 a0, .int .i64 a1, .int .i64 a2]) (.agg [.int .i64 b0, .int .i64 b1, .int .i64 b2])=⟨True, .bool (!(decide (a0=b0) && ((decide (a1=b1) && (decide (a2=b2) && true)) && true)))⟩:=by
 simp only[and_true,qdD,eqv48,eqp48,egt48,PR.mk.injEq];decide
theorem fa58_7(l:AM.Loc)(o:Nat):Qj Tryz.prog 58 (.ptr l o) 7=⟨1≠0, .ptr l (o+7)⟩:=by kernel_rfl
theorem fa58_8(l:AM.Loc)(o:Nat):Qj Tryz.prog 58 (.ptr l o) 8=⟨1≠0, .ptr l (o+8)⟩:=by kernel_rfl
theorem fa65_0(l:AM.Loc)(o:Nat):Qj Tryz.prog 65 (.ptr l o) 0=⟨1≠0, .ptr l (o+0)⟩:=by kernel_rfl
theorem fa65_1(l:AM.Loc)(o:Nat):Qj Tryz.prog 65 (.ptr l o) 1=⟨1≠0, .ptr l (o+1)⟩:=by kernel_rfl
theorem fa65_2(l:AM.Loc)(o:Nat):Qj Tryz.prog 65 (.ptr l o) 2=⟨1≠0, .ptr l (o+2)⟩:=by kernel_rfl
theorem fa65_3(l:AM.Loc)(o:Nat):Qj Tryz.prog 65 (.ptr l o) 3=⟨2≠0, .ptr l (o+3)⟩:=by kernel_rfl
theorem fa67_0(l:AM.Loc)(o:Nat):Qj Tryz.prog 67 (.ptr l o) 0=⟨1≠0, .ptr l (o+0)⟩:=by kernel_rfl
theorem fa67_2(l:AM.Loc)(o:Nat):Qj Tryz.prog 67 (.ptr l o) 2=⟨1≠0, .ptr l (o+2)⟩:=by kernel_rfl
theorem fa72_0(l:AM.Loc)(o:Nat):Qj Tryz.prog 72 (.ptr l o) 0=⟨1≠0, .ptr l (o+0)⟩:=by kernel_rfl
theorem fa72_1(l:AM.Loc)(o:Nat):Qj Tryz.prog 72 (.ptr l o) 1=⟨1≠0, .ptr l (o+1)⟩:=by kernel_rfl
theorem fa72_2(l:AM.Loc)(o:Nat):Qj Tryz.prog 72 (.ptr l o) 2=⟨2≠0, .ptr l (o+2)⟩:=by kernel_rfl
theorem fa72_3(l:AM.Loc)(o:Nat):Qj Tryz.prog 72 (.ptr l o) 3=⟨1≠0, .ptr l (o+4)⟩:=by kernel_rfl
theorem qcS(l:AM.Loc)(o:Nat):Qj Tryz.prog 82 (.ptr l o) 0=⟨1≠0, .ptr l (o+0)⟩:=by kernel_rfl
theorem YR(l:AM.Loc)(o:Nat):Qj Tryz.prog 82 (.ptr l o) 2=⟨1≠0, .ptr l (o+3)⟩:=by kernel_rfl
theorem Wh(l:AM.Loc)(o:Nat):Qj Tryz.prog 82 (.ptr l o) 3=⟨1≠0, .ptr l (o+4)⟩:=by kernel_rfl
theorem qoS(l:AM.Loc)(o:Nat):Qj Tryz.prog 84 (.ptr l o) 0=⟨1≠0, .ptr l (o+0)⟩:=by kernel_rfl
theorem qcj(l:AM.Loc)(o:Nat):Qj Tryz.prog 84 (.ptr l o) 1=⟨1≠0, .ptr l (o+1)⟩:=by kernel_rfl
theorem qlZ(l:AM.Loc)(o:Nat):Qj Tryz.prog 86 (.ptr l o) 0=⟨1≠0, .ptr l (o+0)⟩:=by kernel_rfl
theorem qfB(l:AM.Loc)(o:Nat):Qj Tryz.prog 86 (.ptr l o) 1=⟨1≠0, .ptr l (o+1)⟩:=by kernel_rfl
theorem qfA(l:AM.Loc)(o:Nat):Qj Tryz.prog 86 (.ptr l o) 2=⟨1≠0, .ptr l (o+2)⟩:=by kernel_rfl
theorem qcR(l:AM.Loc)(o:Nat):Qj Tryz.prog 96 (.ptr l o) 0=⟨1≠0, .ptr l (o+0)⟩:=by kernel_rfl
theorem We(l:AM.Loc)(o:Nat):Qj Tryz.prog 96 (.ptr l o) 1=⟨1≠0, .ptr l (o+1)⟩:=by kernel_rfl
theorem qjw(l:AM.Loc)(o:Nat):Qj Tryz.prog 96 (.ptr l o) 2=⟨1≠0, .ptr l (o+2)⟩:=by kernel_rfl
theorem qoU(l:AM.Loc)(o:Nat):Qj Tryz.prog 103 (.ptr l o) 0=⟨1≠0, .ptr l (o+0)⟩:=by kernel_rfl
theorem WR(l:AM.Loc)(o:Nat):Qj Tryz.prog 103 (.ptr l o) 1=⟨5≠0, .ptr l (o+1)⟩:=by kernel_rfl
theorem qsy(x0:Int)(x1:List UInt8)(x2:Int)(x3:Int):WV Tryz.prog 44 [(0, .int .u8 x0),(1, .str x1),(2, .agg [.int .i64 x2, .int .i64 x3])]=⟨True, .agg [.int .u8 x0, .str x1, .int .i64 x2, .int .i64 x3, .bool false]⟩:=by kernel_rfl
theorem bld48_0_1(x0:Int)(x1:Int)(x2:Int):WV Tryz.prog 48 [(0, .int .i64 x0),(1, .agg [.int .i64 x1, .int .i64 x2])]=⟨True, .agg [.int .i64 x0, .int .i64 x1, .int .i64 x2]⟩:=by kernel_rfl
theorem bld48_:WV Tryz.prog 48 []=⟨True, .agg [.int .i64 0, .int .i64 0, .int .i64 0]⟩:=by kernel_rfl
theorem qgr(x0:Int)(x1:Int):WV Tryz.prog 42 [(0, .int .i64 x0),(1, .int .i64 x1)]=⟨True, .agg [.int .i64 x0, .int .i64 x1]⟩:=by kernel_rfl
theorem qmO(x0:List UInt8)(x1:List UInt8)(x2:AVal)(hx2:Sc x2)(x3:Int)(x4:Int):WV Tryz.prog 65 [(0, .str x0),(1, .str x1),(2,x2),(3, .agg [.int .i64 x3, .int .i64 x4])]=⟨True, .agg [.str x0, .str x1,x2, .int .i64 x3, .int .i64 x4]⟩:=by(cases x2<;>first|exact hx2.elim|skip)<;>kernel_rfl
theorem bld67_0_2(x0:List UInt8)(x2:AVal)(hx2:Sc x2):WV Tryz.prog 67 [(0, .str x0),(2,x2)]=⟨True, .agg [.str x0, .nilSlice,x2]⟩:=by(cases x2<;>first|exact hx2.elim|skip)<;>kernel_rfl
theorem bld84_:WV Tryz.prog 84 []=⟨True, .agg [.str [], .nilSlice]⟩:=by kernel_rfl
theorem bld82_0_2(x0:List UInt8)(x3:AVal)(hx3:Sc x3):WV Tryz.prog 82 [(0, .str x0),(2,x3)]=⟨True, .agg [.str x0, .int .i64 0, .int .i64 0,x3, .nilSlice]⟩:=by(cases x3<;>first|exact hx3.elim|skip)<;>kernel_rfl
theorem bld84_1(x1:AVal)(hx1:Sc x1):WV Tryz.prog 84 [(1,x1)]=⟨True, .agg [.str [],x1]⟩:=by(cases x1<;>first|exact hx1.elim|skip)<;>kernel_rfl
theorem bld86_0(x0:List UInt8):WV Tryz.prog 86 [(0, .str x0)]=⟨True, .agg [.str x0, .nilSlice, .nilSlice]⟩:=by kernel_rfl
theorem bld48_0(x0:Int):WV Tryz.prog 48 [(0, .int .i64 x0)]=⟨True, .agg [.int .i64 x0, .int .i64 0, .int .i64 0]⟩:=by kernel_rfl
theorem bld82_0(x0:List UInt8):WV Tryz.prog 82 [(0, .str x0)]=⟨True, .agg [.str x0, .int .i64 0, .int .i64 0, .nilSlice, .nilSlice]⟩:=by kernel_rfl
theorem bld103_0_1(x0:List UInt8)(x1:List UInt8)(x2:Int)(x3:Int)(x4:AVal)(x5:AVal):WV Tryz.prog 103 [(0, .str x0),(1, .agg [.str x1, .int .i64 x2, .int .i64 x3,x4,x5])]=⟨True, .agg [.str x0, .str x1, .int .i64 x2, .int .i64 x3,x4,x5]⟩:=by kernel_rfl
theorem qmN(x0:List UInt8)(x1:List UInt8)(x2:Int)(x3:Int)(x4:AVal)(hx4:Sc x4):WV Tryz.prog 72 [(0, .str x0),(1, .str x1),(2, .agg [.int .i64 x2, .int .i64 x3]),(3,x4)]=⟨True, .agg [.str x0, .str x1, .int .i64 x2, .int .i64 x3,x4]⟩:=by(cases x4<;>first|exact hx4.elim|skip)<;>kernel_rfl
theorem qsw(x0:List UInt8)(x1:Int)(x2:Int)(x3:AVal)(hx3:Sc x3):WV Tryz.prog 82 [(0, .str x0),(1, .agg [.int .i64 x1, .int .i64 x2]),(2,x3)]=⟨True, .agg [.str x0, .int .i64 x1, .int .i64 x2,x3, .nilSlice]⟩:=by(cases x3<;>first|exact hx3.elim|skip)<;>kernel_rfl
theorem bld84_0_1(x0:List UInt8)(x1:AVal)(hx1:Sc x1):WV Tryz.prog 84 [(0, .str x0),(1,x1)]=⟨True, .agg [.str x0,x1]⟩:=by(cases x1<;>first|exact hx1.elim|skip)<;>kernel_rfl
theorem bld84_0(x0:List UInt8):WV Tryz.prog 84 [(0, .str x0)]=⟨True, .agg [.str x0, .nilSlice]⟩:=by kernel_rfl
theorem qsv(x0:List UInt8)(x1:AVal)(hx1:Sc x1)(x2:AVal)(hx2:Sc x2):WV Tryz.prog 86 [(0, .str x0),(1,x1),(2,x2)]=⟨True, .agg [.str x0,x1,x2]⟩:=by(cases x1<;>first|exact hx1.elim|skip)<;>(cases x2<;>first|exact hx2.elim|skip)<;>kernel_rfl
theorem mixed:Tryz.prog.follows .mixedOrders=true:=by kernel_rfl
end Go.Proofs.YtgiadjbiimkbiaaGreatDoor
namespace Go.Proofs
open Go.Shelf
def Tryz.lays156_ren:Go.Shelf.Ren:=⟨fun|156=>19|165=>40|166=>41|169=>42|240=>66|241=>67|276=>91|277=>92|n=>n,fun|31=>22|9=>9|3=>3|4=>4|0=>0|20=>20|72=>111|76=>115|70=>109|37=>32|75=>114|127=>140|164=>170|5=>5|80=>117|n=>n,fun|n=>n⟩
theorem Tryz.lays156:Go.Proofs.Lays.n156 Tryz.prog Tryz.lays156_ren:={
 mixed:=by kernel_rfl
 f156:=Tryz.func19.trans (congrArg some (by kernel_rfl))
 f165:=Tryz.func40.trans (congrArg some (by kernel_rfl))
 f166:=Tryz.func41.trans (congrArg some (by kernel_rfl))
 f169:=Tryz.func42.trans (congrArg some (by kernel_rfl))
 f240:=Tryz.func66.trans (congrArg some (by kernel_rfl))
 f241:=Tryz.func67.trans (congrArg some (by kernel_rfl))
 f276:=Tryz.func91.trans (congrArg some (by kernel_rfl))
 f277:=Tryz.func92.trans (congrArg some (by kernel_rfl))
 t0:=Tryz.underlying0
 a0:=Tryz.isAgg0
 z0:=Tryz.sizeOf0
 v0:=Tryz.zeroValue0
 t3:=Tryz.underlying3
 a3:=Tryz.isAgg3
 z3:=Tryz.sizeOf3
 v3:=Tryz.zeroValue3
 t4:=Tryz.underlying4
 a4:=Tryz.isAgg4
 z4:=Tryz.sizeOf4
 v4:=Tryz.zeroValue4
 t9:=Tryz.underlying9
 a9:=Tryz.isAgg9
 z9:=Tryz.sizeOf9
 v9:=Tryz.zeroValue9
 t20:=Tryz.underlying20
 a20:=Tryz.isAgg20
 z20:=Tryz.sizeOf20
 v20:=Tryz.zeroValue20
 t31:=Tryz.underlying22
 a31:=Tryz.isAgg22
 z31:=Tryz.sizeOf22
 v31:=Tryz.zeroValue22
 t37:=Tryz.underlying32
 a37:=Tryz.isAgg32
 z37:=Tryz.sizeOf32
 v37:=Tryz.zeroValue32
 t70:=Tryz.underlying109
 a70:=Tryz.isAgg109
 z70:=Tryz.sizeOf109
 v70:=Tryz.zeroValue109
 t72:=Tryz.underlying111
 a72:=Tryz.isAgg111
 z72:=Tryz.sizeOf111
 v72:=Tryz.zeroValue111
 t75:=Tryz.underlying114
 a75:=Tryz.isAgg114
 z75:=Tryz.sizeOf114
 v75:=Tryz.zeroValue114
 t76:=Tryz.underlying115
 a76:=Tryz.isAgg115
 z76:=Tryz.sizeOf115
 v76:=Tryz.zeroValue115
 t127:=Tryz.underlying140
 a127:=Tryz.isAgg140
 z127:=Tryz.sizeOf140
 v127:=Tryz.zeroValue140
 t164:=Tryz.underlying170
 a164:=Tryz.isAgg170
 z164:=Tryz.sizeOf170
 v164:=Tryz.zeroValue170}
theorem Tryz.Builder_Extra_156:Builder.Extra Tryz.prog Tryz.lays156_ren:={
 sizeBuilder:=by kernel_rfl
 liesBuilder:=by kernel_rfl
 t5:=Tryz.underlying5
 a5:=Tryz.isAgg5
 z5:=Tryz.sizeOf5
 v5:=Tryz.zeroValue5
 infoByte:=by kernel_rfl
 cellsByte:=by kernel_rfl
 sizeByte:=by kernel_rfl
 neB5:=by decide}
open Go.RowKit in
theorem Tryz.strings_Join_none(a:Option Addr)(c:Nat)(sep:ByteArray)(w:World):
 Calls Tryz.prog 19 #[.slice a 0 c, .string sep] w fun e w'=>e= .returned (.string ⟨#[]⟩)/\w'=w:=Any.strings_Join_none Tryz.lays156 Tryz.Builder_Extra_156 a c sep w
open Go.RowKit in
theorem Tryz.strings_Join(bk o c:Nat)(xs:List ByteArray)(sep:ByteArray)(w:World)(hcells:∀(j:Nat) x,xs[j]?=some x->w.cell? ⟨bk,o+j,none⟩=some (.string x))(hbk:bk<w.heap.size)(hN:xs.length<=140737488355328)(hcap:xs.length<=c)(hlen:(Lib.join (xs.map (·.data.toList)) sep.data.toList).length<=140737488355328):
 Calls Tryz.prog 19 #[.slice (some ⟨bk,o,none⟩) xs.length c, .string sep] w fun e w'=>e= .returned (.string ⟨(Lib.join (xs.map (·.data.toList)) sep.data.toList).toArray⟩)/\Below w.heap.size w w':=Any.strings_Join Tryz.lays156 Tryz.Builder_Extra_156 bk o c xs sep w hcells hbk hN hcap hlen
def Tryz.lays160_ren:Go.Shelf.Ren:=⟨fun|160=>34|232=>58|231=>57|227=>59|234=>61|233=>60|236=>63|235=>62|228=>86|271=>89|151=>88|197=>87|120=>106|152=>105|260=>104|137=>118|119=>119|224=>109|225=>108|217=>107|266=>120|n=>n,fun|9=>9|4=>4|3=>3|5=>5|117=>134|116=>133|0=>0|124=>137|21=>21|105=>167|46=>195|119=>121|139=>204|138=>203|n=>n,fun|3=>3|4=>4|n=>n⟩
theorem Tryz.lays160:Go.Proofs.Lays.n160 Tryz.prog Tryz.lays160_ren:={
 mixed:=by kernel_rfl
 f119:=Tryz.func119.trans (congrArg some (by kernel_rfl))
 f120:=Tryz.func106.trans (congrArg some (by kernel_rfl))
 f137:=Tryz.func118.trans (congrArg some (by kernel_rfl))
 f151:=Tryz.func88.trans (congrArg some (by kernel_rfl))
 f152:=Tryz.func105.trans (congrArg some (by kernel_rfl))
 f160:=Tryz.func34.trans (congrArg some (by kernel_rfl))
 f197:=Tryz.func87.trans (congrArg some (by kernel_rfl))
 f217:=Tryz.func107.trans (congrArg some (by kernel_rfl))
 f224:=Tryz.func109.trans (congrArg some (by kernel_rfl))
 f225:=Tryz.func108.trans (congrArg some (by kernel_rfl))
 f227:=Tryz.func59.trans (congrArg some (by kernel_rfl))
 f228:=Tryz.func86.trans (congrArg some (by kernel_rfl))
 f231:=Tryz.func57.trans (congrArg some (by kernel_rfl))
 f232:=Tryz.func58.trans (congrArg some (by kernel_rfl))
 f233:=Tryz.func60.trans (congrArg some (by kernel_rfl))
 f234:=Tryz.func61.trans (congrArg some (by kernel_rfl))
 f235:=Tryz.func62.trans (congrArg some (by kernel_rfl))
 f236:=Tryz.func63.trans (congrArg some (by kernel_rfl))
 f260:=Tryz.func104.trans (congrArg some (by kernel_rfl))
 f266:=Tryz.func120.trans (congrArg some (by kernel_rfl))
 f271:=Tryz.func89.trans (congrArg some (by kernel_rfl))
 t0:=Tryz.underlying0
 a0:=Tryz.isAgg0
 z0:=Tryz.sizeOf0
 v0:=Tryz.zeroValue0
 t3:=Tryz.underlying3
 a3:=Tryz.isAgg3
 z3:=Tryz.sizeOf3
 v3:=Tryz.zeroValue3
 t4:=Tryz.underlying4
 a4:=Tryz.isAgg4
 z4:=Tryz.sizeOf4
 v4:=Tryz.zeroValue4
 t5:=Tryz.underlying5
 a5:=Tryz.isAgg5
 z5:=Tryz.sizeOf5
 v5:=Tryz.zeroValue5
 t9:=Tryz.underlying9
 a9:=Tryz.isAgg9
 z9:=Tryz.sizeOf9
 v9:=Tryz.zeroValue9
 t21:=Tryz.underlying21
 a21:=Tryz.isAgg21
 z21:=Tryz.sizeOf21
 v21:=Tryz.zeroValue21
 t46:=Tryz.underlying195
 a46:=Tryz.isAgg195
 z46:=Tryz.sizeOf195
 v46:=Tryz.zeroValue195
 t105:=Tryz.underlying167
 a105:=Tryz.isAgg167
 z105:=Tryz.sizeOf167
 v105:=Tryz.zeroValue167
 t116:=Tryz.underlying133
 a116:=Tryz.isAgg133
 z116:=Tryz.sizeOf133
 t117:=Tryz.underlying134
 a117:=Tryz.isAgg134
 z117:=Tryz.sizeOf134
 v117:=Tryz.zeroValue134
 t119:=Tryz.underlying121
 a119:=Tryz.isAgg121
 z119:=Tryz.sizeOf121
 t124:=Tryz.underlying137
 a124:=Tryz.isAgg137
 z124:=Tryz.sizeOf137
 v124:=Tryz.zeroValue137
 t138:=Tryz.underlying203
 a138:=Tryz.isAgg203
 z138:=Tryz.sizeOf203
 v138:=Tryz.zeroValue203
 t139:=Tryz.underlying204
 a139:=Tryz.isAgg204
 z139:=Tryz.sizeOf204
 v139:=Tryz.zeroValue204
 g3:=by kernel_rfl
 g4:=by kernel_rfl}
open Go.RowKit in
theorem Tryz.strings_Trim_one(s:ByteArray)(c:UInt8)(hc:c.toNat<128)(w:World)(hs:s.size<=9223372036854775807):
 Calls Tryz.prog 34 #[.string s, .string ⟨#[c]⟩] w fun e w'=>e= .returned (.string ⟨(Lib.trimB s.data.toList c).toArray⟩)/\(w'=w\/w'=w.drew):=Any.strings_Trim_one Tryz.lays160 s c hc w hs
def Tryz.lays163_ren:Go.Shelf.Ren:=⟨fun|163=>103|237=>116|199=>48|238=>117|272=>127|261=>69|273=>128|197=>87|315=>131|311=>93|312=>94|271=>89|260=>104|120=>106|n=>n,fun|9=>9|37=>32|3=>3|0=>0|5=>5|4=>4|40=>123|119=>121|21=>21|51=>144|141=>146|105=>167|196=>176|193=>173|198=>179|49=>177|194=>174|201=>182|226=>196|46=>195|227=>197|139=>204|138=>203|n=>n,fun|0=>0|6=>1|3=>3|4=>4|n=>n⟩
theorem Tryz.lays163:Go.Proofs.Lays.n163 Tryz.prog Tryz.lays163_ren:={
 mixed:=by kernel_rfl
 f120:=Tryz.func106.trans (congrArg some (by kernel_rfl))
 f163:=Tryz.func103.trans (congrArg some (by kernel_rfl))
 f197:=Tryz.func87.trans (congrArg some (by kernel_rfl))
 f199:=Tryz.func48.trans (congrArg some (by kernel_rfl))
 f237:=Tryz.func116.trans (congrArg some (by kernel_rfl))
 f238:=Tryz.func117.trans (congrArg some (by kernel_rfl))
 f260:=Tryz.func104.trans (congrArg some (by kernel_rfl))
 f261:=Tryz.func69.trans (congrArg some (by kernel_rfl))
 f271:=Tryz.func89.trans (congrArg some (by kernel_rfl))
 f272:=Tryz.func127.trans (congrArg some (by kernel_rfl))
 f273:=Tryz.func128.trans (congrArg some (by kernel_rfl))
 f311:=Tryz.func93.trans (congrArg some (by kernel_rfl))
 f312:=Tryz.func94.trans (congrArg some (by kernel_rfl))
 f315:=Tryz.func131.trans (congrArg some (by kernel_rfl))
 t0:=Tryz.underlying0
 a0:=Tryz.isAgg0
 z0:=Tryz.sizeOf0
 v0:=Tryz.zeroValue0
 t3:=Tryz.underlying3
 a3:=Tryz.isAgg3
 z3:=Tryz.sizeOf3
 v3:=Tryz.zeroValue3
 t4:=Tryz.underlying4
 a4:=Tryz.isAgg4
 z4:=Tryz.sizeOf4
 v4:=Tryz.zeroValue4
 t5:=Tryz.underlying5
 a5:=Tryz.isAgg5
 z5:=Tryz.sizeOf5
 v5:=Tryz.zeroValue5
 t9:=Tryz.underlying9
 a9:=Tryz.isAgg9
 z9:=Tryz.sizeOf9
 v9:=Tryz.zeroValue9
 t21:=Tryz.underlying21
 a21:=Tryz.isAgg21
 z21:=Tryz.sizeOf21
 v21:=Tryz.zeroValue21
 t37:=Tryz.underlying32
 a37:=Tryz.isAgg32
 z37:=Tryz.sizeOf32
 v37:=Tryz.zeroValue32
 t40:=Tryz.underlying123
 a40:=Tryz.isAgg123
 z40:=Tryz.sizeOf123
 v40:=Tryz.zeroValue123
 t46:=Tryz.underlying195
 a46:=Tryz.isAgg195
 z46:=Tryz.sizeOf195
 v46:=Tryz.zeroValue195
 t49:=Tryz.underlying177
 a49:=Tryz.isAgg177
 z49:=Tryz.sizeOf177
 v49:=Tryz.zeroValue177
 t51:=Tryz.underlying144
 a51:=Tryz.isAgg144
 z51:=Tryz.sizeOf144
 v51:=Tryz.zeroValue144
 t105:=Tryz.underlying167
 a105:=Tryz.isAgg167
 z105:=Tryz.sizeOf167
 v105:=Tryz.zeroValue167
 t119:=Tryz.underlying121
 a119:=Tryz.isAgg121
 z119:=Tryz.sizeOf121
 t138:=Tryz.underlying203
 a138:=Tryz.isAgg203
 z138:=Tryz.sizeOf203
 v138:=Tryz.zeroValue203
 t139:=Tryz.underlying204
 a139:=Tryz.isAgg204
 z139:=Tryz.sizeOf204
 v139:=Tryz.zeroValue204
 t141:=Tryz.underlying146
 a141:=Tryz.isAgg146
 z141:=Tryz.sizeOf146
 v141:=Tryz.zeroValue146
 t193:=Tryz.underlying173
 a193:=Tryz.isAgg173
 z193:=Tryz.sizeOf173
 v193:=Tryz.zeroValue173
 t194:=Tryz.underlying174
 a194:=Tryz.isAgg174
 z194:=Tryz.sizeOf174
 v194:=Tryz.zeroValue174
 t196:=Tryz.underlying176
 a196:=Tryz.isAgg176
 z196:=Tryz.sizeOf176
 v196:=Tryz.zeroValue176
 t198:=Tryz.underlying179
 a198:=Tryz.isAgg179
 z198:=Tryz.sizeOf179
 v198:=Tryz.zeroValue179
 t201:=Tryz.underlying182
 a201:=Tryz.isAgg182
 z201:=Tryz.sizeOf182
 v201:=Tryz.zeroValue182
 t226:=Tryz.underlying196
 a226:=Tryz.isAgg196
 z226:=Tryz.sizeOf196
 v226:=Tryz.zeroValue196
 t227:=Tryz.underlying197
 a227:=Tryz.isAgg197
 z227:=Tryz.sizeOf197
 v227:=Tryz.zeroValue197
 g0:=by kernel_rfl
 g3:=by kernel_rfl
 g4:=by kernel_rfl
 g6:=by kernel_rfl}
theorem Tryz.Space_Extra_163:Space.Extra Tryz.prog Tryz.lays163_ren:={
 gNamed:=by kernel_rfl}
open Go.RowKit in
theorem Tryz.strings_TrimSpace(s:ByteArray)(w:World)(hs:s.size<=9223372036854775807)(hascii:∀(j:Nat) b,s.data.toList[j]?=some b->b.toNat<128)(htab:Lib.TabIs Tryz.prog w "strings.asciiSpace" .u8 Lib.asciiSpaceTab):
 Calls Tryz.prog 103 #[.string s] w fun e w'=>e= .returned (.string ⟨(Lib.trimSpace s.data.toList).toArray⟩)/\w'=Lib.bytesWorld w 5 s:=Any.strings_TrimSpace Tryz.lays163 Tryz.Space_Extra_163 s w hs hascii htab
def Tryz.lays103_ren:Go.Shelf.Ren:=⟨fun|103=>96|210=>111|206=>25|n=>n,fun|9=>9|4=>4|24=>154|3=>3|n=>n,fun|n=>n⟩
theorem Tryz.lays103:Go.Proofs.Lays.n103 Tryz.prog Tryz.lays103_ren:={
 mixed:=by kernel_rfl
 f103:=Tryz.func96.trans (congrArg some (by kernel_rfl))
 f206:=Tryz.func25.trans (congrArg some (by kernel_rfl))
 f210:=Tryz.func111.trans (congrArg some (by kernel_rfl))
 t3:=Tryz.underlying3
 a3:=Tryz.isAgg3
 z3:=Tryz.sizeOf3
 v3:=Tryz.zeroValue3
 t4:=Tryz.underlying4
 a4:=Tryz.isAgg4
 z4:=Tryz.sizeOf4
 v4:=Tryz.zeroValue4
 t9:=Tryz.underlying9
 a9:=Tryz.isAgg9
 z9:=Tryz.sizeOf9
 v9:=Tryz.zeroValue9
 t24:=Tryz.underlying154
 a24:=Tryz.isAgg154
 z24:=Tryz.sizeOf154
 v24:=Tryz.zeroValue154}
open Go.RowKit in
theorem Tryz.strings_CutPrefix(s p:ByteArray)(w:World):
 Calls Tryz.prog 96 #[.string s, .string p] w fun e w'=>e= .returned (.tuple #[.string ⟨(Lib.trimPrefix s.data.toList p.data.toList).toArray⟩, .bool (Lib.hasPrefix s.data.toList p.data.toList)])/\w'=w:=Any.strings_CutPrefix Tryz.lays103 s p w
def Tryz.lays219_ren:Go.Shelf.Ren:=⟨fun|219=>90|217=>107|225=>108|224=>109|267=>110|266=>120|314=>121|n=>n,fun|9=>9|3=>3|4=>4|5=>5|46=>195|146=>205|51=>144|n=>n,fun|1=>2|n=>n⟩
def Tryz.lays143_ren:Go.Shelf.Ren:=⟨fun|143=>64|219=>90|217=>107|225=>108|224=>109|267=>110|266=>120|314=>121|n=>n,fun|9=>9|3=>3|4=>4|5=>5|46=>195|146=>205|51=>144|n=>n,fun|1=>2|n=>n⟩
theorem Tryz.lays143:Go.Proofs.Lays.n143 Tryz.prog Tryz.lays143_ren:={
 mixed:=by kernel_rfl
 f143:=Tryz.func64.trans (congrArg some (by kernel_rfl))
 f217:=Tryz.func107.trans (congrArg some (by kernel_rfl))
 f219:=Tryz.func90.trans (congrArg some (by kernel_rfl))
 f224:=Tryz.func109.trans (congrArg some (by kernel_rfl))
 f225:=Tryz.func108.trans (congrArg some (by kernel_rfl))
 f266:=Tryz.func120.trans (congrArg some (by kernel_rfl))
 f267:=Tryz.func110.trans (congrArg some (by kernel_rfl))
 f314:=Tryz.func121.trans (congrArg some (by kernel_rfl))
 t3:=Tryz.underlying3
 a3:=Tryz.isAgg3
 z3:=Tryz.sizeOf3
 v3:=Tryz.zeroValue3
 t4:=Tryz.underlying4
 a4:=Tryz.isAgg4
 z4:=Tryz.sizeOf4
 v4:=Tryz.zeroValue4
 t5:=Tryz.underlying5
 a5:=Tryz.isAgg5
 z5:=Tryz.sizeOf5
 v5:=Tryz.zeroValue5
 t9:=Tryz.underlying9
 a9:=Tryz.isAgg9
 z9:=Tryz.sizeOf9
 v9:=Tryz.zeroValue9
 t46:=Tryz.underlying195
 a46:=Tryz.isAgg195
 z46:=Tryz.sizeOf195
 v46:=Tryz.zeroValue195
 t51:=Tryz.underlying144
 a51:=Tryz.isAgg144
 z51:=Tryz.sizeOf144
 v51:=Tryz.zeroValue144
 t146:=Tryz.underlying205
 a146:=Tryz.isAgg205
 z146:=Tryz.sizeOf205
 v146:=Tryz.zeroValue205
 g1:=by kernel_rfl}
open Go.RowKit Go.Lib in
theorem Tryz.strings_Index_one(s:ByteArray)(c:UInt8)(w:World):
 Calls Tryz.prog 64 #[.string s, .string ⟨#[c]⟩] w fun e w'=>e= .returned (.int .i64 (Lib.indexByte s.data.toList c))/\w'=w:=Any.strings_Index_one Tryz.lays143 s c w
def Tryz.lays144_ren:Go.Shelf.Ren:=⟨fun|144=>35|143=>64|219=>90|217=>107|225=>108|224=>109|267=>110|266=>120|314=>121|n=>n,fun|9=>9|4=>4|3=>3|5=>5|46=>195|146=>205|51=>144|n=>n,fun|1=>2|n=>n⟩
theorem Tryz.lays144:Go.Proofs.Lays.n144 Tryz.prog Tryz.lays144_ren:={
 mixed:=by kernel_rfl
 f143:=Tryz.func64.trans (congrArg some (by kernel_rfl))
 f144:=Tryz.func35.trans (congrArg some (by kernel_rfl))
 f217:=Tryz.func107.trans (congrArg some (by kernel_rfl))
 f219:=Tryz.func90.trans (congrArg some (by kernel_rfl))
 f224:=Tryz.func109.trans (congrArg some (by kernel_rfl))
 f225:=Tryz.func108.trans (congrArg some (by kernel_rfl))
 f266:=Tryz.func120.trans (congrArg some (by kernel_rfl))
 f267:=Tryz.func110.trans (congrArg some (by kernel_rfl))
 f314:=Tryz.func121.trans (congrArg some (by kernel_rfl))
 t3:=Tryz.underlying3
 a3:=Tryz.isAgg3
 z3:=Tryz.sizeOf3
 v3:=Tryz.zeroValue3
 t4:=Tryz.underlying4
 a4:=Tryz.isAgg4
 z4:=Tryz.sizeOf4
 v4:=Tryz.zeroValue4
 t5:=Tryz.underlying5
 a5:=Tryz.isAgg5
 z5:=Tryz.sizeOf5
 v5:=Tryz.zeroValue5
 t9:=Tryz.underlying9
 a9:=Tryz.isAgg9
 z9:=Tryz.sizeOf9
 v9:=Tryz.zeroValue9
 t46:=Tryz.underlying195
 a46:=Tryz.isAgg195
 z46:=Tryz.sizeOf195
 v46:=Tryz.zeroValue195
 t51:=Tryz.underlying144
 a51:=Tryz.isAgg144
 z51:=Tryz.sizeOf144
 v51:=Tryz.zeroValue144
 t146:=Tryz.underlying205
 a146:=Tryz.isAgg205
 z146:=Tryz.sizeOf205
 v146:=Tryz.zeroValue205
 g1:=by kernel_rfl}
open Go.RowKit Go.Lib in
theorem Tryz.strings_Contains(s sub:ByteArray)(m:Int)(w:World)(hs:s.size<4294967281)(hm:w.cell? ⟨2,0,none⟩=some (.int .i64 m)):
 Calls Tryz.prog 35 #[.string s, .string sub] w fun e w'=>e= .returned (.bool (Lib.contains s.data.toList sub.data.toList))/\w'=w:=Any.strings_Contains Tryz.lays144 s sub m w hs hm
def Tryz.lays221_ren:Go.Shelf.Ren:=⟨fun|221=>80|268=>101|138=>102|143=>64|195=>114|197=>87|218=>115|219=>90|260=>104|217=>107|225=>108|224=>109|267=>110|266=>120|314=>121|n=>n,fun|9=>9|3=>3|31=>22|4=>4|0=>0|105=>167|21=>21|5=>5|46=>195|119=>121|139=>204|138=>203|146=>205|51=>144|n=>n,fun|1=>2|3=>3|4=>4|n=>n⟩
def Tryz.lays146_ren:Go.Shelf.Ren:=⟨fun|146=>52|221=>80|268=>101|138=>102|143=>64|195=>114|197=>87|218=>115|219=>90|260=>104|217=>107|225=>108|224=>109|267=>110|266=>120|314=>121|n=>n,fun|9=>9|31=>22|3=>3|4=>4|0=>0|105=>167|21=>21|5=>5|46=>195|119=>121|139=>204|138=>203|146=>205|51=>144|n=>n,fun|1=>2|3=>3|4=>4|n=>n⟩
theorem Tryz.lays146:Go.Proofs.Lays.n146 Tryz.prog Tryz.lays146_ren:={
 mixed:=by kernel_rfl
 f138:=Tryz.func102.trans (congrArg some (by kernel_rfl))
 f143:=Tryz.func64.trans (congrArg some (by kernel_rfl))
 f146:=Tryz.func52.trans (congrArg some (by kernel_rfl))
 f195:=Tryz.func114.trans (congrArg some (by kernel_rfl))
 f197:=Tryz.func87.trans (congrArg some (by kernel_rfl))
 f217:=Tryz.func107.trans (congrArg some (by kernel_rfl))
 f218:=Tryz.func115.trans (congrArg some (by kernel_rfl))
 f219:=Tryz.func90.trans (congrArg some (by kernel_rfl))
 f221:=Tryz.func80.trans (congrArg some (by kernel_rfl))
 f224:=Tryz.func109.trans (congrArg some (by kernel_rfl))
 f225:=Tryz.func108.trans (congrArg some (by kernel_rfl))
 f260:=Tryz.func104.trans (congrArg some (by kernel_rfl))
 f266:=Tryz.func120.trans (congrArg some (by kernel_rfl))
 f267:=Tryz.func110.trans (congrArg some (by kernel_rfl))
 f268:=Tryz.func101.trans (congrArg some (by kernel_rfl))
 f314:=Tryz.func121.trans (congrArg some (by kernel_rfl))
 t0:=Tryz.underlying0
 a0:=Tryz.isAgg0
 z0:=Tryz.sizeOf0
 v0:=Tryz.zeroValue0
 t3:=Tryz.underlying3
 a3:=Tryz.isAgg3
 z3:=Tryz.sizeOf3
 v3:=Tryz.zeroValue3
 t4:=Tryz.underlying4
 a4:=Tryz.isAgg4
 z4:=Tryz.sizeOf4
 v4:=Tryz.zeroValue4
 t5:=Tryz.underlying5
 a5:=Tryz.isAgg5
 z5:=Tryz.sizeOf5
 v5:=Tryz.zeroValue5
 t9:=Tryz.underlying9
 a9:=Tryz.isAgg9
 z9:=Tryz.sizeOf9
 v9:=Tryz.zeroValue9
 t21:=Tryz.underlying21
 a21:=Tryz.isAgg21
 z21:=Tryz.sizeOf21
 v21:=Tryz.zeroValue21
 t31:=Tryz.underlying22
 a31:=Tryz.isAgg22
 z31:=Tryz.sizeOf22
 v31:=Tryz.zeroValue22
 t46:=Tryz.underlying195
 a46:=Tryz.isAgg195
 z46:=Tryz.sizeOf195
 v46:=Tryz.zeroValue195
 t51:=Tryz.underlying144
 a51:=Tryz.isAgg144
 z51:=Tryz.sizeOf144
 v51:=Tryz.zeroValue144
 t105:=Tryz.underlying167
 a105:=Tryz.isAgg167
 z105:=Tryz.sizeOf167
 v105:=Tryz.zeroValue167
 t119:=Tryz.underlying121
 a119:=Tryz.isAgg121
 z119:=Tryz.sizeOf121
 t138:=Tryz.underlying203
 a138:=Tryz.isAgg203
 z138:=Tryz.sizeOf203
 v138:=Tryz.zeroValue203
 t139:=Tryz.underlying204
 a139:=Tryz.isAgg204
 z139:=Tryz.sizeOf204
 v139:=Tryz.zeroValue204
 t146:=Tryz.underlying205
 a146:=Tryz.isAgg205
 z146:=Tryz.sizeOf205
 v146:=Tryz.zeroValue205
 g1:=by kernel_rfl
 g3:=by kernel_rfl
 g4:=by kernel_rfl}
open Go.RowKit Go.Lib in
theorem Tryz.strings_Split(s sep:ByteArray)(m:Int)(w:World)(hs:s.size<4294967281)(hm:w.cell? ⟨2,0,none⟩=some (.int .i64 m))(h1:1<=sep.size):
 Calls Tryz.prog 52 #[.string s, .string sep] w fun e w'=>
  e= .returned (.slice (some ⟨w.heap.size,0,none⟩) (Lib.countB s sep+1) (Lib.countB s sep+1))/\w'=w.alloc (.cells ((Lib.splitB sep 0 (Lib.countB s sep) s).map Value.string).toArray 9):=Any.strings_Split Tryz.lays146 (by kernel_rfl) s sep m w hs hm h1
def Tryz.lays157_ren:Go.Shelf.Ren:=⟨fun|157=>24|229=>47|199=>48|261=>69|311=>93|312=>94|n=>n,fun|9=>9|31=>22|3=>3|5=>5|4=>4|119=>121|0=>0|40=>123|152=>141|21=>21|154=>143|51=>144|141=>146|196=>176|193=>173|198=>179|49=>177|194=>174|201=>182|226=>196|46=>195|227=>197|n=>n,fun|0=>0|6=>1|n=>n⟩
def Tryz.laysM157_ren:Go.Shelf.Ren:=⟨fun|157=>24|229=>47|199=>48|261=>69|311=>93|312=>94|n=>n,fun|9=>9|31=>22|3=>3|5=>5|4=>4|119=>121|0=>0|40=>123|152=>141|21=>21|154=>143|51=>144|141=>146|196=>176|193=>173|198=>179|49=>177|194=>174|201=>182|226=>196|46=>195|227=>197|n=>n,fun|0=>0|6=>1|n=>n⟩
theorem Tryz.laysM157:Go.Proofs.LaysM.n157 Tryz.prog Tryz.laysM157_ren:={
 mixed:=by kernel_rfl
 f157:=Tryz.func24.trans (congrArg some (by kernel_rfl))
 f199:=Tryz.func48.trans (congrArg some (by kernel_rfl))
 f229:=Tryz.func47.trans (congrArg some (by kernel_rfl))
 f261:=Tryz.func69.trans (congrArg some (by kernel_rfl))
 f311:=Tryz.func93.trans (congrArg some (by kernel_rfl))
 f312:=Tryz.func94.trans (congrArg some (by kernel_rfl))
 t0:=Tryz.underlying0
 a0:=Tryz.isAgg0
 z0:=Tryz.sizeOf0
 v0:=Tryz.zeroValue0
 t3:=Tryz.underlying3
 a3:=Tryz.isAgg3
 z3:=Tryz.sizeOf3
 v3:=Tryz.zeroValue3
 t4:=Tryz.underlying4
 a4:=Tryz.isAgg4
 z4:=Tryz.sizeOf4
 v4:=Tryz.zeroValue4
 t5:=Tryz.underlying5
 a5:=Tryz.isAgg5
 z5:=Tryz.sizeOf5
 v5:=Tryz.zeroValue5
 t9:=Tryz.underlying9
 a9:=Tryz.isAgg9
 z9:=Tryz.sizeOf9
 v9:=Tryz.zeroValue9
 t21:=Tryz.underlying21
 a21:=Tryz.isAgg21
 z21:=Tryz.sizeOf21
 v21:=Tryz.zeroValue21
 t31:=Tryz.underlying22
 a31:=Tryz.isAgg22
 z31:=Tryz.sizeOf22
 v31:=Tryz.zeroValue22
 t40:=Tryz.underlying123
 a40:=Tryz.isAgg123
 z40:=Tryz.sizeOf123
 v40:=Tryz.zeroValue123
 t46:=Tryz.underlying195
 a46:=Tryz.isAgg195
 z46:=Tryz.sizeOf195
 v46:=Tryz.zeroValue195
 t49:=Tryz.underlying177
 a49:=Tryz.isAgg177
 z49:=Tryz.sizeOf177
 v49:=Tryz.zeroValue177
 t51:=Tryz.underlying144
 a51:=Tryz.isAgg144
 z51:=Tryz.sizeOf144
 v51:=Tryz.zeroValue144
 t119:=Tryz.underlying121
 a119:=Tryz.isAgg121
 z119:=Tryz.sizeOf121
 t141:=Tryz.underlying146
 a141:=Tryz.isAgg146
 z141:=Tryz.sizeOf146
 v141:=Tryz.zeroValue146
 t152:=Tryz.underlying141
 a152:=Tryz.isAgg141
 z152:=Tryz.sizeOf141
 v152:=Tryz.zeroValue141
 t154:=Tryz.underlying143
 a154:=Tryz.isAgg143
 z154:=Tryz.sizeOf143
 v154:=Tryz.zeroValue143
 t193:=Tryz.underlying173
 a193:=Tryz.isAgg173
 z193:=Tryz.sizeOf173
 v193:=Tryz.zeroValue173
 t194:=Tryz.underlying174
 a194:=Tryz.isAgg174
 z194:=Tryz.sizeOf174
 v194:=Tryz.zeroValue174
 t196:=Tryz.underlying176
 a196:=Tryz.isAgg176
 z196:=Tryz.sizeOf176
 v196:=Tryz.zeroValue176
 t198:=Tryz.underlying179
 a198:=Tryz.isAgg179
 z198:=Tryz.sizeOf179
 v198:=Tryz.zeroValue179
 t201:=Tryz.underlying182
 a201:=Tryz.isAgg182
 z201:=Tryz.sizeOf182
 v201:=Tryz.zeroValue182
 t226:=Tryz.underlying196
 a226:=Tryz.isAgg196
 z226:=Tryz.sizeOf196
 v226:=Tryz.zeroValue196
 t227:=Tryz.underlying197
 a227:=Tryz.isAgg197
 z227:=Tryz.sizeOf197
 v227:=Tryz.zeroValue197
 g0:=by kernel_rfl
 g6:=by kernel_rfl
 i0:=by kernel_rfl
 i3:=by kernel_rfl
 i4:=by kernel_rfl
 i5:=by kernel_rfl
 i9:=by kernel_rfl
 i21:=by kernel_rfl
 i31:=by kernel_rfl
 i40:=by kernel_rfl
 i46:=by kernel_rfl
 i49:=by kernel_rfl
 i51:=by kernel_rfl
 i141:=by kernel_rfl
 i152:=by kernel_rfl
 i154:=by kernel_rfl
 i193:=by kernel_rfl
 i194:=by kernel_rfl
 i196:=by kernel_rfl
 i198:=by kernel_rfl
 i201:=by kernel_rfl
 i226:=by kernel_rfl
 i227:=by kernel_rfl
 m0:=by kernel_rfl
 m6:=by kernel_rfl}
open Go.RowKit Go.Lib in
theorem Tryz.strings_Fields_laid(s:ByteArray)(w:World)(hs:s.size<4294967281)(hascii:∀(j:Nat) b,s.data.toList[j]?=some b->b.toNat<128)(htab:Lib.TabIs Tryz.prog w "strings.asciiSpace" .u8 Lib.asciiSpaceTab):
 Calls Tryz.prog 24 #[.string s] w fun e w'=>
  e= .returned (.slice (some ⟨w.heap.size,0,none⟩) (Lib.fields s.data.toList).length (Lib.fields s.data.toList).length)/\w'=w.alloc (.cells ((Lib.fields s.data.toList).map fun l=>Value.string ⟨l.toArray⟩).toArray 9):=Any.strings_Fields_laid Tryz.laysM157 s w hs hascii htab
end Go.Proofs
namespace Go.Proofs.YtgiadjbiimkbiaaGreatDoor
open Go.AM
open Go.Proofs
open Go.Col
open Go.RowKit (Below)
set_option maxRecDepth 100000
theorem index_one:∀(s:Str) (b:UInt8),(Lib.index s [b]= -1/\b∉s)\/∃i:Nat,Lib.index s [b]=i/\i<s.length/\s=s.take i++b::s.drop (i+1)/\b∉s.take i
 |[],b=> .inl ⟨rfl,by simp⟩
 |x::s,b=>by
  by_cases h:b=x
  ·subst h
   refine .inr ⟨0,?_,by simp,by simp,by simp⟩;simp[Lib.index,V4]
  ·have hp:V4 [b] (x::s)=false:=by simp[V4,h]
   rcases index_one s b with⟨h1,h2⟩|⟨i,h1,h2,h3,h4⟩
   ·refine .inl ⟨?_,?_⟩
    ·unfold Lib.index
     rw[hp,if_neg (by decide),h1,if_pos (by decide)]
    ·simp[h,h2]
   ·refine .inr ⟨i+1,?_,by simp;omega,?_,?_⟩
    ·unfold Lib.index
     rw[hp,if_neg (by decide),h1,if_neg (by simp<;>omega)];omega
    ·simp only[true_and,Kh,Ki,List.cons.injEq,VU]
     exact h3
    ·simp only[Ki,KY,not_or]
     exact⟨h,h4⟩
theorem extract_mk(s:Str)(a b:Nat):((⟨⟨s⟩⟩:ByteArray).extract a b)=⟨⟨(s.drop a).take (b-a)⟩⟩:=by
 apply ByteArray.ext;apply Array.ext';rw[Lib.extract_data]
theorem qiI{P:Program}{wz:World}{f:FuncId}{fn:Func}{h:AHeap}{args:List AVal}{vals:List Value}{cs:List Value}{n:Nat}{e:TypeId}{xs:List AVal}(hf:P.funcs[f]?=some fn)(hname:(fn.name== "runtime.NumGoroutine")=false)(hb:fn.body.isSome=true)
 (hv:∀fi vs,VRs fi args vs->vs=vals) (hx:∀fi,VRs fi xs cs)
 (hc:∀w,Go.RowKit.Below wz.heap.size wz w->Calls P f vals.toArray w fun en w'=>en= .returned (.slice (some ⟨w.heap.size,0,none⟩) n n)/\w'=w.alloc (.cells cs.toArray e)):
 ACall P wz f args h (fun v h'=>∃k,h k=none/\v= .slice (.own k) 0 n (.exact n)/\h'=h.set k ⟨xs,0⟩):=by
 intro fi vs w hr hvs;obtain rfl:=hv fi vs hvs;refine .inl ⟨fn,hf,hname,hb,(hc w hr.below).mono fun en w' ⟨e1,e2⟩=>?_⟩;obtain⟨k,hk,hφ,ht⟩:=hr.freshN;have hlen:xs.length=cs.length:=(XA (hx fi)).symm;obtain⟨h1,h2⟩:=hr.alloc k hk hφ xs cs.toArray e 0 0 (by rw[hlen];simpa using hx fi) qcO (fun t h'=>by rw[ht]at h';cases h');refine⟨_,e1,_,_,_,h1,?_,?_,k,hk,rfl,rfl⟩
 ·rw[e2];exact h2
 ·simp only[VR]
  refine⟨_,rfl,fun _=>?_⟩;simp[Xf,J4]
abbrev MaxL(w:World):Prop:=∃m,w.cell? ⟨2,0,none⟩=some (.int .i64 m)
theorem qld(fi:PMap):∀l:List Str,VRs fi (l.map AVal.str) (l.map fun x=>Value.string ⟨⟨x⟩⟩)
 |[]=>rfl
 |x::l=>by
  simp only[Ke,VRs];exact⟨_,_,rfl,rfl,qld fi l⟩
theorem qsD{fi:PMap}:∀{l:List Str} {vs:List Value},VRs fi (l.map AVal.str) vs->vs=l.map fun x=>Value.string ⟨⟨x⟩⟩
 |[],_,h=>h
 |x::l,vs,h=>by
  simp only[Ke,VRs,VR]at h;obtain⟨v,vs',rfl,rfl,h2⟩:=h;rw[qsD h2];rfl
theorem qcu{fi:PMap}{l:AM.Loc}{o:Nat}{a:Addr}(h:Xf fi l o=some a):a=⟨a.block,a.off,none⟩:=by
 cases l with
 |base b=>simp only[Xf,Option.some.injEq]at h;subst h;rfl
 |own k=>
  simp only[Xf,Kc]at h;obtain⟨p,_,rfl⟩:=h;rfl
abbrev IsStrs(wz:World)(h:AHeap)(v:AVal)(l:List Str):Prop:=IsL wz h 1 v (l.map fun s=>[AVal.str s])
theorem qgi:∀l:List Str,(l.map fun s=>[AVal.str s]).flatten=l.map AVal.str
 |[]=>rfl
 |x::l=>by simp[qgi l]
theorem qjD(wz:World)(h:AHeap)(v:AVal)(l:List Str)(sep:Str)(hv:IsStrs wz h v l)(hn:l.length<=140737488355328)(hl:(Lib.join l sep).length<=140737488355328):
 ACall Tryz.prog wz 19 [v, .str sep] h (fun r h'=>r= .str (Lib.join l sep)/\h'=h):=by
 intro fi vals w hr hvs;simp only[VRs,VR]at hvs;obtain⟨u,vs',rfl,hu,u2,vs2,rfl,rfl,rfl⟩:=hvs;have fin:∀{R:Ending->World->Prop},Calls Tryz.prog 19 #[u, .string ⟨⟨sep⟩⟩] w R->(∀e w',R e w'->e= .returned (.string ⟨⟨Lib.join l sep⟩⟩)/\Below w.heap.size w w')->
  Lands Tryz.prog 19 [u, .string ⟨⟨sep⟩⟩].toArray w fun v w'=>∃Ps x h',fi.le Ps/\HRel wz Ps h' w'/\VR Ps x v/\x= .str (Lib.join l sep)/\h'=h:=fun hc hq=>
  .inl ⟨_,Tryz.func19,rfl,rfl,hc.mono fun e w' hR=>⟨_,(hq e w' hR).1,fi, .str (Lib.join l sep),h,fi.le_refl,hr.later (hq e w' hR).2,rfl,rfl,rfl⟩⟩
 obtain⟨xs,hxs⟩:∃xs,xs=l.map fun s=>[AVal.str s]:=⟨_,rfl⟩
 unfold IsStrs at hv;rw[<-hxs]at hv;cases hv with
 |nil=>
  have e0:l=[]:=V5.1 hxs.symm;subst e0;simp only[VR]at hu;subst hu;exact fin (Tryz.strings_Join_none none 0 ⟨⟨sep⟩⟩ w) fun e w' ⟨e1,e2⟩=>⟨e1,by subst e2;exact Below.refl _ _⟩
 |mk lc o n c xs hn' hw hc hlv hcap=>
  subst hxs;rw[Jp]at hn';subst hn';obtain⟨a,cp,rfl,ha⟩:=Yn hu;by_cases h0:l.length=0
  ·have e0:l=[]:=Kg h0
   subst e0;exact fin (Tryz.strings_Join_none (some a) cp ⟨⟨sep⟩⟩ w) fun e w' ⟨e1,e2⟩=>⟨e1,by subst e2;exact Below.refl _ _⟩
  ·have ha':=ha h0
   obtain⟨us,u1,u2,u3⟩:=qeH hr lc (l.length*1) o a ha' (by rw[hc];exact hlv);rw[hc,qgi]at u2;have hus:=qsD u2;have has:=qcu ha';have hcell:∀(j:Nat) (x:ByteArray),(l.map fun x=>(⟨⟨x⟩⟩:ByteArray))[j]?=some x->w.cell? ⟨a.block,a.off+j,none⟩=some (.string x):=fun j x hj=>by
    have:=u3 j (.string x) (by rw[hus];simp only[V6,Kc]at hj|-;obtain⟨y,hy,rfl⟩:=hj;exact⟨y,hy,rfl⟩);rw[has]at this;by_cases hj0:j=0
    ·subst hj0
     simpa[Addr.add]using this
    ·simpa[Addr.add,hj0]using this
   have hblk:a.block<w.heap.size:=by
    cases hl0:l with
    |nil=>rw[hl0]at h0;exact absurd rfl h0
    |cons x r=>exact qgn (hcell 0 ⟨⟨x⟩⟩ (by rw[hl0];rfl))
   have hcp:l.length<=cp:=by
    cases c with
    |exact c=>
     simp only[VR]at hu;obtain⟨a',e1,_⟩:=hu;cases e1;exact hcap
    |grow es=>
     simp only[VR]at hu;obtain⟨k,p,c',a',_,_,e1,hle,_⟩:=hu;cases e1;exact hle
   have hmm:(l.map fun x=>(⟨⟨x⟩⟩:ByteArray)).map (fun x=>x.data.toList)=l:=by rw[List.map_map];exact List.map_id _
   have hj:=Tryz.strings_Join a.block a.off cp (l.map fun x=>(⟨⟨x⟩⟩:ByteArray)) ⟨⟨sep⟩⟩ w hcell hblk (by rw[Jp];exact hn) (by rw[Jp];exact hcp) (by rw[hmm];exact hl);rw[Jp,hmm,<-has]at hj;exact fin hj fun e w' ⟨e1,e2⟩=>⟨e1,e2⟩
end Go.Proofs.YtgiadjbiimkbiaaGreatDoor
namespace Go.AM
open Go.RowKit (Below)
theorem qla{K:Slots->AHeap->Prop}{Q:Exit->Slots->AHeap->Prop}{s:Slots}{h:AHeap}(i:Nat):qeW K Q (.exit i) s h=Q (.exit i) s h:=rfl
theorem qgL{Q:Exit->Slots->AHeap->Prop}{s:Slots}{h:AHeap}(i:Nat):qdT i Q (.exit i) s h=Q .normal s h:=by simp[qdT]
theorem qbM(b:Bool):(AVal.bool b).scal=true:=rfl
theorem WU(k:IntKind)(n:Int):(AVal.int k n).scal=true:=rfl
theorem ZM(s:List UInt8):(AVal.str s).scal=true:=rfl
section
variable {P:Program}
theorem pu_lookup(t:TypeId)(x i:Operand)(ok:Bool):Zc P (.lookup t x i ok)=true:=rfl
end
section
variable {P:Program} {wz:World} {ops rest:List Oper} {s:Slots} {h:AHeap} {K:Slots->AHeap->Prop} {dst:Option Tmp} {ty:TypeId} {pos:String} {af:Array Edge}
theorem ap_lookup(t:TypeId)(x i:Operand)(ok:Bool):
 Qp P wz ops (⟨dst, .lookup t x i ok,ty,pos,af,none⟩::rest) s h K=((pop P wz h s (.lookup t x i ok)).pre/\Qp P wz ops rest (putD s dst (pop P wz h s (.lookup t x i ok)).val) h K):=Uc (pu_lookup t x i ok)
theorem qpw{t:TypeId}(hk:∀k,h k=none->Qp P wz ops rest (putD s dst (.map k)) (h.set k (Yg 0 [])) K):Qp P wz ops (⟨dst, .makeMap t none,ty,pos,af,none⟩::rest) s h K:=by
 rw[qcY];exact hk
theorem qsC{t kt et:TypeId}{m i v:Operand}{k c:Nat}{es:List AVal}(ht:P.underlying t=some (.map kt et))(hm:ev s m= .map k)(hb:h k=some (Yg c es))(hok:qcb P kt (ev s i)=true)(hf:qdh (ev s i) es 0=some none)
 (hk:Qp P wz ops rest (putD s dst (.tuple [])) (h.set k (Yg (c+1) (es++[.mapE c (ev s i) (ev s v)]))) K):Qp P wz ops (⟨dst, .mapUpdate t m i v,ty,pos,af,none⟩::rest) s h K:=by
 rw[qcY];simp only[eop,qdl,ht,hm,qbY hb,hf];exact⟨hok,hk⟩
end
section
variable {P:Program} {h:AHeap}
theorem qtn{t kt et:TypeId}{z:Value}{k c j:Nat}{es:List AVal}{i v:AVal}{ok:Bool}(ht:P.underlying t=some (.map kt et))(hz:Uy P et=some z)(hb:h k=some (Yg c es))(hok:qcb P kt i=true)(hf:qdh i es 0=some (some (j,v))):
 qba P h t (.map k) i ok=⟨True,qjW ok v true⟩:=by
 simp only[qba,ht,hz,qbY hb,hf,hok]
theorem qrp{t kt et:TypeId}{z:Value}{k c:Nat}{es:List AVal}{i:AVal}{ok:Bool}(ht:P.underlying t=some (.map kt et))(hz:Uy P et=some z)(hb:h k=some (Yg c es))(hok:qcb P kt i=true)(hf:qdh i es 0=some none):
 qba P h t (.map k) i ok=⟨True,qjW ok (absV z) false⟩:=by
 simp only[qba,ht,hz,qbY hb,hf,hok]
theorem qjV(v:AVal)(b:Bool):qjW false v b=v:=rfl
end
theorem qed{P:Program}{wz:World}(ops:List Oper)(n:FrameK)(tl:List Nat)(hall:Qv n ops=true):∀(l:List Oper) (i:Nat) (fi:PMap) (s:Slots) (h:AHeap) (a:Act) (w:World) (K:Slots->AHeap->Prop) (Q:Exit->Act->World->Prop),
 (∀j,j<l.length->l[j]?=ops[i+j]?)->Qv n l=true->Qp P wz ops l s h K->HRel wz fi h w->SRel fi n s a->
 (∀Ps s' h' a' w',fi.le Ps->HRel wz Ps h' w'->SRel Ps n s' a'->K s' h'->wpOps P ops.toArray Q tl a' w')->wpOps P ops.toArray Q (Ju i l.length++tl) a w
 |[],i,fi,s,h,a,w,K,Q,_,_,ha,hr,hs,hq=>hq fi s h a w fi.le_refl hr hs ha
 |o::l,i,fi,s,h,a,w,K,Q,hl,hd,ha,hr,hs,hq=>by
  have ho:ops.toArray[i]?=some o:=by
   have:=hl 0 (by simp);simp only[K8,List.getElem?_cons_zero]at this;simp[<-this]
  simp only[Ky,Qv]at hd;have hrest:∀j,j<l.length->l[j]?=ops[i+1+j]?:=fun j hj=>by
   have:=hl (j+1) (by simp;omega);simp only[KM]at this;rw[this];congr 1;omega
  have ih:=fun fi s h a w Q=>qed (P:=P) (wz:=wz) ops n tl hall l (i+1) fi s h a w K Q hrest hd.2;have run:∀(K':AVal->AHeap->Prop),eop P wz h s o.op K'->(∀x h',K' x h'->Qp P wz ops l (putD s o.dst x) h' K)->o.wp P a w (wpOps P ops.toArray Q (Ju (i+1) l.length++tl)) Q:=fun K' he hk=>
   qhm o he hr hs fun Ps x h' v w' e1 e2 e3 e4=>ih Ps _ h' _ w' Q (hk x h' e4) e2 ((hs.mono e1).putD hd.1 e3) fun χ s' h'' a' w'' f1 f2 f3 f4=>hq χ s' h'' a' w'' (JR e1 f1) f2 f3 f4
  have skip:Qp P wz ops l (putD s o.dst (.tuple [])) h K->wpOps P ops.toArray Q (Ju (i+1) l.length++tl) (a.put o.dst undef) w:=fun hk=>
   ih fi _ h _ w Q hk hr (hs.putD hd.1 (Wl fi)) hq
  simp only[KZ,Kh,List.range'_succ,wpOps,ho];simp only[Qp]at ha;cases hg:o.guard with
  |none=>
   simp only[hg]at ha;have hw:Region.wanted o (yielded ops.toArray a.tmps)=true:=by simp[Region.wanted,hg]
   rw[if_pos hw];exact .inl (run _ ha fun _ _ hk=>hk)
  |some gw=>
   obtain⟨j,want⟩:=gw;simp only[hg]at ha;have hwanted:Region.wanted o (yielded ops.toArray a.tmps)=(yielded ops.toArray a.tmps j==some want):=by simp[Region.wanted,hg]
   cases hj:nthDst ops j with
   |none=>
    simp only[hj]at ha;have hn:(ops.toArray[j]?).bind (·.dst)=none:=by
     rw[<-hj,Yf];simp
    have hw:Region.wanted o (yielded ops.toArray a.tmps)=false:=by
     rw[hwanted];simp only[yielded,hn];rfl
    rw[if_neg (by simp[hw])];exact skip ha
   |some d=>
    simp only[hj]at ha;obtain⟨hk,ha⟩:=ha;have hdn:d<n:=by
     have:∀(l:List Oper) (j d:Nat),Qv n l=true->nthDst l j=some d->d<n:=by
      intro l;induction l with
      |nil=>intro j d _ h;simp[nthDst]at h
      |cons o r ih=>
       intro j d h1 h2;simp only[Ky,Qv]at h1;cases j with
       |zero=>simp only[nthDst]at h2;rw[h2]at h1;simpa using h1.1
       |succ j=>exact ih j d h1.2 h2
     exact this ops j d hall hj
    have hgd:=qdU hs ops j d hj hdn hk want;rw[hwanted,hgd];split at ha
    ·rename_i hp
     obtain⟨h1,h2⟩:=ha;cases hb:QG (s.get d) want with
     |true=>
      simp only[cond_true,hb,Qf]at h2;simp only[if_true];exact .inl (run (fun x h'=>x=(pop P wz h s o.op).val/\h'=h) ((qau hp).2 ⟨h1 hb,rfl,rfl⟩) fun x h' ⟨e1,e2⟩=>by subst e1 e2;exact h2)
     |false=>
      simp only[cond_false,hb,Qf]at h2;simp only[if_false,KX];exact skip h2
    ·obtain⟨h1,h2⟩:=ha
     cases hb:QG (s.get d) want with
     |true=>
      simp only[if_true];exact .inl (run _ (h1 hb) fun _ _ hk=>hk)
     |false=>
      simp only[if_false,KX];exact skip (h2 hb)
section
variable {P:Program} {wz:World} {n:FrameK}
def FactC(P:Program)(wz:World)(n:FrameK)(l:List Oper)(g:AHeap)(S:Slots)(o:Oper)(V:AVal):Prop:=
 ∀(Ps:PMap) (w:World) (a:Act) (g':AHeap) (next:Act->World->Prop) (Q:Exit->Act->World->Prop),Sub g g'->HRel wz Ps g' w->LookOk Ps n l o S a->(∀ψ' v w',Ps.le ψ'->HRel wz ψ' g' w'->(∀t,o.dst=some t->VR ψ' V v)->next (a.put o.dst v) w')->
  if Region.wanted o (yielded l.toArray a.tmps)=true then o.wp P a w next Q else next (a.put o.dst undef) w
theorem FactR.toC{l:List Oper}{g:AHeap}{S:Slots}{o:Oper}{V:AVal}(h:FactR P wz n l g S o V):FactC P wz n l g S o V:=
 fun Ps w a g' next Q h1 h2 h3 h4=>h Ps w a g' next Q h1 h2 h3 fun v hv=>h4 Ps v w Ps.le_refl h2 fun _ _=>hv
theorem FactC.sub{l:List Oper}{g g':AHeap}{S:Slots}{o:Oper}{V:AVal}(h:FactC P wz n l g S o V)(hs:Sub g g'):FactC P wz n l g' S o V:=
 fun Ps w a g₂ next Q h1 h2 h3 h4=>h Ps w a g₂ next Q (Sub.trans hs h1) h2 h3 h4
theorem FactC.slots{l:List Oper}{g:AHeap}{S S':Slots}{o:Oper}{V:AVal}(h:FactC P wz n l g S o V)(hs:∀t∈Qy l o,S'.get t=S.get t):FactC P wz n l g S' o V:=
 fun Ps w a g₂ next Q h1 h2 h3 h4=>h Ps w a g₂ next Q h1 h2 ⟨h3.1,h3.2.1,fun t ht=>by rw[<-hs t ht];exact h3.2.2 t ht⟩ h4
theorem fact_free{l:List Oper}(hall:Qv n l=true){o:Oper}{S:Slots}{g:AHeap}{V:AVal}(ha:∀g',Sub g g'->Qp P wz l [o] S g' fun s' h'=>s'=putD S o.dst V/\h'=g'):FactC P wz n l g S o V:=
 fun Ps w a g' next Q h1 h2 h3 h4=>qts hall (ha g' h1) h2 h3 fun ψ' x h' v w' e1 e2 e3 ⟨e4,e5⟩=>h4 ψ' v w' e1 (e5 ▸ e2) fun t ht=>by
  have:=congrArg (fun s:Slots=>s.get t) e4;simp only[if_true,YD,ht]at this;rw[<-this];exact e3
theorem qbK{l:List Oper}{listed:Array Bool}{i j:Nat}{o:Oper}(ho:l[i]?=some o)(hedges:∀e∈o.after,Region.binds .any e=true->listed.getD e.on false=true)(hw:Region.waitsFor .any l.toArray i j=true):listed.getD j false=true:=by
 obtain⟨oi,g1,e,g2,g3,g4⟩:=Region.waitsFor_spec hw;have g1':l[i]?=some oi:=by simpa using g1
 rw[ho]at g1';obtain rfl:=Option.some.inj g1';rw[<-g4];exact hedges e g2 g3
end
end Go.AM
namespace Go.AM
section
variable {P:Program} {wz:World} {ops rest:List Oper} {s:Slots} {h:AHeap} {K:Slots->AHeap->Prop} {dst:Option Tmp} {ty:TypeId} {pos:String} {af:Array Edge}
theorem vOps_gno{fo:Operand}{args:List Operand}{ts:Array TypeId}{j:Nat}{want:Bool}(hg:gv s ops j= .bool (!want))(hr:Yl P wz ops rest (putD s dst (.tuple [])) h K):
 Yl P wz ops (⟨dst, .call ⟨.value fo,args.toArray,ts⟩,ty,pos,af,some (j,want)⟩::rest) s h K:=by
 refine qgW (V:= .dead) (f:=0) (cap:=[]) (xs:=[]) (by rw[hg];rfl) (fun e=>?_) (fun e=>?_) ?_
 ·rw[hg]at e;cases want<;>cases e
 ·rw[hg]at e;cases want<;>cases e
 ·rw[hg];cases want<;>exact hr
theorem qrW{H0:AHeap}{fo:Operand}{args:List Operand}{ts:Array TypeId}{j:Nat}{want:Bool}(hg:gv s ops j= .bool (!want))(hr:ZP P wz ops H0 rest (putD s dst (.tuple [])) h K):
 ZP P wz ops H0 (⟨dst, .call ⟨.value fo,args.toArray,ts⟩,ty,pos,af,some (j,want)⟩::rest) s h K:=by
 refine qhk (V:= .bool true) (f:=0) (cap:=[]) (xs:=[]) (by rw[hg];rfl) (fun e=>?_) trivial (fun e=>?_) ?_
 ·rw[hg]at e;cases want<;>cases e
 ·rw[hg]at e;cases want<;>cases e
 ·rw[hg];cases want<;>exact hr
end
end Go.AM
namespace Go.AM
open Go.RowKit (Below)
section
variable {P:Program} {wz:World} {n:FrameK} {la:List Nat} {ly:Nat->List AVal×(Nat->AVal)}
end
section
variable {P:Program} {wz:World} {n:FrameK} {la:List Nat} {ly:Nat->List AVal×(Nat->AVal)}
def uni(g e:AHeap):AHeap:=fun k=>match g k with
 |some b=>some b
 |none=>e k
theorem qkY{g e:AHeap}{k:Nat}{b:Blk}(h:g k=some b):uni g e k=some b:=by unfold uni;rw[h]
theorem qhC{g e:AHeap}{k:Nat}(h:g k=none):uni g e k=e k:=by unfold uni;rw[h]
theorem uni_none{g e:AHeap}{k:Nat}(h:uni g e k=none):g k=none/\e k=none:=by
 cases hg:g k with
 |some b=>rw[qkY hg]at h;cases h
 |none=>rw[qhC hg]at h;exact⟨rfl,h⟩
theorem Sub.uni(g e:AHeap):Sub g (uni g e):=fun _ _ h=>qkY h
end
end Go.AM
namespace Go.Proofs.YtgiadjbiimkbiaaGreatDoor
open Go.AM
open Go.Proofs
open Go.Col (Str FaultC okF)
open Go.Tok (TokC)
open Go.Stm
open Go.RowKit (Below)
set_option maxRecDepth 100000
abbrev Asp(w:World):Prop:=Lib.TabIs Tryz.prog w "strings.asciiSpace" .u8 Lib.asciiSpaceTab
theorem Asp.later{w w':World}(h:Asp w)(hb:Go.RowKit.Below w.heap.size w w'):Asp w':=Go.Joins.tab_stays (g:=0) (by kernel_rfl) h hb (KL _)
def asciiB(s:Str):Bool:=s.all fun b=>decide (b.toNat<128)
theorem qmn{s:Str}(h:asciiB s=true):∀(j:Nat) (b:UInt8),(⟨⟨s⟩⟩:ByteArray).data.toList[j]?=some b->b.toNat<128:=fun j b hj=>by
 have:=JB.1 h b (JO hj);simpa using this
theorem VRs_s{fi:PMap}{s:Str}{vs:List Value}(h:VRs fi [.str s] vs):vs=[.string ⟨⟨s⟩⟩]:=by
 simp only[VRs,VR]at h;obtain⟨v,vs',rfl,rfl,rfl⟩:=h;rfl
theorem qfD(wz:World)(ha:Asp wz)(h:AHeap)(s:Str)(hl:s.length<4294967281)(has:asciiB s=true):
 ACall Tryz.prog wz 24 [.str s] h (fun v h'=>∃k,h k=none/\v= .slice (.own k) 0 (Lib.fields s).length (.exact (Lib.fields s).length)/\h'=h.set k ⟨(Lib.fields s).map AVal.str,0⟩):=by
 refine qiI (vals:=[.string ⟨⟨s⟩⟩]) (cs:=(Lib.fields s).map fun x=>Value.string ⟨⟨x⟩⟩) (e:=9) Tryz.func24 rfl rfl (fun fi vs hv=>VRs_s hv) (fun fi=>qld fi _) fun w hb=>?_;exact Tryz.strings_Fields_laid ⟨⟨s⟩⟩ w hl (qmn has) (ha.later hb)
theorem c_trim(wz:World)(h:AHeap)(s cs:Str)(hs:s.length<=9223372036854775807)(h2:2<=cs.length)(hc:cs.length<4294967281)(ha:asciiB cs=true):
 ACall Tryz.prog wz 34 [.str s, .str cs] h (fun v h'=>v= .str (Lib.trimS s cs)/\h'=h):=by
 refine qbn (vals:=[.string ⟨⟨s⟩⟩, .string ⟨⟨cs⟩⟩]) (val:= .string ⟨⟨Lib.trimS s cs⟩⟩) Tryz.func34 rfl rfl (fun fi vs hv=>qmw hv) (fun fi=>rfl) fun w=>?_;exact Any.strings_Trim_laid Tryz.lays160 (by kernel_rfl) ⟨⟨s⟩⟩ ⟨⟨cs⟩⟩ w hs hc (qmn ha)
theorem c_trim1(wz:World)(h:AHeap)(s:Str)(c:UInt8)(hs:s.length<=9223372036854775807)(hc:c.toNat<128):
 ACall Tryz.prog wz 34 [.str s, .str [c]] h (fun v h'=>v= .str (Lib.trimB s c)/\h'=h):=by
 refine qbn (vals:=[.string ⟨⟨s⟩⟩, .string ⟨⟨[c]⟩⟩]) (val:= .string ⟨⟨Lib.trimB s c⟩⟩) Tryz.func34 rfl rfl (fun fi vs hv=>qmw hv) (fun fi=>rfl) fun w=>?_;refine(Tryz.strings_Trim_one ⟨⟨s⟩⟩ c hc w hs).mono fun e w' ⟨e1,e2⟩=>⟨e1,?_⟩
 rcases e2 with rfl|rfl
 ·exact Go.RowKit.Below.refl _ _
 ·exact Go.RowKit.Below.drew (Go.RowKit.Below.refl _ _)
theorem qaa(wz:World)(hm:MaxL wz)(h:AHeap)(s t:Str)(hs:s.length<4294967281):
 ACall Tryz.prog wz 35 [.str s, .str t] h (fun v h'=>v= .bool (Lib.contains s t)/\h'=h):=by
 obtain⟨m,hm⟩:=hm;refine qfe (vals:=[.string ⟨⟨s⟩⟩, .string ⟨⟨t⟩⟩]) (val:= .bool (Lib.contains s t)) Tryz.func35 rfl rfl (fun fi vs hv=>qmw hv) (fun fi=>rfl) fun w hb=>?_;have hlt:2<wz.heap.size:=qgn hm;have hw:w.cell? ⟨2,0,none⟩=some (.int .i64 m):=(hb.cell (p:=⟨2,0,none⟩) hlt).trans hm;refine(Tryz.strings_Contains ⟨⟨s⟩⟩ ⟨⟨t⟩⟩ m w hs hw).mono fun e w' ⟨e1,e2⟩=>⟨e1,?_⟩
 subst e2;exact Go.RowKit.Below.refl _ _
theorem qso(wz:World)(h:AHeap)(s t:Str):ACall Tryz.prog wz 96 [.str s, .str t] h (fun v h'=>v= .tuple [.str (Lib.trimPrefix s t), .bool (Lib.hasPrefix s t)]/\h'=h):=by
 refine qbn (vals:=[.string ⟨⟨s⟩⟩, .string ⟨⟨t⟩⟩]) (val:= .tuple #[.string ⟨⟨Lib.trimPrefix s t⟩⟩, .bool (Lib.hasPrefix s t)]) Tryz.func96 rfl rfl (fun fi vs hv=>qmw hv) (fun fi=>by simp only[VR,VRs];exact⟨_,rfl,_,_,rfl,rfl,_,_,rfl,rfl,rfl⟩) fun w=>?_;refine(Tryz.strings_CutPrefix ⟨⟨s⟩⟩ ⟨⟨t⟩⟩ w).mono fun e w' ⟨e1,e2⟩=>⟨e1,?_⟩
 subst e2;exact Go.RowKit.Below.refl _ _
set_option maxHeartbeats 4000000 in
theorem c_forms(wz:World)(h:AHeap)(s:Str):ACall Tryz.prog wz 70 [.str s] h (fun v h'=>v= .tuple [.str (Qo s).1, .str (Qo s).2]/\h'=h):=by
 refine qbn (vals:=[.string ⟨⟨s⟩⟩]) (val:= .tuple #[.string ⟨⟨(Qo s).1⟩⟩, .string ⟨⟨(Qo s).2⟩⟩]) Tryz.func70 rfl rfl (fun fi vs hv=>VRs_s hv) (fun fi=>by simp only[VR,VRs];exact⟨_,rfl,_,_,rfl,rfl,_,_,rfl,rfl,rfl⟩) fun w=>?_
 go_enter Tryz.func70,Tryz.ntmps70
 go_wp2
 all_goals first|(simp only[cond_false,cond_true,Qo,moreE, *];go_ret2;exact⟨rfl,Go.RowKit.Below.refl _ _⟩)|(exfalso;simp_all;done)
def Zb(t:TokC):List AVal:=[.int .u8 t.kind.toNat, .str t.text, .int .i64 t.line, .int .i64 t.col, .bool t.left]
theorem UI{wz:World}{h:AHeap}{lc:AM.Loc}{o:Nat}{c:Cap}{l:List TokC}(ht:IsL wz h 5 (.slice lc o l.length c) (l.map Zb)){i:Nat}(hi:i<l.length):
 rd wz h lc (o+i*5)= .int .u8 (l.getD i noT).kind.toNat/\rd wz h lc (o+i*5+1)= .str (l.getD i noT).text/\rd wz h lc (o+i*5+2)= .int .i64 (l.getD i noT).line/\rd wz h lc (o+i*5+3)= .int .i64 (l.getD i noT).col/\rd wz h lc (o+i*5+4)= .bool (l.getD i noT).left:=by
 have he:=ht.elem (i:=i) (by rw[Jp];exact hi);rw[getD_map noT hi]at he;simp only[and_true,cellsAt,List.cons.injEq,Zb]at he;exact he
theorem Yp{wz:World}{h:AHeap}{v:AVal}{l:List TokC}(ht:IsL wz h 5 v (l.map Zb))(hn:0<l.length):∃lc o c,v= .slice lc o l.length c:=by
 obtain⟨lc,o,c,e⟩:=ht.open (fun e=>by rw[V5]at e;subst e;simp at hn);rw[Jp]at e;exact⟨lc,o,c,e⟩
theorem Wn{wz:World}{h:AHeap}{v:AVal}{l:List TokC}(ht:IsL wz h 5 v (l.map Zb)):∀H:AHeap,Ze Tryz.prog H 39 v=⟨True, .int .i64 l.length⟩:=by
 intro H;have:=ht.len Tryz.underlying39 H
 rwa [Jp]at this
def Short(l:List TokC):Prop:=∀t∈l,t.text.length<=1000000
theorem Short.at{l:List TokC}(hl:Short l){i:Nat}(hi:i<l.length):(l.getD i noT).text.length<=1000000:=by
 refine hl _ ?_;rw[Ko,JD hi];exact VY hi
abbrev tokV(t:TokC):AVal:= .agg [.int .u8 t.kind.toNat, .str t.text, .int .i64 t.line, .int .i64 t.col, .bool t.left]
theorem Yu(k n:UInt8):decide ((k.toNat:Int)=(n.toNat:Int))=decide (k=n):=by
 by_cases h:k=n
 ·subst h;simp
 ·have:(k.toNat:Int)≠n.toNat:=fun e=>h (UInt8.toNat_inj.1 (by omega))
  simp[h,this]
theorem qiB(wz:World)(hm:MaxL wz)(h:AHeap)(t:TokC)(ht:t.text.length<=1000000):ACall Tryz.prog wz 50 [tokV t] h (fun v h'=>v= .bool (YN t)/\h'=h):=by
 have hk:=Yu t.kind 1;have ek:(((1:UInt8).toNat:Nat):Int)=1:=rfl;rw[ek]at hk;have hc1:([(32:UInt8)].length+t.text.length<9223372036854775808)=True:=eq_true (by simp only[Xo];omega);have hc2:(([(32:UInt8)]++t.text).length+[(32:UInt8)].length<9223372036854775808)=True:=eq_true (by simp only[Zd];omega);refine qP (n:=24) (rs:=[.tmp 2]) Tryz.func50 rfl rfl rfl rfl (V7 rfl) ?_;simp only[qU];refine awp_rseq [1] (by rfl) fun K hK=>?_;refine Ut (by rfl) (by rfl) (by rfl) fun k0q0 hk0q0=>?_;try have hf_0q0:h k0q0=none:=by first|assumption|(simp only[AHeap.set_none]at hk0q0;simp only[hk0q0])
 skip;simp+decide only[qJ,↓qa,tokV];apply hK;clear hK K;refine awp_rseq [2] (by rfl) fun K hK=>?_;simp+decide only[QH,Zn,Ya,XF,YS,Qb,Wi,Xk,XM,Zm,Yw,qan,↓qg,qaG,↓qj,qd qmr,↓qf,↓qc,↓QR,qcT,qY,qZ,qW,↓XP,qd ag9,↓QI,↓QE,hk]
 (refine Wj (V:= .bool (Lib.contains t.text [32])) (f:=_) (cap:=_) (xs:=_) (by first|rfl|(simp+decide only[ZZ,XT,XK,XJ])) (fun hg=>⟨rfl,?_⟩) (fun hg=>qaa wz hm _ _ _ (by omega)) ?_;· (simp+decide only[ZZ,V8,putD,XT,qaH]at hg;simp+decide only[Zo,absS,absV,Qe,XN,evs,JG,hg]<;>try rfl))
 simp+decide only[XI,Zn,Qe,qF,XF,YS,Qb,Wi,Xk,XM,Yw,YL,UB,Yc,qkk,qkj,↓qbl,qY,qZ,qW,↓QE,↓qc,↓QR,qcT,↓XP,qd ag9,↓QI,hc1,hc2]
 (refine Wj (V:= .bool (Lib.contains qsT ([32]++t.text++[32]))) (f:=_) (cap:=_) (xs:=_) (by first|rfl|(simp+decide only[ZZ,XT,XK,XJ])) (fun hg=>⟨rfl,?_⟩) (fun hg=>qaa wz hm _ qsT _ (by decide)) ?_;· (simp+decide only[ZZ,V8,putD,XT,qaH]at hg;simp+decide only[Zo,absS,absV,Qe,XN,evs,JG,hg]<;>try rfl))
 simp+decide only[qJ,XT,qab,qar,qad,↓QE,↓qa];apply hK;clear hK K;refine qV ?_;refine QL h zqC (qA (qC)) ?_;simp+decide only[Xn];all_goals first|rfl|exact⟨rfl,rfl⟩|(simp+decide only[Ka, *];done)|(trace_state;fail)
theorem c_endOf(wz:World)(hm:MaxL wz)(h:AHeap)(t:TokC)(ht:t.text.length<=1000000):ACall Tryz.prog wz 71 [tokV t] h (fun v h'=>v= .str (qbE t)/\h'=h):=by
 have hk:=Yu t.kind 1;have ek:(((1:UInt8).toNat:Nat):Int)=1:=rfl;rw[ek]at hk;have htl:(Lib.trimPrefix t.text ENDw).length<=1000000:=by
  unfold Lib.trimPrefix;split
  ·rw[K7];omega
  ·exact ht
 obtain⟨u,hu⟩:∃u,u=Lib.trimPrefix t.text ENDw:=⟨_,rfl⟩
 rw[<-hu]at htl;have hc1:([(32:UInt8)].length+u.length<9223372036854775808)=True:=eq_true (by simp only[Xo];omega);have hc2:(([(32:UInt8)]++u).length+[(32:UInt8)].length<9223372036854775808)=True:=eq_true (by simp only[Zd];omega);obtain⟨p,hp⟩:∃p,p=Lib.hasPrefix t.text ENDw:=⟨_,rfl⟩
 have he:qbE t=if (!p|| !decide (t.kind=1)||decide (u=[])||Lib.contains u [32]|| !Lib.contains qgO ([32]++u++[32]))=true then[]else u:=by rw[hu,hp];rfl
 refine qP (n:=34) (rs:=[.tmp 2]) Tryz.func71 rfl rfl rfl rfl (V7 rfl) ?_;simp only[qU];refine awp_rseq [1] (by rfl) fun K hK=>?_;refine Ut (by rfl) (by rfl) (by rfl) fun k0q0 hk0q0=>?_;try have hf_0q0:h k0q0=none:=by first|assumption|(simp only[AHeap.set_none]at hk0q0;simp only[hk0q0])
 skip;simp+decide only[qJ,↓qa,tokV];apply hK;clear hK K;refine awp_rseq [1,3,4] (by rfl) fun K hK=>?_;simp+decide only[qR,XD,↓qg,qcT,↓qj,qd ag9];refine QM (V:= .tuple [.str u, .bool p]) (by rfl) (by rfl) (by rw[hu,hp];exact qso wz _ _ ENDw) ?_;simp+decide only[Xh,Xo,Xi,Xy,↓qc,↓Xr,↓qa,Nat.reduceAdd];apply hK;clear hK K;refine qo ?_;refine awp_rseq [3,32] (by rfl) fun K hK=>?_;simp+decide only[QH,Zn,Ya,XF,YS,Qb,Wi,Xk,ZF,Yw,UB,Yc,UR,↓qc,↓qiG,↓QR,qaG,qY,qZ,qW,↓XP,qd qmr,↓QI,↓QE,↓Xc,hk]
 (refine Wj (V:= .bool (Lib.contains u [32])) (f:=_) (cap:=_) (xs:=_) (by first|rfl|(simp+decide only[ZZ,XT,XK,XJ])) (fun hg=>⟨rfl,?_⟩) (fun hg=>qaa wz hm _ _ _ (by omega)) ?_;· (simp+decide only[ZZ,V8,putD,XT,qaH]at hg;simp+decide only[Zo,absS,absV,Qe,XN,evs,JG,hg]<;>try rfl))
 simp+decide only[XI,XU,qF,XF,YS,Qb,Wi,Xk,XM,YL,↓QE,↓qc,↓Xc,qY,qZ,qW,↓QI,hc1,hc2]
 (refine Wj (V:= .bool (Lib.contains qgO ([32]++u++[32]))) (f:=_) (cap:=_) (xs:=_) (by first|rfl|(simp+decide only[ZZ,XT,XK,XJ])) (fun hg=>⟨rfl,?_⟩) (fun hg=>qaa wz hm _ qgO _ (by decide)) ?_;· (simp+decide only[ZZ,V8,putD,XT,qaH]at hg;simp+decide only[Zo,absS,absV,Qe,XN,evs,JG,hg]<;>try rfl))
 simp+decide only[qR,XU,XF,Zf,UB,Yc,qkk,qkj,↓qbl,qY,qZ,qW,↓QE];apply hK;clear hK K;refine qz (b:=_) rfl (fun hb1=>?_) (fun hb1=>?_)
 ·try simp only[qG]at hb1
  rw[he,if_pos (by simpa using hb1)];refine awp_rseq [2] (by rfl) fun K hK=>?_;simp+decide only[qJ,↓qa];apply hK;clear hK K;refine qV ?_;try simp only[Xz]
  refine QL h zqC (qA (qC)) ?_;simp+decide only[Xn];all_goals first|rfl|exact⟨rfl,rfl⟩|(simp+decide only[Ka, *];done)|(trace_state;fail)
 ·try simp only[qG]at hb1
  rw[he,if_neg (by simpa using hb1)];refine qE ?_;change Awp _ _ _ _ _ _ _;refine awp_rseq [2] (by rfl) fun K hK=>?_;simp+decide only[Xh,↓qc,↓qa];apply hK;clear hK K;refine qV ?_;refine QL h zqC (qA (qC)) ?_;simp+decide only[Xn];all_goals first|rfl|exact⟨rfl,rfl⟩|(simp+decide only[Ka, *];done)|(trace_state;fail)
theorem qme(wz:World)(h:AHeap)(v:AVal)(xs:List (List AVal))(hv:IsL wz h 5 v xs):ACall Tryz.prog wz 44 [v] h (fun r h'=>r=ZA v/\h'=h):=by
 have hlen:=hv.len Tryz.underlying39;have h3:=hv.slice3 Tryz.underlying39 UA .i64 .i64 none rfl;refine qP (n:=9) (rs:=[.tmp 2]) Tryz.func44 rfl rfl rfl rfl (V7 rfl) ?_;simp only[qU];refine awp_rseq [0] (by rfl) fun K hK=>?_;simp+decide only[Zo,Ul,Qt,qac,ZO,↓qa];apply hK;clear hK K;refine awp_rseq [2] (by rfl) fun K hK=>?_;simp+decide only[Zo,Ul,Qt,qac,qbV,ZO,Qm,Wz,↓qc,↓Qr,↓qaz,evO,↓qa,hlen,h3];apply hK;clear hK K;refine qV ?_;refine QL _ (Vk _) (qA (qC)) ?_;simp+decide only[Zo,Ul,Qt,qac,Uv];all_goals first|rfl|exact⟨rfl,rfl⟩|(simp+decide only[Ka, *];done)|(trace_state;fail)
theorem qsr(wz:World)(h:AHeap)(v:AVal)(xs:List (List AVal))(hv:IsL wz h 5 v xs):ACall Tryz.prog wz 31 [v] h (fun r h'=>r=ZA v/\h'=h):=by
 have hlen:=hv.len Tryz.underlying45;have h3:=hv.slice3 Tryz.underlying45 UJ .i64 .i64 none rfl;refine qP (n:=9) (rs:=[.tmp 2]) Tryz.func31 rfl rfl rfl rfl (V7 rfl) ?_;simp only[qU];refine awp_rseq [0] (by rfl) fun K hK=>?_;simp+decide only[Zo,Ul,Qt,qac,ZO,↓qa];apply hK;clear hK K;refine awp_rseq [2] (by rfl) fun K hK=>?_;simp+decide only[Zo,Ul,Qt,qac,qbV,ZO,Qm,Wz,↓qc,↓Qr,↓qaz,evO,↓qa,hlen,h3];apply hK;clear hK K;refine qV ?_;refine QL _ (Vk _) (qA (qC)) ?_;simp+decide only[Zo,Ul,Qt,qac,Uv];all_goals first|rfl|exact⟨rfl,rfl⟩|(simp+decide only[Ka, *];done)|(trace_state;fail)
theorem c_clipPh(wz:World)(h:AHeap)(v:AVal)(xs:List (List AVal))(hv:IsL wz h 2 v xs):ACall Tryz.prog wz 78 [v] h (fun r h'=>r=ZA v/\h'=h):=by
 have hlen:=hv.len Tryz.underlying79;have h3:=hv.slice3 Tryz.underlying79 qcH .i64 .i64 none rfl;refine qP (n:=9) (rs:=[.tmp 2]) Tryz.func78 rfl rfl rfl rfl (V7 rfl) ?_;simp only[qU];refine awp_rseq [0] (by rfl) fun K hK=>?_;simp+decide only[Zo,Ul,Qt,qac,ZO,↓qa];apply hK;clear hK K;refine awp_rseq [2] (by rfl) fun K hK=>?_;simp+decide only[Zo,Ul,Qt,qac,qbV,ZO,Qm,Wz,↓qc,↓Qr,↓qaz,evO,↓qa,hlen,h3];apply hK;clear hK K;refine qV ?_;refine QL _ (Vk _) (qA (qC)) ?_;simp+decide only[Zo,Ul,Qt,qac,Uv];all_goals first|rfl|exact⟨rfl,rfl⟩|(simp+decide only[Ka, *];done)|(trace_state;fail)
theorem c_clipBd(wz:World)(h:AHeap)(v:AVal)(xs:List (List AVal))(hv:IsL wz h 3 v xs):ACall Tryz.prog wz 79 [v] h (fun r h'=>r=ZA v/\h'=h):=by
 have hlen:=hv.len Tryz.underlying80;have h3:=hv.slice3 Tryz.underlying80 qbU .i64 .i64 none rfl;refine qP (n:=9) (rs:=[.tmp 2]) Tryz.func79 rfl rfl rfl rfl (V7 rfl) ?_;simp only[qU];refine awp_rseq [0] (by rfl) fun K hK=>?_;simp+decide only[Zo,Ul,Qt,qac,ZO,↓qa];apply hK;clear hK K;refine awp_rseq [2] (by rfl) fun K hK=>?_;simp+decide only[Zo,Ul,Qt,qac,qbV,ZO,Qm,Wz,↓qc,↓Qr,↓qaz,evO,↓qa,hlen,h3];apply hK;clear hK K;refine qV ?_;refine QL _ (Vk _) (qA (qC)) ?_;simp+decide only[Zo,Ul,Qt,qac,Uv];all_goals first|rfl|exact⟨rfl,rfl⟩|(simp+decide only[Ka, *];done)|(trace_state;fail)
theorem qeo{wz:World}{h:AHeap}{k:Nat}{l:List Str}(hk:h k=some ⟨l.map AVal.str,0⟩):IsStrs wz h (.slice (.own k) 0 l.length (.exact l.length)) l:=by
 have:=IsL.own (wz:=wz) (es:=1) (xs:=l.map fun s=>[AVal.str s]) hk (fun x hx=>by obtain⟨y,_,rfl⟩:=JM.1 hx;rfl) (qgi l).symm (by
  rw[qgi];clear hk;induction l with
  |nil=>rfl
  |cons x l ih=>simp only[J8,allLive,Ke,ih];rfl) (.exact l.length) (by rw[Jp];exact KL _)
 rwa [Jp]at this
theorem qgZ{wz:World}{h:AHeap}{k:Nat}{l:List Str}(hk:h k=some ⟨l.map AVal.str,0⟩){i:Nat}(hi:i<l.length):rd wz h (.own k) i= .str (l.getD i []):=by
 rw[YG wz hk,Ko,V6,JD hi];simp[Ko,hi]
theorem qbL{wz:World}{h:AHeap}{v:AVal}{l:List Str}(ht:IsStrs wz h v l):∀H:AHeap,Ze Tryz.prog H 22 v=⟨True, .int .i64 l.length⟩:=by
 intro H;have:=ht.len Tryz.underlying22 H
 rwa [Jp]at this
theorem gb_no(b:Bool):QG (.tuple []) b=false:=rfl
structure FtG where
 i:Nat
 at_:Nat
theorem fits_step{l:List TokC}{ws:List Str}{i a:Nat}(hi:i<ws.length):Ww l (ws.drop i) a=if qgD l a (Lib.trimS (ws.getD i []) qct)=true then Ww l (ws.drop (i+1)) (a+1)else if Lib.trimS (ws.getD i []) qct=ws.getD i []then none else Ww l (ws.drop (i+1)) a:=by
 rw[Ve hi,Ww];simp[Ko,hi]
theorem fields_small{s:Str}:∀w∈Lib.fields s,w.length<=s.length:=by
 have go:∀(s cur:Str),∀w∈Lib.fieldsGo cur s,w.length<=cur.length+s.length:=by
  intro s;induction s with
  |nil=>
   intro cur w hw;unfold Lib.fieldsGo at hw;split at hw
   ·cases hw
   ·rw[V9.1 hw];simp
  |cons b s ih=>
   intro cur w hw;unfold Lib.fieldsGo at hw;split at hw
   ·split at hw
    ·have:=ih [] w hw
     simp only[Xo]at this|-;omega
    ·rcases KY.1 hw with q|q
     ·rw[q];simp
     ·have:=ih [] w q
      simp only[Xo]at this|-;omega
   ·have:=ih _ w hw
    simp only[Zd]at this|-;omega
 intro w hw;have:=go s [] w hw;simpa using this
theorem fields_few(s:Str):(Lib.fields s).length<=s.length+1:=by
 rw[Lib.fields_length];have:∀(b:Bool) (s:Str),Lib.cntF b s<=s.length:=by
  intro b s;induction s generalizing b with
  |nil=>exact KL _
  |cons x s ih=>
   unfold Lib.cntF;have:=ih (Lib.isSp x);rw[KZ];split<;>omega
 have:=this true s;omega
set_option maxHeartbeats 1000000 in
theorem c_fits(wz:World)(ha:Asp wz)(h:AHeap)(bq oq bp op:Nat)(v:AVal)(l:List TokC)(at_:Nat)(form:Str)(hq:∀h,rd wz h (.base bq) oq= .ptr (.base bp) op)(h0:∀h,rd wz h (.base bp) op=v)
 (h1:∀h,rd wz h (.base bp) (op+1)= .int .i64 at_) (hv:∀h,IsL wz h 5 v (l.map Zb)) (hl:l.length<=1000000) (hat:at_<=l.length) (hf:form.length<=1000000) (hfa:asciiB form=true):
 ACall Tryz.prog wz 97 [.str form, .ptr (.base bq) oq] h (fun r h'=>r= .int .i64 (UE l at_ form)/\h'=h):=by
 have hlv:=(hv h).live;have nv:=Wn (hv h);have hfs:=fields_few form;obtain⟨ws,hws⟩:∃ws,ws=Lib.fields form:=⟨_,rfl⟩
 have hsm:∀w∈ws,w.length<=1000000:=fun w hw=>by
  rw[hws]at hw;exact Vg (fields_small w hw) hf
 have hR:UE l at_ form=match Ww l ws at_ with|some j=>j-at_|none=>0:=by rw[hws];rfl
 rw[<-hws]at hfs;have hk1:∀t:TokC,decide ((t.kind.toNat:Int)=1)=decide (t.kind=1):=fun t=>Yu t.kind 1;have hk5:∀t:TokC,decide ((t.kind.toNat:Int)=5)=decide (t.kind=5):=fun t=>Yu t.kind 5;refine qP (n:=82) (rs:=[.tmp 3]) Tryz.func97 rfl rfl rfl rfl (V7 rfl) ?_;simp only[qU];refine awp_rseq [0,1] (by rfl) fun K hK=>?_;simp+decide only[qJ,K8,↓qa];apply hK;clear hK K;refine awp_rseq [0,1,4] (by rfl) fun K hK=>?_;simp+decide only[qJ,XD,K8,Xg,↓qj,qd ag94,↓Qg,↓qg,We,qd ag3,↓qa,hq,h1];apply hK;clear hK K;refine qo ?_;refine awp_rseq [1,4,14,15,16] (by rfl) fun K hK=>?_;simp+decide only[Qw,K8,↓qc];refine qM (by rfl) (by rfl) (qfD wz ha _ form (by omega) hfa) fun x2q1 h2q1 hx2q1=>?_;obtain⟨kw,hkw,rfl,rfl⟩:=hx2q1;rw[<-hws];have lw:=qbL (qeo (wz:=wz) (Vj h kw ⟨ws.map AVal.str,0⟩));simp+decide only[Qw,K8,Qm,↓Qr,Xp Tryz.underlying22,↓qc];apply hK;clear hK K;refine qK ?_;refine QD [1,4,14,15,16] (fun g:FtG=>[(1, .ptr (.base bq) oq),(4, .int .i64 g.at_),(14, .slice (.own kw) 0 ws.length (.exact ws.length)),(15, .int .i64 ws.length),(16, .int .i64 g.i)]) (fun g:FtG=>h.set kw ⟨ws.map AVal.str,0⟩) (fun g:FtG=>g.i<=ws.length/\g.at_<=l.length/\at_<=g.at_/\Ww l ws at_=Ww l (ws.drop g.i) g.at_) (fun g:FtG=>ws.length-g.i) ⟨0,at_⟩ (by rfl) (Vk _) ⟨Js _,hat,KL _,by rw[Vp]⟩ ?_;rintro⟨i,a⟩ ⟨g1,g2,g3,g4⟩;simp only at g1 g2 g3 g4|-
 refine awp_rseq [1,4,14,15,16,17] (by rfl) fun K hK=>?_;simp+decide only[Zp,K8,YT,↓qf];apply hK;clear hK K;refine qo (qz (b:=_) rfl (fun hb1=>?_) (fun hb1=>?_))
 ·try simp only[qG]at hb1
  have hi:i<ws.length:=by omega
  have ew:=qgZ (wz:=wz) (Vj h kw ⟨ws.map AVal.str,0⟩) hi;obtain⟨w,hw⟩:∃w,w=ws.getD i []:=⟨_,rfl⟩
  have hwl:w.length<=1000000:=hsm w (by rw[hw,Ko,JD hi];exact VY hi);have hst:=fits_step (l:=l) (a:=a) hi;rw[<-hw]at ew hst;obtain⟨u,hu⟩:∃u,u=Lib.trimS w qct:=⟨_,rfl⟩
  rw[<-hu]at hst;refine qE ?_;change Awp _ _ _ _ _ _ _;refine qo ?_;refine qK ?_;refine awp_rseq [1,4,6,14,15,16] (by rfl) fun K hK=>?_;simp+decide only[qJ,Xa,QN,Nat.mul_one,↓qI,qh Tryz.underlying22 sz9,↓qj,qd ag9,↓qa,ew];repeat (with_reducible refine zqP ?_)
  apply hK;clear hK K;refine awp_rseq [1,4,6,7,14,15,16] (by rfl) fun K hK=>?_;simp+decide only[Qw,K8,↓qc];refine QM (V:= .str u) (by rfl) (by rfl) (by rw[hu];exact c_trim wz _ w qct (by omega) (by decide) (by decide) (by decide)) ?_;simp+decide only[qJ,K8,↓qa];apply hK;clear hK K;have mcase:(∃lc o c,v= .slice lc o l.length c/\a<l.length/\decide ((a:Int)<(l.length:Int))=true/\rd wz (h.set kw ⟨ws.map AVal.str,0⟩) lc (o+a*5)= .int .u8 (l.getD a noT).kind.toNat/\rd wz (h.set kw ⟨ws.map AVal.str,0⟩) lc (o+a*5+1)= .str (l.getD a noT).text)\/
   (∃(lc:AM.Loc) (o:Nat) (c:Cap),v=v/\¬a<l.length/\decide ((a:Int)<(l.length:Int))=false/\True/\True):=by
   by_cases hlt:a<l.length
   ·obtain⟨lc,o,c,hwe⟩:=Yp (hv h) (by omega)
    have hv2:=hv (h.set kw ⟨ws.map AVal.str,0⟩);rw[hwe]at hv2;obtain⟨e0,e1,-⟩:=UI hv2 hlt;exact .inl ⟨lc,o,c,hwe,hlt,by simpa using hlt,e0,e1⟩
   ·exact .inr ⟨.base 0,0, .exact 0,rfl,hlt,by simpa using hlt,trivial,trivial⟩
  refine awp_rseq [1,4,6,7,8,14,15,16] (by kernel_rfl) fun K hK=>?_;suffices hM:∀b:Bool,b=qgD l a u->K [(1, .ptr (.base bq) oq),(4, .int .i64 a),(6, .str w),(7, .str u),(8, .bool b),(14, .slice (.own kw) 0 ws.length (.exact ws.length)),(15, .int .i64 ws.length),(16, .int .i64 i)] (h.set kw ⟨ws.map AVal.str,0⟩) by
   rcases mcase with⟨lc,o,c,hwe,hkl,hkd,e0,e1⟩|⟨lc,o,c,hwe,hkl,hkd,e0,e1⟩<;>(
    simp+decide only[ZY,Zn,Vw,qO,K8,Qe,qF,Yh,YS,Qb,Wi,Xg,Zz,Xk,ZF,Zm,Yw,qbS,qbR,↓qc,↓qj,qd ag94,↓Qg,↓qg,qcR,qd qcn,↓Qr,Xp Tryz.underlying39,↓qf,↓XP,qY,qZ,qW,↓qdt,cv_nil,cp_nil,↓QR,↓Xc,↓Zv,qpu,agL_il3,qpt,agL_ir3,qh Tryz.underlying39 UA,qcT,qd ag9,↓QI,↓QE,qaG,qd qmr,↓qaA,↓qa,hlv,nv,hq,h0,hwe,hkd,e0,e1,hk1,hk5,gb_no];repeat (with_reducible refine zqP ?_)
    try rw[hwe]at hM
    refine hM _ ?_;unfold qgD;first|rw[if_pos hkl,Bool.and_comm (decide (u=[61]))]|rw[if_neg hkl])
  intro b hb_6;apply hK;clear hK K;refine qK ?_;refine awp_rseq [1,4,6,7,14,15,16,67] (by rfl) fun K hK=>?_;simp+decide only[Xh,K8,↓qc,↓qa];apply hK;clear hK K;refine qz (b:=_) rfl (fun hb2=>?_) (fun hb2=>?_)
  ·skip
   rw[hb2]at hb_6;rw[if_pos hb_6.symm]at hst;have hal:a<l.length:=by
    by_cases hlt:a<l.length
    ·exact hlt
    ·unfold qgD at hb_6
     rw[if_neg hlt]at hb_6;cases hb_6
   have hwa:IntKind.i64.wrap ((a:Int)+1)=((a+1:Nat):Int):=by rw[wrap_i64 (by omega) (by omega)];omega
   have hwi:IntKind.i64.wrap ((i:Int)+1)=((i+1:Nat):Int):=by rw[wrap_i64 (by omega) (by omega)];omega
   refine QK [1,4,14,15,16] (by rfl) ?_;simp+decide only[ZY,qO,K8,ZI,↓qc,↓qf,↓qa,hwa];change Awp _ _ _ _ _ _ _;refine QK [1,4,14,15,16] (by rfl) ?_;simp+decide only[QH,qO,K8,ZI,↓qf,↓qc,hwi];try simp only[QT]
   first
   |exact⟨⟨i+1,a+1⟩,rfl,Vk _,⟨hi,hal,by(simp only;omega),by(simp only;rw[g4,hst])⟩,by(simp only;omega)⟩
   |exact⟨⟨i+1,a⟩,rfl,Vk _,⟨hi,g2,g3,by(simp only;rw[g4,hst])⟩,by(simp only;omega)⟩
  ·skip
   rw[hb2]at hb_6;rw[if_neg (by rw[<-hb_6];decide)]at hst;have hwi:IntKind.i64.wrap ((i:Int)+1)=((i+1:Nat):Int):=by rw[wrap_i64 (by omega) (by omega)];omega
   refine awp_rseq [1,4,14,15,16,71] (by rfl) fun K hK=>?_;simp+decide only[Xh,Yv,K8,qF,Qb,qhd,↓qc,↓qf,↓qa];apply hK;clear hK K;refine qz (b:=_) rfl (fun hb3=>?_) (fun hb3=>?_)
   ·try simp only[qG]at hb3
    rw[if_pos hb3]at hst;refine awp_rseq [3] (by rfl) fun K hK=>?_;simp+decide only[qJ,K8,↓qa];apply hK;clear hK K;refine qV ?_;try simp only[Xz]
    refine QL h zqC (qA (qC)) ?_;simp+decide only[qR,K8,Uv];rw[hR,g4,hst];rfl
   ·try simp only[qG]at hb3
    rw[if_neg hb3]at hst;refine qE ?_;change Awp _ _ _ _ _ _ _;refine QK [1,4,14,15,16] (by rfl) ?_;simp+decide only[QH,qO,K8,ZI,↓qf,↓qc,hwi];try simp only[QT]
    first
    |exact⟨⟨i+1,a+1⟩,rfl,Vk _,⟨hi,hal,by(simp only;omega),by(simp only;rw[g4,hst])⟩,by(simp only;omega)⟩
    |exact⟨⟨i+1,a⟩,rfl,Vk _,⟨hi,g2,g3,by(simp only;rw[g4,hst])⟩,by(simp only;omega)⟩
 ·try simp only[qG]at hb1
  have hi:i=ws.length:=by omega
  have hws:IntKind.i64.wrap ((a:Int)-at_)=((a-at_:Nat):Int):=by rw[wrap_i64 (by omega) (by omega)];omega
  refine QC ?_;change Awp _ _ _ _ _ _ _;refine awp_rseq [3] (by rfl) fun K hK=>?_;simp+decide only[ZY,XD,K8,qF,Xg,UC,↓qc,↓qj,qd ag94,↓Qg,↓qg,We,qd ag3,↓qf,↓qa,hq,h1,hws];apply hK;clear hK K;refine qV ?_;refine QL h zqC (qA (qC)) ?_;simp+decide only[qR,K8,Uv];rw[hR,g4,hi,Vd,Ww]
structure CnG where
 i:Nat
 b:Option Buf
def qgE(ws:List Str):List Str:=(ws.filter fun w=> !decide (w.getD 0 0=91)).map fun w=>Lib.trimS w parB
theorem canS_snoc{ws:List Str}{i:Nat}(hi:i<ws.length):qgE (ws.take (i+1))=if (ws.getD i []).getD 0 0=91 then qgE (ws.take i)else qgE (ws.take i)++[Lib.trimS (ws.getD i []) parB]:=by
 unfold qgE;rw[Vu,JD hi,JL,JK];have e:ws.getD i []=ws[i]:=by simp[Ko,hi]
 rw[e];by_cases h:ws[i].getD 0 0=91
 ·rw[if_pos h]
  have h2:ws[i][0]?.getD 0=91:=h;simp[h2]
 ·rw[if_neg h]
  have h2:¬ws[i][0]?.getD 0=91:=h;simp[h2]
theorem qhi{s:Str}:∀w∈Lib.fields s,w≠[]:=by
 have go:∀(s cur:Str),∀w∈Lib.fieldsGo cur s,w≠[]:=by
  intro s;induction s with
  |nil=>
   intro cur w hw;unfold Lib.fieldsGo at hw;split at hw
   ·cases hw
   ·rename_i hc
    rw[V9.1 hw];intro e;rw[e]at hc;exact hc rfl
  |cons b s ih=>
   intro cur w hw;unfold Lib.fieldsGo at hw;split at hw
   ·split at hw
    ·exact ih [] w hw
    ·rename_i hc
     rcases KY.1 hw with q|q
     ·rw[q];intro e;rw[e]at hc;exact hc rfl
     ·exact ih [] w q
   ·exact ih _ w hw
 exact fun w hw=>go s [] w hw
theorem trimS_le(s cs:Str):(Lib.trimS s cs).length<=s.length:=by
 have hd:∀(p:UInt8->Bool) (s:Str),(s.dropWhile p).length<=s.length:=by
  intro p s;induction s with
  |nil=>exact KL _
  |cons b s ih=>
   rw[List.dropWhile_cons];split
   ·rw[KZ];omega
   ·exact KL _
 unfold Lib.trimS Lib.trimLeftS Lib.trimRightS;have h1:=hd (cs.contains ·) s.reverse;have h2:=hd (cs.contains ·) (List.dropWhile (cs.contains ·) s.reverse).reverse;rw[List.length_reverse]at h1 h2;omega
theorem join_le(l:List Str)(sep:Str)(m:Nat)(h:∀w∈l,w.length<=m):(Lib.join l sep).length<=l.length*(m+sep.length):=by
 unfold Lib.join;induction l with
 |nil=>simp
 |cons x r ih=>
  have hx:=h x (by simp);have ih':=ih fun w hw=>h w (by simp[hw]);cases r with
  |nil=>simp;omega
  |cons y r=>
   rw[List.intercalate_cons_cons];simp only[KZ,Jd,VT]at ih'|-
   omega
theorem str_mem{wz:World}{h:AHeap}{k:Nat}{l:List Str}(hk:h k=some ⟨l.map AVal.str,0⟩)(H:AHeap)(hs:Sub h H){i:Nat}(hi:i<l.length):rd wz H (.own k) i= .str (l.getD i []):=qgZ (hs _ _ hk) hi
theorem qsg(ws:List Str):(qgE ws).length<=ws.length:=by
 unfold qgE;rw[Jp];exact Vh _ _
set_option maxHeartbeats 1000000 in
theorem c_canon(wz:World)(ha:Asp wz)(h:AHeap)(form:Str)(hf:form.length<=1000000)(hfa:asciiB form=true):
 ACall Tryz.prog wz 99 [.str form] h (fun r h'=>r= .str (qbj form)/\h'=h):=by
 have hfs:=fields_few form;obtain⟨ws,hws⟩:∃ws,ws=Lib.fields form:=⟨_,rfl⟩
 have hsm:∀w∈ws,w.length<=1000000/\w≠[]:=fun w hw=>by
  rw[hws]at hw;exact⟨Vg (fields_small w hw) hf,qhi w hw⟩
 have hR:qbj form=if form=[84,72,82,79,85,71,72]then qaP else if form=[84,79,32,80,82,79,67,69,69,68,32,84,79]then TOw else if form=[82,69,67,79,82,68]then[]else Lib.join (qgE ws) [32]:=by rw[hws];rfl
 rw[<-hws]at hfs;have hbl:=qnU 1 none;refine qP (n:=31) (rs:=[.tmp 2]) Tryz.func99 rfl rfl rfl rfl (V7 rfl) ?_;simp only[qU];refine awp_rseq [0] (by rfl) fun K hK=>?_;simp+decide only[qJ,↓qa];apply hK;clear hK K;refine qo ?_;refine awp_rseq [0,6] (by rfl) fun K hK=>?_;simp+decide only[Qw,↓qc];apply hK;clear hK K;refine qK ?_;refine awp_rseq [0,6,7] (by rfl) fun K hK=>?_;simp+decide only[qJ,Yv,Qb,ZF,↓qf,↓qa];apply hK;clear hK K;refine qz (b:=_) rfl (fun hb1=>?_) (fun hb1=>?_)
 ·try simp only[qG]at hb1
  refine awp_rseq [2] (by rfl) fun K hK=>?_;simp+decide only[qJ,↓qa];apply hK;clear hK K;refine qV ?_;try simp only[Xz]
  refine QL h zqC (qA (qC)) ?_;simp+decide only[Xn];rw[hR,if_pos hb1];rfl
 ·try simp only[qG]at hb1
  rw[if_neg hb1]at hR;refine awp_rseq [0,6,9] (by rfl) fun K hK=>?_;simp+decide only[qJ,Yv,Qb,ZF,↓qf,↓qa];apply hK;clear hK K;refine qz (b:=_) rfl (fun hb2=>?_) (fun hb2=>?_)
  ·try simp only[qG]at hb2
   refine awp_rseq [2] (by rfl) fun K hK=>?_;simp+decide only[qJ,↓qa];apply hK;clear hK K;refine qV ?_;try simp only[Xz]
   refine QL h zqC (qA (qC)) ?_;simp+decide only[Xn];rw[hR,if_pos hb2];rfl
  ·try simp only[qG]at hb2
   rw[if_neg hb2]at hR;refine awp_rseq [0,11] (by rfl) fun K hK=>?_;simp+decide only[qJ,Yv,Qb,ZF,↓qf,↓qa];apply hK;clear hK K;refine qz (b:=_) rfl (fun hb3=>?_) (fun hb3=>?_)
   ·try simp only[qG]at hb3
    refine awp_rseq [2] (by rfl) fun K hK=>?_;simp+decide only[qJ,↓qa];apply hK;clear hK K;refine qV ?_;try simp only[Xz]
    refine QL h zqC (qA (qC)) ?_;simp+decide only[Xn];rw[hR,if_pos hb3]
   ·try simp only[qG]at hb3
    rw[if_neg hb3]at hR;refine qE ?_;change Awp _ _ _ _ _ _ _;refine awp_rseq [0,3] (by rfl) fun K hK=>?_;simp+decide only[qJ,↓qa];apply hK;clear hK K;refine qo ?_;refine awp_rseq [3,14,15,16] (by rfl) fun K hK=>?_;simp+decide only[Qw,↓qc];refine qM (by rfl) (by rfl) (qfD wz ha _ form (by omega) hfa) fun x9q1 h9q1 hx9q1=>?_;obtain⟨kw,hkw,rfl,rfl⟩:=hx9q1;rw[<-hws];have lw:=qbL (qeo (wz:=wz) (Vj h kw ⟨ws.map AVal.str,0⟩));simp+decide only[Qw,Qm,↓Qr,Xp Tryz.underlying22,↓qc];apply hK;clear hK K;refine qK ?_;refine QD [3,14,15,16] (fun g:CnG=>[(3,qgF 1 g.b),(14, .slice (.own kw) 0 ws.length (.exact ws.length)),(15, .int .i64 ws.length),(16, .int .i64 g.i)]) (fun g:CnG=>qgG (h.set kw ⟨ws.map AVal.str,0⟩) g.b) (fun g:CnG=>g.i<=ws.length/\qko (h.set kw ⟨ws.map AVal.str,0⟩) 1 g.b/\qkz g.b=((qgE (ws.take g.i)).map fun s=>[AVal.str s]).flatten) (fun g:CnG=>ws.length-g.i) ⟨0,none⟩ (by rfl) (Vk _) ⟨Js _,trivial,by rfl⟩ ?_;rintro⟨i,b⟩ ⟨g1,g2,g3⟩;simp only at g1 g2 g3|-
    have hbl:=qnU 1 b;have hBs:Sub (h.set kw ⟨ws.map AVal.str,0⟩) (qgG (h.set kw ⟨ws.map AVal.str,0⟩) b):=Sub.buf g2;refine awp_rseq [3,14,15,16,17] (by rfl) fun K hK=>?_;simp+decide only[Zp,YT,↓qf];apply hK;clear hK K;refine qo (qz (b:=_) rfl (fun hb4=>?_) (fun hb4=>?_))
    ·try simp only[qG]at hb4
     have hi:i<ws.length:=by omega
     obtain⟨w,hw⟩:∃w,w=ws.getD i []:=⟨_,rfl⟩
     have ew:=str_mem (wz:=wz) (Vj h kw ⟨ws.map AVal.str,0⟩) _ hBs hi;rw[<-hw]at ew;obtain⟨hwl,hwp⟩:=hsm w (by rw[hw,Ko,JD hi];exact VY hi);have hst:=canS_snoc hi;rw[<-hw]at hst;have hcl:=qsg (ws.take i);rw[K6]at hcl;have hwi:IntKind.i64.wrap ((i:Int)+1)=((i+1:Nat):Int):=by rw[wrap_i64 (by omega) (by omega)];omega
     have hw0:((0:Int)<w.length)=True:=eq_true (by have:=List.length_pos_iff.2 hwp;omega);have hu8:∀c:UInt8,decide ((c.toNat:Int)=91)=decide (c=91):=fun c=>Yu c 91;refine qE ?_;change Awp _ _ _ _ _ _ _;refine qo ?_;refine qK ?_;refine awp_rseq [3,5,14,15,16] (by rfl) fun K hK=>?_;simp+decide only[qJ,Xa,Vw,Nat.mul_one,↓qI,qh Tryz.underlying22 sz9,↓qj,qd ag9,↓qa,ew];repeat (with_reducible refine zqP ?_)
     apply hK;clear hK K;refine awp_rseq [3,5,14,15,16,22] (by rfl) fun K hK=>?_;simp+decide only[QH,qO,UR,↓qc,↓qmo,qjg,qhe Tryz.underlying9,↓qf,hw0,hu8];apply hK;clear hK K;refine qz (b:=_) rfl (fun hb5=>?_) (fun hb5=>?_)
     ·try simp only[qG]at hb5
      rw[if_neg (by simpa using hb5)]at hst;obtain⟨u,hu⟩:∃u,u=Lib.trimS w parB:=⟨_,rfl⟩
      rw[<-hu]at hst;refine QK [3,14,15,16] (by rfl) ?_;simp+decide only[Qw,↓qc];refine QM (V:= .str u) (by rfl) (by rfl) (by rw[hu];exact c_trim wz _ w parB (by omega) (by decide) (by decide) (by decide)) ?_;refine Qd (cs:=[.str u]) (by kernel_rfl) fun k13q3 hk13q3=>?_;try have hf_13q3:h k13q3=none:=by first|assumption|(simp only[AHeap.set_none]at hk13q3;simp only[hk13q3])
      refine qcy (es:=1) (zs:=(qgE (ws.take i)).map fun s=>[AVal.str s]) (xs:=[[.str u]]) (H0:=h.set kw ⟨ws.map AVal.str,0⟩) (b:=b) (by rfl) (by rfl) Tryz.underlying22 Tryz.underlying22 (fun k e=>by cases e) sz9 by9 ze9 (by rfl) (by decide) (by rfl) g2 g3 (fun y hy=>by obtain⟨d,_,rfl⟩:=JM.1 hy;rfl) (Vl hk13q3) (by rfl) (IsL.own (Vj _ _ _) (by simp) (by rfl) (by rfl) (.exact 1) (KL _)) (by rfl) (by simp;omega) (by simp;omega) fun b' h5 o1 o2 o3=>?_;simp+decide only[qJ,↓qa];change Awp _ _ _ _ _ _ _;refine QK [3,14,15,16] (by rfl) ?_;simp+decide only[QH,ZE,↓qf,↓qc,hwi];try simp only[QT]
      first
      |exact⟨⟨i+1,b'⟩,rfl,o3,⟨hi,o1,by rw[o2];simp only;rw[hst,JK];rfl⟩,by(simp only;omega)⟩
      |exact⟨⟨i+1,b⟩,rfl,Vk _,⟨hi,g2,by rw[g3];simp only;rw[hst]⟩,by(simp only;omega)⟩
     ·try simp only[qG]at hb5
      rw[if_pos (by simpa using hb5)]at hst;refine qE ?_;change Awp _ _ _ _ _ _ _;refine QK [3,14,15,16] (by rfl) ?_;simp+decide only[QH,ZE,↓qf,↓qc,hwi];try simp only[QT]
      first
      |exact⟨⟨i+1,b'⟩,rfl,o3,⟨hi,o1,by rw[o2];simp only;rw[hst,JK];rfl⟩,by(simp only;omega)⟩
      |exact⟨⟨i+1,b⟩,rfl,Vk _,⟨hi,g2,by rw[g3];simp only;rw[hst]⟩,by(simp only;omega)⟩
    ·try simp only[qG]at hb4
     have hi:i=ws.length:=by omega
     have htk:ws.take i=ws:=by rw[hi,Jq]
     rw[htk]at g3;have hwide:∀x∈(qgE ws).map fun s=>[AVal.str s],x.length=1:=fun y hy=>by obtain⟨d,_,rfl⟩:=JM.1 hy;rfl
     have hcl:=qsg ws;have hjl:(Lib.join (qgE ws) [32]).length<=140737488355328:=by
      refine Vg (join_le (qgE ws) [32] 1000000 fun w hw=>?_) ?_
      ·unfold qgE at hw
       obtain⟨x,hx,rfl⟩:=JM.1 hw;exact Vg (trimS_le _ _) (hsm x (JN.1 hx).1).1
      ·have:(qgE ws).length*(1000000+1)<=1000001*1000001:=Nat.mul_le_mul (by omega) (by omega)
       simpa using Vg this (by decide)
     refine QC ?_;change Awp _ _ _ _ _ _ _;refine awp_rseq [2] (by rfl) fun K hK=>?_;simp+decide only[Qw,↓qc];refine QM (V:= .str (Lib.join (qgE ws) [32])) (by rfl) (by rfl) (qjD wz _ _ (qgE ws) [32] (IsL.buf g2 (by decide) g3 hwide (Vk _)) (by omega) hjl) ?_;simp+decide only[qJ,↓qa];apply hK;clear hK K;refine qV ?_;refine Qk (qA (qC)) ?_;simp+decide only[Xn];exact⟨h,(Vl hkw).trans hBs,by rw[hR],rfl⟩
end Go.Proofs.YtgiadjbiimkbiaaGreatDoor
namespace Go.Proofs.YtgiadjbiimkbiaaGreatDoor
open Go.AM
open Go.Proofs
open Go.Col (Str FaultC okF)
open Go.Tok (TokC)
open Go.Stm
open Go.RowKit
open Go.Shelf
set_option maxRecDepth 100000
attribute [local go_sem] Oper.semAt_some
theorem qtd{s:Str}(h:(59:UInt8)∉s):qaW s=[s]:=by
 have go:∀(s acc:Str),(59:UInt8)∉s->Xd 59 acc s=[acc++s]:=by
  intro s;induction s with
  |nil=>intro acc _;simp[Xd]
  |cons c s ih=>
   intro acc hc;have h1:c≠59:=fun e=>hc (by rw[e];simp);rw[Xd,if_neg h1,ih _ fun hm=>hc (Jh _ hm)];simp
 simpa[qaW]using go s [] h
theorem semis_app{a:Str}(b:Str)(h:(59:UInt8)∉a):qaW (a++59::b)=a::qaW b:=by
 have go:∀(a acc:Str),(59:UInt8)∉a->Xd 59 acc (a++59::b)=(acc++a)::Xd 59 [] b:=by
  intro a;induction a with
  |nil=>intro acc _;simp[Xd]
  |cons c s ih=>
   intro acc hc;have h1:c≠59:=fun e=>hc (by rw[e];simp);rw[Kh,Xd,if_neg h1,ih _ fun hm=>hc (Jh _ hm)];simp
 simpa[qaW]using go a [] h
theorem idxB(b:UInt8):∀s:Str,(Lib.indexByte s b= -1/\b∉s)\/∃i:Nat,Lib.indexByte s b=i/\i<s.length/\s=s.take i++b::s.drop (i+1)/\b∉s.take i
 |[]=> .inl ⟨rfl,by simp⟩
 |c::s=>by
  unfold Lib.indexByte;by_cases h:c=b
  ·subst h
   exact .inr ⟨0,by simp,by simp,by simp,by simp⟩
  ·have hb:(c==b)=false:=by simpa using h
   rw[hb];simp only[if_false,KX];rcases idxB b s with⟨e,hn⟩|⟨i,e,hi,hs,hn⟩
   ·left
    rw[e];refine⟨by simp,?_⟩;intro hm;rcases KY.1 hm with q|q
    ·exact h q.symm
    ·exact hn q
   ·right
    refine⟨i+1,?_,by simpa using hi,?_,?_⟩
    ·rw[e]
     have:((i:Int)== -1)=false:=by simp
     rw[this];simp
    ·rw[Ki,VU,Kh,<-hs]
    ·rw[Ki]
     intro hm;rcases KY.1 hm with q|q
     ·exact h q.symm
     ·exact hn q
theorem k_SplitSeq(s:ByteArray)(w:World):Calls Tryz.prog 98 #[.string s, .string ⟨#[59]⟩] w fun e w'=>
 e= .returned (.func (.func 122) #[] #[.pointer (some ⟨w.heap.size+1,0,none⟩), .pointer (some ⟨w.heap.size,0,none⟩), .pointer (some ⟨w.heap.size+2,0,none⟩)])/\
  w'=((w.alloc (.cells #[.string s] 9)).alloc (.cells #[.string ⟨#[59]⟩] 9)).alloc (.cells #[.int .i64 0] 3):=by
 go_enter Tryz.func98,Tryz.ntmps98
 go_wp2
 go_ret
 exact⟨rfl,rfl⟩
def lenAt(W:World)(b:Nat):Nat:=match W.cell? ⟨b,0,none⟩with
 |some (.string s)=>s.size
 |_=>0
theorem split_in(l bS bP bV:Nat)(J Jx:Str->World->Prop)(fit:Str->Bool)
 (hc:∀r W,J r W->W.cell? ⟨bS,0,none⟩=some (.string ⟨⟨r⟩⟩)/\W.frozen? ⟨bS,0,none⟩=false/\W.cell? ⟨bP,0,none⟩=some (.string ⟨#[59]⟩)/\W.cell? ⟨bV,0,none⟩=some (.int .i64 0))
 (hs:∀r r' W,J r W->J r' (W.setCell ⟨bS,0,none⟩ (.string ⟨⟨r'⟩⟩)))
 (s:Str) (hl:s.length<=1000000)
 (hY:∀r p W,J r W->p∈qaW s->YieldAt Fence.wide 0 Tryz.prog l #[.string ⟨⟨p⟩⟩] W fun e W'=>(fit p=false/\e= .returned (.bool true)/\J r W')\/(fit p=true/\e= .returned (.bool false)/\Jx p W'))
 (W:World) (h0:J s W):
 CallsIn Fence.wide 0 Tryz.prog 122 #[.func (.yield l) #[] #[], .pointer (some ⟨bP,0,none⟩), .pointer (some ⟨bS,0,none⟩), .pointer (some ⟨bV,0,none⟩)] W fun e W'=>
  (∃v,e= .returned v)/\((∃r,J r W'/\(qaW s).find? fit=none)\/(∃p,Jx p W'/\(qaW s).find? fit=some p)):=by
 refine callsIn_of_wp Tryz.func122 rfl trivial ?_ rfl;simp only[Xo,Xv,Tryz.ntmps122,List.size_toArray,Nat.reduceAdd,Nat.reduceSub,Array.replicate_succ,Array.replicate_zero,List.push_toArray,List.append_toArray];obtain⟨c1,c2,c3,c4⟩:=hc _ _ h0
 gi_wp2
 gi_loopw [] (fun wr=>∃r,J r wr/\r.length<=1000000/\(∀p∈qaW r,p∈qaW s)/\(qaW s).find? fit=(qaW r).find? fit) (fun wr=>lenAt wr bS)
 case atStart=>exact⟨s,h0,hl,fun _ h=>h,rfl⟩
 case round=>
  obtain⟨r,hJ,hrl,hm,hf⟩:=hrel;obtain⟨d1,d2,d3,d4⟩:=hc _ _ hJ;have hix:=Tryz.strings_Index_one ⟨⟨r⟩⟩ 59;rcases idxB 59 r with⟨e,hn⟩|⟨i,e,hi,hs2,hn⟩
  ·have hsr:=qtd hn
   obtain⟨fn,tmps,assign,body,hy,hR⟩:=hY r r wr hJ (hm r (by rw[hsr];simp))
   gi_wp2_with (refine⟨trivial,rfl,?_⟩;gi_at_call 64;refine(callsIn_wide.2 (hix _)).mono ?_;rintro e' w' ⟨rfl,rfl⟩;rw[show Lib.indexByte (⟨⟨r⟩⟩:ByteArray).data.toList 59= -1 from e])
   refine⟨rfl,hR.mono ?_⟩;rintro e3 W3 (⟨hp,rfl,hJ3⟩|⟨hp,rfl,hx3⟩)
   ·gi_wp2
    go_end0
    exact⟨⟨_,rfl⟩, .inl ⟨r,hJ3,by rw[hf,hsr];simp[hp]⟩⟩
   ·gi_wp2
    go_end0
    exact⟨⟨_,rfl⟩, .inr ⟨r,hx3,by rw[hf,hsr];simp[hp]⟩⟩
  ·have hsr:=semis_app (r.drop (i+1)) hn
   rw[<-hs2]at hsr;clear hs2;obtain⟨fn,tmps,assign,body,hy,hR⟩:=hY r (r.take i) wr hJ (hm _ (by rw[hsr];simp));have hex:(⟨⟨r⟩⟩:ByteArray).extract 0 i=⟨⟨r.take i⟩⟩:=by rw[extract_mk];simp
   rw[<-hex]at hy;clear hex;have b1:¬(i:Int)<0:=by omega
   have b2:wrap64 ((i:Int)+0)=i:=by unfold wrap64;omega
   have b3:(0:Int)<=i:=by omega
   have b4:(i:Int)<=((⟨⟨r⟩⟩:ByteArray).size:Nat):=by show(i:Int)<=(r.length:Nat);omega
   gi_wp2_with (refine⟨trivial,rfl,?_⟩;gi_at_call 64;refine(callsIn_wide.2 (hix _)).mono ?_;rintro e' w' ⟨rfl,rfl⟩;rw[show Lib.indexByte (⟨⟨r⟩⟩:ByteArray).data.toList 59=(i:Int)from e])
   refine⟨rfl,hR.mono ?_⟩;rintro e3 W3 (⟨hp,rfl,hJ3⟩|⟨hp,rfl,hx3⟩)
   ·obtain⟨f1,f2,f3,f4⟩:=hc _ _ hJ3
    have b5:wrap64 ((i:Int)+1)=i+1:=by unfold wrap64;omega
    have b6:(0:Int)<=i+1:=by omega
    have b7:(i:Int)+1<=((⟨⟨r⟩⟩:ByteArray).size:Nat):=by show(i:Int)+1<=(r.length:Nat);omega
    gi_wp2
    have hex:(⟨⟨r⟩⟩:ByteArray).extract (i+1) r.length=⟨⟨r.drop (i+1)⟩⟩:=by
     rw[extract_mk,J3 (by simp)]
    have hle:∀(A:World) (x:Str),J x A->lenAt A bS=x.length:=fun A x hA=>by
     unfold lenAt;rw[(hc _ _ hA).1];rfl
    have hJ4:=hs r (r.drop (i+1)) W3 hJ3;rw[hex,hle _ _ hJ4,hle _ _ hJ];refine⟨⟨_,hJ4,by rw[K7];omega,fun p hp'=>hm p (by rw[hsr];exact Jh _ hp'),by rw[hf,hsr];simp[hp]⟩,by rw[K7];omega⟩
   ·gi_wp2
    refine bodyPost_ret (results_none rfl _ _ _) rfl ?_;exact⟨⟨_,rfl⟩, .inr ⟨r.take i,hx3,by rw[hf,hsr];simp[hp]⟩⟩
end Go.Proofs.YtgiadjbiimkbiaaGreatDoor
