/-
  Texts of this proof, joined: AmR, AmS, AmT, AmU, AmV, AmW, AmX, CoA, BmA, AmY, AmZ, Ty, Shelf, CoB, TkA, SmA, SmB, SmC, BmC, BmD, BmE, BmF, BmH, BmI, SnA, SmD, SnB, SnC, SnD.
  Conditions: none.
-/
import Derived.Test.YtgiadjbiimkbiaaDoorEa
import Derived.StillTail
import Derived.Lib.UnsafeStr
import Derived.Lib.Builder
import Derived.Laws.Externs
import Derived.Lib.ItoaNum
import Derived.Scope
import Derived.Test.YtgiadjbiimkbiaaDoorRows
import Derived.KernelRfl
import Derived.Shelf.Strings.Builder1
import Derived.Shelf.Strings.Builder2
import Derived.Shelf.Strings.OnBuilder
import Derived.Shelf.Strings.Trim
import Derived.Shelf.Small.Utf8
import Derived.Shelf.Small.Strs
import Derived.Shelf.Small.Wraps
import Derived.Shelf.Strings.BuilderF
import Derived.Shelf.Strings.BuilderK
import Derived.Shelf.Strings.Builder2Cap
import Derived.Shelf.Strings.Search1
import Derived.Shelf.Strings.Search2
import Derived.Shelf.Strings.Search3
import Derived.Shelf.LaysM
import Derived.Shelf.Strings.Shaped
import Derived.Shelf.Strings.Prefix
import Derived.Shelf.Strings.Fields
import Derived.Shelf.Strings.SplitShaped
import Derived.Shelf.Unicode.Latin
import Derived.Shelf.Unicode.Decode
import Derived.Shelf.Strings.Runes
import Derived.Shelf.Strings.AsciiSet
import Derived.Shelf.Unicode.DecodeSlow
import Derived.Shelf.Unicode.DecodeAny
import Derived.Shelf.Unicode.Is16White
import Derived.Shelf.Unicode.IsSpaceAny
import Derived.Shelf.Unicode.DecodeLast
import Derived.Shelf.Unicode.Is16WhiteD
import Derived.Shelf.Unicode.IsSpaceAnyD
import Derived.Shelf.Strings.FieldsAny
import Derived.Shelf.Strings.FieldsFuncAny
import Derived.Shelf.Unicode.Is16Any
import Derived.Shelf.Unicode.Is32Any
import Derived.Shelf.Unicode.ExclAny
import Derived.Shelf.Strings.FieldsFuncGrows
import Derived.Shelf.Strings.BuilderCap
import Derived.Shelf.Slices.Turned
import Derived.Test.YtgiadjbiimkbiaaDoorProg
import Derived.Lib.SmallJoins
import Derived.Lib.AppendIntMem
import Derived.Lib.SpaceUEq
import Derived.Lib.SplitLaws
import Derived.Lib.Fields
import Derived.Lib.SlTrimSet
import Derived.Lib.Join
import Derived.Lib.IndexMore
import Derived.Lib.Strings
import Derived.Defers
import Derived.Shelf.Strings.SlTrimAscii
import Derived.WalkKit
import Derived.ProofKit
set_option linter.unusedSimpArgs false
set_option linter.unnecessarySimpa false
set_option linter.unusedVariables false
open List renaming length_nil->JD,append_nil->JE,length_append->Jb,length_singleton->JF,getD->Ko,range->KP,all_eq_true->Jz,mem_range->JA,getElem?_eq_getElem->JB,mem_map->JI,length_drop->K5,getElem?_drop->Kq,mem_filter->JJ,mem_of_getElem?->JK,length_pos_of_mem->JL,nil_append->Jd,mem_cons_of_mem->Jf,map_cons->Ke,mem_cons_self->Je,toList_toArray->JQ,mem_append->JS,length_map->Jn,take_length->Jo,replicate->JW,take_of_length_le->JX,getElem?_eq_none->Kr,getElem?_append->Ja,mem_cons->KW,contains_iff_mem->J6,any_eq_true->J7,getElem?_eq_some_iff->Jw,drop_length->J8,drop_eq_getElem_cons->J9,mem_append_left->Va,length_filter_le->Vd,map_nil->Vh,eq_nil_of_length_eq_zero->Kg,drop_zero->Vk,flatten_cons->Vm,length_cons->KX,mem_of_mem_drop->Vo,mem_of_mem_take->Vp,getElem_mem->Vr,filterMap_cons->Vt,getElem?_cons_succ->KM,map_eq_nil_iff->Vu,getElem?_map->Vv,range'->Js,cons_append->Kh,contains_cons->VC,contains_nil->VD,set_cons_zero->VF,set_cons_succ->Kj,getD_cons_zero->VG,getD_cons_succ->Kn
open Nat renaming add_comm->JG,eq_or_lt_of_le->Jy,lt_or_ge->KT,le_refl->KL,strongRecOn->Jt,zero_le->Jq,zero_add->Jp,lt_of_not_le->J2,le_of_not_lt->Kt,le_trans->Vb,pos_of_ne_zero->Vi,zero_mul->K7,mul_div_cancel->Vj,succ_mul->Vn,mul_le_mul_right->K8,add_zero->K6,le_max_left->Vw,le_max_right->Vx,le_of_ble_eq_true->Vy
open Bool renaming and_eq_true->Ky,or_eq_true->JH,not_eq_true'->Jh,and_true->J4,and_assoc->Vl,false_eq_true->KV,and_eq_false_iff->VH,or_eq_false_iff->VI,not_eq_false'->VJ,not_not->VK,not_false->VL,not_true->VM,and_false->VN,true_and->VO,false_and->VP,or_true->VQ,or_false->VS,true_or->VT,false_or->VU,true_eq->VV,false_eq->VW
open Array renaming getD->JC,getD_eq_getD_getElem?->Ku,getElem?_setIfInBounds_ne->Kv,replicate->Ju,toList_append->JR,range->Jc,length_toList->KN
open Go.AM.Slots renaming get_keep->JM,put->Vz,get->VA,keep->VB
open Go.AM.PMap renaming le_trans->JN,upd->JV,upd_same->JY
open Go.AM.Awp renaming of0->JO,keep->JP
open Option renaming isSome_some->JU,map_eq_some_iff->Kc,isNone_iff_eq_none->J5
open Go.AM.AVal renaming live->JZ,cells->VE
open Go.AM.Same renaming refl->J3
open Go.AM.AHeap renaming set_ne->Ve,set_same->Vf
open Go.AM.Sub renaming refl->Vg
open Int renaming natCast_nonneg->Vq,toNat_natCast->VX
namespace Go.AM
open Go.RowKit (Below)
section
variable {P:Program} {w0:World} {n:FrameK} {h:AHeap}
theorem qhe{l:List Oper}(tl:List Oper)(hall:Xt n l=true){s:Slots}{K:Slots->AHeap->Prop}:∀(rest pre:List Oper) (A:List AVal),l=pre++rest++tl->A.length=pre.length->Yt P w0 l rest (Xz s l A pre.length) h K->
 ∃B:List AVal,B.length=rest.length/\(∀i o,pre.length<=i->i<pre.length+rest.length->l[i]?=some o->StepOk P w0 n h l o (Xz s l (A++B) i) ((A++B).getD i .dead))/\K (Xz s l (A++B) (pre.length+rest.length)) h
 |[],pre,A,hl,hA,hv=>⟨[],rfl,fun i o hi hi' ho=>by
   simp only[JD]at hi';omega,by
   rw[JE];exact hv⟩
 |o::rest,pre,A,hl,hA,hv=>by
  have hat:l[pre.length]?=some o:=by rw[hl];simp
  have go:∀V,StepOk P w0 n h l o (Xz s l A pre.length) V->Yt P w0 l rest (putD (Xz s l A pre.length) o.dst V) h K->
   ∃B:List AVal,B.length=(o::rest).length/\(∀i o,pre.length<=i->i<pre.length+(rest.length+1)->l[i]?=some o->StepOk P w0 n h l o (Xz s l (A++B) i) ((A++B).getD i .dead))/\K (Xz s l (A++B) (pre.length+(rest.length+1))) h:=by
   intro V hst hv';have e:Xz s l (A++[V]) (pre++[o]).length=putD (Xz s l A pre.length) o.dst V:=by
    rw[Jb,JF,Xz,hat];simp only;rw[WT s l A [V] _ (by omega)];congr 1;simp[Ko,<-hA]
   obtain⟨B,h1,h2,h3⟩:=qhe tl hall rest (pre++[o]) (A++[V]) (by simp[hl]) (by simp[hA]) (by rw[e];exact hv');refine⟨V::B,by simp[h1],fun i o' hi hi' ho'=>?_,by simpa[Nat.add_assoc,JG 1]using h3⟩;rcases Jy hi with e'|e'
   ·subst e'
    rw[hat]at ho';obtain rfl:=Option.some.inj ho';rw[WT s l A (V::B) _ (by omega)];have:(A++V::B).getD pre.length .dead=V:=by simp[Ko,<-hA]
    rw[this];exact hst
   ·have:=h2 i o' (by simp;omega) (by simp at hi'|-;omega) ho'
    simpa using this
  simp only[Yt]at hv;cases hg:o.guard with
  |none=>
   simp only[hg]at hv;obtain⟨V,h1,h2⟩:=hv;exact go V (.plain hg h1) h2
  |some gw=>
   obtain⟨j,want⟩:=gw;simp only[hg]at hv;cases hj:QB l j with
   |none=>
    simp only[hj]at hv;exact go _ (.never hg hj) hv
   |some d=>
    simp only[hj]at hv;obtain⟨hk,V,h1,h2⟩:=hv;exact go _ (.guarded hall hg hj hk h1) h2
def qfK(l:List Oper)(k:Nat):Bool:=
 (KP k).all fun i=>match l[i]? with
  |none=>true
  |some oi=>(oi.after.all fun e=> !Region.binds .any e||decide (e.on<i)) &&
   (KP k).all fun j=>match l[j]? with
    |none=>true
    |some oj=>(match oj.dst with
      |none=>true
      |some t=>(decide (i=j)||decide (oi.dst≠some t)) &&
        (!(Xv l oi).contains t||(decide (j<i) && Region.waitsFor .any l.toArray i j)||(decide (i<j) && Region.waitsFor .any l.toArray j i)))
theorem qaE{l:List Oper}{k:Nat}(hB:qfK l k=true){i:Nat}{oi:Oper}(hik:i<k)(hi:l[i]?=some oi):
 (∀e∈oi.after,Region.binds .any e=true->e.on<i)/\∀j oj t,j<k->l[j]?=some oj->oj.dst=some t->(oi.dst=some t->i=j)/\
  (t∈Xv l oi->(j<i/\Region.waitsFor .any l.toArray i j=true)\/(i<j/\Region.waitsFor .any l.toArray j i=true)):=by
 unfold qfK at hB;rw[Jz]at hB;have h1:=hB i (by rw[JA];exact hik);simp only[hi,Ky]at h1;obtain⟨ha,hb⟩:=h1;refine⟨fun e he hbd=>?_,fun j oj t hjk hj hd=>?_⟩
 ·rw[Array.all_eq_true']at ha
  have:=ha e he;simpa[hbd]using this
 ·rw[Jz]at hb
  have h2:=hb j (by rw[JA];exact hjk);simp only[hj,hd,Ky,JH,decide_eq_true_eq,Jh,List.contains_eq_mem]at h2;refine⟨fun he=>?_,fun ht=>?_⟩
  ·rcases h2.1 with e|e
   ·exact e
   ·exact absurd he e
  ·rcases h2.2 with(e|e)|e
   ·exact absurd ht (by simpa using e)
   ·exact .inl e
   ·exact .inr e
theorem qbw{l:List Oper}{k:Nat}(hB:qfK l k=true)(hk:k<=l.length)(s:Slots)(Vs:List AVal){j:Nat}{oj:Oper}{t:Nat}(hjk:j<k)(hj:l[j]?=some oj)(hd:oj.dst=some t):∀i,j<i->i<=k->(Xz s l Vs i).get t=Vs.getD j .dead
 |0,h,_=>by omega
 |i+1,h,hi=>by
  obtain⟨o,ho⟩:∃o,l[i]?=some o:=⟨_,JB (show i<l.length by omega)⟩
  simp only[Xz,ho,YG];by_cases e:o.dst=some t
  ·have:i=j:=(((qaE hB (by omega) ho).2 j oj t hjk hj hd).1 e)
   subst this;rw[if_pos e]
  ·rw[if_neg e]
   refine qbw hB hk s Vs hjk hj hd i ?_ (by omega);rcases Jy (Nat.le_of_lt_succ h)with e'|e'
   ·subst e'
    rw[hj]at ho;obtain rfl:=Option.some.inj ho;exact absurd hd e
   ·exact e'
def qfn(m k:Nat):Array Bool:=((KP m).map fun j=>decide (j<k)).toArray
structure AnyInvK(l:List Oper)(k:Nat)(Vs:List AVal)(s:Slots)(Ps:PMap)(n:FrameK)(listed:Array Bool)(a:Act):Prop where
 head:HeadInv .any l.toArray k listed
 tsize:a.tmps.size=n
 defers:a.defers=n.dfr
 done:∀t j oj,j<k->l[j]?=some oj->oj.dst=some t->listed.getD j false=true->VR Ps (Vs.getD j .dead) (a.tmps.getD t undef)
 still:∀t,(∀j oj,j<k->l[j]?=some oj->oj.dst=some t->listed.getD j false=false)->VR Ps (s.get t) (a.tmps.getD t undef)
theorem any_okK{l:List Oper}{k:Nat}(hk:k<l.length)(hall:Xt n l=true)(hB:qfK l k=true)(hsink:Region.sinkB .any l.toArray k=true)(hchain:Region.chainB .any l.toArray k=true)
 (hseq:Region.seqB .any l.toArray (l.length-k) k (qfn l.length k)=true) {s:Slots} {Vs:List AVal} (hst:∀i o,i<k->l[i]?=some o->StepOk P w0 n h l o (Xz s l Vs i) (Vs.getD i .dead)) {fi:PMap} {Q:Exit->Act->World->Prop}
 (hq:∀Ps a w,fi.le Ps->HRel w0 Ps h w->SRel Ps n (Xz s l Vs k) a->wpList P l.toArray Q (l.drop k) a w):∀(fuel:Nat) (listed:Array Bool) (a:Act) (w:World) (Ps:PMap),fi.le Ps->HRel w0 Ps h w->AnyInvK l k Vs s Ps n listed a->
 (listed.toList.filter (!·)).length=fuel->wpAny P .any l.toArray Q fuel listed a w:=by
 have hsize:k<l.toArray.size:=by simpa using hk
 have fin:∀(fuel:Nat) (listed:Array Bool) (a:Act) (w:World) (Ps:PMap),fi.le Ps->HRel w0 Ps h w->AnyInvK l k Vs s Ps n listed a->(∀j,j<k->listed.getD j false=true)->(listed.toList.filter (!·)).length=fuel->wpAny P .any l.toArray Q fuel listed a w:=by
  intro fuel listed a w Ps hle hr inv hdone hc;have hls:listed.size=l.length:=by have:=inv.head.size;simpa using this
  have hl:listed=qfn l.length k:=by
   apply Array.ext
   ·rw[hls];simp[qfn]
   ·intro i h1 h2
    have hi:i<l.length:=by omega
    have e2:(qfn l.length k)[i]=decide (i<k):=by simp[qfn]
    rw[e2];by_cases hik:i<k
    ·have:=hdone i hik
     simp[JC,h1]at this;simp[this,hik]
    ·have:=inv.head.tail i (by omega) (by simpa using hi)
     simp[JC,h1]at this;simp[this,hik]
  have hfuel:fuel=(l.drop k).length:=by
   rw[<-hc,hl];have:∀m k,k<=m->(((KP m).map fun j=>decide (j<k)).filter (!·)).length=m-k:=by
    intro m k;induction m with
    |zero=>intro _;simp
    |succ m ih=>
     intro hkm;rw[List.range_succ,List.map_append,List.filter_append,Jb];rcases KT m k with c|c
     ·have e1:m+1=k:=by omega
      have e2:((KP m).map fun j=>decide (j<k)).filter (!·)=[]:=by
       rw[List.filter_eq_nil_iff];intro b hb;simp only[JI,JA]at hb;obtain⟨j,hj,rfl⟩:=hb;have:j<k:=by omega
       simp[this]
      rw[e2];simp[c];omega
     ·rw[ih c]
      have:¬m<k:=by omega
      simp[this];omega
   simp only[qfn,K5];exact this l.length k (by omega)
  rw[hfuel,hl];refine wpAny_of_seq (l.drop k) k _ a w (fun j=>by simp[Kq]) (by rw[K5];exact hseq) ?_;refine hq Ps a w hle hr ⟨inv.tsize,inv.defers,fun t=>?_⟩;by_cases hw:∃(j:Nat) (oj:Oper),j<k/\l[j]?=some oj/\oj.dst=some t
  ·obtain⟨j,oj,hjk,hj,hd⟩:=hw
   rw[qbw hB (by omega) s Vs hjk hj hd k hjk (KL _)];exact inv.done t j oj hjk hj hd (hdone j hjk)
  ·rw[Yw s Vs k fun j oj hjk hj hd=>hw ⟨j,oj,hjk,hj,hd⟩]
   exact inv.still t fun j oj hjk hj hd=>absurd ⟨j,oj,hjk,hj,hd⟩ hw
 intro fuel;induction fuel with
 |zero=>
  intro listed a w Ps hle hr inv hc;exfalso;have hls:listed.size=l.length:=by have:=inv.head.size;simpa using this
  have h1:=inv.head.tail k (KL _) hsize;have hkz:k<listed.size:=by omega
  have h2:listed.toList[k]?=some false:=by
   simp[JC,hkz]at h1;simp[hkz,h1]
  have hmem:false∈listed.toList.filter (!·):=by simp[JJ,JK h2]
  have:=JL hmem;omega
 |succ fuel ih=>
  intro listed a w Ps hle hr inv hc;have hls:listed.size=l.length:=by have:=inv.head.size;simpa using this
  by_cases hdone:∀j,j<k->listed.getD j false=true
  ·exact fin _ listed a w Ps hle hr inv hdone hc
  ·obtain⟨u,hu,hul⟩:∃u,u<k/\listed.getD u true=false:=by
    refine Classical.byContradiction fun hne=>hdone fun j hj=>?_;have hjs:j<listed.size:=by omega
    cases e:listed.getD j false with
    |true=>rfl
    |false=>
     exfalso;refine hne ⟨j,hj,?_⟩;simp[JC,hjs]at e|-;exact e
   refine⟨fun hrd=>?_,fun i hi=>?_⟩
   ·exfalso
    have:∀i,i<k->listed.getD i false=true:=by
     intro i;induction i using Jt with
     |ind i ihh=>
      intro hik;cases hl:listed.getD i false with
      |true=>rfl
      |false=>
       exfalso;obtain⟨o,ho⟩:∃o,l[i]?=some o:=⟨_,JB (by omega)⟩
       have:i∈Region.ready .any l.toArray listed:=by
        rw[mem_ready];refine⟨?_,o,by simpa using ho,fun e he hb=>?_⟩
        ·have hi':i<listed.size:=by omega
         simp[JC,hi']at hl|-;exact hl
        ·have hlt:=(qaE hB hik ho).1 e he hb
         exact ihh e.on hlt (by omega)
       rw[hrd]at this;cases this
    exact hdone this
   ·have hik:i<k:=by
     rcases KT i k with c|c
     ·exact c
     ·exact absurd hi (tail_waits hsink hchain hsize inv.head _ u rfl hu hul i c)
    obtain⟨h1,o,ho,hedges⟩:=mem_ready.1 hi;have hol:l[i]?=some o:=by simpa using ho
    have hisz:i<listed.size:=by omega
    have hif:listed.getD i false=false:=by simp[JC,hisz]at h1|-;exact h1
    have spec:=qaE hB hik hol;have hs:SRel Ps n ((Xz s l Vs i).keep (Xv l o)) a:=by
     refine⟨inv.tsize,inv.defers,fun t=>?_⟩;rw[JM];by_cases ht:(Xv l o).contains t=true
     ·rw[if_pos ht]
      have ht':t∈Xv l o:=by simpa using ht
      by_cases hw:∃(j:Nat) (oj:Oper),j<k/\l[j]?=some oj/\oj.dst=some t
      ·obtain⟨j,oj,hjk,hj,hd⟩:=hw
       rcases(spec.2 j oj t hjk hj hd).2 ht' with⟨c1,c2⟩|⟨c1,c2⟩
       ·rw[qbw hB (by omega) s Vs hjk hj hd i c1 (by omega)]
        refine inv.done t j oj hjk hj hd ?_;obtain⟨oi,g1,e,g2,g3,g4⟩:=Region.waitsFor_spec c2;rw[ho]at g1;obtain rfl:=Option.some.inj g1;rw[<-g4];exact hedges e g2 g3
       ·rw[Yw s Vs i fun j' oj' hj'' hj' hd'=>by
         have:=((qaE hB (by omega) hj').2 j oj t hjk hj hd).1 hd';omega]
        refine inv.still t fun j' oj' hjk' hj' hd'=>?_;have e:=((qaE hB hjk' hj').2 j oj t hjk hj hd).1 hd';subst e;cases hl:listed.getD j' false with
        |false=>rfl
        |true=>
         exfalso;obtain⟨oi,g1,e,g2,g3,g4⟩:=Region.waitsFor_spec c2;have:=inv.head.closed j' oi g1 hl e g2 g3;rw[g4,hif]at this;cases this
      ·rw[Yw s Vs i fun j oj hji hj hd=>hw ⟨j,oj,by omega,hj,hd⟩]
       exact inv.still t fun j oj hjk hj hd=>absurd ⟨j,oj,hjk,hj,hd⟩ hw
     ·rw[if_neg ht]
      trivial
    have step:=hst i o hik hol Ps w a (wpAny P .any l.toArray Q fuel (listed.setIfInBounds i true)) Q hr hs fun ψ' v w' hle' hr' hv=>by
     have hdn:∀d,o.dst=some d->d<n:=fun d hd=>qcI l i d hall (by rw[Yn,hol];exact hd);refine ih _ _ _ ψ' (JN hle hle') hr' ⟨inv.head.set hi hik,?_,?_,fun t j oj hjk hj hd hl=>?_,fun t hun=>?_⟩ ?_
     ·cases hod:o.dst with
      |none=>simpa[Act.put]using inv.tsize
      |some d=>simpa[Act.put]using inv.tsize
     ·cases hod:o.dst with
      |none=>simpa[Act.put]using inv.defers
      |some d=>simpa[Act.put]using inv.defers
     ·by_cases e:j=i
      ·subst e
       rw[hol]at hj;obtain rfl:=Option.some.inj hj;have hlt:t<a.tmps.size:=by rw[inv.tsize];exact hdn t hd
       have:(a.put o.dst v).tmps.getD t undef=v:=by rw[hd];simp[Act.put,hlt]
       rw[this];exact hv
      ·rw[Zi e]at hl
       have hne:o.dst≠some t:=fun hod=>e (((spec.2 j oj t hjk hj hd).1 hod).symm);have:(a.put o.dst v).tmps.getD t undef=a.tmps.getD t undef:=by
        cases hod:o.dst with
        |none=>rfl
        |some d=>
         have hdt:d≠t:=fun e=>hne (by rw[hod,e]);simp[Act.put,Ku,Kv hdt]
       rw[this];exact WB hle' _ _ (inv.done t j oj hjk hj hd hl)
     ·have hne:o.dst≠some t:=fun hod=>by
       have:=hun i o hik hol hod;rw[set_self hisz]at this;cases this
      have:(a.put o.dst v).tmps.getD t undef=a.tmps.getD t undef:=by
       cases hod:o.dst with
       |none=>rfl
       |some d=>
        have hdt:d≠t:=fun e=>hne (by rw[hod,e]);simp[Act.put,Ku,Kv hdt]
      rw[this];refine WB hle' _ _ (inv.still t fun j oj hjk hj hd=>?_);have e:j≠i:=fun e=>by subst e;rw[hol]at hj;obtain rfl:=Option.some.inj hj;exact hne hd
      have:=hun j oj hjk hj hd
      rwa [Zi e]at this
     ·have h2:listed.toList[i]?=some false:=by
       simp[JC,hisz]at h1;simp[hisz,h1]
      have:=qbY listed.toList i h2;have e:(listed.setIfInBounds i true).toList=listed.toList.set i true:=by simp
      rw[e];omega
    simp only[wpOp,ho];split
    ·rename_i hw
     rw[if_pos hw]at step;exact .inl step
    ·rename_i hw
     rw[if_neg hw]at step;exact step
def qrn(l:List Oper)(k:Nat):Bool:=
 decide (k<l.length) && qfK l k && Region.sinkB .any l.toArray k && Region.chainB .any l.toArray k && Region.seqB .any l.toArray (l.length-k) k (qfn l.length k)
theorem qfg{Q:Exit->Slots->AHeap->Prop}{s:Slots}{id:Nat}{l:List Oper}(k:Nat)(hm:P.follows .mixedOrders=true)(hB:qrn l k=true)(hd:Xt n l=true)
 (hc:Yt P w0 l (l.take k) s h (fun s' h'=>Xp P w0 l (l.drop k) s' h' (fun s'' h''=>Q .normal s'' h''))):Awp P w0 n (.region id l.toArray true) Q s h:=by
 refine JO ?_;intro fi a w hr hs;simp only[qrn,Ky,decide_eq_true_eq]at hB;obtain⟨⟨⟨⟨hk,h1⟩,h2⟩,h3⟩,h4⟩:=hB;obtain⟨Vs,g1,g2,g3⟩:=qhe (P:=P) (w0:=w0) (n:=n) (h:=h) (l.drop k) hd (s:=s) (l.take k) [] [] (by simp) rfl hc;have htl:(l.take k).length=k:=by simp;omega
 simp only[Jd,JD,Jq,true_implies,Jp,htl]at g1 g2 g3;refine wp_region_any hm ?_;have dtake:∀(l:List Oper) (m:Nat),Xt n l=true->Xt n (l.drop m)=true:=by
  intro l;induction l with
  |nil=>intro m _;simp[Xt]
  |cons o r ih=>
   intro m h;cases m with
   |zero=>simpa using h
   |succ m=>
    simp only[Xt,Ky]at h;simpa using ih m h.2
 refine any_okK (fi:=fi) hk hd h1 h2 h3 h4 (s:=s) (Vs:=Vs) (fun i o hi ho=>g2 i o hi ho) (fun Ps a' w' hle hr' hs'=>?_) _ _ _ _ fi fi.le_refl hr.drew ?_ ?_
 ·have:=qgn (P:=P) (w0:=w0) l n hd (l.drop k) k Ps _ h a' w' _ (fun e a' w'=>∃χ s' h',fi.le χ/\HRel w0 χ h' w'/\SRel χ n s' a'/\Q e s' h') (fun j=>by simp[Kq]) (dtake l k hd) g3 hr' hs'
   (fun χ s' h' a' w' e1 e2 e3 e4=>⟨χ,s',h',JN hle e1,e2,e3,e4⟩)
  rw[wpOps_eq_wpList (l.drop k) k (fun j=>by simp[Kq])]at this;exact this
 ·have hf:∀j,(Ju l.toArray.size false).getD j false=false:=fun j=>by
   simp[JC]
  exact⟨⟨by simp,fun j oj _ hl=>(by rw[getD_replicate_false]at hl;cases hl),fun t _ ht=>getD_in (by simpa using ht) (getD_replicate_false _ _)⟩,hs.size,hs.defers,fun t j oj _ _ _ hl=>(by rw[hf]at hl;cases hl),fun t _=>hs.val t⟩
 ·simp
theorem qfe{Q:Exit->Slots->AHeap->Prop}{s:Slots}{id:Nat}{l:List Oper}{y:Code}(k:Nat)(L:List Nat)(hm:P.follows .mixedOrders=true)(hB:qrn l k=true)(hd:Xt n l=true)
 (hc:∀K:Slots->AHeap->Prop,(∀s h,Awp P w0 n y Q s h->K s h)->Yt P w0 l (l.take k) s h (fun s' h'=>Xp P w0 l (l.drop k) s' h' (fun s'' h''=>K (s''.keep L) h''))):Awp P w0 n (.seq (.region id l.toArray true) y) Q s h:=
 Qp (qfg k hm hB hd (qcR (hc (fun s h=>Awp P w0 n y Q s h) (fun _ _ hk=>hk)) fun _ _ ha=>awp_rseq.aOps_mono (fun _ _ hk=>JP L hk) ha))
end
section
variable {P:Program} {w0:World} {n:FrameK} {h:AHeap}
theorem qlm(a:Act)(d:Option Tmp)(v:Value){t:Nat}(hne:d≠some t):(a.put d v).tmps.getD t undef=a.tmps.getD t undef:=by
 cases d with
 |none=>rfl
 |some d=>
  have hdt:d≠t:=fun e=>hne (by rw[e]);simp[Act.put,Ku,Kv hdt]
variable {ops rest:List Oper} {dst:Option Tmp} {ty:TypeId} {pos:String} {af:Array Edge}
end
theorem qfp{s:Slots}{L:List Nat}{op:Op}(hL:∀t∈qmW op,t∈L):∀x∈op.operands.toList,ev (s.keep L) x=ev s x:=by
 intro x hx;refine Yh fun t ht=>hL t ?_;subst ht;exact List.mem_filterMap.2 ⟨_,hx,rfl⟩
theorem qhH{s s':Slots}:∀{xs:List Operand},(∀x∈xs,ev s' x=ev s x)->evs s' xs=evs s xs
 |[],_=>rfl
 |x::xs,h=>by
  have:=qhH (s:=s) (s':=s') (xs:=xs) fun y hy=>h y (Jf _ hy);simp only[evs,Ke]at this|-
  rw[h x Je,this]
theorem qkC{s s':Slots}:∀{xs:List (Nat×Operand)},(∀p∈xs,ev s' p.2=ev s p.2)->evP s' xs=evP s xs
 |[],_=>rfl
 |x::xs,h=>by
  have:=qkC (s:=s) (s':=s') (xs:=xs) fun y hy=>h y (Jf _ hy);simp only[evP,Ke]at this|-
  rw[h x Je,this]
theorem qkD{s s':Slots}{x:Option Operand}(h:∀y,x=some y->ev s' y=ev s y):evO s' x=evO s x:=by
 cases x with
 |none=>rfl
 |some y=>simp only[evO,h y rfl]
theorem qeG{P:Program}{w0:World}{h:AHeap}{s s':Slots}(op:Op)(E:∀x∈op.operands.toList,ev s' x=ev s x):pop P w0 h s' op=pop P w0 h s op:=by
 cases op with
 |move x=>simp only[pop,E x (by simp[Op.operands])]
 |assign x=>simp only[pop,E x (by simp[Op.operands])]
 |pick c a b=>simp only[pop,E c (by simp[Op.operands]),E a (by simp[Op.operands]),E b (by simp[Op.operands])]
 |binOp o t x y u=>simp only[pop,E x (by simp[Op.operands]),E y (by simp[Op.operands])]
 |unOp o t x=>simp only[pop,E x (by simp[Op.operands])]
 |convert a b x=>simp only[pop,E x (by simp[Op.operands])]
 |load t x=>simp only[pop,E x (by simp[Op.operands])]
 |field t x f=>simp only[pop,E x (by simp[Op.operands])]
 |fieldAddr t x f=>simp only[pop,E x (by simp[Op.operands])]
 |index t x i=>simp only[pop,E x (by simp[Op.operands]),E i (by simp[Op.operands])]
 |indexAddr t x i=>simp only[pop,E x (by simp[Op.operands]),E i (by simp[Op.operands])]
 |slice t x lo hi mx=>
  simp only[pop,E x (by simp[Op.operands])];rw[qkD (s:=s) (s':=s') (x:=lo) fun y hy=>E y (by subst hy;simp[Op.operands]),qkD (s:=s) (s':=s') (x:=hi) fun y hy=>E y (by subst hy;simp[Op.operands]),qkD (s:=s) (s':=s') (x:=mx) fun y hy=>E y (by subst hy;simp[Op.operands])]
 |extract x i=>simp only[pop,E x (by simp[Op.operands])]
 |nilCheck x=>simp only[pop,E x (by simp[Op.operands])]
 |build t ps=>
  simp only[pop];rw[qkC (s:=s) (s':=s') fun p hp=>E p.2 (by simp only[Op.operands,JQ,JI];exact⟨p,hp,rfl⟩)]
 |makeFunc fn first cap=>
  simp only[pop];rw[qhH (s:=s) (s':=s') (xs:=cap.toList) fun x hx=>E x (by simp only[Op.operands,JR,JS];exact .inr hx)]
 |makeInterface t x=>simp only[pop,E x (by simp[Op.operands])]
 |lookup t x i ok=>simp only[pop,E x (by simp[Op.operands]),E i (by simp[Op.operands])]
 |call c=>
  obtain⟨callee,args,ts⟩:=c;simp only[pop];cases callee with
  |builtin b=>
   simp only;rw[qhH (s:=s) (s':=s') (xs:=args.toList) fun x hx=>E x (by simp only[Op.operands,Call.operands,JR,JS];exact .inr hx)]
  |_=>rfl
 |_=>rfl
theorem qeN{P:Program}{w0:World}{h:AHeap}{s s':Slots}(op:Op){K:AVal->AHeap->Prop}(E:∀x∈op.operands.toList,ev s' x=ev s x):eop P w0 h s' op K=eop P w0 h s op K:=by
 have hp:=qeG (P:=P) (w0:=w0) (h:=h) (s:=s) (s':=s') op E;cases op with
 |box e x=>simp only[eop,E x (by simp[Op.operands])]
 |buildSlice t n ps=>
  simp only[eop];rw[qkC (s:=s) (s':=s') fun p hp=>E p.2 (by simp only[Op.operands,JQ,JI];exact⟨p,hp,rfl⟩)]
 |store t x v=>simp only[eop,E x (by simp[Op.operands]),E v (by simp[Op.operands])]
 |makeSlice t n c=>simp only[eop,E n (by simp[Op.operands]),E c (by simp[Op.operands])]
 |mapUpdate t m i v=>simp only[eop,E m (by simp[Op.operands]),E i (by simp[Op.operands]),E v (by simp[Op.operands])]
 |insert t m i v=>simp only[eop,E m (by simp[Op.operands]),E i (by simp[Op.operands]),E v (by simp[Op.operands])]
 |range t x=>simp only[eop,E x (by simp[Op.operands])]
 |next it b=>simp only[eop,E it (by simp[Op.operands])]
 |entry it=>simp only[eop,E it (by simp[Op.operands])]
 |convert a b x=>simp only[eop,E x (by simp[Op.operands]),hp]
 |call c=>
  obtain⟨callee,args,ts⟩:=c;have hx:evs s' args.toList=evs s args.toList:=qhH fun x hx=>E x (by simp only[Op.operands,Call.operands,JR,JS];exact .inr hx);cases callee with
  |value f=>
   simp only[eop,hx];rw[E f (by simp[Op.operands,Call.operands])]
  |builtin b=>cases b<;>simp only[eop,hx]<;>rw[hp]
  |invoke r m=>simp only[eop,hp]
 |alloc e=>rfl
 |_=>simp only[eop,hp]
mutual
def AVal.okIn(f:Nat->Bool):AVal->Prop
 | .ptr (.own k) _=>f k=true
 | .slice (.own k) _ len c=>match c with
   | .exact c=>(c≠0\/len≠0->f k=true)
   | .grow _=>f k=true
 | .func _ cs=>qfN f cs
 | .map k=>f k=true
 | .iface _ x=>x.okIn f
 | .agg cs=>qfN f cs
 | .tuple cs=>qfN f cs
 |_=>True
def qfN(f:Nat->Bool):List AVal->Prop
 |[]=>True
 |x::xs=>x.okIn f/\qfN f xs
end
mutual
theorem UG{fi:PMap}:∀(x:AVal) (v:Value),VR fi x v->x.okIn (fun k=>(fi k).isSome)
 | .dead,_,_=>by simp only[AVal.okIn]
 | .bool _,_,_=>by simp only[AVal.okIn]
 | .int _ _,_,_=>by simp only[AVal.okIn]
 | .str _,_,_=>by simp only[AVal.okIn]
 | .nilPtr,_,_=>by simp only[AVal.okIn]
 | .nilSlice,_,_=>by simp only[AVal.okIn]
 | .nilFunc,_,_=>by simp only[AVal.okIn]
 | .nilIface,_,_=>by simp only[AVal.okIn]
 | .nilMap,_,_=>by simp only[AVal.okIn]
 | .mapO _,_,_=>by simp only[AVal.okIn]
 | .mapE _ _ _,_,_=>by simp only[AVal.okIn]
 | .iterO _ _ _ _,_,_=>by simp only[AVal.okIn]
 | .map k,v,h=>by
   simp only[VR]at h;obtain⟨p,hp,_⟩:=h;simp only[AVal.okIn,hp,JU]
 | .ptr (.base b) _,_,_=>by simp only[AVal.okIn]
 | .ptr (.own k) o,v,h=>by
   simp only[VR,XU,Kc]at h;obtain⟨a,⟨p,hp,_⟩,_⟩:=h;simp only[AVal.okIn,hp,JU]
 | .slice (.base b) _ _ _,_,_=>by simp only[AVal.okIn]
 | .slice (.own k) o len (.exact c),v,h=>by
   simp only[VR,XU,Kc]at h;obtain⟨a,_,h2⟩:=h;simp only[AVal.okIn];intro hc;obtain⟨p,hp,_⟩:=h2 hc;simp only[hp,JU]
 | .slice (.own k) o len (.grow es),v,h=>by
   simp only[VR]at h;obtain⟨k',p,c,a,e,hp,_⟩:=h;cases e;simp only[AVal.okIn,hp,JU]
 | .func f cs,v,h=>by
   simp only[VR]at h;obtain⟨vs,_,h2⟩:=h;simp only[AVal.okIn];exact qaF cs vs h2
 | .iface t x,v,h=>by
   simp only[VR]at h;obtain⟨y,_,h2⟩:=h;simp only[AVal.okIn];exact UG x y h2
 | .agg cs,v,h=>by
   simp only[VR]at h;obtain⟨vs,_,h2⟩:=h;simp only[AVal.okIn];exact qaF cs vs h2
 | .tuple cs,v,h=>by
   simp only[VR]at h;obtain⟨vs,_,h2⟩:=h;simp only[AVal.okIn];exact qaF cs vs h2
theorem qaF{fi:PMap}:∀(xs:List AVal) (vs:List Value),VRs fi xs vs->qfN (fun k=>(fi k).isSome) xs
 |[],_,_=>by simp only[qfN]
 |x::xs,vs,h=>by
  simp only[VRs]at h;obtain⟨v,vs',_,h1,h2⟩:=h;simp only[qfN];exact⟨UG x v h1,qaF xs vs' h2⟩
end
mutual
theorem qev{fi Ps:PMap}{f:Nat->Bool}(hf:∀k,f k=true->fi k=Ps k):∀(x:AVal) (v:Value),x.okIn f->VR fi x v->VR Ps x v
 | .dead,_,_,h=>h
 | .bool _,_,_,h=>h
 | .int _ _,_,_,h=>h
 | .str _,_,_,h=>h
 | .nilPtr,_,_,h=>h
 | .nilSlice,_,_,h=>h
 | .nilFunc,_,_,h=>h
 | .nilIface,_,_,h=>h
 | .nilMap,_,_,h=>h
 | .mapO _,_,_,h=>h
 | .mapE _ _ _,_,_,h=>h
 | .iterO _ _ _ _,_,_,h=>h
 | .map k,v,ok,h=>by
   simp only[AVal.okIn]at ok;simp only[VR,<-hf k ok]at h|-
   exact h
 | .ptr (.base b) _,_,_,h=>h
 | .ptr (.own k) o,v,ok,h=>by
   simp only[AVal.okIn]at ok;simp only[VR,XU,<-hf k ok]at h|-
   exact h
 | .slice (.base b) _ _ (.exact c),_,_,h=>h
 | .slice (.base b) _ _ (.grow c),v,_,h=>by
   simp only[VR]at h;obtain⟨k,p,c,a,e,_⟩:=h;cases e
 | .slice (.own k) o len (.exact c),v,ok,h=>by
   simp only[AVal.okIn]at ok;simp only[VR,XU]at h|-
   obtain⟨a,h1,h2⟩:=h;exact⟨a,h1,fun hc=>by rw[<-hf k (ok hc)];exact h2 hc⟩
 | .slice (.own k) o len (.grow es),v,ok,h=>by
   simp only[AVal.okIn]at ok;simp only[VR]at h|-
   obtain⟨k',p,c,a,e,hp,rest⟩:=h;cases e;exact⟨k,p,c,a,rfl,by rw[<-hf k ok];exact hp,rest⟩
 | .func f cs,v,ok,h=>by
   simp only[AVal.okIn]at ok;simp only[VR]at h|-
   obtain⟨vs,h1,h2⟩:=h;exact⟨vs,h1,qdo hf cs vs ok h2⟩
 | .iface t x,v,ok,h=>by
   simp only[AVal.okIn]at ok;simp only[VR]at h|-
   obtain⟨y,h1,h2⟩:=h;exact⟨y,h1,qev hf x y ok h2⟩
 | .agg cs,v,ok,h=>by
   simp only[AVal.okIn]at ok;simp only[VR]at h|-
   obtain⟨vs,h1,h2⟩:=h;exact⟨vs,h1,qdo hf cs vs ok h2⟩
 | .tuple cs,v,ok,h=>by
   simp only[AVal.okIn]at ok;simp only[VR]at h|-
   obtain⟨vs,h1,h2⟩:=h;exact⟨vs,h1,qdo hf cs vs ok h2⟩
theorem qdo{fi Ps:PMap}{f:Nat->Bool}(hf:∀k,f k=true->fi k=Ps k):∀(xs:List AVal) (vs:List Value),qfN f xs->VRs fi xs vs->VRs Ps xs vs
 |[],_,_,h=>h
 |x::xs,vs,ok,h=>by
  simp only[qfN]at ok;simp only[VRs]at h|-
  obtain⟨v,vs',h0,h1,h2⟩:=h;exact⟨v,vs',h0,qev hf x v ok.1 h1,qdo hf xs vs' ok.2 h2⟩
end
theorem ERel.limit{fi Ps ψ':PMap}(hk:∀k,(fi k).isSome=true->Ps k=ψ' k):∀{cs:List AVal} {l l':List MapEntry},ERel fi cs l->ERel Ps cs l'->ERel ψ' cs l'
 |[],_,_,_,h=>h
 |c::cs,l,l',h,h'=>by
  simp only[ERel]at h h'|-
  obtain⟨e,r,rfl,h1,h2⟩:=h;obtain⟨e',r',rfl,h1',h2'⟩:=h';refine⟨e',r',rfl,?_,ERel.limit hk h2 h2'⟩;cases c<;>first|exact h1.elim|exact⟨h1'.1,qev (f:=fun k=>(fi k).isSome) hk _ _ (UG _ _ h1.2.1) h1'.2.1,qev (f:=fun k=>(fi k).isSome) hk _ _ (UG _ _ h1.2.2) h1'.2.2⟩
theorem ORel.limit{fi Ps ψ':PMap}(hk:∀k,(fi k).isSome=true->Ps k=ψ' k){cs:List AVal}{o o':Obj}(h:ORel fi cs o)(h':ORel Ps cs o'):ORel ψ' cs o':=by
 unfold ORel at h'|-
 split at h'
 ·rename_i c es entries clock
  refine⟨h'.1,?_⟩;cases o with
  |map en cl=>exact ERel.limit hk (show cl=c/\ERel fi es en.toList from h).2 h'.2
  |_=>exact(show False from h).elim
 ·rename_i m since seen last r s1 s2 s3
  obtain⟨⟨p,g1,g2⟩,g3⟩:=h';refine⟨⟨p,?_,g2⟩,g3⟩;cases o with
  |mapIter mm b1 b2 b3=>
   cases mm with
   |none=>exact(show False from h).elim
   |some mm=>
    obtain⟨⟨q,q1,_⟩,_⟩:=(show(∃p,fi m=some p/\mm=p.blk)/\b1=since/\b2.toList=seen/\b3=last from h)
    rw[<-hk m (by rw[q1];rfl)];exact g1
  |_=>exact(show False from h).elim
 ·exact h'.elim
theorem HRel.limit{w0 w w':World}{fi Ps ψ':PMap}{g:AHeap}(hr:HRel w0 fi g w)(hr':HRel w0 Ps g w')(hl:ψ'.le Ps)(hk:∀k,(fi k).isSome=true->Ps k=ψ' k):HRel w0 ψ' g w':=by
 refine⟨hr'.below,fun k b hb=>?_,fun k k' b b' p p' hb hb' hp hp'=>hr'.inj k k' b b' p p' hb hb' (hl _ _ hp) (hl _ _ hp'),fun k p hp=>hr'.lt k p (hl _ _ hp),?_,fun k p hp=>hr'.typ k p (hl _ _ hp)⟩
 ·obtain⟨p,hp,h1,h2⟩:=hr'.own k b hb
  obtain⟨q,hq,_,c2⟩:=hr.own k b hb;refine⟨p,by rw[<-hk k (by simp[hq])];exact hp,h1,?_⟩;rcases h2 with h2|h2
  ·obtain⟨cs,e,lo,hi,r1,r2,r3,r4,r5,r6⟩:=h2.row
   obtain⟨cs',e',lo',hi',s1,s2,s3,s4,s5,s6⟩:=c2.row r4;exact .inl ⟨cs,e,lo,hi,r1,r2,r3,r4,qdo (f:=fun k=>(fi k).isSome) (fun k hf=>hk k hf) _ _ (qaF _ _ s5) r5,r6⟩
  ·obtain⟨o,r1,r2⟩:=h2.obj
   obtain⟨o',s1,s2⟩:=(c2.obj h2.frz).obj;exact .inr ⟨h2.frz,h2.at_,o,r1,ORel.limit hk s2 r2⟩
 ·obtain⟨N,hN⟩:=hr'.fin
  refine⟨N,fun k hk'=>?_⟩;cases e:ψ' k with
  |none=>rfl
  |some p=>have:=hl k p e;rw[hN k hk']at this;cases this
def Wz(P:Program):Op->Nat
 | .alloc _=>0
 | .box _ _=>0
 | .buildSlice _ _ _=>0
 | .makeSlice _ _ _=>0
 | .store _ _ _=>3
 | .makeMap _ _=>3
 | .mapUpdate _ _ _ _=>3
 | .insert _ _ _ _=>3
 | .range _ _=>3
 | .next _ _=>3
 | .entry _=>3
 | .convert src dst _=>if Yj P src dst=true then 0 else if qcE P src dst=true then 3 else 2
 | .call c=>match c.callee with
   | .value _=>1
   | .builtin .append=>3
   | .builtin .copy=>3
   | .builtin .delete=>3
   | .builtin _=>2
   | .invoke _ _=>3
 |_=>2
theorem qnj{P:Program}{op:Op}(h:Wz P op=2):Zy P op=true:=by
 cases op<;>simp only[Wz,Zy]at h|- <;>first|rfl|(cases h;done)|skip
 case convert a b x=>
  split at h
  ·cases h
  ·split at h
   ·cases h
   ·rename_i h1 h2
    simp[h1,h2]
 case call c=>
  obtain⟨callee,args,ts⟩:=c;cases callee with
  |value f=>simp at h
  |invoke r m=>simp at h
  |builtin b=>cases b<;>simp at h|-
theorem lay_ok{P:Program}{w0:World}{h:AHeap}{s:Slots}{op:Op}{K:AVal->AHeap->Prop}(hk0:Wz P op=0)(he:eop P w0 h s op K):
 ∃(val:Nat->AVal) (b:Blk),(∀k,h k=none->K (val k) (h.set k b))/\
  ∀(k:Nat) (o:Oper),o.op=op->∀{w:World} {fi:PMap} {g:AHeap} {n:FrameK} {a:Act} {next:Act->World->Prop} {Q:Exit->Act->World->Prop},HRel w0 fi g w->SRel fi n s a->g k=none->fi k=none->qar k=none->
   (∀p v w',HRel w0 (fi.upd k p) (g.set k b) w'->VR (fi.upd k p) (val k) v->next (a.put o.dst v) w')->o.wp P a w next Q:=by
 cases op<;>simp only[Wz]at hk0<;>first
  |(cases hk0;done)
  |skip
 case alloc e=>
  simp only[eop]at he;split at he<;>first|exact he.elim|skip
  rename_i z hz
  refine⟨fun k=> .ptr (.own k) 0,⟨z.cells.toList.map qY,0⟩,he,?_⟩;rintro k ⟨dst,op,type,pos,after,guard⟩ rfl w fi g n a next Q hr hs hk hφ hkt hn;obtain⟨e1,e2⟩:=hr.alloc k hk hφ (z.cells.toList.map qY) z.cells e 0 0 (by rw[Jn,Jo];exact UK fi z.cells.toList) qck (fun t ht=>by rw[hkt]at ht;cases ht);refine Zn (v:= .pointer (some ⟨w.heap.size,0,none⟩)) (w':=w.alloc (.cells z.cells e)) ?_ (hn _ _ _ e2 (qiT _ _ _));simp[execOp,Instr.alloc,qcV hz,newVar,newRow]
 case box e x=>
  simp only[eop]at he;obtain⟨hl,he⟩:=he;refine⟨fun k=> .ptr (.own k) 0,⟨(ev s x).cells,0⟩,he,?_⟩;rintro k ⟨dst,op,type,pos,after,guard⟩ rfl w fi g n a next Q hr hs hk hφ hkt hn;have hx:=qeT (hs.ev x) hl;have hlen:=Zm hx;obtain⟨e1,e2⟩:=hr.alloc k hk hφ (ev s x).cells (a.eval x).cells e 0 0 (by rw[<-hlen,Jo];exact hx) qck (fun t ht=>by rw[hkt]at ht;cases ht);refine Zn (v:= .pointer (some ⟨w.heap.size,0,none⟩)) (w':=w.alloc (.cells (a.eval x).cells e)) ?_ (hn _ _ _ e2 (qiT _ _ _));simp[execOp,Instr.box,newVar,newRow]
 case buildSlice t m parts=>
  simp only[eop]at he;split at he<;>first|exact he.elim|skip
  rename_i cs hb
  refine⟨fun k=> .slice (.own k) 0 m (.exact m),⟨cs,0⟩,he,?_⟩;rintro k ⟨dst,op,type,pos,after,guard⟩ rfl w fi g n a next Q hr hs hk hφ hkt hn;unfold qcG at hb;split at hb<;>first|(cases hb;done)|skip
  rename_i e ht
  split at hb<;>first|(cases hb;done)|skip
  rename_i es z hes hz
  split at hb<;>first|(cases hb;done)|skip
  rename_i hc
  obtain⟨c1,c2,c3⟩:=hc;have hzs:VRs fi (z.cells.toList.map qY) z.cells.toList:=UK fi _;obtain⟨r,f1,f2⟩:=qfW (fi:=fi) (fun i=>some (i*es,es)) (vs:=(parts.map fun(i,x)=>(i,a.eval x)).toList) (us:=(Jc (m*es)).map (z.cells[· %z.cells.size]!)) (by simpa using hs.evP parts.toList) (qhL hzs (by omega) (m*es)) hb;have hlen:=Zm f2;simp only[KN]at hlen;have hcl:cs.length=m*es:=by rw[qeg _ hb];simp[WY]
  obtain⟨e1,e2⟩:=hr.alloc k hk hφ cs r e 0 0 (by rw[<-hlen,<-KN,Jo];exact f2) qck (fun t ht=>by rw[hkt]at ht;cases ht);refine Zn (v:= .slice (some ⟨w.heap.size,0,none⟩) m m) (w':=w.alloc (.cells r e)) ?_ (hn _ _ _ e2 ?_)
  ·have hbig:¬(m*es>2^24):=by omega
   have hb':¬(16777216<m*es):=by omega
   by_cases hz0:m*es=0
   ·have hr0:r= #[]:=Array.eq_empty_of_size_eq_zero (by omega)
    have harr:((Jc (m*es)).map (z.cells[· %z.cells.size]!))= #[]:=by rw[hz0];simp
    rw[harr]at f1;simp at f1;simp[execOp,Instr.buildSlice,Qy ht,ZT hes,hz0,Array.range_zero',f1,newRow]
   ·simp[execOp,Instr.buildSlice,Qy ht,ZT hes,hz0,hb',qcV hz]
    simp at f1;simp[f1,newRow]
  ·simp only[VR]
   exact⟨_,rfl,fun _=>by simp[XU,JV]⟩
 case makeSlice t m c=>
  simp only[eop]at he;unfold qoH at he;split at he<;>first|exact he.elim|skip
  rename_i e len cap ht hlen hcap
  split at he<;>first|exact he.elim|skip
  rename_i es by' z hes hby hz
  obtain⟨⟨g1,g2,g3,g4,g5,g6⟩,he⟩:=he;refine⟨fun k=> .slice (.own k) 0 len.toNat (.exact cap.toNat),⟨WY (z.cells.toList.map qY) (cap.toNat*es),0⟩,he,?_⟩;rintro k ⟨dst,op,type,pos,after,guard⟩ rfl w fi g n a next Q hr hs hk hφ hkt hn;have i1:∃k,a.eval m= .int k len:=by
   have:=hs.ev m;revert hlen this;cases ev s m<;>simp[qpI,VR];intro e1 e2;subst e1;exact⟨_,e2⟩
  have i2:∃k,a.eval c= .int k cap:=by
   have:=hs.ev c;revert hcap this;cases ev s c<;>simp[qpI,VR];intro e1 e2;subst e1;exact⟨_,e2⟩
  obtain⟨k1,i1⟩:=i1;obtain⟨k2,i2⟩:=i2;simp only[Yu,Kc]at hes;obtain⟨ii,hi,hes⟩:=hes;simp only[qeo,hi,Option.map_some,Option.some.injEq]at hby;simp only[qap,hi,Option.bind_some]at hz;subst hby;have hmake:=run_make (P:=P) w t e ii z ht hi hz k1 k2 len cap g1 g2 g3 g4;rw[hes]at hmake;have hzs:VRs fi (z.cells.toList.map qY) z.cells.toList:=UK fi _;have hrep:=qhL hzs (by omega) (cap.toNat*es);obtain⟨e1,e2⟩:=hr.alloc k hk hφ (WY (z.cells.toList.map qY) (cap.toNat*es)) (madeCells z.cells (cap.toNat*es)) e 0 0 (by
   have hl:=Zm hrep;rw[<-hl];unfold madeCells;rw[Jo];exact hrep) qck (fun t ht=>by rw[hkt]at ht;cases ht)
  refine Zn (v:= .slice (some ⟨w.heap.size,0,none⟩) len.toNat cap.toNat) (w':=w.alloc (.cells (madeCells z.cells (cap.toNat*es)) e)) ?_ (hn _ _ _ e2 ?_)
  ·simp only[execOp,i1,i2]
   exact ZF hmake
  ·simp only[VR]
   exact⟨_,rfl,fun _=>by simp[XU,JV]⟩
 case convert src dst' x=>
  split at hk0
  ·rename_i hc
   simp only[eop]at he;split at he
   ·rename_i b hb
    rw[if_pos hc]at he;obtain⟨g1,he⟩:=he;refine⟨fun k=> .slice (.own k) 0 b.length (.grow 1),⟨byteCells b,0⟩,he,?_⟩;rintro k ⟨dst,op,type,pos,after,guard⟩ rfl w fi g n a next Q hr hs hk hφ hkt hn;unfold Yj at hc;split at hc<;>first|(cases hc;done)|skip
    rename_i e h1 h2
    split at hc<;>first|(cases hc;done)|skip
    rename_i h3
    have hx:=hs.ev x;rw[hb]at hx;simp only[VR]at hx;have hcap:b.length<=grownCap w b.length 0 e:=by
     simp only[grownCap,Question.cut];omega
    have hrun:=run_bytes_of_string (P:=P) w src dst' e ⟨⟨b⟩⟩ h1 h2 h3;rw[qjT]at hrun;generalize hG:grownCap w b.length 0 e=G at*
    have hrow:(bytesRow ⟨⟨b⟩⟩ G).toList=(b.map fun c=>Value.int .u8 c.toNat)++JW (G-b.length) (.int .u8 0):=by
     simp[bytesRow,qjT]
    have hsize:(bytesRow ⟨⟨b⟩⟩ G).size=G:=by
     rw[<-KN,hrow];simp;omega
    rw[hsize]at hrun;have hcells:(byteCells b).length=b.length:=byteCells_length b;obtain⟨e1,e2⟩:=hr.drew.alloc k hk hφ (byteCells b) (bytesRow ⟨⟨b⟩⟩ G) e G (G+1) (by
     rw[hcells,hrow,List.take_append_of_le_length (by simp)];rw[JX (by simp)];exact qeU fi b) (fun i h1 h2=>by rw[hsize];exact h1) (fun t ht=>by rw[hkt]at ht;cases ht)
    refine Zn (v:= .slice (some ⟨w.heap.size,0,none⟩) b.length G) (w':=w.drew.alloc (.cells (bytesRow ⟨⟨b⟩⟩ G) e (G,G+1))) ?_ (hn _ _ _ e2 ?_)
    ·simp only[execOp,hx]
     exact ZF hrun
    ·simp only[VR]
     exact⟨k,_,G,⟨w.heap.size,0,none⟩,rfl,JY _ _ _,rfl,hcap,fun _=>⟨rfl,by simp[hsize]⟩⟩
   ·rename_i k o m c hx
    simp only[Yj]at hc;split at he
    ·rename_i hc'
     simp only[qcE,Ky,beq_iff_eq]at hc';obtain⟨rfl,hc'⟩:=hc';split at hc<;>first|(cases hc;done)|skip
     rename_i e h1 h2
     rw[h1]at h2;cases h2
    ·exfalso
     simp only[pop,hx,qda]at he;split at hc<;>first|(cases hc;done)|skip
     rename_i e h1 h2
     simp[h1,h2]at he;exact he.1
   ·rename_i hn1 hn2
    exfalso;unfold Yj at hc;split at hc<;>first|(cases hc;done)|skip
    rename_i e h1 h2
    have he1:=he.1;simp only[pop]at he1;cases hx:ev s x with
    |str b=>exact hn1 b hx
    |_=>simp[hx,qda,h1,h2,PR.no]at he1
  ·split at hk0<;>cases hk0
 case call c=>
  obtain⟨callee,args,ts⟩:=c;cases callee with
  |value f=>cases hk0
  |invoke r m=>cases hk0
  |builtin b=>cases b<;>cases hk0
section
variable {P:Program} {w0:World} {n:FrameK} {H0:AHeap}
def qfb(P:Program)(w0:World)(H0 h:AHeap)(S:Slots)(op:Op)(V:AVal):Prop:=
 if Wz P op=2 then(pop P w0 h S op).pre/\V=(pop P w0 h S op).val
 else Wz P op=1/\V.okIn (fun k=>(H0 k).isSome)/\∀g,(∀k b,H0 k=some b->g k=some b)->eop P w0 g S op (fun x h'=>x=V/\h'=g)
def Yk(P:Program)(w0:World)(ops:List Oper)(H0:AHeap):List Oper->Slots->AHeap->(Slots->AHeap->Prop)->Prop
 |[],s,h,K=>K s h
 |o::rest,s,h,K=>
  if Wz P o.op=0 then o.guard=none/\eop P w0 h (s.keep (Xv ops o)) o.op (fun x h'=>Yk P w0 ops H0 rest (putD s o.dst x) h' K)
  else match o.guard with
   |none=>∃V,qfb P w0 H0 h (s.keep (Xv ops o)) o.op V/\Yk P w0 ops H0 rest (putD s o.dst V) h K
   |some (j,want)=>match QB ops j with
    |none=>Yk P w0 ops H0 rest (putD s o.dst (.tuple [])) h K
    |some d=>Ww (s.get d)=true/\∃V,(XB (s.get d) want=true->qfb P w0 H0 h (s.keep (Xv ops o)) o.op V)/\Yk P w0 ops H0 rest (putD s o.dst (QW (XB (s.get d) want) V)) h K
theorem qbW{ops:List Oper}{K K':Slots->AHeap->Prop}(hk:∀s h,K s h->K' s h):∀{l:List Oper} {s:Slots} {h:AHeap},Yk P w0 ops H0 l s h K->Yk P w0 ops H0 l s h K'
 |[],s,h,hv=>hk _ _ hv
 |o::rest,s,h,hv=>by
  simp only[Yk]at hv|-
  split
  ·rename_i h0
   rw[if_pos h0]at hv;exact⟨hv.1,qdg hv.2 fun x h' hx=>qbW hk hx⟩
  ·rename_i h0
   rw[if_neg h0]at hv;split
   ·rename_i hg
    rw[hg]at hv;obtain⟨V,h1,h2⟩:=hv;exact⟨V,h1,qbW hk h2⟩
   ·rename_i j want hg
    rw[hg]at hv;simp only at hv;split
    ·rename_i hj
     rw[hj]at hv;exact qbW hk hv
    ·rename_i d hj
     rw[hj]at hv;obtain⟨h1,V,h2,h3⟩:=hv;exact⟨h1,V,h2,qbW hk h3⟩
def gOf(H0:AHeap)(N:Nat)(bl:List (Option Blk))(listed:Nat->Bool):AHeap:=fun k=>if N<=k then(bif listed (k-N)then bl.getD (k-N) none else none)else H0 k
def HH(w0:World)(H0:AHeap)(N:Nat)(bl:List (Option Blk))(listed:Array Bool)(Ps:PMap)(w:World):Prop:=
 HRel w0 Ps (gOf H0 N bl fun i=>listed.getD i false) w/\∀i,i<bl.length->listed.getD i false=false->Ps (N+i)=none
def HeadStep(P:Program)(w0:World)(n:FrameK)(H0:AHeap)(l:List Oper)(N:Nat)(bl:List (Option Blk))(S:Slots)(i:Nat)(o:Oper)(V:AVal):Prop:=
 ∀(listed:Array Bool) (Ps:PMap) (w:World) (a:Act) (next:Act->World->Prop) (Q:Exit->Act->World->Prop),listed.getD i false=false->i<listed.size->HH w0 H0 N bl listed Ps w->SRel Ps n (S.keep (Xv l o)) a->
  (∀ψ' v w',Ps.le ψ'->HH w0 H0 N bl (listed.setIfInBounds i true) ψ' w'->VR ψ' V v->next (a.put o.dst v) w')->
  if Region.wanted o (yielded l.toArray a.tmps)=true then o.wp P a w next Q else next (a.put o.dst undef) w
theorem qge{Ps:PMap}{H g:AHeap}(hg:∀k b,H k=some b->(Ps k).isSome=true->g k=some b){l:Loc}(hl:∀k,l= .own k->(Ps k).isSome=true\/False):∀(n o:Nat),allLive (qC w0 H l o n)=true->qC w0 g l o n=qC w0 H l o n
 |0,_,_=>rfl
 |n+1,o,ha=>by
  simp only[qC,allLive,Ky]at ha|-
  rw[qge hg hl n (o+1) ha.2];congr 1;cases l with
  |base b=>rfl
  |own k=>
   have hs:=(hl k rfl).resolve_right id;have h1:=ha.1;simp only[rd]at h1|-
   cases hH:H k with
   |none=>simp[hH,JZ]at h1
   |some b=>simp[hg k b hH hs]
theorem rd_up{Ps:PMap}{H g:AHeap}(hg:∀k b,H k=some b->(Ps k).isSome=true->g k=some b){l:Loc}(hl:∀k,l= .own k->(Ps k).isSome=true)(o:Nat)(ha:(rd w0 H l o).live=true):rd w0 g l o=rd w0 H l o:=by
 have:=qge (w0:=w0) hg (l:=l) (fun k e=> .inl (hl k e)) 1 o (by simp[qC,allLive,ha]);simpa[qC]using this
theorem qrD{Ps:PMap}{l:Loc}{o:Nat}{v:Value}(h:VR Ps (.ptr l o) v):∀k,l= .own k->(Ps k).isSome=true:=by
 rintro k rfl;have:=UG _ _ h;simpa only[AVal.okIn]using this
theorem qec{P:Program}{g H:AHeap}{b:Builtin}(hb:b≠ .len)(ts:Array TypeId)(xs:List AVal):Wy P g b ts xs=Wy P H b ts xs:=by
 unfold Wy;generalize ts[0]?=q;cases b<;>first|exact absurd rfl hb|(rcases xs with _|⟨x,_|⟨y,xs⟩⟩<;>cases q<;>rfl)
theorem qfI{P:Program}{g H:AHeap}(ts:Array TypeId)(xs:List AVal)(h:∀t x,ts[0]?=some t->xs=[x]->YZ P g t x=YZ P H t x):Wy P g .len ts xs=Wy P H .len ts xs:=by
 unfold Wy;generalize hq:ts[0]?=q at h;rcases xs with _|⟨x,_|⟨y,xs⟩⟩<;>cases q<;>first|rfl|exact h _ _ rfl rfl
theorem qrE{Ps:PMap}{H g:AHeap}{S:Slots}{a:Act}{op:Op}(hk:Wz P op=2)(hg:∀k b,H k=some b->(Ps k).isSome=true->g k=some b)(hs:SRel Ps n S a)(hp:(pop P w0 H S op).pre):pop P w0 g S op=pop P w0 H S op:=by
 cases op<;>first
  |rfl
  |skip
 case load t x=>
  simp only[pop]at hp|-
  have hx:=hs.ev x;cases hv:ev S x with
  |ptr l o=>
   rw[hv]at hx hp;have hl:=qrD hx;simp only[YC]at hp|-
   split at hp
   ·rename_i h1 h2
    rw[qge hg (fun k e=> .inl (hl k e)) _ _ hp]
   ·rename_i h1
    rw[rd_up hg hl _ hp]
   ·exact hp.elim
  |_=>rfl
 case convert src dst x=>
  simp only[pop]at hp|-
  have hx:=hs.ev x;cases hv:ev S x with
  |slice l o len c=>
   rw[hv]at hx hp;simp only[qda]at hp|-
   split at hp<;>first|exact hp.elim|skip
   rename_i e h1 h2
   split at hp<;>first|exact hp.elim|skip
   rename_i h3
   by_cases hz:len=0
   ·subst hz;rfl
   ·have hl:∀k,l= .own k->(Ps k).isSome=true\/False:=by
     rintro k rfl;have:=UG _ _ hx;simp only[AVal.okIn]at this;cases c with
     |exact c=>exact .inl (this (.inr hz))
     |grow es=>exact .inl this
    rw[qge hg hl _ _ (qcN hp)]
  |_=>rfl
 case lookup t x i ok=>
  simp only[pop]at hp|-
  have hx:=hs.ev x;cases hv:ev S x with
  |map k=>
   rw[hv]at hx hp;have hk2:(Ps k).isSome=true:=UG _ _ hx;simp only[qaC]at hp|-
   split at hp<;>first|exact hp.elim|skip
   split at hp<;>first|exact hp.elim|skip
   split at hp<;>first|exact hp.elim|skip
   rename_i c es hm
   rw[qbr (hg k _ (WE hm) hk2)]
  |_=>rfl
 case call c=>
  obtain⟨callee,args,ts⟩:=c;cases callee with
  |builtin b=>
   have hvs:=hs.evs args.toList;have hp':(Wy P H b ts (evs S args.toList)).pre:=hp;show Wy P g b ts (evs S args.toList)=Wy P H b ts (evs S args.toList)
   by_cases hb:b= .len
   ·subst hb
    refine qfI _ _ fun t x hq hxs=>?_;rw[hxs]at hvs hp';simp only[Wy,hq]at hp';simp only[YZ]at hp'|-
    cases hmt:qcC P t with
    |false=>rfl
    |true=>
     rw[hmt,cond_true]at hp';simp only[cond_true];simp only[VRs]at hvs;obtain⟨u,_,_,hx,_⟩:=hvs;cases x with
     |map k=>
      have hk2:(Ps k).isSome=true:=UG _ _ hx;unfold qjw at hp'|-
      split at hp'<;>first|exact hp'.elim|rfl|skip
      rename_i k' _ e
      cases e;split at hp'<;>first|exact hp'.elim|skip
      rename_i c es hm
      rw[qbr (hg k _ (WE hm) hk2)]
     |_=>
      unfold qjw;cases P.underlying t with
      |none=>rfl
      |some d=>cases d<;>rfl
   ·exact qec hb _ _
  |_=>rfl
theorem gOf_set{H0:AHeap}{N:Nat}{bl:List (Option Blk)}{i:Nat}{b:Blk}(hb:bl.getD i none=some b){listed:Array Bool}(hsz:i<listed.size):
 (gOf H0 N bl fun j=>listed.getD j false).set (N+i) b=gOf H0 N bl fun j=>(listed.setIfInBounds i true).getD j false:=by
 funext k;simp only[gOf,AHeap.set];by_cases e:k=N+i
 ·subst e
  rw[if_pos rfl,if_pos (by omega),show N+i-N=i by omega,set_self hsz,hb];rfl
 ·rw[if_neg e]
  by_cases hN:N<=k
  ·rw[if_pos hN,if_pos hN,Zi (by omega)]
  ·rw[if_neg hN,if_neg hN]
theorem qsf{H0:AHeap}{N:Nat}{bl:List (Option Blk)}{i:Nat}(hb:bl.getD i none=none){listed:Array Bool}:
 (gOf H0 N bl fun j=>(listed.setIfInBounds i true).getD j false)=gOf H0 N bl fun j=>listed.getD j false:=by
 funext k;simp only[gOf];by_cases hN:N<=k
 ·rw[if_pos hN,if_pos hN]
  by_cases e:k-N=i
  ·rw[e,hb];simp
  ·rw[Zi e]
 ·rw[if_neg hN,if_neg hN]
theorem HH.quiet{N:Nat}{bl:List (Option Blk)}{i:Nat}(hb:bl.getD i none=none){listed:Array Bool}{Ps:PMap}{w:World}(h:HH w0 H0 N bl listed Ps w):HH w0 H0 N bl (listed.setIfInBounds i true) Ps w:=by
 refine⟨by rw[qsf hb];exact h.1,fun j hj hl=>h.2 j hj ?_⟩;by_cases e:j=i
 ·subst e
  cases hc:listed.getD j false with
  |false=>rfl
  |true=>
   have hsz:j<listed.size:=by
    refine J2 fun hge=>?_;simp[JC,Nat.not_lt.2 hge]at hc
   rw[set_self hsz]at hl;cases hl
 ·rwa [Zi e]at hl
theorem HeadStep.of_step{l:List Oper}(hall:Xt n l=true){N:Nat}(hN:∀j,N<=j->H0 j=none){bl:List (Option Blk)}{H:AHeap}{i:Nat}(hH:∀k b,H k=some b->k<N/\H0 k=some b\/N<=k/\k-N<bl.length/\bl.getD (k-N) none=some b)(hb:bl.getD i none=none){S:Slots}{o:Oper}{V:AVal}
 (hstep:qfb P w0 H0 H (S.keep (Xv l o)) o.op V) {Ps:PMap} {w:World} {a:Act} {listed:Array Bool} {next:Act->World->Prop} {Q:Exit->Act->World->Prop} (hh:HH w0 H0 N bl listed Ps w) (hs:SRel Ps n (S.keep (Xv l o)) a)
 (hn:∀ψ' v w',Ps.le ψ'->HH w0 H0 N bl (listed.setIfInBounds i true) ψ' w'->VR ψ' V v->next (a.put o.dst v) w'):o.wp P a w next Q:=by
 unfold qfb at hstep;split at hstep
 ·rename_i hk
  obtain⟨h1,h2⟩:=hstep;have hup:∀k b,H k=some b->(Ps k).isSome=true->(gOf H0 N bl fun j=>listed.getD j false) k=some b:=by
   intro k b hb' hs';simp only[gOf];rcases hH k b hb' with⟨c1,c2⟩|⟨c1,c2,c3⟩
   ·rw[if_neg (by omega)];exact c2
   ·rw[if_pos c1]
    cases hl:listed.getD (k-N) false with
    |true=>simpa using c3
    |false=>
     have:=hh.2 (k-N) c2 hl;rw[show N+(k-N)=k by omega]at this;rw[this]at hs';cases hs'
  have e:=qrE (P:=P) (w0:=w0) (n:=n) hk hup hs h1;obtain⟨r,e1,e2⟩:=qgB o (by rw[e];exact h1) hh.1 hs;rw[e,<-h2]at e2;exact Zn (e1 w (J3 w)) (hn Ps r w Ps.le_refl (hh.quiet hb) e2)
 ·obtain⟨_,hok,he⟩:=hstep
  have hsub:∀k b,H0 k=some b->(gOf H0 N bl fun j=>listed.getD j false) k=some b:=by
   intro k b hb';have hlt:k<N:=by
    refine J2 fun hge=>?_;rw[hN k hge]at hb';cases hb'
   simp only[gOf];rw[if_neg (by omega)];exact hb'
  refine qfr o (he _ hsub) hh.1 hs fun ψ' x h' v w' h1 h2 h3 ⟨e1,e2⟩=>?_;subst e1 e2;have hle:Ps.le fun k=>if N<=k/\k-N<bl.length/\listed.getD (k-N) false=false then none else ψ' k:=by
   intro k p hp;simp only;rw[if_neg]
   ·exact h1 k p hp
   ·rintro⟨c1,c2,c3⟩
    have:=hh.2 (k-N) c2 c3;rw[show N+(k-N)=k by omega,hp]at this;cases this
  have hlt:(PMap.le (fun k=>if N<=k/\k-N<bl.length/\listed.getD (k-N) false=false then none else ψ' k) ψ'):=by
   intro k p hp;simp only at hp;split at hp
   ·cases hp
   ·exact hp
  have hsame:∀k,(Ps k).isSome=true->ψ' k=(fun k=>if N<=k/\k-N<bl.length/\listed.getD (k-N) false=false then none else ψ' k) k:=by
   intro k hk;obtain⟨p,hp⟩:=Option.isSome_iff_exists.1 hk;rw[hle k p hp,h1 k p hp]
  refine hn _ v w' hle (HH.quiet hb ⟨hh.1.limit h2 hlt hsame,fun j hj hl=>?_⟩) (qev (f:=fun k=>(H0 k).isSome) (fun k hk=>?_) _ _ hok h3)
  ·simp only
   rw[if_pos ⟨by omega,by rw[show N+j-N=j by omega];exact hj,by rw[show N+j-N=j by omega];exact hl⟩]
  ·have hlt:k<N:=by
    refine J2 fun hge=>?_;simp[hN k hge]at hk
   rw[if_neg (by omega)]
theorem HeadStep.lay{l:List Oper}{N:Nat}{bl:List (Option Blk)}{i:Nat}(hil:i<bl.length){S:Slots}{o:Oper}{val:Nat->AVal}{b:Blk}(hb:bl.getD i none=some b)(hg:o.guard=none)
 (hlay:∀{w:World} {fi:PMap} {g:AHeap} {a:Act} {next:Act->World->Prop} {Q:Exit->Act->World->Prop},HRel w0 fi g w->SRel fi n (S.keep (Xv l o)) a->g (N+i)=none->fi (N+i)=none->
   (∀p v w',HRel w0 (fi.upd (N+i) p) (g.set (N+i) b) w'->VR (fi.upd (N+i) p) (val (N+i)) v->next (a.put o.dst v) w')->o.wp P a w next Q):HeadStep P w0 n H0 l N bl S i o (val (N+i)):=by
 intro listed Ps w a next Q hl hsz hh hs hn;have hw:Region.wanted o (yielded l.toArray a.tmps)=true:=by simp[Region.wanted,hg]
 rw[if_pos hw];have hφ:=hh.2 i hil hl;refine hlay hh.1 hs (by simp only[gOf];rw[if_pos (by omega),show N+i-N=i by omega,hl];rfl) hφ fun p v w' h1 h2=>?_;refine hn _ v w' (PMap.le_upd hφ p) ⟨by rw[<-gOf_set hb hsz];exact h1,fun j hj hl'=>?_⟩ h2;have e:j≠i:=fun e=>by subst e;rw[set_self hsz]at hl';cases hl'
 rw[Zi e]at hl';have:=hh.2 j hj hl';simp only[JV];rw[if_neg (by omega)];exact this
theorem HeadStep.one{l:List Oper}(hall:Xt n l=true){N:Nat}(hN:∀j,N<=j->H0 j=none){bl:List (Option Blk)}{H:AHeap}{i:Nat}(hH:∀k b,H k=some b->k<N/\H0 k=some b\/N<=k/\k-N<bl.length/\bl.getD (k-N) none=some b)(hb:bl.getD i none=none){S:Slots}{o:Oper}{V:AVal}(hg:o.guard=none)
 (hstep:qfb P w0 H0 H (S.keep (Xv l o)) o.op V):HeadStep P w0 n H0 l N bl S i o V:=by
 intro listed Ps w a next Q _ _ hh hs hn;have hw:Region.wanted o (yielded l.toArray a.tmps)=true:=by simp[Region.wanted,hg]
 rw[if_pos hw];exact HeadStep.of_step hall hN hH hb hstep hh hs hn
theorem HeadStep.guarded{l:List Oper}(hall:Xt n l=true){N:Nat}(hN:∀j,N<=j->H0 j=none){bl:List (Option Blk)}{H:AHeap}{i:Nat}(hH:∀k b,H k=some b->k<N/\H0 k=some b\/N<=k/\k-N<bl.length/\bl.getD (k-N) none=some b)(hb:bl.getD i none=none){S:Slots}{o:Oper}{V:AVal}{j d:Nat}{want:Bool}(hg:o.guard=some (j,want))(hj:QB l j=some d)(hk:Ww (S.get d)=true)
 (hstep:XB (S.get d) want=true->qfb P w0 H0 H (S.keep (Xv l o)) o.op V):HeadStep P w0 n H0 l N bl S i o (QW (XB (S.get d) want) V):=by
 intro listed Ps w a next Q _ _ hh hs hn;have hd:(S.keep (Xv l o)).get d=S.get d:=by
  rw[JM,if_pos];simp[Xv,hg,hj]
 have hw:Region.wanted o (yielded l.toArray a.tmps)=XB (S.get d) want:=by
  have:=qdf hs l j d hj (qcI l j d hall hj) (by rw[hd];exact hk) want;rw[hd]at this;simp only[Region.wanted,hg];exact this
 cases hb':XB (S.get d) want with
 |true=>
  rw[hw,hb',if_pos rfl];rw[hb']at hn;exact HeadStep.of_step hall hN hH hb (hstep hb') hh hs hn
 |false=>
  rw[hw,hb',if_neg (by decide)];rw[hb']at hn;exact hn Ps undef w Ps.le_refl (hh.quiet hb) (Wp Ps)
theorem HeadStep.never{l:List Oper}{N:Nat}{bl:List (Option Blk)}{i:Nat}(hb:bl.getD i none=none){S:Slots}{o:Oper}{j:Nat}{want:Bool}(hg:o.guard=some (j,want))(hj:QB l j=none):HeadStep P w0 n H0 l N bl S i o (.tuple []):=by
 intro listed Ps w a next Q _ _ hh hs hn;have hd:(l.toArray[j]?).bind (·.dst)=none:=by rw[<-hj,Yn];simp
 have hw:Region.wanted o (yielded l.toArray a.tmps)=false:=by
  simp only[Region.wanted,hg,yielded,hd];rfl
 rw[if_neg (by rw[hw];decide)];exact hn Ps undef w Ps.le_refl (hh.quiet hb) (Wp Ps)
theorem gOf_at{N:Nat}(hN:∀j,N<=j->H0 j=none)(A B:List (Option Blk)):∀k b,(gOf H0 N A fun _=>true) k=some b->k<N/\H0 k=some b\/N<=k/\k-N<(A++B).length/\(A++B).getD (k-N) none=some b:=by
 intro k b h;simp only[gOf]at h;by_cases c:N<=k
 ·rw[if_pos c]at h
  simp only[cond_true]at h;right;have hlt:k-N<A.length:=by
   refine J2 fun hge=>?_;simp[Ko,Kr hge]at h
  refine⟨c,by simp;omega,?_⟩;simpa[Ko,Ja,hlt]using h
 ·rw[if_neg c]at h
  exact .inl ⟨by omega,h⟩
theorem gOf_of{N:Nat}(hN:∀j,N<=j->H0 j=none){C:List (Option Blk)}{k:Nat}{b:Blk}(h:k<N/\H0 k=some b\/N<=k/\k-N<C.length/\C.getD (k-N) none=some b):(gOf H0 N C fun _=>true) k=some b:=by
 simp only[gOf,cond_true];rcases h with⟨c,e⟩|⟨c,_,e⟩
 ·rw[if_neg (by omega)];exact e
 ·rw[if_pos c];exact e
theorem qse{N:Nat}(A:List (Option Blk))(b:Blk):(gOf H0 N A fun _=>true).set (N+A.length) b=gOf H0 N (A++[some b]) fun _=>true:=by
 funext k;simp only[gOf,AHeap.set,cond_true];by_cases e:k=N+A.length
 ·subst e
  rw[if_pos rfl,if_pos (by omega),show N+A.length-N=A.length by omega];simp[Ko]
 ·rw[if_neg e]
  by_cases c:N<=k
  ·rw[if_pos c,if_pos c]
   rcases KT (k-N) A.length with c2|c2
   ·simp[Ko,Ja,c2]
   ·have h1:A[k-N]?=none:=Kr c2
    have h2:(A++[some b])[k-N]?=none:=Kr (by simp;omega);simp[Ko,h1,h2]
  ·rw[if_neg c,if_neg c]
theorem qir{N:Nat}(A:List (Option Blk)):(gOf H0 N A fun _=>true)=gOf H0 N (A++[none]) fun _=>true:=by
 funext k;simp only[gOf,cond_true];by_cases c:N<=k
 ·rw[if_pos c,if_pos c]
  rcases Nat.lt_trichotomy (k-N) A.length with c2|c2|c2
  ·simp[Ko,Ja,c2]
  ·have h1:A[k-N]?=none:=Kr (by omega)
   simp[Ko,h1,c2]
  ·have h1:A[k-N]?=none:=Kr (by omega)
   have h2:(A++[none])[k-N]?=none:=Kr (by simp;omega);simp[Ko,h1,h2]
 ·rw[if_neg c,if_neg c]
theorem qiA{l:List Oper}(hall:Xt n l=true){N:Nat}(hN:∀j,N<=j->H0 j=none)(hNt:∀i,i<l.length->qar (N+i)=none)(tl:List Oper){s:Slots}{K:Slots->AHeap->Prop}:∀(rest pre:List Oper) (A:List AVal) (B:List (Option Blk)),l=pre++rest++tl->A.length=pre.length->B.length=pre.length->
 Yk P w0 l H0 rest (Xz s l A pre.length) (gOf H0 N B fun _=>true) K->
 ∃A' B',A'.length=rest.length/\B'.length=rest.length/\
  (∀i o,pre.length<=i->i<pre.length+rest.length->l[i]?=some o->
    (B++B').length=pre.length+rest.length/\HeadStep P w0 n H0 l N (B++B') (Xz s l (A++A') i) i o ((A++A').getD i .dead)/\(Wz P o.op=2->(B++B').getD i none=none/\(o.guard=none->∃H,(∀j b,H j=some b->(gOf H0 N (B++B') fun _=>true) j=some b)/\(pop P w0 H ((Xz s l (A++A') i).keep (Xv l o)) o.op).pre/\(A++A').getD i .dead=(pop P w0 H ((Xz s l (A++A') i).keep (Xv l o)) o.op).val)))/\
  K (Xz s l (A++A') (pre.length+rest.length)) (gOf H0 N (B++B') fun _=>true)
 |[],pre,A,B,hl,hA,hB,hv=>⟨[],[],rfl,rfl,fun i o h1 h2 _=>by simp at h2;omega,by simpa[Yk]using hv⟩
 |o::rest,pre,A,B,hl,hA,hB,hv=>by
  have hat:l[pre.length]?=some o:=by rw[hl];simp
  have hAt:∀V A',(A++V::A').getD pre.length .dead=V:=fun V A'=>by simp[Ko,<-hA]
  have hBt:∀b B',(B++b::B').getD pre.length none=b:=fun b B'=>by simp[Ko,<-hB]
  have hS:∀V,Xz s l (A++[V]) (pre++[o]).length=putD (Xz s l A pre.length) o.dst V:=fun V=>by
   rw[Jb,JF,Xz,hat];simp only;rw[WT s l A [V] _ (by omega)];congr 1;simp[Ko,<-hA]
  have go:∀(V:AVal) (b:Option Blk),(∀(A':List AVal) (B':List (Option Blk)),(B++b::B').length=pre.length+(o::rest).length->HeadStep P w0 n H0 l N (B++b::B') (Xz s l A pre.length) pre.length o V)->
   (Wz P o.op=2->b=none/\(o.guard=none->∃H,(∀B' j b',H j=some b'->(gOf H0 N (B++b::B') fun _=>true) j=some b')/\(pop P w0 H ((Xz s l A pre.length).keep (Xv l o)) o.op).pre/\V=(pop P w0 H ((Xz s l A pre.length).keep (Xv l o)) o.op).val))->
   Yk P w0 l H0 rest (putD (Xz s l A pre.length) o.dst V) (gOf H0 N (B++[b]) fun _=>true) K->
   ∃A' B',A'.length=(o::rest).length/\B'.length=(o::rest).length/\
    (∀i o',pre.length<=i->i<pre.length+(o::rest).length->l[i]?=some o'->
      (B++B').length=pre.length+(o::rest).length/\HeadStep P w0 n H0 l N (B++B') (Xz s l (A++A') i) i o' ((A++A').getD i .dead)/\(Wz P o'.op=2->(B++B').getD i none=none/\(o'.guard=none->∃H,(∀j b,H j=some b->(gOf H0 N (B++B') fun _=>true) j=some b)/\(pop P w0 H ((Xz s l (A++A') i).keep (Xv l o')) o'.op).pre/\(A++A').getD i .dead=(pop P w0 H ((Xz s l (A++A') i).keep (Xv l o')) o'.op).val)))/\
    K (Xz s l (A++A') (pre.length+(o::rest).length)) (gOf H0 N (B++B') fun _=>true):=by
   intro V b hst hpo hv';obtain⟨A',B',h1,h2,h3,h4⟩:=qiA hall hN hNt tl rest (pre++[o]) (A++[V]) (B++[b]) (by simp[hl]) (by simp[hA]) (by simp[hB]) (by rw[hS];exact hv');have hlen:(B++b::B').length=pre.length+(o::rest).length:=by simp[hB,h2]
   refine⟨V::A',b::B',by simp[h1],by simp[h2],fun i o' hi hi' ho'=>?_,?_⟩
   ·rcases Jy hi with e'|e'
    ·subst e'
     rw[hat]at ho';obtain rfl:=Option.some.inj ho';rw[WT s l A (V::A') _ (by omega),hAt];rw[hBt];exact⟨hlen,hst A' B' hlen,fun e=>⟨(hpo e).1,fun e'=>(hpo e).2 e' |>.elim fun H ⟨q0,q1⟩=>⟨H,q0 B',q1⟩⟩⟩
    ·have:=h3 i o' (by simp;omega) (by simp at hi'|-;omega) ho'
     refine⟨hlen,?_⟩;simpa using this.2
   ·have e:pre.length+(o::rest).length=(pre++[o]).length+rest.length:=by simp;omega
    rw[e];simpa using h4
  simp only[Yk]at hv;split at hv
  ·rename_i hk
   obtain⟨hg,he⟩:=hv;obtain⟨val,b,hc,hlay⟩:=lay_ok hk he;have hfree:(gOf H0 N B fun _=>true) (N+B.length)=none:=by
    simp only[gOf];rw[if_pos (by omega),show N+B.length-N=B.length by omega];simp[Ko]
   have hc':=hc (N+B.length) hfree;rw[qse]at hc';refine go (val (N+B.length)) (some b) (fun A' B' hlen=>?_) (fun e=>by rw[hk]at e;cases e) hc';rw[hB];exact HeadStep.lay (by rw[hlen];simp) (hBt _ _) hg fun h1 h2 h3 h4 h5=>hlay (N+pre.length) o rfl h1 h2 h3 h4 (hNt _ (by rw[hl];simp)) h5
  ·rename_i hk
   have hH:=fun b B'=>gOf_at (H0:=H0) hN B (b::B');split at hv
   ·rename_i hg
    obtain⟨V,h1,h2⟩:=hv;rw[qir]at h2;refine go V none (fun A' B' _=>HeadStep.one hall hN (hH none B') (hBt _ _) hg h1) (fun e=>⟨rfl,fun _=>?_⟩) h2;unfold qfb at h1;rw[if_pos e]at h1;exact⟨_,fun B' j b' hb'=>gOf_of hN (hH none B' j b' hb'),h1⟩
   ·rename_i j want hg
    split at hv
    ·rename_i hj
     rw[qir]at hv;exact go _ none (fun A' B' _=>HeadStep.never (hBt _ _) hg hj) (fun _=>⟨rfl,fun e=>by rw[hg]at e;cases e⟩) hv
    ·rename_i d hj
     obtain⟨hk',V,h1,h2⟩:=hv;rw[qir]at h2;exact go _ none (fun A' B' _=>HeadStep.guarded hall hN (hH none B') (hBt _ _) hg hj hk' h1) (fun _=>⟨rfl,fun e=>by rw[hg]at e;cases e⟩) h2
def qfS(P:Program):Op->Bool
 | .load _ _=>false
 | .convert _ _ _=>false
 | .lookup _ _ _ _=>false
 | .call c=>match c.callee,c.argTypes[0]? with
   | .builtin .len,some t=> !qcC P t
   |_,_=>true
 |_=>true
def isLoad:Op->Bool
 | .load _ _=>true
 |_=>false
def qgH(l:List Oper)(ks:List Nat)(s:Slots):List Nat->Prop
 |[]=>True
 |i::r=>(match l[i]? with
   |some o=>(match o.op with
    | .load _ x=>(match ev s x with
      | .ptr (.own k) _=>k∈ks
      | .ptr (.base _) _=>True
      |_=>False)
    |_=>True)
   |none=>True)/\qgH l ks s r
theorem qim{l:List Oper}{ks:List Nat}{s:Slots}:∀{late:List Nat},qgH l ks s late->∀i∈late,∀o t x,l[i]?=some o->o.op= .load t x->(∃k p,ev s x= .ptr (.own k) p/\k∈ks)\/∃b p,ev s x= .ptr (.base b) p
 |j::r,h,i,hi,o,t,x,ho,hop=>by
  simp only[qgH]at h;rcases KW.1 hi with e|e
  ·subst e
   have h1:=h.1;simp only[ho,hop]at h1;split at h1
   ·rename_i k p hv;exact .inl ⟨k,p,hv,h1⟩
   ·rename_i b p hv;exact .inr ⟨b,p,hv⟩
   ·exact h1.elim
  ·exact qim h.2 i e o t x ho hop
def qpG(P:Program)(w0:World)(ks:List Nat):List Oper->Slots->AHeap->(Slots->AHeap->Prop)->Prop
 |[],s,h,K=>K s h
 |o::rest,s,h,K=>o.guard=none/\eop P w0 h s o.op fun x h'=>(∀k∈ks,h' k=h k)/\qpG P w0 ks rest (putD s o.dst x) h' K
theorem qfR{ops:List Oper}{K:Slots->AHeap->Prop}:∀{l:List Oper} {s:Slots} {h:AHeap},(∀o∈l,o.guard=none)->Xp P w0 ops l s h K->qpG P w0 [] l s h K
 |[],_,_,_,ha=>ha
 |o::r,s,h,hg,ha=>by
  have h0:=hg o Je;simp only[Xp,h0]at ha;exact⟨h0,qdg ha fun x h' hx=>⟨fun k hk=>(by cases hk),qfR (fun o ho=>hg o (Jf _ ho)) hx⟩⟩
theorem qpE{H g:AHeap}{S:Slots}{t:TypeId}{x:Operand}(hx:(∃k p,ev S x= .ptr (.own k) p/\∀b,H k=some b->g k=some b)\/∃b p,ev S x= .ptr (.base b) p)(hp:(pop P w0 H S (.load t x)).pre):pop P w0 g S (.load t x)=pop P w0 H S (.load t x):=by
 simp only[pop]at hp|-
 rcases hx with⟨k,p,hv,hg⟩|⟨b,p,hv⟩
 ·rw[hv]at hp|-
  have up:∀(n o:Nat),allLive (qC w0 H (.own k) o n)=true->qC w0 g (.own k) o n=qC w0 H (.own k) o n:=by
   intro n;induction n with
   |zero=>intro o _;rfl
   |succ n ih=>
    intro o ha;simp only[qC,allLive,Ky]at ha|-
    rw[ih (o+1) ha.2];congr 1;have h1:=ha.1;simp only[rd]at h1|-
    cases hH:H k with
    |none=>simp[hH,JZ]at h1
    |some b=>simp[hg b hH]
  simp only[YC]at hp|-
  split at hp
  ·rw[up _ _ hp]
  ·have:=up 1 p (by simp only[qC,allLive,J4];exact hp)
   simp only[qC,List.cons.injEq,and_true]at this;rw[this]
  ·exact hp.elim
 ·rw[hv]at hp|-
  have same:∀(n o:Nat),qC w0 g (.base b) o n=qC w0 H (.base b) o n:=by
   intro n;induction n with
   |zero=>intro o;rfl
   |succ n ih=>intro o;simp only[qC];rw[ih];rfl
  simp only[YC,same];rfl
theorem qkm{g H:AHeap}{S:Slots}{op:Op}(h:qfS P op=true):pop P w0 g S op=pop P w0 H S op:=by
 cases op<;>first
  |rfl
  |(cases h;done)
  |skip
 case call c=>
  obtain⟨callee,args,ts⟩:=c;cases callee with
  |builtin b=>
   show Wy P g b ts (evs S args.toList)=Wy P H b ts (evs S args.toList)
   by_cases hb:b= .len
   ·subst hb
    refine qfI _ _ fun t x hq hxs=>?_;simp only[qfS,hq,Jh]at h;simp only[YZ,h,cond_false]
   ·exact qec hb _ _
  |_=>rfl
def qiu(P:Program)(l:List Oper)(k:Nat)(late:List Nat):Bool:=
 qaj l && decide (k<=l.length) && (late.all fun i=>decide (i<k)) &&
 ((KP k).all fun i=>if late.contains i then(match l[i]? with|some o=>o.guard.isNone && (qfS P o.op||isLoad o.op) && (Wz P o.op==2) && (KP k).all (fun j=>decide (j<=i)||match l[j]? with|some oj=>(match oj.dst with|some t=> !(Xv l o).contains t|none=>true)|none=>true)|none=>true)
   else decide (k=l.length)||(KP (k+1)).any fun j=>decide (i<j) && !late.contains j && Region.waitsFor .any l.toArray j i) &&
 ((KP l.length).all fun t=>decide (t<k)||((match l[t]? with|some o=>o.guard.isNone|none=>true) && (decide (t=k)||Region.waitsFor .any l.toArray t (t-1))))
structure FloatS(P:Program)(l:List Oper)(k:Nat)(late:List Nat):Prop where
 order:qaj l=true
 kle:k<=l.length
 latek:∀i,late.contains i=true->i<k
 lateo:∀i o,late.contains i=true->l[i]?=some o->o.guard=none/\(qfS P o.op=true\/isLoad o.op=true)/\Wz P o.op=2
 latew:∀i o,late.contains i=true->l[i]?=some o->∀j oj t,i<j->j<k->l[j]?=some oj->oj.dst=some t->t∉Xv l o
 sink:∀i,i<k->late.contains i=false->k<l.length->∃j,i<j/\j<=k/\late.contains j=false/\Region.waitsFor .any l.toArray j i=true
 tailg:∀t o,k<=t->l[t]?=some o->o.guard=none
 chain:∀t,k<t->t<l.length->Region.waitsFor .any l.toArray t (t-1)=true
theorem qho{l:List Oper}{k:Nat}{late:List Nat}(h:qiu P l k late=true):FloatS P l k late:=by
 unfold qiu at h;simp only[Ky,decide_eq_true_eq,Jz,JA]at h;obtain⟨⟨⟨⟨h1,h2⟩,h3⟩,h4⟩,h5⟩:=h;have hlk:∀i,late.contains i=true->i<k:=fun i hi=>by
  have:=h3 i (by simpa using hi);simpa using this
 refine⟨h1,h2,hlk,fun i o hi ho=>?_,fun i o hi ho j oj t hij hjk hj hd=>?_,fun i hi hl hk=>?_,fun t o ht ho=>?_,fun t ht htl=>?_⟩
 ·have:=h4 i (hlk i hi)
  rw[if_pos hi,ho]at this;simp only[Ky,beq_iff_eq,J5,JH]at this;exact⟨this.1.1.1,this.1.1.2,this.1.2⟩
 ·have:=h4 i (hlk i hi)
  rw[if_pos hi,ho]at this;simp only[Ky,Jz,JA]at this;have h6:=this.2 j hjk;rw[hj]at h6;simp only[hd,JH,decide_eq_true_eq,Jh]at h6;rcases h6 with e|e
  ·omega
  ·intro hm
   rw[<-J6]at hm;rw[hm]at e;cases e
 ·have:=h4 i hi
  rw[if_neg (by rw[hl];decide)]at this;simp only[JH,decide_eq_true_eq]at this;rcases this with e|e
  ·omega
  ·rw[J7]at e
   obtain⟨j,hj,e⟩:=e;simp only[Ky,decide_eq_true_eq,Jh]at e;rw[JA]at hj;exact⟨j,e.1.1,by omega,e.1.2,e.2⟩
 ·have hlt:=(Jw.1 ho).1
  have:=h5 t hlt;rw[ho]at this;simp only[JH,decide_eq_true_eq,Ky,J5]at this;rcases this with e|e
  ·omega
  ·exact e.1
 ·have:=h5 t htl
  simp only[JH,decide_eq_true_eq,Ky]at this;rcases this with e|⟨_,e|e⟩
  ·omega
  ·omega
  ·exact e
structure InvF(l:List Oper)(k:Nat)(Vs:List AVal)(s:Slots)(Ps:PMap)(n:FrameK)(listed:Array Bool)(a:Act):Prop where
 size:listed.size=l.length
 closed:∀j oj,l[j]?=some oj->listed.getD j false=true->∀e∈oj.after,Region.binds .any e=true->listed.getD e.on false=true
 tsize:a.tmps.size=n
 defers:a.defers=n.dfr
 done:∀t j oj,j<k->l[j]?=some oj->oj.dst=some t->listed.getD j false=true->VR Ps (Vs.getD j .dead) (a.tmps.getD t undef)
 still:∀t,(∀j oj,l[j]?=some oj->oj.dst=some t->listed.getD j false=false)->VR Ps (s.get t) (a.tmps.getD t undef)
theorem UB(a:Act){d:Option Tmp}{v:Value}{t:Nat}(hne:d≠some t):(a.put d v).tmps.getD t undef=a.tmps.getD t undef:=qlm a d v hne
theorem qah(a:Act){d:Option Tmp}{v:Value}{t:Nat}(hd:d=some t)(ht:t<a.tmps.size):(a.put d v).tmps.getD t undef=v:=by rw[hd];simp[Act.put,ht]
theorem qea(a:Act)(d:Option Tmp)(v:Value):(a.put d v).tmps.size=a.tmps.size:=by cases d<;>simp[Act.put]
theorem put_defers(a:Act)(d:Option Tmp)(v:Value):(a.put d v).defers=a.defers:=by cases d<;>simp[Act.put]
theorem InvF.looks{l:List Oper}{k:Nat}(hB:qaj l=true){Vs:List AVal}{s:Slots}{Ps:PMap}{listed:Array Bool}{a:Act}(inv:InvF l k Vs s Ps n listed a){i:Nat}(hik:i<k){o:Oper}(hol:l[i]?=some o)(hif:listed.getD i false=false)
 (hedges:∀e∈o.after,Region.binds .any e=true->listed.getD e.on false=true):SRel Ps n ((Xz s l Vs i).keep (Xv l o)) a:=by
 have hilt:i<l.length:=(Jw.1 hol).1;have spec:=Zu hB hol;refine⟨inv.tsize,inv.defers,fun t=>?_⟩;rw[JM];by_cases ht:(Xv l o).contains t=true
 ·rw[if_pos ht]
  have ht':t∈Xv l o:=by simpa using ht
  by_cases hw:∃(j:Nat) (oj:Oper),l[j]?=some oj/\oj.dst=some t
  ·obtain⟨j,oj,hj,hd⟩:=hw
   rcases(spec.2 j oj t hj hd).2 ht' with⟨c1,c2⟩|⟨c1,c2⟩
   ·rw[Uz hB s Vs hj hd i c1 (by omega)]
    refine inv.done t j oj (by omega) hj hd ?_;obtain⟨oi,g1,e,g2,g3,g4⟩:=Region.waitsFor_spec c2;have g1':l[i]?=some oi:=by simpa using g1
    rw[hol]at g1';obtain rfl:=Option.some.inj g1';rw[<-g4];exact hedges e g2 g3
   ·rw[Yw s Vs i fun j' oj' hj'' hj' hd'=>by
     have:=((Zu hB hj').2 j oj t hj hd).1 hd';omega]
    refine inv.still t fun j' oj' hj' hd'=>?_;have e:=((Zu hB hj').2 j oj t hj hd).1 hd';subst e;cases hl:listed.getD j' false with
    |false=>rfl
    |true=>
     exfalso;obtain⟨oi,g1,e,g2,g3,g4⟩:=Region.waitsFor_spec c2;have g1':l[j']?=some oi:=by simpa using g1
     have:=inv.closed j' oi g1' hl e g2 g3;rw[g4,hif]at this;cases this
  ·rw[Yw s Vs i fun j oj _ hj hd=>hw ⟨j,oj,hj,hd⟩]
   exact inv.still t fun j oj hj hd=>absurd ⟨j,oj,hj,hd⟩ hw
 ·rw[if_neg ht]
  trivial
theorem InvF.next{l:List Oper}{k:Nat}(hall:Xt n l=true)(hB:qaj l=true){Vs:List AVal}{s:Slots}{Ps ψ':PMap}(hle:Ps.le ψ'){listed:Array Bool}{a:Act}(inv:InvF l k Vs s Ps n listed a){i:Nat}{o:Oper}(hol:l[i]?=some o)
 (hedges:∀e∈o.after,Region.binds .any e=true->listed.getD e.on false=true) {v:Value} (hv:i<k->VR ψ' (Vs.getD i .dead) v):InvF l k Vs s ψ' n (listed.setIfInBounds i true) (a.put o.dst v):=by
 have hilt:i<l.length:=(Jw.1 hol).1;have hisz:i<listed.size:=by rw[inv.size];exact hilt
 have spec:=Zu hB hol;have hdn:∀d,o.dst=some d->d<n:=fun d hd=>qcI l i d hall (by rw[Yn,hol];exact hd);refine⟨by simp[inv.size],fun j oj hj hl e he hb=>?_,by rw[qea];exact inv.tsize,by rw[put_defers];exact inv.defers,fun t j oj hjk hj hd hl=>?_,fun t hun=>?_⟩
 ·by_cases e1:e.on=i
  ·rw[e1];exact set_self hisz
  ·rw[Zi e1]
   by_cases e2:j=i
   ·subst e2
    rw[hol]at hj;obtain rfl:=Option.some.inj hj;exact hedges e he hb
   ·rw[Zi e2]at hl
    exact inv.closed j oj hj hl e he hb
 ·by_cases e:j=i
  ·subst e
   rw[hol]at hj;obtain rfl:=Option.some.inj hj;rw[qah a hd (by rw[inv.tsize];exact hdn t hd)];exact hv hjk
  ·rw[Zi e]at hl
   rw[UB a fun hod=>e (((spec.2 j oj t hj hd).1 hod).symm)];exact WB hle _ _ (inv.done t j oj hjk hj hd hl)
 ·have hne:o.dst≠some t:=fun hod=>by
   have:=hun i o hol hod;rw[set_self hisz]at this;cases this
  rw[UB a hne];refine WB hle _ _ (inv.still t fun j oj hj hd=>?_);have e:j≠i:=fun e=>by subst e;rw[hol]at hj;obtain rfl:=Option.some.inj hj;exact hne hd
  have:=hun j oj hj hd
  rwa [Zi e]at this
def qiV(P:Program)(w0:World)(l:List Oper)(k:Nat)(late ks:List Nat)(hf:AHeap)(Vs:List AVal)(K:Slots->AHeap->Prop)(listed:Array Bool)(Ps:PMap)(a:Act)(w:World):Prop:=
 ∃p S g,k<=p/\p<=l.length/\(∀t,k<=t->t<l.length->(listed.getD t false=true↔t<p))/\(∀i,i<k->late.contains i=false->listed.getD i false=true)/\HRel w0 Ps g w/\qpG P w0 ks (l.drop p) S g K/\(∀j∈ks,g j=hf j)/\
  (∀i oi t,i<k->l[i]?=some oi->oi.dst=some t->S.get t=Vs.getD i .dead)/\
  ∀t,(∃i oi,i<k/\l[i]?=some oi/\oi.dst=some t/\listed.getD i false=false)\/VR Ps (S.get t) (a.tmps.getD t undef)
def qob(w0:World)(H0:AHeap)(l:List Oper)(k N:Nat)(bl:List (Option Blk))(listed:Array Bool)(Ps:PMap)(w:World):Prop:=
 (∀t,k<=t->t<l.length->listed.getD t false=false)/\HH w0 H0 N bl listed Ps w
theorem qpJ{l:List Oper}{k:Nat}{late:List Nat}(F:FloatS P l k late){Vs:List AVal}{s:Slots}{Ps:PMap}{listed:Array Bool}{a:Act}(inv:InvF l k Vs s Ps n listed a)(hkl:k<l.length)
 (hedges:∀o,l[k]?=some o->∀e∈o.after,Region.binds .any e=true->listed.getD e.on false=true):∀d i,i+d=k->i<k->late.contains i=false->listed.getD i false=true:=by
 intro d;induction d using Jt with
 |ind d ih=>
  intro i hd hik hl;obtain⟨j,h1,h2,h3,h4⟩:=F.sink i hik hl hkl;obtain⟨oj,g1,e,g2,g3,g4⟩:=Region.waitsFor_spec h4;have g1':l[j]?=some oj:=by simpa using g1
  rw[<-g4];rcases Jy h2 with e'|e'
  ·subst e'
   exact hedges oj g1' e g2 g3
  ·exact inv.closed j oj g1' (ih (k-j) (by omega) j (by omega) e' h3) e g2 g3
theorem any_okF{l:List Oper}{k:Nat}{late ks:List Nat}(hall:Xt n l=true)(F:FloatS P l k late){s:Slots}{Vs:List AVal}{N:Nat}{bl:List (Option Blk)}(hbl:bl.length=k)
 (hst:∀i o,i<k->l[i]?=some o->HeadStep P w0 n H0 l N bl (Xz s l Vs i) i o (Vs.getD i .dead))
 (hlb:∀i,late.contains i=true->bl.getD i none=none)
 (hlo:qgH l ks (Xz s l Vs k) late)
 (hlate:∀i o,late.contains i=true->l[i]?=some o->∃H,(∀j b,H j=some b->(gOf H0 N bl fun _=>true) j=some b)/\(pop P w0 H ((Xz s l Vs i).keep (Xv l o)) o.op).pre/\Vs.getD i .dead=(pop P w0 H ((Xz s l Vs i).keep (Xv l o)) o.op).val)
 {K:Slots->AHeap->Prop} (hK:qpG P w0 ks (l.drop k) (Xz s l Vs k) (gOf H0 N bl fun _=>true) K) {fi:PMap} {Q:Exit->Act->World->Prop}
 (hq:∀Ps S g a w,fi.le Ps->HRel w0 Ps g w->SRel Ps n S a->K S g->Q .normal a w):∀(fuel:Nat) (listed:Array Bool) (a:Act) (w:World) (Ps:PMap),fi.le Ps->InvF l k Vs s Ps n listed a->
 (qob w0 H0 l k N bl listed Ps w\/qiV P w0 l k late ks (gOf H0 N bl fun _=>true) Vs K listed Ps a w)->(listed.toList.filter (!·)).length<=fuel->wpAny P .any l.toArray Q fuel listed a w:=by
 have hB:=F.order;have turn:∀(listed:Array Bool) (a:Act) (w:World) (Ps:PMap),InvF l k Vs s Ps n listed a->qob w0 H0 l k N bl listed Ps w->(∀i,i<k->late.contains i=false->listed.getD i false=true)->qiV P w0 l k late ks (gOf H0 N bl fun _=>true) Vs K listed Ps a w:=by
  intro listed a w Ps inv ⟨h1,h2,h3⟩ hd;have hS:∀i oi t,i<k->l[i]?=some oi->oi.dst=some t->(Xz s l Vs k).get t=Vs.getD i .dead:=fun i oi t hi ho hdt=>Uz hB s Vs ho hdt k hi F.kle;refine⟨k,_,_,KL _,F.kle,fun t ht htl=>?_,hd,?_,hK,fun _ _=>rfl,hS,fun t=>?_⟩
  ·rw[h1 t ht htl]
   simp;omega
  ·have e:(gOf H0 N bl fun i=>listed.getD i false)=gOf H0 N bl fun _=>true:=by
    funext j;simp only[gOf,cond_true];by_cases c:N<=j
    ·rw[if_pos c,if_pos c]
     cases hl:listed.getD (j-N) false with
     |true=>rfl
     |false=>
      simp only[cond_false];cases hc:late.contains (j-N)with
      |true=>exact(hlb _ hc).symm
      |false=>
       by_cases c2:j-N<k
       ·rw[hd _ c2 hc]at hl;cases hl
       ·have:bl[j-N]?=none:=Kr (by omega)
        simp[Ko,this]
    ·rw[if_neg c,if_neg c]
   rw[<-e];exact h2
  ·by_cases hw:∃i oi,i<k/\l[i]?=some oi/\oi.dst=some t
   ·obtain⟨i,oi,c1,c2,c3⟩:=hw
    cases hl:listed.getD i false with
    |false=>exact .inl ⟨i,oi,c1,c2,c3,hl⟩
    |true=>
     right;rw[hS i oi t c1 c2 c3];exact inv.done t i oi c1 c2 c3 hl
   ·right
    rw[Yw s Vs k fun j oj hj ho hd'=>hw ⟨j,oj,hj,ho,hd'⟩];refine inv.still t fun j oj ho hd'=>?_;rcases KT j k with c|c
    ·exact absurd ⟨j,oj,c,ho,hd'⟩ hw
    ·exact h1 j c (Jw.1 ho).1
 have fin:∀(listed:Array Bool) (a:Act) (w:World) (Ps:PMap),fi.le Ps->InvF l k Vs s Ps n listed a->(qob w0 H0 l k N bl listed Ps w\/qiV P w0 l k late ks (gOf H0 N bl fun _=>true) Vs K listed Ps a w)->Region.ready .any l.toArray listed=[]->Q .normal a w:=by
  intro listed a w Ps hle inv hph hrd;have hal:=qdK hB inv.size hrd;have hT:qiV P w0 l k late ks (gOf H0 N bl fun _=>true) Vs K listed Ps a w:=by
   rcases hph with hph|hph
   ·exact turn listed a w Ps inv hph fun i hi _=>hal i (by have:=F.kle;omega)
   ·exact hph
  obtain⟨p,S,g,h1,h2,h3,h4,h5,h6,_,h7,h8⟩:=hT;have hp:p=l.length:=by
   rcases Jy h2 with e|e
   ·exact e
   ·have:=(h3 p h1 e).1 (hal p e)
    omega
  subst hp;rw[J8]at h6;refine hq Ps S g a w hle h5 ⟨inv.tsize,inv.defers,fun t=>?_⟩ h6;rcases h8 t with⟨i,oi,c1,c2,_,c4⟩|c
  ·rw[hal i (Jw.1 c2).1]at c4;cases c4
  ·exact c
 intro fuel;induction fuel with
 |zero=>
  intro listed a w Ps hle inv hph hc;have hrd:Region.ready .any l.toArray listed=[]:=by
   cases hrd:Region.ready .any l.toArray listed with
   |nil=>rfl
   |cons i r=>
    exfalso;have hm:i∈Region.ready .any l.toArray listed:=by rw[hrd];exact Je
    obtain⟨h1,o,ho,_⟩:=mem_ready.1 hm;have hi:i<listed.size:=by
     have:l[i]?=some o:=by simpa using ho
     rw[inv.size];exact(Jw.1 this).1
    have h2:listed.toList[i]?=some false:=by
     simp[JC,hi]at h1;simp[hi,h1]
    have:=JK h2;have hmem:false∈listed.toList.filter (!·):=by simp[JJ,this]
    have:=JL hmem;omega
  exact⟨hrd,fin listed a w Ps hle inv hph hrd⟩
 |succ fuel ih=>
  intro listed a w Ps hle inv hph hc;refine⟨fun hrd=>fin listed a w Ps hle inv hph hrd,fun i hi=>?_⟩;obtain⟨h1,o,ho,hedges⟩:=mem_ready.1 hi;have hol:l[i]?=some o:=by simpa using ho
  have hilt:i<l.length:=(Jw.1 hol).1;have hisz:i<listed.size:=by rw[inv.size];exact hilt
  have hif:listed.getD i false=false:=by simp[JC,hisz]at h1|-;exact h1
  have hcount:((listed.setIfInBounds i true).toList.filter (!·)).length<=fuel:=by
   have h2:listed.toList[i]?=some false:=by
    simp[JC,hisz]at h1;simp[hisz,h1]
   have:=qbY listed.toList i h2;have e:(listed.setIfInBounds i true).toList=listed.toList.set i true:=by simp
   rw[e];omega
  have goal:(if Region.wanted o (yielded l.toArray a.tmps)=true then o.wp P a w (wpAny P .any l.toArray Q fuel (listed.setIfInBounds i true)) Q else wpAny P .any l.toArray Q fuel (listed.setIfInBounds i true) (a.put o.dst undef) w):=by
   have tailstep:∀(hT:qiV P w0 l k late ks (gOf H0 N bl fun _=>true) Vs K listed Ps a w),k<=i->(if Region.wanted o (yielded l.toArray a.tmps)=true then o.wp P a w (wpAny P .any l.toArray Q fuel (listed.setIfInBounds i true)) Q else wpAny P .any l.toArray Q fuel (listed.setIfInBounds i true) (a.put o.dst undef) w):=by
    rintro⟨p,S,g,t1,t2,t3,t4,t5,t6,tk,t7,t8⟩ hki;have hg:=F.tailg i o hki hol;have hw:Region.wanted o (yielded l.toArray a.tmps)=true:=by simp[Region.wanted,hg]
    rw[if_pos hw];have hpi:p<=i:=by
     refine Kt fun hlt=>?_;rw[(t3 i hki hilt).2 hlt]at hif;cases hif
    have hip:i=p:=by
     rcases Jy hpi with e|e
     ·exact e.symm
     ·exfalso
      have hch:=F.chain i (by omega) hilt;obtain⟨oi,g1,e',g2,g3,g4⟩:=Region.waitsFor_spec hch;have g1':l[i]?=some oi:=by simpa using g1
      rw[hol]at g1';obtain rfl:=Option.some.inj g1';have h5:=hedges e' g2 g3;rw[g4]at h5;have:=(t3 (i-1) (by omega) (by omega)).1 h5;omega
    subst hip;have hdrop:l.drop i=o::l.drop (i+1):=by
     rw[J9 hilt];congr 1;exact(Jw.1 hol).2
    rw[hdrop]at t6;have t6:=t6.2;have spec:=Zu hB hol;have hlook:∀t,t∈Xv l o->VR Ps (S.get t) (a.tmps.getD t undef):=by
     intro t ht;rcases t8 t with⟨j,oj,c1,c2,c3,c4⟩|c
     ·exfalso
      rcases(spec.2 j oj t c2 c3).2 ht with⟨d1,d2⟩|⟨d1,d2⟩
      ·obtain⟨oi,g1,e',g2,g3,g4⟩:=Region.waitsFor_spec d2
       have g1':l[i]?=some oi:=by simpa using g1
       rw[hol]at g1';obtain rfl:=Option.some.inj g1';have:=hedges e' g2 g3;rw[g4,c4]at this;cases this
      ·omega
     ·exact c
    have hs:SRel Ps n (S.keep (Xv l o)) a:=by
     refine⟨inv.tsize,inv.defers,fun t=>?_⟩;rw[JM];by_cases ht:(Xv l o).contains t=true
     ·rw[if_pos ht];exact hlook t (by simpa using ht)
     ·rw[if_neg ht];trivial
    have t6':=t6;rw[<-qeN (s':=S.keep (Xv l o)) o.op (qfp fun t ht=>by unfold Xv;exact Va _ ht)]at t6';refine qfr o t6' t5 hs fun ψ' x h' v w' e1 e2 e3 ⟨ek,e4⟩=>?_;refine ih _ _ _ ψ' (JN hle e1) (inv.next hall hB e1 hol hedges fun hik=>absurd hik (by omega)) (.inr ⟨i+1,_,h',by omega,by omega,fun t ht htl=>?_,fun j hj hl=>?_,e2,e4,fun j hj=>(ek j hj).trans (tk j hj),fun j oj t hj hoj hd=>?_,fun t=>?_⟩) hcount
    ·by_cases e:t=i
     ·subst e
      rw[set_self hisz];simp
     ·rw[Zi e,t3 t ht htl]
      omega
    ·rw[Zi (by omega)]
     exact t4 j hj hl
    ·rw[YG,if_neg fun hod=>by have:=(spec.2 j oj t hoj hd).1 hod;omega]
     exact t7 j oj t hj hoj hd
    ·by_cases hod:o.dst=some t
     ·right
      rw[YG,if_pos hod,qah a hod (by rw[inv.tsize];exact qcI l i t hall (by rw[Yn,hol];exact hod))];exact e3
     ·rcases t8 t with⟨j,oj,c1,c2,c3,c4⟩|c
      ·exact .inl ⟨j,oj,c1,c2,c3,by rw[Zi (by omega)];exact c4⟩
      ·right
       rw[YG,if_neg hod,UB a hod];exact WB e1 _ _ c
   rcases hph with hH|hT
   ·rcases KT i k with hik|hki
    ·
     refine hst i o hik hol listed Ps w a _ Q hif hisz hH.2 (inv.looks hB hik hol hif hedges) fun ψ' v w' hle' hh' hv=>?_;exact ih _ _ _ ψ' (JN hle hle') (inv.next hall hB hle' hol hedges fun _=>hv) (.inl ⟨fun t ht htl=>by rw[Zi (by omega)];exact hH.1 t ht htl,hh'⟩) hcount
    ·have hik:i=k:=by
      rcases Jy hki with e|e
      ·exact e.symm
      ·exfalso
       have hch:=F.chain i e hilt;obtain⟨oi,g1,e',g2,g3,g4⟩:=Region.waitsFor_spec hch;have g1':l[i]?=some oi:=by simpa using g1
       rw[hol]at g1';obtain rfl:=Option.some.inj g1';have h5:=hedges e' g2 g3;rw[g4,hH.1 (i-1) (by omega) (by omega)]at h5;cases h5
     refine tailstep (turn listed a w Ps inv hH fun j hj hl=>?_) hki;exact qpJ F inv (by omega) (fun o' ho'=>by
      subst hik;rw[hol]at ho';obtain rfl:=Option.some.inj ho';exact hedges) (k-j) j (by omega) hj hl
   ·rcases KT i k with hik|hki
    ·
     obtain⟨p,S,g,t1,t2,t3,t4,t5,t6,tk,t7,t8⟩:=hT;have hlt:late.contains i=true:=by
      cases hc:late.contains i with
      |true=>rfl
      |false=>rw[t4 i hik hc]at hif;cases hif
     obtain⟨hg,hhl,hkf⟩:=F.lateo i o hlt hol;have hw:Region.wanted o (yielded l.toArray a.tmps)=true:=by simp[Region.wanted,hg]
     rw[if_pos hw];obtain⟨H,q0,q1,q2⟩:=hlate i o hlt hol;have hs:=inv.looks hB hik hol hif hedges;have same:pop P w0 g ((Xz s l Vs i).keep (Xv l o)) o.op=pop P w0 H ((Xz s l Vs i).keep (Xv l o)) o.op:=by
      rcases hhl with hhl|hhl
      ·exact qkm hhl
      ·cases hop:o.op with
       |load ty x=>
        rw[hop]at q1;refine qpE ?_ q1;have hev:ev ((Xz s l Vs i).keep (Xv l o)) x=ev (Xz s l Vs k) x:=by
         rw[Yh (Zv (by rw[hop];simp[Op.operands]))];cases x with
         |tmp t=>
          have htl:t∈Xv l o:=Zv (x:= .tmp t) (by rw[hop];simp[Op.operands]) t rfl;simp only[ev];have noW:∀m,i<=m->m<=k->(Xz s l Vs m).get t=(Xz s l Vs i).get t:=by
           intro m;induction m with
           |zero=>intro h1 _;rw[Nat.le_zero.1 h1]
           |succ m ihm=>
            intro h1 h2;rcases Jy h1 with e|e
            ·rw[e]
            ·rw[Xz]
             cases hm:l[m]? with
             |none=>exact ihm (by omega) (by omega)
             |some om=>
              simp only;rw[YG,if_neg fun hd=>?_]
              ·exact ihm (by omega) (by omega)
              ·rcases Jy (show i<=m by omega)with e'|e'
               ·subst e'
                rw[hol]at hm;obtain rfl:=Option.some.inj hm;rcases((Zu hB hol).2 i o t hol hd).2 htl with⟨c,_⟩|⟨c,_⟩<;>omega
               ·exact F.latew i o hlt hol m om t e' (by omega) hm hd htl
          exact(noW k (by omega) (KL _)).symm
         |_=>rfl
        rcases qim hlo i (by simpa using hlt) o ty x hol hop with⟨j,pp,c1,c2⟩|⟨b,pp,c1⟩
        ·exact .inl ⟨j,pp,by rw[hev];exact c1,fun b hb=>by rw[tk j c2];exact q0 j b hb⟩
        ·exact .inr ⟨b,pp,by rw[hev];exact c1⟩
       |_=>rw[hop]at hhl;cases hhl
     rw[<-same]at q1 q2;obtain⟨r,e1,e2⟩:=qgB o q1 t5 hs;rw[<-q2]at e2;refine Zn (e1 w (J3 w)) ?_;refine ih _ _ _ Ps hle (inv.next hall hB Ps.le_refl hol hedges fun _=>e2) (.inr ⟨p,S,g,t1,t2,fun t ht htl=>?_,fun j hj hl=>?_,t5,t6,tk,t7,fun t=>?_⟩) hcount
     ·rw[Zi (by omega)];exact t3 t ht htl
     ·by_cases e:j=i
      ·subst e;exact set_self hisz
      ·rw[Zi e];exact t4 j hj hl
     ·by_cases hod:o.dst=some t
      ·right
       rw[t7 i o t hik hol hod,qah a hod (by rw[inv.tsize];exact qcI l i t hall (by rw[Yn,hol];exact hod))];exact e2
      ·rcases t8 t with⟨j,oj,c1,c2,c3,c4⟩|c
       ·refine .inl ⟨j,oj,c1,c2,c3,?_⟩
        have e:j≠i:=fun e=>by subst e;rw[hol]at c2;obtain rfl:=Option.some.inj c2;exact hod c3
        rw[Zi e];exact c4
       ·right
        rw[UB a hod];exact c
    ·exact tailstep hT hki
  simp only[wpOp,ho];split
  ·rename_i hw
   rw[if_pos hw]at goal;exact .inl goal
  ·rename_i hw
   rw[if_neg hw]at goal;exact goal
theorem qnM{Q:Exit->Slots->AHeap->Prop}{s:Slots}{h:AHeap}{id:Nat}{l:List Oper}(k:Nat)(late ks:List Nat)(hm:P.follows .mixedOrders=true)(hB:qiu P l k late=true)(hd:Xt n l=true)
 (hc:Yk P w0 l h (l.take k) s h (fun s' h'=>qgH l ks s' late/\qpG P w0 ks (l.drop k) s' h' fun s'' h''=>Q .normal s'' h'')):Awp P w0 n (.region id l.toArray true) Q s h:=by
 refine JO ?_;intro fi a w hr hs;have F:=qho hB;obtain⟨N₀,hN₀⟩:=hr.fin;obtain⟨N,hN1,hNt⟩:=qld N₀ l.length;have hNφ:∀j,N<=j->fi j=none:=fun j hj=>hN₀ j (Vb hN1 hj);have hN:∀j,N<=j->h j=none:=fun j hj=>hr.free (hNφ j hj);have hg0:gOf h N [] (fun _=>true)=h:=by
  funext j;simp only[gOf,cond_true];by_cases c:N<=j
  ·rw[if_pos c,hN j c];rfl
  ·rw[if_neg c]
 have htl:(l.take k).length=k:=by have:=F.kle;simp;omega
 obtain⟨Vs,bl,g1,g2,g3,g4⟩:=qiA (P:=P) (w0:=w0) (n:=n) (H0:=h) hd hN hNt (l.drop k) (s:=s) (l.take k) [] [] [] (by simp) rfl rfl (by rw[hg0];exact hc);simp only[Jd,JD,Jq,true_implies,Jp,htl]at g1 g2 g3 g4;refine wp_region_any hm ?_;have hf:∀j,(Ju l.toArray.size false).getD j false=false:=fun j=>by simp[JC]
 refine any_okF (fi:=fi) hd F (s:=s) (Vs:=Vs) (N:=N) (bl:=bl) g2 (fun i o hi ho=>(g3 i o hi ho).2.1) (fun i hl=>?_) g4.1 (fun i o hl ho=>?_) g4.2 (fun Ps S g a' w' hle h1 h2 h3=>⟨Ps,S,g,hle,h1,h2,h3⟩) _ _ _ _ fi fi.le_refl
  ⟨by simp,fun j oj _ hl=>(by rw[hf]at hl;cases hl),hs.size,hs.defers,fun t j oj _ _ _ hl=>(by rw[hf]at hl;cases hl),fun t _=>hs.val t⟩ (.inl ⟨fun t _ _=>hf t,?_,fun i hi _=>hNφ _ (by omega)⟩) ?_
 ·obtain⟨o,ho⟩:∃o,l[i]?=some o:=⟨_,JB (by have:=F.latek i hl;have:=F.kle;omega)⟩
  obtain⟨_,_,q3⟩:=F.lateo i o hl ho;exact((g3 i o (F.latek i hl) ho).2.2 q3).1
 ·obtain⟨q1,q2,q3⟩:=F.lateo i o hl ho
  exact((g3 i o (F.latek i hl) ho).2.2 q3).2 q1
 ·have e:(gOf h N bl fun i=>(Ju l.toArray.size false).getD i false)=h:=by
   funext j;simp only[gOf,hf,cond_false];by_cases c:N<=j
   ·rw[if_pos c,hN j c]
   ·rw[if_neg c]
  rw[e];exact hr.drew
 ·have:=Vd (!·) (Ju l.toArray.size false).toList
  simpa using this
def qeJ(l:List Oper)(late:List Nat):Bool:=late.all fun i=>match l[i]? with|some o=> !isLoad o.op|none=>true
theorem qdO{l:List Oper}{s:Slots}:∀{late:List Nat},qeJ l late=true->qgH l [] s late
 |[],_=>trivial
 |i::r,h=>by
  unfold qeJ at h;simp only[List.all_cons,Ky]at h;refine⟨?_,qdO h.2⟩;cases hi:l[i]? with
  |none=>trivial
  |some o=>
   simp only;have h1:=h.1;rw[hi]at h1;simp only[Jh]at h1;cases hop:o.op<;>first|trivial|(rw[hop]at h1;cases h1)
theorem qft{Q:Exit->Slots->AHeap->Prop}{s:Slots}{h:AHeap}{id:Nat}{l:List Oper}(k:Nat)(late:List Nat)(hm:P.follows .mixedOrders=true)(hB:(qiu P l k late && qeJ l late)=true)(hd:Xt n l=true)
 (hc:Yk P w0 l h (l.take k) s h (fun s' h'=>Xp P w0 l (l.drop k) s' h' fun s'' h''=>Q .normal s'' h'')):Awp P w0 n (.region id l.toArray true) Q s h:=by
 rw[Ky]at hB;have F:=qho hB.1;refine qnM k late [] hm hB.1 hd (qbW (fun s' h' ha=>⟨qdO hB.2,qfR (fun o ho=>?_) ha⟩) hc);obtain⟨j,hj⟩:=List.getElem?_of_mem ho;rw[Kq]at hj;exact F.tailg (k+j) o (by omega) hj
theorem qbg{Q:Exit->Slots->AHeap->Prop}{s:Slots}{h:AHeap}{id:Nat}{l:List Oper}{y:Code}(k:Nat)(late L:List Nat)(hm:P.follows .mixedOrders=true)(hB:(qiu P l k late && qeJ l late)=true)(hd:Xt n l=true)
 (hc:∀K:Slots->AHeap->Prop,(∀s h,Awp P w0 n y Q s h->K s h)->Yk P w0 l h (l.take k) s h (fun s' h'=>Xp P w0 l (l.drop k) s' h' fun s'' h''=>K (s''.keep L) h'')):Awp P w0 n (.seq (.region id l.toArray true) y) Q s h:=
 Qp (qft k late hm hB hd (qbW (fun _ _ ha=>awp_rseq.aOps_mono (fun _ _ hk=>JP L hk) ha) (hc (fun s h=>Awp P w0 n y Q s h) (fun _ _ hk=>hk))))
end
section
variable {P:Program} {w0:World} {ops rest:List Oper} {s:Slots} {h H0:AHeap} {K:Slots->AHeap->Prop} {dst:Option Tmp} {ty:TypeId} {pos:String} {af:Array Edge}
theorem qj:Yk P w0 ops H0 [] s h K=K s h:=rfl
theorem qfc{op:Op}(hk:Wz P op=2):Yk P w0 ops H0 (⟨dst,op,ty,pos,af,none⟩::rest) s h K=((pop P w0 h s op).pre/\Yk P w0 ops H0 rest (putD s dst (pop P w0 h s op).val) h K):=by
 have e:pop P w0 h (s.keep (Xv ops ⟨dst,op,ty,pos,af,none⟩)) op=pop P w0 h s op:=qeG op (qfp fun t ht=>by unfold Xv;exact Va _ ht);have h0:¬Wz P op=0:=by omega
 simp only[Yk,if_neg h0,qfb,if_pos hk,e];exact propext ⟨fun⟨V,⟨h1,h2⟩,h3⟩=>⟨h1,h2 ▸ h3⟩,fun⟨h1,h2⟩=>⟨_,⟨h1,rfl⟩,h2⟩⟩
def fgP(P:Program)(w0:World)(ops rest:List Oper)(H0:AHeap)(s:Slots)(h:AHeap)(K:Slots->AHeap->Prop)(dst:Option Tmp)(g:AVal)(want:Bool)(r:PR):Prop:=
 Ww g=true/\(XB g want=true->r.pre)/\Yk P w0 ops H0 rest (putD s dst (QW (XB g want) r.val)) h K
def fgQ(P:Program)(w0:World)(ops rest:List Oper)(H0:AHeap)(s:Slots)(h:AHeap)(K:Slots->AHeap->Prop)(dst:Option Tmp)(want:Bool)(r:PR):Option Tmp->Prop
 |none=>Yk P w0 ops H0 rest (putD s dst (.tuple [])) h K
 |some d=>fgP P w0 ops rest H0 s h K dst (s.get d) want r
theorem qiz{want:Bool}{r:PR}{d:Tmp}:fgQ P w0 ops rest H0 s h K dst want r (some d)=fgP P w0 ops rest H0 s h K dst (s.get d) want r:=rfl
theorem qiy{op:Op}{j:Nat}{want:Bool}(hk:Wz P op=2):Yk P w0 ops H0 (⟨dst,op,ty,pos,af,some (j,want)⟩::rest) s h K=fgQ P w0 ops rest H0 s h K dst want (pop P w0 h s op) (QB ops j):=by
 have e:pop P w0 h (s.keep (Xv ops ⟨dst,op,ty,pos,af,some (j,want)⟩)) op=pop P w0 h s op:=qeG op (qfp fun t ht=>by unfold Xv;exact Va _ ht);have h0:¬Wz P op=0:=by omega
 simp only[Yk,if_neg h0];cases QB ops j with
 |none=>rfl
 |some d=>
  simp only[fgQ,fgP,qfb,if_pos hk,e];refine propext ⟨fun⟨g0,V,g1,g2⟩=>?_,fun⟨g0,g1,g2⟩=>⟨g0,_,fun hg=>⟨g1 hg,rfl⟩,g2⟩⟩;cases hg:XB (s.get d) want with
  |false=>
   rw[hg]at g2;exact⟨g0,fun e=>(by cases e),g2⟩
  |true=>
   obtain⟨c1,c2⟩:=g1 hg;subst c2;rw[hg]at g2;exact⟨g0,fun _=>c1,g2⟩
theorem qnk{t u:TypeId}{x:Operand}(hs:(!Yj P t u && !qcE P t u)=true):Wz P (.convert t u x)=2:=by
 simp only[Ky,Jh]at hs;simp[Wz,hs.1,hs.2]
theorem qbl(x:Operand):Yk P w0 ops H0 (⟨dst, .move x,ty,pos,af,none⟩::rest) s h K=((pop P w0 h s (.move x)).pre/\Yk P w0 ops H0 rest (putD s dst (pop P w0 h s (.move x)).val) h K):=qfc (by rfl)
theorem qoE(x:Operand){j:Nat}{want:Bool}:Yk P w0 ops H0 (⟨dst, .move x,ty,pos,af,some (j,want)⟩::rest) s h K=fgQ P w0 ops rest H0 s h K dst want (pop P w0 h s (.move x)) (QB ops j):=qiy (by rfl)
theorem qky(c a b:Operand):Yk P w0 ops H0 (⟨dst, .pick c a b,ty,pos,af,none⟩::rest) s h K=((pop P w0 h s (.pick c a b)).pre/\Yk P w0 ops H0 rest (putD s dst (pop P w0 h s (.pick c a b)).val) h K):=qfc (by rfl)
theorem qfT(o:BinOp)(t:TypeId)(x y:Operand)(u:TypeId):Yk P w0 ops H0 (⟨dst, .binOp o t x y u,ty,pos,af,none⟩::rest) s h K=((pop P w0 h s (.binOp o t x y u)).pre/\Yk P w0 ops H0 rest (putD s dst (pop P w0 h s (.binOp o t x y u)).val) h K):=qfc (by rfl)
theorem qlR(o:BinOp)(t:TypeId)(x y:Operand)(u:TypeId){j:Nat}{want:Bool}:Yk P w0 ops H0 (⟨dst, .binOp o t x y u,ty,pos,af,some (j,want)⟩::rest) s h K=fgQ P w0 ops rest H0 s h K dst want (pop P w0 h s (.binOp o t x y u)) (QB ops j):=qiy (by rfl)
theorem fg_unOp(o:UnOp)(t:TypeId)(x:Operand){j:Nat}{want:Bool}:Yk P w0 ops H0 (⟨dst, .unOp o t x,ty,pos,af,some (j,want)⟩::rest) s h K=fgQ P w0 ops rest H0 s h K dst want (pop P w0 h s (.unOp o t x)) (QB ops j):=qiy (by rfl)
theorem qbm(t:TypeId)(x:Operand):Yk P w0 ops H0 (⟨dst, .load t x,ty,pos,af,none⟩::rest) s h K=((pop P w0 h s (.load t x)).pre/\Yk P w0 ops H0 rest (putD s dst (pop P w0 h s (.load t x)).val) h K):=qfc (by rfl)
theorem qoF(t:TypeId)(x:Operand){j:Nat}{want:Bool}:Yk P w0 ops H0 (⟨dst, .load t x,ty,pos,af,some (j,want)⟩::rest) s h K=fgQ P w0 ops rest H0 s h K dst want (pop P w0 h s (.load t x)) (QB ops j):=qiy (by rfl)
theorem WA(t:TypeId)(x:Operand)(f:Nat):Yk P w0 ops H0 (⟨dst, .fieldAddr t x f,ty,pos,af,none⟩::rest) s h K=((pop P w0 h s (.fieldAddr t x f)).pre/\Yk P w0 ops H0 rest (putD s dst (pop P w0 h s (.fieldAddr t x f)).val) h K):=qfc (by rfl)
theorem qfZ(t:TypeId)(x:Operand)(f:Nat){j:Nat}{want:Bool}:Yk P w0 ops H0 (⟨dst, .fieldAddr t x f,ty,pos,af,some (j,want)⟩::rest) s h K=fgQ P w0 ops rest H0 s h K dst want (pop P w0 h s (.fieldAddr t x f)) (QB ops j):=qiy (by rfl)
theorem WV(t:TypeId)(x i:Operand):Yk P w0 ops H0 (⟨dst, .indexAddr t x i,ty,pos,af,none⟩::rest) s h K=((pop P w0 h s (.indexAddr t x i)).pre/\Yk P w0 ops H0 rest (putD s dst (pop P w0 h s (.indexAddr t x i)).val) h K):=qfc (by rfl)
theorem qfY(t:TypeId)(x i:Operand){j:Nat}{want:Bool}:Yk P w0 ops H0 (⟨dst, .indexAddr t x i,ty,pos,af,some (j,want)⟩::rest) s h K=fgQ P w0 ops rest H0 s h K dst want (pop P w0 h s (.indexAddr t x i)) (QB ops j):=qiy (by rfl)
theorem qan(x:Operand):Yk P w0 ops H0 (⟨dst, .nilCheck x,ty,pos,af,none⟩::rest) s h K=((pop P w0 h s (.nilCheck x)).pre/\Yk P w0 ops H0 rest (putD s dst (pop P w0 h s (.nilCheck x)).val) h K):=qfc (by rfl)
theorem qhr(x:Operand){j:Nat}{want:Bool}:Yk P w0 ops H0 (⟨dst, .nilCheck x,ty,pos,af,some (j,want)⟩::rest) s h K=fgQ P w0 ops rest H0 s h K dst want (pop P w0 h s (.nilCheck x)) (QB ops j):=qiy (by rfl)
theorem fp_len(a:List Operand)(t:Array TypeId):Yk P w0 ops H0 (⟨dst, .call ⟨.builtin .len,a.toArray,t⟩,ty,pos,af,none⟩::rest) s h K=((pop P w0 h s (.call ⟨.builtin .len,a.toArray,t⟩)).pre/\Yk P w0 ops H0 rest (putD s dst (pop P w0 h s (.call ⟨.builtin .len,a.toArray,t⟩)).val) h K):=qfc (by rfl)
theorem qnp(t u:TypeId)(x:Operand)(hs:(!Yj P t u && !qcE P t u)=true):Yk P w0 ops H0 (⟨dst, .convert t u x,ty,pos,af,none⟩::rest) s h K=((pop P w0 h s (.convert t u x)).pre/\Yk P w0 ops H0 rest (putD s dst (pop P w0 h s (.convert t u x)).val) h K):=qfc (qnk hs)
theorem qis(t:TypeId)(ps:List (Nat×Operand)):Yk P w0 ops H0 (⟨dst, .build t ps.toArray,ty,pos,af,none⟩::rest) s h K=((pop P w0 h s (.build t ps.toArray)).pre/\Yk P w0 ops H0 rest (putD s dst (pop P w0 h s (.build t ps.toArray)).val) h K):=qfc (by rfl)
theorem qaM{op:Op}(hk:Wz P op=0)(he:Xp P w0 ops [⟨dst,op,ty,pos,af,none⟩] s h (fun s' h'=>Yk P w0 ops H0 rest s' h' K)):Yk P w0 ops H0 (⟨dst,op,ty,pos,af,none⟩::rest) s h K:=by
 simp only[Xp]at he;simp only[Yk,if_pos hk];refine⟨trivial,?_⟩;rw[qeN op (qfp fun t ht=>by unfold Xv;exact Va _ ht)];exact he
theorem qfo{fo:Operand}{args:List Operand}{ts:Array TypeId}{j:Nat}{want:Bool}{f:FuncId}{cap xs:List AVal}{V:AVal}(hk:Ww (gv s ops j)=true)
 (hf:XB (gv s ops j) want=true->ev s fo= .func f cap/\evs s args++cap=xs) (hV:V.okIn (fun k=>(H0 k).isSome)) (hc:XB (gv s ops j) want=true->∀g,Sub H0 g->ACall P w0 f xs g (fun x h'=>x=V/\h'=g))
 (hr:Yk P w0 ops H0 rest (putD s dst (QW (XB (gv s ops j) want) V)) h K):
 Yk P w0 ops H0 (⟨dst, .call ⟨.value fo,args.toArray,ts⟩,ty,pos,af,some (j,want)⟩::rest) s h K:=by
 unfold gv at hk hf hc hr;have h0:¬Wz P (.call ⟨.value fo,args.toArray,ts⟩)=0:=by simp[Wz]
 have h2:¬Wz P (.call ⟨.value fo,args.toArray,ts⟩)=2:=by simp[Wz]
 simp only[Yk,if_neg h0];cases hj:QB ops j with
 |none=>rw[hj]at hk;cases hk
 |some d=>
  simp only[hj]at hk hf hc hr|-
  refine⟨hk,V,fun hg=>?_,hr⟩;rw[qfb,if_neg h2];refine⟨rfl,hV,fun g hsub=>?_⟩;rw[qeN _ (qfp fun t ht=>by unfold Xv;exact Va _ ht)];simp only[eop,(hf hg).1,(hf hg).2];exact hc hg g hsub
theorem qo{ks:List Nat}:qpG P w0 ks [] s h K=K s h:=rfl
end
theorem AHeap.set_none(h:AHeap)(k j:Nat)(b:Blk):((h.set k b) j=none)=(j≠k/\k≠j/\h j=none):=by
 refine propext ⟨fun e=>?_,fun⟨e1,_,e2⟩=>by rw[Ve _ _ e1];exact e2⟩;have hne:j≠k:=fun e'=>by subst e';rw[Vf]at e;cases e
 exact⟨hne,Ne.symm hne,by rwa [Ve _ _ hne]at e⟩
theorem qM(w0:World)(h:AHeap){j k:Nat}(hj:j≠k)(b:Blk)(o:Nat):rd w0 (h.set k b) (.own j) o=rd w0 h (.own j) o:=rd_ne w0 h b hj o
theorem Sub.set_both{h h':AHeap}(hs:Sub h h')(k:Nat)(b:Blk):Sub (h.set k b) (h'.set k b):=fun j c e=>by
 by_cases ej:j=k
 ·subst ej;rw[Vf]at e|-;exact e
 ·rw[Ve _ _ ej]at e|-;exact hs j c e
theorem qF(b:Bool):(AVal.bool b).live=true:=rfl
theorem qG(k:IntKind)(n:Int):(AVal.int k n).live=true:=rfl
theorem qI(s:List UInt8):(AVal.str s).live=true:=rfl
theorem qf:AVal.nilPtr.live=true:=rfl
theorem qK(l:Loc)(o:Nat):(AVal.ptr l o).live=true:=rfl
theorem qa:AVal.nilSlice.live=true:=rfl
theorem qz(l:Loc)(o n:Nat)(c:Cap):(AVal.slice l o n c).live=true:=rfl
theorem qd:AVal.nilFunc.live=true:=rfl
theorem qE(f:FuncId)(c:List AVal):(AVal.func f c).live=true:=rfl
theorem qc:AVal.nilIface.live=true:=rfl
theorem qA(t:TypeId)(v:AVal):(AVal.iface t v).live=true:=rfl
theorem qg:AVal.nilMap.live=true:=rfl
theorem qN(k:Nat):(AVal.map k).live=true:=rfl
theorem qH(cs:List AVal):(AVal.agg cs).live=true:=rfl
theorem qy(cs:List AVal):(AVal.tuple cs).live=true:=rfl
section
variable {P:Program} {w0:World} {s:Slots} {h:AHeap}
end
section
variable {P:Program}
end
section
variable {P:Program} {w0:World} {ops rest:List Oper} {s:Slots} {h:AHeap} {K:Slots->AHeap->Prop} {dst:Option Tmp} {ty:TypeId} {pos:String} {af:Array Edge}
end
end Go.AM
namespace Go.AM
section
variable {P:Program} {w0:World} {ops rest:List Oper} {s:Slots} {h:AHeap} {K:Slots->AHeap->Prop} {dst:Option Tmp} {ty:TypeId} {pos:String} {af:Array Edge}
end
structure Buf where
 blk:Nat
 cells:List AVal
def qeY(es:Nat):Option Buf->AVal
 |none=> .nilSlice
 |some b=> .slice (.own b.blk) 0 (b.cells.length / es) (.grow es)
def qhA:Option Buf->List AVal
 |none=>[]
 |some b=>b.cells
def qeZ(h:AHeap):Option Buf->AHeap
 |none=>h
 |some b=>h.set b.blk ⟨b.cells,0⟩
def qhv(h:AHeap)(es:Nat):Option Buf->Prop
 |none=>True
 |some b=>h b.blk=none/\b.cells.length%es=0/\allLive b.cells=true
theorem Sub.buf{h:AHeap}{es:Nat}{b:Option Buf}(hb:qhv h es b):Sub h (qeZ h b):=by
 cases b with
 |none=>exact Vg _
 |some b=>exact Sub.set hb.1
theorem qjS(es:Nat)(b:Option Buf):(qeY es b).live=true:=by cases b<;>rfl
theorem qtg{H0 h:AHeap}{kb k':Nat}{B C:Blk}(h0:H0 kb=none)(hs:Sub (H0.set kb B) h)(hk':h k'=none):Sub (H0.set k' C) ((h.del kb).set k' C):=fun j c hj=>by
 by_cases e:j=k'
 ·subst e;rw[Vf]at hj|-;exact hj
 ·rw[Ve _ _ e]at hj|-
  have e2:j≠kb:=fun e2=>by subst e2;rw[h0]at hj;cases hj
  simp only[AHeap.del,e2,if_false];exact hs j c (by rw[Ve _ _ e2];exact hj)
section
variable {P:Program} {w0:World} {ops rest:List Oper} {s:Slots} {h:AHeap} {K:Slots->AHeap->Prop} {dst:Option Tmp} {ty:TypeId} {pos:String} {af:Array Edge}
theorem qiO{ts:Array TypeId}{t u e:TypeId}{d:TypeDesc}{x y:Operand}{v:AVal}{es by' m:Nat}{z:Value}{src:List AVal}{H0:AHeap}{b:Option Buf}
 (h0:ts[0]?=some t) (h1:ts[1]?=some u) (ht:P.underlying t=some (.slice e)) (hu:P.underlying u=some d) (hd:∀k,d≠ .int k)
 (hs:Yu P e=some es) (hb:qeo P e=some by') (hz:qap P e=some z) (hzs:z.cells.size=es) (hes:es≠0)
 (hx:ev s x=qeY es b) (hok:qhv H0 es b) (hh:Sub (qeZ H0 b) h) (hy:ev s y=v) (hm:qdY v=some m) (hp:qfk w0 h es m v) (hc:Yf w0 h es m v=src) (hsl:src.length=m*es) (hsc:XR src=true) (hlv:allLive src=true)
 (hl:((qhA b).length / es+m)*by'<=140737488355328) (hl':(qhA b).length / es+m<4611686018427387904)
 (hk:∀b' h',qhv H0 es b'->qhA b'=qhA b++src->Sub (qeZ H0 b') h'->Xp P w0 ops rest (putD s dst (qeY es b')) h' K):
 Xp P w0 ops (⟨dst, .call ⟨.builtin .append,[x,y].toArray,ts⟩,ty,pos,af,none⟩::rest) s h K:=by
 rw[qct];simp only[eop,evs,Ke,Vh,hx,hy,qeP,h0,h1,ht,hu,hs,hb,hz,hm];have hev:0<es:=Vi hes;cases b with
 |none=>
  refine⟨hd,⟨hes,hzs⟩,hp,?_⟩;simp only[qeY];simp only[qhA,JD,Nat.zero_div,Jp]at hl hl';refine⟨fun e0=>?_,fun e0=>⟨⟨hl,hl'⟩,fun k hk0 _=>?_⟩⟩
  ·have:src=[]:=Kg (by rw[hsl,e0,K7])
   exact hk none h trivial (by rw[this];rfl) hh
  ·have hsub:Sub (qeZ H0 (some ⟨k,src⟩)) (h.set k ⟨src,0⟩):=Sub.set_both hh k _
   have hk0':H0 k=none:=hh.none hk0;have e1:src.length / es=m:=by rw[hsl];exact Vj _ hev
   have:=hk (some ⟨k,src⟩) (h.set k ⟨src,0⟩) ⟨hk0',by simp only;rw[hsl];exact Nat.mul_mod_left _ _,hlv⟩ rfl hsub;simp only[qeY,e1]at this;rw[hc];exact this
 |some b=>
  obtain⟨o1,o2,o3⟩:=hok;simp only[qhA]at hl hl';have hkb:h b.blk=some ⟨b.cells,0⟩:=hh _ _ (Vf _ _ _);refine⟨hd,⟨hes,hzs⟩,hp,?_⟩;simp only[qeY,hkb];have hdiv:b.cells.length / es*es=b.cells.length:=Nat.div_mul_cancel (Nat.dvd_of_mod_eq_zero o2);refine⟨trivial,⟨by rw[Jp,hdiv],hl,hl',by rw[hc];exact hsc,by rw[Vk];exact o3, .inl trivial⟩,fun k hk0 _=>?_⟩;rw[hc,Vk];have hsub:Sub (qeZ H0 (some ⟨k,b.cells++src⟩)) ((h.del b.blk).set k ⟨b.cells++src,0⟩):=qtg o1 hh hk0;have hne:k≠b.blk:=fun e'=>by subst e';rw[hkb]at hk0;cases hk0
  have hk0':H0 k=none:=by
   have:=hh.none hk0
   rwa [show(qeZ H0 (some b))=H0.set b.blk ⟨b.cells,0⟩from rfl,Ve _ _ hne]at this
  have e1:(b.cells++src).length / es=b.cells.length / es+m:=by
   rw[Jb,hsl,Nat.add_mul_div_right _ _ hev]
  have e2:(b.cells++src).length%es=0:=by
   rw[Jb,hsl,Nat.add_mul_mod_self_right];exact o2
  have hlive:allLive (b.cells++src)=true:=by
   have:∀(a c:List AVal),allLive (a++c)=(allLive a && allLive c):=fun a c=>by
    induction a with
    |nil=>rfl
    |cons x a ih=>simp[allLive,ih,Vl]
   rw[this,o3,hlv];rfl
  have:=hk (some ⟨k,b.cells++src⟩) _ ⟨hk0',e2,hlive⟩ rfl hsub;simp only[qeY,e1]at this;exact this
end
end Go.AM
namespace Go.Col
set_option maxRecDepth 100000
abbrev Str:=List UInt8
structure FaultC where
 e:Int
 line:Int
 col:Int
 deriving DecidableEq
def okF:FaultC:=⟨0,0,0⟩
def okB(b:UInt8):Bool:=decide (32<=b.toNat) && decide (b.toNat<=126)
def badAt(s:Str):Option Nat:=s.findIdx? (fun b=> !okB b)
def trimL(s:Str):Str:=s.dropWhile (· ==32)
def sp(n:Nat):Str:=JW n 32
structure RowC where
 line:Int
 more:Bool
 text:Str
 col:Int
 deriving DecidableEq
def padE(s:Str):Str:=s++sp (72-s.length)
def rowE(s:Str)(line:Int):RowC:=⟨line,(padE s).getD 6 0==45,trimL (((padE s).drop 7).take 65),73-(trimL (((padE s).drop 7).take 65)).length⟩
end Go.Col
namespace Go.AM
def qcM(fn:Func):Code:=match fn.body with
 |some c=>c
 |none=> .skip
def WW:Nat->Code->Code
 |0,c=>c
 |k+1, .seq _ c=>WW k c
 |_+1,c=>c
def qhD:Code->Code
 | .scope c=>c
 |c=>c
def qdB(Q:Exit->Slots->AHeap->Prop):Exit->Slots->AHeap->Prop
 | .goto _,_,_=>False
 |e,s,h=>Q e s h
theorem qlB{Q:Exit->Slots->AHeap->Prop}{s:Slots}{h:AHeap}:qdB Q .ret s h=Q .ret s h:=rfl
theorem qaG{Q:Exit->Slots->AHeap->Prop}{s:Slots}{h:AHeap}:qdB Q .normal s h=Q .normal s h:=rfl
theorem qpW{P:Program}{w0:World}{n:FrameK}{s:Slots}{h:AHeap}{Q:Exit->Slots->AHeap->Prop}{c:Code}(hc:Awp P w0 n c (qdB Q) s h):Awp P w0 n (.scope c) Q s h:=
 fun fi a w hr hs=>wp_scope_straight (wp_mono (hc fi a w hr hs) fun e a' w' hq=>by
  rcases hq with⟨Ps,s',h',h1,h2,h3,h4⟩|hq
  ·cases e with
   |goto l=>exact h4.elim
   |normal=>exact .inl ⟨Ps,s',h',h1,h2,h3,h4⟩
   |exit i=>exact .inl ⟨Ps,s',h',h1,h2,h3,h4⟩
   |ret=>exact .inl ⟨Ps,s',h',h1,h2,h3,h4⟩
   |panic c=>exact .inl ⟨Ps,s',h',h1,h2,h3,h4⟩
   |outgrown=>exact .inl ⟨Ps,s',h',h1,h2,h3,h4⟩
  ·cases e with
   |goto l=>exact hq.1.elim
   |normal=>exact hq.1.elim
   |exit i=>exact hq.1.elim
   |ret=>exact .inr hq
   |panic c=>exact .inr hq
   |outgrown=>exact hq.1.elim)
inductive IsL(w0:World)(h:AHeap)(es:Nat):AVal->List (List AVal)->Prop
 |nil:IsL w0 h es .nilSlice []
 |mk (l:Loc) (o n:Nat) (c:Cap) (xs:List (List AVal)) (hn:n=xs.length) (hw:∀x∈xs,x.length=es) (hc:qC w0 h l o (n*es)=xs.flatten) (hl:allLive xs.flatten=true) (hcap:match c with| .exact c=>n<=c| .grow g=>g=es):IsL w0 h es (.slice l o n c) xs
theorem Zw{α:Type}{es:Nat}:∀{xs:List (List α)},(∀x∈xs,x.length=es)->xs.flatten.length=xs.length*es
 |[],_=>by simp
 |x::xs,h=>by
  rw[Vm,Jb,Zw (fun y hy=>h y (Jf _ hy)),h x (Je),KX,Vn,JG]
theorem qfV{α:Type}{es:Nat}:∀{xs:List (List α)},(∀x∈xs,x.length=es)->∀i,xs.flatten.drop (i*es)=(xs.drop i).flatten
 |xs,_,0=>by simp
 |[],_,i+1=>by simp
 |x::xs,h,i+1=>by
  have hx:=h x Je;rw[Vm,List.drop_succ_cons,<-qfV (fun y hy=>h y (Jf _ hy)) i,Vn,List.drop_append,List.drop_of_length_le (by omega),Jd,show i*es+es-x.length=i*es by omega]
theorem qfU{α:Type}{es:Nat}:∀{xs:List (List α)},(∀x∈xs,x.length=es)->∀i,xs.flatten.take (i*es)=(xs.take i).flatten
 |xs,_,0=>by simp
 |[],_,i+1=>by simp
 |x::xs,h,i+1=>by
  have hx:=h x Je;rw[Vm,List.take_succ_cons,Vm,<-qfU (fun y hy=>h y (Jf _ hy)) i,Vn,JG,List.take_append,JX (by omega),show es+i*es-x.length=i*es by omega]
theorem YE:∀(a c:List AVal),allLive (a++c)=(allLive a && allLive c)
 |[],_=>rfl
 |x::a,c=>by simp[allLive,YE a c,Vl]
theorem Ua:∀{xs:List (List AVal)},allLive xs.flatten=true↔∀x∈xs,allLive x=true
 |[]=>by simp[allLive]
 |x::xs=>by
  rw[Vm,YE,Ky,Ua];simp
def qkd(es:Nat):AVal->Nat->Nat->AVal
 | .slice l o _ (.exact c),i,j=> .slice l (o+i*es) (j-i) (.exact (c-i))
 | .slice l o _ (.grow g),i,j=> .slice l (o+i*es) (j-i) (.grow g)
 |v,_,_=>v
section
variable {P:Program} {w0:World} {h:AHeap} {es:Nat} {v:AVal} {xs:List (List AVal)}
theorem IsL.live(hb:IsL w0 h es v xs):v.live=true:=by cases hb<;>rfl
theorem IsL.scal(hb:IsL w0 h es v xs):v.scal=true:=by cases hb<;>rfl
theorem IsL.cells(hb:IsL w0 h es v xs):v.cells=[v]:=by cases hb<;>rfl
theorem IsL.wide(hb:IsL w0 h es v xs):∀x∈xs,x.length=es:=by
 cases hb with
 |nil=>simp
 |mk l o n c xs hn hw hc hl hcap=>exact hw
theorem IsL.allLive(hb:IsL w0 h es v xs):allLive xs.flatten=true:=by
 cases hb with
 |nil=>rfl
 |mk l o n c xs hn hw hc hl hcap=>exact hl
theorem IsL.len(hb:IsL w0 h es v xs){t e:TypeId}(ht:P.underlying t=some (.slice e)):∀H:AHeap,YZ P H t v=⟨True, .int .i64 xs.length⟩:=by
 intro H;cases hb with
 |nil=>simp[YZ,qcC,qlw,ht]
 |mk l o n c xs hn hw hc hl hcap=>simp[YZ,qcC,qlw,ht,hn]
theorem IsL.open(hb:IsL w0 h es v xs)(hx:xs≠[]):∃l o c,v= .slice l o xs.length c:=by
 cases hb with
 |nil=>exact absurd rfl hx
 |mk l o n c xs hn hw hc hl hcap=>subst hn;exact⟨l,o,c,rfl⟩
theorem IsL.part{l:Loc}{o n:Nat}{c:Cap}(hb:IsL w0 h es (.slice l o n c) xs){i j:Nat}(hij:i<=j)(hj:j<=xs.length):qC w0 h l (o+i*es) ((j-i)*es)=((xs.drop i).take (j-i)).flatten:=by
 cases hb with
 |mk l o n c xs hn hw hc hl hcap=>
  subst hn;have h1:i*es<=j*es:=K8 _ hij;have h2:j*es<=xs.length*es:=K8 _ hj;rw[Nat.sub_mul,qkJ w0 h l o (xs.length*es) (i*es) (j*es) h1 h2,hc,qfV hw,<-Nat.sub_mul,qfU (fun y hy=>hw y (Vo hy))]
theorem IsL.elem{l:Loc}{o n:Nat}{c:Cap}(hb:IsL w0 h es (.slice l o n c) xs){i:Nat}(hi:i<xs.length):qC w0 h l (o+i*es) es=xs.getD i []:=by
 have:=hb.part (i:=i) (j:=i+1) (by omega) hi;rw[show i+1-i=1 by omega,Nat.one_mul]at this;rw[this,List.take_one,List.head?_drop,JB hi];simp[Ko,hi]
theorem IsL.at{l:Loc}{o n:Nat}{c:Cap}(hb:IsL w0 h es (.slice l o n c) xs){i j:Nat}(hi:i<xs.length)(hj:j<es):rd w0 h l (o+i*es+j)=(xs.getD i []).getD j .dead:=by
 have:=qbu w0 h l es (o+i*es) j hj;rw[hb.elem hi]at this;rw[Ko,this];rfl
theorem IsL.at0{l:Loc}{o n:Nat}{c:Cap}(hb:IsL w0 h es (.slice l o n c) xs){i:Nat}(hi:i<xs.length)(hj:0<es):rd w0 h l (o+i*es)=(xs.getD i []).getD 0 .dead:=hb.at (j:=0) hi hj
theorem IsL.sub(hb:IsL w0 h es v xs){i j:Nat}(hij:i<=j)(hj:j<=xs.length):IsL w0 h es (qkd es v i j) ((xs.drop i).take (j-i)):=by
 have hb':=hb;cases hb with
 |nil=>
  simp only[qkd,List.drop_nil,List.take_nil];exact .nil
 |mk l o n c xs hn hw hc hl hcap=>
  subst hn;have e1:=hb'.part hij hj;have e2:AM.allLive ((xs.drop i).take (j-i)).flatten=true:=Ua.2 fun x hx=>Ua.1 hl x (Vo (Vp hx));cases c with
  |exact c=>exact .mk l _ _ _ _ (by simp;omega) (fun x hx=>hw x (Vo (Vp hx))) e1 e2 (by simp only at hcap|-;omega)
  |grow g=>exact .mk l _ _ _ _ (by simp;omega) (fun x hx=>hw x (Vo (Vp hx))) e1 e2 hcap
theorem IsL.slice(hb:IsL w0 h es v xs){t e:TypeId}(ht:P.underlying t=some (.slice e))(hs:Yu P e=some es)(lo hi:Option AVal){l r:Int}(hl:UO lo 0=some l)(hr:UO hi xs.length=some r)
 (h0:0<=l) (h1:l<=r) (h2:r<=xs.length):YS P t v lo hi none=⟨True,qkd es v l.toNat r.toNat⟩:=by
 cases hb with
 |nil=>
  simp only[JD]at h2 hr;have e1:l=0:=by omega
  have e2:r=0:=by omega
  subst e1 e2;simp only[YS,ht,hs,hl,hr,qkd,and_self]
 |mk lc o n c xs hn hw hc hl' hcap=>
  subst hn;have e:(r-l).toNat=r.toNat-l.toNat:=by omega
  cases c with
  |exact c=>
   simp only at hcap;have e3:((c:Int)-l).toNat=c-l.toNat:=by omega
   have e4:r<=c:=by omega
   simp only[YS,ht,hs,hl,hr,qkd,e,e3,h0,h1,e4,and_self]
  |grow g=>
   simp only at hcap;subst hcap;simp only[YS,ht,hs,hl,hr,qkd,e,h0,h1,h2,and_self]
def Yd:AVal->AVal
 | .slice l o n _=> .slice l o n (.exact n)
 |v=>v
theorem IsL.clip(hb:IsL w0 h es v xs):IsL w0 h es (Yd v) xs:=by
 cases hb with
 |nil=>exact .nil
 |mk l o n c xs hn hw hc hl hcap=>exact .mk l o n _ xs hn hw hc hl (KL _)
theorem IsL.slice3(hb:IsL w0 h es v xs){t e:TypeId}(ht:P.underlying t=some (.slice e))(hs:Yu P e=some es)(k k':IntKind)(lo:Option AVal)(hl:UO lo 0=some 0):YS P t v lo (some (.int k xs.length)) (some (.int k' xs.length))=⟨True,Yd v⟩:=by
 cases hb with
 |nil=>simp only[YS,ht,hs,hl,qaf,Yd,JD,JU,Int.natCast_zero,and_self]
 |mk lc o n c xs hn hw hc hl' hcap=>
  subst hn;have z0:(0:Int).toNat=0:=rfl;have e1:((xs.length:Int)-0).toNat=xs.length:=by omega
  cases c with
  |exact c=>
   simp only at hcap;have e4:(xs.length:Int)<=c:=by omega
   simp only[YS,ht,hs,hl,qaf,Yd,z0,e1,K7,K6,JU,e4,Vq,Int.le_refl,and_self]
  |grow g=>simp only[YS,ht,hs,hl,qaf,Yd,z0,e1,K7,K6,JU,Vq,Int.le_refl,and_self]
theorem qkK{l:Loc}{h h':AHeap}(hs:Sub h h'):∀(m o:Nat),allLive (qC w0 h l o m)=true->qC w0 h' l o m=qC w0 h l o m:=by
 intro m;induction m with
 |zero=>intro o _;rfl
 |succ m ih=>
  intro o hl;simp only[qC,AM.allLive,Ky]at hl|-
  rw[ih _ hl.2];congr 1;cases l with
  |base b=>rfl
  |own k=>
   have hl1:=hl.1;unfold AM.rd at hl1|-
   cases hk:h k with
   |none=>simp[hk,JZ]at hl1
   |some b=>simp only[hk,hs k b hk]
theorem IsL.mono(hb:IsL w0 h es v xs){h':AHeap}(hs:Sub h h'):IsL w0 h' es v xs:=by
 cases hb with
 |nil=>exact .nil
 |mk l o n c xs hn hw hc hl hcap=>exact .mk l o n c xs hn hw ((qkK hs _ _ (by rw[hc];exact hl)).trans hc) hl hcap
theorem IsL.own{k:Nat}{b:Blk}(hk:h k=some b)(hw:∀x∈xs,x.length=es)(hc:b.cells=xs.flatten)(hl:AM.allLive xs.flatten=true)(c:Cap)(hcap:match c with| .exact c=>xs.length<=c| .grow g=>g=es):IsL w0 h es (.slice (.own k) 0 xs.length c) xs:=by
 refine .mk _ _ _ _ _ rfl hw ?_ hl hcap;have e:=Zw hw;rw[qht hk 0 _ (by rw[hc,e];omega),Vk,hc,JX (by omega)]
theorem IsL.src(hb:IsL w0 h es v xs):qdY v=some xs.length/\qfk w0 h es xs.length v/\Yf w0 h es xs.length v=xs.flatten:=by
 cases hb with
 |nil=>exact⟨rfl,trivial,rfl⟩
 |mk l o n c xs hn hw hc hl hcap=>
  subst hn;refine⟨rfl,?_,hc⟩;show AM.allLive (qC w0 h l o (xs.length*es))=true
  rw[hc];exact hl
theorem IsL.buf{H0:AHeap}{b:Option Buf}(hb:qhv H0 es b)(hes:0<es)(hc:qhA b=xs.flatten)(hw:∀x∈xs,x.length=es)(hs:Sub (qeZ H0 b) h):IsL w0 h es (qeY es b) xs:=by
 cases b with
 |none=>
  have e:=Zw hw;rw[<-hc]at e;have e0:xs.length*es=0:=by rw[<-e];rfl
  have:xs=[]:=by
   rcases Nat.mul_eq_zero.1 e0 with e1|e1
   ·exact Kg e1
   ·omega
  subst this;exact .nil
 |some b=>
  have hc':b.cells=xs.flatten:=hc;have e:b.cells.length / es=xs.length:=by rw[hc',Zw hw,Vj _ hes]
  show IsL w0 h es (.slice (.own b.blk) 0 (b.cells.length / es) (.grow es)) xs
  rw[e];exact IsL.own (hs _ _ (Vf _ _ _)) hw hc' (by rw[<-hc'];exact hb.2.2) (.grow es) rfl
end
section
variable {α:Type} {w0:World} {h:AHeap} {es:Nat} {v:AVal} {enc:α->List AVal} {ys:List α}
theorem getD_map(d:α){i:Nat}(hi:i<ys.length):(ys.map enc).getD i []=enc (ys.getD i d):=by
 simp[Ko,hi]
end
section
variable {P:Program} {w0:World} {ops rest:List Oper} {s:Slots} {h:AHeap} {K:Slots->AHeap->Prop} {dst:Option Tmp} {ty:TypeId} {pos:String} {af:Array Edge}
theorem Xb{r:PR}:agL P w0 ops rest s h K dst (.bool true) false r=Xp P w0 ops rest (putD s dst (.tuple [])) h K:=by
 unfold agL agP;simp[Ww,XB,QW]
theorem Xc{r:PR}:agL P w0 ops rest s h K dst (.bool false) true r=Xp P w0 ops rest (putD s dst (.tuple [])) h K:=by
 unfold agL agP;simp[Ww,XB,QW]
theorem Xa{r:PR}(want:Bool):agL P w0 ops rest s h K dst (.tuple []) want r=Xp P w0 ops rest (putD s dst (.tuple [])) h K:=by
 unfold agL agP;simp[Ww,XB,QW]
theorem qbS{ts:Array TypeId}{t u e:TypeId}{d:TypeDesc}{x y:Operand}{v:AVal}{es by':Nat}{z:Value}{zs xs:List (List AVal)}{H0:AHeap}{b:Option Buf}
 (h0:ts[0]?=some t) (h1:ts[1]?=some u) (ht:P.underlying t=some (.slice e)) (hu:P.underlying u=some d) (hd:∀k,d≠ .int k)
 (hs:Yu P e=some es) (hb:qeo P e=some by') (hz:qap P e=some z) (hzs:z.cells.size=es) (hes:es≠0)
 (hx:ev s x=qeY es b) (hok:qhv H0 es b) (hbz:qhA b=zs.flatten) (hzw:∀x∈zs,x.length=es) (hh:Sub (qeZ H0 b) h) (hy:ev s y=v) (hv:IsL w0 h es v xs) (hsc:XR xs.flatten=true)
 (hl:(zs.length+xs.length)*by'<=140737488355328) (hl':zs.length+xs.length<4611686018427387904)
 (hk:∀b' h',qhv H0 es b'->qhA b'=(zs++xs).flatten->Sub (qeZ H0 b') h'->Xp P w0 ops rest (putD s dst (qeY es b')) h' K):
 Xp P w0 ops (⟨dst, .call ⟨.builtin .append,[x,y].toArray,ts⟩,ty,pos,af,none⟩::rest) s h K:=by
 obtain⟨s1,s2,s3⟩:=hv.src;have e:(qhA b).length / es=zs.length:=by rw[hbz,Zw hzw,Vj _ (Vi hes)]
 refine qiO (es:=es) (src:=xs.flatten) (m:=xs.length) h0 h1 ht hu hd hs hb hz hzs hes hx hok hh hy s1 s2 s3 (Zw hv.wide) hsc hv.allLive (by rw[e];exact hl) (by rw[e];exact hl') fun b' h' o1 o2 o3=>?_;exact hk b' h' o1 (by rw[o2,hbz,List.flatten_append]) o3
end
end Go.AM
namespace Go.AM
open Go.RowKit (Below)
section
variable {P:Program} {w0:World} {n:FrameK}
def qgK(P:Program)(w0:World)(l:List Oper):Nat->List Oper->Slots->AHeap->(Slots->AHeap->Prop)->Prop
 |_,[],s,h,K=>K s h
 |0,o::r,s,h,K=>Xp P w0 l (o::r) s h K
 |m+1,o::r,s,h,K=>Xp P w0 l [o] s h fun s' h'=>Sub h h'/\qgK P w0 l m r s' h' K
theorem qee{l:List Oper}{m:Nat}{s:Slots}{h:AHeap}{K:Slots->AHeap->Prop}:qgK P w0 l m [] s h K=K s h:=by cases m<;>rfl
theorem qeK{l:List Oper}{m:Nat}{o:Oper}{r:List Oper}{s:Slots}{h:AHeap}{K:Slots->AHeap->Prop}:qgK P w0 l (m+1) (o::r) s h K=Xp P w0 l [o] s h fun s' h'=>Sub h h'/\qgK P w0 l m r s' h' K:=rfl
theorem qgJ{l:List Oper}{o:Oper}{r:List Oper}{s:Slots}{h:AHeap}{K:Slots->AHeap->Prop}:qgK P w0 l 0 (o::r) s h K=Xp P w0 l (o::r) s h K:=rfl
theorem AHeap.ne_some{h:AHeap}{k j:Nat}{b:Blk}(hk:h k=none)(hj:h j=some b):k≠j:=fun e=>by subst e;rw[hk]at hj;cases hj
theorem YV(h:AHeap):Sub h h=True:=eq_true (Vg h)
theorem qsR{l:List Oper}{o:Oper}{r:List Oper}{s:Slots}{h:AHeap}{K:Slots->AHeap->Prop}(ha:Xp P w0 l (o::r) s h K):Xp P w0 l [o] s h fun s' h'=>Xp P w0 l r s' h' K:=by
 simp only[Xp]at ha|-
 exact ha
theorem qnU{l:List Oper}{o:Oper}{s:Slots}{h:AHeap}{K K':Slots->AHeap->Prop}(hk:∀s h,K s h->K' s h)(ha:Xp P w0 l [o] s h K):Xp P w0 l [o] s h K':=by
 simp only[Xp]at ha|-
 split
 ·rename_i hg
  rw[hg]at ha;exact qdg ha fun x h' hx=>hk _ _ hx
 ·rename_i j want hg
  rw[hg]at ha;simp only at ha;split
  ·rename_i hj
   rw[hj]at ha;exact hk _ _ ha
  ·rename_i d hj
   rw[hj]at ha;refine⟨ha.1,?_⟩;have h2:=ha.2;split
   ·rename_i hp
    rw[if_pos hp]at h2;exact⟨h2.1,hk _ _ h2.2⟩
   ·rename_i hp
    rw[if_neg hp]at h2;exact⟨fun e=>qdg (h2.1 e) fun x h' hx=>hk _ _ hx,fun e=>hk _ _ (h2.2 e)⟩
theorem qjH{l:List Oper}{K K':Slots->AHeap->Prop}(hk:∀s h,K s h->K' s h):∀{r:List Oper} {m:Nat} {s:Slots} {h:AHeap},qgK P w0 l m r s h K->qgK P w0 l m r s h K'
 |[],m,s,h,ha=>by rw[qee]at ha|-;exact hk _ _ ha
 |o::r,0,s,h,ha=>awp_rseq.aOps_mono hk ha
 |o::r,m+1,s,h,ha=>qnU (fun s' h' hx=>⟨hx.1,qjH hk hx.2⟩) ha
def LookOk(Ps:PMap)(n:FrameK)(l:List Oper)(o:Oper)(S:Slots)(a:Act):Prop:=a.tmps.size=n/\a.defers=n.dfr/\∀t∈Xv l o,VR Ps (S.get t) (a.tmps.getD t undef)
theorem LookOk.rel{Ps:PMap}{l:List Oper}{o:Oper}{S:Slots}{a:Act}(h:LookOk Ps n l o S a):SRel Ps n (S.keep (Xv l o)) a:=by
 refine⟨h.1,h.2.1,fun t=>?_⟩;rw[JM];by_cases ht:(Xv l o).contains t=true
 ·rw[if_pos ht];exact h.2.2 t (by simpa using ht)
 ·rw[if_neg ht];trivial
theorem qin{Ps:PMap}{l:List Oper}(hall:Xt n l=true){o:Oper}{S:Slots}{a:Act}(h:LookOk Ps n l o S a){j d:Nat}{want:Bool}(hg:o.guard=some (j,want))(hj:QB l j=some d)(hk:Ww (S.get d)=true):
 Region.wanted o (yielded l.toArray a.tmps)=XB (S.get d) want:=by
 have hd:(S.keep (Xv l o)).get d=S.get d:=by
  rw[JM,if_pos];simp[Xv,hg,hj]
 have:=qdf h.rel l j d hj (qcI l j d hall hj) (by rw[hd];exact hk) want;rw[hd]at this;simp only[Region.wanted,hg];exact this
theorem qhm{l:List Oper}{o:Oper}{j:Nat}{want:Bool}{a:Act}(hg:o.guard=some (j,want))(hj:QB l j=none):Region.wanted o (yielded l.toArray a.tmps)=false:=by
 have hd:(l.toArray[j]?).bind (·.dst)=none:=by rw[<-hj,Yn];simp
 simp only[Region.wanted,hg,yielded,hd];rfl
theorem qmY{l:List Oper}(hall:Xt n l=true){o:Oper}{S:Slots}{g:AHeap}{K:Slots->AHeap->Prop}(ha:Xp P w0 l [o] S g K){Ps:PMap}{w:World}{a:Act}(hr:HRel w0 Ps g w)(hl:LookOk Ps n l o S a)
 {next:Act->World->Prop} {Q:Exit->Act->World->Prop} (hn:∀ψ' x h' v w',Ps.le ψ'->HRel w0 ψ' h' w'->VR ψ' x v->K (putD S o.dst x) h'->next (a.put o.dst v) w'):
 if Region.wanted o (yielded l.toArray a.tmps)=true then o.wp P a w next Q else next (a.put o.dst undef) w:=by
 have hs:=hl.rel;have run:∀(K':AVal->AHeap->Prop),eop P w0 g S o.op K'->(∀x h',K' x h'->K (putD S o.dst x) h')->o.wp P a w next Q:=fun K' he hk=>by
  rw[<-qeN (s':=S.keep (Xv l o)) o.op (qfp fun t ht=>by unfold Xv;exact Va _ ht)]at he;exact qfr o he hr hs fun ψ' x h' v w' e1 e2 e3 e4=>hn ψ' x h' v w' e1 e2 e3 (hk x h' e4)
 have skip:K (putD S o.dst (.tuple [])) g->next (a.put o.dst undef) w:=fun hk=>hn Ps _ g undef w Ps.le_refl hr (Wp Ps) hk;simp only[Xp]at ha;cases hg:o.guard with
 |none=>
  simp only[hg]at ha;have hw:Region.wanted o (yielded l.toArray a.tmps)=true:=by simp[Region.wanted,hg]
  rw[if_pos hw];exact run _ ha fun _ _ hk=>hk
 |some gw=>
  obtain⟨j,want⟩:=gw;simp only[hg]at ha;cases hj:QB l j with
  |none=>
   simp only[hj]at ha;rw[if_neg (by rw[qhm hg hj];decide)];exact skip ha
  |some d=>
   simp only[hj]at ha;obtain⟨hk,ha⟩:=ha;rw[qin hall hl hg hj hk];split at ha
   ·rename_i hp
    obtain⟨h1,h2⟩:=ha;cases hb:XB (S.get d) want with
    |true=>
     simp only[hb,QW,cond_true]at h2;simp only[if_true];exact run (fun x h'=>x=(pop P w0 g S o.op).val/\h'=g) ((qad hp).2 ⟨h1 hb,rfl,rfl⟩) fun x h' ⟨e1,e2⟩=>by subst e1 e2;exact h2
    |false=>
     simp only[hb,QW,cond_false]at h2;simp only[KV,if_false];exact skip h2
   ·obtain⟨h1,h2⟩:=ha
    cases hb:XB (S.get d) want with
    |true=>
     simp only[if_true];exact run _ (h1 hb) fun _ _ hk=>hk
    |false=>
     simp only[KV,if_false];exact skip (h2 hb)
def FactR(P:Program)(w0:World)(n:FrameK)(l:List Oper)(g:AHeap)(S:Slots)(o:Oper)(V:AVal):Prop:=
 ∀(Ps:PMap) (w:World) (a:Act) (g':AHeap) (next:Act->World->Prop) (Q:Exit->Act->World->Prop),Sub g g'->HRel w0 Ps g' w->LookOk Ps n l o S a->(∀v,VR Ps V v->next (a.put o.dst v) w)->
  if Region.wanted o (yielded l.toArray a.tmps)=true then o.wp P a w next Q else next (a.put o.dst undef) w
theorem FactR.sub{l:List Oper}{g g':AHeap}{S:Slots}{o:Oper}{V:AVal}(h:FactR P w0 n l g S o V)(hs:Sub g g'):FactR P w0 n l g' S o V:=
 fun Ps w a g₂ next Q h1 h2 h3 h4=>h Ps w a g₂ next Q (Sub.trans hs h1) h2 h3 h4
theorem FactR.slots{l:List Oper}{g:AHeap}{S S':Slots}{o:Oper}{V:AVal}(h:FactR P w0 n l g S o V)(hs:∀t∈Xv l o,S'.get t=S.get t):FactR P w0 n l g S' o V:=
 fun Ps w a g₂ next Q h1 h2 h3 h4=>h Ps w a g₂ next Q h1 h2 ⟨h3.1,h3.2.1,fun t ht=>by rw[<-hs t ht];exact h3.2.2 t ht⟩ h4
theorem qkA{l:List Oper}(hall:Xt n l=true){o:Oper}(hk2:Wz P o.op=2){S:Slots}{g:AHeap}{K:Slots->AHeap->Prop}(ha:Xp P w0 l [o] S g K):∃V,K (putD S o.dst V) g/\FactR P w0 n l g S o V:=by
 have hp:=qnj hk2;have same:pop P w0 g (S.keep (Xv l o)) o.op=pop P w0 g S o.op:=qeG o.op (qfp fun t ht=>by unfold Xv;exact Va _ ht);have run:(pop P w0 g S o.op).pre->∀(Ps:PMap) (w:World) (a:Act) (g':AHeap) (next:Act->World->Prop) (Q:Exit->Act->World->Prop),Sub g g'->HRel w0 Ps g' w->LookOk Ps n l o S a->(∀v,VR Ps (pop P w0 g S o.op).val v->next (a.put o.dst v) w)->o.wp P a w next Q:=by
  intro hpre Ps w a g' next Q h1 h2 h3 h4;rw[<-same]at hpre h4;have up:=qrE (g:=g') hk2 (fun k b hb _=>h1 k b hb) h3.rel hpre;rw[<-up]at hpre h4;obtain⟨r,e1,e2⟩:=qgB o hpre h2 h3.rel;exact Zn (e1 w (J3 w)) (h4 r e2)
 simp only[Xp]at ha;cases hg:o.guard with
 |none=>
  simp only[hg]at ha;rw[qad hp]at ha;refine⟨_,ha.2,fun Ps w a g' next Q h1 h2 h3 h4=>?_⟩;have hw:Region.wanted o (yielded l.toArray a.tmps)=true:=by simp[Region.wanted,hg]
  rw[if_pos hw];exact run ha.1 Ps w a g' next Q h1 h2 h3 h4
 |some gw=>
  obtain⟨j,want⟩:=gw;simp only[hg]at ha;cases hj:QB l j with
  |none=>
   simp only[hj]at ha;refine⟨_,ha,fun Ps w a g' next Q h1 h2 h3 h4=>?_⟩;rw[if_neg (by rw[qhm hg hj];decide)];exact h4 _ (Wp Ps)
  |some d=>
   simp only[hj]at ha;obtain⟨hk,ha⟩:=ha;rw[if_pos hp]at ha;obtain⟨h1,h2⟩:=ha;refine⟨_,h2,fun Ps w a g' next Q q1 q2 q3 q4=>?_⟩;rw[qin hall q3 hg hj hk];cases hb:XB (S.get d) want with
   |true=>
    simp only[hb,QW,cond_true]at q4;simp only[if_true];exact run (h1 hb) Ps w a g' next Q q1 q2 q3 q4
   |false=>
    simp only[hb,QW,cond_false]at q4;simp only[KV,if_false];exact q4 _ (Wp Ps)
def WM(l:List Oper)(π:List Nat):List Oper:=π.filterMap fun i=>l[i]?
def isF(P:Program)(l:List Oper)(i:Nat):Bool:=match l[i]? with
 |some o=>Wz P o.op==2
 |none=>true
def qkz(P:Program)(l:List Oper)(π:List Nat)(ws:List (Option Nat))(m:Nat):Bool:=
 qaj l && (π.all fun i=>decide (i<l.length)) && ((KP l.length).all fun i=>π.contains i) &&
 ((KP π.length).all fun q=>(KP π.length).all fun r=>decide (q=r)|| !(π.getD q 0==π.getD r 0)) &&
 ((KP π.length).all fun q=>match ws.getD q none with
   |none=>(KP q).all fun c=>isF P l (π.getD c 0)
   |some r=>decide (r<q) && Region.waitsFor .any l.toArray (π.getD q 0) (π.getD r 0) && (KP q).all fun c=>decide (c<=r)||isF P l (π.getD c 0)) &&
 ((KP π.length).all fun q=>match l[π.getD q 0]? with
   |none=>true
   |some o=>(KP π.length).all fun r=>match l[π.getD r 0]? with
    |none=>true
    |some oj=>(match oj.dst with
     |none=>true
     |some t=> !(Xv l o).contains t||(decide (r<q) && Region.waitsFor .any l.toArray (π.getD q 0) (π.getD r 0)))) &&
 decide (m<=π.length) && ((KP π.length).all fun q=>decide (q<m)|| !isF P l (π.getD q 0)) &&
 (decide (m=π.length)||(KP m).all fun q=>(KP (m+1)).any fun r=>decide (q<r) && Region.waitsFor .any l.toArray (π.getD r 0) (π.getD q 0))
structure FloatP(P:Program)(l:List Oper)(π:List Nat)(m:Nat):Prop where
 order:qaj l=true
 inr:∀q,q<π.length->π.getD q 0<l.length
 onto:∀i,i<l.length->∃q,q<π.length/\π.getD q 0=i
 inj:∀q r,q<π.length->r<π.length->π.getD q 0=π.getD r 0->q=r
 wait:∀q c,q<π.length->c<q->isF P l (π.getD c 0)=false->∃r,c<=r/\r<q/\Region.waitsFor .any l.toArray (π.getD q 0) (π.getD r 0)=true
 data:∀q r o oj t,q<π.length->r<π.length->l[π.getD q 0]?=some o->l[π.getD r 0]?=some oj->oj.dst=some t->t∈Xv l o->r<q/\Region.waitsFor .any l.toArray (π.getD q 0) (π.getD r 0)=true
 mle:m<=π.length
 tail:∀q,m<=q->q<π.length->isF P l (π.getD q 0)=false
 sink:m<π.length->∀q,q<m->∃r,q<r/\r<=m/\Region.waitsFor .any l.toArray (π.getD r 0) (π.getD q 0)=true
theorem qlO{l:List Oper}{π:List Nat}{ws:List (Option Nat)}{m:Nat}(h:qkz P l π ws m=true):FloatP P l π m:=by
 unfold qkz at h;simp only[Ky]at h;obtain⟨⟨⟨⟨⟨⟨⟨⟨h1,h2⟩,h3⟩,h4⟩,h5⟩,h6⟩,h7⟩,h8⟩,h9⟩:=h;simp only[Jz,JA]at h2 h3 h4 h5 h6 h8;refine⟨h1,fun q hq=>?_,fun i hi=>?_,fun q r hq hr e=>?_,fun q c hq hc hf=>?_,fun q r o oj t hq hr ho hoj hd ht=>?_,by simpa using h7,fun q hm hq=>?_,fun hm q hq=>?_⟩
 ·have:=h2 (π.getD q 0) (by rw[Ko,JB hq];exact Vr hq)
  simpa using this
 ·have:=h3 i hi
  rw[J6]at this;obtain⟨q,hq,e⟩:=List.getElem_of_mem this;exact⟨q,hq,by rw[Ko,JB hq];exact e⟩
 ·have:=h4 q hq r hr
  rw[JH,decide_eq_true_eq]at this;rcases this with e'|e'
  ·exact e'
  ·rw[e]at e';simp at e'
 ·have:=h5 q hq
  split at this
  ·rw[Jz]at this
   rw[this c (JA.2 hc)]at hf;cases hf
  ·rename_i r _
   simp only[Ky,decide_eq_true_eq,Jz,JA,JH]at this;obtain⟨⟨t1,t2⟩,t3⟩:=this;rcases t3 c hc with e|e
   ·exact⟨r,e,t1,t2⟩
   ·rw[e]at hf;cases hf
 ·have:=h6 q hq
  rw[ho]at this;simp only[Jz,JA]at this;have:=this r hr;rw[hoj]at this;simp only[hd,JH,Ky,decide_eq_true_eq,Jh]at this;rcases this with e|e
  ·have hm:(Xv l o).contains t=true:=by simpa using ht
   rw[hm]at e;cases e
  ·exact e
 ·have:=h8 q hq
  simp only[JH,decide_eq_true_eq,Jh]at this;rcases this with e|e
  ·omega
  ·exact e
 ·rw[JH,decide_eq_true_eq]at h9
  rcases h9 with e|e
  ·omega
  ·rw[Jz]at e
   have:=e q (JA.2 hq);rw[J7]at this;obtain⟨r,hr,hw⟩:=this;rw[JA]at hr;simp only[Ky,decide_eq_true_eq]at hw;exact⟨r,hw.1,by omega,hw.2⟩
theorem qlr{l:List Oper}:∀{π:List Nat},(∀q,q<π.length->π.getD q 0<l.length)->∀q,q<π.length->(WM l π)[q]?=l[π.getD q 0]?
 |i::π,h,q,hq=>by
  have h0:i<l.length:=h 0 (by simp);have e:WM l (i::π)=l[i]::WM l π:=by
   unfold WM;rw[Vt,JB h0]
  rw[e];cases q with
  |zero=>simp[JB h0]
  |succ q=>
   rw[KM,qlr (π:=π) (fun q hq=>h (q+1) (by simpa using hq)) q (by simpa using hq)];rfl
theorem qdy{l:List Oper}:∀{π:List Nat},(∀q,q<π.length->π.getD q 0<l.length)->(WM l π).length=π.length
 |[],_=>rfl
 |i::π,h=>by
  have h0:i<l.length:=h 0 (by simp);unfold WM;rw[Vt,JB h0];simp only[KX];exact congrArg (· +1) (qdy (π:=π) fun q hq=>h (q+1) (by simpa using hq))
theorem qdz{l:List Oper}{π:List Nat}(h:∀q,q<π.length->π.getD q 0<l.length){p:Nat}(hp:p<π.length){o:Oper}(ho:l[π.getD p 0]?=some o):(WM l π).drop p=o::(WM l π).drop (p+1):=by
 have e:=qlr h p hp;rw[ho]at e;have hl:=(Jw.1 e).1;rw[J9 hl];congr 1;exact(Jw.1 e).2
theorem advance{l:List Oper}(hall:Xt n l=true){π:List Nat}{m:Nat}(F:FloatP P l π m){K:Slots->AHeap->Prop}{g:AHeap}:∀(d p:Nat) (S:Slots),π.length-p=d->p<=π.length->qgK P w0 l (m-p) ((WM l π).drop p) S g K->
 ∃p' S',p<=p'/\p'<=π.length/\(p'<π.length->isF P l (π.getD p' 0)=false)/\(∀q,p<=q->q<p'->isF P l (π.getD q 0)=true)/\qgK P w0 l (m-p') ((WM l π).drop p') S' g K/\
  (∀q o,p<=q->q<p'->l[π.getD q 0]?=some o->∃V,(∀t,o.dst=some t->S'.get t=V)/\FactR P w0 n l g S' o V)/\
  (∀t,(∀q o,p<=q->q<p'->l[π.getD q 0]?=some o->o.dst≠some t)->S'.get t=S.get t):=by
 intro d;induction d with
 |zero=>
  intro p S hd hp ha;exact⟨p,S,KL _,hp,fun h=>by omega,fun q h1 h2=>by omega,ha,fun q o h1 h2=>by omega,fun t _=>rfl⟩
 |succ d ih=>
  intro p S hd hp ha;have hpl:p<π.length:=by omega
  cases hf:isF P l (π.getD p 0)with
  |false=>exact⟨p,S,KL _,hp,fun _=>hf,fun q h1 h2=>by omega,ha,fun q o h1 h2=>by omega,fun t _=>rfl⟩
  |true=>
   have hpm:p<m:=by
    refine J2 fun h=>?_;rw[F.tail p h hpl]at hf;cases hf
   obtain⟨o,ho⟩:∃o,l[π.getD p 0]?=some o:=⟨_,JB (F.inr p hpl)⟩
   have hk2:Wz P o.op=2:=by
    unfold isF at hf;rw[ho]at hf;simpa using hf
   rw[qdz F.inr hpl ho,show m-p=(m-(p+1))+1 by omega,qeK]at ha;obtain⟨V,⟨_,hv⟩,hfact⟩:=qkA hall hk2 ha;obtain⟨p',S',a1,a2,a3,a4,a5,a6,a7⟩:=ih (p+1) (putD S o.dst V) (by omega) (by omega) hv;have notlook:∀q oq t,p<=q->q<π.length->l[π.getD q 0]?=some oq->oq.dst=some t->t∉Xv l o:=fun q oq t h1 h2 h3 h4 ht=>by
    have:=(F.data p q o oq t hpl h2 ho h3 h4 ht).1;omega
   have uniq:∀q oq t,p<q->q<π.length->l[π.getD q 0]?=some oq->oq.dst=some t->o.dst≠some t:=fun q oq t h1 h2 h3 h4 e=>by
    have:=((Zu F.order ho).2 _ oq t h3 h4).1 e;have:=F.inj p q hpl h2 this;omega
   refine⟨p',S',by omega,a2,a3,fun q h1 h2=>?_,a5,fun q oq h1 h2 hq=>?_,fun t ht=>?_⟩
   ·rcases Jy h1 with e|e
    ·rw[<-e];exact hf
    ·exact a4 q e h2
   ·rcases Jy h1 with e|e
    ·subst e
     rw[ho]at hq;obtain rfl:=Option.some.inj hq;refine⟨V,fun t ht=>?_,hfact.slots fun t ht=>?_⟩
     ·rw[a7 t fun q oq h3 h4 h5 h6=>uniq q oq t h3 (by omega) h5 h6 ht,YG,if_pos ht]
     ·rw[a7 t fun q oq h3 h4 h5 h6=>notlook q oq t (by omega) (by omega) h5 h6 ht,YG,if_neg fun e=>notlook p o t (KL _) hpl ho e ht]
    ·exact a6 q oq e h2 hq
   ·rw[a7 t fun q oq h3 h4 h5=>ht q oq (by omega) h4 h5,YG,if_neg (ht p o (KL _) (by omega) ho)]
def qsV(P:Program)(w0:World)(n:FrameK)(l:List Oper)(π:List Nat)(m:Nat)(K:Slots->AHeap->Prop)(listed:Array Bool)(Ps:PMap)(a:Act)(w:World):Prop:=
 listed.size=l.length/\(∀j oj,l[j]?=some oj->listed.getD j false=true->∀e∈oj.after,Region.binds .any e=true->listed.getD e.on false=true)/\a.tmps.size=n/\a.defers=n.dfr/\
 ∃p S g,p<=π.length/\(p<π.length->isF P l (π.getD p 0)=false)/\(∀q,p<=q->q<π.length->listed.getD (π.getD q 0) false=false)/\(∀q,q<p->isF P l (π.getD q 0)=false->listed.getD (π.getD q 0) false=true)/\
  (m<p->∀q,q<p->listed.getD (π.getD q 0) false=true)/\HRel w0 Ps g w/\qgK P w0 l (m-p) ((WM l π).drop p) S g K/\
  (∀q o,q<p->l[π.getD q 0]?=some o->listed.getD (π.getD q 0) false=false->∃V,(∀t,o.dst=some t->S.get t=V)/\FactR P w0 n l g S o V)/\
  ∀t,(∃q o,q<p/\l[π.getD q 0]?=some o/\o.dst=some t/\listed.getD (π.getD q 0) false=false)\/VR Ps (S.get t) (a.tmps.getD t undef)
theorem qbH{l:List Oper}{listed:Array Bool}{i j:Nat}{o:Oper}(ho:l[i]?=some o)(hedges:∀e∈o.after,Region.binds .any e=true->listed.getD e.on false=true)(hw:Region.waitsFor .any l.toArray i j=true):listed.getD j false=true:=by
 obtain⟨oi,g1,e,g2,g3,g4⟩:=Region.waitsFor_spec hw;have g1':l[i]?=some oi:=by simpa using g1
 rw[ho]at g1';obtain rfl:=Option.some.inj g1';rw[<-g4];exact hedges e g2 g3
theorem any_okP{l:List Oper}(hall:Xt n l=true){π:List Nat}{m:Nat}(F:FloatP P l π m){K:Slots->AHeap->Prop}{fi:PMap}{Q:Exit->Act->World->Prop}
 (hq:∀Ps S g a w,fi.le Ps->HRel w0 Ps g w->SRel Ps n S a->K S g->Q .normal a w):∀(fuel:Nat) (listed:Array Bool) (a:Act) (w:World) (Ps:PMap),fi.le Ps->qsV P w0 n l π m K listed Ps a w->
 (listed.toList.filter (!·)).length<=fuel->wpAny P .any l.toArray Q fuel listed a w:=by
 have hB:=F.order;have fin:∀(listed:Array Bool) (a:Act) (w:World) (Ps:PMap),fi.le Ps->qsV P w0 n l π m K listed Ps a w->Region.ready .any l.toArray listed=[]->Q .normal a w:=by
  rintro listed a w Ps hle ⟨i1,i2,i3,i4,p,S,g,p1,p2,p3,p4,p5,p6,p7,p8,p9⟩ hrd;have hal:=qdK hB i1 hrd;have hp:p=π.length:=by
   rcases Jy p1 with e|e
   ·exact e
   ·have:=p3 p (KL _) e
    rw[hal _ (F.inr p e)]at this;cases this
  subst hp;rw[show(WM l π).drop π.length=[] by rw[<-qdy F.inr];simp,qee]at p7;refine hq Ps S g a w hle p6 ⟨i3,i4,fun t=>?_⟩ p7;rcases p9 t with⟨q,o,c1,c2,c3,c4⟩|c
  ·rw[hal _ (F.inr q c1)]at c4;cases c4
  ·exact c
 intro fuel;induction fuel with
 |zero=>
  intro listed a w Ps hle inv hc;have hrd:Region.ready .any l.toArray listed=[]:=by
   cases hrd:Region.ready .any l.toArray listed with
   |nil=>rfl
   |cons i r=>
    exfalso;have hm:i∈Region.ready .any l.toArray listed:=by rw[hrd];exact Je
    obtain⟨h1,o,ho,_⟩:=mem_ready.1 hm;have hi:i<listed.size:=by
     have:l[i]?=some o:=by simpa using ho
     rw[inv.1];exact(Jw.1 this).1
    have h2:listed.toList[i]?=some false:=by
     simp[JC,hi]at h1;simp[hi,h1]
    have:=JK h2;have hmem:false∈listed.toList.filter (!·):=by simp[JJ,this]
    have:=JL hmem;omega
  exact⟨hrd,fin listed a w Ps hle inv hrd⟩
 |succ fuel ih=>
  intro listed a w Ps hle inv hc;refine⟨fun hrd=>fin listed a w Ps hle inv hrd,fun i hi=>?_⟩;obtain⟨i1,i2,i3,i4,p,S,g,p1,p2,p3,p4,p5,p6,p7,p8,p9⟩:=inv;obtain⟨h1,o,ho,hedges⟩:=mem_ready.1 hi;have hol:l[i]?=some o:=by simpa using ho
  have hilt:i<l.length:=(Jw.1 hol).1;have hisz:i<listed.size:=by rw[i1];exact hilt
  have hif:listed.getD i false=false:=by simp[JC,hisz]at h1|-;exact h1
  have hcount:((listed.setIfInBounds i true).toList.filter (!·)).length<=fuel:=by
   have h2:listed.toList[i]?=some false:=by
    simp[JC,hisz]at h1;simp[hisz,h1]
   have:=qbY listed.toList i h2;have e:(listed.setIfInBounds i true).toList=listed.toList.set i true:=by simp
   rw[e];omega
  have hdn:∀d,o.dst=some d->d<n:=fun d hd=>qcI l i d hall (by rw[Yn,hol];exact hd);obtain⟨q,hql,hqi⟩:=F.onto i hilt;have hoq:l[π.getD q 0]?=some o:=by rw[hqi];exact hol
  have looks:LookOk Ps n l o S a:=⟨i3,i4,fun t ht=>by
   rcases p9 t with⟨r,oj,c1,c2,c3,c4⟩|c
   ·exfalso
    have:=(F.data q r o oj t hql (by omega) hoq c2 c3 ht).2;rw[hqi]at this;rw[qbH hol hedges this]at c4;cases c4
   ·exact c⟩
  have closed':∀j oj,l[j]?=some oj->(listed.setIfInBounds i true).getD j false=true->∀e∈oj.after,Region.binds .any e=true->(listed.setIfInBounds i true).getD e.on false=true:=fun j oj hj hl e he hb=>by
   by_cases e1:e.on=i
   ·rw[e1];exact set_self hisz
   ·rw[Zi e1]
    by_cases e2:j=i
    ·subst e2
     rw[hol]at hj;obtain rfl:=Option.some.inj hj;exact hedges e he hb
    ·rw[Zi e2]at hl
     exact i2 j oj hj hl e he hb
  have other:∀r,r<π.length->r≠q->(listed.setIfInBounds i true).getD (π.getD r 0) false=listed.getD (π.getD r 0) false:=fun r hr hne=>Zi fun e=>hne (F.inj r q hr hql (by rw[e,hqi]));have nobehind:p<q->False:=fun hpq=>by
   obtain⟨r,r1,r2,r3⟩:=F.wait q p hql hpq (p2 (by omega));rw[hqi]at r3;have:=qbH hol hedges r3;rw[p3 r r1 (by omega)]at this;cases this
  have goal:(if Region.wanted o (yielded l.toArray a.tmps)=true then o.wp P a w (wpAny P .any l.toArray Q fuel (listed.setIfInBounds i true)) Q else wpAny P .any l.toArray Q fuel (listed.setIfInBounds i true) (a.put o.dst undef) w):=by
   rcases KT q p with hqp|hqp
   ·
    obtain⟨V,v1,v2⟩:=p8 q o hqp hoq (by rw[hqi];exact hif);refine v2 Ps w a g _ Q (Vg g) p6 looks fun v hv=>?_;refine ih _ _ _ Ps hle ⟨by simp[i1],closed',by rw[qea];exact i3,by rw[put_defers];exact i4,p,S,g,p1,p2,fun r r1 r2=>?_,fun r r1 r2=>?_,fun hm r r1=>?_,p6,p7,fun r oj r1 r2 r3=>?_,fun t=>?_⟩ hcount
    ·rw[other r r2 (by omega)];exact p3 r r1 r2
    ·by_cases e:r=q
     ·rw[e,hqi];exact set_self hisz
     ·rw[other r (by omega) e];exact p4 r r1 r2
    ·by_cases e:r=q
     ·rw[e,hqi];exact set_self hisz
     ·rw[other r (by omega) e];exact p5 hm r r1
    ·by_cases e:r=q
     ·rw[e,hqi,set_self hisz]at r3;cases r3
     ·rw[other r (by omega) e]at r3
      exact p8 r oj r1 r2 r3
    ·by_cases hod:o.dst=some t
     ·right
      rw[v1 t hod,qah a hod (by rw[i3];exact hdn t hod)];exact hv
     ·rcases p9 t with⟨r,oj,c1,c2,c3,c4⟩|c
      ·refine .inl ⟨r,oj,c1,c2,c3,?_⟩
       rw[other r (by omega) fun e=>by subst e;rw[hoq]at c2;obtain rfl:=Option.some.inj c2;exact hod c3];exact c4
      ·right
       rw[UB a hod];exact c
   ·have hqe:q=p:=by
     rcases Jy hqp with e|e
     ·exact e.symm
     ·exact(nobehind e).elim
    subst hqe;have all_m:m<=q->∀r,r<q->listed.getD (π.getD r 0) false=true:=fun hm r hr=>by
     rcases Jy hm with e|e
     ·subst e
      have key:∀d r,r+d=m->r<m->listed.getD (π.getD r 0) false=true:=by
       intro d;induction d using Jt with
       |ind d ihd=>
        intro r hd hr;obtain⟨r',s1,s2,s3⟩:=F.sink hql r hr;rcases Jy s2 with e|e
        ·subst e
         rw[hqi]at s3;exact qbH hol hedges s3
        ·have hl:=ihd (m-r') (by omega) r' (by omega) e
         obtain⟨oj,hoj⟩:∃oj,l[π.getD r' 0]?=some oj:=⟨_,JB (F.inr r' (by omega))⟩
         exact qbH hoj (i2 _ oj hoj hl) s3
      exact key (m-r) r (by omega) hr
     ·exact p5 e r hr
    obtain⟨K',ha,hnext⟩:∃K':Slots->AHeap->Prop,Xp P w0 l [o] S g K'/\∀s' h',K' s' h'->(q<m->Sub g h')/\qgK P w0 l (m-(q+1)) ((WM l π).drop (q+1)) s' h' K:=by
     rw[qdz F.inr hql hoq]at p7;by_cases c:q<m
     ·rw[show m-q=(m-(q+1))+1 by omega,qeK]at p7
      exact⟨_,p7,fun s' h' hx=>⟨fun _=>hx.1,hx.2⟩⟩
     ·rw[show m-q=0 by omega,qgJ]at p7
      refine⟨_,qsR p7,fun s' h' hx=>⟨fun hc=>absurd hc c,?_⟩⟩;rw[show m-(q+1)=0 by omega];cases hdr:(WM l π).drop (q+1)with
      |nil=>rw[hdr]at hx;rw[qee];exact hx
      |cons o' r'=>rw[hdr]at hx;exact hx
    refine qmY hall ha p6 looks fun ψ' x h' v w' e1 e2 e3 hk=>?_;obtain⟨k1,k2⟩:=hnext _ _ hk;obtain⟨p',S',a1,a2,a3,a4,a5,a6,a7⟩:=advance hall F (π.length-(q+1)) (q+1) (putD S o.dst x) rfl (by omega) k2;have keep:∀r or t,r<q->l[π.getD r 0]?=some or->(or.dst=some t\/t∈Xv l or)->S'.get t=S.get t:=fun r or t hr hor ht=>by
     have nd:∀u ou,q<=u->u<π.length->l[π.getD u 0]?=some ou->ou.dst≠some t:=fun u ou h1 h2 h3 h4=>by
      rcases ht with ht|ht
      ·have:=((Zu hB hor).2 _ ou t h3 h4).1 ht
       have:=F.inj r u (by omega) h2 this;omega
      ·have:=(F.data r u or ou t (by omega) h2 hor h3 h4 ht).1
       omega
     rw[a7 t fun u ou h1 h2 h3=>nd u ou (by omega) (by omega) h3,YG,if_neg (nd q o (KL _) hql hoq)]
    refine ih _ _ _ ψ' (JN hle e1) ⟨by simp[i1],closed',by rw[qea];exact i3,by rw[put_defers];exact i4,p',S',h',a2,a3,fun r r1 r2=>?_,fun r r1 r2=>?_,fun hm r r1=>?_,e2,a5,fun r oj r1 r2 r3=>?_,fun t=>?_⟩ hcount
    ·rw[other r r2 (by omega)];exact p3 r (by omega) r2
    ·by_cases e:r=q
     ·rw[e,hqi];exact set_self hisz
     ·rw[other r (by omega) e]
      rcases KT r q with c|c
      ·exact p4 r c r2
      ·rw[a4 r (by omega) r1]at r2;cases r2
    ·have hmq:m<=q:=by
      refine Kt fun hc=>?_;have hmp:m<π.length:=by omega
      have:=a4 m (by omega) hm;rw[F.tail m (KL _) hmp]at this;cases this
     by_cases e:r=q
     ·rw[e,hqi];exact set_self hisz
     ·rw[other r (by omega) e]
      rcases KT r q with c|c
      ·exact all_m hmq r c
      ·have:=a4 r (by omega) r1
       rw[F.tail r (by omega) (by omega)]at this;cases this
    ·by_cases e:r=q
     ·rw[e,hqi,set_self hisz]at r3;cases r3
     ·rw[other r (by omega) e]at r3
      rcases KT r q with c|c
      ·obtain⟨V,v1,v2⟩:=p8 r oj c r2 r3
       have hqm:q<m:=by
        refine J2 fun hm=>?_;rw[all_m hm r c]at r3;cases r3
       exact⟨V,fun t ht=>(keep r oj t c r2 (.inl ht)).trans (v1 t ht),(v2.sub (k1 hqm)).slots fun t ht=>keep r oj t c r2 (.inr ht)⟩
      ·exact a6 r oj (by omega) r1 r2
    ·by_cases hod:o.dst=some t
     ·right
      rw[a7 t fun u ou h1 h2 h3 h4=>by
       have:=((Zu hB hoq).2 _ ou t h3 h4).1 hod;have:=F.inj q u hql (by omega) this;omega,YG,if_pos hod,qah a hod (by rw[i3];exact hdn t hod)]
      exact e3
     ·by_cases hw:∃r or,q+1<=r/\r<p'/\l[π.getD r 0]?=some or/\or.dst=some t
      ·obtain⟨r,or,w1,w2,w3,w4⟩:=hw
       exact .inl ⟨r,or,w2,w3,w4,by rw[other r (by omega) (by omega)];exact p3 r (by omega) (by omega)⟩
      ·have hS:S'.get t=S.get t:=by
        rw[a7 t fun u ou h1 h2 h3 h4=>hw ⟨u,ou,h1,h2,h3,h4⟩,YG,if_neg hod]
       rcases p9 t with⟨r,oj,c1,c2,c3,c4⟩|c
       ·exact .inl ⟨r,oj,by omega,c2,c3,by rw[other r (by omega) (by omega)];exact c4⟩
       ·right
        rw[hS,UB a hod];exact WB e1 _ _ c
  simp only[wpOp,ho];split
  ·rename_i hw
   rw[if_pos hw]at goal;exact .inl goal
  ·rename_i hw
   rw[if_neg hw]at goal;exact goal
theorem qnL{Q:Exit->Slots->AHeap->Prop}{s:Slots}{h:AHeap}{id:Nat}{l:List Oper}(π:List Nat)(ws:List (Option Nat))(m:Nat)(hm:P.follows .mixedOrders=true)(hB:qkz P l π ws m=true)(hd:Xt n l=true)
 (hc:qgK P w0 l m (WM l π) s h fun s' h'=>Q .normal s' h'):Awp P w0 n (.region id l.toArray true) Q s h:=by
 refine JO ?_;intro fi a w hr hs;have F:=qlO hB;refine wp_region_any hm ?_;have hf:∀j,(Ju l.toArray.size false).getD j false=false:=fun j=>by simp[JC]
 obtain⟨p',S',a1,a2,a3,a4,a5,a6,a7⟩:=advance hd F π.length 0 s rfl (Jq _) (by rw[Nat.sub_zero,Vk];exact hc);refine any_okP (fi:=fi) hd F (K:=fun s' h'=>Q .normal s' h') (fun Ps S g a' w' hle h1 h2 h3=>⟨Ps,S,g,hle,h1,h2,h3⟩) _ _ _ _ fi fi.le_refl
  ⟨by simp,fun j oj _ hl=>(by rw[hf]at hl;cases hl),hs.size,hs.defers,p',S',h,a2,a3,fun r _ _=>hf _,fun r r1 r2=>?_,fun hm' r r1=>?_,hr.drew,a5,fun r oj r1 r2 _=>a6 r oj (Jq _) r1 r2,fun t=>?_⟩ ?_
 ·rw[a4 r (Jq _) r1]at r2;cases r2
 ·have:=a4 m (Jq _) hm'
  rw[F.tail m (KL _) (by omega)]at this;cases this
 ·by_cases hw:∃r or,r<p'/\l[π.getD r 0]?=some or/\or.dst=some t
  ·obtain⟨r,or,w2,w3,w4⟩:=hw
   exact .inl ⟨r,or,w2,w3,w4,hf _⟩
  ·right
   rw[a7 t fun u ou _ h2 h3 h4=>hw ⟨u,ou,h2,h3,h4⟩];exact hs.val t
 ·have:=Vd (!·) (Ju l.toArray.size false).toList
  simpa using this
theorem qnK{Q:Exit->Slots->AHeap->Prop}{s:Slots}{h:AHeap}{id:Nat}{l:List Oper}{y:Code}(π:List Nat)(ws:List (Option Nat))(m:Nat)(L:List Nat)(hm:P.follows .mixedOrders=true)(hB:qkz P l π ws m=true)(hd:Xt n l=true)
 (hc:∀K:Slots->AHeap->Prop,(∀s h,Awp P w0 n y Q s h->K s h)->qgK P w0 l m (WM l π) s h fun s' h'=>K (s'.keep L) h'):Awp P w0 n (.seq (.region id l.toArray true) y) Q s h:=
 Qp (qnL π ws m hm hB hd (qjH (fun _ _ hk=>JP L hk) (hc (fun s h=>Awp P w0 n y Q s h) (fun _ _ hk=>hk))))
end
section
variable {P:Program} {w0:World} {n:FrameK}
end
end Go.AM
namespace Go.Proofs.YtgiadjbiimkbiaaDoor
open Go.AM
theorem sz3:Yu Tryd.prog 3=some 1:=by kernel_rfl
theorem ag3:UU Tryd.prog 3=some false:=by kernel_rfl
theorem sz9:Yu Tryd.prog 9=some 1:=by kernel_rfl
theorem by9:qeo Tryd.prog 9=some 16:=by kernel_rfl
theorem ze9:qap Tryd.prog 9=some (.string .empty):=by kernel_rfl
theorem ag9:UU Tryd.prog 9=some false:=by kernel_rfl
theorem sz22:Yu Tryd.prog 22=some 1:=by kernel_rfl
theorem ag22:UU Tryd.prog 22=some false:=by kernel_rfl
theorem qrp:Yu Tryd.prog 23=some 1:=by kernel_rfl
theorem ze23:qap Tryd.prog 23=some (.slice none 0 0):=by kernel_rfl
theorem qhb:UU Tryd.prog 23=some false:=by kernel_rfl
theorem ag24:UU Tryd.prog 24=some false:=by kernel_rfl
theorem sz26:Yu Tryd.prog 26=some 2:=by kernel_rfl
theorem ag26:UU Tryd.prog 26=some true:=by kernel_rfl
theorem qdt:Yu Tryd.prog 28=some 3:=by kernel_rfl
theorem qje:qap Tryd.prog 28=some (.agg #[.int .i64 0, .int .i64 0, .int .i64 0]):=by kernel_rfl
theorem qmr:UU Tryd.prog 28=some true:=by kernel_rfl
theorem con28:Program.concrete Tryd.prog 28=true:=by kernel_rfl
theorem egt28:Tryd.prog.eqGuardType Tryd.prog.depth 28=false:=by kernel_rfl
theorem qte:Yu Tryd.prog 31=some 1:=by kernel_rfl
theorem qbR:UU Tryd.prog 31=some false:=by kernel_rfl
theorem qbn:Yu Tryd.prog 44=some 2:=by kernel_rfl
theorem by44:qeo Tryd.prog 44=some 40:=by kernel_rfl
theorem qrc:qap Tryd.prog 44=some (.agg #[.string .empty, .slice none 0 0]):=by kernel_rfl
theorem ag44:UU Tryd.prog 44=some true:=by kernel_rfl
theorem sz45:Yu Tryd.prog 45=some 1:=by kernel_rfl
theorem qfv:UU Tryd.prog 45=some false:=by kernel_rfl
theorem sz46:Yu Tryd.prog 46=some 1:=by kernel_rfl
theorem qdL:UU Tryd.prog 46=some false:=by kernel_rfl
theorem WJ:Yu Tryd.prog 48=some 5:=by kernel_rfl
theorem by48:qeo Tryd.prog 48=some 80:=by kernel_rfl
theorem qka:qap Tryd.prog 48=some (.agg #[.string .empty, .int .i64 0, .int .i64 0, .slice none 0 0, .slice none 0 0]):=by kernel_rfl
theorem qgm:UU Tryd.prog 48=some true:=by kernel_rfl
theorem UW:Yu Tryd.prog 50=some 3:=by kernel_rfl
theorem by50:qeo Tryd.prog 50=some 64:=by kernel_rfl
theorem qjZ:qap Tryd.prog 50=some (.agg #[.string .empty, .slice none 0 0, .slice none 0 0]):=by kernel_rfl
theorem qmp:UU Tryd.prog 50=some true:=by kernel_rfl
theorem ag58:UU Tryd.prog 58=some false:=by kernel_rfl
theorem qro:Yu Tryd.prog 63=some 1:=by kernel_rfl
theorem qha:UU Tryd.prog 63=some false:=by kernel_rfl
theorem Yv:Yu Tryd.prog 65=some 5:=by kernel_rfl
theorem qgg:qeo Tryd.prog 65=some 48:=by kernel_rfl
theorem qdT:qap Tryd.prog 65=some (.agg #[.int .u8 0, .string .empty, .int .i64 0, .int .i64 0, .bool false]):=by kernel_rfl
theorem qhB:UU Tryd.prog 65=some true:=by kernel_rfl
theorem ze100:qap Tryd.prog 100=some (.int .u8 0):=by kernel_rfl
theorem qnv(l:AM.Loc)(o:Nat):Ze Tryd.prog 28 (.ptr l o) 0=⟨1≠0, .ptr l (o+0)⟩:=by kernel_rfl
theorem fa28_1(l:AM.Loc)(o:Nat):Ze Tryd.prog 28 (.ptr l o) 1=⟨2≠0, .ptr l (o+1)⟩:=by kernel_rfl
theorem eqv28(a0 b0:Int)(a1 b1:Int)(a2 b2:Int):(eqA Tryd.prog 40 28 (.agg [.int .i64 a0, .int .i64 a1, .int .i64 a2]) (.agg [.int .i64 b0, .int .i64 b1, .int .i64 b2])).val= .bool (decide (a0=b0) && ((decide (a1=b1) && (decide (a2=b2) && true)) && true)):=by kernel_rfl
theorem eqp28(a0 b0:Int)(a1 b1:Int)(a2 b2:Int):(eqA Tryd.prog 40 28 (.agg [.int .i64 a0, .int .i64 a1, .int .i64 a2]) (.agg [.int .i64 b0, .int .i64 b1, .int .i64 b2])).pre=((0<3)/\(0<3)/\True/\((1+2<=3)/\(1+2<=3)/\((0<2)/\(0<2)/\True/\((1<2)/\(1<2)/\True/\True))/\True)):=by kernel_rfl
theorem eq28(a0 b0:Int)(a1 b1:Int)(a2 b2:Int):qcH Tryd.prog .eql 28 (.agg [.int .i64 a0, .int .i64 a1, .int .i64 a2]) (.agg [.int .i64 b0, .int .i64 b1, .int .i64 b2])=⟨True, .bool (decide (a0=b0) && ((decide (a1=b1) && (decide (a2=b2) && true)) && true))⟩:=by
 simp only[qcH,eqv28,eqp28,egt28,PR.mk.injEq,and_true];decide
theorem ne28(a0 b0:Int)(a1 b1:Int)(a2 b2:Int):qcH Tryd.prog .neq 28 (.agg [.int .i64 a0, .int .i64 a1, .int .i64 a2]) (.agg [.int .i64 b0, .int .i64 b1, .int .i64 b2])=⟨True, .bool (!(decide (a0=b0) && ((decide (a1=b1) && (decide (a2=b2) && true)) && true)))⟩:=by
 simp only[qcH,eqv28,eqp28,egt28,PR.mk.injEq,and_true];decide
theorem qkB(l:AM.Loc)(o:Nat):Ze Tryd.prog 44 (.ptr l o) 0=⟨1≠0, .ptr l (o+0)⟩:=by kernel_rfl
theorem qcJ(l:AM.Loc)(o:Nat):Ze Tryd.prog 44 (.ptr l o) 1=⟨1≠0, .ptr l (o+1)⟩:=by kernel_rfl
theorem qcp(l:AM.Loc)(o:Nat):Ze Tryd.prog 48 (.ptr l o) 0=⟨1≠0, .ptr l (o+0)⟩:=by kernel_rfl
theorem UJ(l:AM.Loc)(o:Nat):Ze Tryd.prog 48 (.ptr l o) 2=⟨1≠0, .ptr l (o+3)⟩:=by kernel_rfl
theorem WG(l:AM.Loc)(o:Nat):Ze Tryd.prog 48 (.ptr l o) 3=⟨1≠0, .ptr l (o+4)⟩:=by kernel_rfl
theorem qgP(l:AM.Loc)(o:Nat):Ze Tryd.prog 50 (.ptr l o) 0=⟨1≠0, .ptr l (o+0)⟩:=by kernel_rfl
theorem qdF(l:AM.Loc)(o:Nat):Ze Tryd.prog 50 (.ptr l o) 1=⟨1≠0, .ptr l (o+1)⟩:=by kernel_rfl
theorem qdE(l:AM.Loc)(o:Nat):Ze Tryd.prog 50 (.ptr l o) 2=⟨1≠0, .ptr l (o+2)⟩:=by kernel_rfl
theorem qco(l:AM.Loc)(o:Nat):Ze Tryd.prog 60 (.ptr l o) 0=⟨1≠0, .ptr l (o+0)⟩:=by kernel_rfl
theorem Wl(l:AM.Loc)(o:Nat):Ze Tryd.prog 60 (.ptr l o) 1=⟨1≠0, .ptr l (o+1)⟩:=by kernel_rfl
theorem qgO(l:AM.Loc)(o:Nat):Ze Tryd.prog 60 (.ptr l o) 2=⟨1≠0, .ptr l (o+2)⟩:=by kernel_rfl
theorem Ud(l:AM.Loc)(o:Nat):Ze Tryd.prog 65 (.ptr l o) 0=⟨1≠0, .ptr l (o+0)⟩:=by kernel_rfl
theorem qbe(l:AM.Loc)(o:Nat):Ze Tryd.prog 65 (.ptr l o) 1=⟨1≠0, .ptr l (o+1)⟩:=by kernel_rfl
theorem qsj(l:AM.Loc)(o:Nat):Ze Tryd.prog 65 (.ptr l o) 2=⟨2≠0, .ptr l (o+2)⟩:=by kernel_rfl
theorem qgZ(x0:Int)(x1:Int):Uc Tryd.prog 26 [(0, .int .i64 x0),(1, .int .i64 x1)]=⟨True, .agg [.int .i64 x0, .int .i64 x1]⟩:=by kernel_rfl
theorem qjU(x0:Int)(x1:Int)(x2:Int):Uc Tryd.prog 28 [(0, .int .i64 x0),(1, .agg [.int .i64 x1, .int .i64 x2])]=⟨True, .agg [.int .i64 x0, .int .i64 x1, .int .i64 x2]⟩:=by kernel_rfl
theorem bld28_:Uc Tryd.prog 28 []=⟨True, .agg [.int .i64 0, .int .i64 0, .int .i64 0]⟩:=by kernel_rfl
theorem qsM:Uc Tryd.prog 44 []=⟨True, .agg [.str [], .nilSlice]⟩:=by kernel_rfl
theorem qpV(x0:List UInt8)(x3:AVal)(hx3:Sc x3):Uc Tryd.prog 48 [(0, .str x0),(2,x3)]=⟨True, .agg [.str x0, .int .i64 0, .int .i64 0,x3, .nilSlice]⟩:=by(cases x3<;>first|exact hx3.elim|skip)<;>kernel_rfl
theorem bld44_1(x1:AVal)(hx1:Sc x1):Uc Tryd.prog 44 [(1,x1)]=⟨True, .agg [.str [],x1]⟩:=by(cases x1<;>first|exact hx1.elim|skip)<;>kernel_rfl
theorem qpU(x0:List UInt8)(x2:AVal)(hx2:Sc x2):Uc Tryd.prog 50 [(0, .str x0),(2,x2)]=⟨True, .agg [.str x0, .nilSlice,x2]⟩:=by(cases x2<;>first|exact hx2.elim|skip)<;>kernel_rfl
theorem qmi(x0:List UInt8)(x3:AVal)(hx3:Sc x3)(x4:AVal)(hx4:Sc x4):Uc Tryd.prog 48 [(0, .str x0),(2,x3),(3,x4)]=⟨True, .agg [.str x0, .int .i64 0, .int .i64 0,x3,x4]⟩:=by(cases x3<;>first|exact hx3.elim|skip)<;>(cases x4<;>first|exact hx4.elim|skip)<;>kernel_rfl
theorem bld60_0(x0:AVal)(hx0:Sc x0):Uc Tryd.prog 60 [(0,x0)]=⟨True, .agg [x0, .int .i64 0, .nilSlice]⟩:=by(cases x0<;>first|exact hx0.elim|skip)<;>kernel_rfl
theorem qmh(x0:Int)(x1:List UInt8)(x2:Int)(x3:Int):Uc Tryd.prog 65 [(0, .int .u8 x0),(1, .str x1),(2, .agg [.int .i64 x2, .int .i64 x3])]=⟨True, .agg [.int .u8 x0, .str x1, .int .i64 x2, .int .i64 x3, .bool false]⟩:=by kernel_rfl
theorem qgY(x0:Int)(x1:List UInt8):Uc Tryd.prog 65 [(0, .int .u8 x0),(1, .str x1)]=⟨True, .agg [.int .u8 x0, .str x1, .int .i64 0, .int .i64 0, .bool false]⟩:=by kernel_rfl
theorem bld28_0(x0:Int):Uc Tryd.prog 28 [(0, .int .i64 x0)]=⟨True, .agg [.int .i64 x0, .int .i64 0, .int .i64 0]⟩:=by kernel_rfl
theorem qmj(x0:List UInt8)(x1:Int)(x2:Int)(x3:AVal)(hx3:Sc x3):Uc Tryd.prog 48 [(0, .str x0),(1, .agg [.int .i64 x1, .int .i64 x2]),(2,x3)]=⟨True, .agg [.str x0, .int .i64 x1, .int .i64 x2,x3, .nilSlice]⟩:=by(cases x3<;>first|exact hx3.elim|skip)<;>kernel_rfl
theorem bld50_0(x0:List UInt8):Uc Tryd.prog 50 [(0, .str x0)]=⟨True, .agg [.str x0, .nilSlice, .nilSlice]⟩:=by kernel_rfl
theorem bld44_0(x0:List UInt8):Uc Tryd.prog 44 [(0, .str x0)]=⟨True, .agg [.str x0, .nilSlice]⟩:=by kernel_rfl
theorem mixed:Tryd.prog.follows .mixedOrders=true:=by kernel_rfl
end Go.Proofs.YtgiadjbiimkbiaaDoor
namespace Go.Proofs
open Go.Shelf
def Tryd.lays156_ren:Go.Shelf.Ren:=⟨fun|156=>10|165=>28|166=>29|169=>30|240=>51|241=>52|276=>73|277=>74|n=>n,fun|31=>22|9=>9|3=>3|4=>4|0=>0|20=>20|72=>77|76=>81|70=>75|37=>35|75=>80|127=>105|164=>133|5=>5|80=>83|n=>n,fun|n=>n⟩
theorem Tryd.lays156:Go.Proofs.Lays.n156 Tryd.prog Tryd.lays156_ren:={
 mixed:=by kernel_rfl
 f156:=Tryd.func10.trans (congrArg some (by kernel_rfl))
 f165:=Tryd.func28.trans (congrArg some (by kernel_rfl))
 f166:=Tryd.func29.trans (congrArg some (by kernel_rfl))
 f169:=Tryd.func30.trans (congrArg some (by kernel_rfl))
 f240:=Tryd.func51.trans (congrArg some (by kernel_rfl))
 f241:=Tryd.func52.trans (congrArg some (by kernel_rfl))
 f276:=Tryd.func73.trans (congrArg some (by kernel_rfl))
 f277:=Tryd.func74.trans (congrArg some (by kernel_rfl))
 t0:=Tryd.underlying0
 a0:=Tryd.isAgg0
 z0:=Tryd.sizeOf0
 v0:=Tryd.zeroValue0
 t3:=Tryd.underlying3
 a3:=Tryd.isAgg3
 z3:=Tryd.sizeOf3
 v3:=Tryd.zeroValue3
 t4:=Tryd.underlying4
 a4:=Tryd.isAgg4
 z4:=Tryd.sizeOf4
 v4:=Tryd.zeroValue4
 t9:=Tryd.underlying9
 a9:=Tryd.isAgg9
 z9:=Tryd.sizeOf9
 v9:=Tryd.zeroValue9
 t20:=Tryd.underlying20
 a20:=Tryd.isAgg20
 z20:=Tryd.sizeOf20
 v20:=Tryd.zeroValue20
 t31:=Tryd.underlying22
 a31:=Tryd.isAgg22
 z31:=Tryd.sizeOf22
 v31:=Tryd.zeroValue22
 t37:=Tryd.underlying35
 a37:=Tryd.isAgg35
 z37:=Tryd.sizeOf35
 v37:=Tryd.zeroValue35
 t70:=Tryd.underlying75
 a70:=Tryd.isAgg75
 z70:=Tryd.sizeOf75
 v70:=Tryd.zeroValue75
 t72:=Tryd.underlying77
 a72:=Tryd.isAgg77
 z72:=Tryd.sizeOf77
 v72:=Tryd.zeroValue77
 t75:=Tryd.underlying80
 a75:=Tryd.isAgg80
 z75:=Tryd.sizeOf80
 v75:=Tryd.zeroValue80
 t76:=Tryd.underlying81
 a76:=Tryd.isAgg81
 z76:=Tryd.sizeOf81
 v76:=Tryd.zeroValue81
 t127:=Tryd.underlying105
 a127:=Tryd.isAgg105
 z127:=Tryd.sizeOf105
 v127:=Tryd.zeroValue105
 t164:=Tryd.underlying133
 a164:=Tryd.isAgg133
 z164:=Tryd.sizeOf133
 v164:=Tryd.zeroValue133}
theorem Tryd.Builder_Extra_156:Builder.Extra Tryd.prog Tryd.lays156_ren:={
 sizeBuilder:=by kernel_rfl
 liesBuilder:=by kernel_rfl
 t5:=Tryd.underlying5
 a5:=Tryd.isAgg5
 z5:=Tryd.sizeOf5
 v5:=Tryd.zeroValue5
 infoByte:=by kernel_rfl
 cellsByte:=by kernel_rfl
 sizeByte:=by kernel_rfl
 neB5:=by decide}
open Go.RowKit in
theorem Tryd.strings_Join_none(a:Option Addr)(c:Nat)(sep:ByteArray)(w:World):
 Calls Tryd.prog 10 #[.slice a 0 c, .string sep] w fun e w'=>e= .returned (.string ⟨#[]⟩)/\w'=w:=Any.strings_Join_none Tryd.lays156 Tryd.Builder_Extra_156 a c sep w
open Go.RowKit in
theorem Tryd.strings_Join(bk o c:Nat)(xs:List ByteArray)(sep:ByteArray)(w:World)(hcells:∀(j:Nat) x,xs[j]?=some x->w.cell? ⟨bk,o+j,none⟩=some (.string x))(hbk:bk<w.heap.size)(hN:xs.length<=140737488355328)(hcap:xs.length<=c)(hlen:(Lib.join (xs.map (·.data.toList)) sep.data.toList).length<=140737488355328):
 Calls Tryd.prog 10 #[.slice (some ⟨bk,o,none⟩) xs.length c, .string sep] w fun e w'=>e= .returned (.string ⟨(Lib.join (xs.map (·.data.toList)) sep.data.toList).toArray⟩)/\Below w.heap.size w w':=Any.strings_Join Tryd.lays156 Tryd.Builder_Extra_156 bk o c xs sep w hcells hbk hN hcap hlen
def Tryd.lays160_ren:Go.Shelf.Ren:=⟨fun|160=>21|232=>40|231=>39|227=>41|234=>43|233=>42|236=>45|235=>44|228=>66|271=>69|151=>68|197=>67|120=>85|152=>84|260=>83|137=>94|119=>95|224=>88|225=>87|217=>86|266=>96|n=>n,fun|9=>9|4=>4|3=>3|5=>5|117=>94|116=>93|0=>0|124=>97|21=>21|105=>127|46=>158|119=>84|139=>167|138=>166|n=>n,fun|3=>3|4=>4|n=>n⟩
theorem Tryd.lays160:Go.Proofs.Lays.n160 Tryd.prog Tryd.lays160_ren:={
 mixed:=by kernel_rfl
 f119:=Tryd.func95.trans (congrArg some (by kernel_rfl))
 f120:=Tryd.func85.trans (congrArg some (by kernel_rfl))
 f137:=Tryd.func94.trans (congrArg some (by kernel_rfl))
 f151:=Tryd.func68.trans (congrArg some (by kernel_rfl))
 f152:=Tryd.func84.trans (congrArg some (by kernel_rfl))
 f160:=Tryd.func21.trans (congrArg some (by kernel_rfl))
 f197:=Tryd.func67.trans (congrArg some (by kernel_rfl))
 f217:=Tryd.func86.trans (congrArg some (by kernel_rfl))
 f224:=Tryd.func88.trans (congrArg some (by kernel_rfl))
 f225:=Tryd.func87.trans (congrArg some (by kernel_rfl))
 f227:=Tryd.func41.trans (congrArg some (by kernel_rfl))
 f228:=Tryd.func66.trans (congrArg some (by kernel_rfl))
 f231:=Tryd.func39.trans (congrArg some (by kernel_rfl))
 f232:=Tryd.func40.trans (congrArg some (by kernel_rfl))
 f233:=Tryd.func42.trans (congrArg some (by kernel_rfl))
 f234:=Tryd.func43.trans (congrArg some (by kernel_rfl))
 f235:=Tryd.func44.trans (congrArg some (by kernel_rfl))
 f236:=Tryd.func45.trans (congrArg some (by kernel_rfl))
 f260:=Tryd.func83.trans (congrArg some (by kernel_rfl))
 f266:=Tryd.func96.trans (congrArg some (by kernel_rfl))
 f271:=Tryd.func69.trans (congrArg some (by kernel_rfl))
 t0:=Tryd.underlying0
 a0:=Tryd.isAgg0
 z0:=Tryd.sizeOf0
 v0:=Tryd.zeroValue0
 t3:=Tryd.underlying3
 a3:=Tryd.isAgg3
 z3:=Tryd.sizeOf3
 v3:=Tryd.zeroValue3
 t4:=Tryd.underlying4
 a4:=Tryd.isAgg4
 z4:=Tryd.sizeOf4
 v4:=Tryd.zeroValue4
 t5:=Tryd.underlying5
 a5:=Tryd.isAgg5
 z5:=Tryd.sizeOf5
 v5:=Tryd.zeroValue5
 t9:=Tryd.underlying9
 a9:=Tryd.isAgg9
 z9:=Tryd.sizeOf9
 v9:=Tryd.zeroValue9
 t21:=Tryd.underlying21
 a21:=Tryd.isAgg21
 z21:=Tryd.sizeOf21
 v21:=Tryd.zeroValue21
 t46:=Tryd.underlying158
 a46:=Tryd.isAgg158
 z46:=Tryd.sizeOf158
 v46:=Tryd.zeroValue158
 t105:=Tryd.underlying127
 a105:=Tryd.isAgg127
 z105:=Tryd.sizeOf127
 v105:=Tryd.zeroValue127
 t116:=Tryd.underlying93
 a116:=Tryd.isAgg93
 z116:=Tryd.sizeOf93
 t117:=Tryd.underlying94
 a117:=Tryd.isAgg94
 z117:=Tryd.sizeOf94
 v117:=Tryd.zeroValue94
 t119:=Tryd.underlying84
 a119:=Tryd.isAgg84
 z119:=Tryd.sizeOf84
 t124:=Tryd.underlying97
 a124:=Tryd.isAgg97
 z124:=Tryd.sizeOf97
 v124:=Tryd.zeroValue97
 t138:=Tryd.underlying166
 a138:=Tryd.isAgg166
 z138:=Tryd.sizeOf166
 v138:=Tryd.zeroValue166
 t139:=Tryd.underlying167
 a139:=Tryd.isAgg167
 z139:=Tryd.sizeOf167
 v139:=Tryd.zeroValue167
 g3:=by kernel_rfl
 g4:=by kernel_rfl}
open Go.RowKit in
theorem Tryd.strings_Trim_one(s:ByteArray)(c:UInt8)(hc:c.toNat<128)(w:World)(hs:s.size<=9223372036854775807):
 Calls Tryd.prog 21 #[.string s, .string ⟨#[c]⟩] w fun e w'=>e= .returned (.string ⟨(Lib.trimB s.data.toList c).toArray⟩)/\(w'=w\/w'=w.drew):=Any.strings_Trim_one Tryd.lays160 s c hc w hs
def Tryd.lays103_ren:Go.Shelf.Ren:=⟨fun|103=>78|210=>91|206=>98|n=>n,fun|9=>9|4=>4|24=>120|3=>3|n=>n,fun|n=>n⟩
theorem Tryd.lays103:Go.Proofs.Lays.n103 Tryd.prog Tryd.lays103_ren:={
 mixed:=by kernel_rfl
 f103:=Tryd.func78.trans (congrArg some (by kernel_rfl))
 f206:=Tryd.func98.trans (congrArg some (by kernel_rfl))
 f210:=Tryd.func91.trans (congrArg some (by kernel_rfl))
 t3:=Tryd.underlying3
 a3:=Tryd.isAgg3
 z3:=Tryd.sizeOf3
 v3:=Tryd.zeroValue3
 t4:=Tryd.underlying4
 a4:=Tryd.isAgg4
 z4:=Tryd.sizeOf4
 v4:=Tryd.zeroValue4
 t9:=Tryd.underlying9
 a9:=Tryd.isAgg9
 z9:=Tryd.sizeOf9
 v9:=Tryd.zeroValue9
 t24:=Tryd.underlying120
 a24:=Tryd.isAgg120
 z24:=Tryd.sizeOf120
 v24:=Tryd.zeroValue120}
open Go.RowKit in
theorem Tryd.strings_CutPrefix(s p:ByteArray)(w:World):
 Calls Tryd.prog 78 #[.string s, .string p] w fun e w'=>e= .returned (.tuple #[.string ⟨(Lib.trimPrefix s.data.toList p.data.toList).toArray⟩, .bool (Lib.hasPrefix s.data.toList p.data.toList)])/\w'=w:=Any.strings_CutPrefix Tryd.lays103 s p w
def Tryd.lays219_ren:Go.Shelf.Ren:=⟨fun|219=>70|217=>86|225=>87|224=>88|267=>89|266=>96|314=>97|n=>n,fun|9=>9|3=>3|4=>4|5=>5|46=>158|146=>168|51=>109|n=>n,fun|1=>2|n=>n⟩
def Tryd.lays143_ren:Go.Shelf.Ren:=⟨fun|143=>46|219=>70|217=>86|225=>87|224=>88|267=>89|266=>96|314=>97|n=>n,fun|9=>9|3=>3|4=>4|5=>5|46=>158|146=>168|51=>109|n=>n,fun|1=>2|n=>n⟩
theorem Tryd.lays143:Go.Proofs.Lays.n143 Tryd.prog Tryd.lays143_ren:={
 mixed:=by kernel_rfl
 f143:=Tryd.func46.trans (congrArg some (by kernel_rfl))
 f217:=Tryd.func86.trans (congrArg some (by kernel_rfl))
 f219:=Tryd.func70.trans (congrArg some (by kernel_rfl))
 f224:=Tryd.func88.trans (congrArg some (by kernel_rfl))
 f225:=Tryd.func87.trans (congrArg some (by kernel_rfl))
 f266:=Tryd.func96.trans (congrArg some (by kernel_rfl))
 f267:=Tryd.func89.trans (congrArg some (by kernel_rfl))
 f314:=Tryd.func97.trans (congrArg some (by kernel_rfl))
 t3:=Tryd.underlying3
 a3:=Tryd.isAgg3
 z3:=Tryd.sizeOf3
 v3:=Tryd.zeroValue3
 t4:=Tryd.underlying4
 a4:=Tryd.isAgg4
 z4:=Tryd.sizeOf4
 v4:=Tryd.zeroValue4
 t5:=Tryd.underlying5
 a5:=Tryd.isAgg5
 z5:=Tryd.sizeOf5
 v5:=Tryd.zeroValue5
 t9:=Tryd.underlying9
 a9:=Tryd.isAgg9
 z9:=Tryd.sizeOf9
 v9:=Tryd.zeroValue9
 t46:=Tryd.underlying158
 a46:=Tryd.isAgg158
 z46:=Tryd.sizeOf158
 v46:=Tryd.zeroValue158
 t51:=Tryd.underlying109
 a51:=Tryd.isAgg109
 z51:=Tryd.sizeOf109
 v51:=Tryd.zeroValue109
 t146:=Tryd.underlying168
 a146:=Tryd.isAgg168
 z146:=Tryd.sizeOf168
 v146:=Tryd.zeroValue168
 g1:=by kernel_rfl}
open Go.RowKit Go.Lib in
theorem Tryd.strings_Index_one(s:ByteArray)(c:UInt8)(w:World):
 Calls Tryd.prog 46 #[.string s, .string ⟨#[c]⟩] w fun e w'=>e= .returned (.int .i64 (Lib.indexByte s.data.toList c))/\w'=w:=Any.strings_Index_one Tryd.lays143 s c w
def Tryd.lays144_ren:Go.Shelf.Ren:=⟨fun|144=>22|143=>46|219=>70|217=>86|225=>87|224=>88|267=>89|266=>96|314=>97|n=>n,fun|9=>9|4=>4|3=>3|5=>5|46=>158|146=>168|51=>109|n=>n,fun|1=>2|n=>n⟩
theorem Tryd.lays144:Go.Proofs.Lays.n144 Tryd.prog Tryd.lays144_ren:={
 mixed:=by kernel_rfl
 f143:=Tryd.func46.trans (congrArg some (by kernel_rfl))
 f144:=Tryd.func22.trans (congrArg some (by kernel_rfl))
 f217:=Tryd.func86.trans (congrArg some (by kernel_rfl))
 f219:=Tryd.func70.trans (congrArg some (by kernel_rfl))
 f224:=Tryd.func88.trans (congrArg some (by kernel_rfl))
 f225:=Tryd.func87.trans (congrArg some (by kernel_rfl))
 f266:=Tryd.func96.trans (congrArg some (by kernel_rfl))
 f267:=Tryd.func89.trans (congrArg some (by kernel_rfl))
 f314:=Tryd.func97.trans (congrArg some (by kernel_rfl))
 t3:=Tryd.underlying3
 a3:=Tryd.isAgg3
 z3:=Tryd.sizeOf3
 v3:=Tryd.zeroValue3
 t4:=Tryd.underlying4
 a4:=Tryd.isAgg4
 z4:=Tryd.sizeOf4
 v4:=Tryd.zeroValue4
 t5:=Tryd.underlying5
 a5:=Tryd.isAgg5
 z5:=Tryd.sizeOf5
 v5:=Tryd.zeroValue5
 t9:=Tryd.underlying9
 a9:=Tryd.isAgg9
 z9:=Tryd.sizeOf9
 v9:=Tryd.zeroValue9
 t46:=Tryd.underlying158
 a46:=Tryd.isAgg158
 z46:=Tryd.sizeOf158
 v46:=Tryd.zeroValue158
 t51:=Tryd.underlying109
 a51:=Tryd.isAgg109
 z51:=Tryd.sizeOf109
 v51:=Tryd.zeroValue109
 t146:=Tryd.underlying168
 a146:=Tryd.isAgg168
 z146:=Tryd.sizeOf168
 v146:=Tryd.zeroValue168
 g1:=by kernel_rfl}
open Go.RowKit Go.Lib in
theorem Tryd.strings_Contains(s sub:ByteArray)(m:Int)(w:World)(hs:s.size<4294967281)(hm:w.cell? ⟨2,0,none⟩=some (.int .i64 m)):
 Calls Tryd.prog 22 #[.string s, .string sub] w fun e w'=>e= .returned (.bool (Lib.contains s.data.toList sub.data.toList))/\w'=w:=Any.strings_Contains Tryd.lays144 s sub m w hs hm
def Tryd.lays157_ren:Go.Shelf.Ren:=⟨fun|157=>12|229=>31|199=>32|261=>53|311=>75|312=>76|n=>n,fun|9=>9|31=>22|3=>3|5=>5|4=>4|119=>84|0=>0|40=>86|152=>106|21=>21|154=>108|51=>109|141=>111|196=>139|193=>136|198=>142|49=>140|194=>137|201=>145|226=>160|46=>158|227=>161|n=>n,fun|0=>0|6=>1|n=>n⟩
def Tryd.laysM157_ren:Go.Shelf.Ren:=⟨fun|157=>12|229=>31|199=>32|261=>53|311=>75|312=>76|n=>n,fun|9=>9|31=>22|3=>3|5=>5|4=>4|119=>84|0=>0|40=>86|152=>106|21=>21|154=>108|51=>109|141=>111|196=>139|193=>136|198=>142|49=>140|194=>137|201=>145|226=>160|46=>158|227=>161|n=>n,fun|0=>0|6=>1|n=>n⟩
theorem Tryd.laysM157:Go.Proofs.LaysM.n157 Tryd.prog Tryd.laysM157_ren:={
 mixed:=by kernel_rfl
 f157:=Tryd.func12.trans (congrArg some (by kernel_rfl))
 f199:=Tryd.func32.trans (congrArg some (by kernel_rfl))
 f229:=Tryd.func31.trans (congrArg some (by kernel_rfl))
 f261:=Tryd.func53.trans (congrArg some (by kernel_rfl))
 f311:=Tryd.func75.trans (congrArg some (by kernel_rfl))
 f312:=Tryd.func76.trans (congrArg some (by kernel_rfl))
 t0:=Tryd.underlying0
 a0:=Tryd.isAgg0
 z0:=Tryd.sizeOf0
 v0:=Tryd.zeroValue0
 t3:=Tryd.underlying3
 a3:=Tryd.isAgg3
 z3:=Tryd.sizeOf3
 v3:=Tryd.zeroValue3
 t4:=Tryd.underlying4
 a4:=Tryd.isAgg4
 z4:=Tryd.sizeOf4
 v4:=Tryd.zeroValue4
 t5:=Tryd.underlying5
 a5:=Tryd.isAgg5
 z5:=Tryd.sizeOf5
 v5:=Tryd.zeroValue5
 t9:=Tryd.underlying9
 a9:=Tryd.isAgg9
 z9:=Tryd.sizeOf9
 v9:=Tryd.zeroValue9
 t21:=Tryd.underlying21
 a21:=Tryd.isAgg21
 z21:=Tryd.sizeOf21
 v21:=Tryd.zeroValue21
 t31:=Tryd.underlying22
 a31:=Tryd.isAgg22
 z31:=Tryd.sizeOf22
 v31:=Tryd.zeroValue22
 t40:=Tryd.underlying86
 a40:=Tryd.isAgg86
 z40:=Tryd.sizeOf86
 v40:=Tryd.zeroValue86
 t46:=Tryd.underlying158
 a46:=Tryd.isAgg158
 z46:=Tryd.sizeOf158
 v46:=Tryd.zeroValue158
 t49:=Tryd.underlying140
 a49:=Tryd.isAgg140
 z49:=Tryd.sizeOf140
 v49:=Tryd.zeroValue140
 t51:=Tryd.underlying109
 a51:=Tryd.isAgg109
 z51:=Tryd.sizeOf109
 v51:=Tryd.zeroValue109
 t119:=Tryd.underlying84
 a119:=Tryd.isAgg84
 z119:=Tryd.sizeOf84
 t141:=Tryd.underlying111
 a141:=Tryd.isAgg111
 z141:=Tryd.sizeOf111
 v141:=Tryd.zeroValue111
 t152:=Tryd.underlying106
 a152:=Tryd.isAgg106
 z152:=Tryd.sizeOf106
 v152:=Tryd.zeroValue106
 t154:=Tryd.underlying108
 a154:=Tryd.isAgg108
 z154:=Tryd.sizeOf108
 v154:=Tryd.zeroValue108
 t193:=Tryd.underlying136
 a193:=Tryd.isAgg136
 z193:=Tryd.sizeOf136
 v193:=Tryd.zeroValue136
 t194:=Tryd.underlying137
 a194:=Tryd.isAgg137
 z194:=Tryd.sizeOf137
 v194:=Tryd.zeroValue137
 t196:=Tryd.underlying139
 a196:=Tryd.isAgg139
 z196:=Tryd.sizeOf139
 v196:=Tryd.zeroValue139
 t198:=Tryd.underlying142
 a198:=Tryd.isAgg142
 z198:=Tryd.sizeOf142
 v198:=Tryd.zeroValue142
 t201:=Tryd.underlying145
 a201:=Tryd.isAgg145
 z201:=Tryd.sizeOf145
 v201:=Tryd.zeroValue145
 t226:=Tryd.underlying160
 a226:=Tryd.isAgg160
 z226:=Tryd.sizeOf160
 v226:=Tryd.zeroValue160
 t227:=Tryd.underlying161
 a227:=Tryd.isAgg161
 z227:=Tryd.sizeOf161
 v227:=Tryd.zeroValue161
 g0:=by kernel_rfl
 g6:=by kernel_rfl
 i0:=by kernel_rfl
 i3:=by kernel_rfl
 i4:=by kernel_rfl
 i5:=by kernel_rfl
 i9:=by kernel_rfl
 i21:=by kernel_rfl
 i31:=by kernel_rfl
 i40:=by kernel_rfl
 i46:=by kernel_rfl
 i49:=by kernel_rfl
 i51:=by kernel_rfl
 i141:=by kernel_rfl
 i152:=by kernel_rfl
 i154:=by kernel_rfl
 i193:=by kernel_rfl
 i194:=by kernel_rfl
 i196:=by kernel_rfl
 i198:=by kernel_rfl
 i201:=by kernel_rfl
 i226:=by kernel_rfl
 i227:=by kernel_rfl
 m0:=by kernel_rfl
 m6:=by kernel_rfl}
open Go.RowKit Go.Lib in
theorem Tryd.strings_Fields_laid(s:ByteArray)(w:World)(hs:s.size<4294967281)(hascii:∀(j:Nat) b,s.data.toList[j]?=some b->b.toNat<128)(htab:Lib.TabIs Tryd.prog w "strings.asciiSpace" .u8 Lib.asciiSpaceTab):
 Calls Tryd.prog 12 #[.string s] w fun e w'=>
  e= .returned (.slice (some ⟨w.heap.size,0,none⟩) (Lib.fields s.data.toList).length (Lib.fields s.data.toList).length)/\w'=w.alloc (.cells ((Lib.fields s.data.toList).map fun l=>Value.string ⟨l.toArray⟩).toArray 9):=Any.strings_Fields_laid Tryd.laysM157 s w hs hascii htab
end Go.Proofs
namespace Go.Proofs.YtgiadjbiimkbiaaDoor
open Go.AM
open Go.Proofs
open Go.Col
open Go.RowKit (Below)
set_option maxRecDepth 100000
theorem extract_mk(s:Str)(a b:Nat):((⟨⟨s⟩⟩:ByteArray).extract a b)=⟨⟨(s.drop a).take (b-a)⟩⟩:=by
 apply ByteArray.ext;apply Array.ext';rw[Lib.extract_data]
theorem qkS{P:Program}{w0:World}{f:FuncId}{fn:Func}{h:AHeap}{args:List AVal}{vals:List Value}{cs:List Value}{n:Nat}{e:TypeId}{xs:List AVal}(hf:P.funcs[f]?=some fn)(hname:(fn.name== "runtime.NumGoroutine")=false)(hb:fn.body.isSome=true)
 (hv:∀fi vs,VRs fi args vs->vs=vals) (hx:∀fi,VRs fi xs cs)
 (hc:∀w,Go.RowKit.Below w0.heap.size w0 w->Calls P f vals.toArray w fun en w'=>en= .returned (.slice (some ⟨w.heap.size,0,none⟩) n n)/\w'=w.alloc (.cells cs.toArray e)):
 ACall P w0 f args h (fun v h'=>∃k,h k=none/\v= .slice (.own k) 0 n (.exact n)/\h'=h.set k ⟨xs,0⟩):=by
 intro fi vs w hr hvs;obtain rfl:=hv fi vs hvs;refine .inl ⟨fn,hf,hname,hb,(hc w hr.below).mono fun en w' ⟨e1,e2⟩=>?_⟩;obtain⟨k,hk,hφ,ht⟩:=hr.freshN;have hlen:xs.length=cs.length:=(Zm (hx fi)).symm;obtain⟨h1,h2⟩:=hr.alloc k hk hφ xs cs.toArray e 0 0 (by rw[hlen];simpa using hx fi) qck (fun t h'=>by rw[ht]at h';cases h');refine⟨_,e1,_,_,_,h1,?_,?_,k,hk,rfl,rfl⟩
 ·rw[e2];exact h2
 ·simp only[VR]
  refine⟨_,rfl,fun _=>?_⟩;simp[XU,JY]
abbrev MaxL(w:World):Prop:=∃m,w.cell? ⟨2,0,none⟩=some (.int .i64 m)
theorem qlg(fi:PMap):∀l:List Str,VRs fi (l.map AVal.str) (l.map fun x=>Value.string ⟨⟨x⟩⟩)
 |[]=>rfl
 |x::l=>by
  simp only[Ke,VRs];exact⟨_,_,rfl,rfl,qlg fi l⟩
theorem qmu{fi:PMap}:∀{l:List Str} {vs:List Value},VRs fi (l.map AVal.str) vs->vs=l.map fun x=>Value.string ⟨⟨x⟩⟩
 |[],_,h=>h
 |x::l,vs,h=>by
  simp only[Ke,VRs,VR]at h;obtain⟨v,vs',rfl,rfl,h2⟩:=h;rw[qmu h2];rfl
theorem qbI{fi:PMap}{l:AM.Loc}{o:Nat}{a:Addr}(h:XU fi l o=some a):a=⟨a.block,a.off,none⟩:=by
 cases l with
 |base b=>simp only[XU,Option.some.injEq]at h;subst h;rfl
 |own k=>
  simp only[XU,Kc]at h;obtain⟨p,_,rfl⟩:=h;rfl
abbrev IsStrs(w0:World)(h:AHeap)(v:AVal)(l:List Str):Prop:=IsL w0 h 1 v (l.map fun s=>[AVal.str s])
theorem qeL:∀l:List Str,(l.map fun s=>[AVal.str s]).flatten=l.map AVal.str
 |[]=>rfl
 |x::l=>by simp[qeL l]
theorem qgW(w0:World)(h:AHeap)(v:AVal)(l:List Str)(sep:Str)(hv:IsStrs w0 h v l)(hn:l.length<=140737488355328)(hl:(Lib.join l sep).length<=140737488355328):
 ACall Tryd.prog w0 10 [v, .str sep] h (fun r h'=>r= .str (Lib.join l sep)/\h'=h):=by
 intro fi vals w hr hvs;simp only[VRs,VR]at hvs;obtain⟨u,vs',rfl,hu,u2,vs2,rfl,rfl,rfl⟩:=hvs;have fin:∀{R:Ending->World->Prop},Calls Tryd.prog 10 #[u, .string ⟨⟨sep⟩⟩] w R->(∀e w',R e w'->e= .returned (.string ⟨⟨Lib.join l sep⟩⟩)/\Below w.heap.size w w')->
  Lands Tryd.prog 10 [u, .string ⟨⟨sep⟩⟩].toArray w fun v w'=>∃Ps x h',fi.le Ps/\HRel w0 Ps h' w'/\VR Ps x v/\x= .str (Lib.join l sep)/\h'=h:=fun hc hq=>
  .inl ⟨_,Tryd.func10,rfl,rfl,hc.mono fun e w' hR=>⟨_,(hq e w' hR).1,fi, .str (Lib.join l sep),h,fi.le_refl,hr.later (hq e w' hR).2,rfl,rfl,rfl⟩⟩
 obtain⟨xs,hxs⟩:∃xs,xs=l.map fun s=>[AVal.str s]:=⟨_,rfl⟩
 unfold IsStrs at hv;rw[<-hxs]at hv;cases hv with
 |nil=>
  have e0:l=[]:=Vu.1 hxs.symm;subst e0;simp only[VR]at hu;subst hu;exact fin (Tryd.strings_Join_none none 0 ⟨⟨sep⟩⟩ w) fun e w' ⟨e1,e2⟩=>⟨e1,by subst e2;exact Below.refl _ _⟩
 |mk lc o n c xs hn' hw hc hlv hcap=>
  subst hxs;rw[Jn]at hn';subst hn';obtain⟨a,cp,rfl,ha⟩:=Yz hu;by_cases h0:l.length=0
  ·have e0:l=[]:=Kg h0
   subst e0;exact fin (Tryd.strings_Join_none (some a) cp ⟨⟨sep⟩⟩ w) fun e w' ⟨e1,e2⟩=>⟨e1,by subst e2;exact Below.refl _ _⟩
  ·have ha':=ha h0
   obtain⟨us,u1,u2,u3⟩:=qdH hr lc (l.length*1) o a ha' (by rw[hc];exact hlv);rw[hc,qeL]at u2;have hus:=qmu u2;have has:=qbI ha';have hcell:∀(j:Nat) (x:ByteArray),(l.map fun x=>(⟨⟨x⟩⟩:ByteArray))[j]?=some x->w.cell? ⟨a.block,a.off+j,none⟩=some (.string x):=fun j x hj=>by
    have:=u3 j (.string x) (by rw[hus];simp only[Vv,Kc]at hj|-;obtain⟨y,hy,rfl⟩:=hj;exact⟨y,hy,rfl⟩);rw[has]at this;by_cases hj0:j=0
    ·subst hj0
     simpa[Addr.add]using this
    ·simpa[Addr.add,hj0]using this
   have hblk:a.block<w.heap.size:=by
    cases hl0:l with
    |nil=>rw[hl0]at h0;exact absurd rfl h0
    |cons x r=>exact qhI (hcell 0 ⟨⟨x⟩⟩ (by rw[hl0];rfl))
   have hcp:l.length<=cp:=by
    cases c with
    |exact c=>
     simp only[VR]at hu;obtain⟨a',e1,_⟩:=hu;cases e1;exact hcap
    |grow es=>
     simp only[VR]at hu;obtain⟨k,p,c',a',_,_,e1,hle,_⟩:=hu;cases e1;exact hle
   have hmm:(l.map fun x=>(⟨⟨x⟩⟩:ByteArray)).map (fun x=>x.data.toList)=l:=by rw[List.map_map];exact List.map_id _
   have hj:=Tryd.strings_Join a.block a.off cp (l.map fun x=>(⟨⟨x⟩⟩:ByteArray)) ⟨⟨sep⟩⟩ w hcell hblk (by rw[Jn];exact hn) (by rw[Jn];exact hcp) (by rw[hmm];exact hl);rw[Jn,hmm,<-has]at hj;exact fin hj fun e w' ⟨e1,e2⟩=>⟨e1,e2⟩
end Go.Proofs.YtgiadjbiimkbiaaDoor
namespace Go.Tok
open Go.Col (Str FaultC okF)
set_option maxRecDepth 100000
structure TokC where
 kind:UInt8
 text:Str
 line:Int
 col:Int
 left:Bool
 deriving DecidableEq
def qss(b:UInt8):Bool:=decide (48<=b.toNat) && decide (b.toNat<=57)
def qov(s:Str)(i:Int):UInt8:=if i<0\/(s.length:Int)<=i then 32 else s.getD i.toNat 0
def runE(s:Str)(i:Nat)(p:UInt8->Bool):Nat:=((s.drop i).takeWhile p).length
def qom(s:Str)(i:Nat):Bool:=(decide (qov s i=43)||decide (qov s i=45)) && (decide (qov s ((i:Int)-1)=32)||decide (qov s ((i:Int)-1)=40))
def d0E(s:Str)(i:Nat):Nat:=runE s (i+(qom s i).toNat) qss
def n1E(s:Str)(i:Nat):Nat:=(qom s i).toNat+d0E s i
def moreE(s:Str)(i:Nat):Nat:=runE s (i+n1E s i+1) qss
end Go.Tok
namespace Go.Stm
open Go.Col (Str FaultC okF)
open Go.Tok
set_option maxRecDepth 100000
structure PhrC where
 words:Str
 toks:List TokC
 deriving DecidableEq
inductive StC where
 |mk (verb:Str) (line col:Int) (phrases:List PhrC) (bodies:List (Str×List TokC×List StC))
def StC.verb:StC->Str| .mk v _ _ _ _=>v
def StC.line:StC->Int| .mk _ l _ _ _=>l
def StC.col:StC->Int| .mk _ _ c _ _=>c
def StC.phrases:StC->List PhrC| .mk _ _ _ p _=>p
def StC.bodies:StC->List (Str×List TokC×List StC)| .mk _ _ _ _ b=>b
abbrev BodC:=Str×List TokC×List StC
def noT:TokC:=⟨0,[],0,0,false⟩
def WK(sep:UInt8):Str->Str->List Str
 |acc,[]=>[acc]
 |acc,c::s=>if c=sep then acc::WK sep [] s else WK sep (acc++[c]) s
def qcd(s:Str):List Str:=WK 59 [] s
def qrG:Str:=[40,41]
def qls:Str:=[40,41,91,93]
def qsU:Str:=[84,72,82,79,85,71,72]
def qmv:Str:=[84,72,82,85]
def TOPTOw:Str:=[84,79,32,80,82,79,67,69,69,68,32,84,79]
def TOw:Str:=[84,79]
def RECORDw:Str:=[82,69,67,79,82,68]
def qcL(form:Str):Str:=
 if form=qsU then qmv
 else if form=TOPTOw then TOw
 else if form=RECORDw then[]
 else Lib.join (((Lib.fields form).filter fun w=> !decide (w.getD 0 0=91)).map fun w=>Lib.trimS w qrG) [32]
def qji(l:List TokC)(at_:Nat)(word:Str):Bool:=
 if at_<l.length then decide ((l.getD at_ noT).text=word) && (decide ((l.getD at_ noT).kind=1)||(decide (word=[61]) && decide ((l.getD at_ noT).kind=5)))else false
def WO(l:List TokC):List Str->Nat->Option Nat
 |[],at_=>some at_
 |w::ws,at_=>
  if qji l at_ (Lib.trimS w qls)=true then WO l ws (at_+1)else if Lib.trimS w qls=w then none else WO l ws at_
def qaW(l:List TokC)(at_:Nat)(form:Str):Nat:=match WO l (Lib.fields form) at_ with
 |some j=>j-at_
 |none=>0
def Xr(l:List TokC)(at_:Nat)(forms:Str):Str×Nat:=
 match (qcd forms).find? fun f=>decide (0<qaW l at_ f)with
 |some f=>(qcL f,qaW l at_ f)
 |none=>([],0)
theorem qgM(l:List TokC):∀(ws:List Str) (i j:Nat),WO l ws i=some j->i<=j/\(i<=l.length->j<=l.length)
 |[],i,j,h=>by simp only[WO,Option.some.injEq]at h;subst h;exact⟨KL _,id⟩
 |w::ws,i,j,h=>by
  rw[WO]at h;by_cases h1:qji l i (Lib.trimS w qls)=true
  ·rw[if_pos h1]at h
   obtain⟨a,b⟩:=qgM l ws _ j h;have:i<l.length:=by
    unfold qji at h1;by_cases hlt:i<l.length
    ·exact hlt
    ·rw[if_neg hlt]at h1;cases h1
   exact⟨by omega,fun _=>b (by omega)⟩
  ·rw[if_neg h1]at h
   by_cases h2:Lib.trimS w qls=w
   ·rw[if_pos h2]at h;cases h
   ·rw[if_neg h2]at h
    exact qgM l ws i j h
theorem qsi(l:List TokC)(i:Nat)(form:Str)(hi:i<=l.length):i+qaW l i form<=l.length:=by
 unfold qaW;cases h:WO l (Lib.fields form) i with
 |none=>simpa using hi
 |some j=>
  obtain⟨a,b⟩:=qgM l _ i j h;have:=b hi;simp only;omega
theorem qfj(l:List TokC)(i:Nat)(forms:Str)(hi:i<=l.length):i+(Xr l i forms).2<=l.length:=by
 unfold Xr;split
 ·exact qsi l i _ hi
 ·simpa using hi
def verbsT:Str:=[65,67,67,69,80,84,32,65,68,68,32,65,76,84,69,82,32,67,65,76,76,32,67,65,78,67,69,76,32,67,76,79,83,69,32,67,79,77,80,85,84,69,32,67,79,78,84,73,78,85,69,32,68,69,76,69,84,69,32,68,73,83,80,76,65,89,32,68,73,86,73,68,69,32,69,86,65,76,85,65,84,69,32,69,88,73,84,32,71,69,78,69,82,65,84,69,32,71,79,32,71,79,66,65,67,75,32,73,70,32,73,78,73,84,73,65,76,73,90,69,32,73,78,73,84,73,65,84,69,32,73,78,83,80,69,67,84,32,77,69,82,71,69,32,77,79,86,69,32,77,85,76,84,73,80,76,89,32,79,80,69,78,32,80,69,82,70,79,82,77,32,82,69,65,68,32,82,69,76,69,65,83,69,32,82,69,84,85,82,78,32,82,69,87,82,73,84,69,32,83,69,65,82,67,72,32,83,69,84,32,83,79,82,84,32,83,84,65,82,84,32,83,84,79,80,32,83,84,82,73,78,71,32,83,85,66,84,82,65,67,84,32,84,69,82,77,73,78,65,84,69,32,85,78,83,84,82,73,78,71,32,87,82,73,84,69]
def qhR:Str:=32::(verbsT++[32])
def qdh:Str:=[32,65,68,68,32,67,65,76,76,32,67,79,77,80,85,84,69,32,68,69,76,69,84,69,32,68,73,86,73,68,69,32,69,86,65,76,85,65,84,69,32,73,70,32,77,85,76,84,73,80,76,89,32,80,69,82,70,79,82,77,32,82,69,65,68,32,82,69,84,85,82,78,32,82,69,87,82,73,84,69,32,83,69,65,82,67,72,32,83,84,65,82,84,32,83,84,82,73,78,71,32,83,85,66,84,82,65,67,84,32,85,78,83,84,82,73,78,71,32,87,82,73,84,69,32]
def qkY:Str:=[69,78,68,45]
def Uh(t:TokC):Bool:=decide (t.kind=1) && !decide (t.text=[]) && !Lib.contains t.text [32] && Lib.contains qhR ([32]++t.text++[32])
def noEndB(t:TokC):Bool:= !Lib.hasPrefix t.text qkY|| !decide (t.kind=1)||decide (Lib.trimPrefix t.text qkY=[])||Lib.contains (Lib.trimPrefix t.text qkY) [32]|| !Lib.contains qdh ([32]++Lib.trimPrefix t.text qkY++[32])
def qdG(t:TokC):Str:=if noEndB t=true then[]else Lib.trimPrefix t.text qkY
inductive Rs(α:Type) where
 |bad (f:FaultC)
 |ok (a:α) (at_:Nat)
def UI(l:List TokC)(e:Int)(at_:Nat):FaultC:=
 if l=[]then⟨e,0,0⟩else⟨e,(l.getD (min at_ (l.length-1)) noT).line,(l.getD (min at_ (l.length-1)) noT).col⟩
def isV(l:List TokC)(i:Nat):Bool:=if i<l.length then Uh (l.getD i noT)else false
def qae(l:List TokC)(i:Nat):Str:=qdG (l.getD i noT)
def isE(l:List TokC)(i:Nat):Bool:=if i<l.length then decide ((l.getD i noT).kind=6)else true
def ZZ:Str:=[87,72,69,78]
def qiZ:Str:=[87,72,69,78,32,79,84,72,69,82]
def IFv:Str:=[73,70]
def YF:Str:=[80,69,82,70,79,82,77]
def Wu:Str:=[84,72,69,78]
def qnZ:Str:=[84,73,77,69,83]
def YP:Str:=[69,86,65,76,85,65,84,69]
def SEARCHv:Str:=[83,69,65,82,67,72]
def qcb(l:List TokC)(forms:Str):Nat->Nat->List TokC->List TokC×Nat
 |0,i,acc=>(acc,i)
 |f+1,i,acc=>if isE l i=true\/isV l i=true\/qae l i≠[]\/0<(Xr l i forms).2 then(acc,i)else qcb l forms f (i+1) (acc++[l.getD i noT])
def qof(l:List TokC)(forms:Str)(i:Nat):List TokC×Nat:=qcb l forms (l.length-i) i []
structure Cur where
 verb:Str
 line:Int
 col:Int
 phrases:List PhrC
 bodies:List BodC
def Cur.done(c:Cur):StC:= .mk c.verb c.line c.col c.phrases c.bodies
def qhp(l:List PhrC)(w:Str):Option (List TokC):=(l.find? fun p=>decide (p.words=w)).map (·.toks)
def firstT(l:List PhrC):List TokC:=(l.getD 0 ⟨[],[]⟩).toks
structure Words where
 name:Str->Bool
 fig:Str->Bool
def qgI(W:Words)(l:List TokC)(i:Nat):Bool:=if i<l.length then decide ((l.getD i noT).kind=1) && W.name (l.getD i noT).text else false
def isK(l:List TokC)(i:Nat)(k:UInt8)(ts:List Str):Bool:=if i<l.length then decide ((l.getD i noT).kind=k) && ts.contains (l.getD i noT).text else false
def qaK(l:List TokC)(i:Nat):Nat->Nat->Int->Bool->Nat×Bool
 |0,_,_,_=>(0,false)
 |f+1,k,d,p=>
  if k<l.length then
   let d':=if isK l k 5 [[40]]=true then d+1 else if isK l k 5 [[41]]=true then d-1 else d
   let p':=if isK l k 5 [[40]]=true then p else if isK l k 5 [[41]]=true then p else if isK l k 5 [[58]]=true/\d=1 then true else p
   if d'=0 then(k+1-i,p')else qaK l i f (k+1) d' p'
  else(0,false)
def WN(l:List TokC)(i:Nat):Nat×Bool:=if isK l i 5 [[40]]=true then qaK l i (l.length+1-i) i 0 false else(0,false)
def WU(W:Words)(l:List TokC):Nat->Nat->Nat
 |0,n=>n
 |f+1,n=>if isK l n 1 [[79,70],[73,78]]=true/\qgI W l (n+1)=true then WU W l f (n+2)else n
def qdb(W:Words)(l:List TokC):Option Nat:=
 if qgI W l 0=true then
  let n:=WU W l l.length 1
  let g:=WN l n
  let n1:=n+g.1
  some (if 0<g.1/\g.2=false then(if (WN l n1).2=true then n1+(WN l n1).1 else n1)else n1)
 else if l=[]then none
 else if (l.getD 0 noT).kind=2\/(l.getD 0 noT).kind=3\/((l.getD 0 noT).kind=1/\W.fig (l.getD 0 noT).text=true)then some 1 else none
section
variable (W:Words) (l:List TokC)
def qag(ps:List PhrC):Bool:=
 if firstT ps=[]then true else(qhp ps qnZ).isSome && (!(qhp ps qmv).isSome && decide (qdb W (firstT ps)=some (firstT ps).length))
def Yc(c:Cur):Option Str:=
 if c.bodies≠[]then none
 else if c.verb=IFv then some Wu
 else if c.verb=YF/\qag W c.phrases=true then some []else none
def qca(c:Cur)(closed:Bool):Bool:=
 if c.verb=IFv then !decide (firstT c.phrases=[]) && (match c.bodies with|b::_=>decide (b.1=Wu)|[]=>false)
 else if c.verb=YP\/c.verb=SEARCHv then c.bodies.any fun b=>decide (b.1=ZZ)
 else if c.verb=YF then decide (qag W c.phrases= !decide (c.bodies=[])) && (closed||decide (c.bodies=[]))
 else true
def qnR(ps:List PhrC)(t:TokC):List PhrC:=ps.dropLast++[⟨(ps.getLastD ⟨[],[]⟩).words,(ps.getLastD ⟨[],[]⟩).toks++[t]⟩]
def qas(c:Cur)(forms:Str)(i:Nat):Rs Cur:=
 if c.bodies≠[]then .bad (UI l 4 i)
 else if (Xr l i forms).2=0 then .ok {c with phrases:=qnR c.phrases (l.getD i noT)} (i+1)
 else if (Xr l i forms).1≠[]then .ok {c with phrases:=c.phrases++[⟨(Xr l i forms).1,[]⟩]} (i+(Xr l i forms).2)
 else .ok c (i+(Xr l i forms).2)
def qcj(O:List Str)(i:Nat):Bool:=O.dropLast.any fun f=>decide (0<(Xr l i f).2)
end
def twice(c:Cur)(w:Str):Bool:=c.bodies.any fun b=>(decide (b.1=w) && !decide (w=ZZ))||decide (b.1=qiZ)
def headW(l:List TokC)(O:List Str)(w:Str)(n i:Nat):List TokC×Nat:=if w=ZZ then qof l (O.getLastD []) (i+n)else([],i+n)
def qcK(l:List TokC)(O:List Str)(w:Str)(L:List StC)(k:Nat):Bool:=decide (L.length=0) && (!decide (w=ZZ)||(!decide ((Xr l k (O.getLastD [])).1=ZZ) && !decide ((Xr l k (O.getLastD [])).1=qiZ)))
section
variable (W:Words) (l:List TokC) (forms:Str->Str×Str)
mutual
def qcm:Nat->Nat->List Str->Nat->List StC->Option (Rs (List StC))
 |0,_,_,_,_=>none
 |f+1,d,O,i,acc=>
  if isV l i=true then
   match stF f d O i with
   |none=>none
   |some (.bad e)=>some (.bad e)
   |some (.ok s j)=>qcm f d O j (acc++[s])
  else some (.ok acc i)
def stF:Nat->Nat->List Str->Nat->Option (Rs StC)
 |0,_,_,_=>none
 |f+1,d,O,i=>
  if 32<d then some (.bad (UI l 3 i))
  else
   let t:=l.getD i noT
   match UT f d (O++[(forms t.text).2]) (forms t.text).1 ⟨t.text,t.line,t.col,[⟨[],[]⟩],[]⟩ (i+1)with
   |none=>none
   |some (.bad e)=>some (.bad e)
   |some (.ok c j)=>if qca W c.1 c.2=true then some (.ok c.1.done j)else some (.bad (UI l 4 i))
def UT:Nat->Nat->List Str->Str->Cur->Nat->Option (Rs (Cur×Bool))
 |0,_,_,_,_,_=>none
 |f+1,d,O,ph,c,i=>
  if isE l i=true then some (.ok (c,false) i)
  else if qae l i≠[]then some (if qae l i=c.verb then .ok (c,true) (i+1)else .ok (c,false) i)
  else if 0<(Xr l i (O.getLastD [])).2 then
   match qbG f d O c (Xr l i (O.getLastD [])).1 (Xr l i (O.getLastD [])).2 i with
   |none=>none
   |some (.bad e)=>some (.bad e)
   |some (.ok c' j)=>UT f d O ph c' j
  else
   match (if isV l i=true then Yc W c else none)with
   |some w=>
    match qbG f d O c w 0 i with
    |none=>none
    |some (.bad e)=>some (.bad e)
    |some (.ok c' j)=>UT f d O ph c' j
   |none=>
    if isV l i=true\/qcj l O i=true then some (.ok (c,false) i)
    else
     match qas l c ph i with
     | .bad e=>some (.bad e)
     | .ok c' j=>UT f d O ph c' j
def qbG:Nat->Nat->List Str->Cur->Str->Nat->Nat->Option (Rs Cur)
 |0,_,_,_,_,_,_=>none
 |f+1,d,O,c,w,n,i=>
  if twice c w=true then some (.bad (UI l 4 i))
  else if w=ZZ/\(headW l O w n i).1=[]then some (.bad (UI l 4 i))
  else
   match qcm f (d+1) O (headW l O w n i).2 []with
   |none=>none
   |some (.bad e)=>some (.bad e)
   |some (.ok L k)=>if qcK l O w L k=true then some (.bad (UI l 4 i))else some (.ok {c with bodies:=c.bodies++[(w,(headW l O w n i).1,L)]} k)
end
def qcU:Nat->Nat->List StC->Option (Rs (List StC))
 |0,_,_=>none
 |f+1,i,acc=>
  if i<l.length then
   match qcm W l forms f 1 [] i []with
   |none=>none
   |some (.bad e)=>some (.bad e)
   |some (.ok L j)=>if j=l.length\/(l.getD j noT).kind≠6 then some (.bad (UI l 4 j))else qcU f (j+1) (acc++L)
  else some (.ok acc i)
def qbA(f:Nat):Option (Rs (List StC)):=if 65536<l.length then some (.bad (UI l 3 65536))else qcU W l forms f 0 []
end
section
variable {W:Words} {l:List TokC} {forms:Str->Str×Str}
theorem qjb:∀f:Nat,(∀d O i acc r,qcm W l forms f d O i acc=some r->qcm W l forms (f+1) d O i acc=some r)/\
 (∀d O i r,stF W l forms f d O i=some r->stF W l forms (f+1) d O i=some r)/\
 (∀d O ph c i r,UT W l forms f d O ph c i=some r->UT W l forms (f+1) d O ph c i=some r)/\
 (∀d O c w n i r,qbG W l forms f d O c w n i=some r->qbG W l forms (f+1) d O c w n i=some r)
 |0=>by
  refine⟨fun d O i acc r h=>?_,fun d O i r h=>?_,fun d O ph c i r h=>?_,fun d O c w n i r h=>?_⟩
  ·simp only[qcm]at h;cases h
  ·simp only[stF]at h;cases h
  ·simp only[UT]at h;cases h
  ·simp only[qbG]at h;cases h
 |f+1=>by
  obtain⟨i1,i2,i3,i4⟩:=qjb f;refine⟨fun d O i acc r h=>?_,fun d O i r h=>?_,fun d O ph c i r h=>?_,fun d O c w n i r h=>?_⟩
  ·rw[qcm]at h|-
   split at h
   ·rename_i hv
    rw[if_pos hv];cases hs:stF W l forms f d O i with
    |none=>rw[hs]at h;cases h
    |some x=>
     rw[hs]at h;rw[i2 _ _ _ _ hs];cases x with
     |bad e=>exact h
     |ok s j=>exact i1 _ _ _ _ _ h
   ·rename_i hv
    rw[if_neg hv];exact h
  ·rw[stF]at h|-
   split at h
   ·rename_i hd
    rw[if_pos hd];exact h
   ·rename_i hd
    rw[if_neg hd];simp only at h|-
    generalize hx:UT W l forms f d _ _ _ _=x at h;cases x with
    |none=>cases h
    |some x=>rw[i3 _ _ _ _ _ _ hx];exact h
  ·rw[UT]at h|-
   split at h
   ·rename_i h1
    rw[if_pos h1];exact h
   ·rename_i h1
    rw[if_neg h1];split at h
    ·rename_i h2
     rw[if_pos h2];exact h
    ·rename_i h2
     rw[if_neg h2];split at h
     ·rename_i h3
      rw[if_pos h3];generalize hx:qbG W l forms f d O c _ _ i=x at h;cases x with
      |none=>cases h
      |some x=>
       rw[i4 _ _ _ _ _ _ _ hx];cases x with
       |bad e=>exact h
       |ok c' j=>exact i3 _ _ _ _ _ _ h
     ·rename_i h3
      rw[if_neg h3];generalize (if isV l i=true then Yc W c else none)=m at h|-
      cases m with
      |some w=>
       simp only at h|-
       generalize hx:qbG W l forms f d O c w 0 i=x at h;cases x with
       |none=>cases h
       |some x=>
        rw[i4 _ _ _ _ _ _ _ hx];cases x with
        |bad e=>exact h
        |ok c' j=>exact i3 _ _ _ _ _ _ h
      |none=>
       simp only at h|-
       split at h
       ·rename_i h4
        rw[if_pos h4];exact h
       ·rename_i h4
        rw[if_neg h4];generalize qas l c ph i=x at h|-
        cases x with
        |bad e=>exact h
        |ok c' j=>exact i3 _ _ _ _ _ _ h
  ·rw[qbG]at h|-
   split at h
   ·rename_i h1
    rw[if_pos h1];exact h
   ·rename_i h1
    rw[if_neg h1];split at h
    ·rename_i h2
     rw[if_pos h2];exact h
    ·rename_i h2
     rw[if_neg h2];generalize hx:qcm W l forms f (d+1) O _ []=x at h;cases x with
     |none=>cases h
     |some x=>rw[i1 _ _ _ _ _ hx];exact h
theorem qed{f g:Nat}(hfg:f<=g){d:Nat}{O:List Str}{i:Nat}{acc:List StC}{r:Rs (List StC)}(h:qcm W l forms f d O i acc=some r):qcm W l forms g d O i acc=some r:=by
 induction hfg with
 |refl=>exact h
 |step _ ih=>exact(qjb _).1 _ _ _ _ _ ih
theorem qmE{f g:Nat}(hfg:f<=g){d:Nat}{O:List Str}{i:Nat}{r:Rs StC}(h:stF W l forms f d O i=some r):stF W l forms g d O i=some r:=by
 induction hfg with
 |refl=>exact h
 |step _ ih=>exact(qjb _).2.1 _ _ _ _ ih
theorem qlF{f g:Nat}(hfg:f<=g){d:Nat}{O:List Str}{ph:Str}{c:Cur}{i:Nat}{r:Rs (Cur×Bool)}(h:UT W l forms f d O ph c i=some r):UT W l forms g d O ph c i=some r:=by
 induction hfg with
 |refl=>exact h
 |step _ ih=>exact(qjb _).2.2.1 _ _ _ _ _ _ ih
theorem qgh{f g:Nat}(hfg:f<=g){d:Nat}{O:List Str}{c:Cur}{w:Str}{n i:Nat}{r:Rs Cur}(h:qbG W l forms f d O c w n i=some r):qbG W l forms g d O c w n i=some r:=by
 induction hfg with
 |refl=>exact h
 |step _ ih=>exact(qjb _).2.2.2 _ _ _ _ _ _ _ ih
theorem qia{f g:Nat}(hfg:f<=g):∀{i:Nat} {acc:List StC} {r:Rs (List StC)},qcU W l forms f i acc=some r->qcU W l forms g i acc=some r:=by
 have step:∀(f i:Nat) (acc:List StC) (r:Rs (List StC)),qcU W l forms f i acc=some r->qcU W l forms (f+1) i acc=some r:=by
  intro f;induction f with
  |zero=>intro i acc r h;simp only[qcU]at h;cases h
  |succ f ih=>
   intro i acc r h;rw[qcU]at h|-
   split at h
   ·rename_i h1
    rw[if_pos h1];generalize hx:qcm W l forms f 1 [] i []=x at h;cases x with
    |none=>cases h
    |some x=>
     rw[qed (Nat.le_succ f) hx];cases x with
     |bad e=>exact h
     |ok L j=>
      simp only at h|-
      split at h
      ·rename_i h2
       rw[if_pos h2];exact h
      ·rename_i h2
       rw[if_neg h2];exact ih _ _ _ h
   ·rename_i h1
    rw[if_neg h1];exact h
 intro i acc r h;induction hfg with
 |refl=>exact h
 |step _ ih=>exact step _ _ _ _ ih
end
section
variable (W:Words) (l:List TokC) (forms:Str->Str×Str)
def ListR(d:Nat)(O:List Str)(i:Nat)(acc:List StC)(r:Rs (List StC)):Prop:=∃f,qcm W l forms f d O i acc=some r
def StR(d:Nat)(O:List Str)(i:Nat)(r:Rs StC):Prop:=∃f,stF W l forms f d O i=some r
def LoopR(d:Nat)(O:List Str)(ph:Str)(c:Cur)(i:Nat)(r:Rs (Cur×Bool)):Prop:=∃f,UT W l forms f d O ph c i=some r
def BodyR(d:Nat)(O:List Str)(c:Cur)(w:Str)(n i:Nat)(r:Rs Cur):Prop:=∃f,qbG W l forms f d O c w n i=some r
def SentR(i:Nat)(acc:List StC)(r:Rs (List StC)):Prop:=∃f,qcU W l forms f i acc=some r
def ParseR(r:Rs (List StC)):Prop:=∃f,qbA W l forms f=some r
end
section
variable {W:Words} {l:List TokC} {forms:Str->Str×Str}
theorem ListR.one{d:Nat}{O:List Str}{i:Nat}{acc:List StC}{r r':Rs (List StC)}(h:ListR W l forms d O i acc r)(h':ListR W l forms d O i acc r'):r=r':=by
 obtain⟨f,h⟩:=h;obtain⟨g,h'⟩:=h';have a:=qed (Vw f g) h;rw[qed (Vx f g) h']at a;exact(Option.some.inj a).symm
theorem StR.one{d:Nat}{O:List Str}{i:Nat}{r r':Rs StC}(h:StR W l forms d O i r)(h':StR W l forms d O i r'):r=r':=by
 obtain⟨f,h⟩:=h;obtain⟨g,h'⟩:=h';have a:=qmE (Vw f g) h;rw[qmE (Vx f g) h']at a;exact(Option.some.inj a).symm
theorem BodyR.one{d:Nat}{O:List Str}{c:Cur}{w:Str}{n i:Nat}{r r':Rs Cur}(h:BodyR W l forms d O c w n i r)(h':BodyR W l forms d O c w n i r'):r=r':=by
 obtain⟨f,h⟩:=h;obtain⟨g,h'⟩:=h';have a:=qgh (Vw f g) h;rw[qgh (Vx f g) h']at a;exact(Option.some.inj a).symm
theorem ParseR.one{r r':Rs (List StC)}(h:ParseR W l forms r)(h':ParseR W l forms r'):r=r':=by
 obtain⟨f,h⟩:=h;obtain⟨g,h'⟩:=h';unfold qbA at h h';split at h
 ·rename_i h1
  rw[if_pos h1]at h';exact Option.some.inj (h.symm.trans h')
 ·rename_i h1
  rw[if_neg h1]at h';have a:=qia (Vw f g) h;rw[qia (Vx f g) h']at a;exact(Option.some.inj a).symm
theorem ListR.stop{d:Nat}{O:List Str}{i:Nat}{acc:List StC}(hv:isV l i=false):ListR W l forms d O i acc (.ok acc i):=⟨1,by rw[qcm,if_neg (by rw[hv];decide)]⟩
theorem ListR.bad{d:Nat}{O:List Str}{i:Nat}{acc:List StC}{e:FaultC}(hv:isV l i=true)(h:StR W l forms d O i (.bad e)):ListR W l forms d O i acc (.bad e):=by
 obtain⟨f,h⟩:=h;exact⟨f+1,by rw[qcm,if_pos hv,h]⟩
theorem ListR.next{d:Nat}{O:List Str}{i j:Nat}{acc:List StC}{s:StC}{r:Rs (List StC)}(hv:isV l i=true)(h:StR W l forms d O i (.ok s j))(h':ListR W l forms d O j (acc++[s]) r):ListR W l forms d O i acc r:=by
 obtain⟨f,h⟩:=h;obtain⟨g,h'⟩:=h';exact⟨max f g+1,by rw[qcm,if_pos hv,qmE (Vw f g) h];exact qed (Vx f g) h'⟩
def qbM(l:List TokC)(i:Nat):Cur:=⟨(l.getD i noT).text,(l.getD i noT).line,(l.getD i noT).col,[⟨[],[]⟩],[]⟩
theorem StR.deep{d:Nat}{O:List Str}{i:Nat}(hd:32<d):StR W l forms d O i (.bad (UI l 3 i)):=⟨1,by rw[stF,if_pos hd]⟩
theorem StR.bad{d:Nat}{O:List Str}{i:Nat}{e:FaultC}(hd:¬32<d)(h:LoopR W l forms d (O++[(forms (l.getD i noT).text).2]) (forms (l.getD i noT).text).1 (qbM l i) (i+1) (.bad e)):StR W l forms d O i (.bad e):=by
 obtain⟨f,h⟩:=h;unfold qbM at h;exact⟨f+1,by rw[stF,if_neg hd];simp only[h]⟩
theorem StR.part{d:Nat}{O:List Str}{i j:Nat}{c:Cur}{b:Bool}(hd:¬32<d)(h:LoopR W l forms d (O++[(forms (l.getD i noT).text).2]) (forms (l.getD i noT).text).1 (qbM l i) (i+1) (.ok (c,b) j))(hw:qca W c b=false):StR W l forms d O i (.bad (UI l 4 i)):=by
 obtain⟨f,h⟩:=h;unfold qbM at h;exact⟨f+1,by rw[stF,if_neg hd];simp only[h,hw,KV,if_false]⟩
theorem StR.ok{d:Nat}{O:List Str}{i j:Nat}{c:Cur}{b:Bool}(hd:¬32<d)(h:LoopR W l forms d (O++[(forms (l.getD i noT).text).2]) (forms (l.getD i noT).text).1 (qbM l i) (i+1) (.ok (c,b) j))(hw:qca W c b=true):StR W l forms d O i (.ok c.done j):=by
 obtain⟨f,h⟩:=h;unfold qbM at h;exact⟨f+1,by rw[stF,if_neg hd];simp only[h,hw,if_true]⟩
section
variable {d:Nat} {O:List Str} {ph:Str} {c c':Cur} {i j:Nat} {r:Rs (Cur×Bool)} {e:FaultC} {w:Str}
theorem LoopR.stop(h:isE l i=true):LoopR W l forms d O ph c i (.ok (c,false) i):=⟨1,by rw[UT,if_pos h]⟩
theorem LoopR.endS(h1:isE l i=false)(h2:qae l i=c.verb)(h3:qae l i≠[]):LoopR W l forms d O ph c i (.ok (c,true) (i+1)):=⟨1,by rw[UT,if_neg (by rw[h1];decide),if_pos h3,if_pos h2]⟩
theorem LoopR.endO(h1:isE l i=false)(h2:qae l i≠c.verb)(h3:qae l i≠[]):LoopR W l forms d O ph c i (.ok (c,false) i):=⟨1,by rw[UT,if_neg (by rw[h1];decide),if_pos h3,if_neg h2]⟩
theorem LoopR.bodyBad(h1:isE l i=false)(h2:qae l i=[])(h3:0<(Xr l i (O.getLastD [])).2)(h4:BodyR W l forms d O c (Xr l i (O.getLastD [])).1 (Xr l i (O.getLastD [])).2 i (.bad e)):LoopR W l forms d O ph c i (.bad e):=by
 obtain⟨f,h⟩:=h4;exact⟨f+1,by rw[UT,if_neg (by rw[h1];decide),if_neg (by rw[h2];simp),if_pos h3,h]⟩
theorem LoopR.body(h1:isE l i=false)(h2:qae l i=[])(h3:0<(Xr l i (O.getLastD [])).2)(h4:BodyR W l forms d O c (Xr l i (O.getLastD [])).1 (Xr l i (O.getLastD [])).2 i (.ok c' j))(h5:LoopR W l forms d O ph c' j r):LoopR W l forms d O ph c i r:=by
 obtain⟨f,h⟩:=h4;obtain⟨g,h'⟩:=h5;exact⟨max f g+1,by rw[UT,if_neg (by rw[h1];decide),if_neg (by rw[h2];simp),if_pos h3,qgh (Vw f g) h];exact qlF (Vx f g) h'⟩
theorem LoopR.implBad(h1:isE l i=false)(h2:qae l i=[])(h3:(Xr l i (O.getLastD [])).2=0)(hv:isV l i=true)(hw:Yc W c=some w)(h4:BodyR W l forms d O c w 0 i (.bad e)):LoopR W l forms d O ph c i (.bad e):=by
 obtain⟨f,h⟩:=h4;exact⟨f+1,by rw[UT,if_neg (by rw[h1];decide),if_neg (by rw[h2];simp),if_neg (by omega),if_pos hv,hw];simp only[h]⟩
theorem LoopR.impl(h1:isE l i=false)(h2:qae l i=[])(h3:(Xr l i (O.getLastD [])).2=0)(hv:isV l i=true)(hw:Yc W c=some w)(h4:BodyR W l forms d O c w 0 i (.ok c' j))(h5:LoopR W l forms d O ph c' j r):LoopR W l forms d O ph c i r:=by
 obtain⟨f,h⟩:=h4;obtain⟨g,h'⟩:=h5;exact⟨max f g+1,by rw[UT,if_neg (by rw[h1];decide),if_neg (by rw[h2];simp),if_neg (by omega),if_pos hv,hw];simp only[qgh (Vw f g) h];exact qlF (Vx f g) h'⟩
theorem qmZ(hn:isV l i=true->Yc W c=none):(if isV l i=true then Yc W c else none)=none:=by
 split
 ·rename_i h;exact hn h
 ·rfl
theorem LoopR.leave(h1:isE l i=false)(h2:qae l i=[])(h3:(Xr l i (O.getLastD [])).2=0)(hn:isV l i=true->Yc W c=none)(h4:isV l i=true\/qcj l O i=true):LoopR W l forms d O ph c i (.ok (c,false) i):=
 ⟨1,by rw[UT,if_neg (by rw[h1];decide),if_neg (by rw[h2];simp),if_neg (by omega),qmZ hn];simp only;rw[if_pos h4]⟩
theorem LoopR.tokBad(h1:isE l i=false)(h2:qae l i=[])(h3:(Xr l i (O.getLastD [])).2=0)(h4:isV l i=false)(h5:qcj l O i=false)(h6:qas l c ph i= .bad e):LoopR W l forms d O ph c i (.bad e):=
 ⟨1,by rw[UT,if_neg (by rw[h1];decide),if_neg (by rw[h2];simp),if_neg (by omega),qmZ (fun h=>by rw[h4]at h;cases h)];simp only;rw[if_neg (by rw[h4,h5];decide),h6]⟩
theorem LoopR.tok(h1:isE l i=false)(h2:qae l i=[])(h3:(Xr l i (O.getLastD [])).2=0)(h4:isV l i=false)(h5:qcj l O i=false)(h6:qas l c ph i= .ok c' j)(h7:LoopR W l forms d O ph c' j r):LoopR W l forms d O ph c i r:=by
 obtain⟨f,h⟩:=h7;exact⟨f+1,by rw[UT,if_neg (by rw[h1];decide),if_neg (by rw[h2];simp),if_neg (by omega),qmZ (fun h=>by rw[h4]at h;cases h)];simp only;rw[if_neg (by rw[h4,h5];decide),h6];exact h⟩
end
section
variable {d:Nat} {O:List Str} {c:Cur} {w:Str} {n i k:Nat} {e:FaultC} {L:List StC}
theorem BodyR.twice(h1:Stm.twice c w=true):BodyR W l forms d O c w n i (.bad (UI l 4 i)):=⟨1,by rw[qbG,if_pos h1]⟩
theorem BodyR.bare(h1:Stm.twice c w=false)(h2:w=ZZ/\(headW l O w n i).1=[]):BodyR W l forms d O c w n i (.bad (UI l 4 i)):=⟨1,by rw[qbG,if_neg (by rw[h1];decide),if_pos h2]⟩
theorem BodyR.bad(h1:Stm.twice c w=false)(h2:¬(w=ZZ/\(headW l O w n i).1=[]))(h3:ListR W l forms (d+1) O (headW l O w n i).2 [] (.bad e)):BodyR W l forms d O c w n i (.bad e):=by
 obtain⟨f,h⟩:=h3;exact⟨f+1,by rw[qbG,if_neg (by rw[h1];decide),if_neg h2,h]⟩
theorem BodyR.empty(h1:Stm.twice c w=false)(h2:¬(w=ZZ/\(headW l O w n i).1=[]))(h3:ListR W l forms (d+1) O (headW l O w n i).2 [] (.ok L k))(h4:qcK l O w L k=true):BodyR W l forms d O c w n i (.bad (UI l 4 i)):=by
 obtain⟨f,h⟩:=h3;exact⟨f+1,by rw[qbG,if_neg (by rw[h1];decide),if_neg h2,h];simp only;rw[if_pos h4]⟩
theorem BodyR.ok(h1:Stm.twice c w=false)(h2:¬(w=ZZ/\(headW l O w n i).1=[]))(h3:ListR W l forms (d+1) O (headW l O w n i).2 [] (.ok L k))(h4:qcK l O w L k=false):
 BodyR W l forms d O c w n i (.ok {c with bodies:=c.bodies++[(w,(headW l O w n i).1,L)]} k):=by
 obtain⟨f,h⟩:=h3;exact⟨f+1,by rw[qbG,if_neg (by rw[h1];decide),if_neg h2,h];simp only;rw[if_neg (by rw[h4];decide)]⟩
end
section
variable {i j:Nat} {acc L:List StC} {e:FaultC} {r:Rs (List StC)}
theorem SentR.stop(h:¬i<l.length):SentR W l forms i acc (.ok acc i):=⟨1,by rw[qcU,if_neg h]⟩
theorem SentR.bad(h:i<l.length)(h1:ListR W l forms 1 [] i [] (.bad e)):SentR W l forms i acc (.bad e):=by
 obtain⟨f,h1⟩:=h1;exact⟨f+1,by rw[qcU,if_pos h,h1]⟩
theorem SentR.open(h:i<l.length)(h1:ListR W l forms 1 [] i [] (.ok L j))(h2:j=l.length\/(l.getD j noT).kind≠6):SentR W l forms i acc (.bad (UI l 4 j)):=by
 obtain⟨f,h1⟩:=h1;exact⟨f+1,by rw[qcU,if_pos h,h1];simp only;rw[if_pos h2]⟩
theorem SentR.next(h:i<l.length)(h1:ListR W l forms 1 [] i [] (.ok L j))(h2:¬(j=l.length\/(l.getD j noT).kind≠6))(h3:SentR W l forms (j+1) (acc++L) r):SentR W l forms i acc r:=by
 obtain⟨f,h1⟩:=h1;obtain⟨g,h3⟩:=h3;exact⟨max f g+1,by rw[qcU,if_pos h,qed (Vw f g) h1];simp only;rw[if_neg h2];exact qia (Vx f g) h3⟩
theorem ParseR.long(h:65536<l.length):ParseR W l forms (.bad (UI l 3 65536)):=⟨0,by unfold qbA;rw[if_pos h]⟩
theorem ParseR.sent(h:¬65536<l.length)(h1:SentR W l forms 0 [] r):ParseR W l forms r:=by
 obtain⟨f,h1⟩:=h1;exact⟨f,by unfold qbA;rw[if_neg h];exact h1⟩
end
end
end Go.Stm
namespace Go.AM
open Go.RowKit (Below)
theorem WR{K:Slots->AHeap->Prop}{Q:Exit->Slots->AHeap->Prop}{s:Slots}{h:AHeap}(i:Nat):qdM K Q (.exit i) s h=Q (.exit i) s h:=rfl
theorem Yy{Q:Exit->Slots->AHeap->Prop}{s:Slots}{h:AHeap}(i:Nat):qde i Q (.exit i) s h=Q .normal s h:=by simp[qde]
theorem WH(b:Bool):(AVal.bool b).scal=true:=rfl
theorem qaa(k:IntKind)(n:Int):(AVal.int k n).scal=true:=rfl
theorem UZ(s:List UInt8):(AVal.str s).scal=true:=rfl
section
variable {P:Program}
theorem qpi(t:TypeId)(x i:Operand)(ok:Bool):Zy P (.lookup t x i ok)=true:=rfl
end
section
variable {P:Program} {w0:World} {ops rest:List Oper} {s:Slots} {h:AHeap} {K:Slots->AHeap->Prop} {dst:Option Tmp} {ty:TypeId} {pos:String} {af:Array Edge}
theorem qpZ(t:TypeId)(x i:Operand)(ok:Bool):
 Xp P w0 ops (⟨dst, .lookup t x i ok,ty,pos,af,none⟩::rest) s h K=((pop P w0 h s (.lookup t x i ok)).pre/\Xp P w0 ops rest (putD s dst (pop P w0 h s (.lookup t x i ok)).val) h K):=WP (qpi t x i ok)
theorem qkT{t:TypeId}(hk:∀k,h k=none->Xp P w0 ops rest (putD s dst (.map k)) (h.set k (Yo 0 [])) K):Xp P w0 ops (⟨dst, .makeMap t none,ty,pos,af,none⟩::rest) s h K:=by
 rw[qct];exact hk
theorem qmt{t kt et:TypeId}{m i v:Operand}{k c:Nat}{es:List AVal}(ht:P.underlying t=some (.map kt et))(hm:ev s m= .map k)(hb:h k=some (Yo c es))(hok:qbt P kt (ev s i)=true)(hf:qcB (ev s i) es 0=some none)
 (hk:Xp P w0 ops rest (putD s dst (.tuple [])) (h.set k (Yo (c+1) (es++[.mapE c (ev s i) (ev s v)]))) K):Xp P w0 ops (⟨dst, .mapUpdate t m i v,ty,pos,af,none⟩::rest) s h K:=by
 rw[qct];simp only[eop,qcD,ht,hm,qbr hb,hf];exact⟨hok,hk⟩
end
section
variable {P:Program} {h:AHeap}
theorem qmR{t kt et:TypeId}{z:Value}{k c j:Nat}{es:List AVal}{i v:AVal}{ok:Bool}(ht:P.underlying t=some (.map kt et))(hz:qap P et=some z)(hb:h k=some (Yo c es))(hok:qbt P kt i=true)(hf:qcB i es 0=some (some (j,v))):
 qaC P h t (.map k) i ok=⟨True,qhj ok v true⟩:=by
 simp only[qaC,ht,hz,qbr hb,hf,hok]
theorem qlt{t kt et:TypeId}{z:Value}{k c:Nat}{es:List AVal}{i:AVal}{ok:Bool}(ht:P.underlying t=some (.map kt et))(hz:qap P et=some z)(hb:h k=some (Yo c es))(hok:qbt P kt i=true)(hf:qcB i es 0=some none):
 qaC P h t (.map k) i ok=⟨True,qhj ok (qZ z) false⟩:=by
 simp only[qaC,ht,hz,qbr hb,hf,hok]
theorem qhi(v:AVal)(b:Bool):qhj false v b=v:=rfl
end
theorem qdn{P:Program}{w0:World}(ops:List Oper)(n:FrameK)(tl:List Nat)(hall:Xt n ops=true):∀(l:List Oper) (i:Nat) (fi:PMap) (s:Slots) (h:AHeap) (a:Act) (w:World) (K:Slots->AHeap->Prop) (Q:Exit->Act->World->Prop),
 (∀j,j<l.length->l[j]?=ops[i+j]?)->Xt n l=true->Xp P w0 ops l s h K->HRel w0 fi h w->SRel fi n s a->
 (∀Ps s' h' a' w',fi.le Ps->HRel w0 Ps h' w'->SRel Ps n s' a'->K s' h'->wpOps P ops.toArray Q tl a' w')->wpOps P ops.toArray Q (Js i l.length++tl) a w
 |[],i,fi,s,h,a,w,K,Q,_,_,ha,hr,hs,hq=>hq fi s h a w fi.le_refl hr hs ha
 |o::l,i,fi,s,h,a,w,K,Q,hl,hd,ha,hr,hs,hq=>by
  have ho:ops.toArray[i]?=some o:=by
   have:=hl 0 (by simp);simp only[List.getElem?_cons_zero,K6]at this;simp[<-this]
  simp only[Xt,Ky]at hd;have hrest:∀j,j<l.length->l[j]?=ops[i+1+j]?:=fun j hj=>by
   have:=hl (j+1) (by simp;omega);simp only[KM]at this;rw[this];congr 1;omega
  have ih:=fun fi s h a w Q=>qdn (P:=P) (w0:=w0) ops n tl hall l (i+1) fi s h a w K Q hrest hd.2;have run:∀(K':AVal->AHeap->Prop),eop P w0 h s o.op K'->(∀x h',K' x h'->Xp P w0 ops l (putD s o.dst x) h' K)->o.wp P a w (wpOps P ops.toArray Q (Js (i+1) l.length++tl)) Q:=fun K' he hk=>
   qfr o he hr hs fun Ps x h' v w' e1 e2 e3 e4=>ih Ps _ h' _ w' Q (hk x h' e4) e2 ((hs.mono e1).putD hd.1 e3) fun χ s' h'' a' w'' f1 f2 f3 f4=>hq χ s' h'' a' w'' (JN e1 f1) f2 f3 f4
  have skip:Xp P w0 ops l (putD s o.dst (.tuple [])) h K->wpOps P ops.toArray Q (Js (i+1) l.length++tl) (a.put o.dst undef) w:=fun hk=>
   ih fi _ h _ w Q hk hr (hs.putD hd.1 (Wp fi)) hq
  simp only[KX,List.range'_succ,Kh,wpOps,ho];simp only[Xp]at ha;cases hg:o.guard with
  |none=>
   simp only[hg]at ha;have hw:Region.wanted o (yielded ops.toArray a.tmps)=true:=by simp[Region.wanted,hg]
   rw[if_pos hw];exact .inl (run _ ha fun _ _ hk=>hk)
  |some gw=>
   obtain⟨j,want⟩:=gw;simp only[hg]at ha;have hwanted:Region.wanted o (yielded ops.toArray a.tmps)=(yielded ops.toArray a.tmps j==some want):=by simp[Region.wanted,hg]
   cases hj:QB ops j with
   |none=>
    simp only[hj]at ha;have hn:(ops.toArray[j]?).bind (·.dst)=none:=by
     rw[<-hj,Yn];simp
    have hw:Region.wanted o (yielded ops.toArray a.tmps)=false:=by
     rw[hwanted];simp only[yielded,hn];rfl
    rw[if_neg (by simp[hw])];exact skip ha
   |some d=>
    simp only[hj]at ha;obtain⟨hk,ha⟩:=ha;have hdn:d<n:=by
     have:∀(l:List Oper) (j d:Nat),Xt n l=true->QB l j=some d->d<n:=by
      intro l;induction l with
      |nil=>intro j d _ h;simp[QB]at h
      |cons o r ih=>
       intro j d h1 h2;simp only[Xt,Ky]at h1;cases j with
       |zero=>simp only[QB]at h2;rw[h2]at h1;simpa using h1.1
       |succ j=>exact ih j d h1.2 h2
     exact this ops j d hall hj
    have hgd:=qdf hs ops j d hj hdn hk want;rw[hwanted,hgd];split at ha
    ·rename_i hp
     obtain⟨h1,h2⟩:=ha;cases hb:XB (s.get d) want with
     |true=>
      simp only[hb,QW,cond_true]at h2;simp only[if_true];exact .inl (run (fun x h'=>x=(pop P w0 h s o.op).val/\h'=h) ((qad hp).2 ⟨h1 hb,rfl,rfl⟩) fun x h' ⟨e1,e2⟩=>by subst e1 e2;exact h2)
     |false=>
      simp only[hb,QW,cond_false]at h2;simp only[KV,if_false];exact skip h2
    ·obtain⟨h1,h2⟩:=ha
     cases hb:XB (s.get d) want with
     |true=>
      simp only[if_true];exact .inl (run _ (h1 hb) fun _ _ hk=>hk)
     |false=>
      simp only[KV,if_false];exact skip (h2 hb)
section
variable {P:Program} {w0:World} {n:FrameK}
def FactC(P:Program)(w0:World)(n:FrameK)(l:List Oper)(g:AHeap)(S:Slots)(o:Oper)(V:AVal):Prop:=
 ∀(Ps:PMap) (w:World) (a:Act) (g':AHeap) (next:Act->World->Prop) (Q:Exit->Act->World->Prop),Sub g g'->HRel w0 Ps g' w->LookOk Ps n l o S a->(∀ψ' v w',Ps.le ψ'->HRel w0 ψ' g' w'->(∀t,o.dst=some t->VR ψ' V v)->next (a.put o.dst v) w')->
  if Region.wanted o (yielded l.toArray a.tmps)=true then o.wp P a w next Q else next (a.put o.dst undef) w
theorem FactR.toC{l:List Oper}{g:AHeap}{S:Slots}{o:Oper}{V:AVal}(h:FactR P w0 n l g S o V):FactC P w0 n l g S o V:=
 fun Ps w a g' next Q h1 h2 h3 h4=>h Ps w a g' next Q h1 h2 h3 fun v hv=>h4 Ps v w Ps.le_refl h2 fun _ _=>hv
theorem FactC.sub{l:List Oper}{g g':AHeap}{S:Slots}{o:Oper}{V:AVal}(h:FactC P w0 n l g S o V)(hs:Sub g g'):FactC P w0 n l g' S o V:=
 fun Ps w a g₂ next Q h1 h2 h3 h4=>h Ps w a g₂ next Q (Sub.trans hs h1) h2 h3 h4
theorem FactC.slots{l:List Oper}{g:AHeap}{S S':Slots}{o:Oper}{V:AVal}(h:FactC P w0 n l g S o V)(hs:∀t∈Xv l o,S'.get t=S.get t):FactC P w0 n l g S' o V:=
 fun Ps w a g₂ next Q h1 h2 h3 h4=>h Ps w a g₂ next Q h1 h2 ⟨h3.1,h3.2.1,fun t ht=>by rw[<-hs t ht];exact h3.2.2 t ht⟩ h4
theorem qpN{l:List Oper}(hall:Xt n l=true){o:Oper}{S:Slots}{g:AHeap}{V:AVal}(ha:∀g',Sub g g'->Xp P w0 l [o] S g' fun s' h'=>s'=putD S o.dst V/\h'=g'):FactC P w0 n l g S o V:=
 fun Ps w a g' next Q h1 h2 h3 h4=>qmY hall (ha g' h1) h2 h3 fun ψ' x h' v w' e1 e2 e3 ⟨e4,e5⟩=>h4 ψ' v w' e1 (e5 ▸ e2) fun t ht=>by
  have:=congrArg (fun s:Slots=>s.get t) e4;simp only[YG,ht,if_true]at this;rw[<-this];exact e3
theorem qbi{l:List Oper}{listed:Array Bool}{i j:Nat}{o:Oper}(ho:l[i]?=some o)(hedges:∀e∈o.after,Region.binds .any e=true->listed.getD e.on false=true)(hw:Region.waitsFor .any l.toArray i j=true):listed.getD j false=true:=by
 obtain⟨oi,g1,e,g2,g3,g4⟩:=Region.waitsFor_spec hw;have g1':l[i]?=some oi:=by simpa using g1
 rw[ho]at g1';obtain rfl:=Option.some.inj g1';rw[<-g4];exact hedges e g2 g3
end
end Go.AM
namespace Go.AM
section
variable {P:Program} {w0:World} {ops rest:List Oper} {s:Slots} {h:AHeap} {K:Slots->AHeap->Prop} {dst:Option Tmp} {ty:TypeId} {pos:String} {af:Array Edge}
theorem qrf{fo:Operand}{args:List Operand}{ts:Array TypeId}{j:Nat}{want:Bool}(hg:gv s ops j= .bool (!want))(hr:Yt P w0 ops rest (putD s dst (.tuple [])) h K):
 Yt P w0 ops (⟨dst, .call ⟨.value fo,args.toArray,ts⟩,ty,pos,af,some (j,want)⟩::rest) s h K:=by
 refine qfh (V:= .dead) (f:=0) (cap:=[]) (xs:=[]) (by rw[hg];rfl) (fun e=>?_) (fun e=>?_) ?_
 ·rw[hg]at e;cases want<;>cases e
 ·rw[hg]at e;cases want<;>cases e
 ·rw[hg];cases want<;>exact hr
theorem qlT{H0:AHeap}{fo:Operand}{args:List Operand}{ts:Array TypeId}{j:Nat}{want:Bool}(hg:gv s ops j= .bool (!want))(hr:Yk P w0 ops H0 rest (putD s dst (.tuple [])) h K):
 Yk P w0 ops H0 (⟨dst, .call ⟨.value fo,args.toArray,ts⟩,ty,pos,af,some (j,want)⟩::rest) s h K:=by
 refine qfo (V:= .bool true) (f:=0) (cap:=[]) (xs:=[]) (by rw[hg];rfl) (fun e=>?_) trivial (fun e=>?_) ?_
 ·rw[hg]at e;cases want<;>cases e
 ·rw[hg]at e;cases want<;>cases e
 ·rw[hg];cases want<;>exact hr
end
end Go.AM
namespace Go.AM
open Go.RowKit (Below)
section
variable {P:Program} {w0:World} {n:FrameK} {la:List Nat} {ly:Nat->List AVal×(Nat->AVal)}
end
section
variable {P:Program} {w0:World} {n:FrameK} {la:List Nat} {ly:Nat->List AVal×(Nat->AVal)}
def uni(g e:AHeap):AHeap:=fun k=>match g k with
 |some b=>some b
 |none=>e k
theorem qhT{g e:AHeap}{k:Nat}{b:Blk}(h:g k=some b):uni g e k=some b:=by unfold uni;rw[h]
theorem qfA{g e:AHeap}{k:Nat}(h:g k=none):uni g e k=e k:=by unfold uni;rw[h]
theorem qrh{g e:AHeap}{k:Nat}(h:uni g e k=none):g k=none/\e k=none:=by
 cases hg:g k with
 |some b=>rw[qhT hg]at h;cases h
 |none=>rw[qfA hg]at h;exact⟨rfl,h⟩
theorem Sub.uni(g e:AHeap):Sub g (uni g e):=fun _ _ h=>qhT h
end
end Go.AM
namespace Go.Proofs.YtgiadjbiimkbiaaDoor
open Go.AM
open Go.Proofs
open Go.Col (Str FaultC okF)
open Go.Tok (TokC)
open Go.Stm
open Go.RowKit (Below)
set_option maxRecDepth 100000
abbrev Asp(w:World):Prop:=Lib.TabIs Tryd.prog w "strings.asciiSpace" .u8 Lib.asciiSpaceTab
theorem Asp.later{w w':World}(h:Asp w)(hb:Go.RowKit.Below w.heap.size w w'):Asp w':=Go.Joins.tab_stays (g:=0) (by kernel_rfl) h hb (KL _)
def asciiB(s:Str):Bool:=s.all fun b=>decide (b.toNat<128)
theorem qml{s:Str}(h:asciiB s=true):∀(j:Nat) (b:UInt8),(⟨⟨s⟩⟩:ByteArray).data.toList[j]?=some b->b.toNat<128:=fun j b hj=>by
 have:=Jz.1 h b (JK hj);simpa using this
theorem VRs_s{fi:PMap}{s:Str}{vs:List Value}(h:VRs fi [.str s] vs):vs=[.string ⟨⟨s⟩⟩]:=by
 simp only[VRs,VR]at h;obtain⟨v,vs',rfl,rfl,rfl⟩:=h;rfl
theorem qdk(w0:World)(ha:Asp w0)(h:AHeap)(s:Str)(hl:s.length<4294967281)(has:asciiB s=true):
 ACall Tryd.prog w0 12 [.str s] h (fun v h'=>∃k,h k=none/\v= .slice (.own k) 0 (Lib.fields s).length (.exact (Lib.fields s).length)/\h'=h.set k ⟨(Lib.fields s).map AVal.str,0⟩):=by
 refine qkS (vals:=[.string ⟨⟨s⟩⟩]) (cs:=(Lib.fields s).map fun x=>Value.string ⟨⟨x⟩⟩) (e:=9) Tryd.func12 rfl rfl (fun fi vs hv=>VRs_s hv) (fun fi=>qlg fi _) fun w hb=>?_;exact Tryd.strings_Fields_laid ⟨⟨s⟩⟩ w hl (qml has) (ha.later hb)
theorem qsw(w0:World)(h:AHeap)(s cs:Str)(hs:s.length<=9223372036854775807)(h2:2<=cs.length)(hc:cs.length<4294967281)(ha:asciiB cs=true):
 ACall Tryd.prog w0 21 [.str s, .str cs] h (fun v h'=>v= .str (Lib.trimS s cs)/\h'=h):=by
 refine qaR (vals:=[.string ⟨⟨s⟩⟩, .string ⟨⟨cs⟩⟩]) (val:= .string ⟨⟨Lib.trimS s cs⟩⟩) Tryd.func21 rfl rfl (fun fi vs hv=>qkU hv) (fun fi=>rfl) fun w=>?_;exact Any.strings_Trim_laid Tryd.lays160 (by kernel_rfl) ⟨⟨s⟩⟩ ⟨⟨cs⟩⟩ w hs hc (qml ha)
theorem c_trim1(w0:World)(h:AHeap)(s:Str)(c:UInt8)(hs:s.length<=9223372036854775807)(hc:c.toNat<128):
 ACall Tryd.prog w0 21 [.str s, .str [c]] h (fun v h'=>v= .str (Lib.trimB s c)/\h'=h):=by
 refine qaR (vals:=[.string ⟨⟨s⟩⟩, .string ⟨⟨[c]⟩⟩]) (val:= .string ⟨⟨Lib.trimB s c⟩⟩) Tryd.func21 rfl rfl (fun fi vs hv=>qkU hv) (fun fi=>rfl) fun w=>?_;refine(Tryd.strings_Trim_one ⟨⟨s⟩⟩ c hc w hs).mono fun e w' ⟨e1,e2⟩=>⟨e1,?_⟩
 rcases e2 with rfl|rfl
 ·exact Go.RowKit.Below.refl _ _
 ·exact Go.RowKit.Below.drew (Go.RowKit.Below.refl _ _)
theorem YT(w0:World)(hm:MaxL w0)(h:AHeap)(s t:Str)(hs:s.length<4294967281):
 ACall Tryd.prog w0 22 [.str s, .str t] h (fun v h'=>v= .bool (Lib.contains s t)/\h'=h):=by
 obtain⟨m,hm⟩:=hm;refine qhC (vals:=[.string ⟨⟨s⟩⟩, .string ⟨⟨t⟩⟩]) (val:= .bool (Lib.contains s t)) Tryd.func22 rfl rfl (fun fi vs hv=>qkU hv) (fun fi=>rfl) fun w hb=>?_;have hlt:2<w0.heap.size:=qhI hm;have hw:w.cell? ⟨2,0,none⟩=some (.int .i64 m):=(hb.cell (p:=⟨2,0,none⟩) hlt).trans hm;refine(Tryd.strings_Contains ⟨⟨s⟩⟩ ⟨⟨t⟩⟩ m w hs hw).mono fun e w' ⟨e1,e2⟩=>⟨e1,?_⟩
 subst e2;exact Go.RowKit.Below.refl _ _
theorem qmf(w0:World)(h:AHeap)(s t:Str):ACall Tryd.prog w0 78 [.str s, .str t] h (fun v h'=>v= .tuple [.str (Lib.trimPrefix s t), .bool (Lib.hasPrefix s t)]/\h'=h):=by
 refine qaR (vals:=[.string ⟨⟨s⟩⟩, .string ⟨⟨t⟩⟩]) (val:= .tuple #[.string ⟨⟨Lib.trimPrefix s t⟩⟩, .bool (Lib.hasPrefix s t)]) Tryd.func78 rfl rfl (fun fi vs hv=>qkU hv) (fun fi=>by simp only[VR,VRs];exact⟨_,rfl,_,_,rfl,rfl,_,_,rfl,rfl,rfl⟩) fun w=>?_;refine(Tryd.strings_CutPrefix ⟨⟨s⟩⟩ ⟨⟨t⟩⟩ w).mono fun e w' ⟨e1,e2⟩=>⟨e1,?_⟩
 subst e2;exact Go.RowKit.Below.refl _ _
end Go.Proofs.YtgiadjbiimkbiaaDoor
namespace Go.Stm
open Go.Col (Str)
def qno:Str:=[84,72,82,85,59,84,72,82,79,85,71,72,59,84,73,77,69,83,59,91,87,73,84,72,93,32,84,69,83,84,32,66,69,70,79,82,69,59,91,87,73,84,72,93,32,84,69,83,84,32,65,70,84,69,82,59,85,78,84,73,76,59,86,65,82,89,73,78,71,59,65,70,84,69,82]
def frm1:Str:=[78,69,88,84,32,91,82,69,67,79,82,68,93,59,82,69,67,79,82,68,59,73,78,84,79,59,75,69,89,32,91,73,83,93]
def frm2:Str:=[40,65,84,41,32,69,78,68,59,78,79,84,32,40,65,84,41,32,69,78,68,59,73,78,86,65,76,73,68,32,40,75,69,89,41,59,78,79,84,32,73,78,86,65,76,73,68,32,40,75,69,89,41]
def frm3:Str:=[40,65,84,41,32,69,78,68,59,78,79,84,32,40,65,84,41,32,69,78,68]
def frm4:Str:=[73,78,86,65,76,73,68,32,40,75,69,89,41,59,78,79,84,32,73,78,86,65,76,73,68,32,40,75,69,89,41]
def frm5:Str:=[40,65,84,41,32,69,78,68,59,78,79,84,32,40,65,84,41,32,69,78,68,59,87,72,69,78]
def frm6:Str:=[40,79,78,41,32,65,83,67,69,78,68,73,78,71,32,40,75,69,89,41,59,40,79,78,41,32,68,69,83,67,69,78,68,73,78,71,32,40,75,69,89,41,59,85,83,73,78,71,59,71,73,86,73,78,71,59,79,85,84,80,85,84,32,80,82,79,67,69,68,85,82,69,32,91,73,83,93,59,73,78,80,85,84,32,80,82,79,67,69,68,85,82,69,32,91,73,83,93]
def frm7:Str:=[40,79,78,41,32,79,86,69,82,70,76,79,87,59,78,79,84,32,40,79,78,41,32,79,86,69,82,70,76,79,87]
def qsg:Str:=[40,79,78,41,32,83,73,90,69,32,69,82,82,79,82,59,78,79,84,32,40,79,78,41,32,83,73,90,69,32,69,82,82,79,82]
def frm9:Str:=[70,82,79,77,59,65,70,84,69,82,32,40,65,68,86,65,78,67,73,78,71,41,59,66,69,70,79,82,69,32,40,65,68,86,65,78,67,73,78,71,41]
def frm10:Str:=[84,79,32,80,82,79,67,69,69,68,32,84,79,59,84,79]
def frm11:Str:=[40,79,78,41,32,69,88,67,69,80,84,73,79,78,59,78,79,84,32,40,79,78,41,32,69,88,67,69,80,84,73,79,78]
def frm12:Str:=[85,80,79,78,59,91,87,73,84,72,93,32,78,79,32,65,68,86,65,78,67,73,78,71]
def frm13:Str:=[73,78,84,79,59,66,89,59,71,73,86,73,78,71,59,82,69,77,65,73,78,68,69,82]
def frm14:Str:=[87,72,69,78,32,79,84,72,69,82,59,87,72,69,78]
def frm15:Str:=[84,79,59,68,69,80,69,78,68,73,78,71,32,40,79,78,41]
def frm16:Str:=[40,79,78,41,32,65,83,67,69,78,68,73,78,71,32,40,75,69,89,41,59,40,79,78,41,32,68,69,83,67,69,78,68,73,78,71,32,40,75,69,89,41,59,85,83,73,78,71,59,71,73,86,73,78,71,59,79,85,84,80,85,84,32,80,82,79,67,69,68,85,82,69,32,91,73,83,93]
def frm17:Str:=[73,78,80,85,84,59,79,85,84,80,85,84,59,73,45,79,59,69,88,84,69,78,68]
def moreE(v:Str):Str×Str:=
 bif v==[80,69,82,70,79,82,77]then(qno,[])else
 bif v==[82,69,65,68]then(frm1,frm2)else
 bif v==[82,69,84,85,82,78]then([82,69,67,79,82,68,59,73,78,84,79],frm3)else
 bif v==[82,69,87,82,73,84,69]then([70,82,79,77],frm4)else
 bif v==[83,69,65,82,67,72]then([86,65,82,89,73,78,71],frm5)else
 bif v==[83,79,82,84]then(frm6,[])else
 bif v==[83,84,65,82,84]then([75,69,89,32,91,73,83,93],frm4)else
 bif v==[83,84,79,80]then([82,85,78],[])else
 bif v==[83,84,82,73,78,71]then([],frm7)else
 bif v==[85,78,83,84,82,73,78,71]then([],frm7)else
 bif v==[83,85,66,84,82,65,67,84]then([70,82,79,77,59,71,73,86,73,78,71],qsg)else
 bif v==[87,82,73,84,69]then(frm9,frm4)else
 ([],[])
def Xi(v:Str):Str×Str:=
 bif v==[65,67,67,69,80,84]then([70,82,79,77],[])else
 bif v==[82,69,76,69,65,83,69]then([70,82,79,77],[])else
 bif v==[65,68,68]then([84,79,59,71,73,86,73,78,71],qsg)else
 bif v==[65,76,84,69,82]then(frm10,[])else
 bif v==[67,65,76,76]then([85,83,73,78,71],frm11)else
 bif v==[67,79,77,80,85,84,69]then([61],qsg)else
 bif v==[68,69,76,69,84,69]then([82,69,67,79,82,68],frm4)else
 bif v==[68,73,83,80,76,65,89]then(frm12,[])else
 bif v==[68,73,86,73,68,69]then(frm13,qsg)else
 bif v==[69,86,65,76,85,65,84,69]then([],frm14)else
 bif v==[69,88,73,84]then([80,82,79,71,82,65,77],[])else
 bif v==[71,79]then(frm15,[])else
 bif v==[73,70]then([],[84,72,69,78,59,69,76,83,69])else
 bif v==[77,69,82,71,69]then(frm16,[])else
 bif v==[77,79,86,69]then([84,79],[])else
 bif v==[83,69,84]then([84,79],[])else
 bif v==[77,85,76,84,73,80,76,89]then([66,89,59,71,73,86,73,78,71],qsg)else
 bif v==[79,80,69,78]then(frm17,[])else
 moreE v
end Go.Stm
namespace Go.Proofs.YtgiadjbiimkbiaaDoor
open Go.AM
open Go.Proofs
open Go.Col (Str FaultC okF)
open Go.Tok (TokC)
open Go.Stm
open Go.RowKit (Below)
set_option maxRecDepth 100000
set_option maxHeartbeats 4000000 in
theorem c_forms(w0:World)(h:AHeap)(s:Str):ACall Tryd.prog w0 56 [.str s] h (fun v h'=>v= .tuple [.str (Xi s).1, .str (Xi s).2]/\h'=h):=by
 refine qaR (vals:=[.string ⟨⟨s⟩⟩]) (val:= .tuple #[.string ⟨⟨(Xi s).1⟩⟩, .string ⟨⟨(Xi s).2⟩⟩]) Tryd.func56 rfl rfl (fun fi vs hv=>VRs_s hv) (fun fi=>by simp only[VR,VRs];exact⟨_,rfl,_,_,rfl,rfl,_,_,rfl,rfl,rfl⟩) fun w=>?_
 go_enter Tryd.func56,Tryd.ntmps56
 go_wp2
 all_goals first|(simp only[Xi,moreE, *,cond_true,cond_false];go_ret2;exact⟨rfl,Go.RowKit.Below.refl _ _⟩)|(exfalso;simp_all;done)
def Zh(t:TokC):List AVal:=[.int .u8 t.kind.toNat, .str t.text, .int .i64 t.line, .int .i64 t.col, .bool t.left]
theorem Uy{w0:World}{h:AHeap}{lc:AM.Loc}{o:Nat}{c:Cap}{l:List TokC}(ht:IsL w0 h 5 (.slice lc o l.length c) (l.map Zh)){i:Nat}(hi:i<l.length):
 rd w0 h lc (o+i*5)= .int .u8 (l.getD i noT).kind.toNat/\rd w0 h lc (o+i*5+1)= .str (l.getD i noT).text/\rd w0 h lc (o+i*5+2)= .int .i64 (l.getD i noT).line/\rd w0 h lc (o+i*5+3)= .int .i64 (l.getD i noT).col/\rd w0 h lc (o+i*5+4)= .bool (l.getD i noT).left:=by
 have he:=ht.elem (i:=i) (by rw[Jn];exact hi);rw[getD_map noT hi]at he;simp only[qC,Zh,List.cons.injEq,and_true]at he;exact he
theorem YA{w0:World}{h:AHeap}{v:AVal}{l:List TokC}(ht:IsL w0 h 5 v (l.map Zh))(hn:0<l.length):∃lc o c,v= .slice lc o l.length c:=by
 obtain⟨lc,o,c,e⟩:=ht.open (fun e=>by rw[Vu]at e;subst e;simp at hn);rw[Jn]at e;exact⟨lc,o,c,e⟩
theorem Yl{w0:World}{h:AHeap}{v:AVal}{l:List TokC}(ht:IsL w0 h 5 v (l.map Zh)):∀H:AHeap,YZ Tryd.prog H 31 v=⟨True, .int .i64 l.length⟩:=by
 intro H;have:=ht.len Tryd.underlying31 H
 rwa [Jn]at this
def Short(l:List TokC):Prop:=∀t∈l,t.text.length<=1000000
theorem Short.at{l:List TokC}(hl:Short l){i:Nat}(hi:i<l.length):(l.getD i noT).text.length<=1000000:=by
 refine hl _ ?_;rw[Ko,JB hi];exact Vr hi
abbrev tokV(t:TokC):AVal:= .agg [.int .u8 t.kind.toNat, .str t.text, .int .i64 t.line, .int .i64 t.col, .bool t.left]
theorem Wj(k n:UInt8):decide ((k.toNat:Int)=(n.toNat:Int))=decide (k=n):=by
 by_cases h:k=n
 ·subst h;simp
 ·have:(k.toNat:Int)≠n.toNat:=fun e=>h (UInt8.toNat_inj.1 (by omega))
  simp[h,this]
theorem qen(w0:World)(hm:MaxL w0)(h:AHeap)(t:TokC)(ht:t.text.length<=1000000):ACall Tryd.prog w0 37 [tokV t] h (fun v h'=>v= .bool (Uh t)/\h'=h):=by
 have hk:=Wj t.kind 1;have ek:(((1:UInt8).toNat:Nat):Int)=1:=rfl;rw[ek]at hk;have hc1:([(32:UInt8)].length+t.text.length<9223372036854775808)=True:=eq_true (by simp only[KX,JD];omega);have hc2:(([(32:UInt8)]++t.text).length+[(32:UInt8)].length<9223372036854775808)=True:=eq_true (by simp only[Jb,KX,JD];omega);refine Xf (n:=24) (rs:=[.tmp 2]) Tryd.func37 rfl rfl rfl rfl (Vy rfl) ?_;simp only[Xe];refine awp_rseq [1] (by rfl) fun K hK=>?_;refine qcu (by rfl) (by rfl) (by rfl) fun k0q0 hk0q0=>?_;try have hf_0q0:h k0q0=none:=by first|assumption|(simp only[AHeap.set_none]at hk0q0;simp only[hk0q0])
 skip;simp+decide only[qh,qi,qj,qo,ev,qZ,qY,putD,Vz,VA,VB,Ka,VC,VD,Kb,and_true,↓qV,qP,qM,ne_eq,not_false_eq_true,qN,qJ,VE,setAt,VF,Kj,qC,VG,Kn,Jp,Nat.reduceAdd,qF,qG,qI,qf,qK,qa,qz,qd,qE,qc,qA,qg,qH,qy,allLive,J4,tokV,hk,hc1,hc2];repeat (with_reducible refine And.intro ?_ ?_;· first|trivial|omega|(intro hg;simp only[Ky,JH,Jh,VH,VI,VJ,decide_eq_true_eq,decide_eq_false_iff_not,qR]at hg;omega))
 apply hK;clear hK K;refine awp_rseq [2] (by rfl) fun K hK=>?_;simp+decide only[qh,qi,qj,qo,ev,qZ,qY,putD,Vz,VA,VB,Ka,VC,VD,Kb,and_true,↓Qo,Qd,Ud,↓Qu,QM,Qi qha,↓Qj,Qa,Qm,cond_false,Qh,ZE,↓qW,qU,↓XW,agP,Xw,gv,QB,QD,QC,Qs,Qg,Qe,Zk,implies_true,VK,decide_true,decide_false,VL,VM,Qc,Qb,forall_const,false_implies,Qk,Qf,J4,VN,VO,VP,VQ,VS,VT,VU,qbe,XN,XO,Xb,Xc,Xa,↓ZG,Zt,Wn,ZP,ZO,ZN,ZM,ZL,ZK,Qi ag9,ZI,ZJ,↓XT,XK,Zb,Za,Zd,Zc,XC,qaB,↓XH,Xj,QO,QH,QG,QA,Xo,Xn,Xm,Xl,QZ,Xk,qM,ne_eq,not_false_eq_true,qN,qJ,VE,setAt,VF,Kj,qC,VG,Kn,Jp,Nat.reduceAdd,qF,qG,qI,qf,qK,qa,qz,qd,qE,qc,qA,qg,qH,qy,allLive,J4,tokV,hk,hc1,hc2];repeat (with_reducible refine And.intro ?_ ?_;· first|trivial|omega|(intro hg;simp only[Ky,JH,Jh,VH,VI,VJ,decide_eq_true_eq,decide_eq_false_iff_not,qR]at hg;omega))
 first
 |(refine Zf (by rfl) ?_;refine XD (V:= .bool (Lib.contains t.text [32])) (by rfl) (by rfl) (YT w0 hm _ _ _ (by omega)) ?_)
 |(refine WI (by rfl) (by rfl) ?_)
 |(refine Wo (V:= .bool (Lib.contains t.text [32])) (f:=_) (cap:=_) (xs:=_) (by first|rfl|(simp+decide only[gv,QB,VA,Ka,QC,QD])) (fun hg=>⟨rfl,?_⟩) (fun hg=>YT w0 hm _ _ _ (by omega)) ?_;· (simp+decide only[gv,QB,putD,Vz,VA,Ka,Qg,Qe,Qs,VK]at hg;simp+decide only[evs,ev,putD,Vz,VA,Ka,hg,Qc,JE,Ke,Vh,qZ,qY]<;>try rfl))
 simp+decide only[qh,qi,qj,qo,ev,qZ,qY,putD,Vz,VA,VB,Ka,VC,VD,Kb,and_true,gv,QB,Qg,Qe,Qs,↓qbP,YB,agP,Xw,QD,QC,Zk,implies_true,VK,decide_true,decide_false,VL,VM,Qc,Qb,forall_const,false_implies,Qk,Qf,J4,VN,VO,VP,VQ,VS,VT,VU,UD,qei,qek,Xb,Xc,Xa,↓XH,Xj,QO,QH,QG,QA,Xo,Xn,Xm,Xl,QZ,Xk,↓qW,qU,↓XW,Qd,qbe,XN,XO,↓ZG,QM,Zt,Wn,ZP,ZO,ZN,ZM,ZL,ZK,Qi ag9,ZI,ZJ,↓XT,Qa,Qz,cond_false,Zb,Za,Zd,Zc,XC,qci,XK,qM,ne_eq,not_false_eq_true,qN,qJ,VE,setAt,VF,Kj,qC,VG,Kn,Jp,Nat.reduceAdd,qF,qG,qI,qf,qK,qa,qz,qd,qE,qc,qA,qg,qH,qy,allLive,J4,tokV,hk,hc1,hc2];try simp(disch:=omega)only[wrap_i64,wrap_u8]
 repeat (with_reducible refine And.intro ?_ ?_;· first|trivial|omega|(intro hg;simp only[Ky,JH,Jh,VH,VI,VJ,decide_eq_true_eq,decide_eq_false_iff_not,qR]at hg;omega))
 first
 |(refine Zf (by rfl) ?_;refine XD (V:= .bool (Lib.contains qhR ([32]++t.text++[32]))) (by rfl) (by rfl) (YT w0 hm _ qhR _ (by decide)) ?_)
 |(refine WI (by rfl) (by rfl) ?_)
 |(refine Wo (V:= .bool (Lib.contains qhR ([32]++t.text++[32]))) (f:=_) (cap:=_) (xs:=_) (by first|rfl|(simp+decide only[gv,QB,VA,Ka,QC,QD])) (fun hg=>⟨rfl,?_⟩) (fun hg=>YT w0 hm _ qhR _ (by decide)) ?_;· (simp+decide only[gv,QB,putD,Vz,VA,Ka,Qg,Qe,Qs,VK]at hg;simp+decide only[evs,ev,putD,Vz,VA,Ka,hg,Qc,JE,Ke,Vh,qZ,qY]<;>try rfl))
 simp+decide only[qh,qi,qj,qo,ev,qZ,qY,putD,Vz,VA,VB,Ka,VC,VD,Kb,and_true,gv,QB,Qg,Qe,Qs,↓XH,Xj,QO,QH,QG,QA,Xo,Xn,Xm,Xl,QZ,Xk,↓qV,qP,qM,ne_eq,not_false_eq_true,qN,qJ,VE,setAt,VF,Kj,qC,VG,Kn,Jp,Nat.reduceAdd,qF,qG,qI,qf,qK,qa,qz,qd,qE,qc,qA,qg,qH,qy,allLive,J4,tokV,hk,hc1,hc2];repeat (with_reducible refine And.intro ?_ ?_;· first|trivial|omega|(intro hg;simp only[Ky,JH,Jh,VH,VI,VJ,decide_eq_true_eq,decide_eq_false_iff_not,qR]at hg;omega))
 apply hK;clear hK K;refine Xd ?_;try simp only[QF,Qn]
 refine XV h zqC (Qr (Qv)) ?_;simp+decide only[qh,qi,qj,qo,ev,qZ,qY,putD,Vz,VA,VB,Ka,VC,VD,Kb,and_true,QU,qM,ne_eq,not_false_eq_true,qN,qJ,VE,setAt,VF,Kj,qC,VG,Kn,Jp,Nat.reduceAdd,qF,qG,qI,qf,qK,qa,qz,qd,qE,qc,qA,qg,qH,qy,allLive,J4,tokV,hk,hc1,hc2];all_goals first|rfl|exact⟨rfl,rfl⟩|(simp+decide only[Ka, *];done)|(trace_state;fail)
theorem qoP(w0:World)(hm:MaxL w0)(h:AHeap)(t:TokC)(ht:t.text.length<=1000000):ACall Tryd.prog w0 57 [tokV t] h (fun v h'=>v= .str (qdG t)/\h'=h):=by
 have hk:=Wj t.kind 1;have ek:(((1:UInt8).toNat:Nat):Int)=1:=rfl;rw[ek]at hk;have htl:(Lib.trimPrefix t.text qkY).length<=1000000:=by
  unfold Lib.trimPrefix;split
  ·rw[K5];omega
  ·exact ht
 obtain⟨u,hu⟩:∃u,u=Lib.trimPrefix t.text qkY:=⟨_,rfl⟩
 rw[<-hu]at htl;have hc1:([(32:UInt8)].length+u.length<9223372036854775808)=True:=eq_true (by simp only[KX,JD];omega);have hc2:(([(32:UInt8)]++u).length+[(32:UInt8)].length<9223372036854775808)=True:=eq_true (by simp only[Jb,KX,JD];omega);obtain⟨p,hp⟩:∃p,p=Lib.hasPrefix t.text qkY:=⟨_,rfl⟩
 have he:qdG t=if (!p|| !decide (t.kind=1)||decide (u=[])||Lib.contains u [32]|| !Lib.contains qdh ([32]++u++[32]))=true then[]else u:=by rw[hu,hp];rfl
 refine Xf (n:=34) (rs:=[.tmp 2]) Tryd.func57 rfl rfl rfl rfl (Vy rfl) ?_;simp only[Xe];refine awp_rseq [1] (by rfl) fun K hK=>?_;refine qcu (by rfl) (by rfl) (by rfl) fun k0q0 hk0q0=>?_;try have hf_0q0:h k0q0=none:=by first|assumption|(simp only[AHeap.set_none]at hk0q0;simp only[hk0q0])
 skip;simp+decide only[qh,qi,qj,qo,ev,qZ,qY,putD,Vz,VA,VB,Ka,VC,VD,Kb,and_true,↓qV,qP,qM,ne_eq,not_false_eq_true,qN,qJ,VE,setAt,VF,Kj,qC,VG,Kn,Jp,Nat.reduceAdd,qF,qG,qI,qf,qK,qa,qz,qd,qE,qc,qA,qg,qH,qy,allLive,J4,tokV,hk,hc1,hc2];repeat (with_reducible refine And.intro ?_ ?_;· first|trivial|omega|(intro hg;simp only[Ky,JH,Jh,VH,VI,VJ,decide_eq_true_eq,decide_eq_false_iff_not,qR]at hg;omega))
 apply hK;clear hK K;refine awp_rseq [1,3,4] (by rfl) fun K hK=>?_;simp+decide only[qh,qi,qj,qo,ev,qZ,qY,putD,Vz,VA,VB,Ka,VC,VD,Kb,and_true,↓Qo,Qd,qbe,↓Qu,QM,Qi ag9,qM,ne_eq,not_false_eq_true,qN,qJ,VE,setAt,VF,Kj,qC,VG,Kn,Jp,Nat.reduceAdd,qF,qG,qI,qf,qK,qa,qz,qd,qE,qc,qA,qg,qH,qy,allLive,J4,tokV,hk,hc1,hc2];repeat (with_reducible refine And.intro ?_ ?_;· first|trivial|omega|(intro hg;simp only[Ky,JH,Jh,VH,VI,VJ,decide_eq_true_eq,decide_eq_false_iff_not,qR]at hg;omega))
 refine XD (V:= .tuple [.str u, .bool p]) (by rfl) (by rfl) (by rw[hu,hp];exact qmf w0 _ _ qkY) ?_;simp+decide only[qh,qi,qj,qo,ev,qZ,qY,putD,Vz,VA,VB,Ka,VC,VD,Kb,and_true,↓qW,qU,↓Zl,XY,Zp,KX,JD,VG,Kn,↓qV,qP,qM,ne_eq,not_false_eq_true,qN,qJ,VE,setAt,VF,Kj,qC,VG,Kn,Jp,Nat.reduceAdd,qF,qG,qI,qf,qK,qa,qz,qd,qE,qc,qA,qg,qH,qy,allLive,J4,tokV,hk,hc1,hc2];repeat (with_reducible refine And.intro ?_ ?_;· first|trivial|omega|(intro hg;simp only[Ky,JH,Jh,VH,VI,VJ,decide_eq_true_eq,decide_eq_false_iff_not,qR]at hg;omega))
 apply hK;clear hK K;refine Qp ?_;refine awp_rseq [3,32] (by rfl) fun K hK=>?_;simp+decide only[qh,qi,qj,qo,ev,qZ,qY,putD,Vz,VA,VB,Ka,VC,VD,Kb,and_true,↓qW,qU,↓qeS,YB,UD,↓XW,Qd,agP,Xw,gv,QB,QD,QC,Qs,Qg,Qe,Zk,implies_true,VK,decide_true,decide_false,VL,VM,Qc,Qb,forall_const,false_implies,Qk,Qf,J4,VN,VO,VP,VQ,VS,VT,VU,Ud,XN,XO,Xb,Xc,Xa,↓ZG,QM,Zt,Wn,ZP,ZO,ZN,ZM,ZL,ZK,Qi qha,ZI,ZJ,↓XT,Qa,Qm,cond_false,Zb,Za,Zd,Zc,Qh,qai,↓XH,Xj,QO,QH,QG,QA,Xo,Xn,Xm,Xl,QZ,Xk,↓Zj,XK,XC,Wv,qM,ne_eq,not_false_eq_true,qN,qJ,VE,setAt,VF,Kj,qC,VG,Kn,Jp,Nat.reduceAdd,qF,qG,qI,qf,qK,qa,qz,qd,qE,qc,qA,qg,qH,qy,allLive,J4,tokV,hk,hc1,hc2];try simp(disch:=omega)only[wrap_i64,wrap_u8]
 repeat (with_reducible refine And.intro ?_ ?_;· first|trivial|omega|(intro hg;simp only[Ky,JH,Jh,VH,VI,VJ,decide_eq_true_eq,decide_eq_false_iff_not,qR]at hg;omega))
 first
 |(refine Zf (by rfl) ?_;refine XD (V:= .bool (Lib.contains u [32])) (by rfl) (by rfl) (YT w0 hm _ _ _ (by omega)) ?_)
 |(refine WI (by rfl) (by rfl) ?_)
 |(refine Wo (V:= .bool (Lib.contains u [32])) (f:=_) (cap:=_) (xs:=_) (by first|rfl|(simp+decide only[gv,QB,VA,Ka,QC,QD])) (fun hg=>⟨rfl,?_⟩) (fun hg=>YT w0 hm _ _ _ (by omega)) ?_;· (simp+decide only[gv,QB,putD,Vz,VA,Ka,Qg,Qe,Qs,VK]at hg;simp+decide only[evs,ev,putD,Vz,VA,Ka,hg,Qc,JE,Ke,Vh,qZ,qY]<;>try rfl))
 simp+decide only[qh,qi,qj,qo,ev,qZ,qY,putD,Vz,VA,VB,Ka,VC,VD,Kb,and_true,gv,QB,Qg,Qe,Qs,↓XH,Xj,QO,QH,QG,QA,Xo,Xn,Xm,Xl,QZ,Xk,↓qW,qU,↓Zj,agP,Xw,QD,QC,Zk,implies_true,VK,decide_true,decide_false,VL,VM,Qc,Qb,forall_const,false_implies,Qk,Qf,J4,VN,VO,VP,VQ,VS,VT,VU,Xb,Xc,Xa,↓XT,Qa,Qz,cond_false,Zb,Za,Zd,Zc,XC,qci,XK,qM,ne_eq,not_false_eq_true,qN,qJ,VE,setAt,VF,Kj,qC,VG,Kn,Jp,Nat.reduceAdd,qF,qG,qI,qf,qK,qa,qz,qd,qE,qc,qA,qg,qH,qy,allLive,J4,tokV,hk,hc1,hc2];repeat (with_reducible refine And.intro ?_ ?_;· first|trivial|omega|(intro hg;simp only[Ky,JH,Jh,VH,VI,VJ,decide_eq_true_eq,decide_eq_false_iff_not,qR]at hg;omega))
 first
 |(refine Zf (by rfl) ?_;refine XD (V:= .bool (Lib.contains qdh ([32]++u++[32]))) (by rfl) (by rfl) (YT w0 hm _ qdh _ (by decide)) ?_)
 |(refine WI (by rfl) (by rfl) ?_)
 |(refine Wo (V:= .bool (Lib.contains qdh ([32]++u++[32]))) (f:=_) (cap:=_) (xs:=_) (by first|rfl|(simp+decide only[gv,QB,VA,Ka,QC,QD])) (fun hg=>⟨rfl,?_⟩) (fun hg=>YT w0 hm _ qdh _ (by decide)) ?_;· (simp+decide only[gv,QB,putD,Vz,VA,Ka,Qg,Qe,Qs,VK]at hg;simp+decide only[evs,ev,putD,Vz,VA,Ka,hg,Qc,JE,Ke,Vh,qZ,qY]<;>try rfl))
 simp+decide only[qh,qi,qj,qo,ev,qZ,qY,putD,Vz,VA,VB,Ka,VC,VD,Kb,and_true,gv,QB,Qg,Qe,Qs,↓qbP,YB,agP,Xw,QD,QC,Zk,implies_true,VK,decide_true,decide_false,VL,VM,Qc,Qb,forall_const,false_implies,Qk,Qf,J4,VN,VO,VP,VQ,VS,VT,VU,UD,qei,qek,Xb,Xc,Xa,↓XH,Xj,QO,QH,QG,QA,Xo,Xn,Xm,Xl,QZ,Xk,qM,ne_eq,not_false_eq_true,qN,qJ,VE,setAt,VF,Kj,qC,VG,Kn,Jp,Nat.reduceAdd,qF,qG,qI,qf,qK,qa,qz,qd,qE,qc,qA,qg,qH,qy,allLive,J4,tokV,hk,hc1,hc2];try simp(disch:=omega)only[wrap_i64,wrap_u8]
 repeat (with_reducible refine And.intro ?_ ?_;· first|trivial|omega|(intro hg;simp only[Ky,JH,Jh,VH,VI,VJ,decide_eq_true_eq,decide_eq_false_iff_not,qR]at hg;omega))
 apply hK;clear hK K;refine Qw (b:=_) rfl (fun hb1=>?_) (fun hb1=>?_)
 ·try simp only[decide_eq_true_eq,decide_eq_false_iff_not,Jh,VJ,Ky,VH,JH,VI,VV,VW,reduceCtorEq]at hb1
  rw[he,if_pos (by simpa using hb1)];refine awp_rseq [2] (by rfl) fun K hK=>?_;simp+decide only[qh,qi,qj,qo,ev,qZ,qY,putD,Vz,VA,VB,Ka,VC,VD,Kb,and_true,↓qV,qP,qM,ne_eq,not_false_eq_true,qN,qJ,VE,setAt,VF,Kj,qC,VG,Kn,Jp,Nat.reduceAdd,qF,qG,qI,qf,qK,qa,qz,qd,qE,qc,qA,qg,qH,qy,allLive,J4,tokV,hk,hc1,hc2];repeat (with_reducible refine And.intro ?_ ?_;· first|trivial|omega|(intro hg;simp only[Ky,JH,Jh,VH,VI,VJ,decide_eq_true_eq,decide_eq_false_iff_not,qR]at hg;omega))
  apply hK;clear hK K;refine Xd ?_;try simp only[QF,Qn]
  refine XV h zqC (Qr (Qv)) ?_;simp+decide only[qh,qi,qj,qo,ev,qZ,qY,putD,Vz,VA,VB,Ka,VC,VD,Kb,and_true,QU,qM,ne_eq,not_false_eq_true,qN,qJ,VE,setAt,VF,Kj,qC,VG,Kn,Jp,Nat.reduceAdd,qF,qG,qI,qf,qK,qa,qz,qd,qE,qc,qA,qg,qH,qy,allLive,J4,tokV,hk,hc1,hc2];all_goals first|rfl|exact⟨rfl,rfl⟩|(simp+decide only[Ka, *];done)|(trace_state;fail)
 ·try simp only[decide_eq_true_eq,decide_eq_false_iff_not,Jh,VJ,Ky,VH,JH,VI,VV,VW,reduceCtorEq]at hb1
  rw[he,if_neg (by simpa using hb1)];refine QJ ?_;change Awp _ _ _ _ _ _ _;refine awp_rseq [2] (by rfl) fun K hK=>?_;simp+decide only[qh,qi,qj,qo,ev,qZ,qY,putD,Vz,VA,VB,Ka,VC,VD,Kb,and_true,↓qW,qU,↓qV,qP,qM,ne_eq,not_false_eq_true,qN,qJ,VE,setAt,VF,Kj,qC,VG,Kn,Jp,Nat.reduceAdd,qF,qG,qI,qf,qK,qa,qz,qd,qE,qc,qA,qg,qH,qy,allLive,J4,tokV,hk,hc1,hc2];repeat (with_reducible refine And.intro ?_ ?_;· first|trivial|omega|(intro hg;simp only[Ky,JH,Jh,VH,VI,VJ,decide_eq_true_eq,decide_eq_false_iff_not,qR]at hg;omega))
  apply hK;clear hK K;refine Xd ?_;try simp only[QF,Qn]
  refine XV h zqC (Qr (Qv)) ?_;simp+decide only[qh,qi,qj,qo,ev,qZ,qY,putD,Vz,VA,VB,Ka,VC,VD,Kb,and_true,QU,qM,ne_eq,not_false_eq_true,qN,qJ,VE,setAt,VF,Kj,qC,VG,Kn,Jp,Nat.reduceAdd,qF,qG,qI,qf,qK,qa,qz,qd,qE,qc,qA,qg,qH,qy,allLive,J4,tokV,hk,hc1,hc2];all_goals first|rfl|exact⟨rfl,rfl⟩|(simp+decide only[Ka, *];done)|(trace_state;fail)
theorem qgf(w0:World)(h:AHeap)(v:AVal)(xs:List (List AVal))(hv:IsL w0 h 5 v xs):ACall Tryd.prog w0 25 [v] h (fun r h'=>r=Yd v/\h'=h):=by
 have hlen:=hv.len Tryd.underlying31;have h3:=hv.slice3 Tryd.underlying31 Yv .i64 .i64 none rfl;refine Xf (n:=9) (rs:=[.tmp 2]) Tryd.func25 rfl rfl rfl rfl (Vy rfl) ?_;simp only[Xe];refine awp_rseq [0] (by rfl) fun K hK=>?_;simp+decide only[qh,qi,qj,qo,ev,qZ,qY,putD,Vz,VA,VB,Ka,VC,VD,Kb,and_true,↓qV,qP,hlen,h3];repeat (with_reducible refine And.intro ?_ ?_;· first|trivial|omega|(intro hg;simp only[Ky,JH,Jh,VH,VI,VJ,decide_eq_true_eq,decide_eq_false_iff_not,qR]at hg;omega))
 apply hK;clear hK K;refine awp_rseq [2] (by rfl) fun K hK=>?_;simp+decide only[qh,qi,qj,qo,ev,qZ,qY,putD,Vz,VA,VB,Ka,VC,VD,Kb,and_true,↓qW,qU,↓XG,Xh,QE Tryd.underlying31,QT Tryd.underlying31,↓qdl,qbT,evO,qbV Tryd.underlying31 Yv,qbU Tryd.underlying31 Yv,qbb Tryd.underlying31 Yv,qba Tryd.underlying31 Yv,qam Tryd.underlying31 Yv none none rfl rfl,qdA,qcA,qac,qbZ,qaf,↓qV,qP,hlen,h3];repeat (with_reducible refine And.intro ?_ ?_;· first|trivial|omega|(intro hg;simp only[Ky,JH,Jh,VH,VI,VJ,decide_eq_true_eq,decide_eq_false_iff_not,qR]at hg;omega))
 apply hK;clear hK K;refine Xd ?_;try simp only[QF,Qn]
 refine XV _ (Vg _) (Qr (Qv)) ?_;simp+decide only[qh,qi,qj,qo,ev,qZ,qY,putD,Vz,VA,VB,Ka,VC,VD,Kb,and_true,QU,hlen,h3];all_goals first|rfl|exact⟨rfl,rfl⟩|(simp+decide only[Ka, *];done)|(trace_state;fail)
theorem qmg(w0:World)(h:AHeap)(v:AVal)(xs:List (List AVal))(hv:IsL w0 h 5 v xs):ACall Tryd.prog w0 20 [v] h (fun r h'=>r=Yd v/\h'=h):=by
 have hlen:=hv.len Tryd.underlying23;have h3:=hv.slice3 Tryd.underlying23 WJ .i64 .i64 none rfl;refine Xf (n:=9) (rs:=[.tmp 2]) Tryd.func20 rfl rfl rfl rfl (Vy rfl) ?_;simp only[Xe];refine awp_rseq [0] (by rfl) fun K hK=>?_;simp+decide only[qh,qi,qj,qo,ev,qZ,qY,putD,Vz,VA,VB,Ka,VC,VD,Kb,and_true,↓qV,qP,hlen,h3];repeat (with_reducible refine And.intro ?_ ?_;· first|trivial|omega|(intro hg;simp only[Ky,JH,Jh,VH,VI,VJ,decide_eq_true_eq,decide_eq_false_iff_not,qR]at hg;omega))
 apply hK;clear hK K;refine awp_rseq [2] (by rfl) fun K hK=>?_;simp+decide only[qh,qi,qj,qo,ev,qZ,qY,putD,Vz,VA,VB,Ka,VC,VD,Kb,and_true,↓qW,qU,↓XG,Xh,QE Tryd.underlying23,QT Tryd.underlying23,↓qdl,qbT,evO,qbV Tryd.underlying23 WJ,qbU Tryd.underlying23 WJ,qbb Tryd.underlying23 WJ,qba Tryd.underlying23 WJ,qam Tryd.underlying23 WJ none none rfl rfl,qdA,qcA,qac,qbZ,qaf,↓qV,qP,hlen,h3];repeat (with_reducible refine And.intro ?_ ?_;· first|trivial|omega|(intro hg;simp only[Ky,JH,Jh,VH,VI,VJ,decide_eq_true_eq,decide_eq_false_iff_not,qR]at hg;omega))
 apply hK;clear hK K;refine Xd ?_;try simp only[QF,Qn]
 refine XV _ (Vg _) (Qr (Qv)) ?_;simp+decide only[qh,qi,qj,qo,ev,qZ,qY,putD,Vz,VA,VB,Ka,VC,VD,Kb,and_true,QU,hlen,h3];all_goals first|rfl|exact⟨rfl,rfl⟩|(simp+decide only[Ka, *];done)|(trace_state;fail)
theorem qsJ(w0:World)(h:AHeap)(v:AVal)(xs:List (List AVal))(hv:IsL w0 h 2 v xs):ACall Tryd.prog w0 64 [v] h (fun r h'=>r=Yd v/\h'=h):=by
 have hlen:=hv.len Tryd.underlying45;have h3:=hv.slice3 Tryd.underlying45 qbn .i64 .i64 none rfl;refine Xf (n:=9) (rs:=[.tmp 2]) Tryd.func64 rfl rfl rfl rfl (Vy rfl) ?_;simp only[Xe];refine awp_rseq [0] (by rfl) fun K hK=>?_;simp+decide only[qh,qi,qj,qo,ev,qZ,qY,putD,Vz,VA,VB,Ka,VC,VD,Kb,and_true,↓qV,qP,hlen,h3];repeat (with_reducible refine And.intro ?_ ?_;· first|trivial|omega|(intro hg;simp only[Ky,JH,Jh,VH,VI,VJ,decide_eq_true_eq,decide_eq_false_iff_not,qR]at hg;omega))
 apply hK;clear hK K;refine awp_rseq [2] (by rfl) fun K hK=>?_;simp+decide only[qh,qi,qj,qo,ev,qZ,qY,putD,Vz,VA,VB,Ka,VC,VD,Kb,and_true,↓qW,qU,↓XG,Xh,QE Tryd.underlying45,QT Tryd.underlying45,↓qdl,qbT,evO,qbV Tryd.underlying45 qbn,qbU Tryd.underlying45 qbn,qbb Tryd.underlying45 qbn,qba Tryd.underlying45 qbn,qam Tryd.underlying45 qbn none none rfl rfl,qdA,qcA,qac,qbZ,qaf,↓qV,qP,hlen,h3];repeat (with_reducible refine And.intro ?_ ?_;· first|trivial|omega|(intro hg;simp only[Ky,JH,Jh,VH,VI,VJ,decide_eq_true_eq,decide_eq_false_iff_not,qR]at hg;omega))
 apply hK;clear hK K;refine Xd ?_;try simp only[QF,Qn]
 refine XV _ (Vg _) (Qr (Qv)) ?_;simp+decide only[qh,qi,qj,qo,ev,qZ,qY,putD,Vz,VA,VB,Ka,VC,VD,Kb,and_true,QU,hlen,h3];all_goals first|rfl|exact⟨rfl,rfl⟩|(simp+decide only[Ka, *];done)|(trace_state;fail)
theorem qsK(w0:World)(h:AHeap)(v:AVal)(xs:List (List AVal))(hv:IsL w0 h 3 v xs):ACall Tryd.prog w0 65 [v] h (fun r h'=>r=Yd v/\h'=h):=by
 have hlen:=hv.len Tryd.underlying46;have h3:=hv.slice3 Tryd.underlying46 UW .i64 .i64 none rfl;refine Xf (n:=9) (rs:=[.tmp 2]) Tryd.func65 rfl rfl rfl rfl (Vy rfl) ?_;simp only[Xe];refine awp_rseq [0] (by rfl) fun K hK=>?_;simp+decide only[qh,qi,qj,qo,ev,qZ,qY,putD,Vz,VA,VB,Ka,VC,VD,Kb,and_true,↓qV,qP,hlen,h3];repeat (with_reducible refine And.intro ?_ ?_;· first|trivial|omega|(intro hg;simp only[Ky,JH,Jh,VH,VI,VJ,decide_eq_true_eq,decide_eq_false_iff_not,qR]at hg;omega))
 apply hK;clear hK K;refine awp_rseq [2] (by rfl) fun K hK=>?_;simp+decide only[qh,qi,qj,qo,ev,qZ,qY,putD,Vz,VA,VB,Ka,VC,VD,Kb,and_true,↓qW,qU,↓XG,Xh,QE Tryd.underlying46,QT Tryd.underlying46,↓qdl,qbT,evO,qbV Tryd.underlying46 UW,qbU Tryd.underlying46 UW,qbb Tryd.underlying46 UW,qba Tryd.underlying46 UW,qam Tryd.underlying46 UW none none rfl rfl,qdA,qcA,qac,qbZ,qaf,↓qV,qP,hlen,h3];repeat (with_reducible refine And.intro ?_ ?_;· first|trivial|omega|(intro hg;simp only[Ky,JH,Jh,VH,VI,VJ,decide_eq_true_eq,decide_eq_false_iff_not,qR]at hg;omega))
 apply hK;clear hK K;refine Xd ?_;try simp only[QF,Qn]
 refine XV _ (Vg _) (Qr (Qv)) ?_;simp+decide only[qh,qi,qj,qo,ev,qZ,qY,putD,Vz,VA,VB,Ka,VC,VD,Kb,and_true,QU,hlen,h3];all_goals first|rfl|exact⟨rfl,rfl⟩|(simp+decide only[Ka, *];done)|(trace_state;fail)
theorem qcv{w0:World}{h:AHeap}{k:Nat}{l:List Str}(hk:h k=some ⟨l.map AVal.str,0⟩):IsStrs w0 h (.slice (.own k) 0 l.length (.exact l.length)) l:=by
 have:=IsL.own (w0:=w0) (es:=1) (xs:=l.map fun s=>[AVal.str s]) hk (fun x hx=>by obtain⟨y,_,rfl⟩:=JI.1 hx;rfl) (qeL l).symm (by
  rw[qeL];clear hk;induction l with
  |nil=>rfl
  |cons x l ih=>simp only[Ke,allLive,ih,J4];rfl) (.exact l.length) (by rw[Jn];exact KL _)
 rwa [Jn]at this
theorem qfi{w0:World}{h:AHeap}{k:Nat}{l:List Str}(hk:h k=some ⟨l.map AVal.str,0⟩){i:Nat}(hi:i<l.length):rd w0 h (.own k) i= .str (l.getD i []):=by
 rw[qO w0 hk,Ko,Vv,JB hi];simp[Ko,hi]
theorem qav{w0:World}{h:AHeap}{v:AVal}{l:List Str}(ht:IsStrs w0 h v l):∀H:AHeap,YZ Tryd.prog H 22 v=⟨True, .int .i64 l.length⟩:=by
 intro H;have:=ht.len Tryd.underlying22 H
 rwa [Jn]at this
theorem qaL(b:Bool):XB (.tuple []) b=false:=rfl
structure FtG where
 i:Nat
 at_:Nat
theorem qpM{l:List TokC}{ws:List Str}{i a:Nat}(hi:i<ws.length):WO l (ws.drop i) a=if qji l a (Lib.trimS (ws.getD i []) qls)=true then WO l (ws.drop (i+1)) (a+1)else if Lib.trimS (ws.getD i []) qls=ws.getD i []then none else WO l (ws.drop (i+1)) a:=by
 rw[J9 hi,WO];simp[Ko,hi]
theorem qbK{s:Str}:∀w∈Lib.fields s,w.length<=s.length:=by
 have go:∀(s cur:Str),∀w∈Lib.fieldsGo cur s,w.length<=cur.length+s.length:=by
  intro s;induction s with
  |nil=>
   intro cur w hw;unfold Lib.fieldsGo at hw;split at hw
   ·cases hw
   ·rw[List.mem_singleton.1 hw];simp
  |cons b s ih=>
   intro cur w hw;unfold Lib.fieldsGo at hw;split at hw
   ·split at hw
    ·have:=ih [] w hw
     simp only[JD,KX]at this|-;omega
    ·rcases KW.1 hw with q|q
     ·rw[q];simp
     ·have:=ih [] w q
      simp only[JD,KX]at this|-;omega
   ·have:=ih _ w hw
    simp only[Jb,KX,JD]at this|-;omega
 intro w hw;have:=go s [] w hw;simpa using this
theorem qbd(s:Str):(Lib.fields s).length<=s.length+1:=by
 rw[Lib.fields_length];have:∀(b:Bool) (s:Str),Lib.cntF b s<=s.length:=by
  intro b s;induction s generalizing b with
  |nil=>exact KL _
  |cons x s ih=>
   unfold Lib.cntF;have:=ih (Lib.isSp x);rw[KX];split<;>omega
 have:=this true s;omega
set_option maxHeartbeats 1000000 in
theorem c_fits(w0:World)(ha:Asp w0)(h:AHeap)(bq oq bp op:Nat)(v:AVal)(l:List TokC)(at_:Nat)(form:Str)(hq:∀h,rd w0 h (.base bq) oq= .ptr (.base bp) op)(h0:∀h,rd w0 h (.base bp) op=v)
 (h1:∀h,rd w0 h (.base bp) (op+1)= .int .i64 at_) (hv:∀h,IsL w0 h 5 v (l.map Zh)) (hl:l.length<=1000000) (hat:at_<=l.length) (hf:form.length<=1000000) (hfa:asciiB form=true):
 ACall Tryd.prog w0 79 [.str form, .ptr (.base bq) oq] h (fun r h'=>r= .int .i64 (qaW l at_ form)/\h'=h):=by
 have hlv:=(hv h).live;have nv:=Yl (hv h);have hfs:=qbd form;obtain⟨ws,hws⟩:∃ws,ws=Lib.fields form:=⟨_,rfl⟩
 have hsm:∀w∈ws,w.length<=1000000:=fun w hw=>by
  rw[hws]at hw;exact Vb (qbK w hw) hf
 have hR:qaW l at_ form=match WO l ws at_ with|some j=>j-at_|none=>0:=by rw[hws];rfl
 rw[<-hws]at hfs;have hk1:∀t:TokC,decide ((t.kind.toNat:Int)=1)=decide (t.kind=1):=fun t=>Wj t.kind 1;have hk5:∀t:TokC,decide ((t.kind.toNat:Int)=5)=decide (t.kind=5):=fun t=>Wj t.kind 5;refine Xf (n:=82) (rs:=[.tmp 3]) Tryd.func79 rfl rfl rfl rfl (Vy rfl) ?_;simp only[Xe];refine awp_rseq [0,1] (by rfl) fun K hK=>?_;simp+decide only[qh,qi,qj,qo,ev,qZ,qY,putD,Vz,VA,VB,Ka,VC,VD,Kb,and_true,↓qV,qP,qM,ne_eq,not_false_eq_true,qN,qJ,VE,setAt,VF,Kj,qC,VG,Kn,Jp,Nat.reduceAdd,qF,qG,qI,qf,qK,qa,qz,qd,qE,qc,qA,qg,qH,qy,allLive,J4,tokV,hlv,nv,hq,h0,h1,K6];repeat (with_reducible refine And.intro ?_ ?_;· first|trivial|omega|(intro hg;simp only[Ky,JH,Jh,VH,VI,VJ,decide_eq_true_eq,decide_eq_false_iff_not,qR]at hg;omega))
 apply hK;clear hK K;refine awp_rseq [0,1,4] (by rfl) fun K hK=>?_;simp+decide only[qh,qi,qj,qo,ev,qZ,qY,putD,Vz,VA,VB,Ka,VC,VD,Kb,and_true,↓Qu,QM,Qi ag58,↓XE,Xg,XP,XF,↓Qo,Qd,Wl,Qi ag3,↓qV,qP,qM,ne_eq,not_false_eq_true,qN,qJ,VE,setAt,VF,Kj,qC,VG,Kn,Jp,Nat.reduceAdd,qF,qG,qI,qf,qK,qa,qz,qd,qE,qc,qA,qg,qH,qy,allLive,J4,tokV,hlv,nv,hq,h0,h1,K6];repeat (with_reducible refine And.intro ?_ ?_;· first|trivial|omega|(intro hg;simp only[Ky,JH,Jh,VH,VI,VJ,decide_eq_true_eq,decide_eq_false_iff_not,qR]at hg;omega))
 apply hK;clear hK K;refine Qp ?_;refine awp_rseq [1,4,14,15,16] (by rfl) fun K hK=>?_;simp+decide only[qh,qi,qj,qo,ev,qZ,qY,putD,Vz,VA,VB,Ka,VC,VD,Kb,and_true,↓qW,qU,qM,ne_eq,not_false_eq_true,qN,qJ,VE,setAt,VF,Kj,qC,VG,Kn,Jp,Nat.reduceAdd,qF,qG,qI,qf,qK,qa,qz,qd,qE,qc,qA,qg,qH,qy,allLive,J4,tokV,hlv,nv,hq,h0,h1,K6];repeat (with_reducible refine And.intro ?_ ?_;· first|trivial|omega|(intro hg;simp only[Ky,JH,Jh,VH,VI,VJ,decide_eq_true_eq,decide_eq_false_iff_not,qR]at hg;omega))
 refine QN (by rfl) (by rfl) (qdk w0 ha _ form (by omega) hfa) fun x2q1 h2q1 hx2q1=>?_;obtain⟨kw,hkw,rfl,rfl⟩:=hx2q1;rw[<-hws];have lw:=qav (qcv (w0:=w0) (Vf h kw ⟨ws.map AVal.str,0⟩));simp+decide only[qh,qi,qj,qo,ev,qZ,qY,putD,Vz,VA,VB,Ka,VC,VD,Kb,and_true,↓XG,Xh,QE Tryd.underlying22,QT Tryd.underlying22,↓qW,qU,qM,ne_eq,not_false_eq_true,qN,qJ,VE,setAt,VF,Kj,qC,VG,Kn,Jp,Nat.reduceAdd,qF,qG,qI,qf,qK,qa,qz,qd,qE,qc,qA,qg,qH,qy,allLive,J4,tokV,hlv,nv,hq,h0,h1,K6,lw];repeat (with_reducible refine And.intro ?_ ?_;· first|trivial|omega|(intro hg;simp only[Ky,JH,Jh,VH,VI,VJ,decide_eq_true_eq,decide_eq_false_iff_not,qR]at hg;omega))
 apply hK;clear hK K;refine QL ?_;refine XI [1,4,14,15,16] (fun g:FtG=>[(1, .ptr (.base bq) oq),(4, .int .i64 g.at_),(14, .slice (.own kw) 0 ws.length (.exact ws.length)),(15, .int .i64 ws.length),(16, .int .i64 g.i)]) (fun g:FtG=>h.set kw ⟨ws.map AVal.str,0⟩) (fun g:FtG=>g.i<=ws.length/\g.at_<=l.length/\at_<=g.at_/\WO l ws at_=WO l (ws.drop g.i) g.at_) (fun g:FtG=>ws.length-g.i) ⟨0,at_⟩ (by rfl) (Vg _) ⟨Jq _,hat,KL _,by rw[Vk]⟩ ?_;rintro⟨i,a⟩ ⟨g1,g2,g3,g4⟩;simp only at g1 g2 g3 g4|-
 refine awp_rseq [1,4,14,15,16,17] (by rfl) fun K hK=>?_;simp+decide only[qh,qi,qj,qo,ev,qZ,qY,putD,Vz,VA,VB,Ka,VC,VD,Kb,and_true,↓Qj,Qa,Qz,cond_false,Qh,Zo,qM,ne_eq,not_false_eq_true,qN,qJ,VE,setAt,VF,Kj,qC,VG,Kn,Jp,Nat.reduceAdd,qF,qG,qI,qf,qK,qa,qz,qd,qE,qc,qA,qg,qH,qy,allLive,J4,tokV,hlv,nv,hq,h0,h1,K6];repeat (with_reducible refine And.intro ?_ ?_;· first|trivial|omega|(intro hg;simp only[Ky,JH,Jh,VH,VI,VJ,decide_eq_true_eq,decide_eq_false_iff_not,qR]at hg;omega))
 apply hK;clear hK K;refine Qp (Qw (b:=_) rfl (fun hb1=>?_) (fun hb1=>?_))
 ·try simp only[decide_eq_true_eq,decide_eq_false_iff_not,Jh,VJ,Ky,VH,JH,VI,VV,VW,reduceCtorEq]at hb1
  have hi:i<ws.length:=by omega
  have ew:=qfi (w0:=w0) (Vf h kw ⟨ws.map AVal.str,0⟩) hi;obtain⟨w,hw⟩:∃w,w=ws.getD i []:=⟨_,rfl⟩
  have hwl:w.length<=1000000:=hsm w (by rw[hw,Ko,JB hi];exact Vr hi);have hst:=qpM (l:=l) (a:=a) hi;rw[<-hw]at ew hst;obtain⟨u,hu⟩:∃u,u=Lib.trimS w qls:=⟨_,rfl⟩
  rw[<-hu]at hst;refine QJ ?_;change Awp _ _ _ _ _ _ _;refine Qp ?_;refine QL ?_;refine awp_rseq [1,4,6,14,15,16] (by rfl) fun K hK=>?_;simp+decide only[qh,qi,qj,qo,ev,qZ,qY,putD,Vz,VA,VB,Ka,VC,VD,Kb,and_true,↓QV,QM,Ql Tryd.underlying22 sz9,↓Qu,Qi ag9,↓qV,qP,qM,ne_eq,not_false_eq_true,qN,qJ,VE,setAt,VF,Kj,qC,VG,Kn,Jp,Nat.reduceAdd,qF,qG,qI,qf,qK,qa,qz,qd,qE,qc,qA,qg,qH,qy,allLive,J4,tokV,hlv,nv,hq,h0,h1,K6,ew,VX,Nat.mul_one,Jp];repeat (with_reducible refine And.intro ?_ ?_;· first|trivial|omega|(intro hg;simp only[Ky,JH,Jh,VH,VI,VJ,decide_eq_true_eq,decide_eq_false_iff_not,qR]at hg;omega))
  apply hK;clear hK K;refine awp_rseq [1,4,6,7,14,15,16] (by rfl) fun K hK=>?_;simp+decide only[qh,qi,qj,qo,ev,qZ,qY,putD,Vz,VA,VB,Ka,VC,VD,Kb,and_true,↓qW,qU,qM,ne_eq,not_false_eq_true,qN,qJ,VE,setAt,VF,Kj,qC,VG,Kn,Jp,Nat.reduceAdd,qF,qG,qI,qf,qK,qa,qz,qd,qE,qc,qA,qg,qH,qy,allLive,J4,tokV,hlv,nv,hq,h0,h1,K6];repeat (with_reducible refine And.intro ?_ ?_;· first|trivial|omega|(intro hg;simp only[Ky,JH,Jh,VH,VI,VJ,decide_eq_true_eq,decide_eq_false_iff_not,qR]at hg;omega))
  refine XD (V:= .str u) (by rfl) (by rfl) (by rw[hu];exact qsw w0 _ w qls (by omega) (by decide) (by decide) (by decide)) ?_;simp+decide only[qh,qi,qj,qo,ev,qZ,qY,putD,Vz,VA,VB,Ka,VC,VD,Kb,and_true,↓qV,qP,qM,ne_eq,not_false_eq_true,qN,qJ,VE,setAt,VF,Kj,qC,VG,Kn,Jp,Nat.reduceAdd,qF,qG,qI,qf,qK,qa,qz,qd,qE,qc,qA,qg,qH,qy,allLive,J4,tokV,hlv,nv,hq,h0,h1,K6];repeat (with_reducible refine And.intro ?_ ?_;· first|trivial|omega|(intro hg;simp only[Ky,JH,Jh,VH,VI,VJ,decide_eq_true_eq,decide_eq_false_iff_not,qR]at hg;omega))
  apply hK;clear hK K;have mcase:(∃lc o c,v= .slice lc o l.length c/\a<l.length/\decide ((a:Int)<(l.length:Int))=true/\rd w0 (h.set kw ⟨ws.map AVal.str,0⟩) lc (o+a*5)= .int .u8 (l.getD a noT).kind.toNat/\rd w0 (h.set kw ⟨ws.map AVal.str,0⟩) lc (o+a*5+1)= .str (l.getD a noT).text)\/
   (∃(lc:AM.Loc) (o:Nat) (c:Cap),v=v/\¬a<l.length/\decide ((a:Int)<(l.length:Int))=false/\True/\True):=by
   by_cases hlt:a<l.length
   ·obtain⟨lc,o,c,hwe⟩:=YA (hv h) (by omega)
    have hv2:=hv (h.set kw ⟨ws.map AVal.str,0⟩);rw[hwe]at hv2;obtain⟨e0,e1,-⟩:=Uy hv2 hlt;exact .inl ⟨lc,o,c,hwe,hlt,by simpa using hlt,e0,e1⟩
   ·exact .inr ⟨.base 0,0, .exact 0,rfl,hlt,by simpa using hlt,trivial,trivial⟩
  refine awp_rseq [1,4,6,7,8,14,15,16] (by kernel_rfl) fun K hK=>?_;suffices hM:∀b:Bool,b=qji l a u->K [(1, .ptr (.base bq) oq),(4, .int .i64 a),(6, .str w),(7, .str u),(8, .bool b),(14, .slice (.own kw) 0 ws.length (.exact ws.length)),(15, .int .i64 ws.length),(16, .int .i64 i)] (h.set kw ⟨ws.map AVal.str,0⟩) by
   rcases mcase with⟨lc,o,c,hwe,hkl,hkd,e0,e1⟩|⟨lc,o,c,hwe,hkl,hkd,e0,e1⟩<;>(
    try simp only[List.append_eq,Kh,Jd]
    simp+decide only[qh,qi,qj,qo,ev,qZ,qY,putD,Vz,VA,VB,Ka,VC,VD,Kb,and_true,↓qW,qU,↓Qu,QM,Qi ag58,↓XE,Xg,XP,XF,↓Qo,Qd,qco,Qi qbR,↓XG,Xh,QE Tryd.underlying31,QT Tryd.underlying31,↓Qj,Qa,Qz,cond_false,Qh,Zo,↓ZG,Zt,Wn,ZP,ZO,ZN,ZM,ZL,ZK,agP,Xw,gv,QB,QD,QC,Qs,Qg,Qe,Zk,implies_true,VK,decide_true,decide_false,VL,VM,Qc,Qb,forall_const,false_implies,Qk,Qf,J4,VN,VO,VP,VQ,VS,VT,VU,ZI,ZJ,Xb,Xc,Xa,↓qes,qgS,qgT,↓XW,XN,XO,↓Zj,↓Ye,Uv,Uu,Ut,Us,Ur,Uo,Uj,Ui,Un,Um,Ul,Uk,Ql Tryd.underlying31 Yv,YL,YK,YN,YM,qbe,Qi ag9,↓XT,Zb,Za,Zd,Zc,XC,Wv,↓XH,Xj,QO,QH,QG,QA,Xo,Xn,Xm,Xl,QZ,Xk,Ud,Qi qha,Qm,ZE,XK,↓qgl,qgc,qgd,↓qV,qP,qM,ne_eq,not_false_eq_true,qN,qJ,VE,setAt,VF,Kj,qC,VG,Kn,Jp,Nat.reduceAdd,qF,qG,qI,qf,qK,qa,qz,qd,qE,qc,qA,qg,qH,qy,allLive,J4,tokV,hlv,nv,hq,h0,h1,K6,hwe,hkd,e0,e1,hk1,hk5,VX,qaL,Qb,Qc,VP,VO];repeat (with_reducible refine And.intro ?_ ?_;· first|trivial|omega|(intro hg;simp only[Ky,JH,Jh,VH,VI,VJ,decide_eq_true_eq,decide_eq_false_iff_not,qR]at hg;omega))
    try rw[hwe]at hM
    refine hM _ ?_;unfold qji;first|rw[if_pos hkl,Bool.and_comm (decide (u=[61]))]|rw[if_neg hkl])
  intro b hb_6;apply hK;clear hK K;refine QL ?_;refine awp_rseq [1,4,6,7,14,15,16,67] (by rfl) fun K hK=>?_;simp+decide only[qh,qi,qj,qo,ev,qZ,qY,putD,Vz,VA,VB,Ka,VC,VD,Kb,and_true,↓qW,qU,↓qV,qP,qM,ne_eq,not_false_eq_true,qN,qJ,VE,setAt,VF,Kj,qC,VG,Kn,Jp,Nat.reduceAdd,qF,qG,qI,qf,qK,qa,qz,qd,qE,qc,qA,qg,qH,qy,allLive,J4,tokV,hlv,nv,hq,h0,h1,K6];repeat (with_reducible refine And.intro ?_ ?_;· first|trivial|omega|(intro hg;simp only[Ky,JH,Jh,VH,VI,VJ,decide_eq_true_eq,decide_eq_false_iff_not,qR]at hg;omega))
  apply hK;clear hK K;refine Qw (b:=_) rfl (fun hb2=>?_) (fun hb2=>?_)
  ·try simp only[decide_eq_true_eq,decide_eq_false_iff_not,Jh,VJ,Ky,VH,JH,VI,VV,VW,reduceCtorEq]at hb2
   rw[hb2]at hb_6;rw[if_pos hb_6.symm]at hst;have hal:a<l.length:=by
    by_cases hlt:a<l.length
    ·exact hlt
    ·unfold qji at hb_6
     rw[if_neg hlt]at hb_6;cases hb_6
   have hwa:IntKind.i64.wrap ((a:Int)+1)=((a+1:Nat):Int):=by rw[wrap_i64 (by omega) (by omega)];omega
   have hwi:IntKind.i64.wrap ((i:Int)+1)=((i+1:Nat):Int):=by rw[wrap_i64 (by omega) (by omega)];omega
   refine XZ [1,4,14,15,16] (by rfl) ?_;simp+decide only[qh,qi,qj,qo,ev,qZ,qY,putD,Vz,VA,VB,Ka,VC,VD,Kb,and_true,↓qW,qU,↓Qj,Qa,Qm,cond_false,Qh,XM,↓qV,qP,qM,ne_eq,not_false_eq_true,qN,qJ,VE,setAt,VF,Kj,qC,VG,Kn,Jp,Nat.reduceAdd,qF,qG,qI,qf,qK,qa,qz,qd,qE,qc,qA,qg,qH,qy,allLive,J4,tokV,hlv,nv,hq,h0,h1,K6,hwa];try simp(disch:=omega)only[wrap_i64,wrap_u8]
   repeat (with_reducible refine And.intro ?_ ?_;· first|trivial|omega|(intro hg;simp only[Ky,JH,Jh,VH,VI,VJ,decide_eq_true_eq,decide_eq_false_iff_not,qR]at hg;omega))
   change Awp _ _ _ _ _ _ _;refine XZ [1,4,14,15,16] (by rfl) ?_;simp+decide only[qh,qi,qj,qo,ev,qZ,qY,putD,Vz,VA,VB,Ka,VC,VD,Kb,and_true,↓Qj,Qa,Qm,cond_false,Qh,XM,↓qW,qU,qM,ne_eq,not_false_eq_true,qN,qJ,VE,setAt,VF,Kj,qC,VG,Kn,Jp,Nat.reduceAdd,qF,qG,qI,qf,qK,qa,qz,qd,qE,qc,qA,qg,qH,qy,allLive,J4,tokV,hlv,nv,hq,h0,h1,K6,hwi];try simp(disch:=omega)only[wrap_i64,wrap_u8]
   repeat (with_reducible refine And.intro ?_ ?_;· first|trivial|omega|(intro hg;simp only[Ky,JH,Jh,VH,VI,VJ,decide_eq_true_eq,decide_eq_false_iff_not,qR]at hg;omega))
   try simp only[QK,Qt]
   first
   |exact⟨⟨i+1,a+1⟩,rfl,Vg _,⟨hi,hal,by(simp only;omega),by(simp only;rw[g4,hst])⟩,by(simp only;omega)⟩
   |exact⟨⟨i+1,a⟩,rfl,Vg _,⟨hi,g2,g3,by(simp only;rw[g4,hst])⟩,by(simp only;omega)⟩
  ·try simp only[decide_eq_true_eq,decide_eq_false_iff_not,Jh,VJ,Ky,VH,JH,VI,VV,VW,reduceCtorEq]at hb2
   rw[hb2]at hb_6;rw[if_neg (by rw[<-hb_6];decide)]at hst;have hwi:IntKind.i64.wrap ((i:Int)+1)=((i+1:Nat):Int):=by rw[wrap_i64 (by omega) (by omega)];omega
   refine awp_rseq [1,4,14,15,16,71] (by rfl) fun K hK=>?_;simp+decide only[qh,qi,qj,qo,ev,qZ,qY,putD,Vz,VA,VB,Ka,VC,VD,Kb,and_true,↓qW,qU,↓Qj,Qa,Qz,cond_false,XC,Wv,↓qV,qP,qM,ne_eq,not_false_eq_true,qN,qJ,VE,setAt,VF,Kj,qC,VG,Kn,Jp,Nat.reduceAdd,qF,qG,qI,qf,qK,qa,qz,qd,qE,qc,qA,qg,qH,qy,allLive,J4,tokV,hlv,nv,hq,h0,h1,K6];repeat (with_reducible refine And.intro ?_ ?_;· first|trivial|omega|(intro hg;simp only[Ky,JH,Jh,VH,VI,VJ,decide_eq_true_eq,decide_eq_false_iff_not,qR]at hg;omega))
   apply hK;clear hK K;refine Qw (b:=_) rfl (fun hb3=>?_) (fun hb3=>?_)
   ·try simp only[decide_eq_true_eq,decide_eq_false_iff_not,Jh,VJ,Ky,VH,JH,VI,VV,VW,reduceCtorEq]at hb3
    rw[if_pos hb3]at hst;refine awp_rseq [3] (by rfl) fun K hK=>?_;simp+decide only[qh,qi,qj,qo,ev,qZ,qY,putD,Vz,VA,VB,Ka,VC,VD,Kb,and_true,↓qV,qP,qM,ne_eq,not_false_eq_true,qN,qJ,VE,setAt,VF,Kj,qC,VG,Kn,Jp,Nat.reduceAdd,qF,qG,qI,qf,qK,qa,qz,qd,qE,qc,qA,qg,qH,qy,allLive,J4,tokV,hlv,nv,hq,h0,h1,K6];repeat (with_reducible refine And.intro ?_ ?_;· first|trivial|omega|(intro hg;simp only[Ky,JH,Jh,VH,VI,VJ,decide_eq_true_eq,decide_eq_false_iff_not,qR]at hg;omega))
    apply hK;clear hK K;refine Xd ?_;try simp only[QF,Qn]
    refine XV h zqC (Qr (Qv)) ?_;simp+decide only[qh,qi,qj,qo,ev,qZ,qY,putD,Vz,VA,VB,Ka,VC,VD,Kb,and_true,QU,qM,ne_eq,not_false_eq_true,qN,qJ,VE,setAt,VF,Kj,qC,VG,Kn,Jp,Nat.reduceAdd,qF,qG,qI,qf,qK,qa,qz,qd,qE,qc,qA,qg,qH,qy,allLive,J4,tokV,hlv,nv,hq,h0,h1,K6];rw[hR,g4,hst];rfl
   ·try simp only[decide_eq_true_eq,decide_eq_false_iff_not,Jh,VJ,Ky,VH,JH,VI,VV,VW,reduceCtorEq]at hb3
    rw[if_neg hb3]at hst;refine QJ ?_;change Awp _ _ _ _ _ _ _;refine XZ [1,4,14,15,16] (by rfl) ?_;simp+decide only[qh,qi,qj,qo,ev,qZ,qY,putD,Vz,VA,VB,Ka,VC,VD,Kb,and_true,↓Qj,Qa,Qm,cond_false,Qh,XM,↓qW,qU,qM,ne_eq,not_false_eq_true,qN,qJ,VE,setAt,VF,Kj,qC,VG,Kn,Jp,Nat.reduceAdd,qF,qG,qI,qf,qK,qa,qz,qd,qE,qc,qA,qg,qH,qy,allLive,J4,tokV,hlv,nv,hq,h0,h1,K6,hwi];try simp(disch:=omega)only[wrap_i64,wrap_u8]
    repeat (with_reducible refine And.intro ?_ ?_;· first|trivial|omega|(intro hg;simp only[Ky,JH,Jh,VH,VI,VJ,decide_eq_true_eq,decide_eq_false_iff_not,qR]at hg;omega))
    try simp only[QK,Qt]
    first
    |exact⟨⟨i+1,a+1⟩,rfl,Vg _,⟨hi,hal,by(simp only;omega),by(simp only;rw[g4,hst])⟩,by(simp only;omega)⟩
    |exact⟨⟨i+1,a⟩,rfl,Vg _,⟨hi,g2,g3,by(simp only;rw[g4,hst])⟩,by(simp only;omega)⟩
 ·try simp only[decide_eq_true_eq,decide_eq_false_iff_not,Jh,VJ,Ky,VH,JH,VI,VV,VW,reduceCtorEq]at hb1
  have hi:i=ws.length:=by omega
  have hws:IntKind.i64.wrap ((a:Int)-at_)=((a-at_:Nat):Int):=by rw[wrap_i64 (by omega) (by omega)];omega
  refine XJ ?_;change Awp _ _ _ _ _ _ _;refine awp_rseq [3] (by rfl) fun K hK=>?_;simp+decide only[qh,qi,qj,qo,ev,qZ,qY,putD,Vz,VA,VB,Ka,VC,VD,Kb,and_true,↓qW,qU,↓Qu,QM,Qi ag58,↓XE,Xg,XP,XF,↓Qo,Qd,Wl,Qi ag3,↓Qj,Qa,Qz,cond_false,Qh,qbB,↓qV,qP,qM,ne_eq,not_false_eq_true,qN,qJ,VE,setAt,VF,Kj,qC,VG,Kn,Jp,Nat.reduceAdd,qF,qG,qI,qf,qK,qa,qz,qd,qE,qc,qA,qg,qH,qy,allLive,J4,tokV,hlv,nv,hq,h0,h1,K6,hws];try simp(disch:=omega)only[wrap_i64,wrap_u8]
  repeat (with_reducible refine And.intro ?_ ?_;· first|trivial|omega|(intro hg;simp only[Ky,JH,Jh,VH,VI,VJ,decide_eq_true_eq,decide_eq_false_iff_not,qR]at hg;omega))
  apply hK;clear hK K;refine Xd ?_;try simp only[QF,Qn]
  refine XV h zqC (Qr (Qv)) ?_;simp+decide only[qh,qi,qj,qo,ev,qZ,qY,putD,Vz,VA,VB,Ka,VC,VD,Kb,and_true,QU,qM,ne_eq,not_false_eq_true,qN,qJ,VE,setAt,VF,Kj,qC,VG,Kn,Jp,Nat.reduceAdd,qF,qG,qI,qf,qK,qa,qz,qd,qE,qc,qA,qg,qH,qy,allLive,J4,tokV,hlv,nv,hq,h0,h1,K6];rw[hR,g4,hi,J8,WO]
end Go.Proofs.YtgiadjbiimkbiaaDoor
